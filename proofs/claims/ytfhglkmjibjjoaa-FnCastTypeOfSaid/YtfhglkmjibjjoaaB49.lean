/- impl.wanted at conditions. -/
import Derived.Test.YtfhglkmjibjjoaaB46
set_option linter.unusedSimpArgs false
set_option linter.unusedVariables false
set_option maxRecDepth 100000
set_option maxHeartbeats 16000000
namespace Go.Proofs.Ytfhglkmjibjjoaa
open Go.RowKit
theorem jW {ty:Ty}{c g h:S}:aY 9 ty [c,g,h]=if (c.cons .bool&&g.cons h)=true then some ([.bool,g.meet h,g.meet h],g.meet h) else none:=rfl
theorem jA (G:Nat->Prop)(c y:Value)(hcs : ∃a n q,c = .slice a n q)(nm:ByteArray)(u lb tk fk:Int)(ty:Ty)(ta fa ca:Option Addr)(tn tq fn fq cm cq:Nat)(w:World)(h1 h2 h3:S)(d1:h1.cons .bool=false)(hy:av G w [h1.ty,h2.ty,h3.ty] y) :
  Calls Try.prog 28 #[c,.agg (nv 9 nm u tk ta tn tq fk fa fn fq lb ca cm cq),y] w (cS G (aY 9 ty [h1,h2,h3]) w):=by
 obtain⟨b,off,cap,k1,c1,m1,q1,k2,c2,m2,q2,k3,c3,m3,q3,rfl,hlb,e1a,e1b,e2a,e2b,e3a,e3b,ht1,ht2,ht3⟩:=hy.three;obtain⟨xa0,xn0,xq0,rfl⟩:=hcs;have HOO:=zq (show aY 9 ty [h1,h2,h3]=none by rw[jW,d1];simp);have H1:=zq (ht1.move (.weaken (G:=(fun x=>G x∧x<w.heap.size)) fun b h hl=>⟨h,hl⟩));have H2:=zq (ht2.move (.weaken (G:=(fun x=>G x∧x<w.heap.size)) fun b h hl=>⟨h,hl⟩));have H3:=zq (ht3.move (.weaken (G:=(fun x=>G x∧x<w.heap.size)) fun b h hl=>⟨h,hl⟩));generalize aY 9 ty [h1,h2,h3]=O at HOO ⊢;have HD1:=zq d1;clear hy ht1 ht2 ht3 d1
 go_enter Try.func28,Try.ntmps28
 go_wp2_with fail
 refine(aW _ _).mono ?_;rintro e w1 ⟨rfl,hb1⟩;have HB1:=zq (al (al ag ag) hb1);have fR0:=a9 (aA (w:=w.alloc (.cells (nv 9 nm u tk ta tn tq fk fa fn fq lb ca cm cq) 28)) (o:=.cells #[.int .i64 0,.slice none 0 0] 25) (b:=w.heap.size+1) (by simp)) hb1;have fE0:=a9 (a9 (aA (w:=w) (o:=.cells (nv 9 nm u tk ta tn tq fk fa fn fq lb ca cm cq) 28) rfl) (ag (o:=.cells #[.int .i64 0,.slice none 0 0] 25))) hb1;clear hb1
 go_wp2_with fail
 refine(aW _ _).mono ?_;rintro e w2 ⟨rfl,hb2⟩;replace fE0:=a9 fE0 hb2;replace HB1:=mh hb2 HB1;replace fR0:=a9 fR0 hb2;have hlr:=aw fR0;clear hb2;have d0:=ah fE0 (o:=0) rfl;have d1:=ah fE0 (o:=1) rfl;have lE:=aw fE0;have lE2:w.heap.size<w2.heap.size+1+1:=by omega
 have lE1:w.heap.size<w2.heap.size+1:=by omega
 go_wp2_with fail
 skip
 generalize hVV:World.alloc (World.alloc w2 _) _=VV;obtain⟨hv,o1,o2,zV⟩:=bO hVV;have hw:=al HB1.out hv;have fR:=a9 fR0 hv;have f3:=o2;have fC:=zq hw;have c1a_:=af hw e1a;have c1b_:=af hw e1b;have h1_:=zq (H1.out.below hw);have c2a_:=af hw e2a;have c2b_:=af hw e2b;have h2_:=zq (H2.out.below hw);have c3a_:=af hw e3a;have c3b_:=af hw e3b;have h3_:=zq (H3.out.below hw);clear hw;clear hv o1 o2;refine wh8 (bc0 f3) (bc1 f3) c1a_ c1b_ c2a_ c2b_ c3a_ c3b_ (fun U13 hb zU13a zU13b hH0=>?_);replace fR:=a9 fR hb;replace f3:=a9 f3 hb;replace fC:=mh hb fC;replace c1a_:=af hb c1a_;replace c1b_:=af hb c1b_;replace h1_:=mh hb h1_;replace c2a_:=af hb c2a_;replace c2b_:=af hb c2b_;replace h2_:=mh hb h2_;replace c3a_:=af hb c3a_;replace c3b_:=af hb c3b_;replace h3_:=mh hb h3_;rw[zV] at zU13a zU13b;clear hb hVV zV;refine hwq hx0 (.slice (some ⟨b,off,none⟩) 3 cap) hH0 ?_;refine hwq hx1 (.pointer (some ⟨b,off,none⟩)) hH0 ?_;refine hwq hx2 (.agg #[.int .i64 k1,.slice c1 m1 q1]) hH0 ?_;refine hwq hx3 (.agg #[.int .i64 3,.slice none 0 0]) hH0 ?_;refine hwe hx4 (fun K hK=>?_)
 go_simp
 go_at_call 21
 refine(aU _ (fun _=>True) _ _ _ _ _ h1_.out (ai.leaf 3)).mono ?_;rintro e X1 ⟨rfl,hb⟩;rw[show(Ty.mk 3 [])=S.bool.ty from rfl,S.ty_cons,HD1.out]
 go_wp2_with fail
 have zX1:=hb.size;replace fR:=a9 fR hb;replace f3:=a9 f3 hb;replace fC:=mh hb fC;replace c1a_:=af hb c1a_;replace c1b_:=af hb c1b_;replace h1_:=mh hb h1_;replace c2a_:=af hb c2a_;replace c2b_:=af hb c2b_;replace h2_:=mh hb h2_;replace c3a_:=af hb c3a_;replace c3b_:=af hb c3b_;replace h3_:=mh hb h3_;refine hko hK (fun hH1=>?_);clear hK K hH0 hb
 try simp only[hwA]
 refine hwq hx5 (.bool true) hH1 ?_;refine hwq hx6 (.bool true) hH1 ?_;refine hwu hx7 hH1 ?_;refine hwu hx8 hH1 ?_;refine hwu hx9 hH1 ?_;refine hwu bd hH1 ?_;refine hwu bl hH1 ?_;refine hwu bz hH1 ?_;refine hwu bA hH1 ?_;refine hwu bB hH1 ?_;refine hwq bF (.bool true) hH1 ?_;refine hwd ?_;clear hH1;obtain⟨r0,r1⟩:=blk2 fR;have rf0:=aj fR 0;have rf1:=aj fR 1
 go_wp2_with fail
 have hY:((X1.setCell ⟨w.heap.size+1,0,none⟩ (.int .i64 0)).setCell ⟨w.heap.size+1,1,none⟩ (.slice none 0 0)).heap[w.heap.size+1]?=some (.cells #[.int .i64 0,.slice none 0 0] 25 (0,0)):=az (az fR rfl) rfl;obtain⟨rc0,rc1⟩:=blk2 hY;refine bq (.tuple #[.slice none 0 0,.agg #[.int .i64 0,.slice none 0 0],.bool false]) (by simp[results,Try.results28,go_sem,rc0,rc1]) ?_
 exact⟨_,_,_,_,_,_,_,_,rfl,by rw[HOO.out];rfl,(by rw[HOO.out];intro ws t h;cases h),(fC.out.setCell (p:=⟨w.heap.size+1,0,none⟩) (by show w.heap.size<=w.heap.size+1;omega) _).setCell (p:=⟨w.heap.size+1,1,none⟩) (by show w.heap.size<=w.heap.size+1;omega) _⟩
theorem jw (G:Nat->Prop)(c y:Value)(hcs : ∃a n q,c = .slice a n q)(nm:ByteArray)(u lb tk fk:Int)(ty:Ty)(ta fa ca:Option Addr)(tn tq fn fq cm cq:Nat)(w:World)(h1 h2 h3:S)(d1:h1.cons .bool=true)(d2:h2.cons h3=false)(hy:av G w [h1.ty,h2.ty,h3.ty] y) :
  Calls Try.prog 28 #[c,.agg (nv 9 nm u tk ta tn tq fk fa fn fq lb ca cm cq),y] w (cS G (aY 9 ty [h1,h2,h3]) w):=by
 obtain⟨b,off,cap,k1,c1,m1,q1,k2,c2,m2,q2,k3,c3,m3,q3,rfl,hlb,e1a,e1b,e2a,e2b,e3a,e3b,ht1,ht2,ht3⟩:=hy.three;obtain⟨xa0,xn0,xq0,rfl⟩:=hcs;have HOO:=zq (show aY 9 ty [h1,h2,h3]=none by rw[jW,d1,d2];simp);have H1:=zq (ht1.move (.weaken (G:=(fun x=>G x∧x<w.heap.size)) fun b h hl=>⟨h,hl⟩));have H2:=zq (ht2.move (.weaken (G:=(fun x=>G x∧x<w.heap.size)) fun b h hl=>⟨h,hl⟩));have H3:=zq (ht3.move (.weaken (G:=(fun x=>G x∧x<w.heap.size)) fun b h hl=>⟨h,hl⟩));generalize aY 9 ty [h1,h2,h3]=O at HOO ⊢;have HD1:=zq d1;have HD2:=zq d2;clear hy ht1 ht2 ht3 d1 d2
 go_enter Try.func28,Try.ntmps28
 go_wp2_with fail
 refine(aW _ _).mono ?_;rintro e w1 ⟨rfl,hb1⟩;have HB1:=zq (al (al ag ag) hb1);have fR0:=a9 (aA (w:=w.alloc (.cells (nv 9 nm u tk ta tn tq fk fa fn fq lb ca cm cq) 28)) (o:=.cells #[.int .i64 0,.slice none 0 0] 25) (b:=w.heap.size+1) (by simp)) hb1;have fE0:=a9 (a9 (aA (w:=w) (o:=.cells (nv 9 nm u tk ta tn tq fk fa fn fq lb ca cm cq) 28) rfl) (ag (o:=.cells #[.int .i64 0,.slice none 0 0] 25))) hb1;clear hb1
 go_wp2_with fail
 refine(aW _ _).mono ?_;rintro e w2 ⟨rfl,hb2⟩;replace fE0:=a9 fE0 hb2;replace HB1:=mh hb2 HB1;replace fR0:=a9 fR0 hb2;have hlr:=aw fR0;clear hb2;have d0:=ah fE0 (o:=0) rfl;have d1:=ah fE0 (o:=1) rfl;have lE:=aw fE0;have lE2:w.heap.size<w2.heap.size+1+1:=by omega
 have lE1:w.heap.size<w2.heap.size+1:=by omega
 go_wp2_with fail
 skip
 generalize hVV:World.alloc (World.alloc w2 _) _=VV;obtain⟨hv,o1,o2,zV⟩:=bO hVV;have hw:=al HB1.out hv;have fR:=a9 fR0 hv;have f3:=o2;have fC:=zq hw;have c1a_:=af hw e1a;have c1b_:=af hw e1b;have h1_:=zq (H1.out.below hw);have c2a_:=af hw e2a;have c2b_:=af hw e2b;have h2_:=zq (H2.out.below hw);have c3a_:=af hw e3a;have c3b_:=af hw e3b;have h3_:=zq (H3.out.below hw);clear hw;clear hv o1 o2;refine wh8 (bc0 f3) (bc1 f3) c1a_ c1b_ c2a_ c2b_ c3a_ c3b_ (fun U14 hb zU14a zU14b hH0=>?_);replace fR:=a9 fR hb;replace f3:=a9 f3 hb;replace fC:=mh hb fC;replace c1a_:=af hb c1a_;replace c1b_:=af hb c1b_;replace h1_:=mh hb h1_;replace c2a_:=af hb c2a_;replace c2b_:=af hb c2b_;replace h2_:=mh hb h2_;replace c3a_:=af hb c3a_;replace c3b_:=af hb c3b_;replace h3_:=mh hb h3_;rw[zV] at zU14a zU14b;clear hb hVV zV;refine hwq hx0 (.slice (some ⟨b,off,none⟩) 3 cap) hH0 ?_;refine hwq hx1 (.pointer (some ⟨b,off,none⟩)) hH0 ?_;refine hwq hx2 (.agg #[.int .i64 k1,.slice c1 m1 q1]) hH0 ?_;refine hwq hx3 (.agg #[.int .i64 3,.slice none 0 0]) hH0 ?_;refine hwe hx4 (fun K hK=>?_)
 go_simp
 go_at_call 21
 refine(aU _ (fun _=>True) _ _ _ _ _ h1_.out (ai.leaf 3)).mono ?_;rintro e X1 ⟨rfl,hb⟩;rw[show(Ty.mk 3 [])=S.bool.ty from rfl,S.ty_cons,HD1.out]
 go_wp2_with fail
 have zX1:=hb.size;replace fR:=a9 fR hb;replace f3:=a9 f3 hb;replace fC:=mh hb fC;replace c1a_:=af hb c1a_;replace c1b_:=af hb c1b_;replace h1_:=mh hb h1_;replace c2a_:=af hb c2a_;replace c2b_:=af hb c2b_;replace h2_:=mh hb h2_;replace c3a_:=af hb c3a_;replace c3b_:=af hb c3b_;replace h3_:=mh hb h3_;refine hko hK (fun hH1=>?_);clear hK K hH0 hb
 try simp only[hwA]
 refine hwq hx5 (.bool false) hH1 ?_;refine hwq hx6 (.bool false) hH1 ?_;refine hwq hx7 (.slice (some ⟨b,off,none⟩) 3 cap) hH1 ?_;refine hwq hx8 (.pointer (some ⟨b,off+2,none⟩)) hH1 ?_;refine hwq hx9 (.agg #[.int .i64 k2,.slice c2 m2 q2]) hH1 ?_;refine hwq bd (.slice (some ⟨b,off,none⟩) 3 cap) hH1 ?_;refine hwq bl (.pointer (some ⟨b,off+4,none⟩)) hH1 ?_;refine hwq bz (.agg #[.int .i64 k3,.slice c3 m3 q3]) hH1 ?_;refine hwe bA (fun K hK=>?_)
 go_simp
 go_at_call 21
 refine(aU _ _ _ _ _ _ _ h2_.out h3_.out).mono ?_;rintro e X2 ⟨rfl,hb⟩;rw[S.ty_cons,HD2.out]
 go_wp2_with fail
 have zX2:=hb.size;replace fR:=a9 fR hb;replace f3:=a9 f3 hb;replace fC:=mh hb fC;replace c1a_:=af hb c1a_;replace c1b_:=af hb c1b_;replace h1_:=mh hb h1_;replace c2a_:=af hb c2a_;replace c2b_:=af hb c2b_;replace h2_:=mh hb h2_;replace c3a_:=af hb c3a_;replace c3b_:=af hb c3b_;replace h3_:=mh hb h3_;refine hko hK (fun hH2=>?_);clear hK K hH1 hb
 try simp only[hwA]
 refine hwq bB (.bool true) hH2 ?_;refine hwq bF (.bool true) hH2 ?_;refine hwd ?_;clear hH2;obtain⟨r0,r1⟩:=blk2 fR;have rf0:=aj fR 0;have rf1:=aj fR 1
 go_wp2_with fail
 have hY:((X2.setCell ⟨w.heap.size+1,0,none⟩ (.int .i64 0)).setCell ⟨w.heap.size+1,1,none⟩ (.slice none 0 0)).heap[w.heap.size+1]?=some (.cells #[.int .i64 0,.slice none 0 0] 25 (0,0)):=az (az fR rfl) rfl;obtain⟨rc0,rc1⟩:=blk2 hY;refine bq (.tuple #[.slice none 0 0,.agg #[.int .i64 0,.slice none 0 0],.bool false]) (by simp[results,Try.results28,go_sem,rc0,rc1]) ?_
 exact⟨_,_,_,_,_,_,_,_,rfl,by rw[HOO.out];rfl,(by rw[HOO.out];intro ws t h;cases h),(fC.out.setCell (p:=⟨w.heap.size+1,0,none⟩) (by show w.heap.size<=w.heap.size+1;omega) _).setCell (p:=⟨w.heap.size+1,1,none⟩) (by show w.heap.size<=w.heap.size+1;omega) _⟩
theorem jB (G:Nat->Prop)(c y:Value)(hcs : ∃a n q,c = .slice a n q)(nm:ByteArray)(u lb tk fk:Int)(ty:Ty)(ta fa ca:Option Addr)(tn tq fn fq cm cq:Nat)(w:World)(h1 h2 h3:S)(d1:h1.cons .bool=true)(d2:h2.cons h3=true)(hv2:h2.vd=true)(hv3:h3.vd=true)(hy:av G w [h1.ty,h2.ty,h3.ty] y) :
    Calls Try.prog 28 #[c,.agg (nv 9 nm u tk ta tn tq fk fa fn fq lb ca cm cq),y] w (cS G (aY 9 ty [h1,h2,h3]) w):=by
  obtain⟨b,off,cap,k1,c1,m1,q1,k2,c2,m2,q2,k3,c3,m3,q3,rfl,hlb,e1a,e1b,e2a,e2b,e3a,e3b,ht1,ht2,ht3⟩:=hy.three;obtain⟨xa0,xn0,xq0,rfl⟩:=hcs;have HOO:=zq (show aY 9 ty [h1,h2,h3]=some ([.bool,h2.meet h3,h2.meet h3],h2.meet h3) by rw[jW,d1,d2];rfl);have HC2:=zq (S.vd_cntM hv2);have HC3:=zq (S.vd_cntM hv3);have H1:=zq (ht1.move (.weaken (G:=(fun x=>G x∧x<w.heap.size)) fun b h hl=>⟨h,hl⟩));have H2:=zq (ht2.move (.weaken (G:=(fun x=>G x∧x<w.heap.size)) fun b h hl=>⟨h,hl⟩));have H3:=zq (ht3.move (.weaken (G:=(fun x=>G x∧x<w.heap.size)) fun b h hl=>⟨h,hl⟩));generalize aY 9 ty [h1,h2,h3]=O at HOO ⊢;have HD1:=zq d1;have HD2:=zq d2;clear hy ht1 ht2 ht3 d1 d2 hv2 hv3
  go_enter Try.func28,Try.ntmps28
  go_wp2_with fail
  refine(aW _ _).mono ?_;rintro e w1 ⟨rfl,hb1⟩;have HB1:=zq (al (al ag ag) hb1);have fR0:=a9 (aA (w:=w.alloc (.cells (nv 9 nm u tk ta tn tq fk fa fn fq lb ca cm cq) 28)) (o:=.cells #[.int .i64 0,.slice none 0 0] 25) (b:=w.heap.size+1) (by simp)) hb1;have fE0:=a9 (a9 (aA (w:=w) (o:=.cells (nv 9 nm u tk ta tn tq fk fa fn fq lb ca cm cq) 28) rfl) (ag (o:=.cells #[.int .i64 0,.slice none 0 0] 25))) hb1;clear hb1
  go_wp2_with fail
  refine(aW _ _).mono ?_;rintro e w2 ⟨rfl,hb2⟩;replace fE0:=a9 fE0 hb2;replace HB1:=mh hb2 HB1;replace fR0:=a9 fR0 hb2;have hlr:=aw fR0;clear hb2;have d0:=ah fE0 (o:=0) rfl;have d1:=ah fE0 (o:=1) rfl;have lE:=aw fE0;have lE2:w.heap.size<w2.heap.size+1+1:=by omega
  have lE1:w.heap.size<w2.heap.size+1:=by omega
  go_wp2_with fail
  skip
  generalize hVV:World.alloc (World.alloc w2 _) _=VV;obtain⟨hv,o1,o2,zV⟩:=bO hVV;have hw:=al HB1.out hv;have fR:=a9 fR0 hv;have f3:=o2;have fC:=zq hw;have c1a_:=af hw e1a;have c1b_:=af hw e1b;have h1_:=zq (H1.out.below hw);have c2a_:=af hw e2a;have c2b_:=af hw e2b;have h2_:=zq (H2.out.below hw);have c3a_:=af hw e3a;have c3b_:=af hw e3b;have h3_:=zq (H3.out.below hw);clear hw;clear hv o1 o2;refine wh8 (bc0 f3) (bc1 f3) c1a_ c1b_ c2a_ c2b_ c3a_ c3b_ (fun U15 hb zU15a zU15b hH0=>?_);replace fR:=a9 fR hb;replace f3:=a9 f3 hb;replace fC:=mh hb fC;replace c1a_:=af hb c1a_;replace c1b_:=af hb c1b_;replace h1_:=mh hb h1_;replace c2a_:=af hb c2a_;replace c2b_:=af hb c2b_;replace h2_:=mh hb h2_;replace c3a_:=af hb c3a_;replace c3b_:=af hb c3b_;replace h3_:=mh hb h3_;rw[zV] at zU15a zU15b;clear hb hVV zV;refine hwq hx0 (.slice (some ⟨b,off,none⟩) 3 cap) hH0 ?_;refine hwq hx1 (.pointer (some ⟨b,off,none⟩)) hH0 ?_;refine hwq hx2 (.agg #[.int .i64 k1,.slice c1 m1 q1]) hH0 ?_;refine hwq hx3 (.agg #[.int .i64 3,.slice none 0 0]) hH0 ?_;refine hwe hx4 (fun K hK=>?_)
  go_simp
  go_at_call 21
  refine(aU _ (fun _=>True) _ _ _ _ _ h1_.out (ai.leaf 3)).mono ?_;rintro e X1 ⟨rfl,hb⟩;rw[show(Ty.mk 3 [])=S.bool.ty from rfl,S.ty_cons,HD1.out]
  go_wp2_with fail
  have zX1:=hb.size;replace fR:=a9 fR hb;replace f3:=a9 f3 hb;replace fC:=mh hb fC;replace c1a_:=af hb c1a_;replace c1b_:=af hb c1b_;replace h1_:=mh hb h1_;replace c2a_:=af hb c2a_;replace c2b_:=af hb c2b_;replace h2_:=mh hb h2_;replace c3a_:=af hb c3a_;replace c3b_:=af hb c3b_;replace h3_:=mh hb h3_;refine hko hK (fun hH1=>?_);clear hK K hH0 hb
  try simp only[hwA]
  refine hwq hx5 (.bool false) hH1 ?_;refine hwq hx6 (.bool false) hH1 ?_;refine hwq hx7 (.slice (some ⟨b,off,none⟩) 3 cap) hH1 ?_;refine hwq hx8 (.pointer (some ⟨b,off+2,none⟩)) hH1 ?_;refine hwq hx9 (.agg #[.int .i64 k2,.slice c2 m2 q2]) hH1 ?_;refine hwq bd (.slice (some ⟨b,off,none⟩) 3 cap) hH1 ?_;refine hwq bl (.pointer (some ⟨b,off+4,none⟩)) hH1 ?_;refine hwq bz (.agg #[.int .i64 k3,.slice c3 m3 q3]) hH1 ?_;refine hwe bA (fun K hK=>?_)
  go_simp
  go_at_call 21
  refine(aU _ _ _ _ _ _ _ h2_.out h3_.out).mono ?_;rintro e X2 ⟨rfl,hb⟩;rw[S.ty_cons,HD2.out]
  go_wp2_with fail
  have zX2:=hb.size;replace fR:=a9 fR hb;replace f3:=a9 f3 hb;replace fC:=mh hb fC;replace c1a_:=af hb c1a_;replace c1b_:=af hb c1b_;replace h1_:=mh hb h1_;replace c2a_:=af hb c2a_;replace c2b_:=af hb c2b_;replace h2_:=mh hb h2_;replace c3a_:=af hb c3a_;replace c3b_:=af hb c3b_;replace h3_:=mh hb h3_;refine hko hK (fun hH2=>?_);clear hK K hH1 hb
  try simp only[hwA]
  refine hwq bB (.bool false) hH2 ?_;refine hwq bF (.bool false) hH2 ?_;refine hwd ?_;clear hH2
  go_wp2_with fail
  refine wh6 c1a_ c1b_ c2a_ c2b_ c3a_ c3b_ (fun U16 hb zU16a zU16b hH0=>?_);replace fR:=a9 fR hb;replace f3:=a9 f3 hb;replace fC:=mh hb fC;replace c1a_:=af hb c1a_;replace c1b_:=af hb c1b_;replace h1_:=mh hb h1_;replace c2a_:=af hb c2a_;replace c2b_:=af hb c2b_;replace h2_:=mh hb h2_;replace c3a_:=af hb c3a_;replace c3b_:=af hb c3b_;replace h3_:=mh hb h3_;clear hb;refine hwq hx0 (.slice (some ⟨b,off,none⟩) 3 cap) hH0 ?_;refine hwq hx1 (.pointer (some ⟨b,off+2,none⟩)) hH0 ?_;refine hwq hx2 (.agg #[.int .i64 k2,.slice c2 m2 q2]) hH0 ?_;refine hwq hx3 (.slice (some ⟨b,off,none⟩) 3 cap) hH0 ?_;refine hwq hx4 (.pointer (some ⟨b,off+4,none⟩)) hH0 ?_;refine hwq hx5 (.agg #[.int .i64 k3,.slice c3 m3 q3]) hH0 ?_;refine wpAnyH_ready (rs:= [6,7]) (by kernel_rfl) (by simp) ?_;refine(AllReadyH.cons hx6 (fun K hK=>?_) (AllReadyH.cons hx7 (fun K hK=>?_) AllReadyH.nil))
  ·skip
   go_simp
   go_at_call 53
   refine(lf _ _ h2 h3 _ _ _ h2_.out h3_.out HC2.out HC3.out HD2.out).mono ?_;rintro e X23 ⟨v,rfl,hv,hb⟩;obtain⟨km,am,nx,qm,rfl⟩:=hv.shape;have hM':=hv.rep.rg;clear hv
   go_wp2_with fail
   have zX23:=hb.size;replace fR:=a9 fR hb;replace f3:=a9 f3 hb;replace fC:=mh hb fC;replace c1a_:=af hb c1a_;replace c1b_:=af hb c1b_;replace h1_:=mh hb h1_;replace c2a_:=af hb c2a_;replace c2b_:=af hb c2b_;replace h2_:=mh hb h2_;replace c3a_:=af hb c3a_;replace c3b_:=af hb c3b_;replace h3_:=mh hb h3_;have hM:=hM';clear hM';refine hko hK (fun hH43=>?_);clear hK K hH0 hb
   try simp only[hwA]
   refine hwe hx7 (fun K hK=>?_)
   go_simp
   (try go_wp2_with fail);generalize hXq:World.alloc X23 _=X24;obtain⟨hb,fV,zX24a,zX24b⟩:=alE hXq;replace fR:=a9 fR hb;replace f3:=a9 f3 hb;replace fC:=mh hb fC;replace c1a_:=af hb c1a_;replace c1b_:=af hb c1b_;replace h1_:=mh hb h1_;replace c2a_:=af hb c2a_;replace c2b_:=af hb c2b_;replace h2_:=mh hb h2_;replace c3a_:=af hb c3a_;replace c3b_:=af hb c3b_;replace h3_:=mh hb h3_;replace hM:=mh hb hM;refine hko hK (fun hH44=>?_);clear hK K hH43 hb hXq
   try simp only[hwA]
   refine hwe hx8 (fun K hK=>?_);obtain⟨r0,r1,rf0,rf1⟩:=b8 fV
   go_simp
   (try go_wp2_with fail);have hQq:=aJ fV (.int .i64 km) (.slice am nx qm);clear fV r0 rf0 r1 rf1;obtain⟨X25,hXq,hsq,fV,zX25a,zX25b⟩:=hQq;rw[hXq];replace fR:=hsq.bk fR;replace f3:=hsq.bk f3;replace fC:=hsq.be fC;replace c1a_:=hsq.cq c1a_;replace c1b_:=hsq.cq c1b_;replace h1_:=zq (hsq.rep (fun b hb=>by have h1:=hb.2;omega) h1_.out);replace c2a_:=hsq.cq c2a_;replace c2b_:=hsq.cq c2b_;replace h2_:=zq (hsq.rep (fun b hb=>by have h1:=hb.2;omega) h2_.out);replace c3a_:=hsq.cq c3a_;replace c3b_:=hsq.cq c3b_;replace h3_:=zq (hsq.rep (fun b hb=>by have h1:=hb.2;omega) h3_.out);replace hM:=zq (hsq.rep (fun b hb=>by have h1:U16.heap.size<=b:=hb.1;have h2:b<X23.heap.size:=hb.2;omega) hM.out);refine hko hK (fun hH45=>?_);clear hK K hH44 hsq hXq
   try simp only[hwA]
   refine hwd ?_;clear hH45
   go_wp2_with fail
   refine wh4 (bc0 f3) (bc1 f3) (bc0 fV) (bc1 fV) (fun U17 hb zU17a zU17b hH0=>?_);replace fR:=a9 fR hb;replace f3:=a9 f3 hb;replace fC:=mh hb fC;replace c1a_:=af hb c1a_;replace c1b_:=af hb c1b_;replace h1_:=mh hb h1_;replace c2a_:=af hb c2a_;replace c2b_:=af hb c2b_;replace h2_:=mh hb h2_;replace c3a_:=af hb c3a_;replace c3b_:=af hb c3b_;replace h3_:=mh hb h3_;replace hM:=mh hb hM;replace fV:=a9 fV hb;clear hb;refine hwq hx0 (.agg #[.int .i64 3,.slice none 0 0]) hH0 ?_;refine hwq hx1 (.agg #[.int .i64 km,.slice am nx qm]) hH0 ?_;refine hwq hx2 (.agg #[.int .i64 km,.slice am nx qm]) hH0 ?_;refine hwq hx4 (.agg #[.int .i64 km,.slice am nx qm]) hH0 ?_;refine hwe hx3 (fun K hK=>?_)
   go_simp
   (try go_wp2_with fail);generalize hXq:World.alloc U17 _=X46;obtain⟨hb,fL,zX46a,zX46b⟩:=alE hXq;replace fR:=a9 fR hb;replace f3:=a9 f3 hb;replace fC:=mh hb fC;replace c1a_:=af hb c1a_;replace c1b_:=af hb c1b_;replace h1_:=mh hb h1_;replace c2a_:=af hb c2a_;replace c2b_:=af hb c2b_;replace h2_:=mh hb h2_;replace c3a_:=af hb c3a_;replace c3b_:=af hb c3b_;replace h3_:=mh hb h3_;replace hM:=mh hb hM;replace fV:=a9 fV hb;refine hko hK (fun hH86=>?_);clear hK K hH0 hb hXq
   try simp only[hwA]
   refine hwq hx5 (.slice (some ⟨U17.heap.size,0,none⟩) 3 3) hH86 ?_;refine hwe hx6 (fun K hK=>?_);obtain⟨r0,r1,rf0,rf1⟩:=b8 fR
   go_simp
   (try go_wp2_with fail);have hQq:=aJ fR (.int .i64 km) (.slice am nx qm);clear fR r0 rf0 r1 rf1;obtain⟨X47,hXq,hsq,fR,zX47a,zX47b⟩:=hQq;rw[hXq];replace f3:=hsq.bk f3;replace fC:=hsq.be fC;replace c1a_:=hsq.cq c1a_;replace c1b_:=hsq.cq c1b_;replace h1_:=zq (hsq.rep (fun b hb=>by have h1:=hb.2;omega) h1_.out);replace c2a_:=hsq.cq c2a_;replace c2b_:=hsq.cq c2b_;replace h2_:=zq (hsq.rep (fun b hb=>by have h1:=hb.2;omega) h2_.out);replace c3a_:=hsq.cq c3a_;replace c3b_:=hsq.cq c3b_;replace h3_:=zq (hsq.rep (fun b hb=>by have h1:=hb.2;omega) h3_.out);replace hM:=zq (hsq.rep (fun b hb=>by have h1:U16.heap.size<=b:=hb.1;have h2:b<X23.heap.size:=hb.2;omega) hM.out);replace fV:=hsq.bk fV;replace fL:=hsq.bk fL;refine hko hK (fun hH87=>?_);clear hK K hH86 hsq hXq
   try simp only[hwA]
   refine hwq hx7 (.bool true) hH87 ?_;refine hwd ?_;clear hH87;obtain⟨rc0,rc1⟩:=blk2 fR
   go_wp2_with fail
   refine bq (.tuple #[.slice (some ⟨U17.heap.size,0,none⟩) 3 3,.agg #[.int .i64 km,.slice am nx qm],.bool true]) (by simp[results,Try.results28,go_sem,rc0,rc1]) ?_;have hw2:w.heap.size<=w2.heap.size:=HB1.out.size;refine⟨_,_,_,_,_,_,_,_,rfl,by rw[HOO.out];rfl,?_,fC.out⟩;intro ws t h;rw[HOO.out] at h;simp only[Option.some.injEq,Prod.mk.injEq] at h;obtain⟨rfl,rfl⟩:=h;have hMM:=hM.out.move (.weaken (G:=fun x=>G x∨w.heap.size<=x) fun b h _=>.inr (by have h1:=h.1;omega))
   exact⟨av.three_mk (b:=U17.heap.size) (cap:=3) (k1:=3) (k2:=km) (k3:=km) (c1:=.slice none 0 0) (c2:=.slice am nx qm) (c3:=.slice am nx qm) (.inr (by omega)) (Nat.le_refl 3) (by unfold maxLen;omega) (ah fL (o:=0) rfl) (ah fL (o:=1) rfl) (ah fL (o:=2) rfl) (ah fL (o:=3) rfl) (ah fL (o:=4) rfl) (ah fL (o:=5) rfl) (ai.leafG 3) hMM hMM,hMM⟩
  ·skip
   go_simp
   (try go_wp2_with fail);generalize hXq:World.alloc U16 _=X48;obtain⟨hb,fV,zX48a,zX48b⟩:=alE hXq;replace fR:=a9 fR hb;replace f3:=a9 f3 hb;replace fC:=mh hb fC;replace c1a_:=af hb c1a_;replace c1b_:=af hb c1b_;replace h1_:=mh hb h1_;replace c2a_:=af hb c2a_;replace c2b_:=af hb c2b_;replace h2_:=mh hb h2_;replace c3a_:=af hb c3a_;replace c3b_:=af hb c3b_;replace h3_:=mh hb h3_;refine hko hK (fun hH43=>?_);clear hK K hH0 hb hXq
   try simp only[hwA]
   refine hwe hx6 (fun K hK=>?_)
   go_simp
   go_at_call 53
   refine(lf _ _ h2 h3 _ _ _ h2_.out h3_.out HC2.out HC3.out HD2.out).mono ?_;rintro e X49 ⟨v,rfl,hv,hb⟩;obtain⟨km,am,nx,qm,rfl⟩:=hv.shape;have hM':=hv.rep.rg;clear hv
   go_wp2_with fail
   have zX49:=hb.size;replace fR:=a9 fR hb;replace f3:=a9 f3 hb;replace fC:=mh hb fC;replace c1a_:=af hb c1a_;replace c1b_:=af hb c1b_;replace h1_:=mh hb h1_;replace c2a_:=af hb c2a_;replace c2b_:=af hb c2b_;replace h2_:=mh hb h2_;replace c3a_:=af hb c3a_;replace c3b_:=af hb c3b_;replace h3_:=mh hb h3_;replace fV:=a9 fV hb;have hM:=hM';clear hM';refine hko hK (fun hH88=>?_);clear hK K hH43 hb
   try simp only[hwA]
   refine hwe hx8 (fun K hK=>?_);obtain⟨r0,r1,rf0,rf1⟩:=b8 fV
   go_simp
   (try go_wp2_with fail);have hQq:=aJ fV (.int .i64 km) (.slice am nx qm);clear fV r0 rf0 r1 rf1;obtain⟨X50,hXq,hsq,fV,zX50a,zX50b⟩:=hQq;rw[hXq];replace fR:=hsq.bk fR;replace f3:=hsq.bk f3;replace fC:=hsq.be fC;replace c1a_:=hsq.cq c1a_;replace c1b_:=hsq.cq c1b_;replace h1_:=zq (hsq.rep (fun b hb=>by have h1:=hb.2;omega) h1_.out);replace c2a_:=hsq.cq c2a_;replace c2b_:=hsq.cq c2b_;replace h2_:=zq (hsq.rep (fun b hb=>by have h1:=hb.2;omega) h2_.out);replace c3a_:=hsq.cq c3a_;replace c3b_:=hsq.cq c3b_;replace h3_:=zq (hsq.rep (fun b hb=>by have h1:=hb.2;omega) h3_.out);replace hM:=zq (hsq.rep (fun b hb=>by have h1:X48.heap.size<=b:=hb.1;have h2:b<X49.heap.size:=hb.2;omega) hM.out);refine hko hK (fun hH89=>?_);clear hK K hH88 hsq hXq
   try simp only[hwA]
   refine hwd ?_;clear hH89
   go_wp2_with fail
   refine wh4 (bc0 f3) (bc1 f3) (bc0 fV) (bc1 fV) (fun U18 hb zU18a zU18b hH0=>?_);replace fR:=a9 fR hb;replace f3:=a9 f3 hb;replace fC:=mh hb fC;replace c1a_:=af hb c1a_;replace c1b_:=af hb c1b_;replace h1_:=mh hb h1_;replace c2a_:=af hb c2a_;replace c2b_:=af hb c2b_;replace h2_:=mh hb h2_;replace c3a_:=af hb c3a_;replace c3b_:=af hb c3b_;replace h3_:=mh hb h3_;replace fV:=a9 fV hb;replace hM:=mh hb hM;clear hb;refine hwq hx0 (.agg #[.int .i64 3,.slice none 0 0]) hH0 ?_;refine hwq hx1 (.agg #[.int .i64 km,.slice am nx qm]) hH0 ?_;refine hwq hx2 (.agg #[.int .i64 km,.slice am nx qm]) hH0 ?_;refine hwq hx4 (.agg #[.int .i64 km,.slice am nx qm]) hH0 ?_;refine hwe hx3 (fun K hK=>?_)
   go_simp
   (try go_wp2_with fail);generalize hXq:World.alloc U18 _=X71;obtain⟨hb,fL,zX71a,zX71b⟩:=alE hXq;replace fR:=a9 fR hb;replace f3:=a9 f3 hb;replace fC:=mh hb fC;replace c1a_:=af hb c1a_;replace c1b_:=af hb c1b_;replace h1_:=mh hb h1_;replace c2a_:=af hb c2a_;replace c2b_:=af hb c2b_;replace h2_:=mh hb h2_;replace c3a_:=af hb c3a_;replace c3b_:=af hb c3b_;replace h3_:=mh hb h3_;replace fV:=a9 fV hb;replace hM:=mh hb hM;refine hko hK (fun hH130=>?_);clear hK K hH0 hb hXq
   try simp only[hwA]
   refine hwq hx5 (.slice (some ⟨U18.heap.size,0,none⟩) 3 3) hH130 ?_;refine hwe hx6 (fun K hK=>?_);obtain⟨r0,r1,rf0,rf1⟩:=b8 fR
   go_simp
   (try go_wp2_with fail);have hQq:=aJ fR (.int .i64 km) (.slice am nx qm);clear fR r0 rf0 r1 rf1;obtain⟨X72,hXq,hsq,fR,zX72a,zX72b⟩:=hQq;rw[hXq];replace f3:=hsq.bk f3;replace fC:=hsq.be fC;replace c1a_:=hsq.cq c1a_;replace c1b_:=hsq.cq c1b_;replace h1_:=zq (hsq.rep (fun b hb=>by have h1:=hb.2;omega) h1_.out);replace c2a_:=hsq.cq c2a_;replace c2b_:=hsq.cq c2b_;replace h2_:=zq (hsq.rep (fun b hb=>by have h1:=hb.2;omega) h2_.out);replace c3a_:=hsq.cq c3a_;replace c3b_:=hsq.cq c3b_;replace h3_:=zq (hsq.rep (fun b hb=>by have h1:=hb.2;omega) h3_.out);replace fV:=hsq.bk fV;replace hM:=zq (hsq.rep (fun b hb=>by have h1:X48.heap.size<=b:=hb.1;have h2:b<X49.heap.size:=hb.2;omega) hM.out);replace fL:=hsq.bk fL;refine hko hK (fun hH131=>?_);clear hK K hH130 hsq hXq
   try simp only[hwA]
   refine hwq hx7 (.bool true) hH131 ?_;refine hwd ?_;clear hH131;obtain⟨rc0,rc1⟩:=blk2 fR
   go_wp2_with fail
   refine bq (.tuple #[.slice (some ⟨U18.heap.size,0,none⟩) 3 3,.agg #[.int .i64 km,.slice am nx qm],.bool true]) (by simp[results,Try.results28,go_sem,rc0,rc1]) ?_;have hw2:w.heap.size<=w2.heap.size:=HB1.out.size;refine⟨_,_,_,_,_,_,_,_,rfl,by rw[HOO.out];rfl,?_,fC.out⟩;intro ws t h;rw[HOO.out] at h;simp only[Option.some.injEq,Prod.mk.injEq] at h;obtain⟨rfl,rfl⟩:=h;have hMM:=hM.out.move (.weaken (G:=fun x=>G x∨w.heap.size<=x) fun b h _=>.inr (by have h1:=h.1;omega))
   exact⟨av.three_mk (b:=U18.heap.size) (cap:=3) (k1:=3) (k2:=km) (k3:=km) (c1:=.slice none 0 0) (c2:=.slice am nx qm) (c3:=.slice am nx qm) (.inr (by omega)) (Nat.le_refl 3) (by unfold maxLen;omega) (ah fL (o:=0) rfl) (ah fL (o:=1) rfl) (ah fL (o:=2) rfl) (ah fL (o:=3) rfl) (ah fL (o:=4) rfl) (ah fL (o:=5) rfl) (ai.leafG 3) hMM hMM,hMM⟩
end Go.Proofs.Ytfhglkmjibjjoaa
