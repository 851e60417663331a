/- impl.wanted at sums and comparisons. -/
import Derived.Test.YtfhglkmjibjjoaaB46
set_option linter.unusedSimpArgs false
set_option linter.unusedVariables false
set_option maxRecDepth 100000
set_option maxHeartbeats 16000000
namespace Go.Proofs.Ytfhglkmjibjjoaa
open Go.RowKit
theorem hG {k:Int}{ty:Ty}{g h:S}(hk:k=7∨k=8):aY k ty [g,h]=if (g.cons .int&&h.cons .int)=true then some ([.int,.int],if k=8 then .bool else .int) else none:=by
 have h6 : ¬k=6:=by omega
 have h10 : ¬k=10:=by omega
 simp only[aY,if_neg h6,if_neg h10]
theorem js (G:Nat->Prop)(c y:Value)(hcs : ∃a n q,c = .slice a n q)(nm:ByteArray)(u lb tk fk:Int)(ty:Ty)(ta fa ca:Option Addr)(tn tq fn fq cm cq:Nat)(w:World)(h1 h2:S)(hd:h1.cons .int=false)(hy:av G w [h1.ty,h2.ty] y) :
    Calls Try.prog 28 #[c,.agg (nv 7 nm u tk ta tn tq fk fa fn fq lb ca cm cq),y] w (cS G (aY 7 ty [h1,h2]) w):=by
  obtain⟨b,off,cap,k1,c1,m1,q1,k2,c2,m2,q2,rfl,-,-,hlb,e1a,e1b,e2a,e2b,ht1,ht2⟩:=hy.two;obtain⟨xa0,xn0,xq0,rfl⟩:=hcs;have HOO:=zq (hG (k:=7) (ty:=ty) (g:=h1) (h:=h2) (by omega));have H1:=zq (ht1.move (.weaken (G:=(fun x=>G x∧x<w.heap.size)) fun b h hl=>⟨h,hl⟩));have H2:=zq (ht2.move (.weaken (G:=(fun x=>G x∧x<w.heap.size)) fun b h hl=>⟨h,hl⟩));generalize aY 7 ty [h1,h2]=O at HOO ⊢;obtain⟨d2,hd2⟩ : ∃d2,h2.cons .int=d2:=⟨_,rfl⟩
  have HD1:=zq hd;have HD2:=zq hd2;clear hy ht1 ht2 hd hd2
  go_enter Try.func28,Try.ntmps28
  go_wp2_with fail
  refine(aW _ _).mono ?_;rintro e w1 ⟨rfl,hb1⟩;have HB1:=zq (al (al ag ag) hb1);have fR0:=a9 (aA (w:=w.alloc (.cells (nv 7 nm u tk ta tn tq fk fa fn fq lb ca cm cq) 28)) (o:=.cells #[.int .i64 0,.slice none 0 0] 25) (b:=w.heap.size+1) (by simp)) hb1;have fE0:=a9 (a9 (aA (w:=w) (o:=.cells (nv 7 nm u tk ta tn tq fk fa fn fq lb ca cm cq) 28) rfl) (ag (o:=.cells #[.int .i64 0,.slice none 0 0] 25))) hb1;clear hb1
  go_wp2_with fail
  refine(aW _ _).mono ?_;rintro e w2 ⟨rfl,hb2⟩;replace fE0:=a9 fE0 hb2;replace HB1:=mh hb2 HB1;replace fR0:=a9 fR0 hb2;have hlr:=aw fR0;clear hb2;have d0:=ah fE0 (o:=0) rfl;have d1:=ah fE0 (o:=1) rfl;have lE:=aw fE0;have lE2:w.heap.size<w2.heap.size+1+1:=by omega
  have lE1:w.heap.size<w2.heap.size+1:=by omega
  skip
  have lE3:w.heap.size<w2.heap.size+1+1+1:=by omega
  go_wp2_with fail
  generalize hVV:World.alloc (World.alloc (World.alloc w2 _) _) _=VV;obtain⟨hv,o1,o2,o3,zV⟩:=alE3 hVV;have hw:=al HB1.out hv;have fR:=a9 fR0 hv;have f2:=o1;have fT:=o3;have fC:=zq hw;have c1a_:=af hw e1a;have c1b_:=af hw e1b;have h1_:=zq (H1.out.below hw);have c2a_:=af hw e2a;have c2b_:=af hw e2b;have h2_:=zq (H2.out.below hw);clear hw;clear hv o1 o2 o3;refine wh8 (bc0 f2) (bc1 f2) (bc0 fT) (bc1 fT) c1a_ c1b_ c2a_ c2b_ (fun U9 hb zU9a zU9b hH0=>?_);replace fR:=a9 fR hb;replace f2:=a9 f2 hb;replace fT:=a9 fT hb;replace fC:=mh hb fC;replace c1a_:=af hb c1a_;replace c1b_:=af hb c1b_;replace h1_:=mh hb h1_;replace c2a_:=af hb c2a_;replace c2b_:=af hb c2b_;replace h2_:=mh hb h2_;rw[zV] at zU9a zU9b;clear hb hVV zV;refine hwq hx0 (.agg #[.int .i64 2,.slice none 0 0]) hH0 ?_;refine hwq hx1 (.agg #[.int .i64 2,.slice none 0 0]) hH0 ?_;refine hwq hx3 (.agg #[.int .i64 2,.slice none 0 0]) hH0 ?_;refine hwq hx4 (.slice (some ⟨b,off,none⟩) 2 cap) hH0 ?_;refine hwq hx5 (.pointer (some ⟨b,off,none⟩)) hH0 ?_;refine hwq hx6 (.agg #[.int .i64 k1,.slice c1 m1 q1]) hH0 ?_;refine hwq hx7 (.agg #[.int .i64 2,.slice none 0 0]) hH0 ?_;refine wpAnyH_ready (rs:= [2,8]) (by kernel_rfl) (by simp) ?_;refine(AllReadyH.cons hx2 (fun K hK=>?_) (AllReadyH.cons hx8 (fun K hK=>?_) AllReadyH.nil))
  ·skip
   go_simp
   (try go_wp2_with fail);generalize hXq:World.alloc U9 _=X1;obtain⟨hb,fL,zX1a,zX1b⟩:=alE hXq;replace fR:=a9 fR hb;replace f2:=a9 f2 hb;replace fT:=a9 fT hb;replace fC:=mh hb fC;replace c1a_:=af hb c1a_;replace c1b_:=af hb c1b_;replace h1_:=mh hb h1_;replace c2a_:=af hb c2a_;replace c2b_:=af hb c2b_;replace h2_:=mh hb h2_;refine hko hK (fun hH1=>?_);clear hK K hH0 hb hXq
   try simp only[hwA]
   refine hwe hx8 (fun K hK=>?_)
   go_simp
   go_at_call 21
   refine(aU _ (fun _=>True) _ (.mk 2 []) _ _ _ h1_.out (ai.leaf 2)).mono ?_;rintro e X2 ⟨rfl,hb⟩;rw[show(Ty.mk 2 [])=S.int.ty from rfl,S.ty_cons,HD1.out]
   go_wp2_with fail
   have zX2:=hb.size;replace fR:=a9 fR hb;replace f2:=a9 f2 hb;replace fT:=a9 fT hb;replace fC:=mh hb fC;replace c1a_:=af hb c1a_;replace c1b_:=af hb c1b_;replace h1_:=mh hb h1_;replace c2a_:=af hb c2a_;replace c2b_:=af hb c2b_;replace h2_:=mh hb h2_;replace fL:=a9 fL hb;refine hko hK (fun hH2=>?_);clear hK K hH1 hb
   try simp only[hwA]
   refine hwq hx9 (.bool false) hH2 ?_;refine hwu bd hH2 ?_;refine hwu bl hH2 ?_;refine hwu bz hH2 ?_;refine hwu bA hH2 ?_;refine hwu bB hH2 ?_;refine hwq bF (.bool false) hH2 ?_;refine hwq bI (.slice (some ⟨U9.heap.size,0,none⟩) 2 2) hH2 ?_;refine hwe co (fun K hK=>?_);obtain⟨r0,r1,rf0,rf1⟩:=b8 fR
   go_simp
   (try go_wp2_with fail);have hQq:=aJ fR (.int .i64 2) (.slice none 0 0);clear fR r0 rf0 r1 rf1;obtain⟨X3,hXq,hsq,fR,zX3a,zX3b⟩:=hQq;rw[hXq];replace f2:=hsq.bk f2;replace fT:=hsq.bk fT;replace fC:=hsq.be fC;replace c1a_:=hsq.cq c1a_;replace c1b_:=hsq.cq c1b_;replace h1_:=zq (hsq.rep (fun b hb=>by have h1:=hb.2;omega) h1_.out);replace c2a_:=hsq.cq c2a_;replace c2b_:=hsq.cq c2b_;replace h2_:=zq (hsq.rep (fun b hb=>by have h1:=hb.2;omega) h2_.out);replace fL:=hsq.bk fL;refine hko hK (fun hH3=>?_);clear hK K hH2 hsq hXq
   try simp only[hwA]
   refine hwq cD (.bool false) hH3 ?_;refine hwd ?_;clear hH3;obtain⟨rc0,rc1⟩:=blk2 fR
   go_wp2_with fail
   refine bq (.tuple #[.slice (some ⟨U9.heap.size,0,none⟩) 2 2,.agg #[.int .i64 2,.slice none 0 0],.bool false]) (by simp[results,Try.results28,go_sem,rc0,rc1]) ?_;have hw2:w.heap.size<=w2.heap.size:=HB1.out.size;have HN:O=none:=by rw[HOO.out,HD1.out];rfl
   exact⟨_,_,_,_,_,_,_,_,rfl,by rw[HN];rfl,(by rw[HN];intro ws t h;cases h),fC.out⟩
  ·skip
   go_simp
   go_at_call 21
   refine(aU _ (fun _=>True) _ (.mk 2 []) _ _ _ h1_.out (ai.leaf 2)).mono ?_;rintro e X4 ⟨rfl,hb⟩;rw[show(Ty.mk 2 [])=S.int.ty from rfl,S.ty_cons,HD1.out]
   go_wp2_with fail
   have zX4:=hb.size;replace fR:=a9 fR hb;replace f2:=a9 f2 hb;replace fT:=a9 fT hb;replace fC:=mh hb fC;replace c1a_:=af hb c1a_;replace c1b_:=af hb c1b_;replace h1_:=mh hb h1_;replace c2a_:=af hb c2a_;replace c2b_:=af hb c2b_;replace h2_:=mh hb h2_;refine hko hK (fun hH1=>?_);clear hK K hH0 hb
   try simp only[hwA]
   refine hwq hx9 (.bool false) hH1 ?_;refine hwu bd hH1 ?_;refine hwu bl hH1 ?_;refine hwu bz hH1 ?_;refine hwu bA hH1 ?_;refine hwu bB hH1 ?_;refine hwq bF (.bool false) hH1 ?_;refine hwe hx2 (fun K hK=>?_)
   go_simp
   (try go_wp2_with fail);generalize hXq:World.alloc X4 _=X5;obtain⟨hb,fL,zX5a,zX5b⟩:=alE hXq;replace fR:=a9 fR hb;replace f2:=a9 f2 hb;replace fT:=a9 fT hb;replace fC:=mh hb fC;replace c1a_:=af hb c1a_;replace c1b_:=af hb c1b_;replace h1_:=mh hb h1_;replace c2a_:=af hb c2a_;replace c2b_:=af hb c2b_;replace h2_:=mh hb h2_;refine hko hK (fun hH4=>?_);clear hK K hH1 hb hXq
   try simp only[hwA]
   refine hwq bI (.slice (some ⟨X4.heap.size,0,none⟩) 2 2) hH4 ?_;refine hwe co (fun K hK=>?_);obtain⟨r0,r1,rf0,rf1⟩:=b8 fR
   go_simp
   (try go_wp2_with fail);have hQq:=aJ fR (.int .i64 2) (.slice none 0 0);clear fR r0 rf0 r1 rf1;obtain⟨X6,hXq,hsq,fR,zX6a,zX6b⟩:=hQq;rw[hXq];replace f2:=hsq.bk f2;replace fT:=hsq.bk fT;replace fC:=hsq.be fC;replace c1a_:=hsq.cq c1a_;replace c1b_:=hsq.cq c1b_;replace h1_:=zq (hsq.rep (fun b hb=>by have h1:=hb.2;omega) h1_.out);replace c2a_:=hsq.cq c2a_;replace c2b_:=hsq.cq c2b_;replace h2_:=zq (hsq.rep (fun b hb=>by have h1:=hb.2;omega) h2_.out);replace fL:=hsq.bk fL;refine hko hK (fun hH5=>?_);clear hK K hH4 hsq hXq
   try simp only[hwA]
   refine hwq cD (.bool false) hH5 ?_;refine hwd ?_;clear hH5;obtain⟨rc0,rc1⟩:=blk2 fR
   go_wp2_with fail
   refine bq (.tuple #[.slice (some ⟨X4.heap.size,0,none⟩) 2 2,.agg #[.int .i64 2,.slice none 0 0],.bool false]) (by simp[results,Try.results28,go_sem,rc0,rc1]) ?_;have hw2:w.heap.size<=w2.heap.size:=HB1.out.size;have HN:O=none:=by rw[HOO.out,HD1.out];rfl
   exact⟨_,_,_,_,_,_,_,_,rfl,by rw[HN];rfl,(by rw[HN];intro ws t h;cases h),fC.out⟩
theorem jt (G:Nat->Prop)(c y:Value)(hcs : ∃a n q,c = .slice a n q)(nm:ByteArray)(u lb tk fk:Int)(ty:Ty)(ta fa ca:Option Addr)(tn tq fn fq cm cq:Nat)(w:World)(h1 h2:S)(hd:h1.cons .int=true)(hy:av G w [h1.ty,h2.ty] y) :
    Calls Try.prog 28 #[c,.agg (nv 7 nm u tk ta tn tq fk fa fn fq lb ca cm cq),y] w (cS G (aY 7 ty [h1,h2]) w):=by
  obtain⟨b,off,cap,k1,c1,m1,q1,k2,c2,m2,q2,rfl,-,-,hlb,e1a,e1b,e2a,e2b,ht1,ht2⟩:=hy.two;obtain⟨xa0,xn0,xq0,rfl⟩:=hcs;have HOO:=zq (hG (k:=7) (ty:=ty) (g:=h1) (h:=h2) (by omega));have H1:=zq (ht1.move (.weaken (G:=(fun x=>G x∧x<w.heap.size)) fun b h hl=>⟨h,hl⟩));have H2:=zq (ht2.move (.weaken (G:=(fun x=>G x∧x<w.heap.size)) fun b h hl=>⟨h,hl⟩));generalize aY 7 ty [h1,h2]=O at HOO ⊢;obtain⟨d2,hd2⟩ : ∃d2,h2.cons .int=d2:=⟨_,rfl⟩
  have HD1:=zq hd;have HD2:=zq hd2;clear hy ht1 ht2 hd hd2
  go_enter Try.func28,Try.ntmps28
  go_wp2_with fail
  refine(aW _ _).mono ?_;rintro e w1 ⟨rfl,hb1⟩;have HB1:=zq (al (al ag ag) hb1);have fR0:=a9 (aA (w:=w.alloc (.cells (nv 7 nm u tk ta tn tq fk fa fn fq lb ca cm cq) 28)) (o:=.cells #[.int .i64 0,.slice none 0 0] 25) (b:=w.heap.size+1) (by simp)) hb1;have fE0:=a9 (a9 (aA (w:=w) (o:=.cells (nv 7 nm u tk ta tn tq fk fa fn fq lb ca cm cq) 28) rfl) (ag (o:=.cells #[.int .i64 0,.slice none 0 0] 25))) hb1;clear hb1
  go_wp2_with fail
  refine(aW _ _).mono ?_;rintro e w2 ⟨rfl,hb2⟩;replace fE0:=a9 fE0 hb2;replace HB1:=mh hb2 HB1;replace fR0:=a9 fR0 hb2;have hlr:=aw fR0;clear hb2;have d0:=ah fE0 (o:=0) rfl;have d1:=ah fE0 (o:=1) rfl;have lE:=aw fE0;have lE2:w.heap.size<w2.heap.size+1+1:=by omega
  have lE1:w.heap.size<w2.heap.size+1:=by omega
  skip
  have lE3:w.heap.size<w2.heap.size+1+1+1:=by omega
  go_wp2_with fail
  generalize hVV:World.alloc (World.alloc (World.alloc w2 _) _) _=VV;obtain⟨hv,o1,o2,o3,zV⟩:=alE3 hVV;have hw:=al HB1.out hv;have fR:=a9 fR0 hv;have f2:=o1;have fT:=o3;have fC:=zq hw;have c1a_:=af hw e1a;have c1b_:=af hw e1b;have h1_:=zq (H1.out.below hw);have c2a_:=af hw e2a;have c2b_:=af hw e2b;have h2_:=zq (H2.out.below hw);clear hw;clear hv o1 o2 o3;refine wh8 (bc0 f2) (bc1 f2) (bc0 fT) (bc1 fT) c1a_ c1b_ c2a_ c2b_ (fun U10 hb zU10a zU10b hH0=>?_);replace fR:=a9 fR hb;replace f2:=a9 f2 hb;replace fT:=a9 fT hb;replace fC:=mh hb fC;replace c1a_:=af hb c1a_;replace c1b_:=af hb c1b_;replace h1_:=mh hb h1_;replace c2a_:=af hb c2a_;replace c2b_:=af hb c2b_;replace h2_:=mh hb h2_;rw[zV] at zU10a zU10b;clear hb hVV zV;refine hwq hx0 (.agg #[.int .i64 2,.slice none 0 0]) hH0 ?_;refine hwq hx1 (.agg #[.int .i64 2,.slice none 0 0]) hH0 ?_;refine hwq hx3 (.agg #[.int .i64 2,.slice none 0 0]) hH0 ?_;refine hwq hx4 (.slice (some ⟨b,off,none⟩) 2 cap) hH0 ?_;refine hwq hx5 (.pointer (some ⟨b,off,none⟩)) hH0 ?_;refine hwq hx6 (.agg #[.int .i64 k1,.slice c1 m1 q1]) hH0 ?_;refine hwq hx7 (.agg #[.int .i64 2,.slice none 0 0]) hH0 ?_;refine wpAnyH_ready (rs:= [2,8]) (by kernel_rfl) (by simp) ?_;refine(AllReadyH.cons hx2 (fun K hK=>?_) (AllReadyH.cons hx8 (fun K hK=>?_) AllReadyH.nil))
  ·skip
   go_simp
   (try go_wp2_with fail);generalize hXq:World.alloc U10 _=X1;obtain⟨hb,fL,zX1a,zX1b⟩:=alE hXq;replace fR:=a9 fR hb;replace f2:=a9 f2 hb;replace fT:=a9 fT hb;replace fC:=mh hb fC;replace c1a_:=af hb c1a_;replace c1b_:=af hb c1b_;replace h1_:=mh hb h1_;replace c2a_:=af hb c2a_;replace c2b_:=af hb c2b_;replace h2_:=mh hb h2_;refine hko hK (fun hH1=>?_);clear hK K hH0 hb hXq
   try simp only[hwA]
   refine hwe hx8 (fun K hK=>?_)
   go_simp
   go_at_call 21
   refine(aU _ (fun _=>True) _ (.mk 2 []) _ _ _ h1_.out (ai.leaf 2)).mono ?_;rintro e X2 ⟨rfl,hb⟩;rw[show(Ty.mk 2 [])=S.int.ty from rfl,S.ty_cons,HD1.out]
   go_wp2_with fail
   have zX2:=hb.size;replace fR:=a9 fR hb;replace f2:=a9 f2 hb;replace fT:=a9 fT hb;replace fC:=mh hb fC;replace c1a_:=af hb c1a_;replace c1b_:=af hb c1b_;replace h1_:=mh hb h1_;replace c2a_:=af hb c2a_;replace c2b_:=af hb c2b_;replace h2_:=mh hb h2_;replace fL:=a9 fL hb;refine hko hK (fun hH2=>?_);clear hK K hH1 hb
   try simp only[hwA]
   refine hwq hx9 (.bool true) hH2 ?_;refine hwq bd (.slice (some ⟨b,off,none⟩) 2 cap) hH2 ?_;refine hwq bl (.pointer (some ⟨b,off+2,none⟩)) hH2 ?_;refine hwq bz (.agg #[.int .i64 k2,.slice c2 m2 q2]) hH2 ?_;refine hwq bA (.agg #[.int .i64 2,.slice none 0 0]) hH2 ?_;refine hwe bB (fun K hK=>?_)
   go_simp
   go_at_call 21
   refine(aU _ (fun _=>True) _ (.mk 2 []) _ _ _ h2_.out (ai.leaf 2)).mono ?_;rintro e X3 ⟨rfl,hb⟩;rw[show(Ty.mk 2 [])=S.int.ty from rfl,S.ty_cons,HD2.out]
   go_wp2_with fail
   have zX3:=hb.size;replace fR:=a9 fR hb;replace f2:=a9 f2 hb;replace fT:=a9 fT hb;replace fC:=mh hb fC;replace c1a_:=af hb c1a_;replace c1b_:=af hb c1b_;replace h1_:=mh hb h1_;replace c2a_:=af hb c2a_;replace c2b_:=af hb c2b_;replace h2_:=mh hb h2_;replace fL:=a9 fL hb;refine hko hK (fun hH3=>?_);clear hK K hH2 hb
   try simp only[hwA]
   refine hwq bF (.bool d2) hH3 ?_;refine hwq bI (.slice (some ⟨U10.heap.size,0,none⟩) 2 2) hH3 ?_;refine hwe co (fun K hK=>?_);obtain⟨r0,r1,rf0,rf1⟩:=b8 fR
   go_simp
   (try go_wp2_with fail);have hQq:=aJ fR (.int .i64 2) (.slice none 0 0);clear fR r0 rf0 r1 rf1;obtain⟨X4,hXq,hsq,fR,zX4a,zX4b⟩:=hQq;rw[hXq];replace f2:=hsq.bk f2;replace fT:=hsq.bk fT;replace fC:=hsq.be fC;replace c1a_:=hsq.cq c1a_;replace c1b_:=hsq.cq c1b_;replace h1_:=zq (hsq.rep (fun b hb=>by have h1:=hb.2;omega) h1_.out);replace c2a_:=hsq.cq c2a_;replace c2b_:=hsq.cq c2b_;replace h2_:=zq (hsq.rep (fun b hb=>by have h1:=hb.2;omega) h2_.out);replace fL:=hsq.bk fL;refine hko hK (fun hH4=>?_);clear hK K hH3 hsq hXq
   try simp only[hwA]
   refine hwq cD (.bool d2) hH4 ?_;refine hwd ?_;clear hH4;obtain⟨rc0,rc1⟩:=blk2 fR
   go_wp2_with fail
   refine bq (.tuple #[.slice (some ⟨U10.heap.size,0,none⟩) 2 2,.agg #[.int .i64 2,.slice none 0 0],.bool d2]) (by simp[results,Try.results28,go_sem,rc0,rc1]) ?_;have hw2:w.heap.size<=w2.heap.size:=HB1.out.size;have HN:O=if d2=true then some ([S.int,S.int],S.int) else none:=by rw[HOO.out,HD1.out,HD2.out,Bool.true_and];simp
   refine⟨_,_,_,_,_,_,_,_,rfl,by rw[HN];cases d2<;>rfl,?_,fC.out⟩;intro ws t h;rw[HN] at h
   cases d2 with
   | false=>cases h
   | true=>
     simp only[if_true,Option.some.injEq,Prod.mk.injEq] at h;obtain⟨rfl,rfl⟩:=h
     exact⟨av.two_mk (b:=U10.heap.size) (cap:=2) (k1:=2) (k2:=2) (c1:=.slice none 0 0) (c2:=.slice none 0 0) (.inr (by omega)) (Nat.le_refl 2) (by unfold maxLen;omega) (ah fL (o:=0) rfl) (ah fL (o:=1) rfl) (ah fL (o:=2) rfl) (ah fL (o:=3) rfl) (ai.leafG 2) (ai.leafG 2),ai.leafG 2⟩
  ·skip
   go_simp
   go_at_call 21
   refine(aU _ (fun _=>True) _ (.mk 2 []) _ _ _ h1_.out (ai.leaf 2)).mono ?_;rintro e X5 ⟨rfl,hb⟩;rw[show(Ty.mk 2 [])=S.int.ty from rfl,S.ty_cons,HD1.out]
   go_wp2_with fail
   have zX5:=hb.size;replace fR:=a9 fR hb;replace f2:=a9 f2 hb;replace fT:=a9 fT hb;replace fC:=mh hb fC;replace c1a_:=af hb c1a_;replace c1b_:=af hb c1b_;replace h1_:=mh hb h1_;replace c2a_:=af hb c2a_;replace c2b_:=af hb c2b_;replace h2_:=mh hb h2_;refine hko hK (fun hH1=>?_);clear hK K hH0 hb
   try simp only[hwA]
   refine hwq hx9 (.bool true) hH1 ?_;refine hwq bd (.slice (some ⟨b,off,none⟩) 2 cap) hH1 ?_;refine hwq bl (.pointer (some ⟨b,off+2,none⟩)) hH1 ?_;refine hwq bz (.agg #[.int .i64 k2,.slice c2 m2 q2]) hH1 ?_;refine hwq bA (.agg #[.int .i64 2,.slice none 0 0]) hH1 ?_;refine wpAnyH_ready (rs:= [2,14]) (by kernel_rfl) (by simp) ?_;refine(AllReadyH.cons hx2 (fun K hK=>?_) (AllReadyH.cons bB (fun K hK=>?_) AllReadyH.nil))
   ·skip
    go_simp
    (try go_wp2_with fail);generalize hXq:World.alloc X5 _=X6;obtain⟨hb,fL,zX6a,zX6b⟩:=alE hXq;replace fR:=a9 fR hb;replace f2:=a9 f2 hb;replace fT:=a9 fT hb;replace fC:=mh hb fC;replace c1a_:=af hb c1a_;replace c1b_:=af hb c1b_;replace h1_:=mh hb h1_;replace c2a_:=af hb c2a_;replace c2b_:=af hb c2b_;replace h2_:=mh hb h2_;refine hko hK (fun hH5=>?_);clear hK K hH1 hb hXq
    try simp only[hwA]
    refine hwe bB (fun K hK=>?_)
    go_simp
    go_at_call 21
    refine(aU _ (fun _=>True) _ (.mk 2 []) _ _ _ h2_.out (ai.leaf 2)).mono ?_;rintro e X7 ⟨rfl,hb⟩;rw[show(Ty.mk 2 [])=S.int.ty from rfl,S.ty_cons,HD2.out]
    go_wp2_with fail
    have zX7:=hb.size;replace fR:=a9 fR hb;replace f2:=a9 f2 hb;replace fT:=a9 fT hb;replace fC:=mh hb fC;replace c1a_:=af hb c1a_;replace c1b_:=af hb c1b_;replace h1_:=mh hb h1_;replace c2a_:=af hb c2a_;replace c2b_:=af hb c2b_;replace h2_:=mh hb h2_;replace fL:=a9 fL hb;refine hko hK (fun hH6=>?_);clear hK K hH5 hb
    try simp only[hwA]
    refine hwq bF (.bool d2) hH6 ?_;refine hwq bI (.slice (some ⟨X5.heap.size,0,none⟩) 2 2) hH6 ?_;refine hwe co (fun K hK=>?_);obtain⟨r0,r1,rf0,rf1⟩:=b8 fR
    go_simp
    (try go_wp2_with fail);have hQq:=aJ fR (.int .i64 2) (.slice none 0 0);clear fR r0 rf0 r1 rf1;obtain⟨X8,hXq,hsq,fR,zX8a,zX8b⟩:=hQq;rw[hXq];replace f2:=hsq.bk f2;replace fT:=hsq.bk fT;replace fC:=hsq.be fC;replace c1a_:=hsq.cq c1a_;replace c1b_:=hsq.cq c1b_;replace h1_:=zq (hsq.rep (fun b hb=>by have h1:=hb.2;omega) h1_.out);replace c2a_:=hsq.cq c2a_;replace c2b_:=hsq.cq c2b_;replace h2_:=zq (hsq.rep (fun b hb=>by have h1:=hb.2;omega) h2_.out);replace fL:=hsq.bk fL;refine hko hK (fun hH7=>?_);clear hK K hH6 hsq hXq
    try simp only[hwA]
    refine hwq cD (.bool d2) hH7 ?_;refine hwd ?_;clear hH7;obtain⟨rc0,rc1⟩:=blk2 fR
    go_wp2_with fail
    refine bq (.tuple #[.slice (some ⟨X5.heap.size,0,none⟩) 2 2,.agg #[.int .i64 2,.slice none 0 0],.bool d2]) (by simp[results,Try.results28,go_sem,rc0,rc1]) ?_;have hw2:w.heap.size<=w2.heap.size:=HB1.out.size;have HN:O=if d2=true then some ([S.int,S.int],S.int) else none:=by rw[HOO.out,HD1.out,HD2.out,Bool.true_and];simp
    refine⟨_,_,_,_,_,_,_,_,rfl,by rw[HN];cases d2<;>rfl,?_,fC.out⟩;intro ws t h;rw[HN] at h
    cases d2 with
    | false=>cases h
    | true=>
      simp only[if_true,Option.some.injEq,Prod.mk.injEq] at h;obtain⟨rfl,rfl⟩:=h
      exact⟨av.two_mk (b:=X5.heap.size) (cap:=2) (k1:=2) (k2:=2) (c1:=.slice none 0 0) (c2:=.slice none 0 0) (.inr (by omega)) (Nat.le_refl 2) (by unfold maxLen;omega) (ah fL (o:=0) rfl) (ah fL (o:=1) rfl) (ah fL (o:=2) rfl) (ah fL (o:=3) rfl) (ai.leafG 2) (ai.leafG 2),ai.leafG 2⟩
   ·skip
    go_simp
    go_at_call 21
    refine(aU _ (fun _=>True) _ (.mk 2 []) _ _ _ h2_.out (ai.leaf 2)).mono ?_;rintro e X9 ⟨rfl,hb⟩;rw[show(Ty.mk 2 [])=S.int.ty from rfl,S.ty_cons,HD2.out]
    go_wp2_with fail
    have zX9:=hb.size;replace fR:=a9 fR hb;replace f2:=a9 f2 hb;replace fT:=a9 fT hb;replace fC:=mh hb fC;replace c1a_:=af hb c1a_;replace c1b_:=af hb c1b_;replace h1_:=mh hb h1_;replace c2a_:=af hb c2a_;replace c2b_:=af hb c2b_;replace h2_:=mh hb h2_;refine hko hK (fun hH5=>?_);clear hK K hH1 hb
    try simp only[hwA]
    refine hwq bF (.bool d2) hH5 ?_;refine hwe hx2 (fun K hK=>?_)
    go_simp
    (try go_wp2_with fail);generalize hXq:World.alloc X9 _=X10;obtain⟨hb,fL,zX10a,zX10b⟩:=alE hXq;replace fR:=a9 fR hb;replace f2:=a9 f2 hb;replace fT:=a9 fT hb;replace fC:=mh hb fC;replace c1a_:=af hb c1a_;replace c1b_:=af hb c1b_;replace h1_:=mh hb h1_;replace c2a_:=af hb c2a_;replace c2b_:=af hb c2b_;replace h2_:=mh hb h2_;refine hko hK (fun hH8=>?_);clear hK K hH5 hb hXq
    try simp only[hwA]
    refine hwq bI (.slice (some ⟨X9.heap.size,0,none⟩) 2 2) hH8 ?_;refine hwe co (fun K hK=>?_);obtain⟨r0,r1,rf0,rf1⟩:=b8 fR
    go_simp
    (try go_wp2_with fail);have hQq:=aJ fR (.int .i64 2) (.slice none 0 0);clear fR r0 rf0 r1 rf1;obtain⟨X11,hXq,hsq,fR,zX11a,zX11b⟩:=hQq;rw[hXq];replace f2:=hsq.bk f2;replace fT:=hsq.bk fT;replace fC:=hsq.be fC;replace c1a_:=hsq.cq c1a_;replace c1b_:=hsq.cq c1b_;replace h1_:=zq (hsq.rep (fun b hb=>by have h1:=hb.2;omega) h1_.out);replace c2a_:=hsq.cq c2a_;replace c2b_:=hsq.cq c2b_;replace h2_:=zq (hsq.rep (fun b hb=>by have h1:=hb.2;omega) h2_.out);replace fL:=hsq.bk fL;refine hko hK (fun hH9=>?_);clear hK K hH8 hsq hXq
    try simp only[hwA]
    refine hwq cD (.bool d2) hH9 ?_;refine hwd ?_;clear hH9;obtain⟨rc0,rc1⟩:=blk2 fR
    go_wp2_with fail
    refine bq (.tuple #[.slice (some ⟨X9.heap.size,0,none⟩) 2 2,.agg #[.int .i64 2,.slice none 0 0],.bool d2]) (by simp[results,Try.results28,go_sem,rc0,rc1]) ?_;have hw2:w.heap.size<=w2.heap.size:=HB1.out.size;have HN:O=if d2=true then some ([S.int,S.int],S.int) else none:=by rw[HOO.out,HD1.out,HD2.out,Bool.true_and];simp
    refine⟨_,_,_,_,_,_,_,_,rfl,by rw[HN];cases d2<;>rfl,?_,fC.out⟩;intro ws t h;rw[HN] at h
    cases d2 with
    | false=>cases h
    | true=>
      simp only[if_true,Option.some.injEq,Prod.mk.injEq] at h;obtain⟨rfl,rfl⟩:=h
      exact⟨av.two_mk (b:=X9.heap.size) (cap:=2) (k1:=2) (k2:=2) (c1:=.slice none 0 0) (c2:=.slice none 0 0) (.inr (by omega)) (Nat.le_refl 2) (by unfold maxLen;omega) (ah fL (o:=0) rfl) (ah fL (o:=1) rfl) (ah fL (o:=2) rfl) (ah fL (o:=3) rfl) (ai.leafG 2) (ai.leafG 2),ai.leafG 2⟩
theorem ju (G:Nat->Prop)(c y:Value)(hcs : ∃a n q,c = .slice a n q)(nm:ByteArray)(u lb tk fk:Int)(ty:Ty)(ta fa ca:Option Addr)(tn tq fn fq cm cq:Nat)(w:World)(h1 h2:S)(hd:h1.cons .int=false)(hy:av G w [h1.ty,h2.ty] y) :
    Calls Try.prog 28 #[c,.agg (nv 8 nm u tk ta tn tq fk fa fn fq lb ca cm cq),y] w (cS G (aY 8 ty [h1,h2]) w):=by
  obtain⟨b,off,cap,k1,c1,m1,q1,k2,c2,m2,q2,rfl,-,-,hlb,e1a,e1b,e2a,e2b,ht1,ht2⟩:=hy.two;obtain⟨xa0,xn0,xq0,rfl⟩:=hcs;have HOO:=zq (hG (k:=8) (ty:=ty) (g:=h1) (h:=h2) (by omega));have H1:=zq (ht1.move (.weaken (G:=(fun x=>G x∧x<w.heap.size)) fun b h hl=>⟨h,hl⟩));have H2:=zq (ht2.move (.weaken (G:=(fun x=>G x∧x<w.heap.size)) fun b h hl=>⟨h,hl⟩));generalize aY 8 ty [h1,h2]=O at HOO ⊢;obtain⟨d2,hd2⟩ : ∃d2,h2.cons .int=d2:=⟨_,rfl⟩
  have HD1:=zq hd;have HD2:=zq hd2;clear hy ht1 ht2 hd hd2
  go_enter Try.func28,Try.ntmps28
  go_wp2_with fail
  refine(aW _ _).mono ?_;rintro e w1 ⟨rfl,hb1⟩;have HB1:=zq (al (al ag ag) hb1);have fR0:=a9 (aA (w:=w.alloc (.cells (nv 8 nm u tk ta tn tq fk fa fn fq lb ca cm cq) 28)) (o:=.cells #[.int .i64 0,.slice none 0 0] 25) (b:=w.heap.size+1) (by simp)) hb1;have fE0:=a9 (a9 (aA (w:=w) (o:=.cells (nv 8 nm u tk ta tn tq fk fa fn fq lb ca cm cq) 28) rfl) (ag (o:=.cells #[.int .i64 0,.slice none 0 0] 25))) hb1;clear hb1
  go_wp2_with fail
  refine(aW _ _).mono ?_;rintro e w2 ⟨rfl,hb2⟩;replace fE0:=a9 fE0 hb2;replace HB1:=mh hb2 HB1;replace fR0:=a9 fR0 hb2;have hlr:=aw fR0;clear hb2;have d0:=ah fE0 (o:=0) rfl;have d1:=ah fE0 (o:=1) rfl;have lE:=aw fE0;have lE2:w.heap.size<w2.heap.size+1+1:=by omega
  have lE1:w.heap.size<w2.heap.size+1:=by omega
  skip
  have lE3:w.heap.size<w2.heap.size+1+1+1:=by omega
  go_wp2_with fail
  generalize hVV:World.alloc (World.alloc (World.alloc w2 _) _) _=VV;obtain⟨hv,o1,o2,o3,zV⟩:=alE3 hVV;have hw:=al HB1.out hv;have fR:=a9 fR0 hv;have f2:=o1;have fT:=o3;have fC:=zq hw;have c1a_:=af hw e1a;have c1b_:=af hw e1b;have h1_:=zq (H1.out.below hw);have c2a_:=af hw e2a;have c2b_:=af hw e2b;have h2_:=zq (H2.out.below hw);clear hw;clear hv o1 o2 o3;refine wh8 (bc0 f2) (bc1 f2) (bc0 fT) (bc1 fT) c1a_ c1b_ c2a_ c2b_ (fun U11 hb zU11a zU11b hH0=>?_);replace fR:=a9 fR hb;replace f2:=a9 f2 hb;replace fT:=a9 fT hb;replace fC:=mh hb fC;replace c1a_:=af hb c1a_;replace c1b_:=af hb c1b_;replace h1_:=mh hb h1_;replace c2a_:=af hb c2a_;replace c2b_:=af hb c2b_;replace h2_:=mh hb h2_;rw[zV] at zU11a zU11b;clear hb hVV zV;refine hwq hx0 (.agg #[.int .i64 2,.slice none 0 0]) hH0 ?_;refine hwq hx1 (.agg #[.int .i64 2,.slice none 0 0]) hH0 ?_;refine hwq hx3 (.agg #[.int .i64 3,.slice none 0 0]) hH0 ?_;refine hwq hx4 (.slice (some ⟨b,off,none⟩) 2 cap) hH0 ?_;refine hwq hx5 (.pointer (some ⟨b,off,none⟩)) hH0 ?_;refine hwq hx6 (.agg #[.int .i64 k1,.slice c1 m1 q1]) hH0 ?_;refine hwq hx7 (.agg #[.int .i64 2,.slice none 0 0]) hH0 ?_;refine wpAnyH_ready (rs:= [2,8]) (by kernel_rfl) (by simp) ?_;refine(AllReadyH.cons hx2 (fun K hK=>?_) (AllReadyH.cons hx8 (fun K hK=>?_) AllReadyH.nil))
  ·skip
   go_simp
   (try go_wp2_with fail);generalize hXq:World.alloc U11 _=X1;obtain⟨hb,fL,zX1a,zX1b⟩:=alE hXq;replace fR:=a9 fR hb;replace f2:=a9 f2 hb;replace fT:=a9 fT hb;replace fC:=mh hb fC;replace c1a_:=af hb c1a_;replace c1b_:=af hb c1b_;replace h1_:=mh hb h1_;replace c2a_:=af hb c2a_;replace c2b_:=af hb c2b_;replace h2_:=mh hb h2_;refine hko hK (fun hH1=>?_);clear hK K hH0 hb hXq
   try simp only[hwA]
   refine hwe hx8 (fun K hK=>?_)
   go_simp
   go_at_call 21
   refine(aU _ (fun _=>True) _ (.mk 2 []) _ _ _ h1_.out (ai.leaf 2)).mono ?_;rintro e X2 ⟨rfl,hb⟩;rw[show(Ty.mk 2 [])=S.int.ty from rfl,S.ty_cons,HD1.out]
   go_wp2_with fail
   have zX2:=hb.size;replace fR:=a9 fR hb;replace f2:=a9 f2 hb;replace fT:=a9 fT hb;replace fC:=mh hb fC;replace c1a_:=af hb c1a_;replace c1b_:=af hb c1b_;replace h1_:=mh hb h1_;replace c2a_:=af hb c2a_;replace c2b_:=af hb c2b_;replace h2_:=mh hb h2_;replace fL:=a9 fL hb;refine hko hK (fun hH2=>?_);clear hK K hH1 hb
   try simp only[hwA]
   refine hwq hx9 (.bool false) hH2 ?_;refine hwu bd hH2 ?_;refine hwu bl hH2 ?_;refine hwu bz hH2 ?_;refine hwu bA hH2 ?_;refine hwu bB hH2 ?_;refine hwq bF (.bool false) hH2 ?_;refine hwq bI (.slice (some ⟨U11.heap.size,0,none⟩) 2 2) hH2 ?_;refine hwe co (fun K hK=>?_);obtain⟨r0,r1,rf0,rf1⟩:=b8 fR
   go_simp
   (try go_wp2_with fail);have hQq:=aJ fR (.int .i64 3) (.slice none 0 0);clear fR r0 rf0 r1 rf1;obtain⟨X3,hXq,hsq,fR,zX3a,zX3b⟩:=hQq;rw[hXq];replace f2:=hsq.bk f2;replace fT:=hsq.bk fT;replace fC:=hsq.be fC;replace c1a_:=hsq.cq c1a_;replace c1b_:=hsq.cq c1b_;replace h1_:=zq (hsq.rep (fun b hb=>by have h1:=hb.2;omega) h1_.out);replace c2a_:=hsq.cq c2a_;replace c2b_:=hsq.cq c2b_;replace h2_:=zq (hsq.rep (fun b hb=>by have h1:=hb.2;omega) h2_.out);replace fL:=hsq.bk fL;refine hko hK (fun hH3=>?_);clear hK K hH2 hsq hXq
   try simp only[hwA]
   refine hwq cD (.bool false) hH3 ?_;refine hwd ?_;clear hH3;obtain⟨rc0,rc1⟩:=blk2 fR
   go_wp2_with fail
   refine bq (.tuple #[.slice (some ⟨U11.heap.size,0,none⟩) 2 2,.agg #[.int .i64 3,.slice none 0 0],.bool false]) (by simp[results,Try.results28,go_sem,rc0,rc1]) ?_;have hw2:w.heap.size<=w2.heap.size:=HB1.out.size;have HN:O=none:=by rw[HOO.out,HD1.out];rfl
   exact⟨_,_,_,_,_,_,_,_,rfl,by rw[HN];rfl,(by rw[HN];intro ws t h;cases h),fC.out⟩
  ·skip
   go_simp
   go_at_call 21
   refine(aU _ (fun _=>True) _ (.mk 2 []) _ _ _ h1_.out (ai.leaf 2)).mono ?_;rintro e X4 ⟨rfl,hb⟩;rw[show(Ty.mk 2 [])=S.int.ty from rfl,S.ty_cons,HD1.out]
   go_wp2_with fail
   have zX4:=hb.size;replace fR:=a9 fR hb;replace f2:=a9 f2 hb;replace fT:=a9 fT hb;replace fC:=mh hb fC;replace c1a_:=af hb c1a_;replace c1b_:=af hb c1b_;replace h1_:=mh hb h1_;replace c2a_:=af hb c2a_;replace c2b_:=af hb c2b_;replace h2_:=mh hb h2_;refine hko hK (fun hH1=>?_);clear hK K hH0 hb
   try simp only[hwA]
   refine hwq hx9 (.bool false) hH1 ?_;refine hwu bd hH1 ?_;refine hwu bl hH1 ?_;refine hwu bz hH1 ?_;refine hwu bA hH1 ?_;refine hwu bB hH1 ?_;refine hwq bF (.bool false) hH1 ?_;refine hwe hx2 (fun K hK=>?_)
   go_simp
   (try go_wp2_with fail);generalize hXq:World.alloc X4 _=X5;obtain⟨hb,fL,zX5a,zX5b⟩:=alE hXq;replace fR:=a9 fR hb;replace f2:=a9 f2 hb;replace fT:=a9 fT hb;replace fC:=mh hb fC;replace c1a_:=af hb c1a_;replace c1b_:=af hb c1b_;replace h1_:=mh hb h1_;replace c2a_:=af hb c2a_;replace c2b_:=af hb c2b_;replace h2_:=mh hb h2_;refine hko hK (fun hH4=>?_);clear hK K hH1 hb hXq
   try simp only[hwA]
   refine hwq bI (.slice (some ⟨X4.heap.size,0,none⟩) 2 2) hH4 ?_;refine hwe co (fun K hK=>?_);obtain⟨r0,r1,rf0,rf1⟩:=b8 fR
   go_simp
   (try go_wp2_with fail);have hQq:=aJ fR (.int .i64 3) (.slice none 0 0);clear fR r0 rf0 r1 rf1;obtain⟨X6,hXq,hsq,fR,zX6a,zX6b⟩:=hQq;rw[hXq];replace f2:=hsq.bk f2;replace fT:=hsq.bk fT;replace fC:=hsq.be fC;replace c1a_:=hsq.cq c1a_;replace c1b_:=hsq.cq c1b_;replace h1_:=zq (hsq.rep (fun b hb=>by have h1:=hb.2;omega) h1_.out);replace c2a_:=hsq.cq c2a_;replace c2b_:=hsq.cq c2b_;replace h2_:=zq (hsq.rep (fun b hb=>by have h1:=hb.2;omega) h2_.out);replace fL:=hsq.bk fL;refine hko hK (fun hH5=>?_);clear hK K hH4 hsq hXq
   try simp only[hwA]
   refine hwq cD (.bool false) hH5 ?_;refine hwd ?_;clear hH5;obtain⟨rc0,rc1⟩:=blk2 fR
   go_wp2_with fail
   refine bq (.tuple #[.slice (some ⟨X4.heap.size,0,none⟩) 2 2,.agg #[.int .i64 3,.slice none 0 0],.bool false]) (by simp[results,Try.results28,go_sem,rc0,rc1]) ?_;have hw2:w.heap.size<=w2.heap.size:=HB1.out.size;have HN:O=none:=by rw[HOO.out,HD1.out];rfl
   exact⟨_,_,_,_,_,_,_,_,rfl,by rw[HN];rfl,(by rw[HN];intro ws t h;cases h),fC.out⟩
theorem jv (G:Nat->Prop)(c y:Value)(hcs : ∃a n q,c = .slice a n q)(nm:ByteArray)(u lb tk fk:Int)(ty:Ty)(ta fa ca:Option Addr)(tn tq fn fq cm cq:Nat)(w:World)(h1 h2:S)(hd:h1.cons .int=true)(hy:av G w [h1.ty,h2.ty] y) :
    Calls Try.prog 28 #[c,.agg (nv 8 nm u tk ta tn tq fk fa fn fq lb ca cm cq),y] w (cS G (aY 8 ty [h1,h2]) w):=by
  obtain⟨b,off,cap,k1,c1,m1,q1,k2,c2,m2,q2,rfl,-,-,hlb,e1a,e1b,e2a,e2b,ht1,ht2⟩:=hy.two;obtain⟨xa0,xn0,xq0,rfl⟩:=hcs;have HOO:=zq (hG (k:=8) (ty:=ty) (g:=h1) (h:=h2) (by omega));have H1:=zq (ht1.move (.weaken (G:=(fun x=>G x∧x<w.heap.size)) fun b h hl=>⟨h,hl⟩));have H2:=zq (ht2.move (.weaken (G:=(fun x=>G x∧x<w.heap.size)) fun b h hl=>⟨h,hl⟩));generalize aY 8 ty [h1,h2]=O at HOO ⊢;obtain⟨d2,hd2⟩ : ∃d2,h2.cons .int=d2:=⟨_,rfl⟩
  have HD1:=zq hd;have HD2:=zq hd2;clear hy ht1 ht2 hd hd2
  go_enter Try.func28,Try.ntmps28
  go_wp2_with fail
  refine(aW _ _).mono ?_;rintro e w1 ⟨rfl,hb1⟩;have HB1:=zq (al (al ag ag) hb1);have fR0:=a9 (aA (w:=w.alloc (.cells (nv 8 nm u tk ta tn tq fk fa fn fq lb ca cm cq) 28)) (o:=.cells #[.int .i64 0,.slice none 0 0] 25) (b:=w.heap.size+1) (by simp)) hb1;have fE0:=a9 (a9 (aA (w:=w) (o:=.cells (nv 8 nm u tk ta tn tq fk fa fn fq lb ca cm cq) 28) rfl) (ag (o:=.cells #[.int .i64 0,.slice none 0 0] 25))) hb1;clear hb1
  go_wp2_with fail
  refine(aW _ _).mono ?_;rintro e w2 ⟨rfl,hb2⟩;replace fE0:=a9 fE0 hb2;replace HB1:=mh hb2 HB1;replace fR0:=a9 fR0 hb2;have hlr:=aw fR0;clear hb2;have d0:=ah fE0 (o:=0) rfl;have d1:=ah fE0 (o:=1) rfl;have lE:=aw fE0;have lE2:w.heap.size<w2.heap.size+1+1:=by omega
  have lE1:w.heap.size<w2.heap.size+1:=by omega
  skip
  have lE3:w.heap.size<w2.heap.size+1+1+1:=by omega
  go_wp2_with fail
  generalize hVV:World.alloc (World.alloc (World.alloc w2 _) _) _=VV;obtain⟨hv,o1,o2,o3,zV⟩:=alE3 hVV;have hw:=al HB1.out hv;have fR:=a9 fR0 hv;have f2:=o1;have fT:=o3;have fC:=zq hw;have c1a_:=af hw e1a;have c1b_:=af hw e1b;have h1_:=zq (H1.out.below hw);have c2a_:=af hw e2a;have c2b_:=af hw e2b;have h2_:=zq (H2.out.below hw);clear hw;clear hv o1 o2 o3;refine wh8 (bc0 f2) (bc1 f2) (bc0 fT) (bc1 fT) c1a_ c1b_ c2a_ c2b_ (fun U12 hb zU12a zU12b hH0=>?_);replace fR:=a9 fR hb;replace f2:=a9 f2 hb;replace fT:=a9 fT hb;replace fC:=mh hb fC;replace c1a_:=af hb c1a_;replace c1b_:=af hb c1b_;replace h1_:=mh hb h1_;replace c2a_:=af hb c2a_;replace c2b_:=af hb c2b_;replace h2_:=mh hb h2_;rw[zV] at zU12a zU12b;clear hb hVV zV;refine hwq hx0 (.agg #[.int .i64 2,.slice none 0 0]) hH0 ?_;refine hwq hx1 (.agg #[.int .i64 2,.slice none 0 0]) hH0 ?_;refine hwq hx3 (.agg #[.int .i64 3,.slice none 0 0]) hH0 ?_;refine hwq hx4 (.slice (some ⟨b,off,none⟩) 2 cap) hH0 ?_;refine hwq hx5 (.pointer (some ⟨b,off,none⟩)) hH0 ?_;refine hwq hx6 (.agg #[.int .i64 k1,.slice c1 m1 q1]) hH0 ?_;refine hwq hx7 (.agg #[.int .i64 2,.slice none 0 0]) hH0 ?_;refine wpAnyH_ready (rs:= [2,8]) (by kernel_rfl) (by simp) ?_;refine(AllReadyH.cons hx2 (fun K hK=>?_) (AllReadyH.cons hx8 (fun K hK=>?_) AllReadyH.nil))
  ·skip
   go_simp
   (try go_wp2_with fail);generalize hXq:World.alloc U12 _=X1;obtain⟨hb,fL,zX1a,zX1b⟩:=alE hXq;replace fR:=a9 fR hb;replace f2:=a9 f2 hb;replace fT:=a9 fT hb;replace fC:=mh hb fC;replace c1a_:=af hb c1a_;replace c1b_:=af hb c1b_;replace h1_:=mh hb h1_;replace c2a_:=af hb c2a_;replace c2b_:=af hb c2b_;replace h2_:=mh hb h2_;refine hko hK (fun hH1=>?_);clear hK K hH0 hb hXq
   try simp only[hwA]
   refine hwe hx8 (fun K hK=>?_)
   go_simp
   go_at_call 21
   refine(aU _ (fun _=>True) _ (.mk 2 []) _ _ _ h1_.out (ai.leaf 2)).mono ?_;rintro e X2 ⟨rfl,hb⟩;rw[show(Ty.mk 2 [])=S.int.ty from rfl,S.ty_cons,HD1.out]
   go_wp2_with fail
   have zX2:=hb.size;replace fR:=a9 fR hb;replace f2:=a9 f2 hb;replace fT:=a9 fT hb;replace fC:=mh hb fC;replace c1a_:=af hb c1a_;replace c1b_:=af hb c1b_;replace h1_:=mh hb h1_;replace c2a_:=af hb c2a_;replace c2b_:=af hb c2b_;replace h2_:=mh hb h2_;replace fL:=a9 fL hb;refine hko hK (fun hH2=>?_);clear hK K hH1 hb
   try simp only[hwA]
   refine hwq hx9 (.bool true) hH2 ?_;refine hwq bd (.slice (some ⟨b,off,none⟩) 2 cap) hH2 ?_;refine hwq bl (.pointer (some ⟨b,off+2,none⟩)) hH2 ?_;refine hwq bz (.agg #[.int .i64 k2,.slice c2 m2 q2]) hH2 ?_;refine hwq bA (.agg #[.int .i64 2,.slice none 0 0]) hH2 ?_;refine hwe bB (fun K hK=>?_)
   go_simp
   go_at_call 21
   refine(aU _ (fun _=>True) _ (.mk 2 []) _ _ _ h2_.out (ai.leaf 2)).mono ?_;rintro e X3 ⟨rfl,hb⟩;rw[show(Ty.mk 2 [])=S.int.ty from rfl,S.ty_cons,HD2.out]
   go_wp2_with fail
   have zX3:=hb.size;replace fR:=a9 fR hb;replace f2:=a9 f2 hb;replace fT:=a9 fT hb;replace fC:=mh hb fC;replace c1a_:=af hb c1a_;replace c1b_:=af hb c1b_;replace h1_:=mh hb h1_;replace c2a_:=af hb c2a_;replace c2b_:=af hb c2b_;replace h2_:=mh hb h2_;replace fL:=a9 fL hb;refine hko hK (fun hH3=>?_);clear hK K hH2 hb
   try simp only[hwA]
   refine hwq bF (.bool d2) hH3 ?_;refine hwq bI (.slice (some ⟨U12.heap.size,0,none⟩) 2 2) hH3 ?_;refine hwe co (fun K hK=>?_);obtain⟨r0,r1,rf0,rf1⟩:=b8 fR
   go_simp
   (try go_wp2_with fail);have hQq:=aJ fR (.int .i64 3) (.slice none 0 0);clear fR r0 rf0 r1 rf1;obtain⟨X4,hXq,hsq,fR,zX4a,zX4b⟩:=hQq;rw[hXq];replace f2:=hsq.bk f2;replace fT:=hsq.bk fT;replace fC:=hsq.be fC;replace c1a_:=hsq.cq c1a_;replace c1b_:=hsq.cq c1b_;replace h1_:=zq (hsq.rep (fun b hb=>by have h1:=hb.2;omega) h1_.out);replace c2a_:=hsq.cq c2a_;replace c2b_:=hsq.cq c2b_;replace h2_:=zq (hsq.rep (fun b hb=>by have h1:=hb.2;omega) h2_.out);replace fL:=hsq.bk fL;refine hko hK (fun hH4=>?_);clear hK K hH3 hsq hXq
   try simp only[hwA]
   refine hwq cD (.bool d2) hH4 ?_;refine hwd ?_;clear hH4;obtain⟨rc0,rc1⟩:=blk2 fR
   go_wp2_with fail
   refine bq (.tuple #[.slice (some ⟨U12.heap.size,0,none⟩) 2 2,.agg #[.int .i64 3,.slice none 0 0],.bool d2]) (by simp[results,Try.results28,go_sem,rc0,rc1]) ?_;have hw2:w.heap.size<=w2.heap.size:=HB1.out.size;have HN:O=if d2=true then some ([S.int,S.int],S.bool) else none:=by rw[HOO.out,HD1.out,HD2.out,Bool.true_and];simp
   refine⟨_,_,_,_,_,_,_,_,rfl,by rw[HN];cases d2<;>rfl,?_,fC.out⟩;intro ws t h;rw[HN] at h
   cases d2 with
   | false=>cases h
   | true=>
     simp only[if_true,Option.some.injEq,Prod.mk.injEq] at h;obtain⟨rfl,rfl⟩:=h
     exact⟨av.two_mk (b:=U12.heap.size) (cap:=2) (k1:=2) (k2:=2) (c1:=.slice none 0 0) (c2:=.slice none 0 0) (.inr (by omega)) (Nat.le_refl 2) (by unfold maxLen;omega) (ah fL (o:=0) rfl) (ah fL (o:=1) rfl) (ah fL (o:=2) rfl) (ah fL (o:=3) rfl) (ai.leafG 2) (ai.leafG 2),ai.leafG 3⟩
  ·skip
   go_simp
   go_at_call 21
   refine(aU _ (fun _=>True) _ (.mk 2 []) _ _ _ h1_.out (ai.leaf 2)).mono ?_;rintro e X5 ⟨rfl,hb⟩;rw[show(Ty.mk 2 [])=S.int.ty from rfl,S.ty_cons,HD1.out]
   go_wp2_with fail
   have zX5:=hb.size;replace fR:=a9 fR hb;replace f2:=a9 f2 hb;replace fT:=a9 fT hb;replace fC:=mh hb fC;replace c1a_:=af hb c1a_;replace c1b_:=af hb c1b_;replace h1_:=mh hb h1_;replace c2a_:=af hb c2a_;replace c2b_:=af hb c2b_;replace h2_:=mh hb h2_;refine hko hK (fun hH1=>?_);clear hK K hH0 hb
   try simp only[hwA]
   refine hwq hx9 (.bool true) hH1 ?_;refine hwq bd (.slice (some ⟨b,off,none⟩) 2 cap) hH1 ?_;refine hwq bl (.pointer (some ⟨b,off+2,none⟩)) hH1 ?_;refine hwq bz (.agg #[.int .i64 k2,.slice c2 m2 q2]) hH1 ?_;refine hwq bA (.agg #[.int .i64 2,.slice none 0 0]) hH1 ?_;refine wpAnyH_ready (rs:= [2,14]) (by kernel_rfl) (by simp) ?_;refine(AllReadyH.cons hx2 (fun K hK=>?_) (AllReadyH.cons bB (fun K hK=>?_) AllReadyH.nil))
   ·skip
    go_simp
    (try go_wp2_with fail);generalize hXq:World.alloc X5 _=X6;obtain⟨hb,fL,zX6a,zX6b⟩:=alE hXq;replace fR:=a9 fR hb;replace f2:=a9 f2 hb;replace fT:=a9 fT hb;replace fC:=mh hb fC;replace c1a_:=af hb c1a_;replace c1b_:=af hb c1b_;replace h1_:=mh hb h1_;replace c2a_:=af hb c2a_;replace c2b_:=af hb c2b_;replace h2_:=mh hb h2_;refine hko hK (fun hH5=>?_);clear hK K hH1 hb hXq
    try simp only[hwA]
    refine hwe bB (fun K hK=>?_)
    go_simp
    go_at_call 21
    refine(aU _ (fun _=>True) _ (.mk 2 []) _ _ _ h2_.out (ai.leaf 2)).mono ?_;rintro e X7 ⟨rfl,hb⟩;rw[show(Ty.mk 2 [])=S.int.ty from rfl,S.ty_cons,HD2.out]
    go_wp2_with fail
    have zX7:=hb.size;replace fR:=a9 fR hb;replace f2:=a9 f2 hb;replace fT:=a9 fT hb;replace fC:=mh hb fC;replace c1a_:=af hb c1a_;replace c1b_:=af hb c1b_;replace h1_:=mh hb h1_;replace c2a_:=af hb c2a_;replace c2b_:=af hb c2b_;replace h2_:=mh hb h2_;replace fL:=a9 fL hb;refine hko hK (fun hH6=>?_);clear hK K hH5 hb
    try simp only[hwA]
    refine hwq bF (.bool d2) hH6 ?_;refine hwq bI (.slice (some ⟨X5.heap.size,0,none⟩) 2 2) hH6 ?_;refine hwe co (fun K hK=>?_);obtain⟨r0,r1,rf0,rf1⟩:=b8 fR
    go_simp
    (try go_wp2_with fail);have hQq:=aJ fR (.int .i64 3) (.slice none 0 0);clear fR r0 rf0 r1 rf1;obtain⟨X8,hXq,hsq,fR,zX8a,zX8b⟩:=hQq;rw[hXq];replace f2:=hsq.bk f2;replace fT:=hsq.bk fT;replace fC:=hsq.be fC;replace c1a_:=hsq.cq c1a_;replace c1b_:=hsq.cq c1b_;replace h1_:=zq (hsq.rep (fun b hb=>by have h1:=hb.2;omega) h1_.out);replace c2a_:=hsq.cq c2a_;replace c2b_:=hsq.cq c2b_;replace h2_:=zq (hsq.rep (fun b hb=>by have h1:=hb.2;omega) h2_.out);replace fL:=hsq.bk fL;refine hko hK (fun hH7=>?_);clear hK K hH6 hsq hXq
    try simp only[hwA]
    refine hwq cD (.bool d2) hH7 ?_;refine hwd ?_;clear hH7;obtain⟨rc0,rc1⟩:=blk2 fR
    go_wp2_with fail
    refine bq (.tuple #[.slice (some ⟨X5.heap.size,0,none⟩) 2 2,.agg #[.int .i64 3,.slice none 0 0],.bool d2]) (by simp[results,Try.results28,go_sem,rc0,rc1]) ?_;have hw2:w.heap.size<=w2.heap.size:=HB1.out.size;have HN:O=if d2=true then some ([S.int,S.int],S.bool) else none:=by rw[HOO.out,HD1.out,HD2.out,Bool.true_and];simp
    refine⟨_,_,_,_,_,_,_,_,rfl,by rw[HN];cases d2<;>rfl,?_,fC.out⟩;intro ws t h;rw[HN] at h
    cases d2 with
    | false=>cases h
    | true=>
      simp only[if_true,Option.some.injEq,Prod.mk.injEq] at h;obtain⟨rfl,rfl⟩:=h
      exact⟨av.two_mk (b:=X5.heap.size) (cap:=2) (k1:=2) (k2:=2) (c1:=.slice none 0 0) (c2:=.slice none 0 0) (.inr (by omega)) (Nat.le_refl 2) (by unfold maxLen;omega) (ah fL (o:=0) rfl) (ah fL (o:=1) rfl) (ah fL (o:=2) rfl) (ah fL (o:=3) rfl) (ai.leafG 2) (ai.leafG 2),ai.leafG 3⟩
   ·skip
    go_simp
    go_at_call 21
    refine(aU _ (fun _=>True) _ (.mk 2 []) _ _ _ h2_.out (ai.leaf 2)).mono ?_;rintro e X9 ⟨rfl,hb⟩;rw[show(Ty.mk 2 [])=S.int.ty from rfl,S.ty_cons,HD2.out]
    go_wp2_with fail
    have zX9:=hb.size;replace fR:=a9 fR hb;replace f2:=a9 f2 hb;replace fT:=a9 fT hb;replace fC:=mh hb fC;replace c1a_:=af hb c1a_;replace c1b_:=af hb c1b_;replace h1_:=mh hb h1_;replace c2a_:=af hb c2a_;replace c2b_:=af hb c2b_;replace h2_:=mh hb h2_;refine hko hK (fun hH5=>?_);clear hK K hH1 hb
    try simp only[hwA]
    refine hwq bF (.bool d2) hH5 ?_;refine hwe hx2 (fun K hK=>?_)
    go_simp
    (try go_wp2_with fail);generalize hXq:World.alloc X9 _=X10;obtain⟨hb,fL,zX10a,zX10b⟩:=alE hXq;replace fR:=a9 fR hb;replace f2:=a9 f2 hb;replace fT:=a9 fT hb;replace fC:=mh hb fC;replace c1a_:=af hb c1a_;replace c1b_:=af hb c1b_;replace h1_:=mh hb h1_;replace c2a_:=af hb c2a_;replace c2b_:=af hb c2b_;replace h2_:=mh hb h2_;refine hko hK (fun hH8=>?_);clear hK K hH5 hb hXq
    try simp only[hwA]
    refine hwq bI (.slice (some ⟨X9.heap.size,0,none⟩) 2 2) hH8 ?_;refine hwe co (fun K hK=>?_);obtain⟨r0,r1,rf0,rf1⟩:=b8 fR
    go_simp
    (try go_wp2_with fail);have hQq:=aJ fR (.int .i64 3) (.slice none 0 0);clear fR r0 rf0 r1 rf1;obtain⟨X11,hXq,hsq,fR,zX11a,zX11b⟩:=hQq;rw[hXq];replace f2:=hsq.bk f2;replace fT:=hsq.bk fT;replace fC:=hsq.be fC;replace c1a_:=hsq.cq c1a_;replace c1b_:=hsq.cq c1b_;replace h1_:=zq (hsq.rep (fun b hb=>by have h1:=hb.2;omega) h1_.out);replace c2a_:=hsq.cq c2a_;replace c2b_:=hsq.cq c2b_;replace h2_:=zq (hsq.rep (fun b hb=>by have h1:=hb.2;omega) h2_.out);replace fL:=hsq.bk fL;refine hko hK (fun hH9=>?_);clear hK K hH8 hsq hXq
    try simp only[hwA]
    refine hwq cD (.bool d2) hH9 ?_;refine hwd ?_;clear hH9;obtain⟨rc0,rc1⟩:=blk2 fR
    go_wp2_with fail
    refine bq (.tuple #[.slice (some ⟨X9.heap.size,0,none⟩) 2 2,.agg #[.int .i64 3,.slice none 0 0],.bool d2]) (by simp[results,Try.results28,go_sem,rc0,rc1]) ?_;have hw2:w.heap.size<=w2.heap.size:=HB1.out.size;have HN:O=if d2=true then some ([S.int,S.int],S.bool) else none:=by rw[HOO.out,HD1.out,HD2.out,Bool.true_and];simp
    refine⟨_,_,_,_,_,_,_,_,rfl,by rw[HN];cases d2<;>rfl,?_,fC.out⟩;intro ws t h;rw[HN] at h
    cases d2 with
    | false=>cases h
    | true=>
      simp only[if_true,Option.some.injEq,Prod.mk.injEq] at h;obtain⟨rfl,rfl⟩:=h
      exact⟨av.two_mk (b:=X9.heap.size) (cap:=2) (k1:=2) (k2:=2) (c1:=.slice none 0 0) (c2:=.slice none 0 0) (.inr (by omega)) (Nat.le_refl 2) (by unfold maxLen;omega) (ah fL (o:=0) rfl) (ah fL (o:=1) rfl) (ah fL (o:=2) rfl) (ah fL (o:=3) rfl) (ai.leafG 2) (ai.leafG 2),ai.leafG 3⟩
end Go.Proofs.Ytfhglkmjibjjoaa
