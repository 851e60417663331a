/- Less precise types are drawn. And what else its parts name. -/
import Derived.Test.YtfhglkmjibjjoaaB18
import Derived.Test.YtfhglkmjibjjoaaB23
set_option linter.unusedSimpArgs false
set_option linter.unusedVariables false
set_option maxRecDepth 100000
set_option maxHeartbeats 16000000
namespace Go.Proofs.Ytfhglkmjibjjoaa
open Go.RowKit
def cS (G:Nat->Prop)(o:Option (List S × S))(w:World)(e:Ending)(w':World):Prop:=∃(k:Int) (a:Option Addr) (n q:Nat) (xa:Option Addr) (xn xq:Nat) (b:Bool),e = .returned (.tuple #[.slice xa xn xq,.agg #[.int .i64 k,.slice a n q],.bool b])∧b=o.isSome ∧
 (∀ws t,o=some (ws,t)->av (fun x=>G x∨w.heap.size<=x) w' (ws.map S.ty) (.slice xa xn xq)∧ai (fun x=>G x∨w.heap.size<=x) w' t.ty (.agg #[.int .i64 k,.slice a n q]))∧Below w.heap.size w w'
theorem av.nilG {H:Nat->Prop}{w:World}:av H w [] (.slice none 0 0):=by
 unfold av aL
 exact⟨none,0,rfl,Nat.le_refl _,by unfold maxLen;omega,.inl rfl⟩
theorem aW (k:Int)(w:World):Calls Try.prog 49 #[.int .i64 k] w fun e w'=>e = .returned (.agg #[.int .i64 k,.slice none 0 0])∧Below w.heap.size w w':=by
 go_enter Try.func49,Try.ntmps49
 go_wp2_with fail
 refine bq (.agg #[.int .i64 k,.slice none 0 0]) (by simp[results,Try.results49,go_sem]) ?_
 exact⟨rfl,ag⟩
theorem lo (G:Nat->Prop)(c y:Value)(hc : ∃a n q,c = .slice a n q)(hy : ∃a n q,y = .slice a n q)(nm:ByteArray)(u lb tk fk:Int)(ta fa ca:Option Addr)(tn tq fn fq cm cq:Nat)(w:World) :
  Calls Try.prog 28 #[c,.agg (nv 2 nm u tk ta tn tq fk fa fn fq lb ca cm cq),y] w (cS G (some ([],S.int)) w):=by
 obtain⟨xa0,xn0,xq0,rfl⟩:=hc;obtain⟨ya0,yn0,yq0,rfl⟩:=hy;obtain⟨O,hO⟩ : ∃O:Option (List S × S),O=some ([],S.int):=⟨_,rfl⟩
 rw[<-hO];have HO:=zq hO;clear hO
 go_enter Try.func28,Try.ntmps28
 go_wp2_with fail
 refine(aW _ _).mono ?_;rintro e w1 ⟨rfl,hb1⟩;have HB1:=zq (al (al ag ag) hb1);have fR0:=a9 (aA (w:=w.alloc (.cells (nv 2 nm u tk ta tn tq fk fa fn fq lb ca cm cq) 28)) (o:=.cells #[.int .i64 0,.slice none 0 0] 25) (b:=w.heap.size+1) (by simp)) hb1;have fE0:=a9 (a9 (aA (w:=w) (o:=.cells (nv 2 nm u tk ta tn tq fk fa fn fq lb ca cm cq) 28) rfl) (ag (o:=.cells #[.int .i64 0,.slice none 0 0] 25))) hb1;clear hb1
 go_wp2_with fail
 refine(aW _ _).mono ?_;rintro e w2 ⟨rfl,hb2⟩;replace fE0:=a9 fE0 hb2;replace HB1:=mh hb2 HB1;replace fR0:=a9 fR0 hb2;have hlr:=aw fR0;clear hb2;have d0:=ah fE0 (o:=0) rfl;have d1:=ah fE0 (o:=1) rfl;have lE:=aw fE0;have lE2:w.heap.size<w2.heap.size+1+1:=by omega
 have lE1:w.heap.size<w2.heap.size+1:=by omega
 go_wp2_with fail
 generalize hVV:World.alloc (World.alloc w2 _) _=VV;obtain⟨hv,o1,o2,zV⟩:=bO hVV;have fR:=a9 fR0 hv;have f2:=o1;have f3:=o2;have fC:=zq (al HB1.out hv);clear hv o1 o2;refine wh2 (bc0 f2) (bc1 f2) (fun U1 hb zU1a zU1b hH0=>?_);replace fR:=a9 fR hb;replace f2:=a9 f2 hb;replace f3:=a9 f3 hb;replace fC:=mh hb fC;rw[zV] at zU1a zU1b;clear hb hVV zV;refine hwq hx0 (.agg #[.int .i64 2,.slice none 0 0]) hH0 ?_;refine hwq hx1 (.slice none 0 0) hH0 ?_;refine hwe hx2 (fun K hK=>?_);obtain⟨r0,r1,rf0,rf1⟩:=b8 fR
 go_simp
 (try go_wp2_with fail);have hQq:=aJ fR (.int .i64 2) (.slice none 0 0);clear fR r0 rf0 r1 rf1;obtain⟨X1,hXq,hsq,fR,zX1a,zX1b⟩:=hQq;rw[hXq];replace f2:=hsq.bk f2;replace f3:=hsq.bk f3;replace fC:=hsq.be fC;refine hko hK (fun hH1=>?_);clear hK K hH0 hsq hXq
 try simp only[hwA]
 refine hwq hx3 (.bool true) hH1 ?_;refine hwd ?_;clear hH1;obtain⟨rc0,rc1⟩:=blk2 fR
 go_wp2_with fail
 refine bq (.tuple #[.slice none 0 0,.agg #[.int .i64 2,.slice none 0 0],.bool true]) (by simp[results,Try.results28,go_sem,rc0,rc1]) ?_
 exact⟨_,_,_,_,_,_,_,_,rfl,by rw[HO.out];rfl,(by rw[HO.out];intro ws t h;simp only[Option.some.injEq,Prod.mk.injEq] at h;obtain⟨rfl,rfl⟩:=h;exact⟨av.nilG,ai.leafG 2⟩),fC.out⟩
theorem lp (G:Nat->Prop)(c y:Value)(hc : ∃a n q,c = .slice a n q)(hy : ∃a n q,y = .slice a n q)(nm:ByteArray)(u lb tk fk:Int)(ta fa ca:Option Addr)(tn tq fn fq cm cq:Nat)(w:World) :
  Calls Try.prog 28 #[c,.agg (nv 3 nm u tk ta tn tq fk fa fn fq lb ca cm cq),y] w (cS G (some ([],S.bool)) w):=by
 obtain⟨xa0,xn0,xq0,rfl⟩:=hc;obtain⟨ya0,yn0,yq0,rfl⟩:=hy;obtain⟨O,hO⟩ : ∃O:Option (List S × S),O=some ([],S.bool):=⟨_,rfl⟩
 rw[<-hO];have HO:=zq hO;clear hO
 go_enter Try.func28,Try.ntmps28
 go_wp2_with fail
 refine(aW _ _).mono ?_;rintro e w1 ⟨rfl,hb1⟩;have HB1:=zq (al (al ag ag) hb1);have fR0:=a9 (aA (w:=w.alloc (.cells (nv 3 nm u tk ta tn tq fk fa fn fq lb ca cm cq) 28)) (o:=.cells #[.int .i64 0,.slice none 0 0] 25) (b:=w.heap.size+1) (by simp)) hb1;have fE0:=a9 (a9 (aA (w:=w) (o:=.cells (nv 3 nm u tk ta tn tq fk fa fn fq lb ca cm cq) 28) rfl) (ag (o:=.cells #[.int .i64 0,.slice none 0 0] 25))) hb1;clear hb1
 go_wp2_with fail
 refine(aW _ _).mono ?_;rintro e w2 ⟨rfl,hb2⟩;replace fE0:=a9 fE0 hb2;replace HB1:=mh hb2 HB1;replace fR0:=a9 fR0 hb2;have hlr:=aw fR0;clear hb2;have d0:=ah fE0 (o:=0) rfl;have d1:=ah fE0 (o:=1) rfl;have lE:=aw fE0;have lE2:w.heap.size<w2.heap.size+1+1:=by omega
 have lE1:w.heap.size<w2.heap.size+1:=by omega
 go_wp2_with fail
 generalize hVV:World.alloc (World.alloc w2 _) _=VV;obtain⟨hv,o1,o2,zV⟩:=bO hVV;have fR:=a9 fR0 hv;have f2:=o1;have f3:=o2;have fC:=zq (al HB1.out hv);clear hv o1 o2;refine wh2 (bc0 f3) (bc1 f3) (fun U2 hb zU2a zU2b hH0=>?_);replace fR:=a9 fR hb;replace f2:=a9 f2 hb;replace f3:=a9 f3 hb;replace fC:=mh hb fC;rw[zV] at zU2a zU2b;clear hb hVV zV;refine hwq hx0 (.agg #[.int .i64 3,.slice none 0 0]) hH0 ?_;refine hwq hx1 (.slice none 0 0) hH0 ?_;refine hwe hx2 (fun K hK=>?_);obtain⟨r0,r1,rf0,rf1⟩:=b8 fR
 go_simp
 (try go_wp2_with fail);have hQq:=aJ fR (.int .i64 3) (.slice none 0 0);clear fR r0 rf0 r1 rf1;obtain⟨X1,hXq,hsq,fR,zX1a,zX1b⟩:=hQq;rw[hXq];replace f2:=hsq.bk f2;replace f3:=hsq.bk f3;replace fC:=hsq.be fC;refine hko hK (fun hH1=>?_);clear hK K hH0 hsq hXq
 try simp only[hwA]
 refine hwq hx3 (.bool true) hH1 ?_;refine hwd ?_;clear hH1;obtain⟨rc0,rc1⟩:=blk2 fR
 go_wp2_with fail
 refine bq (.tuple #[.slice none 0 0,.agg #[.int .i64 3,.slice none 0 0],.bool true]) (by simp[results,Try.results28,go_sem,rc0,rc1]) ?_
 exact⟨_,_,_,_,_,_,_,_,rfl,by rw[HO.out];rfl,(by rw[HO.out];intro ws t h;simp only[Option.some.injEq,Prod.mk.injEq] at h;obtain⟨rfl,rfl⟩:=h;exact⟨av.nilG,ai.leafG 3⟩),fC.out⟩
theorem lq (G:Nat->Prop)(c y:Value)(hc : ∃a n q,c = .slice a n q)(hy : ∃a n q,y = .slice a n q)(nm:ByteArray)(u lb tk fk:Int)(ta fa ca:Option Addr)(tn tq fn fq cm cq:Nat)(w:World) :
  Calls Try.prog 28 #[c,.agg (nv 4 nm u tk ta tn tq fk fa fn fq lb ca cm cq),y] w (cS G (some ([],S.bool)) w):=by
 obtain⟨xa0,xn0,xq0,rfl⟩:=hc;obtain⟨ya0,yn0,yq0,rfl⟩:=hy;obtain⟨O,hO⟩ : ∃O:Option (List S × S),O=some ([],S.bool):=⟨_,rfl⟩
 rw[<-hO];have HO:=zq hO;clear hO
 go_enter Try.func28,Try.ntmps28
 go_wp2_with fail
 refine(aW _ _).mono ?_;rintro e w1 ⟨rfl,hb1⟩;have HB1:=zq (al (al ag ag) hb1);have fR0:=a9 (aA (w:=w.alloc (.cells (nv 4 nm u tk ta tn tq fk fa fn fq lb ca cm cq) 28)) (o:=.cells #[.int .i64 0,.slice none 0 0] 25) (b:=w.heap.size+1) (by simp)) hb1;have fE0:=a9 (a9 (aA (w:=w) (o:=.cells (nv 4 nm u tk ta tn tq fk fa fn fq lb ca cm cq) 28) rfl) (ag (o:=.cells #[.int .i64 0,.slice none 0 0] 25))) hb1;clear hb1
 go_wp2_with fail
 refine(aW _ _).mono ?_;rintro e w2 ⟨rfl,hb2⟩;replace fE0:=a9 fE0 hb2;replace HB1:=mh hb2 HB1;replace fR0:=a9 fR0 hb2;have hlr:=aw fR0;clear hb2;have d0:=ah fE0 (o:=0) rfl;have d1:=ah fE0 (o:=1) rfl;have lE:=aw fE0;have lE2:w.heap.size<w2.heap.size+1+1:=by omega
 have lE1:w.heap.size<w2.heap.size+1:=by omega
 go_wp2_with fail
 generalize hVV:World.alloc (World.alloc w2 _) _=VV;obtain⟨hv,o1,o2,zV⟩:=bO hVV;have fR:=a9 fR0 hv;have f2:=o1;have f3:=o2;have fC:=zq (al HB1.out hv);clear hv o1 o2;refine wh2 (bc0 f3) (bc1 f3) (fun U3 hb zU3a zU3b hH0=>?_);replace fR:=a9 fR hb;replace f2:=a9 f2 hb;replace f3:=a9 f3 hb;replace fC:=mh hb fC;rw[zV] at zU3a zU3b;clear hb hVV zV;refine hwq hx0 (.agg #[.int .i64 3,.slice none 0 0]) hH0 ?_;refine hwq hx1 (.slice none 0 0) hH0 ?_;refine hwe hx2 (fun K hK=>?_);obtain⟨r0,r1,rf0,rf1⟩:=b8 fR
 go_simp
 (try go_wp2_with fail);have hQq:=aJ fR (.int .i64 3) (.slice none 0 0);clear fR r0 rf0 r1 rf1;obtain⟨X1,hXq,hsq,fR,zX1a,zX1b⟩:=hQq;rw[hXq];replace f2:=hsq.bk f2;replace f3:=hsq.bk f3;replace fC:=hsq.be fC;refine hko hK (fun hH1=>?_);clear hK K hH0 hsq hXq
 try simp only[hwA]
 refine hwq hx3 (.bool true) hH1 ?_;refine hwd ?_;clear hH1;obtain⟨rc0,rc1⟩:=blk2 fR
 go_wp2_with fail
 refine bq (.tuple #[.slice none 0 0,.agg #[.int .i64 3,.slice none 0 0],.bool true]) (by simp[results,Try.results28,go_sem,rc0,rc1]) ?_
 exact⟨_,_,_,_,_,_,_,_,rfl,by rw[HO.out];rfl,(by rw[HO.out];intro ws t h;simp only[Option.some.injEq,Prod.mk.injEq] at h;obtain⟨rfl,rfl⟩:=h;exact⟨av.nilG,ai.leafG 3⟩),fC.out⟩
theorem ln (F:Nat->Prop)(l:List Bd)(c y:Value)(hcs : ∃a n q,c = .slice a n q)(hy : ∃a n q,y = .slice a n q)(nm:ByteArray)(u lb tk fk:Int)(ta fa ca:Option Addr)(tn tq fn fq cm cq:Nat)(w:World)(hb:aE F w l c)(hc:cz l) :
  Calls Try.prog 28 #[c,.agg (nv 1 nm u tk ta tn tq fk fa fn fq lb ca cm cq),y] w (cS F ((bS l nm l.length).map fun t=>([],t.toS)) w):=by
 have HL:=zq (fun W (h:Below w.heap.size w W)=>nM _ l nm c W ((hb.move (.weaken (G:=fun x=>F x∧x<w.heap.size) fun b h hl=>⟨h,hl⟩)).below h));have HVV:=zq (dR (nm:=nm) hc l.length);obtain⟨xa0,xn0,xq0,rfl⟩:=hcs;obtain⟨ya0,yn0,yq0,rfl⟩:=hy;clear hb hc;generalize bS l nm l.length=LO at HL HVV ⊢;obtain⟨O,hO⟩ : ∃O:Option (List S × S),O=(LO.map fun t=>([],t.toS)):=⟨_,rfl⟩
 rw[<-hO];have HO:=zq hO;clear hO
 go_enter Try.func28,Try.ntmps28
 go_wp2_with fail
 refine(aW _ _).mono ?_;rintro e w1 ⟨rfl,hb1⟩;have HB1:=zq (al (al ag ag) hb1);have fR0:=a9 (aA (w:=w.alloc (.cells (nv 1 nm u tk ta tn tq fk fa fn fq lb ca cm cq) 28)) (o:=.cells #[.int .i64 0,.slice none 0 0] 25) (b:=w.heap.size+1) (by simp)) hb1;have fE0:=a9 (a9 (aA (w:=w) (o:=.cells (nv 1 nm u tk ta tn tq fk fa fn fq lb ca cm cq) 28) rfl) (ag (o:=.cells #[.int .i64 0,.slice none 0 0] 25))) hb1;clear hb1
 go_wp2_with fail
 refine(aW _ _).mono ?_;rintro e w2 ⟨rfl,hb2⟩;replace fE0:=a9 fE0 hb2;replace HB1:=mh hb2 HB1;replace fR0:=a9 fR0 hb2;have hlr:=aw fR0;clear hb2;have d0:=ah fE0 (o:=0) rfl;have d1:=ah fE0 (o:=1) rfl;have lE:=aw fE0;have lE2:w.heap.size<w2.heap.size+1+1:=by omega
 have lE1:w.heap.size<w2.heap.size+1:=by omega
 go_wp2_with fail
 refine(HL.out _ (al (al HB1.out ag) ag)).mono ?_;rintro e w3 ⟨k3,a3,n3,q3,b3,t3,rfl,hb3,ht3,ho3,hst⟩;have HBT:=zq hb3;have HOT:=zq ho3;have fR3:=a9 (a9 (a9 fR0 ag) ag) hst;have fC3:=zq (al (al (al HB1.out ag) ag) hst);have HT3:=zq (ht3.move (.weaken (G:=fun x=>(F x∧x<w.heap.size)∨w2.heap.size<=x∧x<w3.heap.size) fun b h hl=>h.elim .inl fun h2=>.inr ⟨by simp at h2;omega,hl⟩));have z3:=hst.size;simp only[World.size_alloc] at z3;have lE3:w.heap.size<w3.heap.size:=by omega
 clear hb3 ht3 ho3 hst
 go_wp2_with fail
 generalize hVV:World.alloc w3 _=VV;obtain⟨hv,o1,zV⟩:=alE1 hVV;have fR:=a9 fR3 hv;have fV:=o1;have fC:=zq (al fC3.out hv);have hT:=zq (HT3.out.below hv);clear hv o1;refine wh2 (bc0 fV) (bc1 fV) (fun U4 hb zU4a zU4b hH0=>?_);replace fR:=a9 fR hb;replace fV:=a9 fV hb;replace fC:=mh hb fC;replace hT:=mh hb hT;rw[zV] at zU4a zU4b;clear hb hVV zV;refine hwq hx0 (.agg #[.int .i64 k3,.slice a3 n3 q3]) hH0 ?_;refine hwq hx1 (.bool b3) hH0 ?_;refine hwq hx2 (.slice none 0 0) hH0 ?_;refine hwe hx3 (fun K hK=>?_);obtain⟨r0,r1,rf0,rf1⟩:=b8 fR
 go_simp
 (try go_wp2_with fail);have hQq:=aJ fR (.int .i64 k3) (.slice a3 n3 q3);clear fR r0 rf0 r1 rf1;obtain⟨X1,hXq,hsq,fR,zX1a,zX1b⟩:=hQq;rw[hXq];replace fV:=hsq.bk fV;replace fC:=hsq.be fC;replace hT:=zq (hsq.rep (fun b hb=>by rcases hb with ⟨-,h1⟩ | ⟨h1,-⟩<;>omega) hT.out);refine hko hK (fun hH1=>?_);clear hK K hH0 hsq hXq
 try simp only[hwA]
 refine hwq hx4 (.bool b3) hH1 ?_;refine hwd ?_;clear hH1;obtain⟨rc0,rc1⟩:=blk2 fR
 go_wp2_with fail
 refine bq (.tuple #[.slice none 0 0,.agg #[.int .i64 k3,.slice a3 n3 q3],.bool b3]) (by simp[results,Try.results28,go_sem,rc0,rc1]) ?_;have hw2:w.heap.size<=w2.heap.size:=HB1.out.size;refine⟨_,_,_,_,_,_,_,_,rfl,by rw[HO.out,HBT.out];cases LO<;>rfl,?_,fC.out⟩;intro ws t h;rw[HO.out] at h
 cases hl:LO with
 | none=>rw[hl] at h;cases h
 | some t'=>
  rw[hl] at h;simp only[Option.map_some,Option.some.injEq,Prod.mk.injEq] at h;obtain⟨rfl,rfl⟩:=h;rw[Ty.toS_ty (HVV.out t' hl)];obtain rfl:=HOT.out t' hl
  exact⟨av.nilG,hT.out.move (.weaken fun b h _=>by rcases h with ⟨h1,-⟩ | ⟨h1,-⟩;exact .inl h1;exact .inr (by omega))⟩
theorem ls (G:Nat->Prop)(c y:Value)(hcs : ∃a n q,c = .slice a n q)(nm:ByteArray)(u lb tk fk:Int)(ty:Ty)(ta fa ca:Option Addr)(tn tq fn fq cm cq:Nat)(w:World)(hty:ai G w ty (.agg #[.int .i64 tk,.slice ta tn tq]))(hv:ty.valid=true)(h1:S)(hy:av G w [h1.ty] y) :
  Calls Try.prog 28 #[c,.agg (nv 5 nm u tk ta tn tq fk fa fn fq lb ca cm cq),y] w (cS G (aY 5 ty [h1]) w):=by
 obtain⟨b,off,cap,k1,c1,m1,q1,rfl,hlb,e1a,e1b,ht1⟩:=hy.one;obtain⟨xa0,xn0,xq0,rfl⟩:=hcs;obtain⟨O,hO⟩ : ∃O:Option (List S × S),O=(aY 5 ty [h1]):=⟨_,rfl⟩
 rw[<-hO];have HO:=zq hO;have HTY:=zq (hty.move (.weaken (G:=(fun x=>G x∧x<w.heap.size)) fun b h hl=>⟨h,hl⟩));have HVT:=zq hv;clear hv;have H1:=zq (ht1.move (.weaken (G:=(fun x=>G x∧x<w.heap.size)) fun b h hl=>⟨h,hl⟩));clear hO hty hy ht1
 go_enter Try.func28,Try.ntmps28
 go_wp2_with fail
 refine(aW _ _).mono ?_;rintro e w1 ⟨rfl,hb1⟩;have HB1:=zq (al (al ag ag) hb1);have fR0:=a9 (aA (w:=w.alloc (.cells (nv 5 nm u tk ta tn tq fk fa fn fq lb ca cm cq) 28)) (o:=.cells #[.int .i64 0,.slice none 0 0] 25) (b:=w.heap.size+1) (by simp)) hb1;have fE0:=a9 (a9 (aA (w:=w) (o:=.cells (nv 5 nm u tk ta tn tq fk fa fn fq lb ca cm cq) 28) rfl) (ag (o:=.cells #[.int .i64 0,.slice none 0 0] 25))) hb1;clear hb1
 go_wp2_with fail
 refine(aW _ _).mono ?_;rintro e w2 ⟨rfl,hb2⟩;replace fE0:=a9 fE0 hb2;replace HB1:=mh hb2 HB1;replace fR0:=a9 fR0 hb2;have hlr:=aw fR0;clear hb2;have d0:=ah fE0 (o:=0) rfl;have d1:=ah fE0 (o:=1) rfl;have lE:=aw fE0;have lE2:w.heap.size<w2.heap.size+1+1:=by omega
 have lE1:w.heap.size<w2.heap.size+1:=by omega
 go_wp2_with fail
 skip
 generalize hVV:World.alloc (World.alloc w2 _) _=VV;obtain⟨hv,o1,o2,zV⟩:=bO hVV;have hw:=al HB1.out hv;have fE:=a9 fE0 hv;have fR:=a9 fR0 hv;have fC:=zq hw;have c1a_:=af hw e1a;have c1b_:=af hw e1b;have h1_:=zq (H1.out.below hw);have hT:=zq (HTY.out.below hw);clear hw;clear hv o1 o2;refine wh4 (bc3 fE) (bc4 fE) c1a_ c1b_ (fun U5 hb zU5a zU5b hH0=>?_);replace fE:=a9 fE hb;replace fR:=a9 fR hb;replace fC:=mh hb fC;replace c1a_:=af hb c1a_;replace c1b_:=af hb c1b_;replace h1_:=mh hb h1_;replace hT:=mh hb hT;rw[zV] at zU5a zU5b;clear hb hVV zV;refine hwq hx0 (.pointer (some ⟨w.heap.size,3,none⟩)) hH0 ?_;refine hwq hx1 (.agg #[.int .i64 tk,.slice ta tn tq]) hH0 ?_;refine hwq hx2 (.slice (some ⟨b,off,none⟩) 1 cap) hH0 ?_;refine hwq hx3 (.pointer (some ⟨b,off,none⟩)) hH0 ?_;refine hwq hx4 (.agg #[.int .i64 k1,.slice c1 m1 q1]) hH0 ?_;refine hwe hx5 (fun K hK=>?_)
 go_simp
 go_at_call 51
 refine(du _ 4 _ _ ty h1.ty _ _ _ _ _ _ _ hT.out h1_.out).mono ?_;rintro e X1 ⟨ab,nb,qb,rfl,hr,hb⟩;have hN':Hid (ai (fun x=>(G x∧x<w.heap.size)∨U5.heap.size<=x∧x<X1.heap.size) X1 (.mk 4 [ty,h1.ty]) (.agg #[.int .i64 4,.slice ab nb qb])):=zq (hr.move (.weaken fun b h hl=>h.elim .inl fun h2=>.inr ⟨h2,hl⟩));clear hr
 go_wp2_with fail
 have zX1:=hb.size;replace fE:=a9 fE hb;replace fR:=a9 fR hb;replace fC:=mh hb fC;replace c1a_:=af hb c1a_;replace c1b_:=af hb c1b_;replace h1_:=mh hb h1_;replace hT:=mh hb hT;have hN:=hN';clear hN';refine hko hK (fun hH1=>?_);clear hK K hH0 hb
 try simp only[hwA]
 refine hwq hx6 (.slice none 0 0) hH1 ?_;refine hwe hx7 (fun K hK=>?_);obtain⟨r0,r1,rf0,rf1⟩:=b8 fR
 go_simp
 (try go_wp2_with fail);have hQq:=aJ fR (.int .i64 4) (.slice ab nb qb);clear fR r0 rf0 r1 rf1;obtain⟨X2,hXq,hsq,fR,zX2a,zX2b⟩:=hQq;rw[hXq];replace fE:=hsq.bk fE;replace fC:=hsq.be fC;replace c1a_:=hsq.cq c1a_;replace c1b_:=hsq.cq c1b_;replace h1_:=zq (hsq.rep (fun b hb=>by have h1:=hb.2;omega) h1_.out);replace hT:=zq (hsq.rep (fun b hb=>by have h1:=hb.2;omega) hT.out);replace hN:=zq (hsq.rep (fun b hb=>by rcases hb with ⟨-,h1⟩ | ⟨h1,-⟩<;>omega) hN.out);refine hko hK (fun hH2=>?_);clear hK K hH1 hsq hXq
 try simp only[hwA]
 refine hwq hx8 (.bool true) hH2 ?_;refine hwd ?_;clear hH2;obtain⟨rc0,rc1⟩:=blk2 fR
 go_wp2_with fail
 refine bq (.tuple #[.slice none 0 0,.agg #[.int .i64 4,.slice ab nb qb],.bool true]) (by simp[results,Try.results28,go_sem,rc0,rc1]) ?_;have hw2:w.heap.size<=w2.heap.size:=HB1.out.size;have HOS:O=some ([],S.fn ty.toS h1):=by rw[HO.out];simp[aY]
 refine⟨_,_,_,_,_,_,_,_,rfl,by rw[HOS];rfl,?_,fC.out⟩;intro ws t h;rw[HOS] at h;simp only[Option.some.injEq,Prod.mk.injEq] at h;obtain⟨rfl,rfl⟩:=h;rw[show(S.fn ty.toS h1).ty = .mk 4 [ty,h1.ty] from by rw[S.ty,Ty.toS_ty HVT.out]]
 exact⟨av.nilG,hN.out.move (.weaken fun b h _=>by rcases h with ⟨h1,-⟩ | ⟨h1,-⟩;exact .inl h1;exact .inr (by omega))⟩
theorem kD (G:Nat->Prop)(c y:Value)(hcs : ∃a n q,c = .slice a n q)(nm:ByteArray)(u lb tk fk:Int)(ty:Ty)(ta fa ca:Option Addr)(tn tq fn fq cm cq:Nat)(w:World)(hty:ai G w ty (.agg #[.int .i64 tk,.slice ta tn tq]))  (h1 h2:S)(hy:av G w [h1.ty,h2.ty] y) :
  Calls Try.prog 28 #[c,.agg (nv 10 nm u tk ta tn tq fk fa fn fq lb ca cm cq),y] w (cS G (aY 10 ty [h1,h2]) w):=by
 obtain⟨b,off,cap,k1,c1,m1,q1,k2,c2,m2,q2,rfl,-,-,hlb,e1a,e1b,e2a,e2b,ht1,ht2⟩:=hy.two;obtain⟨xa0,xn0,xq0,rfl⟩:=hcs;obtain⟨O,hO⟩ : ∃O:Option (List S × S),O=(aY 10 ty [h1,h2]):=⟨_,rfl⟩
 rw[<-hO];have HO:=zq hO;have HTY:=zq (hty.move (.weaken (G:=(fun x=>G x∧x<w.heap.size)) fun b h hl=>⟨h,hl⟩));have H1:=zq (ht1.move (.weaken (G:=(fun x=>G x∧x<w.heap.size)) fun b h hl=>⟨h,hl⟩));have H2:=zq (ht2.move (.weaken (G:=(fun x=>G x∧x<w.heap.size)) fun b h hl=>⟨h,hl⟩));clear hO hty hy ht1 ht2
 go_enter Try.func28,Try.ntmps28
 go_wp2_with fail
 refine(aW _ _).mono ?_;rintro e w1 ⟨rfl,hb1⟩;have HB1:=zq (al (al ag ag) hb1);have fR0:=a9 (aA (w:=w.alloc (.cells (nv 10 nm u tk ta tn tq fk fa fn fq lb ca cm cq) 28)) (o:=.cells #[.int .i64 0,.slice none 0 0] 25) (b:=w.heap.size+1) (by simp)) hb1;have fE0:=a9 (a9 (aA (w:=w) (o:=.cells (nv 10 nm u tk ta tn tq fk fa fn fq lb ca cm cq) 28) rfl) (ag (o:=.cells #[.int .i64 0,.slice none 0 0] 25))) hb1;clear hb1
 go_wp2_with fail
 refine(aW _ _).mono ?_;rintro e w2 ⟨rfl,hb2⟩;replace fE0:=a9 fE0 hb2;replace HB1:=mh hb2 HB1;replace fR0:=a9 fR0 hb2;have hlr:=aw fR0;clear hb2;have d0:=ah fE0 (o:=0) rfl;have d1:=ah fE0 (o:=1) rfl;have lE:=aw fE0;have lE2:w.heap.size<w2.heap.size+1+1:=by omega
 have lE1:w.heap.size<w2.heap.size+1:=by omega
 go_wp2_with fail
 skip
 generalize hVV:World.alloc (World.alloc w2 _) _=VV;obtain⟨hv,o1,o2,zV⟩:=bO hVV;have hw:=al HB1.out hv;have fE:=a9 fE0 hv;have fR:=a9 fR0 hv;have fC:=zq hw;have c1a_:=af hw e1a;have c1b_:=af hw e1b;have h1_:=zq (H1.out.below hw);have c2a_:=af hw e2a;have c2b_:=af hw e2b;have h2_:=zq (H2.out.below hw);have hT:=zq (HTY.out.below hw);clear hw;clear hv o1 o2;refine wh4 c1a_ c1b_ c2a_ c2b_ (fun U6 hb zU6a zU6b hH0=>?_);replace fE:=a9 fE hb;replace fR:=a9 fR hb;replace fC:=mh hb fC;replace c1a_:=af hb c1a_;replace c1b_:=af hb c1b_;replace h1_:=mh hb h1_;replace c2a_:=af hb c2a_;replace c2b_:=af hb c2b_;replace h2_:=mh hb h2_;replace hT:=mh hb hT;rw[zV] at zU6a zU6b;clear hb hVV zV;refine hwq hx0 (.slice (some ⟨b,off,none⟩) 2 cap) hH0 ?_;refine hwq hx1 (.pointer (some ⟨b,off,none⟩)) hH0 ?_;refine hwq hx2 (.agg #[.int .i64 k1,.slice c1 m1 q1]) hH0 ?_;refine hwq hx3 (.slice (some ⟨b,off,none⟩) 2 cap) hH0 ?_;refine hwq hx4 (.pointer (some ⟨b,off+2,none⟩)) hH0 ?_;refine hwq hx5 (.agg #[.int .i64 k2,.slice c2 m2 q2]) hH0 ?_;refine hwe hx6 (fun K hK=>?_)
 go_simp
 go_at_call 51
 refine(du _ 5 _ _ h1.ty h2.ty _ _ _ _ _ _ _ h1_.out h2_.out).mono ?_;rintro e X1 ⟨ab,nb,qb,rfl,hr,hb⟩;have hN':Hid (ai (fun x=>(G x∧x<w.heap.size)∨U6.heap.size<=x∧x<X1.heap.size) X1 (.mk 5 [h1.ty,h2.ty]) (.agg #[.int .i64 5,.slice ab nb qb])):=zq (hr.move (.weaken fun b h hl=>h.elim .inl fun h2=>.inr ⟨h2,hl⟩));clear hr
 go_wp2_with fail
 have zX1:=hb.size;replace fE:=a9 fE hb;replace fR:=a9 fR hb;replace fC:=mh hb fC;replace c1a_:=af hb c1a_;replace c1b_:=af hb c1b_;replace h1_:=mh hb h1_;replace c2a_:=af hb c2a_;replace c2b_:=af hb c2b_;replace h2_:=mh hb h2_;replace hT:=mh hb hT;have hN:=hN';clear hN';refine hko hK (fun hH1=>?_);clear hK K hH0 hb
 try simp only[hwA]
 refine hwq hx7 (.slice none 0 0) hH1 ?_;refine hwe hx8 (fun K hK=>?_);obtain⟨r0,r1,rf0,rf1⟩:=b8 fR
 go_simp
 (try go_wp2_with fail);have hQq:=aJ fR (.int .i64 5) (.slice ab nb qb);clear fR r0 rf0 r1 rf1;obtain⟨X2,hXq,hsq,fR,zX2a,zX2b⟩:=hQq;rw[hXq];replace fE:=hsq.bk fE;replace fC:=hsq.be fC;replace c1a_:=hsq.cq c1a_;replace c1b_:=hsq.cq c1b_;replace h1_:=zq (hsq.rep (fun b hb=>by have h1:=hb.2;omega) h1_.out);replace c2a_:=hsq.cq c2a_;replace c2b_:=hsq.cq c2b_;replace h2_:=zq (hsq.rep (fun b hb=>by have h1:=hb.2;omega) h2_.out);replace hT:=zq (hsq.rep (fun b hb=>by have h1:=hb.2;omega) hT.out);replace hN:=zq (hsq.rep (fun b hb=>by rcases hb with ⟨-,h1⟩ | ⟨h1,-⟩<;>omega) hN.out);refine hko hK (fun hH2=>?_);clear hK K hH1 hsq hXq
 try simp only[hwA]
 refine hwq hx9 (.bool true) hH2 ?_;refine hwd ?_;clear hH2;obtain⟨rc0,rc1⟩:=blk2 fR
 go_wp2_with fail
 refine bq (.tuple #[.slice none 0 0,.agg #[.int .i64 5,.slice ab nb qb],.bool true]) (by simp[results,Try.results28,go_sem,rc0,rc1]) ?_;have hw2:w.heap.size<=w2.heap.size:=HB1.out.size;have HOS:O=some ([],S.pr h1 h2):=by rw[HO.out];simp[aY]
 refine⟨_,_,_,_,_,_,_,_,rfl,by rw[HOS];rfl,?_,fC.out⟩;intro ws t h;rw[HOS] at h;simp only[Option.some.injEq,Prod.mk.injEq] at h;obtain⟨rfl,rfl⟩:=h
 exact⟨av.nilG,hN.out.move (.weaken fun b h _=>by rcases h with ⟨h1,-⟩ | ⟨h1,-⟩;exact .inl h1;exact .inr (by omega))⟩
def eo (F:Nat->Prop)(t u:Ty)(b:Bool)(w:World)(e:Ending)(w':World):Prop:=∃y z,e = .returned (.tuple #[y,z,.bool b])∧ai (fun x=>F x∨w.heap.size<=x) w' t y∧ai (fun x=>F x∨w.heap.size<=x) w' u z∧Below w.heap.size w w'
theorem eH (F:Nat->Prop)(k:Int)(t1 t2:Ty)(y:Value)(w:World)(hy:ai F w (.mk k [t1,t2]) y) :
  Calls Try.prog 52 #[y,.int .i64 k] w (eo F t1 t2 true w):=by
 obtain⟨ys,rfl,hys⟩:=hy;obtain⟨b,off,cap,k1,c1,m1,q1,k2,c2,m2,q2,rfl,g2,g3,hb,e0,e1,e2,e3,ht1,ht2⟩:=av.two hys;simp only[Ty.kind,Ty.kids] at *;clear hys
 go_enter Try.func52,Try.ntmps52
 go_wp2_with fail
 have s0_:(World.alloc (World.alloc (World.alloc w (Obj.cells #[.int .i64 k,.slice (some ⟨b,off,none⟩) 2 cap] 25)) (Obj.cells #[.int .i64 0,.slice none 0 0] 25)) (Obj.cells #[.int .i64 0,.slice none 0 0] 25)).cell? ⟨w.heap.size,1,none⟩=some (.slice (some ⟨b,off,none⟩) 2 cap):=af ag (af ag (ao (by simp) 1));have s1_:(World.alloc (World.alloc (World.alloc w (Obj.cells #[.int .i64 k,.slice (some ⟨b,off,none⟩) 2 cap] 25)) (Obj.cells #[.int .i64 0,.slice none 0 0] 25)) (Obj.cells #[.int .i64 0,.slice none 0 0] 25)).cell? ⟨b,off,none⟩=some (.int .i64 k1):=af ag (af ag (af ag (e0)));have s2_:(World.alloc (World.alloc (World.alloc w (Obj.cells #[.int .i64 k,.slice (some ⟨b,off,none⟩) 2 cap] 25)) (Obj.cells #[.int .i64 0,.slice none 0 0] 25)) (Obj.cells #[.int .i64 0,.slice none 0 0] 25)).cell? ⟨b,off+1,none⟩=some (.slice c1 m1 q1):=af ag (af ag (af ag (e1)));have s3_:(World.alloc (World.alloc (World.alloc w (Obj.cells #[.int .i64 k,.slice (some ⟨b,off,none⟩) 2 cap] 25)) (Obj.cells #[.int .i64 0,.slice none 0 0] 25)) (Obj.cells #[.int .i64 0,.slice none 0 0] 25)).cell? ⟨b,off+2,none⟩=some (.int .i64 k2):=af ag (af ag (af ag (e2)));have s4_:(World.alloc (World.alloc (World.alloc w (Obj.cells #[.int .i64 k,.slice (some ⟨b,off,none⟩) 2 cap] 25)) (Obj.cells #[.int .i64 0,.slice none 0 0] 25)) (Obj.cells #[.int .i64 0,.slice none 0 0] 25)).cell? ⟨b,off+3,none⟩=some (.slice c2 m2 q2):=af ag (af ag (af ag (e3)))
 go_region_held3 (fun w'=>w'.cell? ⟨w.heap.size,1,none⟩=some (.slice (some ⟨b,off,none⟩) 2 cap)∧w'.cell? ⟨b,off,none⟩=some (.int .i64 k1)∧w'.cell? ⟨b,off+1,none⟩=some (.slice c1 m1 q1)∧w'.cell? ⟨b,off+2,none⟩=some (.int .i64 k2)∧w'.cell? ⟨b,off+3,none⟩=some (.slice c2 m2 q2))
  (first | with_reducible exact⟨ap (s0_),ap (s1_),ap (s2_),ap (s3_),ap (s4_)⟩ | exact⟨ap (af ag (af ag (ao (by simp) 1))),ap (af ag (af ag (af ag (e0)))),ap (af ag (af ag (af ag (e1)))),ap (af ag (af ag (af ag (e2)))),ap (af ag (af ag (af ag (e3))))⟩ | exact⟨ap (af ag (af ag (ao (by simp) 1))),ap (af ag (af ag (af ag (e0)))),ap (af ag (af ag (af ag (e1)))),ap (af ag (af ag (af ag (e2)))),ap (af ag (af ag (af ag (e3))))⟩)
  (fail)
 clear s0_ s1_ s2_ s3_ s4_
 go_wp2_with fail
 refine bq (.tuple #[.agg #[.int .i64 k1,.slice c1 m1 q1],.agg #[.int .i64 k2,.slice c2 m2 q2],.bool true]) (by simp[results,Try.results52,go_sem]) ?_
 exact⟨_,_,rfl,(ht1.below bG.drew).move (.weaken fun b h _=>.inl h),(ht2.below bG.drew).move (.weaken fun b h _=>.inl h),bG.drew⟩
theorem jp (F:Nat->Prop)(k:Int)(t:Ty)(y:Value)(w:World)(hy:ai F w t y)(ht:t.kind=1)(hk:((1:Int)==k)=false) :
  Calls Try.prog 52 #[y,.int .i64 k] w (eo F (.mk 1 []) (.mk 1 []) true w):=by
 obtain⟨k1,a1,n1,q1,rfl⟩:=hy.shape;obtain rfl:k1=1:=by obtain⟨s,he,-⟩:=hy;simp at he;rw[he.1];exact ht
 go_enter Try.func52,Try.ntmps52
 go_wp2_with fail
 refine(aW 1 _).mono ?_;rintro e w1 ⟨rfl,hb1⟩;have fA:=a9 (a9 (aA (w:=w.alloc (.cells #[.int .i64 1,.slice a1 n1 q1] 25)) (o:=.cells #[.int .i64 0,.slice none 0 0] 25) (b:=w.heap.size+1) (by simp)) (ag (o:=.cells #[.int .i64 0,.slice none 0 0] 25))) hb1;have fB:=a9 (aA (w:=(w.alloc (.cells #[.int .i64 1,.slice a1 n1 q1] 25)).alloc (.cells #[.int .i64 0,.slice none 0 0] 25)) (o:=.cells #[.int .i64 0,.slice none 0 0] 25) (b:=w.heap.size+1+1) (by simp)) hb1;have fC:=zq (al bG hb1);clear hb1
 go_wp2_with fail
 refine(aW 1 _).mono ?_;rintro e w2 ⟨rfl,hb2⟩;replace fA:=a9 fA hb2;replace fB:=a9 fB hb2;replace fC:=mh hb2 fC;clear hb2;have a0:=ah fA (o:=0) rfl;have a1':=ah fA (o:=1) rfl;have af0:=aj fA 0;have af1:=aj fA 1;obtain⟨b0,b1⟩:=blk2 fB;have bf0:=aj fB 0;have bf1:=aj fB 1
 go_wp2_with fail
 have hYA:((((w2.setCell ⟨w.heap.size+1,0,none⟩ (.int .i64 1)).setCell ⟨w.heap.size+1,1,none⟩ (.slice none 0 0)).setCell ⟨w.heap.size+1+1,0,none⟩ (.int .i64 1)).setCell ⟨w.heap.size+1+1,1,none⟩ (.slice none 0 0)).heap[w.heap.size+1]?=some (.cells #[.int .i64 1,.slice none 0 0] 25 (0,0)):=cf (cf (az (az fA rfl) rfl) (by show _≠w.heap.size+1+1;omega)) (by show _≠w.heap.size+1+1;omega);have hYB:((((w2.setCell ⟨w.heap.size+1,0,none⟩ (.int .i64 1)).setCell ⟨w.heap.size+1,1,none⟩ (.slice none 0 0)).setCell ⟨w.heap.size+1+1,0,none⟩ (.int .i64 1)).setCell ⟨w.heap.size+1+1,1,none⟩ (.slice none 0 0)).heap[w.heap.size+1+1]?=some (.cells #[.int .i64 1,.slice none 0 0] 25 (0,0)):=az (az (cf (cf fB (by show _≠w.heap.size+1;omega)) (by show _≠w.heap.size+1;omega)) rfl) rfl;obtain⟨ra0,ra1⟩:=blk2 hYA;obtain⟨rb0,rb1⟩:=blk2 hYB;refine bq (.tuple #[.agg #[.int .i64 1,.slice none 0 0],.agg #[.int .i64 1,.slice none 0 0],.bool true]) (by simp[results,Try.results52,go_sem,ra0,ra1,rb0,rb1]) ?_
 exact⟨_,_,rfl,ai.leafG 1,ai.leafG 1,(((fC.out.setCell (p:=⟨w.heap.size+1,0,none⟩) (by show w.heap.size<=w.heap.size+1;omega) _).setCell (p:=⟨w.heap.size+1,1,none⟩) (by show w.heap.size<=w.heap.size+1;omega) _).setCell (p:=⟨w.heap.size+1+1,0,none⟩) (by show w.heap.size<=w.heap.size+1+1;omega) _).setCell (p:=⟨w.heap.size+1+1,1,none⟩) (by show w.heap.size<=w.heap.size+1+1;omega) _⟩
theorem cN (F:Nat->Prop)(k l:Int)(t:Ty)(y:Value)(w:World)(hy:ai F w t y)(ht:t.kind=l)(hk:(l==k)=false)(h1:(l==1)=false) :
  Calls Try.prog 52 #[y,.int .i64 k] w (eo F Ty.none Ty.none false w):=by
 obtain⟨l1,a1,n1,q1,rfl⟩:=hy.shape;obtain rfl:l1=l:=by obtain⟨s,he,-⟩:=hy;simp at he;rw[he.1];exact ht
 go_enter Try.func52,Try.ntmps52
 go_wp2_with fail
 refine bq (.tuple #[.agg #[.int .i64 0,.slice none 0 0],.agg #[.int .i64 0,.slice none 0 0],.bool false]) (by simp[results,Try.results52,go_sem]) ?_
 exact⟨_,_,rfl,ai.zeroG,ai.zeroG,bG⟩
theorem dP (F:Nat->Prop)(s:S)(k:Int)(hk:k=4∨k=5)(y:Value)(w:World)(hy:ai F w s.ty y) :
  Calls Try.prog 52 #[y,.int .i64 k] w (eo F (s.mat k).1.ty (s.mat k).2.1.ty (s.mat k).2.2 w):=by
 cases s with
 | any=>exact jp F k _ y w hy rfl (by rcases hk with rfl | rfl<;>rfl)
 | fn a b=>
  rcases hk with rfl | rfl
  ·exact eH F 4 _ _ y w hy
  ·exact cN F 5 4 _ y w hy rfl rfl rfl
 | pr a b=>
  rcases hk with rfl | rfl
  ·exact cN F 4 5 _ y w hy rfl rfl rfl
  ·exact eH F 5 _ _ y w hy
 | zero=>exact cN F k 0 _ y w hy rfl (by rcases hk with rfl | rfl<;>rfl) rfl
 | int=>exact cN F k 2 _ y w hy rfl (by rcases hk with rfl | rfl<;>rfl) rfl
 | bool=>exact cN F k 3 _ y w hy rfl (by rcases hk with rfl | rfl<;>rfl) rfl
theorem kp {k:Int}{ty:Ty}{h:S}(hk:k=11∨k=12):aY k ty [h]=if (h.mat 5).2.2=true then some ([.pr (h.mat 5).1 (h.mat 5).2.1],if k=12 then (h.mat 5).2.1 else (h.mat 5).1) else none:=by
 have h5 : ¬k=5:=by omega
 simp only[aY,if_neg h5]
 cases h<;>simp[S.mat]
theorem kE (G:Nat->Prop)(c y:Value)(hcs : ∃a n q,c = .slice a n q)(nm:ByteArray)(u lb tk fk:Int)(ty:Ty)(ta fa ca:Option Addr)(tn tq fn fq cm cq:Nat)(w:World)(h1:S)(hy:av G w [h1.ty] y) :
  Calls Try.prog 28 #[c,.agg (nv 11 nm u tk ta tn tq fk fa fn fq lb ca cm cq),y] w (cS G (aY 11 ty [h1]) w):=by
 obtain⟨b,off,cap,k1,c1,m1,q1,rfl,hlb,e1a,e1b,ht1⟩:=hy.one;obtain⟨xa0,xn0,xq0,rfl⟩:=hcs;have HOO:=zq (kp (k:=11) (ty:=ty) (h:=h1) (by omega));have H1:=zq (ht1.move (.weaken (G:=(fun x=>G x∧x<w.heap.size)) fun b h hl=>⟨h,hl⟩));have HM:=zq (fun W (h:Below w.heap.size w W)=>dP _ h1 5 (.inr rfl) _ W (H1.out.below h));generalize aY 11 ty [h1]=O at HOO ⊢;generalize h1.mat 5=mm at HOO HM;obtain⟨ma,mb,okk⟩:=mm;simp only at HOO HM;clear hy ht1
 go_enter Try.func28,Try.ntmps28
 go_wp2_with fail
 refine(aW _ _).mono ?_;rintro e w1 ⟨rfl,hb1⟩;have HB1:=zq (al (al ag ag) hb1);have fR0:=a9 (aA (w:=w.alloc (.cells (nv 11 nm u tk ta tn tq fk fa fn fq lb ca cm cq) 28)) (o:=.cells #[.int .i64 0,.slice none 0 0] 25) (b:=w.heap.size+1) (by simp)) hb1;have fE0:=a9 (a9 (aA (w:=w) (o:=.cells (nv 11 nm u tk ta tn tq fk fa fn fq lb ca cm cq) 28) rfl) (ag (o:=.cells #[.int .i64 0,.slice none 0 0] 25))) hb1;clear hb1
 go_wp2_with fail
 refine(aW _ _).mono ?_;rintro e w2 ⟨rfl,hb2⟩;replace fE0:=a9 fE0 hb2;replace HB1:=mh hb2 HB1;replace fR0:=a9 fR0 hb2;have hlr:=aw fR0;clear hb2;have d0:=ah fE0 (o:=0) rfl;have d1:=ah fE0 (o:=1) rfl;have lE:=aw fE0;have lE2:w.heap.size<w2.heap.size+1+1:=by omega
 have lE1:w.heap.size<w2.heap.size+1:=by omega
 have HBV:=zq (show Below w.heap.size w ((w2.alloc (.cells #[.int .i64 2,.slice none 0 0] 25)).alloc (.cells #[.int .i64 3,.slice none 0 0] 25)) from al (al HB1.out ag) ag);have m0:=af HB1.out e1a;have m1:=af HB1.out e1b;have lb0:b<w2.heap.size:=by have:=HB1.out.size;omega
 have lb1:b<w2.heap.size+1:=by omega
 have lb2:b<w2.heap.size+1+1:=by omega
 go_wp2_with fail
 refine(HM.out _ HBV.out).mono ?_;rintro e w3 ⟨ya,yb,rfl,hya,hyb,hst⟩;obtain⟨k3,a3,n3,q3,rfl⟩:=hya.shape;obtain⟨k4,a4,n4,q4,rfl⟩:=hyb.shape;have HYA:=zq (hya.move (.weaken (G:=(fun x=>(G x∧x<w.heap.size)∨w2.heap.size<=x∧x<w3.heap.size)) fun b h hl=>h.elim .inl fun h2=>.inr ⟨by simp at h2;omega,hl⟩));have HYB:=zq (hyb.move (.weaken (G:=(fun x=>(G x∧x<w.heap.size)∨w2.heap.size<=x∧x<w3.heap.size)) fun b h hl=>h.elim .inl fun h2=>.inr ⟨by simp at h2;omega,hl⟩));have fE3:=a9 (a9 (a9 fE0 ag) ag) hst;have fR3:=a9 (a9 (a9 fR0 ag) ag) hst;have fC3:=zq (al HBV.out hst);have z3:=hst.size;simp only[World.size_alloc] at z3;clear hya hyb hst d0 d1 m0 m1;have d0:=ah fE3 (o:=0) rfl;have lE3:=aw fE3;have lE4:w.heap.size<w3.heap.size+1:=by omega
 have lE5:w.heap.size<w3.heap.size+1+1:=by omega
 have lE6:w.heap.size<w3.heap.size+1+1+1:=by omega
 go_wp2_with fail
 generalize hVV:World.alloc (World.alloc (World.alloc w3 _) _) _=VV;obtain⟨hv,o1,o2,o3,zV⟩:=alE3 hVV;have fR:=a9 fR3 hv;have fA:=o1;have fB:=o2;have fT:=o3;have fC:=zq (al fC3.out hv);have hA:=zq (HYA.out.below hv);have hB_:=zq (HYB.out.below hv);clear hv o1 o2 o3;refine wh6 (bc0 fA) (bc1 fA) (bc0 fB) (bc1 fB) (bc0 fT) (bc1 fT) (fun U7 hb zU7a zU7b hH0=>?_);replace fR:=a9 fR hb;replace fA:=a9 fA hb;replace fB:=a9 fB hb;replace fT:=a9 fT hb;replace fC:=mh hb fC;replace hA:=mh hb hA;replace hB_:=mh hb hB_;rw[zV] at zU7a zU7b;clear hb hVV zV;refine hwq hx0 (.agg #[.int .i64 k3,.slice a3 n3 q3]) hH0 ?_;refine hwq hx1 (.agg #[.int .i64 k4,.slice a4 n4 q4]) hH0 ?_;refine hwq hx4 (.agg #[.int .i64 k3,.slice a3 n3 q3]) hH0 ?_;refine hwq hx5 (.bool okk) hH0 ?_;refine hwe hx2 (fun K hK=>?_)
 go_simp
 go_at_call 51
 refine(du _ 5 _ _ ma.ty mb.ty _ _ _ _ _ _ _ hA.out hB_.out).mono ?_;rintro e X1 ⟨ab,nb,qb,rfl,hr,hb⟩;have hN':Hid (ai (fun x=>((G x∧x<w.heap.size)∨w2.heap.size<=x∧x<w3.heap.size)∨U7.heap.size<=x∧x<X1.heap.size) X1 (.mk 5 [ma.ty,mb.ty]) (.agg #[.int .i64 5,.slice ab nb qb])):=zq (hr.move (.weaken fun b h hl=>h.elim .inl fun h2=>.inr ⟨h2,hl⟩));clear hr
 go_wp2_with fail
 have zX1:=hb.size;replace fR:=a9 fR hb;replace fA:=a9 fA hb;replace fB:=a9 fB hb;replace fT:=a9 fT hb;replace fC:=mh hb fC;replace hA:=mh hb hA;replace hB_:=mh hb hB_;have hN:=hN';clear hN';refine hko hK (fun hH1=>?_);clear hK K hH0 hb
 try simp only[hwA]
 refine hwe hx3 (fun K hK=>?_)
 go_simp
 (try go_wp2_with fail);generalize hXq:World.alloc X1 _=X2;obtain⟨hb,fL,zX2a,zX2b⟩:=alE hXq;replace fR:=a9 fR hb;replace fA:=a9 fA hb;replace fB:=a9 fB hb;replace fT:=a9 fT hb;replace fC:=mh hb fC;replace hA:=mh hb hA;replace hB_:=mh hb hB_;replace hN:=mh hb hN;refine hko hK (fun hH2=>?_);clear hK K hH1 hb hXq
 try simp only[hwA]
 refine hwq hx6 (.slice (some ⟨X1.heap.size,0,none⟩) 1 1) hH2 ?_;refine hwe hx7 (fun K hK=>?_);obtain⟨r0,r1,rf0,rf1⟩:=b8 fR
 go_simp
 (try go_wp2_with fail);have hQq:=aJ fR (.int .i64 k3) (.slice a3 n3 q3);clear fR r0 rf0 r1 rf1;obtain⟨X3,hXq,hsq,fR,zX3a,zX3b⟩:=hQq;rw[hXq];replace fA:=hsq.bk fA;replace fB:=hsq.bk fB;replace fT:=hsq.bk fT;replace fC:=hsq.be fC;replace hA:=zq (hsq.rep (fun b hb=>by rcases hb with ⟨-,h1⟩ | ⟨h1,-⟩<;>omega) hA.out);replace hB_:=zq (hsq.rep (fun b hb=>by rcases hb with ⟨-,h1⟩ | ⟨h1,-⟩<;>omega) hB_.out);replace hN:=zq (hsq.rep (fun b hb=>by rcases hb with (⟨-,h1⟩ | ⟨h1,-⟩) | ⟨h1,-⟩<;>omega) hN.out);replace fL:=hsq.bk fL;refine hko hK (fun hH3=>?_);clear hK K hH2 hsq hXq
 try simp only[hwA]
 refine hwq hx8 (.bool okk) hH3 ?_;refine hwd ?_;clear hH3;obtain⟨rc0,rc1⟩:=blk2 fR
 go_wp2_with fail
 refine bq (.tuple #[.slice (some ⟨X1.heap.size,0,none⟩) 1 1,.agg #[.int .i64 k3,.slice a3 n3 q3],.bool okk]) (by simp[results,Try.results28,go_sem,rc0,rc1]) ?_;have hw2:w.heap.size<=w2.heap.size:=HB1.out.size;refine⟨_,_,_,_,_,_,_,_,rfl,by rw[HOO.out];cases okk<;>rfl,?_,fC.out⟩;intro ws t h;rw[HOO.out] at h
 cases okk with
 | false=>cases h
 | true=>
  simp only[if_true,Option.some.injEq,Prod.mk.injEq] at h;obtain⟨rfl,rfl⟩:=h;refine⟨av.one_mk (b:=X1.heap.size) (cap:=1) (k1:=5) (c1:=.slice ab nb qb) (.inr (by omega)) (Nat.le_refl 1) (by unfold maxLen;omega) (ah fL (o:=0) rfl) (ah fL (o:=1) rfl) (hN.out.move (.weaken fun b h _=>by rcases h with (⟨h1,-⟩ | ⟨h1,-⟩) | ⟨h1,-⟩;exact .inl h1;exact .inr (by omega);exact .inr (by omega))),?_⟩
  exact hA.out.move (.weaken fun b h _=>by rcases h with ⟨h1,-⟩ | ⟨h1,-⟩;exact .inl h1;exact .inr (by omega))
theorem kF (G:Nat->Prop)(c y:Value)(hcs : ∃a n q,c = .slice a n q)(nm:ByteArray)(u lb tk fk:Int)(ty:Ty)(ta fa ca:Option Addr)(tn tq fn fq cm cq:Nat)(w:World)(h1:S)(hy:av G w [h1.ty] y) :
  Calls Try.prog 28 #[c,.agg (nv 12 nm u tk ta tn tq fk fa fn fq lb ca cm cq),y] w (cS G (aY 12 ty [h1]) w):=by
 obtain⟨b,off,cap,k1,c1,m1,q1,rfl,hlb,e1a,e1b,ht1⟩:=hy.one;obtain⟨xa0,xn0,xq0,rfl⟩:=hcs;have HOO:=zq (kp (k:=12) (ty:=ty) (h:=h1) (by omega));have H1:=zq (ht1.move (.weaken (G:=(fun x=>G x∧x<w.heap.size)) fun b h hl=>⟨h,hl⟩));have HM:=zq (fun W (h:Below w.heap.size w W)=>dP _ h1 5 (.inr rfl) _ W (H1.out.below h));generalize aY 12 ty [h1]=O at HOO ⊢;generalize h1.mat 5=mm at HOO HM;obtain⟨ma,mb,okk⟩:=mm;simp only at HOO HM;clear hy ht1
 go_enter Try.func28,Try.ntmps28
 go_wp2_with fail
 refine(aW _ _).mono ?_;rintro e w1 ⟨rfl,hb1⟩;have HB1:=zq (al (al ag ag) hb1);have fR0:=a9 (aA (w:=w.alloc (.cells (nv 12 nm u tk ta tn tq fk fa fn fq lb ca cm cq) 28)) (o:=.cells #[.int .i64 0,.slice none 0 0] 25) (b:=w.heap.size+1) (by simp)) hb1;have fE0:=a9 (a9 (aA (w:=w) (o:=.cells (nv 12 nm u tk ta tn tq fk fa fn fq lb ca cm cq) 28) rfl) (ag (o:=.cells #[.int .i64 0,.slice none 0 0] 25))) hb1;clear hb1
 go_wp2_with fail
 refine(aW _ _).mono ?_;rintro e w2 ⟨rfl,hb2⟩;replace fE0:=a9 fE0 hb2;replace HB1:=mh hb2 HB1;replace fR0:=a9 fR0 hb2;have hlr:=aw fR0;clear hb2;have d0:=ah fE0 (o:=0) rfl;have d1:=ah fE0 (o:=1) rfl;have lE:=aw fE0;have lE2:w.heap.size<w2.heap.size+1+1:=by omega
 have lE1:w.heap.size<w2.heap.size+1:=by omega
 have HBV:=zq (show Below w.heap.size w ((w2.alloc (.cells #[.int .i64 2,.slice none 0 0] 25)).alloc (.cells #[.int .i64 3,.slice none 0 0] 25)) from al (al HB1.out ag) ag);have m0:=af HB1.out e1a;have m1:=af HB1.out e1b;have lb0:b<w2.heap.size:=by have:=HB1.out.size;omega
 have lb1:b<w2.heap.size+1:=by omega
 have lb2:b<w2.heap.size+1+1:=by omega
 go_wp2_with fail
 refine(HM.out _ HBV.out).mono ?_;rintro e w3 ⟨ya,yb,rfl,hya,hyb,hst⟩;obtain⟨k3,a3,n3,q3,rfl⟩:=hya.shape;obtain⟨k4,a4,n4,q4,rfl⟩:=hyb.shape;have HYA:=zq (hya.move (.weaken (G:=(fun x=>(G x∧x<w.heap.size)∨w2.heap.size<=x∧x<w3.heap.size)) fun b h hl=>h.elim .inl fun h2=>.inr ⟨by simp at h2;omega,hl⟩));have HYB:=zq (hyb.move (.weaken (G:=(fun x=>(G x∧x<w.heap.size)∨w2.heap.size<=x∧x<w3.heap.size)) fun b h hl=>h.elim .inl fun h2=>.inr ⟨by simp at h2;omega,hl⟩));have fE3:=a9 (a9 (a9 fE0 ag) ag) hst;have fR3:=a9 (a9 (a9 fR0 ag) ag) hst;have fC3:=zq (al HBV.out hst);have z3:=hst.size;simp only[World.size_alloc] at z3;clear hya hyb hst d0 d1 m0 m1;have d0:=ah fE3 (o:=0) rfl;have lE3:=aw fE3;have lE4:w.heap.size<w3.heap.size+1:=by omega
 have lE5:w.heap.size<w3.heap.size+1+1:=by omega
 have lE6:w.heap.size<w3.heap.size+1+1+1:=by omega
 go_wp2_with fail
 generalize hVV:World.alloc (World.alloc (World.alloc w3 _) _) _=VV;obtain⟨hv,o1,o2,o3,zV⟩:=alE3 hVV;have fR:=a9 fR3 hv;have fA:=o1;have fB:=o2;have fT:=o3;have fC:=zq (al fC3.out hv);have hA:=zq (HYA.out.below hv);have hB_:=zq (HYB.out.below hv);clear hv o1 o2 o3;refine wh6 (bc0 fA) (bc1 fA) (bc0 fB) (bc1 fB) (bc0 fT) (bc1 fT) (fun U8 hb zU8a zU8b hH0=>?_);replace fR:=a9 fR hb;replace fA:=a9 fA hb;replace fB:=a9 fB hb;replace fT:=a9 fT hb;replace fC:=mh hb fC;replace hA:=mh hb hA;replace hB_:=mh hb hB_;rw[zV] at zU8a zU8b;clear hb hVV zV;refine hwq hx0 (.agg #[.int .i64 k3,.slice a3 n3 q3]) hH0 ?_;refine hwq hx1 (.agg #[.int .i64 k4,.slice a4 n4 q4]) hH0 ?_;refine hwq hx4 (.agg #[.int .i64 k4,.slice a4 n4 q4]) hH0 ?_;refine hwq hx5 (.bool okk) hH0 ?_;refine hwe hx2 (fun K hK=>?_)
 go_simp
 go_at_call 51
 refine(du _ 5 _ _ ma.ty mb.ty _ _ _ _ _ _ _ hA.out hB_.out).mono ?_;rintro e X1 ⟨ab,nb,qb,rfl,hr,hb⟩;have hN':Hid (ai (fun x=>((G x∧x<w.heap.size)∨w2.heap.size<=x∧x<w3.heap.size)∨U8.heap.size<=x∧x<X1.heap.size) X1 (.mk 5 [ma.ty,mb.ty]) (.agg #[.int .i64 5,.slice ab nb qb])):=zq (hr.move (.weaken fun b h hl=>h.elim .inl fun h2=>.inr ⟨h2,hl⟩));clear hr
 go_wp2_with fail
 have zX1:=hb.size;replace fR:=a9 fR hb;replace fA:=a9 fA hb;replace fB:=a9 fB hb;replace fT:=a9 fT hb;replace fC:=mh hb fC;replace hA:=mh hb hA;replace hB_:=mh hb hB_;have hN:=hN';clear hN';refine hko hK (fun hH1=>?_);clear hK K hH0 hb
 try simp only[hwA]
 refine hwe hx3 (fun K hK=>?_)
 go_simp
 (try go_wp2_with fail);generalize hXq:World.alloc X1 _=X2;obtain⟨hb,fL,zX2a,zX2b⟩:=alE hXq;replace fR:=a9 fR hb;replace fA:=a9 fA hb;replace fB:=a9 fB hb;replace fT:=a9 fT hb;replace fC:=mh hb fC;replace hA:=mh hb hA;replace hB_:=mh hb hB_;replace hN:=mh hb hN;refine hko hK (fun hH2=>?_);clear hK K hH1 hb hXq
 try simp only[hwA]
 refine hwq hx6 (.slice (some ⟨X1.heap.size,0,none⟩) 1 1) hH2 ?_;refine hwe hx7 (fun K hK=>?_);obtain⟨r0,r1,rf0,rf1⟩:=b8 fR
 go_simp
 (try go_wp2_with fail);have hQq:=aJ fR (.int .i64 k4) (.slice a4 n4 q4);clear fR r0 rf0 r1 rf1;obtain⟨X3,hXq,hsq,fR,zX3a,zX3b⟩:=hQq;rw[hXq];replace fA:=hsq.bk fA;replace fB:=hsq.bk fB;replace fT:=hsq.bk fT;replace fC:=hsq.be fC;replace hA:=zq (hsq.rep (fun b hb=>by rcases hb with ⟨-,h1⟩ | ⟨h1,-⟩<;>omega) hA.out);replace hB_:=zq (hsq.rep (fun b hb=>by rcases hb with ⟨-,h1⟩ | ⟨h1,-⟩<;>omega) hB_.out);replace hN:=zq (hsq.rep (fun b hb=>by rcases hb with (⟨-,h1⟩ | ⟨h1,-⟩) | ⟨h1,-⟩<;>omega) hN.out);replace fL:=hsq.bk fL;refine hko hK (fun hH3=>?_);clear hK K hH2 hsq hXq
 try simp only[hwA]
 refine hwq hx8 (.bool okk) hH3 ?_;refine hwd ?_;clear hH3;obtain⟨rc0,rc1⟩:=blk2 fR
 go_wp2_with fail
 refine bq (.tuple #[.slice (some ⟨X1.heap.size,0,none⟩) 1 1,.agg #[.int .i64 k4,.slice a4 n4 q4],.bool okk]) (by simp[results,Try.results28,go_sem,rc0,rc1]) ?_;have hw2:w.heap.size<=w2.heap.size:=HB1.out.size;refine⟨_,_,_,_,_,_,_,_,rfl,by rw[HOO.out];cases okk<;>rfl,?_,fC.out⟩;intro ws t h;rw[HOO.out] at h
 cases okk with
 | false=>cases h
 | true=>
  simp only[if_true,Option.some.injEq,Prod.mk.injEq] at h;obtain⟨rfl,rfl⟩:=h;refine⟨av.one_mk (b:=X1.heap.size) (cap:=1) (k1:=5) (c1:=.slice ab nb qb) (.inr (by omega)) (Nat.le_refl 1) (by unfold maxLen;omega) (ah fL (o:=0) rfl) (ah fL (o:=1) rfl) (hN.out.move (.weaken fun b h _=>by rcases h with (⟨h1,-⟩ | ⟨h1,-⟩) | ⟨h1,-⟩;exact .inl h1;exact .inr (by omega);exact .inr (by omega))),?_⟩
  exact hB_.out.move (.weaken fun b h _=>by rcases h with ⟨h1,-⟩ | ⟨h1,-⟩;exact .inl h1;exact .inr (by omega))
end Go.Proofs.Ytfhglkmjibjjoaa
