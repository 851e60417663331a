/- spec.TypeOf. And what else its parts name. -/
import Derived.Test.YtfhglkmjibjjoaaB34
import Derived.Test.YtfhglkmjibjjoaaB50
import Derived.Test.YtfhglkmjibjjoaaB48
import Derived.Test.YtfhglkmjibjjoaaB49
set_option linter.unusedSimpArgs false
set_option linter.unusedVariables false
set_option maxRecDepth 100000
set_option maxHeartbeats 16000000
namespace Go.Proofs.Ytfhglkmjibjjoaa
open Go.RowKit
def dy (t:Tm):Option Ty:=if t.valid then (t.typS []).map S.ty else none
def RetSF (o:Option Ty)(w:World)(e:Ending)(w':World):Prop:=∃(k:Int) (a:Option Addr) (n q:Nat),e = .returned (.tuple #[.agg #[.int .i64 k,.slice a n q],.bool o.isSome])∧ai (fun x=>w.heap.size<=x) w' (o.getD (.mk 0 [])) (.agg #[.int .i64 k,.slice a n q])∧Below w.heap.size w w'
theorem kj (k:Int)(a:Option Addr)(n q:Nat)(w:World):Calls Try.prog 16 #[.agg #[.int .i64 k,.slice a n q],.bool false] w fun e w'=>e = .returned (.tuple #[.agg #[.int .i64 0,.slice none 0 0],.bool false])∧Below w.heap.size w w':=by
 go_enter Try.func16,Try.ntmps16
 go_wp2_with fail
 refine bq (.tuple #[.agg #[.int .i64 0,.slice none 0 0],.bool false]) (by simp[results,Try.results16,go_sem]) ?_
 exact⟨rfl,al ag ag⟩
theorem kl (k:Int)(a:Option Addr)(n q:Nat)(w:World):Calls Try.prog 16 #[.agg #[.int .i64 k,.slice a n q],.bool true] w fun e w'=>e = .returned (.tuple #[.agg #[.int .i64 k,.slice a n q],.bool true])∧Below w.heap.size w w':=by
 go_enter Try.func16,Try.ntmps16
 go_wp2_with fail
 refine bq (.tuple #[.agg #[.int .i64 k,.slice a n q],.bool true]) (by simp[results,Try.results16,go_sem]) ?_
 exact⟨rfl,al ag ag⟩
theorem nR (F:Nat->Prop)(t:Tm)(y:Value)(w:World)(hy:aB F w t y):Calls Try.prog 84 #[.slice none 0 0,y] w (RetSF (dy t) w):=by
 have HV:=zq (fun W (h:Below w.heap.size w W)=>eI F t y W (hy.below h));have H4:=zq (fun(hv:t.valid=true) W (h:Below w.heap.size w W)=>eE t 12 [] (.slice none 0 0) y W (fun _=>True) F (by unfold Tm.valid at hv;simp at hv;exact hv.1) (by simp) (fun b hb=>by cases hb) (.inl ⟨rfl,rfl⟩) (by unfold aE aL;exact⟨none,0,rfl,Nat.le_refl _,by unfold maxLen;omega,.inl rfl⟩) (hy.below h));obtain⟨k,nm,u,tk,ta,tn,tq,fk,fa,fn,fq,lb,ca,cm,cq,rfl⟩:=hy.shape;have fE:=a9 (aA (w:=w) (o:=.cells (nv k nm u tk ta tn tq fk fa fn fq lb ca cm cq) 28) rfl) (ag (o:=.cells #[.int .i64 0,.slice none 0 0] 25));have fR:=aA (w:=w.alloc (.cells (nv k nm u tk ta tn tq fk fa fn fq lb ca cm cq) 28)) (o:=.cells #[.int .i64 0,.slice none 0 0] 25) (b:=w.heap.size+1) (by simp);have HO:=zq (show dy t=if t.valid then (t.typS []).map S.ty else none from rfl);generalize dy t=O at HO ⊢;generalize (t.typS []).map S.ty=O1 at HO H4;generalize hcv:t.valid=cv at HO HV H4;clear hcv hy
 cases cv with
 | false=>
  have HOO:=zq (show O=none from by rw[HO.out];rfl);clear HO
  go_enter Try.func84,Try.ntmps84
  have HCX:=zq (fun W=>gH (fun _=>True) [] (.slice none 0 0) W (by unfold aE aL;exact⟨none,0,rfl,Nat.le_refl _,by unfold maxLen;omega,.inl rfl⟩))
  go_wp2_with fail
  refine(HCX.out _).mono ?_;rintro e w0 ⟨rfl,hb0⟩;rw[show ctxB []=true from by decide];have fE0:=a9 fE hb0;obtain⟨d0,d1,d2,d3,d4,d5,d6,d7,d8⟩:=blk9 fE0;have ld:=aw fE0;have hz0:=hb0.size;simp only[World.size_alloc] at hz0
  go_wp2_with fail
  refine(HV.out _ (al (al ag ag) hb0)).mono ?_;rintro e w1 ⟨rfl,hb1'⟩;have hb1:=al hb0 hb1';clear d0 d1 d2 d3 d4 d5 d6 d7 d8 ld fE0 hb1' hb0 HCX;replace fR:=a9 fR hb1;have fC:=zq (al (al ag ag) hb1);clear hb1 fE;obtain⟨r0,r1⟩:=blk2 fR;have rf0:=aj fR 0;have rf1:=aj fR 1
  go_wp2_with fail
  have hY:((w1.setCell ⟨w.heap.size+1,0,none⟩ (.int .i64 0)).setCell ⟨w.heap.size+1,1,none⟩ (.slice none 0 0)).heap[w.heap.size+1]?=some (.cells #[.int .i64 0,.slice none 0 0] 25 (0,0)):=az (az fR rfl) rfl;obtain⟨rc0,rc1⟩:=blk2 hY;refine bq (.tuple #[.agg #[.int .i64 0,.slice none 0 0],.bool false]) (by simp[results,Try.results84,go_sem,rc0,rc1]) ?_;rw[HOO.out]
  exact⟨_,_,_,_,rfl,ai.zeroG,(fC.out.setCell (p:=⟨w.heap.size+1,0,none⟩) (by show w.heap.size<=w.heap.size+1;omega) _).setCell (p:=⟨w.heap.size+1,1,none⟩) (by show w.heap.size<=w.heap.size+1;omega) _⟩
 | true=>
  have HOO:=zq (show O=O1 from by rw[HO.out];rfl);clear HO
  go_enter Try.func84,Try.ntmps84
  have HCX:=zq (fun W=>gH (fun _=>True) [] (.slice none 0 0) W (by unfold aE aL;exact⟨none,0,rfl,Nat.le_refl _,by unfold maxLen;omega,.inl rfl⟩))
  go_wp2_with fail
  refine(HCX.out _).mono ?_;rintro e w0 ⟨rfl,hb0⟩;rw[show ctxB []=true from by decide];have fE0:=a9 fE hb0;obtain⟨d0,d1,d2,d3,d4,d5,d6,d7,d8⟩:=blk9 fE0;have ld:=aw fE0;have hz0:=hb0.size;simp only[World.size_alloc] at hz0
  go_wp2_with fail
  refine(HV.out _ (al (al ag ag) hb0)).mono ?_;rintro e w1 ⟨rfl,hb1'⟩;have hb1:=al hb0 hb1';clear d0 d1 d2 d3 d4 d5 d6 d7 d8 ld fE0 hb1' hb0 HCX;replace fR:=a9 fR hb1;replace fE:=a9 fE hb1;have fC:=zq (al (al ag ag) hb1);have H5:=zq (H4.out (by simp) w1 fC.out);have hz1:=hb1.size;simp only[World.size_alloc] at hz1;clear hb1 H4;obtain⟨d0,d1,d2,d3,d4,d5,d6,d7,d8⟩:=blk9 fE
  go_wp2_with fail
  refine H5.out.mono ?_;rintro e w2 ⟨k2,a2,n2,q2,b2,t2,rfl,hb2,ht2,ho2,hst⟩;replace fR:=a9 fR hst;replace fC:=mh hst fC;have HT:=zq ht2;have HB:=zq hb2;have HOT:=zq ho2;have hz2:=hst.size;clear ht2 ho2 hst d0 d1 d2 d3 d4 d5 d6 d7 d8;have hne : ∀b,(False∨w1.heap.size<=b)->b≠w.heap.size+1:=fun b h=>by
   have h1:=h.elim False.elim id
   omega
  have HNE:=zq hne;clear hne hb2
  cases b2 with
  | false=>
   have HN:=zq (show O=none from by rw[HOO.out];cases h:O1 with | none=>rfl | some x=>have:=HB.out;rw[h] at this;cases this)
   go_wp2_with fail
   refine(kj _ _ _ _ _).mono ?_;rintro e w3 ⟨rfl,hb3⟩;replace fR:=a9 fR hb3;replace fC:=mh hb3 fC;clear hb3;obtain⟨r0,r1⟩:=blk2 fR;have rf0:=aj fR 0;have rf1:=aj fR 1
   go_wp2_with fail
   have hY:((w3.setCell ⟨w.heap.size+1,0,none⟩ (.int .i64 0)).setCell ⟨w.heap.size+1,1,none⟩ (.slice none 0 0)).heap[w.heap.size+1]?=some (.cells #[.int .i64 0,.slice none 0 0] 25 (0,0)):=az (az fR rfl) rfl;obtain⟨rc0,rc1⟩:=blk2 hY;refine bq (.tuple #[.agg #[.int .i64 0,.slice none 0 0],.bool false]) (by simp[results,Try.results84,go_sem,rc0,rc1]) ?_;rw[HN.out]
   exact⟨_,_,_,_,rfl,ai.zeroG,(fC.out.setCell (p:=⟨w.heap.size+1,0,none⟩) (by show w.heap.size<=w.heap.size+1;omega) _).setCell (p:=⟨w.heap.size+1,1,none⟩) (by show w.heap.size<=w.heap.size+1;omega) _⟩
  | true=>
   have HN:=zq (show O=some t2 from by rw[HOO.out];cases h:O1 with | none=>have:=HB.out;rw[h] at this;cases this | some x=>rw[HOT.out x h])
   go_wp2_with fail
   refine(kl _ _ _ _ _).mono ?_;rintro e w3 ⟨rfl,hb3⟩;replace fR:=a9 fR hb3;replace fC:=mh hb3 fC;replace HT:=mh hb3 HT;clear hb3;obtain⟨r0,r1⟩:=blk2 fR;have rf0:=aj fR 0;have rf1:=aj fR 1
   go_wp2_with fail
   have hY:((w3.setCell ⟨w.heap.size+1,0,none⟩ (.int .i64 k2)).setCell ⟨w.heap.size+1,1,none⟩ (.slice a2 n2 q2)).heap[w.heap.size+1]?=some (.cells #[.int .i64 k2,.slice a2 n2 q2] 25 (0,0)):=az (az fR rfl) rfl;obtain⟨rc0,rc1⟩:=blk2 hY;refine bq (.tuple #[.agg #[.int .i64 k2,.slice a2 n2 q2],.bool true]) (by simp[results,Try.results84,go_sem,rc0,rc1]) ?_;rw[HN.out]
   exact⟨_,_,_,_,rfl,(ai.setN (ai.setN HT.out HNE.out) HNE.out).move (.weaken fun b h _=>by have h1:=h.elim False.elim id;omega),(fC.out.setCell (p:=⟨w.heap.size+1,0,none⟩) (by show w.heap.size<=w.heap.size+1;omega) _).setCell (p:=⟨w.heap.size+1,1,none⟩) (by show w.heap.size<=w.heap.size+1;omega) _⟩
theorem jn (F:Nat->Prop)(t:Tm)(y:Value)(w:World)(hy:aB F w t y):Calls Try.prog 72 #[y] w (RetSF (dy t) w):=by
 have HV:=zq (fun W (h:Below w.heap.size w W)=>nR F t y W (hy.below h));obtain⟨k,nm,u,tk,ta,tn,tq,fk,fa,fn,fq,lb,ca,cm,cq,rfl⟩:=hy.shape;have fR:=aA (w:=w.alloc (.cells (nv k nm u tk ta tn tq fk fa fn fq lb ca cm cq) 28)) (o:=.cells #[.int .i64 0,.slice none 0 0] 25) (b:=w.heap.size+1) (by simp);generalize dy t=O at HV ⊢;clear hy
 go_enter Try.func72,Try.ntmps72
 go_wp2_with fail
 refine(HV.out _ (al ag ag)).mono ?_;rintro e w1 ⟨k2,a2,n2,q2,rfl,ht2,hb1⟩;replace fR:=a9 fR hb1;have fC:=zq (al (al ag ag) hb1);have HT:=zq ht2;clear hb1 ht2;obtain⟨r0,r1⟩:=blk2 fR;have rf0:=aj fR 0;have rf1:=aj fR 1
 go_wp2_with fail
 have hY:((w1.setCell ⟨w.heap.size+1,0,none⟩ (.int .i64 k2)).setCell ⟨w.heap.size+1,1,none⟩ (.slice a2 n2 q2)).heap[w.heap.size+1]?=some (.cells #[.int .i64 k2,.slice a2 n2 q2] 25 (0,0)):=az (az fR rfl) rfl;obtain⟨rc0,rc1⟩:=blk2 hY;refine bq (.tuple #[.agg #[.int .i64 k2,.slice a2 n2 q2],.bool O.isSome]) (by simp[results,Try.results72,go_sem,rc0,rc1]) ?_;have hne : ∀b,(((w.alloc (.cells (nv k nm u tk ta tn tq fk fa fn fq lb ca cm cq) 28)).alloc (.cells #[.int .i64 0,.slice none 0 0] 25)).heap.size<=b)->b≠w.heap.size+1:=fun b h=>by
  simp at h;omega
 exact⟨_,_,_,_,rfl,(ai.setN (ai.setN HT.out hne) hne).move (.weaken fun b h _=>by have h1:_<=b:=h;simp at h1;omega),(fC.out.setCell (p:=⟨w.heap.size+1,0,none⟩) (by show w.heap.size<=w.heap.size+1;omega) _).setCell (p:=⟨w.heap.size+1,1,none⟩) (by show w.heap.size<=w.heap.size+1;omega) _⟩
theorem mE (t:Tm) : ∀s,dy t=some s->t.valid=true∧s.valid=true:=by
 intro s h;unfold dy at h
 split at h
 ·rename_i hv
  refine⟨hv,?_⟩
  cases e:t.typS [] with
  | none=>rw[e] at h;cases h
  | some g=>
   rw[e] at h;obtain rfl:=Option.some.inj h;rw[S.valid]
   exact dT t 12 [] (by unfold Tm.valid at hv;simp at hv;exact hv.1) (fun b hb=>by cases hb) g e
 ·cases h
theorem ic (r:Nat)(y0:Value)(w:World)(r0:cl w r y0)(hr:r<=w.heap.size) :
  Calls Try.prog 12 #[y0] w (DR1 w):=by
 obtain⟨a0,n0,q0,rfl⟩:=r0.shape
 go_enter Try.func12,Try.ntmps12
 go_wp2_with fail
 refine(mB _ _ _ (r0.below ag) (by first | omega | (simp;done) | (simp;omega))).mono ?_;rintro e w1 ⟨rb,rfl,hro1,hrd1,hb1⟩;have hrl1:=hrd1.1
 try simp at hro1
 have hB:=(al ag hb1)
 have zw1:=hB.size;have f0_0:w1.frozen? ⟨w.heap.size,0,none⟩=false:=aG hb1 (ao (by simp) 0) (bT (by simp) 0);have f0_1:w1.frozen? ⟨w.heap.size,1,none⟩=false:=aG hb1 (ao (by simp) 1) (bT (by simp) 1);have c0_0:w1.cell? ⟨w.heap.size,0,none⟩=some (.int .i64 0):=af hb1 (ao (by simp) 0);have c0_1:w1.cell? ⟨w.heap.size,1,none⟩=some (.slice none 0 0):=af hb1 (ao (by simp) 1);have d0_w1:=World.block_lt_of_cell? _ _ c0_0
 go_wp2_with fail
 refine(eC rb 0 _ hrd1 (by omega)).mono ?_;rintro e w2 ⟨t2,v2,q2,rfl,hn2,hv2,hq2,hrd2,hc2⟩;have hrl2:=hrd2.1;obtain⟨kv2,av2,nv2,qv2,rfl⟩:=hv2.shape;replace hB:=(bchg hB hc2 (by omega) (Nat.le_refl _))
 have zw2:=hB.size;replace f0_0:w2.frozen? ⟨w.heap.size,0,none⟩=false:=aO hc2 (by omega) (c0_0) (f0_0);replace f0_1:w2.frozen? ⟨w.heap.size,1,none⟩=false:=aO hc2 (by omega) (c0_1) (f0_1);replace c0_0:=aH hc2 (by omega) c0_0;replace c0_1:=aH hc2 (by omega) c0_1;have d0_w2:=World.block_lt_of_cell? _ _ c0_0
 go_wp2_with fail
 refine(dZ rb q2 14 t2 _ _ hrd2 (hv2.ne (by first | omega | (simp;done) | (simp;omega))) (by omega) (by omega) (by omega)).mono ?_;rintro e w3 ⟨t3,v3,q3,rfl,hn3,hv3,hq3,hrd3,hc3⟩;have hrl3:=hrd3.1;obtain⟨kv3,av3,nv3,qv3,rfl⟩:=hv3.shape;replace hB:=(bchg hB hc3 (by omega) (Nat.le_refl _))
 have zw3:=hB.size;replace f0_0:w3.frozen? ⟨w.heap.size,0,none⟩=false:=aO hc3 (by omega) (c0_0) (f0_0);replace f0_1:w3.frozen? ⟨w.heap.size,1,none⟩=false:=aO hc3 (by omega) (c0_1) (f0_1);replace c0_0:=aH hc3 (by omega) c0_0;replace c0_1:=aH hc3 (by omega) c0_1;have d0_w3:=World.block_lt_of_cell? _ _ c0_0
 go_wp2_with fail
 refine bq (.agg #[.int .i64 kv3,.slice av3 nv3 qv3]) (by simp[results,Try.results12,go_sem,c0_0,c0_1]) ?_
 exact⟨_,_,rfl,(ai.lower ((hv3.setCell (by first | (show w.heap.size<_;omega) | (show w.heap.size<_;simp;omega) | simp) _).setCell (by first | (show w.heap.size<_;omega) | (show w.heap.size<_;simp;omega) | simp) _) (by first | omega | (simp;done) | (simp;omega))),((hB.setCell (by show w.heap.size<=w.heap.size;omega) _).setCell (by show w.heap.size<=w.heap.size;omega) _)⟩
theorem mI {ty:Ty}{g h:S}:aY 6 ty [g,h]=if ((g.mat 4).2.2&&h.cons (g.mat 4).1)=true then some ([.fn (g.mat 4).1 (g.mat 4).2.1,(g.mat 4).1],(g.mat 4).2.1) else none:=by
 simp only[aY,if_true]
 cases g<;>simp[S.mat]
theorem jq (G:Nat->Prop)(c y:Value)(hcs : ∃a n q,c = .slice a n q)(nm:ByteArray)(u lb tk fk:Int)(ty:Ty)(ta fa ca:Option Addr)(tn tq fn fq cm cq:Nat)(w:World)(h1 h2:S)(hd:(h1.mat 4).2.2=false)(hy:av G w [h1.ty,h2.ty] y) :
  Calls Try.prog 28 #[c,.agg (nv 6 nm u tk ta tn tq fk fa fn fq lb ca cm cq),y] w (cS G (aY 6 ty [h1,h2]) w):=by
 obtain⟨b,off,cap,k1,c1,m1,q1,k2,c2,m2,q2,rfl,-,-,hlb,e1a,e1b,e2a,e2b,ht1,ht2⟩:=hy.two;obtain⟨xa0,xn0,xq0,rfl⟩:=hcs;have HOO:=zq (mI (ty:=ty) (g:=h1) (h:=h2));have H1:=zq (ht1.move (.weaken (G:=(fun x=>G x∧x<w.heap.size)) fun b h hl=>⟨h,hl⟩));have H2:=zq (ht2.move (.weaken (G:=(fun x=>G x∧x<w.heap.size)) fun b h hl=>⟨h,hl⟩));have HM:=zq (fun W (h:Below w.heap.size w W)=>dP _ h1 4 (.inl rfl) _ W (H1.out.below h));generalize aY 6 ty [h1,h2]=O at HOO ⊢;generalize h1.mat 4=mm at HOO HM hd;obtain⟨ma,mb,okk⟩:=mm;simp only at HOO HM hd;obtain⟨d2,hd2⟩ : ∃d2,h2.cons ma=d2:=⟨_,rfl⟩
 rw[hd,hd2] at HOO;rw[hd] at HM;have HD2:=zq hd2;clear hy ht1 ht2 hd hd2
 go_enter Try.func28,Try.ntmps28
 go_wp2_with fail
 refine(aW _ _).mono ?_;rintro e w1 ⟨rfl,hb1⟩;have HB1:=zq (al (al ag ag) hb1);have fR0:=a9 (aA (w:=w.alloc (.cells (nv 6 nm u tk ta tn tq fk fa fn fq lb ca cm cq) 28)) (o:=.cells #[.int .i64 0,.slice none 0 0] 25) (b:=w.heap.size+1) (by simp)) hb1;have fE0:=a9 (a9 (aA (w:=w) (o:=.cells (nv 6 nm u tk ta tn tq fk fa fn fq lb ca cm cq) 28) rfl) (ag (o:=.cells #[.int .i64 0,.slice none 0 0] 25))) hb1;clear hb1
 go_wp2_with fail
 refine(aW _ _).mono ?_;rintro e w2 ⟨rfl,hb2⟩;replace fE0:=a9 fE0 hb2;replace HB1:=mh hb2 HB1;replace fR0:=a9 fR0 hb2;have hlr:=aw fR0;clear hb2;have d0:=ah fE0 (o:=0) rfl;have d1:=ah fE0 (o:=1) rfl;have lE:=aw fE0;have lE2:w.heap.size<w2.heap.size+1+1:=by omega
 have lE1:w.heap.size<w2.heap.size+1:=by omega
 have HBV:=zq (show Below w.heap.size w ((w2.alloc (.cells #[.int .i64 2,.slice none 0 0] 25)).alloc (.cells #[.int .i64 3,.slice none 0 0] 25)) from al (al HB1.out ag) ag);have m0:=af HB1.out e1a;have m1:=af HB1.out e1b;have lb0:b<w2.heap.size:=by have:=HB1.out.size;omega
 have lb1:b<w2.heap.size+1:=by omega
 have lb2:b<w2.heap.size+1+1:=by omega
 go_wp2_with fail
 refine(HM.out _ HBV.out).mono ?_;rintro e w3 ⟨ya,yb,rfl,hya,hyb,hst⟩;obtain⟨k3,a3,n3,q3,rfl⟩:=hya.shape;obtain⟨k4,a4,n4,q4,rfl⟩:=hyb.shape;have HYA:=zq (hya.move (.weaken (G:=(fun x=>(G x∧x<w.heap.size)∨w2.heap.size<=x∧x<w3.heap.size)) fun b h hl=>h.elim .inl fun h2=>.inr ⟨by simp at h2;omega,hl⟩));have HYB:=zq (hyb.move (.weaken (G:=(fun x=>(G x∧x<w.heap.size)∨w2.heap.size<=x∧x<w3.heap.size)) fun b h hl=>h.elim .inl fun h2=>.inr ⟨by simp at h2;omega,hl⟩));have fR3:=a9 (a9 (a9 fR0 ag) ag) hst;have fC3:=zq (al HBV.out hst);have z3:=hst.size;simp only[World.size_alloc] at z3;clear hya hyb hst d0 d1 m0 m1
 go_wp2_with fail
 generalize hVV:World.alloc (World.alloc w3 _) _=VV;obtain⟨hv,o1,o2,zV⟩:=bO hVV;have fR:=a9 fR3 hv;have fA:=o1;have fB:=o2;have fC:=zq (al fC3.out hv);have hA:=zq (HYA.out.below hv);have hB_:=zq (HYB.out.below hv);clear hv o1 o2;refine wh4 (bc0 fA) (bc1 fA) (bc0 fB) (bc1 fB) (fun U19 hb zU19a zU19b hH0=>?_);replace fR:=a9 fR hb;replace fA:=a9 fA hb;replace fB:=a9 fB hb;replace fC:=mh hb fC;replace hA:=mh hb hA;replace hB_:=mh hb hB_;rw[zV] at zU19a zU19b;clear hb hVV zV;refine hwq hx0 (.agg #[.int .i64 k3,.slice a3 n3 q3]) hH0 ?_;refine hwq hx1 (.agg #[.int .i64 k4,.slice a4 n4 q4]) hH0 ?_;refine hwq hx3 (.agg #[.int .i64 k3,.slice a3 n3 q3]) hH0 ?_;refine hwq hx5 (.agg #[.int .i64 k4,.slice a4 n4 q4]) hH0 ?_;refine hwq hx6 (.bool false) hH0 ?_;refine hwe hx2 (fun K hK=>?_)
 go_simp
 go_at_call 51
 refine(du _ 4 _ _ ma.ty mb.ty _ _ _ _ _ _ _ hA.out hB_.out).mono ?_;rintro e X1 ⟨ab,nb,qb,rfl,hr,hb⟩;have hN':Hid (ai (fun x=>((G x∧x<w.heap.size)∨w2.heap.size<=x∧x<w3.heap.size)∨U19.heap.size<=x∧x<X1.heap.size) X1 (.mk 4 [ma.ty,mb.ty]) (.agg #[.int .i64 4,.slice ab nb qb])):=zq (hr.move (.weaken fun b h hl=>h.elim .inl fun h2=>.inr ⟨h2,hl⟩));clear hr
 go_wp2_with fail
 have zX1:=hb.size;replace fR:=a9 fR hb;replace fA:=a9 fA hb;replace fB:=a9 fB hb;replace fC:=mh hb fC;replace hA:=mh hb hA;replace hB_:=mh hb hB_;have hN:=hN';clear hN';refine hko hK (fun hH1=>?_);clear hK K hH0 hb
 try simp only[hwA]
 refine hwq hx7 (.bool false) hH1 ?_;refine hwu hx8 hH1 ?_;refine hwu hx9 hH1 ?_;refine hwu bd hH1 ?_;refine hwu bl hH1 ?_;refine hwu bz hH1 ?_;refine hwq bA (.bool false) hH1 ?_;refine hwe hx4 (fun K hK=>?_)
 go_simp
 (try go_wp2_with fail);generalize hXq:World.alloc X1 _=X2;obtain⟨hb,fL,zX2a,zX2b⟩:=alE hXq;replace fR:=a9 fR hb;replace fA:=a9 fA hb;replace fB:=a9 fB hb;replace fC:=mh hb fC;replace hA:=mh hb hA;replace hB_:=mh hb hB_;replace hN:=mh hb hN;refine hko hK (fun hH2=>?_);clear hK K hH1 hb hXq
 try simp only[hwA]
 refine hwq bB (.slice (some ⟨X1.heap.size,0,none⟩) 2 2) hH2 ?_;refine hwe bF (fun K hK=>?_);obtain⟨r0,r1,rf0,rf1⟩:=b8 fR
 go_simp
 (try go_wp2_with fail);have hQq:=aJ fR (.int .i64 k4) (.slice a4 n4 q4);clear fR r0 rf0 r1 rf1;obtain⟨X3,hXq,hsq,fR,zX3a,zX3b⟩:=hQq;rw[hXq];replace fA:=hsq.bk fA;replace fB:=hsq.bk fB;replace fC:=hsq.be fC;replace hA:=zq (hsq.rep (fun b hb=>by rcases hb with ⟨-,h1⟩ | ⟨h1,-⟩<;>omega) hA.out);replace hB_:=zq (hsq.rep (fun b hb=>by rcases hb with ⟨-,h1⟩ | ⟨h1,-⟩<;>omega) hB_.out);replace hN:=zq (hsq.rep (fun b hb=>by rcases hb with (⟨-,h1⟩ | ⟨h1,-⟩) | ⟨h1,-⟩<;>omega) hN.out);replace fL:=hsq.bk fL;refine hko hK (fun hH3=>?_);clear hK K hH2 hsq hXq
 try simp only[hwA]
 refine hwq bI (.bool false) hH3 ?_;refine hwd ?_;clear hH3;obtain⟨rc0,rc1⟩:=blk2 fR
 go_wp2_with fail
 refine bq (.tuple #[.slice (some ⟨X1.heap.size,0,none⟩) 2 2,.agg #[.int .i64 k4,.slice a4 n4 q4],.bool false]) (by simp[results,Try.results28,go_sem,rc0,rc1]) ?_;have hw2:w.heap.size<=w2.heap.size:=HB1.out.size;have HN:O=none:=by rw[HOO.out];rfl
 exact⟨_,_,_,_,_,_,_,_,rfl,by rw[HN];rfl,(by rw[HN];intro ws t h;cases h),fC.out⟩
theorem jr (G:Nat->Prop)(c y:Value)(hcs : ∃a n q,c = .slice a n q)(nm:ByteArray)(u lb tk fk:Int)(ty:Ty)(ta fa ca:Option Addr)(tn tq fn fq cm cq:Nat)(w:World)(h1 h2:S)(hd:(h1.mat 4).2.2=true)(hy:av G w [h1.ty,h2.ty] y) :
    Calls Try.prog 28 #[c,.agg (nv 6 nm u tk ta tn tq fk fa fn fq lb ca cm cq),y] w (cS G (aY 6 ty [h1,h2]) w):=by
  obtain⟨b,off,cap,k1,c1,m1,q1,k2,c2,m2,q2,rfl,-,-,hlb,e1a,e1b,e2a,e2b,ht1,ht2⟩:=hy.two;obtain⟨xa0,xn0,xq0,rfl⟩:=hcs;have HOO:=zq (mI (ty:=ty) (g:=h1) (h:=h2));have H1:=zq (ht1.move (.weaken (G:=(fun x=>G x∧x<w.heap.size)) fun b h hl=>⟨h,hl⟩));have H2:=zq (ht2.move (.weaken (G:=(fun x=>G x∧x<w.heap.size)) fun b h hl=>⟨h,hl⟩));have HM:=zq (fun W (h:Below w.heap.size w W)=>dP _ h1 4 (.inl rfl) _ W (H1.out.below h));generalize aY 6 ty [h1,h2]=O at HOO ⊢;generalize h1.mat 4=mm at HOO HM hd;obtain⟨ma,mb,okk⟩:=mm;simp only at HOO HM hd;obtain⟨d2,hd2⟩ : ∃d2,h2.cons ma=d2:=⟨_,rfl⟩
  rw[hd,hd2] at HOO;rw[hd] at HM;have HD2:=zq hd2;clear hy ht1 ht2 hd hd2
  go_enter Try.func28,Try.ntmps28
  go_wp2_with fail
  refine(aW _ _).mono ?_;rintro e w1 ⟨rfl,hb1⟩;have HB1:=zq (al (al ag ag) hb1);have fR0:=a9 (aA (w:=w.alloc (.cells (nv 6 nm u tk ta tn tq fk fa fn fq lb ca cm cq) 28)) (o:=.cells #[.int .i64 0,.slice none 0 0] 25) (b:=w.heap.size+1) (by simp)) hb1;have fE0:=a9 (a9 (aA (w:=w) (o:=.cells (nv 6 nm u tk ta tn tq fk fa fn fq lb ca cm cq) 28) rfl) (ag (o:=.cells #[.int .i64 0,.slice none 0 0] 25))) hb1;clear hb1
  go_wp2_with fail
  refine(aW _ _).mono ?_;rintro e w2 ⟨rfl,hb2⟩;replace fE0:=a9 fE0 hb2;replace HB1:=mh hb2 HB1;replace fR0:=a9 fR0 hb2;have hlr:=aw fR0;clear hb2;have d0:=ah fE0 (o:=0) rfl;have d1:=ah fE0 (o:=1) rfl;have lE:=aw fE0;have lE2:w.heap.size<w2.heap.size+1+1:=by omega
  have lE1:w.heap.size<w2.heap.size+1:=by omega
  have HBV:=zq (show Below w.heap.size w ((w2.alloc (.cells #[.int .i64 2,.slice none 0 0] 25)).alloc (.cells #[.int .i64 3,.slice none 0 0] 25)) from al (al HB1.out ag) ag);have m0:=af HB1.out e1a;have m1:=af HB1.out e1b;have lb0:b<w2.heap.size:=by have:=HB1.out.size;omega
  have lb1:b<w2.heap.size+1:=by omega
  have lb2:b<w2.heap.size+1+1:=by omega
  go_wp2_with fail
  refine(HM.out _ HBV.out).mono ?_;rintro e w3 ⟨ya,yb,rfl,hya,hyb,hst⟩;obtain⟨k3,a3,n3,q3,rfl⟩:=hya.shape;obtain⟨k4,a4,n4,q4,rfl⟩:=hyb.shape;have HYA:=zq (hya.move (.weaken (G:=(fun x=>(G x∧x<w.heap.size)∨w2.heap.size<=x∧x<w3.heap.size)) fun b h hl=>h.elim .inl fun h2=>.inr ⟨by simp at h2;omega,hl⟩));have HYB:=zq (hyb.move (.weaken (G:=(fun x=>(G x∧x<w.heap.size)∨w2.heap.size<=x∧x<w3.heap.size)) fun b h hl=>h.elim .inl fun h2=>.inr ⟨by simp at h2;omega,hl⟩));have fR3:=a9 (a9 (a9 fR0 ag) ag) hst;have fC3:=zq (al HBV.out hst);have z3:=hst.size;simp only[World.size_alloc] at z3;clear hya hyb hst d0 d1 m0 m1
  go_wp2_with fail
  generalize hVV:World.alloc (World.alloc w3 _) _=VV;obtain⟨hv,o1,o2,zV⟩:=bO hVV;have fR:=a9 fR3 hv;have fA:=o1;have fB:=o2;have fC:=zq (al fC3.out hv);have hA:=zq (HYA.out.below hv);have hB_:=zq (HYB.out.below hv);have c2a_:=af hv (af fC3.out e2a);have c2b_:=af hv (af fC3.out e2b);have h2_:=zq ((H2.out.below fC3.out).below hv);clear hv o1 o2;refine wh6 (bc0 fA) (bc1 fA) (bc0 fB) (bc1 fB) c2a_ c2b_ (fun U20 hb zU20a zU20b hH0=>?_);replace fR:=a9 fR hb;replace fA:=a9 fA hb;replace fB:=a9 fB hb;replace fC:=mh hb fC;replace hA:=mh hb hA;replace hB_:=mh hb hB_;replace c2a_:=af hb c2a_;replace c2b_:=af hb c2b_;replace h2_:=mh hb h2_;rw[zV] at zU20a zU20b;clear hb hVV zV;refine hwq hx0 (.agg #[.int .i64 k3,.slice a3 n3 q3]) hH0 ?_;refine hwq hx1 (.agg #[.int .i64 k4,.slice a4 n4 q4]) hH0 ?_;refine hwq hx3 (.agg #[.int .i64 k3,.slice a3 n3 q3]) hH0 ?_;refine hwq hx5 (.agg #[.int .i64 k4,.slice a4 n4 q4]) hH0 ?_;refine hwq hx6 (.bool true) hH0 ?_;refine hwe hx2 (fun K hK=>?_)
  go_simp
  go_at_call 51
  refine(du _ 4 _ _ ma.ty mb.ty _ _ _ _ _ _ _ hA.out hB_.out).mono ?_;rintro e X1 ⟨ab,nb,qb,rfl,hr,hb⟩;have hN':Hid (ai (fun x=>((G x∧x<w.heap.size)∨w2.heap.size<=x∧x<w3.heap.size)∨U20.heap.size<=x∧x<X1.heap.size) X1 (.mk 4 [ma.ty,mb.ty]) (.agg #[.int .i64 4,.slice ab nb qb])):=zq (hr.move (.weaken fun b h hl=>h.elim .inl fun h2=>.inr ⟨h2,hl⟩));clear hr
  go_wp2_with fail
  have zX1:=hb.size;replace fR:=a9 fR hb;replace fA:=a9 fA hb;replace fB:=a9 fB hb;replace fC:=mh hb fC;replace hA:=mh hb hA;replace hB_:=mh hb hB_;replace c2a_:=af hb c2a_;replace c2b_:=af hb c2b_;replace h2_:=mh hb h2_;have hN:=hN';clear hN';refine hko hK (fun hH1=>?_);clear hK K hH0 hb
  try simp only[hwA]
  refine hwq hx7 (.bool true) hH1 ?_;refine hwq hx8 (.slice (some ⟨b,off,none⟩) 2 cap) hH1 ?_;refine hwq hx9 (.pointer (some ⟨b,off+2,none⟩)) hH1 ?_;refine hwq bd (.agg #[.int .i64 k2,.slice c2 m2 q2]) hH1 ?_;refine hwq bl (.agg #[.int .i64 k3,.slice a3 n3 q3]) hH1 ?_;refine wpAnyH_ready (rs:= [4,12]) (by kernel_rfl) (by simp) ?_;refine(AllReadyH.cons hx4 (fun K hK=>?_) (AllReadyH.cons bz (fun K hK=>?_) AllReadyH.nil))
  ·skip
   go_simp
   (try go_wp2_with fail);generalize hXq:World.alloc X1 _=X2;obtain⟨hb,fL,zX2a,zX2b⟩:=alE hXq;replace fR:=a9 fR hb;replace fA:=a9 fA hb;replace fB:=a9 fB hb;replace fC:=mh hb fC;replace hA:=mh hb hA;replace hB_:=mh hb hB_;replace c2a_:=af hb c2a_;replace c2b_:=af hb c2b_;replace h2_:=mh hb h2_;replace hN:=mh hb hN;refine hko hK (fun hH2=>?_);clear hK K hH1 hb hXq
   try simp only[hwA]
   refine hwe bz (fun K hK=>?_)
   go_simp
   go_at_call 21
   refine(aU _ _ _ _ _ _ _ h2_.out hA.out).mono ?_;rintro e X3 ⟨rfl,hb⟩;rw[S.ty_cons,HD2.out]
   go_wp2_with fail
   have zX3:=hb.size;replace fR:=a9 fR hb;replace fA:=a9 fA hb;replace fB:=a9 fB hb;replace fC:=mh hb fC;replace hA:=mh hb hA;replace hB_:=mh hb hB_;replace c2a_:=af hb c2a_;replace c2b_:=af hb c2b_;replace h2_:=mh hb h2_;replace hN:=mh hb hN;replace fL:=a9 fL hb;refine hko hK (fun hH3=>?_);clear hK K hH2 hb
   try simp only[hwA]
   refine hwq bA (.bool d2) hH3 ?_;refine hwq bB (.slice (some ⟨X1.heap.size,0,none⟩) 2 2) hH3 ?_;refine hwe bF (fun K hK=>?_);obtain⟨r0,r1,rf0,rf1⟩:=b8 fR
   go_simp
   (try go_wp2_with fail);have hQq:=aJ fR (.int .i64 k4) (.slice a4 n4 q4);clear fR r0 rf0 r1 rf1;obtain⟨X4,hXq,hsq,fR,zX4a,zX4b⟩:=hQq;rw[hXq];replace fA:=hsq.bk fA;replace fB:=hsq.bk fB;replace fC:=hsq.be fC;replace hA:=zq (hsq.rep (fun b hb=>by rcases hb with ⟨-,h1⟩ | ⟨h1,-⟩<;>omega) hA.out);replace hB_:=zq (hsq.rep (fun b hb=>by rcases hb with ⟨-,h1⟩ | ⟨h1,-⟩<;>omega) hB_.out);replace c2a_:=hsq.cq c2a_;replace c2b_:=hsq.cq c2b_;replace h2_:=zq (hsq.rep (fun b hb=>by have h1:=hb.2;omega) h2_.out);replace hN:=zq (hsq.rep (fun b hb=>by rcases hb with (⟨-,h1⟩ | ⟨h1,-⟩) | ⟨h1,-⟩<;>omega) hN.out);replace fL:=hsq.bk fL;refine hko hK (fun hH4=>?_);clear hK K hH3 hsq hXq
   try simp only[hwA]
   refine hwq bI (.bool d2) hH4 ?_;refine hwd ?_;clear hH4;obtain⟨rc0,rc1⟩:=blk2 fR
   go_wp2_with fail
   refine bq (.tuple #[.slice (some ⟨X1.heap.size,0,none⟩) 2 2,.agg #[.int .i64 k4,.slice a4 n4 q4],.bool d2]) (by simp[results,Try.results28,go_sem,rc0,rc1]) ?_;have hw2:w.heap.size<=w2.heap.size:=HB1.out.size;refine⟨_,_,_,_,_,_,_,_,rfl,by rw[HOO.out];cases d2<;>rfl,?_,fC.out⟩;intro ws t h;rw[HOO.out] at h
   cases d2 with
   | false=>cases h
   | true=>
     simp only[Bool.and_self,if_true,Option.some.injEq,Prod.mk.injEq] at h;obtain⟨rfl,rfl⟩:=h;refine⟨av.two_mk (b:=X1.heap.size) (cap:=2) (k1:=4) (k2:=k3) (c1:=.slice ab nb qb) (c2:=.slice a3 n3 q3) (.inr (by omega)) (Nat.le_refl 2) (by unfold maxLen;omega) (ah fL (o:=0) rfl) (ah fL (o:=1) rfl) (ah fL (o:=2) rfl) (ah fL (o:=3) rfl) (hN.out.move (.weaken fun b h _=>by rcases h with (⟨h1,-⟩ | ⟨h1,-⟩) | ⟨h1,-⟩;exact .inl h1;exact .inr (by omega);exact .inr (by omega))) (hA.out.move (.weaken fun b h _=>by rcases h with ⟨h1,-⟩ | ⟨h1,-⟩;exact .inl h1;exact .inr (by omega))),?_⟩
     exact hB_.out.move (.weaken fun b h _=>by rcases h with ⟨h1,-⟩ | ⟨h1,-⟩;exact .inl h1;exact .inr (by omega))
  ·skip
   go_simp
   go_at_call 21
   refine(aU _ _ _ _ _ _ _ h2_.out hA.out).mono ?_;rintro e X5 ⟨rfl,hb⟩;rw[S.ty_cons,HD2.out]
   go_wp2_with fail
   have zX5:=hb.size;replace fR:=a9 fR hb;replace fA:=a9 fA hb;replace fB:=a9 fB hb;replace fC:=mh hb fC;replace hA:=mh hb hA;replace hB_:=mh hb hB_;replace c2a_:=af hb c2a_;replace c2b_:=af hb c2b_;replace h2_:=mh hb h2_;replace hN:=mh hb hN;refine hko hK (fun hH2=>?_);clear hK K hH1 hb
   try simp only[hwA]
   refine hwq bA (.bool d2) hH2 ?_;refine hwe hx4 (fun K hK=>?_)
   go_simp
   (try go_wp2_with fail);generalize hXq:World.alloc X5 _=X6;obtain⟨hb,fL,zX6a,zX6b⟩:=alE hXq;replace fR:=a9 fR hb;replace fA:=a9 fA hb;replace fB:=a9 fB hb;replace fC:=mh hb fC;replace hA:=mh hb hA;replace hB_:=mh hb hB_;replace c2a_:=af hb c2a_;replace c2b_:=af hb c2b_;replace h2_:=mh hb h2_;replace hN:=mh hb hN;refine hko hK (fun hH5=>?_);clear hK K hH2 hb hXq
   try simp only[hwA]
   refine hwq bB (.slice (some ⟨X5.heap.size,0,none⟩) 2 2) hH5 ?_;refine hwe bF (fun K hK=>?_);obtain⟨r0,r1,rf0,rf1⟩:=b8 fR
   go_simp
   (try go_wp2_with fail);have hQq:=aJ fR (.int .i64 k4) (.slice a4 n4 q4);clear fR r0 rf0 r1 rf1;obtain⟨X7,hXq,hsq,fR,zX7a,zX7b⟩:=hQq;rw[hXq];replace fA:=hsq.bk fA;replace fB:=hsq.bk fB;replace fC:=hsq.be fC;replace hA:=zq (hsq.rep (fun b hb=>by rcases hb with ⟨-,h1⟩ | ⟨h1,-⟩<;>omega) hA.out);replace hB_:=zq (hsq.rep (fun b hb=>by rcases hb with ⟨-,h1⟩ | ⟨h1,-⟩<;>omega) hB_.out);replace c2a_:=hsq.cq c2a_;replace c2b_:=hsq.cq c2b_;replace h2_:=zq (hsq.rep (fun b hb=>by have h1:=hb.2;omega) h2_.out);replace hN:=zq (hsq.rep (fun b hb=>by rcases hb with (⟨-,h1⟩ | ⟨h1,-⟩) | ⟨h1,-⟩<;>omega) hN.out);replace fL:=hsq.bk fL;refine hko hK (fun hH6=>?_);clear hK K hH5 hsq hXq
   try simp only[hwA]
   refine hwq bI (.bool d2) hH6 ?_;refine hwd ?_;clear hH6;obtain⟨rc0,rc1⟩:=blk2 fR
   go_wp2_with fail
   refine bq (.tuple #[.slice (some ⟨X5.heap.size,0,none⟩) 2 2,.agg #[.int .i64 k4,.slice a4 n4 q4],.bool d2]) (by simp[results,Try.results28,go_sem,rc0,rc1]) ?_;have hw2:w.heap.size<=w2.heap.size:=HB1.out.size;refine⟨_,_,_,_,_,_,_,_,rfl,by rw[HOO.out];cases d2<;>rfl,?_,fC.out⟩;intro ws t h;rw[HOO.out] at h
   cases d2 with
   | false=>cases h
   | true=>
     simp only[Bool.and_self,if_true,Option.some.injEq,Prod.mk.injEq] at h;obtain⟨rfl,rfl⟩:=h;refine⟨av.two_mk (b:=X5.heap.size) (cap:=2) (k1:=4) (k2:=k3) (c1:=.slice ab nb qb) (c2:=.slice a3 n3 q3) (.inr (by omega)) (Nat.le_refl 2) (by unfold maxLen;omega) (ah fL (o:=0) rfl) (ah fL (o:=1) rfl) (ah fL (o:=2) rfl) (ah fL (o:=3) rfl) (hN.out.move (.weaken fun b h _=>by rcases h with (⟨h1,-⟩ | ⟨h1,-⟩) | ⟨h1,-⟩;exact .inl h1;exact .inr (by omega);exact .inr (by omega))) (hA.out.move (.weaken fun b h _=>by rcases h with ⟨h1,-⟩ | ⟨h1,-⟩;exact .inl h1;exact .inr (by omega))),?_⟩
     exact hB_.out.move (.weaken fun b h _=>by rcases h with ⟨h1,-⟩ | ⟨h1,-⟩;exact .inl h1;exact .inr (by omega))
theorem av.blkF {F:Nat->Prop}{w:World}{t:Ty}{b off n q:Nat}(h:av F w [t] (.slice (some ⟨b,off,none⟩) n q)):F b:=by
 unfold av aL at h;obtain⟨a,cap,he,-,-,h4⟩:=h;simp only[Value.slice.injEq] at he
 rcases h4 with h4 | ⟨b',off',ha,hF,-⟩
 ·simp[Ty.rows] at h4
 ·rw[<-he.1] at ha
  simp only[Option.some.injEq,Addr.mk.injEq] at ha;rw[ha.1];exact hF
theorem oq (G:Nat->Prop)  (nm:ByteArray)(u lb tk fk:Int)(ty src:Ty)(ts:List Tm)(l:List Bd)(xa ta fa ca:Option Addr)(xn xq tn tq fn fq cm cq:Nat)(w:World)
  (he:aB G w (.mk 14 nm u ty src lb ts) (.agg (nv 14 nm u tk ta tn tq fk fa fn fq lb ca cm cq)))
  (hb:aE G w l (.slice xa xn xq)) (hv:ty.valid=true) (hlen:ts.length=1)
  (IH : ∀t'∈ts,∀(W:World) (c' y':Value) (P:Nat->Prop),aE P W l c'->(c' = .slice xa xn xq)->aB P W t' y'->Calls Try.prog 13 #[c',y'] W (dI P ((t'.castS l).map S.ty) W))
  (IV : ∀t'∈ts,∀h,t'.castS l=some h->h.vd=true) :
  Calls Try.prog 13 #[.slice xa xn xq,.agg (nv 14 nm u tk ta tn tq fk fa fn fq lb ca cm cq)] w (dI G (((Tm.mk 14 nm u ty src lb ts).castS l).map S.ty) w):=by
 have hsm:ts.length<=3:=by omega
 obtain⟨-,-,-,-,-,-,-,-,hm,hnm,hmq,hqm,hty,hsrc,hks⟩:=he.parts;simp only[Tm.type,Tm.src,Tm.kids,Tm.name] at hm hty hsrc hks hnm;obtain⟨i0,hi,hz0,hz1,hz2⟩:=info_parts Try.infoTy;have Z0:=zq hz0;have Z1:=zq hz1;have Z2:=zq hz2;have HI:=zq hi;have hm3:cm<=3:=by omega
 have HM:=zq hm;have HIH:=zq IH;have HIV:=zq IV;obtain⟨PP,FF,B,hPF,hPQ⟩ : ∃(PP FF:Nat->Prop) (B:Nat),ec G w.heap.size B PP FF∧(w.heap.size+1+1<=B∧B<=w.heap.size+1+1):=⟨_,_,_,ec.start G w.heap.size,Nat.le_refl _,Nat.le_refl _⟩
 have HPF:=zq hPF;have HB:=zq hPQ.1;have hBB:=hPQ.2;have HKS:=zq (hks.move (.weaken (G:=PP) fun b h hl=>hPF.1 b h hl));have HCX0:=zq (hb.move (.weaken (G:=PP) fun b h hl=>hPF.1 b h hl));have HTYF:=zq (hty.move (.weaken (G:=FF) fun b h hl=>hPF.2.1 b (hPF.1 b h hl)));have HSRF:=zq (hsrc.move (.weaken (G:=FF) fun b h hl=>hPF.2.1 b (hPF.1 b h hl)));have HVT:=zq hv;have HLEN1:=zq hlen;obtain⟨O,hO⟩ : ∃O:Option Ty,O=((Tm.mk 14 nm u ty src lb ts).castS l).map S.ty:=⟨_,rfl⟩
 rw[<-hO];have HO:=zq (show O=(match Tm.castsS ts l with
   | some hs=>aM 14 ty src hs
   | none=>none:Option S).map S.ty from by rw[hO,eq (by omega)];cases Tm.castsS ts l<;>rfl)
 have fE:=zq (a9 (aA (w:=w) (o:=.cells (nv 14 nm u tk ta tn tq fk fa fn fq lb ca cm cq) 28) rfl) (ag (o:=.cells #[.int .i64 0,.slice none 0 0] 25)));have fR:=zq (aA (w:=w.alloc (.cells (nv 14 nm u tk ta tn tq fk fa fn fq lb ca cm cq) 28)) (o:=.cells #[.int .i64 0,.slice none 0 0] 25) (b:=w.heap.size+1) (by simp));clear hO he hb IH IV hty hsrc hks hi hz0 hz1 hz2 hm hPF hPQ hv hlen
 go_enter Try.func13,Try.ntmps13
 go_wp2_with fail
 go_loopw [7,33] (fun s7 s33 wr=>∃(j:Nat) (hs:List S) (cv:Option Addr) (qv:Nat),j<=cm∧s7 = .slice cv j qv∧s33 = .int .i64 j∧Hid (Below w.heap.size w wr)∧B<=wr.heap.size ∧
     Hid (wr.heap[w.heap.size]?=some (.cells (nv 14 nm u tk ta tn tq fk fa fn fq lb ca cm cq) 28 (0,0)))∧Hid (wr.heap[w.heap.size+1]?=some (.cells #[.int .i64 0,.slice none 0 0] 25 (0,0)))∧Hid (cT FF B 25 2 wr (.slice cv j qv) j (Ty.rows (hs.map S.ty)))∧Hid (aE PP wr l (.slice xa xn xq)) ∧
     Hid (hs.length=j∧(∀h∈hs,h.vd=true)∧Tm.castsS ts l=(Tm.castsS (ts.drop j) l).map (hs ++ ·))) (fun _ i _=>cm-(intOf i).toNat)
 case atStart=>exact⟨0,[],_,_,by omega,rfl,rfl,zq (al ag ag),by simp;omega,fE,fR,zq cT.nil,zq ((HCX0.out.below ag).below ag),zq ⟨rfl,by simp,by simp⟩⟩
 case round=>
  obtain⟨j,hs,cv,qv,hj,rfl,rfl,hbw,hsz,hE,hR,hrow,hcx,hrel2⟩:=hrel;clear fE fR HCX0;have x0:=ah hE.out (o:=0) rfl;have hB1:=HB.out;have lx8:w.heap.size<wr.heap.size:=by omega
  by_cases hlt:j<cm
  ·have hjt:j<ts.length:=by rw[<-HM.out];exact hlt
   obtain⟨b,off,kk0,nn0,uu0,tk0,ta0,tn0,tq0,fk0,fa0,fn0,fq0,ll0,a0,m0,q0,rfl,lb_,e0,e1,e2,e3,e4,e5,e6,e7,e8,ht⟩:=HKS.out.at hbw.out hjt;have HC:=zq (fun W (hW:Below wr.heap.size wr W)=>HIH.out ts[j] (List.getElem_mem hjt) W (.slice xa xn xq) _ PP (hcx.out.below hW) rfl (ht.below hW));have HCV:=zq (HIV.out ts[j] (List.getElem_mem hjt));have HCD:=zq (dO (l:=l) hjt);generalize hoj:ts[j].castS l=oj at HC HCV HCD;have lr:=aw hR.out;have hz3:j+1<=3:=by omega
   clear hoj ht x0
   cases oj with
   | none=>
    have HREL:=zq (show O=none from by rw[HO.out,hrel2.out.2.2,HCD.out];rfl)
    go_wp2_with fail
    refine(HC.out _ ag).mono ?_;rintro e w1 ⟨kt,at_,nt,qt,bt,tt,rfl,hbt,htt,hot,hst⟩;obtain rfl:bt=false:=hbt;have hR1:=a9 (a9 hR.out ag) hst;have HB1:=zq (al (al hbw.out ag) hst);have hz1:=hst.size;simp only[World.size_alloc] at hz1;clear htt hot hst hcx hE hR hrow;obtain⟨r0,r1⟩:=blk2 hR1;have rf0:=aj hR1 0;have rf1:=aj hR1 1;have lr1:=aw hR1;have lr2:w.heap.size+1<w1.heap.size+1:=by omega
    go_wp2_with fail
    have hY:(((w1.setCell ⟨w.heap.size+1,0,none⟩ (.int .i64 0)).setCell ⟨w.heap.size+1,1,none⟩ (.slice none 0 0)).alloc (.cells #[.int .i64 kt,.slice at_ nt qt] 25)).heap[w.heap.size+1]?=some (.cells #[.int .i64 0,.slice none 0 0] 25 (0,0)):=a9 (az (az hR1 rfl) rfl) ag;obtain⟨rc0,rc1⟩:=blk2 hY;refine bq (.tuple #[.agg #[.int .i64 0,.slice none 0 0],.bool false]) (by simp[results,Try.results13,go_sem,rc0,rc1]) ?_
    exact⟨_,_,_,_,_,_,rfl,by rw[HREL.out];rfl,ai.zeroG,(by rw[HREL.out];intro s h;cases h),al ((HB1.out.setCell (p:=⟨w.heap.size+1,0,none⟩) (by show w.heap.size<=w.heap.size+1;omega) _).setCell (p:=⟨w.heap.size+1,1,none⟩) (by show w.heap.size<=w.heap.size+1;omega) _) ag⟩
   | some hh=>
    have HVD:=zq (HCV.out hh rfl);have HNX:=zq (show Tm.castsS ts l=(Tm.castsS (ts.drop (j+1)) l).map ((hs ++ [hh]) ++ ·) from by
      rw[hrel2.out.2.2,HCD.out]
      cases Tm.castsS (ts.drop (j+1)) l<;>simp)
    obtain⟨hlenr,xs,ho,hvals⟩:=hrow.out;have HLEN:=zq hlenr;have HOW:=zq ho;have HV:=zq hvals;clear hlenr ho hvals hrow
    go_wp2_with fail
    refine(HC.out _ ag).mono ?_;rintro e w1 ⟨kt,at_,nt,qt,bt,tt,rfl,hbt,htt,hot,hst⟩;obtain rfl:bt=true:=hbt;obtain rfl:tt=hh.ty:=hot _ rfl;have HST:=zq (al ag hst);have HT1:=zq (htt.move (.weaken (G:=fun b=>FF b∧(Value.slice cv j qv).ownBlock≠some b) fun b h _=>by
      rcases h with h | h
      · have h2:=HPF.out.2.2.2.2.2.1 b h
        exact⟨HPF.out.2.1 b h,fun e=>by have:=(HOW.out.lt b e).1;omega⟩
      · simp only[World.size_alloc] at h
        exact⟨HPF.out.2.2.1 b (by omega),fun e=>by have:=(HOW.out.lt b e).2;omega⟩))
    have hz1:=hst.size;simp only[World.size_alloc] at hz1;have hW:=zq (show Below wr.heap.size wr ((w1.alloc (.cells #[.int .i64 kt,.slice at_ nt qt] 25)).alloc (.cells #[.int .i64 kt,.slice at_ nt qt] 25)) from al (al HST.out ag) ag);clear htt hot hst
    go_wp2_with (first | (at_builtin;refine wpList_append_lies _ rfl (.tmp 46) (.tmp 48) 23 rfl B 25 i0 _ 2 32 Try.underlying23 HI.out Z0.out Z1.out Z2.out rfl (by omega) (.slice cv j qv) j xs rfl (bc HOW.out hW.out) ⟨w1.heap.size+1,0,none⟩ 1 1 [.int .i64 kt,.slice at_ nt qt] rfl rfl (World.news_of_block (cs:=#[.int .i64 kt,.slice at_ nt qt]) (t:=25) (fr:=(0,0)) (aA (by simp))) (by simp[Value.oneCell']) (by omega) (by unfold maxLen;omega) (by omega) (by simp;omega) _ rfl ?_) | fail)
    intro gg cap2 w6 hown2 hgrow hat hlt2;have HROW:=zq (cT.push HLEN.out HV.out hW.out ((HT1.out.below ag).below ag).srep hown2 hgrow (by simpa using hat));have HBEL:=zq (bW hbw.out hW.out HOW.out (by omega) hgrow);have hfar:=cI hW.out HOW.out hgrow;have HFAR:=zq hfar;have hsz6:wr.heap.size<=w6.heap.size:=Nat.le_trans hW.out.size hgrow.size;have HCX6:=zq (show aE PP w6 l (.slice xa xn xq) from hcx.out.move ⟨hsz6,fun _ h _=>h,fun b h hl=>HFAR.out b hl (HPF.out.2.2.2.2.2.1 b h)⟩);clear hown2 hgrow hat hfar hcx
    go_wp2_with fail
    go_roundw
    case rel=>exact⟨j+1,hs ++ [hh],_,_,by omega,rfl,by go_num,HBEL,by omega,zq ((HFAR.out w.heap.size (by omega) (by omega)).trans hE.out),zq ((HFAR.out (w.heap.size+1) (by omega) (by omega)).trans hR.out),(by
        unfold Hid;have e1:Ty.rows ((hs ++ [hh]).map S.ty)=Ty.rows (hs.map S.ty) ++ [hh.ty.row]:=by simp[Ty.rows_eq]
        rw[e1]
        exact HROW.out),HCX6,zq ⟨by simp[hrel2.out.1],fun h hm=>(List.mem_append.1 hm).elim (hrel2.out.2.1 h) (fun q=>by simp at q;subst q;exact HVD.out),HNX.out⟩⟩
    case measure=>simp[intOf];omega
  ·have HJE:=zq (show j=cm by omega)
   have HJL:=zq (show ts.drop j = [] from List.drop_eq_nil_of_le (by have:=HM.out;have:=HJE.out;omega));have HREL0:=zq (show O=(aM 14 ty src hs).map S.ty from by
     rw[HO.out,hrel2.out.2.2,HJL.out,Tm.castsS]
     simp)
   go_wp2_with fail
   have hTY:av FF wr (hs.map S.ty) (.slice cv j qv):=hrow.out.rep HPF.out.2.2.1;obtain⟨h1,rfl⟩ : ∃h1,hs = [h1]:=List.length_eq_one_iff.1 (by have:=hrel2.out.1;have:=HM.out;have:=HJE.out;have:=HLEN1.out;omega);obtain⟨b,off,cap,k1,c1,m1,q1,hsl,hlb,e1a,e1b,ht1⟩:=hTY.one;simp only[Value.slice.injEq] at hsl;obtain⟨rfl,hj1,rfl⟩:=hsl;have hbne:b≠w.heap.size+1:=HPF.out.2.2.2.1 b hTY.blkF;clear hTY hrow hcx hrel2 hlt hj;subst hj1;have fE:wr.heap[w.heap.size]?=some (.cells (nv 14 nm u tk ta tn tq fk fa fn fq lb ca cm cq) 28 (0,0)):=hE.out;have fR:wr.heap[w.heap.size+1]?=some (.cells #[.int .i64 0,.slice none 0 0] 25 (0,0)):=hR.out;have fC:Hid (Below w.heap.size w wr):=hbw;have c1a_:wr.cell? ⟨b,off,none⟩=some (.int .i64 k1):=e1a;have c1b_:wr.cell? ⟨b,off+1,none⟩=some (.slice c1 m1 q1):=e1b;have h1_:Hid (ai FF wr h1.ty (.agg #[.int .i64 k1,.slice c1 m1 q1])):=zq ht1;have hT:Hid (ai FF wr ty (.agg #[.int .i64 tk,.slice ta tn tq])):=zq (HTYF.out.below hbw.out);have hS:Hid (ai FF wr src (.agg #[.int .i64 fk,.slice fa fn fq])):=zq (HSRF.out.below hbw.out);refine wh6 (bc3 fE) (bc4 fE) (bc5 fE) (bc6 fE) c1a_ c1b_ (fun U4 hb zU4a zU4b hH0=>?_);replace fE:=a9 fE hb;replace fR:=a9 fR hb;replace fC:=mh hb fC;replace c1a_:=af hb c1a_;replace c1b_:=af hb c1b_;replace h1_:=mh hb h1_;replace hT:=mh hb hT;replace hS:=mh hb hS;clear hb;refine hwq hx0 (.pointer (some ⟨w.heap.size,3,none⟩)) hH0 ?_;refine hwq hx1 (.agg #[.int .i64 tk,.slice ta tn tq]) hH0 ?_;refine hwq hx2 (.slice (some ⟨b,off,none⟩) 1 qv) hH0 ?_;refine hwq hx3 (.pointer (some ⟨b,off,none⟩)) hH0 ?_;refine hwq hx4 (.agg #[.int .i64 k1,.slice c1 m1 q1]) hH0 ?_;refine hwq hx5 (.pointer (some ⟨w.heap.size,5,none⟩)) hH0 ?_;refine hwq hx6 (.agg #[.int .i64 fk,.slice fa fn fq]) hH0 ?_;refine hwe hx7 (fun K hK=>?_)
   go_simp
   go_at_call 8
   refine(cA _ _ _ _ _ _ _ h1_.out hS.out).mono ?_;rintro e X1 ⟨rfl,hb⟩
   go_wp2_with fail
   have zX1:=hb.size;replace fE:=a9 fE hb;replace fR:=a9 fR hb;replace fC:=mh hb fC;replace c1a_:=af hb c1a_;replace c1b_:=af hb c1b_;replace h1_:=mh hb h1_;replace hT:=mh hb hT;replace hS:=mh hb hS;refine hko hK (fun hH1=>?_);clear hK K hH0 hb
   try simp only[hwA]
   refine hwe hx8 (fun K hK=>?_);obtain⟨r0,r1,rf0,rf1⟩:=b8 fR
   go_simp
   (try go_wp2_with fail);have hQq:=aJ fR (.int .i64 tk) (.slice ta tn tq);clear fR r0 rf0 r1 rf1;obtain⟨X2,hXq,hsq,fR,zX2a,zX2b⟩:=hQq;rw[hXq];replace fE:=hsq.bk fE;replace fC:=hsq.be fC;replace c1a_:=hsq.cq c1a_;replace c1b_:=hsq.cq c1b_;replace h1_:=zq (hsq.rep (HPF.out.2.2.2.1) h1_.out);replace hT:=zq (hsq.rep (HPF.out.2.2.2.1) hT.out);replace hS:=zq (hsq.rep (HPF.out.2.2.2.1) hS.out);refine hko hK (fun hH2=>?_);clear hK K hH1 hsq hXq
   try simp only[hwA]
   refine hwq hx9 (.bool (h1.ty.same src)) hH2 ?_;refine hwd ?_;clear hH2;obtain⟨rc0,rc1⟩:=blk2 fR
   go_wp2_with fail
   refine bq (.tuple #[.agg #[.int .i64 tk,.slice ta tn tq],.bool (h1.ty.same src)]) (by simp[results,Try.results13,go_sem,rc0,rc1]) ?_;have hnode:O=if h1.ty.same src=true then some ty else none:=by rw[HREL0.out];simp only[aM];cases h1.ty.same src<;>simp[Ty.toS_ty HVT.out]
   exact⟨_,_,_,_,_,ty,rfl,by rw[hnode];cases h1.ty.same src<;>rfl,hT.out.move (.weaken fun b h _=>HPF.out.2.2.2.2.1 b h),(by rw[hnode];intro t h;cases hs:h1.ty.same src<;>rw[hs] at h<;>simp at h;exact h),fC.out⟩
theorem ea {α:Type}{l:List α}(h:l.length=2) : ∃a b,l = [a,b]:=by
 match l,h with
 | [a,b],_=>exact⟨a,b,rfl⟩
theorem lenI3 {α:Type}{l:List α}(h:l.length=3) : ∃a b c,l = [a,b,c]:=by
 match l,h with
 | [a,b,c],_=>exact⟨a,b,c,rfl⟩
theorem mJ {k:Int}{ty:Ty}{hs ws:List S}{t:S}(h:aY k ty hs=some (ws,t)):ws.length<=hs.length:=by
 match hs,h with
 | [],h=>simp[aY] at h
 | [g],h=>
  simp only[aY] at h
  split at h
  ·simp at h;obtain⟨e,-⟩:=h;subst e;simp
  ·split at h
   ·simp at h;obtain⟨e,-⟩:=h;subst e;simp
   ·cases h
 | [g,i],h=>
  simp only[aY] at h
  split at h
  ·split at h
   ·split at h
    ·simp at h;obtain⟨e,-⟩:=h;subst e;simp
    ·cases h
   ·cases h
  ·split at h
   ·simp at h;obtain⟨e,-⟩:=h;subst e;simp
   ·split at h
    ·simp at h;obtain⟨e,-⟩:=h;subst e;simp
    ·cases h
 | [c,g,i],h=>
  simp only[aY] at h
  split at h
  ·simp at h;obtain⟨e,-⟩:=h;subst e;simp
  ·cases h
 | a::b::c::d::l,h=>simp[aY] at h
theorem g8 (k:Int)(hs:List S)(hk:5<=k∧k<=12)(hlen:aD k=(hs.length:Int))(hv : ∀h∈hs,h.vd=true)(G:Nat->Prop)(c y:Value)(hc : ∃a n q,c = .slice a n q)(nm:ByteArray)(u lb tk fk:Int)(ty:Ty)(ta fa ca:Option Addr)(tn tq fn fq cm cq:Nat)(w:World)(hty:ai G w ty (.agg #[.int .i64 tk,.slice ta tn tq]))(hvt:k=5->ty.valid=true)(hy:av G w (hs.map S.ty) y) :
  Calls Try.prog 28 #[c,.agg (nv k nm u tk ta tn tq fk fa fn fq lb ca cm cq),y] w (cS G (aY k ty hs) w):=by
 have hcase:k=5∨k=6∨k=7∨k=8∨k=9∨k=10∨k=11∨k=12:=by omega
 rcases hcase with rfl | rfl | rfl | rfl | rfl | rfl | rfl | rfl
 ·obtain⟨h1,rfl⟩ : ∃h1,hs = [h1]:=List.length_eq_one_iff.1 (by simp[aD] at hlen;omega)
  exact ls G c y hc nm u lb tk fk ty ta fa ca tn tq fn fq cm cq w hty (hvt rfl) h1 hy
 ·obtain⟨h1,h2,rfl⟩ : ∃h1 h2,hs = [h1,h2]:=ea (by simp[aD] at hlen;omega)
  cases e:(h1.mat 4).2.2 with
  | false=>exact jq G c y hc nm u lb tk fk ty ta fa ca tn tq fn fq cm cq w h1 h2 e hy
  | true=>exact jr G c y hc nm u lb tk fk ty ta fa ca tn tq fn fq cm cq w h1 h2 e hy
 ·obtain⟨h1,h2,rfl⟩ : ∃h1 h2,hs = [h1,h2]:=ea (by simp[aD] at hlen;omega)
  cases e:h1.cons .int with
  | false=>exact js G c y hc nm u lb tk fk ty ta fa ca tn tq fn fq cm cq w h1 h2 e hy
  | true=>exact jt G c y hc nm u lb tk fk ty ta fa ca tn tq fn fq cm cq w h1 h2 e hy
 ·obtain⟨h1,h2,rfl⟩ : ∃h1 h2,hs = [h1,h2]:=ea (by simp[aD] at hlen;omega)
  cases e:h1.cons .int with
  | false=>exact ju G c y hc nm u lb tk fk ty ta fa ca tn tq fn fq cm cq w h1 h2 e hy
  | true=>exact jv G c y hc nm u lb tk fk ty ta fa ca tn tq fn fq cm cq w h1 h2 e hy
 ·obtain⟨h1,h2,h3,rfl⟩ : ∃h1 h2 h3,hs = [h1,h2,h3]:=lenI3 (by simp[aD] at hlen;omega)
  cases e:h1.cons .bool with
  | false=>exact jA G c y hc nm u lb tk fk ty ta fa ca tn tq fn fq cm cq w h1 h2 h3 e hy
  | true=>
   cases e2:h2.cons h3 with
   | false=>exact jw G c y hc nm u lb tk fk ty ta fa ca tn tq fn fq cm cq w h1 h2 h3 e e2 hy
   | true=>exact jB G c y hc nm u lb tk fk ty ta fa ca tn tq fn fq cm cq w h1 h2 h3 e e2 (hv h2 (by simp)) (hv h3 (by simp)) hy
 ·obtain⟨h1,h2,rfl⟩ : ∃h1 h2,hs = [h1,h2]:=ea (by simp[aD] at hlen;omega)
  exact kD G c y hc nm u lb tk fk ty ta fa ca tn tq fn fq cm cq w hty h1 h2 hy
 ·obtain⟨h1,rfl⟩ : ∃h1,hs = [h1]:=List.length_eq_one_iff.1 (by simp[aD] at hlen;omega)
  exact kE G c y hc nm u lb tk fk ty ta fa ca tn tq fn fq cm cq w h1 hy
 ·obtain⟨h1,rfl⟩ : ∃h1,hs = [h1]:=List.length_eq_one_iff.1 (by simp[aD] at hlen;omega)
  exact kF G c y hc nm u lb tk fk ty ta fa ca tn tq fn fq cm cq w h1 hy
theorem oa (k:Int)(ty src:Ty)(hs:List S)(hk:6<=k∧k<=12)(hlen:aD k=(hs.length:Int))(hv : ∀h∈hs,h.vd=true):aM k ty src hs=bv (aY k ty hs) hs:=by
 have hcase:k=6∨k=7∨k=8∨k=9∨k=10∨k=11∨k=12:=by omega
 rcases hcase with rfl | rfl | rfl | rfl | rfl | rfl | rfl
 ·obtain⟨h1,h2,rfl⟩ : ∃h1 h2,hs = [h1,h2]:=ea (by simp[aD] at hlen;omega)
  exact iV _ ty src h1 h2 (by omega) (hv h1 (by simp)) (hv h2 (by simp))
 ·obtain⟨h1,h2,rfl⟩ : ∃h1 h2,hs = [h1,h2]:=ea (by simp[aD] at hlen;omega)
  exact iV _ ty src h1 h2 (by omega) (hv h1 (by simp)) (hv h2 (by simp))
 ·obtain⟨h1,h2,rfl⟩ : ∃h1 h2,hs = [h1,h2]:=ea (by simp[aD] at hlen;omega)
  exact iV _ ty src h1 h2 (by omega) (hv h1 (by simp)) (hv h2 (by simp))
 ·obtain⟨h1,h2,h3,rfl⟩ : ∃h1 h2 h3,hs = [h1,h2,h3]:=lenI3 (by simp[aD] at hlen;omega)
  exact node_3 _ ty src h1 h2 h3 (hv h2 (by simp)) (hv h3 (by simp))
 ·obtain⟨h1,h2,rfl⟩ : ∃h1 h2,hs = [h1,h2]:=ea (by simp[aD] at hlen;omega)
  exact iV _ ty src h1 h2 (by omega) (hv h1 (by simp)) (hv h2 (by simp))
 ·obtain⟨h1,rfl⟩ : ∃h1,hs = [h1]:=List.length_eq_one_iff.1 (by simp[aD] at hlen;omega)
  exact node_1 _ ty src h1 (by omega) (hv h1 (by simp))
 ·obtain⟨h1,rfl⟩ : ∃h1,hs = [h1]:=List.length_eq_one_iff.1 (by simp[aD] at hlen;omega)
  exact node_1 _ ty src h1 (by omega) (hv h1 (by simp))
def P4 (t:Tm)(d:Int):Prop:=∀(l:List Bd) (c y:Value) (W:World) (G:Nat->Prop),t.shape 13 d=true->(l.length:Int)+d<=1000->cz l->dz l c->aE G W l c->aB G W t y->Calls Try.prog 13 #[c,y] W (dI G ((t.castS l).map S.ty) W)
theorem nJ (t:Tm)(d:Int)(IH : ∀t'∈t.kids,P4 t' (d-1)):P4 t d:=by
 intro l c y W G hsh hld hc hcv hb he
 cases t with
 | mk k nm u ty src lb ts=>
  obtain⟨hd,hk13,hlen,hown,hkids⟩:=Tm.shape_parts hsh;obtain⟨k',nm',u',tk,ta,tn,tq,fk,fa,fn,fq,lb',ca,cm,cq,rfl⟩:=he.shape;obtain⟨e1,e2,e3,-,-,-,-,e8,hcm,hnm,-,-,hty,hsrc,hks⟩:=he.parts;simp only[Tm.kind,Tm.name,Tm.num,Tm.label,Tm.type] at e1 e2 e3 e8 hty;subst e1 e2 e3 e8;have hl0:(0:Int)<=aD k':=by rw[hlen];omega
  have hsm:ts.length<=3:=by
   have:aD k'<=3:=by unfold aD;repeat' split<;>omega
   omega
  have hsh0:=hcv.shape;obtain⟨xa,xn,xq,rfl⟩:=hcv.shape;have hkk:(1<=k'∧k'<=12)∨k'=14:=by
   unfold aD at hl0
   split at hl0
   ·omega
   split at hl0
   ·omega
   split at hl0
   ·omega
   split at hl0
   ·omega
   ·omega
  have IHl : ∀t'∈ts,∀(W':World) (c' y':Value) (P:Nat->Prop),aE P W' l c'->c' = .slice xa xn xq->aB P W' t' y'->Calls Try.prog 13 #[c',y'] W' (dI P ((t'.castS l).map S.ty) W'):=
   fun t' ht' W' c' y' P h1 h2 h3=>IH t' ht' l c' y' W' P (Tm.shapes_mem hkids ht') (by omega) hc (h2▸hcv) h1 h3
  have IVl : ∀t'∈ts,∀h,t'.castS l=some h->h.vd=true:=fun t' ht' h e=>dB t' _ l (Tm.shapes_mem hkids ht') hc h e
  by_cases h14:k'=14
  ·subst h14
   exact oq G nm' u' lb' tk fk ty src ts l xa ta fa ca xn xq tn tq fn fq cm cq W he hb (gG hown (.inr rfl)) (by simp[aD] at hlen;omega) IHl IVl
  by_cases h5:k'=5
  ·subst h5
   have hv:=gG hown (.inl rfl);have hc2:=hc.snoc (nm:=nm') hv;obtain⟨t1,rfl⟩ : ∃t1,ts = [t1]:=List.length_eq_one_iff.1 (by simp[aD] at hlen;omega);have hres:=ot G nm' u' lb' tk fk ty src [t1] l xa ta fa ca xn xq tn tq fn fq cm cq W (aY 5 ty) he hb (by omega)
    (fun W' _ h=>by
      rcases hcv with ⟨rfl,hx⟩ | ⟨hl1,a,m,q,hx⟩
      · rw[hx];exact kv _ W'
      · simp only[Value.slice.injEq] at hx
        obtain⟨rfl,rfl,rfl⟩:=hx
        exact nK _ l a xn xq W' h (by omega))
    (fun t' ht' W' c' y' P h1 h2 h3=>IH t' ht' _ c' y' W' P (Tm.shapes_mem hkids ht') (by simp;omega) hc2 (.inr ⟨by simp,h2⟩) h1 h3)
    (fun t' ht' h e=>dB t' _ _ (Tm.shapes_mem hkids ht') hc2 h e)
    (fun hs h1 h2 W' H y' h3 h4 h5=>g8 5 hs (by omega) (by rw[h1];exact hlen) h2 H _ y' ⟨_,_,_,rfl⟩ nm' u' lb' tk fk ty ta fa ca tn tq fn fq cm cq W' h3 (fun _=>hv) h5)
    (fun hs ws t h=>mJ h) (by simp)
   have he:(Tm.mk 5 nm' u' ty src lb' [t1]).castS l=(Tm.castsS [t1] (l ++ [⟨nm',ty⟩])).bind fun hs=>bv (aY 5 ty hs) hs:=by
    rw[Tm.castS,if_neg (by omega),if_neg (by omega),if_neg (by omega),if_pos rfl];simp only[Tm.castsS]
    cases t1.castS (l ++ [⟨nm',ty⟩]) with
    | none=>rfl
    | some h=>simp[aY,bv]
   rw[he];exact hres
  have g5:(k'==5)=false:=by rw[beq_eq_false_iff_ne];exact h5
  have g14:(k'==14)=false:=by rw[beq_eq_false_iff_ne];exact h14
  by_cases h6:6<=k'
  ·have hres:=dW G k' nm' u' lb' tk fk ty src ts l xa ta fa ca xn xq tn tq fn fq cm cq W (aY k' ty) he hb g5 g14 IHl IVl
    (fun hs h1 h2 W' H y' h3 h4 h5=>g8 k' hs (by omega) (by rw[h1];exact hlen) h2 H _ y' ⟨_,_,_,rfl⟩ nm' u' lb' tk fk ty ta fa ca tn tq fn fq cm cq W' h3 (fun e=>absurd e (by omega)) h5)
    (fun hs ws t h=>mJ h) hsm
   have he:(Tm.mk k' nm' u' ty src lb' ts).castS l=(Tm.castsS ts l).bind fun hs=>bv (aY k' ty hs) hs:=by
    rw[eq h6]
    cases hcs:Tm.castsS ts l with
    | none=>rfl
    | some hs=>
     obtain⟨q1,q2⟩:=fI hc ts hkids (fun t' ht' h _ e=>IVl t' ht' h e) hs hcs
     exact oa k' ty src hs (by omega) (by rw[hlen,q1]) q2
   rw[he];exact hres
  have hts:ts = []:=by
   have:aD k'=0:=by unfold aD;rw[if_pos (by omega)]
   exact List.length_eq_zero_iff.1 (by omega)
  subst hts;have hys : ∀ {H:Nat->Prop} {W':World} {y':Value} {hs:List S},av H W' (hs.map S.ty) y'->∃a n q,y' = .slice a n q:=fun h=>by
   obtain⟨a,cap,e,-⟩:=h.open
   exact⟨_,_,_,e⟩
  by_cases h1:k'=1
  ·subst h1
   have hres:=dW G 1 nm' u' lb' tk fk ty src [] l xa ta fa ca xn xq tn tq fn fq cm cq W (fun _=>(bS l nm' l.length).map fun t=>([],t.toS)) he hb rfl rfl IHl IVl
    (fun hs h1 h2 W' H y' h3 h4 h5=>ln H l _ y' ⟨_,_,_,rfl⟩ (hys h5) nm' u' lb' tk fk ta fa ca tn tq fn fq cm cq W' h4 hc)
    (fun hs ws t h=>by cases hl:bS l nm' l.length<;>rw[hl] at h<;>simp at h;obtain⟨e,-⟩:=h;subst e;simp) hsm
   have he:(Tm.mk 1 nm' u' ty src lb' []).castS l=(Tm.castsS [] l).bind fun hs=>bv ((bS l nm' l.length).map fun t=>([],t.toS)) hs:=by
    rw[Tm.castS,if_pos rfl,Tm.castsS]
    cases hl:bS l nm' l.length with
    | none=>rfl
    | some t=>simp[bv,Ty.toS_vd (dR hc _ t hl)]
   rw[he];exact hres
  by_cases h2:k'=2
  ·subst h2
   have hres:=dW G 2 nm' u' lb' tk fk ty src [] l xa ta fa ca xn xq tn tq fn fq cm cq W (fun _=>some ([],.int)) he hb rfl rfl IHl IVl
    (fun hs h1 h2 W' H y' h3 h4 h5=>lo H _ y' ⟨_,_,_,rfl⟩ (hys h5) nm' u' lb' tk fk ta fa ca tn tq fn fq cm cq W')
    (fun hs ws t h=>by simp at h;obtain⟨e,-⟩:=h;subst e;simp) hsm
   have he:(Tm.mk 2 nm' u' ty src lb' []).castS l=(Tm.castsS [] l).bind fun hs=>bv (some ([],.int)) hs:=by
    rw[Tm.castS,if_neg (by omega),if_pos rfl,Tm.castsS]
    simp[bv,S.vd,S.ok,S.dep]
   rw[he];exact hres
  by_cases h3:k'=3
  ·subst h3
   have hres:=dW G 3 nm' u' lb' tk fk ty src [] l xa ta fa ca xn xq tn tq fn fq cm cq W (fun _=>some ([],.bool)) he hb rfl rfl IHl IVl
    (fun hs h1 h2 W' H y' h3 h4 h5=>lp H _ y' ⟨_,_,_,rfl⟩ (hys h5) nm' u' lb' tk fk ta fa ca tn tq fn fq cm cq W')
    (fun hs ws t h=>by simp at h;obtain⟨e,-⟩:=h;subst e;simp) hsm
   have he:(Tm.mk 3 nm' u' ty src lb' []).castS l=(Tm.castsS [] l).bind fun hs=>bv (some ([],.bool)) hs:=by
    rw[Tm.castS,if_neg (by omega),if_neg (by omega),if_pos (by omega),Tm.castsS]
    simp[bv,S.vd,S.ok,S.dep]
   rw[he];exact hres
  have h4:k'=4:=by omega
  subst h4;have hres:=dW G 4 nm' u' lb' tk fk ty src [] l xa ta fa ca xn xq tn tq fn fq cm cq W (fun _=>some ([],.bool)) he hb rfl rfl IHl IVl
   (fun hs h1 h2 W' H y' h3 h4 h5=>lq H _ y' ⟨_,_,_,rfl⟩ (hys h5) nm' u' lb' tk fk ta fa ca tn tq fn fq cm cq W')
   (fun hs ws t h=>by simp at h;obtain⟨e,-⟩:=h;subst e;simp) hsm
  have he:(Tm.mk 4 nm' u' ty src lb' []).castS l=(Tm.castsS [] l).bind fun hs=>bv (some ([],.bool)) hs:=by
   rw[Tm.castS,if_neg (by omega),if_neg (by omega),if_pos (by omega),Tm.castsS]
   simp[bv,S.vd,S.ok,S.dep]
  rw[he];exact hres
theorem implCT : ∀(t:Tm) (d:Int),P4 t d
 | t,d=>nJ t d fun t' ht'=>implCT t' (d-1)
termination_by t=>SizeOf.sizeOf t
decreasing_by exact Tm.kid_lt ht'
end Go.Proofs.Ytfhglkmjibjjoaa
