/- spec.TypeOf. And what else its parts name. -/
import Derived.Test.YtfahhonmiimmdaaGreatB36
import Derived.Test.YtfahhonmiimmdaaGreatB40
import Derived.Test.YtfahhonmiimmdaaGreatB41
import Derived.Test.YtfahhonmiimmdaaGreatB49
set_option linter.unusedSimpArgs false
set_option linter.unusedVariables false
set_option maxRecDepth 100000
set_option maxHeartbeats 16000000
namespace Go.Proofs.YtfahhonmiimmdaaGreat
open Go.RowKit
def el (t:Tm):Option Ty:=if t.valid then (t.typS []).map S.ty else none
def RetSF (o:Option Ty)(w:World)(e:Ending)(w':World):Prop:=∃(k:Int) (a:Option Addr) (n q:Nat),e = .returned (.tuple #[.agg #[.int .i64 k,.slice a n q],.bool o.isSome])∧ao (fun x=>w.heap.size≤x) w' (o.getD (.mk 0 [])) (.agg #[.int .i64 k,.slice a n q])∧Below w.heap.size w w'
theorem uT (k:Int)(a:Option Addr)(n q:Nat)(w:World):Calls Tryz.prog 111 #[.agg #[.int .i64 k,.slice a n q],.bool false] w fun e w'=>e = .returned (.tuple #[.agg #[.int .i64 0,.slice none 0 0],.bool false])∧Below w.heap.size w w':=by
 go_enter Tryz.func111,Tryz.ntmps111
 go_wp2_with fail
 refine bodyPost_ret (v:=.tuple #[.agg #[.int .i64 0,.slice none 0 0],.bool false]) (by simp[results,Tryz.results111,go_sem]) rfl ?_
 exact⟨rfl,aj ai ai⟩
theorem uU (k:Int)(a:Option Addr)(n q:Nat)(w:World):Calls Tryz.prog 111 #[.agg #[.int .i64 k,.slice a n q],.bool true] w fun e w'=>e = .returned (.tuple #[.agg #[.int .i64 k,.slice a n q],.bool true])∧Below w.heap.size w w':=by
 go_enter Tryz.func111,Tryz.ntmps111
 go_wp2_with fail
 refine bodyPost_ret (v:=.tuple #[.agg #[.int .i64 k,.slice a n q],.bool true]) (by simp[results,Tryz.results111,go_sem]) rfl ?_
 exact⟨rfl,aj ai ai⟩
theorem uC (F:Nat→Prop)(t:Tm)(y:Value)(w:World)(hy:ax F w t y):Calls Tryz.prog 89 #[.slice none 0 0,y] w (RetSF (el t) w):=by
 have HV:=zq (fun W (h:Below w.heap.size w W)=>ib F t y W (hy.below h));have H4:=zq (fun(hv:t.valid=true) W (h:Below w.heap.size w W)=>i6 t 12 [] (.slice none 0 0) y W (fun _=>True) F (by unfold Tm.valid at hv;simp at hv;exact hv.1) (by simp) (fun b hb=>by cases hb) (.inl ⟨rfl,rfl⟩) (by unfold aE aH;exact⟨none,0,rfl,Nat.le_refl _,by unfold maxLen;omega,.inl rfl⟩) (hy.below h));obtain⟨k,nm,u,tk,ta,tn,tq,fk,fa,fn,fq,lb,ca,cm,cq,rfl⟩:=hy.shape;have fE:=af (aB (w:=w) (o:=.cells #[.int .i64 k,.string nm,.int .i64 u,.int .i64 tk,.slice ta tn tq,.int .i64 fk,.slice fa fn fq,.int .i64 lb,.slice ca cm cq] 28) rfl) (ai (o:=.cells #[.int .i64 0,.slice none 0 0] 25));have fR:=aB (w:=w.alloc (.cells #[.int .i64 k,.string nm,.int .i64 u,.int .i64 tk,.slice ta tn tq,.int .i64 fk,.slice fa fn fq,.int .i64 lb,.slice ca cm cq] 28)) (o:=.cells #[.int .i64 0,.slice none 0 0] 25) (b:=w.heap.size+1) (by simp);have HO:=zq (show el t=if t.valid then (t.typS []).map S.ty else none from rfl);generalize el t=O at HO ⊢;generalize (t.typS []).map S.ty=O1 at HO H4;generalize hcv:t.valid=cv at HO HV H4;clear hcv hy
 cases cv with
 | false=>
  have HOO:=zq (show O=none from by rw[HO.out];rfl);clear HO
  go_enter Tryz.func89,Tryz.ntmps89
  have HCX:=zq (fun W=>jC (fun _=>True) [] (.slice none 0 0) W (by unfold aE aH;exact⟨none,0,rfl,Nat.le_refl _,by unfold maxLen;omega,.inl rfl⟩))
  go_wp2_with fail
  refine(HCX.out _).mono ?_;rintro e w0 ⟨rfl,hb0⟩;rw[show ctxB []=true from by decide];have fE0:=af fE hb0;obtain⟨d0,d1,d2,d3,d4,d5,d6,d7,d8⟩:=blk9 fE0;have ld:=aC fE0;have hz0:=hb0.size;simp only[World.size_alloc] at hz0
  go_wp2_with fail
  refine(HV.out _ (aj (aj ai ai) hb0)).mono ?_;rintro e w1 ⟨rfl,hb1'⟩;have hb1:=aj hb0 hb1';clear d0 d1 d2 d3 d4 d5 d6 d7 d8 ld fE0 hb1' hb0 HCX;replace fR:=af fR hb1;have fC:=zq (aj (aj ai ai) hb1);clear hb1 fE;obtain⟨r0,r1⟩:=blk2 fR;have rf0:=al fR 0;have rf1:=al fR 1
  go_wp2_with fail
  have hY:((w1.setCell ⟨w.heap.size+1,0,none⟩ (.int .i64 0)).setCell ⟨w.heap.size+1,1,none⟩ (.slice none 0 0)).heap[w.heap.size+1]?=some (.cells #[.int .i64 0,.slice none 0 0] 25 (0,0)):=aI (aI fR rfl) rfl;obtain⟨rc0,rc1⟩:=blk2 hY;refine bodyPost_ret (v:=.tuple #[.agg #[.int .i64 0,.slice none 0 0],.bool false]) (by simp[results,Tryz.results89,go_sem,rc0,rc1]) rfl ?_;rw[HOO.out]
  exact⟨_,_,_,_,rfl,ao.zeroG,(fC.out.setCell (p:=⟨w.heap.size+1,0,none⟩) (by show w.heap.size≤w.heap.size+1;omega) _).setCell (p:=⟨w.heap.size+1,1,none⟩) (by show w.heap.size≤w.heap.size+1;omega) _⟩
 | true=>
  have HOO:=zq (show O=O1 from by rw[HO.out];rfl);clear HO
  go_enter Tryz.func89,Tryz.ntmps89
  have HCX:=zq (fun W=>jC (fun _=>True) [] (.slice none 0 0) W (by unfold aE aH;exact⟨none,0,rfl,Nat.le_refl _,by unfold maxLen;omega,.inl rfl⟩))
  go_wp2_with fail
  refine(HCX.out _).mono ?_;rintro e w0 ⟨rfl,hb0⟩;rw[show ctxB []=true from by decide];have fE0:=af fE hb0;obtain⟨d0,d1,d2,d3,d4,d5,d6,d7,d8⟩:=blk9 fE0;have ld:=aC fE0;have hz0:=hb0.size;simp only[World.size_alloc] at hz0
  go_wp2_with fail
  refine(HV.out _ (aj (aj ai ai) hb0)).mono ?_;rintro e w1 ⟨rfl,hb1'⟩;have hb1:=aj hb0 hb1';clear d0 d1 d2 d3 d4 d5 d6 d7 d8 ld fE0 hb1' hb0 HCX;replace fR:=af fR hb1;replace fE:=af fE hb1;have fC:=zq (aj (aj ai ai) hb1);have H5:=zq (H4.out (by simp) w1 fC.out);have hz1:=hb1.size;simp only[World.size_alloc] at hz1;clear hb1 H4;obtain⟨d0,d1,d2,d3,d4,d5,d6,d7,d8⟩:=blk9 fE
  go_wp2_with fail
  refine H5.out.mono ?_;rintro e w2 ⟨k2,a2,n2,q2,b2,t2,rfl,hb2,ht2,ho2,hst⟩;replace fR:=af fR hst;replace fC:=zq (aj fC.out hst);have HT:=zq ht2;have HB:=zq hb2;have HOT:=zq ho2;have hz2:=hst.size;clear ht2 ho2 hst d0 d1 d2 d3 d4 d5 d6 d7 d8;have hne : ∀b,(False∨w1.heap.size≤b)→b≠w.heap.size+1:=fun b h=>by
   have h1:=h.elim False.elim id
   omega
  have HNE:=zq hne;clear hne hb2
  cases b2 with
  | false=>
   have HN:=zq (show O=none from by rw[HOO.out];cases h:O1 with | none=>rfl | some x=>have:=HB.out;rw[h] at this;cases this)
   go_wp2_with fail
   refine(uT _ _ _ _ _).mono ?_;rintro e w3 ⟨rfl,hb3⟩;replace fR:=af fR hb3;replace fC:=zq (aj fC.out hb3);clear hb3;obtain⟨r0,r1⟩:=blk2 fR;have rf0:=al fR 0;have rf1:=al fR 1
   go_wp2_with fail
   have hY:((w3.setCell ⟨w.heap.size+1,0,none⟩ (.int .i64 0)).setCell ⟨w.heap.size+1,1,none⟩ (.slice none 0 0)).heap[w.heap.size+1]?=some (.cells #[.int .i64 0,.slice none 0 0] 25 (0,0)):=aI (aI fR rfl) rfl;obtain⟨rc0,rc1⟩:=blk2 hY;refine bodyPost_ret (v:=.tuple #[.agg #[.int .i64 0,.slice none 0 0],.bool false]) (by simp[results,Tryz.results89,go_sem,rc0,rc1]) rfl ?_;rw[HN.out]
   exact⟨_,_,_,_,rfl,ao.zeroG,(fC.out.setCell (p:=⟨w.heap.size+1,0,none⟩) (by show w.heap.size≤w.heap.size+1;omega) _).setCell (p:=⟨w.heap.size+1,1,none⟩) (by show w.heap.size≤w.heap.size+1;omega) _⟩
  | true=>
   have HN:=zq (show O=some t2 from by rw[HOO.out];cases h:O1 with | none=>have:=HB.out;rw[h] at this;cases this | some x=>rw[HOT.out x h])
   go_wp2_with fail
   refine(uU _ _ _ _ _).mono ?_;rintro e w3 ⟨rfl,hb3⟩;replace fR:=af fR hb3;replace fC:=zq (aj fC.out hb3);replace HT:=zq (HT.out.below hb3);clear hb3;obtain⟨r0,r1⟩:=blk2 fR;have rf0:=al fR 0;have rf1:=al fR 1
   go_wp2_with fail
   have hY:((w3.setCell ⟨w.heap.size+1,0,none⟩ (.int .i64 k2)).setCell ⟨w.heap.size+1,1,none⟩ (.slice a2 n2 q2)).heap[w.heap.size+1]?=some (.cells #[.int .i64 k2,.slice a2 n2 q2] 25 (0,0)):=aI (aI fR rfl) rfl;obtain⟨rc0,rc1⟩:=blk2 hY;refine bodyPost_ret (v:=.tuple #[.agg #[.int .i64 k2,.slice a2 n2 q2],.bool true]) (by simp[results,Tryz.results89,go_sem,rc0,rc1]) rfl ?_;rw[HN.out]
   exact⟨_,_,_,_,rfl,(ao.setN (ao.setN HT.out HNE.out) HNE.out).move (.weaken fun b h _=>by have h1:=h.elim False.elim id;omega),(fC.out.setCell (p:=⟨w.heap.size+1,0,none⟩) (by show w.heap.size≤w.heap.size+1;omega) _).setCell (p:=⟨w.heap.size+1,1,none⟩) (by show w.heap.size≤w.heap.size+1;omega) _⟩
theorem m7 (F:Nat→Prop)(t:Tm)(y:Value)(w:World)(hy:ax F w t y):Calls Tryz.prog 53 #[y] w (RetSF (el t) w):=by
 have HV:=zq (fun W (h:Below w.heap.size w W)=>uC F t y W (hy.below h));obtain⟨k,nm,u,tk,ta,tn,tq,fk,fa,fn,fq,lb,ca,cm,cq,rfl⟩:=hy.shape;have fR:=aB (w:=w.alloc (.cells #[.int .i64 k,.string nm,.int .i64 u,.int .i64 tk,.slice ta tn tq,.int .i64 fk,.slice fa fn fq,.int .i64 lb,.slice ca cm cq] 28)) (o:=.cells #[.int .i64 0,.slice none 0 0] 25) (b:=w.heap.size+1) (by simp);generalize el t=O at HV ⊢;clear hy
 go_enter Tryz.func53,Tryz.ntmps53
 go_wp2_with fail
 refine(HV.out _ (aj ai ai)).mono ?_;rintro e w1 ⟨k2,a2,n2,q2,rfl,ht2,hb1⟩;replace fR:=af fR hb1;have fC:=zq (aj (aj ai ai) hb1);have HT:=zq ht2;clear hb1 ht2;obtain⟨r0,r1⟩:=blk2 fR;have rf0:=al fR 0;have rf1:=al fR 1
 go_wp2_with fail
 have hY:((w1.setCell ⟨w.heap.size+1,0,none⟩ (.int .i64 k2)).setCell ⟨w.heap.size+1,1,none⟩ (.slice a2 n2 q2)).heap[w.heap.size+1]?=some (.cells #[.int .i64 k2,.slice a2 n2 q2] 25 (0,0)):=aI (aI fR rfl) rfl;obtain⟨rc0,rc1⟩:=blk2 hY;refine bodyPost_ret (v:=.tuple #[.agg #[.int .i64 k2,.slice a2 n2 q2],.bool O.isSome]) (by simp[results,Tryz.results53,go_sem,rc0,rc1]) rfl ?_;have hne : ∀b,(((w.alloc (.cells #[.int .i64 k,.string nm,.int .i64 u,.int .i64 tk,.slice ta tn tq,.int .i64 fk,.slice fa fn fq,.int .i64 lb,.slice ca cm cq] 28)).alloc (.cells #[.int .i64 0,.slice none 0 0] 25)).heap.size≤b)→b≠w.heap.size+1:=fun b h=>by
  simp at h;omega
 exact⟨_,_,_,_,rfl,(ao.setN (ao.setN HT.out hne) hne).move (.weaken fun b h _=>by have h1:_≤b:=h;simp at h1;omega),(fC.out.setCell (p:=⟨w.heap.size+1,0,none⟩) (by show w.heap.size≤w.heap.size+1;omega) _).setCell (p:=⟨w.heap.size+1,1,none⟩) (by show w.heap.size≤w.heap.size+1;omega) _⟩
theorem tf (t:Tm) : ∀s,el t=some s→t.valid=true∧s.valid=true:=by
 intro s h;unfold el at h
 split at h
 ·rename_i hv
  refine⟨hv,?_⟩
  cases e:t.typS [] with
  | none=>rw[e] at h;cases h
  | some g=>
   rw[e] at h;obtain rfl:=Option.some.inj h;rw[S.valid]
   exact fi t 12 [] (by unfold Tm.valid at hv;simp at hv;exact hv.1) (fun b hb=>by cases hb) g e
 ·cases h
def oG5_0:Oper:=⟨some 25,.load 28 (.tmp 7),28,"l4_casts.go:118",#[],none⟩
def oG5_1:Oper:=⟨some 26,.load 25 (.tmp 8),25,"l4_casts.go:118",#[⟨2,.gcOnly .lateStores⟩],none⟩
def oG5_2:Oper:=⟨none,.store 28 (.tmp 2) (.tmp 25),0,"l4_casts.go:118",#[⟨0,.data⟩,⟨0,.phase⟩,⟨1,.textOnly .lateStores⟩],none⟩
def oG5_3:Oper:=⟨none,.store 25 (.tmp 3) (.tmp 26),0,"l4_casts.go:118",#[⟨1,.data⟩,⟨2,.chain⟩,⟨0,.phase⟩,⟨1,.phase⟩,⟨2,.phase⟩],none⟩
def oG5_4:Oper:=⟨some 4,.assign (.const (.bool true)),4,"l4_casts.go:118",#[⟨3,.chain⟩,⟨0,.phase⟩,⟨1,.phase⟩,⟨2,.phase⟩,⟨3,.phase⟩],none⟩
def RetI3 (w:World)(e:Ending)(w':World):Prop:=(e = .returned (.tuple #[.agg #[.int .i64 0,.string {data:=#[]},.int .i64 0,.int .i64 0,.slice none 0 0,.int .i64 0,.slice none 0 0,.int .i64 0,.slice none 0 0],.agg #[.int .i64 0,.slice none 0 0],.bool false])∧Below w.heap.size w w')∨∃(t':Tm) (s:S) (v y:Value),e = .returned (.tuple #[v,y,.bool true])∧t'.cnt≤6000∧s.vd=true∧ax (w.heap.size ≤ ·) w' t' v∧ao (w.heap.size ≤ ·) w' s.ty y∧Below w.heap.size w w'
theorem uD {t:Tm}{x:Ty}(h:el t=some x) : ∃s:S,x=s.ty∧t.valid=true∧t.typS []=some s:=by
 unfold el at h
 split at h
 ·rename_i hv
  cases hs:t.typS [] with
  | none=>rw[hs] at h;cases h
  | some s=>rw[hs] at h;cases h;exact⟨s,rfl,hv,rfl⟩
 ·cases h
theorem lL (F:Nat→Prop)(t1:Tm)(y:Value)(w:World)(hy:ax F w t1 y):Calls Tryz.prog 55 #[y] w (RetI3 w):=by
 obtain⟨kt1,nm1,ut1,tk1,ta1,tn1,tq1,fk1,fa1,fn1,fq1,lt1,ct1,mt1,qt1,rfl⟩:=hy.shape;obtain⟨o,ho⟩ : ∃o,el t1=o:=⟨_,rfl⟩
 have HTO:=zq (ho▸m7 _ t1 _ _ (hy.below (cB (o:=.cells #[.int .i64 kt1,.string nm1,.int .i64 ut1,.int .i64 tk1,.slice ta1 tn1 tq1,.int .i64 fk1,.slice fa1 fn1 fq1,.int .i64 lt1,.slice ct1 mt1 qt1] 28) (o':=.cells #[.int .i64 0,.string {data:=#[]},.int .i64 0,.int .i64 0,.slice none 0 0,.int .i64 0,.slice none 0 0,.int .i64 0,.slice none 0 0] 28) (o2:=.cells #[.int .i64 0,.slice none 0 0] 25))));have HY:=zq hy;obtain⟨QQ,hQQ⟩ : ∃Q,RetI3 w=Q:=⟨_,rfl⟩
 rw[hQQ];have HQQ:=zq hQQ;clear hQQ hy
 cases o with
 | none=>
  clear ho
  go_enter Tryz.func55,Tryz.ntmps55
  go_wp2_with fail
  refine HTO.out.mono ?_;rintro e w1 ⟨k5,a5,n5,q5,rfl,ht5,hb⟩;have z1:=hb.size;simp only[World.size_alloc] at z1;have fE:w1.heap[w.heap.size]?=some (.cells #[.int .i64 kt1,.string nm1,.int .i64 ut1,.int .i64 tk1,.slice ta1 tn1 tq1,.int .i64 fk1,.slice fa1 fn1 fq1,.int .i64 lt1,.slice ct1 mt1 qt1] 28 (0,0)):=af (af (af (aB rfl) ai) ai) hb;have fR:w1.heap[w.heap.size+1]?=some (.cells #[.int .i64 0,.string {data:=#[]},.int .i64 0,.int .i64 0,.slice none 0 0,.int .i64 0,.slice none 0 0,.int .i64 0,.slice none 0 0] 28 (0,0)):=af (af (aB (by simp)) ai) hb;have fY:w1.heap[w.heap.size+1+1]?=some (.cells #[.int .i64 0,.slice none 0 0] 25 (0,0)):=af (aB (by simp)) hb;have fB:Hid (Below w.heap.size w w1):=zq (aj cB hb);clear hb HTO ht5;obtain⟨x0,x1,x2,x3,x4,x5,x6,x7,x8⟩:=blk9 fR;have xf0:=al fR 0;have xf1:=al fR 1;have xf2:=al fR 2;have xf3:=al fR 3;have xf4:=al fR 4;have xf5:=al fR 5;have xf6:=al fR 6;have xf7:=al fR 7;have xf8:=al fR 8;have xl:=aC fR;obtain⟨v0,v1⟩:=blk2 fY;have vf0:=al fY 0;have vf1:=al fY 1;have vl:=aC fY;have hx5:w.heap.size+1<w1.heap.size+1:=by omega
  have hx6:w.heap.size+1+1<w1.heap.size+1:=by omega
  go_upto_region 3 with fail
  clear x0 x1 x2 x3 x4 x5 x6 x7 x8 xf0 xf1 xf2 xf3 xf4 xf5 xf6 xf7 xf8 xl v0 v1 vf0 vf1 vl hx5 hx6;obtain⟨w2,hXq,hb,fT,zw2a,zw2b⟩:=aU w1 (.cells #[.int .i64 k5,.slice a5 n5 q5] 25);rw[hXq];replace fE:=af fE hb;replace fR:=af fR hb;replace fY:=af fY hb;replace fB:=zq (aj fB.out hb);clear hb hXq;obtain⟨x0,x1,x2,x3,x4,x5,x6,x7,x8⟩:=blk9 fR;have xf0:=al fR 0;have xf1:=al fR 1;have xf2:=al fR 2;have xf3:=al fR 3;have xf4:=al fR 4;have xf5:=al fR 5;have xf6:=al fR 6;have xf7:=al fR 7;have xf8:=al fR 8;have xl:=aC fR;obtain⟨v0,v1⟩:=blk2 fY;have vf0:=al fY 0;have vf1:=al fY 1;have vl:=aC fY
  go_wp2_with fail
  clear x0 x1 x2 x3 x4 x5 x6 x7 x8 xf0 xf1 xf2 xf3 xf4 xf5 xf6 xf7 xf8 xl v0 v1 vf0 vf1 vl;obtain⟨w3,hXq,hsq,fR_,zw3a,zw3b⟩:=bL fR (.int .i64 0) (.string {data:=#[]}) (.int .i64 0) (.int .i64 0) (.slice none 0 0) (.int .i64 0) (.slice none 0 0) (.int .i64 0) (.slice none 0 0);rw[hXq];replace fE:=hsq.blk (by omega) fE;replace fY:=hsq.blk (by omega) fY;replace fB:=zq (hsq.bel fB.out (by omega));replace fT:=hsq.blk (by omega) fT;clear fR hsq hXq;have fR:=fR_;clear fR_;obtain⟨w4,hXq,hsq,fY_,zw4a,zw4b⟩:=bw fY (.int .i64 0) (.slice none 0 0);rw[hXq];replace fE:=hsq.blk (by omega) fE;replace fR:=hsq.blk (by omega) fR;replace fB:=zq (hsq.bel fB.out (by omega));replace fT:=hsq.blk (by omega) fT;clear fY hsq hXq;have fY:=fY_;clear fY_;obtain⟨rc0,rc1,rc2,rc3,rc4,rc5,rc6,rc7,rc8⟩:=blk9 fR;obtain⟨ry0,ry1⟩:=blk2 fY;refine bodyPost_ret (v:=.tuple #[.agg #[.int .i64 0,.string {data:=#[]},.int .i64 0,.int .i64 0,.slice none 0 0,.int .i64 0,.slice none 0 0,.int .i64 0,.slice none 0 0],.agg #[.int .i64 0,.slice none 0 0],.bool false]) (by simp[results,Tryz.results55,go_sem,rc0,rc1,rc2,rc3,rc4,rc5,rc6,rc7,rc8,ry0,ry1]) rfl ?_;rw[←HQQ.out]
  exact .inl ⟨rfl,fB.out⟩
 | some x=>
  obtain⟨s,rfl,hv,hts⟩:=uD ho;have hvs:s.vd=true:=by rw[←S.valid];exact(tf t1 _ ho).2
  have HVS:=zq hvs;unfold Tm.valid at hv;rw[Bool.and_eq_true] at hv;have hsz:=of_decide_eq_true hv.2;have hs1:=hv.1;have HSZ:=zq hsz;have HIN:Hid (∀W,Below w.heap.size w W→Calls Tryz.prog 91 #[.slice none 0 0,.agg #[.int .i64 kt1,.string nm1,.int .i64 ut1,.int .i64 tk1,.slice ta1 tn1 tq1,.int .i64 fk1,.slice fa1 fn1 fq1,.int .i64 lt1,.slice ct1 mt1 qt1],.int .i64 1] W (lk t1 s 1 W)):=zq fun W h=>jG t1 12 [] (fun _=>True) F (.slice none 0 0) _ 1 W s hs1 (by simp) (fun b hb=>by cases hb) (.inl ⟨rfl,rfl⟩) (by unfold aE aH;exact⟨none,0,rfl,Nat.le_refl _,by unfold maxLen;omega,.inl rfl⟩) (HY.out.below h) hts (by omega) (by omega);clear hv hs1 hsz hts hvs;clear ho
  go_enter Tryz.func55,Tryz.ntmps55
  go_wp2_with fail
  refine HTO.out.mono ?_;rintro e w1 ⟨k5,a5,n5,q5,rfl,ht5,hb⟩;have z1:=hb.size;simp only[World.size_alloc] at z1;have fE:w1.heap[w.heap.size]?=some (.cells #[.int .i64 kt1,.string nm1,.int .i64 ut1,.int .i64 tk1,.slice ta1 tn1 tq1,.int .i64 fk1,.slice fa1 fn1 fq1,.int .i64 lt1,.slice ct1 mt1 qt1] 28 (0,0)):=af (af (af (aB rfl) ai) ai) hb;have fR:w1.heap[w.heap.size+1]?=some (.cells #[.int .i64 0,.string {data:=#[]},.int .i64 0,.int .i64 0,.slice none 0 0,.int .i64 0,.slice none 0 0,.int .i64 0,.slice none 0 0] 28 (0,0)):=af (af (aB (by simp)) ai) hb;have fY:w1.heap[w.heap.size+1+1]?=some (.cells #[.int .i64 0,.slice none 0 0] 25 (0,0)):=af (aB (by simp)) hb;have fB:Hid (Below w.heap.size w w1):=zq (aj cB hb);clear hb HTO ht5
  go_upto_region 4 with fail
  obtain⟨w2,hXq,hb,fT,zw2a,zw2b⟩:=aU w1 (.cells #[.int .i64 k5,.slice a5 n5 q5] 25);rw[hXq];replace fE:=af fE hb;replace fR:=af fR hb;replace fY:=af fY hb;replace fB:=zq (aj fB.out hb);clear hb hXq;obtain⟨y0,y1,y2,y3,y4,y5,y6,y7,y8⟩:=blk9 fE;have yl:=aC fE
  go_wp2_with fail
  clear y0 y1 y2 y3 y4 y5 y6 y7 y8 yl;refine(HIN.out _ fB.out).mono ?_;rintro e w3 ⟨t2,v,yv,lb2,rfl,hc2,-,-,hv,hy2,hb⟩;obtain⟨kt2,nm2,ut2,tk2,ta2,tn2,tq2,fk2,fa2,fn2,fq2,lt2,ct2,mt2,qt2,rfl⟩:=hv.shape;obtain⟨k6,a6,n6,q6,rfl⟩:=hy2.shape;have z3:=hb.size;have HC2:=zq hc2;have h2':=hv.rg;have h6':Hid (ao (fun b=>w2.heap.size≤b∧b<w3.heap.size) w3 s.ty (.agg #[.int .i64 k6,.slice a6 n6 q6])):=zq (hy2.move (.weaken fun b h1 h2=>⟨h1,h2⟩));clear hv hy2 hc2 HIN;replace fE:=af fE hb;replace fR:=af fR hb;replace fY:=af fY hb;replace fB:=zq (aj fB.out hb);replace fT:=af fT hb;clear hb;have h2_:=h2';have h6_:=h6';clear h2' h6'
  go_upto_region 5 with fail
  obtain⟨w4,hXq,hb,fV,zw4a,zw4b⟩:=aU w3 (.cells #[.int .i64 kt2,.string nm2,.int .i64 ut2,.int .i64 tk2,.slice ta2 tn2 tq2,.int .i64 fk2,.slice fa2 fn2 fq2,.int .i64 lt2,.slice ct2 mt2 qt2] 28);rw[hXq];replace fE:=af fE hb;replace fR:=af fR hb;replace fY:=af fY hb;replace fB:=zq (aj fB.out hb);replace fT:=af fT hb;replace h2_:=zq (h2_.out.below hb);replace h6_:=zq (h6_.out.below hb);clear hb hXq;obtain⟨w5,hXq,hb,fS,zw5a,zw5b⟩:=aU w4 (.cells #[.int .i64 k6,.slice a6 n6 q6] 25);rw[hXq];replace fE:=af fE hb;replace fR:=af fR hb;replace fY:=af fY hb;replace fB:=zq (aj fB.out hb);replace fT:=af fT hb;replace h2_:=zq (h2_.out.below hb);replace h6_:=zq (h6_.out.below hb);replace fV:=af fV hb;clear hb hXq;rw[show w4.heap.size=w3.heap.size+1 by omega] at fS;refine wp_region_noPanic ?_;refine wp_region_held_drew (S:=fun w'=>w'.cell? ⟨w3.heap.size,0,none⟩=some (.int .i64 kt2)∧w'.cell? ⟨w3.heap.size,1,none⟩=some (.string nm2)∧w'.cell? ⟨w3.heap.size,2,none⟩=some (.int .i64 ut2)∧w'.cell? ⟨w3.heap.size,3,none⟩=some (.int .i64 tk2)∧w'.cell? ⟨w3.heap.size,4,none⟩=some (.slice ta2 tn2 tq2)∧w'.cell? ⟨w3.heap.size,5,none⟩=some (.int .i64 fk2)∧w'.cell? ⟨w3.heap.size,6,none⟩=some (.slice fa2 fn2 fq2)∧w'.cell? ⟨w3.heap.size,7,none⟩=some (.int .i64 lt2)∧w'.cell? ⟨w3.heap.size,8,none⟩=some (.slice ct2 mt2 qt2)∧w'.cell? ⟨w3.heap.size+1,0,none⟩=some (.int .i64 k6)∧w'.cell? ⟨w3.heap.size+1,1,none⟩=some (.slice a6 n6 q6)) (by kernel_rfl) ?_ (fun hH0=>?_)
  ·exact blk9r fV ⟨ag fS rfl,ag fS rfl⟩
  obtain⟨U1,hU,hb,zU1a,zU1b⟩:=bD w5;rw[hU] at hH0 ⊢;replace fE:=af fE hb;replace fR:=af fR hb;replace fY:=af fY hb;replace fB:=zq (aj fB.out hb);replace fT:=af fT hb;replace h2_:=zq (h2_.out.below hb);replace h6_:=zq (h6_.out.below hb);replace fV:=af fV hb;replace fS:=af fS hb;(try simp only[World.size_alloc] at zU1a zU1b);clear hU hb;refine hwt 0 oG5_0 (.agg #[.int .i64 kt2,.string nm2,.int .i64 ut2,.int .i64 tk2,.slice ta2 tn2 tq2,.int .i64 fk2,.slice fa2 fn2 fq2,.int .i64 lt2,.slice ct2 mt2 qt2]) hH0 ?_ ?_
  ·intro w' hSw;dsimp only[oG5_0];go_simp
  try simp only[oG5_0,hwA]
  refine hwt 1 oG5_1 (.agg #[.int .i64 k6,.slice a6 n6 q6]) hH0 ?_ ?_
  ·intro w' hSw;dsimp only[oG5_1];go_simp
  try simp only[oG5_1,hwA]
  refine hwr 2 oG5_2 (fun K hK=>?_);obtain⟨r0,rf0,r1,rf1,r2,rf2,r3,rf3,r4,rf4,r5,rf5,r6,rf6,r7,rf7,r8,rf8⟩:=blk9f fR
  dsimp only[oG5_2];go_simp
  (try go_wp2_with fail);have hQq:=bL fR (.int .i64 kt2) (.string nm2) (.int .i64 ut2) (.int .i64 tk2) (.slice ta2 tn2 tq2) (.int .i64 fk2) (.slice fa2 fn2 fq2) (.int .i64 lt2) (.slice ct2 mt2 qt2);clear fR r0 rf0 r1 rf1 r2 rf2 r3 rf3 r4 rf4 r5 rf5 r6 rf6 r7 rf7 r8 rf8;obtain⟨X501,hXq,hsq,fR,zX501a,zX501b⟩:=hQq;rw[hXq];replace fE:=hsq.blk (by omega) fE;replace fY:=hsq.blk (by omega) fY;replace fB:=zq (hsq.bel fB.out (by omega));replace fT:=hsq.blk (by omega) fT;replace h2_:=zq (h2_.out.move (hsq.keeps (fun b hb=>by have h1:=hb.1;have h2:=hb.2;omega)));replace h6_:=zq (hsq.rep (fun b hb=>by have h1:=hb.1;have h2:=hb.2;omega) h6_.out);replace fV:=hsq.blk (by omega) fV;replace fS:=hsq.blk (by omega) fS;refine hK.out _ _ (blk9r fV ⟨ag fS rfl,ag fS rfl⟩) (fun hH501=>?_);clear hK K hH0 hsq hXq
  try simp only[oG5_2,hwA]
  refine hwr 3 oG5_3 (fun K hK=>?_);obtain⟨r0,r1,rf0,rf1⟩:=co fY
  dsimp only[oG5_3];go_simp
  (try go_wp2_with fail);have hQq:=bw fY (.int .i64 k6) (.slice a6 n6 q6);clear fY r0 rf0 r1 rf1;obtain⟨X502,hXq,hsq,fY,zX502a,zX502b⟩:=hQq;rw[hXq];replace fE:=hsq.blk (by omega) fE;replace fR:=hsq.blk (by omega) fR;replace fB:=zq (hsq.bel fB.out (by omega));replace fT:=hsq.blk (by omega) fT;replace h2_:=zq (h2_.out.move (hsq.keeps (fun b hb=>by have h1:=hb.1;have h2:=hb.2;omega)));replace h6_:=zq (hsq.rep (fun b hb=>by have h1:=hb.1;have h2:=hb.2;omega) h6_.out);replace fV:=hsq.blk (by omega) fV;replace fS:=hsq.blk (by omega) fS;refine hK.out _ _ (blk9r fV ⟨ag fS rfl,ag fS rfl⟩) (fun hH502=>?_);clear hK K hH501 hsq hXq
  try simp only[oG5_3,hwA]
  refine hwt 4 oG5_4 (.bool true) hH502 ?_ ?_
  ·intro w' hSw;dsimp only[oG5_4];go_simp
  try simp only[oG5_4,hwA]
  refine wpAnyH_done (by kernel_rfl) ?_ _;refine NoPanic.normal ?_;clear hH502;obtain⟨rc0,rc1,rc2,rc3,rc4,rc5,rc6,rc7,rc8⟩:=blk9 fR;obtain⟨ry0,ry1⟩:=blk2 fY
  go_wp2_with fail
  refine bodyPost_ret (v:=.tuple #[.agg #[.int .i64 kt2,.string nm2,.int .i64 ut2,.int .i64 tk2,.slice ta2 tn2 tq2,.int .i64 fk2,.slice fa2 fn2 fq2,.int .i64 lt2,.slice ct2 mt2 qt2],.agg #[.int .i64 k6,.slice a6 n6 q6],.bool true]) (by simp[results,Tryz.results55,go_sem,rc0,rc1,rc2,rc3,rc4,rc5,rc6,rc7,rc8,ry0,ry1]) rfl ?_;rw[←HQQ.out];have h1:=HC2.out;have h2:=HSZ.out
  exact .inr ⟨t2,s,_,_,rfl,by omega,HVS.out,h2_.out.move (.weaken fun b h _=>by have h1:=h.1;show w.heap.size≤b;omega),h6_.out.move (.weaken fun b h _=>by have h1:=h.1;show w.heap.size≤b;omega),fB.out⟩
theorem mkW3 (dd:Int)(s:S)(r p:Nat)(l:List Bd)(w:World)(kt:Int)(ta:Option Addr)(tn tq:Nat)(xa:Option Addr)(xn xq:Nat):(dV dd s r p l w kt ta tn tq xa xn xq).1.2.2.2.1:=by
 intro _ _ _ _ _ _ _ _ _ _ _ _ HNL HCV HOK HSV HIH _ _ _ MB _ _ _ _ _ _ _ _ _ _ _ _ _ _ _ _ _ _ _ _ _ _ _ _ _ _ _ _ _ _ _ _ _ _ _ _ _ _ _ _ _ _ _ h0 _ _ _ _ _ _ _ _ _ _ _ HD2 _ _ HUU _ _ HLB HLI HLS _ w1 _ _ fT fR fC hX hT rd _ _ _ _ y0 y1 lyT _ _ _ _;refine(HIH.out (s) l (cQ HD2.out HSV.out HSV.out) HSV.out HOK.out (by omega) HNL.out _ _ _ _ rd.out (hX.out.move (.weaken fun b h _=>h.1)) HCV.out (hT.out.move (.weaken fun b h _=>h.1)) (by have h1:=HLB.out;have h2:=HLS.out;have h3:=HLI.out;have h0:=HUU.out;omega)).mono ?_;rintro e w2 ⟨t2,v,q2,rfl,hcn2,hv,hq2,hrd,hb⟩;obtain⟨kt2,nm2,ut2,tk2,ta2,tn2,tq2,fk2,fa2,fn2,fq2,lt2,ct2,mt2,qt2,rfl⟩:=hv.shape;have HC2:=zq hcn2;have h2_':=hv.rg;clear hv hcn2;have zw2:=hb.size;(try simp only[World.size_alloc] at zw2);replace fT:=aw fT hb;replace fR:=aw fR hb;replace fC:=zqc fC hb;replace hX:=zq (hX.out.move (kpN hb (fun b hb=>hb.1)));replace hT:=zq (hT.out.move (kpN hb (fun b hb=>hb.1)));replace rd:=zq hrd;clear hrd;clear hb;have h2_:=h2_';clear h2_';clear y0 y1 lyT
 go_wp2_with fail
 refine(cS 1 _).mono ?_;rintro e w3 ⟨rfl,hb⟩;have zw3:=hb.size;(try simp only[World.size_alloc] at zw3);replace fT:=af fT hb;replace fR:=af fR hb;replace fC:=zqb fC hb;replace rd:=zq (rd.out.below hb);replace hX:=zq (hX.out.below hb);replace hT:=zq (hT.out.below hb);replace h2_:=zq (h2_.out.below hb);clear hb
 go_wp2_with fail
 obtain⟨w4,hXq,hb,fL,zw4a,zw4b⟩:=aU w3 (.cells #[.int .i64 kt2,.string nm2,.int .i64 ut2,.int .i64 tk2,.slice ta2 tn2 tq2,.int .i64 fk2,.slice fa2 fn2 fq2,.int .i64 lt2,.slice ct2 mt2 qt2,.int .i64 2,.string {data:=#[]},.int .i64 1,.int .i64 0,.slice none 0 0,.int .i64 0,.slice none 0 0,.int .i64 0,.slice none 0 0] 28);rw[hXq];replace fT:=af fT hb;replace fR:=af fR hb;replace fC:=zqb fC hb;replace rd:=zq (rd.out.below hb);replace hX:=zq (hX.out.below hb);replace hT:=zq (hT.out.below hb);replace h2_:=zq (h2_.out.below hb);clear hb hXq;refine(cR 10 _ _ _ _).mono ?_;rintro e w5 ⟨rfl,hb⟩;have zw5:=hb.size;(try simp only[World.size_alloc] at zw5);replace fT:=af fT hb;replace fR:=af fR hb;replace fC:=zqb fC hb;replace rd:=zq (rd.out.below hb);replace hX:=zq (hX.out.below hb);replace hT:=zq (hT.out.below hb);replace h2_:=zq (h2_.out.below hb);replace fL:=af fL hb;clear hb
 go_wp2_with fail
 obtain⟨w6,hXq,hb,fM,zw6a,zw6b⟩:=aU w5 (.cells #[.int .i64 10,.string {data:=#[]},.int .i64 0,.int .i64 0,.slice none 0 0,.int .i64 0,.slice none 0 0,.int .i64 0,.slice (some ⟨w3.heap.size,0,none⟩) 2 2] 28);rw[hXq];replace fT:=af fT hb;replace fR:=af fR hb;replace fC:=zqb fC hb;replace rd:=zq (rd.out.below hb);replace hX:=zq (hX.out.below hb);replace hT:=zq (hT.out.below hb);replace h2_:=zq (h2_.out.below hb);replace fL:=af fL hb;clear hb hXq;refine(cR 11 _ _ _ _).mono ?_;rintro e w7 ⟨rfl,hb⟩;have zw7:=hb.size;(try simp only[World.size_alloc] at zw7);replace fT:=af fT hb;replace fR:=af fR hb;replace fC:=zqb fC hb;replace rd:=zq (rd.out.below hb);replace hX:=zq (hX.out.below hb);replace hT:=zq (hT.out.below hb);replace h2_:=zq (h2_.out.below hb);replace fL:=af fL hb;replace fM:=af fM hb;clear hb;obtain⟨x0,f0,x1,f1,x2,f2,x3,f3,x4,f4,x5,f5,x6,f6,x7,f7,x8,f8⟩:=blk9f fR;have lxR:=aC fR;have h1:=HLB.out;have h2:=HLS.out;have h3:=HLI.out;have h0:=HUU.out;have hks:aN (w.heap.size+1+1 ≤ ·) w7 [t2,Tm.mk 2 {data:=#[]} 1 (.mk 0 []) (.mk 0 []) 0 []] (.slice (some ⟨w3.heap.size,0,none⟩) 2 2):=aN.blk (by show w.heap.size+1+1≤_;omega) fL rfl (by unfold maxLen;omega) (aS.c2 (h2_.out.move (.weaken fun b h _=>by have h1:=h.1;show w.heap.size+1+1≤b;omega)).srep (ax.leaf0 (F:=(w.heap.size+1+1 ≤ ·)) (w:=w7) 2 1 bi).srep);have h10:ax (w.heap.size+1+1 ≤ ·) w7 (Tm.mk 10 {data:=#[]} 0 (.mk 0 []) (.mk 0 []) 0 [t2,Tm.mk 2 {data:=#[]} 1 (.mk 0 []) (.mk 0 []) 0 []]) (.agg #[.int .i64 10,.string {data:=#[]},.int .i64 0,.int .i64 0,.slice none 0 0,.int .i64 0,.slice none 0 0,.int .i64 0,.slice (some ⟨w3.heap.size,0,none⟩) 2 2]):=ax.mk bi ⟨_,rfl,aA.nil0⟩ ⟨_,rfl,aA.nil0⟩ hks;have hks2:aN (w.heap.size+1+1 ≤ ·) w7 [Tm.mk 10 {data:=#[]} 0 (.mk 0 []) (.mk 0 []) 0 [t2,Tm.mk 2 {data:=#[]} 1 (.mk 0 []) (.mk 0 []) 0 []]] (.slice (some ⟨w5.heap.size,0,none⟩) 1 1):=aN.blk (by show w.heap.size+1+1≤_;omega) fM rfl (by unfold maxLen;omega) (aS.c1 h10.srep);have hRR:ax (w.heap.size+1+1 ≤ ·) w7 (Tm.mk 11 {data:=#[]} 0 (.mk 0 []) (.mk 0 []) 0 [Tm.mk 10 {data:=#[]} 0 (.mk 0 []) (.mk 0 []) 0 [t2,Tm.mk 2 {data:=#[]} 1 (.mk 0 []) (.mk 0 []) 0 []]]) (.agg #[.int .i64 11,.string {data:=#[]},.int .i64 0,.int .i64 0,.slice none 0 0,.int .i64 0,.slice none 0 0,.int .i64 0,.slice (some ⟨w5.heap.size,0,none⟩) 1 1]):=ax.mk bi ⟨_,rfl,aA.nil0⟩ ⟨_,rfl,aA.nil0⟩ hks2;have hcc:(Tm.mk 11 {data:=#[]} 0 (.mk 0 []) (.mk 0 []) 0 [Tm.mk 10 {data:=#[]} 0 (.mk 0 []) (.mk 0 []) 0 [t2,Tm.mk 2 {data:=#[]} 1 (.mk 0 []) (.mk 0 []) 0 []]]).cnt≤MB:=by
  have g1:=HC2.out;(try simp only[Tm.cnt,Tm.cnts,Ty.cnt,Ty.cnts,List.length_cons,List.length_nil,show({data:=#[]}:ByteArray).size=0 from rfl])
  omega
 have HEND:=zq (DTm.stored (p:=p) (r:=r) (w:=w) (R:=w.heap.size+1) (B:=w.heap.size+1+1) (c:=MB) (m:=MB) (v0:=.int .i64 11) (v1:=.string {data:=#[]}) (v2:=.int .i64 0) (v3:=.int .i64 0) (v4:=.slice none 0 0) (v5:=.int .i64 0) (v6:=.slice none 0 0) (v7:=.int .i64 0) (v8:=.slice (some ⟨w5.heap.size,0,none⟩) 1 1) hRR hcc (by omega) (by omega) rd.out fC.out (by omega) (by omega) (by omega));clear hRR hcc;(try clear hks);(try clear hN);(try clear fL)
 go_wp2_with fail
 refine bodyPost_ret (v:=.agg #[.int .i64 11,.string {data:=#[]},.int .i64 0,.int .i64 0,.slice none 0 0,.int .i64 0,.slice none 0 0,.int .i64 0,.slice (some ⟨w5.heap.size,0,none⟩) 1 1]) (by simp[results,Tryz.results51,go_sem,x0,x1,x2,x3,x4,x5,x6,x7,x8]) rfl ?_
 exact HEND.out
theorem nQ (dd:Int)(s:S)(r p:Nat)(l:List Bd)(w:World)(c y:Value)(hrd0:aQ w r p)(hcx:aE (· ≠ r) w l c)(hcv:fl l c)(hok:d9 l)(hl:l.length+mkM dd s≤60)(hs:s.vd=true)(hy:ao (· ≠ r) w s.ty y)(hd5:dd≤5)(hdlo : -1000≤dd)(hp:p+mkB dd s≤1125899906800000)
  (IH : ∀(s':S) (l':List Bd),mkM (dd-1) s'<mkM dd s→s'.vd=true→d9 l'→l'.length≤l.length+1→(∀b∈l',b.name.size≤1)→MkC r (dd-1) s' l') (hnl : ∀b∈l,b.name.size≤1) :
  Calls Tryz.prog 51 #[.pointer (some ⟨r,0,none⟩),c,y,.int .i64 dd] w (DTm r p (mkB dd s) (mkB dd s) w):=by
 obtain⟨kt,ta,tn,tq,rfl⟩:=hy.shape;obtain⟨xa,xn,xq,rfl⟩:=hcv.shape;refine(dV dd s r p l w kt ta tn tq xa xn xq).2 hrd0 hcx hcv hok hl hs hy hd5 hdlo hp IH hnl (fun _=>mkW0 dd s r p l w kt ta tn tq xa xn xq) (fun _=>mkW1 dd s r p l w kt ta tn tq xa xn xq) (fun _=>mkW2 dd s r p l w kt ta tn tq xa xn xq) (fun _=>mkW3 dd s r p l w kt ta tn tq xa xn xq) (fun _=>?_)
 cases s with
 | zero=>exact absurd hs (by decide)
 | int=>exact mkWint dd r p l w kt ta tn tq xa xn xq
 | any=>exact mkWany dd r p l w kt ta tn tq xa xn xq
 | bool=>exact mkWbool dd r p l w kt ta tn tq xa xn xq
 | fn a b=>exact mkWfn dd r p l w kt ta tn tq xa xn xq a b
 | pr a b=>exact mkWpr dd r p l w kt ta tn tq xa xn xq a b
theorem lU (r:Nat) : ∀(n:Nat) (dd:Int) (s:S) (l:List Bd),mkM dd s≤n→l.length+n≤60→s.vd=true→d9 l→(∀b∈l,b.name.size≤1)→dd≤5→(n:Int)-900≤dd→MkC r dd s l
 | 0,dd,s,l,h,_,_,_,_,_,_=>absurd h (by unfold mkM;omega)
 | n+1,dd,s,l,hm,hl,hs,hok,hnl,h5,hlo=>by
  intro q W c y hrd hcx hcv hy hp
  exact nQ dd s r q l W c y hrd hcx hcv hok (by omega) hs hy h5 (by omega) hp
   (fun s' l' h1 h2 h3 h4 h6=>lU r n (dd-1) s' l' (by omega) (by omega) h2 h3 h6 (by omega) (by omega)) hnl
theorem uc (r p:Nat)(w:World)(hrd0:aQ w r p)(hp:p≤990000000):Calls Tryz.prog 28 #[.pointer (some ⟨r,0,none⟩)] w (DTm r p 5000000 5120 w):=by
 have hrl:=hrd0.1;have HRD0:=zq hrd0;clear hrd0
 go_enter Tryz.func28,Tryz.ntmps28
 go_wp2_with fail
 go_loopw [3] (fun s3 wr=>∃(j q:Nat),j≤4∧s3 = .int .i64 (j:Int)∧q≤p+j*1024100∧w.heap.size<wr.heap.size∧Hid (Chg [r] w wr)∧Hid (aQ wr r (q))∧Hid (wr.heap[w.heap.size]?=some (.cells #[.int .i64 0,.string {data:=#[]},.int .i64 0,.int .i64 0,.slice none 0 0,.int .i64 0,.slice none 0 0,.int .i64 0,.slice none 0 0] 28 (0,0)))) (fun i _=>4-(intOf i).toNat)
 case atStart=>exact⟨0,p,by omega,rfl,by omega,by simp,zq (Chg.of_below ai),zq (HRD0.out.below ai),zq (aB rfl)⟩
 case round=>
  obtain⟨j,q,hj,rfl,hq,hsz,fC,rd,hfR⟩:=hrel;have fR:=hfR.out;clear hfR
  by_cases hlt:j<4
  ·have hdj:decide ((j:Int)<4)=true:=decide_eq_true (by omega)
   go_wp2_with fail
   refine(bJ (fun x=>1≤x∧x≤3) r (q) _ 4 4 _ (rd.out.below ai) (by omega) (by omega) (by omega) (Nat.le_refl _) (by omega) (bp [1,2,2,3] rfl _ (by decide))).mono ?_;rintro e w1 ⟨n1,rfl,hn1,hrd,hb0⟩;have hb:=Chg.trans (Chg.of_below (ai (w:=wr))) hb0;clear hb0;have zw1:=hb.size;(try simp only[World.size_alloc] at zw1);replace fC:=zqc fC hb;replace fR:=aw fR hb;replace rd:=zq hrd;clear hrd;clear hb;obtain⟨d1,rfl⟩ : ∃d:Nat,n1=d:=⟨n1.toNat,by omega⟩
   go_wp2_with fail
   refine(jE d1 r _ _ (by omega) (by omega) rd.out (by omega)).mono ?_;rintro e w2 ⟨s2,v,qs,rfl,hvs2,hv,hqs,hrd,hb⟩;obtain⟨kb,ab,nb,qb,rfl⟩:=hv.shape;have hB_':=hv.rg;clear hv;have zw2:=hb.size;(try simp only[World.size_alloc] at zw2);replace fC:=zqc fC hb;replace fR:=aw fR hb;replace rd:=zq hrd;clear hrd;clear hb;have hB_:=hB_';clear hB_'
   go_wp2_with fail
   refine(bJ (fun x=>3≤x∧x≤5) r (qs) _ 4 4 _ (rd.out.below ai) (by omega) (by omega) (by omega) (Nat.le_refl _) (by omega) (bp [4,3,5,4] rfl _ (by decide))).mono ?_;rintro e w3 ⟨n2,rfl,hn2,hrd,hb0⟩;have hb:=Chg.trans (Chg.of_below (ai (w:=w2))) hb0;clear hb0;have zw3:=hb.size;(try simp only[World.size_alloc] at zw3);replace fC:=zqc fC hb;replace fR:=aw fR hb;replace hB_:=zq (hB_.out.move (kpN hb (fun b hb=>by have h1:=hb.1;have h2:=hb.2;omega)));replace rd:=zq hrd;clear hrd;clear hb;have HMK:=zq (lU r 29 n2 s2 [] (by have h1:=S.vd_dep hvs2;unfold mkM;omega) (by simp) hvs2 (fun b hb=>by cases hb) (fun b hb=>by cases hb) (by omega) (by omega));have HBD:mkB n2 s2≤1024000:=by rw[ft s2 (by omega)];exact mkU_top (by omega)
   go_wp2_with fail
   refine(HMK.out _ _ _ _ rd.out (by unfold aE aH;exact⟨none,0,rfl,Nat.le_refl _,by unfold maxLen;omega,.inl rfl⟩) (.inl ⟨rfl,rfl⟩) (hB_.out.move (.weaken fun b h _=>by have h1:=h.1;intro e;omega)) (by omega)).mono ?_;rintro e w4 ⟨t2,v,q2,rfl,hcn2,hv,hq2,hrd,hb⟩;obtain⟨kt2,nm2,ut2,tk2,ta2,tn2,tq2,fk2,fa2,fn2,fq2,lt2,ct2,mt2,qt2,rfl⟩:=hv.shape;have HC2:=zq hcn2;have h2_':=hv.rg;clear hv hcn2;have zw4:=hb.size;(try simp only[World.size_alloc] at zw4);replace fC:=zqc fC hb;replace fR:=aw fR hb;replace hB_:=zq (hB_.out.move (kpN hb (fun b hb=>by have h1:=hb.1;have h2:=hb.2;omega)));replace rd:=zq hrd;clear hrd;clear hb;have h2_:=h2_';clear h2_';have hbv:=ai (w:=w4) (o:=.cells #[.int .i64 kt2,.string nm2,.int .i64 ut2,.int .i64 tk2,.slice ta2 tn2 tq2,.int .i64 fk2,.slice fa2 fn2 fq2,.int .i64 lt2,.slice ct2 mt2 qt2] 28);have fE:=aB (w:=w4) (o:=.cells #[.int .i64 kt2,.string nm2,.int .i64 ut2,.int .i64 tk2,.slice ta2 tn2 tq2,.int .i64 fk2,.slice fa2 fn2 fq2,.int .i64 lt2,.slice ct2 mt2 qt2] 28) (b:=w4.heap.size) rfl;replace fC:=zqb fC hbv;replace rd:=zq (rd.out.below hbv);replace fR:=af fR hbv;replace hB_:=zq (hB_.out.below hbv);replace h2_:=zq (h2_.out.below hbv);clear hbv;obtain⟨ov,hov⟩ : ∃o,el t2=o:=⟨_,rfl⟩
   have HOV:=zq hov;have HTO:=zq (hov▸m7 _ t2 _ _ h2_.out);clear hov;obtain⟨y0,y1,y2,y3,y4,y5,y6,y7,y8⟩:=blk9 fE;have lyE:=aC fE
   go_wp2_with fail
   refine HTO.out.mono ?_;rintro e w5 ⟨k5,a5,n5,q5,rfl,-,hb⟩;clear HTO y0 y1 y2 y3 y4 y5 y6 y7 y8;have zw5:=hb.size;(try simp only[World.size_alloc] at zw5);replace fC:=zqb fC hb;replace rd:=zq (rd.out.below hb);replace fR:=af fR hb;replace hB_:=zq (hB_.out.below hb);replace h2_:=zq (h2_.out.below hb);replace fE:=af fE hb;clear hb;have hbw:=ai (w:=w5) (o:=.cells #[.int .i64 k5,.slice a5 n5 q5] 25)
   cases ov with
   | none=>
    replace fC:=zqb fC hbw;replace rd:=zq (rd.out.below hbw);replace fR:=af fR hbw;replace hB_:=zq (hB_.out.below hbw);replace h2_:=zq (h2_.out.below hbw);replace fE:=af fE hbw;clear hbw
    go_wp2_with fail
    go_roundw
    case rel=>exact⟨j+1,q2,by omega,by go_num,by omega,by simp;omega,fC,rd,zq fR⟩
    case measure=>simp[intOf];omega
   | some sv=>
    replace fC:=zqb fC hbw;replace rd:=zq (rd.out.below hbw);replace fR:=af fR hbw;replace hB_:=zq (hB_.out.below hbw);replace h2_:=zq (h2_.out.below hbw);replace fE:=af fE hbw;clear hbw;have y0:=ag fE (o:=0) rfl;have x0:=ag fR (o:=0) rfl;have f0:=al fR 0;have y1:=ag fE (o:=1) rfl;have x1:=ag fR (o:=1) rfl;have f1:=al fR 1;have y2:=ag fE (o:=2) rfl;have x2:=ag fR (o:=2) rfl;have f2:=al fR 2;have y3:=ag fE (o:=3) rfl;have x3:=ag fR (o:=3) rfl;have f3:=al fR 3;have y4:=ag fE (o:=4) rfl;have x4:=ag fR (o:=4) rfl;have f4:=al fR 4;have y5:=ag fE (o:=5) rfl;have x5:=ag fR (o:=5) rfl;have f5:=al fR 5;have y6:=ag fE (o:=6) rfl;have x6:=ag fR (o:=6) rfl;have f6:=al fR 6;have y7:=ag fE (o:=7) rfl;have x7:=ag fR (o:=7) rfl;have f7:=al fR 7;have y8:=ag fE (o:=8) rfl;have x8:=ag fR (o:=8) rfl;have f8:=al fR 8;have lyE5:=aC fE;have lxR:=aC fR;have hval:=(tf t2 sv HOV.out).1;have hcc:=Tm.cnt_valid30 hval;have hRR:ax (w.heap.size+1 ≤ ·) _ t2 (.agg #[.int .i64 kt2,.string nm2,.int .i64 ut2,.int .i64 tk2,.slice ta2 tn2 tq2,.int .i64 fk2,.slice fa2 fn2 fq2,.int .i64 lt2,.slice ct2 mt2 qt2]):=h2_.out.move (.weaken fun b h _=>by have h1:=h.1;show w.heap.size+1≤b;omega);have HEND:=zq (DTm.stored (p:=p) (r:=r) (w:=w) (R:=w.heap.size) (B:=w.heap.size+1) (c:=5000000) (m:=5120) (v0:=.int .i64 kt2) (v1:=.string nm2) (v2:=.int .i64 ut2) (v3:=.int .i64 tk2) (v4:=.slice ta2 tn2 tq2) (v5:=.int .i64 fk2) (v6:=.slice fa2 fn2 fq2) (v7:=.int .i64 lt2) (v8:=.slice ct2 mt2 qt2) hRR (by omega) (by omega) (by omega) rd.out fC.out (by omega) (by omega) (by omega));clear hRR hcc hval
    go_wp2_with fail
    refine bodyPost_ret (v:=.agg #[.int .i64 kt2,.string nm2,.int .i64 ut2,.int .i64 tk2,.slice ta2 tn2 tq2,.int .i64 fk2,.slice fa2 fn2 fq2,.int .i64 lt2,.slice ct2 mt2 qt2]) (by simp[results,Tryz.results28,go_sem,x0,x1,x2,x3,x4,x5,x6,x7,x8]) rfl ?_
    exact HEND.out
  ·have hdj:decide ((j:Int)<4)=false:=decide_eq_false (by omega)
   go_wp2_with fail
   refine(sL r q _ rd.out (by omega)).mono ?_;rintro e w9 ⟨t2,v,q2,rfl,hcn2,hv,hq2,hrd,hb⟩;obtain⟨kt2,nm2,ut2,tk2,ta2,tn2,tq2,fk2,fa2,fn2,fq2,lt2,ct2,mt2,qt2,rfl⟩:=hv.shape;have HC2:=zq hcn2;have h2_':=hv.rg;clear hv hcn2;have zw9:=hb.size;(try simp only[World.size_alloc] at zw9);replace fC:=zqc fC hb;replace fR:=aw fR hb;replace rd:=zq hrd;clear hrd;clear hb;have h2_:=h2_';clear h2_';obtain⟨x0,f0,x1,f1,x2,f2,x3,f3,x4,f4,x5,f5,x6,f6,x7,f7,x8,f8⟩:=blk9f fR;have lxR:=aC fR;have hcc:=HC2.out;have hRR:ax (w.heap.size+1 ≤ ·) w9 t2 (.agg #[.int .i64 kt2,.string nm2,.int .i64 ut2,.int .i64 tk2,.slice ta2 tn2 tq2,.int .i64 fk2,.slice fa2 fn2 fq2,.int .i64 lt2,.slice ct2 mt2 qt2]):=h2_.out.move (.weaken fun b h _=>by have h1:=h.1;show w.heap.size+1≤b;omega);have HEND:=zq (DTm.stored (p:=p) (r:=r) (w:=w) (R:=w.heap.size) (B:=w.heap.size+1) (c:=5000000) (m:=5120) (v0:=.int .i64 kt2) (v1:=.string nm2) (v2:=.int .i64 ut2) (v3:=.int .i64 tk2) (v4:=.slice ta2 tn2 tq2) (v5:=.int .i64 fk2) (v6:=.slice fa2 fn2 fq2) (v7:=.int .i64 lt2) (v8:=.slice ct2 mt2 qt2) hRR (by omega) (by omega) (by omega) rd.out fC.out (by omega) (by omega) (by omega));clear hRR hcc
   go_wp2_with fail
   refine bodyPost_ret (v:=.agg #[.int .i64 kt2,.string nm2,.int .i64 ut2,.int .i64 tk2,.slice ta2 tn2 tq2,.int .i64 fk2,.slice fa2 fn2 fq2,.int .i64 lt2,.slice ct2 mt2 qt2]) (by simp[results,Tryz.results28,go_sem,x0,x1,x2,x3,x4,x5,x6,x7,x8]) rfl ?_
   exact HEND.out
theorem kN {l:Int} : ∀ {us:List Tm} {j:Nat} (h:j<us.length),us[j].label=l→us[j].src∈b4 l us∧us[j].type∈b4 l us
 | [],_,h,_=>absurd h (Nat.not_lt_zero _)
 | t :: ts,0,_,e=>by unfold b4;simp at e;simp[e]
 | t :: ts,j+1,h,e=>by
  have:=kN (us:=ts) (j:=j) (by simpa using h) (by simpa using e);unfold b4
  exact⟨List.mem_append_right _ (by simpa using this.1),List.mem_append_right _ (by simpa using this.2)⟩
theorem ol (F:Nat→Prop)(t:Tm)(lb:Int)(y:Value)(w:World)(hy:ax F w t y) :
  Calls Tryz.prog 9 #[y,.int .i64 lb] w (RetTys (t.castTypes lb) w):=by
 have hyB:ax (· < w.heap.size) w t y:=hy.move (.weaken fun _ _ h=>h);have hv:=fun W (h:Below w.heap.size w W)=>i9 F t y W (hy.below h);have hc:=fun(hok:t.castValid=true) W (h:Below w.heap.size w W)=>iT (· < w.heap.size) w.heap.size (fun _ h=>h) t (by have:=Tm.casts_ok hok;omega) y W (hyB.below h) h.size;have hlen:=fun(hok:t.castValid=true)=>Tm.casts_ok hok;have hcnt:t.castValid=true→∀x∈b4 lb t.casts,x.cnt≤1048576:=fun h x hx=>(Tm.ctys_ok lb h).2.2 x (by rw[←Tm.ctys_eq];exact hx);unfold Tm.castTypes;rw[←Tm.ctys_eq];obtain⟨k,nm,u,tk,ta,tn,tq,fk,fa,fn,fq,l,c,m,q,rfl⟩:=hy.shape;obtain⟨i0,hi,hz0,hz1,hz2⟩:=info_parts Tryz.infoTy;generalize t.casts=us at *;generalize t.castValid=v at *;have HV:=zq hv;have HC:=zq hc;have HLEN:=zq hlen;have HCNT:=zq hcnt;have Z0:=zq hz0;have Z1:=zq hz1;have Z2:=zq hz2;have HI:=zq hi;clear hv hc hlen hcnt hy hyB hz0 hz1 hz2 hi
 cases v
 ·go_enter Tryz.func9,Tryz.ntmps9
  go_wp2_with fail
  refine(HV.out _ ai).mono ?_;rintro e w1 ⟨rfl,hb1⟩
  go_wp2_with fail
  go_ret
  exact⟨_,rfl,⟨[],aF.sl_nil (by unfold maxLen;omega),List.nodup_nil,by simp⟩,aj ai hb1⟩
 ·have hlen:=HLEN.out rfl
  have hcnt:=HCNT.out rfl;have HLEN':=zq hlen;have HCNT':=zq hcnt;clear hlen hcnt HLEN HCNT
  go_enter Tryz.func9,Tryz.ntmps9
  go_wp2_with fail
  refine(HV.out _ ai).mono ?_;rintro e w1 ⟨rfl,hb1⟩;have c0:w1.cell? ⟨w.heap.size,0,none⟩=some (.int .i64 k):=ah hb1 (az 0);have c1:w1.cell? ⟨w.heap.size,1,none⟩=some (.string nm):=ah hb1 (az 1);have c2:w1.cell? ⟨w.heap.size,2,none⟩=some (.int .i64 u):=ah hb1 (az 2);have c3:w1.cell? ⟨w.heap.size,3,none⟩=some (.int .i64 tk):=ah hb1 (az 3);have c4:w1.cell? ⟨w.heap.size,4,none⟩=some (.slice ta tn tq):=ah hb1 (az 4);have c5:w1.cell? ⟨w.heap.size,5,none⟩=some (.int .i64 fk):=ah hb1 (az 5);have c6:w1.cell? ⟨w.heap.size,6,none⟩=some (.slice fa fn fq):=ah hb1 (az 6);have c7:w1.cell? ⟨w.heap.size,7,none⟩=some (.int .i64 l):=ah hb1 (az 7);have c8:w1.cell? ⟨w.heap.size,8,none⟩=some (.slice c m q):=ah hb1 (az 8);have hB1:=aj ai hb1;have hbz:=hB1.size
  go_wp2_with fail
  refine(HC.out (by simp) _ hB1).mono ?_;rintro e w2 ⟨v2,rfl,hacc2,-,hb2⟩;have hts:=hacc2.tms;obtain⟨a2,q2,rfl,hq1,hq2,-⟩:=hts.open;have hB2:=aj hB1 hb2;have hbz2:=hB2.size;have HTS0:=zq hts;clear hts hacc2 c0 c1 c2 c3 c4 c5 c6 c7 c8 hb1 hb2 hB1 HV HC;obtain⟨n,hn⟩ : ∃n,us.length=n:=⟨_,rfl⟩
  have hts:=HTS0.out;rw[hn] at hq1 hts ⊢;have HN:=zq hn;have hn2:n≤200:=by have:=HLEN'.out;omega
  unfold maxLen at hq2;clear hn HTS0
  go_wp2_with fail
  go_loopw [14,5] (fun i p wr=>∃j:Nat,j≤n∧i = .int .i64 j∧(∃nn:Nat,nn≤400∧Hid (nn=(b4 lb (us.take j)).length)∧aL w2.heap.size 25 2 wr p nn (Ty.rows (b4 lb (us.take j))))∧Below w2.heap.size w2 wr) (fun i _ _=>n-(intOf i).toNat)
  case atStart=>exact⟨0,by omega,rfl,⟨0,by omega,by simp[Hid,b4],by simpa [b4,Ty.rows] using aL.nil _ _ _ _⟩,Below.refl _ _⟩
  case round=>
   obtain⟨j,hj,rfl,⟨nn,hnn4,hnn,hacc⟩,hbw⟩:=hrel;have hbz0:=hbw.size
   by_cases hlt:j<n
   ·have hjt:j<us.length:=by rw[HN.out];exact hlt
    obtain⟨b,off,k0,nm0,u0,tk0,ta0,tn0,tq0,fk0,fa0,fn0,fq0,l0,a0,m0,q0,rfl,lb0,e0,e1,e2,e3,e4,e5,e6,e7,e8,ht⟩:=hts.at hbw hjt;obtain⟨r1,r2,r3,r4,r5,r6,r7,r8,r9,rn,rm,rq,hty,hsr,hks⟩:=ht.parts;have hct:=kB lb us j hjt;have hcl:=ln lb us (j+1);have hmem:=kN (l:=lb) hjt;rw[←r8] at hct hmem;have HC1:=zq (fun(hl:l0=lb) W (h:Below wr.heap.size wr W)=>fP _ us[j].src _ W (hsr.below h) (HCNT'.out _ (hmem hl).1));have HC2:=zq (fun(hl:l0=lb) W (h:Below wr.heap.size wr W)=>fP _ us[j].type _ W (hty.below h) (HCNT'.out _ (hmem hl).2));have HCT:=zq hct;have HCL:=zq hcl;clear r1 r2 r3 r4 r5 r6 r7 r8 r9 rn rm rq hty hsr hks ht hct hcl hmem;obtain⟨cv,qv,rfl⟩:=hacc.shape
    by_cases hl:l0=lb
    ·subst hl
     have HCT2:=zq (HCT.out.trans (by rw[if_pos (by simp)]));obtain⟨xs,fps,ho,hll,hs,hd,hfp⟩:=hacc;have HO:=zq ho;have HS:=zq hs;have HD:=zq hd;have HFP:=zq hfp;have HL:=zq hll;clear ho hs hd hfp hll HCT
     go_wp2_with fail
     have hlt1 : ∀x∈fps,x<wr.heap.size:=fun x hx=>b5.lt _ _ _ HS.out x hx;have HLT1:=zq hlt1;have hlo1:=fun x=>HO.out.lt x;have HLO1:=zq hlo1;clear hlt1 hlo1
     go_region_law (first
       | (go_simp;go_at_call_of 22 (Value.agg #[Value.int IntKind.i64 fk0,Value.slice fa0 fn0 fq0]);refine(HC1.out (by simp) _ ai.drew).mono ?_;rintro e w3 ⟨v1,rfl,hv1,hb1⟩;obtain⟨k1,c1,m1,q1,fp1,rfl,-,-,hs1,hd1,hx1⟩:=hv1.open;have d3:w3.cell? ⟨wr.heap.size,3,none⟩=some (.int .i64 tk0):=cl hb1 (az 3);have d4:w3.cell? ⟨wr.heap.size,4,none⟩=some (.slice ta0 tn0 tq0):=cl hb1 (az 4);have hbz:=hb1.size;simp at hbz;have lw1:wr.heap.size<w3.heap.size:=World.block_lt_of_cell? _ _ d3)
       | (go_simp;go_at_call_of 22 (Value.agg #[Value.int IntKind.i64 tk0,Value.slice ta0 tn0 tq0]);refine(HC2.out (by simp) _ (aj ai.drew hb1)).mono ?_;rintro e w4 ⟨v2,rfl,hv2,hb2⟩;obtain⟨k2,c2,m2,q2,fp2,rfl,-,-,hs2,hd2,hx2⟩:=hv2.open;have hbz2:=hb2.size)
       | (refine step_append_lies _ (by rfl) (.tmp 22) (.tmp 29) 23 (by rfl) w2.heap.size 25 i0 _ 2 32 Tryz.underlying23 HI.out Z0.out Z1.out Z2.out rfl (by omega) (.slice cv nn qv) nn xs (by rfl) (aP HO.out (aj (aj (aj ai.drew hb1) hb2) ai))
           ⟨w4.heap.size,0,none⟩ 2 2 [.int .i64 k1,.slice c1 m1 q1,.int .i64 k2,.slice c2 m2 q2] (by rfl) (by rfl) (World.news_of_block (cs:=#[.int .i64 k1,.slice c1 m1 q1,.int .i64 k2,.slice c2 m2 q2]) (t:=25) (fr:=(0,0)) (heap_alloc_new w4 _)) (by simp[Value.oneCell'])
           (by omega) (by unfold maxLen;omega) (by omega) (by simp;omega) _ rfl ?_
          intro gg cap2 w5 hown3 hgrow hat hlt3;have hs1':=hs1.move _ _ _ (fun b hb=>(heap_alloc_old w4 (.cells #[.int .i64 k1,.slice c1 m1 q1,.int .i64 k2,.slice c2 m2 q2] 25) (Nat.lt_of_lt_of_le (bf.lt _ _ _ hs1 b hb) hbz2)).trans (hb2.block b (bf.lt _ _ _ hs1 b hb)));have hs2':=hs2.move _ _ _ (fun b hb=>heap_alloc_old w4 (.cells #[.int .i64 k1,.slice c1 m1 q1,.int .i64 k2,.slice c2 m2 q2] 25) (bf.lt _ _ _ hs2 b hb));have hBA:Below wr.heap.size wr (w4.alloc (.cells #[.int .i64 k1,.slice c1 m1 q1,.int .i64 k2,.slice c2 m2 q2] 25)):=aj (aj (aj ai.drew hb1) hb2) ai;have hs0':=HS.out.move _ _ _ (fun b hb=>hBA.block b (HLT1.out b hb));have hl1 : ∀x∈fp1,x<w3.heap.size:=bf.lt _ _ _ hs1;have hacc0:=aL.pushS (rs:= [us[j].src.row,us[j].type.row]) HL.out hs0' HD.out HFP.out rfl (b5.append (b5.single hs1') (b5.single hs2')) (List.nodup_append.2 ⟨hd1,hd2,fun x hx z hz e=>by have h1:=hl1 x hx;have h2:=hx2 z hz;omega⟩)
           (fun x hx=>by
             have h1:wr.heap.size+1≤x:=by
               rcases List.mem_append.1 hx with hx | hx
               · have h1:=hx1 x hx;simp at h1;exact h1
               · have h1:=hx2 x hx;omega
             exact⟨by omega,fun e=>by have:=(HLO1.out x e).2;omega,fun hm=>by have:=HLT1.out x hm;omega⟩) hown3 hgrow (hat.elim .inl (fun h=>.inr (by first | (rw[h];done) | (rw[h];simp))))
          have hbel:=bj hbw hBA HO.out (Nat.le_refl _) hgrow;have HACC:=zq (show aL w2.heap.size 25 2 w5 (.slice (some ⟨gg,0,none⟩) (nn+2) cap2) (nn+2) (Ty.rows (b4 l0 (us.take (j+1)))) from by rw[HCT2.out,Ty.rows_eq,List.map_append,←Ty.rows_eq];exact hacc0);have hsz5:(b4 l0 (us.take (j+1))).length=nn+2:=by rw[HCT2.out,List.length_append,←hnn.out];rfl
          have HSZ5:=zq hsz5;clear hacc0 hown3 hgrow hat hs1' hs2' hBA hs0' hl1 hs1 hd1 hx1 hs2 hd2 hx2 hv1 hv2 hb1 hb2 d3 d4 hsz5))
     all_goals
      go_wp2_with fail
      go_roundw
      case rel=>exact⟨j+1,by omega,by go_num,⟨nn+2,by have:=HSZ5.out;have:=HCL.out;have:=HN.out;omega,HSZ5.out.symm,HACC.out⟩,hbel⟩
      case measure=>simp[intOf];omega
    ·have hlf:(l0==lb)=false:=by simpa using hl
     have HCT2:=zq (HCT.out.trans (by rw[if_neg (by simpa using hl)]));have HACC:=zq hacc;clear hacc HCT HC1 HC2
     go_wp2_with fail
     go_roundw
     case rel=>exact⟨j+1,by omega,by go_num,⟨nn,hnn4,by unfold Hid;rw[HCT2.out,List.append_nil];exact hnn.out,by rw[HCT2.out,List.append_nil];exact HACC.out.grown ai⟩,aj hbw ai⟩
     case measure=>simp[intOf];omega
   ·have HACC:=zq hacc
    clear hacc
    go_wp2_with fail
    go_ret
    have e:b4 lb (us.take j)=b4 lb us:=by rw[List.take_of_length_le (by have:=HN.out;omega)]
    have h:=HACC.out;rw[e] at h;obtain⟨fp,p1,p2,p3⟩:=h.tys
    exact⟨_,rfl,⟨fp,p1,p2,fun b hb=>Nat.le_trans hbz2 (p3 b hb)⟩,⟨hbw.os.trans hB2.os,hbw.tape.trans hB2.tape,hbw.output.trans hB2.output,by omega,fun b hb=>(hbw.block b (by omega)).trans (hB2.block b hb)⟩⟩
end Go.Proofs.YtfahhonmiimmdaaGreat
