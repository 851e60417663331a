/- spec.InsertCasts. And what else its parts name. -/
import Derived.Test.YtfahhonmiimmdaaGreatL4I
import Derived.Test.YtfahhonmiimmdaaGreatB26
set_option linter.unusedSimpArgs false
set_option linter.unusedVariables false
set_option maxRecDepth 100000
set_option maxHeartbeats 16000000
namespace Go.Proofs.YtfahhonmiimmdaaGreat
open Go.RowKit
def oG5_0:Oper:=⟨some 25,.load 28 (.tmp 7),28,"l4_casts.go:118",#[],none⟩
def oG5_1:Oper:=⟨some 26,.load 25 (.tmp 8),25,"l4_casts.go:118",#[⟨2,.gcOnly .lateStores⟩],none⟩
def oG5_2:Oper:=⟨none,.store 28 (.tmp 2) (.tmp 25),0,"l4_casts.go:118",#[⟨0,.data⟩,⟨0,.phase⟩,⟨1,.textOnly .lateStores⟩],none⟩
def oG5_3:Oper:=⟨none,.store 25 (.tmp 3) (.tmp 26),0,"l4_casts.go:118",#[⟨1,.data⟩,⟨2,.chain⟩,⟨0,.phase⟩,⟨1,.phase⟩,⟨2,.phase⟩],none⟩
def oG5_4:Oper:=⟨some 4,.assign (.const (.bool true)),4,"l4_casts.go:118",#[⟨3,.chain⟩,⟨0,.phase⟩,⟨1,.phase⟩,⟨2,.phase⟩,⟨3,.phase⟩],none⟩
def RetI3 (w:World)(e:Ending)(w':World):Prop:=(e = .returned (.tuple #[.agg #[.int .i64 0,.string {data:=#[]},.int .i64 0,.int .i64 0,.slice none 0 0,.int .i64 0,.slice none 0 0,.int .i64 0,.slice none 0 0],.agg #[.int .i64 0,.slice none 0 0],.bool false])∧Below w.heap.size w w')∨∃(t':Tm) (s:S) (v y:Value),e = .returned (.tuple #[v,y,.bool true])∧t'.cnt≤6000∧s.vd=true∧aA (w.heap.size ≤ ·) w' t' v∧ap (w.heap.size ≤ ·) w' s.ty y∧Below w.heap.size w w'
theorem tl {t:Tm}{x:Ty}(h:ek t=some x) : ∃s:S,x=s.ty∧t.valid=true∧t.typS []=some s:=by
 unfold ek at h
 split at h
 ·rename_i hv
  cases hs:t.typS [] with
  | none=>rw[hs] at h;cases h
  | some s=>rw[hs] at h;cases h;exact⟨s,rfl,hv,rfl⟩
 ·cases h
theorem kV (F:Nat→Prop)(t1:Tm)(y:Value)(w:World)(hy:aA F w t1 y):Calls Tryz.prog 55 #[y] w (RetI3 w):=by
 obtain⟨kt1,nm1,ut1,tk1,ta1,tn1,tq1,fk1,fa1,fn1,fq1,lt1,ct1,mt1,qt1,rfl⟩:=hy.shape;obtain⟨o,ho⟩ : ∃o,ek t1=o:=⟨_,rfl⟩
 have HTO:=zq (ho▸lm _ t1 _ _ (hy.below (cA (o:=.cells #[.int .i64 kt1,.string nm1,.int .i64 ut1,.int .i64 tk1,.slice ta1 tn1 tq1,.int .i64 fk1,.slice fa1 fn1 fq1,.int .i64 lt1,.slice ct1 mt1 qt1] 28) (o':=.cells #[.int .i64 0,.string {data:=#[]},.int .i64 0,.int .i64 0,.slice none 0 0,.int .i64 0,.slice none 0 0,.int .i64 0,.slice none 0 0] 28) (o2:=.cells #[.int .i64 0,.slice none 0 0] 25))));have HY:=zq hy;obtain⟨QQ,hQQ⟩ : ∃Q,RetI3 w=Q:=⟨_,rfl⟩
 rw[hQQ];have HQQ:=zq hQQ;clear hQQ hy
 cases o with
 | none=>
  clear ho
  go_enter Tryz.func55,Tryz.ntmps55
  go_wp2_with fail
  refine HTO.out.mono ?_;rintro e w1 ⟨k5,a5,n5,q5,rfl,ht5,hb⟩;have z1:=hb.size;simp only[World.size_alloc] at z1;have fE:w1.heap[w.heap.size]?=some (.cells #[.int .i64 kt1,.string nm1,.int .i64 ut1,.int .i64 tk1,.slice ta1 tn1 tq1,.int .i64 fk1,.slice fa1 fn1 fq1,.int .i64 lt1,.slice ct1 mt1 qt1] 28 (0,0)):=ag (ag (ag (aF rfl) aj) aj) hb;have fR:w1.heap[w.heap.size+1]?=some (.cells #[.int .i64 0,.string {data:=#[]},.int .i64 0,.int .i64 0,.slice none 0 0,.int .i64 0,.slice none 0 0,.int .i64 0,.slice none 0 0] 28 (0,0)):=ag (ag (aF (by simp)) aj) hb;have fY:w1.heap[w.heap.size+1+1]?=some (.cells #[.int .i64 0,.slice none 0 0] 25 (0,0)):=ag (aF (by simp)) hb;have fB:Hid (Below w.heap.size w w1):=zq (al cA hb);clear hb HTO ht5;obtain⟨x0,x1,x2,x3,x4,x5,x6,x7,x8⟩:=blk9 fR;have xf0:=ao fR 0;have xf1:=ao fR 1;have xf2:=ao fR 2;have xf3:=ao fR 3;have xf4:=ao fR 4;have xf5:=ao fR 5;have xf6:=ao fR 6;have xf7:=ao fR 7;have xf8:=ao fR 8;have xl:=aD fR;obtain⟨v0,v1⟩:=blk2 fY;have vf0:=ao fY 0;have vf1:=ao fY 1;have vl:=aD fY;have hx5:w.heap.size+1<w1.heap.size+1:=by omega
  have hx6:w.heap.size+1+1<w1.heap.size+1:=by omega
  go_upto_region 3 with fail
  clear x0 x1 x2 x3 x4 x5 x6 x7 x8 xf0 xf1 xf2 xf3 xf4 xf5 xf6 xf7 xf8 xl v0 v1 vf0 vf1 vl hx5 hx6;obtain⟨w2,hXq,hb,fT,zw2a,zw2b⟩:=aZ w1 (.cells #[.int .i64 k5,.slice a5 n5 q5] 25);rw[hXq];replace fE:=ag fE hb;replace fR:=ag fR hb;replace fY:=ag fY hb;replace fB:=zq (al fB.out hb);clear hb hXq;obtain⟨x0,x1,x2,x3,x4,x5,x6,x7,x8⟩:=blk9 fR;have xf0:=ao fR 0;have xf1:=ao fR 1;have xf2:=ao fR 2;have xf3:=ao fR 3;have xf4:=ao fR 4;have xf5:=ao fR 5;have xf6:=ao fR 6;have xf7:=ao fR 7;have xf8:=ao fR 8;have xl:=aD fR;obtain⟨v0,v1⟩:=blk2 fY;have vf0:=ao fY 0;have vf1:=ao fY 1;have vl:=aD fY
  go_wp2_with fail
  clear x0 x1 x2 x3 x4 x5 x6 x7 x8 xf0 xf1 xf2 xf3 xf4 xf5 xf6 xf7 xf8 xl v0 v1 vf0 vf1 vl;obtain⟨w3,hXq,hsq,fR_,zw3a,zw3b⟩:=bQ fR (.int .i64 0) (.string {data:=#[]}) (.int .i64 0) (.int .i64 0) (.slice none 0 0) (.int .i64 0) (.slice none 0 0) (.int .i64 0) (.slice none 0 0);rw[hXq];replace fE:=hsq.blk (by omega) fE;replace fY:=hsq.blk (by omega) fY;replace fB:=zq (hsq.bel fB.out (by omega));replace fT:=hsq.blk (by omega) fT;clear fR hsq hXq;have fR:=fR_;clear fR_;obtain⟨w4,hXq,hsq,fY_,zw4a,zw4b⟩:=bC fY (.int .i64 0) (.slice none 0 0);rw[hXq];replace fE:=hsq.blk (by omega) fE;replace fR:=hsq.blk (by omega) fR;replace fB:=zq (hsq.bel fB.out (by omega));replace fT:=hsq.blk (by omega) fT;clear fY hsq hXq;have fY:=fY_;clear fY_;obtain⟨rc0,rc1,rc2,rc3,rc4,rc5,rc6,rc7,rc8⟩:=blk9 fR;obtain⟨ry0,ry1⟩:=blk2 fY;refine bodyPost_ret (v:=.tuple #[.agg #[.int .i64 0,.string {data:=#[]},.int .i64 0,.int .i64 0,.slice none 0 0,.int .i64 0,.slice none 0 0,.int .i64 0,.slice none 0 0],.agg #[.int .i64 0,.slice none 0 0],.bool false]) (by simp[results,Tryz.results55,go_sem,rc0,rc1,rc2,rc3,rc4,rc5,rc6,rc7,rc8,ry0,ry1]) rfl ?_;rw[←HQQ.out]
  exact .inl ⟨rfl,fB.out⟩
 | some x=>
  obtain⟨s,rfl,hv,hts⟩:=tl ho;have hvs:s.vd=true:=by rw[←S.valid];exact(rR t1 _ ho).2
  have HVS:=zq hvs;unfold Tm.valid at hv;rw[Bool.and_eq_true] at hv;have hsz:=of_decide_eq_true hv.2;have hs1:=hv.1;have HSZ:=zq hsz;have HIN:Hid (∀W,Below w.heap.size w W→Calls Tryz.prog 91 #[.slice none 0 0,.agg #[.int .i64 kt1,.string nm1,.int .i64 ut1,.int .i64 tk1,.slice ta1 tn1 tq1,.int .i64 fk1,.slice fa1 fn1 fq1,.int .i64 lt1,.slice ct1 mt1 qt1],.int .i64 1] W (ku t1 s 1 W)):=zq fun W h=>iW t1 12 [] (fun _=>True) F (.slice none 0 0) _ 1 W s hs1 (by simp) (fun b hb=>by cases hb) (.inl ⟨rfl,rfl⟩) (by unfold aL aM;exact⟨none,0,rfl,Nat.le_refl _,by unfold maxLen;omega,.inl rfl⟩) (HY.out.below h) hts (by omega) (by omega);clear hv hs1 hsz hts hvs;clear ho
  go_enter Tryz.func55,Tryz.ntmps55
  go_wp2_with fail
  refine HTO.out.mono ?_;rintro e w1 ⟨k5,a5,n5,q5,rfl,ht5,hb⟩;have z1:=hb.size;simp only[World.size_alloc] at z1;have fE:w1.heap[w.heap.size]?=some (.cells #[.int .i64 kt1,.string nm1,.int .i64 ut1,.int .i64 tk1,.slice ta1 tn1 tq1,.int .i64 fk1,.slice fa1 fn1 fq1,.int .i64 lt1,.slice ct1 mt1 qt1] 28 (0,0)):=ag (ag (ag (aF rfl) aj) aj) hb;have fR:w1.heap[w.heap.size+1]?=some (.cells #[.int .i64 0,.string {data:=#[]},.int .i64 0,.int .i64 0,.slice none 0 0,.int .i64 0,.slice none 0 0,.int .i64 0,.slice none 0 0] 28 (0,0)):=ag (ag (aF (by simp)) aj) hb;have fY:w1.heap[w.heap.size+1+1]?=some (.cells #[.int .i64 0,.slice none 0 0] 25 (0,0)):=ag (aF (by simp)) hb;have fB:Hid (Below w.heap.size w w1):=zq (al cA hb);clear hb HTO ht5
  go_upto_region 4 with fail
  obtain⟨w2,hXq,hb,fT,zw2a,zw2b⟩:=aZ w1 (.cells #[.int .i64 k5,.slice a5 n5 q5] 25);rw[hXq];replace fE:=ag fE hb;replace fR:=ag fR hb;replace fY:=ag fY hb;replace fB:=zq (al fB.out hb);clear hb hXq;obtain⟨y0,y1,y2,y3,y4,y5,y6,y7,y8⟩:=blk9 fE;have yl:=aD fE
  go_wp2_with fail
  clear y0 y1 y2 y3 y4 y5 y6 y7 y8 yl;refine(HIN.out _ fB.out).mono ?_;rintro e w3 ⟨t2,v,yv,lb2,rfl,hc2,-,-,hv,hy2,hb⟩;obtain⟨kt2,nm2,ut2,tk2,ta2,tn2,tq2,fk2,fa2,fn2,fq2,lt2,ct2,mt2,qt2,rfl⟩:=hv.shape;obtain⟨k6,a6,n6,q6,rfl⟩:=hy2.shape;have z3:=hb.size;have HC2:=zq hc2;have h2':=hv.rg;have h6':Hid (ap (fun b=>w2.heap.size≤b∧b<w3.heap.size) w3 s.ty (.agg #[.int .i64 k6,.slice a6 n6 q6])):=zq (hy2.move (.weaken fun b h1 h2=>⟨h1,h2⟩));clear hv hy2 hc2 HIN;replace fE:=ag fE hb;replace fR:=ag fR hb;replace fY:=ag fY hb;replace fB:=zq (al fB.out hb);replace fT:=ag fT hb;clear hb;have h2_:=h2';have h6_:=h6';clear h2' h6'
  go_upto_region 5 with fail
  obtain⟨w4,hXq,hb,fV,zw4a,zw4b⟩:=aZ w3 (.cells #[.int .i64 kt2,.string nm2,.int .i64 ut2,.int .i64 tk2,.slice ta2 tn2 tq2,.int .i64 fk2,.slice fa2 fn2 fq2,.int .i64 lt2,.slice ct2 mt2 qt2] 28);rw[hXq];replace fE:=ag fE hb;replace fR:=ag fR hb;replace fY:=ag fY hb;replace fB:=zq (al fB.out hb);replace fT:=ag fT hb;replace h2_:=zq (h2_.out.below hb);replace h6_:=zq (h6_.out.below hb);clear hb hXq;obtain⟨w5,hXq,hb,fS,zw5a,zw5b⟩:=aZ w4 (.cells #[.int .i64 k6,.slice a6 n6 q6] 25);rw[hXq];replace fE:=ag fE hb;replace fR:=ag fR hb;replace fY:=ag fY hb;replace fB:=zq (al fB.out hb);replace fT:=ag fT hb;replace h2_:=zq (h2_.out.below hb);replace h6_:=zq (h6_.out.below hb);replace fV:=ag fV hb;clear hb hXq;rw[show w4.heap.size=w3.heap.size+1 by omega] at fS;refine wp_region_noPanic ?_;refine wp_region_held_drew (S:=fun w'=>w'.cell? ⟨w3.heap.size,0,none⟩=some (.int .i64 kt2)∧w'.cell? ⟨w3.heap.size,1,none⟩=some (.string nm2)∧w'.cell? ⟨w3.heap.size,2,none⟩=some (.int .i64 ut2)∧w'.cell? ⟨w3.heap.size,3,none⟩=some (.int .i64 tk2)∧w'.cell? ⟨w3.heap.size,4,none⟩=some (.slice ta2 tn2 tq2)∧w'.cell? ⟨w3.heap.size,5,none⟩=some (.int .i64 fk2)∧w'.cell? ⟨w3.heap.size,6,none⟩=some (.slice fa2 fn2 fq2)∧w'.cell? ⟨w3.heap.size,7,none⟩=some (.int .i64 lt2)∧w'.cell? ⟨w3.heap.size,8,none⟩=some (.slice ct2 mt2 qt2)∧w'.cell? ⟨w3.heap.size+1,0,none⟩=some (.int .i64 k6)∧w'.cell? ⟨w3.heap.size+1,1,none⟩=some (.slice a6 n6 q6)) (by kernel_rfl) ?_ (fun hH0=>?_)
  ·exact blk9r fV ⟨ah fS rfl,ah fS rfl⟩
  obtain⟨U1,hU,hb,zU1a,zU1b⟩:=bK w5;rw[hU] at hH0 ⊢;replace fE:=ag fE hb;replace fR:=ag fR hb;replace fY:=ag fY hb;replace fB:=zq (al fB.out hb);replace fT:=ag fT hb;replace h2_:=zq (h2_.out.below hb);replace h6_:=zq (h6_.out.below hb);replace fV:=ag fV hb;replace fS:=ag fS hb;(try simp only[World.size_alloc] at zU1a zU1b);clear hU hb;refine hwt 0 oG5_0 (.agg #[.int .i64 kt2,.string nm2,.int .i64 ut2,.int .i64 tk2,.slice ta2 tn2 tq2,.int .i64 fk2,.slice fa2 fn2 fq2,.int .i64 lt2,.slice ct2 mt2 qt2]) hH0 ?_ ?_
  ·intro w' hSw;dsimp only[oG5_0];go_simp
  try simp only[oG5_0,hwA]
  refine hwt 1 oG5_1 (.agg #[.int .i64 k6,.slice a6 n6 q6]) hH0 ?_ ?_
  ·intro w' hSw;dsimp only[oG5_1];go_simp
  try simp only[oG5_1,hwA]
  refine hwr 2 oG5_2 (fun K hK=>?_);obtain⟨r0,rf0,r1,rf1,r2,rf2,r3,rf3,r4,rf4,r5,rf5,r6,rf6,r7,rf7,r8,rf8⟩:=blk9f fR
  dsimp only[oG5_2];go_simp
  (try go_wp2_with fail);have hQq:=bQ fR (.int .i64 kt2) (.string nm2) (.int .i64 ut2) (.int .i64 tk2) (.slice ta2 tn2 tq2) (.int .i64 fk2) (.slice fa2 fn2 fq2) (.int .i64 lt2) (.slice ct2 mt2 qt2);clear fR r0 rf0 r1 rf1 r2 rf2 r3 rf3 r4 rf4 r5 rf5 r6 rf6 r7 rf7 r8 rf8;obtain⟨X501,hXq,hsq,fR,zX501a,zX501b⟩:=hQq;rw[hXq];replace fE:=hsq.blk (by omega) fE;replace fY:=hsq.blk (by omega) fY;replace fB:=zq (hsq.bel fB.out (by omega));replace fT:=hsq.blk (by omega) fT;replace h2_:=zq (h2_.out.move (hsq.keeps (fun b hb=>by have h1:=hb.1;have h2:=hb.2;omega)));replace h6_:=zq (hsq.rep (fun b hb=>by have h1:=hb.1;have h2:=hb.2;omega) h6_.out);replace fV:=hsq.blk (by omega) fV;replace fS:=hsq.blk (by omega) fS;refine hK.out _ _ (blk9r fV ⟨ah fS rfl,ah fS rfl⟩) (fun hH501=>?_);clear hK K hH0 hsq hXq
  try simp only[oG5_2,hwA]
  refine hwr 3 oG5_3 (fun K hK=>?_);obtain⟨r0,r1,rf0,rf1⟩:=co fY
  dsimp only[oG5_3];go_simp
  (try go_wp2_with fail);have hQq:=bC fY (.int .i64 k6) (.slice a6 n6 q6);clear fY r0 rf0 r1 rf1;obtain⟨X502,hXq,hsq,fY,zX502a,zX502b⟩:=hQq;rw[hXq];replace fE:=hsq.blk (by omega) fE;replace fR:=hsq.blk (by omega) fR;replace fB:=zq (hsq.bel fB.out (by omega));replace fT:=hsq.blk (by omega) fT;replace h2_:=zq (h2_.out.move (hsq.keeps (fun b hb=>by have h1:=hb.1;have h2:=hb.2;omega)));replace h6_:=zq (hsq.rep (fun b hb=>by have h1:=hb.1;have h2:=hb.2;omega) h6_.out);replace fV:=hsq.blk (by omega) fV;replace fS:=hsq.blk (by omega) fS;refine hK.out _ _ (blk9r fV ⟨ah fS rfl,ah fS rfl⟩) (fun hH502=>?_);clear hK K hH501 hsq hXq
  try simp only[oG5_3,hwA]
  refine hwt 4 oG5_4 (.bool true) hH502 ?_ ?_
  ·intro w' hSw;dsimp only[oG5_4];go_simp
  try simp only[oG5_4,hwA]
  refine wpAnyH_done (by kernel_rfl) ?_ _;refine NoPanic.normal ?_;clear hH502;obtain⟨rc0,rc1,rc2,rc3,rc4,rc5,rc6,rc7,rc8⟩:=blk9 fR;obtain⟨ry0,ry1⟩:=blk2 fY
  go_wp2_with fail
  refine bodyPost_ret (v:=.tuple #[.agg #[.int .i64 kt2,.string nm2,.int .i64 ut2,.int .i64 tk2,.slice ta2 tn2 tq2,.int .i64 fk2,.slice fa2 fn2 fq2,.int .i64 lt2,.slice ct2 mt2 qt2],.agg #[.int .i64 k6,.slice a6 n6 q6],.bool true]) (by simp[results,Tryz.results55,go_sem,rc0,rc1,rc2,rc3,rc4,rc5,rc6,rc7,rc8,ry0,ry1]) rfl ?_;rw[←HQQ.out];have h1:=HC2.out;have h2:=HSZ.out
  exact .inr ⟨t2,s,_,_,rfl,by omega,HVS.out,h2_.out.move (.weaken fun b h _=>by have h1:=h.1;show w.heap.size≤b;omega),h6_.out.move (.weaken fun b h _=>by have h1:=h.1;show w.heap.size≤b;omega),fB.out⟩
theorem rJ (r p:Nat)(w:World)(hrd0:aT w r p)(hp:p≤700000000):Calls Tryz.prog 30 #[.pointer (some ⟨r,0,none⟩)] w (DTm r p 5002000 7000 w):=by
 have hrl:=hrd0.1;have HRD:=zq hrd0;clear hrd0
 go_enter Tryz.func30,Tryz.ntmps30
 go_wp2_with fail
 refine(jS r p _ (HRD.out.below aj) (by omega)).mono ?_;rintro e w1 ⟨t1,v,q1,rfl,hc1,hv,hq1,hrd,hb⟩;obtain⟨kt1,nm1,ut1,tk1,ta1,tn1,tq1,fk1,fa1,fn1,fq1,lt1,ct1,mt1,qt1,rfl⟩:=hv.shape;have z1:=hb.size;simp only[World.size_alloc] at z1;have fR:w1.heap[w.heap.size]?=some (.cells #[.int .i64 0,.string {data:=#[]},.int .i64 0,.int .i64 0,.slice none 0 0,.int .i64 0,.slice none 0 0,.int .i64 0,.slice none 0 0] 28 (0,0)):=aB (aF rfl) hb (by omega);have fC:Hid (Chg [r] w w1):=zq ((Chg.of_below aj).trans hb);have rd:Hid (aT w1 r (q1)):=zq hrd;have h1_:=zq hv;clear hb hrd hv HRD hc1
 go_wp2_with fail
 refine(kV _ t1 _ _ h1_.out).mono ?_;rintro e w2 (⟨rfl,hb⟩ | ⟨t2,s2,v,yv,rfl,hc2,hvs2,hv,hy2,hb⟩)
 ·have z2:=hb.size
  replace fR:=ag fR hb;replace fC:=zqb fC hb;replace rd:=zq (rd.out.below hb);clear hb h1_
  go_upto_region 3 with fail
  obtain⟨w3,hXq,hb,fE,zw3a,zw3b⟩:=aZ w2 (.cells #[.int .i64 0,.string {data:=#[]},.int .i64 0,.int .i64 0,.slice none 0 0,.int .i64 0,.slice none 0 0,.int .i64 0,.slice none 0 0] 28);rw[hXq];replace fR:=ag fR hb;replace fC:=zqb fC hb;replace rd:=zq (rd.out.below hb);clear hb hXq;obtain⟨w4,hXq,hb,fT,zw4a,zw4b⟩:=aZ w3 (.cells #[.int .i64 0,.slice none 0 0] 25);rw[hXq];replace fR:=ag fR hb;replace fC:=zqb fC hb;replace rd:=zq (rd.out.below hb);replace fE:=ag fE hb;clear hb hXq;clear fE fT
  go_wp2_with fail
  refine(cO 6 _).mono ?_;rintro e w5 ⟨rfl,hb⟩;have zw5:=hb.size;(try simp only[World.size_alloc] at zw5);replace fR:=ag fR hb;replace fC:=zqb fC hb;replace rd:=zq (rd.out.below hb);clear hb;obtain⟨x0,x1,x2,x3,x4,x5,x6,x7,x8⟩:=blk9 fR;have xf0:=ao fR 0;have xf1:=ao fR 1;have xf2:=ao fR 2;have xf3:=ao fR 3;have xf4:=ao fR 4;have xf5:=ao fR 5;have xf6:=ao fR 6;have xf7:=ao fR 7;have xf8:=ao fR 8;have xl:=aD fR
  go_wp2_with fail
  clear x0 x1 x2 x3 x4 x5 x6 x7 x8 xf0 xf1 xf2 xf3 xf4 xf5 xf6 xf7 xf8 xl;obtain⟨wz,hXq,hsq,fR_,zwza,zwzb⟩:=bQ fR (.int .i64 2) (.string {data:=#[]}) (.int .i64 6) (.int .i64 0) (.slice none 0 0) (.int .i64 0) (.slice none 0 0) (.int .i64 0) (.slice none 0 0);rw[hXq];replace fC:=zq (hsq.chg fC.out (by omega));replace rd:=zq (hsq.rd rd.out (by omega));clear fR hsq hXq;have fR:=fR_;clear fR_;obtain⟨rc0,rc1,rc2,rc3,rc4,rc5,rc6,rc7,rc8⟩:=blk9 fR;refine bodyPost_ret (v:=.agg #[.int .i64 2,.string {data:=#[]},.int .i64 6,.int .i64 0,.slice none 0 0,.int .i64 0,.slice none 0 0,.int .i64 0,.slice none 0 0]) (by simp[results,Tryz.results30,go_sem,rc0,rc1,rc2,rc3,rc4,rc5,rc6,rc7,rc8]) rfl ?_
  exact⟨.mk 2 {data:=#[]} 6 (.mk 0 []) (.mk 0 []) 0 [],_,q1,rfl,by decide,aA.leaf0 2 6 bp,by omega,rd.out,fC.out⟩
 ·have z2:=hb.size
  obtain⟨kt2,nm2,ut2,tk2,ta2,tn2,tq2,fk2,fa2,fn2,fq2,lt2,ct2,mt2,qt2,rfl⟩:=hv.shape;obtain⟨k2,a2,n2,q2_,rfl⟩:=hy2.shape;have hE':Hid (aA (fun b=>w.heap.size+1≤b∧b≠w2.heap.size∧b≠w2.heap.size+1) w2 t2 (.agg #[.int .i64 kt2,.string nm2,.int .i64 ut2,.int .i64 tk2,.slice ta2 tn2 tq2,.int .i64 fk2,.slice fa2 fn2 fq2,.int .i64 lt2,.slice ct2 mt2 qt2])):=zq (hv.move (.weaken fun b h1 h2=>by have h3:w1.heap.size≤b:=h1;exact⟨by omega,by omega,by omega⟩));have hT':Hid (ap (fun b=>w.heap.size+1≤b∧b≠w2.heap.size∧b≠w2.heap.size+1) w2 s2.ty (.agg #[.int .i64 k2,.slice a2 n2 q2_])):=zq (hy2.move (.weaken fun b h1 h2=>by have h3:w1.heap.size≤b:=h1;exact⟨by omega,by omega,by omega⟩));have HC2:=zq hc2;have HV2:=zq hvs2;clear hv hy2 hc2 hvs2 h1_;replace fR:=ag fR hb;replace fC:=zqb fC hb;replace rd:=zq (rd.out.below hb);clear hb;have hE:=hE';have hT:=hT';clear hE' hT'
  go_upto_region 4 with fail
  obtain⟨w3,hXq,hb,fE,zw3a,zw3b⟩:=aZ w2 (.cells #[.int .i64 kt2,.string nm2,.int .i64 ut2,.int .i64 tk2,.slice ta2 tn2 tq2,.int .i64 fk2,.slice fa2 fn2 fq2,.int .i64 lt2,.slice ct2 mt2 qt2] 28);rw[hXq];replace fR:=ag fR hb;replace fC:=zqb fC hb;replace rd:=zq (rd.out.below hb);replace hE:=zq (hE.out.below hb);replace hT:=zq (hT.out.below hb);clear hb hXq;obtain⟨w4,hXq,hb,fT,zw4a,zw4b⟩:=aZ w3 (.cells #[.int .i64 k2,.slice a2 n2 q2_] 25);rw[hXq];replace fR:=ag fR hb;replace fC:=zqb fC hb;replace rd:=zq (rd.out.below hb);replace hE:=zq (hE.out.below hb);replace hT:=zq (hT.out.below hb);replace fE:=ag fE hb;clear hb hXq;rw[show w3.heap.size=w2.heap.size+1 by omega] at fT
  go_wp2_with fail
  refine(bw r q1 3 _ rd.out (by omega) (by omega)).mono ?_;rintro e w5 ⟨jk,rfl,hjk0,hjk1,hrd,hb⟩;have zw5:=hb.size;(try simp only[World.size_alloc] at zw5);replace fR:=aB fR hb;replace fC:=zqc fC hb;replace hE:=zq (hE.out.move (kpN hb (fun b hb=>by have h1:=hb;omega)));replace hT:=zq (hT.out.move (kpN hb (fun b hb=>by have h1:=hb;omega)));replace fE:=aB fE hb;replace fT:=aB fT hb;replace rd:=zq hrd;clear hrd;clear hb;obtain⟨j0,rfl⟩ : ∃n:Nat,jk=n:=⟨jk.toNat,by omega⟩
  go_wp2_with fail
  go_loopw [6] (fun s6 wr=>∃(j q:Nat) (t9:Tm) (s9:S) (kt9:Int) (nm9:ByteArray) (ut9 tk9:Int) (ta9:Option Addr) (tn9 tq9:Nat) (fk9:Int) (fa9:Option Addr) (fn9 fq9:Nat) (lt9:Int) (ct9:Option Addr) (mt9 qt9:Nat) (k8:Int) (a8:Option Addr) (n8 q8:Nat),j≤2∧s6 = .int .i64 (j:Int)∧q+500*j≤q1+1001∧w2.heap.size+2≤wr.heap.size∧Hid (wr.heap[w.heap.size]?=some (.cells #[.int .i64 0,.string {data:=#[]},.int .i64 0,.int .i64 0,.slice none 0 0,.int .i64 0,.slice none 0 0,.int .i64 0,.slice none 0 0] 28 (0,0)))∧Hid (wr.heap[w2.heap.size]?=some (.cells #[.int .i64 kt9,.string nm9,.int .i64 ut9,.int .i64 tk9,.slice ta9 tn9 tq9,.int .i64 fk9,.slice fa9 fn9 fq9,.int .i64 lt9,.slice ct9 mt9 qt9] 28 (0,0)))∧Hid (wr.heap[w2.heap.size+1]?=some (.cells #[.int .i64 k8,.slice a8 n8 q8] 25 (0,0)))∧Hid (Chg [r] w wr)∧Hid (aT wr r (q))∧Hid (aA (fun b=>w.heap.size+1≤b∧b≠w2.heap.size∧b≠w2.heap.size+1) wr t9 (.agg #[.int .i64 kt9,.string nm9,.int .i64 ut9,.int .i64 tk9,.slice ta9 tn9 tq9,.int .i64 fk9,.slice fa9 fn9 fq9,.int .i64 lt9,.slice ct9 mt9 qt9]))∧Hid (ap (fun b=>w.heap.size+1≤b∧b≠w2.heap.size∧b≠w2.heap.size+1) wr s9.ty (.agg #[.int .i64 k8,.slice a8 n8 q8]))∧Hid (s9.vd=true∧t9.cnt+60*j≤6200)) (fun i _=>(intOf i).toNat)
  case atStart=>exact⟨j0,q1+1,t2,s2,_,_,_,_,_,_,_,_,_,_,_,_,_,_,_,_,_,_,_,by omega,rfl,by omega,by omega,zq fR,zq fE,zq fT,fC,rd,hE,hT,zq ⟨HV2.out,by have:=HC2.out;omega⟩⟩
  case round=>
   clear fR fE fT fC rd hE hT;obtain⟨j,q,t9,s9,kt9,nm9,ut9,tk9,ta9,tn9,tq9,fk9,fa9,fn9,fq9,lt9,ct9,mt9,qt9,k8,a8,n8,q8,hj,rfl,hq,hsz,fR0,fE0,fT0,fC0,rd0,hE0,hT0,HVC⟩:=hrel;have fR:=fR0.out;have fE:=fE0.out;have fT:=fT0.out;have fC:=fC0;have rd:=rd0;have hE:=hE0;have hT:=hT0;clear fR0 fE0 fT0 fC0 rd0 hE0 hT0
   cases j with
   | zero=>
    have h0:decide (((0:Nat):Int)>0)=false:=by simp
    obtain⟨y0,y1,y2,y3,y4,y5,y6,y7,y8⟩:=blk9 fE;have yl:=aD fE;obtain⟨x0,x1,x2,x3,x4,x5,x6,x7,x8⟩:=blk9 fR;have xf0:=ao fR 0;have xf1:=ao fR 1;have xf2:=ao fR 2;have xf3:=ao fR 3;have xf4:=ao fR 4;have xf5:=ao fR 5;have xf6:=ao fR 6;have xf7:=ao fR 7;have xf8:=ao fR 8;have xl:=aD fR
    go_wp2_with fail
    clear y0 y1 y2 y3 y4 y5 y6 y7 y8 yl x0 x1 x2 x3 x4 x5 x6 x7 x8 xf0 xf1 xf2 xf3 xf4 xf5 xf6 xf7 xf8 xl;obtain⟨wz,hXq,hsq,fR_,zwza,zwzb⟩:=bQ fR (.int .i64 kt9) (.string nm9) (.int .i64 ut9) (.int .i64 tk9) (.slice ta9 tn9 tq9) (.int .i64 fk9) (.slice fa9 fn9 fq9) (.int .i64 lt9) (.slice ct9 mt9 qt9);rw[hXq];replace fC:=zq (hsq.chg fC.out (by omega));replace rd:=zq (hsq.rd rd.out (by omega));replace hE:=zq (hE.out.move (hsq.keeps (fun b hb=>by have h1:=hb;omega)));replace hT:=zq (hsq.rep (fun b hb=>by have h1:=hb;omega) hT.out);replace fE:=hsq.blk (by omega) fE;replace fT:=hsq.blk (by omega) fT;clear fR hsq hXq;have fR:=fR_;clear fR_;obtain⟨rc0,rc1,rc2,rc3,rc4,rc5,rc6,rc7,rc8⟩:=blk9 fR;refine bodyPost_ret (v:=.agg #[.int .i64 kt9,.string nm9,.int .i64 ut9,.int .i64 tk9,.slice ta9 tn9 tq9,.int .i64 fk9,.slice fa9 fn9 fq9,.int .i64 lt9,.slice ct9 mt9 qt9]) (by simp[results,Tryz.results30,go_sem,rc0,rc1,rc2,rc3,rc4,rc5,rc6,rc7,rc8]) rfl ?_
    exact⟨t9,_,q,rfl,by have:=HVC.out.2;omega,hE.out.move (.weaken fun b h _=>by have h1:=h.1;show w.heap.size≤b;omega),by omega,rd.out,fC.out⟩
   | succ j=>
    obtain⟨jj,hjj⟩ : ∃x:Int,((j+1:Nat):Int)=x:=⟨_,rfl⟩
    rw[hjj];have hjp:0<jj:=by omega
    have hj3:jj≤2:=by omega
    have HJJ:=zq hjj;clear hjj;have h0:decide (jj>0)=true:=decide_eq_true hjp;have hdec:wrap64 (jj-1)=jj-1:=by unfold wrap64;omega
    have h50:wrap64 (50+jj)=50+jj:=by unfold wrap64;omega
    have hng:wrap64 (-(50+jj)) = -(50+jj):=by unfold wrap64;omega
    replace hE:=zq (hE.out.move (.weaken (G:=(fun b=>(w.heap.size+1≤b∧b≠w2.heap.size∧b≠w2.heap.size+1)∧b<wr.heap.size)) fun b h hl=>⟨h,hl⟩));replace hT:=zq (hT.out.move (.weaken (G:=(fun b=>(w.heap.size+1≤b∧b≠w2.heap.size∧b≠w2.heap.size+1)∧b<wr.heap.size)) fun b h hl=>⟨h,hl⟩));obtain⟨y0,y1⟩:=blk2 fT;have yl:=aD fT
    go_wp2_with fail
    clear y0 y1 yl;refine(es r q s9 _ _ rd.out (hT.out.move (.weaken fun b h _=>by have h1:=h.1.1;intro z;omega)) HVC.out.1 (by omega)).mono ?_;rintro e w6 ⟨s3,v,q3,rfl,hvs3,hv,hq3,hrd,hb⟩;obtain⟨k3,a3,n3,q3_,rfl⟩:=hv.shape;have hU_':Hid (ap (fun b=>wr.heap.size≤b∧b≠w6.heap.size) w6 s3.ty (.agg #[.int .i64 k3,.slice a3 n3 q3_])):=zq (hv.move (.weaken fun b h1 h2=>⟨h1,by omega⟩));have HV3:=zq hvs3;clear hv hvs3;have zw6:=hb.size;(try simp only[World.size_alloc] at zw6);replace fR:=aB fR hb;replace fC:=zqc fC hb;replace hE:=zq (hE.out.move (kpN hb (fun b hb=>by have h1:=hb;omega)));replace hT:=zq (hT.out.move (kpN hb (fun b hb=>by have h1:=hb;omega)));replace fE:=aB fE hb;replace fT:=aB fT hb;replace rd:=zq hrd;clear hrd;clear hb;have hU_:=hU_';clear hU_'
    go_upto_region 8 with fail
    obtain⟨w7,hXq,hb,fU,zw7a,zw7b⟩:=aZ w6 (.cells #[.int .i64 k3,.slice a3 n3 q3_] 25);rw[hXq];replace fR:=ag fR hb;replace fC:=zqb fC hb;replace rd:=zq (rd.out.below hb);replace hE:=zq (hE.out.below hb);replace hT:=zq (hT.out.below hb);replace fE:=ag fE hb;replace fT:=ag fT hb;replace hU_:=zq (hU_.out.below hb);clear hb hXq
    go_wp2_with fail
    refine(bw r q3 2 _ rd.out (by omega) (by omega)).mono ?_;rintro e w8 ⟨jz,rfl,hjk0,hjk1,hrd,hb⟩;have zw8:=hb.size;(try simp only[World.size_alloc] at zw8);replace fR:=aB fR hb;replace fC:=zqc fC hb;replace hE:=zq (hE.out.move (kpN hb (fun b hb=>by have h1:=hb;omega)));replace hT:=zq (hT.out.move (kpN hb (fun b hb=>by have h1:=hb;omega)));replace fE:=aB fE hb;replace fT:=aB fT hb;replace hU_:=zq (hU_.out.move (kpN hb (fun b hb=>by have h1:=hb.1;omega)));replace fU:=aB fU hb;replace rd:=zq hrd;clear hrd;clear hb;clear hjk0 hjk1
    go_upto_if 30 with fail
    go_cut [] (fun wx=>∃(q4:Nat) (s4:S) (k4:Int) (a4:Option Addr) (n4 q4_:Nat),q4≤q3+201∧w8.heap.size≤wx.heap.size∧wx.heap[w.heap.size]?=some (.cells #[.int .i64 0,.string {data:=#[]},.int .i64 0,.int .i64 0,.slice none 0 0,.int .i64 0,.slice none 0 0,.int .i64 0,.slice none 0 0] 28 (0,0))∧wx.heap[w2.heap.size]?=some (.cells #[.int .i64 kt9,.string nm9,.int .i64 ut9,.int .i64 tk9,.slice ta9 tn9 tq9,.int .i64 fk9,.slice fa9 fn9 fq9,.int .i64 lt9,.slice ct9 mt9 qt9] 28 (0,0))∧wx.heap[w2.heap.size+1]?=some (.cells #[.int .i64 k8,.slice a8 n8 q8] 25 (0,0))∧Hid (Chg [r] w wx)∧Hid (aT wx r (q4))∧Hid (aA (fun b=>(w.heap.size+1≤b∧b≠w2.heap.size∧b≠w2.heap.size+1)∧b<wr.heap.size) wx t9 (.agg #[.int .i64 kt9,.string nm9,.int .i64 ut9,.int .i64 tk9,.slice ta9 tn9 tq9,.int .i64 fk9,.slice fa9 fn9 fq9,.int .i64 lt9,.slice ct9 mt9 qt9]))∧Hid (ap (fun b=>(w.heap.size+1≤b∧b≠w2.heap.size∧b≠w2.heap.size+1)∧b<wr.heap.size) wx s9.ty (.agg #[.int .i64 k8,.slice a8 n8 q8]))∧wx.heap[w6.heap.size]?=some (.cells #[.int .i64 k4,.slice a4 n4 q4_] 25 (0,0))∧Hid (ap (fun b=>wr.heap.size≤b∧b≠w6.heap.size) wx s4.ty (.agg #[.int .i64 k4,.slice a4 n4 q4_]))∧Hid (s4.vd=true))
    case first=>
     rcases Bool.eq_false_or_eq_true (jz==0) with hz0 | hz0
     ·go_wp2_with fail
      refine(sK r (q3+1) _ rd.out (by omega)).mono ?_;rintro e w9 ⟨t4,v,q4,rfl,hv4,hv,hq4,hrd,hb⟩;obtain⟨k4,a4,n4,q4_,rfl⟩:=hv.shape;obtain⟨s4,rfl,hs4⟩:=Ty.valid_S hv4;have h4':Hid (ap (fun b=>wr.heap.size≤b∧b≠w6.heap.size) w9 s4.ty (.agg #[.int .i64 k4,.slice a4 n4 q4_])):=zq (hv.move (.weaken fun b h1 h2=>by have h3:w8.heap.size≤b:=h1;exact⟨by omega,by omega⟩));clear hv hv4;clear hU_;have zw9:=hb.size;(try simp only[World.size_alloc] at zw9);replace fR:=aB fR hb;replace fC:=zqc fC hb;replace hE:=zq (hE.out.move (kpN hb (fun b hb=>by have h1:=hb;omega)));replace hT:=zq (hT.out.move (kpN hb (fun b hb=>by have h1:=hb;omega)));replace fE:=aB fE hb;replace fT:=aB fT hb;replace fU:=aB fU hb;replace rd:=zq hrd;clear hrd;clear hb;have hU_:=h4';clear h4';obtain⟨y0,y1⟩:=blk2 fU;have yf0:=ao fU 0;have yf1:=ao fU 1;have yl:=aD fU
      go_wp2_with fail
      clear y0 y1 yf0 yf1 yl;obtain⟨w10,hXq,hsq,fU_,zw10a,zw10b⟩:=bC fU (.int .i64 k4) (.slice a4 n4 q4_);rw[hXq];replace fR:=hsq.blk (by omega) fR;replace fC:=zq (hsq.chg fC.out (by omega));replace rd:=zq (hsq.rd rd.out (by omega));replace hE:=zq (hE.out.move (hsq.keeps (fun b hb=>by have h1:=hb;omega)));replace hT:=zq (hsq.rep (fun b hb=>by have h1:=hb;omega) hT.out);replace fE:=hsq.blk (by omega) fE;replace fT:=hsq.blk (by omega) fT;replace hU_:=zq (hsq.rep (fun b hb=>by have h1:=hb;omega) hU_.out);clear fU hsq hXq;have fU:=fU_;clear fU_;(try go_meet)
      exact⟨q4,s4,_,_,_,_,by omega,by omega,fR,fE,fT,fC,rd,hE,hT,fU,hU_,zq hs4⟩
     ·go_wp2_with fail
      (try go_meet)
      exact⟨q3+1,s3,_,_,_,_,by omega,by omega,fR,fE,fT,fC,rd,hE,hT,fU,hU_,HV3⟩
    case rest=>
     clear fR fE fT fC rd hE hT fU hU_ HV3;obtain⟨q4,s4,k4,a4,n4,q4_,hq4,hszc,fR,fE,fT,fC,rd,hE,hT,fU,hU_,HV4⟩:=hcut;obtain⟨wd,hwd⟩ : ∃x,wc=x:=⟨_,rfl⟩
     clear hwd wd;obtain⟨cv,hcv⟩ : ∃cv,s9.cons s4=cv:=⟨_,rfl⟩
     have HCC:=zq (hcv▸ce _ _ s9 s4 _ _ wc hT.out hU_.out HVC.out.1 HV4.out);clear hcv;obtain⟨y0,y1⟩:=blk2 fT;have yl:=aD fT;obtain⟨x0,x1⟩:=blk2 fU;have xl:=aD fU
     go_wp2_with fail
     refine HCC.out.mono ?_;rintro e w11 ⟨rfl,hb⟩;clear HCC y0 y1 yl x0 x1 xl;have zw11:=hb.size;(try simp only[World.size_alloc] at zw11);replace fR:=ag fR hb;replace fC:=zqb fC hb;replace rd:=zq (rd.out.below hb);replace hE:=zq (hE.out.below hb);replace hT:=zq (hT.out.below hb);replace fE:=ag fE hb;replace fT:=ag fT hb;replace hU_:=zq (hU_.out.below hb);replace fU:=ag fU hb;clear hb
     cases cv with
     | false=>
      go_wp2_with fail
      go_roundw
      case rel=>exact⟨j,q4,t9,s9,_,_,_,_,_,_,_,_,_,_,_,_,_,_,_,_,_,_,_,by omega,by rw[show jj-1=(j:Int) by have:=HJJ.out;omega],by omega,by omega,zq fR,zq fE,zq fT,fC,rd,zq (hE.out.move (.weaken fun b h _=>h.1)),zq (hT.out.move (.weaken fun b h _=>h.1)),zq ⟨HVC.out.1,by have:=HVC.out.2;omega⟩⟩
      case measure=>simp[intOf];omega
     | true=>
      go_wp2_with fail
      refine(bw r q4 3 _ rd.out (by omega) (by omega)).mono ?_;rintro e w12 ⟨jy,rfl,hjk0,hjk1,hrd,hb⟩;have zw12:=hb.size;(try simp only[World.size_alloc] at zw12);replace fR:=aB fR hb;replace fC:=zqc fC hb;replace hE:=zq (hE.out.move (kpN hb (fun b hb=>by have h1:=hb;omega)));replace hT:=zq (hT.out.move (kpN hb (fun b hb=>by have h1:=hb;omega)));replace fE:=aB fE hb;replace fT:=aB fT hb;replace hU_:=zq (hU_.out.move (kpN hb (fun b hb=>by have h1:=hb.1;omega)));replace fU:=aB fU hb;replace rd:=zq hrd;clear hrd;clear hb;clear hjk0 hjk1
      go_upto_if 40 with fail
      go_cut [8] (fun s8 wx=>∃l8:Int,s8 = .int .i64 l8 ∧ -100≤l8∧l8≤100∧w12.heap.size≤wx.heap.size∧wx.heap[w.heap.size]?=some (.cells #[.int .i64 0,.string {data:=#[]},.int .i64 0,.int .i64 0,.slice none 0 0,.int .i64 0,.slice none 0 0,.int .i64 0,.slice none 0 0] 28 (0,0))∧wx.heap[w2.heap.size]?=some (.cells #[.int .i64 kt9,.string nm9,.int .i64 ut9,.int .i64 tk9,.slice ta9 tn9 tq9,.int .i64 fk9,.slice fa9 fn9 fq9,.int .i64 lt9,.slice ct9 mt9 qt9] 28 (0,0))∧wx.heap[w2.heap.size+1]?=some (.cells #[.int .i64 k8,.slice a8 n8 q8] 25 (0,0))∧Hid (Chg [r] w wx)∧Hid (aT wx r (q4+1))∧Hid (aA (fun b=>(w.heap.size+1≤b∧b≠w2.heap.size∧b≠w2.heap.size+1)∧b<wr.heap.size) wx t9 (.agg #[.int .i64 kt9,.string nm9,.int .i64 ut9,.int .i64 tk9,.slice ta9 tn9 tq9,.int .i64 fk9,.slice fa9 fn9 fq9,.int .i64 lt9,.slice ct9 mt9 qt9]))∧Hid (ap (fun b=>(w.heap.size+1≤b∧b≠w2.heap.size∧b≠w2.heap.size+1)∧b<wr.heap.size) wx s9.ty (.agg #[.int .i64 k8,.slice a8 n8 q8]))∧wx.heap[w6.heap.size]?=some (.cells #[.int .i64 k4,.slice a4 n4 q4_] 25 (0,0))∧Hid (ap (fun b=>wr.heap.size≤b∧b≠w6.heap.size) wx s4.ty (.agg #[.int .i64 k4,.slice a4 n4 q4_])))
      case first=>
       rcases Bool.eq_false_or_eq_true (jy==0) with hy0 | hy0
       ·go_wp2_with fail
        (try go_meet)
        exact⟨_,rfl,by omega,by omega,by omega,fR,fE,fT,fC,rd,hE,hT,fU,hU_⟩
       ·go_wp2_with fail
        (try go_meet)
        exact⟨_,rfl,by omega,by omega,by omega,fR,fE,fT,fC,rd,hE,hT,fU,hU_⟩
      case rest=>
       clear fR fE fT fC rd hE hT fU hU_;obtain⟨l8,rfl,hl8a,hl8b,hszd,fR,fE,fT,fC,rd,hE,hT,fU,hU_⟩:=hcut;obtain⟨y0,y1,y2,y3,y4,y5,y6,y7,y8⟩:=blk9 fE;have yl:=aD fE;obtain⟨x0,x1⟩:=blk2 fT;have xl:=aD fT;obtain⟨v0,v1⟩:=blk2 fU;have vl:=aD fU
       go_wp2_with fail
       clear y0 y1 y2 y3 y4 y5 y6 y7 y8 yl x0 x1 xl v0 v1 vl;refine(lk _ _ _ t9 s9.ty s4.ty l8 _ _ _ _ hE.out hT.out hU_.out (cl HVC.out.1) (cl HV4.out) (by omega) (by omega)).mono ?_;rintro e w13 ⟨t6,v,lb6,rfl,hc6,-,-,hv,hb⟩;obtain⟨kt6,nm6,ut6,tk6,ta6,tn6,tq6,fk6,fa6,fn6,fq6,lt6,ct6,mt6,qt6,rfl⟩:=hv.shape;have h6':Hid (aA (fun b=>w.heap.size+1≤b∧b≠w2.heap.size∧b≠w2.heap.size+1) w13 t6 (.agg #[.int .i64 kt6,.string nm6,.int .i64 ut6,.int .i64 tk6,.slice ta6 tn6 tq6,.int .i64 fk6,.slice fa6 fn6 fq6,.int .i64 lt6,.slice ct6 mt6 qt6])):=zq (hv.move (.weaken fun b h1 h2=>by rcases h1 with h1 | h1;exact h1.1;exact⟨by omega,by omega,by omega⟩));have HC6:=zq hc6;clear hv hc6 hE hT;have zw13:=hb.size;(try simp only[World.size_alloc] at zw13);replace fR:=ag fR hb;replace fC:=zqb fC hb;replace rd:=zq (rd.out.below hb);replace fE:=ag fE hb;replace fT:=ag fT hb;replace hU_:=zq (hU_.out.below hb);replace fU:=ag fU hb;clear hb;have h6_:=h6';clear h6';obtain⟨y0,y1,y2,y3,y4,y5,y6,y7,y8⟩:=blk9 fE;have yf0:=ao fE 0;have yf1:=ao fE 1;have yf2:=ao fE 2;have yf3:=ao fE 3;have yf4:=ao fE 4;have yf5:=ao fE 5;have yf6:=ao fE 6;have yf7:=ao fE 7;have yf8:=ao fE 8;have yl:=aD fE
       go_upto_region 15 with fail
       clear y0 y1 y2 y3 y4 y5 y6 y7 y8 yf0 yf1 yf2 yf3 yf4 yf5 yf6 yf7 yf8 yl;obtain⟨w14,hXq,hsq,fE_,zw14a,zw14b⟩:=bQ fE (.int .i64 kt6) (.string nm6) (.int .i64 ut6) (.int .i64 tk6) (.slice ta6 tn6 tq6) (.int .i64 fk6) (.slice fa6 fn6 fq6) (.int .i64 lt6) (.slice ct6 mt6 qt6);rw[hXq];replace fR:=hsq.blk (by omega) fR;replace fC:=zq (hsq.chg fC.out (by omega));replace rd:=zq (hsq.rd rd.out (by omega));replace fT:=hsq.blk (by omega) fT;replace hU_:=zq (hsq.rep (fun b hb=>by have h1:=hb;omega) hU_.out);replace fU:=hsq.blk (by omega) fU;replace h6_:=zq (h6_.out.move (hsq.keeps (fun b hb=>by have h1:=hb;omega)));clear fE hsq hXq;have fE:=fE_;clear fE_;obtain⟨y0,y1⟩:=blk2 fT;have yf0:=ao fT 0;have yf1:=ao fT 1;have yl:=aD fT;obtain⟨v0,v1⟩:=blk2 fU;have vl:=aD fU
       go_wp2_with fail
       clear y0 y1 yf0 yf1 yl v0 v1 vl;obtain⟨w15,hXq,hsq,fT_,zw15a,zw15b⟩:=bC fT (.int .i64 k4) (.slice a4 n4 q4_);rw[hXq];replace fR:=hsq.blk (by omega) fR;replace fC:=zq (hsq.chg fC.out (by omega));replace rd:=zq (hsq.rd rd.out (by omega));replace fE:=hsq.blk (by omega) fE;replace hU_:=zq (hU_.out.move (hsq.keeps (fun b hb=>by have h1:=hb;omega)));replace fU:=hsq.blk (by omega) fU;replace h6_:=zq (h6_.out.move (hsq.keeps (fun b hb=>by have h1:=hb;omega)));clear fT hsq hXq;have fT:=fT_;clear fT_
       go_roundw
       case rel=>exact⟨j,q4+1,t6,s4,_,_,_,_,_,_,_,_,_,_,_,_,_,_,_,_,_,_,_,by omega,by rw[show jj-1=(j:Int) by have:=HJJ.out;omega],by omega,by omega,zq fR,zq fE,zq fT,fC,rd,h6_,zq (hU_.out.move (.weaken fun b h _=>by have h1:=h.1;exact⟨by omega,by omega,by omega⟩)),zq ⟨HV4.out,by have:=HVC.out.2;have:=HC6.out;omega⟩⟩
       case measure=>simp[intOf];omega
def DrC (w:World)(e:Ending)(w':World):Prop:=∃(t:Tm) (v:Value),e = .returned v∧t.cnt≤100000∧aA (w.heap.size ≤ ·) w' t v∧Below w.heap.size w w'
theorem jY (y:Value)(w:World)(r0:cz w w.heap.size y):Calls Tryz.prog 11 #[y] w (DrC w):=by
 obtain⟨a0,n0,q0,rfl⟩:=r0.shape
 go_enter Tryz.func11,Tryz.ntmps11
 go_wp2_with fail
 refine(uj _ _ _ (r0.below aj) (by simp)).mono ?_;rintro e w1 ⟨r,rfl,hro,hrd1,hb⟩;have hrl:=hrd1.1;simp only[World.size_alloc] at hro;have z1:=hb.size;simp only[World.size_alloc] at z1;have fR:w1.heap[w.heap.size]?=some (.cells #[.int .i64 0,.string {data:=#[]},.int .i64 0,.int .i64 0,.slice none 0 0,.int .i64 0,.slice none 0 0,.int .i64 0,.slice none 0 0] 28 (0,0)):=ag (aF rfl) hb;have fB:Hid (Below w.heap.size w w1):=zq (al aj hb);clear hb r0
 go_wp2_with fail
 refine(bw r 0 2 _ hrd1 (by omega) (by omega)).mono ?_;rintro e wp ⟨jk,rfl,hjk0,hjk1,hrdp,hb⟩;have zp:=hb.size;replace fR:=aB fR hb;replace fB:=zq (bchg fB.out hb (by omega) (Nat.le_refl _));clear hb hjk0 hjk1 hrd1
 rcases Bool.eq_false_or_eq_true (jk==0) with hj0 | hj0
 ·go_wp2_with fail
  refine(jS r (0+1) _ hrdp (by omega)).mono ?_;rintro e w2 ⟨t2,v,q2,rfl,hc2,hv,hq2,hrd2,hb⟩;obtain⟨kt2,nm2,ut2,tk2,ta2,tn2,tq2,fk2,fa2,fn2,fq2,lt2,ct2,mt2,qt2,rfl⟩:=hv.shape;have zw2:=hb.size;have h2_:Hid (aA (w1.heap.size ≤ ·) w2 t2 (.agg #[.int .i64 kt2,.string nm2,.int .i64 ut2,.int .i64 tk2,.slice ta2 tn2 tq2,.int .i64 fk2,.slice fa2 fn2 fq2,.int .i64 lt2,.slice ct2 mt2 qt2])):=zq (hv.lower (by omega));clear hv;replace fR:=aB fR hb;replace fB:=zq (bchg fB.out hb (by omega) (Nat.le_refl _));clear hb
  go_wp2_with fail
  refine(iV r q2 5120 t2 _ _ hrd2 (h2_.out.ne (by omega)) hc2 (by omega) (by omega)).mono ?_;rintro e w3 ⟨t3,v,q3,rfl,hc3,hv,hq3,hrd3,hb⟩;obtain⟨kt3,nm3,ut3,tk3,ta3,tn3,tq3,fk3,fa3,fn3,fq3,lt3,ct3,mt3,qt3,rfl⟩:=hv.shape;have zw3:=hb.size;have h3_:Hid (aA (w1.heap.size ≤ ·) w3 t3 (.agg #[.int .i64 kt3,.string nm3,.int .i64 ut3,.int .i64 tk3,.slice ta3 tn3 tq3,.int .i64 fk3,.slice fa3 fn3 fq3,.int .i64 lt3,.slice ct3 mt3 qt3])):=zq (hv.lower (by omega));clear hv;replace fR:=aB fR hb;replace fB:=zq (bchg fB.out hb (by omega) (Nat.le_refl _));clear hb;replace h3_:=zq (h3_.out.move (.weaken (G:=(fun b=>w.heap.size+1≤b)) fun b h _=>by have h1:w1.heap.size≤b:=h;omega));obtain⟨x0,x1,x2,x3,x4,x5,x6,x7,x8⟩:=blk9 fR;have xf0:=ao fR 0;have xf1:=ao fR 1;have xf2:=ao fR 2;have xf3:=ao fR 3;have xf4:=ao fR 4;have xf5:=ao fR 5;have xf6:=ao fR 6;have xf7:=ao fR 7;have xf8:=ao fR 8;have xl:=aD fR
  go_wp2_with fail
  clear x0 x1 x2 x3 x4 x5 x6 x7 x8 xf0 xf1 xf2 xf3 xf4 xf5 xf6 xf7 xf8 xl;obtain⟨wz,hXq,hsq,fR_,zwza,zwzb⟩:=bQ fR (.int .i64 kt3) (.string nm3) (.int .i64 ut3) (.int .i64 tk3) (.slice ta3 tn3 tq3) (.int .i64 fk3) (.slice fa3 fn3 fq3) (.int .i64 lt3) (.slice ct3 mt3 qt3);rw[hXq];replace fB:=zq (hsq.bel fB.out (by omega));replace h3_:=zq (h3_.out.move (hsq.keeps (fun b hb=>by have h1:w.heap.size+1≤b:=hb;omega)));clear fR hsq hXq;have fR:=fR_;clear fR_;obtain⟨rc0,rc1,rc2,rc3,rc4,rc5,rc6,rc7,rc8⟩:=blk9 fR;refine bodyPost_ret (v:=.agg #[.int .i64 kt3,.string nm3,.int .i64 ut3,.int .i64 tk3,.slice ta3 tn3 tq3,.int .i64 fk3,.slice fa3 fn3 fq3,.int .i64 lt3,.slice ct3 mt3 qt3]) (by simp[results,Tryz.results11,go_sem,rc0,rc1,rc2,rc3,rc4,rc5,rc6,rc7,rc8]) rfl ?_
  exact⟨t3,_,rfl,by omega,h3_.out.move (.weaken fun b h _=>by have h1:w.heap.size+1≤b:=h;show w.heap.size≤b;omega),fB.out⟩
 ·go_wp2_with fail
  refine(rJ r (0+1) _ hrdp (by omega)).mono ?_;rintro e w2 ⟨t2,v,q2,rfl,hc2,hv,hq2,hrd2,hb⟩;obtain⟨kt2,nm2,ut2,tk2,ta2,tn2,tq2,fk2,fa2,fn2,fq2,lt2,ct2,mt2,qt2,rfl⟩:=hv.shape;have zw2:=hb.size;have h2_:Hid (aA (w1.heap.size ≤ ·) w2 t2 (.agg #[.int .i64 kt2,.string nm2,.int .i64 ut2,.int .i64 tk2,.slice ta2 tn2 tq2,.int .i64 fk2,.slice fa2 fn2 fq2,.int .i64 lt2,.slice ct2 mt2 qt2])):=zq (hv.lower (by omega));clear hv;replace fR:=aB fR hb;replace fB:=zq (bchg fB.out hb (by omega) (Nat.le_refl _));clear hb
  go_wp2_with fail
  refine(rH r q2 7000 t2 _ _ hrd2 (h2_.out.ne (by omega)) hc2 (by omega) (by omega)).mono ?_;rintro e w3 ⟨t3,v,q3,rfl,hc3,hv,hq3,hrd3,hb⟩;obtain⟨kt3,nm3,ut3,tk3,ta3,tn3,tq3,fk3,fa3,fn3,fq3,lt3,ct3,mt3,qt3,rfl⟩:=hv.shape;have zw3:=hb.size;have h3_:Hid (aA (w1.heap.size ≤ ·) w3 t3 (.agg #[.int .i64 kt3,.string nm3,.int .i64 ut3,.int .i64 tk3,.slice ta3 tn3 tq3,.int .i64 fk3,.slice fa3 fn3 fq3,.int .i64 lt3,.slice ct3 mt3 qt3])):=zq (hv.lower (by omega));clear hv;replace fR:=aB fR hb;replace fB:=zq (bchg fB.out hb (by omega) (Nat.le_refl _));clear hb;replace h3_:=zq (h3_.out.move (.weaken (G:=(fun b=>w.heap.size+1≤b)) fun b h _=>by have h1:w1.heap.size≤b:=h;omega));obtain⟨x0,x1,x2,x3,x4,x5,x6,x7,x8⟩:=blk9 fR;have xf0:=ao fR 0;have xf1:=ao fR 1;have xf2:=ao fR 2;have xf3:=ao fR 3;have xf4:=ao fR 4;have xf5:=ao fR 5;have xf6:=ao fR 6;have xf7:=ao fR 7;have xf8:=ao fR 8;have xl:=aD fR
  go_wp2_with fail
  clear x0 x1 x2 x3 x4 x5 x6 x7 x8 xf0 xf1 xf2 xf3 xf4 xf5 xf6 xf7 xf8 xl;obtain⟨wz,hXq,hsq,fR_,zwza,zwzb⟩:=bQ fR (.int .i64 kt3) (.string nm3) (.int .i64 ut3) (.int .i64 tk3) (.slice ta3 tn3 tq3) (.int .i64 fk3) (.slice fa3 fn3 fq3) (.int .i64 lt3) (.slice ct3 mt3 qt3);rw[hXq];replace fB:=zq (hsq.bel fB.out (by omega));replace h3_:=zq (h3_.out.move (hsq.keeps (fun b hb=>by have h1:w.heap.size+1≤b:=hb;omega)));clear fR hsq hXq;have fR:=fR_;clear fR_;obtain⟨rc0,rc1,rc2,rc3,rc4,rc5,rc6,rc7,rc8⟩:=blk9 fR;refine bodyPost_ret (v:=.agg #[.int .i64 kt3,.string nm3,.int .i64 ut3,.int .i64 tk3,.slice ta3 tn3 tq3,.int .i64 fk3,.slice fa3 fn3 fq3,.int .i64 lt3,.slice ct3 mt3 qt3]) (by simp[results,Tryz.results11,go_sem,rc0,rc1,rc2,rc3,rc4,rc5,rc6,rc7,rc8]) rfl ?_
  exact⟨t3,_,rfl,by omega,h3_.out.move (.weaken fun b h _=>by have h1:w.heap.size+1≤b:=h;show w.heap.size≤b;omega),fB.out⟩
end Go.Proofs.YtfahhonmiimmdaaGreat
