/- spec.l3Make: way 0 of a deep term. And what else its parts name. -/
import Derived.Test.YtfahhonmiimmdaaGreatB39
set_option linter.unusedSimpArgs false
set_option linter.unusedVariables false
set_option maxRecDepth 100000
set_option maxHeartbeats 16000000
namespace Go.Proofs.YtfahhonmiimmdaaGreat
open Go.RowKit
def qB:Oper:=⟨some 54,.load 25 (.tmp 6),25,"l3_typing.go:199",#[],none⟩
def qC:Oper:=⟨some 55,.call {callee:=.value (.func 81),args:=#[.tmp 54],argTypes:=#[25]},25,"l3_typing.go:199",#[⟨0,.data⟩],none⟩
def qD:Oper:=⟨some 56,.move (.tmp 0),46,"l3_typing.go:199",#[],none⟩
def qE:Oper:=⟨some 57,.move (.tmp 1),96,"l3_typing.go:199",#[],none⟩
def qF:Oper:=⟨some 58,.move (.tmp 0),46,"l3_typing.go:199",#[],none⟩
def qG:Oper:=⟨some 59,.load 25 (.tmp 6),25,"l3_typing.go:199",#[],none⟩
def qH:Oper:=⟨some 60,.call {callee:=.value (.func 57),args:=#[.tmp 58,.tmp 59],argTypes:=#[46,25]},25,"l3_typing.go:199",#[⟨4,.data⟩,⟨5,.data⟩,⟨1,.chain⟩],none⟩
def qI:Oper:=⟨some 61,.move (.tmp 3),3,"l3_typing.go:199",#[],none⟩
def qJ:Oper:=⟨some 62,.binOp .sub 3 (.tmp 61) (.const (.int .i64 1)) 3,3,"l3_typing.go:199",#[⟨7,.data⟩],none⟩
def qK:Oper:=⟨some 63,.call {callee:=.value (.func 51),args:=#[.tmp 56,.tmp 57,.tmp 60,.tmp 62],argTypes:=#[46,96,25,3]},28,"l3_typing.go:199",#[⟨2,.data⟩,⟨3,.data⟩,⟨6,.data⟩,⟨8,.data⟩,⟨6,.chain⟩],none⟩
def mK:Oper:=⟨some 64,.buildSlice 26 1 #[(0,.tmp 63)],26,"l3_typing.go:199",#[⟨9,.data⟩],none⟩
def mL:Oper:=⟨some 65,.build 28 #[(0,.const (.int .i64 13)),(3,.tmp 55),(6,.tmp 64)],28,"l3_typing.go:199",#[⟨1,.data⟩,⟨10,.data⟩],none⟩
def mM:Oper:=⟨none,.store 28 (.tmp 8) (.tmp 65),0,"l3_typing.go:199",#[⟨11,.data⟩,⟨9,.chain⟩,⟨0,.phase⟩,⟨1,.phase⟩,⟨2,.phase⟩,⟨3,.phase⟩,⟨4,.phase⟩,⟨5,.phase⟩,⟨6,.phase⟩,⟨7,.phase⟩,⟨8,.phase⟩,⟨9,.phase⟩,⟨10,.phase⟩,⟨11,.phase⟩],none⟩
theorem mkW0 (dd:Int)(s:S)(r p:Nat)(l:List Bd)(w:World)(kt:Int)(ta:Option Addr)(tn tq:Nat)(xa:Option Addr)(xn xq:Nat):(dV dd s r p l w kt ta tn tq xa xn xq).1.1:=by
 intro _ _ _ _ _ _ _ _ HWK _ _ _ HNL HCV HOK HSV HIH _ _ _ MB _ _ _ _ _ _ _ _ _ _ _ _ _ _ _ _ _ _ _ _ _ _ _ _ _ _ _ _ _ _ _ _ _ _ _ _ _ _ _ _ _ _ _ h0 _ _ _ _ _ _ _ _ _ _ _ HD2 _ _ HUU _ _ _ _ _ _ w1 _ _ fT fR fC hX hT rd _ _ _;refine wp_region_noPanic ?_;refine wp_region_held_drew (S:=fun w'=>w'.cell? ⟨w.heap.size,0,none⟩=some (.int .i64 kt)∧w'.cell? ⟨w.heap.size,1,none⟩=some (.slice ta tn tq)) (by kernel_rfl) ?_ (fun hH0=>?_)
 ·exact⟨ag fT rfl,ag fT rfl⟩
 obtain⟨U1,hU,hb,zU1a,zU1b⟩:=bD w1;rw[hU] at hH0 ⊢;replace fT:=af fT hb;replace fR:=af fR hb;replace fC:=zqb fC hb;replace rd:=zq (rd.out.below hb);replace hX:=zq (hX.out.below hb);replace hT:=zq (hT.out.below hb);(try simp only[World.size_alloc] at zU1a zU1b);clear hU hb;refine hwt 0 qB (.agg #[.int .i64 kt,.slice ta tn tq]) hH0 ?_ ?_
 ·intro w' hSw;dsimp only[qB];go_simp
 try simp only[qB,hwA]
 refine hwt 2 qD (.pointer (some ⟨r,0,none⟩)) hH0 ?_ ?_
 ·intro w' hSw;dsimp only[qD];go_simp
 try simp only[qD,hwA]
 refine hwt 3 qE (.slice xa xn xq) hH0 ?_ ?_
 ·intro w' hSw;dsimp only[qE];go_simp
 try simp only[qE,hwA]
 refine hwt 4 qF (.pointer (some ⟨r,0,none⟩)) hH0 ?_ ?_
 ·intro w' hSw;dsimp only[qF];go_simp
 try simp only[qF,hwA]
 refine hwt 5 qG (.agg #[.int .i64 kt,.slice ta tn tq]) hH0 ?_ ?_
 ·intro w' hSw;dsimp only[qG];go_simp
 try simp only[qG,hwA]
 refine hwt 7 qI (.int .i64 dd) hH0 ?_ ?_
 ·intro w' hSw;dsimp only[qI];go_simp
 try simp only[qI,hwA]
 refine hwt 8 qJ (.int .i64 (dd-1)) hH0 ?_ ?_
 ·intro w' hSw;dsimp only[qJ];go_simp;exact HWK.out
 try simp only[qJ,hwA]
 refine hwr 1 qC (fun K hK=>?_)
 dsimp only[qC];go_simp
 go_at_call 81
 refine(be _ s.ty _ _ hT.out (S.cnt_ok HSV.out)).mono ?_;rintro e X1001 ⟨v,rfl,hv,hb⟩;obtain⟨kc,ac,nc,qc,rfl⟩:=hv.shape;have hN':=hv.rep.rg;clear hv
 go_wp2_with fail
 have zX1001:U1.heap.size≤X1001.heap.size:=hb.size;replace fT:=af fT hb;replace fR:=af fR hb;replace fC:=zqb fC hb;replace rd:=zq (rd.out.below hb);replace hX:=zq (hX.out.below hb);replace hT:=zq (hT.out.below hb);have hN:=hN';clear hN';refine hK.out _ _ ⟨ag fT rfl,ag fT rfl⟩ (fun hH1001=>?_);clear hK K hH0 hb
 try simp only[qC,hwA]
 refine hwr 6 qH (fun K hK=>?_)
 dsimp only[qH];go_simp
 go_at_call 57
 refine(eR r _ s _ _ rd.out (hT.out.move (.weaken fun b h _=>h.1)) HSV.out (by omega)).mono ?_;rintro e X1002 ⟨s2,v,qs,rfl,hvs2,hv,hqs,hrd,hb⟩;obtain⟨kb,ab,nb,qb,rfl⟩:=hv.shape;have hB_':=hv.rg;have rd':Hid (aQ X1002 r qs):=zq hrd;clear hv hrd
 go_wp2_with fail
 have zX1002:X1001.heap.size≤X1002.heap.size:=hb.size;replace fT:=aw fT hb;replace fR:=aw fR hb;replace fC:=zqc fC hb;replace hX:=zq (hX.out.move (kpN hb (fun b hb=>hb.1)));replace hT:=zq (hT.out.move (kpN hb (fun b hb=>hb.1)));replace hN:=zq (hN.out.move (kpN hb (fun b hb=>by have h1:=hb.1;have h2:=hb.2;omega)));have hB_:=hB_';clear hB_';clear rd;have rd:=rd';clear rd';refine hK.out _ _ ⟨ag fT rfl,ag fT rfl⟩ (fun hH1002=>?_);clear hK K hH1001 hb
 try simp only[qH,hwA]
 refine hwr 9 qK (fun K hK=>?_)
 dsimp only[qK];go_simp
 go_at_call 51
 refine(HIH.out (s2) l (cQ HD2.out HSV.out hvs2) hvs2 HOK.out (by omega) HNL.out _ _ _ _ rd.out (hX.out.move (.weaken fun b h _=>h.1)) HCV.out (hB_.out.move (.weaken fun b h _=>by have h1:=h.1;intro e;omega)) (by have h1:=bI HD2.out hvs2;have h0:=HUU.out;omega)).mono ?_;rintro e X1003 ⟨t2,v,q2,rfl,hcn2,hv,hq2,hrd,hb⟩;obtain⟨kt2,nm2,ut2,tk2,ta2,tn2,tq2,fk2,fa2,fn2,fq2,lt2,ct2,mt2,qt2,rfl⟩:=hv.shape;have HC2:=zq hcn2;clear hcn2;have h2_':=hv.rg;have rd':Hid (aQ X1003 r q2):=zq hrd;clear hv hrd
 go_wp2_with fail
 have zX1003:X1002.heap.size≤X1003.heap.size:=hb.size;replace fT:=aw fT hb;replace fR:=aw fR hb;replace fC:=zqc fC hb;replace hX:=zq (hX.out.move (kpN hb (fun b hb=>hb.1)));replace hT:=zq (hT.out.move (kpN hb (fun b hb=>hb.1)));replace hN:=zq (hN.out.move (kpN hb (fun b hb=>by have h1:=hb.1;have h2:=hb.2;omega)));replace hB_:=zq (hB_.out.move (kpN hb (fun b hb=>by have h1:=hb.1;have h2:=hb.2;omega)));have h2_:=h2_';clear h2_';clear rd;have rd:=rd';clear rd';refine hK.out _ _ ⟨ag fT rfl,ag fT rfl⟩ (fun hH1003=>?_);clear hK K hH1002 hb
 try simp only[qK,hwA]
 refine hwr 10 mK (fun K hK=>?_)
 dsimp only[mK];go_simp
 (try go_wp2_with fail);obtain⟨X1004,hXq,hb,fL,zX1004a,zX1004b⟩:=aU X1003 (.cells #[.int .i64 kt2,.string nm2,.int .i64 ut2,.int .i64 tk2,.slice ta2 tn2 tq2,.int .i64 fk2,.slice fa2 fn2 fq2,.int .i64 lt2,.slice ct2 mt2 qt2] 28);rw[hXq];replace fT:=af fT hb;replace fR:=af fR hb;replace fC:=zqb fC hb;replace rd:=zq (rd.out.below hb);replace hX:=zq (hX.out.below hb);replace hT:=zq (hT.out.below hb);replace hN:=zq (hN.out.below hb);replace hB_:=zq (hB_.out.below hb);replace h2_:=zq (h2_.out.below hb);refine hK.out _ _ ⟨ag fT rfl,ag fT rfl⟩ (fun hH1004=>?_);clear hK K hH1003 hb hXq
 try simp only[mK,hwA]
 refine hwt 11 mL (.agg #[.int .i64 13,.string {data:=#[]},.int .i64 0,.int .i64 kc,.slice ac nc qc,.int .i64 0,.slice none 0 0,.int .i64 0,.slice (some ⟨X1003.heap.size,0,none⟩) 1 1]) hH1004 ?_ ?_
 ·intro w' hSw;dsimp only[mL];go_simp
 try simp only[mL,hwA]
 refine hwr 12 mM (fun K hK=>?_);obtain⟨r0,rf0,r1,rf1,r2,rf2,r3,rf3,r4,rf4,r5,rf5,r6,rf6,r7,rf7,r8,rf8⟩:=blk9f fR
 dsimp only[mM];go_simp
 (try go_wp2_with fail);have hQq:=bL fR (.int .i64 13) (.string {data:=#[]}) (.int .i64 0) (.int .i64 kc) (.slice ac nc qc) (.int .i64 0) (.slice none 0 0) (.int .i64 0) (.slice (some ⟨X1003.heap.size,0,none⟩) 1 1);clear fR r0 rf0 r1 rf1 r2 rf2 r3 rf3 r4 rf4 r5 rf5 r6 rf6 r7 rf7 r8 rf8;obtain⟨X1005,hXq,hsq,fR,zX1005a,zX1005b⟩:=hQq;rw[hXq];replace fT:=hsq.blk (by omega) fT;replace fC:=zq (hsq.chg fC.out (by omega));replace rd:=zq (hsq.rd rd.out (by omega));replace hX:=zq (hX.out.move (hsq.keeps (fun b hb=>by have:=hb.2;omega)));replace hT:=zq (hsq.rep (fun b hb=>by have:=hb.2;omega) hT.out);replace hN:=zq (hsq.rep (fun b hb=>by have h1:=hb.1;have h2:=hb.2;omega) hN.out);replace hB_:=zq (hsq.rep (fun b hb=>by have h1:=hb.1;have h2:=hb.2;omega) hB_.out);replace h2_:=zq (h2_.out.move (hsq.keeps (fun b hb=>by have h1:=hb.1;have h2:=hb.2;omega)));replace fL:=hsq.blk (by omega) fL;refine hK.out _ _ ⟨ag fT rfl,ag fT rfl⟩ (fun hH1005=>?_);clear hK K hH1004 hsq hXq
 try simp only[mM,hwA]
 refine wpAnyH_done (by kernel_rfl) ?_ _;refine NoPanic.normal ?_;clear hH1005;obtain⟨rc0,rc1,rc2,rc3,rc4,rc5,rc6,rc7,rc8⟩:=blk9 fR
 go_wp2_with fail
 refine bodyPost_ret (v:=.agg #[.int .i64 13,.string {data:=#[]},.int .i64 0,.int .i64 kc,.slice ac nc qc,.int .i64 0,.slice none 0 0,.int .i64 0,.slice (some ⟨X1003.heap.size,0,none⟩) 1 1]) (by simp[results,Tryz.results51,go_sem,rc0,rc1,rc2,rc3,rc4,rc5,rc6,rc7,rc8]) rfl ?_;have hlo:=bI HD2.out hvs2;have hU2:=HUU.out;have hks:aN (w.heap.size ≤ ·) X1005 [t2] (.slice (some ⟨X1003.heap.size,0,none⟩) 1 1):=aN.blk (by show w.heap.size≤_;omega) fL rfl (by unfold maxLen;omega) (aS.c1 (h2_.out.move (.weaken fun b h _=>by have h1:=h.1;show w.heap.size≤b;omega)).srep);have hcc:(Tm.mk 13 {data:=#[]} 0 s.ty (.mk 0 []) 0 [t2]).cnt≤MB:=by
  have h1:=HC2.out;have h3:=zq (i7 HSV.out);have h4:=h3.out;rw[←S.ty_cnt] at h4;(try simp only[Tm.cnt,Tm.cnts,Ty.cnt,Ty.cnts,List.length_cons,List.length_nil,show({data:=#[]}:ByteArray).size=0 from rfl])
  omega
 exact⟨Tm.mk 13 {data:=#[]} 0 s.ty (.mk 0 []) 0 [t2],_,q2,rfl,hcc,ax.mk bi (hN.out.move (.weaken fun b h _=>by have h1:=h.1;show w.heap.size≤b;omega)) ⟨_,rfl,aA.nil0⟩ hks,by omega,rd.out,fC.out⟩
theorem mkWany (dd:Int)(r p:Nat)(l:List Bd)(w:World)(kt:Int)(ta:Option Addr)(tn tq:Nat)(xa:Option Addr)(xn xq:Nat):(dV dd S.any r p l w kt ta tn tq xa xn xq).1.2.2.2.2:=by
 intro _ _ _ _ _ _ _ _ _ _ _ _ HNL HCV HOK HSV HIH _ HKT _ MB _ _ HMB _ _ _ _ _ _ _ _ _ _ _ _ _ _ _ _ _ _ _ _ _ _ _ _ _ _ _ _ _ _ _ _ _ _ _ _ _ _ _ _ _ _ _ _ _ _ _ _ _ _ _ _ _ _ _ _ _ _ _ _ _ _ _ _ _ _ _ _ _ _ _ _ _ _ _ _ _ _ _ _ _ _ _ _ _ _ _ _ _ _ _ _ _ _ _ _ _ _ _ _ _ _ _ _ _ _ _ _ _ _ _ _ _ _ _ _ _ _ _ _ _ _ _ _ _ _ _ _ _ _ _ _ _ _ _ _ _ _ _ _ _ _ _ _ _ _ _ _ _ _ _ _ _ _ _ _ _ _ _ _ _ _ _ _ _ _ _ _ _ _ _ _ _ _ _ _ _ _ _ _ _ _ _ _ _ _ _ _ _ _ _ _ _ _ _ _ _ _ _ _ _ _ _ _ _ _ _ _ _ _ _ _ _ _ _ _ _ _ _ _ _ _ _ _ _ _ _ _ _ _ _ _ _ _ _ _ _ _ _ _ _ _ _ _ _ _ _ _ _ _ _ _ _ _ _ _ _ _ _ _ _ q _ _ fC rd fT fR hX hT;obtain rfl:kt=1:=HKT.out;obtain⟨y0,y1⟩:=blk2 fT;have lyT:=aC fT
 by_cases hd1:1<dd
 ·have hdb:decide (dd>1)=true:=by simpa using hd1
  have HD2:=zq (show 2≤dd by omega);have hU4:MB=4*mkU dd:=HMB.out.symm.trans (ft _ (by omega));have hU0:=fd dd;obtain⟨U,hU⟩ : ∃U,mkU dd=U:=⟨_,rfl⟩
  rw[hU] at hU4 hU0;have HUU:=zq hU;have hMB1:4*U≤MB:=by omega
  have hMB2:MB≤4*U:=by omega
  clear hU hU4;have HLB:=zq (bI (s:=S.bool) HD2.out rfl);have HLI:=zq (bI (s:=S.int) HD2.out rfl);have HLS:=zq (bI HD2.out HSV.out)
  go_wp2_with fail
  refine(bo r (q) 3 _ rd.out (by omega) (by omega)).mono ?_;rintro e m1 ⟨jx,rfl,hjk0,hjk1,hrd,hb⟩;have zm1:=hb.size;(try simp only[World.size_alloc] at zm1);replace fT:=aw fT hb;replace fR:=aw fR hb;replace fC:=zqc fC hb;replace hX:=zq (hX.out.move (kpN hb (fun b hb=>hb.1)));replace hT:=zq (hT.out.move (kpN hb (fun b hb=>hb.1)));replace rd:=zq hrd;clear hrd;clear hb;clear hjk0 hjk1
  rcases Bool.eq_false_or_eq_true (jx==0) with hx0 | hx0
  ·go_wp2_with fail
   refine(jE 2 r _ _ (by omega) (by omega) rd.out (by omega)).mono ?_;rintro e m2 ⟨s2,v,qs,rfl,hvs2,hv,hqs,hrd,hb⟩;obtain⟨kb,ab,nb,qb,rfl⟩:=hv.shape;have hB_':=hv.rg;clear hv;have zm2:=hb.size;(try simp only[World.size_alloc] at zm2);replace fT:=aw fT hb;replace fR:=aw fR hb;replace fC:=zqc fC hb;replace hX:=zq (hX.out.move (kpN hb (fun b hb=>hb.1)));replace hT:=zq (hT.out.move (kpN hb (fun b hb=>hb.1)));replace rd:=zq hrd;clear hrd;clear hb;have hB_:=hB_';clear hB_'
   go_wp2_with fail
   refine(HIH.out (s2) l (cQ HD2.out HSV.out hvs2) hvs2 HOK.out (by omega) HNL.out _ _ _ _ rd.out (hX.out.move (.weaken fun b h _=>h.1)) HCV.out (hB_.out.move (.weaken fun b h _=>by have h1:=h.1;intro e;omega)) (by have h1:=bI HD2.out hvs2;have h0:=HUU.out;omega)).mono ?_;rintro e m3 ⟨t2,v,q2,rfl,hcn2,hv,hq2,hrd,hb⟩;obtain⟨kt2,nm2,ut2,tk2,ta2,tn2,tq2,fk2,fa2,fn2,fq2,lt2,ct2,mt2,qt2,rfl⟩:=hv.shape;have HC2:=zq hcn2;have h2_':=hv.rg;clear hv hcn2;have zm3:=hb.size;(try simp only[World.size_alloc] at zm3);replace fT:=aw fT hb;replace fR:=aw fR hb;replace fC:=zqc fC hb;replace hX:=zq (hX.out.move (kpN hb (fun b hb=>hb.1)));replace hT:=zq (hT.out.move (kpN hb (fun b hb=>hb.1)));replace hB_:=zq (hB_.out.move (kpN hb (fun b hb=>by have h1:=hb.1;have h2:=hb.2;omega)));replace rd:=zq hrd;clear hrd;clear hb;have h2_:=h2_';clear h2_';obtain⟨x0,f0,x1,f1,x2,f2,x3,f3,x4,f4,x5,f5,x6,f6,x7,f7,x8,f8⟩:=blk9f fR;have lxR:=aC fR;have h1:=bI HD2.out hvs2;have h0:=HUU.out;have hRR:ax (w.heap.size+1+1 ≤ ·) m3 (t2) (.agg #[.int .i64 kt2,.string nm2,.int .i64 ut2,.int .i64 tk2,.slice ta2 tn2 tq2,.int .i64 fk2,.slice fa2 fn2 fq2,.int .i64 lt2,.slice ct2 mt2 qt2]):=h2_.out.move (.weaken fun b h _=>by have h1:=h.1;show w.heap.size+1+1≤b;omega);have hcc:(t2).cnt≤MB:=by
    have g1:=HC2.out;(try simp only[Tm.cnt,Tm.cnts,Ty.cnt,Ty.cnts,List.length_cons,List.length_nil,show({data:=#[]}:ByteArray).size=0 from rfl])
    omega
   have HEND:=zq (DTm.stored (p:=p) (r:=r) (w:=w) (R:=w.heap.size+1) (B:=w.heap.size+1+1) (c:=MB) (m:=MB) (v0:=.int .i64 kt2) (v1:=.string nm2) (v2:=.int .i64 ut2) (v3:=.int .i64 tk2) (v4:=.slice ta2 tn2 tq2) (v5:=.int .i64 fk2) (v6:=.slice fa2 fn2 fq2) (v7:=.int .i64 lt2) (v8:=.slice ct2 mt2 qt2) hRR hcc (by omega) (by omega) rd.out fC.out (by omega) (by omega) (by omega));clear hRR hcc;(try clear hks);(try clear hN);(try clear fL)
   go_wp2_with fail
   refine bodyPost_ret (v:=.agg #[.int .i64 kt2,.string nm2,.int .i64 ut2,.int .i64 tk2,.slice ta2 tn2 tq2,.int .i64 fk2,.slice fa2 fn2 fq2,.int .i64 lt2,.slice ct2 mt2 qt2]) (by simp[results,Tryz.results51,go_sem,x0,x1,x2,x3,x4,x5,x6,x7,x8]) rfl ?_
   exact HEND.out
  ·go_wp2_with fail
   refine(bo r (q+1) 3 _ rd.out (by omega) (by omega)).mono ?_;rintro e m9 ⟨jy,rfl,hjk0,hjk1,hrd,hb⟩;have zm9:=hb.size;(try simp only[World.size_alloc] at zm9);replace fT:=aw fT hb;replace fR:=aw fR hb;replace fC:=zqc fC hb;replace hX:=zq (hX.out.move (kpN hb (fun b hb=>hb.1)));replace hT:=zq (hT.out.move (kpN hb (fun b hb=>hb.1)));replace rd:=zq hrd;clear hrd;clear hb;clear hjk0 hjk1
   rcases Bool.eq_false_or_eq_true (jy==0) with hy0 | hy0
   ·go_wp2_with fail
    refine(cZ _).mono ?_;rintro e m10 ⟨v,rfl,hv,hb⟩;obtain⟨kc,ac,nc,qc,rfl⟩:=hv.shape;have hN':=hv.rep.rg;clear hv;have zm10:=hb.size;(try simp only[World.size_alloc] at zm10);replace fT:=af fT hb;replace fR:=af fR hb;replace fC:=zqb fC hb;replace rd:=zq (rd.out.below hb);replace hX:=zq (hX.out.below hb);replace hT:=zq (hT.out.below hb);clear hb;have hN:=hN';clear hN';have hba:=ai (w:=m10) (o:=.cells #[.int .i64 4,.string {data:=#[]},.int .i64 0,.int .i64 0,.slice none 0 0,.int .i64 0,.slice none 0 0,.int .i64 0,.slice none 0 0] 28);have fL:=aB (w:=m10) (o:=.cells #[.int .i64 4,.string {data:=#[]},.int .i64 0,.int .i64 0,.slice none 0 0,.int .i64 0,.slice none 0 0,.int .i64 0,.slice none 0 0] 28) (b:=m10.heap.size) rfl;replace fT:=af fT hba;replace fR:=af fR hba;replace fC:=zqb fC hba;replace rd:=zq (rd.out.below hba);replace hX:=zq (hX.out.below hba);replace hT:=zq (hT.out.below hba);replace hN:=zq (hN.out.below hba);clear hba;have hks:aN (w.heap.size+1+1 ≤ ·) (m10.alloc (.cells #[.int .i64 4,.string {data:=#[]},.int .i64 0,.int .i64 0,.slice none 0 0,.int .i64 0,.slice none 0 0,.int .i64 0,.slice none 0 0] 28)) [Tm.mk 4 {data:=#[]} 0 (.mk 0 []) (.mk 0 []) 0 []] (.slice (some ⟨m10.heap.size,0,none⟩) 1 1):=aN.blk (by show w.heap.size+1+1≤_;omega) fL rfl (by unfold maxLen;omega) (aS.c1 (ax.leaf0 (F:=(w.heap.size+1+1 ≤ ·)) (w:=(m10.alloc (.cells #[.int .i64 4,.string {data:=#[]},.int .i64 0,.int .i64 0,.slice none 0 0,.int .i64 0,.slice none 0 0,.int .i64 0,.slice none 0 0] 28))) 4 0 bi).srep);obtain⟨x0,f0,x1,f1,x2,f2,x3,f3,x4,f4,x5,f5,x6,f6,x7,f7,x8,f8⟩:=blk9f fR;have lxR:=aC fR;have hRR:ax (w.heap.size+1+1 ≤ ·) (m10.alloc (.cells #[.int .i64 4,.string {data:=#[]},.int .i64 0,.int .i64 0,.slice none 0 0,.int .i64 0,.slice none 0 0,.int .i64 0,.slice none 0 0] 28)) (Tm.mk 13 {data:=#[]} 0 (.mk 1 []) (.mk 0 []) 0 [Tm.mk 4 {data:=#[]} 0 (.mk 0 []) (.mk 0 []) 0 []]) (.agg #[.int .i64 13,.string {data:=#[]},.int .i64 0,.int .i64 kc,.slice ac nc qc,.int .i64 0,.slice none 0 0,.int .i64 0,.slice (some ⟨m10.heap.size,0,none⟩) 1 1]):=ax.mk bi (hN.out.move (.weaken fun b h _=>by have h1:=h.1;show w.heap.size+1+1≤b;omega)) ⟨_,rfl,aA.nil0⟩ hks;have hcc:(Tm.mk 13 {data:=#[]} 0 (.mk 1 []) (.mk 0 []) 0 [Tm.mk 4 {data:=#[]} 0 (.mk 0 []) (.mk 0 []) 0 []]).cnt≤MB:=by
     (try simp only[Tm.cnt,Tm.cnts,Ty.cnt,Ty.cnts,List.length_cons,List.length_nil,show({data:=#[]}:ByteArray).size=0 from rfl])
     omega
    have HEND:=zq (DTm.stored (p:=p) (r:=r) (w:=w) (R:=w.heap.size+1) (B:=w.heap.size+1+1) (c:=MB) (m:=MB) (v0:=.int .i64 13) (v1:=.string {data:=#[]}) (v2:=.int .i64 0) (v3:=.int .i64 kc) (v4:=.slice ac nc qc) (v5:=.int .i64 0) (v6:=.slice none 0 0) (v7:=.int .i64 0) (v8:=.slice (some ⟨m10.heap.size,0,none⟩) 1 1) hRR hcc (by omega) (by omega) rd.out fC.out (by omega) (by omega) (by omega));clear hRR hcc;(try clear hks);(try clear hN);(try clear fL)
    go_wp2_with fail
    refine bodyPost_ret (v:=.agg #[.int .i64 13,.string {data:=#[]},.int .i64 0,.int .i64 kc,.slice ac nc qc,.int .i64 0,.slice none 0 0,.int .i64 0,.slice (some ⟨m10.heap.size,0,none⟩) 1 1]) (by simp[results,Tryz.results51,go_sem,x0,x1,x2,x3,x4,x5,x6,x7,x8]) rfl ?_
    exact HEND.out
   ·skip
    go_wp2_with fail
    refine(bo r (q+1+1) 2 _ rd.out (by omega) (by omega)).mono ?_;rintro e v1 ⟨jz,rfl,hjk0,hjk1,hrd,hb⟩;have zv1:=hb.size;(try simp only[World.size_alloc] at zv1);replace fT:=aw fT hb;replace fR:=aw fR hb;replace fC:=zqc fC hb;replace hX:=zq (hX.out.move (kpN hb (fun b hb=>hb.1)));replace hT:=zq (hT.out.move (kpN hb (fun b hb=>hb.1)));replace rd:=zq hrd;clear hrd;clear hb;clear hjk0 hjk1
    rcases Bool.eq_false_or_eq_true (jz==0) with hz0 | hz0
    ·go_wp2_with fail
     refine(bv _).mono ?_;rintro e v2 ⟨rfl,hb⟩;have zv2:=hb.size;(try simp only[World.size_alloc] at zv2);replace fT:=af fT hb;replace fR:=af fR hb;replace fC:=zqb fC hb;replace rd:=zq (rd.out.below hb);replace hX:=zq (hX.out.below hb);replace hT:=zq (hT.out.below hb);clear hb
     go_wp2_with fail
     refine(eR r _ S.int _ _ rd.out (ao.leafG 2) rfl (by omega)).mono ?_;rintro e v3 ⟨s2,v,qs,rfl,hvs2,hv,hqs,hrd,hb⟩;obtain⟨kb,ab,nb,qb,rfl⟩:=hv.shape;have hB_':=hv.rg;clear hv;have zv3:=hb.size;(try simp only[World.size_alloc] at zv3);replace fT:=aw fT hb;replace fR:=aw fR hb;replace fC:=zqc fC hb;replace hX:=zq (hX.out.move (kpN hb (fun b hb=>hb.1)));replace hT:=zq (hT.out.move (kpN hb (fun b hb=>hb.1)));replace rd:=zq hrd;clear hrd;clear hb;have hB_:=hB_';clear hB_';have HL2:=zq (bI HD2.out hvs2)
     go_wp2_with fail
     refine(HIH.out (s2) l (cQ HD2.out HSV.out hvs2) hvs2 HOK.out (by omega) HNL.out _ _ _ _ rd.out (hX.out.move (.weaken fun b h _=>h.1)) HCV.out (hB_.out.move (.weaken fun b h _=>by have h1:=h.1;intro e;omega)) (by have h1:=HL2.out;have h0:=HUU.out;omega)).mono ?_;rintro e v4 ⟨t2,v,q2,rfl,hcn2,hv,hq2,hrd,hb⟩;obtain⟨kt2,nm2,ut2,tk2,ta2,tn2,tq2,fk2,fa2,fn2,fq2,lt2,ct2,mt2,qt2,rfl⟩:=hv.shape;have HC2:=zq hcn2;have h2_':=hv.rg;clear hv hcn2;have zv4:=hb.size;(try simp only[World.size_alloc] at zv4);replace fT:=aw fT hb;replace fR:=aw fR hb;replace fC:=zqc fC hb;replace hX:=zq (hX.out.move (kpN hb (fun b hb=>hb.1)));replace hT:=zq (hT.out.move (kpN hb (fun b hb=>hb.1)));replace hB_:=zq (hB_.out.move (kpN hb (fun b hb=>by have h1:=hb.1;have h2:=hb.2;omega)));replace rd:=zq hrd;clear hrd;clear hb;have h2_:=h2_';clear h2_'
     go_wp2_with fail
     refine(bv _).mono ?_;rintro e v5 ⟨rfl,hb⟩;have zv5:=hb.size;(try simp only[World.size_alloc] at zv5);replace fT:=af fT hb;replace fR:=af fR hb;replace fC:=zqb fC hb;replace rd:=zq (rd.out.below hb);replace hX:=zq (hX.out.below hb);replace hT:=zq (hT.out.below hb);replace hB_:=zq (hB_.out.below hb);replace h2_:=zq (h2_.out.below hb);clear hb
     go_wp2_with fail
     refine(HIH.out (S.int) l (cQ HD2.out HSV.out rfl) rfl HOK.out (by omega) HNL.out _ _ _ _ rd.out (hX.out.move (.weaken fun b h _=>h.1)) HCV.out (ao.leafG 2) (by have h1:=HLB.out;have h2:=HLS.out;have h3:=HLI.out;have h0:=HUU.out;have h4:=HL2.out;omega)).mono ?_;rintro e v6 ⟨t3,v,q3,rfl,hcn3,hv,hq3,hrd,hb⟩;obtain⟨kt3,nm3,ut3,tk3,ta3,tn3,tq3,fk3,fa3,fn3,fq3,lt3,ct3,mt3,qt3,rfl⟩:=hv.shape;have HC3:=zq hcn3;have h3_':=hv.rg;clear hv hcn3;have zv6:=hb.size;(try simp only[World.size_alloc] at zv6);replace fT:=aw fT hb;replace fR:=aw fR hb;replace fC:=zqc fC hb;replace hX:=zq (hX.out.move (kpN hb (fun b hb=>hb.1)));replace hT:=zq (hT.out.move (kpN hb (fun b hb=>hb.1)));replace hB_:=zq (hB_.out.move (kpN hb (fun b hb=>by have h1:=hb.1;have h2:=hb.2;omega)));replace h2_:=zq (h2_.out.move (kpN hb (fun b hb=>by have h1:=hb.1;have h2:=hb.2;omega)));replace rd:=zq hrd;clear hrd;clear hb;have h3_:=h3_';clear h3_'
     go_wp2_with fail
     obtain⟨v7,hXq,hb,fL,zv7a,zv7b⟩:=aU v6 (.cells #[.int .i64 kt2,.string nm2,.int .i64 ut2,.int .i64 tk2,.slice ta2 tn2 tq2,.int .i64 fk2,.slice fa2 fn2 fq2,.int .i64 lt2,.slice ct2 mt2 qt2,.int .i64 kt3,.string nm3,.int .i64 ut3,.int .i64 tk3,.slice ta3 tn3 tq3,.int .i64 fk3,.slice fa3 fn3 fq3,.int .i64 lt3,.slice ct3 mt3 qt3] 28);rw[hXq];replace fT:=af fT hb;replace fR:=af fR hb;replace fC:=zqb fC hb;replace rd:=zq (rd.out.below hb);replace hX:=zq (hX.out.below hb);replace hT:=zq (hT.out.below hb);replace hB_:=zq (hB_.out.below hb);replace h2_:=zq (h2_.out.below hb);replace h3_:=zq (h3_.out.below hb);clear hb hXq;refine(cR 7 _ _ _ _).mono ?_;rintro e v8 ⟨rfl,hb⟩;have zv8:=hb.size;(try simp only[World.size_alloc] at zv8);replace fT:=af fT hb;replace fR:=af fR hb;replace fC:=zqb fC hb;replace rd:=zq (rd.out.below hb);replace hX:=zq (hX.out.below hb);replace hT:=zq (hT.out.below hb);replace hB_:=zq (hB_.out.below hb);replace h2_:=zq (h2_.out.below hb);replace h3_:=zq (h3_.out.below hb);replace fL:=af fL hb;clear hb;obtain⟨x0,f0,x1,f1,x2,f2,x3,f3,x4,f4,x5,f5,x6,f6,x7,f7,x8,f8⟩:=blk9f fR;have lxR:=aC fR;have h1:=HLB.out;have h2:=HLS.out;have h3:=HLI.out;have h0:=HUU.out;have h5:=HL2.out;have hks:aN (w.heap.size+1+1 ≤ ·) v8 [t2,t3] (.slice (some ⟨v6.heap.size,0,none⟩) 2 2):=aN.blk (by show w.heap.size+1+1≤_;omega) fL rfl (by unfold maxLen;omega) (aS.c2 (h2_.out.move (.weaken fun b h _=>by have h1:=h.1;show w.heap.size+1+1≤b;omega)).srep (h3_.out.move (.weaken fun b h _=>by have h1:=h.1;show w.heap.size+1+1≤b;omega)).srep);have hRR:ax (w.heap.size+1+1 ≤ ·) v8 (Tm.mk 7 {data:=#[]} 0 (.mk 0 []) (.mk 0 []) 0 [t2,t3]) (.agg #[.int .i64 7,.string {data:=#[]},.int .i64 0,.int .i64 0,.slice none 0 0,.int .i64 0,.slice none 0 0,.int .i64 0,.slice (some ⟨v6.heap.size,0,none⟩) 2 2]):=ax.mk bi ⟨_,rfl,aA.nil0⟩ ⟨_,rfl,aA.nil0⟩ hks;have hcc:(Tm.mk 7 {data:=#[]} 0 (.mk 0 []) (.mk 0 []) 0 [t2,t3]).cnt≤MB:=by
      have g1:=HC2.out;have g2:=HC3.out;(try simp only[Tm.cnt,Tm.cnts,Ty.cnt,Ty.cnts,List.length_cons,List.length_nil,show({data:=#[]}:ByteArray).size=0 from rfl])
      omega
     have HEND:=zq (DTm.stored (p:=p) (r:=r) (w:=w) (R:=w.heap.size+1) (B:=w.heap.size+1+1) (c:=MB) (m:=MB) (v0:=.int .i64 7) (v1:=.string {data:=#[]}) (v2:=.int .i64 0) (v3:=.int .i64 0) (v4:=.slice none 0 0) (v5:=.int .i64 0) (v6:=.slice none 0 0) (v7:=.int .i64 0) (v8:=.slice (some ⟨v6.heap.size,0,none⟩) 2 2) hRR hcc (by omega) (by omega) rd.out fC.out (by omega) (by omega) (by omega));clear hRR hcc;(try clear hks);(try clear hN);(try clear fL)
     go_wp2_with fail
     refine bodyPost_ret (v:=.agg #[.int .i64 7,.string {data:=#[]},.int .i64 0,.int .i64 0,.slice none 0 0,.int .i64 0,.slice none 0 0,.int .i64 0,.slice (some ⟨v6.heap.size,0,none⟩) 2 2]) (by simp[results,Tryz.results51,go_sem,x0,x1,x2,x3,x4,x5,x6,x7,x8]) rfl ?_
     exact HEND.out
    ·go_wp2_with fail
     refine(bJ (fun _=>True) r (q+1+1+1) _ 5 5 _ (rd.out.below ai) (by omega) (by omega) (by omega) (Nat.le_refl _) (by omega) (bp [1,2,0,999,5] rfl _ (fun _ _=>trivial))).mono ?_;rintro e v9 ⟨nn,rfl,-,hrd,hb0⟩;have hb:=Chg.trans (Chg.of_below (ai (w:=v1))) hb0;clear hb0;have zv9:=hb.size;(try simp only[World.size_alloc] at zv9);replace fT:=aw fT hb;replace fR:=aw fR hb;replace fC:=zqc fC hb;replace hX:=zq (hX.out.move (kpN hb (fun b hb=>hb.1)));replace hT:=zq (hT.out.move (kpN hb (fun b hb=>hb.1)));replace rd:=zq hrd;clear hrd;clear hb
     go_wp2_with fail
     refine(cS nn _).mono ?_;rintro e v9n ⟨rfl,hb⟩;have zv9n:=hb.size;(try simp only[World.size_alloc] at zv9n);replace fT:=af fT hb;replace fR:=af fR hb;replace fC:=zqb fC hb;replace rd:=zq (rd.out.below hb);replace hX:=zq (hX.out.below hb);replace hT:=zq (hT.out.below hb);clear hb;obtain⟨x0,f0,x1,f1,x2,f2,x3,f3,x4,f4,x5,f5,x6,f6,x7,f7,x8,f8⟩:=blk9f fR;have lxR:=aC fR;have hRR:ax (w.heap.size+1+1 ≤ ·) v9n (Tm.mk 2 {data:=#[]} nn (.mk 0 []) (.mk 0 []) 0 []) (.agg #[.int .i64 2,.string {data:=#[]},.int .i64 nn,.int .i64 0,.slice none 0 0,.int .i64 0,.slice none 0 0,.int .i64 0,.slice none 0 0]):=ax.leaf0 2 nn bi;have hcc:(Tm.mk 2 {data:=#[]} nn (.mk 0 []) (.mk 0 []) 0 []).cnt≤MB:=by
      (try simp only[Tm.cnt,Tm.cnts,Ty.cnt,Ty.cnts,List.length_cons,List.length_nil,show({data:=#[]}:ByteArray).size=0 from rfl])
      omega
     have HEND:=zq (DTm.stored (p:=p) (r:=r) (w:=w) (R:=w.heap.size+1) (B:=w.heap.size+1+1) (c:=MB) (m:=MB) (v0:=.int .i64 2) (v1:=.string {data:=#[]}) (v2:=.int .i64 nn) (v3:=.int .i64 0) (v4:=.slice none 0 0) (v5:=.int .i64 0) (v6:=.slice none 0 0) (v7:=.int .i64 0) (v8:=.slice none 0 0) hRR hcc (by omega) (by omega) rd.out fC.out (by omega) (by omega) (by omega));clear hRR hcc;(try clear hks);(try clear hN);(try clear fL)
     go_wp2_with fail
     refine bodyPost_ret (v:=.agg #[.int .i64 2,.string {data:=#[]},.int .i64 nn,.int .i64 0,.slice none 0 0,.int .i64 0,.slice none 0 0,.int .i64 0,.slice none 0 0]) (by simp[results,Tryz.results51,go_sem,x0,x1,x2,x3,x4,x5,x6,x7,x8]) rfl ?_
     exact HEND.out
 ·have hdb:decide (dd>1)=false:=by simpa using hd1
  go_wp2_with fail
  refine(bo r (q) 3 _ rd.out (by omega) (by omega)).mono ?_;rintro e m9 ⟨jy,rfl,hjk0,hjk1,hrd,hb⟩;have zm9:=hb.size;(try simp only[World.size_alloc] at zm9);replace fT:=aw fT hb;replace fR:=aw fR hb;replace fC:=zqc fC hb;replace hX:=zq (hX.out.move (kpN hb (fun b hb=>hb.1)));replace hT:=zq (hT.out.move (kpN hb (fun b hb=>hb.1)));replace rd:=zq hrd;clear hrd;clear hb;clear hjk0 hjk1
  rcases Bool.eq_false_or_eq_true (jy==0) with hy0 | hy0
  ·go_wp2_with fail
   refine(cZ _).mono ?_;rintro e m10 ⟨v,rfl,hv,hb⟩;obtain⟨kc,ac,nc,qc,rfl⟩:=hv.shape;have hN':=hv.rep.rg;clear hv;have zm10:=hb.size;(try simp only[World.size_alloc] at zm10);replace fT:=af fT hb;replace fR:=af fR hb;replace fC:=zqb fC hb;replace rd:=zq (rd.out.below hb);replace hX:=zq (hX.out.below hb);replace hT:=zq (hT.out.below hb);clear hb;have hN:=hN';clear hN';have hba:=ai (w:=m10) (o:=.cells #[.int .i64 4,.string {data:=#[]},.int .i64 0,.int .i64 0,.slice none 0 0,.int .i64 0,.slice none 0 0,.int .i64 0,.slice none 0 0] 28);have fL:=aB (w:=m10) (o:=.cells #[.int .i64 4,.string {data:=#[]},.int .i64 0,.int .i64 0,.slice none 0 0,.int .i64 0,.slice none 0 0,.int .i64 0,.slice none 0 0] 28) (b:=m10.heap.size) rfl;replace fT:=af fT hba;replace fR:=af fR hba;replace fC:=zqb fC hba;replace rd:=zq (rd.out.below hba);replace hX:=zq (hX.out.below hba);replace hT:=zq (hT.out.below hba);replace hN:=zq (hN.out.below hba);clear hba;have hks:aN (w.heap.size+1+1 ≤ ·) (m10.alloc (.cells #[.int .i64 4,.string {data:=#[]},.int .i64 0,.int .i64 0,.slice none 0 0,.int .i64 0,.slice none 0 0,.int .i64 0,.slice none 0 0] 28)) [Tm.mk 4 {data:=#[]} 0 (.mk 0 []) (.mk 0 []) 0 []] (.slice (some ⟨m10.heap.size,0,none⟩) 1 1):=aN.blk (by show w.heap.size+1+1≤_;omega) fL rfl (by unfold maxLen;omega) (aS.c1 (ax.leaf0 (F:=(w.heap.size+1+1 ≤ ·)) (w:=(m10.alloc (.cells #[.int .i64 4,.string {data:=#[]},.int .i64 0,.int .i64 0,.slice none 0 0,.int .i64 0,.slice none 0 0,.int .i64 0,.slice none 0 0] 28))) 4 0 bi).srep);obtain⟨x0,f0,x1,f1,x2,f2,x3,f3,x4,f4,x5,f5,x6,f6,x7,f7,x8,f8⟩:=blk9f fR;have lxR:=aC fR;have hRR:ax (w.heap.size+1+1 ≤ ·) (m10.alloc (.cells #[.int .i64 4,.string {data:=#[]},.int .i64 0,.int .i64 0,.slice none 0 0,.int .i64 0,.slice none 0 0,.int .i64 0,.slice none 0 0] 28)) (Tm.mk 13 {data:=#[]} 0 (.mk 1 []) (.mk 0 []) 0 [Tm.mk 4 {data:=#[]} 0 (.mk 0 []) (.mk 0 []) 0 []]) (.agg #[.int .i64 13,.string {data:=#[]},.int .i64 0,.int .i64 kc,.slice ac nc qc,.int .i64 0,.slice none 0 0,.int .i64 0,.slice (some ⟨m10.heap.size,0,none⟩) 1 1]):=ax.mk bi (hN.out.move (.weaken fun b h _=>by have h1:=h.1;show w.heap.size+1+1≤b;omega)) ⟨_,rfl,aA.nil0⟩ hks;have hcc:(Tm.mk 13 {data:=#[]} 0 (.mk 1 []) (.mk 0 []) 0 [Tm.mk 4 {data:=#[]} 0 (.mk 0 []) (.mk 0 []) 0 []]).cnt≤MB:=by
    (try simp only[Tm.cnt,Tm.cnts,Ty.cnt,Ty.cnts,List.length_cons,List.length_nil,show({data:=#[]}:ByteArray).size=0 from rfl])
    omega
   have HEND:=zq (DTm.stored (p:=p) (r:=r) (w:=w) (R:=w.heap.size+1) (B:=w.heap.size+1+1) (c:=MB) (m:=MB) (v0:=.int .i64 13) (v1:=.string {data:=#[]}) (v2:=.int .i64 0) (v3:=.int .i64 kc) (v4:=.slice ac nc qc) (v5:=.int .i64 0) (v6:=.slice none 0 0) (v7:=.int .i64 0) (v8:=.slice (some ⟨m10.heap.size,0,none⟩) 1 1) hRR hcc (by omega) (by omega) rd.out fC.out (by omega) (by omega) (by omega));clear hRR hcc;(try clear hks);(try clear hN);(try clear fL)
   go_wp2_with fail
   refine bodyPost_ret (v:=.agg #[.int .i64 13,.string {data:=#[]},.int .i64 0,.int .i64 kc,.slice ac nc qc,.int .i64 0,.slice none 0 0,.int .i64 0,.slice (some ⟨m10.heap.size,0,none⟩) 1 1]) (by simp[results,Tryz.results51,go_sem,x0,x1,x2,x3,x4,x5,x6,x7,x8]) rfl ?_
   exact HEND.out
  ·skip
   go_wp2_with fail
   refine(bJ (fun _=>True) r (q+1) _ 5 5 _ (rd.out.below ai) (by omega) (by omega) (by omega) (Nat.le_refl _) (by omega) (bp [1,2,0,999,5] rfl _ (fun _ _=>trivial))).mono ?_;rintro e v9 ⟨nn,rfl,-,hrd,hb0⟩;have hb:=Chg.trans (Chg.of_below (ai (w:=m9))) hb0;clear hb0;have zv9:=hb.size;(try simp only[World.size_alloc] at zv9);replace fT:=aw fT hb;replace fR:=aw fR hb;replace fC:=zqc fC hb;replace hX:=zq (hX.out.move (kpN hb (fun b hb=>hb.1)));replace hT:=zq (hT.out.move (kpN hb (fun b hb=>hb.1)));replace rd:=zq hrd;clear hrd;clear hb
   go_wp2_with fail
   refine(cS nn _).mono ?_;rintro e v9n ⟨rfl,hb⟩;have zv9n:=hb.size;(try simp only[World.size_alloc] at zv9n);replace fT:=af fT hb;replace fR:=af fR hb;replace fC:=zqb fC hb;replace rd:=zq (rd.out.below hb);replace hX:=zq (hX.out.below hb);replace hT:=zq (hT.out.below hb);clear hb;obtain⟨x0,f0,x1,f1,x2,f2,x3,f3,x4,f4,x5,f5,x6,f6,x7,f7,x8,f8⟩:=blk9f fR;have lxR:=aC fR;have hRR:ax (w.heap.size+1+1 ≤ ·) v9n (Tm.mk 2 {data:=#[]} nn (.mk 0 []) (.mk 0 []) 0 []) (.agg #[.int .i64 2,.string {data:=#[]},.int .i64 nn,.int .i64 0,.slice none 0 0,.int .i64 0,.slice none 0 0,.int .i64 0,.slice none 0 0]):=ax.leaf0 2 nn bi;have hcc:(Tm.mk 2 {data:=#[]} nn (.mk 0 []) (.mk 0 []) 0 []).cnt≤MB:=by
    (try simp only[Tm.cnt,Tm.cnts,Ty.cnt,Ty.cnts,List.length_cons,List.length_nil,show({data:=#[]}:ByteArray).size=0 from rfl])
    omega
   have HEND:=zq (DTm.stored (p:=p) (r:=r) (w:=w) (R:=w.heap.size+1) (B:=w.heap.size+1+1) (c:=MB) (m:=MB) (v0:=.int .i64 2) (v1:=.string {data:=#[]}) (v2:=.int .i64 nn) (v3:=.int .i64 0) (v4:=.slice none 0 0) (v5:=.int .i64 0) (v6:=.slice none 0 0) (v7:=.int .i64 0) (v8:=.slice none 0 0) hRR hcc (by omega) (by omega) rd.out fC.out (by omega) (by omega) (by omega));clear hRR hcc;(try clear hks);(try clear hN);(try clear fL)
   go_wp2_with fail
   refine bodyPost_ret (v:=.agg #[.int .i64 2,.string {data:=#[]},.int .i64 nn,.int .i64 0,.slice none 0 0,.int .i64 0,.slice none 0 0,.int .i64 0,.slice none 0 0]) (by simp[results,Tryz.results51,go_sem,x0,x1,x2,x3,x4,x5,x6,x7,x8]) rfl ?_
   exact HEND.out
theorem mkWbool (dd:Int)(r p:Nat)(l:List Bd)(w:World)(kt:Int)(ta:Option Addr)(tn tq:Nat)(xa:Option Addr)(xn xq:Nat):(dV dd S.bool r p l w kt ta tn tq xa xn xq).1.2.2.2.2:=by
 intro _ _ _ _ _ _ _ _ _ _ _ _ HNL HCV HOK HSV HIH _ HKT _ MB _ _ HMB _ _ _ _ _ _ _ _ _ _ _ _ _ _ _ _ _ _ _ _ _ _ _ _ _ _ _ _ _ _ _ _ _ _ _ _ _ _ _ _ _ _ wc _ _ _ _ _ _ _ _ _ _ _ _ _ _ _ _ _ _ _ _ _ _ _ _ _ _ _ _ _ _ _ _ _ _ _ _ _ _ _ _ _ _ _ _ _ _ _ _ _ _ _ _ _ _ _ _ _ _ _ _ _ _ _ _ _ _ _ _ _ _ _ _ _ _ _ _ _ _ _ _ _ _ _ _ _ _ _ _ _ _ _ _ _ _ _ _ _ _ _ _ _ _ _ _ _ _ _ _ _ _ _ _ _ _ _ _ _ _ _ _ _ _ _ _ _ _ _ _ _ _ _ _ _ _ _ _ _ _ _ _ _ _ _ _ _ _ _ _ _ _ _ _ _ _ _ _ _ _ _ _ _ _ _ _ _ _ _ _ _ _ _ _ _ _ _ _ _ _ _ _ _ _ _ _ _ _ _ _ _ _ _ _ _ _ _ _ _ _ _ _ _ _ _ _ _ _ _ _ _ _ _ _ _ _ _ _ _ _ q _ _ fC rd fT fR hX hT;obtain rfl:kt=3:=HKT.out;obtain⟨y0,y1⟩:=blk2 fT;have lyT:=aC fT
 by_cases hd1:1<dd
 ·have hdb:decide (dd>1)=true:=by simpa using hd1
  have HD2:=zq (show 2≤dd by omega);have hU4:MB=4*mkU dd:=HMB.out.symm.trans (ft _ (by omega));have hU0:=fd dd;obtain⟨U,hU⟩ : ∃U,mkU dd=U:=⟨_,rfl⟩
  rw[hU] at hU4 hU0;have HUU:=zq hU;have hMB1:4*U≤MB:=by omega
  have hMB2:MB≤4*U:=by omega
  clear hU hU4;have HLB:=zq (bI (s:=S.bool) HD2.out rfl);have HLI:=zq (bI (s:=S.int) HD2.out rfl);have HLS:=zq (bI HD2.out HSV.out)
  go_wp2_with fail
  refine(bo r (q) 2 _ rd.out (by omega) (by omega)).mono ?_;rintro e w2 ⟨jz,rfl,hjk0,hjk1,hrd,hb⟩;have zw2:=hb.size;(try simp only[World.size_alloc] at zw2);replace fT:=aw fT hb;replace fR:=aw fR hb;replace fC:=zqc fC hb;replace hX:=zq (hX.out.move (kpN hb (fun b hb=>hb.1)));replace hT:=zq (hT.out.move (kpN hb (fun b hb=>hb.1)));replace rd:=zq hrd;clear hrd;clear hb;clear hjk0 hjk1
  rcases Bool.eq_false_or_eq_true (jz==0) with hz0 | hz0
  ·go_wp2_with fail
   refine(bv _).mono ?_;rintro e w3 ⟨rfl,hb⟩;have zw3:=hb.size;(try simp only[World.size_alloc] at zw3);replace fT:=af fT hb;replace fR:=af fR hb;replace fC:=zqb fC hb;replace rd:=zq (rd.out.below hb);replace hX:=zq (hX.out.below hb);replace hT:=zq (hT.out.below hb);clear hb
   go_wp2_with fail
   refine(HIH.out (S.int) l (cQ HD2.out HSV.out rfl) rfl HOK.out (by omega) HNL.out _ _ _ _ rd.out (hX.out.move (.weaken fun b h _=>h.1)) HCV.out (ao.leafG 2) (by have h1:=HLB.out;have h2:=HLS.out;have h3:=HLI.out;have h0:=HUU.out;omega)).mono ?_;rintro e w4 ⟨t2,v,q2,rfl,hcn2,hv,hq2,hrd,hb⟩;obtain⟨kt2,nm2,ut2,tk2,ta2,tn2,tq2,fk2,fa2,fn2,fq2,lt2,ct2,mt2,qt2,rfl⟩:=hv.shape;have HC2:=zq hcn2;have h2_':=hv.rg;clear hv hcn2;have zw4:=hb.size;(try simp only[World.size_alloc] at zw4);replace fT:=aw fT hb;replace fR:=aw fR hb;replace fC:=zqc fC hb;replace hX:=zq (hX.out.move (kpN hb (fun b hb=>hb.1)));replace hT:=zq (hT.out.move (kpN hb (fun b hb=>hb.1)));replace rd:=zq hrd;clear hrd;clear hb;have h2_:=h2_';clear h2_'
   go_wp2_with fail
   refine(bv _).mono ?_;rintro e w5 ⟨rfl,hb⟩;have zw5:=hb.size;(try simp only[World.size_alloc] at zw5);replace fT:=af fT hb;replace fR:=af fR hb;replace fC:=zqb fC hb;replace rd:=zq (rd.out.below hb);replace hX:=zq (hX.out.below hb);replace hT:=zq (hT.out.below hb);replace h2_:=zq (h2_.out.below hb);clear hb
   go_wp2_with fail
   refine(HIH.out (S.int) l (cQ HD2.out HSV.out rfl) rfl HOK.out (by omega) HNL.out _ _ _ _ rd.out (hX.out.move (.weaken fun b h _=>h.1)) HCV.out (ao.leafG 2) (by have h1:=HLB.out;have h2:=HLS.out;have h3:=HLI.out;have h0:=HUU.out;omega)).mono ?_;rintro e w6 ⟨t3,v,q3,rfl,hcn3,hv,hq3,hrd,hb⟩;obtain⟨kt3,nm3,ut3,tk3,ta3,tn3,tq3,fk3,fa3,fn3,fq3,lt3,ct3,mt3,qt3,rfl⟩:=hv.shape;have HC3:=zq hcn3;have h3_':=hv.rg;clear hv hcn3;have zw6:=hb.size;(try simp only[World.size_alloc] at zw6);replace fT:=aw fT hb;replace fR:=aw fR hb;replace fC:=zqc fC hb;replace hX:=zq (hX.out.move (kpN hb (fun b hb=>hb.1)));replace hT:=zq (hT.out.move (kpN hb (fun b hb=>hb.1)));replace h2_:=zq (h2_.out.move (kpN hb (fun b hb=>by have h1:=hb.1;have h2:=hb.2;omega)));replace rd:=zq hrd;clear hrd;clear hb;have h3_:=h3_';clear h3_'
   go_wp2_with fail
   obtain⟨w7,hXq,hb,fL,zw7a,zw7b⟩:=aU w6 (.cells #[.int .i64 kt2,.string nm2,.int .i64 ut2,.int .i64 tk2,.slice ta2 tn2 tq2,.int .i64 fk2,.slice fa2 fn2 fq2,.int .i64 lt2,.slice ct2 mt2 qt2,.int .i64 kt3,.string nm3,.int .i64 ut3,.int .i64 tk3,.slice ta3 tn3 tq3,.int .i64 fk3,.slice fa3 fn3 fq3,.int .i64 lt3,.slice ct3 mt3 qt3] 28);rw[hXq];replace fT:=af fT hb;replace fR:=af fR hb;replace fC:=zqb fC hb;replace rd:=zq (rd.out.below hb);replace hX:=zq (hX.out.below hb);replace hT:=zq (hT.out.below hb);replace h2_:=zq (h2_.out.below hb);replace h3_:=zq (h3_.out.below hb);clear hb hXq;refine(cR 8 _ _ _ _).mono ?_;rintro e w8 ⟨rfl,hb⟩;have zw8:=hb.size;(try simp only[World.size_alloc] at zw8);replace fT:=af fT hb;replace fR:=af fR hb;replace fC:=zqb fC hb;replace rd:=zq (rd.out.below hb);replace hX:=zq (hX.out.below hb);replace hT:=zq (hT.out.below hb);replace h2_:=zq (h2_.out.below hb);replace h3_:=zq (h3_.out.below hb);replace fL:=af fL hb;clear hb;obtain⟨x0,f0,x1,f1,x2,f2,x3,f3,x4,f4,x5,f5,x6,f6,x7,f7,x8,f8⟩:=blk9f fR;have lxR:=aC fR;have h1:=HLB.out;have h2:=HLS.out;have h3:=HLI.out;have h0:=HUU.out;have hks:aN (w.heap.size+1+1 ≤ ·) w8 [t2,t3] (.slice (some ⟨w6.heap.size,0,none⟩) 2 2):=aN.blk (by show w.heap.size+1+1≤_;omega) fL rfl (by unfold maxLen;omega) (aS.c2 (h2_.out.move (.weaken fun b h _=>by have h1:=h.1;show w.heap.size+1+1≤b;omega)).srep (h3_.out.move (.weaken fun b h _=>by have h1:=h.1;show w.heap.size+1+1≤b;omega)).srep);have hRR:ax (w.heap.size+1+1 ≤ ·) w8 (Tm.mk 8 {data:=#[]} 0 (.mk 0 []) (.mk 0 []) 0 [t2,t3]) (.agg #[.int .i64 8,.string {data:=#[]},.int .i64 0,.int .i64 0,.slice none 0 0,.int .i64 0,.slice none 0 0,.int .i64 0,.slice (some ⟨w6.heap.size,0,none⟩) 2 2]):=ax.mk bi ⟨_,rfl,aA.nil0⟩ ⟨_,rfl,aA.nil0⟩ hks;have hcc:(Tm.mk 8 {data:=#[]} 0 (.mk 0 []) (.mk 0 []) 0 [t2,t3]).cnt≤MB:=by
    have g1:=HC2.out;have g2:=HC3.out;(try simp only[Tm.cnt,Tm.cnts,Ty.cnt,Ty.cnts,List.length_cons,List.length_nil,show({data:=#[]}:ByteArray).size=0 from rfl])
    omega
   have HEND:=zq (DTm.stored (p:=p) (r:=r) (w:=w) (R:=w.heap.size+1) (B:=w.heap.size+1+1) (c:=MB) (m:=MB) (v0:=.int .i64 8) (v1:=.string {data:=#[]}) (v2:=.int .i64 0) (v3:=.int .i64 0) (v4:=.slice none 0 0) (v5:=.int .i64 0) (v6:=.slice none 0 0) (v7:=.int .i64 0) (v8:=.slice (some ⟨w6.heap.size,0,none⟩) 2 2) hRR hcc (by omega) (by omega) rd.out fC.out (by omega) (by omega) (by omega));clear hRR hcc;(try clear hks);(try clear hN);(try clear fL)
   go_wp2_with fail
   refine bodyPost_ret (v:=.agg #[.int .i64 8,.string {data:=#[]},.int .i64 0,.int .i64 0,.slice none 0 0,.int .i64 0,.slice none 0 0,.int .i64 0,.slice (some ⟨w6.heap.size,0,none⟩) 2 2]) (by simp[results,Tryz.results51,go_sem,x0,x1,x2,x3,x4,x5,x6,x7,x8]) rfl ?_
   exact HEND.out
  ·skip
   obtain⟨x0,f0,x1,f1,x2,f2,x3,f3,x4,f4,x5,f5,x6,f6,x7,f7,x8,f8⟩:=blk9f fR;have lxR:=aC fR;have hRR:ax (w.heap.size+1+1 ≤ ·) w2 (Tm.mk 3 {data:=#[]} 0 (.mk 0 []) (.mk 0 []) 0 []) (.agg #[.int .i64 3,.string {data:=#[]},.int .i64 0,.int .i64 0,.slice none 0 0,.int .i64 0,.slice none 0 0,.int .i64 0,.slice none 0 0]):=ax.leaf0 3 0 bi;have hcc:(Tm.mk 3 {data:=#[]} 0 (.mk 0 []) (.mk 0 []) 0 []).cnt≤MB:=by
    (try simp only[Tm.cnt,Tm.cnts,Ty.cnt,Ty.cnts,List.length_cons,List.length_nil,show({data:=#[]}:ByteArray).size=0 from rfl])
    omega
   have HEND:=zq (DTm.stored (p:=p) (r:=r) (w:=w) (R:=w.heap.size+1) (B:=w.heap.size+1+1) (c:=MB) (m:=MB) (v0:=.int .i64 3) (v1:=.string {data:=#[]}) (v2:=.int .i64 0) (v3:=.int .i64 0) (v4:=.slice none 0 0) (v5:=.int .i64 0) (v6:=.slice none 0 0) (v7:=.int .i64 0) (v8:=.slice none 0 0) hRR hcc (by omega) (by omega) rd.out fC.out (by omega) (by omega) (by omega));clear hRR hcc;(try clear hks);(try clear hN);(try clear fL)
   go_wp2_with fail
   refine bodyPost_ret (v:=.agg #[.int .i64 3,.string {data:=#[]},.int .i64 0,.int .i64 0,.slice none 0 0,.int .i64 0,.slice none 0 0,.int .i64 0,.slice none 0 0]) (by simp[results,Tryz.results51,go_sem,x0,x1,x2,x3,x4,x5,x6,x7,x8]) rfl ?_
   exact HEND.out
 ·have hdb:decide (dd>1)=false:=by simpa using hd1
  obtain⟨x0,f0,x1,f1,x2,f2,x3,f3,x4,f4,x5,f5,x6,f6,x7,f7,x8,f8⟩:=blk9f fR;have lxR:=aC fR;have hRR:ax (w.heap.size+1+1 ≤ ·) wc (Tm.mk 3 {data:=#[]} 0 (.mk 0 []) (.mk 0 []) 0 []) (.agg #[.int .i64 3,.string {data:=#[]},.int .i64 0,.int .i64 0,.slice none 0 0,.int .i64 0,.slice none 0 0,.int .i64 0,.slice none 0 0]):=ax.leaf0 3 0 bi;have hcc:(Tm.mk 3 {data:=#[]} 0 (.mk 0 []) (.mk 0 []) 0 []).cnt≤MB:=by
   (try simp only[Tm.cnt,Tm.cnts,Ty.cnt,Ty.cnts,List.length_cons,List.length_nil,show({data:=#[]}:ByteArray).size=0 from rfl])
   omega
  have HEND:=zq (DTm.stored (p:=p) (r:=r) (w:=w) (R:=w.heap.size+1) (B:=w.heap.size+1+1) (c:=MB) (m:=MB) (v0:=.int .i64 3) (v1:=.string {data:=#[]}) (v2:=.int .i64 0) (v3:=.int .i64 0) (v4:=.slice none 0 0) (v5:=.int .i64 0) (v6:=.slice none 0 0) (v7:=.int .i64 0) (v8:=.slice none 0 0) hRR hcc (by omega) (by omega) rd.out fC.out (by omega) (by omega) (by omega));clear hRR hcc;(try clear hks);(try clear hN);(try clear fL)
  go_wp2_with fail
  refine bodyPost_ret (v:=.agg #[.int .i64 3,.string {data:=#[]},.int .i64 0,.int .i64 0,.slice none 0 0,.int .i64 0,.slice none 0 0,.int .i64 0,.slice none 0 0]) (by simp[results,Tryz.results51,go_sem,x0,x1,x2,x3,x4,x5,x6,x7,x8]) rfl ?_
  exact HEND.out
end Go.Proofs.YtfahhonmiimmdaaGreat
