/- spec.l3Make: way 1 of a deep term. And what else its parts name. -/
import Derived.Test.YtfahhonmiimmdaaGreatB39
set_option linter.unusedSimpArgs false
set_option linter.unusedVariables false
set_option maxRecDepth 100000
set_option maxHeartbeats 16000000
namespace Go.Proofs.YtfahhonmiimmdaaGreat
open Go.RowKit
def qL:Oper:=⟨some 68,.move (.tmp 0),46,"l3_typing.go:201",#[],none⟩
def qM:Oper:=⟨some 69,.move (.tmp 1),96,"l3_typing.go:201",#[],none⟩
def qN:Oper:=⟨some 70,.call {callee:=.value (.func 85),args:=#[],argTypes:=#[]},25,"l3_typing.go:201",#[],none⟩
def qO:Oper:=⟨some 71,.move (.tmp 3),3,"l3_typing.go:201",#[],none⟩
def qP:Oper:=⟨some 72,.binOp .sub 3 (.tmp 71) (.const (.int .i64 1)) 3,3,"l3_typing.go:201",#[⟨3,.data⟩],none⟩
def qQ:Oper:=⟨some 73,.call {callee:=.value (.func 51),args:=#[.tmp 68,.tmp 69,.tmp 70,.tmp 72],argTypes:=#[46,96,25,3]},28,"l3_typing.go:201",#[⟨0,.data⟩,⟨1,.data⟩,⟨2,.data⟩,⟨4,.data⟩,⟨2,.chain⟩],none⟩
def qR:Oper:=⟨some 74,.move (.tmp 0),46,"l3_typing.go:201",#[],none⟩
def qS:Oper:=⟨some 75,.move (.tmp 1),96,"l3_typing.go:201",#[],none⟩
def qT:Oper:=⟨some 76,.load 25 (.tmp 6),25,"l3_typing.go:201",#[],none⟩
def qU:Oper:=⟨some 77,.move (.tmp 3),3,"l3_typing.go:201",#[],none⟩
def mO:Oper:=⟨some 78,.binOp .sub 3 (.tmp 77) (.const (.int .i64 1)) 3,3,"l3_typing.go:201",#[⟨9,.data⟩],none⟩
def mP:Oper:=⟨some 79,.call {callee:=.value (.func 51),args:=#[.tmp 74,.tmp 75,.tmp 76,.tmp 78],argTypes:=#[46,96,25,3]},28,"l3_typing.go:201",#[⟨6,.data⟩,⟨7,.data⟩,⟨8,.data⟩,⟨10,.data⟩,⟨5,.chain⟩],none⟩
def mQ:Oper:=⟨some 80,.move (.tmp 0),46,"l3_typing.go:201",#[],none⟩
def mR:Oper:=⟨some 81,.move (.tmp 1),96,"l3_typing.go:201",#[],none⟩
def mS:Oper:=⟨some 82,.load 25 (.tmp 6),25,"l3_typing.go:201",#[],none⟩
def mT:Oper:=⟨some 83,.move (.tmp 3),3,"l3_typing.go:201",#[],none⟩
def mU:Oper:=⟨some 84,.binOp .sub 3 (.tmp 83) (.const (.int .i64 1)) 3,3,"l3_typing.go:201",#[⟨15,.data⟩],none⟩
def mV:Oper:=⟨some 85,.call {callee:=.value (.func 51),args:=#[.tmp 80,.tmp 81,.tmp 82,.tmp 84],argTypes:=#[46,96,25,3]},28,"l3_typing.go:201",#[⟨12,.data⟩,⟨13,.data⟩,⟨14,.data⟩,⟨16,.data⟩,⟨11,.chain⟩],none⟩
def mW:Oper:=⟨some 86,.buildSlice 26 3 #[(0,.tmp 73),(1,.tmp 79),(2,.tmp 85)],26,"l3_typing.go:201",#[⟨5,.data⟩,⟨11,.data⟩,⟨17,.data⟩],none⟩
def mX:Oper:=⟨some 87,.call {callee:=.value (.func 84),args:=#[.const (.int .i64 9),.tmp 86],argTypes:=#[3,26]},28,"l3_typing.go:201",#[⟨18,.data⟩,⟨17,.chain⟩],none⟩
def mY:Oper:=⟨none,.store 28 (.tmp 8) (.tmp 87),0,"l3_typing.go:201",#[⟨19,.data⟩,⟨19,.chain⟩,⟨0,.phase⟩,⟨1,.phase⟩,⟨2,.phase⟩,⟨3,.phase⟩,⟨4,.phase⟩,⟨5,.phase⟩,⟨6,.phase⟩,⟨7,.phase⟩,⟨8,.phase⟩,⟨9,.phase⟩,⟨10,.phase⟩,⟨11,.phase⟩,⟨12,.phase⟩,⟨13,.phase⟩,⟨14,.phase⟩,⟨15,.phase⟩,⟨16,.phase⟩,⟨17,.phase⟩,⟨18,.phase⟩,⟨19,.phase⟩],none⟩
theorem mkW1 (dd:Int)(s:S)(r p:Nat)(l:List Bd)(w:World)(kt:Int)(ta:Option Addr)(tn tq:Nat)(xa:Option Addr)(xn xq:Nat):(dV dd s r p l w kt ta tn tq xa xn xq).1.2.1:=by
 intro _ _ _ _ _ _ _ _ HWK _ _ _ HNL HCV HOK HSV HIH _ _ _ MB _ _ _ _ _ _ _ _ _ _ _ _ _ _ _ _ _ _ _ _ _ _ _ _ _ _ _ _ _ _ _ _ _ _ _ _ _ _ _ _ _ _ _ h0 _ _ _ _ _ _ _ _ _ _ _ HD2 _ _ HUU _ _ HLB HLI HLS _ w1 _ _ fT fR fC hX hT rd _ _ _ _;refine wp_region_noPanic ?_;refine wp_region_held_drew (S:=fun w'=>w'.cell? ⟨w.heap.size,0,none⟩=some (.int .i64 kt)∧w'.cell? ⟨w.heap.size,1,none⟩=some (.slice ta tn tq)) (by kernel_rfl) ?_ (fun hH0=>?_)
 ·exact⟨ag fT rfl,ag fT rfl⟩
 obtain⟨U2,hU,hb,zU2a,zU2b⟩:=bD w1;rw[hU] at hH0 ⊢;replace fT:=af fT hb;replace fR:=af fR hb;replace fC:=zqb fC hb;replace rd:=zq (rd.out.below hb);replace hX:=zq (hX.out.below hb);replace hT:=zq (hT.out.below hb);(try simp only[World.size_alloc] at zU2a zU2b);clear hU hb;refine hwt 0 qL (.pointer (some ⟨r,0,none⟩)) hH0 ?_ ?_
 ·intro w' hSw;dsimp only[qL];go_simp
 try simp only[qL,hwA]
 refine hwt 1 qM (.slice xa xn xq) hH0 ?_ ?_
 ·intro w' hSw;dsimp only[qM];go_simp
 try simp only[qM,hwA]
 refine hwt 3 qO (.int .i64 dd) hH0 ?_ ?_
 ·intro w' hSw;dsimp only[qO];go_simp
 try simp only[qO,hwA]
 refine hwt 4 qP (.int .i64 (dd-1)) hH0 ?_ ?_
 ·intro w' hSw;dsimp only[qP];go_simp;exact HWK.out
 try simp only[qP,hwA]
 refine hwt 6 qR (.pointer (some ⟨r,0,none⟩)) hH0 ?_ ?_
 ·intro w' hSw;dsimp only[qR];go_simp
 try simp only[qR,hwA]
 refine hwt 7 qS (.slice xa xn xq) hH0 ?_ ?_
 ·intro w' hSw;dsimp only[qS];go_simp
 try simp only[qS,hwA]
 refine hwt 8 qT (.agg #[.int .i64 kt,.slice ta tn tq]) hH0 ?_ ?_
 ·intro w' hSw;dsimp only[qT];go_simp
 try simp only[qT,hwA]
 refine hwt 9 qU (.int .i64 dd) hH0 ?_ ?_
 ·intro w' hSw;dsimp only[qU];go_simp
 try simp only[qU,hwA]
 refine hwt 10 mO (.int .i64 (dd-1)) hH0 ?_ ?_
 ·intro w' hSw;dsimp only[mO];go_simp;exact HWK.out
 try simp only[mO,hwA]
 refine hwt 12 mQ (.pointer (some ⟨r,0,none⟩)) hH0 ?_ ?_
 ·intro w' hSw;dsimp only[mQ];go_simp
 try simp only[mQ,hwA]
 refine hwt 13 mR (.slice xa xn xq) hH0 ?_ ?_
 ·intro w' hSw;dsimp only[mR];go_simp
 try simp only[mR,hwA]
 refine hwt 14 mS (.agg #[.int .i64 kt,.slice ta tn tq]) hH0 ?_ ?_
 ·intro w' hSw;dsimp only[mS];go_simp
 try simp only[mS,hwA]
 refine hwt 15 mT (.int .i64 dd) hH0 ?_ ?_
 ·intro w' hSw;dsimp only[mT];go_simp
 try simp only[mT,hwA]
 refine hwt 16 mU (.int .i64 (dd-1)) hH0 ?_ ?_
 ·intro w' hSw;dsimp only[mU];go_simp;exact HWK.out
 try simp only[mU,hwA]
 refine hwr 2 qN (fun K hK=>?_)
 dsimp only[qN];go_simp
 go_at_call 85
 refine(dh _).mono ?_;rintro e X1101 ⟨rfl,hb⟩
 go_wp2_with fail
 have zX1101:U2.heap.size≤X1101.heap.size:=hb.size;replace fT:=af fT hb;replace fR:=af fR hb;replace fC:=zqb fC hb;replace rd:=zq (rd.out.below hb);replace hX:=zq (hX.out.below hb);replace hT:=zq (hT.out.below hb);refine hK.out _ _ ⟨ag fT rfl,ag fT rfl⟩ (fun hH1101=>?_);clear hK K hH0 hb
 try simp only[qN,hwA]
 refine hwr 5 qQ (fun K hK=>?_)
 dsimp only[qQ];go_simp
 go_at_call 51
 refine(HIH.out (S.bool) l (cQ HD2.out HSV.out rfl) rfl HOK.out (by omega) HNL.out _ _ _ _ rd.out (hX.out.move (.weaken fun b h _=>h.1)) HCV.out (ao.leafG 3) (by have h1:=HLB.out;have h2:=HLS.out;have h3:=HLI.out;have h0:=HUU.out;omega)).mono ?_;rintro e X1102 ⟨t2,v,q2,rfl,hcn2,hv,hq2,hrd,hb⟩;obtain⟨kt2,nm2,ut2,tk2,ta2,tn2,tq2,fk2,fa2,fn2,fq2,lt2,ct2,mt2,qt2,rfl⟩:=hv.shape;have HC2:=zq hcn2;clear hcn2;have h2_':=hv.rg;have rd':Hid (aQ X1102 r q2):=zq hrd;clear hv hrd
 go_wp2_with fail
 have zX1102:X1101.heap.size≤X1102.heap.size:=hb.size;replace fT:=aw fT hb;replace fR:=aw fR hb;replace fC:=zqc fC hb;replace hX:=zq (hX.out.move (kpN hb (fun b hb=>hb.1)));replace hT:=zq (hT.out.move (kpN hb (fun b hb=>hb.1)));have h2_:=h2_';clear h2_';clear rd;have rd:=rd';clear rd';refine hK.out _ _ ⟨ag fT rfl,ag fT rfl⟩ (fun hH1102=>?_);clear hK K hH1101 hb
 try simp only[qQ,hwA]
 refine hwr 11 mP (fun K hK=>?_)
 dsimp only[mP];go_simp
 go_at_call 51
 refine(HIH.out (s) l (cQ HD2.out HSV.out HSV.out) HSV.out HOK.out (by omega) HNL.out _ _ _ _ rd.out (hX.out.move (.weaken fun b h _=>h.1)) HCV.out (hT.out.move (.weaken fun b h _=>h.1)) (by have h1:=HLB.out;have h2:=HLS.out;have h3:=HLI.out;have h0:=HUU.out;omega)).mono ?_;rintro e X1103 ⟨t3,v,q3,rfl,hcn3,hv,hq3,hrd,hb⟩;obtain⟨kt3,nm3,ut3,tk3,ta3,tn3,tq3,fk3,fa3,fn3,fq3,lt3,ct3,mt3,qt3,rfl⟩:=hv.shape;have HC3:=zq hcn3;clear hcn3;have h3_':=hv.rg;have rd':Hid (aQ X1103 r q3):=zq hrd;clear hv hrd
 go_wp2_with fail
 have zX1103:X1102.heap.size≤X1103.heap.size:=hb.size;replace fT:=aw fT hb;replace fR:=aw fR hb;replace fC:=zqc fC hb;replace hX:=zq (hX.out.move (kpN hb (fun b hb=>hb.1)));replace hT:=zq (hT.out.move (kpN hb (fun b hb=>hb.1)));replace h2_:=zq (h2_.out.move (kpN hb (fun b hb=>by have h1:=hb.1;have h2:=hb.2;omega)));have h3_:=h3_';clear h3_';clear rd;have rd:=rd';clear rd';refine hK.out _ _ ⟨ag fT rfl,ag fT rfl⟩ (fun hH1103=>?_);clear hK K hH1102 hb
 try simp only[mP,hwA]
 refine hwr 17 mV (fun K hK=>?_)
 dsimp only[mV];go_simp
 go_at_call 51
 refine(HIH.out (s) l (cQ HD2.out HSV.out HSV.out) HSV.out HOK.out (by omega) HNL.out _ _ _ _ rd.out (hX.out.move (.weaken fun b h _=>h.1)) HCV.out (hT.out.move (.weaken fun b h _=>h.1)) (by have h1:=HLB.out;have h2:=HLS.out;have h3:=HLI.out;have h0:=HUU.out;omega)).mono ?_;rintro e X1104 ⟨t4,v,q4,rfl,hcn4,hv,hq4,hrd,hb⟩;obtain⟨kt4,nm4,ut4,tk4,ta4,tn4,tq4,fk4,fa4,fn4,fq4,lt4,ct4,mt4,qt4,rfl⟩:=hv.shape;have HC4:=zq hcn4;clear hcn4;have h4_':=hv.rg;have rd':Hid (aQ X1104 r q4):=zq hrd;clear hv hrd
 go_wp2_with fail
 have zX1104:X1103.heap.size≤X1104.heap.size:=hb.size;replace fT:=aw fT hb;replace fR:=aw fR hb;replace fC:=zqc fC hb;replace hX:=zq (hX.out.move (kpN hb (fun b hb=>hb.1)));replace hT:=zq (hT.out.move (kpN hb (fun b hb=>hb.1)));replace h2_:=zq (h2_.out.move (kpN hb (fun b hb=>by have h1:=hb.1;have h2:=hb.2;omega)));replace h3_:=zq (h3_.out.move (kpN hb (fun b hb=>by have h1:=hb.1;have h2:=hb.2;omega)));have h4_:=h4_';clear h4_';clear rd;have rd:=rd';clear rd';refine hK.out _ _ ⟨ag fT rfl,ag fT rfl⟩ (fun hH1104=>?_);clear hK K hH1103 hb
 try simp only[mV,hwA]
 refine hwr 18 mW (fun K hK=>?_)
 dsimp only[mW];go_simp
 (try go_wp2_with fail);obtain⟨X1105,hXq,hb,fL,zX1105a,zX1105b⟩:=aU X1104 (.cells #[.int .i64 kt2,.string nm2,.int .i64 ut2,.int .i64 tk2,.slice ta2 tn2 tq2,.int .i64 fk2,.slice fa2 fn2 fq2,.int .i64 lt2,.slice ct2 mt2 qt2,.int .i64 kt3,.string nm3,.int .i64 ut3,.int .i64 tk3,.slice ta3 tn3 tq3,.int .i64 fk3,.slice fa3 fn3 fq3,.int .i64 lt3,.slice ct3 mt3 qt3,.int .i64 kt4,.string nm4,.int .i64 ut4,.int .i64 tk4,.slice ta4 tn4 tq4,.int .i64 fk4,.slice fa4 fn4 fq4,.int .i64 lt4,.slice ct4 mt4 qt4] 28);rw[hXq];replace fT:=af fT hb;replace fR:=af fR hb;replace fC:=zqb fC hb;replace rd:=zq (rd.out.below hb);replace hX:=zq (hX.out.below hb);replace hT:=zq (hT.out.below hb);replace h2_:=zq (h2_.out.below hb);replace h3_:=zq (h3_.out.below hb);replace h4_:=zq (h4_.out.below hb);refine hK.out _ _ ⟨ag fT rfl,ag fT rfl⟩ (fun hH1105=>?_);clear hK K hH1104 hb hXq
 try simp only[mW,hwA]
 refine hwr 19 mX (fun K hK=>?_)
 dsimp only[mX];go_simp
 go_at_call 84
 refine(cR 9 _ _ _ _).mono ?_;rintro e X1106 ⟨rfl,hb⟩
 go_wp2_with fail
 have zX1106:X1105.heap.size≤X1106.heap.size:=hb.size;replace fT:=af fT hb;replace fR:=af fR hb;replace fC:=zqb fC hb;replace rd:=zq (rd.out.below hb);replace hX:=zq (hX.out.below hb);replace hT:=zq (hT.out.below hb);replace h2_:=zq (h2_.out.below hb);replace h3_:=zq (h3_.out.below hb);replace h4_:=zq (h4_.out.below hb);replace fL:=af fL hb;refine hK.out _ _ ⟨ag fT rfl,ag fT rfl⟩ (fun hH1106=>?_);clear hK K hH1105 hb
 try simp only[mX,hwA]
 refine hwr 20 mY (fun K hK=>?_);obtain⟨r0,rf0,r1,rf1,r2,rf2,r3,rf3,r4,rf4,r5,rf5,r6,rf6,r7,rf7,r8,rf8⟩:=blk9f fR
 dsimp only[mY];go_simp
 (try go_wp2_with fail);have hQq:=bL fR (.int .i64 9) (.string {data:=#[]}) (.int .i64 0) (.int .i64 0) (.slice none 0 0) (.int .i64 0) (.slice none 0 0) (.int .i64 0) (.slice (some ⟨X1104.heap.size,0,none⟩) 3 3);clear fR r0 rf0 r1 rf1 r2 rf2 r3 rf3 r4 rf4 r5 rf5 r6 rf6 r7 rf7 r8 rf8;obtain⟨X1107,hXq,hsq,fR,zX1107a,zX1107b⟩:=hQq;rw[hXq];replace fT:=hsq.blk (by omega) fT;replace fC:=zq (hsq.chg fC.out (by omega));replace rd:=zq (hsq.rd rd.out (by omega));replace hX:=zq (hX.out.move (hsq.keeps (fun b hb=>by have:=hb.2;omega)));replace hT:=zq (hsq.rep (fun b hb=>by have:=hb.2;omega) hT.out);replace h2_:=zq (h2_.out.move (hsq.keeps (fun b hb=>by have h1:=hb.1;have h2:=hb.2;omega)));replace h3_:=zq (h3_.out.move (hsq.keeps (fun b hb=>by have h1:=hb.1;have h2:=hb.2;omega)));replace h4_:=zq (h4_.out.move (hsq.keeps (fun b hb=>by have h1:=hb.1;have h2:=hb.2;omega)));replace fL:=hsq.blk (by omega) fL;refine hK.out _ _ ⟨ag fT rfl,ag fT rfl⟩ (fun hH1107=>?_);clear hK K hH1106 hsq hXq
 try simp only[mY,hwA]
 refine wpAnyH_done (by kernel_rfl) ?_ _;refine NoPanic.normal ?_;clear hH1107;obtain⟨rc0,rc1,rc2,rc3,rc4,rc5,rc6,rc7,rc8⟩:=blk9 fR
 go_wp2_with fail
 refine bodyPost_ret (v:=.agg #[.int .i64 9,.string {data:=#[]},.int .i64 0,.int .i64 0,.slice none 0 0,.int .i64 0,.slice none 0 0,.int .i64 0,.slice (some ⟨X1104.heap.size,0,none⟩) 3 3]) (by simp[results,Tryz.results51,go_sem,rc0,rc1,rc2,rc3,rc4,rc5,rc6,rc7,rc8]) rfl ?_;have h1:=HLB.out;have h2:=HLS.out;have h3:=HLI.out;have h0:=HUU.out;have hks:aN (w.heap.size ≤ ·) X1107 [t2,t3,t4] (.slice (some ⟨X1104.heap.size,0,none⟩) 3 3):=aN.blk (by show w.heap.size≤_;omega) fL rfl (by unfold maxLen;omega) (aS.c3 (h2_.out.move (.weaken fun b h _=>by have h1:=h.1;show w.heap.size≤b;omega)).srep (h3_.out.move (.weaken fun b h _=>by have h1:=h.1;show w.heap.size≤b;omega)).srep (h4_.out.move (.weaken fun b h _=>by have h1:=h.1;show w.heap.size≤b;omega)).srep);have hcc:(Tm.mk 9 {data:=#[]} 0 (.mk 0 []) (.mk 0 []) 0 [t2,t3,t4]).cnt≤MB:=by
  have g1:=HC2.out;have g2:=HC3.out;have g3:=HC4.out;(try simp only[Tm.cnt,Tm.cnts,Ty.cnt,Ty.cnts,List.length_cons,List.length_nil,show({data:=#[]}:ByteArray).size=0 from rfl])
  omega
 exact⟨Tm.mk 9 {data:=#[]} 0 (.mk 0 []) (.mk 0 []) 0 [t2,t3,t4],_,q4,rfl,hcc,ax.mk bi ⟨_,rfl,aA.nil0⟩ ⟨_,rfl,aA.nil0⟩ hks,by omega,rd.out,fC.out⟩
def qV:Oper:=⟨some 92,.move (.tmp 0),46,"l3_typing.go:204",#[],none⟩
def qW:Oper:=⟨some 93,.move (.tmp 1),96,"l3_typing.go:204",#[],none⟩
def qX:Oper:=⟨some 94,.load 25 (.tmp 12),25,"l3_typing.go:204",#[],none⟩
def qY:Oper:=⟨some 95,.load 25 (.tmp 6),25,"l3_typing.go:204",#[],none⟩
def qZ:Oper:=⟨some 96,.move (.tmp 3),3,"l3_typing.go:204",#[],none⟩
def ra:Oper:=⟨some 97,.binOp .sub 3 (.tmp 96) (.const (.int .i64 1)) 3,3,"l3_typing.go:204",#[⟨4,.data⟩],none⟩
def rc:Oper:=⟨some 98,.call {callee:=.value (.func 86),args:=#[.tmp 92,.tmp 93,.tmp 94,.tmp 95,.tmp 97],argTypes:=#[46,96,25,25,3]},28,"l3_typing.go:204",#[⟨0,.data⟩,⟨1,.data⟩,⟨2,.data⟩,⟨3,.data⟩,⟨5,.data⟩],none⟩
def re:Oper:=⟨some 99,.move (.tmp 0),46,"l3_typing.go:204",#[],none⟩
def rf:Oper:=⟨some 100,.move (.tmp 1),96,"l3_typing.go:204",#[],none⟩
def rh:Oper:=⟨some 101,.move (.tmp 0),46,"l3_typing.go:204",#[],none⟩
def mZ:Oper:=⟨some 102,.load 25 (.tmp 12),25,"l3_typing.go:204",#[],none⟩
def n7:Oper:=⟨some 103,.call {callee:=.value (.func 57),args:=#[.tmp 101,.tmp 102],argTypes:=#[46,25]},25,"l3_typing.go:204",#[⟨9,.data⟩,⟨10,.data⟩,⟨6,.chain⟩],none⟩
def n9:Oper:=⟨some 104,.move (.tmp 3),3,"l3_typing.go:204",#[],none⟩
def na:Oper:=⟨some 105,.binOp .sub 3 (.tmp 104) (.const (.int .i64 1)) 3,3,"l3_typing.go:204",#[⟨12,.data⟩],none⟩
def nf:Oper:=⟨some 106,.call {callee:=.value (.func 51),args:=#[.tmp 99,.tmp 100,.tmp 103,.tmp 105],argTypes:=#[46,96,25,3]},28,"l3_typing.go:204",#[⟨7,.data⟩,⟨8,.data⟩,⟨11,.data⟩,⟨13,.data⟩,⟨11,.chain⟩],none⟩
def ng:Oper:=⟨some 107,.buildSlice 26 2 #[(0,.tmp 98),(1,.tmp 106)],26,"l3_typing.go:204",#[⟨6,.data⟩,⟨14,.data⟩],none⟩
def nh:Oper:=⟨some 108,.call {callee:=.value (.func 84),args:=#[.const (.int .i64 6),.tmp 107],argTypes:=#[3,26]},28,"l3_typing.go:204",#[⟨15,.data⟩,⟨14,.chain⟩],none⟩
def ni:Oper:=⟨none,.store 28 (.tmp 8) (.tmp 108),0,"l3_typing.go:204",#[⟨16,.data⟩,⟨16,.chain⟩,⟨0,.phase⟩,⟨1,.phase⟩,⟨2,.phase⟩,⟨3,.phase⟩,⟨4,.phase⟩,⟨5,.phase⟩,⟨6,.phase⟩,⟨7,.phase⟩,⟨8,.phase⟩,⟨9,.phase⟩,⟨10,.phase⟩,⟨11,.phase⟩,⟨12,.phase⟩,⟨13,.phase⟩,⟨14,.phase⟩,⟨15,.phase⟩,⟨16,.phase⟩],none⟩
theorem mkW2 (dd:Int)(s:S)(r p:Nat)(l:List Bd)(w:World)(kt:Int)(ta:Option Addr)(tn tq:Nat)(xa:Option Addr)(xn xq:Nat):(dV dd s r p l w kt ta tn tq xa xn xq).1.2.2.1:=by
 intro _ _ _ _ _ _ _ _ HWK _ _ _ HNL HCV HOK HSV HIH _ _ HL60 MB _ _ _ _ _ _ _ _ _ _ _ _ _ _ _ _ _ _ _ _ _ _ _ _ _ _ _ _ _ _ _ _ _ _ _ _ _ _ _ _ _ _ _ h0 _ _ _ _ _ _ _ _ _ _ _ HD2 _ _ HUU _ _ HLB HLI HLS _ w1 _ _ fT fR fC hX hT rd _ _ _ _ _ _ _;refine(jE 1 r _ _ (by omega) (by omega) rd.out (by omega)).mono ?_;rintro e w2 ⟨s2,v,qs,rfl,hvs2,hv,hqs,hrd,hb⟩;obtain⟨kb,ab,nb,qb,rfl⟩:=hv.shape;have hA':=hv.rg;clear hv;have zw2:=hb.size;(try simp only[World.size_alloc] at zw2);replace fT:=aw fT hb;replace fR:=aw fR hb;replace fC:=zqc fC hb;replace hX:=zq (hX.out.move (kpN hb (fun b hb=>hb.1)));replace hT:=zq (hT.out.move (kpN hb (fun b hb=>hb.1)));replace rd:=zq hrd;clear hrd;clear hb;have hA:=hA';clear hA'
 go_wp2_with fail
 obtain⟨w3,hXq,hb,fA,zw3a,zw3b⟩:=aU w2 (.cells #[.int .i64 kb,.slice ab nb qb] 25);rw[hXq];replace fT:=af fT hb;replace fR:=af fR hb;replace fC:=zqb fC hb;replace rd:=zq (rd.out.below hb);replace hX:=zq (hX.out.below hb);replace hT:=zq (hT.out.below hb);replace hA:=zq (hA.out.below hb);clear hb hXq;refine wp_region_noPanic ?_;refine wp_region_held_drew (S:=fun w'=>w'.cell? ⟨w.heap.size,0,none⟩=some (.int .i64 kt)∧w'.cell? ⟨w.heap.size,1,none⟩=some (.slice ta tn tq)∧w'.cell? ⟨w2.heap.size,0,none⟩=some (.int .i64 kb)∧w'.cell? ⟨w2.heap.size,1,none⟩=some (.slice ab nb qb)) (by kernel_rfl) ?_ (fun hH0=>?_)
 ·exact⟨ag fT rfl,ag fT rfl,ag fA rfl,ag fA rfl⟩
 obtain⟨U3,hU,hb,zU3a,zU3b⟩:=bD w3;rw[hU] at hH0 ⊢;replace fT:=af fT hb;replace fR:=af fR hb;replace fC:=zqb fC hb;replace rd:=zq (rd.out.below hb);replace hX:=zq (hX.out.below hb);replace hT:=zq (hT.out.below hb);replace hA:=zq (hA.out.below hb);replace fA:=af fA hb;(try simp only[World.size_alloc] at zU3a zU3b);clear hU hb;refine hwt 0 qV (.pointer (some ⟨r,0,none⟩)) hH0 ?_ ?_
 ·intro w' hSw;dsimp only[qV];go_simp
 try simp only[qV,hwA]
 refine hwt 1 qW (.slice xa xn xq) hH0 ?_ ?_
 ·intro w' hSw;dsimp only[qW];go_simp
 try simp only[qW,hwA]
 refine hwt 2 qX (.agg #[.int .i64 kb,.slice ab nb qb]) hH0 ?_ ?_
 ·intro w' hSw;dsimp only[qX];go_simp
 try simp only[qX,hwA]
 refine hwt 3 qY (.agg #[.int .i64 kt,.slice ta tn tq]) hH0 ?_ ?_
 ·intro w' hSw;dsimp only[qY];go_simp
 try simp only[qY,hwA]
 refine hwt 4 qZ (.int .i64 dd) hH0 ?_ ?_
 ·intro w' hSw;dsimp only[qZ];go_simp
 try simp only[qZ,hwA]
 refine hwt 5 ra (.int .i64 (dd-1)) hH0 ?_ ?_
 ·intro w' hSw;dsimp only[ra];go_simp;exact HWK.out
 try simp only[ra,hwA]
 refine hwt 7 re (.pointer (some ⟨r,0,none⟩)) hH0 ?_ ?_
 ·intro w' hSw;dsimp only[re];go_simp
 try simp only[re,hwA]
 refine hwt 8 rf (.slice xa xn xq) hH0 ?_ ?_
 ·intro w' hSw;dsimp only[rf];go_simp
 try simp only[rf,hwA]
 refine hwt 9 rh (.pointer (some ⟨r,0,none⟩)) hH0 ?_ ?_
 ·intro w' hSw;dsimp only[rh];go_simp
 try simp only[rh,hwA]
 refine hwt 10 mZ (.agg #[.int .i64 kb,.slice ab nb qb]) hH0 ?_ ?_
 ·intro w' hSw;dsimp only[mZ];go_simp
 try simp only[mZ,hwA]
 refine hwt 12 n9 (.int .i64 dd) hH0 ?_ ?_
 ·intro w' hSw;dsimp only[n9];go_simp
 try simp only[n9,hwA]
 refine hwt 13 na (.int .i64 (dd-1)) hH0 ?_ ?_
 ·intro w' hSw;dsimp only[na];go_simp;exact HWK.out
 try simp only[na,hwA]
 refine hwr 6 rc (fun K hK=>?_)
 dsimp only[rc];go_simp
 go_at_call 86
 refine(ob r _ (dd-1) s2 s l _ _ _ _ rd.out (hX.out.move (.weaken fun b h _=>h.1)) HCV.out (by have:=HL60.out;omega) (hA.out.move (.weaken fun b h _=>by have h1:=h.1;intro e;omega)) (hT.out.move (.weaken fun b h _=>h.1)) hvs2 (fun nm hnm=>HIH.out s (l ++ [⟨nm,S.ty s2⟩]) (cQ HD2.out HSV.out HSV.out) HSV.out (HOK.out.snoc ((S.valid s2).trans hvs2)) (by simp) (fun b hb=>(List.mem_append.1 hb).elim (HNL.out b) (fun h=>by simp at h;subst h;exact hnm))) (by have h1:=HLB.out;have h2:=HLS.out;have h3:=HLI.out;have h0:=HUU.out;omega)).mono ?_;rintro e X1201 ⟨t2,v,q2,rfl,hcn2,hv,hq2,hrd,hb⟩;obtain⟨kt2,nm2,ut2,tk2,ta2,tn2,tq2,fk2,fa2,fn2,fq2,lt2,ct2,mt2,qt2,rfl⟩:=hv.shape;have HC2:=zq hcn2;clear hcn2;have h2_':=hv.rg;have rd':Hid (aQ X1201 r q2):=zq hrd;clear hv hrd
 go_wp2_with fail
 have zX1201:U3.heap.size≤X1201.heap.size:=hb.size;replace fT:=aw fT hb;replace fR:=aw fR hb;replace fC:=zqc fC hb;replace hX:=zq (hX.out.move (kpN hb (fun b hb=>hb.1)));replace hT:=zq (hT.out.move (kpN hb (fun b hb=>hb.1)));replace hA:=zq (hA.out.move (kpN hb (fun b hb=>by have h1:=hb.1;have h2:=hb.2;omega)));replace fA:=aw fA hb;have h2_:=h2_';clear h2_';clear rd;have rd:=rd';clear rd';refine hK.out _ _ ⟨ag fT rfl,ag fT rfl,ag fA rfl,ag fA rfl⟩ (fun hH1201=>?_);clear hK K hH0 hb
 try simp only[rc,hwA]
 refine hwr 11 n7 (fun K hK=>?_)
 dsimp only[n7];go_simp
 go_at_call 57
 refine(eR r _ s2 _ _ rd.out (hA.out.move (.weaken fun b h _=>by have h1:=h.1;intro e;omega)) hvs2 (by have h1:=HLB.out;have h2:=HLS.out;have h0:=HUU.out;omega)).mono ?_;rintro e X1202 ⟨s3,v,qt,rfl,hvs3,hv,hqt,hrd,hb⟩;obtain⟨kc,ac,nc,qc,rfl⟩:=hv.shape;have hB_':=hv.rg;have rd':Hid (aQ X1202 r qt):=zq hrd;clear hv hrd
 go_wp2_with fail
 have zX1202:X1201.heap.size≤X1202.heap.size:=hb.size;replace fT:=aw fT hb;replace fR:=aw fR hb;replace fC:=zqc fC hb;replace hX:=zq (hX.out.move (kpN hb (fun b hb=>hb.1)));replace hT:=zq (hT.out.move (kpN hb (fun b hb=>hb.1)));replace hA:=zq (hA.out.move (kpN hb (fun b hb=>by have h1:=hb.1;have h2:=hb.2;omega)));replace fA:=aw fA hb;replace h2_:=zq (h2_.out.move (kpN hb (fun b hb=>by have h1:=hb.1;have h2:=hb.2;omega)));have hB_:=hB_';clear hB_';clear rd;have rd:=rd';clear rd';refine hK.out _ _ ⟨ag fT rfl,ag fT rfl,ag fA rfl,ag fA rfl⟩ (fun hH1202=>?_);clear hK K hH1201 hb
 try simp only[n7,hwA]
 refine hwr 14 nf (fun K hK=>?_)
 dsimp only[nf];go_simp
 go_at_call 51
 refine(HIH.out (s3) l (cQ HD2.out HSV.out hvs3) hvs3 HOK.out (by omega) HNL.out _ _ _ _ rd.out (hX.out.move (.weaken fun b h _=>h.1)) HCV.out (hB_.out.move (.weaken fun b h _=>by have h1:=h.1;intro e;omega)) (by have h1:=HLB.out;have h2:=HLS.out;have h0:=HUU.out;have h4:=bI HD2.out hvs3;omega)).mono ?_;rintro e X1203 ⟨t3,v,q3,rfl,hcn3,hv,hq3,hrd,hb⟩;obtain⟨kt3,nm3,ut3,tk3,ta3,tn3,tq3,fk3,fa3,fn3,fq3,lt3,ct3,mt3,qt3,rfl⟩:=hv.shape;have HC3:=zq hcn3;clear hcn3;have h3_':=hv.rg;have rd':Hid (aQ X1203 r q3):=zq hrd;clear hv hrd
 go_wp2_with fail
 have zX1203:X1202.heap.size≤X1203.heap.size:=hb.size;replace fT:=aw fT hb;replace fR:=aw fR hb;replace fC:=zqc fC hb;replace hX:=zq (hX.out.move (kpN hb (fun b hb=>hb.1)));replace hT:=zq (hT.out.move (kpN hb (fun b hb=>hb.1)));replace hA:=zq (hA.out.move (kpN hb (fun b hb=>by have h1:=hb.1;have h2:=hb.2;omega)));replace fA:=aw fA hb;replace h2_:=zq (h2_.out.move (kpN hb (fun b hb=>by have h1:=hb.1;have h2:=hb.2;omega)));replace hB_:=zq (hB_.out.move (kpN hb (fun b hb=>by have h1:=hb.1;have h2:=hb.2;omega)));have h3_:=h3_';clear h3_';clear rd;have rd:=rd';clear rd';refine hK.out _ _ ⟨ag fT rfl,ag fT rfl,ag fA rfl,ag fA rfl⟩ (fun hH1203=>?_);clear hK K hH1202 hb
 try simp only[nf,hwA]
 refine hwr 15 ng (fun K hK=>?_)
 dsimp only[ng];go_simp
 (try go_wp2_with fail);obtain⟨X1204,hXq,hb,fL,zX1204a,zX1204b⟩:=aU X1203 (.cells #[.int .i64 kt2,.string nm2,.int .i64 ut2,.int .i64 tk2,.slice ta2 tn2 tq2,.int .i64 fk2,.slice fa2 fn2 fq2,.int .i64 lt2,.slice ct2 mt2 qt2,.int .i64 kt3,.string nm3,.int .i64 ut3,.int .i64 tk3,.slice ta3 tn3 tq3,.int .i64 fk3,.slice fa3 fn3 fq3,.int .i64 lt3,.slice ct3 mt3 qt3] 28);rw[hXq];replace fT:=af fT hb;replace fR:=af fR hb;replace fC:=zqb fC hb;replace rd:=zq (rd.out.below hb);replace hX:=zq (hX.out.below hb);replace hT:=zq (hT.out.below hb);replace hA:=zq (hA.out.below hb);replace fA:=af fA hb;replace h2_:=zq (h2_.out.below hb);replace hB_:=zq (hB_.out.below hb);replace h3_:=zq (h3_.out.below hb);refine hK.out _ _ ⟨ag fT rfl,ag fT rfl,ag fA rfl,ag fA rfl⟩ (fun hH1204=>?_);clear hK K hH1203 hb hXq
 try simp only[ng,hwA]
 refine hwr 16 nh (fun K hK=>?_)
 dsimp only[nh];go_simp
 go_at_call 84
 refine(cR 6 _ _ _ _).mono ?_;rintro e X1205 ⟨rfl,hb⟩
 go_wp2_with fail
 have zX1205:X1204.heap.size≤X1205.heap.size:=hb.size;replace fT:=af fT hb;replace fR:=af fR hb;replace fC:=zqb fC hb;replace rd:=zq (rd.out.below hb);replace hX:=zq (hX.out.below hb);replace hT:=zq (hT.out.below hb);replace hA:=zq (hA.out.below hb);replace fA:=af fA hb;replace h2_:=zq (h2_.out.below hb);replace hB_:=zq (hB_.out.below hb);replace h3_:=zq (h3_.out.below hb);replace fL:=af fL hb;refine hK.out _ _ ⟨ag fT rfl,ag fT rfl,ag fA rfl,ag fA rfl⟩ (fun hH1205=>?_);clear hK K hH1204 hb
 try simp only[nh,hwA]
 refine hwr 17 ni (fun K hK=>?_);obtain⟨r0,rf0,r1,rf1,r2,rf2,r3,rf3,r4,rf4,r5,rf5,r6,rf6,r7,rf7,r8,rf8⟩:=blk9f fR
 dsimp only[ni];go_simp
 (try go_wp2_with fail);have hQq:=bL fR (.int .i64 6) (.string {data:=#[]}) (.int .i64 0) (.int .i64 0) (.slice none 0 0) (.int .i64 0) (.slice none 0 0) (.int .i64 0) (.slice (some ⟨X1203.heap.size,0,none⟩) 2 2);clear fR r0 rf0 r1 rf1 r2 rf2 r3 rf3 r4 rf4 r5 rf5 r6 rf6 r7 rf7 r8 rf8;obtain⟨X1206,hXq,hsq,fR,zX1206a,zX1206b⟩:=hQq;rw[hXq];replace fT:=hsq.blk (by omega) fT;replace fC:=zq (hsq.chg fC.out (by omega));replace rd:=zq (hsq.rd rd.out (by omega));replace hX:=zq (hX.out.move (hsq.keeps (fun b hb=>by have:=hb.2;omega)));replace hT:=zq (hsq.rep (fun b hb=>by have:=hb.2;omega) hT.out);replace hA:=zq (hsq.rep (fun b hb=>by have h1:=hb.1;have h2:=hb.2;omega) hA.out);replace fA:=hsq.blk (by omega) fA;replace h2_:=zq (h2_.out.move (hsq.keeps (fun b hb=>by have h1:=hb.1;have h2:=hb.2;omega)));replace hB_:=zq (hsq.rep (fun b hb=>by have h1:=hb.1;have h2:=hb.2;omega) hB_.out);replace h3_:=zq (h3_.out.move (hsq.keeps (fun b hb=>by have h1:=hb.1;have h2:=hb.2;omega)));replace fL:=hsq.blk (by omega) fL;refine hK.out _ _ ⟨ag fT rfl,ag fT rfl,ag fA rfl,ag fA rfl⟩ (fun hH1206=>?_);clear hK K hH1205 hsq hXq
 try simp only[ni,hwA]
 refine wpAnyH_done (by kernel_rfl) ?_ _;refine NoPanic.normal ?_;clear hH1206;obtain⟨rc0,rc1,rc2,rc3,rc4,rc5,rc6,rc7,rc8⟩:=blk9 fR
 go_wp2_with fail
 refine bodyPost_ret (v:=.agg #[.int .i64 6,.string {data:=#[]},.int .i64 0,.int .i64 0,.slice none 0 0,.int .i64 0,.slice none 0 0,.int .i64 0,.slice (some ⟨X1203.heap.size,0,none⟩) 2 2]) (by simp[results,Tryz.results51,go_sem,rc0,rc1,rc2,rc3,rc4,rc5,rc6,rc7,rc8]) rfl ?_;have h1:=HLB.out;have h2:=HLS.out;have h3:=HLI.out;have h0:=HUU.out;have h4:=bI HD2.out hvs3;have hks:aN (w.heap.size ≤ ·) X1206 [t2,t3] (.slice (some ⟨X1203.heap.size,0,none⟩) 2 2):=aN.blk (by show w.heap.size≤_;omega) fL rfl (by unfold maxLen;omega) (aS.c2 (h2_.out.move (.weaken fun b h _=>by have h1:=h.1;show w.heap.size≤b;omega)).srep (h3_.out.move (.weaken fun b h _=>by have h1:=h.1;show w.heap.size≤b;omega)).srep);have hcc:(Tm.mk 6 {data:=#[]} 0 (.mk 0 []) (.mk 0 []) 0 [t2,t3]).cnt≤MB:=by
  have g1:=HC2.out;have g2:=HC3.out;(try simp only[Tm.cnt,Tm.cnts,Ty.cnt,Ty.cnts,List.length_cons,List.length_nil,show({data:=#[]}:ByteArray).size=0 from rfl])
  omega
 exact⟨Tm.mk 6 {data:=#[]} 0 (.mk 0 []) (.mk 0 []) 0 [t2,t3],_,q3,rfl,hcc,ax.mk bi ⟨_,rfl,aA.nil0⟩ ⟨_,rfl,aA.nil0⟩ hks,by omega,rd.out,fC.out⟩
theorem mkWint (dd:Int)(r p:Nat)(l:List Bd)(w:World)(kt:Int)(ta:Option Addr)(tn tq:Nat)(xa:Option Addr)(xn xq:Nat):(dV dd S.int r p l w kt ta tn tq xa xn xq).1.2.2.2.2:=by
 intro _ _ _ _ _ _ _ _ _ _ _ _ HNL HCV HOK HSV HIH _ HKT _ MB _ _ HMB _ _ _ _ _ _ _ _ _ _ _ _ _ _ _ _ _ _ _ _ _ _ _ _ _ _ _ _ _ _ _ _ _ _ _ _ _ _ _ _ _ _ wc _ _ _ _ _ _ _ _ _ _ _ _ _ _ _ _ _ _ _ _ _ _ _ _ _ _ _ _ _ _ _ _ _ _ _ _ _ _ _ _ _ _ _ _ _ _ _ _ _ _ _ _ _ _ _ _ _ _ _ _ _ _ _ _ _ _ _ _ _ _ _ _ _ _ _ _ _ _ _ _ _ _ _ _ _ _ _ _ _ _ _ _ _ _ _ _ _ _ _ _ _ _ _ _ _ _ _ _ _ _ _ _ _ _ _ _ _ _ _ _ _ _ _ _ _ _ _ _ _ _ _ _ _ _ _ _ _ _ _ _ _ _ _ _ _ _ _ _ _ _ _ _ _ _ _ _ _ _ _ _ _ _ _ _ _ _ _ _ _ _ _ _ _ _ _ _ _ _ _ _ _ _ _ _ _ _ _ _ _ _ _ _ _ _ _ _ _ _ _ _ _ _ _ _ _ _ _ _ _ _ _ _ _ _ _ _ _ _ q _ _ fC rd fT fR hX hT;obtain rfl:kt=2:=HKT.out;obtain⟨y0,y1⟩:=blk2 fT;have lyT:=aC fT
 by_cases hd1:1<dd
 ·have hdb:decide (dd>1)=true:=by simpa using hd1
  have HD2:=zq (show 2≤dd by omega);have hU4:MB=4*mkU dd:=HMB.out.symm.trans (ft _ (by omega));have hU0:=fd dd;obtain⟨U,hU⟩ : ∃U,mkU dd=U:=⟨_,rfl⟩
  rw[hU] at hU4 hU0;have HUU:=zq hU;have hMB1:4*U≤MB:=by omega
  have hMB2:MB≤4*U:=by omega
  clear hU hU4;have HLB:=zq (bI (s:=S.bool) HD2.out rfl);have HLI:=zq (bI (s:=S.int) HD2.out rfl);have HLS:=zq (bI HD2.out HSV.out)
  go_wp2_with fail
  refine(bo r (q) 2 _ rd.out (by omega) (by omega)).mono ?_;rintro e v1 ⟨jz,rfl,hjk0,hjk1,hrd,hb⟩;have zv1:=hb.size;(try simp only[World.size_alloc] at zv1);replace fT:=aw fT hb;replace fR:=aw fR hb;replace fC:=zqc fC hb;replace hX:=zq (hX.out.move (kpN hb (fun b hb=>hb.1)));replace hT:=zq (hT.out.move (kpN hb (fun b hb=>hb.1)));replace rd:=zq hrd;clear hrd;clear hb;clear hjk0 hjk1
  rcases Bool.eq_false_or_eq_true (jz==0) with hz0 | hz0
  ·go_wp2_with fail
   refine(bv _).mono ?_;rintro e v2 ⟨rfl,hb⟩;have zv2:=hb.size;(try simp only[World.size_alloc] at zv2);replace fT:=af fT hb;replace fR:=af fR hb;replace fC:=zqb fC hb;replace rd:=zq (rd.out.below hb);replace hX:=zq (hX.out.below hb);replace hT:=zq (hT.out.below hb);clear hb
   go_wp2_with fail
   refine(eR r _ S.int _ _ rd.out (ao.leafG 2) rfl (by omega)).mono ?_;rintro e v3 ⟨s2,v,qs,rfl,hvs2,hv,hqs,hrd,hb⟩;obtain⟨kb,ab,nb,qb,rfl⟩:=hv.shape;have hB_':=hv.rg;clear hv;have zv3:=hb.size;(try simp only[World.size_alloc] at zv3);replace fT:=aw fT hb;replace fR:=aw fR hb;replace fC:=zqc fC hb;replace hX:=zq (hX.out.move (kpN hb (fun b hb=>hb.1)));replace hT:=zq (hT.out.move (kpN hb (fun b hb=>hb.1)));replace rd:=zq hrd;clear hrd;clear hb;have hB_:=hB_';clear hB_';have HL2:=zq (bI HD2.out hvs2)
   go_wp2_with fail
   refine(HIH.out (s2) l (cQ HD2.out HSV.out hvs2) hvs2 HOK.out (by omega) HNL.out _ _ _ _ rd.out (hX.out.move (.weaken fun b h _=>h.1)) HCV.out (hB_.out.move (.weaken fun b h _=>by have h1:=h.1;intro e;omega)) (by have h1:=HL2.out;have h0:=HUU.out;omega)).mono ?_;rintro e v4 ⟨t2,v,q2,rfl,hcn2,hv,hq2,hrd,hb⟩;obtain⟨kt2,nm2,ut2,tk2,ta2,tn2,tq2,fk2,fa2,fn2,fq2,lt2,ct2,mt2,qt2,rfl⟩:=hv.shape;have HC2:=zq hcn2;have h2_':=hv.rg;clear hv hcn2;have zv4:=hb.size;(try simp only[World.size_alloc] at zv4);replace fT:=aw fT hb;replace fR:=aw fR hb;replace fC:=zqc fC hb;replace hX:=zq (hX.out.move (kpN hb (fun b hb=>hb.1)));replace hT:=zq (hT.out.move (kpN hb (fun b hb=>hb.1)));replace hB_:=zq (hB_.out.move (kpN hb (fun b hb=>by have h1:=hb.1;have h2:=hb.2;omega)));replace rd:=zq hrd;clear hrd;clear hb;have h2_:=h2_';clear h2_'
   go_wp2_with fail
   refine(bv _).mono ?_;rintro e v5 ⟨rfl,hb⟩;have zv5:=hb.size;(try simp only[World.size_alloc] at zv5);replace fT:=af fT hb;replace fR:=af fR hb;replace fC:=zqb fC hb;replace rd:=zq (rd.out.below hb);replace hX:=zq (hX.out.below hb);replace hT:=zq (hT.out.below hb);replace hB_:=zq (hB_.out.below hb);replace h2_:=zq (h2_.out.below hb);clear hb
   go_wp2_with fail
   refine(HIH.out (S.int) l (cQ HD2.out HSV.out rfl) rfl HOK.out (by omega) HNL.out _ _ _ _ rd.out (hX.out.move (.weaken fun b h _=>h.1)) HCV.out (ao.leafG 2) (by have h1:=HLB.out;have h2:=HLS.out;have h3:=HLI.out;have h0:=HUU.out;have h4:=HL2.out;omega)).mono ?_;rintro e v6 ⟨t3,v,q3,rfl,hcn3,hv,hq3,hrd,hb⟩;obtain⟨kt3,nm3,ut3,tk3,ta3,tn3,tq3,fk3,fa3,fn3,fq3,lt3,ct3,mt3,qt3,rfl⟩:=hv.shape;have HC3:=zq hcn3;have h3_':=hv.rg;clear hv hcn3;have zv6:=hb.size;(try simp only[World.size_alloc] at zv6);replace fT:=aw fT hb;replace fR:=aw fR hb;replace fC:=zqc fC hb;replace hX:=zq (hX.out.move (kpN hb (fun b hb=>hb.1)));replace hT:=zq (hT.out.move (kpN hb (fun b hb=>hb.1)));replace hB_:=zq (hB_.out.move (kpN hb (fun b hb=>by have h1:=hb.1;have h2:=hb.2;omega)));replace h2_:=zq (h2_.out.move (kpN hb (fun b hb=>by have h1:=hb.1;have h2:=hb.2;omega)));replace rd:=zq hrd;clear hrd;clear hb;have h3_:=h3_';clear h3_'
   go_wp2_with fail
   obtain⟨v7,hXq,hb,fL,zv7a,zv7b⟩:=aU v6 (.cells #[.int .i64 kt2,.string nm2,.int .i64 ut2,.int .i64 tk2,.slice ta2 tn2 tq2,.int .i64 fk2,.slice fa2 fn2 fq2,.int .i64 lt2,.slice ct2 mt2 qt2,.int .i64 kt3,.string nm3,.int .i64 ut3,.int .i64 tk3,.slice ta3 tn3 tq3,.int .i64 fk3,.slice fa3 fn3 fq3,.int .i64 lt3,.slice ct3 mt3 qt3] 28);rw[hXq];replace fT:=af fT hb;replace fR:=af fR hb;replace fC:=zqb fC hb;replace rd:=zq (rd.out.below hb);replace hX:=zq (hX.out.below hb);replace hT:=zq (hT.out.below hb);replace hB_:=zq (hB_.out.below hb);replace h2_:=zq (h2_.out.below hb);replace h3_:=zq (h3_.out.below hb);clear hb hXq;refine(cR 7 _ _ _ _).mono ?_;rintro e v8 ⟨rfl,hb⟩;have zv8:=hb.size;(try simp only[World.size_alloc] at zv8);replace fT:=af fT hb;replace fR:=af fR hb;replace fC:=zqb fC hb;replace rd:=zq (rd.out.below hb);replace hX:=zq (hX.out.below hb);replace hT:=zq (hT.out.below hb);replace hB_:=zq (hB_.out.below hb);replace h2_:=zq (h2_.out.below hb);replace h3_:=zq (h3_.out.below hb);replace fL:=af fL hb;clear hb;obtain⟨x0,f0,x1,f1,x2,f2,x3,f3,x4,f4,x5,f5,x6,f6,x7,f7,x8,f8⟩:=blk9f fR;have lxR:=aC fR;have h1:=HLB.out;have h2:=HLS.out;have h3:=HLI.out;have h0:=HUU.out;have h5:=HL2.out;have hks:aN (w.heap.size+1+1 ≤ ·) v8 [t2,t3] (.slice (some ⟨v6.heap.size,0,none⟩) 2 2):=aN.blk (by show w.heap.size+1+1≤_;omega) fL rfl (by unfold maxLen;omega) (aS.c2 (h2_.out.move (.weaken fun b h _=>by have h1:=h.1;show w.heap.size+1+1≤b;omega)).srep (h3_.out.move (.weaken fun b h _=>by have h1:=h.1;show w.heap.size+1+1≤b;omega)).srep);have hRR:ax (w.heap.size+1+1 ≤ ·) v8 (Tm.mk 7 {data:=#[]} 0 (.mk 0 []) (.mk 0 []) 0 [t2,t3]) (.agg #[.int .i64 7,.string {data:=#[]},.int .i64 0,.int .i64 0,.slice none 0 0,.int .i64 0,.slice none 0 0,.int .i64 0,.slice (some ⟨v6.heap.size,0,none⟩) 2 2]):=ax.mk bi ⟨_,rfl,aA.nil0⟩ ⟨_,rfl,aA.nil0⟩ hks;have hcc:(Tm.mk 7 {data:=#[]} 0 (.mk 0 []) (.mk 0 []) 0 [t2,t3]).cnt≤MB:=by
    have g1:=HC2.out;have g2:=HC3.out;(try simp only[Tm.cnt,Tm.cnts,Ty.cnt,Ty.cnts,List.length_cons,List.length_nil,show({data:=#[]}:ByteArray).size=0 from rfl])
    omega
   have HEND:=zq (DTm.stored (p:=p) (r:=r) (w:=w) (R:=w.heap.size+1) (B:=w.heap.size+1+1) (c:=MB) (m:=MB) (v0:=.int .i64 7) (v1:=.string {data:=#[]}) (v2:=.int .i64 0) (v3:=.int .i64 0) (v4:=.slice none 0 0) (v5:=.int .i64 0) (v6:=.slice none 0 0) (v7:=.int .i64 0) (v8:=.slice (some ⟨v6.heap.size,0,none⟩) 2 2) hRR hcc (by omega) (by omega) rd.out fC.out (by omega) (by omega) (by omega));clear hRR hcc;(try clear hks);(try clear hN);(try clear fL)
   go_wp2_with fail
   refine bodyPost_ret (v:=.agg #[.int .i64 7,.string {data:=#[]},.int .i64 0,.int .i64 0,.slice none 0 0,.int .i64 0,.slice none 0 0,.int .i64 0,.slice (some ⟨v6.heap.size,0,none⟩) 2 2]) (by simp[results,Tryz.results51,go_sem,x0,x1,x2,x3,x4,x5,x6,x7,x8]) rfl ?_
   exact HEND.out
  ·go_wp2_with fail
   refine(bJ (fun _=>True) r (q+1) _ 5 5 _ (rd.out.below ai) (by omega) (by omega) (by omega) (Nat.le_refl _) (by omega) (bp [1,2,0,999,5] rfl _ (fun _ _=>trivial))).mono ?_;rintro e v9 ⟨nn,rfl,-,hrd,hb0⟩;have hb:=Chg.trans (Chg.of_below (ai (w:=v1))) hb0;clear hb0;have zv9:=hb.size;(try simp only[World.size_alloc] at zv9);replace fT:=aw fT hb;replace fR:=aw fR hb;replace fC:=zqc fC hb;replace hX:=zq (hX.out.move (kpN hb (fun b hb=>hb.1)));replace hT:=zq (hT.out.move (kpN hb (fun b hb=>hb.1)));replace rd:=zq hrd;clear hrd;clear hb
   go_wp2_with fail
   refine(cS nn _).mono ?_;rintro e v9n ⟨rfl,hb⟩;have zv9n:=hb.size;(try simp only[World.size_alloc] at zv9n);replace fT:=af fT hb;replace fR:=af fR hb;replace fC:=zqb fC hb;replace rd:=zq (rd.out.below hb);replace hX:=zq (hX.out.below hb);replace hT:=zq (hT.out.below hb);clear hb;obtain⟨x0,f0,x1,f1,x2,f2,x3,f3,x4,f4,x5,f5,x6,f6,x7,f7,x8,f8⟩:=blk9f fR;have lxR:=aC fR;have hRR:ax (w.heap.size+1+1 ≤ ·) v9n (Tm.mk 2 {data:=#[]} nn (.mk 0 []) (.mk 0 []) 0 []) (.agg #[.int .i64 2,.string {data:=#[]},.int .i64 nn,.int .i64 0,.slice none 0 0,.int .i64 0,.slice none 0 0,.int .i64 0,.slice none 0 0]):=ax.leaf0 2 nn bi;have hcc:(Tm.mk 2 {data:=#[]} nn (.mk 0 []) (.mk 0 []) 0 []).cnt≤MB:=by
    (try simp only[Tm.cnt,Tm.cnts,Ty.cnt,Ty.cnts,List.length_cons,List.length_nil,show({data:=#[]}:ByteArray).size=0 from rfl])
    omega
   have HEND:=zq (DTm.stored (p:=p) (r:=r) (w:=w) (R:=w.heap.size+1) (B:=w.heap.size+1+1) (c:=MB) (m:=MB) (v0:=.int .i64 2) (v1:=.string {data:=#[]}) (v2:=.int .i64 nn) (v3:=.int .i64 0) (v4:=.slice none 0 0) (v5:=.int .i64 0) (v6:=.slice none 0 0) (v7:=.int .i64 0) (v8:=.slice none 0 0) hRR hcc (by omega) (by omega) rd.out fC.out (by omega) (by omega) (by omega));clear hRR hcc;(try clear hks);(try clear hN);(try clear fL)
   go_wp2_with fail
   refine bodyPost_ret (v:=.agg #[.int .i64 2,.string {data:=#[]},.int .i64 nn,.int .i64 0,.slice none 0 0,.int .i64 0,.slice none 0 0,.int .i64 0,.slice none 0 0]) (by simp[results,Tryz.results51,go_sem,x0,x1,x2,x3,x4,x5,x6,x7,x8]) rfl ?_
   exact HEND.out
 ·have hdb:decide (dd>1)=false:=by simpa using hd1
  go_wp2_with fail
  refine(bJ (fun _=>True) r (q) _ 5 5 _ (rd.out.below ai) (by omega) (by omega) (by omega) (Nat.le_refl _) (by omega) (bp [1,2,0,999,5] rfl _ (fun _ _=>trivial))).mono ?_;rintro e v9 ⟨nn,rfl,-,hrd,hb0⟩;have hb:=Chg.trans (Chg.of_below (ai (w:=wc))) hb0;clear hb0;have zv9:=hb.size;(try simp only[World.size_alloc] at zv9);replace fT:=aw fT hb;replace fR:=aw fR hb;replace fC:=zqc fC hb;replace hX:=zq (hX.out.move (kpN hb (fun b hb=>hb.1)));replace hT:=zq (hT.out.move (kpN hb (fun b hb=>hb.1)));replace rd:=zq hrd;clear hrd;clear hb
  go_wp2_with fail
  refine(cS nn _).mono ?_;rintro e v9n ⟨rfl,hb⟩;have zv9n:=hb.size;(try simp only[World.size_alloc] at zv9n);replace fT:=af fT hb;replace fR:=af fR hb;replace fC:=zqb fC hb;replace rd:=zq (rd.out.below hb);replace hX:=zq (hX.out.below hb);replace hT:=zq (hT.out.below hb);clear hb;obtain⟨x0,f0,x1,f1,x2,f2,x3,f3,x4,f4,x5,f5,x6,f6,x7,f7,x8,f8⟩:=blk9f fR;have lxR:=aC fR;have hRR:ax (w.heap.size+1+1 ≤ ·) v9n (Tm.mk 2 {data:=#[]} nn (.mk 0 []) (.mk 0 []) 0 []) (.agg #[.int .i64 2,.string {data:=#[]},.int .i64 nn,.int .i64 0,.slice none 0 0,.int .i64 0,.slice none 0 0,.int .i64 0,.slice none 0 0]):=ax.leaf0 2 nn bi;have hcc:(Tm.mk 2 {data:=#[]} nn (.mk 0 []) (.mk 0 []) 0 []).cnt≤MB:=by
   (try simp only[Tm.cnt,Tm.cnts,Ty.cnt,Ty.cnts,List.length_cons,List.length_nil,show({data:=#[]}:ByteArray).size=0 from rfl])
   omega
  have HEND:=zq (DTm.stored (p:=p) (r:=r) (w:=w) (R:=w.heap.size+1) (B:=w.heap.size+1+1) (c:=MB) (m:=MB) (v0:=.int .i64 2) (v1:=.string {data:=#[]}) (v2:=.int .i64 nn) (v3:=.int .i64 0) (v4:=.slice none 0 0) (v5:=.int .i64 0) (v6:=.slice none 0 0) (v7:=.int .i64 0) (v8:=.slice none 0 0) hRR hcc (by omega) (by omega) rd.out fC.out (by omega) (by omega) (by omega));clear hRR hcc;(try clear hks);(try clear hN);(try clear fL)
  go_wp2_with fail
  refine bodyPost_ret (v:=.agg #[.int .i64 2,.string {data:=#[]},.int .i64 nn,.int .i64 0,.slice none 0 0,.int .i64 0,.slice none 0 0,.int .i64 0,.slice none 0 0]) (by simp[results,Tryz.results51,go_sem,x0,x1,x2,x3,x4,x5,x6,x7,x8]) rfl ?_
  exact HEND.out
def rA:Oper:=⟨some 165,.move (.tmp 0),46,"l3_typing.go:218",#[],none⟩
def rB:Oper:=⟨some 166,.move (.tmp 1),96,"l3_typing.go:218",#[],none⟩
def rC:Oper:=⟨some 167,.fieldAddr 25 (.tmp 6) 1,0,"l3_typing.go:218",#[],none⟩
def rD:Oper:=⟨some 168,.load 23 (.tmp 167),23,"l3_typing.go:218",#[⟨2,.data⟩],none⟩
def rE:Oper:=⟨some 169,.indexAddr 23 (.tmp 168) (.const (.int .i64 0)),0,"l3_typing.go:218",#[⟨3,.data⟩],none⟩
def rF:Oper:=⟨some 170,.load 25 (.tmp 169),25,"l3_typing.go:218",#[⟨4,.data⟩],none⟩
def rG:Oper:=⟨some 171,.move (.tmp 3),3,"l3_typing.go:218",#[],none⟩
def rH:Oper:=⟨some 172,.binOp .sub 3 (.tmp 171) (.const (.int .i64 1)) 3,3,"l3_typing.go:218",#[⟨6,.data⟩],none⟩
def rI:Oper:=⟨some 173,.call {callee:=.value (.func 51),args:=#[.tmp 165,.tmp 166,.tmp 170,.tmp 172],argTypes:=#[46,96,25,3]},28,"l3_typing.go:218",#[⟨0,.data⟩,⟨1,.data⟩,⟨5,.data⟩,⟨7,.data⟩],none⟩
def rJ:Oper:=⟨some 174,.move (.tmp 0),46,"l3_typing.go:218",#[],none⟩
def nq:Oper:=⟨some 175,.move (.tmp 1),96,"l3_typing.go:218",#[],none⟩
def ns:Oper:=⟨some 176,.fieldAddr 25 (.tmp 6) 1,0,"l3_typing.go:218",#[],none⟩
def nu:Oper:=⟨some 177,.load 23 (.tmp 176),23,"l3_typing.go:218",#[⟨11,.data⟩],none⟩
def nv:Oper:=⟨some 178,.indexAddr 23 (.tmp 177) (.const (.int .i64 1)),0,"l3_typing.go:218",#[⟨12,.data⟩],none⟩
def nw:Oper:=⟨some 179,.load 25 (.tmp 178),25,"l3_typing.go:218",#[⟨13,.data⟩],none⟩
def ny:Oper:=⟨some 180,.move (.tmp 3),3,"l3_typing.go:218",#[],none⟩
def nz:Oper:=⟨some 181,.binOp .sub 3 (.tmp 180) (.const (.int .i64 1)) 3,3,"l3_typing.go:218",#[⟨15,.data⟩],none⟩
def nA:Oper:=⟨some 182,.call {callee:=.value (.func 51),args:=#[.tmp 174,.tmp 175,.tmp 179,.tmp 181],argTypes:=#[46,96,25,3]},28,"l3_typing.go:218",#[⟨9,.data⟩,⟨10,.data⟩,⟨14,.data⟩,⟨16,.data⟩,⟨8,.chain⟩],none⟩
def nB:Oper:=⟨some 183,.buildSlice 26 2 #[(0,.tmp 173),(1,.tmp 182)],26,"l3_typing.go:218",#[⟨8,.data⟩,⟨17,.data⟩],none⟩
def nC:Oper:=⟨some 184,.call {callee:=.value (.func 84),args:=#[.const (.int .i64 10),.tmp 183],argTypes:=#[3,26]},28,"l3_typing.go:218",#[⟨18,.data⟩,⟨17,.chain⟩],none⟩
def nD:Oper:=⟨none,.store 28 (.tmp 8) (.tmp 184),0,"l3_typing.go:218",#[⟨19,.data⟩,⟨19,.chain⟩,⟨0,.phase⟩,⟨1,.phase⟩,⟨2,.phase⟩,⟨3,.phase⟩,⟨4,.phase⟩,⟨5,.phase⟩,⟨6,.phase⟩,⟨7,.phase⟩,⟨8,.phase⟩,⟨9,.phase⟩,⟨10,.phase⟩,⟨11,.phase⟩,⟨12,.phase⟩,⟨13,.phase⟩,⟨14,.phase⟩,⟨15,.phase⟩,⟨16,.phase⟩,⟨17,.phase⟩,⟨18,.phase⟩,⟨19,.phase⟩],none⟩
theorem mkWpr (dd:Int)(r p:Nat)(l:List Bd)(w:World)(kt:Int)(ta:Option Addr)(tn tq:Nat)(xa:Option Addr)(xn xq:Nat)(a b:S):(dV dd (S.pr a b) r p l w kt ta tn tq xa xn xq).1.2.2.2.2:=by
 intro _ _ _ _ _ _ _ _ HWK _ _ _ HNL HCV HOK HSV HIH _ HKT _ MB _ _ HMB _ _ _ _ _ _ _ _ _ _ _ _ _ _ _ _ _ _ _ _ _ _ _ _ _ _ _ _ _ _ _ _ _ _ _ _ _ _ _ _ _ _ wc _ _ _ _ _ _ _ _ _ _ _ _ _ _ _ _ _ _ _ _ _ _ _ _ _ _ _ _ _ _ _ _ _ _ _ _ _ _ _ _ _ _ _ _ _ _ _ _ _ _ _ _ _ _ _ _ _ _ _ _ _ _ _ _ _ _ _ _ _ _ _ _ _ _ _ _ _ _ _ _ _ _ _ _ _ _ _ _ _ _ _ _ _ _ _ _ _ _ _ _ _ _ _ _ _ _ _ _ _ _ _ _ _ _ _ _ _ _ _ _ _ _ _ _ _ _ _ _ _ _ _ _ _ _ _ _ _ _ _ _ _ _ _ _ _ _ _ _ _ _ _ _ _ _ _ _ _ _ _ _ _ _ _ _ _ _ _ _ _ _ _ _ _ _ _ _ _ _ _ _ _ _ _ _ _ _ _ _ _ _ _ _ _ _ _ _ _ _ _ _ _ _ _ _ _ _ _ _ _ _ _ _ _ _ _ _ _ _ _ _ _ fC rd fT fR hX hT;obtain rfl:kt=5:=HKT.out;have hT0:=hT.out;obtain⟨-,hks0⟩:=ao.pairK hT0;obtain⟨b2,off2,cap2,k5,c5,m5,q5,k6,c6,m6,q6,hsl,-,-,hlb2,e5a,e5b,e6a,e6b,ht5,ht6⟩:=hks0.two;simp only[Value.slice.injEq] at hsl;obtain⟨rfl,rfl,rfl⟩:=hsl;have hbF:=hks0.blkT (by simp);have hbr:b2≠r:=hbF.1;have hbw:b2<w.heap.size:=hbF.2;have HVA:=zq (show a.vd=true∧b.vd=true from hI HSV.out);have HB0:=zq (mkB_pr (d:=dd) HSV.out);have h5_:=zq ht5;have h6_:=zq ht6;clear hT0 hks0 hbF ht5 ht6;have c5a_:=e5a;have c5b_:=e5b;have c6a_:=e6a;have c6b_:=e6b;clear e5a e5b e6a e6b;obtain⟨y0,y1⟩:=blk2 fT;have lyT:=aC fT
 go_wp2_with fail
 clear y0 y1 lyT;refine wp_region_noPanic ?_;refine wp_region_held_drew (S:=fun w'=>w'.cell? ⟨w.heap.size,1,none⟩=some (.slice (some ⟨b2,off2,none⟩) 2 tq)∧w'.cell? ⟨b2,off2,none⟩=some (.int .i64 k5)∧w'.cell? ⟨b2,off2+1,none⟩=some (.slice c5 m5 q5)∧w'.cell? ⟨b2,off2+2,none⟩=some (.int .i64 k6)∧w'.cell? ⟨b2,off2+3,none⟩=some (.slice c6 m6 q6)) (by kernel_rfl) ?_ (fun hH0=>?_)
 ·exact⟨ag fT rfl,c5a_,c5b_,c6a_,c6b_⟩
 obtain⟨U5,hU,hb,zU5a,zU5b⟩:=bD wc;rw[hU] at hH0 ⊢;replace fT:=af fT hb;replace fR:=af fR hb;replace fC:=zqb fC hb;replace rd:=zq (rd.out.below hb);replace hX:=zq (hX.out.below hb);replace hT:=zq (hT.out.below hb);replace c5a_:=ah hb c5a_;replace c5b_:=ah hb c5b_;replace h5_:=zq (h5_.out.below hb);replace c6a_:=ah hb c6a_;replace c6b_:=ah hb c6b_;replace h6_:=zq (h6_.out.below hb);(try simp only[World.size_alloc] at zU5a zU5b);clear hU hb;refine hwt 0 rA (.pointer (some ⟨r,0,none⟩)) hH0 ?_ ?_
 ·intro w' hSw;dsimp only[rA];go_simp
 try simp only[rA,hwA]
 refine hwt 1 rB (.slice xa xn xq) hH0 ?_ ?_
 ·intro w' hSw;dsimp only[rB];go_simp
 try simp only[rB,hwA]
 refine hwt 2 rC (.pointer (some ⟨w.heap.size,1,none⟩)) hH0 ?_ ?_
 ·intro w' hSw;dsimp only[rC];go_simp
 try simp only[rC,hwA]
 refine hwt 3 rD (.slice (some ⟨b2,off2,none⟩) 2 tq) hH0 ?_ ?_
 ·intro w' hSw;dsimp only[rD];go_simp
 try simp only[rD,hwA]
 refine hwt 4 rE (.pointer (some ⟨b2,off2,none⟩)) hH0 ?_ ?_
 ·intro w' hSw;dsimp only[rE];go_simp
 try simp only[rE,hwA]
 refine hwt 5 rF (.agg #[.int .i64 k5,.slice c5 m5 q5]) hH0 ?_ ?_
 ·intro w' hSw;dsimp only[rF];go_simp
 try simp only[rF,hwA]
 refine hwt 6 rG (.int .i64 dd) hH0 ?_ ?_
 ·intro w' hSw;dsimp only[rG];go_simp
 try simp only[rG,hwA]
 refine hwt 7 rH (.int .i64 (dd-1)) hH0 ?_ ?_
 ·intro w' hSw;dsimp only[rH];go_simp;exact HWK.out
 try simp only[rH,hwA]
 refine hwt 9 rJ (.pointer (some ⟨r,0,none⟩)) hH0 ?_ ?_
 ·intro w' hSw;dsimp only[rJ];go_simp
 try simp only[rJ,hwA]
 refine hwt 10 nq (.slice xa xn xq) hH0 ?_ ?_
 ·intro w' hSw;dsimp only[nq];go_simp
 try simp only[nq,hwA]
 refine hwt 11 ns (.pointer (some ⟨w.heap.size,1,none⟩)) hH0 ?_ ?_
 ·intro w' hSw;dsimp only[ns];go_simp
 try simp only[ns,hwA]
 refine hwt 12 nu (.slice (some ⟨b2,off2,none⟩) 2 tq) hH0 ?_ ?_
 ·intro w' hSw;dsimp only[nu];go_simp
 try simp only[nu,hwA]
 refine hwt 13 nv (.pointer (some ⟨b2,off2+2,none⟩)) hH0 ?_ ?_
 ·intro w' hSw;dsimp only[nv];go_simp
 try simp only[nv,hwA]
 refine hwt 14 nw (.agg #[.int .i64 k6,.slice c6 m6 q6]) hH0 ?_ ?_
 ·intro w' hSw;dsimp only[nw];go_simp
 try simp only[nw,hwA]
 refine hwt 15 ny (.int .i64 dd) hH0 ?_ ?_
 ·intro w' hSw;dsimp only[ny];go_simp
 try simp only[ny,hwA]
 refine hwt 16 nz (.int .i64 (dd-1)) hH0 ?_ ?_
 ·intro w' hSw;dsimp only[nz];go_simp;exact HWK.out
 try simp only[nz,hwA]
 refine hwr 8 rI (fun K hK=>?_)
 dsimp only[rI];go_simp
 go_at_call 51
 refine(HIH.out (a) l (mi (by simp[S.dep];omega)) HVA.out.1 HOK.out (by omega) HNL.out _ _ _ _ rd.out (hX.out.move (.weaken fun b h _=>h.1)) HCV.out (h5_.out.move (.weaken fun b h _=>h.1)) (by have h1:=HB0.out;have h2:=HMB.out;omega)).mono ?_;rintro e X1801 ⟨t2,v,q2,rfl,hcn2,hv,hq2,hrd,hb⟩;obtain⟨kt2,nm2,ut2,tk2,ta2,tn2,tq2,fk2,fa2,fn2,fq2,lt2,ct2,mt2,qt2,rfl⟩:=hv.shape;have HC2:=zq hcn2;clear hcn2;have h2_':=hv.rg;have rd':Hid (aQ X1801 r q2):=zq hrd;clear hv hrd
 go_wp2_with fail
 have zX1801:U5.heap.size≤X1801.heap.size:=hb.size;replace fT:=aw fT hb;replace fR:=aw fR hb;replace fC:=zqc fC hb;replace hX:=zq (hX.out.move (kpN hb (fun b hb=>hb.1)));replace hT:=zq (hT.out.move (kpN hb (fun b hb=>hb.1)));replace c5a_:=aK hb (by omega) c5a_;replace c5b_:=aK hb (by omega) c5b_;replace h5_:=zq (h5_.out.move (kpN hb (fun b hb=>hb.1)));replace c6a_:=aK hb (by omega) c6a_;replace c6b_:=aK hb (by omega) c6b_;replace h6_:=zq (h6_.out.move (kpN hb (fun b hb=>hb.1)));have h2_:=h2_';clear h2_';clear rd;have rd:=rd';clear rd';refine hK.out _ _ ⟨ag fT rfl,c5a_,c5b_,c6a_,c6b_⟩ (fun hH1801=>?_);clear hK K hH0 hb
 try simp only[rI,hwA]
 refine hwr 17 nA (fun K hK=>?_)
 dsimp only[nA];go_simp
 go_at_call 51
 refine(HIH.out (b) l (mi (by simp[S.dep];omega)) HVA.out.2 HOK.out (by omega) HNL.out _ _ _ _ rd.out (hX.out.move (.weaken fun b h _=>h.1)) HCV.out (h6_.out.move (.weaken fun b h _=>h.1)) (by have h1:=HB0.out;have h2:=HMB.out;omega)).mono ?_;rintro e X1802 ⟨t3,v,q3,rfl,hcn3,hv,hq3,hrd,hb⟩;obtain⟨kt3,nm3,ut3,tk3,ta3,tn3,tq3,fk3,fa3,fn3,fq3,lt3,ct3,mt3,qt3,rfl⟩:=hv.shape;have HC3:=zq hcn3;clear hcn3;have h3_':=hv.rg;have rd':Hid (aQ X1802 r q3):=zq hrd;clear hv hrd
 go_wp2_with fail
 have zX1802:X1801.heap.size≤X1802.heap.size:=hb.size;replace fT:=aw fT hb;replace fR:=aw fR hb;replace fC:=zqc fC hb;replace hX:=zq (hX.out.move (kpN hb (fun b hb=>hb.1)));replace hT:=zq (hT.out.move (kpN hb (fun b hb=>hb.1)));replace c5a_:=aK hb (by omega) c5a_;replace c5b_:=aK hb (by omega) c5b_;replace h5_:=zq (h5_.out.move (kpN hb (fun b hb=>hb.1)));replace c6a_:=aK hb (by omega) c6a_;replace c6b_:=aK hb (by omega) c6b_;replace h6_:=zq (h6_.out.move (kpN hb (fun b hb=>hb.1)));replace h2_:=zq (h2_.out.move (kpN hb (fun b hb=>by have h1:=hb.1;have h2:=hb.2;omega)));have h3_:=h3_';clear h3_';clear rd;have rd:=rd';clear rd';refine hK.out _ _ ⟨ag fT rfl,c5a_,c5b_,c6a_,c6b_⟩ (fun hH1802=>?_);clear hK K hH1801 hb
 try simp only[nA,hwA]
 refine hwr 18 nB (fun K hK=>?_)
 dsimp only[nB];go_simp
 (try go_wp2_with fail);obtain⟨X1803,hXq,hb,fL,zX1803a,zX1803b⟩:=aU X1802 (.cells #[.int .i64 kt2,.string nm2,.int .i64 ut2,.int .i64 tk2,.slice ta2 tn2 tq2,.int .i64 fk2,.slice fa2 fn2 fq2,.int .i64 lt2,.slice ct2 mt2 qt2,.int .i64 kt3,.string nm3,.int .i64 ut3,.int .i64 tk3,.slice ta3 tn3 tq3,.int .i64 fk3,.slice fa3 fn3 fq3,.int .i64 lt3,.slice ct3 mt3 qt3] 28);rw[hXq];replace fT:=af fT hb;replace fR:=af fR hb;replace fC:=zqb fC hb;replace rd:=zq (rd.out.below hb);replace hX:=zq (hX.out.below hb);replace hT:=zq (hT.out.below hb);replace c5a_:=ah hb c5a_;replace c5b_:=ah hb c5b_;replace h5_:=zq (h5_.out.below hb);replace c6a_:=ah hb c6a_;replace c6b_:=ah hb c6b_;replace h6_:=zq (h6_.out.below hb);replace h2_:=zq (h2_.out.below hb);replace h3_:=zq (h3_.out.below hb);refine hK.out _ _ ⟨ag fT rfl,c5a_,c5b_,c6a_,c6b_⟩ (fun hH1803=>?_);clear hK K hH1802 hb hXq
 try simp only[nB,hwA]
 refine hwr 19 nC (fun K hK=>?_)
 dsimp only[nC];go_simp
 go_at_call 84
 refine(cR 10 _ _ _ _).mono ?_;rintro e X1804 ⟨rfl,hb⟩
 go_wp2_with fail
 have zX1804:X1803.heap.size≤X1804.heap.size:=hb.size;replace fT:=af fT hb;replace fR:=af fR hb;replace fC:=zqb fC hb;replace rd:=zq (rd.out.below hb);replace hX:=zq (hX.out.below hb);replace hT:=zq (hT.out.below hb);replace c5a_:=ah hb c5a_;replace c5b_:=ah hb c5b_;replace h5_:=zq (h5_.out.below hb);replace c6a_:=ah hb c6a_;replace c6b_:=ah hb c6b_;replace h6_:=zq (h6_.out.below hb);replace h2_:=zq (h2_.out.below hb);replace h3_:=zq (h3_.out.below hb);replace fL:=af fL hb;refine hK.out _ _ ⟨ag fT rfl,c5a_,c5b_,c6a_,c6b_⟩ (fun hH1804=>?_);clear hK K hH1803 hb
 try simp only[nC,hwA]
 refine hwr 20 nD (fun K hK=>?_);obtain⟨r0,rf0,r1,rf1,r2,rf2,r3,rf3,r4,rf4,r5,rf5,r6,rf6,r7,rf7,r8,rf8⟩:=blk9f fR
 dsimp only[nD];go_simp
 (try go_wp2_with fail);have hQq:=bL fR (.int .i64 10) (.string {data:=#[]}) (.int .i64 0) (.int .i64 0) (.slice none 0 0) (.int .i64 0) (.slice none 0 0) (.int .i64 0) (.slice (some ⟨X1802.heap.size,0,none⟩) 2 2);clear fR r0 rf0 r1 rf1 r2 rf2 r3 rf3 r4 rf4 r5 rf5 r6 rf6 r7 rf7 r8 rf8;obtain⟨X1805,hXq,hsq,fR,zX1805a,zX1805b⟩:=hQq;rw[hXq];replace fT:=hsq.blk (by omega) fT;replace fC:=zq (hsq.chg fC.out (by omega));replace rd:=zq (hsq.rd rd.out (by omega));replace hX:=zq (hX.out.move (hsq.keeps (fun b hb=>by have:=hb.2;omega)));replace hT:=zq (hsq.rep (fun b hb=>by have:=hb.2;omega) hT.out);replace c5a_:=hsq.cell (by show b2≠w.heap.size+1;omega) c5a_;replace c5b_:=hsq.cell (by show b2≠w.heap.size+1;omega) c5b_;replace h5_:=zq (hsq.rep (fun b hb=>by have:=hb.2;omega) h5_.out);replace c6a_:=hsq.cell (by show b2≠w.heap.size+1;omega) c6a_;replace c6b_:=hsq.cell (by show b2≠w.heap.size+1;omega) c6b_;replace h6_:=zq (hsq.rep (fun b hb=>by have:=hb.2;omega) h6_.out);replace h2_:=zq (h2_.out.move (hsq.keeps (fun b hb=>by have h1:=hb.1;have h2:=hb.2;omega)));replace h3_:=zq (h3_.out.move (hsq.keeps (fun b hb=>by have h1:=hb.1;have h2:=hb.2;omega)));replace fL:=hsq.blk (by omega) fL;refine hK.out _ _ ⟨ag fT rfl,c5a_,c5b_,c6a_,c6b_⟩ (fun hH1805=>?_);clear hK K hH1804 hsq hXq
 try simp only[nD,hwA]
 refine wpAnyH_done (by kernel_rfl) ?_ _;refine NoPanic.normal ?_;clear hH1805;obtain⟨rc0,rc1,rc2,rc3,rc4,rc5,rc6,rc7,rc8⟩:=blk9 fR
 go_wp2_with fail
 refine bodyPost_ret (v:=.agg #[.int .i64 10,.string {data:=#[]},.int .i64 0,.int .i64 0,.slice none 0 0,.int .i64 0,.slice none 0 0,.int .i64 0,.slice (some ⟨X1802.heap.size,0,none⟩) 2 2]) (by simp[results,Tryz.results51,go_sem,rc0,rc1,rc2,rc3,rc4,rc5,rc6,rc7,rc8]) rfl ?_;have h1:=HB0.out;have h2:=HMB.out;have hks:aN (w.heap.size ≤ ·) X1805 [t2,t3] (.slice (some ⟨X1802.heap.size,0,none⟩) 2 2):=aN.blk (by show w.heap.size≤_;omega) fL rfl (by unfold maxLen;omega) (aS.c2 (h2_.out.move (.weaken fun b h _=>by have h1:=h.1;show w.heap.size≤b;omega)).srep (h3_.out.move (.weaken fun b h _=>by have h1:=h.1;show w.heap.size≤b;omega)).srep);have hcc:(Tm.mk 10 {data:=#[]} 0 (.mk 0 []) (.mk 0 []) 0 [t2,t3]).cnt≤MB:=by
  have g1:=HC2.out;have g2:=HC3.out;(try simp only[Tm.cnt,Tm.cnts,Ty.cnt,Ty.cnts,List.length_cons,List.length_nil,show({data:=#[]}:ByteArray).size=0 from rfl])
  omega
 exact⟨Tm.mk 10 {data:=#[]} 0 (.mk 0 []) (.mk 0 []) 0 [t2,t3],_,q3,rfl,hcc,ax.mk bi ⟨_,rfl,aA.nil0⟩ ⟨_,rfl,aA.nil0⟩ hks,by omega,rd.out,fC.out⟩
end Go.Proofs.YtfahhonmiimmdaaGreat
