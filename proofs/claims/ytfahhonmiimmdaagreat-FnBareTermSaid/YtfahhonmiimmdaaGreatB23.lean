/- spec.l3Make: way 1 of a deep term. And what else its parts name. -/
import Derived.Test.YtfahhonmiimmdaaGreatMkH
set_option linter.unusedSimpArgs false
set_option linter.unusedVariables false
set_option maxRecDepth 100000
set_option maxHeartbeats 16000000
namespace Go.Proofs.YtfahhonmiimmdaaGreat
open Go.RowKit
def pB:Oper:=⟨some 68,.move (.tmp 0),46,"l3_typing.go:201",#[],none⟩
def pC:Oper:=⟨some 69,.move (.tmp 1),96,"l3_typing.go:201",#[],none⟩
def pD:Oper:=⟨some 70,.call {callee:=.value (.func 85),args:=#[],argTypes:=#[]},25,"l3_typing.go:201",#[],none⟩
def pE:Oper:=⟨some 71,.move (.tmp 3),3,"l3_typing.go:201",#[],none⟩
def pF:Oper:=⟨some 72,.binOp .sub 3 (.tmp 71) (.const (.int .i64 1)) 3,3,"l3_typing.go:201",#[⟨3,.data⟩],none⟩
def pG:Oper:=⟨some 73,.call {callee:=.value (.func 51),args:=#[.tmp 68,.tmp 69,.tmp 70,.tmp 72],argTypes:=#[46,96,25,3]},28,"l3_typing.go:201",#[⟨0,.data⟩,⟨1,.data⟩,⟨2,.data⟩,⟨4,.data⟩,⟨2,.chain⟩],none⟩
def pH:Oper:=⟨some 74,.move (.tmp 0),46,"l3_typing.go:201",#[],none⟩
def pI:Oper:=⟨some 75,.move (.tmp 1),96,"l3_typing.go:201",#[],none⟩
def pJ:Oper:=⟨some 76,.load 25 (.tmp 6),25,"l3_typing.go:201",#[],none⟩
def pK:Oper:=⟨some 77,.move (.tmp 3),3,"l3_typing.go:201",#[],none⟩
def lU:Oper:=⟨some 78,.binOp .sub 3 (.tmp 77) (.const (.int .i64 1)) 3,3,"l3_typing.go:201",#[⟨9,.data⟩],none⟩
def lW:Oper:=⟨some 79,.call {callee:=.value (.func 51),args:=#[.tmp 74,.tmp 75,.tmp 76,.tmp 78],argTypes:=#[46,96,25,3]},28,"l3_typing.go:201",#[⟨6,.data⟩,⟨7,.data⟩,⟨8,.data⟩,⟨10,.data⟩,⟨5,.chain⟩],none⟩
def lX:Oper:=⟨some 80,.move (.tmp 0),46,"l3_typing.go:201",#[],none⟩
def lY:Oper:=⟨some 81,.move (.tmp 1),96,"l3_typing.go:201",#[],none⟩
def lZ:Oper:=⟨some 82,.load 25 (.tmp 6),25,"l3_typing.go:201",#[],none⟩
def m4:Oper:=⟨some 83,.move (.tmp 3),3,"l3_typing.go:201",#[],none⟩
def m7:Oper:=⟨some 84,.binOp .sub 3 (.tmp 83) (.const (.int .i64 1)) 3,3,"l3_typing.go:201",#[⟨15,.data⟩],none⟩
def mc:Oper:=⟨some 85,.call {callee:=.value (.func 51),args:=#[.tmp 80,.tmp 81,.tmp 82,.tmp 84],argTypes:=#[46,96,25,3]},28,"l3_typing.go:201",#[⟨12,.data⟩,⟨13,.data⟩,⟨14,.data⟩,⟨16,.data⟩,⟨11,.chain⟩],none⟩
def me:Oper:=⟨some 86,.buildSlice 26 3 #[(0,.tmp 73),(1,.tmp 79),(2,.tmp 85)],26,"l3_typing.go:201",#[⟨5,.data⟩,⟨11,.data⟩,⟨17,.data⟩],none⟩
def mf:Oper:=⟨some 87,.call {callee:=.value (.func 84),args:=#[.const (.int .i64 9),.tmp 86],argTypes:=#[3,26]},28,"l3_typing.go:201",#[⟨18,.data⟩,⟨17,.chain⟩],none⟩
def mg:Oper:=⟨none,.store 28 (.tmp 8) (.tmp 87),0,"l3_typing.go:201",#[⟨19,.data⟩,⟨19,.chain⟩,⟨0,.phase⟩,⟨1,.phase⟩,⟨2,.phase⟩,⟨3,.phase⟩,⟨4,.phase⟩,⟨5,.phase⟩,⟨6,.phase⟩,⟨7,.phase⟩,⟨8,.phase⟩,⟨9,.phase⟩,⟨10,.phase⟩,⟨11,.phase⟩,⟨12,.phase⟩,⟨13,.phase⟩,⟨14,.phase⟩,⟨15,.phase⟩,⟨16,.phase⟩,⟨17,.phase⟩,⟨18,.phase⟩,⟨19,.phase⟩],none⟩
theorem mkW1 (dd:Int)(s:S)(r p:Nat)(l:List Bd)(w:World)(kt:Int)(ta:Option Addr)(tn tq:Nat)(xa:Option Addr)(xn xq:Nat):(dS dd s r p l w kt ta tn tq xa xn xq).1.2.1:=by
 intro _ _ _ _ _ _ _ _ HWK _ _ _ HNL HCV HOK HSV HIH _ _ _ MB _ _ _ _ _ _ _ _ _ _ _ _ _ _ _ _ _ _ _ _ _ _ _ _ _ _ _ _ _ _ _ _ _ _ _ _ _ _ _ _ _ _ _ h0 _ _ _ _ _ _ _ _ _ _ _ HD2 _ _ HUU _ _ HLB HLI HLS _ w1 _ _ fT fR fC hX hT rd _ _ _ _;refine wp_region_noPanic ?_;refine wp_region_held_drew (S:=fun w'=>w'.cell? ⟨w.heap.size,0,none⟩=some (.int .i64 kt)∧w'.cell? ⟨w.heap.size,1,none⟩=some (.slice ta tn tq)) (by kernel_rfl) ?_ (fun hH0=>?_)
 ·exact⟨ah fT rfl,ah fT rfl⟩
 obtain⟨U2,hU,hb,zU2a,zU2b⟩:=bK w1;rw[hU] at hH0 ⊢;replace fT:=ag fT hb;replace fR:=ag fR hb;replace fC:=zqb fC hb;replace rd:=zq (rd.out.below hb);replace hX:=zq (hX.out.below hb);replace hT:=zq (hT.out.below hb);(try simp only[World.size_alloc] at zU2a zU2b);clear hU hb;refine hwt 0 pB (.pointer (some ⟨r,0,none⟩)) hH0 ?_ ?_
 ·intro w' hSw;dsimp only[pB];go_simp
 try simp only[pB,hwA]
 refine hwt 1 pC (.slice xa xn xq) hH0 ?_ ?_
 ·intro w' hSw;dsimp only[pC];go_simp
 try simp only[pC,hwA]
 refine hwt 3 pE (.int .i64 dd) hH0 ?_ ?_
 ·intro w' hSw;dsimp only[pE];go_simp
 try simp only[pE,hwA]
 refine hwt 4 pF (.int .i64 (dd-1)) hH0 ?_ ?_
 ·intro w' hSw;dsimp only[pF];go_simp;exact HWK.out
 try simp only[pF,hwA]
 refine hwt 6 pH (.pointer (some ⟨r,0,none⟩)) hH0 ?_ ?_
 ·intro w' hSw;dsimp only[pH];go_simp
 try simp only[pH,hwA]
 refine hwt 7 pI (.slice xa xn xq) hH0 ?_ ?_
 ·intro w' hSw;dsimp only[pI];go_simp
 try simp only[pI,hwA]
 refine hwt 8 pJ (.agg #[.int .i64 kt,.slice ta tn tq]) hH0 ?_ ?_
 ·intro w' hSw;dsimp only[pJ];go_simp
 try simp only[pJ,hwA]
 refine hwt 9 pK (.int .i64 dd) hH0 ?_ ?_
 ·intro w' hSw;dsimp only[pK];go_simp
 try simp only[pK,hwA]
 refine hwt 10 lU (.int .i64 (dd-1)) hH0 ?_ ?_
 ·intro w' hSw;dsimp only[lU];go_simp;exact HWK.out
 try simp only[lU,hwA]
 refine hwt 12 lX (.pointer (some ⟨r,0,none⟩)) hH0 ?_ ?_
 ·intro w' hSw;dsimp only[lX];go_simp
 try simp only[lX,hwA]
 refine hwt 13 lY (.slice xa xn xq) hH0 ?_ ?_
 ·intro w' hSw;dsimp only[lY];go_simp
 try simp only[lY,hwA]
 refine hwt 14 lZ (.agg #[.int .i64 kt,.slice ta tn tq]) hH0 ?_ ?_
 ·intro w' hSw;dsimp only[lZ];go_simp
 try simp only[lZ,hwA]
 refine hwt 15 m4 (.int .i64 dd) hH0 ?_ ?_
 ·intro w' hSw;dsimp only[m4];go_simp
 try simp only[m4,hwA]
 refine hwt 16 m7 (.int .i64 (dd-1)) hH0 ?_ ?_
 ·intro w' hSw;dsimp only[m7];go_simp;exact HWK.out
 try simp only[m7,hwA]
 refine hwr 2 pD (fun K hK=>?_)
 dsimp only[pD];go_simp
 go_at_call 85
 refine(dc _).mono ?_;rintro e X1101 ⟨rfl,hb⟩
 go_wp2_with fail
 have zX1101:U2.heap.size≤X1101.heap.size:=hb.size;replace fT:=ag fT hb;replace fR:=ag fR hb;replace fC:=zqb fC hb;replace rd:=zq (rd.out.below hb);replace hX:=zq (hX.out.below hb);replace hT:=zq (hT.out.below hb);refine hK.out _ _ ⟨ah fT rfl,ah fT rfl⟩ (fun hH1101=>?_);clear hK K hH0 hb
 try simp only[pD,hwA]
 refine hwr 5 pG (fun K hK=>?_)
 dsimp only[pG];go_simp
 go_at_call 51
 refine(HIH.out (S.bool) l (cL HD2.out HSV.out rfl) rfl HOK.out (by omega) HNL.out _ _ _ _ rd.out (hX.out.move (.weaken fun b h _=>h.1)) HCV.out (ap.leafG 3) (by have h1:=HLB.out;have h2:=HLS.out;have h3:=HLI.out;have h0:=HUU.out;omega)).mono ?_;rintro e X1102 ⟨t2,v,q2,rfl,hcn2,hv,hq2,hrd,hb⟩;obtain⟨kt2,nm2,ut2,tk2,ta2,tn2,tq2,fk2,fa2,fn2,fq2,lt2,ct2,mt2,qt2,rfl⟩:=hv.shape;have HC2:=zq hcn2;clear hcn2;have h2_':=hv.rg;have rd':Hid (aT X1102 r q2):=zq hrd;clear hv hrd
 go_wp2_with fail
 have zX1102:X1101.heap.size≤X1102.heap.size:=hb.size;replace fT:=aB fT hb;replace fR:=aB fR hb;replace fC:=zqc fC hb;replace hX:=zq (hX.out.move (kpN hb (fun b hb=>hb.1)));replace hT:=zq (hT.out.move (kpN hb (fun b hb=>hb.1)));have h2_:=h2_';clear h2_';clear rd;have rd:=rd';clear rd';refine hK.out _ _ ⟨ah fT rfl,ah fT rfl⟩ (fun hH1102=>?_);clear hK K hH1101 hb
 try simp only[pG,hwA]
 refine hwr 11 lW (fun K hK=>?_)
 dsimp only[lW];go_simp
 go_at_call 51
 refine(HIH.out (s) l (cL HD2.out HSV.out HSV.out) HSV.out HOK.out (by omega) HNL.out _ _ _ _ rd.out (hX.out.move (.weaken fun b h _=>h.1)) HCV.out (hT.out.move (.weaken fun b h _=>h.1)) (by have h1:=HLB.out;have h2:=HLS.out;have h3:=HLI.out;have h0:=HUU.out;omega)).mono ?_;rintro e X1103 ⟨t3,v,q3,rfl,hcn3,hv,hq3,hrd,hb⟩;obtain⟨kt3,nm3,ut3,tk3,ta3,tn3,tq3,fk3,fa3,fn3,fq3,lt3,ct3,mt3,qt3,rfl⟩:=hv.shape;have HC3:=zq hcn3;clear hcn3;have h3_':=hv.rg;have rd':Hid (aT X1103 r q3):=zq hrd;clear hv hrd
 go_wp2_with fail
 have zX1103:X1102.heap.size≤X1103.heap.size:=hb.size;replace fT:=aB fT hb;replace fR:=aB fR hb;replace fC:=zqc fC hb;replace hX:=zq (hX.out.move (kpN hb (fun b hb=>hb.1)));replace hT:=zq (hT.out.move (kpN hb (fun b hb=>hb.1)));replace h2_:=zq (h2_.out.move (kpN hb (fun b hb=>by have h1:=hb.1;have h2:=hb.2;omega)));have h3_:=h3_';clear h3_';clear rd;have rd:=rd';clear rd';refine hK.out _ _ ⟨ah fT rfl,ah fT rfl⟩ (fun hH1103=>?_);clear hK K hH1102 hb
 try simp only[lW,hwA]
 refine hwr 17 mc (fun K hK=>?_)
 dsimp only[mc];go_simp
 go_at_call 51
 refine(HIH.out (s) l (cL HD2.out HSV.out HSV.out) HSV.out HOK.out (by omega) HNL.out _ _ _ _ rd.out (hX.out.move (.weaken fun b h _=>h.1)) HCV.out (hT.out.move (.weaken fun b h _=>h.1)) (by have h1:=HLB.out;have h2:=HLS.out;have h3:=HLI.out;have h0:=HUU.out;omega)).mono ?_;rintro e X1104 ⟨t4,v,q4,rfl,hcn4,hv,hq4,hrd,hb⟩;obtain⟨kt4,nm4,ut4,tk4,ta4,tn4,tq4,fk4,fa4,fn4,fq4,lt4,ct4,mt4,qt4,rfl⟩:=hv.shape;have HC4:=zq hcn4;clear hcn4;have h4_':=hv.rg;have rd':Hid (aT X1104 r q4):=zq hrd;clear hv hrd
 go_wp2_with fail
 have zX1104:X1103.heap.size≤X1104.heap.size:=hb.size;replace fT:=aB fT hb;replace fR:=aB fR hb;replace fC:=zqc fC hb;replace hX:=zq (hX.out.move (kpN hb (fun b hb=>hb.1)));replace hT:=zq (hT.out.move (kpN hb (fun b hb=>hb.1)));replace h2_:=zq (h2_.out.move (kpN hb (fun b hb=>by have h1:=hb.1;have h2:=hb.2;omega)));replace h3_:=zq (h3_.out.move (kpN hb (fun b hb=>by have h1:=hb.1;have h2:=hb.2;omega)));have h4_:=h4_';clear h4_';clear rd;have rd:=rd';clear rd';refine hK.out _ _ ⟨ah fT rfl,ah fT rfl⟩ (fun hH1104=>?_);clear hK K hH1103 hb
 try simp only[mc,hwA]
 refine hwr 18 me (fun K hK=>?_)
 dsimp only[me];go_simp
 (try go_wp2_with fail);obtain⟨X1105,hXq,hb,fL,zX1105a,zX1105b⟩:=aZ X1104 (.cells #[.int .i64 kt2,.string nm2,.int .i64 ut2,.int .i64 tk2,.slice ta2 tn2 tq2,.int .i64 fk2,.slice fa2 fn2 fq2,.int .i64 lt2,.slice ct2 mt2 qt2,.int .i64 kt3,.string nm3,.int .i64 ut3,.int .i64 tk3,.slice ta3 tn3 tq3,.int .i64 fk3,.slice fa3 fn3 fq3,.int .i64 lt3,.slice ct3 mt3 qt3,.int .i64 kt4,.string nm4,.int .i64 ut4,.int .i64 tk4,.slice ta4 tn4 tq4,.int .i64 fk4,.slice fa4 fn4 fq4,.int .i64 lt4,.slice ct4 mt4 qt4] 28);rw[hXq];replace fT:=ag fT hb;replace fR:=ag fR hb;replace fC:=zqb fC hb;replace rd:=zq (rd.out.below hb);replace hX:=zq (hX.out.below hb);replace hT:=zq (hT.out.below hb);replace h2_:=zq (h2_.out.below hb);replace h3_:=zq (h3_.out.below hb);replace h4_:=zq (h4_.out.below hb);refine hK.out _ _ ⟨ah fT rfl,ah fT rfl⟩ (fun hH1105=>?_);clear hK K hH1104 hb hXq
 try simp only[me,hwA]
 refine hwr 19 mf (fun K hK=>?_)
 dsimp only[mf];go_simp
 go_at_call 84
 refine(cN 9 _ _ _ _).mono ?_;rintro e X1106 ⟨rfl,hb⟩
 go_wp2_with fail
 have zX1106:X1105.heap.size≤X1106.heap.size:=hb.size;replace fT:=ag fT hb;replace fR:=ag fR hb;replace fC:=zqb fC hb;replace rd:=zq (rd.out.below hb);replace hX:=zq (hX.out.below hb);replace hT:=zq (hT.out.below hb);replace h2_:=zq (h2_.out.below hb);replace h3_:=zq (h3_.out.below hb);replace h4_:=zq (h4_.out.below hb);replace fL:=ag fL hb;refine hK.out _ _ ⟨ah fT rfl,ah fT rfl⟩ (fun hH1106=>?_);clear hK K hH1105 hb
 try simp only[mf,hwA]
 refine hwr 20 mg (fun K hK=>?_);obtain⟨r0,rf0,r1,rf1,r2,rf2,r3,rf3,r4,rf4,r5,rf5,r6,rf6,r7,rf7,r8,rf8⟩:=blk9f fR
 dsimp only[mg];go_simp
 (try go_wp2_with fail);have hQq:=bQ fR (.int .i64 9) (.string {data:=#[]}) (.int .i64 0) (.int .i64 0) (.slice none 0 0) (.int .i64 0) (.slice none 0 0) (.int .i64 0) (.slice (some ⟨X1104.heap.size,0,none⟩) 3 3);clear fR r0 rf0 r1 rf1 r2 rf2 r3 rf3 r4 rf4 r5 rf5 r6 rf6 r7 rf7 r8 rf8;obtain⟨X1107,hXq,hsq,fR,zX1107a,zX1107b⟩:=hQq;rw[hXq];replace fT:=hsq.blk (by omega) fT;replace fC:=zq (hsq.chg fC.out (by omega));replace rd:=zq (hsq.rd rd.out (by omega));replace hX:=zq (hX.out.move (hsq.keeps (fun b hb=>by have:=hb.2;omega)));replace hT:=zq (hsq.rep (fun b hb=>by have:=hb.2;omega) hT.out);replace h2_:=zq (h2_.out.move (hsq.keeps (fun b hb=>by have h1:=hb.1;have h2:=hb.2;omega)));replace h3_:=zq (h3_.out.move (hsq.keeps (fun b hb=>by have h1:=hb.1;have h2:=hb.2;omega)));replace h4_:=zq (h4_.out.move (hsq.keeps (fun b hb=>by have h1:=hb.1;have h2:=hb.2;omega)));replace fL:=hsq.blk (by omega) fL;refine hK.out _ _ ⟨ah fT rfl,ah fT rfl⟩ (fun hH1107=>?_);clear hK K hH1106 hsq hXq
 try simp only[mg,hwA]
 refine wpAnyH_done (by kernel_rfl) ?_ _;refine NoPanic.normal ?_;clear hH1107;obtain⟨rc0,rc1,rc2,rc3,rc4,rc5,rc6,rc7,rc8⟩:=blk9 fR
 go_wp2_with fail
 refine bodyPost_ret (v:=.agg #[.int .i64 9,.string {data:=#[]},.int .i64 0,.int .i64 0,.slice none 0 0,.int .i64 0,.slice none 0 0,.int .i64 0,.slice (some ⟨X1104.heap.size,0,none⟩) 3 3]) (by simp[results,Tryz.results51,go_sem,rc0,rc1,rc2,rc3,rc4,rc5,rc6,rc7,rc8]) rfl ?_;have h1:=HLB.out;have h2:=HLS.out;have h3:=HLI.out;have h0:=HUU.out;have hks:aS (w.heap.size ≤ ·) X1107 [t2,t3,t4] (.slice (some ⟨X1104.heap.size,0,none⟩) 3 3):=aS.blk (by show w.heap.size≤_;omega) fL rfl (by unfold maxLen;omega) (aW.c3 (h2_.out.move (.weaken fun b h _=>by have h1:=h.1;show w.heap.size≤b;omega)).srep (h3_.out.move (.weaken fun b h _=>by have h1:=h.1;show w.heap.size≤b;omega)).srep (h4_.out.move (.weaken fun b h _=>by have h1:=h.1;show w.heap.size≤b;omega)).srep);have hcc:(Tm.mk 9 {data:=#[]} 0 (.mk 0 []) (.mk 0 []) 0 [t2,t3,t4]).cnt≤MB:=by
  have g1:=HC2.out;have g2:=HC3.out;have g3:=HC4.out;(try simp only[Tm.cnt,Tm.cnts,Ty.cnt,Ty.cnts,List.length_cons,List.length_nil,show({data:=#[]}:ByteArray).size=0 from rfl])
  omega
 exact⟨Tm.mk 9 {data:=#[]} 0 (.mk 0 []) (.mk 0 []) 0 [t2,t3,t4],_,q4,rfl,hcc,aA.mk bp ⟨_,rfl,aE.nil0⟩ ⟨_,rfl,aE.nil0⟩ hks,by omega,rd.out,fC.out⟩
def pL:Oper:=⟨some 92,.move (.tmp 0),46,"l3_typing.go:204",#[],none⟩
def pM:Oper:=⟨some 93,.move (.tmp 1),96,"l3_typing.go:204",#[],none⟩
def pN:Oper:=⟨some 94,.load 25 (.tmp 12),25,"l3_typing.go:204",#[],none⟩
def pO:Oper:=⟨some 95,.load 25 (.tmp 6),25,"l3_typing.go:204",#[],none⟩
def pP:Oper:=⟨some 96,.move (.tmp 3),3,"l3_typing.go:204",#[],none⟩
def pQ:Oper:=⟨some 97,.binOp .sub 3 (.tmp 96) (.const (.int .i64 1)) 3,3,"l3_typing.go:204",#[⟨4,.data⟩],none⟩
def pR:Oper:=⟨some 98,.call {callee:=.value (.func 86),args:=#[.tmp 92,.tmp 93,.tmp 94,.tmp 95,.tmp 97],argTypes:=#[46,96,25,25,3]},28,"l3_typing.go:204",#[⟨0,.data⟩,⟨1,.data⟩,⟨2,.data⟩,⟨3,.data⟩,⟨5,.data⟩],none⟩
def pS:Oper:=⟨some 99,.move (.tmp 0),46,"l3_typing.go:204",#[],none⟩
def pT:Oper:=⟨some 100,.move (.tmp 1),96,"l3_typing.go:204",#[],none⟩
def pU:Oper:=⟨some 101,.move (.tmp 0),46,"l3_typing.go:204",#[],none⟩
def mh:Oper:=⟨some 102,.load 25 (.tmp 12),25,"l3_typing.go:204",#[],none⟩
def mi:Oper:=⟨some 103,.call {callee:=.value (.func 57),args:=#[.tmp 101,.tmp 102],argTypes:=#[46,25]},25,"l3_typing.go:204",#[⟨9,.data⟩,⟨10,.data⟩,⟨6,.chain⟩],none⟩
def mj:Oper:=⟨some 104,.move (.tmp 3),3,"l3_typing.go:204",#[],none⟩
def mn:Oper:=⟨some 105,.binOp .sub 3 (.tmp 104) (.const (.int .i64 1)) 3,3,"l3_typing.go:204",#[⟨12,.data⟩],none⟩
def mo:Oper:=⟨some 106,.call {callee:=.value (.func 51),args:=#[.tmp 99,.tmp 100,.tmp 103,.tmp 105],argTypes:=#[46,96,25,3]},28,"l3_typing.go:204",#[⟨7,.data⟩,⟨8,.data⟩,⟨11,.data⟩,⟨13,.data⟩,⟨11,.chain⟩],none⟩
def mp:Oper:=⟨some 107,.buildSlice 26 2 #[(0,.tmp 98),(1,.tmp 106)],26,"l3_typing.go:204",#[⟨6,.data⟩,⟨14,.data⟩],none⟩
def mq:Oper:=⟨some 108,.call {callee:=.value (.func 84),args:=#[.const (.int .i64 6),.tmp 107],argTypes:=#[3,26]},28,"l3_typing.go:204",#[⟨15,.data⟩,⟨14,.chain⟩],none⟩
def mr:Oper:=⟨none,.store 28 (.tmp 8) (.tmp 108),0,"l3_typing.go:204",#[⟨16,.data⟩,⟨16,.chain⟩,⟨0,.phase⟩,⟨1,.phase⟩,⟨2,.phase⟩,⟨3,.phase⟩,⟨4,.phase⟩,⟨5,.phase⟩,⟨6,.phase⟩,⟨7,.phase⟩,⟨8,.phase⟩,⟨9,.phase⟩,⟨10,.phase⟩,⟨11,.phase⟩,⟨12,.phase⟩,⟨13,.phase⟩,⟨14,.phase⟩,⟨15,.phase⟩,⟨16,.phase⟩],none⟩
theorem mkW2 (dd:Int)(s:S)(r p:Nat)(l:List Bd)(w:World)(kt:Int)(ta:Option Addr)(tn tq:Nat)(xa:Option Addr)(xn xq:Nat):(dS dd s r p l w kt ta tn tq xa xn xq).1.2.2.1:=by
 intro _ _ _ _ _ _ _ _ HWK _ _ _ HNL HCV HOK HSV HIH _ _ HL60 MB _ _ _ _ _ _ _ _ _ _ _ _ _ _ _ _ _ _ _ _ _ _ _ _ _ _ _ _ _ _ _ _ _ _ _ _ _ _ _ _ _ _ _ h0 _ _ _ _ _ _ _ _ _ _ _ HD2 _ _ HUU _ _ HLB HLI HLS _ w1 _ _ fT fR fC hX hT rd _ _ _ _ _ _ _;refine(iT 1 r _ _ (by omega) (by omega) rd.out (by omega)).mono ?_;rintro e w2 ⟨s2,v,qs,rfl,hvs2,hv,hqs,hrd,hb⟩;obtain⟨kb,ab,nb,qb,rfl⟩:=hv.shape;have hA':=hv.rg;clear hv;have zw2:=hb.size;(try simp only[World.size_alloc] at zw2);replace fT:=aB fT hb;replace fR:=aB fR hb;replace fC:=zqc fC hb;replace hX:=zq (hX.out.move (kpN hb (fun b hb=>hb.1)));replace hT:=zq (hT.out.move (kpN hb (fun b hb=>hb.1)));replace rd:=zq hrd;clear hrd;clear hb;have hA:=hA';clear hA'
 go_wp2_with fail
 obtain⟨w3,hXq,hb,fA,zw3a,zw3b⟩:=aZ w2 (.cells #[.int .i64 kb,.slice ab nb qb] 25);rw[hXq];replace fT:=ag fT hb;replace fR:=ag fR hb;replace fC:=zqb fC hb;replace rd:=zq (rd.out.below hb);replace hX:=zq (hX.out.below hb);replace hT:=zq (hT.out.below hb);replace hA:=zq (hA.out.below hb);clear hb hXq;refine wp_region_noPanic ?_;refine wp_region_held_drew (S:=fun w'=>w'.cell? ⟨w.heap.size,0,none⟩=some (.int .i64 kt)∧w'.cell? ⟨w.heap.size,1,none⟩=some (.slice ta tn tq)∧w'.cell? ⟨w2.heap.size,0,none⟩=some (.int .i64 kb)∧w'.cell? ⟨w2.heap.size,1,none⟩=some (.slice ab nb qb)) (by kernel_rfl) ?_ (fun hH0=>?_)
 ·exact⟨ah fT rfl,ah fT rfl,ah fA rfl,ah fA rfl⟩
 obtain⟨U3,hU,hb,zU3a,zU3b⟩:=bK w3;rw[hU] at hH0 ⊢;replace fT:=ag fT hb;replace fR:=ag fR hb;replace fC:=zqb fC hb;replace rd:=zq (rd.out.below hb);replace hX:=zq (hX.out.below hb);replace hT:=zq (hT.out.below hb);replace hA:=zq (hA.out.below hb);replace fA:=ag fA hb;(try simp only[World.size_alloc] at zU3a zU3b);clear hU hb;refine hwt 0 pL (.pointer (some ⟨r,0,none⟩)) hH0 ?_ ?_
 ·intro w' hSw;dsimp only[pL];go_simp
 try simp only[pL,hwA]
 refine hwt 1 pM (.slice xa xn xq) hH0 ?_ ?_
 ·intro w' hSw;dsimp only[pM];go_simp
 try simp only[pM,hwA]
 refine hwt 2 pN (.agg #[.int .i64 kb,.slice ab nb qb]) hH0 ?_ ?_
 ·intro w' hSw;dsimp only[pN];go_simp
 try simp only[pN,hwA]
 refine hwt 3 pO (.agg #[.int .i64 kt,.slice ta tn tq]) hH0 ?_ ?_
 ·intro w' hSw;dsimp only[pO];go_simp
 try simp only[pO,hwA]
 refine hwt 4 pP (.int .i64 dd) hH0 ?_ ?_
 ·intro w' hSw;dsimp only[pP];go_simp
 try simp only[pP,hwA]
 refine hwt 5 pQ (.int .i64 (dd-1)) hH0 ?_ ?_
 ·intro w' hSw;dsimp only[pQ];go_simp;exact HWK.out
 try simp only[pQ,hwA]
 refine hwt 7 pS (.pointer (some ⟨r,0,none⟩)) hH0 ?_ ?_
 ·intro w' hSw;dsimp only[pS];go_simp
 try simp only[pS,hwA]
 refine hwt 8 pT (.slice xa xn xq) hH0 ?_ ?_
 ·intro w' hSw;dsimp only[pT];go_simp
 try simp only[pT,hwA]
 refine hwt 9 pU (.pointer (some ⟨r,0,none⟩)) hH0 ?_ ?_
 ·intro w' hSw;dsimp only[pU];go_simp
 try simp only[pU,hwA]
 refine hwt 10 mh (.agg #[.int .i64 kb,.slice ab nb qb]) hH0 ?_ ?_
 ·intro w' hSw;dsimp only[mh];go_simp
 try simp only[mh,hwA]
 refine hwt 12 mj (.int .i64 dd) hH0 ?_ ?_
 ·intro w' hSw;dsimp only[mj];go_simp
 try simp only[mj,hwA]
 refine hwt 13 mn (.int .i64 (dd-1)) hH0 ?_ ?_
 ·intro w' hSw;dsimp only[mn];go_simp;exact HWK.out
 try simp only[mn,hwA]
 refine hwr 6 pR (fun K hK=>?_)
 dsimp only[pR];go_simp
 go_at_call 86
 refine(nj r _ (dd-1) s2 s l _ _ _ _ rd.out (hX.out.move (.weaken fun b h _=>h.1)) HCV.out (by have:=HL60.out;omega) (hA.out.move (.weaken fun b h _=>by have h1:=h.1;intro e;omega)) (hT.out.move (.weaken fun b h _=>h.1)) hvs2 (fun nm hnm=>HIH.out s (l ++ [⟨nm,S.ty s2⟩]) (cL HD2.out HSV.out HSV.out) HSV.out (HOK.out.snoc ((S.valid s2).trans hvs2)) (by simp) (fun b hb=>(List.mem_append.1 hb).elim (HNL.out b) (fun h=>by simp at h;subst h;exact hnm))) (by have h1:=HLB.out;have h2:=HLS.out;have h3:=HLI.out;have h0:=HUU.out;omega)).mono ?_;rintro e X1201 ⟨t2,v,q2,rfl,hcn2,hv,hq2,hrd,hb⟩;obtain⟨kt2,nm2,ut2,tk2,ta2,tn2,tq2,fk2,fa2,fn2,fq2,lt2,ct2,mt2,qt2,rfl⟩:=hv.shape;have HC2:=zq hcn2;clear hcn2;have h2_':=hv.rg;have rd':Hid (aT X1201 r q2):=zq hrd;clear hv hrd
 go_wp2_with fail
 have zX1201:U3.heap.size≤X1201.heap.size:=hb.size;replace fT:=aB fT hb;replace fR:=aB fR hb;replace fC:=zqc fC hb;replace hX:=zq (hX.out.move (kpN hb (fun b hb=>hb.1)));replace hT:=zq (hT.out.move (kpN hb (fun b hb=>hb.1)));replace hA:=zq (hA.out.move (kpN hb (fun b hb=>by have h1:=hb.1;have h2:=hb.2;omega)));replace fA:=aB fA hb;have h2_:=h2_';clear h2_';clear rd;have rd:=rd';clear rd';refine hK.out _ _ ⟨ah fT rfl,ah fT rfl,ah fA rfl,ah fA rfl⟩ (fun hH1201=>?_);clear hK K hH0 hb
 try simp only[pR,hwA]
 refine hwr 11 mi (fun K hK=>?_)
 dsimp only[mi];go_simp
 go_at_call 57
 refine(es r _ s2 _ _ rd.out (hA.out.move (.weaken fun b h _=>by have h1:=h.1;intro e;omega)) hvs2 (by have h1:=HLB.out;have h2:=HLS.out;have h0:=HUU.out;omega)).mono ?_;rintro e X1202 ⟨s3,v,qt,rfl,hvs3,hv,hqt,hrd,hb⟩;obtain⟨kc,ac,nc,qc,rfl⟩:=hv.shape;have hB_':=hv.rg;have rd':Hid (aT X1202 r qt):=zq hrd;clear hv hrd
 go_wp2_with fail
 have zX1202:X1201.heap.size≤X1202.heap.size:=hb.size;replace fT:=aB fT hb;replace fR:=aB fR hb;replace fC:=zqc fC hb;replace hX:=zq (hX.out.move (kpN hb (fun b hb=>hb.1)));replace hT:=zq (hT.out.move (kpN hb (fun b hb=>hb.1)));replace hA:=zq (hA.out.move (kpN hb (fun b hb=>by have h1:=hb.1;have h2:=hb.2;omega)));replace fA:=aB fA hb;replace h2_:=zq (h2_.out.move (kpN hb (fun b hb=>by have h1:=hb.1;have h2:=hb.2;omega)));have hB_:=hB_';clear hB_';clear rd;have rd:=rd';clear rd';refine hK.out _ _ ⟨ah fT rfl,ah fT rfl,ah fA rfl,ah fA rfl⟩ (fun hH1202=>?_);clear hK K hH1201 hb
 try simp only[mi,hwA]
 refine hwr 14 mo (fun K hK=>?_)
 dsimp only[mo];go_simp
 go_at_call 51
 refine(HIH.out (s3) l (cL HD2.out HSV.out hvs3) hvs3 HOK.out (by omega) HNL.out _ _ _ _ rd.out (hX.out.move (.weaken fun b h _=>h.1)) HCV.out (hB_.out.move (.weaken fun b h _=>by have h1:=h.1;intro e;omega)) (by have h1:=HLB.out;have h2:=HLS.out;have h0:=HUU.out;have h4:=bN HD2.out hvs3;omega)).mono ?_;rintro e X1203 ⟨t3,v,q3,rfl,hcn3,hv,hq3,hrd,hb⟩;obtain⟨kt3,nm3,ut3,tk3,ta3,tn3,tq3,fk3,fa3,fn3,fq3,lt3,ct3,mt3,qt3,rfl⟩:=hv.shape;have HC3:=zq hcn3;clear hcn3;have h3_':=hv.rg;have rd':Hid (aT X1203 r q3):=zq hrd;clear hv hrd
 go_wp2_with fail
 have zX1203:X1202.heap.size≤X1203.heap.size:=hb.size;replace fT:=aB fT hb;replace fR:=aB fR hb;replace fC:=zqc fC hb;replace hX:=zq (hX.out.move (kpN hb (fun b hb=>hb.1)));replace hT:=zq (hT.out.move (kpN hb (fun b hb=>hb.1)));replace hA:=zq (hA.out.move (kpN hb (fun b hb=>by have h1:=hb.1;have h2:=hb.2;omega)));replace fA:=aB fA hb;replace h2_:=zq (h2_.out.move (kpN hb (fun b hb=>by have h1:=hb.1;have h2:=hb.2;omega)));replace hB_:=zq (hB_.out.move (kpN hb (fun b hb=>by have h1:=hb.1;have h2:=hb.2;omega)));have h3_:=h3_';clear h3_';clear rd;have rd:=rd';clear rd';refine hK.out _ _ ⟨ah fT rfl,ah fT rfl,ah fA rfl,ah fA rfl⟩ (fun hH1203=>?_);clear hK K hH1202 hb
 try simp only[mo,hwA]
 refine hwr 15 mp (fun K hK=>?_)
 dsimp only[mp];go_simp
 (try go_wp2_with fail);obtain⟨X1204,hXq,hb,fL,zX1204a,zX1204b⟩:=aZ X1203 (.cells #[.int .i64 kt2,.string nm2,.int .i64 ut2,.int .i64 tk2,.slice ta2 tn2 tq2,.int .i64 fk2,.slice fa2 fn2 fq2,.int .i64 lt2,.slice ct2 mt2 qt2,.int .i64 kt3,.string nm3,.int .i64 ut3,.int .i64 tk3,.slice ta3 tn3 tq3,.int .i64 fk3,.slice fa3 fn3 fq3,.int .i64 lt3,.slice ct3 mt3 qt3] 28);rw[hXq];replace fT:=ag fT hb;replace fR:=ag fR hb;replace fC:=zqb fC hb;replace rd:=zq (rd.out.below hb);replace hX:=zq (hX.out.below hb);replace hT:=zq (hT.out.below hb);replace hA:=zq (hA.out.below hb);replace fA:=ag fA hb;replace h2_:=zq (h2_.out.below hb);replace hB_:=zq (hB_.out.below hb);replace h3_:=zq (h3_.out.below hb);refine hK.out _ _ ⟨ah fT rfl,ah fT rfl,ah fA rfl,ah fA rfl⟩ (fun hH1204=>?_);clear hK K hH1203 hb hXq
 try simp only[mp,hwA]
 refine hwr 16 mq (fun K hK=>?_)
 dsimp only[mq];go_simp
 go_at_call 84
 refine(cN 6 _ _ _ _).mono ?_;rintro e X1205 ⟨rfl,hb⟩
 go_wp2_with fail
 have zX1205:X1204.heap.size≤X1205.heap.size:=hb.size;replace fT:=ag fT hb;replace fR:=ag fR hb;replace fC:=zqb fC hb;replace rd:=zq (rd.out.below hb);replace hX:=zq (hX.out.below hb);replace hT:=zq (hT.out.below hb);replace hA:=zq (hA.out.below hb);replace fA:=ag fA hb;replace h2_:=zq (h2_.out.below hb);replace hB_:=zq (hB_.out.below hb);replace h3_:=zq (h3_.out.below hb);replace fL:=ag fL hb;refine hK.out _ _ ⟨ah fT rfl,ah fT rfl,ah fA rfl,ah fA rfl⟩ (fun hH1205=>?_);clear hK K hH1204 hb
 try simp only[mq,hwA]
 refine hwr 17 mr (fun K hK=>?_);obtain⟨r0,rf0,r1,rf1,r2,rf2,r3,rf3,r4,rf4,r5,rf5,r6,rf6,r7,rf7,r8,rf8⟩:=blk9f fR
 dsimp only[mr];go_simp
 (try go_wp2_with fail);have hQq:=bQ fR (.int .i64 6) (.string {data:=#[]}) (.int .i64 0) (.int .i64 0) (.slice none 0 0) (.int .i64 0) (.slice none 0 0) (.int .i64 0) (.slice (some ⟨X1203.heap.size,0,none⟩) 2 2);clear fR r0 rf0 r1 rf1 r2 rf2 r3 rf3 r4 rf4 r5 rf5 r6 rf6 r7 rf7 r8 rf8;obtain⟨X1206,hXq,hsq,fR,zX1206a,zX1206b⟩:=hQq;rw[hXq];replace fT:=hsq.blk (by omega) fT;replace fC:=zq (hsq.chg fC.out (by omega));replace rd:=zq (hsq.rd rd.out (by omega));replace hX:=zq (hX.out.move (hsq.keeps (fun b hb=>by have:=hb.2;omega)));replace hT:=zq (hsq.rep (fun b hb=>by have:=hb.2;omega) hT.out);replace hA:=zq (hsq.rep (fun b hb=>by have h1:=hb.1;have h2:=hb.2;omega) hA.out);replace fA:=hsq.blk (by omega) fA;replace h2_:=zq (h2_.out.move (hsq.keeps (fun b hb=>by have h1:=hb.1;have h2:=hb.2;omega)));replace hB_:=zq (hsq.rep (fun b hb=>by have h1:=hb.1;have h2:=hb.2;omega) hB_.out);replace h3_:=zq (h3_.out.move (hsq.keeps (fun b hb=>by have h1:=hb.1;have h2:=hb.2;omega)));replace fL:=hsq.blk (by omega) fL;refine hK.out _ _ ⟨ah fT rfl,ah fT rfl,ah fA rfl,ah fA rfl⟩ (fun hH1206=>?_);clear hK K hH1205 hsq hXq
 try simp only[mr,hwA]
 refine wpAnyH_done (by kernel_rfl) ?_ _;refine NoPanic.normal ?_;clear hH1206;obtain⟨rc0,rc1,rc2,rc3,rc4,rc5,rc6,rc7,rc8⟩:=blk9 fR
 go_wp2_with fail
 refine bodyPost_ret (v:=.agg #[.int .i64 6,.string {data:=#[]},.int .i64 0,.int .i64 0,.slice none 0 0,.int .i64 0,.slice none 0 0,.int .i64 0,.slice (some ⟨X1203.heap.size,0,none⟩) 2 2]) (by simp[results,Tryz.results51,go_sem,rc0,rc1,rc2,rc3,rc4,rc5,rc6,rc7,rc8]) rfl ?_;have h1:=HLB.out;have h2:=HLS.out;have h3:=HLI.out;have h0:=HUU.out;have h4:=bN HD2.out hvs3;have hks:aS (w.heap.size ≤ ·) X1206 [t2,t3] (.slice (some ⟨X1203.heap.size,0,none⟩) 2 2):=aS.blk (by show w.heap.size≤_;omega) fL rfl (by unfold maxLen;omega) (aW.c2 (h2_.out.move (.weaken fun b h _=>by have h1:=h.1;show w.heap.size≤b;omega)).srep (h3_.out.move (.weaken fun b h _=>by have h1:=h.1;show w.heap.size≤b;omega)).srep);have hcc:(Tm.mk 6 {data:=#[]} 0 (.mk 0 []) (.mk 0 []) 0 [t2,t3]).cnt≤MB:=by
  have g1:=HC2.out;have g2:=HC3.out;(try simp only[Tm.cnt,Tm.cnts,Ty.cnt,Ty.cnts,List.length_cons,List.length_nil,show({data:=#[]}:ByteArray).size=0 from rfl])
  omega
 exact⟨Tm.mk 6 {data:=#[]} 0 (.mk 0 []) (.mk 0 []) 0 [t2,t3],_,q3,rfl,hcc,aA.mk bp ⟨_,rfl,aE.nil0⟩ ⟨_,rfl,aE.nil0⟩ hks,by omega,rd.out,fC.out⟩
end Go.Proofs.YtfahhonmiimmdaaGreat
