/-
  spec.l3Make: way 2 of a deep term.
  spec.l3Make: the way of the kind pr.
-/
import Derived.Test.YtnaoghknnenfoaaMkH
set_option linter.unusedSimpArgs false
set_option linter.unusedVariables false
set_option maxRecDepth 100000
namespace Go.Proofs.Ytnaoghknnenfoaa
open Go.RowKit
def nJ:Oper:=⟨some 92,Op.move (Operand.tmp 0),36,"l3_typing.go:204",#[],none⟩
def nC:Oper:=⟨some 93,Op.move (Operand.tmp 1),63,"l3_typing.go:204",#[],none⟩
def mH:Oper:=⟨some 94,Op.load 25 (Operand.tmp 12),25,"l3_typing.go:204",#[],none⟩
def lW:Oper:=⟨some 95,Op.load 25 (Operand.tmp 6),25,"l3_typing.go:204",#[],none⟩
def ms:Oper:=⟨some 96,Op.move (Operand.tmp 3),3,"l3_typing.go:204",#[],none⟩
def lo:Oper:=⟨some 97,Op.binOp BinOp.sub 3 (Operand.tmp 96) (Operand.const (Value.int IntKind.i64 1)) 3,3,"l3_typing.go:204",#[⟨4,.data⟩],none⟩
def nS:Oper:=⟨some 98,Op.call { callee:=Callee.value (Operand.func 46),args:=#[Operand.tmp 92,Operand.tmp 93,Operand.tmp 94,Operand.tmp 95,Operand.tmp 97],argTypes:=#[36,63,25,25,3] },28,"l3_typing.go:204",#[⟨0,.data⟩,⟨1,.data⟩,⟨2,.data⟩,⟨3,.data⟩,⟨5,.data⟩],none⟩
def mq:Oper:=⟨some 99,Op.move (Operand.tmp 0),36,"l3_typing.go:204",#[],none⟩
def o9:Oper:=⟨some 100,Op.move (Operand.tmp 1),63,"l3_typing.go:204",#[],none⟩
def mW:Oper:=⟨some 101,Op.move (Operand.tmp 0),36,"l3_typing.go:204",#[],none⟩
def js:Oper:=⟨some 102,Op.load 25 (Operand.tmp 12),25,"l3_typing.go:204",#[],none⟩
def jj:Oper:=⟨some 103,Op.call { callee:=Callee.value (Operand.func 30),args:=#[Operand.tmp 101,Operand.tmp 102],argTypes:=#[36,25] },25,"l3_typing.go:204",#[⟨9,.data⟩,⟨10,.data⟩,⟨6,.chain⟩],none⟩
def jr:Oper:=⟨some 104,Op.move (Operand.tmp 3),3,"l3_typing.go:204",#[],none⟩
def jD:Oper:=⟨some 105,Op.binOp BinOp.sub 3 (Operand.tmp 104) (Operand.const (Value.int IntKind.i64 1)) 3,3,"l3_typing.go:204",#[⟨12,.data⟩],none⟩
def jF:Oper:=⟨some 106,Op.call { callee:=Callee.value (Operand.func 24),args:=#[Operand.tmp 99,Operand.tmp 100,Operand.tmp 103,Operand.tmp 105],argTypes:=#[36,63,25,3] },28,"l3_typing.go:204",#[⟨7,.data⟩,⟨8,.data⟩,⟨11,.data⟩,⟨13,.data⟩,⟨11,.chain⟩],none⟩
def ju:Oper:=⟨some 107,Op.buildSlice 26 2 #[(0,Operand.tmp 98),(1,Operand.tmp 106)],26,"l3_typing.go:204",#[⟨6,.data⟩,⟨14,.data⟩],none⟩
def jd:Oper:=⟨some 108,Op.call { callee:=Callee.value (Operand.func 44),args:=#[Operand.const (Value.int IntKind.i64 6),Operand.tmp 107],argTypes:=#[3,26] },28,"l3_typing.go:204",#[⟨15,.data⟩,⟨14,.chain⟩],none⟩
def jZ:Oper:=⟨none,Op.store 28 (Operand.tmp 8) (Operand.tmp 108),0,"l3_typing.go:204",#[⟨16,.data⟩,⟨16,.chain⟩,⟨0,.phase⟩,⟨1,.phase⟩,⟨2,.phase⟩,⟨3,.phase⟩,⟨4,.phase⟩,⟨5,.phase⟩,⟨6,.phase⟩,⟨7,.phase⟩,⟨8,.phase⟩,⟨9,.phase⟩,⟨10,.phase⟩,⟨11,.phase⟩,⟨12,.phase⟩,⟨13,.phase⟩,⟨14,.phase⟩,⟨15,.phase⟩,⟨16,.phase⟩],none⟩
set_option maxHeartbeats 16000000 in
theorem mkW2 (dd:Int)(s:S)(r p:Nat)(l:List Bd)(w:World)(kt:Int)(ta:Option Addr)(tn tq:Nat)(xa:Option Addr)(xn xq:Nat):(cL dd s r p l w kt ta tn tq xa xn xq).1.2.2.1:=by
 intro hd5 hdlo hnl hrl HN hx60 hwn hwd HWK HX0 HT0 HCNT HNL HCV HOK HSV HIH HRD0 HKT HL60 MB hmb hp HMB i1_ wr u10 u11 u16 u17 u18 u19 u20 u21 u22 u23 u24 u25 u26 u27 u28 u29 u30 u31 u32 u33 u34 u35 u36 u37 u38 u39 u40 u41 u42 u43 u44 u45 u46 u47 q hsz hj hq h0 i2_ i3_ i4_ i5_ i6_ i7_ i8_ i9_ i10_ hd1 hdb HD2 U hU0 HUU hMB1 hMB2 HLB HLI HLS i11_ w1 jk zw1 fT fR fC hX hT rd hj0 hj1 hj2 i12_ i13_ i14_ i15_
 refine(fi 1 r _ _ (by omega) (by omega) rd.out (by omega)).mono ?_
 rintro e w2 ⟨s2,v,qs,rfl,hvs2,hv,hqs,hrd,hb⟩
 obtain⟨kb,ab,nb,qb,rfl⟩:=hv.shape
 have hA':Hid (ap (fun b=>w1.heap.size≤b∧b<w2.heap.size) w2 s2.ty (.agg #[.int .i64 kb,.slice ab nb qb])):=Lib.hid (hv.move (.weaken fun b h1 h2=>⟨h1,h2⟩))
 clear hv
 have zw2:=hb.size
 (try simp only [World.size_alloc] at zw2)
 replace fT:=aB fT hb (by omega);replace fR:=aB fR hb (by omega);replace fC:=Lib.hid (fC.out.trans hb);replace hX:=Lib.hid (hX.out.move (kpN hb (fun b hb=>hb.1)))
 replace hT:=Lib.hid (hT.out.move (kpN hb (fun b hb=>hb.1)))
 replace rd:=Lib.hid hrd
 clear hrd
 clear hb
 have hA:=hA'
 clear hA'
 go_wp2_with fail
 obtain⟨w3,hXq,hb,fA,zw3a,zw3b⟩:=bM w2 (.cells #[.int .i64 kb,.slice ab nb qb] 25)
 rw [hXq]
 replace fT:=af fT hb;replace fR:=af fR hb;replace fC:=Lib.hid (fC.out.trans (Chg.of_below hb));replace rd:=Lib.hid (rd.out.below hb)
 replace hX:=Lib.hid (hX.out.below hb);replace hT:=Lib.hid (hT.out.below hb);replace hA:=Lib.hid (hA.out.below hb)
 clear hb hXq
 refine wp_region_noPanic ?_
 refine wp_region_held_drew (S:=fun w'=>w'.cell? ⟨w.heap.size,0,none⟩=some (.int .i64 kt)∧w'.cell? ⟨w.heap.size,1,none⟩=some (.slice ta tn tq)∧w'.cell? ⟨w2.heap.size,0,none⟩=some (.int .i64 kb)∧w'.cell? ⟨w2.heap.size,1,none⟩=some (.slice ab nb qb)) (by kernel_rfl) ?_ (fun hHeld0=>?_)
 ·exact⟨ag fT rfl,ag fT rfl,ag fA rfl,ag fA rfl⟩
 obtain⟨U3,hU,hb,zU3a,zU3b⟩:=bO w3
 rw [hU] at hHeld0 ⊢
 replace fT:=af fT hb;replace fR:=af fR hb;replace fC:=Lib.hid (fC.out.trans (Chg.of_below hb));replace rd:=Lib.hid (rd.out.below hb)
 replace hX:=Lib.hid (hX.out.below hb);replace hT:=Lib.hid (hT.out.below hb);replace hA:=Lib.hid (hA.out.below hb);replace fA:=af fA hb
 (try simp only [World.size_alloc] at zU3a zU3b)
 clear hU hb
 refine hwt 0 nJ (.pointer (some ⟨r,0,none⟩)) hHeld0 ?_ ?_
 ·intro w' hSw;dsimp only [nJ];go_simp
 try simp only [nJ,hwA]
 refine hwt 1 nC (.slice xa xn xq) hHeld0 ?_ ?_
 ·intro w' hSw;dsimp only [nC];go_simp
 try simp only [nC,hwA]
 refine hwt 2 mH (.agg #[.int .i64 kb,.slice ab nb qb]) hHeld0 ?_ ?_
 ·intro w' hSw;dsimp only [mH];go_simp
 try simp only [mH,hwA]
 refine hwt 3 lW (.agg #[.int .i64 kt,.slice ta tn tq]) hHeld0 ?_ ?_
 ·intro w' hSw;dsimp only [lW];go_simp
 try simp only [lW,hwA]
 refine hwt 4 ms (.int .i64 dd) hHeld0 ?_ ?_
 ·intro w' hSw;dsimp only [ms];go_simp
 try simp only [ms,hwA]
 refine hwt 5 lo (.int .i64 (dd-1)) hHeld0 ?_ ?_
 ·intro w' hSw;dsimp only [lo];go_simp;exact HWK.out
 try simp only [lo,hwA]
 refine hwt 7 mq (.pointer (some ⟨r,0,none⟩)) hHeld0 ?_ ?_
 ·intro w' hSw;dsimp only [mq];go_simp
 try simp only [mq,hwA]
 refine hwt 8 o9 (.slice xa xn xq) hHeld0 ?_ ?_
 ·intro w' hSw;dsimp only [o9];go_simp
 try simp only [o9,hwA]
 refine hwt 9 mW (.pointer (some ⟨r,0,none⟩)) hHeld0 ?_ ?_
 ·intro w' hSw;dsimp only [mW];go_simp
 try simp only [mW,hwA]
 refine hwt 10 js (.agg #[.int .i64 kb,.slice ab nb qb]) hHeld0 ?_ ?_
 ·intro w' hSw;dsimp only [js];go_simp
 try simp only [js,hwA]
 refine hwt 12 jr (.int .i64 dd) hHeld0 ?_ ?_
 ·intro w' hSw;dsimp only [jr];go_simp
 try simp only [jr,hwA]
 refine hwt 13 jD (.int .i64 (dd-1)) hHeld0 ?_ ?_
 ·intro w' hSw;dsimp only [jD];go_simp;exact HWK.out
 try simp only [jD,hwA]
 refine hwr 6 nS (fun K hK=>?_)
 dsimp only [nS];go_simp
 go_at_call 46
 refine(kv r _ (dd-1) s2 s l _ _ _ _ rd.out (hX.out.move (.weaken fun b h _=>h.1)) HCV.out (by have:=HL60.out;omega) (hA.out.move (.weaken fun b h _=>by have h1:=h.1;intro e;omega)) (hT.out.move (.weaken fun b h _=>h.1)) hvs2 (fun nm hnm=>HIH.out s (l ++ [⟨nm,S.ty s2⟩]) (cu HD2.out HSV.out HSV.out) HSV.out (HOK.out.snoc ((S.valid s2).trans hvs2)) (by simp) (fun b hb=>(List.mem_append.1 hb).elim (HNL.out b) (fun h=>by simp at h;subst h;exact hnm))) (by have h1:=HLB.out;have h2:=HLS.out;have h3:=HLI.out;have h0:=HUU.out;omega)).mono ?_
 rintro e X1201 ⟨t2,v,q2,rfl,hcn2,hv,hq2,hrd,hb⟩
 obtain⟨kt2,nm2,ut2,tk2,ta2,tn2,tq2,fk2,fa2,fn2,fq2,lt2,ct2,mt2,qt2,rfl⟩:=hv.shape
 have HC2:=Lib.hid hcn2
 clear hcn2
 have h2_':Hid (az (fun b=>U3.heap.size≤b∧b<X1201.heap.size) X1201 t2 (.agg #[.int .i64 kt2,.string nm2,.int .i64 ut2,.int .i64 tk2,.slice ta2 tn2 tq2,.int .i64 fk2,.slice fa2 fn2 fq2,.int .i64 lt2,.slice ct2 mt2 qt2])):=Lib.hid (hv.move (.weaken fun b h1 h2=>⟨h1,h2⟩))
 have rd':Hid (aW X1201 r q2):=Lib.hid hrd
 clear hv hrd
 go_wp2_with fail
 have zX1201:U3.heap.size≤X1201.heap.size:=hb.size
 replace fT:=aB fT hb (by omega);replace fR:=aB fR hb (by omega);replace fC:=Lib.hid (fC.out.trans hb);replace hX:=Lib.hid (hX.out.move (kpN hb (fun b hb=>hb.1)))
 replace hT:=Lib.hid (hT.out.move (kpN hb (fun b hb=>hb.1)));replace hA:=Lib.hid (hA.out.move (kpN hb (fun b hb=>by have h1:=hb.1;have h2:=hb.2;omega)));replace fA:=aB fA hb (by omega)
 have h2_:=h2_'
 clear h2_'
 clear rd
 have rd:=rd'
 clear rd'
 refine hK.out _ _ ⟨ag fT rfl,ag fT rfl,ag fA rfl,ag fA rfl⟩ (fun hHeld1201=>?_)
 clear hK K hHeld0 hb
 try simp only [nS,hwA]
 refine hwr 11 jj (fun K hK=>?_)
 dsimp only [jj];go_simp
 go_at_call 30
 refine(dC r _ s2 _ _ rd.out (hA.out.move (.weaken fun b h _=>by have h1:=h.1;intro e;omega)) hvs2 (by have h1:=HLB.out;have h2:=HLS.out;have h0:=HUU.out;omega)).mono ?_
 rintro e X1202 ⟨s3,v,qt,rfl,hvs3,hv,hqt,hrd,hb⟩
 obtain⟨kc,ac,nc,qc,rfl⟩:=hv.shape
 have hB_':Hid (ap (fun b=>X1201.heap.size≤b∧b<X1202.heap.size) X1202 s3.ty (.agg #[.int .i64 kc,.slice ac nc qc])):=Lib.hid (hv.move (.weaken fun b h1 h2=>⟨h1,h2⟩))
 have rd':Hid (aW X1202 r qt):=Lib.hid hrd
 clear hv hrd
 go_wp2_with fail
 have zX1202:X1201.heap.size≤X1202.heap.size:=hb.size
 replace fT:=aB fT hb (by omega);replace fR:=aB fR hb (by omega);replace fC:=Lib.hid (fC.out.trans hb);replace hX:=Lib.hid (hX.out.move (kpN hb (fun b hb=>hb.1)))
 replace hT:=Lib.hid (hT.out.move (kpN hb (fun b hb=>hb.1)));replace hA:=Lib.hid (hA.out.move (kpN hb (fun b hb=>by have h1:=hb.1;have h2:=hb.2;omega)));replace fA:=aB fA hb (by omega);replace h2_:=Lib.hid (h2_.out.move (kpN hb (fun b hb=>by have h1:=hb.1;have h2:=hb.2;omega)))
 have hB_:=hB_'
 clear hB_'
 clear rd
 have rd:=rd'
 clear rd'
 refine hK.out _ _ ⟨ag fT rfl,ag fT rfl,ag fA rfl,ag fA rfl⟩ (fun hHeld1202=>?_)
 clear hK K hHeld1201 hb
 try simp only [jj,hwA]
 refine hwr 14 jF (fun K hK=>?_)
 dsimp only [jF];go_simp
 go_at_call 24
 refine(HIH.out (s3) l (cu HD2.out HSV.out hvs3) hvs3 HOK.out (by omega) HNL.out _ _ _ _ rd.out (hX.out.move (.weaken fun b h _=>h.1)) HCV.out (hB_.out.move (.weaken fun b h _=>by have h1:=h.1;intro e;omega)) (by have h1:=HLB.out;have h2:=HLS.out;have h0:=HUU.out;have h4:=bv HD2.out hvs3;omega)).mono ?_
 rintro e X1203 ⟨t3,v,q3,rfl,hcn3,hv,hq3,hrd,hb⟩
 obtain⟨kt3,nm3,ut3,tk3,ta3,tn3,tq3,fk3,fa3,fn3,fq3,lt3,ct3,mt3,qt3,rfl⟩:=hv.shape
 have HC3:=Lib.hid hcn3
 clear hcn3
 have h3_':Hid (az (fun b=>X1202.heap.size≤b∧b<X1203.heap.size) X1203 t3 (.agg #[.int .i64 kt3,.string nm3,.int .i64 ut3,.int .i64 tk3,.slice ta3 tn3 tq3,.int .i64 fk3,.slice fa3 fn3 fq3,.int .i64 lt3,.slice ct3 mt3 qt3])):=Lib.hid (hv.move (.weaken fun b h1 h2=>⟨h1,h2⟩))
 have rd':Hid (aW X1203 r q3):=Lib.hid hrd
 clear hv hrd
 go_wp2_with fail
 have zX1203:X1202.heap.size≤X1203.heap.size:=hb.size
 replace fT:=aB fT hb (by omega);replace fR:=aB fR hb (by omega);replace fC:=Lib.hid (fC.out.trans hb);replace hX:=Lib.hid (hX.out.move (kpN hb (fun b hb=>hb.1)))
 replace hT:=Lib.hid (hT.out.move (kpN hb (fun b hb=>hb.1)));replace hA:=Lib.hid (hA.out.move (kpN hb (fun b hb=>by have h1:=hb.1;have h2:=hb.2;omega)));replace fA:=aB fA hb (by omega);replace h2_:=Lib.hid (h2_.out.move (kpN hb (fun b hb=>by have h1:=hb.1;have h2:=hb.2;omega)))
 replace hB_:=Lib.hid (hB_.out.move (kpN hb (fun b hb=>by have h1:=hb.1;have h2:=hb.2;omega)))
 have h3_:=h3_'
 clear h3_'
 clear rd
 have rd:=rd'
 clear rd'
 refine hK.out _ _ ⟨ag fT rfl,ag fT rfl,ag fA rfl,ag fA rfl⟩ (fun hHeld1203=>?_)
 clear hK K hHeld1202 hb
 try simp only [jF,hwA]
 refine hwr 15 ju (fun K hK=>?_)
 dsimp only [ju];go_simp
 (try go_wp2_with fail)
 obtain⟨X1204,hXq,hb,fL,zX1204a,zX1204b⟩:=bM X1203 (.cells #[.int .i64 kt2,.string nm2,.int .i64 ut2,.int .i64 tk2,.slice ta2 tn2 tq2,.int .i64 fk2,.slice fa2 fn2 fq2,.int .i64 lt2,.slice ct2 mt2 qt2,.int .i64 kt3,.string nm3,.int .i64 ut3,.int .i64 tk3,.slice ta3 tn3 tq3,.int .i64 fk3,.slice fa3 fn3 fq3,.int .i64 lt3,.slice ct3 mt3 qt3] 28)
 rw [hXq]
 replace fT:=af fT hb;replace fR:=af fR hb;replace fC:=Lib.hid (fC.out.trans (Chg.of_below hb));replace rd:=Lib.hid (rd.out.below hb)
 replace hX:=Lib.hid (hX.out.below hb);replace hT:=Lib.hid (hT.out.below hb);replace hA:=Lib.hid (hA.out.below hb);replace fA:=af fA hb
 replace h2_:=Lib.hid (h2_.out.below hb);replace hB_:=Lib.hid (hB_.out.below hb);replace h3_:=Lib.hid (h3_.out.below hb)
 refine hK.out _ _ ⟨ag fT rfl,ag fT rfl,ag fA rfl,ag fA rfl⟩ (fun hHeld1204=>?_)
 clear hK K hHeld1203 hb hXq
 try simp only [ju,hwA]
 refine hwr 16 jd (fun K hK=>?_)
 dsimp only [jd];go_simp
 go_at_call 44
 refine(cw 6 _ _ _ _).mono ?_
 rintro e X1205 ⟨rfl,hb⟩
 go_wp2_with fail
 have zX1205:X1204.heap.size≤X1205.heap.size:=hb.size
 replace fT:=af fT hb;replace fR:=af fR hb;replace fC:=Lib.hid (fC.out.trans (Chg.of_below hb));replace rd:=Lib.hid (rd.out.below hb)
 replace hX:=Lib.hid (hX.out.below hb);replace hT:=Lib.hid (hT.out.below hb);replace hA:=Lib.hid (hA.out.below hb);replace fA:=af fA hb
 replace h2_:=Lib.hid (h2_.out.below hb);replace hB_:=Lib.hid (hB_.out.below hb);replace h3_:=Lib.hid (h3_.out.below hb);replace fL:=af fL hb
 refine hK.out _ _ ⟨ag fT rfl,ag fT rfl,ag fA rfl,ag fA rfl⟩ (fun hHeld1205=>?_)
 clear hK K hHeld1204 hb
 try simp only [jd,hwA]
 refine hwr 17 jZ (fun K hK=>?_)
 obtain⟨r0,rf0,r1,rf1,r2,rf2,r3,rf3,r4,rf4,r5,rf5,r6,rf6,r7,rf7,r8,rf8⟩:=blk9f fR
 dsimp only [jZ];go_simp
 (try go_wp2_with fail)
 have hQq:=db fR (.int .i64 6) (.string { data:=#[] }) (.int .i64 0) (.int .i64 0) (.slice none 0 0) (.int .i64 0) (.slice none 0 0) (.int .i64 0) (.slice (some ⟨X1203.heap.size,0,none⟩) 2 2)
 clear fR r0 rf0 r1 rf1 r2 rf2 r3 rf3 r4 rf4 r5 rf5 r6 rf6 r7 rf7 r8 rf8
 obtain⟨X1206,hXq,hsq,fR,zX1206a,zX1206b⟩:=hQq
 rw [hXq]
 replace fT:=hsq.blk (by omega) fT;replace fC:=Lib.hid (hsq.chg fC.out (by omega));replace rd:=Lib.hid (hsq.rd rd.out (by omega));replace hX:=Lib.hid (hX.out.move (hsq.keeps (fun b hb=>by have:=hb.2;omega)))
 replace hT:=Lib.hid (hsq.rep (fun b hb=>by have:=hb.2;omega) hT.out);replace hA:=Lib.hid (hsq.rep (fun b hb=>by have h1:=hb.1;have h2:=hb.2;omega) hA.out);replace fA:=hsq.blk (by omega) fA;replace h2_:=Lib.hid (h2_.out.move (hsq.keeps (fun b hb=>by have h1:=hb.1;have h2:=hb.2;omega)))
 replace hB_:=Lib.hid (hsq.rep (fun b hb=>by have h1:=hb.1;have h2:=hb.2;omega) hB_.out);replace h3_:=Lib.hid (h3_.out.move (hsq.keeps (fun b hb=>by have h1:=hb.1;have h2:=hb.2;omega)));replace fL:=hsq.blk (by omega) fL
 refine hK.out _ _ ⟨ag fT rfl,ag fT rfl,ag fA rfl,ag fA rfl⟩ (fun hHeld1206=>?_)
 clear hK K hHeld1205 hsq hXq
 try simp only [jZ,hwA]
 refine wpAnyH_done (by kernel_rfl) ?_ _
 refine NoPanic.normal ?_
 clear hHeld1206
 obtain⟨rc0,rc1,rc2,rc3,rc4,rc5,rc6,rc7,rc8⟩:=blk9 fR
 go_wp2_with fail
 refine bodyPost_ret (v:=.agg #[.int .i64 6,.string { data:=#[] },.int .i64 0,.int .i64 0,.slice none 0 0,.int .i64 0,.slice none 0 0,.int .i64 0,.slice (some ⟨X1203.heap.size,0,none⟩) 2 2]) (by simp [results,Try.results24,go_sem,rc0,rc1,rc2,rc3,rc4,rc5,rc6,rc7,rc8]) rfl ?_
 have h1:=HLB.out
 have h2:=HLS.out
 have h3:=HLI.out
 have h0:=HUU.out
 have h4:=bv HD2.out hvs3
 have hks:aV (w.heap.size ≤ ·) X1206 [t2,t3] (.slice (some ⟨X1203.heap.size,0,none⟩) 2 2):=aV.blk (by show w.heap.size≤_;omega) fL rfl (by unfold maxLen;omega) (b4.c2 (h2_.out.move (.weaken fun b h _=>by have h1:=h.1;show w.heap.size≤b;omega)).srep (h3_.out.move (.weaken fun b h _=>by have h1:=h.1;show w.heap.size≤b;omega)).srep)
 have hcc:(Tm.mk 6 { data:=#[] } 0 (.mk 0 []) (.mk 0 []) 0 [t2,t3]).cnt≤MB:=by
  have g1:=HC2.out
  have g2:=HC3.out
  (try simp only [Tm.cnt,Tm.cnts,Ty.cnt,Ty.cnts,List.length_cons,List.length_nil,show({ data:=#[] }:ByteArray).size=0 from rfl])
  omega
 exact⟨Tm.mk 6 { data:=#[] } 0 (.mk 0 []) (.mk 0 []) 0 [t2,t3],_,q3,rfl,hcc,az.mk bp ⟨_,rfl,aF.nil0⟩ ⟨_,rfl,aF.nil0⟩ hks,by omega,rd.out,fC.out⟩
end Go.Proofs.Ytnaoghknnenfoaa
namespace Go.Proofs.Ytnaoghknnenfoaa
open Go.RowKit
def lO:Oper:=⟨some 165,Op.move (Operand.tmp 0),36,"l3_typing.go:218",#[],none⟩
def lM:Oper:=⟨some 166,Op.move (Operand.tmp 1),63,"l3_typing.go:218",#[],none⟩
def mF:Oper:=⟨some 167,Op.fieldAddr 25 (Operand.tmp 6) 1,0,"l3_typing.go:218",#[],none⟩
def ni:Oper:=⟨some 168,Op.load 23 (Operand.tmp 167),23,"l3_typing.go:218",#[⟨2,.data⟩],none⟩
def mo:Oper:=⟨some 169,Op.indexAddr 23 (Operand.tmp 168) (Operand.const (Value.int IntKind.i64 0)),0,"l3_typing.go:218",#[⟨3,.data⟩],none⟩
def lF:Oper:=⟨some 170,Op.load 25 (Operand.tmp 169),25,"l3_typing.go:218",#[⟨4,.data⟩],none⟩
def nA:Oper:=⟨some 171,Op.move (Operand.tmp 3),3,"l3_typing.go:218",#[],none⟩
def lD:Oper:=⟨some 172,Op.binOp BinOp.sub 3 (Operand.tmp 171) (Operand.const (Value.int IntKind.i64 1)) 3,3,"l3_typing.go:218",#[⟨6,.data⟩],none⟩
def lH:Oper:=⟨some 173,Op.call { callee:=Callee.value (Operand.func 24),args:=#[Operand.tmp 165,Operand.tmp 166,Operand.tmp 170,Operand.tmp 172],argTypes:=#[36,63,25,3] },28,"l3_typing.go:218",#[⟨0,.data⟩,⟨1,.data⟩,⟨5,.data⟩,⟨7,.data⟩],none⟩
def lX:Oper:=⟨some 174,Op.move (Operand.tmp 0),36,"l3_typing.go:218",#[],none⟩
def jh:Oper:=⟨some 175,Op.move (Operand.tmp 1),63,"l3_typing.go:218",#[],none⟩
def jf:Oper:=⟨some 176,Op.fieldAddr 25 (Operand.tmp 6) 1,0,"l3_typing.go:218",#[],none⟩
def jG:Oper:=⟨some 177,Op.load 23 (Operand.tmp 176),23,"l3_typing.go:218",#[⟨11,.data⟩],none⟩
def jI:Oper:=⟨some 178,Op.indexAddr 23 (Operand.tmp 177) (Operand.const (Value.int IntKind.i64 1)),0,"l3_typing.go:218",#[⟨12,.data⟩],none⟩
def j9:Oper:=⟨some 179,Op.load 25 (Operand.tmp 178),25,"l3_typing.go:218",#[⟨13,.data⟩],none⟩
def jE:Oper:=⟨some 180,Op.move (Operand.tmp 3),3,"l3_typing.go:218",#[],none⟩
def jt:Oper:=⟨some 181,Op.binOp BinOp.sub 3 (Operand.tmp 180) (Operand.const (Value.int IntKind.i64 1)) 3,3,"l3_typing.go:218",#[⟨15,.data⟩],none⟩
def jB:Oper:=⟨some 182,Op.call { callee:=Callee.value (Operand.func 24),args:=#[Operand.tmp 174,Operand.tmp 175,Operand.tmp 179,Operand.tmp 181],argTypes:=#[36,63,25,3] },28,"l3_typing.go:218",#[⟨9,.data⟩,⟨10,.data⟩,⟨14,.data⟩,⟨16,.data⟩,⟨8,.chain⟩],none⟩
def kg:Oper:=⟨some 183,Op.buildSlice 26 2 #[(0,Operand.tmp 173),(1,Operand.tmp 182)],26,"l3_typing.go:218",#[⟨8,.data⟩,⟨17,.data⟩],none⟩
def jq:Oper:=⟨some 184,Op.call { callee:=Callee.value (Operand.func 44),args:=#[Operand.const (Value.int IntKind.i64 10),Operand.tmp 183],argTypes:=#[3,26] },28,"l3_typing.go:218",#[⟨18,.data⟩,⟨17,.chain⟩],none⟩
def jp:Oper:=⟨none,Op.store 28 (Operand.tmp 8) (Operand.tmp 184),0,"l3_typing.go:218",#[⟨19,.data⟩,⟨19,.chain⟩,⟨0,.phase⟩,⟨1,.phase⟩,⟨2,.phase⟩,⟨3,.phase⟩,⟨4,.phase⟩,⟨5,.phase⟩,⟨6,.phase⟩,⟨7,.phase⟩,⟨8,.phase⟩,⟨9,.phase⟩,⟨10,.phase⟩,⟨11,.phase⟩,⟨12,.phase⟩,⟨13,.phase⟩,⟨14,.phase⟩,⟨15,.phase⟩,⟨16,.phase⟩,⟨17,.phase⟩,⟨18,.phase⟩,⟨19,.phase⟩],none⟩
set_option maxHeartbeats 16000000 in
theorem mkWpr (dd:Int)(r p:Nat)(l:List Bd)(w:World)(kt:Int)(ta:Option Addr)(tn tq:Nat)(xa:Option Addr)(xn xq:Nat)(a b:S):(cL dd (S.pr a b) r p l w kt ta tn tq xa xn xq).1.2.2.2.2:=by
 intro hd5 hdlo hnl hrl HN hx60 hwn hwd HWK HX0 HT0 HCNT HNL HCV HOK HSV HIH HRD0 HKT HL60 MB hmb hp HMB i1_ wr u10 u11 i2_ i3_ i4_ i5_ i6_ i7_ i8_ i9_ i10_ i11_ i12_ i13_ i14_ i15_ i16_ i17_ i18_ i19_ i20_ i21_ i22_ i23_ i24_ i25_ i26_ i27_ i28_ i29_ i30_ i31_ i32_ i33_ i34_ i35_ i36_ i37_ i38_ i39_ wc u12 u13 u14 u15 u16 u17 u18 u19 u20 u21 u22 u23 u24 u25 u26 u27 u28 u29 u30 u31 u32 u33 u34 u35 u36 u37 u38 u39 u40 u41 u42 u43 u44 u45 u46 u47 u48 u49 u50 u51 u52 u53 u54 u55 u56 u57 u58 u59 u60 u61 u62 u63 u64 u65 u66 u67 u68 u69 u70 u71 u72 u73 u74 u75 u76 u77 u78 u79 u80 u81 u82 u83 u84 u85 u86 u87 u88 u89 u90 u91 u92 u93 u94 u95 u96 u97 u98 u99 u100 u101 u102 u103 u104 u105 u106 u107 u108 u109 u110 u111 u112 u113 u114 u115 u116 u117 u118 u119 u120 u121 u122 u125 u126 u127 u128 u129 u130 u131 u132 u133 u134 u135 u136 u137 u138 u139 u140 u141 u142 u143 u144 u145 u146 u147 u149 u150 u151 u152 u153 u154 u155 u156 u157 u158 u159 u160 u161 u162 u164 u165 u166 u167 u168 u169 u170 u171 u172 u173 u174 u175 u176 u177 u178 u179 u180 u181 u182 u183 u184 u186 u187 u188 u189 u190 u191 u192 u193 u194 u195 u196 u197 u198 u199 u200 u201 u202 u203 u204 u205 u206 u207 u208 u209 u210 u211 u212 u213 u214 u215 u216 u217 u218 u219 u220 u221 u222 u223 u224 u225 u226 u227 u228 u229 u230 u231 u232 u233 u234 q hq hsz fC rd fT fR hX hT
 obtain rfl:kt=5:=HKT.out
 have hT0:=hT.out
 obtain⟨-,hks0⟩:=ap.pairK hT0
 obtain⟨b2,off2,cap2,k5,c5,m5,q5,k6,c6,m6,q6,hsl,-,-,hlb2,e5a,e5b,e6a,e6b,ht5,ht6⟩:=hks0.two
 simp only [Value.slice.injEq] at hsl
 obtain⟨rfl,rfl,rfl⟩:=hsl
 have hbF:=hks0.blkT (by simp)
 have hbr:b2≠r:=hbF.1
 have hbw:b2<w.heap.size:=hbF.2
 have HVA:=Lib.hid (show a.vd=true∧b.vd=true from pr_vd HSV.out)
 have HB0:=Lib.hid (mkB_pr (d:=dd) HSV.out)
 have h5_:=Lib.hid ht5
 have h6_:=Lib.hid ht6
 clear hT0 hks0 hbF ht5 ht6
 have c5a_:=e5a
 have c5b_:=e5b
 have c6a_:=e6a
 have c6b_:=e6b
 clear e5a e5b e6a e6b
 obtain⟨y0,y1⟩:=blk2 fT;have lyT:=al fT
 go_wp2_with fail
 clear y0 y1 lyT
 refine wp_region_noPanic ?_
 refine wp_region_held_drew (S:=fun w'=>w'.cell? ⟨w.heap.size,1,none⟩=some (.slice (some ⟨b2,off2,none⟩) 2 tq)∧w'.cell? ⟨b2,off2,none⟩=some (.int .i64 k5)∧w'.cell? ⟨b2,off2+1,none⟩=some (.slice c5 m5 q5)∧w'.cell? ⟨b2,off2+2,none⟩=some (.int .i64 k6)∧w'.cell? ⟨b2,off2+3,none⟩=some (.slice c6 m6 q6)) (by kernel_rfl) ?_ (fun hHeld0=>?_)
 ·exact⟨ag fT rfl,c5a_,c5b_,c6a_,c6b_⟩
 obtain⟨U5,hU,hb,zU5a,zU5b⟩:=bO wc
 rw [hU] at hHeld0 ⊢
 replace fT:=af fT hb;replace fR:=af fR hb;replace fC:=Lib.hid (fC.out.trans (Chg.of_below hb));replace rd:=Lib.hid (rd.out.below hb)
 replace hX:=Lib.hid (hX.out.below hb);replace hT:=Lib.hid (hT.out.below hb);replace c5a_:=a9 hb c5a_;replace c5b_:=a9 hb c5b_
 replace h5_:=Lib.hid (h5_.out.below hb);replace c6a_:=a9 hb c6a_;replace c6b_:=a9 hb c6b_;replace h6_:=Lib.hid (h6_.out.below hb)
 (try simp only [World.size_alloc] at zU5a zU5b)
 clear hU hb
 refine hwt 0 lO (.pointer (some ⟨r,0,none⟩)) hHeld0 ?_ ?_
 ·intro w' hSw;dsimp only [lO];go_simp
 try simp only [lO,hwA]
 refine hwt 1 lM (.slice xa xn xq) hHeld0 ?_ ?_
 ·intro w' hSw;dsimp only [lM];go_simp
 try simp only [lM,hwA]
 refine hwt 2 mF (.pointer (some ⟨w.heap.size,1,none⟩)) hHeld0 ?_ ?_
 ·intro w' hSw;dsimp only [mF];go_simp
 try simp only [mF,hwA]
 refine hwt 3 ni (.slice (some ⟨b2,off2,none⟩) 2 tq) hHeld0 ?_ ?_
 ·intro w' hSw;dsimp only [ni];go_simp
 try simp only [ni,hwA]
 refine hwt 4 mo (.pointer (some ⟨b2,off2,none⟩)) hHeld0 ?_ ?_
 ·intro w' hSw;dsimp only [mo];go_simp
 try simp only [mo,hwA]
 refine hwt 5 lF (.agg #[.int .i64 k5,.slice c5 m5 q5]) hHeld0 ?_ ?_
 ·intro w' hSw;dsimp only [lF];go_simp
 try simp only [lF,hwA]
 refine hwt 6 nA (.int .i64 dd) hHeld0 ?_ ?_
 ·intro w' hSw;dsimp only [nA];go_simp
 try simp only [nA,hwA]
 refine hwt 7 lD (.int .i64 (dd-1)) hHeld0 ?_ ?_
 ·intro w' hSw;dsimp only [lD];go_simp;exact HWK.out
 try simp only [lD,hwA]
 refine hwt 9 lX (.pointer (some ⟨r,0,none⟩)) hHeld0 ?_ ?_
 ·intro w' hSw;dsimp only [lX];go_simp
 try simp only [lX,hwA]
 refine hwt 10 jh (.slice xa xn xq) hHeld0 ?_ ?_
 ·intro w' hSw;dsimp only [jh];go_simp
 try simp only [jh,hwA]
 refine hwt 11 jf (.pointer (some ⟨w.heap.size,1,none⟩)) hHeld0 ?_ ?_
 ·intro w' hSw;dsimp only [jf];go_simp
 try simp only [jf,hwA]
 refine hwt 12 jG (.slice (some ⟨b2,off2,none⟩) 2 tq) hHeld0 ?_ ?_
 ·intro w' hSw;dsimp only [jG];go_simp
 try simp only [jG,hwA]
 refine hwt 13 jI (.pointer (some ⟨b2,off2+2,none⟩)) hHeld0 ?_ ?_
 ·intro w' hSw;dsimp only [jI];go_simp
 try simp only [jI,hwA]
 refine hwt 14 j9 (.agg #[.int .i64 k6,.slice c6 m6 q6]) hHeld0 ?_ ?_
 ·intro w' hSw;dsimp only [j9];go_simp
 try simp only [j9,hwA]
 refine hwt 15 jE (.int .i64 dd) hHeld0 ?_ ?_
 ·intro w' hSw;dsimp only [jE];go_simp
 try simp only [jE,hwA]
 refine hwt 16 jt (.int .i64 (dd-1)) hHeld0 ?_ ?_
 ·intro w' hSw;dsimp only [jt];go_simp;exact HWK.out
 try simp only [jt,hwA]
 refine hwr 8 lH (fun K hK=>?_)
 dsimp only [lH];go_simp
 go_at_call 24
 refine(HIH.out (a) l (jo (by simp [S.dep];omega)) HVA.out.1 HOK.out (by omega) HNL.out _ _ _ _ rd.out (hX.out.move (.weaken fun b h _=>h.1)) HCV.out (h5_.out.move (.weaken fun b h _=>h.1)) (by have h1:=HB0.out;have h2:=HMB.out;omega)).mono ?_
 rintro e X1801 ⟨t2,v,q2,rfl,hcn2,hv,hq2,hrd,hb⟩
 obtain⟨kt2,nm2,ut2,tk2,ta2,tn2,tq2,fk2,fa2,fn2,fq2,lt2,ct2,mt2,qt2,rfl⟩:=hv.shape
 have HC2:=Lib.hid hcn2
 clear hcn2
 have h2_':Hid (az (fun b=>U5.heap.size≤b∧b<X1801.heap.size) X1801 t2 (.agg #[.int .i64 kt2,.string nm2,.int .i64 ut2,.int .i64 tk2,.slice ta2 tn2 tq2,.int .i64 fk2,.slice fa2 fn2 fq2,.int .i64 lt2,.slice ct2 mt2 qt2])):=Lib.hid (hv.move (.weaken fun b h1 h2=>⟨h1,h2⟩))
 have rd':Hid (aW X1801 r q2):=Lib.hid hrd
 clear hv hrd
 go_wp2_with fail
 have zX1801:U5.heap.size≤X1801.heap.size:=hb.size
 replace fT:=aB fT hb (by omega);replace fR:=aB fR hb (by omega);replace fC:=Lib.hid (fC.out.trans hb);replace hX:=Lib.hid (hX.out.move (kpN hb (fun b hb=>hb.1)))
 replace hT:=Lib.hid (hT.out.move (kpN hb (fun b hb=>hb.1)));replace c5a_:=aR hb (by omega) c5a_;replace c5b_:=aR hb (by omega) c5b_;replace h5_:=Lib.hid (h5_.out.move (kpN hb (fun b hb=>hb.1)))
 replace c6a_:=aR hb (by omega) c6a_;replace c6b_:=aR hb (by omega) c6b_;replace h6_:=Lib.hid (h6_.out.move (kpN hb (fun b hb=>hb.1)))
 have h2_:=h2_'
 clear h2_'
 clear rd
 have rd:=rd'
 clear rd'
 refine hK.out _ _ ⟨ag fT rfl,c5a_,c5b_,c6a_,c6b_⟩ (fun hHeld1801=>?_)
 clear hK K hHeld0 hb
 try simp only [lH,hwA]
 refine hwr 17 jB (fun K hK=>?_)
 dsimp only [jB];go_simp
 go_at_call 24
 refine(HIH.out (b) l (jo (by simp [S.dep];omega)) HVA.out.2 HOK.out (by omega) HNL.out _ _ _ _ rd.out (hX.out.move (.weaken fun b h _=>h.1)) HCV.out (h6_.out.move (.weaken fun b h _=>h.1)) (by have h1:=HB0.out;have h2:=HMB.out;omega)).mono ?_
 rintro e X1802 ⟨t3,v,q3,rfl,hcn3,hv,hq3,hrd,hb⟩
 obtain⟨kt3,nm3,ut3,tk3,ta3,tn3,tq3,fk3,fa3,fn3,fq3,lt3,ct3,mt3,qt3,rfl⟩:=hv.shape
 have HC3:=Lib.hid hcn3
 clear hcn3
 have h3_':Hid (az (fun b=>X1801.heap.size≤b∧b<X1802.heap.size) X1802 t3 (.agg #[.int .i64 kt3,.string nm3,.int .i64 ut3,.int .i64 tk3,.slice ta3 tn3 tq3,.int .i64 fk3,.slice fa3 fn3 fq3,.int .i64 lt3,.slice ct3 mt3 qt3])):=Lib.hid (hv.move (.weaken fun b h1 h2=>⟨h1,h2⟩))
 have rd':Hid (aW X1802 r q3):=Lib.hid hrd
 clear hv hrd
 go_wp2_with fail
 have zX1802:X1801.heap.size≤X1802.heap.size:=hb.size
 replace fT:=aB fT hb (by omega);replace fR:=aB fR hb (by omega);replace fC:=Lib.hid (fC.out.trans hb);replace hX:=Lib.hid (hX.out.move (kpN hb (fun b hb=>hb.1)))
 replace hT:=Lib.hid (hT.out.move (kpN hb (fun b hb=>hb.1)));replace c5a_:=aR hb (by omega) c5a_;replace c5b_:=aR hb (by omega) c5b_;replace h5_:=Lib.hid (h5_.out.move (kpN hb (fun b hb=>hb.1)))
 replace c6a_:=aR hb (by omega) c6a_;replace c6b_:=aR hb (by omega) c6b_;replace h6_:=Lib.hid (h6_.out.move (kpN hb (fun b hb=>hb.1)));replace h2_:=Lib.hid (h2_.out.move (kpN hb (fun b hb=>by have h1:=hb.1;have h2:=hb.2;omega)))
 have h3_:=h3_'
 clear h3_'
 clear rd
 have rd:=rd'
 clear rd'
 refine hK.out _ _ ⟨ag fT rfl,c5a_,c5b_,c6a_,c6b_⟩ (fun hHeld1802=>?_)
 clear hK K hHeld1801 hb
 try simp only [jB,hwA]
 refine hwr 18 kg (fun K hK=>?_)
 dsimp only [kg];go_simp
 (try go_wp2_with fail)
 obtain⟨X1803,hXq,hb,fL,zX1803a,zX1803b⟩:=bM X1802 (.cells #[.int .i64 kt2,.string nm2,.int .i64 ut2,.int .i64 tk2,.slice ta2 tn2 tq2,.int .i64 fk2,.slice fa2 fn2 fq2,.int .i64 lt2,.slice ct2 mt2 qt2,.int .i64 kt3,.string nm3,.int .i64 ut3,.int .i64 tk3,.slice ta3 tn3 tq3,.int .i64 fk3,.slice fa3 fn3 fq3,.int .i64 lt3,.slice ct3 mt3 qt3] 28)
 rw [hXq]
 replace fT:=af fT hb;replace fR:=af fR hb;replace fC:=Lib.hid (fC.out.trans (Chg.of_below hb));replace rd:=Lib.hid (rd.out.below hb)
 replace hX:=Lib.hid (hX.out.below hb);replace hT:=Lib.hid (hT.out.below hb);replace c5a_:=a9 hb c5a_;replace c5b_:=a9 hb c5b_
 replace h5_:=Lib.hid (h5_.out.below hb);replace c6a_:=a9 hb c6a_;replace c6b_:=a9 hb c6b_;replace h6_:=Lib.hid (h6_.out.below hb)
 replace h2_:=Lib.hid (h2_.out.below hb);replace h3_:=Lib.hid (h3_.out.below hb)
 refine hK.out _ _ ⟨ag fT rfl,c5a_,c5b_,c6a_,c6b_⟩ (fun hHeld1803=>?_)
 clear hK K hHeld1802 hb hXq
 try simp only [kg,hwA]
 refine hwr 19 jq (fun K hK=>?_)
 dsimp only [jq];go_simp
 go_at_call 44
 refine(cw 10 _ _ _ _).mono ?_
 rintro e X1804 ⟨rfl,hb⟩
 go_wp2_with fail
 have zX1804:X1803.heap.size≤X1804.heap.size:=hb.size
 replace fT:=af fT hb;replace fR:=af fR hb;replace fC:=Lib.hid (fC.out.trans (Chg.of_below hb));replace rd:=Lib.hid (rd.out.below hb)
 replace hX:=Lib.hid (hX.out.below hb);replace hT:=Lib.hid (hT.out.below hb);replace c5a_:=a9 hb c5a_;replace c5b_:=a9 hb c5b_
 replace h5_:=Lib.hid (h5_.out.below hb);replace c6a_:=a9 hb c6a_;replace c6b_:=a9 hb c6b_;replace h6_:=Lib.hid (h6_.out.below hb)
 replace h2_:=Lib.hid (h2_.out.below hb);replace h3_:=Lib.hid (h3_.out.below hb);replace fL:=af fL hb
 refine hK.out _ _ ⟨ag fT rfl,c5a_,c5b_,c6a_,c6b_⟩ (fun hHeld1804=>?_)
 clear hK K hHeld1803 hb
 try simp only [jq,hwA]
 refine hwr 20 jp (fun K hK=>?_)
 obtain⟨r0,rf0,r1,rf1,r2,rf2,r3,rf3,r4,rf4,r5,rf5,r6,rf6,r7,rf7,r8,rf8⟩:=blk9f fR
 dsimp only [jp];go_simp
 (try go_wp2_with fail)
 have hQq:=db fR (.int .i64 10) (.string { data:=#[] }) (.int .i64 0) (.int .i64 0) (.slice none 0 0) (.int .i64 0) (.slice none 0 0) (.int .i64 0) (.slice (some ⟨X1802.heap.size,0,none⟩) 2 2)
 clear fR r0 rf0 r1 rf1 r2 rf2 r3 rf3 r4 rf4 r5 rf5 r6 rf6 r7 rf7 r8 rf8
 obtain⟨X1805,hXq,hsq,fR,zX1805a,zX1805b⟩:=hQq
 rw [hXq]
 replace fT:=hsq.blk (by omega) fT;replace fC:=Lib.hid (hsq.chg fC.out (by omega));replace rd:=Lib.hid (hsq.rd rd.out (by omega));replace hX:=Lib.hid (hX.out.move (hsq.keeps (fun b hb=>by have:=hb.2;omega)))
 replace hT:=Lib.hid (hsq.rep (fun b hb=>by have:=hb.2;omega) hT.out);replace c5a_:=hsq.cell (by show b2≠w.heap.size+1;omega) c5a_;replace c5b_:=hsq.cell (by show b2≠w.heap.size+1;omega) c5b_;replace h5_:=Lib.hid (hsq.rep (fun b hb=>by have:=hb.2;omega) h5_.out)
 replace c6a_:=hsq.cell (by show b2≠w.heap.size+1;omega) c6a_;replace c6b_:=hsq.cell (by show b2≠w.heap.size+1;omega) c6b_;replace h6_:=Lib.hid (hsq.rep (fun b hb=>by have:=hb.2;omega) h6_.out);replace h2_:=Lib.hid (h2_.out.move (hsq.keeps (fun b hb=>by have h1:=hb.1;have h2:=hb.2;omega)))
 replace h3_:=Lib.hid (h3_.out.move (hsq.keeps (fun b hb=>by have h1:=hb.1;have h2:=hb.2;omega)));replace fL:=hsq.blk (by omega) fL
 refine hK.out _ _ ⟨ag fT rfl,c5a_,c5b_,c6a_,c6b_⟩ (fun hHeld1805=>?_)
 clear hK K hHeld1804 hsq hXq
 try simp only [jp,hwA]
 refine wpAnyH_done (by kernel_rfl) ?_ _
 refine NoPanic.normal ?_
 clear hHeld1805
 obtain⟨rc0,rc1,rc2,rc3,rc4,rc5,rc6,rc7,rc8⟩:=blk9 fR
 go_wp2_with fail
 refine bodyPost_ret (v:=.agg #[.int .i64 10,.string { data:=#[] },.int .i64 0,.int .i64 0,.slice none 0 0,.int .i64 0,.slice none 0 0,.int .i64 0,.slice (some ⟨X1802.heap.size,0,none⟩) 2 2]) (by simp [results,Try.results24,go_sem,rc0,rc1,rc2,rc3,rc4,rc5,rc6,rc7,rc8]) rfl ?_
 have h1:=HB0.out
 have h2:=HMB.out
 have hks:aV (w.heap.size ≤ ·) X1805 [t2,t3] (.slice (some ⟨X1802.heap.size,0,none⟩) 2 2):=aV.blk (by show w.heap.size≤_;omega) fL rfl (by unfold maxLen;omega) (b4.c2 (h2_.out.move (.weaken fun b h _=>by have h1:=h.1;show w.heap.size≤b;omega)).srep (h3_.out.move (.weaken fun b h _=>by have h1:=h.1;show w.heap.size≤b;omega)).srep)
 have hcc:(Tm.mk 10 { data:=#[] } 0 (.mk 0 []) (.mk 0 []) 0 [t2,t3]).cnt≤MB:=by
  have g1:=HC2.out
  have g2:=HC3.out
  (try simp only [Tm.cnt,Tm.cnts,Ty.cnt,Ty.cnts,List.length_cons,List.length_nil,show({ data:=#[] }:ByteArray).size=0 from rfl])
  omega
 exact⟨Tm.mk 10 { data:=#[] } 0 (.mk 0 []) (.mk 0 []) 0 [t2,t3],_,q3,rfl,hcc,az.mk bp ⟨_,rfl,aF.nil0⟩ ⟨_,rfl,aF.nil0⟩ hks,by omega,rd.out,fC.out⟩
end Go.Proofs.Ytnaoghknnenfoaa
