/-
  spec.l3Make: way 0 of a deep term.
  spec.l3Make: way 1 of a deep term.
-/
import Derived.Test.YtnaoghknnenfoaaMkH
set_option linter.unusedSimpArgs false
set_option linter.unusedVariables false
set_option maxRecDepth 100000
namespace Go.Proofs.Ytnaoghknnenfoaa
open Go.RowKit
def nj:Oper:=⟨some 54,Op.load 25 (Operand.tmp 6),25,"l3_typing.go:199",#[],none⟩
def lJ:Oper:=⟨some 55,Op.call { callee:=Callee.value (Operand.func 43),args:=#[Operand.tmp 54],argTypes:=#[25] },25,"l3_typing.go:199",#[⟨0,.data⟩],none⟩
def m7:Oper:=⟨some 56,Op.move (Operand.tmp 0),36,"l3_typing.go:199",#[],none⟩
def mx:Oper:=⟨some 57,Op.move (Operand.tmp 1),63,"l3_typing.go:199",#[],none⟩
def ny:Oper:=⟨some 58,Op.move (Operand.tmp 0),36,"l3_typing.go:199",#[],none⟩
def ls:Oper:=⟨some 59,Op.load 25 (Operand.tmp 6),25,"l3_typing.go:199",#[],none⟩
def om:Oper:=⟨some 60,Op.call { callee:=Callee.value (Operand.func 30),args:=#[Operand.tmp 58,Operand.tmp 59],argTypes:=#[36,25] },25,"l3_typing.go:199",#[⟨4,.data⟩,⟨5,.data⟩,⟨1,.chain⟩],none⟩
def nq:Oper:=⟨some 61,Op.move (Operand.tmp 3),3,"l3_typing.go:199",#[],none⟩
def nU:Oper:=⟨some 62,Op.binOp BinOp.sub 3 (Operand.tmp 61) (Operand.const (Value.int IntKind.i64 1)) 3,3,"l3_typing.go:199",#[⟨7,.data⟩],none⟩
def nD:Oper:=⟨some 63,Op.call { callee:=Callee.value (Operand.func 24),args:=#[Operand.tmp 56,Operand.tmp 57,Operand.tmp 60,Operand.tmp 62],argTypes:=#[36,63,25,3] },28,"l3_typing.go:199",#[⟨2,.data⟩,⟨3,.data⟩,⟨6,.data⟩,⟨8,.data⟩,⟨6,.chain⟩],none⟩
def jP:Oper:=⟨some 64,Op.buildSlice 26 1 #[(0,Operand.tmp 63)],26,"l3_typing.go:199",#[⟨9,.data⟩],none⟩
def kl:Oper:=⟨some 65,Op.build 28 #[(0,Operand.const (Value.int IntKind.i64 13)),(3,Operand.tmp 55),(6,Operand.tmp 64)],28,"l3_typing.go:199",#[⟨1,.data⟩,⟨10,.data⟩],none⟩
def jT:Oper:=⟨none,Op.store 28 (Operand.tmp 8) (Operand.tmp 65),0,"l3_typing.go:199",#[⟨11,.data⟩,⟨9,.chain⟩,⟨0,.phase⟩,⟨1,.phase⟩,⟨2,.phase⟩,⟨3,.phase⟩,⟨4,.phase⟩,⟨5,.phase⟩,⟨6,.phase⟩,⟨7,.phase⟩,⟨8,.phase⟩,⟨9,.phase⟩,⟨10,.phase⟩,⟨11,.phase⟩],none⟩
set_option maxHeartbeats 16000000 in
theorem mkW0 (dd:Int)(s:S)(r p:Nat)(l:List Bd)(w:World)(kt:Int)(ta:Option Addr)(tn tq:Nat)(xa:Option Addr)(xn xq:Nat):(cL dd s r p l w kt ta tn tq xa xn xq).1.1:=by
 intro hd5 hdlo hnl hrl HN hx60 hwn hwd HWK HX0 HT0 HCNT HNL HCV HOK HSV HIH HRD0 HKT HL60 MB hmb hp HMB i1_ wr u10 u11 u16 u17 u18 u19 u20 u21 u22 u23 u24 u25 u26 u27 u28 u29 u30 u31 u32 u33 u34 u35 u36 u37 u38 u39 u40 u41 u42 u43 u44 u45 u46 u47 q hsz hj hq h0 i2_ i3_ i4_ i5_ i6_ i7_ i8_ i9_ i10_ hd1 hdb HD2 U hU0 HUU hMB1 hMB2 HLB HLI HLS i11_ w1 jk zw1 fT fR fC hX hT rd hj0 i12_ i13_
 refine wp_region_noPanic ?_
 refine wp_region_held_drew (S:=fun w'=>w'.cell? ⟨w.heap.size,0,none⟩=some (.int .i64 kt)∧w'.cell? ⟨w.heap.size,1,none⟩=some (.slice ta tn tq)) (by kernel_rfl) ?_ (fun hHeld0=>?_)
 ·exact⟨ag fT rfl,ag fT rfl⟩
 obtain⟨U1,hU,hb,zU1a,zU1b⟩:=bO w1
 rw [hU] at hHeld0 ⊢
 replace fT:=af fT hb;replace fR:=af fR hb;replace fC:=Lib.hid (fC.out.trans (Chg.of_below hb));replace rd:=Lib.hid (rd.out.below hb)
 replace hX:=Lib.hid (hX.out.below hb);replace hT:=Lib.hid (hT.out.below hb)
 (try simp only [World.size_alloc] at zU1a zU1b)
 clear hU hb
 refine hwt 0 nj (.agg #[.int .i64 kt,.slice ta tn tq]) hHeld0 ?_ ?_
 ·intro w' hSw;dsimp only [nj];go_simp
 try simp only [nj,hwA]
 refine hwt 2 m7 (.pointer (some ⟨r,0,none⟩)) hHeld0 ?_ ?_
 ·intro w' hSw;dsimp only [m7];go_simp
 try simp only [m7,hwA]
 refine hwt 3 mx (.slice xa xn xq) hHeld0 ?_ ?_
 ·intro w' hSw;dsimp only [mx];go_simp
 try simp only [mx,hwA]
 refine hwt 4 ny (.pointer (some ⟨r,0,none⟩)) hHeld0 ?_ ?_
 ·intro w' hSw;dsimp only [ny];go_simp
 try simp only [ny,hwA]
 refine hwt 5 ls (.agg #[.int .i64 kt,.slice ta tn tq]) hHeld0 ?_ ?_
 ·intro w' hSw;dsimp only [ls];go_simp
 try simp only [ls,hwA]
 refine hwt 7 nq (.int .i64 dd) hHeld0 ?_ ?_
 ·intro w' hSw;dsimp only [nq];go_simp
 try simp only [nq,hwA]
 refine hwt 8 nU (.int .i64 (dd-1)) hHeld0 ?_ ?_
 ·intro w' hSw;dsimp only [nU];go_simp;exact HWK.out
 try simp only [nU,hwA]
 refine hwr 1 lJ (fun K hK=>?_)
 dsimp only [lJ];go_simp
 go_at_call 43
 refine(b8 _ s.ty _ _ hT.out (S.cnt_ok HSV.out)).mono ?_
 rintro e X1001 ⟨v,rfl,hv,hb⟩
 obtain⟨kc,ac,nc,qc,rfl⟩:=hv.shape
 have hN':Hid (ap (fun b=>U1.heap.size≤b∧b<X1001.heap.size) X1001 s.ty (.agg #[.int .i64 kc,.slice ac nc qc])):=Lib.hid (hv.rep.move (.weaken fun b h1 h2=>⟨h1,h2⟩))
 clear hv
 go_wp2_with fail
 have zX1001:U1.heap.size≤X1001.heap.size:=hb.size
 replace fT:=af fT hb;replace fR:=af fR hb;replace fC:=Lib.hid (fC.out.trans (Chg.of_below hb));replace rd:=Lib.hid (rd.out.below hb)
 replace hX:=Lib.hid (hX.out.below hb);replace hT:=Lib.hid (hT.out.below hb)
 have hN:=hN'
 clear hN'
 refine hK.out _ _ ⟨ag fT rfl,ag fT rfl⟩ (fun hHeld1001=>?_)
 clear hK K hHeld0 hb
 try simp only [lJ,hwA]
 refine hwr 6 om (fun K hK=>?_)
 dsimp only [om];go_simp
 go_at_call 30
 refine(dC r _ s _ _ rd.out (hT.out.move (.weaken fun b h _=>h.1)) HSV.out (by omega)).mono ?_
 rintro e X1002 ⟨s2,v,qs,rfl,hvs2,hv,hqs,hrd,hb⟩
 obtain⟨kb,ab,nb,qb,rfl⟩:=hv.shape
 have hB_':Hid (ap (fun b=>X1001.heap.size≤b∧b<X1002.heap.size) X1002 s2.ty (.agg #[.int .i64 kb,.slice ab nb qb])):=Lib.hid (hv.move (.weaken fun b h1 h2=>⟨h1,h2⟩))
 have rd':Hid (aW X1002 r qs):=Lib.hid hrd
 clear hv hrd
 go_wp2_with fail
 have zX1002:X1001.heap.size≤X1002.heap.size:=hb.size
 replace fT:=aB fT hb (by omega);replace fR:=aB fR hb (by omega);replace fC:=Lib.hid (fC.out.trans hb);replace hX:=Lib.hid (hX.out.move (kpN hb (fun b hb=>hb.1)))
 replace hT:=Lib.hid (hT.out.move (kpN hb (fun b hb=>hb.1)));replace hN:=Lib.hid (hN.out.move (kpN hb (fun b hb=>by have h1:=hb.1;have h2:=hb.2;omega)))
 have hB_:=hB_'
 clear hB_'
 clear rd
 have rd:=rd'
 clear rd'
 refine hK.out _ _ ⟨ag fT rfl,ag fT rfl⟩ (fun hHeld1002=>?_)
 clear hK K hHeld1001 hb
 try simp only [om,hwA]
 refine hwr 9 nD (fun K hK=>?_)
 dsimp only [nD];go_simp
 go_at_call 24
 refine(HIH.out (s2) l (cu HD2.out HSV.out hvs2) hvs2 HOK.out (by omega) HNL.out _ _ _ _ rd.out (hX.out.move (.weaken fun b h _=>h.1)) HCV.out (hB_.out.move (.weaken fun b h _=>by have h1:=h.1;intro e;omega)) (by have h1:=bv HD2.out hvs2;have h0:=HUU.out;omega)).mono ?_
 rintro e X1003 ⟨t2,v,q2,rfl,hcn2,hv,hq2,hrd,hb⟩
 obtain⟨kt2,nm2,ut2,tk2,ta2,tn2,tq2,fk2,fa2,fn2,fq2,lt2,ct2,mt2,qt2,rfl⟩:=hv.shape
 have HC2:=Lib.hid hcn2
 clear hcn2
 have h2_':Hid (az (fun b=>X1002.heap.size≤b∧b<X1003.heap.size) X1003 t2 (.agg #[.int .i64 kt2,.string nm2,.int .i64 ut2,.int .i64 tk2,.slice ta2 tn2 tq2,.int .i64 fk2,.slice fa2 fn2 fq2,.int .i64 lt2,.slice ct2 mt2 qt2])):=Lib.hid (hv.move (.weaken fun b h1 h2=>⟨h1,h2⟩))
 have rd':Hid (aW X1003 r q2):=Lib.hid hrd
 clear hv hrd
 go_wp2_with fail
 have zX1003:X1002.heap.size≤X1003.heap.size:=hb.size
 replace fT:=aB fT hb (by omega);replace fR:=aB fR hb (by omega);replace fC:=Lib.hid (fC.out.trans hb);replace hX:=Lib.hid (hX.out.move (kpN hb (fun b hb=>hb.1)))
 replace hT:=Lib.hid (hT.out.move (kpN hb (fun b hb=>hb.1)));replace hN:=Lib.hid (hN.out.move (kpN hb (fun b hb=>by have h1:=hb.1;have h2:=hb.2;omega)));replace hB_:=Lib.hid (hB_.out.move (kpN hb (fun b hb=>by have h1:=hb.1;have h2:=hb.2;omega)))
 have h2_:=h2_'
 clear h2_'
 clear rd
 have rd:=rd'
 clear rd'
 refine hK.out _ _ ⟨ag fT rfl,ag fT rfl⟩ (fun hHeld1003=>?_)
 clear hK K hHeld1002 hb
 try simp only [nD,hwA]
 refine hwr 10 jP (fun K hK=>?_)
 dsimp only [jP];go_simp
 (try go_wp2_with fail)
 obtain⟨X1004,hXq,hb,fL,zX1004a,zX1004b⟩:=bM X1003 (.cells #[.int .i64 kt2,.string nm2,.int .i64 ut2,.int .i64 tk2,.slice ta2 tn2 tq2,.int .i64 fk2,.slice fa2 fn2 fq2,.int .i64 lt2,.slice ct2 mt2 qt2] 28)
 rw [hXq]
 replace fT:=af fT hb;replace fR:=af fR hb;replace fC:=Lib.hid (fC.out.trans (Chg.of_below hb));replace rd:=Lib.hid (rd.out.below hb)
 replace hX:=Lib.hid (hX.out.below hb);replace hT:=Lib.hid (hT.out.below hb);replace hN:=Lib.hid (hN.out.below hb);replace hB_:=Lib.hid (hB_.out.below hb)
 replace h2_:=Lib.hid (h2_.out.below hb)
 refine hK.out _ _ ⟨ag fT rfl,ag fT rfl⟩ (fun hHeld1004=>?_)
 clear hK K hHeld1003 hb hXq
 try simp only [jP,hwA]
 refine hwt 11 kl (.agg #[.int .i64 13,.string { data:=#[] },.int .i64 0,.int .i64 kc,.slice ac nc qc,.int .i64 0,.slice none 0 0,.int .i64 0,.slice (some ⟨X1003.heap.size,0,none⟩) 1 1]) hHeld1004 ?_ ?_
 ·intro w' hSw;dsimp only [kl];go_simp
 try simp only [kl,hwA]
 refine hwr 12 jT (fun K hK=>?_)
 obtain⟨r0,rf0,r1,rf1,r2,rf2,r3,rf3,r4,rf4,r5,rf5,r6,rf6,r7,rf7,r8,rf8⟩:=blk9f fR
 dsimp only [jT];go_simp
 (try go_wp2_with fail)
 have hQq:=db fR (.int .i64 13) (.string { data:=#[] }) (.int .i64 0) (.int .i64 kc) (.slice ac nc qc) (.int .i64 0) (.slice none 0 0) (.int .i64 0) (.slice (some ⟨X1003.heap.size,0,none⟩) 1 1)
 clear fR r0 rf0 r1 rf1 r2 rf2 r3 rf3 r4 rf4 r5 rf5 r6 rf6 r7 rf7 r8 rf8
 obtain⟨X1005,hXq,hsq,fR,zX1005a,zX1005b⟩:=hQq
 rw [hXq]
 replace fT:=hsq.blk (by omega) fT;replace fC:=Lib.hid (hsq.chg fC.out (by omega));replace rd:=Lib.hid (hsq.rd rd.out (by omega));replace hX:=Lib.hid (hX.out.move (hsq.keeps (fun b hb=>by have:=hb.2;omega)))
 replace hT:=Lib.hid (hsq.rep (fun b hb=>by have:=hb.2;omega) hT.out);replace hN:=Lib.hid (hsq.rep (fun b hb=>by have h1:=hb.1;have h2:=hb.2;omega) hN.out);replace hB_:=Lib.hid (hsq.rep (fun b hb=>by have h1:=hb.1;have h2:=hb.2;omega) hB_.out);replace h2_:=Lib.hid (h2_.out.move (hsq.keeps (fun b hb=>by have h1:=hb.1;have h2:=hb.2;omega)))
 replace fL:=hsq.blk (by omega) fL
 refine hK.out _ _ ⟨ag fT rfl,ag fT rfl⟩ (fun hHeld1005=>?_)
 clear hK K hHeld1004 hsq hXq
 try simp only [jT,hwA]
 refine wpAnyH_done (by kernel_rfl) ?_ _
 refine NoPanic.normal ?_
 clear hHeld1005
 obtain⟨rc0,rc1,rc2,rc3,rc4,rc5,rc6,rc7,rc8⟩:=blk9 fR
 go_wp2_with fail
 refine bodyPost_ret (v:=.agg #[.int .i64 13,.string { data:=#[] },.int .i64 0,.int .i64 kc,.slice ac nc qc,.int .i64 0,.slice none 0 0,.int .i64 0,.slice (some ⟨X1003.heap.size,0,none⟩) 1 1]) (by simp [results,Try.results24,go_sem,rc0,rc1,rc2,rc3,rc4,rc5,rc6,rc7,rc8]) rfl ?_
 have hlo:=bv HD2.out hvs2
 have hU2:=HUU.out
 have hks:aV (w.heap.size ≤ ·) X1005 [t2] (.slice (some ⟨X1003.heap.size,0,none⟩) 1 1):=aV.blk (by show w.heap.size≤_;omega) fL rfl (by unfold maxLen;omega) (b4.c1 (h2_.out.move (.weaken fun b h _=>by have h1:=h.1;show w.heap.size≤b;omega)).srep)
 have hcc:(Tm.mk 13 { data:=#[] } 0 s.ty (.mk 0 []) 0 [t2]).cnt≤MB:=by
  have h1:=HC2.out
  have h3:=Lib.hid (ij HSV.out)
  have h4:=h3.out
  rw [←S.ty_cnt] at h4
  (try simp only [Tm.cnt,Tm.cnts,Ty.cnt,Ty.cnts,List.length_cons,List.length_nil,show({ data:=#[] }:ByteArray).size=0 from rfl])
  omega
 exact⟨Tm.mk 13 { data:=#[] } 0 s.ty (.mk 0 []) 0 [t2],_,q2,rfl,hcc,az.mk bp (hN.out.move (.weaken fun b h _=>by have h1:=h.1;show w.heap.size≤b;omega)) ⟨_,rfl,aF.nil0⟩ hks,by omega,rd.out,fC.out⟩
end Go.Proofs.Ytnaoghknnenfoaa
namespace Go.Proofs.Ytnaoghknnenfoaa
open Go.RowKit
def oz:Oper:=⟨some 68,Op.move (Operand.tmp 0),36,"l3_typing.go:201",#[],none⟩
def lT:Oper:=⟨some 69,Op.move (Operand.tmp 1),63,"l3_typing.go:201",#[],none⟩
def mv:Oper:=⟨some 70,Op.call { callee:=Callee.value (Operand.func 45),args:=#[],argTypes:=#[] },25,"l3_typing.go:201",#[],none⟩
def mz:Oper:=⟨some 71,Op.move (Operand.tmp 3),3,"l3_typing.go:201",#[],none⟩
def ns:Oper:=⟨some 72,Op.binOp BinOp.sub 3 (Operand.tmp 71) (Operand.const (Value.int IntKind.i64 1)) 3,3,"l3_typing.go:201",#[⟨3,.data⟩],none⟩
def mB:Oper:=⟨some 73,Op.call { callee:=Callee.value (Operand.func 24),args:=#[Operand.tmp 68,Operand.tmp 69,Operand.tmp 70,Operand.tmp 72],argTypes:=#[36,63,25,3] },28,"l3_typing.go:201",#[⟨0,.data⟩,⟨1,.data⟩,⟨2,.data⟩,⟨4,.data⟩,⟨2,.chain⟩],none⟩
def nM:Oper:=⟨some 74,Op.move (Operand.tmp 0),36,"l3_typing.go:201",#[],none⟩
def mr:Oper:=⟨some 75,Op.move (Operand.tmp 1),63,"l3_typing.go:201",#[],none⟩
def ot:Oper:=⟨some 76,Op.load 25 (Operand.tmp 6),25,"l3_typing.go:201",#[],none⟩
def mE:Oper:=⟨some 77,Op.move (Operand.tmp 3),3,"l3_typing.go:201",#[],none⟩
def jw:Oper:=⟨some 78,Op.binOp BinOp.sub 3 (Operand.tmp 77) (Operand.const (Value.int IntKind.i64 1)) 3,3,"l3_typing.go:201",#[⟨9,.data⟩],none⟩
def jQ:Oper:=⟨some 79,Op.call { callee:=Callee.value (Operand.func 24),args:=#[Operand.tmp 74,Operand.tmp 75,Operand.tmp 76,Operand.tmp 78],argTypes:=#[36,63,25,3] },28,"l3_typing.go:201",#[⟨6,.data⟩,⟨7,.data⟩,⟨8,.data⟩,⟨10,.data⟩,⟨5,.chain⟩],none⟩
def jR:Oper:=⟨some 80,Op.move (Operand.tmp 0),36,"l3_typing.go:201",#[],none⟩
def jb:Oper:=⟨some 81,Op.move (Operand.tmp 1),63,"l3_typing.go:201",#[],none⟩
def kf:Oper:=⟨some 82,Op.load 25 (Operand.tmp 6),25,"l3_typing.go:201",#[],none⟩
def je:Oper:=⟨some 83,Op.move (Operand.tmp 3),3,"l3_typing.go:201",#[],none⟩
def kp:Oper:=⟨some 84,Op.binOp BinOp.sub 3 (Operand.tmp 83) (Operand.const (Value.int IntKind.i64 1)) 3,3,"l3_typing.go:201",#[⟨15,.data⟩],none⟩
def k8:Oper:=⟨some 85,Op.call { callee:=Callee.value (Operand.func 24),args:=#[Operand.tmp 80,Operand.tmp 81,Operand.tmp 82,Operand.tmp 84],argTypes:=#[36,63,25,3] },28,"l3_typing.go:201",#[⟨12,.data⟩,⟨13,.data⟩,⟨14,.data⟩,⟨16,.data⟩,⟨11,.chain⟩],none⟩
def jU:Oper:=⟨some 86,Op.buildSlice 26 3 #[(0,Operand.tmp 73),(1,Operand.tmp 79),(2,Operand.tmp 85)],26,"l3_typing.go:201",#[⟨5,.data⟩,⟨11,.data⟩,⟨17,.data⟩],none⟩
def ja:Oper:=⟨some 87,Op.call { callee:=Callee.value (Operand.func 44),args:=#[Operand.const (Value.int IntKind.i64 9),Operand.tmp 86],argTypes:=#[3,26] },28,"l3_typing.go:201",#[⟨18,.data⟩,⟨17,.chain⟩],none⟩
def jM:Oper:=⟨none,Op.store 28 (Operand.tmp 8) (Operand.tmp 87),0,"l3_typing.go:201",#[⟨19,.data⟩,⟨19,.chain⟩,⟨0,.phase⟩,⟨1,.phase⟩,⟨2,.phase⟩,⟨3,.phase⟩,⟨4,.phase⟩,⟨5,.phase⟩,⟨6,.phase⟩,⟨7,.phase⟩,⟨8,.phase⟩,⟨9,.phase⟩,⟨10,.phase⟩,⟨11,.phase⟩,⟨12,.phase⟩,⟨13,.phase⟩,⟨14,.phase⟩,⟨15,.phase⟩,⟨16,.phase⟩,⟨17,.phase⟩,⟨18,.phase⟩,⟨19,.phase⟩],none⟩
set_option maxHeartbeats 16000000 in
theorem mkW1 (dd:Int)(s:S)(r p:Nat)(l:List Bd)(w:World)(kt:Int)(ta:Option Addr)(tn tq:Nat)(xa:Option Addr)(xn xq:Nat):(cL dd s r p l w kt ta tn tq xa xn xq).1.2.1:=by
 intro hd5 hdlo hnl hrl HN hx60 hwn hwd HWK HX0 HT0 HCNT HNL HCV HOK HSV HIH HRD0 HKT HL60 MB hmb hp HMB i1_ wr u10 u11 u16 u17 u18 u19 u20 u21 u22 u23 u24 u25 u26 u27 u28 u29 u30 u31 u32 u33 u34 u35 u36 u37 u38 u39 u40 u41 u42 u43 u44 u45 u46 u47 q hsz hj hq h0 i2_ i3_ i4_ i5_ i6_ i7_ i8_ i9_ i10_ hd1 hdb HD2 U hU0 HUU hMB1 hMB2 HLB HLI HLS i11_ w1 jk zw1 fT fR fC hX hT rd hj0 hj1 i12_ i13_
 refine wp_region_noPanic ?_
 refine wp_region_held_drew (S:=fun w'=>w'.cell? ⟨w.heap.size,0,none⟩=some (.int .i64 kt)∧w'.cell? ⟨w.heap.size,1,none⟩=some (.slice ta tn tq)) (by kernel_rfl) ?_ (fun hHeld0=>?_)
 ·exact⟨ag fT rfl,ag fT rfl⟩
 obtain⟨U2,hU,hb,zU2a,zU2b⟩:=bO w1
 rw [hU] at hHeld0 ⊢
 replace fT:=af fT hb;replace fR:=af fR hb;replace fC:=Lib.hid (fC.out.trans (Chg.of_below hb));replace rd:=Lib.hid (rd.out.below hb)
 replace hX:=Lib.hid (hX.out.below hb);replace hT:=Lib.hid (hT.out.below hb)
 (try simp only [World.size_alloc] at zU2a zU2b)
 clear hU hb
 refine hwt 0 oz (.pointer (some ⟨r,0,none⟩)) hHeld0 ?_ ?_
 ·intro w' hSw;dsimp only [oz];go_simp
 try simp only [oz,hwA]
 refine hwt 1 lT (.slice xa xn xq) hHeld0 ?_ ?_
 ·intro w' hSw;dsimp only [lT];go_simp
 try simp only [lT,hwA]
 refine hwt 3 mz (.int .i64 dd) hHeld0 ?_ ?_
 ·intro w' hSw;dsimp only [mz];go_simp
 try simp only [mz,hwA]
 refine hwt 4 ns (.int .i64 (dd-1)) hHeld0 ?_ ?_
 ·intro w' hSw;dsimp only [ns];go_simp;exact HWK.out
 try simp only [ns,hwA]
 refine hwt 6 nM (.pointer (some ⟨r,0,none⟩)) hHeld0 ?_ ?_
 ·intro w' hSw;dsimp only [nM];go_simp
 try simp only [nM,hwA]
 refine hwt 7 mr (.slice xa xn xq) hHeld0 ?_ ?_
 ·intro w' hSw;dsimp only [mr];go_simp
 try simp only [mr,hwA]
 refine hwt 8 ot (.agg #[.int .i64 kt,.slice ta tn tq]) hHeld0 ?_ ?_
 ·intro w' hSw;dsimp only [ot];go_simp
 try simp only [ot,hwA]
 refine hwt 9 mE (.int .i64 dd) hHeld0 ?_ ?_
 ·intro w' hSw;dsimp only [mE];go_simp
 try simp only [mE,hwA]
 refine hwt 10 jw (.int .i64 (dd-1)) hHeld0 ?_ ?_
 ·intro w' hSw;dsimp only [jw];go_simp;exact HWK.out
 try simp only [jw,hwA]
 refine hwt 12 jR (.pointer (some ⟨r,0,none⟩)) hHeld0 ?_ ?_
 ·intro w' hSw;dsimp only [jR];go_simp
 try simp only [jR,hwA]
 refine hwt 13 jb (.slice xa xn xq) hHeld0 ?_ ?_
 ·intro w' hSw;dsimp only [jb];go_simp
 try simp only [jb,hwA]
 refine hwt 14 kf (.agg #[.int .i64 kt,.slice ta tn tq]) hHeld0 ?_ ?_
 ·intro w' hSw;dsimp only [kf];go_simp
 try simp only [kf,hwA]
 refine hwt 15 je (.int .i64 dd) hHeld0 ?_ ?_
 ·intro w' hSw;dsimp only [je];go_simp
 try simp only [je,hwA]
 refine hwt 16 kp (.int .i64 (dd-1)) hHeld0 ?_ ?_
 ·intro w' hSw;dsimp only [kp];go_simp;exact HWK.out
 try simp only [kp,hwA]
 refine hwr 2 mv (fun K hK=>?_)
 dsimp only [mv];go_simp
 go_at_call 45
 refine(cJ _).mono ?_
 rintro e X1101 ⟨rfl,hb⟩
 go_wp2_with fail
 have zX1101:U2.heap.size≤X1101.heap.size:=hb.size
 replace fT:=af fT hb;replace fR:=af fR hb;replace fC:=Lib.hid (fC.out.trans (Chg.of_below hb));replace rd:=Lib.hid (rd.out.below hb)
 replace hX:=Lib.hid (hX.out.below hb);replace hT:=Lib.hid (hT.out.below hb)
 refine hK.out _ _ ⟨ag fT rfl,ag fT rfl⟩ (fun hHeld1101=>?_)
 clear hK K hHeld0 hb
 try simp only [mv,hwA]
 refine hwr 5 mB (fun K hK=>?_)
 dsimp only [mB];go_simp
 go_at_call 24
 refine(HIH.out (S.bool) l (cu HD2.out HSV.out rfl) rfl HOK.out (by omega) HNL.out _ _ _ _ rd.out (hX.out.move (.weaken fun b h _=>h.1)) HCV.out (ap.leafG 3) (by have h1:=HLB.out;have h2:=HLS.out;have h3:=HLI.out;have h0:=HUU.out;omega)).mono ?_
 rintro e X1102 ⟨t2,v,q2,rfl,hcn2,hv,hq2,hrd,hb⟩
 obtain⟨kt2,nm2,ut2,tk2,ta2,tn2,tq2,fk2,fa2,fn2,fq2,lt2,ct2,mt2,qt2,rfl⟩:=hv.shape
 have HC2:=Lib.hid hcn2
 clear hcn2
 have h2_':Hid (az (fun b=>X1101.heap.size≤b∧b<X1102.heap.size) X1102 t2 (.agg #[.int .i64 kt2,.string nm2,.int .i64 ut2,.int .i64 tk2,.slice ta2 tn2 tq2,.int .i64 fk2,.slice fa2 fn2 fq2,.int .i64 lt2,.slice ct2 mt2 qt2])):=Lib.hid (hv.move (.weaken fun b h1 h2=>⟨h1,h2⟩))
 have rd':Hid (aW X1102 r q2):=Lib.hid hrd
 clear hv hrd
 go_wp2_with fail
 have zX1102:X1101.heap.size≤X1102.heap.size:=hb.size
 replace fT:=aB fT hb (by omega);replace fR:=aB fR hb (by omega);replace fC:=Lib.hid (fC.out.trans hb);replace hX:=Lib.hid (hX.out.move (kpN hb (fun b hb=>hb.1)))
 replace hT:=Lib.hid (hT.out.move (kpN hb (fun b hb=>hb.1)))
 have h2_:=h2_'
 clear h2_'
 clear rd
 have rd:=rd'
 clear rd'
 refine hK.out _ _ ⟨ag fT rfl,ag fT rfl⟩ (fun hHeld1102=>?_)
 clear hK K hHeld1101 hb
 try simp only [mB,hwA]
 refine hwr 11 jQ (fun K hK=>?_)
 dsimp only [jQ];go_simp
 go_at_call 24
 refine(HIH.out (s) l (cu HD2.out HSV.out HSV.out) HSV.out HOK.out (by omega) HNL.out _ _ _ _ rd.out (hX.out.move (.weaken fun b h _=>h.1)) HCV.out (hT.out.move (.weaken fun b h _=>h.1)) (by have h1:=HLB.out;have h2:=HLS.out;have h3:=HLI.out;have h0:=HUU.out;omega)).mono ?_
 rintro e X1103 ⟨t3,v,q3,rfl,hcn3,hv,hq3,hrd,hb⟩
 obtain⟨kt3,nm3,ut3,tk3,ta3,tn3,tq3,fk3,fa3,fn3,fq3,lt3,ct3,mt3,qt3,rfl⟩:=hv.shape
 have HC3:=Lib.hid hcn3
 clear hcn3
 have h3_':Hid (az (fun b=>X1102.heap.size≤b∧b<X1103.heap.size) X1103 t3 (.agg #[.int .i64 kt3,.string nm3,.int .i64 ut3,.int .i64 tk3,.slice ta3 tn3 tq3,.int .i64 fk3,.slice fa3 fn3 fq3,.int .i64 lt3,.slice ct3 mt3 qt3])):=Lib.hid (hv.move (.weaken fun b h1 h2=>⟨h1,h2⟩))
 have rd':Hid (aW X1103 r q3):=Lib.hid hrd
 clear hv hrd
 go_wp2_with fail
 have zX1103:X1102.heap.size≤X1103.heap.size:=hb.size
 replace fT:=aB fT hb (by omega);replace fR:=aB fR hb (by omega);replace fC:=Lib.hid (fC.out.trans hb);replace hX:=Lib.hid (hX.out.move (kpN hb (fun b hb=>hb.1)))
 replace hT:=Lib.hid (hT.out.move (kpN hb (fun b hb=>hb.1)));replace h2_:=Lib.hid (h2_.out.move (kpN hb (fun b hb=>by have h1:=hb.1;have h2:=hb.2;omega)))
 have h3_:=h3_'
 clear h3_'
 clear rd
 have rd:=rd'
 clear rd'
 refine hK.out _ _ ⟨ag fT rfl,ag fT rfl⟩ (fun hHeld1103=>?_)
 clear hK K hHeld1102 hb
 try simp only [jQ,hwA]
 refine hwr 17 k8 (fun K hK=>?_)
 dsimp only [k8];go_simp
 go_at_call 24
 refine(HIH.out (s) l (cu HD2.out HSV.out HSV.out) HSV.out HOK.out (by omega) HNL.out _ _ _ _ rd.out (hX.out.move (.weaken fun b h _=>h.1)) HCV.out (hT.out.move (.weaken fun b h _=>h.1)) (by have h1:=HLB.out;have h2:=HLS.out;have h3:=HLI.out;have h0:=HUU.out;omega)).mono ?_
 rintro e X1104 ⟨t4,v,q4,rfl,hcn4,hv,hq4,hrd,hb⟩
 obtain⟨kt4,nm4,ut4,tk4,ta4,tn4,tq4,fk4,fa4,fn4,fq4,lt4,ct4,mt4,qt4,rfl⟩:=hv.shape
 have HC4:=Lib.hid hcn4
 clear hcn4
 have h4_':Hid (az (fun b=>X1103.heap.size≤b∧b<X1104.heap.size) X1104 t4 (.agg #[.int .i64 kt4,.string nm4,.int .i64 ut4,.int .i64 tk4,.slice ta4 tn4 tq4,.int .i64 fk4,.slice fa4 fn4 fq4,.int .i64 lt4,.slice ct4 mt4 qt4])):=Lib.hid (hv.move (.weaken fun b h1 h2=>⟨h1,h2⟩))
 have rd':Hid (aW X1104 r q4):=Lib.hid hrd
 clear hv hrd
 go_wp2_with fail
 have zX1104:X1103.heap.size≤X1104.heap.size:=hb.size
 replace fT:=aB fT hb (by omega);replace fR:=aB fR hb (by omega);replace fC:=Lib.hid (fC.out.trans hb);replace hX:=Lib.hid (hX.out.move (kpN hb (fun b hb=>hb.1)))
 replace hT:=Lib.hid (hT.out.move (kpN hb (fun b hb=>hb.1)));replace h2_:=Lib.hid (h2_.out.move (kpN hb (fun b hb=>by have h1:=hb.1;have h2:=hb.2;omega)));replace h3_:=Lib.hid (h3_.out.move (kpN hb (fun b hb=>by have h1:=hb.1;have h2:=hb.2;omega)))
 have h4_:=h4_'
 clear h4_'
 clear rd
 have rd:=rd'
 clear rd'
 refine hK.out _ _ ⟨ag fT rfl,ag fT rfl⟩ (fun hHeld1104=>?_)
 clear hK K hHeld1103 hb
 try simp only [k8,hwA]
 refine hwr 18 jU (fun K hK=>?_)
 dsimp only [jU];go_simp
 (try go_wp2_with fail)
 obtain⟨X1105,hXq,hb,fL,zX1105a,zX1105b⟩:=bM X1104 (.cells #[.int .i64 kt2,.string nm2,.int .i64 ut2,.int .i64 tk2,.slice ta2 tn2 tq2,.int .i64 fk2,.slice fa2 fn2 fq2,.int .i64 lt2,.slice ct2 mt2 qt2,.int .i64 kt3,.string nm3,.int .i64 ut3,.int .i64 tk3,.slice ta3 tn3 tq3,.int .i64 fk3,.slice fa3 fn3 fq3,.int .i64 lt3,.slice ct3 mt3 qt3,.int .i64 kt4,.string nm4,.int .i64 ut4,.int .i64 tk4,.slice ta4 tn4 tq4,.int .i64 fk4,.slice fa4 fn4 fq4,.int .i64 lt4,.slice ct4 mt4 qt4] 28)
 rw [hXq]
 replace fT:=af fT hb;replace fR:=af fR hb;replace fC:=Lib.hid (fC.out.trans (Chg.of_below hb));replace rd:=Lib.hid (rd.out.below hb)
 replace hX:=Lib.hid (hX.out.below hb);replace hT:=Lib.hid (hT.out.below hb);replace h2_:=Lib.hid (h2_.out.below hb);replace h3_:=Lib.hid (h3_.out.below hb)
 replace h4_:=Lib.hid (h4_.out.below hb)
 refine hK.out _ _ ⟨ag fT rfl,ag fT rfl⟩ (fun hHeld1105=>?_)
 clear hK K hHeld1104 hb hXq
 try simp only [jU,hwA]
 refine hwr 19 ja (fun K hK=>?_)
 dsimp only [ja];go_simp
 go_at_call 44
 refine(cw 9 _ _ _ _).mono ?_
 rintro e X1106 ⟨rfl,hb⟩
 go_wp2_with fail
 have zX1106:X1105.heap.size≤X1106.heap.size:=hb.size
 replace fT:=af fT hb;replace fR:=af fR hb;replace fC:=Lib.hid (fC.out.trans (Chg.of_below hb));replace rd:=Lib.hid (rd.out.below hb)
 replace hX:=Lib.hid (hX.out.below hb);replace hT:=Lib.hid (hT.out.below hb);replace h2_:=Lib.hid (h2_.out.below hb);replace h3_:=Lib.hid (h3_.out.below hb)
 replace h4_:=Lib.hid (h4_.out.below hb);replace fL:=af fL hb
 refine hK.out _ _ ⟨ag fT rfl,ag fT rfl⟩ (fun hHeld1106=>?_)
 clear hK K hHeld1105 hb
 try simp only [ja,hwA]
 refine hwr 20 jM (fun K hK=>?_)
 obtain⟨r0,rf0,r1,rf1,r2,rf2,r3,rf3,r4,rf4,r5,rf5,r6,rf6,r7,rf7,r8,rf8⟩:=blk9f fR
 dsimp only [jM];go_simp
 (try go_wp2_with fail)
 have hQq:=db fR (.int .i64 9) (.string { data:=#[] }) (.int .i64 0) (.int .i64 0) (.slice none 0 0) (.int .i64 0) (.slice none 0 0) (.int .i64 0) (.slice (some ⟨X1104.heap.size,0,none⟩) 3 3)
 clear fR r0 rf0 r1 rf1 r2 rf2 r3 rf3 r4 rf4 r5 rf5 r6 rf6 r7 rf7 r8 rf8
 obtain⟨X1107,hXq,hsq,fR,zX1107a,zX1107b⟩:=hQq
 rw [hXq]
 replace fT:=hsq.blk (by omega) fT;replace fC:=Lib.hid (hsq.chg fC.out (by omega));replace rd:=Lib.hid (hsq.rd rd.out (by omega));replace hX:=Lib.hid (hX.out.move (hsq.keeps (fun b hb=>by have:=hb.2;omega)))
 replace hT:=Lib.hid (hsq.rep (fun b hb=>by have:=hb.2;omega) hT.out);replace h2_:=Lib.hid (h2_.out.move (hsq.keeps (fun b hb=>by have h1:=hb.1;have h2:=hb.2;omega)));replace h3_:=Lib.hid (h3_.out.move (hsq.keeps (fun b hb=>by have h1:=hb.1;have h2:=hb.2;omega)));replace h4_:=Lib.hid (h4_.out.move (hsq.keeps (fun b hb=>by have h1:=hb.1;have h2:=hb.2;omega)))
 replace fL:=hsq.blk (by omega) fL
 refine hK.out _ _ ⟨ag fT rfl,ag fT rfl⟩ (fun hHeld1107=>?_)
 clear hK K hHeld1106 hsq hXq
 try simp only [jM,hwA]
 refine wpAnyH_done (by kernel_rfl) ?_ _
 refine NoPanic.normal ?_
 clear hHeld1107
 obtain⟨rc0,rc1,rc2,rc3,rc4,rc5,rc6,rc7,rc8⟩:=blk9 fR
 go_wp2_with fail
 refine bodyPost_ret (v:=.agg #[.int .i64 9,.string { data:=#[] },.int .i64 0,.int .i64 0,.slice none 0 0,.int .i64 0,.slice none 0 0,.int .i64 0,.slice (some ⟨X1104.heap.size,0,none⟩) 3 3]) (by simp [results,Try.results24,go_sem,rc0,rc1,rc2,rc3,rc4,rc5,rc6,rc7,rc8]) rfl ?_
 have h1:=HLB.out
 have h2:=HLS.out
 have h3:=HLI.out
 have h0:=HUU.out
 have hks:aV (w.heap.size ≤ ·) X1107 [t2,t3,t4] (.slice (some ⟨X1104.heap.size,0,none⟩) 3 3):=aV.blk (by show w.heap.size≤_;omega) fL rfl (by unfold maxLen;omega) (b4.c3 (h2_.out.move (.weaken fun b h _=>by have h1:=h.1;show w.heap.size≤b;omega)).srep (h3_.out.move (.weaken fun b h _=>by have h1:=h.1;show w.heap.size≤b;omega)).srep (h4_.out.move (.weaken fun b h _=>by have h1:=h.1;show w.heap.size≤b;omega)).srep)
 have hcc:(Tm.mk 9 { data:=#[] } 0 (.mk 0 []) (.mk 0 []) 0 [t2,t3,t4]).cnt≤MB:=by
  have g1:=HC2.out
  have g2:=HC3.out
  have g3:=HC4.out
  (try simp only [Tm.cnt,Tm.cnts,Ty.cnt,Ty.cnts,List.length_cons,List.length_nil,show({ data:=#[] }:ByteArray).size=0 from rfl])
  omega
 exact⟨Tm.mk 9 { data:=#[] } 0 (.mk 0 []) (.mk 0 []) 0 [t2,t3,t4],_,q4,rfl,hcc,az.mk bp ⟨_,rfl,aF.nil0⟩ ⟨_,rfl,aF.nil0⟩ hks,by omega,rd.out,fC.out⟩
end Go.Proofs.Ytnaoghknnenfoaa
