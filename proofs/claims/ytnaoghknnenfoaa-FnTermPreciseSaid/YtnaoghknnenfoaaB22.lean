/-
  spec.l3Make: way 3 of a deep term.
  spec.l3Make: the way of the kind fn.
  A term without casts and types, by the program: the function value.
  A term with other types, by the program: what it is.
  A term with other types, by the program (k).
  The types of a term as a list, by the program.
  The types of a term as a list, by the reference.
  TermTypes of both sides.
  StaticTerm of both sides.
  Validity, the number of nodes and the free names of a term and of its operands: plain laws.
  The type of a term by the reference is valid.
  A list of types whose rows are written anew in place; what TermTypes of the reference leaves, as a row that may grow.
  TermTypes of the reference: a row of one's own that may grow.
-/
import Derived.Test.YtnaoghknnenfoaaMkH
import Derived.Test.YtnaoghknnenfoaaB17
import Derived.Test.YtnaoghknnenfoaaB2
import Derived.Test.YtnaoghknnenfoaaB11
import Derived.Test.YtnaoghknnenfoaaB6
import Derived.Test.YtnaoghknnenfoaaB5
set_option linter.unusedSimpArgs false
set_option linter.unusedVariables false
set_option maxRecDepth 100000
namespace Go.Proofs.Ytnaoghknnenfoaa
open Go.RowKit
set_option maxHeartbeats 16000000 in
theorem mkW3 (dd:Int)(s:S)(r p:Nat)(l:List Bd)(w:World)(kt:Int)(ta:Option Addr)(tn tq:Nat)(xa:Option Addr)(xn xq:Nat):(cL dd s r p l w kt ta tn tq xa xn xq).1.2.2.2.1:=by
 intro hd5 hdlo hnl hrl HN hx60 hwn hwd HWK HX0 HT0 HCNT HNL HCV HOK HSV HIH HRD0 HKT HL60 MB hmb hp HMB i1_ wr u10 u11 u16 u17 u18 u19 u20 u21 u22 u23 u24 u25 u26 u27 u28 u29 u30 u31 u32 u33 u34 u35 u36 u37 u38 u39 u40 u41 u42 u43 u44 u45 u46 u47 q hsz hj hq h0 i2_ i3_ i4_ i5_ i6_ i7_ i8_ i9_ i10_ hd1 hdb HD2 U hU0 HUU hMB1 hMB2 HLB HLI HLS i11_ w1 jk zw1 fT fR fC hX hT rd hj0 hj1 hj2 hj3 y0 y1 lyT i12_ i13_ i14_ i15_
 refine(HIH.out (s) l (cu HD2.out HSV.out HSV.out) HSV.out HOK.out (by omega) HNL.out _ _ _ _ rd.out (hX.out.move (.weaken fun b h _=>h.1)) HCV.out (hT.out.move (.weaken fun b h _=>h.1)) (by have h1:=HLB.out;have h2:=HLS.out;have h3:=HLI.out;have h0:=HUU.out;omega)).mono ?_
 rintro e w2 ⟨t2,v,q2,rfl,hcn2,hv,hq2,hrd,hb⟩
 obtain⟨kt2,nm2,ut2,tk2,ta2,tn2,tq2,fk2,fa2,fn2,fq2,lt2,ct2,mt2,qt2,rfl⟩:=hv.shape
 have HC2:=Lib.hid hcn2
 have h2_':Hid (az (fun b=>w1.heap.size≤b∧b<w2.heap.size) w2 t2 (.agg #[.int .i64 kt2,.string nm2,.int .i64 ut2,.int .i64 tk2,.slice ta2 tn2 tq2,.int .i64 fk2,.slice fa2 fn2 fq2,.int .i64 lt2,.slice ct2 mt2 qt2])):=Lib.hid (hv.move (.weaken fun b h1 h2=>⟨h1,h2⟩))
 clear hv hcn2
 have zw2:=hb.size
 (try simp only [World.size_alloc] at zw2)
 replace fT:=aB fT hb (by omega);replace fR:=aB fR hb (by omega);replace fC:=Lib.hid (fC.out.trans hb);replace hX:=Lib.hid (hX.out.move (kpN hb (fun b hb=>hb.1)))
 replace hT:=Lib.hid (hT.out.move (kpN hb (fun b hb=>hb.1)))
 replace rd:=Lib.hid hrd
 clear hrd
 clear hb
 have h2_:=h2_'
 clear h2_'
 clear y0 y1 lyT
 go_wp2_with fail
 refine(cA 1 _).mono ?_
 rintro e w3 ⟨rfl,hb⟩
 have zw3:=hb.size
 (try simp only [World.size_alloc] at zw3)
 replace fT:=af fT hb;replace fR:=af fR hb;replace fC:=Lib.hid (fC.out.trans (Chg.of_below hb));replace rd:=Lib.hid (rd.out.below hb)
 replace hX:=Lib.hid (hX.out.below hb);replace hT:=Lib.hid (hT.out.below hb);replace h2_:=Lib.hid (h2_.out.below hb)
 clear hb
 go_wp2_with fail
 obtain⟨w4,hXq,hb,fL,zw4a,zw4b⟩:=bM w3 (.cells #[.int .i64 kt2,.string nm2,.int .i64 ut2,.int .i64 tk2,.slice ta2 tn2 tq2,.int .i64 fk2,.slice fa2 fn2 fq2,.int .i64 lt2,.slice ct2 mt2 qt2,.int .i64 2,.string { data:=#[] },.int .i64 1,.int .i64 0,.slice none 0 0,.int .i64 0,.slice none 0 0,.int .i64 0,.slice none 0 0] 28)
 rw [hXq]
 replace fT:=af fT hb;replace fR:=af fR hb;replace fC:=Lib.hid (fC.out.trans (Chg.of_below hb));replace rd:=Lib.hid (rd.out.below hb)
 replace hX:=Lib.hid (hX.out.below hb);replace hT:=Lib.hid (hT.out.below hb);replace h2_:=Lib.hid (h2_.out.below hb)
 clear hb hXq
 refine(cw 10 _ _ _ _).mono ?_
 rintro e w5 ⟨rfl,hb⟩
 have zw5:=hb.size
 (try simp only [World.size_alloc] at zw5)
 replace fT:=af fT hb;replace fR:=af fR hb;replace fC:=Lib.hid (fC.out.trans (Chg.of_below hb));replace rd:=Lib.hid (rd.out.below hb)
 replace hX:=Lib.hid (hX.out.below hb);replace hT:=Lib.hid (hT.out.below hb);replace h2_:=Lib.hid (h2_.out.below hb);replace fL:=af fL hb
 clear hb
 go_wp2_with fail
 obtain⟨w6,hXq,hb,fM,zw6a,zw6b⟩:=bM w5 (.cells #[.int .i64 10,.string { data:=#[] },.int .i64 0,.int .i64 0,.slice none 0 0,.int .i64 0,.slice none 0 0,.int .i64 0,.slice (some ⟨w3.heap.size,0,none⟩) 2 2] 28)
 rw [hXq]
 replace fT:=af fT hb;replace fR:=af fR hb;replace fC:=Lib.hid (fC.out.trans (Chg.of_below hb));replace rd:=Lib.hid (rd.out.below hb)
 replace hX:=Lib.hid (hX.out.below hb);replace hT:=Lib.hid (hT.out.below hb);replace h2_:=Lib.hid (h2_.out.below hb);replace fL:=af fL hb
 clear hb hXq
 refine(cw 11 _ _ _ _).mono ?_
 rintro e w7 ⟨rfl,hb⟩
 have zw7:=hb.size
 (try simp only [World.size_alloc] at zw7)
 replace fT:=af fT hb;replace fR:=af fR hb;replace fC:=Lib.hid (fC.out.trans (Chg.of_below hb));replace rd:=Lib.hid (rd.out.below hb)
 replace hX:=Lib.hid (hX.out.below hb);replace hT:=Lib.hid (hT.out.below hb);replace h2_:=Lib.hid (h2_.out.below hb);replace fL:=af fL hb
 replace fM:=af fM hb
 clear hb
 obtain⟨x0,f0,x1,f1,x2,f2,x3,f3,x4,f4,x5,f5,x6,f6,x7,f7,x8,f8⟩:=blk9f fR
 have lxR:=al fR
 have h1:=HLB.out
 have h2:=HLS.out
 have h3:=HLI.out
 have h0:=HUU.out
 have hks:aV (w.heap.size+1+1 ≤ ·) w7 [t2,Tm.mk 2 { data:=#[] } 1 (.mk 0 []) (.mk 0 []) 0 []] (.slice (some ⟨w3.heap.size,0,none⟩) 2 2):=aV.blk (by show w.heap.size+1+1≤_;omega) fL rfl (by unfold maxLen;omega) (b4.c2 (h2_.out.move (.weaken fun b h _=>by have h1:=h.1;show w.heap.size+1+1≤b;omega)).srep (az.leaf0 (F:=(w.heap.size+1+1 ≤ ·)) (w:=w7) 2 1 bp).srep)
 have h10:az (w.heap.size+1+1 ≤ ·) w7 (Tm.mk 10 { data:=#[] } 0 (.mk 0 []) (.mk 0 []) 0 [t2,Tm.mk 2 { data:=#[] } 1 (.mk 0 []) (.mk 0 []) 0 []]) (.agg #[.int .i64 10,.string { data:=#[] },.int .i64 0,.int .i64 0,.slice none 0 0,.int .i64 0,.slice none 0 0,.int .i64 0,.slice (some ⟨w3.heap.size,0,none⟩) 2 2]):=az.mk bp ⟨_,rfl,aF.nil0⟩ ⟨_,rfl,aF.nil0⟩ hks
 have hks2:aV (w.heap.size+1+1 ≤ ·) w7 [Tm.mk 10 { data:=#[] } 0 (.mk 0 []) (.mk 0 []) 0 [t2,Tm.mk 2 { data:=#[] } 1 (.mk 0 []) (.mk 0 []) 0 []]] (.slice (some ⟨w5.heap.size,0,none⟩) 1 1):=aV.blk (by show w.heap.size+1+1≤_;omega) fM rfl (by unfold maxLen;omega) (b4.c1 h10.srep)
 have hRR:az (w.heap.size+1+1 ≤ ·) w7 (Tm.mk 11 { data:=#[] } 0 (.mk 0 []) (.mk 0 []) 0 [Tm.mk 10 { data:=#[] } 0 (.mk 0 []) (.mk 0 []) 0 [t2,Tm.mk 2 { data:=#[] } 1 (.mk 0 []) (.mk 0 []) 0 []]]) (.agg #[.int .i64 11,.string { data:=#[] },.int .i64 0,.int .i64 0,.slice none 0 0,.int .i64 0,.slice none 0 0,.int .i64 0,.slice (some ⟨w5.heap.size,0,none⟩) 1 1]):=az.mk bp ⟨_,rfl,aF.nil0⟩ ⟨_,rfl,aF.nil0⟩ hks2
 have hcc:(Tm.mk 11 { data:=#[] } 0 (.mk 0 []) (.mk 0 []) 0 [Tm.mk 10 { data:=#[] } 0 (.mk 0 []) (.mk 0 []) 0 [t2,Tm.mk 2 { data:=#[] } 1 (.mk 0 []) (.mk 0 []) 0 []]]).cnt≤MB:=by
  have g1:=HC2.out
  (try simp only [Tm.cnt,Tm.cnts,Ty.cnt,Ty.cnts,List.length_cons,List.length_nil,show({ data:=#[] }:ByteArray).size=0 from rfl])
  omega
 have HEND:=Lib.hid (DTm.stored (p:=p) (r:=r) (w:=w) (R:=w.heap.size+1) (B:=w.heap.size+1+1) (c:=MB) (m:=MB) (v0:=.int .i64 11) (v1:=.string { data:=#[] }) (v2:=.int .i64 0) (v3:=.int .i64 0) (v4:=.slice none 0 0) (v5:=.int .i64 0) (v6:=.slice none 0 0) (v7:=.int .i64 0) (v8:=.slice (some ⟨w5.heap.size,0,none⟩) 1 1) hRR hcc (by omega) (by omega) rd.out fC.out (by omega) (by omega) (by omega))
 clear hRR hcc
 (try clear hks)
 (try clear hN)
 (try clear fL)
 go_wp2_with fail
 refine bodyPost_ret (v:=.agg #[.int .i64 11,.string { data:=#[] },.int .i64 0,.int .i64 0,.slice none 0 0,.int .i64 0,.slice none 0 0,.int .i64 0,.slice (some ⟨w5.heap.size,0,none⟩) 1 1]) (by simp [results,Try.results24,go_sem,x0,x1,x2,x3,x4,x5,x6,x7,x8]) rfl ?_
 exact HEND.out
end Go.Proofs.Ytnaoghknnenfoaa
namespace Go.Proofs.Ytnaoghknnenfoaa
open Go.RowKit
def lS:Oper:=⟨some 150,Op.move (Operand.tmp 0),36,"l3_typing.go:216",#[],none⟩
def mQ:Oper:=⟨some 151,Op.move (Operand.tmp 1),63,"l3_typing.go:216",#[],none⟩
def lZ:Oper:=⟨some 152,Op.fieldAddr 25 (Operand.tmp 6) 1,0,"l3_typing.go:216",#[],none⟩
def oh:Oper:=⟨some 153,Op.load 23 (Operand.tmp 152),23,"l3_typing.go:216",#[⟨2,.data⟩],none⟩
def oy:Oper:=⟨some 154,Op.indexAddr 23 (Operand.tmp 153) (Operand.const (Value.int IntKind.i64 0)),0,"l3_typing.go:216",#[⟨3,.data⟩],none⟩
def nT:Oper:=⟨some 155,Op.load 25 (Operand.tmp 154),25,"l3_typing.go:216",#[⟨4,.data⟩],none⟩
def nO:Oper:=⟨some 156,Op.fieldAddr 25 (Operand.tmp 6) 1,0,"l3_typing.go:216",#[],none⟩
def nR:Oper:=⟨some 157,Op.load 23 (Operand.tmp 156),23,"l3_typing.go:216",#[⟨6,.data⟩],none⟩
def lB:Oper:=⟨some 158,Op.indexAddr 23 (Operand.tmp 157) (Operand.const (Value.int IntKind.i64 1)),0,"l3_typing.go:216",#[⟨7,.data⟩],none⟩
def mV:Oper:=⟨some 159,Op.load 25 (Operand.tmp 158),25,"l3_typing.go:216",#[⟨8,.data⟩],none⟩
def ji:Oper:=⟨some 160,Op.move (Operand.tmp 3),3,"l3_typing.go:216",#[],none⟩
def jl:Oper:=⟨some 161,Op.binOp BinOp.sub 3 (Operand.tmp 160) (Operand.const (Value.int IntKind.i64 1)) 3,3,"l3_typing.go:216",#[⟨10,.data⟩],none⟩
def ko:Oper:=⟨some 162,Op.call { callee:=Callee.value (Operand.func 46),args:=#[Operand.tmp 150,Operand.tmp 151,Operand.tmp 155,Operand.tmp 159,Operand.tmp 161],argTypes:=#[36,63,25,25,3] },28,"l3_typing.go:216",#[⟨0,.data⟩,⟨1,.data⟩,⟨5,.data⟩,⟨9,.data⟩,⟨11,.data⟩],none⟩
def jJ:Oper:=⟨none,Op.store 28 (Operand.tmp 8) (Operand.tmp 162),0,"l3_typing.go:216",#[⟨12,.data⟩,⟨12,.chain⟩,⟨0,.phase⟩,⟨1,.phase⟩,⟨2,.phase⟩,⟨3,.phase⟩,⟨4,.phase⟩,⟨5,.phase⟩,⟨6,.phase⟩,⟨7,.phase⟩,⟨8,.phase⟩,⟨9,.phase⟩,⟨10,.phase⟩,⟨11,.phase⟩,⟨12,.phase⟩],none⟩
set_option maxHeartbeats 16000000 in
theorem mkWfn (dd:Int)(r p:Nat)(l:List Bd)(w:World)(kt:Int)(ta:Option Addr)(tn tq:Nat)(xa:Option Addr)(xn xq:Nat)(a b:S):(cL dd (S.fn a b) r p l w kt ta tn tq xa xn xq).1.2.2.2.2:=by
 intro hd5 hdlo hnl hrl HN hx60 hwn hwd HWK HX0 HT0 HCNT HNL HCV HOK HSV HIH HRD0 HKT HL60 MB hmb hp HMB i1_ wr u10 u11 i2_ i3_ i4_ i5_ i6_ i7_ i8_ i9_ i10_ i11_ i12_ i13_ i14_ i15_ i16_ i17_ i18_ i19_ i20_ i21_ i22_ i23_ i24_ i25_ i26_ i27_ i28_ i29_ i30_ i31_ i32_ i33_ i34_ i35_ i36_ i37_ i38_ i39_ wc u12 u13 u14 u15 u16 u17 u18 u19 u20 u21 u22 u23 u24 u25 u26 u27 u28 u29 u30 u31 u32 u33 u34 u35 u36 u37 u38 u39 u40 u41 u42 u43 u44 u45 u46 u47 u48 u49 u50 u51 u52 u53 u54 u55 u56 u57 u58 u59 u60 u61 u62 u63 u64 u65 u66 u67 u68 u69 u70 u71 u72 u73 u74 u75 u76 u77 u78 u79 u80 u81 u82 u83 u84 u85 u86 u87 u88 u89 u90 u91 u92 u93 u94 u95 u96 u97 u98 u99 u100 u101 u102 u103 u104 u105 u106 u107 u108 u109 u110 u111 u112 u113 u114 u115 u116 u117 u118 u119 u120 u121 u122 u125 u126 u127 u128 u129 u130 u131 u132 u133 u134 u135 u136 u137 u138 u139 u140 u141 u142 u143 u144 u145 u146 u147 u149 u150 u151 u152 u153 u154 u155 u156 u157 u158 u159 u160 u161 u162 u164 u165 u166 u167 u168 u169 u170 u171 u172 u173 u174 u175 u176 u177 u178 u179 u180 u181 u182 u183 u184 u186 u187 u188 u189 u190 u191 u192 u193 u194 u195 u196 u197 u198 u199 u200 u201 u202 u203 u204 u205 u206 u207 u208 u209 u210 u211 u212 u213 u214 u215 u216 u217 u218 u219 u220 u221 u222 u223 u224 u225 u226 u227 u228 u229 u230 u231 u232 u233 u234 q hq hsz fC rd fT fR hX hT
 obtain rfl:kt=4:=HKT.out
 have hT0:=hT.out
 obtain⟨-,hks0⟩:=ap.pairK hT0
 obtain⟨b2,off2,cap2,k5,c5,m5,q5,k6,c6,m6,q6,hsl,-,-,hlb2,e5a,e5b,e6a,e6b,ht5,ht6⟩:=hks0.two
 simp only [Value.slice.injEq] at hsl
 obtain⟨rfl,rfl,rfl⟩:=hsl
 have hbF:=hks0.blkT (by simp)
 have hbr:b2≠r:=hbF.1
 have hbw:b2<w.heap.size:=hbF.2
 have HVA:=Lib.hid (show a.vd=true∧b.vd=true from fn_vd HSV.out)
 have HB0:=Lib.hid (mkB_fn (d:=dd) HSV.out)
 have h5_:=Lib.hid ht5
 have h6_:=Lib.hid ht6
 clear hT0 hks0 hbF ht5 ht6
 have c5a_:=e5a
 have c5b_:=e5b
 have c6a_:=e6a
 have c6b_:=e6b
 clear e5a e5b e6a e6b
 obtain⟨y0,y1⟩:=blk2 fT;have lyT:=al fT
 go_wp2_with fail
 clear y0 y1 lyT
 refine wp_region_noPanic ?_
 refine wp_region_held_drew (S:=fun w'=>w'.cell? ⟨w.heap.size,1,none⟩=some (.slice (some ⟨b2,off2,none⟩) 2 tq)∧w'.cell? ⟨b2,off2,none⟩=some (.int .i64 k5)∧w'.cell? ⟨b2,off2+1,none⟩=some (.slice c5 m5 q5)∧w'.cell? ⟨b2,off2+2,none⟩=some (.int .i64 k6)∧w'.cell? ⟨b2,off2+3,none⟩=some (.slice c6 m6 q6)) (by kernel_rfl) ?_ (fun hHeld0=>?_)
 ·exact⟨ag fT rfl,c5a_,c5b_,c6a_,c6b_⟩
 obtain⟨U4,hU,hb,zU4a,zU4b⟩:=bO wc
 rw [hU] at hHeld0 ⊢
 replace fT:=af fT hb;replace fR:=af fR hb;replace fC:=Lib.hid (fC.out.trans (Chg.of_below hb));replace rd:=Lib.hid (rd.out.below hb)
 replace hX:=Lib.hid (hX.out.below hb);replace hT:=Lib.hid (hT.out.below hb);replace c5a_:=a9 hb c5a_;replace c5b_:=a9 hb c5b_
 replace h5_:=Lib.hid (h5_.out.below hb);replace c6a_:=a9 hb c6a_;replace c6b_:=a9 hb c6b_;replace h6_:=Lib.hid (h6_.out.below hb)
 (try simp only [World.size_alloc] at zU4a zU4b)
 clear hU hb
 refine hwt 0 lS (.pointer (some ⟨r,0,none⟩)) hHeld0 ?_ ?_
 ·intro w' hSw;dsimp only [lS];go_simp
 try simp only [lS,hwA]
 refine hwt 1 mQ (.slice xa xn xq) hHeld0 ?_ ?_
 ·intro w' hSw;dsimp only [mQ];go_simp
 try simp only [mQ,hwA]
 refine hwt 2 lZ (.pointer (some ⟨w.heap.size,1,none⟩)) hHeld0 ?_ ?_
 ·intro w' hSw;dsimp only [lZ];go_simp
 try simp only [lZ,hwA]
 refine hwt 3 oh (.slice (some ⟨b2,off2,none⟩) 2 tq) hHeld0 ?_ ?_
 ·intro w' hSw;dsimp only [oh];go_simp
 try simp only [oh,hwA]
 refine hwt 4 oy (.pointer (some ⟨b2,off2,none⟩)) hHeld0 ?_ ?_
 ·intro w' hSw;dsimp only [oy];go_simp
 try simp only [oy,hwA]
 refine hwt 5 nT (.agg #[.int .i64 k5,.slice c5 m5 q5]) hHeld0 ?_ ?_
 ·intro w' hSw;dsimp only [nT];go_simp
 try simp only [nT,hwA]
 refine hwt 6 nO (.pointer (some ⟨w.heap.size,1,none⟩)) hHeld0 ?_ ?_
 ·intro w' hSw;dsimp only [nO];go_simp
 try simp only [nO,hwA]
 refine hwt 7 nR (.slice (some ⟨b2,off2,none⟩) 2 tq) hHeld0 ?_ ?_
 ·intro w' hSw;dsimp only [nR];go_simp
 try simp only [nR,hwA]
 refine hwt 8 lB (.pointer (some ⟨b2,off2+2,none⟩)) hHeld0 ?_ ?_
 ·intro w' hSw;dsimp only [lB];go_simp
 try simp only [lB,hwA]
 refine hwt 9 mV (.agg #[.int .i64 k6,.slice c6 m6 q6]) hHeld0 ?_ ?_
 ·intro w' hSw;dsimp only [mV];go_simp
 try simp only [mV,hwA]
 refine hwt 10 ji (.int .i64 dd) hHeld0 ?_ ?_
 ·intro w' hSw;dsimp only [ji];go_simp
 try simp only [ji,hwA]
 refine hwt 11 jl (.int .i64 (dd-1)) hHeld0 ?_ ?_
 ·intro w' hSw;dsimp only [jl];go_simp;exact HWK.out
 try simp only [jl,hwA]
 refine hwr 12 ko (fun K hK=>?_)
 dsimp only [ko];go_simp
 go_at_call 46
 refine(kv r _ (dd-1) a b l _ _ _ _ rd.out (hX.out.move (.weaken fun b h _=>h.1)) HCV.out (by have:=HL60.out;omega) (h5_.out.move (.weaken fun b h _=>h.1)) (h6_.out.move (.weaken fun b h _=>h.1)) HVA.out.1 (fun nm hnm=>HIH.out b (l ++ [⟨nm,S.ty a⟩]) (jo (by simp [S.dep];omega)) HVA.out.2 (HOK.out.snoc ((S.valid a).trans HVA.out.1)) (by simp) (fun b hb=>(List.mem_append.1 hb).elim (HNL.out b) (fun h=>by simp at h;subst h;exact hnm))) (by have h1:=HB0.out;have h2:=HMB.out;omega)).mono ?_
 rintro e X1701 ⟨t2,v,q2,rfl,hcn2,hv,hq2,hrd,hb⟩
 obtain⟨kt2,nm2,ut2,tk2,ta2,tn2,tq2,fk2,fa2,fn2,fq2,lt2,ct2,mt2,qt2,rfl⟩:=hv.shape
 have HC2:=Lib.hid hcn2
 clear hcn2
 have h2_':Hid (az (fun b=>U4.heap.size≤b∧b<X1701.heap.size) X1701 t2 (.agg #[.int .i64 kt2,.string nm2,.int .i64 ut2,.int .i64 tk2,.slice ta2 tn2 tq2,.int .i64 fk2,.slice fa2 fn2 fq2,.int .i64 lt2,.slice ct2 mt2 qt2])):=Lib.hid (hv.move (.weaken fun b h1 h2=>⟨h1,h2⟩))
 have rd':Hid (aW X1701 r q2):=Lib.hid hrd
 clear hv hrd
 go_wp2_with fail
 have zX1701:U4.heap.size≤X1701.heap.size:=hb.size
 replace fT:=aB fT hb (by omega);replace fR:=aB fR hb (by omega);replace fC:=Lib.hid (fC.out.trans hb);replace hX:=Lib.hid (hX.out.move (kpN hb (fun b hb=>hb.1)))
 replace hT:=Lib.hid (hT.out.move (kpN hb (fun b hb=>hb.1)));replace c5a_:=aR hb (by omega) c5a_;replace c5b_:=aR hb (by omega) c5b_;replace h5_:=Lib.hid (h5_.out.move (kpN hb (fun b hb=>hb.1)))
 replace c6a_:=aR hb (by omega) c6a_;replace c6b_:=aR hb (by omega) c6b_;replace h6_:=Lib.hid (h6_.out.move (kpN hb (fun b hb=>hb.1)))
 have h2_:=h2_'
 clear h2_'
 clear rd
 have rd:=rd'
 clear rd'
 refine hK.out _ _ ⟨ag fT rfl,c5a_,c5b_,c6a_,c6b_⟩ (fun hHeld1701=>?_)
 clear hK K hHeld0 hb
 try simp only [ko,hwA]
 refine hwr 13 jJ (fun K hK=>?_)
 obtain⟨r0,rf0,r1,rf1,r2,rf2,r3,rf3,r4,rf4,r5,rf5,r6,rf6,r7,rf7,r8,rf8⟩:=blk9f fR
 dsimp only [jJ];go_simp
 (try go_wp2_with fail)
 have hQq:=db fR (.int .i64 kt2) (.string nm2) (.int .i64 ut2) (.int .i64 tk2) (.slice ta2 tn2 tq2) (.int .i64 fk2) (.slice fa2 fn2 fq2) (.int .i64 lt2) (.slice ct2 mt2 qt2)
 clear fR r0 rf0 r1 rf1 r2 rf2 r3 rf3 r4 rf4 r5 rf5 r6 rf6 r7 rf7 r8 rf8
 obtain⟨X1702,hXq,hsq,fR,zX1702a,zX1702b⟩:=hQq
 rw [hXq]
 replace fT:=hsq.blk (by omega) fT;replace fC:=Lib.hid (hsq.chg fC.out (by omega));replace rd:=Lib.hid (hsq.rd rd.out (by omega));replace hX:=Lib.hid (hX.out.move (hsq.keeps (fun b hb=>by have:=hb.2;omega)))
 replace hT:=Lib.hid (hsq.rep (fun b hb=>by have:=hb.2;omega) hT.out);replace c5a_:=hsq.cell (by show b2≠w.heap.size+1;omega) c5a_;replace c5b_:=hsq.cell (by show b2≠w.heap.size+1;omega) c5b_;replace h5_:=Lib.hid (hsq.rep (fun b hb=>by have:=hb.2;omega) h5_.out)
 replace c6a_:=hsq.cell (by show b2≠w.heap.size+1;omega) c6a_;replace c6b_:=hsq.cell (by show b2≠w.heap.size+1;omega) c6b_;replace h6_:=Lib.hid (hsq.rep (fun b hb=>by have:=hb.2;omega) h6_.out);replace h2_:=Lib.hid (h2_.out.move (hsq.keeps (fun b hb=>by have h1:=hb.1;have h2:=hb.2;omega)))
 refine hK.out _ _ ⟨ag fT rfl,c5a_,c5b_,c6a_,c6b_⟩ (fun hHeld1702=>?_)
 clear hK K hHeld1701 hsq hXq
 try simp only [jJ,hwA]
 refine wpAnyH_done (by kernel_rfl) ?_ _
 refine NoPanic.normal ?_
 clear hHeld1702
 obtain⟨rc0,rc1,rc2,rc3,rc4,rc5,rc6,rc7,rc8⟩:=blk9 fR
 go_wp2_with fail
 refine bodyPost_ret (v:=.agg #[.int .i64 kt2,.string nm2,.int .i64 ut2,.int .i64 tk2,.slice ta2 tn2 tq2,.int .i64 fk2,.slice fa2 fn2 fq2,.int .i64 lt2,.slice ct2 mt2 qt2]) (by simp [results,Try.results24,go_sem,rc0,rc1,rc2,rc3,rc4,rc5,rc6,rc7,rc8]) rfl ?_
 have h1:=HB0.out
 have h2:=HMB.out
 have hcc:(t2).cnt≤MB:=by
  have g1:=HC2.out
  (try simp only [Tm.cnt,Tm.cnts,Ty.cnt,Ty.cnts,List.length_cons,List.length_nil,show({ data:=#[] }:ByteArray).size=0 from rfl])
  omega
 exact⟨t2,_,q2,rfl,hcc,h2_.out.move (.weaken fun b h _=>by have h1:=h.1;show w.heap.size≤b;omega),by omega,rd.out,fC.out⟩
end Go.Proofs.Ytnaoghknnenfoaa
namespace Go.Proofs.Ytnaoghknnenfoaa
open Go.RowKit
theorem b3.keep {B:Nat}{w w':World}{t:Tm}{y:Value}(h:b3 B w t y)(k:Below w.heap.size w w'):b3 B w' t y:=h.below k
theorem bh.leaf {B:Nat}{w:World}{k:Int}{y:Value}(h:bh B w (.mk k []) y) : ∃a q,y = .agg #[.int .i64 k,.slice a 0 q]∧q≤maxLen:=by
 obtain⟨fp,⟨s,rfl,h⟩,-⟩:=h
 simp only [Ty.kids,Ty.rows] at h
 unfold aG at h
 obtain⟨a,q,rfl,-,hq,-⟩:=h
 exact⟨a,q,rfl,hq⟩
theorem b3.retype {B:Nat}{w:World}{k u l:Int}{nm:ByteArray}{tt ff:Ty}{ts:List Tm}{tk fk:Int}{s1 s2 s3:Value}(h:b3 B w (.mk k nm u tt ff l ts) (.agg #[.int .i64 k,.string nm,.int .i64 u,.int .i64 tk,s1,.int .i64 fk,s2,.int .i64 l,s3]))(n:Int){a:Option Addr}{q:Nat}(hq:q≤maxLen) :
  b3 B w (.mk k nm u (.mk n []) ff l ts) (.agg #[.int .i64 k,.string nm,.int .i64 u,.int .i64 n,.slice a 0 q,.int .i64 fk,s2,.int .i64 l,s3]):=by
 obtain⟨fp,⟨s1',s2',s',f1,f2,f3,he,rfl,hn,h1,h2,h3⟩,hd,hx⟩:=h
 simp only [Tm.kind,Tm.name,Tm.num,Tm.type,Tm.src,Tm.label,Tm.kids,Value.agg.injEq,Array.mk.injEq,List.cons.injEq,Value.int.injEq,Value.string.injEq,true_and,and_true] at he hn h1 h2 h3
 obtain⟨rfl,rfl,rfl,rfl,rfl⟩:=he
 obtain⟨-,hd2,-⟩:=List.nodup_append.1 hd
 exact b3.of (f1:= []) hn rfl rfl (by simp only [Ty.kids,Ty.rows];exact aG.sl_nil hq) h2 h3 (by simpa using hd2) (fun x hx'=>hx x (List.mem_append_right _ (by simpa using hx')))
end Go.Proofs.Ytnaoghknnenfoaa
namespace Go.Proofs.Ytnaoghknnenfoaa
open Go.RowKit
theorem np {k:Int}:b7 k=true↔k=5∨k=13:=by unfold b7;simp
theorem aF.tail {F:Nat→Prop}{w:World}{x:Ty}{L:List Ty}{a:Option Addr}{n q:Nat}(h:aF F w (x :: L) (.slice a n q)) : ∃b off,a=some ⟨b,off,none⟩∧n=L.length+1∧n≤q∧q≤maxLen∧aF F w L (.slice (if q=1 then some ⟨b,off,none⟩ else some ⟨b,off+2,none⟩) L.length (q-1)):=by
 unfold aF at h
 obtain⟨a',cap,he,h2,h3,h4⟩:=aS.rows h
 rw [Ty.rows_length] at he h2
 simp only [Value.slice.injEq] at he
 obtain⟨rfl,rfl,rfl⟩:=he
 rcases h4 with h4 | ⟨b,off,rfl,hF,hl,hr⟩
 ·unfold Ty.rows at h4;cases h4
 ·refine⟨b,off,rfl,rfl,h2,h3,?_⟩
  unfold aF aS
  rw [Ty.rows_length]
  simp only [List.length_cons] at h2
  refine⟨_,_,rfl,by omega,by omega,?_⟩
  by_cases hL:L = []
  ·subst hL;exact .inl (by unfold Ty.rows;rfl)
  ·have:0<L.length:=List.length_pos_iff.2 hL
   refine .inr ⟨b,off+2,by rw [if_neg (by omega)],hF,hl,?_⟩
   unfold Ty.rows bl at hr
   rw [x.row_length] at hr
   exact hr.2
end Go.Proofs.Ytnaoghknnenfoaa
namespace Go.Proofs.Ytnaoghknnenfoaa
open Go.RowKit
end Go.Proofs.Ytnaoghknnenfoaa
namespace Go.Proofs.Ytnaoghknnenfoaa
open Go.RowKit
end Go.Proofs.Ytnaoghknnenfoaa
namespace Go.Proofs.Ytnaoghknnenfoaa
open Go.RowKit
theorem aH.ownlt {B n size:Nat}{e:TypeId}{w:World}{v:Value}{rows:List (List C)}(h:aH B e size w v n rows) : ∀g,v.ownBlock=some g→B≤g∧g<w.heap.size:=by
 obtain⟨xs,fps,h1,-⟩:=h
 exact fun g e=>h1.lt g e
theorem gtrans {w W w3:World}{o:Option Nat}(hb:Below w.heap.size w W)(hg:W.grownBy w3 o):w.grownBy w3 o:=
 ⟨hg.os.trans hb.os,hg.tape.trans hb.tape,hg.output.trans hb.output,Nat.le_trans hb.size hg.size,fun k hk hn=>(hg.block k (Nat.lt_of_lt_of_le hk hb.size) hn).trans (hb.block k hk)⟩
theorem gbelow {w W:World}{o:Option Nat}(hb:Below w.heap.size w W):w.grownBy W o:=⟨hb.os,hb.tape,hb.output,hb.size,fun k hk _=>hb.block k hk⟩
theorem gthen {w wr w1:World}{o p:Option Nat}(h:w.grownBy wr o)(hg:wr.grownBy w1 p)(hp : ∀g,p=some g→o=some g∨w.heap.size+1≤g):w.grownBy w1 o:=
 ⟨hg.os.trans h.os,hg.tape.trans h.tape,hg.output.trans h.output,Nat.le_trans h.size hg.size,fun k hk hn=>(hg.block k (Nat.lt_of_lt_of_le hk h.size) (fun e=>by
   rcases hp k e.symm with h1 | h1
   · exact hn h1.symm
   · omega)).trans (h.block k hk hn)⟩
set_option maxHeartbeats 8000000 in
theorem dG (F:Nat→Prop)(B:Nat)(hF : ∀b,F b→b<B)(t:Tm) : ∀(_ : ∀x∈t.tys,x.cnt≤1048576) (os:List Ty) (n:Nat) (_:os.length=n) (_:n+t.tys.length≤1000001) (v y:Value) (w:World),az F w t y→B≤w.heap.size→aH B 25 2 w v n (Ty.rows os) →
  Calls Try.prog 53 #[v,y] w (fun e w'=>∃v',e = .returned v'∧aH B 25 2 w' v' (n+t.tys.length) (Ty.rows (os++t.tys))∧w.grownBy w' v.ownBlock∧(∀g,v'.ownBlock=some g→v.ownBlock=some g∨w.heap.size≤g)):=by
 intro hcnt os n hos hlen v y w hy hBw hacc
 have IH : ∀t'∈t.kids,∀(_ : ∀x∈t'.tys,x.cnt≤1048576) (os:List Ty) (n:Nat) (_:os.length=n) (_:n+t'.tys.length≤1000001) (v y:Value) (W:World),az F W t' y→B≤W.heap.size→aH B 25 2 W v n (Ty.rows os)→Calls Try.prog 53 #[v,y] W (fun e W'=>∃v',e = .returned v'∧aH B 25 2 W' v' (n+t'.tys.length) (Ty.rows (os++t'.tys))∧W.grownBy W' v.ownBlock∧(∀g,v'.ownBlock=some g→v.ownBlock=some g∨W.heap.size≤g)):=
  fun t' ht a os n b c v y W d e f=>dG F B hF t' a os n b c v y W d e f
 have hv0:=hacc.ownlt
 obtain⟨cv,qv,rfl⟩:=hacc.shape
 obtain⟨k,nm,u,tk,ta,tn,tq,fk,fa,fn,fq,l,c,m,q,rfl⟩:=hy.shape
 obtain⟨r1,r2,r3,r4,r5,r6,r7,r8,r9,rn,rm,rq,hty,hsr,hks⟩:=hy.parts
 obtain⟨i0,hi,hz0,hz1,hz2⟩:=info_parts Try.infoTy
 cases t with | mk kk nn uu tt ff ll ts=>
 simp only [Tm.kind,Tm.name,Tm.num,Tm.type,Tm.src,Tm.label,Tm.kids] at *
 subst r1 r2 r3 r8
 have hl2:n+(if b7 k then 1 else 0)+(Tm.tyss ts).length≤1000001:=by unfold Tm.tys at hlen;rw [List.length_append] at hlen;split at hlen<;>simp_all<;>omega
 have hc2 : ∀x∈Tm.tyss ts,x.cnt≤1048576:=fun x hx=>hcnt x (by unfold Tm.tys;exact List.mem_append_right _ hx)
 have hct:b7 k=true→tt.cnt≤1048576:=fun h=>hcnt tt (by unfold Tm.tys;rw [if_pos h];simp)
 have hnl:n≤1000001:=by omega
 have HNL0:=Lib.hid hl2
 have HCNT:=Lib.hid hc2
 have HCT:=Lib.hid hct
 have HN:=Lib.hid r9
 have IHH:=Lib.hid IH
 have Z0:=Lib.hid hz0
 have Z1:=Lib.hid hz1
 have Z2:=Lib.hid hz2
 have HI:=Lib.hid hi
 have HF:=Lib.hid hF
 have HV0:=Lib.hid hv0
 have HACC00:=Lib.hid hacc
 have HOS:=Lib.hid hos
 have HNL:=Lib.hid hnl
 unfold maxLen at rq
 unfold Tm.tys
 clear hl2 hc2 hct IH hy r9 r4 r5 r6 r7 rn hsr hlen hcnt hz0 hz1 hz2 hi hv0 hacc hos hnl hF
 by_cases hk:b7 k=true
 ·rw [if_pos hk]
  have HLEN:Hid (n+1+(Tm.tyss ts).length≤1000001):=Lib.hid (by have:=HNL0.out;rw [if_pos hk] at this;exact this)
  obtain⟨TL,hTL⟩ : ∃x,[tt]++Tm.tyss ts=x:=⟨_,rfl⟩
  rw [hTL]
  have HTL:=Lib.hid hTL
  clear hTL
  have HK:=Lib.hid hk
  have hk5:k=5∨k=13:=by unfold b7 at hk;simpa using hk
  clear hk
  rcases hk5 with rfl | rfl
  ·skip
   go_enter Try.func53,Try.ntmps53
   go_wp2_with fail
   refine(b8 F tt _ _ (hty.below ah) (HCT.out HK.out)).mono ?_
   rintro e w2 ⟨v2,rfl,hv2,hb2⟩
   obtain⟨k2,c2,m2,q2,fp2,rfl,-,-,hs2,hd2,hx2⟩:=hv2.open
   have c8b:w2.cell? ⟨w.heap.size,8,none⟩=some (.slice c m q):=a9 hb2 (ao 8)
   have hbz2:=hb2.size
   simp at hbz2
   have lw2:w.heap.size<w2.heap.size:=by omega
   have hB2:=ai ah hb2
   obtain⟨xs,fps,ho,hl,hs,hd,hfp⟩:=HACC00.out
   have hlt1 : ∀x∈fps,x<w.heap.size:=fun x hx=>be.lt _ _ _ hs x hx
   have hlt2:=HV0.out
   have ho':=bi ho (ai hB2 ah) (w':=w2.alloc (.cells #[.int .i64 k2,.slice c2 m2 q2] 25))
   have hs':=hs.move _ _ _ fun b hb=>(ai hB2 (ah (o:=.cells #[.int .i64 k2,.slice c2 m2 q2] 25))).block b (hlt1 b hb)
   have HB2:=Lib.hid hB2
   have HS2:=Lib.hid hs2
   have HD2:=Lib.hid hd2
   have HX2:=Lib.hid hx2
   have HO:=Lib.hid ho'
   have HS:=Lib.hid hs'
   have HD:=Lib.hid hd
   have HL:=Lib.hid hl
   have HFP:=Lib.hid hfp
   have HLT1:=Lib.hid hlt1
   clear hs2 hd2 hx2 hv2 hB2 ho ho' hs hs' hd hl hfp hlt1 hlt2
   go_wp2_with (first | (at_builtin;refine wpList_append_lies _ rfl (.tmp 14) (.tmp 18) 23 rfl B 25 i0 _ 2 32 Try.underlying23 HI.out Z0.out Z1.out Z2.out rfl (by omega) (.slice cv n qv) n xs rfl HO.out ⟨w2.heap.size,0,none⟩ 1 1 [.int .i64 k2,.slice c2 m2 q2] rfl rfl (World.news_of_block (cs:=#[.int .i64 k2,.slice c2 m2 q2]) (t:=25) (fr:=(0,0)) (heap_alloc_new w2 _)) (by simp [Value.oneCell']) (by omega) (by have:=HNL.out;unfold maxLen;omega) (by have:=HNL.out;omega) (by simp;omega) _ rfl ?_) | fail)
   intro gg cap2 w3 hown3 hgrow hat hlt3
   have hacc0:=aH.pushS (W:=w2.alloc (.cells #[.int .i64 k2,.slice c2 m2 q2] 25)) (rs:= [tt.row]) HL.out HS.out HD.out HFP.out rfl (be.single (HS2.out.move _ _ _ fun b hb=>heap_alloc_old w2 _ (bg.lt _ _ _ HS2.out b hb))) HD2.out
    (fun x hx=>by
      have h1:=HX2.out x hx
      simp at h1
      exact⟨by omega,fun e=>by have:=HV0.out x e;omega,fun hm=>by have:=HLT1.out x hm;omega⟩) hown3 hgrow (hat.elim .inl (fun h=>.inr (by rw [h];simp)))
   have hg0:w.grownBy w3 (Value.slice cv n qv).ownBlock:=gtrans (ai HB2.out ah) hgrow
   have c8:w3.cell? ⟨w.heap.size,8,none⟩=some (.slice c m q):=(World.cell?_of_block (a:=⟨w.heap.size,8,none⟩) (hgrow.block _ (by simp;omega) (fun e=>by have:=HV0.out w.heap.size e.symm;omega))).trans (a9 ah c8b)
   have HOWN0:=Lib.hid (show ∀g,(Value.slice (some ⟨gg,0,none⟩) (n+1) cap2).ownBlock=some g→(Value.slice cv n qv).ownBlock=some g∨w.heap.size+1≤g from fun g e=>by
     simp only [Value.ownBlock,Option.some.injEq] at e
     subst e
     rcases hat with h | h
     · exact .inl h
     · exact .inr (by omega))
   have HACC0:=Lib.hid (show aH B 25 2 w3 (.slice (some ⟨gg,0,none⟩) (n+1) cap2) (n+1) (Ty.rows (os ++ [tt])) from by rw [Ty.rows_eq,List.map_append,←Ty.rows_eq];exact hacc0)
   have HG0:=Lib.hid hg0
   clear hacc0 hown3 hgrow hat c8b hg0
   go_wp2_with fail
   go_loopw [5,0] (fun i p wr=>∃j:Nat,j≤m∧i = .int .i64 j∧(∃nn:Nat,nn=(os++([tt]++Tm.tyss (ts.take j))).length∧aH B 25 2 wr p nn (Ty.rows (os++([tt]++Tm.tyss (ts.take j))))∧(∀g,p.ownBlock=some g→(Value.slice cv n qv).ownBlock=some g∨w.heap.size+1≤g))∧w.grownBy wr (Value.slice cv n qv).ownBlock∧wr.cell? ⟨w.heap.size,8,none⟩=some (.slice c m q)) (fun i _ _=>m-(intOf i).toNat)
   case atStart=>exact⟨0,by omega,rfl,⟨n+1,by simp [Tm.tyss,HOS.out],by simpa [Tm.tyss] using HACC0.out,HOWN0.out⟩,HG0.out,c8⟩
   case round=>
    obtain⟨j,hj,rfl,⟨nn,hnn,hacc,hown⟩,hgw,x8⟩:=hrel
    have hbz0:=hgw.size
    have lx:=World.block_lt_of_cell? _ _ x8
    have HACC:=Lib.hid hacc
    have HOWN:=Lib.hid hown
    have HGW:=Lib.hid hgw
    have HNN:=Lib.hid hnn
    obtain⟨cp,qp,rfl⟩:=hacc.shape
    clear hacc hown hgw hnn
    by_cases hlt:j<m
    ·have hjt:j<ts.length:=by have:=HN.out;omega
     have hkw:aV F wr ts (.slice c m q):=hks.move ⟨hbz0,fun _ h _=>h,fun b hFb hl=>HGW.out.block b hl (fun e=>by have h1:=HF.out b hFb;have h2:=HV0.out b e.symm;omega)⟩
     obtain⟨b,off,k0,nm0,u0,tk0,ta0,tn0,tq0,fk0,fa0,fn0,fq0,l0,a0,m0,q0,rfl,lb,e0,e1,e2,e3,e4,e5,e6,e7,e8,ht⟩:=hkw.at (Below.refl _ _) hjt
     have hts:=Tm.tyss_take_succ ts j hjt
     have htl:nn+ts[j].tys.length≤1000001:=by
      have h1:=Tm.tyss_take_le ts (j+1)
      rw [hts,List.length_append] at h1
      have:=HLEN.out
      have:=HNN.out
      simp only [List.length_append] at this
      have:=HOS.out
      have:([tt]:List Ty).length=1:=rfl
      omega
     have hcall:=IHH.out ts[j] (List.getElem_mem hjt) (fun x hx=>HCNT.out x (Tm.tys_mem (List.getElem_mem hjt) x hx)) _ nn HNN.out.symm htl _ _ wr ht (by omega) HACC.out
     generalize ts[j].tys=us at hcall htl hts
     have HC:=Lib.hid hcall
     have HTS:=Lib.hid hts
     clear hcall hts hkw ht
     go_wp2_with fail
     refine HC.out.mono ?_
     rintro e w1 ⟨v1,rfl,hv1,hg1,ho1⟩
     have HV1:=Lib.hid hv1
     have HG1:=Lib.hid (gthen HGW.out hg1 HOWN.out)
     have HO1:=Lib.hid ho1
     have x8b:w1.cell? ⟨w.heap.size,8,none⟩=some (.slice (some ⟨b,off,none⟩) m q):=(World.cell?_of_block (a:=⟨w.heap.size,8,none⟩) (hg1.block _ lx (fun e=>by
       rcases HOWN.out w.heap.size e.symm with h1 | h1
       · have:=HV0.out w.heap.size h1;omega
       · omega))).trans x8
     clear hv1 hg1 ho1
     go_wp2_with fail
     go_roundw
     case rel=>exact⟨j+1,by omega,by go_num,⟨nn+us.length,by rw [HTS.out,HNN.out];simp only [List.length_append];omega,by have h:=HV1.out;rw [HTS.out];rw [List.append_assoc,List.append_assoc] at h;exact h,fun g e=>by
       rcases HO1.out g e with h1 | h1
       · exact HOWN.out g h1
       · exact .inr (by omega)⟩,HG1.out,x8b⟩
     case measure=>simp [intOf];omega
    ·go_wp2_with fail
     go_ret
     have e:TL = [tt]++Tm.tyss (ts.take j):=HTL.out.symm.trans (by rw [List.take_of_length_le (by have:=HN.out;omega)])
     have hl:n+TL.length=nn:=by rw [e,HNN.out];simp only [List.length_append];have:=HOS.out;omega
     refine⟨_,rfl,by rw [hl,e];exact HACC.out,HGW.out,fun g eg=>(HOWN.out g eg).imp id (fun h=>by omega)⟩
  ·skip
   go_enter Try.func53,Try.ntmps53
   go_wp2_with fail
   refine(b8 F tt _ _ (hty.below ah) (HCT.out HK.out)).mono ?_
   rintro e w2 ⟨v2,rfl,hv2,hb2⟩
   obtain⟨k2,c2,m2,q2,fp2,rfl,-,-,hs2,hd2,hx2⟩:=hv2.open
   have c8b:w2.cell? ⟨w.heap.size,8,none⟩=some (.slice c m q):=a9 hb2 (ao 8)
   have hbz2:=hb2.size
   simp at hbz2
   have lw2:w.heap.size<w2.heap.size:=by omega
   have hB2:=ai ah hb2
   obtain⟨xs,fps,ho,hl,hs,hd,hfp⟩:=HACC00.out
   have hlt1 : ∀x∈fps,x<w.heap.size:=fun x hx=>be.lt _ _ _ hs x hx
   have hlt2:=HV0.out
   have ho':=bi ho (ai hB2 ah) (w':=w2.alloc (.cells #[.int .i64 k2,.slice c2 m2 q2] 25))
   have hs':=hs.move _ _ _ fun b hb=>(ai hB2 (ah (o:=.cells #[.int .i64 k2,.slice c2 m2 q2] 25))).block b (hlt1 b hb)
   have HB2:=Lib.hid hB2
   have HS2:=Lib.hid hs2
   have HD2:=Lib.hid hd2
   have HX2:=Lib.hid hx2
   have HO:=Lib.hid ho'
   have HS:=Lib.hid hs'
   have HD:=Lib.hid hd
   have HL:=Lib.hid hl
   have HFP:=Lib.hid hfp
   have HLT1:=Lib.hid hlt1
   clear hs2 hd2 hx2 hv2 hB2 ho ho' hs hs' hd hl hfp hlt1 hlt2
   go_wp2_with (first | (at_builtin;refine wpList_append_lies _ rfl (.tmp 14) (.tmp 18) 23 rfl B 25 i0 _ 2 32 Try.underlying23 HI.out Z0.out Z1.out Z2.out rfl (by omega) (.slice cv n qv) n xs rfl HO.out ⟨w2.heap.size,0,none⟩ 1 1 [.int .i64 k2,.slice c2 m2 q2] rfl rfl (World.news_of_block (cs:=#[.int .i64 k2,.slice c2 m2 q2]) (t:=25) (fr:=(0,0)) (heap_alloc_new w2 _)) (by simp [Value.oneCell']) (by omega) (by have:=HNL.out;unfold maxLen;omega) (by have:=HNL.out;omega) (by simp;omega) _ rfl ?_) | fail)
   intro gg cap2 w3 hown3 hgrow hat hlt3
   have hacc0:=aH.pushS (W:=w2.alloc (.cells #[.int .i64 k2,.slice c2 m2 q2] 25)) (rs:= [tt.row]) HL.out HS.out HD.out HFP.out rfl (be.single (HS2.out.move _ _ _ fun b hb=>heap_alloc_old w2 _ (bg.lt _ _ _ HS2.out b hb))) HD2.out
    (fun x hx=>by
      have h1:=HX2.out x hx
      simp at h1
      exact⟨by omega,fun e=>by have:=HV0.out x e;omega,fun hm=>by have:=HLT1.out x hm;omega⟩) hown3 hgrow (hat.elim .inl (fun h=>.inr (by rw [h];simp)))
   have hg0:w.grownBy w3 (Value.slice cv n qv).ownBlock:=gtrans (ai HB2.out ah) hgrow
   have c8:w3.cell? ⟨w.heap.size,8,none⟩=some (.slice c m q):=(World.cell?_of_block (a:=⟨w.heap.size,8,none⟩) (hgrow.block _ (by simp;omega) (fun e=>by have:=HV0.out w.heap.size e.symm;omega))).trans (a9 ah c8b)
   have HOWN0:=Lib.hid (show ∀g,(Value.slice (some ⟨gg,0,none⟩) (n+1) cap2).ownBlock=some g→(Value.slice cv n qv).ownBlock=some g∨w.heap.size+1≤g from fun g e=>by
     simp only [Value.ownBlock,Option.some.injEq] at e
     subst e
     rcases hat with h | h
     · exact .inl h
     · exact .inr (by omega))
   have HACC0:=Lib.hid (show aH B 25 2 w3 (.slice (some ⟨gg,0,none⟩) (n+1) cap2) (n+1) (Ty.rows (os ++ [tt])) from by rw [Ty.rows_eq,List.map_append,←Ty.rows_eq];exact hacc0)
   have HG0:=Lib.hid hg0
   clear hacc0 hown3 hgrow hat c8b hg0
   go_wp2_with fail
   go_loopw [5,0] (fun i p wr=>∃j:Nat,j≤m∧i = .int .i64 j∧(∃nn:Nat,nn=(os++([tt]++Tm.tyss (ts.take j))).length∧aH B 25 2 wr p nn (Ty.rows (os++([tt]++Tm.tyss (ts.take j))))∧(∀g,p.ownBlock=some g→(Value.slice cv n qv).ownBlock=some g∨w.heap.size+1≤g))∧w.grownBy wr (Value.slice cv n qv).ownBlock∧wr.cell? ⟨w.heap.size,8,none⟩=some (.slice c m q)) (fun i _ _=>m-(intOf i).toNat)
   case atStart=>exact⟨0,by omega,rfl,⟨n+1,by simp [Tm.tyss,HOS.out],by simpa [Tm.tyss] using HACC0.out,HOWN0.out⟩,HG0.out,c8⟩
   case round=>
    obtain⟨j,hj,rfl,⟨nn,hnn,hacc,hown⟩,hgw,x8⟩:=hrel
    have hbz0:=hgw.size
    have lx:=World.block_lt_of_cell? _ _ x8
    have HACC:=Lib.hid hacc
    have HOWN:=Lib.hid hown
    have HGW:=Lib.hid hgw
    have HNN:=Lib.hid hnn
    obtain⟨cp,qp,rfl⟩:=hacc.shape
    clear hacc hown hgw hnn
    by_cases hlt:j<m
    ·have hjt:j<ts.length:=by have:=HN.out;omega
     have hkw:aV F wr ts (.slice c m q):=hks.move ⟨hbz0,fun _ h _=>h,fun b hFb hl=>HGW.out.block b hl (fun e=>by have h1:=HF.out b hFb;have h2:=HV0.out b e.symm;omega)⟩
     obtain⟨b,off,k0,nm0,u0,tk0,ta0,tn0,tq0,fk0,fa0,fn0,fq0,l0,a0,m0,q0,rfl,lb,e0,e1,e2,e3,e4,e5,e6,e7,e8,ht⟩:=hkw.at (Below.refl _ _) hjt
     have hts:=Tm.tyss_take_succ ts j hjt
     have htl:nn+ts[j].tys.length≤1000001:=by
      have h1:=Tm.tyss_take_le ts (j+1)
      rw [hts,List.length_append] at h1
      have:=HLEN.out
      have:=HNN.out
      simp only [List.length_append] at this
      have:=HOS.out
      have:([tt]:List Ty).length=1:=rfl
      omega
     have hcall:=IHH.out ts[j] (List.getElem_mem hjt) (fun x hx=>HCNT.out x (Tm.tys_mem (List.getElem_mem hjt) x hx)) _ nn HNN.out.symm htl _ _ wr ht (by omega) HACC.out
     generalize ts[j].tys=us at hcall htl hts
     have HC:=Lib.hid hcall
     have HTS:=Lib.hid hts
     clear hcall hts hkw ht
     go_wp2_with fail
     refine HC.out.mono ?_
     rintro e w1 ⟨v1,rfl,hv1,hg1,ho1⟩
     have HV1:=Lib.hid hv1
     have HG1:=Lib.hid (gthen HGW.out hg1 HOWN.out)
     have HO1:=Lib.hid ho1
     have x8b:w1.cell? ⟨w.heap.size,8,none⟩=some (.slice (some ⟨b,off,none⟩) m q):=(World.cell?_of_block (a:=⟨w.heap.size,8,none⟩) (hg1.block _ lx (fun e=>by
       rcases HOWN.out w.heap.size e.symm with h1 | h1
       · have:=HV0.out w.heap.size h1;omega
       · omega))).trans x8
     clear hv1 hg1 ho1
     go_wp2_with fail
     go_roundw
     case rel=>exact⟨j+1,by omega,by go_num,⟨nn+us.length,by rw [HTS.out,HNN.out];simp only [List.length_append];omega,by have h:=HV1.out;rw [HTS.out];rw [List.append_assoc,List.append_assoc] at h;exact h,fun g e=>by
       rcases HO1.out g e with h1 | h1
       · exact HOWN.out g h1
       · exact .inr (by omega)⟩,HG1.out,x8b⟩
     case measure=>simp [intOf];omega
    ·go_wp2_with fail
     go_ret
     have e:TL = [tt]++Tm.tyss (ts.take j):=HTL.out.symm.trans (by rw [List.take_of_length_le (by have:=HN.out;omega)])
     have hl:n+TL.length=nn:=by rw [e,HNN.out];simp only [List.length_append];have:=HOS.out;omega
     refine⟨_,rfl,by rw [hl,e];exact HACC.out,HGW.out,fun g eg=>(HOWN.out g eg).imp id (fun h=>by omega)⟩
 ·rw [if_neg hk]
  have HLEN:Hid (n+0+(Tm.tyss ts).length≤1000001):=Lib.hid (by have:=HNL0.out;rw [if_neg hk] at this;exact this)
  obtain⟨TL,hTL⟩ : ∃x,([]:List Ty)++Tm.tyss ts=x:=⟨_,rfl⟩
  rw [hTL]
  have HTL:=Lib.hid hTL
  clear hTL
  have z5:(k==5)=false:=by unfold b7 at hk;simp at hk;simpa using hk.1
  have z13:(k==13)=false:=by unfold b7 at hk;simp at hk;simpa using hk.2
  clear hk
  go_enter Try.func53,Try.ntmps53
  go_wp2_with fail
  have c8:(w.alloc (.cells #[.int .i64 k,.string nm,.int .i64 u,.int .i64 tk,.slice ta tn tq,.int .i64 fk,.slice fa fn fq,.int .i64 l,.slice c m q] 28)).cell? ⟨w.heap.size,8,none⟩=some (.slice c m q):=ao 8
  have HACC0:=Lib.hid (show aH B 25 2 (w.alloc (.cells #[.int .i64 k,.string nm,.int .i64 u,.int .i64 tk,.slice ta tn tq,.int .i64 fk,.slice fa fn fq,.int .i64 l,.slice c m q] 28)) (.slice cv n qv) n (Ty.rows os) from HACC00.out.grown ah)
  have HOWN0:=Lib.hid (show ∀g,(Value.slice cv n qv).ownBlock=some g→(Value.slice cv n qv).ownBlock=some g∨w.heap.size+1≤g from fun g e=>.inl e)
  have HG0:=Lib.hid (show w.grownBy (w.alloc (.cells #[.int .i64 k,.string nm,.int .i64 u,.int .i64 tk,.slice ta tn tq,.int .i64 fk,.slice fa fn fq,.int .i64 l,.slice c m q] 28)) (Value.slice cv n qv).ownBlock from gbelow ah)
  go_loopw [5,0] (fun i p wr=>∃j:Nat,j≤m∧i = .int .i64 j∧(∃nn:Nat,nn=(os++(([]:List Ty)++Tm.tyss (ts.take j))).length∧aH B 25 2 wr p nn (Ty.rows (os++(([]:List Ty)++Tm.tyss (ts.take j))))∧(∀g,p.ownBlock=some g→(Value.slice cv n qv).ownBlock=some g∨w.heap.size+1≤g))∧w.grownBy wr (Value.slice cv n qv).ownBlock∧wr.cell? ⟨w.heap.size,8,none⟩=some (.slice c m q)) (fun i _ _=>m-(intOf i).toNat)
  case atStart=>exact⟨0,by omega,rfl,⟨n,by simp [Tm.tyss,HOS.out],by simpa [Tm.tyss] using HACC0.out,HOWN0.out⟩,HG0.out,c8⟩
  case round=>
   obtain⟨j,hj,rfl,⟨nn,hnn,hacc,hown⟩,hgw,x8⟩:=hrel
   have hbz0:=hgw.size
   have lx:=World.block_lt_of_cell? _ _ x8
   have HACC:=Lib.hid hacc
   have HOWN:=Lib.hid hown
   have HGW:=Lib.hid hgw
   have HNN:=Lib.hid hnn
   obtain⟨cp,qp,rfl⟩:=hacc.shape
   clear hacc hown hgw hnn
   by_cases hlt:j<m
   ·have hjt:j<ts.length:=by have:=HN.out;omega
    have hkw:aV F wr ts (.slice c m q):=hks.move ⟨hbz0,fun _ h _=>h,fun b hFb hl=>HGW.out.block b hl (fun e=>by have h1:=HF.out b hFb;have h2:=HV0.out b e.symm;omega)⟩
    obtain⟨b,off,k0,nm0,u0,tk0,ta0,tn0,tq0,fk0,fa0,fn0,fq0,l0,a0,m0,q0,rfl,lb,e0,e1,e2,e3,e4,e5,e6,e7,e8,ht⟩:=hkw.at (Below.refl _ _) hjt
    have hts:=Tm.tyss_take_succ ts j hjt
    have htl:nn+ts[j].tys.length≤1000001:=by
     have h1:=Tm.tyss_take_le ts (j+1)
     rw [hts,List.length_append] at h1
     have:=HLEN.out
     have:=HNN.out
     simp only [List.length_append] at this
     have:=HOS.out
     have:(([]:List Ty):List Ty).length=0:=rfl
     omega
    have hcall:=IHH.out ts[j] (List.getElem_mem hjt) (fun x hx=>HCNT.out x (Tm.tys_mem (List.getElem_mem hjt) x hx)) _ nn HNN.out.symm htl _ _ wr ht (by omega) HACC.out
    generalize ts[j].tys=us at hcall htl hts
    have HC:=Lib.hid hcall
    have HTS:=Lib.hid hts
    clear hcall hts hkw ht
    go_wp2_with fail
    refine HC.out.mono ?_
    rintro e w1 ⟨v1,rfl,hv1,hg1,ho1⟩
    have HV1:=Lib.hid hv1
    have HG1:=Lib.hid (gthen HGW.out hg1 HOWN.out)
    have HO1:=Lib.hid ho1
    have x8b:w1.cell? ⟨w.heap.size,8,none⟩=some (.slice (some ⟨b,off,none⟩) m q):=(World.cell?_of_block (a:=⟨w.heap.size,8,none⟩) (hg1.block _ lx (fun e=>by
      rcases HOWN.out w.heap.size e.symm with h1 | h1
      · have:=HV0.out w.heap.size h1;omega
      · omega))).trans x8
    clear hv1 hg1 ho1
    go_wp2_with fail
    go_roundw
    case rel=>exact⟨j+1,by omega,by go_num,⟨nn+us.length,by rw [HTS.out,HNN.out];simp only [List.length_append];omega,by have h:=HV1.out;rw [HTS.out];rw [List.append_assoc,List.append_assoc] at h;exact h,fun g e=>by
      rcases HO1.out g e with h1 | h1
      · exact HOWN.out g h1
      · exact .inr (by omega)⟩,HG1.out,x8b⟩
    case measure=>simp [intOf];omega
   ·go_wp2_with fail
    go_ret
    have e:TL=([]:List Ty)++Tm.tyss (ts.take j):=HTL.out.symm.trans (by rw [List.take_of_length_le (by have:=HN.out;omega)])
    have hl:n+TL.length=nn:=by rw [e,HNN.out];simp only [List.length_append];have:=HOS.out;omega
    refine⟨_,rfl,by rw [hl,e];exact HACC.out,HGW.out,fun g eg=>(HOWN.out g eg).imp id (fun h=>by omega)⟩
termination_by SizeOf.sizeOf t
decreasing_by exact Tm.kid_lt ht
end Go.Proofs.Ytnaoghknnenfoaa
namespace Go.Proofs.Ytnaoghknnenfoaa
open Go.RowKit
theorem Tm.tys_valid : ∀(t:Tm) (d:Int),t.shape 14 d=true→∀x∈t.tys,x.valid=true:=by
 intro t
 exact Tm.rec (motive_1:=fun t=>∀(d:Int),t.shape 14 d=true→∀x∈t.tys,x.valid=true) (motive_2:=fun ts=>∀(d:Int),Tm.shapes ts 14 d=true→∀x∈Tm.tyss ts,x.valid=true)
  (fun k s u ty f l ts ih d h x hx=>by
    obtain⟨-,-,-,ho,h5⟩:=Tm.shape_parts h
    unfold Tm.tys at hx
    rcases List.mem_append.1 hx with hx | hx
    · by_cases hk:b7 k=true
      · rw [if_pos hk] at hx
        simp only [List.mem_singleton] at hx
        subst hx
        exact Tm.own_type ho (by unfold b7 at hk;simpa using hk)
      · rw [if_neg hk] at hx
        cases hx
    · exact ih _ h5 x hx)
  (fun _ _ x hx=>by unfold Tm.tyss at hx;cases hx)
  (fun t ts ih1 ih2 d h x hx=>by
    unfold Tm.shapes at h
    simp only [Bool.and_eq_true] at h
    unfold Tm.tyss at hx
    rcases List.mem_append.1 hx with hx | hx
    · exact ih1 d h.1 x hx
    · exact ih2 d h.2 x hx) t
def Tm.types (t:Tm):List Ty:=if t.valid then t.tys else []
theorem Tm.tys_ok {t:Tm}(h:t.valid=true):(t.tys.length≤30)∧∀x∈t.tys,x.cnt≤1048576:=by
 constructor
 ·have h1:=t.tys_len
  unfold Tm.valid at h
  simp only [Bool.and_eq_true,decide_eq_true_eq] at h
  omega
 ·exact fun x hx=>Ty.cnt_valid (Tm.tys_valid t 12 (Tm.valid_shape h) x hx)
theorem aH.empty {B g:Nat}{e:TypeId}{size:Nat}{w:World}(hB:B≤g)(h:w.heap[g]?=some (.cells #[] e (0,0))):aH B e size w (.slice (some ⟨g,0,none⟩) 0 0) 0 []:=
 ⟨[],[],⟨by simp,.inr ⟨g,0,#[],rfl,hB,h,Nat.le_refl _,by unfold maxLen;omega,by simp,by simp⟩⟩,rfl,⟨rfl,rfl⟩,List.nodup_nil,by simp⟩
set_option maxHeartbeats 4000000 in
theorem l6 (F:Nat→Prop)(t:Tm)(y:Value)(w:World)(hy:az F w t y) :
  Calls Try.prog 29 #[y] w (RetTys t.types w):=by
 have hv:=fun W (h:Below w.heap.size w W)=>ce F t y W (hy.below h)
 have hyB:az (· < w.heap.size) w t y:=hy.move (.weaken fun _ _ h=>h)
 have hT:=fun(hok:t.valid=true) (B:Nat) (hB:w.heap.size≤B) W (h:Below w.heap.size w W) (hBW:B≤W.heap.size) v (ha:aH B 25 2 W v 0 (Ty.rows []))=>
  dG (· < w.heap.size) B (fun b hb=>by omega) t (Tm.tys_ok hok).2 [] 0 rfl (by have:=(Tm.tys_ok hok).1;omega) v y W (hyB.below h) hBW ha
 simp only [List.nil_append,Nat.zero_add] at hT
 unfold Tm.types
 obtain⟨k,nm,u,tk,ta,tn,tq,fk,fa,fn,fq,l,c,m,q,rfl⟩:=hy.shape
 generalize t.tys=us at *
 generalize t.valid=v at *
 have HV:=Lib.hid hv
 have HT:=Lib.hid hT
 clear hv hT hy hyB
 cases v
 ·go_enter Try.func29,Try.ntmps29
  go_wp2_with fail
  refine(HV.out _ ah).mono ?_
  rintro e w1 ⟨rfl,hb1⟩
  go_wp2_with fail
  go_ret
  exact⟨_,rfl,⟨[],aG.sl_nil (by unfold maxLen;omega),List.nodup_nil,by simp⟩,ai (ai ah hb1) ah⟩
 ·go_enter Try.func29,Try.ntmps29
  go_wp2_with fail
  refine(HV.out _ ah).mono ?_
  rintro e w1 ⟨rfl,hb1⟩
  have c0:w1.cell? ⟨w.heap.size,0,none⟩=some (.int .i64 k):=a9 hb1 (ao 0)
  have c1:w1.cell? ⟨w.heap.size,1,none⟩=some (.string nm):=a9 hb1 (ao 1)
  have c2:w1.cell? ⟨w.heap.size,2,none⟩=some (.int .i64 u):=a9 hb1 (ao 2)
  have c3:w1.cell? ⟨w.heap.size,3,none⟩=some (.int .i64 tk):=a9 hb1 (ao 3)
  have c4:w1.cell? ⟨w.heap.size,4,none⟩=some (.slice ta tn tq):=a9 hb1 (ao 4)
  have c5:w1.cell? ⟨w.heap.size,5,none⟩=some (.int .i64 fk):=a9 hb1 (ao 5)
  have c6:w1.cell? ⟨w.heap.size,6,none⟩=some (.slice fa fn fq):=a9 hb1 (ao 6)
  have c7:w1.cell? ⟨w.heap.size,7,none⟩=some (.int .i64 l):=a9 hb1 (ao 7)
  have c8:w1.cell? ⟨w.heap.size,8,none⟩=some (.slice c m q):=a9 hb1 (ao 8)
  have lw:=World.block_lt_of_cell? _ _ c0
  have hB1:=ai ah hb1
  have hbz:=hB1.size
  go_wp2_with fail
  refine(HT.out (by simp) w1.heap.size hbz _ (ai hB1 ah) (by simp) _ (aH.empty (Nat.le_refl _) (heap_alloc_new w1 _))).mono ?_
  rintro e w2 ⟨v2,rfl,hv2,hg2,-⟩
  have hbel:Below w.heap.size w w2:=(ai hB1 ah).grown hg2 (ai hB1 ah).size (fun k hk=>by simp [Value.ownBlock] at hk;omega)
  have HV2:=Lib.hid hv2
  have HBEL:=Lib.hid hbel
  clear hv2 hg2 hbel
  go_wp2_with fail
  go_ret
  obtain⟨fp,p1,p2,p3⟩:=HV2.out.tys
  exact⟨_,rfl,⟨fp,p1,p2,fun b hb=>Nat.le_trans hbz (p3 b hb)⟩,HBEL.out⟩
end Go.Proofs.Ytnaoghknnenfoaa
namespace Go.Proofs.Ytnaoghknnenfoaa
open Go.RowKit
end Go.Proofs.Ytnaoghknnenfoaa
namespace Go.Proofs.Ytnaoghknnenfoaa
open Go.RowKit
end Go.Proofs.Ytnaoghknnenfoaa
namespace Go.Proofs.Ytnaoghknnenfoaa
open Go.RowKit
theorem S.meet_okT : ∀s u:S,s.cons u=true→s.ok=true→u.ok=true→(s.meet u).ok=true:=by
 intro s
 induction s with
 | fn a b ha hb=>
  intro u h h1 h2
  cases u<;>simp [S.cons] at h
  ·simpa [S.meet] using h1
  ·simp [S.ok] at h1 h2
   simp [S.meet,S.ok,ha _ h.1 h1.1 h2.1,hb _ h.2 h1.2 h2.2]
 | pr a b ha hb=>
  intro u h h1 h2
  cases u<;>simp [S.cons] at h
  ·simpa [S.meet] using h1
  ·simp [S.ok] at h1 h2
   simp [S.meet,S.ok,ha _ h.1 h1.1 h2.1,hb _ h.2 h1.2 h2.2]
 | _=>intro u h h1 h2;cases u<;>simp [S.cons] at h<;>simpa [S.meet] using (by assumption)
theorem S.meet_depT : ∀s u:S,s.cons u=true→(s.meet u).dep≤max s.dep u.dep:=by
 intro s
 induction s with
 | fn a b ha hb=>
  intro u h
  cases u<;>simp [S.cons] at h
  ·simp only [S.meet];exact Nat.le_max_left _ _
  ·rename_i c d
   have h1:=ha _ h.1
   have h2:=hb _ h.2
   simp only [S.meet,S.dep]
   omega
 | pr a b ha hb=>
  intro u h
  cases u<;>simp [S.cons] at h
  ·simp only [S.meet];exact Nat.le_max_left _ _
  ·rename_i c d
   have h1:=ha _ h.1
   have h2:=hb _ h.2
   simp only [S.meet,S.dep]
   omega
 | _=>intro u h;cases u<;>simp [S.cons] at h<;>simp only [S.meet]<;>first | exact Nat.le_max_left _ _ | exact Nat.le_max_right _ _
theorem S.meet_vdT (s u:S)(h:s.cons u=true)(hs:s.vd=true)(hu:u.vd=true):(s.meet u).vd=true:=by
 have h1:=S.meet_okT s u h (S.vd_ok hs) (S.vd_ok hu)
 have h2:=S.meet_depT s u h
 have h3:=S.vd_dep hs
 have h4:=S.vd_dep hu
 exact S.vd_mk h1 (by omega)
theorem pG {k:Int}{ty:Ty}{hs:List S}{h:S}(hk:k≠5)(hv : ∀g∈hs,g.vd=true)(hvt:k=13→ty.valid=true)(e:bd k ty hs=some h):h.vd=true:=by
 match hs,hv,e with
 | [],_,e=>simp [bd] at e
 | [g],hv,e=>
  simp only [bd,if_neg hk] at e
  split at e
  ·rename_i h13
   split at e
   ·simp at e;subst e;exact Ty.toS_vd (hvt h13)
   ·cases e
  ·split at e
   ·rename_i hm
    have hp:=iD (k:=5) (hv g (by simp)) hm
    simp only [Option.some.injEq] at e
    subst e
    split
    ·exact hp.2
    ·exact hp.1
   ·cases e
 | [g,q],hv,e=>
  simp only [bd] at e
  split at e
  ·split at e
   ·rename_i hm
    simp only [Bool.and_eq_true] at hm
    simp only [Option.some.injEq] at e
    subst e
    exact(iD (k:=4) (hv g (by simp)) hm.1).2
   ·cases e
  ·split at e
   ·split at e
    ·rename_i h10 hvd;simp at e;subst e;exact hvd
    ·cases e
   ·split at e
    ·simp only [Option.some.injEq] at e
     subst e
     split<;>rfl
    ·cases e
 | [c,g,q],hv,e=>
  simp only [bd] at e
  split at e
  ·rename_i hm
   simp only [Bool.and_eq_true] at hm
   simp only [Option.some.injEq] at e
   subst e
   exact S.meet_vdT _ _ hm.1 (hv g (by simp)) (hv q (by simp))
  ·cases e
 | _ :: _ :: _ :: _ :: _,_,e=>simp [bd] at e
theorem nE {d:Int}{l:List Bd}(hc:cI l) : ∀(ts:List Tm),Tm.shapes ts 14 d=true→(∀t∈ts,∀h,t.shape 14 d=true→t.typS l=some h→h.vd=true)→∀hs,Tm.typsS ts l=some hs→hs.length=ts.length∧∀h∈hs,h.vd=true
 | [],_,_,hs,e=>by simp [Tm.typsS] at e;subst e;simp
 | t :: ts,hsh,IH,hs,e=>by
  unfold Tm.shapes at hsh
  simp only [Bool.and_eq_true] at hsh
  rw [Tm.typsS] at e
  cases h1:t.typS l with
  | none=>rw [h1] at e;cases e
  | some h=>
   rw [h1] at e
   dsimp only at e
   cases h2:Tm.typsS ts l with
   | none=>rw [h2] at e;cases e
   | some hs2=>
    rw [h2] at e
    simp only [Option.some.injEq] at e
    subst e
    obtain⟨e1,e2⟩:=nE hc ts hsh.2 (fun t' ht'=>IH t' (List.mem_cons_of_mem _ ht')) hs2 h2
    refine⟨by simp [e1],fun g hg=>?_⟩
    rcases List.mem_cons.1 hg with rfl | hg
    ·exact IH t (by simp) _ hsh.1 h1
    ·exact e2 g hg
theorem jW {k u lb:Int}{nm:ByteArray}{ty src:Ty}{ts:List Tm}(h:(Tm.mk k nm u ty src lb ts).ownB=true)(hk:k=5∨k=13):ty.valid=true:=by
 unfold Tm.ownB ownB at h
 simp only [Tm.kind,Tm.type,Tm.src,Tm.num,Tm.label,Tm.name] at h
 rcases hk with rfl | rfl
 ·simp at h;exact h.1.2
 ·simp at h;exact h.1.2
theorem gK : ∀(t:Tm) (d:Int) (l:List Bd),t.shape 14 d=true→cI l→∀h,t.typS l=some h→h.vd=true
 | .mk k nm u ty src lb ts,d,l,hsh,hc,h,e=>by
  obtain⟨hd,hk13,hlen,hown,hkids⟩:=Tm.shape_parts hsh
  have IH : ∀t'∈ts,∀l',cI l'→∀h',t'.shape 14 (d-1)=true→t'.typS l'=some h'→h'.vd=true:=fun t' ht' l' hc' h' hs' e'=>gK t' (d-1) l' hs' hc' h' e'
  by_cases h1:k=1
  ·subst h1
   rw [Tm.typS,if_pos rfl] at e
   cases hlk:co l nm l.length with
   | none=>rw [hlk] at e;cases e
   | some t'=>rw [hlk] at e;simp at e;subst e;exact Ty.toS_vd (jO hc _ _ hlk)
  by_cases h2:k=2
  ·subst h2;rw [Tm.typS,if_neg (by omega),if_pos rfl] at e;simp at e;subst e;rfl
  by_cases h34:k=3∨k=4
  ·rw [Tm.typS,if_neg h1,if_neg h2,if_pos h34] at e;simp at e;subst e;rfl
  by_cases h5:k=5
  ·subst h5
   rw [Tm.typS,if_neg (by omega),if_neg (by omega),if_neg (by omega),if_pos rfl] at e
   split at e
   ·split at e
    ·rename_i hv;simp at e;subst e;exact hv
    ·cases e
   ·cases e
  rw [Tm.typS,if_neg h1,if_neg h2,if_neg h34,if_neg h5] at e
  cases hcs:Tm.typsS ts l with
  | none=>rw [hcs] at e;cases e
  | some hs=>
   rw [hcs] at e
   exact pG h5 (nE hc ts hkids (fun t' ht' h' hs' e'=>IH t' ht' l hc h' hs' e') hs hcs).2 (fun h13=>jW hown (.inr h13)) e
termination_by t=>SizeOf.sizeOf t
decreasing_by exact Tm.kid_lt (t:=.mk k nm u ty src lb ts) ht'
end Go.Proofs.Ytnaoghknnenfoaa
namespace Go.Proofs.Ytnaoghknnenfoaa
open Go.RowKit
theorem b4.setTy {F:Nat→Prop}{w:World}{t:Ty}{a b:Value}(ht:bT F w t.row [a,b]) : ∀(L:List Ty) (xs:List Value) (j:Nat),j<L.length→b4 F w (Ty.rows L) xs→b4 F w (Ty.rows (L.set j t)) ((xs.set (j*2) a).set (j*2+1) b)
 | [],_,_,hj,_=>absurd hj (Nat.not_lt_zero _)
 | u :: L,_,0,_,h=>by
  unfold Ty.rows at h
  obtain⟨ys,rest,rfl,h2,h3⟩:=h
  have hl:=h2.len
  rw [u.row_length] at hl
  obtain⟨y0,y1,rfl⟩ : ∃y0 y1,ys = [y0,y1]:=by
   match ys,hl with
   | [y0,y1],_=>exact⟨y0,y1,rfl⟩
  show b4 F w (Ty.rows (t :: L)) _
  unfold Ty.rows
  exact⟨[a,b],rest,rfl,ht,h3⟩
 | u :: L,_,j+1,hj,h=>by
  unfold Ty.rows at h
  obtain⟨ys,rest,rfl,h2,h3⟩:=h
  have hl:=h2.len
  rw [u.row_length] at hl
  obtain⟨y0,y1,rfl⟩ : ∃y0 y1,ys = [y0,y1]:=by
   match ys,hl with
   | [y0,y1],_=>exact⟨y0,y1,rfl⟩
  have ih:=b4.setTy ht L rest j (by simpa using hj) h3
  show b4 F w (Ty.rows (u :: L.set j t)) _
  unfold Ty.rows
  refine⟨[y0,y1],(rest.set (j*2) a).set (j*2+1) b,?_,h2,ih⟩
  rw [show(j+1)*2=j*2+1+1 from by omega]
  rfl
theorem fj {w:World}{B:Nat}{e:TypeId}{size n q g i:Nat}{xs:List Value}{u:Value}(h:w.ownsRow B e size (.slice (some ⟨g,0,none⟩) n q) n xs)(hi:i<n*size):(w.setCell ⟨g,i,none⟩ u).ownsRow B e size (.slice (some ⟨g,0,none⟩) n q) n (xs.set i u):=by
 obtain⟨h1,h2 | ⟨g',cap,cur,h2,hB,hg,hn,hc,hs,ht⟩⟩:=h
 ·exact absurd h2.1 (by simp)
 ·simp only [Value.slice.injEq,Option.some.injEq,Addr.mk.injEq,and_true] at h2
  obtain⟨rfl,-,rfl⟩:=h2
  refine⟨by rw [List.length_set];exact h1,.inr ⟨g,q,_,rfl,hB,cf hg,hn,hc,by simpa using hs,?_⟩⟩
  subst ht
  simp [List.take_set]
theorem bA.setTy {B g n q j:Nat}{e:TypeId}{w:World}{L:List Ty}{t:Ty}{k:Int}{s:Value}(h:bA B e 2 w (.slice (some ⟨g,0,none⟩) n q) n (Ty.rows L))(hj:j<n)(ht:ap (fun b=>B≤b∧b≠g) w t (.agg #[.int .i64 k,s])) :
  bA B e 2 ((w.setCell ⟨g,j*2,none⟩ (.int .i64 k)).setCell ⟨g,j*2+1,none⟩ s) (.slice (some ⟨g,0,none⟩) n q) n (Ty.rows (L.set j t)):=by
 obtain⟨hl,xs,h1,h2⟩:=h
 rw [Ty.rows_length] at hl
 have o1:=fj (i:=j*2) (u:=.int .i64 k) h1 (by omega)
 have o2:=fj (i:=j*2+1) (u:=s) o1 (by omega)
 have K:bB (fun b=>B≤b∧b≠g) (fun b=>B≤b∧(Value.slice (some ⟨g,0,none⟩) n q).ownBlock≠some b) w ((w.setCell ⟨g,j*2,none⟩ (.int .i64 k)).setCell ⟨g,j*2+1,none⟩ s):=
  ⟨by simp [World.setCell],fun b hb _=>⟨hb.1,fun e=>hb.2 (by simpa [Value.ownBlock] using e.symm)⟩,fun b hb _=>by
    rw [Below.heap_setCell _ ⟨g,_,none⟩ _ b hb.2,Below.heap_setCell _ ⟨g,_,none⟩ _ b hb.2]⟩
 have h2':b4 (fun b=>B≤b∧b≠g) w (Ty.rows L) xs:=h2.move (.weaken fun b hb _=>⟨hb.1,fun e=>hb.2 (by rw [e];rfl)⟩) _ _
 obtain⟨z,he,hz⟩:=ht
 simp only [Value.agg.injEq,Array.mk.injEq,List.cons.injEq,Value.int.injEq,true_and,and_true] at he
 obtain⟨rfl,rfl⟩:=he
 have hrow:bT (fun b=>B≤b∧b≠g) w t.row [.int .i64 t.kind,s]:=by
  cases t with | mk k ts=>
  unfold Ty.row
  exact⟨_,_,rfl,by unfold aS;rfl,_,_,rfl,hz,rfl⟩
 refine⟨by rw [Ty.rows_length,List.length_set];exact hl,_,o2,(b4.setTy hrow L xs j (by omega) h2').move K _ _⟩
theorem bA.cell {B g n q sz o:Nat}{e:TypeId}{w:World}{rows:List (List C)}(h:bA B e sz w (.slice (some ⟨g,0,none⟩) n q) n rows)(ho:o<n*sz):(∃u,w.cell? ⟨g,o,none⟩=some u)∧w.frozen? ⟨g,o,none⟩=false:=by
 obtain⟨hl,xs,⟨h1,h2 | ⟨g',cap,cur,h2,hB,hg,hn,hc,hs,ht⟩⟩,-⟩:=h
 ·simp at h2
 ·simp only [Value.slice.injEq,Option.some.injEq,Addr.mk.injEq,and_true] at h2
  obtain⟨rfl,-,rfl⟩:=h2
  have hlt:o<cur.size:=by
   have:n*sz≤q*sz:=Nat.mul_le_mul_right _ hn
   omega
  exact⟨⟨cur[o],by simp [World.cell?,hg,hlt]⟩,by simp [World.frozen?,hg]⟩
theorem bA.form {B n sz:Nat}{e:TypeId}{w:World}{v:Value}{rows:List (List C)}(h:bA B e sz w v n rows)(hn:0<n) : ∃g q,v = .slice (some ⟨g,0,none⟩) n q∧B≤g∧g<w.heap.size∧n≤q∧q≤maxLen:=by
 obtain⟨hl,xs,⟨h1,h2 | ⟨g',cap,cur,h2,hB,hg,hn',hc,hs,ht⟩⟩,-⟩:=h
 ·omega
 ·exact⟨g',cap,h2,hB,al hg,hn',hc⟩
theorem bg.repS {w:World} : ∀ {r:List C} {ys:List Value} {f:List Nat} {F:Nat→Prop},bg w r ys f→(∀b∈f,F b)→bT F w r ys
 | [],_,_,_,h,_=>h.1
 | c :: cs,_,_,F,⟨z,zs,f1,f2,e,e2,h1,h2⟩,hF=>by
  subst e2
  exact⟨z,zs,e,aG.rep c z f1 (fun b hb=>hF b (List.mem_append_left _ hb)) h1,bg.repS h2 fun b hb=>hF b (List.mem_append_right _ hb)⟩
theorem be.vals {w:World} : ∀ {rs:List (List C)} {xs:List Value} {fps:List Nat} {F:Nat→Prop},be w rs xs fps→(∀b∈fps,F b)→b4 F w rs xs
 | [],_,_,_,h,_=>h.1
 | r :: rs,_,_,F,⟨ys,xs',f1,f2,e,e2,h1,h2⟩,hF=>by
  subst e2
  exact⟨ys,xs',e,h1.repS (fun b hb=>hF b (List.mem_append_left _ hb)),be.vals h2 fun b hb=>hF b (List.mem_append_right _ hb)⟩
theorem aH.rowL {B n sz:Nat}{e:TypeId}{w:World}{v:Value}{rows:List (List C)}(h:aH B e sz w v n rows):bA B e sz w v n rows:=by
 obtain⟨xs,fps,h1,h2,h3,h4,h5⟩:=h
 exact⟨h2,xs,h1,h3.vals h5⟩
end Go.Proofs.Ytnaoghknnenfoaa
namespace Go.Proofs.Ytnaoghknnenfoaa
open Go.RowKit
def RetTysA (ts:List Ty)(w:World)(e:Ending)(w':World):Prop:=∃(v:Value) (B:Nat),e = .returned v∧w.heap.size≤B∧B≤w'.heap.size∧bA B 25 2 w' v ts.length (Ty.rows ts)∧Below w.heap.size w w'
set_option maxHeartbeats 4000000 in
theorem jL (F:Nat→Prop)(t:Tm)(y:Value)(w:World)(hy:az F w t y) :
  Calls Try.prog 29 #[y] w (RetTysA t.types w):=by
 have hv:=fun W (h:Below w.heap.size w W)=>ce F t y W (hy.below h)
 have hyB:az (· < w.heap.size) w t y:=hy.move (.weaken fun _ _ h=>h)
 have hT:=fun(hok:t.valid=true) (B:Nat) (hB:w.heap.size≤B) W (h:Below w.heap.size w W) (hBW:B≤W.heap.size) v (ha:aH B 25 2 W v 0 (Ty.rows []))=>
  dG (· < w.heap.size) B (fun b hb=>by omega) t (Tm.tys_ok hok).2 [] 0 rfl (by have:=(Tm.tys_ok hok).1;omega) v y W (hyB.below h) hBW ha
 simp only [List.nil_append,Nat.zero_add] at hT
 unfold Tm.types
 obtain⟨k,nm,u,tk,ta,tn,tq,fk,fa,fn,fq,l,c,m,q,rfl⟩:=hy.shape
 generalize t.tys=us at *
 generalize t.valid=v at *
 have HV:=Lib.hid hv
 have HT:=Lib.hid hT
 clear hv hT hy hyB
 cases v
 ·go_enter Try.func29,Try.ntmps29
  go_wp2_with fail
  refine(HV.out _ ah).mono ?_
  rintro e w1 ⟨rfl,hb1⟩
  go_wp2_with fail
  go_ret
  have hbz:=hb1.size
  simp only [World.size_alloc] at hbz
  exact⟨_,w1.heap.size,rfl,by omega,by simp,by rw [Ty.rows];exact(aH.empty (Nat.le_refl _) (heap_alloc_new w1 _)).rowL,ai (ai ah hb1) ah⟩
 ·go_enter Try.func29,Try.ntmps29
  go_wp2_with fail
  refine(HV.out _ ah).mono ?_
  rintro e w1 ⟨rfl,hb1⟩
  have c0:w1.cell? ⟨w.heap.size,0,none⟩=some (.int .i64 k):=a9 hb1 (ao 0)
  have c1:w1.cell? ⟨w.heap.size,1,none⟩=some (.string nm):=a9 hb1 (ao 1)
  have c2:w1.cell? ⟨w.heap.size,2,none⟩=some (.int .i64 u):=a9 hb1 (ao 2)
  have c3:w1.cell? ⟨w.heap.size,3,none⟩=some (.int .i64 tk):=a9 hb1 (ao 3)
  have c4:w1.cell? ⟨w.heap.size,4,none⟩=some (.slice ta tn tq):=a9 hb1 (ao 4)
  have c5:w1.cell? ⟨w.heap.size,5,none⟩=some (.int .i64 fk):=a9 hb1 (ao 5)
  have c6:w1.cell? ⟨w.heap.size,6,none⟩=some (.slice fa fn fq):=a9 hb1 (ao 6)
  have c7:w1.cell? ⟨w.heap.size,7,none⟩=some (.int .i64 l):=a9 hb1 (ao 7)
  have c8:w1.cell? ⟨w.heap.size,8,none⟩=some (.slice c m q):=a9 hb1 (ao 8)
  have lw:=World.block_lt_of_cell? _ _ c0
  have hB1:=ai ah hb1
  have hbz:=hB1.size
  go_wp2_with fail
  refine(HT.out (by simp) w1.heap.size hbz _ (ai hB1 ah) (by simp) _ (aH.empty (Nat.le_refl _) (heap_alloc_new w1 _))).mono ?_
  rintro e w2 ⟨v2,rfl,hv2,hg2,-⟩
  have hbel:Below w.heap.size w w2:=(ai hB1 ah).grown hg2 (ai hB1 ah).size (fun k hk=>by simp [Value.ownBlock] at hk;omega)
  have HV2:=Lib.hid hv2
  have HSZ:=Lib.hid (show w1.heap.size≤w2.heap.size by have:=hg2.size;simp at this;omega)
  have HBEL:=Lib.hid hbel
  clear hv2 hg2 hbel
  go_wp2_with fail
  go_ret
  exact⟨_,w1.heap.size,rfl,hbz,HSZ.out,HV2.out.rowL,HBEL.out⟩
end Go.Proofs.Ytnaoghknnenfoaa
