/-
  spec.l3Type at a function.
  spec.l3Type at a function.
-/
import Derived.Test.YtnaoghknnenfoaaB19
set_option linter.unusedSimpArgs false
set_option linter.unusedVariables false
set_option maxRecDepth 100000
namespace Go.Proofs.Ytnaoghknnenfoaa
open Go.RowKit
def dQ:Oper:=⟨some 32,Op.move (Operand.tmp 0),63,"l3_typing.go:108",#[],none⟩
def dL:Oper:=⟨some 33,Op.fieldAddr 28 (Operand.tmp 3) 1,0,"l3_typing.go:108",#[],none⟩
def dY:Oper:=⟨some 34,Op.load 9 (Operand.tmp 33),9,"l3_typing.go:108",#[⟨1,.data⟩],none⟩
def dT:Oper:=⟨some 35,Op.fieldAddr 28 (Operand.tmp 3) 3,0,"l3_typing.go:108",#[],none⟩
def dP:Oper:=⟨some 36,Op.load 25 (Operand.tmp 35),25,"l3_typing.go:108",#[⟨3,.data⟩],none⟩
def cE:Oper:=⟨some 37,Op.call { callee:=Callee.value (Operand.func 66),args:=#[Operand.tmp 32,Operand.tmp 34,Operand.tmp 36],argTypes:=#[63,9,25] },63,"l3_typing.go:108",#[⟨0,.data⟩,⟨2,.data⟩,⟨4,.data⟩],none⟩
def ee:Oper:=⟨some 38,Op.fieldAddr 28 (Operand.tmp 3) 6,0,"l3_typing.go:108",#[],none⟩
def eb:Oper:=⟨some 39,Op.load 26 (Operand.tmp 38),26,"l3_typing.go:108",#[⟨6,.data⟩],none⟩
def ef:Oper:=⟨some 40,Op.indexAddr 26 (Operand.tmp 39) (Operand.const (Value.int IntKind.i64 0)),0,"l3_typing.go:108",#[⟨7,.data⟩],none⟩
def dV:Oper:=⟨some 41,Op.load 28 (Operand.tmp 40),28,"l3_typing.go:108",#[⟨8,.data⟩],none⟩
def bI:Oper:=⟨some 42,Op.call { callee:=Callee.value (Operand.func 69),args:=#[Operand.tmp 37,Operand.tmp 41],argTypes:=#[63,28] },54,"l3_typing.go:108",#[⟨5,.data⟩,⟨9,.data⟩,⟨5,.chain⟩],none⟩
def bF:Oper:=⟨some 31,Op.move (Operand.tmp 42),54,"l3_typing.go:108",#[⟨10,.data⟩],none⟩
def bK:Oper:=⟨some 43,Op.extract (Operand.tmp 31) 0,25,"l3_typing.go:108",#[⟨11,.data⟩],none⟩
def bJ:Oper:=⟨some 44,Op.extract (Operand.tmp 31) 1,4,"l3_typing.go:108",#[⟨11,.data⟩,⟨15,.gcOnly .lateStores⟩],none⟩
def bL:Oper:=⟨some 6,Op.alloc 25,0,"l3_typing.go:108",#[],none⟩
def bH:Oper:=⟨none,Op.store 25 (Operand.tmp 6) (Operand.tmp 43),0,"l3_typing.go:108",#[⟨14,.data⟩,⟨12,.data⟩,⟨10,.chain⟩,⟨0,.phase⟩,⟨1,.phase⟩,⟨2,.phase⟩,⟨3,.phase⟩,⟨4,.phase⟩,⟨5,.phase⟩,⟨6,.phase⟩,⟨7,.phase⟩,⟨8,.phase⟩,⟨9,.phase⟩,⟨10,.phase⟩,⟨11,.phase⟩,⟨12,.phase⟩,⟨13,.textOnly .lateStores⟩,⟨14,.phase⟩],none⟩
def bG:Oper:=⟨some 7,Op.assign (Operand.tmp 44),4,"l3_typing.go:108",#[⟨13,.data⟩,⟨15,.chain⟩,⟨0,.phase⟩,⟨1,.phase⟩,⟨2,.phase⟩,⟨3,.phase⟩,⟨4,.phase⟩,⟨5,.phase⟩,⟨6,.phase⟩,⟨7,.phase⟩,⟨8,.phase⟩,⟨9,.phase⟩,⟨10,.phase⟩,⟨11,.phase⟩,⟨12,.phase⟩,⟨13,.phase⟩,⟨14,.phase⟩,⟨15,.phase⟩],none⟩
set_option maxHeartbeats 8000000 in
theorem jg (G:Nat→Prop)(nm:ByteArray)(u lb tk fk:Int)(ty src:Ty)(t1:Tm)(l:List Bd)(xa ta fa ca:Option Addr)(xn xq tn tq fn fq cm cq:Nat)(w:World)
    (he:az G w (.mk 5 nm u ty src lb [t1]) (.agg #[.int .i64 5,.string nm,.int .i64 u,.int .i64 tk,.slice ta tn tq,.int .i64 fk,.slice fa fn fq,.int .i64 lb,.slice ca cm cq])) (hv:ty.valid=true)
    (HM:Hid (∀W,Below w.heap.size w W→Calls Try.prog 66 #[.slice xa xn xq,.string nm,.agg #[.int .i64 tk,.slice ta tn tq]] W (RetC (l ++ [⟨nm,ty⟩]) W)))
    (IH:Hid (∀(W:World) (c' y':Value),Below w.heap.size w W→aL (fun _=>True) W (l ++ [⟨nm,ty⟩]) c'→az G W t1 y'→(∃a m q,c' = .slice (some a) m q)→Calls Try.prog 69 #[c',y'] W (bC ((t1.typS (l ++ [⟨nm,ty⟩])).map S.ty) W)))
    (hco:t1.typS (l ++ [⟨nm,ty⟩])=none) :
    Calls Try.prog 69 #[.slice xa xn xq,.agg #[.int .i64 5,.string nm,.int .i64 u,.int .i64 tk,.slice ta tn tq,.int .i64 fk,.slice fa fn fq,.int .i64 lb,.slice ca cm cq]] w (bC (((Tm.mk 5 nm u ty src lb [t1]).typS l).map S.ty) w):=by
  obtain⟨-,-,-,-,-,-,-,-,hm,hnm,hmq,hqm,hty,hsrc,hks⟩:=he.parts
  simp only [Tm.type,Tm.src,Tm.kids,List.length_cons,List.length_nil] at hm hty hsrc hks
  obtain rfl:cm=1:=by omega
  obtain⟨b,off,kk0,nn0,uu0,tk0,ta0,tn0,tq0,fk0,fa0,fn0,fq0,ll0,a0,m0,q0,rfl,hlb,e0,e1,e2,e3,e4,e5,e6,e7,e8,ht⟩:=hks.at (Below.refl _ _) (i:=0) (by simp)
  simp only [Nat.zero_mul,Nat.add_zero] at e0 e1 e2 e3 e4 e5 e6 e7 e8
  have HTK:=Lib.hid (show az G w t1 _ from ht)
  have HTY:=Lib.hid hty.old
  have HCN:=Lib.hid (Ty.cnt_valid hv)
  have HVT:=Lib.hid hv
  have HCO:=Lib.hid hco
  obtain⟨O,hO⟩ : ∃O:Option Ty,O=(((Tm.mk 5 nm u ty src lb [t1]).typS l).map S.ty):=⟨_,rfl⟩
  rw [←hO]
  have HO:=Lib.hid hO
  clear hO he hm hty hsrc hks ht hv hco
  go_enter Try.func69,Try.ntmps69
  go_wp2_with fail
  obtain⟨VV,hVV⟩ : ∃X,X=((w.alloc (.cells #[.int .i64 5,.string nm,.int .i64 u,.int .i64 tk,.slice ta tn tq,.int .i64 fk,.slice fa fn fq,.int .i64 lb,.slice (some ⟨b,off,none⟩) 1 cq] 28)).alloc (.cells #[.int .i64 0,.slice none 0 0] 25)):=⟨_,rfl⟩
  have fE:VV.heap[w.heap.size]?=some (.cells #[.int .i64 5,.string nm,.int .i64 u,.int .i64 tk,.slice ta tn tq,.int .i64 fk,.slice fa fn fq,.int .i64 lb,.slice (some ⟨b,off,none⟩) 1 cq] 28 (0,0)):=by rw [hVV];exact af (aD rfl) ah
  have fR:VV.heap[w.heap.size+1]?=some (.cells #[.int .i64 0,.slice none 0 0] 25 (0,0)):=by rw [hVV];exact aD (by simp)
  have c0_:VV.cell? ⟨b,off,none⟩=some (.int .i64 kk0):=by rw [hVV];exact a9 ah (a9 ah e0)
  have c1_:VV.cell? ⟨b,off+1,none⟩=some (.string nn0):=by rw [hVV];exact a9 ah (a9 ah e1)
  have c2_:VV.cell? ⟨b,off+2,none⟩=some (.int .i64 uu0):=by rw [hVV];exact a9 ah (a9 ah e2)
  have c3_:VV.cell? ⟨b,off+3,none⟩=some (.int .i64 tk0):=by rw [hVV];exact a9 ah (a9 ah e3)
  have c4_:VV.cell? ⟨b,off+4,none⟩=some (.slice ta0 tn0 tq0):=by rw [hVV];exact a9 ah (a9 ah e4)
  have c5_:VV.cell? ⟨b,off+5,none⟩=some (.int .i64 fk0):=by rw [hVV];exact a9 ah (a9 ah e5)
  have c6_:VV.cell? ⟨b,off+6,none⟩=some (.slice fa0 fn0 fq0):=by rw [hVV];exact a9 ah (a9 ah e6)
  have c7_:VV.cell? ⟨b,off+7,none⟩=some (.int .i64 ll0):=by rw [hVV];exact a9 ah (a9 ah e7)
  have c8_:VV.cell? ⟨b,off+8,none⟩=some (.slice a0 m0 q0):=by rw [hVV];exact a9 ah (a9 ah e8)
  have fC:Hid (Below w.heap.size w VV):=by rw [hVV];exact Lib.hid (ai ah ah)
  have hT:Hid (ap (· < w.heap.size) VV ty (.agg #[.int .i64 tk,.slice ta tn tq])):=by rw [hVV];exact Lib.hid ((HTY.out.below ah).below ah)
  rw [←hVV]
  have zV:VV.heap.size=_:=congrArg (fun X:World=>X.heap.size) hVV
  simp only [World.size_alloc] at zV
  refine wp_region_noPanic ?_
  refine wp_region_held_drew (S:=fun w'=>w'.cell? ⟨w.heap.size,1,none⟩=some (.string nm)∧w'.cell? ⟨w.heap.size,3,none⟩=some (.int .i64 tk)∧w'.cell? ⟨w.heap.size,4,none⟩=some (.slice ta tn tq)∧w'.cell? ⟨w.heap.size,8,none⟩=some (.slice (some ⟨b,off,none⟩) 1 cq)∧w'.cell? ⟨b,off,none⟩=some (.int .i64 kk0)∧w'.cell? ⟨b,off+1,none⟩=some (.string nn0)∧w'.cell? ⟨b,off+2,none⟩=some (.int .i64 uu0)∧w'.cell? ⟨b,off+3,none⟩=some (.int .i64 tk0)∧w'.cell? ⟨b,off+4,none⟩=some (.slice ta0 tn0 tq0)∧w'.cell? ⟨b,off+5,none⟩=some (.int .i64 fk0)∧w'.cell? ⟨b,off+6,none⟩=some (.slice fa0 fn0 fq0)∧w'.cell? ⟨b,off+7,none⟩=some (.int .i64 ll0)∧w'.cell? ⟨b,off+8,none⟩=some (.slice a0 m0 q0)) (by kernel_rfl) ?_ (fun hHeld0=>?_)
  · exact⟨ag fE rfl,ag fE rfl,ag fE rfl,ag fE rfl,c0_,c1_,c2_,c3_,c4_,c5_,c6_,c7_,c8_⟩
  obtain⟨U1,hU,hb,zU1a,zU1b⟩:=bO VV
  rw [hU] at hHeld0 ⊢
  replace fE:=af fE hb;replace fR:=af fR hb;replace c0_:=a9 hb c0_;replace c1_:=a9 hb c1_
  replace c2_:=a9 hb c2_;replace c3_:=a9 hb c3_;replace c4_:=a9 hb c4_;replace c5_:=a9 hb c5_
  replace c6_:=a9 hb c6_;replace c7_:=a9 hb c7_;replace c8_:=a9 hb c8_;replace fC:=Lib.hid (ai fC.out hb)
  replace hT:=Lib.hid (hT.out.below hb)
  rw [zV] at zU1a zU1b
  clear hU hb hVV zV
  refine hwt 0 dQ (.slice xa xn xq) hHeld0 ?_ ?_
  · intro w' hSw;dsimp only [dQ];go_simp
  try simp only [dQ,hwA]
  refine hwt 1 dL (.pointer (some ⟨w.heap.size,1,none⟩)) hHeld0 ?_ ?_
  · intro w' hSw;dsimp only [dL];go_simp
  try simp only [dL,hwA]
  refine hwt 2 dY (.string nm) hHeld0 ?_ ?_
  · intro w' hSw;dsimp only [dY];go_simp
  try simp only [dY,hwA]
  refine hwt 3 dT (.pointer (some ⟨w.heap.size,3,none⟩)) hHeld0 ?_ ?_
  · intro w' hSw;dsimp only [dT];go_simp
  try simp only [dT,hwA]
  refine hwt 4 dP (.agg #[.int .i64 tk,.slice ta tn tq]) hHeld0 ?_ ?_
  · intro w' hSw;dsimp only [dP];go_simp
  try simp only [dP,hwA]
  refine hwt 6 ee (.pointer (some ⟨w.heap.size,8,none⟩)) hHeld0 ?_ ?_
  · intro w' hSw;dsimp only [ee];go_simp
  try simp only [ee,hwA]
  refine hwt 7 eb (.slice (some ⟨b,off,none⟩) 1 cq) hHeld0 ?_ ?_
  · intro w' hSw;dsimp only [eb];go_simp
  try simp only [eb,hwA]
  refine hwt 8 ef (.pointer (some ⟨b,off,none⟩)) hHeld0 ?_ ?_
  · intro w' hSw;dsimp only [ef];go_simp
  try simp only [ef,hwA]
  refine hwt 9 dV (.agg #[.int .i64 kk0,.string nn0,.int .i64 uu0,.int .i64 tk0,.slice ta0 tn0 tq0,.int .i64 fk0,.slice fa0 fn0 fq0,.int .i64 ll0,.slice a0 m0 q0]) hHeld0 ?_ ?_
  · intro w' hSw;dsimp only [dV];go_simp
  try simp only [dV,hwA]
  refine wpAnyH_ready (rs:= [5,14]) (by kernel_rfl) (by simp) ?_
  refine(AllReadyH.cons (o:=cE) rfl (fun K hK=>?_) (AllReadyH.cons (o:=bL) rfl (fun K hK=>?_) AllReadyH.nil))
  ·skip
   dsimp only [cE];go_simp
   go_at_call 66
   refine(HM.out _ fC.out).mono ?_
   rintro e X1 ⟨xa2,xm2,xq2,rfl,hcx,hb⟩
   have hX':Hid (aL (fun _=>True) X1 (l ++ [⟨nm,ty⟩]) (.slice (some xa2) xm2 xq2)):=Lib.hid hcx
   clear hcx
   go_wp2_with fail
   have zX1:U1.heap.size≤X1.heap.size:=hb.size
   replace fE:=af fE hb;replace fR:=af fR hb;replace c0_:=a9 hb c0_;replace c1_:=a9 hb c1_
   replace c2_:=a9 hb c2_;replace c3_:=a9 hb c3_;replace c4_:=a9 hb c4_;replace c5_:=a9 hb c5_
   replace c6_:=a9 hb c6_;replace c7_:=a9 hb c7_;replace c8_:=a9 hb c8_;replace fC:=Lib.hid (ai fC.out hb)
   replace hT:=Lib.hid (hT.out.below hb)
   have hX:=hX'
   clear hX'
   refine hK.out _ _ ⟨ag fE rfl,ag fE rfl,ag fE rfl,ag fE rfl,c0_,c1_,c2_,c3_,c4_,c5_,c6_,c7_,c8_⟩ (fun hHeld1=>?_)
   clear hK K hHeld0 hb
   try simp only [cE,hwA]
   refine wpAnyH_ready (rs:= [10,14]) (by kernel_rfl) (by simp) ?_
   refine(AllReadyH.cons (o:=bI) rfl (fun K hK=>?_) (AllReadyH.cons (o:=bL) rfl (fun K hK=>?_) AllReadyH.nil))
   ·skip
    dsimp only [bI];go_simp
    go_at_call 69
    refine(IH.out _ _ _ fC.out hX.out (HTK.out.below fC.out) ⟨_,_,_,rfl⟩).mono ?_
    rintro e X2 ⟨kt,at_,nt,qt,bt,tt,rfl,hbt,htt,hot,hb⟩
    rw [HCO.out] at hbt hot
    obtain rfl:bt=false:=hbt
    have hN':Hid (ap (fun b=>X1.heap.size≤b∧b<X2.heap.size) X2 tt (.agg #[.int .i64 kt,.slice at_ nt qt])):=Lib.hid (htt.move (.weaken fun b h1 h2=>⟨h1.elim False.elim id,h2⟩))
    clear htt hot
    go_wp2_with fail
    have zX2:X1.heap.size≤X2.heap.size:=hb.size
    replace fE:=af fE hb;replace fR:=af fR hb;replace c0_:=a9 hb c0_;replace c1_:=a9 hb c1_
    replace c2_:=a9 hb c2_;replace c3_:=a9 hb c3_;replace c4_:=a9 hb c4_;replace c5_:=a9 hb c5_
    replace c6_:=a9 hb c6_;replace c7_:=a9 hb c7_;replace c8_:=a9 hb c8_;replace fC:=Lib.hid (ai fC.out hb)
    replace hT:=Lib.hid (hT.out.below hb);replace hX:=Lib.hid (hX.out.below hb)
    have hN:=hN'
    clear hN'
    refine hK.out _ _ ⟨ag fE rfl,ag fE rfl,ag fE rfl,ag fE rfl,c0_,c1_,c2_,c3_,c4_,c5_,c6_,c7_,c8_⟩ (fun hHeld2=>?_)
    clear hK K hHeld1 hb
    try simp only [bI,hwA]
    refine hwt 11 bF (.tuple #[.agg #[.int .i64 kt,.slice at_ nt qt],.bool false]) hHeld2 ?_ ?_
    · intro w' hSw;dsimp only [bF];go_simp
    try simp only [bF,hwA]
    refine hwt 12 bK (.agg #[.int .i64 kt,.slice at_ nt qt]) hHeld2 ?_ ?_
    · intro w' hSw;dsimp only [bK];go_simp
    try simp only [bK,hwA]
    refine hwt 13 bJ (.bool false) hHeld2 ?_ ?_
    · intro w' hSw;dsimp only [bJ];go_simp
    try simp only [bJ,hwA]
    refine hwr 14 bL (fun K hK=>?_)
    dsimp only [bL];go_simp
    (try go_wp2_with fail)
    obtain⟨X3,hXq,hb,fV,zX3a,zX3b⟩:=bM X2 (.cells #[.int .i64 0,.slice none 0 0] 25)
    rw [hXq]
    replace fE:=af fE hb;replace fR:=af fR hb;replace c0_:=a9 hb c0_;replace c1_:=a9 hb c1_
    replace c2_:=a9 hb c2_;replace c3_:=a9 hb c3_;replace c4_:=a9 hb c4_;replace c5_:=a9 hb c5_
    replace c6_:=a9 hb c6_;replace c7_:=a9 hb c7_;replace c8_:=a9 hb c8_;replace fC:=Lib.hid (ai fC.out hb)
    replace hT:=Lib.hid (hT.out.below hb);replace hX:=Lib.hid (hX.out.below hb);replace hN:=Lib.hid (hN.out.below hb)
    refine hK.out _ _ ⟨ag fE rfl,ag fE rfl,ag fE rfl,ag fE rfl,c0_,c1_,c2_,c3_,c4_,c5_,c6_,c7_,c8_⟩ (fun hHeld3=>?_)
    clear hK K hHeld2 hb hXq
    try simp only [bL,hwA]
    refine hwr 15 bH (fun K hK=>?_)
    obtain⟨r0,r1,rf0,rf1⟩:=cg fV
    dsimp only [bH];go_simp
    (try go_wp2_with fail)
    have hQq:=bx fV (.int .i64 kt) (.slice at_ nt qt)
    clear fV r0 rf0 r1 rf1
    obtain⟨X4,hXq,hsq,fV,zX4a,zX4b⟩:=hQq
    rw [hXq]
    replace fE:=hsq.blk (by omega) fE;replace fR:=hsq.blk (by omega) fR;replace c0_:=hsq.cell (by show b≠X2.heap.size;omega) c0_;replace c1_:=hsq.cell (by show b≠X2.heap.size;omega) c1_
    replace c2_:=hsq.cell (by show b≠X2.heap.size;omega) c2_;replace c3_:=hsq.cell (by show b≠X2.heap.size;omega) c3_;replace c4_:=hsq.cell (by show b≠X2.heap.size;omega) c4_;replace c5_:=hsq.cell (by show b≠X2.heap.size;omega) c5_
    replace c6_:=hsq.cell (by show b≠X2.heap.size;omega) c6_;replace c7_:=hsq.cell (by show b≠X2.heap.size;omega) c7_;replace c8_:=hsq.cell (by show b≠X2.heap.size;omega) c8_;replace fC:=Lib.hid (hsq.bel fC.out (by omega))
    replace hT:=Lib.hid (hsq.rep (fun b hb=>by have:b<w.heap.size:=hb;omega) hT.out);replace hN:=Lib.hid (hsq.rep (fun b hb=>by have h1:X1.heap.size≤b:=hb.1;have h2:b<X2.heap.size:=hb.2;omega) hN.out)
    refine hK.out _ _ ⟨ag fE rfl,ag fE rfl,ag fE rfl,ag fE rfl,c0_,c1_,c2_,c3_,c4_,c5_,c6_,c7_,c8_⟩ (fun hHeld4=>?_)
    clear hK K hHeld3 hsq hXq hX
    try simp only [bH,hwA]
    refine hwt 16 bG (.bool false) hHeld4 ?_ ?_
    · intro w' hSw;dsimp only [bG];go_simp
    try simp only [bG,hwA]
    refine wpAnyH_done (by kernel_rfl) ?_ _
    refine NoPanic.normal ?_
    clear hHeld4
    obtain⟨r0,r1⟩:=blk2 fR
    have rf0:=aC fR 0
    have rf1:=aC fR 1
    go_wp2_with fail
    have hY:((X4.setCell ⟨w.heap.size+1,0,none⟩ (.int .i64 0)).setCell ⟨w.heap.size+1,1,none⟩ (.slice none 0 0)).heap[w.heap.size+1]?=some (.cells #[.int .i64 0,.slice none 0 0] 25 (0,0)):=aQ (aQ fR rfl) rfl
    obtain⟨rc0,rc1⟩:=blk2 hY
    refine bodyPost_ret (v:=.tuple #[.agg #[.int .i64 0,.slice none 0 0],.bool false]) (by simp [results,Try.results69,go_sem,rc0,rc1]) rfl ?_
    exact⟨_,_,_,_,_,_,rfl,by rw [HO.out,cY HCO.out];rfl,ap.zeroG,(by rw [HO.out,cY HCO.out];intro s h;simp at h),(fC.out.setCell (p:=⟨w.heap.size+1,0,none⟩) (by show w.heap.size≤w.heap.size+1;omega) _).setCell (p:=⟨w.heap.size+1,1,none⟩) (by show w.heap.size≤w.heap.size+1;omega) _⟩
   ·skip
    dsimp only [bL];go_simp
    (try go_wp2_with fail)
    obtain⟨X5,hXq,hb,fV,zX5a,zX5b⟩:=bM X1 (.cells #[.int .i64 0,.slice none 0 0] 25)
    rw [hXq]
    replace fE:=af fE hb;replace fR:=af fR hb;replace c0_:=a9 hb c0_;replace c1_:=a9 hb c1_
    replace c2_:=a9 hb c2_;replace c3_:=a9 hb c3_;replace c4_:=a9 hb c4_;replace c5_:=a9 hb c5_
    replace c6_:=a9 hb c6_;replace c7_:=a9 hb c7_;replace c8_:=a9 hb c8_;replace fC:=Lib.hid (ai fC.out hb)
    replace hT:=Lib.hid (hT.out.below hb);replace hX:=Lib.hid (hX.out.below hb)
    refine hK.out _ _ ⟨ag fE rfl,ag fE rfl,ag fE rfl,ag fE rfl,c0_,c1_,c2_,c3_,c4_,c5_,c6_,c7_,c8_⟩ (fun hHeld2=>?_)
    clear hK K hHeld1 hb hXq
    try simp only [bL,hwA]
    refine hwr 10 bI (fun K hK=>?_)
    dsimp only [bI];go_simp
    go_at_call 69
    refine(IH.out _ _ _ fC.out hX.out (HTK.out.below fC.out) ⟨_,_,_,rfl⟩).mono ?_
    rintro e X6 ⟨kt,at_,nt,qt,bt,tt,rfl,hbt,htt,hot,hb⟩
    rw [HCO.out] at hbt hot
    obtain rfl:bt=false:=hbt
    have hN':Hid (ap (fun b=>X5.heap.size≤b∧b<X6.heap.size) X6 tt (.agg #[.int .i64 kt,.slice at_ nt qt])):=Lib.hid (htt.move (.weaken fun b h1 h2=>⟨h1.elim False.elim id,h2⟩))
    clear htt hot
    go_wp2_with fail
    have zX6:X5.heap.size≤X6.heap.size:=hb.size
    replace fE:=af fE hb;replace fR:=af fR hb;replace c0_:=a9 hb c0_;replace c1_:=a9 hb c1_
    replace c2_:=a9 hb c2_;replace c3_:=a9 hb c3_;replace c4_:=a9 hb c4_;replace c5_:=a9 hb c5_
    replace c6_:=a9 hb c6_;replace c7_:=a9 hb c7_;replace c8_:=a9 hb c8_;replace fC:=Lib.hid (ai fC.out hb)
    replace hT:=Lib.hid (hT.out.below hb);replace hX:=Lib.hid (hX.out.below hb);replace fV:=af fV hb
    have hN:=hN'
    clear hN'
    refine hK.out _ _ ⟨ag fE rfl,ag fE rfl,ag fE rfl,ag fE rfl,c0_,c1_,c2_,c3_,c4_,c5_,c6_,c7_,c8_⟩ (fun hHeld5=>?_)
    clear hK K hHeld2 hb
    try simp only [bI,hwA]
    refine hwt 11 bF (.tuple #[.agg #[.int .i64 kt,.slice at_ nt qt],.bool false]) hHeld5 ?_ ?_
    · intro w' hSw;dsimp only [bF];go_simp
    try simp only [bF,hwA]
    refine hwt 12 bK (.agg #[.int .i64 kt,.slice at_ nt qt]) hHeld5 ?_ ?_
    · intro w' hSw;dsimp only [bK];go_simp
    try simp only [bK,hwA]
    refine hwt 13 bJ (.bool false) hHeld5 ?_ ?_
    · intro w' hSw;dsimp only [bJ];go_simp
    try simp only [bJ,hwA]
    refine hwr 15 bH (fun K hK=>?_)
    obtain⟨r0,r1,rf0,rf1⟩:=cg fV
    dsimp only [bH];go_simp
    (try go_wp2_with fail)
    have hQq:=bx fV (.int .i64 kt) (.slice at_ nt qt)
    clear fV r0 rf0 r1 rf1
    obtain⟨X7,hXq,hsq,fV,zX7a,zX7b⟩:=hQq
    rw [hXq]
    replace fE:=hsq.blk (by omega) fE;replace fR:=hsq.blk (by omega) fR;replace c0_:=hsq.cell (by show b≠X1.heap.size;omega) c0_;replace c1_:=hsq.cell (by show b≠X1.heap.size;omega) c1_
    replace c2_:=hsq.cell (by show b≠X1.heap.size;omega) c2_;replace c3_:=hsq.cell (by show b≠X1.heap.size;omega) c3_;replace c4_:=hsq.cell (by show b≠X1.heap.size;omega) c4_;replace c5_:=hsq.cell (by show b≠X1.heap.size;omega) c5_
    replace c6_:=hsq.cell (by show b≠X1.heap.size;omega) c6_;replace c7_:=hsq.cell (by show b≠X1.heap.size;omega) c7_;replace c8_:=hsq.cell (by show b≠X1.heap.size;omega) c8_;replace fC:=Lib.hid (hsq.bel fC.out (by omega))
    replace hT:=Lib.hid (hsq.rep (fun b hb=>by have:b<w.heap.size:=hb;omega) hT.out);replace hN:=Lib.hid (hsq.rep (fun b hb=>by have h1:X5.heap.size≤b:=hb.1;have h2:b<X6.heap.size:=hb.2;omega) hN.out)
    refine hK.out _ _ ⟨ag fE rfl,ag fE rfl,ag fE rfl,ag fE rfl,c0_,c1_,c2_,c3_,c4_,c5_,c6_,c7_,c8_⟩ (fun hHeld6=>?_)
    clear hK K hHeld5 hsq hXq hX
    try simp only [bH,hwA]
    refine hwt 16 bG (.bool false) hHeld6 ?_ ?_
    · intro w' hSw;dsimp only [bG];go_simp
    try simp only [bG,hwA]
    refine wpAnyH_done (by kernel_rfl) ?_ _
    refine NoPanic.normal ?_
    clear hHeld6
    obtain⟨r0,r1⟩:=blk2 fR
    have rf0:=aC fR 0
    have rf1:=aC fR 1
    go_wp2_with fail
    have hY:((X7.setCell ⟨w.heap.size+1,0,none⟩ (.int .i64 0)).setCell ⟨w.heap.size+1,1,none⟩ (.slice none 0 0)).heap[w.heap.size+1]?=some (.cells #[.int .i64 0,.slice none 0 0] 25 (0,0)):=aQ (aQ fR rfl) rfl
    obtain⟨rc0,rc1⟩:=blk2 hY
    refine bodyPost_ret (v:=.tuple #[.agg #[.int .i64 0,.slice none 0 0],.bool false]) (by simp [results,Try.results69,go_sem,rc0,rc1]) rfl ?_
    exact⟨_,_,_,_,_,_,rfl,by rw [HO.out,cY HCO.out];rfl,ap.zeroG,(by rw [HO.out,cY HCO.out];intro s h;simp at h),(fC.out.setCell (p:=⟨w.heap.size+1,0,none⟩) (by show w.heap.size≤w.heap.size+1;omega) _).setCell (p:=⟨w.heap.size+1,1,none⟩) (by show w.heap.size≤w.heap.size+1;omega) _⟩
  ·skip
   dsimp only [bL];go_simp
   (try go_wp2_with fail)
   obtain⟨X8,hXq,hb,fV,zX8a,zX8b⟩:=bM U1 (.cells #[.int .i64 0,.slice none 0 0] 25)
   rw [hXq]
   replace fE:=af fE hb;replace fR:=af fR hb;replace c0_:=a9 hb c0_;replace c1_:=a9 hb c1_
   replace c2_:=a9 hb c2_;replace c3_:=a9 hb c3_;replace c4_:=a9 hb c4_;replace c5_:=a9 hb c5_
   replace c6_:=a9 hb c6_;replace c7_:=a9 hb c7_;replace c8_:=a9 hb c8_;replace fC:=Lib.hid (ai fC.out hb)
   replace hT:=Lib.hid (hT.out.below hb)
   refine hK.out _ _ ⟨ag fE rfl,ag fE rfl,ag fE rfl,ag fE rfl,c0_,c1_,c2_,c3_,c4_,c5_,c6_,c7_,c8_⟩ (fun hHeld1=>?_)
   clear hK K hHeld0 hb hXq
   try simp only [bL,hwA]
   refine hwr 5 cE (fun K hK=>?_)
   dsimp only [cE];go_simp
   go_at_call 66
   refine(HM.out _ fC.out).mono ?_
   rintro e X9 ⟨xa2,xm2,xq2,rfl,hcx,hb⟩
   have hX':Hid (aL (fun _=>True) X9 (l ++ [⟨nm,ty⟩]) (.slice (some xa2) xm2 xq2)):=Lib.hid hcx
   clear hcx
   go_wp2_with fail
   have zX9:X8.heap.size≤X9.heap.size:=hb.size
   replace fE:=af fE hb;replace fR:=af fR hb;replace c0_:=a9 hb c0_;replace c1_:=a9 hb c1_
   replace c2_:=a9 hb c2_;replace c3_:=a9 hb c3_;replace c4_:=a9 hb c4_;replace c5_:=a9 hb c5_
   replace c6_:=a9 hb c6_;replace c7_:=a9 hb c7_;replace c8_:=a9 hb c8_;replace fC:=Lib.hid (ai fC.out hb)
   replace hT:=Lib.hid (hT.out.below hb);replace fV:=af fV hb
   have hX:=hX'
   clear hX'
   refine hK.out _ _ ⟨ag fE rfl,ag fE rfl,ag fE rfl,ag fE rfl,c0_,c1_,c2_,c3_,c4_,c5_,c6_,c7_,c8_⟩ (fun hHeld7=>?_)
   clear hK K hHeld1 hb
   try simp only [cE,hwA]
   refine hwr 10 bI (fun K hK=>?_)
   dsimp only [bI];go_simp
   go_at_call 69
   refine(IH.out _ _ _ fC.out hX.out (HTK.out.below fC.out) ⟨_,_,_,rfl⟩).mono ?_
   rintro e X10 ⟨kt,at_,nt,qt,bt,tt,rfl,hbt,htt,hot,hb⟩
   rw [HCO.out] at hbt hot
   obtain rfl:bt=false:=hbt
   have hN':Hid (ap (fun b=>X9.heap.size≤b∧b<X10.heap.size) X10 tt (.agg #[.int .i64 kt,.slice at_ nt qt])):=Lib.hid (htt.move (.weaken fun b h1 h2=>⟨h1.elim False.elim id,h2⟩))
   clear htt hot
   go_wp2_with fail
   have zX10:X9.heap.size≤X10.heap.size:=hb.size
   replace fE:=af fE hb;replace fR:=af fR hb;replace c0_:=a9 hb c0_;replace c1_:=a9 hb c1_
   replace c2_:=a9 hb c2_;replace c3_:=a9 hb c3_;replace c4_:=a9 hb c4_;replace c5_:=a9 hb c5_
   replace c6_:=a9 hb c6_;replace c7_:=a9 hb c7_;replace c8_:=a9 hb c8_;replace fC:=Lib.hid (ai fC.out hb)
   replace hT:=Lib.hid (hT.out.below hb);replace fV:=af fV hb;replace hX:=Lib.hid (hX.out.below hb)
   have hN:=hN'
   clear hN'
   refine hK.out _ _ ⟨ag fE rfl,ag fE rfl,ag fE rfl,ag fE rfl,c0_,c1_,c2_,c3_,c4_,c5_,c6_,c7_,c8_⟩ (fun hHeld8=>?_)
   clear hK K hHeld7 hb
   try simp only [bI,hwA]
   refine hwt 11 bF (.tuple #[.agg #[.int .i64 kt,.slice at_ nt qt],.bool false]) hHeld8 ?_ ?_
   · intro w' hSw;dsimp only [bF];go_simp
   try simp only [bF,hwA]
   refine hwt 12 bK (.agg #[.int .i64 kt,.slice at_ nt qt]) hHeld8 ?_ ?_
   · intro w' hSw;dsimp only [bK];go_simp
   try simp only [bK,hwA]
   refine hwt 13 bJ (.bool false) hHeld8 ?_ ?_
   · intro w' hSw;dsimp only [bJ];go_simp
   try simp only [bJ,hwA]
   refine hwr 15 bH (fun K hK=>?_)
   obtain⟨r0,r1,rf0,rf1⟩:=cg fV
   dsimp only [bH];go_simp
   (try go_wp2_with fail)
   have hQq:=bx fV (.int .i64 kt) (.slice at_ nt qt)
   clear fV r0 rf0 r1 rf1
   obtain⟨X11,hXq,hsq,fV,zX11a,zX11b⟩:=hQq
   rw [hXq]
   replace fE:=hsq.blk (by omega) fE;replace fR:=hsq.blk (by omega) fR;replace c0_:=hsq.cell (by show b≠U1.heap.size;omega) c0_;replace c1_:=hsq.cell (by show b≠U1.heap.size;omega) c1_
   replace c2_:=hsq.cell (by show b≠U1.heap.size;omega) c2_;replace c3_:=hsq.cell (by show b≠U1.heap.size;omega) c3_;replace c4_:=hsq.cell (by show b≠U1.heap.size;omega) c4_;replace c5_:=hsq.cell (by show b≠U1.heap.size;omega) c5_
   replace c6_:=hsq.cell (by show b≠U1.heap.size;omega) c6_;replace c7_:=hsq.cell (by show b≠U1.heap.size;omega) c7_;replace c8_:=hsq.cell (by show b≠U1.heap.size;omega) c8_;replace fC:=Lib.hid (hsq.bel fC.out (by omega))
   replace hT:=Lib.hid (hsq.rep (fun b hb=>by have:b<w.heap.size:=hb;omega) hT.out);replace hN:=Lib.hid (hsq.rep (fun b hb=>by have h1:X9.heap.size≤b:=hb.1;have h2:b<X10.heap.size:=hb.2;omega) hN.out)
   refine hK.out _ _ ⟨ag fE rfl,ag fE rfl,ag fE rfl,ag fE rfl,c0_,c1_,c2_,c3_,c4_,c5_,c6_,c7_,c8_⟩ (fun hHeld9=>?_)
   clear hK K hHeld8 hsq hXq hX
   try simp only [bH,hwA]
   refine hwt 16 bG (.bool false) hHeld9 ?_ ?_
   · intro w' hSw;dsimp only [bG];go_simp
   try simp only [bG,hwA]
   refine wpAnyH_done (by kernel_rfl) ?_ _
   refine NoPanic.normal ?_
   clear hHeld9
   obtain⟨r0,r1⟩:=blk2 fR
   have rf0:=aC fR 0
   have rf1:=aC fR 1
   go_wp2_with fail
   have hY:((X11.setCell ⟨w.heap.size+1,0,none⟩ (.int .i64 0)).setCell ⟨w.heap.size+1,1,none⟩ (.slice none 0 0)).heap[w.heap.size+1]?=some (.cells #[.int .i64 0,.slice none 0 0] 25 (0,0)):=aQ (aQ fR rfl) rfl
   obtain⟨rc0,rc1⟩:=blk2 hY
   refine bodyPost_ret (v:=.tuple #[.agg #[.int .i64 0,.slice none 0 0],.bool false]) (by simp [results,Try.results69,go_sem,rc0,rc1]) rfl ?_
   exact⟨_,_,_,_,_,_,rfl,by rw [HO.out,cY HCO.out];rfl,ap.zeroG,(by rw [HO.out,cY HCO.out];intro s h;simp at h),(fC.out.setCell (p:=⟨w.heap.size+1,0,none⟩) (by show w.heap.size≤w.heap.size+1;omega) _).setCell (p:=⟨w.heap.size+1,1,none⟩) (by show w.heap.size≤w.heap.size+1;omega) _⟩
end Go.Proofs.Ytnaoghknnenfoaa
namespace Go.Proofs.Ytnaoghknnenfoaa
open Go.RowKit
set_option maxHeartbeats 8000000 in
theorem jN (G:Nat→Prop)(nm:ByteArray)(u lb tk fk:Int)(ty src:Ty)(t1:Tm)(l:List Bd)(xa ta fa ca:Option Addr)(xn xq tn tq fn fq cm cq:Nat)(w:World)
    (he:az G w (.mk 5 nm u ty src lb [t1]) (.agg #[.int .i64 5,.string nm,.int .i64 u,.int .i64 tk,.slice ta tn tq,.int .i64 fk,.slice fa fn fq,.int .i64 lb,.slice ca cm cq])) (hv:ty.valid=true)
    (HM:Hid (∀W,Below w.heap.size w W→Calls Try.prog 66 #[.slice xa xn xq,.string nm,.agg #[.int .i64 tk,.slice ta tn tq]] W (RetC (l ++ [⟨nm,ty⟩]) W)))
    (IH:Hid (∀(W:World) (c' y':Value),Below w.heap.size w W→aL (fun _=>True) W (l ++ [⟨nm,ty⟩]) c'→az G W t1 y'→(∃a m q,c' = .slice (some a) m q)→Calls Try.prog 69 #[c',y'] W (bC ((t1.typS (l ++ [⟨nm,ty⟩])).map S.ty) W)))
    (h1:S) (hv1:h1.vd=true) (hco:t1.typS (l ++ [⟨nm,ty⟩])=some h1) :
    Calls Try.prog 69 #[.slice xa xn xq,.agg #[.int .i64 5,.string nm,.int .i64 u,.int .i64 tk,.slice ta tn tq,.int .i64 fk,.slice fa fn fq,.int .i64 lb,.slice ca cm cq]] w (bC (((Tm.mk 5 nm u ty src lb [t1]).typS l).map S.ty) w):=by
  obtain⟨-,-,-,-,-,-,-,-,hm,hnm,hmq,hqm,hty,hsrc,hks⟩:=he.parts
  simp only [Tm.type,Tm.src,Tm.kids,List.length_cons,List.length_nil] at hm hty hsrc hks
  obtain rfl:cm=1:=by omega
  obtain⟨b,off,kk0,nn0,uu0,tk0,ta0,tn0,tq0,fk0,fa0,fn0,fq0,ll0,a0,m0,q0,rfl,hlb,e0,e1,e2,e3,e4,e5,e6,e7,e8,ht⟩:=hks.at (Below.refl _ _) (i:=0) (by simp)
  simp only [Nat.zero_mul,Nat.add_zero] at e0 e1 e2 e3 e4 e5 e6 e7 e8
  have HTK:=Lib.hid (show az G w t1 _ from ht)
  have HTY:=Lib.hid hty.old
  have HCN:=Lib.hid (Ty.cnt_valid hv)
  have HVT:=Lib.hid hv
  have HCO:=Lib.hid hco
  have HV1:=Lib.hid hv1
  clear hv1
  obtain⟨O,hO⟩ : ∃O:Option Ty,O=(((Tm.mk 5 nm u ty src lb [t1]).typS l).map S.ty):=⟨_,rfl⟩
  rw [←hO]
  have HO:=Lib.hid hO
  clear hO he hm hty hsrc hks ht hv hco
  go_enter Try.func69,Try.ntmps69
  go_wp2_with fail
  obtain⟨VV,hVV⟩ : ∃X,X=((w.alloc (.cells #[.int .i64 5,.string nm,.int .i64 u,.int .i64 tk,.slice ta tn tq,.int .i64 fk,.slice fa fn fq,.int .i64 lb,.slice (some ⟨b,off,none⟩) 1 cq] 28)).alloc (.cells #[.int .i64 0,.slice none 0 0] 25)):=⟨_,rfl⟩
  have fE:VV.heap[w.heap.size]?=some (.cells #[.int .i64 5,.string nm,.int .i64 u,.int .i64 tk,.slice ta tn tq,.int .i64 fk,.slice fa fn fq,.int .i64 lb,.slice (some ⟨b,off,none⟩) 1 cq] 28 (0,0)):=by rw [hVV];exact af (aD rfl) ah
  have fR:VV.heap[w.heap.size+1]?=some (.cells #[.int .i64 0,.slice none 0 0] 25 (0,0)):=by rw [hVV];exact aD (by simp)
  have c0_:VV.cell? ⟨b,off,none⟩=some (.int .i64 kk0):=by rw [hVV];exact a9 ah (a9 ah e0)
  have c1_:VV.cell? ⟨b,off+1,none⟩=some (.string nn0):=by rw [hVV];exact a9 ah (a9 ah e1)
  have c2_:VV.cell? ⟨b,off+2,none⟩=some (.int .i64 uu0):=by rw [hVV];exact a9 ah (a9 ah e2)
  have c3_:VV.cell? ⟨b,off+3,none⟩=some (.int .i64 tk0):=by rw [hVV];exact a9 ah (a9 ah e3)
  have c4_:VV.cell? ⟨b,off+4,none⟩=some (.slice ta0 tn0 tq0):=by rw [hVV];exact a9 ah (a9 ah e4)
  have c5_:VV.cell? ⟨b,off+5,none⟩=some (.int .i64 fk0):=by rw [hVV];exact a9 ah (a9 ah e5)
  have c6_:VV.cell? ⟨b,off+6,none⟩=some (.slice fa0 fn0 fq0):=by rw [hVV];exact a9 ah (a9 ah e6)
  have c7_:VV.cell? ⟨b,off+7,none⟩=some (.int .i64 ll0):=by rw [hVV];exact a9 ah (a9 ah e7)
  have c8_:VV.cell? ⟨b,off+8,none⟩=some (.slice a0 m0 q0):=by rw [hVV];exact a9 ah (a9 ah e8)
  have fC:Hid (Below w.heap.size w VV):=by rw [hVV];exact Lib.hid (ai ah ah)
  have hT:Hid (ap (· < w.heap.size) VV ty (.agg #[.int .i64 tk,.slice ta tn tq])):=by rw [hVV];exact Lib.hid ((HTY.out.below ah).below ah)
  rw [←hVV]
  have zV:VV.heap.size=_:=congrArg (fun X:World=>X.heap.size) hVV
  simp only [World.size_alloc] at zV
  refine wp_region_noPanic ?_
  refine wp_region_held_drew (S:=fun w'=>w'.cell? ⟨w.heap.size,1,none⟩=some (.string nm)∧w'.cell? ⟨w.heap.size,3,none⟩=some (.int .i64 tk)∧w'.cell? ⟨w.heap.size,4,none⟩=some (.slice ta tn tq)∧w'.cell? ⟨w.heap.size,8,none⟩=some (.slice (some ⟨b,off,none⟩) 1 cq)∧w'.cell? ⟨b,off,none⟩=some (.int .i64 kk0)∧w'.cell? ⟨b,off+1,none⟩=some (.string nn0)∧w'.cell? ⟨b,off+2,none⟩=some (.int .i64 uu0)∧w'.cell? ⟨b,off+3,none⟩=some (.int .i64 tk0)∧w'.cell? ⟨b,off+4,none⟩=some (.slice ta0 tn0 tq0)∧w'.cell? ⟨b,off+5,none⟩=some (.int .i64 fk0)∧w'.cell? ⟨b,off+6,none⟩=some (.slice fa0 fn0 fq0)∧w'.cell? ⟨b,off+7,none⟩=some (.int .i64 ll0)∧w'.cell? ⟨b,off+8,none⟩=some (.slice a0 m0 q0)) (by kernel_rfl) ?_ (fun hHeld0=>?_)
  · exact⟨ag fE rfl,ag fE rfl,ag fE rfl,ag fE rfl,c0_,c1_,c2_,c3_,c4_,c5_,c6_,c7_,c8_⟩
  obtain⟨U2,hU,hb,zU2a,zU2b⟩:=bO VV
  rw [hU] at hHeld0 ⊢
  replace fE:=af fE hb;replace fR:=af fR hb;replace c0_:=a9 hb c0_;replace c1_:=a9 hb c1_
  replace c2_:=a9 hb c2_;replace c3_:=a9 hb c3_;replace c4_:=a9 hb c4_;replace c5_:=a9 hb c5_
  replace c6_:=a9 hb c6_;replace c7_:=a9 hb c7_;replace c8_:=a9 hb c8_;replace fC:=Lib.hid (ai fC.out hb)
  replace hT:=Lib.hid (hT.out.below hb)
  rw [zV] at zU2a zU2b
  clear hU hb hVV zV
  refine hwt 0 dQ (.slice xa xn xq) hHeld0 ?_ ?_
  · intro w' hSw;dsimp only [dQ];go_simp
  try simp only [dQ,hwA]
  refine hwt 1 dL (.pointer (some ⟨w.heap.size,1,none⟩)) hHeld0 ?_ ?_
  · intro w' hSw;dsimp only [dL];go_simp
  try simp only [dL,hwA]
  refine hwt 2 dY (.string nm) hHeld0 ?_ ?_
  · intro w' hSw;dsimp only [dY];go_simp
  try simp only [dY,hwA]
  refine hwt 3 dT (.pointer (some ⟨w.heap.size,3,none⟩)) hHeld0 ?_ ?_
  · intro w' hSw;dsimp only [dT];go_simp
  try simp only [dT,hwA]
  refine hwt 4 dP (.agg #[.int .i64 tk,.slice ta tn tq]) hHeld0 ?_ ?_
  · intro w' hSw;dsimp only [dP];go_simp
  try simp only [dP,hwA]
  refine hwt 6 ee (.pointer (some ⟨w.heap.size,8,none⟩)) hHeld0 ?_ ?_
  · intro w' hSw;dsimp only [ee];go_simp
  try simp only [ee,hwA]
  refine hwt 7 eb (.slice (some ⟨b,off,none⟩) 1 cq) hHeld0 ?_ ?_
  · intro w' hSw;dsimp only [eb];go_simp
  try simp only [eb,hwA]
  refine hwt 8 ef (.pointer (some ⟨b,off,none⟩)) hHeld0 ?_ ?_
  · intro w' hSw;dsimp only [ef];go_simp
  try simp only [ef,hwA]
  refine hwt 9 dV (.agg #[.int .i64 kk0,.string nn0,.int .i64 uu0,.int .i64 tk0,.slice ta0 tn0 tq0,.int .i64 fk0,.slice fa0 fn0 fq0,.int .i64 ll0,.slice a0 m0 q0]) hHeld0 ?_ ?_
  · intro w' hSw;dsimp only [dV];go_simp
  try simp only [dV,hwA]
  refine wpAnyH_ready (rs:= [5,14]) (by kernel_rfl) (by simp) ?_
  refine(AllReadyH.cons (o:=cE) rfl (fun K hK=>?_) (AllReadyH.cons (o:=bL) rfl (fun K hK=>?_) AllReadyH.nil))
  ·skip
   dsimp only [cE];go_simp
   go_at_call 66
   refine(HM.out _ fC.out).mono ?_
   rintro e X1 ⟨xa2,xm2,xq2,rfl,hcx,hb⟩
   have hX':Hid (aL (fun _=>True) X1 (l ++ [⟨nm,ty⟩]) (.slice (some xa2) xm2 xq2)):=Lib.hid hcx
   clear hcx
   go_wp2_with fail
   have zX1:U2.heap.size≤X1.heap.size:=hb.size
   replace fE:=af fE hb;replace fR:=af fR hb;replace c0_:=a9 hb c0_;replace c1_:=a9 hb c1_
   replace c2_:=a9 hb c2_;replace c3_:=a9 hb c3_;replace c4_:=a9 hb c4_;replace c5_:=a9 hb c5_
   replace c6_:=a9 hb c6_;replace c7_:=a9 hb c7_;replace c8_:=a9 hb c8_;replace fC:=Lib.hid (ai fC.out hb)
   replace hT:=Lib.hid (hT.out.below hb)
   have hX:=hX'
   clear hX'
   refine hK.out _ _ ⟨ag fE rfl,ag fE rfl,ag fE rfl,ag fE rfl,c0_,c1_,c2_,c3_,c4_,c5_,c6_,c7_,c8_⟩ (fun hHeld1=>?_)
   clear hK K hHeld0 hb
   try simp only [cE,hwA]
   refine wpAnyH_ready (rs:= [10,14]) (by kernel_rfl) (by simp) ?_
   refine(AllReadyH.cons (o:=bI) rfl (fun K hK=>?_) (AllReadyH.cons (o:=bL) rfl (fun K hK=>?_) AllReadyH.nil))
   ·skip
    dsimp only [bI];go_simp
    go_at_call 69
    refine(IH.out _ _ _ fC.out hX.out (HTK.out.below fC.out) ⟨_,_,_,rfl⟩).mono ?_
    rintro e X2 ⟨kt,at_,nt,qt,bt,tt,rfl,hbt,htt,hot,hb⟩
    rw [HCO.out] at hbt hot
    obtain rfl:bt=true:=hbt
    obtain rfl:tt=h1.ty:=hot _ rfl
    have hN':Hid (ap (fun b=>X1.heap.size≤b∧b<X2.heap.size) X2 h1.ty (.agg #[.int .i64 kt,.slice at_ nt qt])):=Lib.hid (htt.move (.weaken fun b h1 h2=>⟨h1.elim False.elim id,h2⟩))
    clear htt hot
    go_wp2_with fail
    have zX2:X1.heap.size≤X2.heap.size:=hb.size
    replace fE:=af fE hb;replace fR:=af fR hb;replace c0_:=a9 hb c0_;replace c1_:=a9 hb c1_
    replace c2_:=a9 hb c2_;replace c3_:=a9 hb c3_;replace c4_:=a9 hb c4_;replace c5_:=a9 hb c5_
    replace c6_:=a9 hb c6_;replace c7_:=a9 hb c7_;replace c8_:=a9 hb c8_;replace fC:=Lib.hid (ai fC.out hb)
    replace hT:=Lib.hid (hT.out.below hb);replace hX:=Lib.hid (hX.out.below hb)
    have hN:=hN'
    clear hN'
    refine hK.out _ _ ⟨ag fE rfl,ag fE rfl,ag fE rfl,ag fE rfl,c0_,c1_,c2_,c3_,c4_,c5_,c6_,c7_,c8_⟩ (fun hHeld2=>?_)
    clear hK K hHeld1 hb
    try simp only [bI,hwA]
    refine hwt 11 bF (.tuple #[.agg #[.int .i64 kt,.slice at_ nt qt],.bool true]) hHeld2 ?_ ?_
    · intro w' hSw;dsimp only [bF];go_simp
    try simp only [bF,hwA]
    refine hwt 12 bK (.agg #[.int .i64 kt,.slice at_ nt qt]) hHeld2 ?_ ?_
    · intro w' hSw;dsimp only [bK];go_simp
    try simp only [bK,hwA]
    refine hwt 13 bJ (.bool true) hHeld2 ?_ ?_
    · intro w' hSw;dsimp only [bJ];go_simp
    try simp only [bJ,hwA]
    refine hwr 14 bL (fun K hK=>?_)
    dsimp only [bL];go_simp
    (try go_wp2_with fail)
    obtain⟨X3,hXq,hb,fV,zX3a,zX3b⟩:=bM X2 (.cells #[.int .i64 0,.slice none 0 0] 25)
    rw [hXq]
    replace fE:=af fE hb;replace fR:=af fR hb;replace c0_:=a9 hb c0_;replace c1_:=a9 hb c1_
    replace c2_:=a9 hb c2_;replace c3_:=a9 hb c3_;replace c4_:=a9 hb c4_;replace c5_:=a9 hb c5_
    replace c6_:=a9 hb c6_;replace c7_:=a9 hb c7_;replace c8_:=a9 hb c8_;replace fC:=Lib.hid (ai fC.out hb)
    replace hT:=Lib.hid (hT.out.below hb);replace hX:=Lib.hid (hX.out.below hb);replace hN:=Lib.hid (hN.out.below hb)
    refine hK.out _ _ ⟨ag fE rfl,ag fE rfl,ag fE rfl,ag fE rfl,c0_,c1_,c2_,c3_,c4_,c5_,c6_,c7_,c8_⟩ (fun hHeld3=>?_)
    clear hK K hHeld2 hb hXq
    try simp only [bL,hwA]
    refine hwr 15 bH (fun K hK=>?_)
    obtain⟨r0,r1,rf0,rf1⟩:=cg fV
    dsimp only [bH];go_simp
    (try go_wp2_with fail)
    have hQq:=bx fV (.int .i64 kt) (.slice at_ nt qt)
    clear fV r0 rf0 r1 rf1
    obtain⟨X4,hXq,hsq,fV,zX4a,zX4b⟩:=hQq
    rw [hXq]
    replace fE:=hsq.blk (by omega) fE;replace fR:=hsq.blk (by omega) fR;replace c0_:=hsq.cell (by show b≠X2.heap.size;omega) c0_;replace c1_:=hsq.cell (by show b≠X2.heap.size;omega) c1_
    replace c2_:=hsq.cell (by show b≠X2.heap.size;omega) c2_;replace c3_:=hsq.cell (by show b≠X2.heap.size;omega) c3_;replace c4_:=hsq.cell (by show b≠X2.heap.size;omega) c4_;replace c5_:=hsq.cell (by show b≠X2.heap.size;omega) c5_
    replace c6_:=hsq.cell (by show b≠X2.heap.size;omega) c6_;replace c7_:=hsq.cell (by show b≠X2.heap.size;omega) c7_;replace c8_:=hsq.cell (by show b≠X2.heap.size;omega) c8_;replace fC:=Lib.hid (hsq.bel fC.out (by omega))
    replace hT:=Lib.hid (hsq.rep (fun b hb=>by have:b<w.heap.size:=hb;omega) hT.out);replace hN:=Lib.hid (hsq.rep (fun b hb=>by have h1:X1.heap.size≤b:=hb.1;have h2:b<X2.heap.size:=hb.2;omega) hN.out)
    refine hK.out _ _ ⟨ag fE rfl,ag fE rfl,ag fE rfl,ag fE rfl,c0_,c1_,c2_,c3_,c4_,c5_,c6_,c7_,c8_⟩ (fun hHeld4=>?_)
    clear hK K hHeld3 hsq hXq hX
    try simp only [bH,hwA]
    refine hwt 16 bG (.bool true) hHeld4 ?_ ?_
    · intro w' hSw;dsimp only [bG];go_simp
    try simp only [bG,hwA]
    refine wpAnyH_done (by kernel_rfl) ?_ _
    refine NoPanic.normal ?_
    clear hHeld4
    have d3:=ag fE (o:=3) rfl
    have d4:=ag fE (o:=4) rfl
    obtain⟨v0,v1⟩:=blk2 fV
    have HT9:=Lib.hid (dB _ _ 4 ty h1.ty _ _ _ _ _ _ _ _ _ hT.out hN.out HCN.out (S.cnt_ok HV1.out))
    go_wp2_with fail
    refine HT9.out.mono ?_
    rintro e X9 ⟨kr,ar,nr,qr,br,tr,rfl,hbr,htr,hor,hb⟩
    have HBR:=Lib.hid hbr
    have HTR:=Lib.hid htr
    have HOR:=Lib.hid hor
    have fR9:=af fR hb
    have fC9:=Lib.hid (ai fC.out hb)
    have z9:=hb.size
    have lR9:=al fR
    clear hbr htr hor hb d3 d4 v0 v1
    obtain⟨r0,r1⟩:=blk2 fR9
    have rf0:=aC fR9 0
    have rf1:=aC fR9 1
    go_wp2_with fail
    have hY:((X9.setCell ⟨w.heap.size+1,0,none⟩ (.int .i64 kr)).setCell ⟨w.heap.size+1,1,none⟩ (.slice ar nr qr)).heap[w.heap.size+1]?=some (.cells #[.int .i64 kr,.slice ar nr qr] 25 (0,0)):=aQ (aQ fR9 rfl) rfl
    obtain⟨rc0,rc1⟩:=blk2 hY
    refine bodyPost_ret (v:=.tuple #[.agg #[.int .i64 kr,.slice ar nr qr],.bool br]) (by simp [results,Try.results69,go_sem,rc0,rc1]) rfl ?_
    have hne : ∀b,(False∨X4.heap.size≤b)→b≠w.heap.size+1:=fun b h=>by
      have h1:=h.elim False.elim id
      omega
    have hw0:=fC.out.size
    exact⟨_,_,_,_,_,tr,rfl,by rw [HO.out,d9 HVT.out HCO.out];exact HBR.out,(ap.setN (ap.setN HTR.out hne) hne).move (.weaken fun b h _=>.inr (by have h1:=h.elim False.elim id;omega)),(by rw [HO.out,d9 HVT.out HCO.out];exact HOR.out),(fC9.out.setCell (p:=⟨w.heap.size+1,0,none⟩) (by show w.heap.size≤w.heap.size+1;omega) _).setCell (p:=⟨w.heap.size+1,1,none⟩) (by show w.heap.size≤w.heap.size+1;omega) _⟩
   ·skip
    dsimp only [bL];go_simp
    (try go_wp2_with fail)
    obtain⟨X5,hXq,hb,fV,zX5a,zX5b⟩:=bM X1 (.cells #[.int .i64 0,.slice none 0 0] 25)
    rw [hXq]
    replace fE:=af fE hb;replace fR:=af fR hb;replace c0_:=a9 hb c0_;replace c1_:=a9 hb c1_
    replace c2_:=a9 hb c2_;replace c3_:=a9 hb c3_;replace c4_:=a9 hb c4_;replace c5_:=a9 hb c5_
    replace c6_:=a9 hb c6_;replace c7_:=a9 hb c7_;replace c8_:=a9 hb c8_;replace fC:=Lib.hid (ai fC.out hb)
    replace hT:=Lib.hid (hT.out.below hb);replace hX:=Lib.hid (hX.out.below hb)
    refine hK.out _ _ ⟨ag fE rfl,ag fE rfl,ag fE rfl,ag fE rfl,c0_,c1_,c2_,c3_,c4_,c5_,c6_,c7_,c8_⟩ (fun hHeld2=>?_)
    clear hK K hHeld1 hb hXq
    try simp only [bL,hwA]
    refine hwr 10 bI (fun K hK=>?_)
    dsimp only [bI];go_simp
    go_at_call 69
    refine(IH.out _ _ _ fC.out hX.out (HTK.out.below fC.out) ⟨_,_,_,rfl⟩).mono ?_
    rintro e X6 ⟨kt,at_,nt,qt,bt,tt,rfl,hbt,htt,hot,hb⟩
    rw [HCO.out] at hbt hot
    obtain rfl:bt=true:=hbt
    obtain rfl:tt=h1.ty:=hot _ rfl
    have hN':Hid (ap (fun b=>X5.heap.size≤b∧b<X6.heap.size) X6 h1.ty (.agg #[.int .i64 kt,.slice at_ nt qt])):=Lib.hid (htt.move (.weaken fun b h1 h2=>⟨h1.elim False.elim id,h2⟩))
    clear htt hot
    go_wp2_with fail
    have zX6:X5.heap.size≤X6.heap.size:=hb.size
    replace fE:=af fE hb;replace fR:=af fR hb;replace c0_:=a9 hb c0_;replace c1_:=a9 hb c1_
    replace c2_:=a9 hb c2_;replace c3_:=a9 hb c3_;replace c4_:=a9 hb c4_;replace c5_:=a9 hb c5_
    replace c6_:=a9 hb c6_;replace c7_:=a9 hb c7_;replace c8_:=a9 hb c8_;replace fC:=Lib.hid (ai fC.out hb)
    replace hT:=Lib.hid (hT.out.below hb);replace hX:=Lib.hid (hX.out.below hb);replace fV:=af fV hb
    have hN:=hN'
    clear hN'
    refine hK.out _ _ ⟨ag fE rfl,ag fE rfl,ag fE rfl,ag fE rfl,c0_,c1_,c2_,c3_,c4_,c5_,c6_,c7_,c8_⟩ (fun hHeld5=>?_)
    clear hK K hHeld2 hb
    try simp only [bI,hwA]
    refine hwt 11 bF (.tuple #[.agg #[.int .i64 kt,.slice at_ nt qt],.bool true]) hHeld5 ?_ ?_
    · intro w' hSw;dsimp only [bF];go_simp
    try simp only [bF,hwA]
    refine hwt 12 bK (.agg #[.int .i64 kt,.slice at_ nt qt]) hHeld5 ?_ ?_
    · intro w' hSw;dsimp only [bK];go_simp
    try simp only [bK,hwA]
    refine hwt 13 bJ (.bool true) hHeld5 ?_ ?_
    · intro w' hSw;dsimp only [bJ];go_simp
    try simp only [bJ,hwA]
    refine hwr 15 bH (fun K hK=>?_)
    obtain⟨r0,r1,rf0,rf1⟩:=cg fV
    dsimp only [bH];go_simp
    (try go_wp2_with fail)
    have hQq:=bx fV (.int .i64 kt) (.slice at_ nt qt)
    clear fV r0 rf0 r1 rf1
    obtain⟨X7,hXq,hsq,fV,zX7a,zX7b⟩:=hQq
    rw [hXq]
    replace fE:=hsq.blk (by omega) fE;replace fR:=hsq.blk (by omega) fR;replace c0_:=hsq.cell (by show b≠X1.heap.size;omega) c0_;replace c1_:=hsq.cell (by show b≠X1.heap.size;omega) c1_
    replace c2_:=hsq.cell (by show b≠X1.heap.size;omega) c2_;replace c3_:=hsq.cell (by show b≠X1.heap.size;omega) c3_;replace c4_:=hsq.cell (by show b≠X1.heap.size;omega) c4_;replace c5_:=hsq.cell (by show b≠X1.heap.size;omega) c5_
    replace c6_:=hsq.cell (by show b≠X1.heap.size;omega) c6_;replace c7_:=hsq.cell (by show b≠X1.heap.size;omega) c7_;replace c8_:=hsq.cell (by show b≠X1.heap.size;omega) c8_;replace fC:=Lib.hid (hsq.bel fC.out (by omega))
    replace hT:=Lib.hid (hsq.rep (fun b hb=>by have:b<w.heap.size:=hb;omega) hT.out);replace hN:=Lib.hid (hsq.rep (fun b hb=>by have h1:X5.heap.size≤b:=hb.1;have h2:b<X6.heap.size:=hb.2;omega) hN.out)
    refine hK.out _ _ ⟨ag fE rfl,ag fE rfl,ag fE rfl,ag fE rfl,c0_,c1_,c2_,c3_,c4_,c5_,c6_,c7_,c8_⟩ (fun hHeld6=>?_)
    clear hK K hHeld5 hsq hXq hX
    try simp only [bH,hwA]
    refine hwt 16 bG (.bool true) hHeld6 ?_ ?_
    · intro w' hSw;dsimp only [bG];go_simp
    try simp only [bG,hwA]
    refine wpAnyH_done (by kernel_rfl) ?_ _
    refine NoPanic.normal ?_
    clear hHeld6
    have d3:=ag fE (o:=3) rfl
    have d4:=ag fE (o:=4) rfl
    obtain⟨v0,v1⟩:=blk2 fV
    have HT9:=Lib.hid (dB _ _ 4 ty h1.ty _ _ _ _ _ _ _ _ _ hT.out hN.out HCN.out (S.cnt_ok HV1.out))
    go_wp2_with fail
    refine HT9.out.mono ?_
    rintro e X9 ⟨kr,ar,nr,qr,br,tr,rfl,hbr,htr,hor,hb⟩
    have HBR:=Lib.hid hbr
    have HTR:=Lib.hid htr
    have HOR:=Lib.hid hor
    have fR9:=af fR hb
    have fC9:=Lib.hid (ai fC.out hb)
    have z9:=hb.size
    have lR9:=al fR
    clear hbr htr hor hb d3 d4 v0 v1
    obtain⟨r0,r1⟩:=blk2 fR9
    have rf0:=aC fR9 0
    have rf1:=aC fR9 1
    go_wp2_with fail
    have hY:((X9.setCell ⟨w.heap.size+1,0,none⟩ (.int .i64 kr)).setCell ⟨w.heap.size+1,1,none⟩ (.slice ar nr qr)).heap[w.heap.size+1]?=some (.cells #[.int .i64 kr,.slice ar nr qr] 25 (0,0)):=aQ (aQ fR9 rfl) rfl
    obtain⟨rc0,rc1⟩:=blk2 hY
    refine bodyPost_ret (v:=.tuple #[.agg #[.int .i64 kr,.slice ar nr qr],.bool br]) (by simp [results,Try.results69,go_sem,rc0,rc1]) rfl ?_
    have hne : ∀b,(False∨X7.heap.size≤b)→b≠w.heap.size+1:=fun b h=>by
      have h1:=h.elim False.elim id
      omega
    have hw0:=fC.out.size
    exact⟨_,_,_,_,_,tr,rfl,by rw [HO.out,d9 HVT.out HCO.out];exact HBR.out,(ap.setN (ap.setN HTR.out hne) hne).move (.weaken fun b h _=>.inr (by have h1:=h.elim False.elim id;omega)),(by rw [HO.out,d9 HVT.out HCO.out];exact HOR.out),(fC9.out.setCell (p:=⟨w.heap.size+1,0,none⟩) (by show w.heap.size≤w.heap.size+1;omega) _).setCell (p:=⟨w.heap.size+1,1,none⟩) (by show w.heap.size≤w.heap.size+1;omega) _⟩
  ·skip
   dsimp only [bL];go_simp
   (try go_wp2_with fail)
   obtain⟨X8,hXq,hb,fV,zX8a,zX8b⟩:=bM U2 (.cells #[.int .i64 0,.slice none 0 0] 25)
   rw [hXq]
   replace fE:=af fE hb;replace fR:=af fR hb;replace c0_:=a9 hb c0_;replace c1_:=a9 hb c1_
   replace c2_:=a9 hb c2_;replace c3_:=a9 hb c3_;replace c4_:=a9 hb c4_;replace c5_:=a9 hb c5_
   replace c6_:=a9 hb c6_;replace c7_:=a9 hb c7_;replace c8_:=a9 hb c8_;replace fC:=Lib.hid (ai fC.out hb)
   replace hT:=Lib.hid (hT.out.below hb)
   refine hK.out _ _ ⟨ag fE rfl,ag fE rfl,ag fE rfl,ag fE rfl,c0_,c1_,c2_,c3_,c4_,c5_,c6_,c7_,c8_⟩ (fun hHeld1=>?_)
   clear hK K hHeld0 hb hXq
   try simp only [bL,hwA]
   refine hwr 5 cE (fun K hK=>?_)
   dsimp only [cE];go_simp
   go_at_call 66
   refine(HM.out _ fC.out).mono ?_
   rintro e X9 ⟨xa2,xm2,xq2,rfl,hcx,hb⟩
   have hX':Hid (aL (fun _=>True) X9 (l ++ [⟨nm,ty⟩]) (.slice (some xa2) xm2 xq2)):=Lib.hid hcx
   clear hcx
   go_wp2_with fail
   have zX9:X8.heap.size≤X9.heap.size:=hb.size
   replace fE:=af fE hb;replace fR:=af fR hb;replace c0_:=a9 hb c0_;replace c1_:=a9 hb c1_
   replace c2_:=a9 hb c2_;replace c3_:=a9 hb c3_;replace c4_:=a9 hb c4_;replace c5_:=a9 hb c5_
   replace c6_:=a9 hb c6_;replace c7_:=a9 hb c7_;replace c8_:=a9 hb c8_;replace fC:=Lib.hid (ai fC.out hb)
   replace hT:=Lib.hid (hT.out.below hb);replace fV:=af fV hb
   have hX:=hX'
   clear hX'
   refine hK.out _ _ ⟨ag fE rfl,ag fE rfl,ag fE rfl,ag fE rfl,c0_,c1_,c2_,c3_,c4_,c5_,c6_,c7_,c8_⟩ (fun hHeld7=>?_)
   clear hK K hHeld1 hb
   try simp only [cE,hwA]
   refine hwr 10 bI (fun K hK=>?_)
   dsimp only [bI];go_simp
   go_at_call 69
   refine(IH.out _ _ _ fC.out hX.out (HTK.out.below fC.out) ⟨_,_,_,rfl⟩).mono ?_
   rintro e X10 ⟨kt,at_,nt,qt,bt,tt,rfl,hbt,htt,hot,hb⟩
   rw [HCO.out] at hbt hot
   obtain rfl:bt=true:=hbt
   obtain rfl:tt=h1.ty:=hot _ rfl
   have hN':Hid (ap (fun b=>X9.heap.size≤b∧b<X10.heap.size) X10 h1.ty (.agg #[.int .i64 kt,.slice at_ nt qt])):=Lib.hid (htt.move (.weaken fun b h1 h2=>⟨h1.elim False.elim id,h2⟩))
   clear htt hot
   go_wp2_with fail
   have zX10:X9.heap.size≤X10.heap.size:=hb.size
   replace fE:=af fE hb;replace fR:=af fR hb;replace c0_:=a9 hb c0_;replace c1_:=a9 hb c1_
   replace c2_:=a9 hb c2_;replace c3_:=a9 hb c3_;replace c4_:=a9 hb c4_;replace c5_:=a9 hb c5_
   replace c6_:=a9 hb c6_;replace c7_:=a9 hb c7_;replace c8_:=a9 hb c8_;replace fC:=Lib.hid (ai fC.out hb)
   replace hT:=Lib.hid (hT.out.below hb);replace fV:=af fV hb;replace hX:=Lib.hid (hX.out.below hb)
   have hN:=hN'
   clear hN'
   refine hK.out _ _ ⟨ag fE rfl,ag fE rfl,ag fE rfl,ag fE rfl,c0_,c1_,c2_,c3_,c4_,c5_,c6_,c7_,c8_⟩ (fun hHeld8=>?_)
   clear hK K hHeld7 hb
   try simp only [bI,hwA]
   refine hwt 11 bF (.tuple #[.agg #[.int .i64 kt,.slice at_ nt qt],.bool true]) hHeld8 ?_ ?_
   · intro w' hSw;dsimp only [bF];go_simp
   try simp only [bF,hwA]
   refine hwt 12 bK (.agg #[.int .i64 kt,.slice at_ nt qt]) hHeld8 ?_ ?_
   · intro w' hSw;dsimp only [bK];go_simp
   try simp only [bK,hwA]
   refine hwt 13 bJ (.bool true) hHeld8 ?_ ?_
   · intro w' hSw;dsimp only [bJ];go_simp
   try simp only [bJ,hwA]
   refine hwr 15 bH (fun K hK=>?_)
   obtain⟨r0,r1,rf0,rf1⟩:=cg fV
   dsimp only [bH];go_simp
   (try go_wp2_with fail)
   have hQq:=bx fV (.int .i64 kt) (.slice at_ nt qt)
   clear fV r0 rf0 r1 rf1
   obtain⟨X11,hXq,hsq,fV,zX11a,zX11b⟩:=hQq
   rw [hXq]
   replace fE:=hsq.blk (by omega) fE;replace fR:=hsq.blk (by omega) fR;replace c0_:=hsq.cell (by show b≠U2.heap.size;omega) c0_;replace c1_:=hsq.cell (by show b≠U2.heap.size;omega) c1_
   replace c2_:=hsq.cell (by show b≠U2.heap.size;omega) c2_;replace c3_:=hsq.cell (by show b≠U2.heap.size;omega) c3_;replace c4_:=hsq.cell (by show b≠U2.heap.size;omega) c4_;replace c5_:=hsq.cell (by show b≠U2.heap.size;omega) c5_
   replace c6_:=hsq.cell (by show b≠U2.heap.size;omega) c6_;replace c7_:=hsq.cell (by show b≠U2.heap.size;omega) c7_;replace c8_:=hsq.cell (by show b≠U2.heap.size;omega) c8_;replace fC:=Lib.hid (hsq.bel fC.out (by omega))
   replace hT:=Lib.hid (hsq.rep (fun b hb=>by have:b<w.heap.size:=hb;omega) hT.out);replace hN:=Lib.hid (hsq.rep (fun b hb=>by have h1:X9.heap.size≤b:=hb.1;have h2:b<X10.heap.size:=hb.2;omega) hN.out)
   refine hK.out _ _ ⟨ag fE rfl,ag fE rfl,ag fE rfl,ag fE rfl,c0_,c1_,c2_,c3_,c4_,c5_,c6_,c7_,c8_⟩ (fun hHeld9=>?_)
   clear hK K hHeld8 hsq hXq hX
   try simp only [bH,hwA]
   refine hwt 16 bG (.bool true) hHeld9 ?_ ?_
   · intro w' hSw;dsimp only [bG];go_simp
   try simp only [bG,hwA]
   refine wpAnyH_done (by kernel_rfl) ?_ _
   refine NoPanic.normal ?_
   clear hHeld9
   have d3:=ag fE (o:=3) rfl
   have d4:=ag fE (o:=4) rfl
   obtain⟨v0,v1⟩:=blk2 fV
   have HT9:=Lib.hid (dB _ _ 4 ty h1.ty _ _ _ _ _ _ _ _ _ hT.out hN.out HCN.out (S.cnt_ok HV1.out))
   go_wp2_with fail
   refine HT9.out.mono ?_
   rintro e X9 ⟨kr,ar,nr,qr,br,tr,rfl,hbr,htr,hor,hb⟩
   have HBR:=Lib.hid hbr
   have HTR:=Lib.hid htr
   have HOR:=Lib.hid hor
   have fR9:=af fR hb
   have fC9:=Lib.hid (ai fC.out hb)
   have z9:=hb.size
   have lR9:=al fR
   clear hbr htr hor hb d3 d4 v0 v1
   obtain⟨r0,r1⟩:=blk2 fR9
   have rf0:=aC fR9 0
   have rf1:=aC fR9 1
   go_wp2_with fail
   have hY:((X9.setCell ⟨w.heap.size+1,0,none⟩ (.int .i64 kr)).setCell ⟨w.heap.size+1,1,none⟩ (.slice ar nr qr)).heap[w.heap.size+1]?=some (.cells #[.int .i64 kr,.slice ar nr qr] 25 (0,0)):=aQ (aQ fR9 rfl) rfl
   obtain⟨rc0,rc1⟩:=blk2 hY
   refine bodyPost_ret (v:=.tuple #[.agg #[.int .i64 kr,.slice ar nr qr],.bool br]) (by simp [results,Try.results69,go_sem,rc0,rc1]) rfl ?_
   have hne : ∀b,(False∨X11.heap.size≤b)→b≠w.heap.size+1:=fun b h=>by
     have h1:=h.elim False.elim id
     omega
   have hw0:=fC.out.size
   exact⟨_,_,_,_,_,tr,rfl,by rw [HO.out,d9 HVT.out HCO.out];exact HBR.out,(ap.setN (ap.setN HTR.out hne) hne).move (.weaken fun b h _=>.inr (by have h1:=h.elim False.elim id;omega)),(by rw [HO.out,d9 HVT.out HCO.out];exact HOR.out),(fC9.out.setCell (p:=⟨w.heap.size+1,0,none⟩) (by show w.heap.size≤w.heap.size+1;omega) _).setCell (p:=⟨w.heap.size+1,1,none⟩) (by show w.heap.size≤w.heap.size+1;omega) _⟩
end Go.Proofs.Ytnaoghknnenfoaa
