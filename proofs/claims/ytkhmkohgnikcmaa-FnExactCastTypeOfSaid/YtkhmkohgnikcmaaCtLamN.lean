/-
  spec.l4Type at a function.
-/
import Derived.Test.YtkhmkohgnikcmaaB29
namespace Go.Proofs.Ytkhmkohgnikcmaa
open Go.RowKit
set_option linter.unusedVariables false
set_option linter.unusedSimpArgs false
set_option maxRecDepth 100000

def oL8_0 : Oper := ⟨some 27, Op.move (Operand.tmp 0), 57, "l4_casts.go:152", #[], none⟩
def oL8_1 : Oper := ⟨some 28, Op.fieldAddr 36 (Operand.tmp 3) 1, 0, "l4_casts.go:152", #[], none⟩
def oL8_2 : Oper := ⟨some 29, Op.load 9 (Operand.tmp 28), 9, "l4_casts.go:152", #[⟨1, .data⟩], none⟩
def oL8_3 : Oper := ⟨some 30, Op.fieldAddr 36 (Operand.tmp 3) 3, 0, "l4_casts.go:152", #[], none⟩
def oL8_4 : Oper := ⟨some 31, Op.load 31 (Operand.tmp 30), 31, "l4_casts.go:152", #[⟨3, .data⟩], none⟩
def oL8_5 : Oper := ⟨some 32, Op.call { callee := Callee.value (Operand.func 32), args := #[Operand.tmp 27, Operand.tmp 29, Operand.tmp 31], argTypes := #[57, 9, 31] }, 57, "l4_casts.go:152", #[⟨0, .data⟩, ⟨2, .data⟩, ⟨4, .data⟩], none⟩
def oL8_6 : Oper := ⟨some 33, Op.fieldAddr 36 (Operand.tmp 3) 6, 0, "l4_casts.go:152", #[], none⟩
def oL8_7 : Oper := ⟨some 34, Op.load 34 (Operand.tmp 33), 34, "l4_casts.go:152", #[⟨6, .data⟩], none⟩
def oL8_8 : Oper := ⟨some 35, Op.indexAddr 34 (Operand.tmp 34) (Operand.const (Value.int IntKind.i64 0)), 0, "l4_casts.go:152", #[⟨7, .data⟩], none⟩
def oL8_9 : Oper := ⟨some 36, Op.load 36 (Operand.tmp 35), 36, "l4_casts.go:152", #[⟨8, .data⟩], none⟩
def oL8_10 : Oper := ⟨some 37, Op.call { callee := Callee.value (Operand.func 17), args := #[Operand.tmp 32, Operand.tmp 36], argTypes := #[57, 36] }, 32, "l4_casts.go:152", #[⟨5, .data⟩, ⟨9, .data⟩, ⟨5, .chain⟩], none⟩
def oL8_11 : Oper := ⟨some 26, Op.move (Operand.tmp 37), 32, "l4_casts.go:152", #[⟨10, .data⟩], none⟩
def oL8_12 : Oper := ⟨some 38, Op.extract (Operand.tmp 26) 0, 31, "l4_casts.go:152", #[⟨11, .data⟩], none⟩
def oL8_13 : Oper := ⟨some 39, Op.extract (Operand.tmp 26) 1, 4, "l4_casts.go:152", #[⟨11, .data⟩, ⟨15, .gcOnly .lateStores⟩], none⟩
def oL8_14 : Oper := ⟨some 6, Op.alloc 31, 0, "l4_casts.go:152", #[], none⟩
def oL8_15 : Oper := ⟨none, Op.store 31 (Operand.tmp 6) (Operand.tmp 38), 0, "l4_casts.go:152", #[⟨14, .data⟩, ⟨12, .data⟩, ⟨10, .chain⟩, ⟨0, .phase⟩, ⟨1, .phase⟩, ⟨2, .phase⟩, ⟨3, .phase⟩, ⟨4, .phase⟩, ⟨5, .phase⟩, ⟨6, .phase⟩, ⟨7, .phase⟩, ⟨8, .phase⟩, ⟨9, .phase⟩, ⟨10, .phase⟩, ⟨11, .phase⟩, ⟨12, .phase⟩, ⟨13, .textOnly .lateStores⟩, ⟨14, .phase⟩], none⟩
def oL8_16 : Oper := ⟨some 7, Op.assign (Operand.tmp 39), 4, "l4_casts.go:152", #[⟨13, .data⟩, ⟨15, .chain⟩, ⟨0, .phase⟩, ⟨1, .phase⟩, ⟨2, .phase⟩, ⟨3, .phase⟩, ⟨4, .phase⟩, ⟨5, .phase⟩, ⟨6, .phase⟩, ⟨7, .phase⟩, ⟨8, .phase⟩, ⟨9, .phase⟩, ⟨10, .phase⟩, ⟨11, .phase⟩, ⟨12, .phase⟩, ⟨13, .phase⟩, ⟨14, .phase⟩, ⟨15, .phase⟩], none⟩
set_option maxHeartbeats 8000000 in
theorem specL4Type_5_n (G : Nat → Prop) (nm : ByteArray) (u lb tk fk : Int) (ty src : Ty) (t1 : Tm) (l : List Bd) (xa ta fa ca : Option Addr) (xn xq tn tq fn fq cm cq : Nat) (w : World)
    (he : TmRep G w (.mk 5 nm u ty src lb [t1]) (.agg #[.int .i64 5, .string nm, .int .i64 u, .int .i64 tk, .slice ta tn tq, .int .i64 fk, .slice fa fn fq, .int .i64 lb, .slice ca cm cq])) (hv : ty.valid = true)
    (HM : Hid (∀ W, Below w.heap.size w W → Calls Try.prog 32 #[.slice xa xn xq, .string nm, .agg #[.int .i64 tk, .slice ta tn tq]] W (RetC (l ++ [⟨nm, ty⟩]) W)))
    (IH : Hid (∀ (W : World) (c' y' : Value), Below w.heap.size w W → BdsRep (fun _ => True) W (l ++ [⟨nm, ty⟩]) c' → TmRep G W t1 y' → (∃ a m q, c' = .slice (some a) m q) → Calls Try.prog 17 #[c', y'] W (RetOF ((t1.castS (l ++ [⟨nm, ty⟩])).map S.ty) W)))
    (hco : t1.castS (l ++ [⟨nm, ty⟩]) = none) :
    Calls Try.prog 17 #[.slice xa xn xq, .agg #[.int .i64 5, .string nm, .int .i64 u, .int .i64 tk, .slice ta tn tq, .int .i64 fk, .slice fa fn fq, .int .i64 lb, .slice ca cm cq]] w (RetOF (((Tm.mk 5 nm u ty src lb [t1]).castS l).map S.ty) w) := by
  obtain ⟨-, -, -, -, -, -, -, -, hm, hnm, hmq, hqm, hty, hsrc, hks⟩ := he.parts
  simp only [Tm.type, Tm.src, Tm.kids, List.length_cons, List.length_nil] at hm hty hsrc hks
  obtain rfl : cm = 1 := by omega
  obtain ⟨b, off, kk0, nn0, uu0, tk0, ta0, tn0, tq0, fk0, fa0, fn0, fq0, ll0, a0, m0, q0, rfl, hlb, e0, e1, e2, e3, e4, e5, e6, e7, e8, ht⟩ := hks.at (Below.refl _ _) (i := 0) (by simp)
  simp only [Nat.zero_mul, Nat.add_zero] at e0 e1 e2 e3 e4 e5 e6 e7 e8
  have HTK := Lib.hid (show TmRep G w t1 _ from ht)
  have HTY := Lib.hid hty.old
  have HCN := Lib.hid (Ty.cnt_valid hv)
  have HVT := Lib.hid hv
  have HCO := Lib.hid hco
  obtain ⟨O, hO⟩ : ∃ O : Option Ty, O = (((Tm.mk 5 nm u ty src lb [t1]).castS l).map S.ty) := ⟨_, rfl⟩
  rw [← hO]
  have HO := Lib.hid hO
  clear hO he hm hty hsrc hks ht hv hco
  go_enter Try.func17, Try.ntmps17
  go_wp2_with fail
  obtain ⟨VV, hVV⟩ : ∃ X, X = ((w.alloc (.cells #[.int .i64 5, .string nm, .int .i64 u, .int .i64 tk, .slice ta tn tq, .int .i64 fk, .slice fa fn fq, .int .i64 lb, .slice (some ⟨b, off, none⟩) 1 cq] 36)).alloc (.cells #[.int .i64 0, .slice none 0 0] 31)) := ⟨_, rfl⟩
  have fE : VV.heap[w.heap.size]? = some (.cells #[.int .i64 5, .string nm, .int .i64 u, .int .i64 tk, .slice ta tn tq, .int .i64 fk, .slice fa fn fq, .int .i64 lb, .slice (some ⟨b, off, none⟩) 1 cq] 36 (0, 0)) := by rw [hVV]; exact blk_below (blk_new rfl) bal1
  have fR : VV.heap[w.heap.size + 1]? = some (.cells #[.int .i64 0, .slice none 0 0] 31 (0, 0)) := by rw [hVV]; exact blk_new (by simp)
  have c0_ : VV.cell? ⟨b, off, none⟩ = some (.int .i64 kk0) := by rw [hVV]; exact bcell bal1 (bcell bal1 e0)
  have c1_ : VV.cell? ⟨b, off + 1, none⟩ = some (.string nn0) := by rw [hVV]; exact bcell bal1 (bcell bal1 e1)
  have c2_ : VV.cell? ⟨b, off + 2, none⟩ = some (.int .i64 uu0) := by rw [hVV]; exact bcell bal1 (bcell bal1 e2)
  have c3_ : VV.cell? ⟨b, off + 3, none⟩ = some (.int .i64 tk0) := by rw [hVV]; exact bcell bal1 (bcell bal1 e3)
  have c4_ : VV.cell? ⟨b, off + 4, none⟩ = some (.slice ta0 tn0 tq0) := by rw [hVV]; exact bcell bal1 (bcell bal1 e4)
  have c5_ : VV.cell? ⟨b, off + 5, none⟩ = some (.int .i64 fk0) := by rw [hVV]; exact bcell bal1 (bcell bal1 e5)
  have c6_ : VV.cell? ⟨b, off + 6, none⟩ = some (.slice fa0 fn0 fq0) := by rw [hVV]; exact bcell bal1 (bcell bal1 e6)
  have c7_ : VV.cell? ⟨b, off + 7, none⟩ = some (.int .i64 ll0) := by rw [hVV]; exact bcell bal1 (bcell bal1 e7)
  have c8_ : VV.cell? ⟨b, off + 8, none⟩ = some (.slice a0 m0 q0) := by rw [hVV]; exact bcell bal1 (bcell bal1 e8)
  have fC : Hid (Below w.heap.size w VV) := by rw [hVV]; exact Lib.hid (bstep bal1 bal1)
  have hT : Hid (TyRep (· < w.heap.size) VV ty (.agg #[.int .i64 tk, .slice ta tn tq])) := by rw [hVV]; exact Lib.hid ((HTY.out.below bal1).below bal1)
  rw [← hVV]
  have zV : VV.heap.size = _ := congrArg (fun X : World => X.heap.size) hVV
  simp only [World.size_alloc] at zV
  refine wp_region_noPanic ?_
  refine wp_region_held_drew (S := fun w' => w'.cell? ⟨w.heap.size, 1, none⟩ = some (.string nm) ∧ w'.cell? ⟨w.heap.size, 3, none⟩ = some (.int .i64 tk) ∧ w'.cell? ⟨w.heap.size, 4, none⟩ = some (.slice ta tn tq) ∧ w'.cell? ⟨w.heap.size, 8, none⟩ = some (.slice (some ⟨b, off, none⟩) 1 cq) ∧ w'.cell? ⟨b, off, none⟩ = some (.int .i64 kk0) ∧ w'.cell? ⟨b, off + 1, none⟩ = some (.string nn0) ∧ w'.cell? ⟨b, off + 2, none⟩ = some (.int .i64 uu0) ∧ w'.cell? ⟨b, off + 3, none⟩ = some (.int .i64 tk0) ∧ w'.cell? ⟨b, off + 4, none⟩ = some (.slice ta0 tn0 tq0) ∧ w'.cell? ⟨b, off + 5, none⟩ = some (.int .i64 fk0) ∧ w'.cell? ⟨b, off + 6, none⟩ = some (.slice fa0 fn0 fq0) ∧ w'.cell? ⟨b, off + 7, none⟩ = some (.int .i64 ll0) ∧ w'.cell? ⟨b, off + 8, none⟩ = some (.slice a0 m0 q0)) (by kernel_rfl) ?_ (fun hHeld0 => ?_)
  · exact ⟨blk_cell fE rfl, blk_cell fE rfl, blk_cell fE rfl, blk_cell fE rfl, c0_, c1_, c2_, c3_, c4_, c5_, c6_, c7_, c8_⟩
  obtain ⟨U1, hU, hb, zU1a, zU1b⟩ := drLet VV
  rw [hU] at hHeld0 ⊢
  replace fE := blk_below fE hb; replace fR := blk_below fR hb; replace c0_ := bcell hb c0_; replace c1_ := bcell hb c1_
  replace c2_ := bcell hb c2_; replace c3_ := bcell hb c3_; replace c4_ := bcell hb c4_; replace c5_ := bcell hb c5_
  replace c6_ := bcell hb c6_; replace c7_ := bcell hb c7_; replace c8_ := bcell hb c8_; replace fC := Lib.hid (bstep fC.out hb)
  replace hT := Lib.hid (hT.out.below hb)
  rw [zV] at zU1a zU1b
  clear hU hb hVV zV
  refine hwt 0 oL8_0 (.slice xa xn xq) hHeld0 ?_ ?_
  · intro w' hSw; dsimp only [oL8_0]; go_simp
  try simp only [oL8_0, hwA]
  refine hwt 1 oL8_1 (.pointer (some ⟨w.heap.size, 1, none⟩)) hHeld0 ?_ ?_
  · intro w' hSw; dsimp only [oL8_1]; go_simp
  try simp only [oL8_1, hwA]
  refine hwt 2 oL8_2 (.string nm) hHeld0 ?_ ?_
  · intro w' hSw; dsimp only [oL8_2]; go_simp
  try simp only [oL8_2, hwA]
  refine hwt 3 oL8_3 (.pointer (some ⟨w.heap.size, 3, none⟩)) hHeld0 ?_ ?_
  · intro w' hSw; dsimp only [oL8_3]; go_simp
  try simp only [oL8_3, hwA]
  refine hwt 4 oL8_4 (.agg #[.int .i64 tk, .slice ta tn tq]) hHeld0 ?_ ?_
  · intro w' hSw; dsimp only [oL8_4]; go_simp
  try simp only [oL8_4, hwA]
  refine hwt 6 oL8_6 (.pointer (some ⟨w.heap.size, 8, none⟩)) hHeld0 ?_ ?_
  · intro w' hSw; dsimp only [oL8_6]; go_simp
  try simp only [oL8_6, hwA]
  refine hwt 7 oL8_7 (.slice (some ⟨b, off, none⟩) 1 cq) hHeld0 ?_ ?_
  · intro w' hSw; dsimp only [oL8_7]; go_simp
  try simp only [oL8_7, hwA]
  refine hwt 8 oL8_8 (.pointer (some ⟨b, off, none⟩)) hHeld0 ?_ ?_
  · intro w' hSw; dsimp only [oL8_8]; go_simp
  try simp only [oL8_8, hwA]
  refine hwt 9 oL8_9 (.agg #[.int .i64 kk0, .string nn0, .int .i64 uu0, .int .i64 tk0, .slice ta0 tn0 tq0, .int .i64 fk0, .slice fa0 fn0 fq0, .int .i64 ll0, .slice a0 m0 q0]) hHeld0 ?_ ?_
  · intro w' hSw; dsimp only [oL8_9]; go_simp
  try simp only [oL8_9, hwA]
  refine wpAnyH_ready (rs := [5, 14]) (by kernel_rfl) (by simp) ?_
  refine (AllReadyH.cons (o := oL8_5) rfl (fun K hK => ?_) (AllReadyH.cons (o := oL8_14) rfl (fun K hK => ?_) AllReadyH.nil))
  ·skip
   dsimp only [oL8_5]; go_simp
   go_at_call 32
   refine (HM.out _ fC.out).mono ?_
   rintro e X1 ⟨xa2, xm2, xq2, rfl, hcx, hb⟩
   have hX' : Hid (BdsRep (fun _ => True) X1 (l ++ [⟨nm, ty⟩]) (.slice (some xa2) xm2 xq2)) := Lib.hid hcx
   clear hcx
   go_wp2_with fail
   have zX1 : U1.heap.size ≤ X1.heap.size := hb.size
   replace fE := blk_below fE hb; replace fR := blk_below fR hb; replace c0_ := bcell hb c0_; replace c1_ := bcell hb c1_
   replace c2_ := bcell hb c2_; replace c3_ := bcell hb c3_; replace c4_ := bcell hb c4_; replace c5_ := bcell hb c5_
   replace c6_ := bcell hb c6_; replace c7_ := bcell hb c7_; replace c8_ := bcell hb c8_; replace fC := Lib.hid (bstep fC.out hb)
   replace hT := Lib.hid (hT.out.below hb)
   have hX := hX'
   clear hX'
   refine hK.out _ _ ⟨blk_cell fE rfl, blk_cell fE rfl, blk_cell fE rfl, blk_cell fE rfl, c0_, c1_, c2_, c3_, c4_, c5_, c6_, c7_, c8_⟩ (fun hHeld1 => ?_)
   clear hK K hHeld0 hb
   try simp only [oL8_5, hwA]
   refine wpAnyH_ready (rs := [10, 14]) (by kernel_rfl) (by simp) ?_
   refine (AllReadyH.cons (o := oL8_10) rfl (fun K hK => ?_) (AllReadyH.cons (o := oL8_14) rfl (fun K hK => ?_) AllReadyH.nil))
   ·skip
    dsimp only [oL8_10]; go_simp
    go_at_call 17
    refine (IH.out _ _ _ fC.out hX.out (HTK.out.below fC.out) ⟨_, _, _, rfl⟩).mono ?_
    rintro e X2 ⟨kt, at_, nt, qt, bt, tt, rfl, hbt, htt, hot, hb⟩
    rw [HCO.out] at hbt hot
    obtain rfl : bt = false := hbt
    have hN' : Hid (TyRep (fun b => X1.heap.size ≤ b ∧ b < X2.heap.size) X2 tt (.agg #[.int .i64 kt, .slice at_ nt qt])) := Lib.hid (htt.move (.weaken fun b h1 h2 => ⟨h1.elim False.elim id, h2⟩))
    clear htt hot
    go_wp2_with fail
    have zX2 : X1.heap.size ≤ X2.heap.size := hb.size
    replace fE := blk_below fE hb; replace fR := blk_below fR hb; replace c0_ := bcell hb c0_; replace c1_ := bcell hb c1_
    replace c2_ := bcell hb c2_; replace c3_ := bcell hb c3_; replace c4_ := bcell hb c4_; replace c5_ := bcell hb c5_
    replace c6_ := bcell hb c6_; replace c7_ := bcell hb c7_; replace c8_ := bcell hb c8_; replace fC := Lib.hid (bstep fC.out hb)
    replace hT := Lib.hid (hT.out.below hb); replace hX := Lib.hid (hX.out.below hb)
    have hN := hN'
    clear hN'
    refine hK.out _ _ ⟨blk_cell fE rfl, blk_cell fE rfl, blk_cell fE rfl, blk_cell fE rfl, c0_, c1_, c2_, c3_, c4_, c5_, c6_, c7_, c8_⟩ (fun hHeld2 => ?_)
    clear hK K hHeld1 hb
    try simp only [oL8_10, hwA]
    refine hwt 11 oL8_11 (.tuple #[.agg #[.int .i64 kt, .slice at_ nt qt], .bool false]) hHeld2 ?_ ?_
    · intro w' hSw; dsimp only [oL8_11]; go_simp
    try simp only [oL8_11, hwA]
    refine hwt 12 oL8_12 (.agg #[.int .i64 kt, .slice at_ nt qt]) hHeld2 ?_ ?_
    · intro w' hSw; dsimp only [oL8_12]; go_simp
    try simp only [oL8_12, hwA]
    refine hwt 13 oL8_13 (.bool false) hHeld2 ?_ ?_
    · intro w' hSw; dsimp only [oL8_13]; go_simp
    try simp only [oL8_13, hwA]
    refine hwr 14 oL8_14 (fun K hK => ?_)
    dsimp only [oL8_14]; go_simp
    (try go_wp2_with fail)
    obtain ⟨X3, hXq, hb, fV, zX3a, zX3b⟩ := alLet X2 (.cells #[.int .i64 0, .slice none 0 0] 31)
    rw [hXq]
    replace fE := blk_below fE hb; replace fR := blk_below fR hb; replace c0_ := bcell hb c0_; replace c1_ := bcell hb c1_
    replace c2_ := bcell hb c2_; replace c3_ := bcell hb c3_; replace c4_ := bcell hb c4_; replace c5_ := bcell hb c5_
    replace c6_ := bcell hb c6_; replace c7_ := bcell hb c7_; replace c8_ := bcell hb c8_; replace fC := Lib.hid (bstep fC.out hb)
    replace hT := Lib.hid (hT.out.below hb); replace hX := Lib.hid (hX.out.below hb); replace hN := Lib.hid (hN.out.below hb)
    refine hK.out _ _ ⟨blk_cell fE rfl, blk_cell fE rfl, blk_cell fE rfl, blk_cell fE rfl, c0_, c1_, c2_, c3_, c4_, c5_, c6_, c7_, c8_⟩ (fun hHeld3 => ?_)
    clear hK K hHeld2 hb hXq
    try simp only [oL8_14, hwA]
    refine hwr 15 oL8_15 (fun K hK => ?_)
    obtain ⟨r0, r1, rf0, rf1⟩ := blkR fV
    dsimp only [oL8_15]; go_simp
    (try go_wp2_with fail)
    have hQq := stLet2 fV (.int .i64 kt) (.slice at_ nt qt)
    clear fV r0 r1 rf0 rf1
    obtain ⟨X4, hXq, hsq, fV, zX4a, zX4b⟩ := hQq
    rw [hXq]
    replace fE := hsq.blk (by omega) fE; replace fR := hsq.blk (by omega) fR; replace c0_ := hsq.cell (by show b ≠ X2.heap.size; omega) c0_; replace c1_ := hsq.cell (by show b ≠ X2.heap.size; omega) c1_
    replace c2_ := hsq.cell (by show b ≠ X2.heap.size; omega) c2_; replace c3_ := hsq.cell (by show b ≠ X2.heap.size; omega) c3_; replace c4_ := hsq.cell (by show b ≠ X2.heap.size; omega) c4_; replace c5_ := hsq.cell (by show b ≠ X2.heap.size; omega) c5_
    replace c6_ := hsq.cell (by show b ≠ X2.heap.size; omega) c6_; replace c7_ := hsq.cell (by show b ≠ X2.heap.size; omega) c7_; replace c8_ := hsq.cell (by show b ≠ X2.heap.size; omega) c8_; replace fC := Lib.hid (hsq.bel fC.out (by omega))
    replace hT := Lib.hid (hsq.rep (fun b hb => by have : b < w.heap.size := hb; omega) hT.out); replace hN := Lib.hid (hsq.rep (fun b hb => by have h1 : X1.heap.size ≤ b := hb.1; have h2 : b < X2.heap.size := hb.2; omega) hN.out)
    refine hK.out _ _ ⟨blk_cell fE rfl, blk_cell fE rfl, blk_cell fE rfl, blk_cell fE rfl, c0_, c1_, c2_, c3_, c4_, c5_, c6_, c7_, c8_⟩ (fun hHeld4 => ?_)
    clear hK K hHeld3 hsq hXq hX
    try simp only [oL8_15, hwA]
    refine hwt 16 oL8_16 (.bool false) hHeld4 ?_ ?_
    · intro w' hSw; dsimp only [oL8_16]; go_simp
    try simp only [oL8_16, hwA]
    refine wpAnyH_done (by kernel_rfl) ?_ _
    refine NoPanic.normal ?_
    clear hHeld4
    have r0 := blk_cell fR (o := 0) rfl
    have r1 := blk_cell fR (o := 1) rfl
    have rf0 := blk_fro fR 0
    have rf1 := blk_fro fR 1
    go_wp2_with fail
    have hY : ((X4.setCell ⟨w.heap.size + 1, 0, none⟩ (.int .i64 0)).setCell ⟨w.heap.size + 1, 1, none⟩ (.slice none 0 0)).heap[w.heap.size + 1]? = some (.cells #[.int .i64 0, .slice none 0 0] 31 (0, 0)) := blk_set (blk_set fR rfl) rfl
    have rc0 := blk_cell hY (o := 0) rfl
    have rc1 := blk_cell hY (o := 1) rfl
    refine bodyPost_ret (v := .tuple #[.agg #[.int .i64 0, .slice none 0 0], .bool false]) (by simp [results, Try.results17, go_sem, rc0, rc1]) rfl ?_
    exact ⟨_, _, _, _, _, _, rfl, by rw [HO.out, lam_none HCO.out]; rfl, TyRep.zeroG, (by rw [HO.out, lam_none HCO.out]; intro s h; simp at h), (fC.out.setCell (p := ⟨w.heap.size + 1, 0, none⟩) (by show w.heap.size ≤ w.heap.size + 1; omega) _).setCell (p := ⟨w.heap.size + 1, 1, none⟩) (by show w.heap.size ≤ w.heap.size + 1; omega) _⟩
   ·skip
    dsimp only [oL8_14]; go_simp
    (try go_wp2_with fail)
    obtain ⟨X5, hXq, hb, fV, zX5a, zX5b⟩ := alLet X1 (.cells #[.int .i64 0, .slice none 0 0] 31)
    rw [hXq]
    replace fE := blk_below fE hb; replace fR := blk_below fR hb; replace c0_ := bcell hb c0_; replace c1_ := bcell hb c1_
    replace c2_ := bcell hb c2_; replace c3_ := bcell hb c3_; replace c4_ := bcell hb c4_; replace c5_ := bcell hb c5_
    replace c6_ := bcell hb c6_; replace c7_ := bcell hb c7_; replace c8_ := bcell hb c8_; replace fC := Lib.hid (bstep fC.out hb)
    replace hT := Lib.hid (hT.out.below hb); replace hX := Lib.hid (hX.out.below hb)
    refine hK.out _ _ ⟨blk_cell fE rfl, blk_cell fE rfl, blk_cell fE rfl, blk_cell fE rfl, c0_, c1_, c2_, c3_, c4_, c5_, c6_, c7_, c8_⟩ (fun hHeld2 => ?_)
    clear hK K hHeld1 hb hXq
    try simp only [oL8_14, hwA]
    refine hwr 10 oL8_10 (fun K hK => ?_)
    dsimp only [oL8_10]; go_simp
    go_at_call 17
    refine (IH.out _ _ _ fC.out hX.out (HTK.out.below fC.out) ⟨_, _, _, rfl⟩).mono ?_
    rintro e X6 ⟨kt, at_, nt, qt, bt, tt, rfl, hbt, htt, hot, hb⟩
    rw [HCO.out] at hbt hot
    obtain rfl : bt = false := hbt
    have hN' : Hid (TyRep (fun b => X5.heap.size ≤ b ∧ b < X6.heap.size) X6 tt (.agg #[.int .i64 kt, .slice at_ nt qt])) := Lib.hid (htt.move (.weaken fun b h1 h2 => ⟨h1.elim False.elim id, h2⟩))
    clear htt hot
    go_wp2_with fail
    have zX6 : X5.heap.size ≤ X6.heap.size := hb.size
    replace fE := blk_below fE hb; replace fR := blk_below fR hb; replace c0_ := bcell hb c0_; replace c1_ := bcell hb c1_
    replace c2_ := bcell hb c2_; replace c3_ := bcell hb c3_; replace c4_ := bcell hb c4_; replace c5_ := bcell hb c5_
    replace c6_ := bcell hb c6_; replace c7_ := bcell hb c7_; replace c8_ := bcell hb c8_; replace fC := Lib.hid (bstep fC.out hb)
    replace hT := Lib.hid (hT.out.below hb); replace hX := Lib.hid (hX.out.below hb); replace fV := blk_below fV hb
    have hN := hN'
    clear hN'
    refine hK.out _ _ ⟨blk_cell fE rfl, blk_cell fE rfl, blk_cell fE rfl, blk_cell fE rfl, c0_, c1_, c2_, c3_, c4_, c5_, c6_, c7_, c8_⟩ (fun hHeld5 => ?_)
    clear hK K hHeld2 hb
    try simp only [oL8_10, hwA]
    refine hwt 11 oL8_11 (.tuple #[.agg #[.int .i64 kt, .slice at_ nt qt], .bool false]) hHeld5 ?_ ?_
    · intro w' hSw; dsimp only [oL8_11]; go_simp
    try simp only [oL8_11, hwA]
    refine hwt 12 oL8_12 (.agg #[.int .i64 kt, .slice at_ nt qt]) hHeld5 ?_ ?_
    · intro w' hSw; dsimp only [oL8_12]; go_simp
    try simp only [oL8_12, hwA]
    refine hwt 13 oL8_13 (.bool false) hHeld5 ?_ ?_
    · intro w' hSw; dsimp only [oL8_13]; go_simp
    try simp only [oL8_13, hwA]
    refine hwr 15 oL8_15 (fun K hK => ?_)
    obtain ⟨r0, r1, rf0, rf1⟩ := blkR fV
    dsimp only [oL8_15]; go_simp
    (try go_wp2_with fail)
    have hQq := stLet2 fV (.int .i64 kt) (.slice at_ nt qt)
    clear fV r0 r1 rf0 rf1
    obtain ⟨X7, hXq, hsq, fV, zX7a, zX7b⟩ := hQq
    rw [hXq]
    replace fE := hsq.blk (by omega) fE; replace fR := hsq.blk (by omega) fR; replace c0_ := hsq.cell (by show b ≠ X1.heap.size; omega) c0_; replace c1_ := hsq.cell (by show b ≠ X1.heap.size; omega) c1_
    replace c2_ := hsq.cell (by show b ≠ X1.heap.size; omega) c2_; replace c3_ := hsq.cell (by show b ≠ X1.heap.size; omega) c3_; replace c4_ := hsq.cell (by show b ≠ X1.heap.size; omega) c4_; replace c5_ := hsq.cell (by show b ≠ X1.heap.size; omega) c5_
    replace c6_ := hsq.cell (by show b ≠ X1.heap.size; omega) c6_; replace c7_ := hsq.cell (by show b ≠ X1.heap.size; omega) c7_; replace c8_ := hsq.cell (by show b ≠ X1.heap.size; omega) c8_; replace fC := Lib.hid (hsq.bel fC.out (by omega))
    replace hT := Lib.hid (hsq.rep (fun b hb => by have : b < w.heap.size := hb; omega) hT.out); replace hN := Lib.hid (hsq.rep (fun b hb => by have h1 : X5.heap.size ≤ b := hb.1; have h2 : b < X6.heap.size := hb.2; omega) hN.out)
    refine hK.out _ _ ⟨blk_cell fE rfl, blk_cell fE rfl, blk_cell fE rfl, blk_cell fE rfl, c0_, c1_, c2_, c3_, c4_, c5_, c6_, c7_, c8_⟩ (fun hHeld6 => ?_)
    clear hK K hHeld5 hsq hXq hX
    try simp only [oL8_15, hwA]
    refine hwt 16 oL8_16 (.bool false) hHeld6 ?_ ?_
    · intro w' hSw; dsimp only [oL8_16]; go_simp
    try simp only [oL8_16, hwA]
    refine wpAnyH_done (by kernel_rfl) ?_ _
    refine NoPanic.normal ?_
    clear hHeld6
    have r0 := blk_cell fR (o := 0) rfl
    have r1 := blk_cell fR (o := 1) rfl
    have rf0 := blk_fro fR 0
    have rf1 := blk_fro fR 1
    go_wp2_with fail
    have hY : ((X7.setCell ⟨w.heap.size + 1, 0, none⟩ (.int .i64 0)).setCell ⟨w.heap.size + 1, 1, none⟩ (.slice none 0 0)).heap[w.heap.size + 1]? = some (.cells #[.int .i64 0, .slice none 0 0] 31 (0, 0)) := blk_set (blk_set fR rfl) rfl
    have rc0 := blk_cell hY (o := 0) rfl
    have rc1 := blk_cell hY (o := 1) rfl
    refine bodyPost_ret (v := .tuple #[.agg #[.int .i64 0, .slice none 0 0], .bool false]) (by simp [results, Try.results17, go_sem, rc0, rc1]) rfl ?_
    exact ⟨_, _, _, _, _, _, rfl, by rw [HO.out, lam_none HCO.out]; rfl, TyRep.zeroG, (by rw [HO.out, lam_none HCO.out]; intro s h; simp at h), (fC.out.setCell (p := ⟨w.heap.size + 1, 0, none⟩) (by show w.heap.size ≤ w.heap.size + 1; omega) _).setCell (p := ⟨w.heap.size + 1, 1, none⟩) (by show w.heap.size ≤ w.heap.size + 1; omega) _⟩
  ·skip
   dsimp only [oL8_14]; go_simp
   (try go_wp2_with fail)
   obtain ⟨X8, hXq, hb, fV, zX8a, zX8b⟩ := alLet U1 (.cells #[.int .i64 0, .slice none 0 0] 31)
   rw [hXq]
   replace fE := blk_below fE hb; replace fR := blk_below fR hb; replace c0_ := bcell hb c0_; replace c1_ := bcell hb c1_
   replace c2_ := bcell hb c2_; replace c3_ := bcell hb c3_; replace c4_ := bcell hb c4_; replace c5_ := bcell hb c5_
   replace c6_ := bcell hb c6_; replace c7_ := bcell hb c7_; replace c8_ := bcell hb c8_; replace fC := Lib.hid (bstep fC.out hb)
   replace hT := Lib.hid (hT.out.below hb)
   refine hK.out _ _ ⟨blk_cell fE rfl, blk_cell fE rfl, blk_cell fE rfl, blk_cell fE rfl, c0_, c1_, c2_, c3_, c4_, c5_, c6_, c7_, c8_⟩ (fun hHeld1 => ?_)
   clear hK K hHeld0 hb hXq
   try simp only [oL8_14, hwA]
   refine hwr 5 oL8_5 (fun K hK => ?_)
   dsimp only [oL8_5]; go_simp
   go_at_call 32
   refine (HM.out _ fC.out).mono ?_
   rintro e X9 ⟨xa2, xm2, xq2, rfl, hcx, hb⟩
   have hX' : Hid (BdsRep (fun _ => True) X9 (l ++ [⟨nm, ty⟩]) (.slice (some xa2) xm2 xq2)) := Lib.hid hcx
   clear hcx
   go_wp2_with fail
   have zX9 : X8.heap.size ≤ X9.heap.size := hb.size
   replace fE := blk_below fE hb; replace fR := blk_below fR hb; replace c0_ := bcell hb c0_; replace c1_ := bcell hb c1_
   replace c2_ := bcell hb c2_; replace c3_ := bcell hb c3_; replace c4_ := bcell hb c4_; replace c5_ := bcell hb c5_
   replace c6_ := bcell hb c6_; replace c7_ := bcell hb c7_; replace c8_ := bcell hb c8_; replace fC := Lib.hid (bstep fC.out hb)
   replace hT := Lib.hid (hT.out.below hb); replace fV := blk_below fV hb
   have hX := hX'
   clear hX'
   refine hK.out _ _ ⟨blk_cell fE rfl, blk_cell fE rfl, blk_cell fE rfl, blk_cell fE rfl, c0_, c1_, c2_, c3_, c4_, c5_, c6_, c7_, c8_⟩ (fun hHeld7 => ?_)
   clear hK K hHeld1 hb
   try simp only [oL8_5, hwA]
   refine hwr 10 oL8_10 (fun K hK => ?_)
   dsimp only [oL8_10]; go_simp
   go_at_call 17
   refine (IH.out _ _ _ fC.out hX.out (HTK.out.below fC.out) ⟨_, _, _, rfl⟩).mono ?_
   rintro e X10 ⟨kt, at_, nt, qt, bt, tt, rfl, hbt, htt, hot, hb⟩
   rw [HCO.out] at hbt hot
   obtain rfl : bt = false := hbt
   have hN' : Hid (TyRep (fun b => X9.heap.size ≤ b ∧ b < X10.heap.size) X10 tt (.agg #[.int .i64 kt, .slice at_ nt qt])) := Lib.hid (htt.move (.weaken fun b h1 h2 => ⟨h1.elim False.elim id, h2⟩))
   clear htt hot
   go_wp2_with fail
   have zX10 : X9.heap.size ≤ X10.heap.size := hb.size
   replace fE := blk_below fE hb; replace fR := blk_below fR hb; replace c0_ := bcell hb c0_; replace c1_ := bcell hb c1_
   replace c2_ := bcell hb c2_; replace c3_ := bcell hb c3_; replace c4_ := bcell hb c4_; replace c5_ := bcell hb c5_
   replace c6_ := bcell hb c6_; replace c7_ := bcell hb c7_; replace c8_ := bcell hb c8_; replace fC := Lib.hid (bstep fC.out hb)
   replace hT := Lib.hid (hT.out.below hb); replace fV := blk_below fV hb; replace hX := Lib.hid (hX.out.below hb)
   have hN := hN'
   clear hN'
   refine hK.out _ _ ⟨blk_cell fE rfl, blk_cell fE rfl, blk_cell fE rfl, blk_cell fE rfl, c0_, c1_, c2_, c3_, c4_, c5_, c6_, c7_, c8_⟩ (fun hHeld8 => ?_)
   clear hK K hHeld7 hb
   try simp only [oL8_10, hwA]
   refine hwt 11 oL8_11 (.tuple #[.agg #[.int .i64 kt, .slice at_ nt qt], .bool false]) hHeld8 ?_ ?_
   · intro w' hSw; dsimp only [oL8_11]; go_simp
   try simp only [oL8_11, hwA]
   refine hwt 12 oL8_12 (.agg #[.int .i64 kt, .slice at_ nt qt]) hHeld8 ?_ ?_
   · intro w' hSw; dsimp only [oL8_12]; go_simp
   try simp only [oL8_12, hwA]
   refine hwt 13 oL8_13 (.bool false) hHeld8 ?_ ?_
   · intro w' hSw; dsimp only [oL8_13]; go_simp
   try simp only [oL8_13, hwA]
   refine hwr 15 oL8_15 (fun K hK => ?_)
   obtain ⟨r0, r1, rf0, rf1⟩ := blkR fV
   dsimp only [oL8_15]; go_simp
   (try go_wp2_with fail)
   have hQq := stLet2 fV (.int .i64 kt) (.slice at_ nt qt)
   clear fV r0 r1 rf0 rf1
   obtain ⟨X11, hXq, hsq, fV, zX11a, zX11b⟩ := hQq
   rw [hXq]
   replace fE := hsq.blk (by omega) fE; replace fR := hsq.blk (by omega) fR; replace c0_ := hsq.cell (by show b ≠ U1.heap.size; omega) c0_; replace c1_ := hsq.cell (by show b ≠ U1.heap.size; omega) c1_
   replace c2_ := hsq.cell (by show b ≠ U1.heap.size; omega) c2_; replace c3_ := hsq.cell (by show b ≠ U1.heap.size; omega) c3_; replace c4_ := hsq.cell (by show b ≠ U1.heap.size; omega) c4_; replace c5_ := hsq.cell (by show b ≠ U1.heap.size; omega) c5_
   replace c6_ := hsq.cell (by show b ≠ U1.heap.size; omega) c6_; replace c7_ := hsq.cell (by show b ≠ U1.heap.size; omega) c7_; replace c8_ := hsq.cell (by show b ≠ U1.heap.size; omega) c8_; replace fC := Lib.hid (hsq.bel fC.out (by omega))
   replace hT := Lib.hid (hsq.rep (fun b hb => by have : b < w.heap.size := hb; omega) hT.out); replace hN := Lib.hid (hsq.rep (fun b hb => by have h1 : X9.heap.size ≤ b := hb.1; have h2 : b < X10.heap.size := hb.2; omega) hN.out)
   refine hK.out _ _ ⟨blk_cell fE rfl, blk_cell fE rfl, blk_cell fE rfl, blk_cell fE rfl, c0_, c1_, c2_, c3_, c4_, c5_, c6_, c7_, c8_⟩ (fun hHeld9 => ?_)
   clear hK K hHeld8 hsq hXq hX
   try simp only [oL8_15, hwA]
   refine hwt 16 oL8_16 (.bool false) hHeld9 ?_ ?_
   · intro w' hSw; dsimp only [oL8_16]; go_simp
   try simp only [oL8_16, hwA]
   refine wpAnyH_done (by kernel_rfl) ?_ _
   refine NoPanic.normal ?_
   clear hHeld9
   have r0 := blk_cell fR (o := 0) rfl
   have r1 := blk_cell fR (o := 1) rfl
   have rf0 := blk_fro fR 0
   have rf1 := blk_fro fR 1
   go_wp2_with fail
   have hY : ((X11.setCell ⟨w.heap.size + 1, 0, none⟩ (.int .i64 0)).setCell ⟨w.heap.size + 1, 1, none⟩ (.slice none 0 0)).heap[w.heap.size + 1]? = some (.cells #[.int .i64 0, .slice none 0 0] 31 (0, 0)) := blk_set (blk_set fR rfl) rfl
   have rc0 := blk_cell hY (o := 0) rfl
   have rc1 := blk_cell hY (o := 1) rfl
   refine bodyPost_ret (v := .tuple #[.agg #[.int .i64 0, .slice none 0 0], .bool false]) (by simp [results, Try.results17, go_sem, rc0, rc1]) rfl ?_
   exact ⟨_, _, _, _, _, _, rfl, by rw [HO.out, lam_none HCO.out]; rfl, TyRep.zeroG, (by rw [HO.out, lam_none HCO.out]; intro s h; simp at h), (fC.out.setCell (p := ⟨w.heap.size + 1, 0, none⟩) (by show w.heap.size ≤ w.heap.size + 1; omega) _).setCell (p := ⟨w.heap.size + 1, 1, none⟩) (by show w.heap.size ≤ w.heap.size + 1; omega) _⟩
end Go.Proofs.Ytkhmkohgnikcmaa
