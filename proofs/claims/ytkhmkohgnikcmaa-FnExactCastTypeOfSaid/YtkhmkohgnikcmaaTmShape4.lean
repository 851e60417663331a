/-
  The shape of a term, by the reference.
-/
import Derived.Test.YtkhmkohgnikcmaaB20
import Derived.Test.YtkhmkohgnikcmaaB14
namespace Go.Proofs.Ytkhmkohgnikcmaa
open Go.RowKit
set_option linter.unusedVariables false
set_option linter.unusedSimpArgs false
set_option maxRecDepth 100000

def oS4_0 : Oper := ⟨some 6, Op.move (Operand.tmp 1), 3, "l4_casts.go:24", #[], none⟩
def oS4_1 : Oper := ⟨some 7, Op.binOp BinOp.lss 3 (Operand.tmp 6) (Operand.const (Value.int IntKind.i64 1)) 3, 4, "l4_casts.go:24", #[⟨0, .data⟩], none⟩
def oS4_2 : Oper := ⟨some 8, Op.move (Operand.tmp 7), 4, "l4_casts.go:24", #[⟨1, .data⟩], none⟩
def oS4_3 : Oper := ⟨some 9, Op.fieldAddr 36 (Operand.tmp 2) 0, 0, "l4_casts.go:24", #[⟨2, .guard⟩], some (2, false)⟩
def oS4_4 : Oper := ⟨some 10, Op.load 3 (Operand.tmp 9), 3, "l4_casts.go:24", #[⟨3, .data⟩, ⟨2, .guard⟩], some (2, false)⟩
def oS4_5 : Oper := ⟨some 11, Op.call { callee := Callee.value (Operand.func 42), args := #[Operand.tmp 10], argTypes := #[3] }, 3, "l4_casts.go:24", #[⟨4, .data⟩, ⟨2, .chain⟩, ⟨2, .guard⟩], some (2, false)⟩
def oS4_6 : Oper := ⟨some 12, Op.fieldAddr 36 (Operand.tmp 2) 6, 0, "l4_casts.go:24", #[⟨2, .guard⟩], some (2, false)⟩
def oS4_7 : Oper := ⟨some 13, Op.load 34 (Operand.tmp 12), 34, "l4_casts.go:24", #[⟨6, .data⟩, ⟨2, .guard⟩], some (2, false)⟩
def oS4_8 : Oper := ⟨some 14, Op.call { callee := Callee.builtin Builtin.len, args := #[Operand.tmp 13], argTypes := #[34] }, 3, "l4_casts.go:24", #[⟨7, .data⟩, ⟨2, .guard⟩], some (2, false)⟩
def oS4_9 : Oper := ⟨some 15, Op.binOp BinOp.neq 3 (Operand.tmp 11) (Operand.tmp 14) 3, 4, "l4_casts.go:24", #[⟨5, .data⟩, ⟨8, .data⟩, ⟨2, .guard⟩], some (2, false)⟩
def oS4_10 : Oper := ⟨some 16, Op.pick (Operand.tmp 8) (Operand.const (Value.bool true)) (Operand.tmp 15), 4, "l4_casts.go:24", #[⟨2, .data⟩, ⟨9, .data⟩], none⟩
def oS4_11 : Oper := ⟨some 17, Op.move (Operand.tmp 16), 4, "l4_casts.go:24", #[⟨10, .data⟩, ⟨5, .chain⟩], none⟩
def oS4_12 : Oper := ⟨some 18, Op.fieldAddr 36 (Operand.tmp 2) 0, 0, "l4_casts.go:24", #[⟨11, .guard⟩], some (11, false)⟩
def oS4_13 : Oper := ⟨some 19, Op.load 3 (Operand.tmp 18), 3, "l4_casts.go:24", #[⟨12, .data⟩, ⟨11, .guard⟩], some (11, false)⟩
def oS4_14 : Oper := ⟨some 20, Op.binOp BinOp.eql 3 (Operand.tmp 19) (Operand.const (Value.int IntKind.i64 13)) 3, 4, "l4_casts.go:24", #[⟨13, .data⟩, ⟨11, .guard⟩], some (11, false)⟩
def oS4_15 : Oper := ⟨some 21, Op.pick (Operand.tmp 17) (Operand.const (Value.bool true)) (Operand.tmp 20), 4, "l4_casts.go:24", #[⟨11, .data⟩, ⟨14, .data⟩], none⟩
def oS4_16 : Oper := ⟨some 22, Op.move (Operand.tmp 21), 4, "l4_casts.go:24", #[⟨15, .data⟩, ⟨11, .chain⟩], none⟩
def oS4_17 : Oper := ⟨some 23, Op.fieldAddr 36 (Operand.tmp 2) 0, 0, "l4_casts.go:24", #[⟨16, .guard⟩], some (16, false)⟩
def oS4_18 : Oper := ⟨some 24, Op.load 3 (Operand.tmp 23), 3, "l4_casts.go:24", #[⟨17, .data⟩, ⟨16, .guard⟩], some (16, false)⟩
def oS4_19 : Oper := ⟨some 25, Op.binOp BinOp.eql 3 (Operand.tmp 24) (Operand.const (Value.int IntKind.i64 14)) 3, 4, "l4_casts.go:24", #[⟨18, .data⟩, ⟨16, .guard⟩], some (16, false)⟩
def oS4_20 : Oper := ⟨some 26, Op.move (Operand.tmp 25), 4, "l4_casts.go:24", #[⟨19, .data⟩, ⟨16, .chain⟩, ⟨16, .guard⟩], some (16, false)⟩
def oS4_21 : Oper := ⟨some 27, Op.load 36 (Operand.tmp 2), 36, "l4_casts.go:24", #[⟨20, .guard⟩], some (20, true)⟩
def oS4_22 : Oper := ⟨some 28, Op.call { callee := Callee.value (Operand.func 43), args := #[Operand.tmp 27], argTypes := #[36] }, 4, "l4_casts.go:24", #[⟨21, .data⟩, ⟨20, .chain⟩, ⟨20, .guard⟩], some (20, true)⟩
def oS4_23 : Oper := ⟨some 29, Op.unOp UnOp.not 4 (Operand.tmp 28), 4, "l4_casts.go:24", #[⟨22, .data⟩, ⟨20, .guard⟩], some (20, true)⟩
def oS4_24 : Oper := ⟨some 30, Op.pick (Operand.tmp 26) (Operand.tmp 29) (Operand.const (Value.bool false)), 4, "l4_casts.go:24", #[⟨20, .data⟩, ⟨23, .data⟩, ⟨16, .guard⟩], some (16, false)⟩
def oS4_25 : Oper := ⟨some 31, Op.pick (Operand.tmp 22) (Operand.const (Value.bool true)) (Operand.tmp 30), 4, "l4_casts.go:24", #[⟨16, .data⟩, ⟨24, .data⟩], none⟩
def oS4_26 : Oper := ⟨some 32, Op.move (Operand.tmp 31), 4, "l4_casts.go:24", #[⟨25, .data⟩, ⟨22, .chain⟩], none⟩
def oS4_27 : Oper := ⟨some 33, Op.fieldAddr 36 (Operand.tmp 2) 0, 0, "l4_casts.go:24", #[⟨26, .guard⟩], some (26, false)⟩
def oS4_28 : Oper := ⟨some 34, Op.load 3 (Operand.tmp 33), 3, "l4_casts.go:24", #[⟨27, .data⟩, ⟨26, .guard⟩], some (26, false)⟩
def oS4_29 : Oper := ⟨some 35, Op.binOp BinOp.neq 3 (Operand.tmp 34) (Operand.const (Value.int IntKind.i64 14)) 3, 4, "l4_casts.go:24", #[⟨28, .data⟩, ⟨26, .guard⟩], some (26, false)⟩
def oS4_30 : Oper := ⟨some 36, Op.move (Operand.tmp 35), 4, "l4_casts.go:24", #[⟨29, .data⟩, ⟨26, .chain⟩, ⟨26, .guard⟩], some (26, false)⟩
def oS4_31 : Oper := ⟨some 37, Op.load 36 (Operand.tmp 2), 36, "l4_casts.go:24", #[⟨30, .guard⟩], some (30, true)⟩
def oS4_32 : Oper := ⟨some 38, Op.call { callee := Callee.value (Operand.func 44), args := #[Operand.tmp 37], argTypes := #[36] }, 4, "l4_casts.go:24", #[⟨31, .data⟩, ⟨30, .chain⟩, ⟨30, .guard⟩], some (30, true)⟩
def oS4_33 : Oper := ⟨some 39, Op.unOp UnOp.not 4 (Operand.tmp 38), 4, "l4_casts.go:24", #[⟨32, .data⟩, ⟨30, .guard⟩], some (30, true)⟩
def oS4_34 : Oper := ⟨some 40, Op.pick (Operand.tmp 36) (Operand.tmp 39) (Operand.const (Value.bool false)), 4, "l4_casts.go:24", #[⟨30, .data⟩, ⟨33, .data⟩, ⟨26, .guard⟩], some (26, false)⟩
def oS4_35 : Oper := ⟨some 41, Op.pick (Operand.tmp 32) (Operand.const (Value.bool true)) (Operand.tmp 40), 4, "l4_casts.go:24", #[⟨26, .data⟩, ⟨34, .data⟩], none⟩

theorem leaf_shape4_0 (k d : Int) (m : Nat) (ow rk : Bool) (h0 : (decide (d < 1)) = true) : (false : Bool) = (decide (1 ≤ d) && !(k == 13) && ((tops k == (m : Int)) && ow) && rk) := by
  first | (simp_all; done) | (simp_all; omega) | grind

theorem leaf_shape4_1 (k d : Int) (m : Nat) (ow rk : Bool) (h0 : (decide (d < 1)) = false) (h1 : ((tops k) == (m : Int)) = true) (h2 : (k == 13) = true) : (false : Bool) = (decide (1 ≤ d) && !(k == 13) && ((tops k == (m : Int)) && ow) && rk) := by
  first | (simp_all; done) | (simp_all; omega) | grind

theorem leaf_shape4_2 (k d : Int) (m : Nat) (ow rk : Bool) (h0 : (decide (d < 1)) = false) (h1 : ((tops k) == (m : Int)) = true) (h2 : (k == 13) = false) (h3 : (k == 14) = true) (h4 : (ow) = true) (h5 : rk = false) : (false : Bool) = (decide (1 ≤ d) && !(k == 13) && ((tops k == (m : Int)) && ow) && rk) := by
  first | (simp_all; done) | (simp_all; omega) | grind

theorem leaf_shape4_3 (k d : Int) (m : Nat) (ow rk : Bool) (h0 : (decide (d < 1)) = false) (h1 : ((tops k) == (m : Int)) = true) (h2 : (k == 13) = false) (h3 : (k == 14) = true) (h4 : (ow) = true) (h5 : rk = true) : (true : Bool) = (decide (1 ≤ d) && !(k == 13) && ((tops k == (m : Int)) && ow) && rk) := by
  first | (simp_all; done) | (simp_all; omega) | grind

theorem leaf_shape4_4 (k d : Int) (m : Nat) (ow rk : Bool) (h0 : (decide (d < 1)) = false) (h1 : ((tops k) == (m : Int)) = true) (h2 : (k == 13) = false) (h3 : (k == 14) = true) (h4 : (ow) = false) : (false : Bool) = (decide (1 ≤ d) && !(k == 13) && ((tops k == (m : Int)) && ow) && rk) := by
  first | (simp_all; done) | (simp_all; omega) | grind

theorem leaf_shape4_5 (k d : Int) (m : Nat) (ow rk : Bool) (h0 : (decide (d < 1)) = false) (h1 : ((tops k) == (m : Int)) = true) (h2 : (k == 13) = false) (h3 : (k == 14) = false) (h4 : (ow) = true) (h5 : rk = false) : (false : Bool) = (decide (1 ≤ d) && !(k == 13) && ((tops k == (m : Int)) && ow) && rk) := by
  first | (simp_all; done) | (simp_all; omega) | grind

theorem leaf_shape4_6 (k d : Int) (m : Nat) (ow rk : Bool) (h0 : (decide (d < 1)) = false) (h1 : ((tops k) == (m : Int)) = true) (h2 : (k == 13) = false) (h3 : (k == 14) = false) (h4 : (ow) = true) (h5 : rk = true) : (true : Bool) = (decide (1 ≤ d) && !(k == 13) && ((tops k == (m : Int)) && ow) && rk) := by
  first | (simp_all; done) | (simp_all; omega) | grind

theorem leaf_shape4_7 (k d : Int) (m : Nat) (ow rk : Bool) (h0 : (decide (d < 1)) = false) (h1 : ((tops k) == (m : Int)) = true) (h2 : (k == 13) = false) (h3 : (k == 14) = false) (h4 : (ow) = false) : (false : Bool) = (decide (1 ≤ d) && !(k == 13) && ((tops k == (m : Int)) && ow) && rk) := by
  first | (simp_all; done) | (simp_all; omega) | grind

theorem leaf_shape4_8 (k d : Int) (m : Nat) (ow rk : Bool) (h0 : (decide (d < 1)) = false) (h1 : ((tops k) == (m : Int)) = false) : (false : Bool) = (decide (1 ≤ d) && !(k == 13) && ((tops k == (m : Int)) && ow) && rk) := by
  first | (simp_all; done) | (simp_all; omega) | grind

set_option maxHeartbeats 8000000 in
theorem specL4Shape (F : Nat → Prop) (t : Tm) : ∀ (d : Int) (y : Value) (w : World), TmRep F w t y → 0 ≤ d → d ≤ 100 →
    Calls Try.prog 29 #[y, .int .i64 d] w fun e w' => e = .returned (.bool (t.shape 13 d)) ∧ Below w.heap.size w w' := by
  intro d y w hy hd0 hd5
  have IH : ∀ t' ∈ t.kids, ∀ (d : Int) (y : Value) (W : World), TmRep F W t' y → 0 ≤ d → d ≤ 100 → Calls Try.prog 29 #[y, .int .i64 d] W fun e W' => e = .returned (.bool (t'.shape 13 d)) ∧ Below W.heap.size W W' :=
    fun t' ht d y W a b c => specL4Shape F t' d y W a b c
  have ho := fun (hk : (t.kind == 14) = false) W (h : Below w.heap.size w W) => specL2Own F t y W (hy.below h) hk
  have ho4 := fun (hk : (t.kind == 14) = true) W (h : Below w.heap.size w W) => specL4Own F t y W (hy.below h) hk
  obtain ⟨k, nm, u, tk, ta, tn, tq, fk, fa, fn, fq, l, c, m, q, rfl⟩ := hy.shape
  obtain ⟨r1, r2, r3, r4, r5, r6, r7, r8, r9, rn, rm, rq, hty, hsr, hks⟩ := hy.parts
  cases t with | mk kk nn uu tt ff ll ts =>
  simp only [Tm.kind, Tm.name, Tm.num, Tm.type, Tm.src, Tm.label, Tm.kids] at *
  subst r1 r2 r3 r8
  unfold Tm.shape
  generalize (Tm.mk k nm u tt ff l ts).ownB = ow at *
  obtain ⟨rk, hrk⟩ : ∃ r, r = Tm.shapes ts 13 (d - 1) := ⟨_, rfl⟩
  rw [← hrk, ← r9]
  have HN := Lib.hid r9
  have HRK := Lib.hid hrk
  have HO := Lib.hid ho
  have HO4 := Lib.hid ho4
  have IHH := Lib.hid IH
  unfold maxLen at rq
  clear hrk ho IH hy r9 r4 r5 r6 r7 rn hty hsr ho4
  obtain ⟨rr, hrr⟩ : ∃ rr0 : Bool, (decide (1 ≤ d) && !(k == 13) && ((tops k == (m : Int)) && ow) && rk) = rr0 := ⟨_, rfl⟩
  rw [hrr]
  have HT := Lib.hid hrr
  clear hrr
  go_enter Try.func29, Try.ntmps29
  rcases Bool.eq_false_or_eq_true (decide (d < 1)) with q1 | q1
  · skip
    go_wp2_with fail
    refine wp_region_noPanic ?_
    refine wp_region_held_drew (S := fun w' => True) (by kernel_rfl) ?_ (fun hHeld0 => ?_)
    · exact trivial
    refine hwt 0 oS4_0 (.int .i64 d) hHeld0 ?_ ?_
    · intro w' hSw; dsimp only [oS4_0]; go_simp
    try simp only [oS4_0, hwA]
    refine hwt 1 oS4_1 (.bool true) hHeld0 ?_ ?_
    · intro w' hSw; dsimp only [oS4_1]; go_simp
    try simp only [oS4_1, hwA]
    refine hwt 2 oS4_2 (.bool true) hHeld0 ?_ ?_
    · intro w' hSw; dsimp only [oS4_2]; go_simp
    try simp only [oS4_2, hwA]
    refine hwn 3 oS4_3 hHeld0 ?_
    try simp only [oS4_3, hwA]
    refine hwn 4 oS4_4 hHeld0 ?_
    try simp only [oS4_4, hwA]
    refine hwn 5 oS4_5 hHeld0 ?_
    try simp only [oS4_5, hwA]
    refine hwn 6 oS4_6 hHeld0 ?_
    try simp only [oS4_6, hwA]
    refine hwn 7 oS4_7 hHeld0 ?_
    try simp only [oS4_7, hwA]
    refine hwn 8 oS4_8 hHeld0 ?_
    try simp only [oS4_8, hwA]
    refine hwn 9 oS4_9 hHeld0 ?_
    try simp only [oS4_9, hwA]
    refine hwt 10 oS4_10 (.bool true) hHeld0 ?_ ?_
    · intro w' hSw; dsimp only [oS4_10]; go_simp
    try simp only [oS4_10, hwA]
    refine hwt 11 oS4_11 (.bool true) hHeld0 ?_ ?_
    · intro w' hSw; dsimp only [oS4_11]; go_simp
    try simp only [oS4_11, hwA]
    refine hwn 12 oS4_12 hHeld0 ?_
    try simp only [oS4_12, hwA]
    refine hwn 13 oS4_13 hHeld0 ?_
    try simp only [oS4_13, hwA]
    refine hwn 14 oS4_14 hHeld0 ?_
    try simp only [oS4_14, hwA]
    refine hwt 15 oS4_15 (.bool true) hHeld0 ?_ ?_
    · intro w' hSw; dsimp only [oS4_15]; go_simp
    try simp only [oS4_15, hwA]
    refine hwt 16 oS4_16 (.bool true) hHeld0 ?_ ?_
    · intro w' hSw; dsimp only [oS4_16]; go_simp
    try simp only [oS4_16, hwA]
    refine hwn 17 oS4_17 hHeld0 ?_
    try simp only [oS4_17, hwA]
    refine hwn 18 oS4_18 hHeld0 ?_
    try simp only [oS4_18, hwA]
    refine hwn 19 oS4_19 hHeld0 ?_
    try simp only [oS4_19, hwA]
    refine hwn 20 oS4_20 hHeld0 ?_
    try simp only [oS4_20, hwA]
    refine hwn 21 oS4_21 hHeld0 ?_
    try simp only [oS4_21, hwA]
    refine hwn 22 oS4_22 hHeld0 ?_
    try simp only [oS4_22, hwA]
    refine hwn 23 oS4_23 hHeld0 ?_
    try simp only [oS4_23, hwA]
    refine hwn 24 oS4_24 hHeld0 ?_
    try simp only [oS4_24, hwA]
    refine hwt 25 oS4_25 (.bool true) hHeld0 ?_ ?_
    · intro w' hSw; dsimp only [oS4_25]; go_simp
    try simp only [oS4_25, hwA]
    refine hwt 26 oS4_26 (.bool true) hHeld0 ?_ ?_
    · intro w' hSw; dsimp only [oS4_26]; go_simp
    try simp only [oS4_26, hwA]
    refine hwn 27 oS4_27 hHeld0 ?_
    try simp only [oS4_27, hwA]
    refine hwn 28 oS4_28 hHeld0 ?_
    try simp only [oS4_28, hwA]
    refine hwn 29 oS4_29 hHeld0 ?_
    try simp only [oS4_29, hwA]
    refine hwn 30 oS4_30 hHeld0 ?_
    try simp only [oS4_30, hwA]
    refine hwn 31 oS4_31 hHeld0 ?_
    try simp only [oS4_31, hwA]
    refine hwn 32 oS4_32 hHeld0 ?_
    try simp only [oS4_32, hwA]
    refine hwn 33 oS4_33 hHeld0 ?_
    try simp only [oS4_33, hwA]
    refine hwn 34 oS4_34 hHeld0 ?_
    try simp only [oS4_34, hwA]
    refine hwt 35 oS4_35 (.bool true) hHeld0 ?_ ?_
    · intro w' hSw; dsimp only [oS4_35]; go_simp
    try simp only [oS4_35, hwA]
    refine wpAnyH_done (by kernel_rfl) ?_ _
    refine NoPanic.normal ?_
    clear hHeld0
    go_wp2_with fail
    refine bodyPost_ret (v := .bool (false)) (by simp [results, Try.results29, go_sem, bne]) rfl ?_
    exact ⟨ret_bool ((leaf_shape4_0 k d m ow rk q1).trans HT.out), bal1.drew⟩
  · skip
    rcases Bool.eq_false_or_eq_true ((tops k) == (m : Int)) with q2 | q2
    · skip
      have nq2 : ((tops k) != (m : Int)) = false := by simp only [bne, q2]; rfl
      rcases Bool.eq_false_or_eq_true (k == 13) with q3 | q3
      · skip
        have nq3 : (k != 13) = false := by simp only [bne, q3]; rfl
        go_wp2_with fail
        have s0_ : (World.alloc w (Obj.cells #[.int .i64 k, .string nm, .int .i64 u, .int .i64 tk, .slice ta tn tq, .int .i64 fk, .slice fa fn fq, .int .i64 l, .slice c m q] 36)).cell? ⟨w.heap.size, 0, none⟩ = some (.int .i64 k) := cell_new (by simp) 0
        have s1_ : (World.alloc w (Obj.cells #[.int .i64 k, .string nm, .int .i64 u, .int .i64 tk, .slice ta tn tq, .int .i64 fk, .slice fa fn fq, .int .i64 l, .slice c m q] 36)).cell? ⟨w.heap.size, 8, none⟩ = some (.slice c m q) := cell_new (by simp) 8
        refine wp_region_noPanic ?_
        refine wp_region_held_drew (S := fun w' => w'.cell? ⟨w.heap.size, 0, none⟩ = some (.int .i64 k) ∧ w'.cell? ⟨w.heap.size, 8, none⟩ = some (.slice c m q)) (by kernel_rfl) ?_ (fun hHeld0 => ?_)
        · exact ⟨dcell (s0_), dcell (s1_)⟩
        refine hwt 0 oS4_0 (.int .i64 d) hHeld0 ?_ ?_
        · intro w' hSw; dsimp only [oS4_0]; go_simp
        try simp only [oS4_0, hwA]
        refine hwt 1 oS4_1 (.bool false) hHeld0 ?_ ?_
        · intro w' hSw; dsimp only [oS4_1]; go_simp
        try simp only [oS4_1, hwA]
        refine hwt 2 oS4_2 (.bool false) hHeld0 ?_ ?_
        · intro w' hSw; dsimp only [oS4_2]; go_simp
        try simp only [oS4_2, hwA]
        refine hwt 3 oS4_3 (.pointer (some ⟨w.heap.size, 0, none⟩)) hHeld0 ?_ ?_
        · intro w' hSw; dsimp only [oS4_3]; go_simp
        try simp only [oS4_3, hwA]
        refine hwt 4 oS4_4 (.int .i64 k) hHeld0 ?_ ?_
        · intro w' hSw; dsimp only [oS4_4]; go_simp
        try simp only [oS4_4, hwA]
        refine hwt 6 oS4_6 (.pointer (some ⟨w.heap.size, 8, none⟩)) hHeld0 ?_ ?_
        · intro w' hSw; dsimp only [oS4_6]; go_simp
        try simp only [oS4_6, hwA]
        refine hwt 7 oS4_7 (.slice c m q) hHeld0 ?_ ?_
        · intro w' hSw; dsimp only [oS4_7]; go_simp
        try simp only [oS4_7, hwA]
        refine hwt 8 oS4_8 (.int .i64 (m : Int)) hHeld0 ?_ ?_
        · intro w' hSw; dsimp only [oS4_8]; go_simp
        try simp only [oS4_8, hwA]
        refine hwr 5 oS4_5 (fun K hK => ?_)
        dsimp only [oS4_5]; go_simp
        go_at_call 42
        (with_reducible refine (specL2Kids k _).mono ?_)
        rintro e w1 ⟨rfl, hb1⟩
        go_wp2_with fail
        refine hK.out _ _ ?_ (fun hHeld1 => ?_)
        · exact ⟨bcell hb1 (dcell (s0_)), bcell hb1 (dcell (s1_))⟩
        clear hK K hHeld0
        try simp only [oS4_5, hwA]
        refine hwt 9 oS4_9 (.bool false) hHeld1 ?_ ?_
        · intro w' hSw; dsimp only [oS4_9]; go_simp
        try simp only [oS4_9, hwA]
        refine hwt 10 oS4_10 (.bool false) hHeld1 ?_ ?_
        · intro w' hSw; dsimp only [oS4_10]; go_simp
        try simp only [oS4_10, hwA]
        refine hwt 11 oS4_11 (.bool false) hHeld1 ?_ ?_
        · intro w' hSw; dsimp only [oS4_11]; go_simp
        try simp only [oS4_11, hwA]
        refine hwt 12 oS4_12 (.pointer (some ⟨w.heap.size, 0, none⟩)) hHeld1 ?_ ?_
        · intro w' hSw; dsimp only [oS4_12]; go_simp
        try simp only [oS4_12, hwA]
        refine hwt 13 oS4_13 (.int .i64 k) hHeld1 ?_ ?_
        · intro w' hSw; dsimp only [oS4_13]; go_simp
        try simp only [oS4_13, hwA]
        refine hwt 14 oS4_14 (.bool true) hHeld1 ?_ ?_
        · intro w' hSw; dsimp only [oS4_14]; go_simp
        try simp only [oS4_14, hwA]
        refine hwt 15 oS4_15 (.bool true) hHeld1 ?_ ?_
        · intro w' hSw; dsimp only [oS4_15]; go_simp
        try simp only [oS4_15, hwA]
        refine hwt 16 oS4_16 (.bool true) hHeld1 ?_ ?_
        · intro w' hSw; dsimp only [oS4_16]; go_simp
        try simp only [oS4_16, hwA]
        refine hwn 17 oS4_17 hHeld1 ?_
        try simp only [oS4_17, hwA]
        refine hwn 18 oS4_18 hHeld1 ?_
        try simp only [oS4_18, hwA]
        refine hwn 19 oS4_19 hHeld1 ?_
        try simp only [oS4_19, hwA]
        refine hwn 20 oS4_20 hHeld1 ?_
        try simp only [oS4_20, hwA]
        refine hwn 21 oS4_21 hHeld1 ?_
        try simp only [oS4_21, hwA]
        refine hwn 22 oS4_22 hHeld1 ?_
        try simp only [oS4_22, hwA]
        refine hwn 23 oS4_23 hHeld1 ?_
        try simp only [oS4_23, hwA]
        refine hwn 24 oS4_24 hHeld1 ?_
        try simp only [oS4_24, hwA]
        refine hwt 25 oS4_25 (.bool true) hHeld1 ?_ ?_
        · intro w' hSw; dsimp only [oS4_25]; go_simp
        try simp only [oS4_25, hwA]
        refine hwt 26 oS4_26 (.bool true) hHeld1 ?_ ?_
        · intro w' hSw; dsimp only [oS4_26]; go_simp
        try simp only [oS4_26, hwA]
        refine hwn 27 oS4_27 hHeld1 ?_
        try simp only [oS4_27, hwA]
        refine hwn 28 oS4_28 hHeld1 ?_
        try simp only [oS4_28, hwA]
        refine hwn 29 oS4_29 hHeld1 ?_
        try simp only [oS4_29, hwA]
        refine hwn 30 oS4_30 hHeld1 ?_
        try simp only [oS4_30, hwA]
        refine hwn 31 oS4_31 hHeld1 ?_
        try simp only [oS4_31, hwA]
        refine hwn 32 oS4_32 hHeld1 ?_
        try simp only [oS4_32, hwA]
        refine hwn 33 oS4_33 hHeld1 ?_
        try simp only [oS4_33, hwA]
        refine hwn 34 oS4_34 hHeld1 ?_
        try simp only [oS4_34, hwA]
        refine hwt 35 oS4_35 (.bool true) hHeld1 ?_ ?_
        · intro w' hSw; dsimp only [oS4_35]; go_simp
        try simp only [oS4_35, hwA]
        refine wpAnyH_done (by kernel_rfl) ?_ _
        refine NoPanic.normal ?_
        clear hHeld1 s0_ s1_
        have hB := (bstep bal1.drew hb1)
        have zw1 := hB.size
        go_wp2_with fail
        refine bodyPost_ret (v := .bool (false)) (by simp [results, Try.results29, go_sem, bne]) rfl ?_
        exact ⟨ret_bool ((leaf_shape4_1 k d m ow rk q1 q2 q3).trans HT.out), hB⟩
      · skip
        have nq3 : (k != 13) = true := by simp only [bne, q3]; rfl
        rcases Bool.eq_false_or_eq_true (k == 14) with q4 | q4
        · skip
          have nq4 : (k != 14) = false := by simp only [bne, q4]; rfl
          rcases Bool.eq_false_or_eq_true (ow) with q5 | q5
          · have Hq5 := Lib.hid q5
            clear q5
            go_wp2_with fail
            have s0_ : (World.alloc w (Obj.cells #[.int .i64 k, .string nm, .int .i64 u, .int .i64 tk, .slice ta tn tq, .int .i64 fk, .slice fa fn fq, .int .i64 l, .slice c m q] 36)).cell? ⟨w.heap.size, 0, none⟩ = some (.int .i64 k) := cell_new (by simp) 0
            have s1_ : (World.alloc w (Obj.cells #[.int .i64 k, .string nm, .int .i64 u, .int .i64 tk, .slice ta tn tq, .int .i64 fk, .slice fa fn fq, .int .i64 l, .slice c m q] 36)).cell? ⟨w.heap.size, 8, none⟩ = some (.slice c m q) := cell_new (by simp) 8
            have s2_ : (World.alloc w (Obj.cells #[.int .i64 k, .string nm, .int .i64 u, .int .i64 tk, .slice ta tn tq, .int .i64 fk, .slice fa fn fq, .int .i64 l, .slice c m q] 36)).cell? ⟨w.heap.size, 1, none⟩ = some (.string nm) := cell_new (by simp) 1
            have s3_ : (World.alloc w (Obj.cells #[.int .i64 k, .string nm, .int .i64 u, .int .i64 tk, .slice ta tn tq, .int .i64 fk, .slice fa fn fq, .int .i64 l, .slice c m q] 36)).cell? ⟨w.heap.size, 2, none⟩ = some (.int .i64 u) := cell_new (by simp) 2
            have s4_ : (World.alloc w (Obj.cells #[.int .i64 k, .string nm, .int .i64 u, .int .i64 tk, .slice ta tn tq, .int .i64 fk, .slice fa fn fq, .int .i64 l, .slice c m q] 36)).cell? ⟨w.heap.size, 3, none⟩ = some (.int .i64 tk) := cell_new (by simp) 3
            have s5_ : (World.alloc w (Obj.cells #[.int .i64 k, .string nm, .int .i64 u, .int .i64 tk, .slice ta tn tq, .int .i64 fk, .slice fa fn fq, .int .i64 l, .slice c m q] 36)).cell? ⟨w.heap.size, 4, none⟩ = some (.slice ta tn tq) := cell_new (by simp) 4
            have s6_ : (World.alloc w (Obj.cells #[.int .i64 k, .string nm, .int .i64 u, .int .i64 tk, .slice ta tn tq, .int .i64 fk, .slice fa fn fq, .int .i64 l, .slice c m q] 36)).cell? ⟨w.heap.size, 5, none⟩ = some (.int .i64 fk) := cell_new (by simp) 5
            have s7_ : (World.alloc w (Obj.cells #[.int .i64 k, .string nm, .int .i64 u, .int .i64 tk, .slice ta tn tq, .int .i64 fk, .slice fa fn fq, .int .i64 l, .slice c m q] 36)).cell? ⟨w.heap.size, 6, none⟩ = some (.slice fa fn fq) := cell_new (by simp) 6
            have s8_ : (World.alloc w (Obj.cells #[.int .i64 k, .string nm, .int .i64 u, .int .i64 tk, .slice ta tn tq, .int .i64 fk, .slice fa fn fq, .int .i64 l, .slice c m q] 36)).cell? ⟨w.heap.size, 7, none⟩ = some (.int .i64 l) := cell_new (by simp) 7
            refine wp_region_noPanic ?_
            refine wp_region_held_drew (S := fun w' => w'.cell? ⟨w.heap.size, 0, none⟩ = some (.int .i64 k) ∧ w'.cell? ⟨w.heap.size, 8, none⟩ = some (.slice c m q) ∧ w'.cell? ⟨w.heap.size, 1, none⟩ = some (.string nm) ∧ w'.cell? ⟨w.heap.size, 2, none⟩ = some (.int .i64 u) ∧ w'.cell? ⟨w.heap.size, 3, none⟩ = some (.int .i64 tk) ∧ w'.cell? ⟨w.heap.size, 4, none⟩ = some (.slice ta tn tq) ∧ w'.cell? ⟨w.heap.size, 5, none⟩ = some (.int .i64 fk) ∧ w'.cell? ⟨w.heap.size, 6, none⟩ = some (.slice fa fn fq) ∧ w'.cell? ⟨w.heap.size, 7, none⟩ = some (.int .i64 l)) (by kernel_rfl) ?_ (fun hHeld0 => ?_)
            · exact ⟨dcell (s0_), dcell (s1_), dcell (s2_), dcell (s3_), dcell (s4_), dcell (s5_), dcell (s6_), dcell (s7_), dcell (s8_)⟩
            refine hwt 0 oS4_0 (.int .i64 d) hHeld0 ?_ ?_
            · intro w' hSw; dsimp only [oS4_0]; go_simp
            try simp only [oS4_0, hwA]
            refine hwt 1 oS4_1 (.bool false) hHeld0 ?_ ?_
            · intro w' hSw; dsimp only [oS4_1]; go_simp
            try simp only [oS4_1, hwA]
            refine hwt 2 oS4_2 (.bool false) hHeld0 ?_ ?_
            · intro w' hSw; dsimp only [oS4_2]; go_simp
            try simp only [oS4_2, hwA]
            refine hwt 3 oS4_3 (.pointer (some ⟨w.heap.size, 0, none⟩)) hHeld0 ?_ ?_
            · intro w' hSw; dsimp only [oS4_3]; go_simp
            try simp only [oS4_3, hwA]
            refine hwt 4 oS4_4 (.int .i64 k) hHeld0 ?_ ?_
            · intro w' hSw; dsimp only [oS4_4]; go_simp
            try simp only [oS4_4, hwA]
            refine hwt 6 oS4_6 (.pointer (some ⟨w.heap.size, 8, none⟩)) hHeld0 ?_ ?_
            · intro w' hSw; dsimp only [oS4_6]; go_simp
            try simp only [oS4_6, hwA]
            refine hwt 7 oS4_7 (.slice c m q) hHeld0 ?_ ?_
            · intro w' hSw; dsimp only [oS4_7]; go_simp
            try simp only [oS4_7, hwA]
            refine hwt 8 oS4_8 (.int .i64 (m : Int)) hHeld0 ?_ ?_
            · intro w' hSw; dsimp only [oS4_8]; go_simp
            try simp only [oS4_8, hwA]
            refine hwr 5 oS4_5 (fun K hK => ?_)
            dsimp only [oS4_5]; go_simp
            go_at_call 42
            (with_reducible refine (specL2Kids k _).mono ?_)
            rintro e w2 ⟨rfl, hb2⟩
            go_wp2_with fail
            refine hK.out _ _ ?_ (fun hHeld1 => ?_)
            · exact ⟨bcell hb2 (dcell (s0_)), bcell hb2 (dcell (s1_)), bcell hb2 (dcell (s2_)), bcell hb2 (dcell (s3_)), bcell hb2 (dcell (s4_)), bcell hb2 (dcell (s5_)), bcell hb2 (dcell (s6_)), bcell hb2 (dcell (s7_)), bcell hb2 (dcell (s8_))⟩
            clear hK K hHeld0
            try simp only [oS4_5, hwA]
            refine hwt 9 oS4_9 (.bool false) hHeld1 ?_ ?_
            · intro w' hSw; dsimp only [oS4_9]; go_simp
            try simp only [oS4_9, hwA]
            refine hwt 10 oS4_10 (.bool false) hHeld1 ?_ ?_
            · intro w' hSw; dsimp only [oS4_10]; go_simp
            try simp only [oS4_10, hwA]
            refine hwt 11 oS4_11 (.bool false) hHeld1 ?_ ?_
            · intro w' hSw; dsimp only [oS4_11]; go_simp
            try simp only [oS4_11, hwA]
            refine hwt 12 oS4_12 (.pointer (some ⟨w.heap.size, 0, none⟩)) hHeld1 ?_ ?_
            · intro w' hSw; dsimp only [oS4_12]; go_simp
            try simp only [oS4_12, hwA]
            refine hwt 13 oS4_13 (.int .i64 k) hHeld1 ?_ ?_
            · intro w' hSw; dsimp only [oS4_13]; go_simp
            try simp only [oS4_13, hwA]
            refine hwt 14 oS4_14 (.bool false) hHeld1 ?_ ?_
            · intro w' hSw; dsimp only [oS4_14]; go_simp
            try simp only [oS4_14, hwA]
            refine hwt 15 oS4_15 (.bool false) hHeld1 ?_ ?_
            · intro w' hSw; dsimp only [oS4_15]; go_simp
            try simp only [oS4_15, hwA]
            refine hwt 16 oS4_16 (.bool false) hHeld1 ?_ ?_
            · intro w' hSw; dsimp only [oS4_16]; go_simp
            try simp only [oS4_16, hwA]
            refine hwt 17 oS4_17 (.pointer (some ⟨w.heap.size, 0, none⟩)) hHeld1 ?_ ?_
            · intro w' hSw; dsimp only [oS4_17]; go_simp
            try simp only [oS4_17, hwA]
            refine hwt 18 oS4_18 (.int .i64 k) hHeld1 ?_ ?_
            · intro w' hSw; dsimp only [oS4_18]; go_simp
            try simp only [oS4_18, hwA]
            refine hwt 19 oS4_19 (.bool true) hHeld1 ?_ ?_
            · intro w' hSw; dsimp only [oS4_19]; go_simp
            try simp only [oS4_19, hwA]
            refine hwt 20 oS4_20 (.bool true) hHeld1 ?_ ?_
            · intro w' hSw; dsimp only [oS4_20]; go_simp
            try simp only [oS4_20, hwA]
            refine hwt 21 oS4_21 (.agg #[.int .i64 k, .string nm, .int .i64 u, .int .i64 tk, .slice ta tn tq, .int .i64 fk, .slice fa fn fq, .int .i64 l, .slice c m q]) hHeld1 ?_ ?_
            · intro w' hSw; dsimp only [oS4_21]; go_simp
            try simp only [oS4_21, hwA]
            refine hwr 22 oS4_22 (fun K hK => ?_)
            dsimp only [oS4_22]; go_simp
            go_at_call 43
            (with_reducible refine (HO4.out q4 _ (bstep bal1.drew hb2)).mono ?_)
            rintro e w3 ⟨rfl, hb3⟩
            rw [Hq5.out]
            go_wp2_with fail
            refine hK.out _ _ ?_ (fun hHeld2 => ?_)
            · exact ⟨bcell hb3 (bcell hb2 (dcell (s0_))), bcell hb3 (bcell hb2 (dcell (s1_))), bcell hb3 (bcell hb2 (dcell (s2_))), bcell hb3 (bcell hb2 (dcell (s3_))), bcell hb3 (bcell hb2 (dcell (s4_))), bcell hb3 (bcell hb2 (dcell (s5_))), bcell hb3 (bcell hb2 (dcell (s6_))), bcell hb3 (bcell hb2 (dcell (s7_))), bcell hb3 (bcell hb2 (dcell (s8_)))⟩
            clear hK K hHeld1
            try simp only [oS4_22, hwA]
            refine hwt 23 oS4_23 (.bool false) hHeld2 ?_ ?_
            · intro w' hSw; dsimp only [oS4_23]; go_simp
            try simp only [oS4_23, hwA]
            refine hwt 24 oS4_24 (.bool false) hHeld2 ?_ ?_
            · intro w' hSw; dsimp only [oS4_24]; go_simp
            try simp only [oS4_24, hwA]
            refine hwt 25 oS4_25 (.bool false) hHeld2 ?_ ?_
            · intro w' hSw; dsimp only [oS4_25]; go_simp
            try simp only [oS4_25, hwA]
            refine hwt 26 oS4_26 (.bool false) hHeld2 ?_ ?_
            · intro w' hSw; dsimp only [oS4_26]; go_simp
            try simp only [oS4_26, hwA]
            refine hwt 27 oS4_27 (.pointer (some ⟨w.heap.size, 0, none⟩)) hHeld2 ?_ ?_
            · intro w' hSw; dsimp only [oS4_27]; go_simp
            try simp only [oS4_27, hwA]
            refine hwt 28 oS4_28 (.int .i64 k) hHeld2 ?_ ?_
            · intro w' hSw; dsimp only [oS4_28]; go_simp
            try simp only [oS4_28, hwA]
            refine hwt 29 oS4_29 (.bool false) hHeld2 ?_ ?_
            · intro w' hSw; dsimp only [oS4_29]; go_simp
            try simp only [oS4_29, hwA]
            refine hwt 30 oS4_30 (.bool false) hHeld2 ?_ ?_
            · intro w' hSw; dsimp only [oS4_30]; go_simp
            try simp only [oS4_30, hwA]
            refine hwn 31 oS4_31 hHeld2 ?_
            try simp only [oS4_31, hwA]
            refine hwn 32 oS4_32 hHeld2 ?_
            try simp only [oS4_32, hwA]
            refine hwn 33 oS4_33 hHeld2 ?_
            try simp only [oS4_33, hwA]
            refine hwt 34 oS4_34 (.bool false) hHeld2 ?_ ?_
            · intro w' hSw; dsimp only [oS4_34]; go_simp
            try simp only [oS4_34, hwA]
            refine hwt 35 oS4_35 (.bool false) hHeld2 ?_ ?_
            · intro w' hSw; dsimp only [oS4_35]; go_simp
            try simp only [oS4_35, hwA]
            refine wpAnyH_done (by kernel_rfl) ?_ _
            refine NoPanic.normal ?_
            clear hHeld2 s0_ s1_ s2_ s3_ s4_ s5_ s6_ s7_ s8_
            have hB := (bstep (bstep bal1.drew hb2) hb3)
            have zw3 := hB.size
            have c0_8 : w3.cell? ⟨w.heap.size, 8, none⟩ = some (.slice c m q) := bcell hb3 (bcell hb2 (dcell (cell_new (by simp) 8)))
            have d0_w3 := World.block_lt_of_cell? _ _ c0_8
            go_wp2_with fail
            go_loopw [5] (fun i wr => ∃ j : Nat, j ≤ m ∧ i = .int .i64 j ∧ Below w.heap.size w wr ∧ wr.cell? ⟨w.heap.size, 8, none⟩ = some (.slice c m q) ∧ Hid (rk = Tm.shapes (ts.drop j) 13 (d - 1))) (fun i _ => m - (intOf i).toNat)
            case atStart => exact ⟨0, by omega, rfl, hB, c0_8, HRK.out⟩
            case round =>
              obtain ⟨j, hj, rfl, hB, x0, hR0⟩ := hrel
              have lx1 := World.block_lt_of_cell? _ _ x0
              by_cases hlt : j < m
              · have hjt : j < ts.length := by have := HN.out; omega
                obtain ⟨b, off, k0, nm0, u0, tk0, ta0, tn0, tq0, fk0, fa0, fn0, fq0, l0, a0, m0, q0, rfl, lb, e0, e1, e2, e3, e4, e5, e6, e7, e8, ht⟩ := hks.at hB hjt
                have hcall := IHH.out ts[j] (List.getElem_mem hjt) (d - 1)
                have hstep := hR0.out.trans (Tm.shapes_drop ts 13 (d - 1) j hjt)
                generalize ts[j].shape 13 (d - 1) = r at hcall hstep
                have HC := Lib.hid hcall
                have HS := Lib.hid hstep
                clear hcall hstep hR0
                have hwr := IntWalk.i64_in (d - 1) (by omega)
                go_wp2_with fail
                refine (HC.out _ _ ht (by have h := q1; simp only [decide_eq_false_iff_not] at h; omega) (by have h := q1; simp only [decide_eq_false_iff_not] at h; omega)).mono ?_
                rintro e w4 ⟨rfl, hb4⟩
                replace hB := (bstep hB hb4)
                have zw4 := hB.size
                replace x0 : w4.cell? ⟨w.heap.size, 8, none⟩ = some (.slice (some ⟨b, off, none⟩) m q) := bcell hb4 (x0)
                have d0_w4 := World.block_lt_of_cell? _ _ x0
                rcases Bool.eq_false_or_eq_true (r) with q6 | q6
                · (try rw [q6])
                  have Hq6 := Lib.hid q6
                  clear q6
                  have hwr := IntWalk.i64_in ((j : Int) + 1) (by omega)
                  go_wp2_with fail
                  go_roundw
                  case rel => exact ⟨j + 1, by omega, by go_num, hB, x0, (by rw [Hid, HS.out, Hq6.out]; rfl)⟩
                  case measure => simp [intOf]; omega
                · (try rw [q6])
                  have Hq6 := Lib.hid q6
                  clear q6
                  go_wp2_with fail
                  refine bodyPost_ret (v := .bool (false)) (by simp [results, Try.results29, go_sem, bne]) rfl ?_
                  exact ⟨ret_bool ((leaf_shape4_2 k d m ow rk q1 q2 q3 q4 Hq5.out (by rw [HS.out, Hq6.out]; rfl)).trans HT.out), hB⟩
              · skip
                have HRK : Hid (rk = true) := Lib.hid (by rw [hR0.out, List.drop_eq_nil_of_le (by have := HN.out; omega)]; unfold Tm.shapes; rfl)
                go_wp2_with fail
                refine bodyPost_ret (v := .bool (true)) (by simp [results, Try.results29, go_sem, bne]) rfl ?_
                exact ⟨ret_bool ((leaf_shape4_3 k d m ow rk q1 q2 q3 q4 Hq5.out HRK.out).trans HT.out), hB⟩
          · have Hq5 := Lib.hid q5
            clear q5
            go_wp2_with fail
            have s0_ : (World.alloc w (Obj.cells #[.int .i64 k, .string nm, .int .i64 u, .int .i64 tk, .slice ta tn tq, .int .i64 fk, .slice fa fn fq, .int .i64 l, .slice c m q] 36)).cell? ⟨w.heap.size, 0, none⟩ = some (.int .i64 k) := cell_new (by simp) 0
            have s1_ : (World.alloc w (Obj.cells #[.int .i64 k, .string nm, .int .i64 u, .int .i64 tk, .slice ta tn tq, .int .i64 fk, .slice fa fn fq, .int .i64 l, .slice c m q] 36)).cell? ⟨w.heap.size, 8, none⟩ = some (.slice c m q) := cell_new (by simp) 8
            have s2_ : (World.alloc w (Obj.cells #[.int .i64 k, .string nm, .int .i64 u, .int .i64 tk, .slice ta tn tq, .int .i64 fk, .slice fa fn fq, .int .i64 l, .slice c m q] 36)).cell? ⟨w.heap.size, 1, none⟩ = some (.string nm) := cell_new (by simp) 1
            have s3_ : (World.alloc w (Obj.cells #[.int .i64 k, .string nm, .int .i64 u, .int .i64 tk, .slice ta tn tq, .int .i64 fk, .slice fa fn fq, .int .i64 l, .slice c m q] 36)).cell? ⟨w.heap.size, 2, none⟩ = some (.int .i64 u) := cell_new (by simp) 2
            have s4_ : (World.alloc w (Obj.cells #[.int .i64 k, .string nm, .int .i64 u, .int .i64 tk, .slice ta tn tq, .int .i64 fk, .slice fa fn fq, .int .i64 l, .slice c m q] 36)).cell? ⟨w.heap.size, 3, none⟩ = some (.int .i64 tk) := cell_new (by simp) 3
            have s5_ : (World.alloc w (Obj.cells #[.int .i64 k, .string nm, .int .i64 u, .int .i64 tk, .slice ta tn tq, .int .i64 fk, .slice fa fn fq, .int .i64 l, .slice c m q] 36)).cell? ⟨w.heap.size, 4, none⟩ = some (.slice ta tn tq) := cell_new (by simp) 4
            have s6_ : (World.alloc w (Obj.cells #[.int .i64 k, .string nm, .int .i64 u, .int .i64 tk, .slice ta tn tq, .int .i64 fk, .slice fa fn fq, .int .i64 l, .slice c m q] 36)).cell? ⟨w.heap.size, 5, none⟩ = some (.int .i64 fk) := cell_new (by simp) 5
            have s7_ : (World.alloc w (Obj.cells #[.int .i64 k, .string nm, .int .i64 u, .int .i64 tk, .slice ta tn tq, .int .i64 fk, .slice fa fn fq, .int .i64 l, .slice c m q] 36)).cell? ⟨w.heap.size, 6, none⟩ = some (.slice fa fn fq) := cell_new (by simp) 6
            have s8_ : (World.alloc w (Obj.cells #[.int .i64 k, .string nm, .int .i64 u, .int .i64 tk, .slice ta tn tq, .int .i64 fk, .slice fa fn fq, .int .i64 l, .slice c m q] 36)).cell? ⟨w.heap.size, 7, none⟩ = some (.int .i64 l) := cell_new (by simp) 7
            refine wp_region_noPanic ?_
            refine wp_region_held_drew (S := fun w' => w'.cell? ⟨w.heap.size, 0, none⟩ = some (.int .i64 k) ∧ w'.cell? ⟨w.heap.size, 8, none⟩ = some (.slice c m q) ∧ w'.cell? ⟨w.heap.size, 1, none⟩ = some (.string nm) ∧ w'.cell? ⟨w.heap.size, 2, none⟩ = some (.int .i64 u) ∧ w'.cell? ⟨w.heap.size, 3, none⟩ = some (.int .i64 tk) ∧ w'.cell? ⟨w.heap.size, 4, none⟩ = some (.slice ta tn tq) ∧ w'.cell? ⟨w.heap.size, 5, none⟩ = some (.int .i64 fk) ∧ w'.cell? ⟨w.heap.size, 6, none⟩ = some (.slice fa fn fq) ∧ w'.cell? ⟨w.heap.size, 7, none⟩ = some (.int .i64 l)) (by kernel_rfl) ?_ (fun hHeld0 => ?_)
            · exact ⟨dcell (s0_), dcell (s1_), dcell (s2_), dcell (s3_), dcell (s4_), dcell (s5_), dcell (s6_), dcell (s7_), dcell (s8_)⟩
            refine hwt 0 oS4_0 (.int .i64 d) hHeld0 ?_ ?_
            · intro w' hSw; dsimp only [oS4_0]; go_simp
            try simp only [oS4_0, hwA]
            refine hwt 1 oS4_1 (.bool false) hHeld0 ?_ ?_
            · intro w' hSw; dsimp only [oS4_1]; go_simp
            try simp only [oS4_1, hwA]
            refine hwt 2 oS4_2 (.bool false) hHeld0 ?_ ?_
            · intro w' hSw; dsimp only [oS4_2]; go_simp
            try simp only [oS4_2, hwA]
            refine hwt 3 oS4_3 (.pointer (some ⟨w.heap.size, 0, none⟩)) hHeld0 ?_ ?_
            · intro w' hSw; dsimp only [oS4_3]; go_simp
            try simp only [oS4_3, hwA]
            refine hwt 4 oS4_4 (.int .i64 k) hHeld0 ?_ ?_
            · intro w' hSw; dsimp only [oS4_4]; go_simp
            try simp only [oS4_4, hwA]
            refine hwt 6 oS4_6 (.pointer (some ⟨w.heap.size, 8, none⟩)) hHeld0 ?_ ?_
            · intro w' hSw; dsimp only [oS4_6]; go_simp
            try simp only [oS4_6, hwA]
            refine hwt 7 oS4_7 (.slice c m q) hHeld0 ?_ ?_
            · intro w' hSw; dsimp only [oS4_7]; go_simp
            try simp only [oS4_7, hwA]
            refine hwt 8 oS4_8 (.int .i64 (m : Int)) hHeld0 ?_ ?_
            · intro w' hSw; dsimp only [oS4_8]; go_simp
            try simp only [oS4_8, hwA]
            refine hwr 5 oS4_5 (fun K hK => ?_)
            dsimp only [oS4_5]; go_simp
            go_at_call 42
            (with_reducible refine (specL2Kids k _).mono ?_)
            rintro e w5 ⟨rfl, hb5⟩
            go_wp2_with fail
            refine hK.out _ _ ?_ (fun hHeld1 => ?_)
            · exact ⟨bcell hb5 (dcell (s0_)), bcell hb5 (dcell (s1_)), bcell hb5 (dcell (s2_)), bcell hb5 (dcell (s3_)), bcell hb5 (dcell (s4_)), bcell hb5 (dcell (s5_)), bcell hb5 (dcell (s6_)), bcell hb5 (dcell (s7_)), bcell hb5 (dcell (s8_))⟩
            clear hK K hHeld0
            try simp only [oS4_5, hwA]
            refine hwt 9 oS4_9 (.bool false) hHeld1 ?_ ?_
            · intro w' hSw; dsimp only [oS4_9]; go_simp
            try simp only [oS4_9, hwA]
            refine hwt 10 oS4_10 (.bool false) hHeld1 ?_ ?_
            · intro w' hSw; dsimp only [oS4_10]; go_simp
            try simp only [oS4_10, hwA]
            refine hwt 11 oS4_11 (.bool false) hHeld1 ?_ ?_
            · intro w' hSw; dsimp only [oS4_11]; go_simp
            try simp only [oS4_11, hwA]
            refine hwt 12 oS4_12 (.pointer (some ⟨w.heap.size, 0, none⟩)) hHeld1 ?_ ?_
            · intro w' hSw; dsimp only [oS4_12]; go_simp
            try simp only [oS4_12, hwA]
            refine hwt 13 oS4_13 (.int .i64 k) hHeld1 ?_ ?_
            · intro w' hSw; dsimp only [oS4_13]; go_simp
            try simp only [oS4_13, hwA]
            refine hwt 14 oS4_14 (.bool false) hHeld1 ?_ ?_
            · intro w' hSw; dsimp only [oS4_14]; go_simp
            try simp only [oS4_14, hwA]
            refine hwt 15 oS4_15 (.bool false) hHeld1 ?_ ?_
            · intro w' hSw; dsimp only [oS4_15]; go_simp
            try simp only [oS4_15, hwA]
            refine hwt 16 oS4_16 (.bool false) hHeld1 ?_ ?_
            · intro w' hSw; dsimp only [oS4_16]; go_simp
            try simp only [oS4_16, hwA]
            refine hwt 17 oS4_17 (.pointer (some ⟨w.heap.size, 0, none⟩)) hHeld1 ?_ ?_
            · intro w' hSw; dsimp only [oS4_17]; go_simp
            try simp only [oS4_17, hwA]
            refine hwt 18 oS4_18 (.int .i64 k) hHeld1 ?_ ?_
            · intro w' hSw; dsimp only [oS4_18]; go_simp
            try simp only [oS4_18, hwA]
            refine hwt 19 oS4_19 (.bool true) hHeld1 ?_ ?_
            · intro w' hSw; dsimp only [oS4_19]; go_simp
            try simp only [oS4_19, hwA]
            refine hwt 20 oS4_20 (.bool true) hHeld1 ?_ ?_
            · intro w' hSw; dsimp only [oS4_20]; go_simp
            try simp only [oS4_20, hwA]
            refine hwt 21 oS4_21 (.agg #[.int .i64 k, .string nm, .int .i64 u, .int .i64 tk, .slice ta tn tq, .int .i64 fk, .slice fa fn fq, .int .i64 l, .slice c m q]) hHeld1 ?_ ?_
            · intro w' hSw; dsimp only [oS4_21]; go_simp
            try simp only [oS4_21, hwA]
            refine hwr 22 oS4_22 (fun K hK => ?_)
            dsimp only [oS4_22]; go_simp
            go_at_call 43
            (with_reducible refine (HO4.out q4 _ (bstep bal1.drew hb5)).mono ?_)
            rintro e w6 ⟨rfl, hb6⟩
            rw [Hq5.out]
            go_wp2_with fail
            refine hK.out _ _ ?_ (fun hHeld2 => ?_)
            · exact ⟨bcell hb6 (bcell hb5 (dcell (s0_))), bcell hb6 (bcell hb5 (dcell (s1_))), bcell hb6 (bcell hb5 (dcell (s2_))), bcell hb6 (bcell hb5 (dcell (s3_))), bcell hb6 (bcell hb5 (dcell (s4_))), bcell hb6 (bcell hb5 (dcell (s5_))), bcell hb6 (bcell hb5 (dcell (s6_))), bcell hb6 (bcell hb5 (dcell (s7_))), bcell hb6 (bcell hb5 (dcell (s8_)))⟩
            clear hK K hHeld1
            try simp only [oS4_22, hwA]
            refine hwt 23 oS4_23 (.bool true) hHeld2 ?_ ?_
            · intro w' hSw; dsimp only [oS4_23]; go_simp
            try simp only [oS4_23, hwA]
            refine hwt 24 oS4_24 (.bool true) hHeld2 ?_ ?_
            · intro w' hSw; dsimp only [oS4_24]; go_simp
            try simp only [oS4_24, hwA]
            refine hwt 25 oS4_25 (.bool true) hHeld2 ?_ ?_
            · intro w' hSw; dsimp only [oS4_25]; go_simp
            try simp only [oS4_25, hwA]
            refine hwt 26 oS4_26 (.bool true) hHeld2 ?_ ?_
            · intro w' hSw; dsimp only [oS4_26]; go_simp
            try simp only [oS4_26, hwA]
            refine hwn 27 oS4_27 hHeld2 ?_
            try simp only [oS4_27, hwA]
            refine hwn 28 oS4_28 hHeld2 ?_
            try simp only [oS4_28, hwA]
            refine hwn 29 oS4_29 hHeld2 ?_
            try simp only [oS4_29, hwA]
            refine hwn 30 oS4_30 hHeld2 ?_
            try simp only [oS4_30, hwA]
            refine hwn 31 oS4_31 hHeld2 ?_
            try simp only [oS4_31, hwA]
            refine hwn 32 oS4_32 hHeld2 ?_
            try simp only [oS4_32, hwA]
            refine hwn 33 oS4_33 hHeld2 ?_
            try simp only [oS4_33, hwA]
            refine hwn 34 oS4_34 hHeld2 ?_
            try simp only [oS4_34, hwA]
            refine hwt 35 oS4_35 (.bool true) hHeld2 ?_ ?_
            · intro w' hSw; dsimp only [oS4_35]; go_simp
            try simp only [oS4_35, hwA]
            refine wpAnyH_done (by kernel_rfl) ?_ _
            refine NoPanic.normal ?_
            clear hHeld2 s0_ s1_ s2_ s3_ s4_ s5_ s6_ s7_ s8_
            have hB := (bstep (bstep bal1.drew hb5) hb6)
            have zw6 := hB.size
            go_wp2_with fail
            refine bodyPost_ret (v := .bool (false)) (by simp [results, Try.results29, go_sem, bne]) rfl ?_
            exact ⟨ret_bool ((leaf_shape4_4 k d m ow rk q1 q2 q3 q4 Hq5.out).trans HT.out), hB⟩
        · skip
          have nq4 : (k != 14) = true := by simp only [bne, q4]; rfl
          go_wp2_with fail
          have s0_ : (World.alloc w (Obj.cells #[.int .i64 k, .string nm, .int .i64 u, .int .i64 tk, .slice ta tn tq, .int .i64 fk, .slice fa fn fq, .int .i64 l, .slice c m q] 36)).cell? ⟨w.heap.size, 0, none⟩ = some (.int .i64 k) := cell_new (by simp) 0
          have s1_ : (World.alloc w (Obj.cells #[.int .i64 k, .string nm, .int .i64 u, .int .i64 tk, .slice ta tn tq, .int .i64 fk, .slice fa fn fq, .int .i64 l, .slice c m q] 36)).cell? ⟨w.heap.size, 8, none⟩ = some (.slice c m q) := cell_new (by simp) 8
          have s2_ : (World.alloc w (Obj.cells #[.int .i64 k, .string nm, .int .i64 u, .int .i64 tk, .slice ta tn tq, .int .i64 fk, .slice fa fn fq, .int .i64 l, .slice c m q] 36)).cell? ⟨w.heap.size, 1, none⟩ = some (.string nm) := cell_new (by simp) 1
          have s3_ : (World.alloc w (Obj.cells #[.int .i64 k, .string nm, .int .i64 u, .int .i64 tk, .slice ta tn tq, .int .i64 fk, .slice fa fn fq, .int .i64 l, .slice c m q] 36)).cell? ⟨w.heap.size, 2, none⟩ = some (.int .i64 u) := cell_new (by simp) 2
          have s4_ : (World.alloc w (Obj.cells #[.int .i64 k, .string nm, .int .i64 u, .int .i64 tk, .slice ta tn tq, .int .i64 fk, .slice fa fn fq, .int .i64 l, .slice c m q] 36)).cell? ⟨w.heap.size, 3, none⟩ = some (.int .i64 tk) := cell_new (by simp) 3
          have s5_ : (World.alloc w (Obj.cells #[.int .i64 k, .string nm, .int .i64 u, .int .i64 tk, .slice ta tn tq, .int .i64 fk, .slice fa fn fq, .int .i64 l, .slice c m q] 36)).cell? ⟨w.heap.size, 4, none⟩ = some (.slice ta tn tq) := cell_new (by simp) 4
          have s6_ : (World.alloc w (Obj.cells #[.int .i64 k, .string nm, .int .i64 u, .int .i64 tk, .slice ta tn tq, .int .i64 fk, .slice fa fn fq, .int .i64 l, .slice c m q] 36)).cell? ⟨w.heap.size, 5, none⟩ = some (.int .i64 fk) := cell_new (by simp) 5
          have s7_ : (World.alloc w (Obj.cells #[.int .i64 k, .string nm, .int .i64 u, .int .i64 tk, .slice ta tn tq, .int .i64 fk, .slice fa fn fq, .int .i64 l, .slice c m q] 36)).cell? ⟨w.heap.size, 6, none⟩ = some (.slice fa fn fq) := cell_new (by simp) 6
          have s8_ : (World.alloc w (Obj.cells #[.int .i64 k, .string nm, .int .i64 u, .int .i64 tk, .slice ta tn tq, .int .i64 fk, .slice fa fn fq, .int .i64 l, .slice c m q] 36)).cell? ⟨w.heap.size, 7, none⟩ = some (.int .i64 l) := cell_new (by simp) 7
          refine wp_region_noPanic ?_
          refine wp_region_held_drew (S := fun w' => w'.cell? ⟨w.heap.size, 0, none⟩ = some (.int .i64 k) ∧ w'.cell? ⟨w.heap.size, 8, none⟩ = some (.slice c m q) ∧ w'.cell? ⟨w.heap.size, 1, none⟩ = some (.string nm) ∧ w'.cell? ⟨w.heap.size, 2, none⟩ = some (.int .i64 u) ∧ w'.cell? ⟨w.heap.size, 3, none⟩ = some (.int .i64 tk) ∧ w'.cell? ⟨w.heap.size, 4, none⟩ = some (.slice ta tn tq) ∧ w'.cell? ⟨w.heap.size, 5, none⟩ = some (.int .i64 fk) ∧ w'.cell? ⟨w.heap.size, 6, none⟩ = some (.slice fa fn fq) ∧ w'.cell? ⟨w.heap.size, 7, none⟩ = some (.int .i64 l)) (by kernel_rfl) ?_ (fun hHeld0 => ?_)
          · exact ⟨dcell (s0_), dcell (s1_), dcell (s2_), dcell (s3_), dcell (s4_), dcell (s5_), dcell (s6_), dcell (s7_), dcell (s8_)⟩
          refine hwt 0 oS4_0 (.int .i64 d) hHeld0 ?_ ?_
          · intro w' hSw; dsimp only [oS4_0]; go_simp
          try simp only [oS4_0, hwA]
          refine hwt 1 oS4_1 (.bool false) hHeld0 ?_ ?_
          · intro w' hSw; dsimp only [oS4_1]; go_simp
          try simp only [oS4_1, hwA]
          refine hwt 2 oS4_2 (.bool false) hHeld0 ?_ ?_
          · intro w' hSw; dsimp only [oS4_2]; go_simp
          try simp only [oS4_2, hwA]
          refine hwt 3 oS4_3 (.pointer (some ⟨w.heap.size, 0, none⟩)) hHeld0 ?_ ?_
          · intro w' hSw; dsimp only [oS4_3]; go_simp
          try simp only [oS4_3, hwA]
          refine hwt 4 oS4_4 (.int .i64 k) hHeld0 ?_ ?_
          · intro w' hSw; dsimp only [oS4_4]; go_simp
          try simp only [oS4_4, hwA]
          refine hwt 6 oS4_6 (.pointer (some ⟨w.heap.size, 8, none⟩)) hHeld0 ?_ ?_
          · intro w' hSw; dsimp only [oS4_6]; go_simp
          try simp only [oS4_6, hwA]
          refine hwt 7 oS4_7 (.slice c m q) hHeld0 ?_ ?_
          · intro w' hSw; dsimp only [oS4_7]; go_simp
          try simp only [oS4_7, hwA]
          refine hwt 8 oS4_8 (.int .i64 (m : Int)) hHeld0 ?_ ?_
          · intro w' hSw; dsimp only [oS4_8]; go_simp
          try simp only [oS4_8, hwA]
          refine hwr 5 oS4_5 (fun K hK => ?_)
          dsimp only [oS4_5]; go_simp
          go_at_call 42
          (with_reducible refine (specL2Kids k _).mono ?_)
          rintro e w7 ⟨rfl, hb7⟩
          go_wp2_with fail
          refine hK.out _ _ ?_ (fun hHeld1 => ?_)
          · exact ⟨bcell hb7 (dcell (s0_)), bcell hb7 (dcell (s1_)), bcell hb7 (dcell (s2_)), bcell hb7 (dcell (s3_)), bcell hb7 (dcell (s4_)), bcell hb7 (dcell (s5_)), bcell hb7 (dcell (s6_)), bcell hb7 (dcell (s7_)), bcell hb7 (dcell (s8_))⟩
          clear hK K hHeld0
          try simp only [oS4_5, hwA]
          refine hwt 9 oS4_9 (.bool false) hHeld1 ?_ ?_
          · intro w' hSw; dsimp only [oS4_9]; go_simp
          try simp only [oS4_9, hwA]
          refine hwt 10 oS4_10 (.bool false) hHeld1 ?_ ?_
          · intro w' hSw; dsimp only [oS4_10]; go_simp
          try simp only [oS4_10, hwA]
          refine hwt 11 oS4_11 (.bool false) hHeld1 ?_ ?_
          · intro w' hSw; dsimp only [oS4_11]; go_simp
          try simp only [oS4_11, hwA]
          refine hwt 12 oS4_12 (.pointer (some ⟨w.heap.size, 0, none⟩)) hHeld1 ?_ ?_
          · intro w' hSw; dsimp only [oS4_12]; go_simp
          try simp only [oS4_12, hwA]
          refine hwt 13 oS4_13 (.int .i64 k) hHeld1 ?_ ?_
          · intro w' hSw; dsimp only [oS4_13]; go_simp
          try simp only [oS4_13, hwA]
          refine hwt 14 oS4_14 (.bool false) hHeld1 ?_ ?_
          · intro w' hSw; dsimp only [oS4_14]; go_simp
          try simp only [oS4_14, hwA]
          refine hwt 15 oS4_15 (.bool false) hHeld1 ?_ ?_
          · intro w' hSw; dsimp only [oS4_15]; go_simp
          try simp only [oS4_15, hwA]
          refine hwt 16 oS4_16 (.bool false) hHeld1 ?_ ?_
          · intro w' hSw; dsimp only [oS4_16]; go_simp
          try simp only [oS4_16, hwA]
          refine hwt 17 oS4_17 (.pointer (some ⟨w.heap.size, 0, none⟩)) hHeld1 ?_ ?_
          · intro w' hSw; dsimp only [oS4_17]; go_simp
          try simp only [oS4_17, hwA]
          refine hwt 18 oS4_18 (.int .i64 k) hHeld1 ?_ ?_
          · intro w' hSw; dsimp only [oS4_18]; go_simp
          try simp only [oS4_18, hwA]
          refine hwt 19 oS4_19 (.bool false) hHeld1 ?_ ?_
          · intro w' hSw; dsimp only [oS4_19]; go_simp
          try simp only [oS4_19, hwA]
          refine hwt 20 oS4_20 (.bool false) hHeld1 ?_ ?_
          · intro w' hSw; dsimp only [oS4_20]; go_simp
          try simp only [oS4_20, hwA]
          refine hwn 21 oS4_21 hHeld1 ?_
          try simp only [oS4_21, hwA]
          refine hwn 22 oS4_22 hHeld1 ?_
          try simp only [oS4_22, hwA]
          refine hwn 23 oS4_23 hHeld1 ?_
          try simp only [oS4_23, hwA]
          refine hwt 24 oS4_24 (.bool false) hHeld1 ?_ ?_
          · intro w' hSw; dsimp only [oS4_24]; go_simp
          try simp only [oS4_24, hwA]
          refine hwt 25 oS4_25 (.bool false) hHeld1 ?_ ?_
          · intro w' hSw; dsimp only [oS4_25]; go_simp
          try simp only [oS4_25, hwA]
          refine hwt 26 oS4_26 (.bool false) hHeld1 ?_ ?_
          · intro w' hSw; dsimp only [oS4_26]; go_simp
          try simp only [oS4_26, hwA]
          refine hwt 27 oS4_27 (.pointer (some ⟨w.heap.size, 0, none⟩)) hHeld1 ?_ ?_
          · intro w' hSw; dsimp only [oS4_27]; go_simp
          try simp only [oS4_27, hwA]
          refine hwt 28 oS4_28 (.int .i64 k) hHeld1 ?_ ?_
          · intro w' hSw; dsimp only [oS4_28]; go_simp
          try simp only [oS4_28, hwA]
          refine hwt 29 oS4_29 (.bool true) hHeld1 ?_ ?_
          · intro w' hSw; dsimp only [oS4_29]; go_simp
          try simp only [oS4_29, hwA]
          refine hwt 30 oS4_30 (.bool true) hHeld1 ?_ ?_
          · intro w' hSw; dsimp only [oS4_30]; go_simp
          try simp only [oS4_30, hwA]
          refine hwt 31 oS4_31 (.agg #[.int .i64 k, .string nm, .int .i64 u, .int .i64 tk, .slice ta tn tq, .int .i64 fk, .slice fa fn fq, .int .i64 l, .slice c m q]) hHeld1 ?_ ?_
          · intro w' hSw; dsimp only [oS4_31]; go_simp
          try simp only [oS4_31, hwA]
          refine hwr 32 oS4_32 (fun K hK => ?_)
          dsimp only [oS4_32]; go_simp
          go_at_call 44
          (with_reducible refine (HO.out q4 _ (bstep bal1.drew hb7)).mono ?_)
          rintro e w8 ⟨rfl, hb8⟩
          go_wp2_with fail
          refine hK.out _ _ ?_ (fun hHeld2 => ?_)
          · exact ⟨bcell hb8 (bcell hb7 (dcell (s0_))), bcell hb8 (bcell hb7 (dcell (s1_))), bcell hb8 (bcell hb7 (dcell (s2_))), bcell hb8 (bcell hb7 (dcell (s3_))), bcell hb8 (bcell hb7 (dcell (s4_))), bcell hb8 (bcell hb7 (dcell (s5_))), bcell hb8 (bcell hb7 (dcell (s6_))), bcell hb8 (bcell hb7 (dcell (s7_))), bcell hb8 (bcell hb7 (dcell (s8_)))⟩
          clear hK K hHeld1
          try simp only [oS4_32, hwA]
          refine hwt 33 oS4_33 (.bool (!ow)) hHeld2 ?_ ?_
          · intro w' hSw; dsimp only [oS4_33]; go_simp
          try simp only [oS4_33, hwA]
          refine hwt 34 oS4_34 (.bool (!ow)) hHeld2 ?_ ?_
          · intro w' hSw; dsimp only [oS4_34]; go_simp
          try simp only [oS4_34, hwA]
          refine hwt 35 oS4_35 (.bool (!ow)) hHeld2 ?_ ?_
          · intro w' hSw; dsimp only [oS4_35]; go_simp
          try simp only [oS4_35, hwA]
          refine wpAnyH_done (by kernel_rfl) ?_ _
          refine NoPanic.normal ?_
          clear hHeld2 s0_ s1_ s2_ s3_ s4_ s5_ s6_ s7_ s8_
          have hB := (bstep (bstep bal1.drew hb7) hb8)
          have zw8 := hB.size
          have c0_8 : w8.cell? ⟨w.heap.size, 8, none⟩ = some (.slice c m q) := bcell hb8 (bcell hb7 (dcell (cell_new (by simp) 8)))
          have d0_w8 := World.block_lt_of_cell? _ _ c0_8
          rcases Bool.eq_false_or_eq_true (ow) with q7 | q7
          · (try rw [q7])
            have Hq7 := Lib.hid q7
            clear q7
            go_wp2_with fail
            go_loopw [5] (fun i wr => ∃ j : Nat, j ≤ m ∧ i = .int .i64 j ∧ Below w.heap.size w wr ∧ wr.cell? ⟨w.heap.size, 8, none⟩ = some (.slice c m q) ∧ Hid (rk = Tm.shapes (ts.drop j) 13 (d - 1))) (fun i _ => m - (intOf i).toNat)
            case atStart => exact ⟨0, by omega, rfl, hB, c0_8, HRK.out⟩
            case round =>
              obtain ⟨j, hj, rfl, hB, x0, hR0⟩ := hrel
              have lx1 := World.block_lt_of_cell? _ _ x0
              by_cases hlt : j < m
              · have hjt : j < ts.length := by have := HN.out; omega
                obtain ⟨b, off, k0, nm0, u0, tk0, ta0, tn0, tq0, fk0, fa0, fn0, fq0, l0, a0, m0, q0, rfl, lb, e0, e1, e2, e3, e4, e5, e6, e7, e8, ht⟩ := hks.at hB hjt
                have hcall := IHH.out ts[j] (List.getElem_mem hjt) (d - 1)
                have hstep := hR0.out.trans (Tm.shapes_drop ts 13 (d - 1) j hjt)
                generalize ts[j].shape 13 (d - 1) = r at hcall hstep
                have HC := Lib.hid hcall
                have HS := Lib.hid hstep
                clear hcall hstep hR0
                have hwr := IntWalk.i64_in (d - 1) (by omega)
                go_wp2_with fail
                refine (HC.out _ _ ht (by have h := q1; simp only [decide_eq_false_iff_not] at h; omega) (by have h := q1; simp only [decide_eq_false_iff_not] at h; omega)).mono ?_
                rintro e w9 ⟨rfl, hb9⟩
                replace hB := (bstep hB hb9)
                have zw9 := hB.size
                replace x0 : w9.cell? ⟨w.heap.size, 8, none⟩ = some (.slice (some ⟨b, off, none⟩) m q) := bcell hb9 (x0)
                have d0_w9 := World.block_lt_of_cell? _ _ x0
                rcases Bool.eq_false_or_eq_true (r) with q8 | q8
                · (try rw [q8])
                  have Hq8 := Lib.hid q8
                  clear q8
                  have hwr := IntWalk.i64_in ((j : Int) + 1) (by omega)
                  go_wp2_with fail
                  go_roundw
                  case rel => exact ⟨j + 1, by omega, by go_num, hB, x0, (by rw [Hid, HS.out, Hq8.out]; rfl)⟩
                  case measure => simp [intOf]; omega
                · (try rw [q8])
                  have Hq8 := Lib.hid q8
                  clear q8
                  go_wp2_with fail
                  refine bodyPost_ret (v := .bool (false)) (by simp [results, Try.results29, go_sem, bne]) rfl ?_
                  exact ⟨ret_bool ((leaf_shape4_5 k d m ow rk q1 q2 q3 q4 Hq7.out (by rw [HS.out, Hq8.out]; rfl)).trans HT.out), hB⟩
              · skip
                have HRK : Hid (rk = true) := Lib.hid (by rw [hR0.out, List.drop_eq_nil_of_le (by have := HN.out; omega)]; unfold Tm.shapes; rfl)
                go_wp2_with fail
                refine bodyPost_ret (v := .bool (true)) (by simp [results, Try.results29, go_sem, bne]) rfl ?_
                exact ⟨ret_bool ((leaf_shape4_6 k d m ow rk q1 q2 q3 q4 Hq7.out HRK.out).trans HT.out), hB⟩
          · (try rw [q7])
            have Hq7 := Lib.hid q7
            clear q7
            go_wp2_with fail
            refine bodyPost_ret (v := .bool (false)) (by simp [results, Try.results29, go_sem, bne]) rfl ?_
            exact ⟨ret_bool ((leaf_shape4_7 k d m ow rk q1 q2 q3 q4 Hq7.out).trans HT.out), hB⟩
    · skip
      have nq2 : ((tops k) != (m : Int)) = true := by simp only [bne, q2]; rfl
      go_wp2_with fail
      have s0_ : (World.alloc w (Obj.cells #[.int .i64 k, .string nm, .int .i64 u, .int .i64 tk, .slice ta tn tq, .int .i64 fk, .slice fa fn fq, .int .i64 l, .slice c m q] 36)).cell? ⟨w.heap.size, 0, none⟩ = some (.int .i64 k) := cell_new (by simp) 0
      have s1_ : (World.alloc w (Obj.cells #[.int .i64 k, .string nm, .int .i64 u, .int .i64 tk, .slice ta tn tq, .int .i64 fk, .slice fa fn fq, .int .i64 l, .slice c m q] 36)).cell? ⟨w.heap.size, 8, none⟩ = some (.slice c m q) := cell_new (by simp) 8
      refine wp_region_noPanic ?_
      refine wp_region_held_drew (S := fun w' => w'.cell? ⟨w.heap.size, 0, none⟩ = some (.int .i64 k) ∧ w'.cell? ⟨w.heap.size, 8, none⟩ = some (.slice c m q)) (by kernel_rfl) ?_ (fun hHeld0 => ?_)
      · exact ⟨dcell (s0_), dcell (s1_)⟩
      refine hwt 0 oS4_0 (.int .i64 d) hHeld0 ?_ ?_
      · intro w' hSw; dsimp only [oS4_0]; go_simp
      try simp only [oS4_0, hwA]
      refine hwt 1 oS4_1 (.bool false) hHeld0 ?_ ?_
      · intro w' hSw; dsimp only [oS4_1]; go_simp
      try simp only [oS4_1, hwA]
      refine hwt 2 oS4_2 (.bool false) hHeld0 ?_ ?_
      · intro w' hSw; dsimp only [oS4_2]; go_simp
      try simp only [oS4_2, hwA]
      refine hwt 3 oS4_3 (.pointer (some ⟨w.heap.size, 0, none⟩)) hHeld0 ?_ ?_
      · intro w' hSw; dsimp only [oS4_3]; go_simp
      try simp only [oS4_3, hwA]
      refine hwt 4 oS4_4 (.int .i64 k) hHeld0 ?_ ?_
      · intro w' hSw; dsimp only [oS4_4]; go_simp
      try simp only [oS4_4, hwA]
      refine hwt 6 oS4_6 (.pointer (some ⟨w.heap.size, 8, none⟩)) hHeld0 ?_ ?_
      · intro w' hSw; dsimp only [oS4_6]; go_simp
      try simp only [oS4_6, hwA]
      refine hwt 7 oS4_7 (.slice c m q) hHeld0 ?_ ?_
      · intro w' hSw; dsimp only [oS4_7]; go_simp
      try simp only [oS4_7, hwA]
      refine hwt 8 oS4_8 (.int .i64 (m : Int)) hHeld0 ?_ ?_
      · intro w' hSw; dsimp only [oS4_8]; go_simp
      try simp only [oS4_8, hwA]
      refine hwr 5 oS4_5 (fun K hK => ?_)
      dsimp only [oS4_5]; go_simp
      go_at_call 42
      (with_reducible refine (specL2Kids k _).mono ?_)
      rintro e w10 ⟨rfl, hb10⟩
      go_wp2_with fail
      refine hK.out _ _ ?_ (fun hHeld1 => ?_)
      · exact ⟨bcell hb10 (dcell (s0_)), bcell hb10 (dcell (s1_))⟩
      clear hK K hHeld0
      try simp only [oS4_5, hwA]
      refine hwt 9 oS4_9 (.bool true) hHeld1 ?_ ?_
      · intro w' hSw; dsimp only [oS4_9]; go_simp
      try simp only [oS4_9, hwA]
      refine hwt 10 oS4_10 (.bool true) hHeld1 ?_ ?_
      · intro w' hSw; dsimp only [oS4_10]; go_simp
      try simp only [oS4_10, hwA]
      refine hwt 11 oS4_11 (.bool true) hHeld1 ?_ ?_
      · intro w' hSw; dsimp only [oS4_11]; go_simp
      try simp only [oS4_11, hwA]
      refine hwn 12 oS4_12 hHeld1 ?_
      try simp only [oS4_12, hwA]
      refine hwn 13 oS4_13 hHeld1 ?_
      try simp only [oS4_13, hwA]
      refine hwn 14 oS4_14 hHeld1 ?_
      try simp only [oS4_14, hwA]
      refine hwt 15 oS4_15 (.bool true) hHeld1 ?_ ?_
      · intro w' hSw; dsimp only [oS4_15]; go_simp
      try simp only [oS4_15, hwA]
      refine hwt 16 oS4_16 (.bool true) hHeld1 ?_ ?_
      · intro w' hSw; dsimp only [oS4_16]; go_simp
      try simp only [oS4_16, hwA]
      refine hwn 17 oS4_17 hHeld1 ?_
      try simp only [oS4_17, hwA]
      refine hwn 18 oS4_18 hHeld1 ?_
      try simp only [oS4_18, hwA]
      refine hwn 19 oS4_19 hHeld1 ?_
      try simp only [oS4_19, hwA]
      refine hwn 20 oS4_20 hHeld1 ?_
      try simp only [oS4_20, hwA]
      refine hwn 21 oS4_21 hHeld1 ?_
      try simp only [oS4_21, hwA]
      refine hwn 22 oS4_22 hHeld1 ?_
      try simp only [oS4_22, hwA]
      refine hwn 23 oS4_23 hHeld1 ?_
      try simp only [oS4_23, hwA]
      refine hwn 24 oS4_24 hHeld1 ?_
      try simp only [oS4_24, hwA]
      refine hwt 25 oS4_25 (.bool true) hHeld1 ?_ ?_
      · intro w' hSw; dsimp only [oS4_25]; go_simp
      try simp only [oS4_25, hwA]
      refine hwt 26 oS4_26 (.bool true) hHeld1 ?_ ?_
      · intro w' hSw; dsimp only [oS4_26]; go_simp
      try simp only [oS4_26, hwA]
      refine hwn 27 oS4_27 hHeld1 ?_
      try simp only [oS4_27, hwA]
      refine hwn 28 oS4_28 hHeld1 ?_
      try simp only [oS4_28, hwA]
      refine hwn 29 oS4_29 hHeld1 ?_
      try simp only [oS4_29, hwA]
      refine hwn 30 oS4_30 hHeld1 ?_
      try simp only [oS4_30, hwA]
      refine hwn 31 oS4_31 hHeld1 ?_
      try simp only [oS4_31, hwA]
      refine hwn 32 oS4_32 hHeld1 ?_
      try simp only [oS4_32, hwA]
      refine hwn 33 oS4_33 hHeld1 ?_
      try simp only [oS4_33, hwA]
      refine hwn 34 oS4_34 hHeld1 ?_
      try simp only [oS4_34, hwA]
      refine hwt 35 oS4_35 (.bool true) hHeld1 ?_ ?_
      · intro w' hSw; dsimp only [oS4_35]; go_simp
      try simp only [oS4_35, hwA]
      refine wpAnyH_done (by kernel_rfl) ?_ _
      refine NoPanic.normal ?_
      clear hHeld1 s0_ s1_
      have hB := (bstep bal1.drew hb10)
      have zw10 := hB.size
      go_wp2_with fail
      refine bodyPost_ret (v := .bool (false)) (by simp [results, Try.results29, go_sem, bne]) rfl ?_
      exact ⟨ret_bool ((leaf_shape4_8 k d m ow rk q1 q2).trans HT.out), hB⟩
termination_by SizeOf.sizeOf t
decreasing_by exact Tm.kid_lt ht
end Go.Proofs.Ytkhmkohgnikcmaa
