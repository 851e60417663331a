/-
  How many operands a kind of terms has; types that are the zero value.
-/
import Derived.Test.YtkhmkohgnikcmaaB7
import Derived.Test.YtkhmkohgnikcmaaB0
import Derived.Test.YtkhmkohgnikcmaaB7
import Derived.Laws.Strings
namespace Go.Proofs.Ytkhmkohgnikcmaa
open Go.RowKit
set_option linter.unusedVariables false
set_option linter.unusedSimpArgs false
set_option maxRecDepth 100000

def tops (k : Int) : Int := if k = 1 ∨ k = 2 ∨ k = 3 ∨ k = 4 then 0 else if k = 5 ∨ k = 11 ∨ k = 12 ∨ k = 13 ∨ k = 14 then 1 else if k = 6 ∨ k = 7 ∨ k = 8 ∨ k = 10 then 2 else if k = 9 then 3 else -1
def noneB (k : Int) (n : Nat) : Bool := k == 0 && (n : Int) == 0
def Ty.noneB (t : Ty) : Bool := Go.Proofs.Ytkhmkohgnikcmaa.noneB t.kind t.kids.length
theorem leaf_tops_0  : (0 : Int) = (0) := by
  rfl

theorem leaf_tops_1  : (0 : Int) = (0) := by
  rfl

theorem leaf_tops_2  : (0 : Int) = (0) := by
  rfl

theorem leaf_tops_3  : (0 : Int) = (0) := by
  rfl

theorem leaf_tops_4  : (1 : Int) = (1) := by
  rfl

theorem leaf_tops_5  : (2 : Int) = (2) := by
  rfl

theorem leaf_tops_6  : (2 : Int) = (2) := by
  rfl

theorem leaf_tops_7  : (2 : Int) = (2) := by
  rfl

theorem leaf_tops_8  : (3 : Int) = (3) := by
  rfl

theorem leaf_tops_9  : (2 : Int) = (2) := by
  rfl

theorem leaf_tops_10  : (1 : Int) = (1) := by
  rfl

theorem leaf_tops_11  : (1 : Int) = (1) := by
  rfl

theorem leaf_tops_12  : (1 : Int) = (1) := by
  rfl

theorem leaf_tops_13  : (1 : Int) = (1) := by
  rfl

theorem leaf_kids_14 (k : Int) (h0 : (k == 1) = true) : (0 : Int) = (tops k) := by
  simp only [beq_iff_eq, beq_eq_false_iff_ne] at *; unfold tops; (repeat' split) <;> omega

theorem leaf_kids_15 (k : Int) (h0 : (k == 1) = false) (h1 : (k == 2) = true) : (0 : Int) = (tops k) := by
  simp only [beq_iff_eq, beq_eq_false_iff_ne] at *; unfold tops; (repeat' split) <;> omega

theorem leaf_kids_16 (k : Int) (h0 : (k == 1) = false) (h1 : (k == 2) = false) (h2 : (k == 3) = true) : (0 : Int) = (tops k) := by
  simp only [beq_iff_eq, beq_eq_false_iff_ne] at *; unfold tops; (repeat' split) <;> omega

theorem leaf_kids_17 (k : Int) (h0 : (k == 1) = false) (h1 : (k == 2) = false) (h2 : (k == 3) = false) (h3 : (k == 4) = true) : (0 : Int) = (tops k) := by
  simp only [beq_iff_eq, beq_eq_false_iff_ne] at *; unfold tops; (repeat' split) <;> omega

theorem leaf_kids_18 (k : Int) (h0 : (k == 1) = false) (h1 : (k == 2) = false) (h2 : (k == 3) = false) (h3 : (k == 4) = false) (h4 : (k == 5) = true) : (1 : Int) = (tops k) := by
  simp only [beq_iff_eq, beq_eq_false_iff_ne] at *; unfold tops; (repeat' split) <;> omega

theorem leaf_kids_19 (k : Int) (h0 : (k == 1) = false) (h1 : (k == 2) = false) (h2 : (k == 3) = false) (h3 : (k == 4) = false) (h4 : (k == 5) = false) (h5 : (k == 11) = true) : (1 : Int) = (tops k) := by
  simp only [beq_iff_eq, beq_eq_false_iff_ne] at *; unfold tops; (repeat' split) <;> omega

theorem leaf_kids_20 (k : Int) (h0 : (k == 1) = false) (h1 : (k == 2) = false) (h2 : (k == 3) = false) (h3 : (k == 4) = false) (h4 : (k == 5) = false) (h5 : (k == 11) = false) (h6 : (k == 12) = true) : (1 : Int) = (tops k) := by
  simp only [beq_iff_eq, beq_eq_false_iff_ne] at *; unfold tops; (repeat' split) <;> omega

theorem leaf_kids_21 (k : Int) (h0 : (k == 1) = false) (h1 : (k == 2) = false) (h2 : (k == 3) = false) (h3 : (k == 4) = false) (h4 : (k == 5) = false) (h5 : (k == 11) = false) (h6 : (k == 12) = false) (h7 : (k == 13) = true) : (1 : Int) = (tops k) := by
  simp only [beq_iff_eq, beq_eq_false_iff_ne] at *; unfold tops; (repeat' split) <;> omega

theorem leaf_kids_22 (k : Int) (h0 : (k == 1) = false) (h1 : (k == 2) = false) (h2 : (k == 3) = false) (h3 : (k == 4) = false) (h4 : (k == 5) = false) (h5 : (k == 11) = false) (h6 : (k == 12) = false) (h7 : (k == 13) = false) (h8 : (k == 14) = true) : (1 : Int) = (tops k) := by
  simp only [beq_iff_eq, beq_eq_false_iff_ne] at *; unfold tops; (repeat' split) <;> omega

theorem leaf_kids_23 (k : Int) (h0 : (k == 1) = false) (h1 : (k == 2) = false) (h2 : (k == 3) = false) (h3 : (k == 4) = false) (h4 : (k == 5) = false) (h5 : (k == 11) = false) (h6 : (k == 12) = false) (h7 : (k == 13) = false) (h8 : (k == 14) = false) (h9 : (k == 6) = true) : (2 : Int) = (tops k) := by
  simp only [beq_iff_eq, beq_eq_false_iff_ne] at *; unfold tops; (repeat' split) <;> omega

theorem leaf_kids_24 (k : Int) (h0 : (k == 1) = false) (h1 : (k == 2) = false) (h2 : (k == 3) = false) (h3 : (k == 4) = false) (h4 : (k == 5) = false) (h5 : (k == 11) = false) (h6 : (k == 12) = false) (h7 : (k == 13) = false) (h8 : (k == 14) = false) (h9 : (k == 6) = false) (h10 : (k == 7) = true) : (2 : Int) = (tops k) := by
  simp only [beq_iff_eq, beq_eq_false_iff_ne] at *; unfold tops; (repeat' split) <;> omega

theorem leaf_kids_25 (k : Int) (h0 : (k == 1) = false) (h1 : (k == 2) = false) (h2 : (k == 3) = false) (h3 : (k == 4) = false) (h4 : (k == 5) = false) (h5 : (k == 11) = false) (h6 : (k == 12) = false) (h7 : (k == 13) = false) (h8 : (k == 14) = false) (h9 : (k == 6) = false) (h10 : (k == 7) = false) (h11 : (k == 8) = true) : (2 : Int) = (tops k) := by
  simp only [beq_iff_eq, beq_eq_false_iff_ne] at *; unfold tops; (repeat' split) <;> omega

theorem leaf_kids_26 (k : Int) (h0 : (k == 1) = false) (h1 : (k == 2) = false) (h2 : (k == 3) = false) (h3 : (k == 4) = false) (h4 : (k == 5) = false) (h5 : (k == 11) = false) (h6 : (k == 12) = false) (h7 : (k == 13) = false) (h8 : (k == 14) = false) (h9 : (k == 6) = false) (h10 : (k == 7) = false) (h11 : (k == 8) = false) (h12 : (k == 10) = true) : (2 : Int) = (tops k) := by
  simp only [beq_iff_eq, beq_eq_false_iff_ne] at *; unfold tops; (repeat' split) <;> omega

theorem leaf_kids_27 (k : Int) (h0 : (k == 1) = false) (h1 : (k == 2) = false) (h2 : (k == 3) = false) (h3 : (k == 4) = false) (h4 : (k == 5) = false) (h5 : (k == 11) = false) (h6 : (k == 12) = false) (h7 : (k == 13) = false) (h8 : (k == 14) = false) (h9 : (k == 6) = false) (h10 : (k == 7) = false) (h11 : (k == 8) = false) (h12 : (k == 10) = false) (h13 : (k == 9) = true) : (3 : Int) = (tops k) := by
  simp only [beq_iff_eq, beq_eq_false_iff_ne] at *; unfold tops; (repeat' split) <;> omega

theorem leaf_kids_28 (k : Int) (h0 : (k == 1) = false) (h1 : (k == 2) = false) (h2 : (k == 3) = false) (h3 : (k == 4) = false) (h4 : (k == 5) = false) (h5 : (k == 11) = false) (h6 : (k == 12) = false) (h7 : (k == 13) = false) (h8 : (k == 14) = false) (h9 : (k == 6) = false) (h10 : (k == 7) = false) (h11 : (k == 8) = false) (h12 : (k == 10) = false) (h13 : (k == 9) = false) : (-1 : Int) = (tops k) := by
  simp only [beq_iff_eq, beq_eq_false_iff_ne] at *; unfold tops; (repeat' split) <;> omega

theorem leaf_implIsNoType_29 (k : Int) (n : Nat) (h0 : (k == 0) = true) : ((n : Int) == 0 : Bool) = (noneB k n) := by
  simp_all [noneB]

theorem leaf_implIsNoType_30 (k : Int) (n : Nat) (h0 : (k == 0) = false) : (false : Bool) = (noneB k n) := by
  simp_all [noneB]

theorem leaf_specL2None_31 (k : Int) (n : Nat) (h0 : (k == 0) = true) : ((n : Int) == 0 : Bool) = (noneB k n) := by
  simp_all [noneB]

theorem leaf_specL2None_32 (k : Int) (n : Nat) (h0 : (k == 0) = false) : (false : Bool) = (noneB k n) := by
  simp_all [noneB]

theorem implOps1 (w : World) : Calls Try.prog 68 #[.int .i64 1] w fun e w' => e = .returned (.int .i64 (0)) ∧ Below w.heap.size w w' := by
  obtain ⟨rr, hrr⟩ : ∃ rr0 : Int, (0) = rr0 := ⟨_, rfl⟩
  rw [hrr]
  have HT := Lib.hid hrr
  clear hrr
  go_enter Try.func68, Try.ntmps68
  go_wp2_with fail
  refine (implWithin 1 1 14 _).mono ?_
  rintro e w1 ⟨rfl, hb1⟩
  rw [show winB (1) (1) (14) = true from by decide]
  have hB := (bstep (Below.refl _ _) hb1)
  have zw1 := hB.size
  go_wp2_with fail
  refine bodyPost_ret (v := .int .i64 (0)) (by simp [results, Try.results68, go_sem, bne]) rfl ?_
  exact ⟨ret_int ((leaf_tops_0 ).trans HT.out), (hB.alloc hB.size _)⟩
theorem implOps2 (w : World) : Calls Try.prog 68 #[.int .i64 2] w fun e w' => e = .returned (.int .i64 (0)) ∧ Below w.heap.size w w' := by
  obtain ⟨rr, hrr⟩ : ∃ rr0 : Int, (0) = rr0 := ⟨_, rfl⟩
  rw [hrr]
  have HT := Lib.hid hrr
  clear hrr
  go_enter Try.func68, Try.ntmps68
  go_wp2_with fail
  refine (implWithin 2 1 14 _).mono ?_
  rintro e w1 ⟨rfl, hb1⟩
  rw [show winB (2) (1) (14) = true from by decide]
  have hB := (bstep (Below.refl _ _) hb1)
  have zw1 := hB.size
  go_wp2_with fail
  refine bodyPost_ret (v := .int .i64 (0)) (by simp [results, Try.results68, go_sem, bne]) rfl ?_
  exact ⟨ret_int ((leaf_tops_1 ).trans HT.out), (hB.alloc hB.size _)⟩
theorem implOps3 (w : World) : Calls Try.prog 68 #[.int .i64 3] w fun e w' => e = .returned (.int .i64 (0)) ∧ Below w.heap.size w w' := by
  obtain ⟨rr, hrr⟩ : ∃ rr0 : Int, (0) = rr0 := ⟨_, rfl⟩
  rw [hrr]
  have HT := Lib.hid hrr
  clear hrr
  go_enter Try.func68, Try.ntmps68
  go_wp2_with fail
  refine (implWithin 3 1 14 _).mono ?_
  rintro e w1 ⟨rfl, hb1⟩
  rw [show winB (3) (1) (14) = true from by decide]
  have hB := (bstep (Below.refl _ _) hb1)
  have zw1 := hB.size
  go_wp2_with fail
  refine bodyPost_ret (v := .int .i64 (0)) (by simp [results, Try.results68, go_sem, bne]) rfl ?_
  exact ⟨ret_int ((leaf_tops_2 ).trans HT.out), (hB.alloc hB.size _)⟩
theorem implOps4 (w : World) : Calls Try.prog 68 #[.int .i64 4] w fun e w' => e = .returned (.int .i64 (0)) ∧ Below w.heap.size w w' := by
  obtain ⟨rr, hrr⟩ : ∃ rr0 : Int, (0) = rr0 := ⟨_, rfl⟩
  rw [hrr]
  have HT := Lib.hid hrr
  clear hrr
  go_enter Try.func68, Try.ntmps68
  go_wp2_with fail
  refine (implWithin 4 1 14 _).mono ?_
  rintro e w1 ⟨rfl, hb1⟩
  rw [show winB (4) (1) (14) = true from by decide]
  have hB := (bstep (Below.refl _ _) hb1)
  have zw1 := hB.size
  go_wp2_with fail
  refine bodyPost_ret (v := .int .i64 (0)) (by simp [results, Try.results68, go_sem, bne]) rfl ?_
  exact ⟨ret_int ((leaf_tops_3 ).trans HT.out), (hB.alloc hB.size _)⟩
theorem implOps5 (w : World) : Calls Try.prog 68 #[.int .i64 5] w fun e w' => e = .returned (.int .i64 (1)) ∧ Below w.heap.size w w' := by
  obtain ⟨rr, hrr⟩ : ∃ rr0 : Int, (1) = rr0 := ⟨_, rfl⟩
  rw [hrr]
  have HT := Lib.hid hrr
  clear hrr
  go_enter Try.func68, Try.ntmps68
  go_wp2_with fail
  refine (implWithin 5 1 14 _).mono ?_
  rintro e w1 ⟨rfl, hb1⟩
  rw [show winB (5) (1) (14) = true from by decide]
  have hB := (bstep (Below.refl _ _) hb1)
  have zw1 := hB.size
  go_wp2_with fail
  refine bodyPost_ret (v := .int .i64 (1)) (by simp [results, Try.results68, go_sem, bne]) rfl ?_
  exact ⟨ret_int ((leaf_tops_4 ).trans HT.out), (hB.alloc hB.size _)⟩
theorem implOps6 (w : World) : Calls Try.prog 68 #[.int .i64 6] w fun e w' => e = .returned (.int .i64 (2)) ∧ Below w.heap.size w w' := by
  obtain ⟨rr, hrr⟩ : ∃ rr0 : Int, (2) = rr0 := ⟨_, rfl⟩
  rw [hrr]
  have HT := Lib.hid hrr
  clear hrr
  go_enter Try.func68, Try.ntmps68
  go_wp2_with fail
  refine (implWithin 6 1 14 _).mono ?_
  rintro e w1 ⟨rfl, hb1⟩
  rw [show winB (6) (1) (14) = true from by decide]
  have hB := (bstep (Below.refl _ _) hb1)
  have zw1 := hB.size
  go_wp2_with fail
  refine bodyPost_ret (v := .int .i64 (2)) (by simp [results, Try.results68, go_sem, bne]) rfl ?_
  exact ⟨ret_int ((leaf_tops_5 ).trans HT.out), (hB.alloc hB.size _)⟩
theorem implOps7 (w : World) : Calls Try.prog 68 #[.int .i64 7] w fun e w' => e = .returned (.int .i64 (2)) ∧ Below w.heap.size w w' := by
  obtain ⟨rr, hrr⟩ : ∃ rr0 : Int, (2) = rr0 := ⟨_, rfl⟩
  rw [hrr]
  have HT := Lib.hid hrr
  clear hrr
  go_enter Try.func68, Try.ntmps68
  go_wp2_with fail
  refine (implWithin 7 1 14 _).mono ?_
  rintro e w1 ⟨rfl, hb1⟩
  rw [show winB (7) (1) (14) = true from by decide]
  have hB := (bstep (Below.refl _ _) hb1)
  have zw1 := hB.size
  go_wp2_with fail
  refine bodyPost_ret (v := .int .i64 (2)) (by simp [results, Try.results68, go_sem, bne]) rfl ?_
  exact ⟨ret_int ((leaf_tops_6 ).trans HT.out), (hB.alloc hB.size _)⟩
theorem implOps8 (w : World) : Calls Try.prog 68 #[.int .i64 8] w fun e w' => e = .returned (.int .i64 (2)) ∧ Below w.heap.size w w' := by
  obtain ⟨rr, hrr⟩ : ∃ rr0 : Int, (2) = rr0 := ⟨_, rfl⟩
  rw [hrr]
  have HT := Lib.hid hrr
  clear hrr
  go_enter Try.func68, Try.ntmps68
  go_wp2_with fail
  refine (implWithin 8 1 14 _).mono ?_
  rintro e w1 ⟨rfl, hb1⟩
  rw [show winB (8) (1) (14) = true from by decide]
  have hB := (bstep (Below.refl _ _) hb1)
  have zw1 := hB.size
  go_wp2_with fail
  refine bodyPost_ret (v := .int .i64 (2)) (by simp [results, Try.results68, go_sem, bne]) rfl ?_
  exact ⟨ret_int ((leaf_tops_7 ).trans HT.out), (hB.alloc hB.size _)⟩
theorem implOps9 (w : World) : Calls Try.prog 68 #[.int .i64 9] w fun e w' => e = .returned (.int .i64 (3)) ∧ Below w.heap.size w w' := by
  obtain ⟨rr, hrr⟩ : ∃ rr0 : Int, (3) = rr0 := ⟨_, rfl⟩
  rw [hrr]
  have HT := Lib.hid hrr
  clear hrr
  go_enter Try.func68, Try.ntmps68
  go_wp2_with fail
  refine (implWithin 9 1 14 _).mono ?_
  rintro e w1 ⟨rfl, hb1⟩
  rw [show winB (9) (1) (14) = true from by decide]
  have hB := (bstep (Below.refl _ _) hb1)
  have zw1 := hB.size
  go_wp2_with fail
  refine bodyPost_ret (v := .int .i64 (3)) (by simp [results, Try.results68, go_sem, bne]) rfl ?_
  exact ⟨ret_int ((leaf_tops_8 ).trans HT.out), (hB.alloc hB.size _)⟩
theorem implOps10 (w : World) : Calls Try.prog 68 #[.int .i64 10] w fun e w' => e = .returned (.int .i64 (2)) ∧ Below w.heap.size w w' := by
  obtain ⟨rr, hrr⟩ : ∃ rr0 : Int, (2) = rr0 := ⟨_, rfl⟩
  rw [hrr]
  have HT := Lib.hid hrr
  clear hrr
  go_enter Try.func68, Try.ntmps68
  go_wp2_with fail
  refine (implWithin 10 1 14 _).mono ?_
  rintro e w1 ⟨rfl, hb1⟩
  rw [show winB (10) (1) (14) = true from by decide]
  have hB := (bstep (Below.refl _ _) hb1)
  have zw1 := hB.size
  go_wp2_with fail
  refine bodyPost_ret (v := .int .i64 (2)) (by simp [results, Try.results68, go_sem, bne]) rfl ?_
  exact ⟨ret_int ((leaf_tops_9 ).trans HT.out), (hB.alloc hB.size _)⟩
theorem implOps11 (w : World) : Calls Try.prog 68 #[.int .i64 11] w fun e w' => e = .returned (.int .i64 (1)) ∧ Below w.heap.size w w' := by
  obtain ⟨rr, hrr⟩ : ∃ rr0 : Int, (1) = rr0 := ⟨_, rfl⟩
  rw [hrr]
  have HT := Lib.hid hrr
  clear hrr
  go_enter Try.func68, Try.ntmps68
  go_wp2_with fail
  refine (implWithin 11 1 14 _).mono ?_
  rintro e w1 ⟨rfl, hb1⟩
  rw [show winB (11) (1) (14) = true from by decide]
  have hB := (bstep (Below.refl _ _) hb1)
  have zw1 := hB.size
  go_wp2_with fail
  refine bodyPost_ret (v := .int .i64 (1)) (by simp [results, Try.results68, go_sem, bne]) rfl ?_
  exact ⟨ret_int ((leaf_tops_10 ).trans HT.out), (hB.alloc hB.size _)⟩
theorem implOps12 (w : World) : Calls Try.prog 68 #[.int .i64 12] w fun e w' => e = .returned (.int .i64 (1)) ∧ Below w.heap.size w w' := by
  obtain ⟨rr, hrr⟩ : ∃ rr0 : Int, (1) = rr0 := ⟨_, rfl⟩
  rw [hrr]
  have HT := Lib.hid hrr
  clear hrr
  go_enter Try.func68, Try.ntmps68
  go_wp2_with fail
  refine (implWithin 12 1 14 _).mono ?_
  rintro e w1 ⟨rfl, hb1⟩
  rw [show winB (12) (1) (14) = true from by decide]
  have hB := (bstep (Below.refl _ _) hb1)
  have zw1 := hB.size
  go_wp2_with fail
  refine bodyPost_ret (v := .int .i64 (1)) (by simp [results, Try.results68, go_sem, bne]) rfl ?_
  exact ⟨ret_int ((leaf_tops_11 ).trans HT.out), (hB.alloc hB.size _)⟩
theorem implOps13 (w : World) : Calls Try.prog 68 #[.int .i64 13] w fun e w' => e = .returned (.int .i64 (1)) ∧ Below w.heap.size w w' := by
  obtain ⟨rr, hrr⟩ : ∃ rr0 : Int, (1) = rr0 := ⟨_, rfl⟩
  rw [hrr]
  have HT := Lib.hid hrr
  clear hrr
  go_enter Try.func68, Try.ntmps68
  go_wp2_with fail
  refine (implWithin 13 1 14 _).mono ?_
  rintro e w1 ⟨rfl, hb1⟩
  rw [show winB (13) (1) (14) = true from by decide]
  have hB := (bstep (Below.refl _ _) hb1)
  have zw1 := hB.size
  go_wp2_with fail
  refine bodyPost_ret (v := .int .i64 (1)) (by simp [results, Try.results68, go_sem, bne]) rfl ?_
  exact ⟨ret_int ((leaf_tops_12 ).trans HT.out), (hB.alloc hB.size _)⟩
theorem implOps14 (w : World) : Calls Try.prog 68 #[.int .i64 14] w fun e w' => e = .returned (.int .i64 (1)) ∧ Below w.heap.size w w' := by
  obtain ⟨rr, hrr⟩ : ∃ rr0 : Int, (1) = rr0 := ⟨_, rfl⟩
  rw [hrr]
  have HT := Lib.hid hrr
  clear hrr
  go_enter Try.func68, Try.ntmps68
  go_wp2_with fail
  refine (implWithin 14 1 14 _).mono ?_
  rintro e w1 ⟨rfl, hb1⟩
  rw [show winB (14) (1) (14) = true from by decide]
  have hB := (bstep (Below.refl _ _) hb1)
  have zw1 := hB.size
  go_wp2_with fail
  refine bodyPost_ret (v := .int .i64 (1)) (by simp [results, Try.results68, go_sem, bne]) rfl ?_
  exact ⟨ret_int ((leaf_tops_13 ).trans HT.out), (hB.alloc hB.size _)⟩
theorem implOperands (k : Int) (w : World) : Calls Try.prog 68 #[.int .i64 k] w fun e w' => e = .returned (.int .i64 (tops k)) ∧ Below w.heap.size w w' := by
  by_cases h : k = 1 ∨ k = 2 ∨ k = 3 ∨ k = 4 ∨ k = 5 ∨ k = 6 ∨ k = 7 ∨ k = 8 ∨ k = 9 ∨ k = 10 ∨ k = 11 ∨ k = 12 ∨ k = 13 ∨ k = 14
  · rcases h with rfl | rfl | rfl | rfl | rfl | rfl | rfl | rfl | rfl | rfl | rfl | rfl | rfl | rfl
    · exact implOps1 w
    · exact implOps2 w
    · exact implOps3 w
    · exact implOps4 w
    · exact implOps5 w
    · exact implOps6 w
    · exact implOps7 w
    · exact implOps8 w
    · exact implOps9 w
    · exact implOps10 w
    · exact implOps11 w
    · exact implOps12 w
    · exact implOps13 w
    · exact implOps14 w
  · have hw : winB k 1 14 = false := by unfold winB; simp; omega
    have hc : tops k = -1 := by unfold tops; rw [if_neg (by omega), if_neg (by omega), if_neg (by omega), if_neg (by omega)]
    have HW := Lib.hid hw
    have HC := Lib.hid hc
    clear hw hc h
    go_enter Try.func68, Try.ntmps68
    go_wp2_with fail
    refine (implWithin k 1 14 _).mono ?_
    rintro e w1 ⟨rfl, hb1⟩
    rw [HW.out]
    go_wp2_with fail
    go_ret
    exact ⟨ret_int HC.out.symm, hb1⟩
set_option maxHeartbeats 4000000 in
theorem specL2Kids (k : Int) (w : World) : Calls Try.prog 42 #[.int .i64 k] w fun e w' => e = .returned (.int .i64 (tops k)) ∧ Below w.heap.size w w' := by
  obtain ⟨rr, hrr⟩ : ∃ rr0 : Int, (tops k) = rr0 := ⟨_, rfl⟩
  rw [hrr]
  have HT := Lib.hid hrr
  clear hrr
  go_enter Try.func42, Try.ntmps42
  rcases Bool.eq_false_or_eq_true (k == 1) with q1 | q1
  · (try rw [q1])
    have nq1 : (k != 1) = false := by simp only [bne, q1]; rfl
    go_wp2_with fail
    refine bodyPost_ret (v := .int .i64 (0)) (by simp [results, Try.results42, go_sem, bne]) rfl ?_
    exact ⟨ret_int ((leaf_kids_14 k q1).trans HT.out), (Below.refl _ _)⟩
  · (try rw [q1])
    have nq1 : (k != 1) = true := by simp only [bne, q1]; rfl
    rcases Bool.eq_false_or_eq_true (k == 2) with q2 | q2
    · (try rw [q2])
      have nq2 : (k != 2) = false := by simp only [bne, q2]; rfl
      go_wp2_with fail
      refine bodyPost_ret (v := .int .i64 (0)) (by simp [results, Try.results42, go_sem, bne]) rfl ?_
      exact ⟨ret_int ((leaf_kids_15 k q1 q2).trans HT.out), (Below.refl _ _)⟩
    · (try rw [q2])
      have nq2 : (k != 2) = true := by simp only [bne, q2]; rfl
      rcases Bool.eq_false_or_eq_true (k == 3) with q3 | q3
      · (try rw [q3])
        have nq3 : (k != 3) = false := by simp only [bne, q3]; rfl
        go_wp2_with fail
        refine bodyPost_ret (v := .int .i64 (0)) (by simp [results, Try.results42, go_sem, bne]) rfl ?_
        exact ⟨ret_int ((leaf_kids_16 k q1 q2 q3).trans HT.out), (Below.refl _ _)⟩
      · (try rw [q3])
        have nq3 : (k != 3) = true := by simp only [bne, q3]; rfl
        rcases Bool.eq_false_or_eq_true (k == 4) with q4 | q4
        · (try rw [q4])
          have nq4 : (k != 4) = false := by simp only [bne, q4]; rfl
          go_wp2_with fail
          refine bodyPost_ret (v := .int .i64 (0)) (by simp [results, Try.results42, go_sem, bne]) rfl ?_
          exact ⟨ret_int ((leaf_kids_17 k q1 q2 q3 q4).trans HT.out), (Below.refl _ _)⟩
        · (try rw [q4])
          have nq4 : (k != 4) = true := by simp only [bne, q4]; rfl
          rcases Bool.eq_false_or_eq_true (k == 5) with q5 | q5
          · (try rw [q5])
            have nq5 : (k != 5) = false := by simp only [bne, q5]; rfl
            go_wp2_with fail
            refine bodyPost_ret (v := .int .i64 (1)) (by simp [results, Try.results42, go_sem, bne]) rfl ?_
            exact ⟨ret_int ((leaf_kids_18 k q1 q2 q3 q4 q5).trans HT.out), (Below.refl _ _)⟩
          · (try rw [q5])
            have nq5 : (k != 5) = true := by simp only [bne, q5]; rfl
            rcases Bool.eq_false_or_eq_true (k == 11) with q6 | q6
            · (try rw [q6])
              have nq6 : (k != 11) = false := by simp only [bne, q6]; rfl
              go_wp2_with fail
              refine bodyPost_ret (v := .int .i64 (1)) (by simp [results, Try.results42, go_sem, bne]) rfl ?_
              exact ⟨ret_int ((leaf_kids_19 k q1 q2 q3 q4 q5 q6).trans HT.out), (Below.refl _ _)⟩
            · (try rw [q6])
              have nq6 : (k != 11) = true := by simp only [bne, q6]; rfl
              rcases Bool.eq_false_or_eq_true (k == 12) with q7 | q7
              · (try rw [q7])
                have nq7 : (k != 12) = false := by simp only [bne, q7]; rfl
                go_wp2_with fail
                refine bodyPost_ret (v := .int .i64 (1)) (by simp [results, Try.results42, go_sem, bne]) rfl ?_
                exact ⟨ret_int ((leaf_kids_20 k q1 q2 q3 q4 q5 q6 q7).trans HT.out), (Below.refl _ _)⟩
              · (try rw [q7])
                have nq7 : (k != 12) = true := by simp only [bne, q7]; rfl
                rcases Bool.eq_false_or_eq_true (k == 13) with q8 | q8
                · (try rw [q8])
                  have nq8 : (k != 13) = false := by simp only [bne, q8]; rfl
                  go_wp2_with fail
                  refine bodyPost_ret (v := .int .i64 (1)) (by simp [results, Try.results42, go_sem, bne]) rfl ?_
                  exact ⟨ret_int ((leaf_kids_21 k q1 q2 q3 q4 q5 q6 q7 q8).trans HT.out), (Below.refl _ _)⟩
                · (try rw [q8])
                  have nq8 : (k != 13) = true := by simp only [bne, q8]; rfl
                  rcases Bool.eq_false_or_eq_true (k == 14) with q9 | q9
                  · (try rw [q9])
                    have nq9 : (k != 14) = false := by simp only [bne, q9]; rfl
                    go_wp2_with fail
                    refine bodyPost_ret (v := .int .i64 (1)) (by simp [results, Try.results42, go_sem, bne]) rfl ?_
                    exact ⟨ret_int ((leaf_kids_22 k q1 q2 q3 q4 q5 q6 q7 q8 q9).trans HT.out), (Below.refl _ _)⟩
                  · (try rw [q9])
                    have nq9 : (k != 14) = true := by simp only [bne, q9]; rfl
                    rcases Bool.eq_false_or_eq_true (k == 6) with q10 | q10
                    · (try rw [q10])
                      have nq10 : (k != 6) = false := by simp only [bne, q10]; rfl
                      go_wp2_with fail
                      refine bodyPost_ret (v := .int .i64 (2)) (by simp [results, Try.results42, go_sem, bne]) rfl ?_
                      exact ⟨ret_int ((leaf_kids_23 k q1 q2 q3 q4 q5 q6 q7 q8 q9 q10).trans HT.out), (Below.refl _ _)⟩
                    · (try rw [q10])
                      have nq10 : (k != 6) = true := by simp only [bne, q10]; rfl
                      rcases Bool.eq_false_or_eq_true (k == 7) with q11 | q11
                      · (try rw [q11])
                        have nq11 : (k != 7) = false := by simp only [bne, q11]; rfl
                        go_wp2_with fail
                        refine bodyPost_ret (v := .int .i64 (2)) (by simp [results, Try.results42, go_sem, bne]) rfl ?_
                        exact ⟨ret_int ((leaf_kids_24 k q1 q2 q3 q4 q5 q6 q7 q8 q9 q10 q11).trans HT.out), (Below.refl _ _)⟩
                      · (try rw [q11])
                        have nq11 : (k != 7) = true := by simp only [bne, q11]; rfl
                        rcases Bool.eq_false_or_eq_true (k == 8) with q12 | q12
                        · (try rw [q12])
                          have nq12 : (k != 8) = false := by simp only [bne, q12]; rfl
                          go_wp2_with fail
                          refine bodyPost_ret (v := .int .i64 (2)) (by simp [results, Try.results42, go_sem, bne]) rfl ?_
                          exact ⟨ret_int ((leaf_kids_25 k q1 q2 q3 q4 q5 q6 q7 q8 q9 q10 q11 q12).trans HT.out), (Below.refl _ _)⟩
                        · (try rw [q12])
                          have nq12 : (k != 8) = true := by simp only [bne, q12]; rfl
                          rcases Bool.eq_false_or_eq_true (k == 10) with q13 | q13
                          · (try rw [q13])
                            have nq13 : (k != 10) = false := by simp only [bne, q13]; rfl
                            go_wp2_with fail
                            refine bodyPost_ret (v := .int .i64 (2)) (by simp [results, Try.results42, go_sem, bne]) rfl ?_
                            exact ⟨ret_int ((leaf_kids_26 k q1 q2 q3 q4 q5 q6 q7 q8 q9 q10 q11 q12 q13).trans HT.out), (Below.refl _ _)⟩
                          · (try rw [q13])
                            have nq13 : (k != 10) = true := by simp only [bne, q13]; rfl
                            rcases Bool.eq_false_or_eq_true (k == 9) with q14 | q14
                            · (try rw [q14])
                              have nq14 : (k != 9) = false := by simp only [bne, q14]; rfl
                              go_wp2_with fail
                              refine bodyPost_ret (v := .int .i64 (3)) (by simp [results, Try.results42, go_sem, bne]) rfl ?_
                              exact ⟨ret_int ((leaf_kids_27 k q1 q2 q3 q4 q5 q6 q7 q8 q9 q10 q11 q12 q13 q14).trans HT.out), (Below.refl _ _)⟩
                            · (try rw [q14])
                              have nq14 : (k != 9) = true := by simp only [bne, q14]; rfl
                              go_wp2_with fail
                              refine bodyPost_ret (v := .int .i64 (-1)) (by simp [results, Try.results42, go_sem, bne]) rfl ?_
                              exact ⟨ret_int ((leaf_kids_28 k q1 q2 q3 q4 q5 q6 q7 q8 q9 q10 q11 q12 q13 q14).trans HT.out), (Below.refl _ _)⟩
set_option maxHeartbeats 1000000 in
theorem implIsNoType (k : Int) (a : Option Addr) (n q : Nat) (w : World) : Calls Try.prog 71 #[.agg #[.int .i64 k, .slice a n q]] w fun e w' => e = .returned (.bool (noneB k n)) ∧ Below w.heap.size w w' := by
  obtain ⟨rr, hrr⟩ : ∃ rr0 : Bool, (noneB k n) = rr0 := ⟨_, rfl⟩
  rw [hrr]
  have HT := Lib.hid hrr
  clear hrr
  go_enter Try.func71, Try.ntmps71
  rcases Bool.eq_false_or_eq_true (k == 0) with q1 | q1
  · skip
    have nq1 : (k != 0) = false := by simp only [bne, q1]; rfl
    go_wp2_with fail
    refine bodyPost_ret (v := .bool ((n : Int) == 0)) (by simp [results, Try.results71, go_sem, bne]) rfl ?_
    exact ⟨ret_bool ((leaf_implIsNoType_29 k n q1).trans HT.out), bal1⟩
  · skip
    have nq1 : (k != 0) = true := by simp only [bne, q1]; rfl
    go_wp2_with fail
    refine bodyPost_ret (v := .bool (false)) (by simp [results, Try.results71, go_sem, bne]) rfl ?_
    exact ⟨ret_bool ((leaf_implIsNoType_30 k n q1).trans HT.out), bal1⟩
set_option maxHeartbeats 1000000 in
theorem specL2None (k : Int) (a : Option Addr) (n q : Nat) (w : World) : Calls Try.prog 64 #[.agg #[.int .i64 k, .slice a n q]] w fun e w' => e = .returned (.bool (noneB k n)) ∧ Below w.heap.size w w' := by
  obtain ⟨rr, hrr⟩ : ∃ rr0 : Bool, (noneB k n) = rr0 := ⟨_, rfl⟩
  rw [hrr]
  have HT := Lib.hid hrr
  clear hrr
  go_enter Try.func64, Try.ntmps64
  rcases Bool.eq_false_or_eq_true (k == 0) with q1 | q1
  · skip
    have nq1 : (k != 0) = false := by simp only [bne, q1]; rfl
    go_wp2_with fail
    refine bodyPost_ret (v := .bool ((n : Int) == 0)) (by simp [results, Try.results64, go_sem, bne]) rfl ?_
    exact ⟨ret_bool ((leaf_specL2None_31 k n q1).trans HT.out), bal1⟩
  · skip
    have nq1 : (k != 0) = true := by simp only [bne, q1]; rfl
    go_wp2_with fail
    refine bodyPost_ret (v := .bool (false)) (by simp [results, Try.results64, go_sem, bne]) rfl ?_
    exact ⟨ret_bool ((leaf_specL2None_32 k n q1).trans HT.out), bal1⟩
theorem implIsNameB (s : ByteArray) (w : World) : Calls Try.prog 69 #[.string s] w fun e w' => e = .returned (.bool (nameB s)) ∧ Below w.heap.size w w' := (implIsName s w).mono fun e w' h => ⟨h.1, h.2 ▸ Below.refl _ _⟩
theorem specL2NameB (s : ByteArray) (w : World) : Calls Try.prog 63 #[.string s] w fun e w' => e = .returned (.bool (nameB s)) ∧ Below w.heap.size w w' := (specL2Name s w).mono fun e w' h => ⟨h.1, h.2 ▸ Below.refl _ _⟩
theorem nameB_nil {s : ByteArray} (h : (s.toList == []) = true) : nameB s = false := by
  have h1 : s.toList = [] := by simpa using h
  rw [Go.ByteArray.toList_eq] at h1
  refine nameB_no ?_
  intro h2
  have : s.data.toList.length = 0 := by rw [h1]; rfl
  have : s.size = 0 := by simpa using this
  omega
end Go.Proofs.Ytkhmkohgnikcmaa
