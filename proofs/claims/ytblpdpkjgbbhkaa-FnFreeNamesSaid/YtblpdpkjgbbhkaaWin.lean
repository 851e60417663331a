/-
  Bounds of numbers, labels.
-/
import Derived.Test.YtblpdpkjgbbhkaaRows
import Derived.Test.YtblpdpkjgbbhkaaWk
import Derived.IntWalk
namespace Go.Proofs.Ytblpdpkjgbbhkaa
open Go.RowKit
set_option linter.unusedVariables false
set_option linter.unusedSimpArgs false
set_option maxRecDepth 100000

def winB (n a b : Int) : Bool := decide (a ≤ n) && decide (n ≤ b)
def labelB (n : Int) : Bool := winB n 1 99 || winB n (-99) (-1)
theorem implWithin (n a b : Int) (w : World) : Calls Try.prog 129 #[.int .i64 n, .int .i64 a, .int .i64 b] w fun e w' => e = .returned (.bool (winB n a b)) ∧ Below w.heap.size w w' := by
  unfold winB
  by_cases h1 : a ≤ n
  · by_cases h2 : n ≤ b
    · go_enter Try.func129, Try.ntmps129
      go_wp2_with fail
      go_ret
      exact ⟨ret_bool (by simp [h1, h2]), Below.refl _ _⟩
    · have h2' : decide (n ≤ b) = false := decide_eq_false h2
      go_enter Try.func129, Try.ntmps129
      go_wp2_with fail
      go_ret
      exact ⟨ret_bool (by simp [h1, h2']), Below.refl _ _⟩
  · have h1' : decide (a ≤ n) = false := decide_eq_false h1
    go_enter Try.func129, Try.ntmps129
    go_wp2_with fail
    go_ret
    exact ⟨ret_bool (by simp [h1']), Below.refl _ _⟩

def absL (n : Int) : Int := if n < -99 ∨ 99 < n then 0 else if n < 0 then -n else n
theorem specL1Abs (n : Int) (w : World) : Calls Try.prog 155 #[.int .i64 n] w fun e w' => e = .returned (.int .i64 (absL n)) ∧ w = w' := by
  by_cases h1 : n < -99
  · have ha : absL n = 0 := by unfold absL; rw [if_pos (.inl h1)]
    have HA := Lib.hid ha
    clear ha
    go_enter Try.func155, Try.ntmps155
    go_wp2_with fail
    go_ret
    exact ⟨ret_int HA.out.symm, rfl⟩
  · have d1 : decide (n < -99) = false := decide_eq_false h1
    by_cases h2 : n > 99
    · have ha : absL n = 0 := by unfold absL; rw [if_pos (.inr h2)]
      have HA := Lib.hid ha
      clear ha
      go_enter Try.func155, Try.ntmps155
      go_wp2_with fail
      go_ret
      exact ⟨ret_int HA.out.symm, rfl⟩
    · have d2 : decide (n > 99) = false := decide_eq_false h2
      by_cases h3 : n < 0
      · have ha : absL n = -n := by unfold absL; rw [if_neg (by omega), if_pos h3]
        have HA := Lib.hid ha
        have hw : IntKind.i64.wrap (-n) = -n := IntWalk.i64_in _ (by omega)
        clear ha
        go_enter Try.func155, Try.ntmps155
        go_wp2_with fail
        go_ret
        exact ⟨ret_int HA.out.symm, rfl⟩
      · have ha : absL n = n := by unfold absL; rw [if_neg (by omega), if_neg h3]
        have HA := Lib.hid ha
        clear ha
        go_enter Try.func155, Try.ntmps155
        go_wp2_with fail
        go_ret
        exact ⟨ret_int HA.out.symm, rfl⟩
theorem labelB_abs (n : Int) : decide (absL n ≥ 1) = labelB n := by
  unfold absL labelB winB
  rw [Bool.eq_iff_iff]
  simp
  split
  · omega
  · split <;> omega
theorem leaf_isLabel_0 (n : Int) (h0 : (winB n 1 99) = true) : (true : Bool) = (labelB n) := by
  simp_all [labelB]

theorem leaf_isLabel_1 (n : Int) (h0 : (winB n 1 99) = false) : (winB n (-99) (-1) : Bool) = (labelB n) := by
  simp_all [labelB]

set_option maxHeartbeats 1000000 in
theorem implIsLabel (n : Int) (w : World) : Calls Try.prog 131 #[.int .i64 n] w fun e w' => e = .returned (.bool (labelB n)) ∧ Below w.heap.size w w' := by
  obtain ⟨rr, hrr⟩ : ∃ rr0 : Bool, (labelB n) = rr0 := ⟨_, rfl⟩
  rw [hrr]
  have HT := Lib.hid hrr
  clear hrr
  go_enter Try.func131, Try.ntmps131
  rcases Bool.eq_false_or_eq_true (winB n 1 99) with q1 | q1
  · have Hq1 := Lib.hid q1
    clear q1
    go_wp2_with fail
    refine (implWithin n 1 99 _).mono ?_
    rintro e w1 ⟨rfl, hb1⟩
    rw [Hq1.out]
    have hB := (bstep (Below.refl _ _) hb1)
    have zw1 := hB.size
    go_wp2_with fail
    refine bodyPost_ret (v := .bool (true)) (by simp [results, Try.results131, go_sem, bne]) rfl ?_
    exact ⟨ret_bool ((leaf_isLabel_0 n Hq1.out).trans HT.out), hB⟩
  · have Hq1 := Lib.hid q1
    clear q1
    go_wp2_with fail
    refine (implWithin n 1 99 _).mono ?_
    rintro e w2 ⟨rfl, hb2⟩
    rw [Hq1.out]
    have hB := (bstep (Below.refl _ _) hb2)
    have zw2 := hB.size
    go_wp2_with fail
    refine (implWithin n (-99) (-1) _).mono ?_
    rintro e w3 ⟨rfl, hb3⟩
    replace hB := (bstep hB hb3)
    have zw3 := hB.size
    go_wp2_with fail
    refine bodyPost_ret (v := .bool (winB n (-99) (-1))) (by simp [results, Try.results131, go_sem, bne]) rfl ?_
    exact ⟨ret_bool ((leaf_isLabel_1 n Hq1.out).trans HT.out), hB⟩
end Go.Proofs.Ytblpdpkjgbbhkaa
