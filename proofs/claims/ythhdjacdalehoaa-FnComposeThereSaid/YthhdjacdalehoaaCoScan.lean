/-
  The check of a node of a coercion by the program.
-/
import Derived.Test.YthhdjacdalehoaaCoNode
import Derived.IntWalk
import Derived.Deep.RegionHeld3
namespace Go.Proofs.Ythhdjacdalehoaa
open Go.RowKit
set_option linter.unusedVariables false
set_option linter.unusedSimpArgs false
set_option maxRecDepth 100000

theorem implCoOps (k : Int) (w : World) : Calls Try.prog 66 #[.int .i64 k] w fun e w' => e = .returned (.int .i64 (coOps k)) ∧ Below w.heap.size w w' := by
  by_cases h : k = 1 ∨ k = 2 ∨ k = 3 ∨ k = 4 ∨ k = 5 ∨ k = 6
  · rcases h with rfl | rfl | rfl | rfl | rfl | rfl
    · exact implCoOps1 w
    · exact implCoOps2 w
    · exact implCoOps3 w
    · exact implCoOps4 w
    · exact implCoOps5 w
    · exact implCoOps6 w
  · have hw : winB k 1 6 = false := by unfold winB; simp; omega
    have hc : coOps k = -1 := by unfold coOps; rw [if_neg (by omega), if_neg (by omega), if_neg (by omega)]
    have HW := Lib.hid hw
    have HC := Lib.hid hc
    clear hw hc h
    go_enter Try.func66, Try.ntmps66
    go_wp2_with fail
    refine (implWithin k 1 6 _).mono ?_
    rintro e w1 ⟨rfl, hb1⟩
    rw [HW.out]
    go_wp2_with fail
    go_ret
    exact ⟨ret_int HC.out.symm, hb1⟩
def absL (n : Int) : Int := if n < -99 ∨ 99 < n then 0 else if n < 0 then -n else n
theorem specL1Abs (n : Int) (w : World) : Calls Try.prog 59 #[.int .i64 n] w fun e w' => e = .returned (.int .i64 (absL n)) ∧ w = w' := by
  by_cases h1 : n < -99
  · have ha : absL n = 0 := by unfold absL; rw [if_pos (.inl h1)]
    have HA := Lib.hid ha
    clear ha
    go_enter Try.func59, Try.ntmps59
    go_wp2_with fail
    go_ret
    exact ⟨ret_int HA.out.symm, rfl⟩
  · have d1 : decide (n < -99) = false := decide_eq_false h1
    by_cases h2 : n > 99
    · have ha : absL n = 0 := by unfold absL; rw [if_pos (.inr h2)]
      have HA := Lib.hid ha
      clear ha
      go_enter Try.func59, Try.ntmps59
      go_wp2_with fail
      go_ret
      exact ⟨ret_int HA.out.symm, rfl⟩
    · have d2 : decide (n > 99) = false := decide_eq_false h2
      by_cases h3 : n < 0
      · have ha : absL n = -n := by unfold absL; rw [if_neg (by omega), if_pos h3]
        have HA := Lib.hid ha
        have hw : IntKind.i64.wrap (-n) = -n := IntWalk.i64_in _ (by omega)
        clear ha
        go_enter Try.func59, Try.ntmps59
        go_wp2_with fail
        go_ret
        exact ⟨ret_int HA.out.symm, rfl⟩
      · have ha : absL n = n := by unfold absL; rw [if_neg (by omega), if_neg h3]
        have HA := Lib.hid ha
        clear ha
        go_enter Try.func59, Try.ntmps59
        go_wp2_with fail
        go_ret
        exact ⟨ret_int HA.out.symm, rfl⟩
theorem labelB_abs (n : Int) : decide (absL n ≥ 1) = labelB n := by
  unfold absL labelB winB
  rw [Bool.eq_iff_iff]
  simp
  split
  · omega
  · split <;> omega
theorem specL6Label (n : Int) (w : World) : Calls Try.prog 34 #[.int .i64 n] w fun e w' => e = .returned (.bool (labelB n)) ∧ Below w.heap.size w w' := by
  have HL := Lib.hid (labelB_abs n)
  go_enter Try.func34, Try.ntmps34
  go_wp2_with fail
  refine (specL1Abs n _).mono ?_
  rintro e w1 ⟨rfl, rfl⟩
  go_wp2_with fail
  go_ret
  exact ⟨ret_bool HL.out, Below.refl _ _⟩

theorem leaf_scan_nil_0 (k g l d : Int) (r : Bool) (h0 : (decide (d > 9)) = true) : (false : Bool) = ((decide (1 ≤ 10 - d) && Co.nodeB k g l 0 0 0 && !r)) := by
  first | (simp_all; done) | grind [Co.shape, Co.nodeB, winB, labelB, plainB, coOps, Co.headK, Co.headG] | (simp_all [Co.shape, Co.nodeB, winB, labelB, plainB, coOps, Co.headK, Co.headG]; done) | (simp_all [Co.shape, Co.nodeB, winB, labelB, plainB, coOps, Co.headK, Co.headG]; omega)

theorem leaf_scan_nil_1 (k g l d : Int) (r : Bool) (h0 : (decide (d > 9)) = false) (h1 : ((coOps k) == 0) = true) (h2 : (k == 1) = true) (h3 : (k == 5) = false) (h4 : (winB g 1 3) = true) (h5 : (k == 6) = false) (h6 : (l == 0) = true) (h7 : (k == 4) = false) : (!r : Bool) = ((decide (1 ≤ 10 - d) && Co.nodeB k g l 0 0 0 && !r)) := by
  first | (simp_all; done) | grind [Co.shape, Co.nodeB, winB, labelB, plainB, coOps, Co.headK, Co.headG] | (simp_all [Co.shape, Co.nodeB, winB, labelB, plainB, coOps, Co.headK, Co.headG]; done) | (simp_all [Co.shape, Co.nodeB, winB, labelB, plainB, coOps, Co.headK, Co.headG]; omega)

theorem leaf_scan_nil_2 (k g l d : Int) (r : Bool) (h0 : (decide (d > 9)) = false) (h1 : ((coOps k) == 0) = true) (h2 : (k == 1) = true) (h3 : (k == 5) = false) (h4 : (winB g 1 3) = true) (h5 : (k == 6) = false) (h6 : (l == 0) = false) : (false : Bool) = ((decide (1 ≤ 10 - d) && Co.nodeB k g l 0 0 0 && !r)) := by
  first | (simp_all; done) | grind [Co.shape, Co.nodeB, winB, labelB, plainB, coOps, Co.headK, Co.headG] | (simp_all [Co.shape, Co.nodeB, winB, labelB, plainB, coOps, Co.headK, Co.headG]; done) | (simp_all [Co.shape, Co.nodeB, winB, labelB, plainB, coOps, Co.headK, Co.headG]; omega)

theorem leaf_scan_nil_3 (k g l d : Int) (r : Bool) (h0 : (decide (d > 9)) = false) (h1 : ((coOps k) == 0) = true) (h2 : (k == 1) = true) (h3 : (k == 5) = false) (h4 : (winB g 1 3) = false) : (false : Bool) = ((decide (1 ≤ 10 - d) && Co.nodeB k g l 0 0 0 && !r)) := by
  first | (simp_all; done) | grind [Co.shape, Co.nodeB, winB, labelB, plainB, coOps, Co.headK, Co.headG] | (simp_all [Co.shape, Co.nodeB, winB, labelB, plainB, coOps, Co.headK, Co.headG]; done) | (simp_all [Co.shape, Co.nodeB, winB, labelB, plainB, coOps, Co.headK, Co.headG]; omega)

theorem leaf_scan_nil_4 (k g l d : Int) (r : Bool) (h0 : (decide (d > 9)) = false) (h1 : ((coOps k) == 0) = true) (h2 : (k == 1) = false) (h3 : (k == 6) = true) (h4 : (k == 5) = false) (h5 : (winB g 2 5) = true) (h6 : (labelB l) = true) (h7 : (k == 4) = false) : (!r : Bool) = ((decide (1 ≤ 10 - d) && Co.nodeB k g l 0 0 0 && !r)) := by
  first | (simp_all; done) | grind [Co.shape, Co.nodeB, winB, labelB, plainB, coOps, Co.headK, Co.headG] | (simp_all [Co.shape, Co.nodeB, winB, labelB, plainB, coOps, Co.headK, Co.headG]; done) | (simp_all [Co.shape, Co.nodeB, winB, labelB, plainB, coOps, Co.headK, Co.headG]; omega)

theorem leaf_scan_nil_5 (k g l d : Int) (r : Bool) (h0 : (decide (d > 9)) = false) (h1 : ((coOps k) == 0) = true) (h2 : (k == 1) = false) (h3 : (k == 6) = true) (h4 : (k == 5) = false) (h5 : (winB g 2 5) = true) (h6 : (labelB l) = false) : (false : Bool) = ((decide (1 ≤ 10 - d) && Co.nodeB k g l 0 0 0 && !r)) := by
  first | (simp_all; done) | grind [Co.shape, Co.nodeB, winB, labelB, plainB, coOps, Co.headK, Co.headG] | (simp_all [Co.shape, Co.nodeB, winB, labelB, plainB, coOps, Co.headK, Co.headG]; done) | (simp_all [Co.shape, Co.nodeB, winB, labelB, plainB, coOps, Co.headK, Co.headG]; omega)

theorem leaf_scan_nil_6 (k g l d : Int) (r : Bool) (h0 : (decide (d > 9)) = false) (h1 : ((coOps k) == 0) = true) (h2 : (k == 1) = false) (h3 : (k == 6) = true) (h4 : (k == 5) = false) (h5 : (winB g 2 5) = false) : (false : Bool) = ((decide (1 ≤ 10 - d) && Co.nodeB k g l 0 0 0 && !r)) := by
  first | (simp_all; done) | grind [Co.shape, Co.nodeB, winB, labelB, plainB, coOps, Co.headK, Co.headG] | (simp_all [Co.shape, Co.nodeB, winB, labelB, plainB, coOps, Co.headK, Co.headG]; done) | (simp_all [Co.shape, Co.nodeB, winB, labelB, plainB, coOps, Co.headK, Co.headG]; omega)

theorem leaf_scan_nil_7 (k g l d : Int) (r : Bool) (h0 : (decide (d > 9)) = false) (h1 : ((coOps k) == 0) = true) (h2 : (k == 1) = false) (h3 : (k == 6) = false) (h4 : (k == 5) = false) (h5 : (g == 0) = true) (h6 : (l == 0) = true) (h7 : (k == 4) = false) : (!r : Bool) = ((decide (1 ≤ 10 - d) && Co.nodeB k g l 0 0 0 && !r)) := by
  first | (simp_all; done) | grind [Co.shape, Co.nodeB, winB, labelB, plainB, coOps, Co.headK, Co.headG] | (simp_all [Co.shape, Co.nodeB, winB, labelB, plainB, coOps, Co.headK, Co.headG]; done) | (simp_all [Co.shape, Co.nodeB, winB, labelB, plainB, coOps, Co.headK, Co.headG]; omega)

theorem leaf_scan_nil_8 (k g l d : Int) (r : Bool) (h0 : (decide (d > 9)) = false) (h1 : ((coOps k) == 0) = true) (h2 : (k == 1) = false) (h3 : (k == 6) = false) (h4 : (k == 5) = false) (h5 : (g == 0) = true) (h6 : (l == 0) = false) : (false : Bool) = ((decide (1 ≤ 10 - d) && Co.nodeB k g l 0 0 0 && !r)) := by
  first | (simp_all; done) | grind [Co.shape, Co.nodeB, winB, labelB, plainB, coOps, Co.headK, Co.headG] | (simp_all [Co.shape, Co.nodeB, winB, labelB, plainB, coOps, Co.headK, Co.headG]; done) | (simp_all [Co.shape, Co.nodeB, winB, labelB, plainB, coOps, Co.headK, Co.headG]; omega)

theorem leaf_scan_nil_9 (k g l d : Int) (r : Bool) (h0 : (decide (d > 9)) = false) (h1 : ((coOps k) == 0) = true) (h2 : (k == 1) = false) (h3 : (k == 6) = false) (h4 : (k == 5) = false) (h5 : (g == 0) = false) : (false : Bool) = ((decide (1 ≤ 10 - d) && Co.nodeB k g l 0 0 0 && !r)) := by
  first | (simp_all; done) | grind [Co.shape, Co.nodeB, winB, labelB, plainB, coOps, Co.headK, Co.headG] | (simp_all [Co.shape, Co.nodeB, winB, labelB, plainB, coOps, Co.headK, Co.headG]; done) | (simp_all [Co.shape, Co.nodeB, winB, labelB, plainB, coOps, Co.headK, Co.headG]; omega)

theorem leaf_scan_nil_10 (k g l d : Int) (r : Bool) (h0 : (decide (d > 9)) = false) (h1 : ((coOps k) == 0) = false) : (false : Bool) = ((decide (1 ≤ 10 - d) && Co.nodeB k g l 0 0 0 && !r)) := by
  first | (simp_all; done) | grind [Co.shape, Co.nodeB, winB, labelB, plainB, coOps, Co.headK, Co.headG] | (simp_all [Co.shape, Co.nodeB, winB, labelB, plainB, coOps, Co.headK, Co.headG]; done) | (simp_all [Co.shape, Co.nodeB, winB, labelB, plainB, coOps, Co.headK, Co.headG]; omega)

theorem leaf_scan_cons_11 (k g l d k0 g0 : Int) (n : Nat) (r : Bool) (h0 : (decide (d > 9)) = true) : (false : Bool) = ((decide (1 ≤ 10 - d) && Co.nodeB k g l (n : Int) k0 g0 && !r)) := by
  first | (simp_all; done) | grind [Co.shape, Co.nodeB, winB, labelB, plainB, coOps, Co.headK, Co.headG] | (simp_all [Co.shape, Co.nodeB, winB, labelB, plainB, coOps, Co.headK, Co.headG]; done) | (simp_all [Co.shape, Co.nodeB, winB, labelB, plainB, coOps, Co.headK, Co.headG]; omega)

theorem leaf_scan_cons_12 (k g l d k0 g0 : Int) (n : Nat) (r : Bool) (h0 : (decide (d > 9)) = false) (h1 : ((coOps k) == (n : Int)) = true) (h2 : (k == 1) = true) (h3 : (k == 5) = false) (h4 : (winB g 1 3) = true) (h5 : (k == 6) = false) (h6 : (l == 0) = true) (h7 : (k == 4) = false) : (!r : Bool) = ((decide (1 ≤ 10 - d) && Co.nodeB k g l (n : Int) k0 g0 && !r)) := by
  first | (simp_all; done) | grind [Co.shape, Co.nodeB, winB, labelB, plainB, coOps, Co.headK, Co.headG] | (simp_all [Co.shape, Co.nodeB, winB, labelB, plainB, coOps, Co.headK, Co.headG]; done) | (simp_all [Co.shape, Co.nodeB, winB, labelB, plainB, coOps, Co.headK, Co.headG]; omega)

theorem leaf_scan_cons_13 (k g l d k0 g0 : Int) (n : Nat) (r : Bool) (h0 : (decide (d > 9)) = false) (h1 : ((coOps k) == (n : Int)) = true) (h2 : (k == 1) = true) (h3 : (k == 5) = false) (h4 : (winB g 1 3) = true) (h5 : (k == 6) = false) (h6 : (l == 0) = false) : (false : Bool) = ((decide (1 ≤ 10 - d) && Co.nodeB k g l (n : Int) k0 g0 && !r)) := by
  first | (simp_all; done) | grind [Co.shape, Co.nodeB, winB, labelB, plainB, coOps, Co.headK, Co.headG] | (simp_all [Co.shape, Co.nodeB, winB, labelB, plainB, coOps, Co.headK, Co.headG]; done) | (simp_all [Co.shape, Co.nodeB, winB, labelB, plainB, coOps, Co.headK, Co.headG]; omega)

theorem leaf_scan_cons_14 (k g l d k0 g0 : Int) (n : Nat) (r : Bool) (h0 : (decide (d > 9)) = false) (h1 : ((coOps k) == (n : Int)) = true) (h2 : (k == 1) = true) (h3 : (k == 5) = false) (h4 : (winB g 1 3) = false) : (false : Bool) = ((decide (1 ≤ 10 - d) && Co.nodeB k g l (n : Int) k0 g0 && !r)) := by
  first | (simp_all; done) | grind [Co.shape, Co.nodeB, winB, labelB, plainB, coOps, Co.headK, Co.headG] | (simp_all [Co.shape, Co.nodeB, winB, labelB, plainB, coOps, Co.headK, Co.headG]; done) | (simp_all [Co.shape, Co.nodeB, winB, labelB, plainB, coOps, Co.headK, Co.headG]; omega)

theorem leaf_scan_cons_15 (k g l d k0 g0 : Int) (n : Nat) (r : Bool) (h0 : (decide (d > 9)) = false) (h1 : ((coOps k) == (n : Int)) = true) (h2 : (k == 1) = false) (h3 : (k == 6) = true) (h4 : (k == 5) = false) (h5 : (winB g 2 5) = true) (h6 : (labelB l) = true) (h7 : (k == 4) = false) : (!r : Bool) = ((decide (1 ≤ 10 - d) && Co.nodeB k g l (n : Int) k0 g0 && !r)) := by
  first | (simp_all; done) | grind [Co.shape, Co.nodeB, winB, labelB, plainB, coOps, Co.headK, Co.headG] | (simp_all [Co.shape, Co.nodeB, winB, labelB, plainB, coOps, Co.headK, Co.headG]; done) | (simp_all [Co.shape, Co.nodeB, winB, labelB, plainB, coOps, Co.headK, Co.headG]; omega)

theorem leaf_scan_cons_16 (k g l d k0 g0 : Int) (n : Nat) (r : Bool) (h0 : (decide (d > 9)) = false) (h1 : ((coOps k) == (n : Int)) = true) (h2 : (k == 1) = false) (h3 : (k == 6) = true) (h4 : (k == 5) = false) (h5 : (winB g 2 5) = true) (h6 : (labelB l) = false) : (false : Bool) = ((decide (1 ≤ 10 - d) && Co.nodeB k g l (n : Int) k0 g0 && !r)) := by
  first | (simp_all; done) | grind [Co.shape, Co.nodeB, winB, labelB, plainB, coOps, Co.headK, Co.headG] | (simp_all [Co.shape, Co.nodeB, winB, labelB, plainB, coOps, Co.headK, Co.headG]; done) | (simp_all [Co.shape, Co.nodeB, winB, labelB, plainB, coOps, Co.headK, Co.headG]; omega)

theorem leaf_scan_cons_17 (k g l d k0 g0 : Int) (n : Nat) (r : Bool) (h0 : (decide (d > 9)) = false) (h1 : ((coOps k) == (n : Int)) = true) (h2 : (k == 1) = false) (h3 : (k == 6) = true) (h4 : (k == 5) = false) (h5 : (winB g 2 5) = false) : (false : Bool) = ((decide (1 ≤ 10 - d) && Co.nodeB k g l (n : Int) k0 g0 && !r)) := by
  first | (simp_all; done) | grind [Co.shape, Co.nodeB, winB, labelB, plainB, coOps, Co.headK, Co.headG] | (simp_all [Co.shape, Co.nodeB, winB, labelB, plainB, coOps, Co.headK, Co.headG]; done) | (simp_all [Co.shape, Co.nodeB, winB, labelB, plainB, coOps, Co.headK, Co.headG]; omega)

theorem leaf_scan_cons_18 (k g l d k0 g0 : Int) (n : Nat) (r : Bool) (h0 : (decide (d > 9)) = false) (h1 : ((coOps k) == (n : Int)) = true) (h2 : (k == 1) = false) (h3 : (k == 6) = false) (h4 : (k == 5) = true) (h5 : (g == 0) = true) (h6 : (labelB l) = true) (h7 : (k == 4) = false) (h8 : (k0 == 5) = true) : (false : Bool) = ((decide (1 ≤ 10 - d) && Co.nodeB k g l (n : Int) k0 g0 && !r)) := by
  first | (simp_all; done) | grind [Co.shape, Co.nodeB, winB, labelB, plainB, coOps, Co.headK, Co.headG] | (simp_all [Co.shape, Co.nodeB, winB, labelB, plainB, coOps, Co.headK, Co.headG]; done) | (simp_all [Co.shape, Co.nodeB, winB, labelB, plainB, coOps, Co.headK, Co.headG]; omega)

theorem leaf_scan_cons_19 (k g l d k0 g0 : Int) (n : Nat) (r : Bool) (h0 : (decide (d > 9)) = false) (h1 : ((coOps k) == (n : Int)) = true) (h2 : (k == 1) = false) (h3 : (k == 6) = false) (h4 : (k == 5) = true) (h5 : (g == 0) = true) (h6 : (labelB l) = true) (h7 : (k == 4) = false) (h8 : (k0 == 5) = false) (h9 : ((k0 == 1 && g0 == 1)) = true) : (false : Bool) = ((decide (1 ≤ 10 - d) && Co.nodeB k g l (n : Int) k0 g0 && !r)) := by
  first | (simp_all; done) | grind [Co.shape, Co.nodeB, winB, labelB, plainB, coOps, Co.headK, Co.headG] | (simp_all [Co.shape, Co.nodeB, winB, labelB, plainB, coOps, Co.headK, Co.headG]; done) | (simp_all [Co.shape, Co.nodeB, winB, labelB, plainB, coOps, Co.headK, Co.headG]; omega)

theorem leaf_scan_cons_20 (k g l d k0 g0 : Int) (n : Nat) (r : Bool) (h0 : (decide (d > 9)) = false) (h1 : ((coOps k) == (n : Int)) = true) (h2 : (k == 1) = false) (h3 : (k == 6) = false) (h4 : (k == 5) = true) (h5 : (g == 0) = true) (h6 : (labelB l) = true) (h7 : (k == 4) = false) (h8 : (k0 == 5) = false) (h9 : ((k0 == 1 && g0 == 1)) = false) : (!r : Bool) = ((decide (1 ≤ 10 - d) && Co.nodeB k g l (n : Int) k0 g0 && !r)) := by
  first | (simp_all; done) | grind [Co.shape, Co.nodeB, winB, labelB, plainB, coOps, Co.headK, Co.headG] | (simp_all [Co.shape, Co.nodeB, winB, labelB, plainB, coOps, Co.headK, Co.headG]; done) | (simp_all [Co.shape, Co.nodeB, winB, labelB, plainB, coOps, Co.headK, Co.headG]; omega)

theorem leaf_scan_cons_21 (k g l d k0 g0 : Int) (n : Nat) (r : Bool) (h0 : (decide (d > 9)) = false) (h1 : ((coOps k) == (n : Int)) = true) (h2 : (k == 1) = false) (h3 : (k == 6) = false) (h4 : (k == 5) = true) (h5 : (g == 0) = true) (h6 : (labelB l) = false) : (false : Bool) = ((decide (1 ≤ 10 - d) && Co.nodeB k g l (n : Int) k0 g0 && !r)) := by
  first | (simp_all; done) | grind [Co.shape, Co.nodeB, winB, labelB, plainB, coOps, Co.headK, Co.headG] | (simp_all [Co.shape, Co.nodeB, winB, labelB, plainB, coOps, Co.headK, Co.headG]; done) | (simp_all [Co.shape, Co.nodeB, winB, labelB, plainB, coOps, Co.headK, Co.headG]; omega)

theorem leaf_scan_cons_22 (k g l d k0 g0 : Int) (n : Nat) (r : Bool) (h0 : (decide (d > 9)) = false) (h1 : ((coOps k) == (n : Int)) = true) (h2 : (k == 1) = false) (h3 : (k == 6) = false) (h4 : (k == 5) = true) (h5 : (g == 0) = false) : (false : Bool) = ((decide (1 ≤ 10 - d) && Co.nodeB k g l (n : Int) k0 g0 && !r)) := by
  first | (simp_all; done) | grind [Co.shape, Co.nodeB, winB, labelB, plainB, coOps, Co.headK, Co.headG] | (simp_all [Co.shape, Co.nodeB, winB, labelB, plainB, coOps, Co.headK, Co.headG]; done) | (simp_all [Co.shape, Co.nodeB, winB, labelB, plainB, coOps, Co.headK, Co.headG]; omega)

theorem leaf_scan_cons_23 (k g l d k0 g0 : Int) (n : Nat) (r : Bool) (h0 : (decide (d > 9)) = false) (h1 : ((coOps k) == (n : Int)) = true) (h2 : (k == 1) = false) (h3 : (k == 6) = false) (h4 : (k == 5) = false) (h5 : (g == 0) = true) (h6 : (l == 0) = true) (h7 : (k == 4) = true) (h8 : (plainB k0 g0) = true) : (!r : Bool) = ((decide (1 ≤ 10 - d) && Co.nodeB k g l (n : Int) k0 g0 && !r)) := by
  first | (simp_all; done) | grind [Co.shape, Co.nodeB, winB, labelB, plainB, coOps, Co.headK, Co.headG] | (simp_all [Co.shape, Co.nodeB, winB, labelB, plainB, coOps, Co.headK, Co.headG]; done) | (simp_all [Co.shape, Co.nodeB, winB, labelB, plainB, coOps, Co.headK, Co.headG]; omega)

theorem leaf_scan_cons_24 (k g l d k0 g0 : Int) (n : Nat) (r : Bool) (h0 : (decide (d > 9)) = false) (h1 : ((coOps k) == (n : Int)) = true) (h2 : (k == 1) = false) (h3 : (k == 6) = false) (h4 : (k == 5) = false) (h5 : (g == 0) = true) (h6 : (l == 0) = true) (h7 : (k == 4) = true) (h8 : (plainB k0 g0) = false) : (false : Bool) = ((decide (1 ≤ 10 - d) && Co.nodeB k g l (n : Int) k0 g0 && !r)) := by
  first | (simp_all; done) | grind [Co.shape, Co.nodeB, winB, labelB, plainB, coOps, Co.headK, Co.headG] | (simp_all [Co.shape, Co.nodeB, winB, labelB, plainB, coOps, Co.headK, Co.headG]; done) | (simp_all [Co.shape, Co.nodeB, winB, labelB, plainB, coOps, Co.headK, Co.headG]; omega)

theorem leaf_scan_cons_25 (k g l d k0 g0 : Int) (n : Nat) (r : Bool) (h0 : (decide (d > 9)) = false) (h1 : ((coOps k) == (n : Int)) = true) (h2 : (k == 1) = false) (h3 : (k == 6) = false) (h4 : (k == 5) = false) (h5 : (g == 0) = true) (h6 : (l == 0) = true) (h7 : (k == 4) = false) : (!r : Bool) = ((decide (1 ≤ 10 - d) && Co.nodeB k g l (n : Int) k0 g0 && !r)) := by
  first | (simp_all; done) | grind [Co.shape, Co.nodeB, winB, labelB, plainB, coOps, Co.headK, Co.headG] | (simp_all [Co.shape, Co.nodeB, winB, labelB, plainB, coOps, Co.headK, Co.headG]; done) | (simp_all [Co.shape, Co.nodeB, winB, labelB, plainB, coOps, Co.headK, Co.headG]; omega)

theorem leaf_scan_cons_26 (k g l d k0 g0 : Int) (n : Nat) (r : Bool) (h0 : (decide (d > 9)) = false) (h1 : ((coOps k) == (n : Int)) = true) (h2 : (k == 1) = false) (h3 : (k == 6) = false) (h4 : (k == 5) = false) (h5 : (g == 0) = true) (h6 : (l == 0) = false) : (false : Bool) = ((decide (1 ≤ 10 - d) && Co.nodeB k g l (n : Int) k0 g0 && !r)) := by
  first | (simp_all; done) | grind [Co.shape, Co.nodeB, winB, labelB, plainB, coOps, Co.headK, Co.headG] | (simp_all [Co.shape, Co.nodeB, winB, labelB, plainB, coOps, Co.headK, Co.headG]; done) | (simp_all [Co.shape, Co.nodeB, winB, labelB, plainB, coOps, Co.headK, Co.headG]; omega)

theorem leaf_scan_cons_27 (k g l d k0 g0 : Int) (n : Nat) (r : Bool) (h0 : (decide (d > 9)) = false) (h1 : ((coOps k) == (n : Int)) = true) (h2 : (k == 1) = false) (h3 : (k == 6) = false) (h4 : (k == 5) = false) (h5 : (g == 0) = false) : (false : Bool) = ((decide (1 ≤ 10 - d) && Co.nodeB k g l (n : Int) k0 g0 && !r)) := by
  first | (simp_all; done) | grind [Co.shape, Co.nodeB, winB, labelB, plainB, coOps, Co.headK, Co.headG] | (simp_all [Co.shape, Co.nodeB, winB, labelB, plainB, coOps, Co.headK, Co.headG]; done) | (simp_all [Co.shape, Co.nodeB, winB, labelB, plainB, coOps, Co.headK, Co.headG]; omega)

theorem leaf_scan_cons_28 (k g l d k0 g0 : Int) (n : Nat) (r : Bool) (h0 : (decide (d > 9)) = false) (h1 : ((coOps k) == (n : Int)) = false) : (false : Bool) = ((decide (1 ≤ 10 - d) && Co.nodeB k g l (n : Int) k0 g0 && !r)) := by
  first | (simp_all; done) | grind [Co.shape, Co.nodeB, winB, labelB, plainB, coOps, Co.headK, Co.headG] | (simp_all [Co.shape, Co.nodeB, winB, labelB, plainB, coOps, Co.headK, Co.headG]; done) | (simp_all [Co.shape, Co.nodeB, winB, labelB, plainB, coOps, Co.headK, Co.headG]; omega)

set_option maxHeartbeats 8000000 in
theorem scan_nil (k g l d : Int) (a : Option Addr) (q : Nat) (r : Bool) (w : World) (h1 : 1 ≤ d) (h2 : d ≤ 10)
    (H : d ≤ 9 → ∀ (W : World) (b0 : Nat), Below w.heap.size w W → W.cell? ⟨b0, 0, none⟩ = some (.int .i64 d) → Calls Try.prog 62 #[.slice a 0 q, .func (.func 68) #[] #[.pointer (some ⟨b0, 0, none⟩)]] W fun e W' => e = .returned (.bool r) ∧ Below W.heap.size W W') :
    Calls Try.prog 45 #[.agg #[.int .i64 k, .int .i64 g, .int .i64 l, .slice a 0 q], .int .i64 d] w fun e w' => e = .returned (.bool (decide (1 ≤ 10 - d) && Co.nodeB k g l 0 0 0 && !r)) ∧ Below w.heap.size w w' := by
  have HH := Lib.hid H
  clear H
  go_enter Try.func45, Try.ntmps45
  rcases Bool.eq_false_or_eq_true (decide (d > 9)) with q1 | q1
  · skip
    go_wp2_with fail
    have s0_ : (World.alloc (World.alloc w (Obj.cells #[.int .i64 k, .int .i64 g, .int .i64 l, .slice a 0 q] 28)) (Obj.cells #[.int .i64 d] 3)).cell? ⟨w.heap.size + 1, 0, none⟩ = some (.int .i64 d) := cell_new (by simp) 0
    refine wp_region_noPanic ?_
    refine wp_region_held_drew (S := fun w' => w'.cell? ⟨w.heap.size + 1, 0, none⟩ = some (.int .i64 d)) (by kernel_rfl) ?_ (fun hHeld0 => ?_)
    · exact dcell (s0_)
    refine wpAnyH_take (i := 0) (oi := { dst := some 7, op := Op.load 3 (Operand.tmp 3), type := 3, pos := "l6_coercions.go:60", after := #[], guard := none }) (v := .int .i64 d) rfl (by kernel_rfl) (by kernel_rfl) (by kernel_rfl) (fun _ _ _ h => h) (Or.inl ⟨by rfl, ?_⟩) hHeld0 ?_
    · intro w' hSw; (try dsimp only at hSw); go_simp
    (try simp only [Act.put, List.setIfInBounds_toArray, List.set_cons_zero, List.set_cons_succ])
    refine wpAnyH_take (i := 1) (oi := { dst := some 8, op := Op.binOp BinOp.gtr 3 (Operand.tmp 7) (Operand.const (Value.int IntKind.i64 9)) 3, type := 4, pos := "l6_coercions.go:60", after := #[{ on := 0, ground := Ground.data }], guard := none }) (v := .bool true) rfl (by kernel_rfl) (by kernel_rfl) (by kernel_rfl) (fun _ _ _ h => h) (Or.inl ⟨by rfl, ?_⟩) hHeld0 ?_
    · intro w' hSw; (try dsimp only at hSw); go_simp
    (try simp only [Act.put, List.setIfInBounds_toArray, List.set_cons_zero, List.set_cons_succ])
    refine wpAnyH_take (i := 2) (oi := { dst := some 9, op := Op.move (Operand.tmp 8), type := 4, pos := "l6_coercions.go:60", after := #[{ on := 1, ground := Ground.data }], guard := none }) (v := .bool true) rfl (by kernel_rfl) (by kernel_rfl) (by kernel_rfl) (fun _ _ _ h => h) (Or.inl ⟨by rfl, ?_⟩) hHeld0 ?_
    · intro w' hSw; (try dsimp only at hSw); go_simp
    (try simp only [Act.put, List.setIfInBounds_toArray, List.set_cons_zero, List.set_cons_succ])
    refine wpAnyH_take (i := 3) (oi := { dst := some 10, op := Op.fieldAddr 28 (Operand.tmp 2) 0, type := 0, pos := "l6_coercions.go:60", after := #[{ on := 2, ground := Ground.guard }], guard := some (2, false) }) (v := undef) rfl (by kernel_rfl) (by kernel_rfl) (by kernel_rfl) (fun _ _ _ h => h) (Or.inr ⟨by rfl, rfl⟩) hHeld0 ?_
    (try simp only [Act.put, List.setIfInBounds_toArray, List.set_cons_zero, List.set_cons_succ])
    refine wpAnyH_take (i := 4) (oi := { dst := some 11, op := Op.load 3 (Operand.tmp 10), type := 3, pos := "l6_coercions.go:60", after := #[{ on := 3, ground := Ground.data }, { on := 2, ground := Ground.guard }], guard := some (2, false) }) (v := undef) rfl (by kernel_rfl) (by kernel_rfl) (by kernel_rfl) (fun _ _ _ h => h) (Or.inr ⟨by rfl, rfl⟩) hHeld0 ?_
    (try simp only [Act.put, List.setIfInBounds_toArray, List.set_cons_zero, List.set_cons_succ])
    refine wpAnyH_take (i := 5) (oi := { dst := some 12, op := Op.call { callee := Callee.value (Operand.func 66), args := #[Operand.tmp 11], argTypes := #[3] }, type := 3, pos := "l6_coercions.go:60", after := #[{ on := 4, ground := Ground.data }, { on := 2, ground := Ground.chain }, { on := 2, ground := Ground.guard }], guard := some (2, false) }) (v := undef) rfl (by kernel_rfl) (by kernel_rfl) (by kernel_rfl) (fun _ _ _ h => h) (Or.inr ⟨by rfl, rfl⟩) hHeld0 ?_
    (try simp only [Act.put, List.setIfInBounds_toArray, List.set_cons_zero, List.set_cons_succ])
    refine wpAnyH_take (i := 6) (oi := { dst := some 13, op := Op.fieldAddr 28 (Operand.tmp 2) 3, type := 0, pos := "l6_coercions.go:60", after := #[{ on := 2, ground := Ground.guard }], guard := some (2, false) }) (v := undef) rfl (by kernel_rfl) (by kernel_rfl) (by kernel_rfl) (fun _ _ _ h => h) (Or.inr ⟨by rfl, rfl⟩) hHeld0 ?_
    (try simp only [Act.put, List.setIfInBounds_toArray, List.set_cons_zero, List.set_cons_succ])
    refine wpAnyH_take (i := 7) (oi := { dst := some 14, op := Op.load 26 (Operand.tmp 13), type := 26, pos := "l6_coercions.go:60", after := #[{ on := 6, ground := Ground.data }, { on := 2, ground := Ground.guard }], guard := some (2, false) }) (v := undef) rfl (by kernel_rfl) (by kernel_rfl) (by kernel_rfl) (fun _ _ _ h => h) (Or.inr ⟨by rfl, rfl⟩) hHeld0 ?_
    (try simp only [Act.put, List.setIfInBounds_toArray, List.set_cons_zero, List.set_cons_succ])
    refine wpAnyH_take (i := 8) (oi := { dst := some 15, op := Op.call { callee := Callee.builtin Builtin.len, args := #[Operand.tmp 14], argTypes := #[26] }, type := 3, pos := "l6_coercions.go:60", after := #[{ on := 7, ground := Ground.data }, { on := 2, ground := Ground.guard }], guard := some (2, false) }) (v := undef) rfl (by kernel_rfl) (by kernel_rfl) (by kernel_rfl) (fun _ _ _ h => h) (Or.inr ⟨by rfl, rfl⟩) hHeld0 ?_
    (try simp only [Act.put, List.setIfInBounds_toArray, List.set_cons_zero, List.set_cons_succ])
    refine wpAnyH_take (i := 9) (oi := { dst := some 16, op := Op.binOp BinOp.neq 3 (Operand.tmp 12) (Operand.tmp 15) 3, type := 4, pos := "l6_coercions.go:60", after := #[{ on := 5, ground := Ground.data }, { on := 8, ground := Ground.data }, { on := 2, ground := Ground.guard }], guard := some (2, false) }) (v := undef) rfl (by kernel_rfl) (by kernel_rfl) (by kernel_rfl) (fun _ _ _ h => h) (Or.inr ⟨by rfl, rfl⟩) hHeld0 ?_
    (try simp only [Act.put, List.setIfInBounds_toArray, List.set_cons_zero, List.set_cons_succ])
    refine wpAnyH_take (i := 10) (oi := { dst := some 17, op := Op.pick (Operand.tmp 9) (Operand.const (Value.bool true)) (Operand.tmp 16), type := 4, pos := "l6_coercions.go:60", after := #[{ on := 2, ground := Ground.data }, { on := 9, ground := Ground.data }], guard := none }) (v := .bool true) rfl (by kernel_rfl) (by kernel_rfl) (by kernel_rfl) (fun _ _ _ h => h) (Or.inl ⟨by rfl, ?_⟩) hHeld0 ?_
    · intro w' hSw; (try dsimp only at hSw); go_simp
    (try simp only [Act.put, List.setIfInBounds_toArray, List.set_cons_zero, List.set_cons_succ])
    refine wpAnyH_done (by kernel_rfl) ?_ _
    refine NoPanic.normal ?_
    clear hHeld0 s0_
    go_wp2_with fail
    refine bodyPost_ret (v := .bool (false)) (by simp [results, Try.results45, go_sem, bne]) rfl ?_
    exact ⟨ret_bool (leaf_scan_nil_0 k g l d r q1), bal2.drew⟩
  · skip
    go_wp2_with fail
    have s0_ : (World.alloc (World.alloc w (Obj.cells #[.int .i64 k, .int .i64 g, .int .i64 l, .slice a 0 q] 28)) (Obj.cells #[.int .i64 d] 3)).cell? ⟨w.heap.size + 1, 0, none⟩ = some (.int .i64 d) := cell_new (by simp) 0
    have s1_ : (World.alloc (World.alloc w (Obj.cells #[.int .i64 k, .int .i64 g, .int .i64 l, .slice a 0 q] 28)) (Obj.cells #[.int .i64 d] 3)).cell? ⟨w.heap.size, 0, none⟩ = some (.int .i64 k) := bcell bal1 (cell_new (by simp) 0)
    have s2_ : (World.alloc (World.alloc w (Obj.cells #[.int .i64 k, .int .i64 g, .int .i64 l, .slice a 0 q] 28)) (Obj.cells #[.int .i64 d] 3)).cell? ⟨w.heap.size, 3, none⟩ = some (.slice a 0 q) := bcell bal1 (cell_new (by simp) 3)
    have hS0 := Lib.hid (show (World.drew (World.alloc (World.alloc w (Obj.cells #[.int .i64 k, .int .i64 g, .int .i64 l, .slice a 0 q] 28)) (Obj.cells #[.int .i64 d] 3))).cell? ⟨w.heap.size + 1, 0, none⟩ = some (.int .i64 d) ∧ (World.drew (World.alloc (World.alloc w (Obj.cells #[.int .i64 k, .int .i64 g, .int .i64 l, .slice a 0 q] 28)) (Obj.cells #[.int .i64 d] 3))).cell? ⟨w.heap.size, 0, none⟩ = some (.int .i64 k) ∧ (World.drew (World.alloc (World.alloc w (Obj.cells #[.int .i64 k, .int .i64 g, .int .i64 l, .slice a 0 q] 28)) (Obj.cells #[.int .i64 d] 3))).cell? ⟨w.heap.size, 3, none⟩ = some (.slice a 0 q) from ⟨dcell (s0_), dcell (s1_), dcell (s2_)⟩)
    have hSb := Lib.hid (show ∀ X Y : World, Below X.heap.size X Y → (X.cell? ⟨w.heap.size + 1, 0, none⟩ = some (.int .i64 d) ∧ X.cell? ⟨w.heap.size, 0, none⟩ = some (.int .i64 k) ∧ X.cell? ⟨w.heap.size, 3, none⟩ = some (.slice a 0 q)) → (Y.cell? ⟨w.heap.size + 1, 0, none⟩ = some (.int .i64 d) ∧ Y.cell? ⟨w.heap.size, 0, none⟩ = some (.int .i64 k) ∧ Y.cell? ⟨w.heap.size, 3, none⟩ = some (.slice a 0 q)) from fun X Y h s => ⟨bcell h s.1, bcell h s.2.1, bcell h s.2.2⟩)
    go_region_held3 (fun w' => w'.cell? ⟨w.heap.size + 1, 0, none⟩ = some (.int .i64 d) ∧ w'.cell? ⟨w.heap.size, 0, none⟩ = some (.int .i64 k) ∧ w'.cell? ⟨w.heap.size, 3, none⟩ = some (.slice a 0 q))
      (repeat (first | with_reducible refine hSb.out _ _ hb1 ?_ | with_reducible exact hS0.out))
      (first | (go_at_call 66; ((with_reducible refine (implCoOps k _).mono ?_); rintro e w1 ⟨rfl, hb1⟩)))
    clear s0_ s1_ s2_
    have hB := (bstep bal2.drew hb1)
    have zw1 := hB.size
    have c0_1 : w1.cell? ⟨w.heap.size, 1, none⟩ = some (.int .i64 g) := bcell hb1 (dcell (bcell bal1 (cell_new (by simp) 1)))
    have c0_0 : w1.cell? ⟨w.heap.size, 0, none⟩ = some (.int .i64 k) := bcell hb1 (dcell (bcell bal1 (cell_new (by simp) 0)))
    have c0_2 : w1.cell? ⟨w.heap.size, 2, none⟩ = some (.int .i64 l) := bcell hb1 (dcell (bcell bal1 (cell_new (by simp) 2)))
    have c0_3 : w1.cell? ⟨w.heap.size, 3, none⟩ = some (.slice a 0 q) := bcell hb1 (dcell (bcell bal1 (cell_new (by simp) 3)))
    have c1_0 : w1.cell? ⟨w.heap.size + 1, 0, none⟩ = some (.int .i64 d) := bcell hb1 (dcell (cell_new (by simp) 0))
    have d0_w1 := World.block_lt_of_cell? _ _ c0_1
    have d1_w1 := World.block_lt_of_cell? _ _ c1_0
    rcases Bool.eq_false_or_eq_true ((coOps k) == 0) with q2 | q2
    · (try rw [q2])
      rcases Bool.eq_false_or_eq_true (k == 1) with q3 | q3
      · (try rw [q3])
        go_wp2_with fail
        refine (implWithin g 1 3 _).mono ?_
        rintro e w2 ⟨rfl, hb2⟩
        replace hB := (bstep hB hb2)
        have zw2 := hB.size
        replace c0_0 : w2.cell? ⟨w.heap.size, 0, none⟩ = some (.int .i64 k) := bcell hb2 (c0_0)
        replace c0_2 : w2.cell? ⟨w.heap.size, 2, none⟩ = some (.int .i64 l) := bcell hb2 (c0_2)
        replace c0_3 : w2.cell? ⟨w.heap.size, 3, none⟩ = some (.slice a 0 q) := bcell hb2 (c0_3)
        replace c1_0 : w2.cell? ⟨w.heap.size + 1, 0, none⟩ = some (.int .i64 d) := bcell hb2 (c1_0)
        have d0_w2 := World.block_lt_of_cell? _ _ c0_0
        have d1_w2 := World.block_lt_of_cell? _ _ c1_0
        have q4 : (k == 5) = false := (by have h := q3; simp only [beq_iff_eq] at h; subst h; rfl)
        rcases Bool.eq_false_or_eq_true (winB g 1 3) with q5 | q5
        · (try rw [q5])
          have Hq5 := Lib.hid q5
          clear q5
          have q6 : (k == 6) = false := (by have h := q3; simp only [beq_iff_eq] at h; subst h; rfl)
          (try rw [q6])
          rcases Bool.eq_false_or_eq_true (l == 0) with q7 | q7
          · (try rw [q7])
            have q8 : (k == 4) = false := (by have h := q3; simp only [beq_iff_eq] at h; subst h; rfl)
            go_wp2_with fail
            refine (HH.out (by have h := q1; simp at h; omega) _ (w.heap.size + 1) hB (c1_0)).mono ?_
            rintro e w3 ⟨rfl, hb3⟩
            replace hB := (bstep hB hb3)
            have zw3 := hB.size
            go_wp2_with fail
            refine bodyPost_ret (v := .bool (!r)) (by simp [results, Try.results45, go_sem, bne]) rfl ?_
            exact ⟨ret_bool (leaf_scan_nil_1 k g l d r q1 q2 q3 q4 Hq5.out q6 q7 q8), hB⟩
          · (try rw [q7])
            go_wp2_with fail
            refine bodyPost_ret (v := .bool (false)) (by simp [results, Try.results45, go_sem, bne]) rfl ?_
            exact ⟨ret_bool (leaf_scan_nil_2 k g l d r q1 q2 q3 q4 Hq5.out q6 q7), hB⟩
        · (try rw [q5])
          have Hq5 := Lib.hid q5
          clear q5
          go_wp2_with fail
          refine bodyPost_ret (v := .bool (false)) (by simp [results, Try.results45, go_sem, bne]) rfl ?_
          exact ⟨ret_bool (leaf_scan_nil_3 k g l d r q1 q2 q3 q4 Hq5.out), hB⟩
      · (try rw [q3])
        rcases Bool.eq_false_or_eq_true (k == 6) with q9 | q9
        · (try rw [q9])
          go_wp2_with fail
          refine (implWithin g 2 5 _).mono ?_
          rintro e w4 ⟨rfl, hb4⟩
          replace hB := (bstep hB hb4)
          have zw4 := hB.size
          replace c0_0 : w4.cell? ⟨w.heap.size, 0, none⟩ = some (.int .i64 k) := bcell hb4 (c0_0)
          replace c0_2 : w4.cell? ⟨w.heap.size, 2, none⟩ = some (.int .i64 l) := bcell hb4 (c0_2)
          replace c0_3 : w4.cell? ⟨w.heap.size, 3, none⟩ = some (.slice a 0 q) := bcell hb4 (c0_3)
          replace c1_0 : w4.cell? ⟨w.heap.size + 1, 0, none⟩ = some (.int .i64 d) := bcell hb4 (c1_0)
          have d0_w4 := World.block_lt_of_cell? _ _ c0_0
          have d1_w4 := World.block_lt_of_cell? _ _ c1_0
          have q10 : (k == 5) = false := (by have h := q9; simp only [beq_iff_eq] at h; subst h; rfl)
          rcases Bool.eq_false_or_eq_true (winB g 2 5) with q11 | q11
          · (try rw [q11])
            have Hq11 := Lib.hid q11
            clear q11
            rcases Bool.eq_false_or_eq_true (labelB l) with q12 | q12
            · have Hq12 := Lib.hid q12
              clear q12
              go_wp2_with fail
              refine (implIsLabel l _).mono ?_
              rintro e w5 ⟨rfl, hb5⟩
              rw [Hq12.out]
              replace hB := (bstep hB hb5)
              have zw5 := hB.size
              replace c0_0 : w5.cell? ⟨w.heap.size, 0, none⟩ = some (.int .i64 k) := bcell hb5 (c0_0)
              replace c0_3 : w5.cell? ⟨w.heap.size, 3, none⟩ = some (.slice a 0 q) := bcell hb5 (c0_3)
              replace c1_0 : w5.cell? ⟨w.heap.size + 1, 0, none⟩ = some (.int .i64 d) := bcell hb5 (c1_0)
              have d0_w5 := World.block_lt_of_cell? _ _ c0_0
              have d1_w5 := World.block_lt_of_cell? _ _ c1_0
              have q13 : (k == 4) = false := (by have h := q9; simp only [beq_iff_eq] at h; subst h; rfl)
              go_wp2_with fail
              refine (HH.out (by have h := q1; simp at h; omega) _ (w.heap.size + 1) hB (c1_0)).mono ?_
              rintro e w6 ⟨rfl, hb6⟩
              replace hB := (bstep hB hb6)
              have zw6 := hB.size
              go_wp2_with fail
              refine bodyPost_ret (v := .bool (!r)) (by simp [results, Try.results45, go_sem, bne]) rfl ?_
              exact ⟨ret_bool (leaf_scan_nil_4 k g l d r q1 q2 q3 q9 q10 Hq11.out Hq12.out q13), hB⟩
            · have Hq12 := Lib.hid q12
              clear q12
              go_wp2_with fail
              refine (implIsLabel l _).mono ?_
              rintro e w7 ⟨rfl, hb7⟩
              rw [Hq12.out]
              replace hB := (bstep hB hb7)
              have zw7 := hB.size
              go_wp2_with fail
              refine bodyPost_ret (v := .bool (false)) (by simp [results, Try.results45, go_sem, bne]) rfl ?_
              exact ⟨ret_bool (leaf_scan_nil_5 k g l d r q1 q2 q3 q9 q10 Hq11.out Hq12.out), hB⟩
          · (try rw [q11])
            have Hq11 := Lib.hid q11
            clear q11
            go_wp2_with fail
            refine bodyPost_ret (v := .bool (false)) (by simp [results, Try.results45, go_sem, bne]) rfl ?_
            exact ⟨ret_bool (leaf_scan_nil_6 k g l d r q1 q2 q3 q9 q10 Hq11.out), hB⟩
        · (try rw [q9])
          have q14 : (k == 5) = false := (by have h := q2; simp only [beq_iff_eq] at h; simp only [beq_eq_false_iff_ne]; rintro rfl; simp [coOps] at h)
          rcases Bool.eq_false_or_eq_true (g == 0) with q15 | q15
          · (try rw [q15])
            rcases Bool.eq_false_or_eq_true (l == 0) with q16 | q16
            · (try rw [q16])
              have q17 : (k == 4) = false := (by have h := q2; simp only [beq_iff_eq] at h; simp only [beq_eq_false_iff_ne]; rintro rfl; simp [coOps] at h)
              go_wp2_with fail
              refine (HH.out (by have h := q1; simp at h; omega) _ (w.heap.size + 1) hB (c1_0)).mono ?_
              rintro e w8 ⟨rfl, hb8⟩
              replace hB := (bstep hB hb8)
              have zw8 := hB.size
              go_wp2_with fail
              refine bodyPost_ret (v := .bool (!r)) (by simp [results, Try.results45, go_sem, bne]) rfl ?_
              exact ⟨ret_bool (leaf_scan_nil_7 k g l d r q1 q2 q3 q9 q14 q15 q16 q17), hB⟩
            · (try rw [q16])
              go_wp2_with fail
              refine bodyPost_ret (v := .bool (false)) (by simp [results, Try.results45, go_sem, bne]) rfl ?_
              exact ⟨ret_bool (leaf_scan_nil_8 k g l d r q1 q2 q3 q9 q14 q15 q16), hB⟩
          · (try rw [q15])
            go_wp2_with fail
            refine bodyPost_ret (v := .bool (false)) (by simp [results, Try.results45, go_sem, bne]) rfl ?_
            exact ⟨ret_bool (leaf_scan_nil_9 k g l d r q1 q2 q3 q9 q14 q15), hB⟩
    · (try rw [q2])
      go_wp2_with fail
      refine bodyPost_ret (v := .bool (false)) (by simp [results, Try.results45, go_sem, bne]) rfl ?_
      exact ⟨ret_bool (leaf_scan_nil_10 k g l d r q1 q2), hB⟩

set_option maxHeartbeats 8000000 in
theorem scan_cons (k g l d k0 g0 l0 : Int) (b off n q : Nat) (a0 : Option Addr) (n0 q0 : Nat) (r : Bool) (w : World) (hn : 0 < n) (hq : n ≤ q) (hq2 : q ≤ 9223372036854775807) (hb : b < w.heap.size) (e0 : w.cell? ⟨b, off, none⟩ = some (.int .i64 k0)) (e1 : w.cell? ⟨b, off + 1, none⟩ = some (.int .i64 g0)) (e2 : w.cell? ⟨b, off + 2, none⟩ = some (.int .i64 l0)) (e3 : w.cell? ⟨b, off + 3, none⟩ = some (.slice a0 n0 q0)) (h1 : 1 ≤ d) (h2 : d ≤ 10)
    (H : d ≤ 9 → ∀ (W : World) (b0 : Nat), Below w.heap.size w W → W.cell? ⟨b0, 0, none⟩ = some (.int .i64 d) → Calls Try.prog 62 #[.slice (some ⟨b, off, none⟩) n q, .func (.func 68) #[] #[.pointer (some ⟨b0, 0, none⟩)]] W fun e W' => e = .returned (.bool r) ∧ Below W.heap.size W W') :
    Calls Try.prog 45 #[.agg #[.int .i64 k, .int .i64 g, .int .i64 l, .slice (some ⟨b, off, none⟩) n q], .int .i64 d] w fun e w' => e = .returned (.bool (decide (1 ≤ 10 - d) && Co.nodeB k g l (n : Int) k0 g0 && !r)) ∧ Below w.heap.size w w' := by
  have HH := Lib.hid H
  clear H
  have hn0 : (0 : Int) < (n : Int) := by omega
  go_enter Try.func45, Try.ntmps45
  rcases Bool.eq_false_or_eq_true (decide (d > 9)) with q1 | q1
  · skip
    go_wp2_with fail
    have s0_ : (World.alloc (World.alloc w (Obj.cells #[.int .i64 k, .int .i64 g, .int .i64 l, .slice (some ⟨b, off, none⟩) n q] 28)) (Obj.cells #[.int .i64 d] 3)).cell? ⟨w.heap.size + 1, 0, none⟩ = some (.int .i64 d) := cell_new (by simp) 0
    refine wp_region_noPanic ?_
    refine wp_region_held_drew (S := fun w' => w'.cell? ⟨w.heap.size + 1, 0, none⟩ = some (.int .i64 d)) (by kernel_rfl) ?_ (fun hHeld0 => ?_)
    · exact dcell (s0_)
    refine wpAnyH_take (i := 0) (oi := { dst := some 7, op := Op.load 3 (Operand.tmp 3), type := 3, pos := "l6_coercions.go:60", after := #[], guard := none }) (v := .int .i64 d) rfl (by kernel_rfl) (by kernel_rfl) (by kernel_rfl) (fun _ _ _ h => h) (Or.inl ⟨by rfl, ?_⟩) hHeld0 ?_
    · intro w' hSw; (try dsimp only at hSw); go_simp
    (try simp only [Act.put, List.setIfInBounds_toArray, List.set_cons_zero, List.set_cons_succ])
    refine wpAnyH_take (i := 1) (oi := { dst := some 8, op := Op.binOp BinOp.gtr 3 (Operand.tmp 7) (Operand.const (Value.int IntKind.i64 9)) 3, type := 4, pos := "l6_coercions.go:60", after := #[{ on := 0, ground := Ground.data }], guard := none }) (v := .bool true) rfl (by kernel_rfl) (by kernel_rfl) (by kernel_rfl) (fun _ _ _ h => h) (Or.inl ⟨by rfl, ?_⟩) hHeld0 ?_
    · intro w' hSw; (try dsimp only at hSw); go_simp
    (try simp only [Act.put, List.setIfInBounds_toArray, List.set_cons_zero, List.set_cons_succ])
    refine wpAnyH_take (i := 2) (oi := { dst := some 9, op := Op.move (Operand.tmp 8), type := 4, pos := "l6_coercions.go:60", after := #[{ on := 1, ground := Ground.data }], guard := none }) (v := .bool true) rfl (by kernel_rfl) (by kernel_rfl) (by kernel_rfl) (fun _ _ _ h => h) (Or.inl ⟨by rfl, ?_⟩) hHeld0 ?_
    · intro w' hSw; (try dsimp only at hSw); go_simp
    (try simp only [Act.put, List.setIfInBounds_toArray, List.set_cons_zero, List.set_cons_succ])
    refine wpAnyH_take (i := 3) (oi := { dst := some 10, op := Op.fieldAddr 28 (Operand.tmp 2) 0, type := 0, pos := "l6_coercions.go:60", after := #[{ on := 2, ground := Ground.guard }], guard := some (2, false) }) (v := undef) rfl (by kernel_rfl) (by kernel_rfl) (by kernel_rfl) (fun _ _ _ h => h) (Or.inr ⟨by rfl, rfl⟩) hHeld0 ?_
    (try simp only [Act.put, List.setIfInBounds_toArray, List.set_cons_zero, List.set_cons_succ])
    refine wpAnyH_take (i := 4) (oi := { dst := some 11, op := Op.load 3 (Operand.tmp 10), type := 3, pos := "l6_coercions.go:60", after := #[{ on := 3, ground := Ground.data }, { on := 2, ground := Ground.guard }], guard := some (2, false) }) (v := undef) rfl (by kernel_rfl) (by kernel_rfl) (by kernel_rfl) (fun _ _ _ h => h) (Or.inr ⟨by rfl, rfl⟩) hHeld0 ?_
    (try simp only [Act.put, List.setIfInBounds_toArray, List.set_cons_zero, List.set_cons_succ])
    refine wpAnyH_take (i := 5) (oi := { dst := some 12, op := Op.call { callee := Callee.value (Operand.func 66), args := #[Operand.tmp 11], argTypes := #[3] }, type := 3, pos := "l6_coercions.go:60", after := #[{ on := 4, ground := Ground.data }, { on := 2, ground := Ground.chain }, { on := 2, ground := Ground.guard }], guard := some (2, false) }) (v := undef) rfl (by kernel_rfl) (by kernel_rfl) (by kernel_rfl) (fun _ _ _ h => h) (Or.inr ⟨by rfl, rfl⟩) hHeld0 ?_
    (try simp only [Act.put, List.setIfInBounds_toArray, List.set_cons_zero, List.set_cons_succ])
    refine wpAnyH_take (i := 6) (oi := { dst := some 13, op := Op.fieldAddr 28 (Operand.tmp 2) 3, type := 0, pos := "l6_coercions.go:60", after := #[{ on := 2, ground := Ground.guard }], guard := some (2, false) }) (v := undef) rfl (by kernel_rfl) (by kernel_rfl) (by kernel_rfl) (fun _ _ _ h => h) (Or.inr ⟨by rfl, rfl⟩) hHeld0 ?_
    (try simp only [Act.put, List.setIfInBounds_toArray, List.set_cons_zero, List.set_cons_succ])
    refine wpAnyH_take (i := 7) (oi := { dst := some 14, op := Op.load 26 (Operand.tmp 13), type := 26, pos := "l6_coercions.go:60", after := #[{ on := 6, ground := Ground.data }, { on := 2, ground := Ground.guard }], guard := some (2, false) }) (v := undef) rfl (by kernel_rfl) (by kernel_rfl) (by kernel_rfl) (fun _ _ _ h => h) (Or.inr ⟨by rfl, rfl⟩) hHeld0 ?_
    (try simp only [Act.put, List.setIfInBounds_toArray, List.set_cons_zero, List.set_cons_succ])
    refine wpAnyH_take (i := 8) (oi := { dst := some 15, op := Op.call { callee := Callee.builtin Builtin.len, args := #[Operand.tmp 14], argTypes := #[26] }, type := 3, pos := "l6_coercions.go:60", after := #[{ on := 7, ground := Ground.data }, { on := 2, ground := Ground.guard }], guard := some (2, false) }) (v := undef) rfl (by kernel_rfl) (by kernel_rfl) (by kernel_rfl) (fun _ _ _ h => h) (Or.inr ⟨by rfl, rfl⟩) hHeld0 ?_
    (try simp only [Act.put, List.setIfInBounds_toArray, List.set_cons_zero, List.set_cons_succ])
    refine wpAnyH_take (i := 9) (oi := { dst := some 16, op := Op.binOp BinOp.neq 3 (Operand.tmp 12) (Operand.tmp 15) 3, type := 4, pos := "l6_coercions.go:60", after := #[{ on := 5, ground := Ground.data }, { on := 8, ground := Ground.data }, { on := 2, ground := Ground.guard }], guard := some (2, false) }) (v := undef) rfl (by kernel_rfl) (by kernel_rfl) (by kernel_rfl) (fun _ _ _ h => h) (Or.inr ⟨by rfl, rfl⟩) hHeld0 ?_
    (try simp only [Act.put, List.setIfInBounds_toArray, List.set_cons_zero, List.set_cons_succ])
    refine wpAnyH_take (i := 10) (oi := { dst := some 17, op := Op.pick (Operand.tmp 9) (Operand.const (Value.bool true)) (Operand.tmp 16), type := 4, pos := "l6_coercions.go:60", after := #[{ on := 2, ground := Ground.data }, { on := 9, ground := Ground.data }], guard := none }) (v := .bool true) rfl (by kernel_rfl) (by kernel_rfl) (by kernel_rfl) (fun _ _ _ h => h) (Or.inl ⟨by rfl, ?_⟩) hHeld0 ?_
    · intro w' hSw; (try dsimp only at hSw); go_simp
    (try simp only [Act.put, List.setIfInBounds_toArray, List.set_cons_zero, List.set_cons_succ])
    refine wpAnyH_done (by kernel_rfl) ?_ _
    refine NoPanic.normal ?_
    clear hHeld0 s0_
    go_wp2_with fail
    refine bodyPost_ret (v := .bool (false)) (by simp [results, Try.results45, go_sem, bne]) rfl ?_
    exact ⟨ret_bool (leaf_scan_cons_11 k g l d k0 g0 n r q1), bal2.drew⟩
  · skip
    go_wp2_with fail
    have s0_ : (World.alloc (World.alloc w (Obj.cells #[.int .i64 k, .int .i64 g, .int .i64 l, .slice (some ⟨b, off, none⟩) n q] 28)) (Obj.cells #[.int .i64 d] 3)).cell? ⟨w.heap.size + 1, 0, none⟩ = some (.int .i64 d) := cell_new (by simp) 0
    have s1_ : (World.alloc (World.alloc w (Obj.cells #[.int .i64 k, .int .i64 g, .int .i64 l, .slice (some ⟨b, off, none⟩) n q] 28)) (Obj.cells #[.int .i64 d] 3)).cell? ⟨w.heap.size, 0, none⟩ = some (.int .i64 k) := bcell bal1 (cell_new (by simp) 0)
    have s2_ : (World.alloc (World.alloc w (Obj.cells #[.int .i64 k, .int .i64 g, .int .i64 l, .slice (some ⟨b, off, none⟩) n q] 28)) (Obj.cells #[.int .i64 d] 3)).cell? ⟨w.heap.size, 3, none⟩ = some (.slice (some ⟨b, off, none⟩) n q) := bcell bal1 (cell_new (by simp) 3)
    have hS0 := Lib.hid (show (World.drew (World.alloc (World.alloc w (Obj.cells #[.int .i64 k, .int .i64 g, .int .i64 l, .slice (some ⟨b, off, none⟩) n q] 28)) (Obj.cells #[.int .i64 d] 3))).cell? ⟨w.heap.size + 1, 0, none⟩ = some (.int .i64 d) ∧ (World.drew (World.alloc (World.alloc w (Obj.cells #[.int .i64 k, .int .i64 g, .int .i64 l, .slice (some ⟨b, off, none⟩) n q] 28)) (Obj.cells #[.int .i64 d] 3))).cell? ⟨w.heap.size, 0, none⟩ = some (.int .i64 k) ∧ (World.drew (World.alloc (World.alloc w (Obj.cells #[.int .i64 k, .int .i64 g, .int .i64 l, .slice (some ⟨b, off, none⟩) n q] 28)) (Obj.cells #[.int .i64 d] 3))).cell? ⟨w.heap.size, 3, none⟩ = some (.slice (some ⟨b, off, none⟩) n q) from ⟨dcell (s0_), dcell (s1_), dcell (s2_)⟩)
    have hSb := Lib.hid (show ∀ X Y : World, Below X.heap.size X Y → (X.cell? ⟨w.heap.size + 1, 0, none⟩ = some (.int .i64 d) ∧ X.cell? ⟨w.heap.size, 0, none⟩ = some (.int .i64 k) ∧ X.cell? ⟨w.heap.size, 3, none⟩ = some (.slice (some ⟨b, off, none⟩) n q)) → (Y.cell? ⟨w.heap.size + 1, 0, none⟩ = some (.int .i64 d) ∧ Y.cell? ⟨w.heap.size, 0, none⟩ = some (.int .i64 k) ∧ Y.cell? ⟨w.heap.size, 3, none⟩ = some (.slice (some ⟨b, off, none⟩) n q)) from fun X Y h s => ⟨bcell h s.1, bcell h s.2.1, bcell h s.2.2⟩)
    go_region_held3 (fun w' => w'.cell? ⟨w.heap.size + 1, 0, none⟩ = some (.int .i64 d) ∧ w'.cell? ⟨w.heap.size, 0, none⟩ = some (.int .i64 k) ∧ w'.cell? ⟨w.heap.size, 3, none⟩ = some (.slice (some ⟨b, off, none⟩) n q))
      (repeat (first | with_reducible refine hSb.out _ _ hb1 ?_ | with_reducible exact hS0.out))
      (first | (go_at_call 66; ((with_reducible refine (implCoOps k _).mono ?_); rintro e w1 ⟨rfl, hb1⟩)))
    clear s0_ s1_ s2_
    have hB := (bstep bal2.drew hb1)
    have zw1 := hB.size
    have c0_1 : w1.cell? ⟨w.heap.size, 1, none⟩ = some (.int .i64 g) := bcell hb1 (dcell (bcell bal1 (cell_new (by simp) 1)))
    have c0_0 : w1.cell? ⟨w.heap.size, 0, none⟩ = some (.int .i64 k) := bcell hb1 (dcell (bcell bal1 (cell_new (by simp) 0)))
    have c0_2 : w1.cell? ⟨w.heap.size, 2, none⟩ = some (.int .i64 l) := bcell hb1 (dcell (bcell bal1 (cell_new (by simp) 2)))
    have c0_3 : w1.cell? ⟨w.heap.size, 3, none⟩ = some (.slice (some ⟨b, off, none⟩) n q) := bcell hb1 (dcell (bcell bal1 (cell_new (by simp) 3)))
    have c1_0 : w1.cell? ⟨w.heap.size + 1, 0, none⟩ = some (.int .i64 d) := bcell hb1 (dcell (cell_new (by simp) 0))
    replace e0 : w1.cell? ⟨b, off, none⟩ = some (.int .i64 k0) := bcell hb1 (dcell (bcell bal1 (bcell bal1 (e0))))
    replace e1 : w1.cell? ⟨b, off + 1, none⟩ = some (.int .i64 g0) := bcell hb1 (dcell (bcell bal1 (bcell bal1 (e1))))
    replace e2 : w1.cell? ⟨b, off + 2, none⟩ = some (.int .i64 l0) := bcell hb1 (dcell (bcell bal1 (bcell bal1 (e2))))
    replace e3 : w1.cell? ⟨b, off + 3, none⟩ = some (.slice a0 n0 q0) := bcell hb1 (dcell (bcell bal1 (bcell bal1 (e3))))
    have d0_w1 := World.block_lt_of_cell? _ _ c0_1
    have d1_w1 := World.block_lt_of_cell? _ _ c1_0
    have db_w1 := World.block_lt_of_cell? _ _ e0
    rcases Bool.eq_false_or_eq_true ((coOps k) == (n : Int)) with q2 | q2
    · (try rw [q2])
      rcases Bool.eq_false_or_eq_true (k == 1) with q3 | q3
      · (try rw [q3])
        go_wp2_with fail
        refine (implWithin g 1 3 _).mono ?_
        rintro e w2 ⟨rfl, hb2⟩
        replace hB := (bstep hB hb2)
        have zw2 := hB.size
        replace c0_0 : w2.cell? ⟨w.heap.size, 0, none⟩ = some (.int .i64 k) := bcell hb2 (c0_0)
        replace c0_2 : w2.cell? ⟨w.heap.size, 2, none⟩ = some (.int .i64 l) := bcell hb2 (c0_2)
        replace c0_3 : w2.cell? ⟨w.heap.size, 3, none⟩ = some (.slice (some ⟨b, off, none⟩) n q) := bcell hb2 (c0_3)
        replace c1_0 : w2.cell? ⟨w.heap.size + 1, 0, none⟩ = some (.int .i64 d) := bcell hb2 (c1_0)
        have d0_w2 := World.block_lt_of_cell? _ _ c0_0
        have d1_w2 := World.block_lt_of_cell? _ _ c1_0
        have q4 : (k == 5) = false := (by have h := q3; simp only [beq_iff_eq] at h; subst h; rfl)
        rcases Bool.eq_false_or_eq_true (winB g 1 3) with q5 | q5
        · (try rw [q5])
          have Hq5 := Lib.hid q5
          clear q5
          have q6 : (k == 6) = false := (by have h := q3; simp only [beq_iff_eq] at h; subst h; rfl)
          (try rw [q6])
          rcases Bool.eq_false_or_eq_true (l == 0) with q7 | q7
          · (try rw [q7])
            have q8 : (k == 4) = false := (by have h := q3; simp only [beq_iff_eq] at h; subst h; rfl)
            go_wp2_with fail
            refine (HH.out (by have h := q1; simp at h; omega) _ (w.heap.size + 1) hB (c1_0)).mono ?_
            rintro e w3 ⟨rfl, hb3⟩
            replace hB := (bstep hB hb3)
            have zw3 := hB.size
            go_wp2_with fail
            refine bodyPost_ret (v := .bool (!r)) (by simp [results, Try.results45, go_sem, bne]) rfl ?_
            exact ⟨ret_bool (leaf_scan_cons_12 k g l d k0 g0 n r q1 q2 q3 q4 Hq5.out q6 q7 q8), hB⟩
          · (try rw [q7])
            go_wp2_with fail
            refine bodyPost_ret (v := .bool (false)) (by simp [results, Try.results45, go_sem, bne]) rfl ?_
            exact ⟨ret_bool (leaf_scan_cons_13 k g l d k0 g0 n r q1 q2 q3 q4 Hq5.out q6 q7), hB⟩
        · (try rw [q5])
          have Hq5 := Lib.hid q5
          clear q5
          go_wp2_with fail
          refine bodyPost_ret (v := .bool (false)) (by simp [results, Try.results45, go_sem, bne]) rfl ?_
          exact ⟨ret_bool (leaf_scan_cons_14 k g l d k0 g0 n r q1 q2 q3 q4 Hq5.out), hB⟩
      · (try rw [q3])
        rcases Bool.eq_false_or_eq_true (k == 6) with q9 | q9
        · (try rw [q9])
          go_wp2_with fail
          refine (implWithin g 2 5 _).mono ?_
          rintro e w4 ⟨rfl, hb4⟩
          replace hB := (bstep hB hb4)
          have zw4 := hB.size
          replace c0_0 : w4.cell? ⟨w.heap.size, 0, none⟩ = some (.int .i64 k) := bcell hb4 (c0_0)
          replace c0_2 : w4.cell? ⟨w.heap.size, 2, none⟩ = some (.int .i64 l) := bcell hb4 (c0_2)
          replace c0_3 : w4.cell? ⟨w.heap.size, 3, none⟩ = some (.slice (some ⟨b, off, none⟩) n q) := bcell hb4 (c0_3)
          replace c1_0 : w4.cell? ⟨w.heap.size + 1, 0, none⟩ = some (.int .i64 d) := bcell hb4 (c1_0)
          have d0_w4 := World.block_lt_of_cell? _ _ c0_0
          have d1_w4 := World.block_lt_of_cell? _ _ c1_0
          have q10 : (k == 5) = false := (by have h := q9; simp only [beq_iff_eq] at h; subst h; rfl)
          rcases Bool.eq_false_or_eq_true (winB g 2 5) with q11 | q11
          · (try rw [q11])
            have Hq11 := Lib.hid q11
            clear q11
            rcases Bool.eq_false_or_eq_true (labelB l) with q12 | q12
            · have Hq12 := Lib.hid q12
              clear q12
              go_wp2_with fail
              refine (implIsLabel l _).mono ?_
              rintro e w5 ⟨rfl, hb5⟩
              rw [Hq12.out]
              replace hB := (bstep hB hb5)
              have zw5 := hB.size
              replace c0_0 : w5.cell? ⟨w.heap.size, 0, none⟩ = some (.int .i64 k) := bcell hb5 (c0_0)
              replace c0_3 : w5.cell? ⟨w.heap.size, 3, none⟩ = some (.slice (some ⟨b, off, none⟩) n q) := bcell hb5 (c0_3)
              replace c1_0 : w5.cell? ⟨w.heap.size + 1, 0, none⟩ = some (.int .i64 d) := bcell hb5 (c1_0)
              have d0_w5 := World.block_lt_of_cell? _ _ c0_0
              have d1_w5 := World.block_lt_of_cell? _ _ c1_0
              have q13 : (k == 4) = false := (by have h := q9; simp only [beq_iff_eq] at h; subst h; rfl)
              go_wp2_with fail
              refine (HH.out (by have h := q1; simp at h; omega) _ (w.heap.size + 1) hB (c1_0)).mono ?_
              rintro e w6 ⟨rfl, hb6⟩
              replace hB := (bstep hB hb6)
              have zw6 := hB.size
              go_wp2_with fail
              refine bodyPost_ret (v := .bool (!r)) (by simp [results, Try.results45, go_sem, bne]) rfl ?_
              exact ⟨ret_bool (leaf_scan_cons_15 k g l d k0 g0 n r q1 q2 q3 q9 q10 Hq11.out Hq12.out q13), hB⟩
            · have Hq12 := Lib.hid q12
              clear q12
              go_wp2_with fail
              refine (implIsLabel l _).mono ?_
              rintro e w7 ⟨rfl, hb7⟩
              rw [Hq12.out]
              replace hB := (bstep hB hb7)
              have zw7 := hB.size
              go_wp2_with fail
              refine bodyPost_ret (v := .bool (false)) (by simp [results, Try.results45, go_sem, bne]) rfl ?_
              exact ⟨ret_bool (leaf_scan_cons_16 k g l d k0 g0 n r q1 q2 q3 q9 q10 Hq11.out Hq12.out), hB⟩
          · (try rw [q11])
            have Hq11 := Lib.hid q11
            clear q11
            go_wp2_with fail
            refine bodyPost_ret (v := .bool (false)) (by simp [results, Try.results45, go_sem, bne]) rfl ?_
            exact ⟨ret_bool (leaf_scan_cons_17 k g l d k0 g0 n r q1 q2 q3 q9 q10 Hq11.out), hB⟩
        · (try rw [q9])
          rcases Bool.eq_false_or_eq_true (k == 5) with q14 | q14
          · skip
            rcases Bool.eq_false_or_eq_true (g == 0) with q15 | q15
            · (try rw [q15])
              rcases Bool.eq_false_or_eq_true (labelB l) with q16 | q16
              · have Hq16 := Lib.hid q16
                clear q16
                go_wp2_with fail
                refine (implIsLabel l _).mono ?_
                rintro e w8 ⟨rfl, hb8⟩
                rw [Hq16.out]
                replace hB := (bstep hB hb8)
                have zw8 := hB.size
                replace c0_0 : w8.cell? ⟨w.heap.size, 0, none⟩ = some (.int .i64 k) := bcell hb8 (c0_0)
                replace c0_3 : w8.cell? ⟨w.heap.size, 3, none⟩ = some (.slice (some ⟨b, off, none⟩) n q) := bcell hb8 (c0_3)
                replace e0 : w8.cell? ⟨b, off, none⟩ = some (.int .i64 k0) := bcell hb8 (e0)
                replace e1 : w8.cell? ⟨b, off + 1, none⟩ = some (.int .i64 g0) := bcell hb8 (e1)
                replace e2 : w8.cell? ⟨b, off + 2, none⟩ = some (.int .i64 l0) := bcell hb8 (e2)
                replace e3 : w8.cell? ⟨b, off + 3, none⟩ = some (.slice a0 n0 q0) := bcell hb8 (e3)
                replace c1_0 : w8.cell? ⟨w.heap.size + 1, 0, none⟩ = some (.int .i64 d) := bcell hb8 (c1_0)
                have d0_w8 := World.block_lt_of_cell? _ _ c0_0
                have db_w8 := World.block_lt_of_cell? _ _ e0
                have d1_w8 := World.block_lt_of_cell? _ _ c1_0
                have q17 : (k == 4) = false := (by have h := q14; simp only [beq_iff_eq] at h; subst h; rfl)
                rcases Bool.eq_false_or_eq_true (k0 == 5) with q18 | q18
                · skip
                  go_wp2_with fail
                  refine bodyPost_ret (v := .bool (false)) (by simp [results, Try.results45, go_sem, bne]) rfl ?_
                  exact ⟨ret_bool (leaf_scan_cons_18 k g l d k0 g0 n r q1 q2 q3 q9 q14 q15 Hq16.out q17 q18), hB⟩
                · skip
                  go_wp2_with fail
                  refine (implIsAny k0 g0 l0 a0 n0 q0 _).mono ?_
                  rintro e w9 ⟨rfl, hb9⟩
                  replace hB := (bstep hB hb9)
                  have zw9 := hB.size
                  replace c0_3 : w9.cell? ⟨w.heap.size, 3, none⟩ = some (.slice (some ⟨b, off, none⟩) n q) := bcell hb9 (c0_3)
                  replace c1_0 : w9.cell? ⟨w.heap.size + 1, 0, none⟩ = some (.int .i64 d) := bcell hb9 (c1_0)
                  have d0_w9 := World.block_lt_of_cell? _ _ c0_3
                  have d1_w9 := World.block_lt_of_cell? _ _ c1_0
                  rcases Bool.eq_false_or_eq_true ((k0 == 1 && g0 == 1)) with q19 | q19
                  · (try rw [q19])
                    go_wp2_with fail
                    refine bodyPost_ret (v := .bool (false)) (by simp [results, Try.results45, go_sem, bne]) rfl ?_
                    exact ⟨ret_bool (leaf_scan_cons_19 k g l d k0 g0 n r q1 q2 q3 q9 q14 q15 Hq16.out q17 q18 q19), hB⟩
                  · (try rw [q19])
                    go_wp2_with fail
                    refine (HH.out (by have h := q1; simp at h; omega) _ (w.heap.size + 1) hB (c1_0)).mono ?_
                    rintro e w10 ⟨rfl, hb10⟩
                    replace hB := (bstep hB hb10)
                    have zw10 := hB.size
                    go_wp2_with fail
                    refine bodyPost_ret (v := .bool (!r)) (by simp [results, Try.results45, go_sem, bne]) rfl ?_
                    exact ⟨ret_bool (leaf_scan_cons_20 k g l d k0 g0 n r q1 q2 q3 q9 q14 q15 Hq16.out q17 q18 q19), hB⟩
              · have Hq16 := Lib.hid q16
                clear q16
                go_wp2_with fail
                refine (implIsLabel l _).mono ?_
                rintro e w11 ⟨rfl, hb11⟩
                rw [Hq16.out]
                replace hB := (bstep hB hb11)
                have zw11 := hB.size
                go_wp2_with fail
                refine bodyPost_ret (v := .bool (false)) (by simp [results, Try.results45, go_sem, bne]) rfl ?_
                exact ⟨ret_bool (leaf_scan_cons_21 k g l d k0 g0 n r q1 q2 q3 q9 q14 q15 Hq16.out), hB⟩
            · (try rw [q15])
              go_wp2_with fail
              refine bodyPost_ret (v := .bool (false)) (by simp [results, Try.results45, go_sem, bne]) rfl ?_
              exact ⟨ret_bool (leaf_scan_cons_22 k g l d k0 g0 n r q1 q2 q3 q9 q14 q15), hB⟩
          · skip
            rcases Bool.eq_false_or_eq_true (g == 0) with q20 | q20
            · (try rw [q20])
              rcases Bool.eq_false_or_eq_true (l == 0) with q21 | q21
              · (try rw [q21])
                rcases Bool.eq_false_or_eq_true (k == 4) with q22 | q22
                · skip
                  rcases Bool.eq_false_or_eq_true (plainB k0 g0) with q23 | q23
                  · have Hq23 := Lib.hid q23
                    clear q23
                    go_wp2_with fail
                    refine (implIsPlain k0 g0 l0 a0 n0 q0 _).mono ?_
                    rintro e w12 ⟨rfl, hb12⟩
                    rw [Hq23.out]
                    replace hB := (bstep hB hb12)
                    have zw12 := hB.size
                    replace c0_0 : w12.cell? ⟨w.heap.size, 0, none⟩ = some (.int .i64 k) := bcell hb12 (c0_0)
                    replace c0_3 : w12.cell? ⟨w.heap.size, 3, none⟩ = some (.slice (some ⟨b, off, none⟩) n q) := bcell hb12 (c0_3)
                    replace c1_0 : w12.cell? ⟨w.heap.size + 1, 0, none⟩ = some (.int .i64 d) := bcell hb12 (c1_0)
                    have d0_w12 := World.block_lt_of_cell? _ _ c0_0
                    have d1_w12 := World.block_lt_of_cell? _ _ c1_0
                    go_wp2_with fail
                    refine (HH.out (by have h := q1; simp at h; omega) _ (w.heap.size + 1) hB (c1_0)).mono ?_
                    rintro e w13 ⟨rfl, hb13⟩
                    replace hB := (bstep hB hb13)
                    have zw13 := hB.size
                    go_wp2_with fail
                    refine bodyPost_ret (v := .bool (!r)) (by simp [results, Try.results45, go_sem, bne]) rfl ?_
                    exact ⟨ret_bool (leaf_scan_cons_23 k g l d k0 g0 n r q1 q2 q3 q9 q14 q20 q21 q22 Hq23.out), hB⟩
                  · have Hq23 := Lib.hid q23
                    clear q23
                    go_wp2_with fail
                    refine (implIsPlain k0 g0 l0 a0 n0 q0 _).mono ?_
                    rintro e w14 ⟨rfl, hb14⟩
                    rw [Hq23.out]
                    replace hB := (bstep hB hb14)
                    have zw14 := hB.size
                    go_wp2_with fail
                    refine bodyPost_ret (v := .bool (false)) (by simp [results, Try.results45, go_sem, bne]) rfl ?_
                    exact ⟨ret_bool (leaf_scan_cons_24 k g l d k0 g0 n r q1 q2 q3 q9 q14 q20 q21 q22 Hq23.out), hB⟩
                · skip
                  go_wp2_with fail
                  refine (HH.out (by have h := q1; simp at h; omega) _ (w.heap.size + 1) hB (c1_0)).mono ?_
                  rintro e w15 ⟨rfl, hb15⟩
                  replace hB := (bstep hB hb15)
                  have zw15 := hB.size
                  go_wp2_with fail
                  refine bodyPost_ret (v := .bool (!r)) (by simp [results, Try.results45, go_sem, bne]) rfl ?_
                  exact ⟨ret_bool (leaf_scan_cons_25 k g l d k0 g0 n r q1 q2 q3 q9 q14 q20 q21 q22), hB⟩
              · (try rw [q21])
                go_wp2_with fail
                refine bodyPost_ret (v := .bool (false)) (by simp [results, Try.results45, go_sem, bne]) rfl ?_
                exact ⟨ret_bool (leaf_scan_cons_26 k g l d k0 g0 n r q1 q2 q3 q9 q14 q20 q21), hB⟩
            · (try rw [q20])
              go_wp2_with fail
              refine bodyPost_ret (v := .bool (false)) (by simp [results, Try.results45, go_sem, bne]) rfl ?_
              exact ⟨ret_bool (leaf_scan_cons_27 k g l d k0 g0 n r q1 q2 q3 q9 q14 q20), hB⟩
    · (try rw [q2])
      go_wp2_with fail
      refine bodyPost_ret (v := .bool (false)) (by simp [results, Try.results45, go_sem, bne]) rfl ?_
      exact ⟨ret_bool (leaf_scan_cons_28 k g l d k0 g0 n r q1 q2), hB⟩

end Go.Proofs.Ythhdjacdalehoaa
