/-
  What makes a node of a coercion: the checks of both sides.
-/
import Derived.Test.YthhdjacdalehoaaRows
import Derived.Test.YthhdjacdalehoaaB6
import Derived.Test.YthhdjacdalehoaaB2
import Derived.Deep.RegionHeld3
namespace Go.Proofs.Ythhdjacdalehoaa
open Go.RowKit
set_option linter.unusedVariables false
set_option linter.unusedSimpArgs false
set_option maxRecDepth 100000

def winB (n a b : Int) : Bool := decide (a ≤ n) && decide (n ≤ b)
def labelB (n : Int) : Bool := winB n 1 99 || winB n (-99) (-1)
def plainB (k g : Int) : Bool := k == 2 || k == 3 || (k == 1 && !(g == 1))
def coOps (k : Int) : Int := if k = 1 ∨ k = 6 then 0 else if k = 2 ∨ k = 3 then 2 else if k = 4 ∨ k = 5 then 1 else -1
def Co.headK : List Co → Int | [] => 0 | t :: _ => t.kind
def Co.headG : List Co → Int | [] => 0 | t :: _ => t.tag
def Co.nodeB (k g l : Int) (n : Int) (k0 g0 : Int) : Bool :=
  (coOps k == n) && (if k = 1 then winB g 1 3 else if k = 6 then winB g 2 5 else g == 0) && (if k = 5 ∨ k = 6 then labelB l else l == 0) && (!(k == 4) || plainB k0 g0) && (!(k == 5) || !(k0 == 5 || (k0 == 1 && g0 == 1)))
mutual
def Co.shape : Co → Int → Bool
  | .mk k g l ts, d => decide (1 ≤ d) && Co.nodeB k g l ts.length (Co.headK ts) (Co.headG ts) && Co.shapes ts (d - 1)
def Co.shapes : List Co → Int → Bool
  | [], _ => true
  | t :: ts, d => t.shape d && Co.shapes ts d
end
def Co.valid (t : Co) : Bool := t.shape 9
theorem implWithin (n a b : Int) (w : World) : Calls Try.prog 55 #[.int .i64 n, .int .i64 a, .int .i64 b] w fun e w' => e = .returned (.bool (winB n a b)) ∧ Below w.heap.size w w' := by
  unfold winB
  by_cases h1 : a ≤ n
  · by_cases h2 : n ≤ b
    · go_enter Try.func55, Try.ntmps55
      go_wp2_with fail
      go_ret
      exact ⟨ret_bool (by simp [h1, h2]), Below.refl _ _⟩
    · have h2' : decide (n ≤ b) = false := decide_eq_false h2
      go_enter Try.func55, Try.ntmps55
      go_wp2_with fail
      go_ret
      exact ⟨ret_bool (by simp [h1, h2']), Below.refl _ _⟩
  · have h1' : decide (a ≤ n) = false := decide_eq_false h1
    go_enter Try.func55, Try.ntmps55
    go_wp2_with fail
    go_ret
    exact ⟨ret_bool (by simp [h1']), Below.refl _ _⟩

theorem leaf_implIsLabel_0 (n : Int) (h0 : (winB n 1 99) = true) : (true : Bool) = (labelB n) := by
  first | (simp_all; done) | grind [Co.shape, Co.nodeB, winB, labelB, plainB, coOps, Co.headK, Co.headG] | (simp_all [Co.shape, Co.nodeB, winB, labelB, plainB, coOps, Co.headK, Co.headG]; done) | (simp_all [Co.shape, Co.nodeB, winB, labelB, plainB, coOps, Co.headK, Co.headG]; omega)

theorem leaf_implIsLabel_1 (n : Int) (h0 : (winB n 1 99) = false) : (winB n (-99) (-1) : Bool) = (labelB n) := by
  first | (simp_all; done) | grind [Co.shape, Co.nodeB, winB, labelB, plainB, coOps, Co.headK, Co.headG] | (simp_all [Co.shape, Co.nodeB, winB, labelB, plainB, coOps, Co.headK, Co.headG]; done) | (simp_all [Co.shape, Co.nodeB, winB, labelB, plainB, coOps, Co.headK, Co.headG]; omega)

theorem leaf_implCoOps1_2  : (0 : Int) = (0) := by
  first | (simp_all; done) | grind [Co.shape, Co.nodeB, winB, labelB, plainB, coOps, Co.headK, Co.headG] | (simp_all [Co.shape, Co.nodeB, winB, labelB, plainB, coOps, Co.headK, Co.headG]; done) | (simp_all [Co.shape, Co.nodeB, winB, labelB, plainB, coOps, Co.headK, Co.headG]; omega)

theorem leaf_implCoOps2_3  : (2 : Int) = (2) := by
  first | (simp_all; done) | grind [Co.shape, Co.nodeB, winB, labelB, plainB, coOps, Co.headK, Co.headG] | (simp_all [Co.shape, Co.nodeB, winB, labelB, plainB, coOps, Co.headK, Co.headG]; done) | (simp_all [Co.shape, Co.nodeB, winB, labelB, plainB, coOps, Co.headK, Co.headG]; omega)

theorem leaf_implCoOps3_4  : (2 : Int) = (2) := by
  first | (simp_all; done) | grind [Co.shape, Co.nodeB, winB, labelB, plainB, coOps, Co.headK, Co.headG] | (simp_all [Co.shape, Co.nodeB, winB, labelB, plainB, coOps, Co.headK, Co.headG]; done) | (simp_all [Co.shape, Co.nodeB, winB, labelB, plainB, coOps, Co.headK, Co.headG]; omega)

theorem leaf_implCoOps4_5  : (1 : Int) = (1) := by
  first | (simp_all; done) | grind [Co.shape, Co.nodeB, winB, labelB, plainB, coOps, Co.headK, Co.headG] | (simp_all [Co.shape, Co.nodeB, winB, labelB, plainB, coOps, Co.headK, Co.headG]; done) | (simp_all [Co.shape, Co.nodeB, winB, labelB, plainB, coOps, Co.headK, Co.headG]; omega)

theorem leaf_implCoOps5_6  : (1 : Int) = (1) := by
  first | (simp_all; done) | grind [Co.shape, Co.nodeB, winB, labelB, plainB, coOps, Co.headK, Co.headG] | (simp_all [Co.shape, Co.nodeB, winB, labelB, plainB, coOps, Co.headK, Co.headG]; done) | (simp_all [Co.shape, Co.nodeB, winB, labelB, plainB, coOps, Co.headK, Co.headG]; omega)

theorem leaf_implCoOps6_7  : (0 : Int) = (0) := by
  first | (simp_all; done) | grind [Co.shape, Co.nodeB, winB, labelB, plainB, coOps, Co.headK, Co.headG] | (simp_all [Co.shape, Co.nodeB, winB, labelB, plainB, coOps, Co.headK, Co.headG]; done) | (simp_all [Co.shape, Co.nodeB, winB, labelB, plainB, coOps, Co.headK, Co.headG]; omega)

theorem leaf_implIsPlain_8 (k g l : Int) (a : Option Addr) (n q : Nat) (h0 : (k == 2) = true) : (true : Bool) = (plainB k g) := by
  first | (simp_all; done) | grind [Co.shape, Co.nodeB, winB, labelB, plainB, coOps, Co.headK, Co.headG] | (simp_all [Co.shape, Co.nodeB, winB, labelB, plainB, coOps, Co.headK, Co.headG]; done) | (simp_all [Co.shape, Co.nodeB, winB, labelB, plainB, coOps, Co.headK, Co.headG]; omega)

theorem leaf_implIsPlain_9 (k g l : Int) (a : Option Addr) (n q : Nat) (h0 : (k == 2) = false) (h1 : (k == 3) = true) : (true : Bool) = (plainB k g) := by
  first | (simp_all; done) | grind [Co.shape, Co.nodeB, winB, labelB, plainB, coOps, Co.headK, Co.headG] | (simp_all [Co.shape, Co.nodeB, winB, labelB, plainB, coOps, Co.headK, Co.headG]; done) | (simp_all [Co.shape, Co.nodeB, winB, labelB, plainB, coOps, Co.headK, Co.headG]; omega)

theorem leaf_implIsPlain_10 (k g l : Int) (a : Option Addr) (n q : Nat) (h0 : (k == 2) = false) (h1 : (k == 3) = false) (h2 : (k == 1) = true) : (!(g == 1) : Bool) = (plainB k g) := by
  first | (simp_all; done) | grind [Co.shape, Co.nodeB, winB, labelB, plainB, coOps, Co.headK, Co.headG] | (simp_all [Co.shape, Co.nodeB, winB, labelB, plainB, coOps, Co.headK, Co.headG]; done) | (simp_all [Co.shape, Co.nodeB, winB, labelB, plainB, coOps, Co.headK, Co.headG]; omega)

theorem leaf_implIsPlain_11 (k g l : Int) (a : Option Addr) (n q : Nat) (h0 : (k == 2) = false) (h1 : (k == 3) = false) (h2 : (k == 1) = false) : (false : Bool) = (plainB k g) := by
  first | (simp_all; done) | grind [Co.shape, Co.nodeB, winB, labelB, plainB, coOps, Co.headK, Co.headG] | (simp_all [Co.shape, Co.nodeB, winB, labelB, plainB, coOps, Co.headK, Co.headG]; done) | (simp_all [Co.shape, Co.nodeB, winB, labelB, plainB, coOps, Co.headK, Co.headG]; omega)

theorem leaf_implIsAny_16 (k g l : Int) (a : Option Addr) (n q : Nat) (h0 : (k == 1) = true) : (g == 1 : Bool) = ((k == 1 && g == 1)) := by
  first | (simp_all; done) | grind [Co.shape, Co.nodeB, winB, labelB, plainB, coOps, Co.headK, Co.headG] | (simp_all [Co.shape, Co.nodeB, winB, labelB, plainB, coOps, Co.headK, Co.headG]; done) | (simp_all [Co.shape, Co.nodeB, winB, labelB, plainB, coOps, Co.headK, Co.headG]; omega)

theorem leaf_implIsAny_17 (k g l : Int) (a : Option Addr) (n q : Nat) (h0 : (k == 1) = false) : (false : Bool) = ((k == 1 && g == 1)) := by
  first | (simp_all; done) | grind [Co.shape, Co.nodeB, winB, labelB, plainB, coOps, Co.headK, Co.headG] | (simp_all [Co.shape, Co.nodeB, winB, labelB, plainB, coOps, Co.headK, Co.headG]; done) | (simp_all [Co.shape, Co.nodeB, winB, labelB, plainB, coOps, Co.headK, Co.headG]; omega)

set_option maxHeartbeats 4000000 in
theorem implIsLabel (n : Int) (w : World) : Calls Try.prog 31 #[.int .i64 n] w fun e w' => e = .returned (.bool (labelB n)) ∧ Below w.heap.size w w' := by
  go_enter Try.func31, Try.ntmps31
  rcases Bool.eq_false_or_eq_true (winB n 1 99) with q1 | q1
  · have Hq1 := Lib.hid q1
    clear q1
    go_wp2_with fail
    refine (implWithin n 1 99 _).mono ?_
    rintro e w1 ⟨rfl, hb1⟩
    rw [Hq1.out]
    have hB := (bstep (Below.refl _ _) hb1)
    have zw1 := hB.size
    go_wp2_with fail
    refine bodyPost_ret (v := .bool (true)) (by simp [results, Try.results31, go_sem, bne]) rfl ?_
    exact ⟨ret_bool (leaf_implIsLabel_0 n Hq1.out), hB⟩
  · have Hq1 := Lib.hid q1
    clear q1
    go_wp2_with fail
    refine (implWithin n 1 99 _).mono ?_
    rintro e w2 ⟨rfl, hb2⟩
    rw [Hq1.out]
    have hB := (bstep (Below.refl _ _) hb2)
    have zw2 := hB.size
    go_wp2_with fail
    refine (implWithin n (-99) (-1) _).mono ?_
    rintro e w3 ⟨rfl, hb3⟩
    replace hB := (bstep hB hb3)
    have zw3 := hB.size
    go_wp2_with fail
    refine bodyPost_ret (v := .bool (winB n (-99) (-1))) (by simp [results, Try.results31, go_sem, bne]) rfl ?_
    exact ⟨ret_bool (leaf_implIsLabel_1 n Hq1.out), hB⟩

set_option maxHeartbeats 4000000 in
theorem implCoOps1  (w : World) : Calls Try.prog 66 #[.int .i64 1] w fun e w' => e = .returned (.int .i64 (0)) ∧ Below w.heap.size w w' := by
  go_enter Try.func66, Try.ntmps66
  go_wp2_with fail
  refine (implWithin 1 1 6 _).mono ?_
  rintro e w1 ⟨rfl, hb1⟩
  rw [show winB (1) (1) (6) = true from by decide]
  have hB := (bstep (Below.refl _ _) hb1)
  have zw1 := hB.size
  go_wp2_with fail
  refine bodyPost_ret (v := .int .i64 (0)) (by simp [results, Try.results66, go_sem, bne]) rfl ?_
  exact ⟨ret_int (leaf_implCoOps1_2  ), (hB.alloc hB.size _)⟩

set_option maxHeartbeats 4000000 in
theorem implCoOps2  (w : World) : Calls Try.prog 66 #[.int .i64 2] w fun e w' => e = .returned (.int .i64 (2)) ∧ Below w.heap.size w w' := by
  go_enter Try.func66, Try.ntmps66
  go_wp2_with fail
  refine (implWithin 2 1 6 _).mono ?_
  rintro e w1 ⟨rfl, hb1⟩
  rw [show winB (2) (1) (6) = true from by decide]
  have hB := (bstep (Below.refl _ _) hb1)
  have zw1 := hB.size
  go_wp2_with fail
  refine bodyPost_ret (v := .int .i64 (2)) (by simp [results, Try.results66, go_sem, bne]) rfl ?_
  exact ⟨ret_int (leaf_implCoOps2_3  ), (hB.alloc hB.size _)⟩

set_option maxHeartbeats 4000000 in
theorem implCoOps3  (w : World) : Calls Try.prog 66 #[.int .i64 3] w fun e w' => e = .returned (.int .i64 (2)) ∧ Below w.heap.size w w' := by
  go_enter Try.func66, Try.ntmps66
  go_wp2_with fail
  refine (implWithin 3 1 6 _).mono ?_
  rintro e w1 ⟨rfl, hb1⟩
  rw [show winB (3) (1) (6) = true from by decide]
  have hB := (bstep (Below.refl _ _) hb1)
  have zw1 := hB.size
  go_wp2_with fail
  refine bodyPost_ret (v := .int .i64 (2)) (by simp [results, Try.results66, go_sem, bne]) rfl ?_
  exact ⟨ret_int (leaf_implCoOps3_4  ), (hB.alloc hB.size _)⟩

set_option maxHeartbeats 4000000 in
theorem implCoOps4  (w : World) : Calls Try.prog 66 #[.int .i64 4] w fun e w' => e = .returned (.int .i64 (1)) ∧ Below w.heap.size w w' := by
  go_enter Try.func66, Try.ntmps66
  go_wp2_with fail
  refine (implWithin 4 1 6 _).mono ?_
  rintro e w1 ⟨rfl, hb1⟩
  rw [show winB (4) (1) (6) = true from by decide]
  have hB := (bstep (Below.refl _ _) hb1)
  have zw1 := hB.size
  go_wp2_with fail
  refine bodyPost_ret (v := .int .i64 (1)) (by simp [results, Try.results66, go_sem, bne]) rfl ?_
  exact ⟨ret_int (leaf_implCoOps4_5  ), (hB.alloc hB.size _)⟩

set_option maxHeartbeats 4000000 in
theorem implCoOps5  (w : World) : Calls Try.prog 66 #[.int .i64 5] w fun e w' => e = .returned (.int .i64 (1)) ∧ Below w.heap.size w w' := by
  go_enter Try.func66, Try.ntmps66
  go_wp2_with fail
  refine (implWithin 5 1 6 _).mono ?_
  rintro e w1 ⟨rfl, hb1⟩
  rw [show winB (5) (1) (6) = true from by decide]
  have hB := (bstep (Below.refl _ _) hb1)
  have zw1 := hB.size
  go_wp2_with fail
  refine bodyPost_ret (v := .int .i64 (1)) (by simp [results, Try.results66, go_sem, bne]) rfl ?_
  exact ⟨ret_int (leaf_implCoOps5_6  ), (hB.alloc hB.size _)⟩

set_option maxHeartbeats 4000000 in
theorem implCoOps6  (w : World) : Calls Try.prog 66 #[.int .i64 6] w fun e w' => e = .returned (.int .i64 (0)) ∧ Below w.heap.size w w' := by
  go_enter Try.func66, Try.ntmps66
  go_wp2_with fail
  refine (implWithin 6 1 6 _).mono ?_
  rintro e w1 ⟨rfl, hb1⟩
  rw [show winB (6) (1) (6) = true from by decide]
  have hB := (bstep (Below.refl _ _) hb1)
  have zw1 := hB.size
  go_wp2_with fail
  refine bodyPost_ret (v := .int .i64 (0)) (by simp [results, Try.results66, go_sem, bne]) rfl ?_
  exact ⟨ret_int (leaf_implCoOps6_7  ), (hB.alloc hB.size _)⟩

set_option maxHeartbeats 4000000 in
theorem implIsPlain (k g l : Int) (a : Option Addr) (n q : Nat) (w : World) : Calls Try.prog 67 #[.agg #[.int .i64 k, .int .i64 g, .int .i64 l, .slice a n q]] w fun e w' => e = .returned (.bool (plainB k g)) ∧ Below w.heap.size w w' := by
  go_enter Try.func67, Try.ntmps67
  rcases Bool.eq_false_or_eq_true (k == 2) with q1 | q1
  · skip
    go_wp2_with fail
    refine bodyPost_ret (v := .bool (true)) (by simp [results, Try.results67, go_sem, bne]) rfl ?_
    exact ⟨ret_bool (leaf_implIsPlain_8 k g l a n q q1), bal1⟩
  · skip
    rcases Bool.eq_false_or_eq_true (k == 3) with q2 | q2
    · skip
      go_wp2_with fail
      refine bodyPost_ret (v := .bool (true)) (by simp [results, Try.results67, go_sem, bne]) rfl ?_
      exact ⟨ret_bool (leaf_implIsPlain_9 k g l a n q q1 q2), bal1⟩
    · skip
      rcases Bool.eq_false_or_eq_true (k == 1) with q3 | q3
      · skip
        go_wp2_with fail
        refine bodyPost_ret (v := .bool (!(g == 1))) (by simp [results, Try.results67, go_sem, bne]) rfl ?_
        exact ⟨ret_bool (leaf_implIsPlain_10 k g l a n q q1 q2 q3), bal1⟩
      · skip
        go_wp2_with fail
        refine bodyPost_ret (v := .bool (false)) (by simp [results, Try.results67, go_sem, bne]) rfl ?_
        exact ⟨ret_bool (leaf_implIsPlain_11 k g l a n q q1 q2 q3), bal1⟩

set_option maxHeartbeats 4000000 in
theorem implIsAny (k g l : Int) (a : Option Addr) (n q : Nat) (w : World) : Calls Try.prog 46 #[.agg #[.int .i64 k, .int .i64 g, .int .i64 l, .slice a n q]] w fun e w' => e = .returned (.bool ((k == 1 && g == 1))) ∧ Below w.heap.size w w' := by
  go_enter Try.func46, Try.ntmps46
  rcases Bool.eq_false_or_eq_true (k == 1) with q1 | q1
  · skip
    go_wp2_with fail
    refine bodyPost_ret (v := .bool (g == 1)) (by simp [results, Try.results46, go_sem, bne]) rfl ?_
    exact ⟨ret_bool (leaf_implIsAny_16 k g l a n q q1), bal1⟩
  · skip
    go_wp2_with fail
    refine bodyPost_ret (v := .bool (false)) (by simp [results, Try.results46, go_sem, bne]) rfl ?_
    exact ⟨ret_bool (leaf_implIsAny_17 k g l a n q q1), bal1⟩

end Go.Proofs.Ythhdjacdalehoaa
