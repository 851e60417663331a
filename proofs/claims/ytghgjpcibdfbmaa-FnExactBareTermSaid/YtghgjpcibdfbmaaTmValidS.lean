/-
  TermValid and CastValid of the reference.
-/
import Derived.Test.YtghgjpcibdfbmaaTmShape2
import Derived.Test.YtghgjpcibdfbmaaTmShape4
import Derived.Test.YtghgjpcibdfbmaaTmCount
namespace Go.Proofs.Ytghgjpcibdfbmaa
open Go.RowKit
set_option linter.unusedVariables false
set_option linter.unusedSimpArgs false
set_option maxRecDepth 100000

theorem leaf_sv12_0 (s : Bool) (z : Int) (h0 : (s) = true) : (decide (z ≤ 30) : Bool) = (s && decide (z ≤ 30)) := by
  simp_all

theorem leaf_sv12_1 (s : Bool) (z : Int) (h0 : (s) = false) : (false : Bool) = (s && decide (z ≤ 30)) := by
  simp_all

theorem leaf_sv40_2 (s : Bool) (z : Int) (h0 : (s) = true) : (decide (z ≤ 200) : Bool) = (s && decide (z ≤ 200)) := by
  simp_all

theorem leaf_sv40_3 (s : Bool) (z : Int) (h0 : (s) = false) : (false : Bool) = (s && decide (z ≤ 200)) := by
  simp_all

set_option maxHeartbeats 1000000 in
theorem specTermValid (F : Nat → Prop) (t : Tm) (y : Value) (w : World) (hy : TmRep F w t y) :
    Calls Try.prog 28 #[y] w fun e w' => e = .returned (.bool (t.valid)) ∧ Below w.heap.size w w' := by
  have h1 := fun W (h : Below w.heap.size w W) => specL2Shape F t 12 y W (hy.below h) (by omega) (by omega)
  have h2 := fun (hs : t.shape 14 12 = true) W (h : Below w.heap.size w W) => specL2Count F t 14 12 hs 12 (by omega) (by omega) y W (hy.below h)
  obtain ⟨k, nm, u, tk, ta, tn, tq, fk, fa, fn, fq, l, c, m, q, rfl⟩ := hy.shape
  unfold Tm.valid
  generalize t.shape 14 12 = s at *
  generalize t.size = z at *
  have H1 := Lib.hid h1
  have H2 := Lib.hid h2
  clear h1 h2 hy
  obtain ⟨rr, hrr⟩ : ∃ rr0 : Bool, (s && decide (z ≤ 30)) = rr0 := ⟨_, rfl⟩
  rw [hrr]
  have HT := Lib.hid hrr
  clear hrr
  go_enter Try.func28, Try.ntmps28
  rcases Bool.eq_false_or_eq_true (s) with q1 | q1
  · have Hq1 := Lib.hid q1
    clear q1
    go_wp2_with fail
    refine (H1.out _ bal1).mono ?_
    rintro e w1 ⟨rfl, hb1⟩
    rw [Hq1.out]
    have hB := (bstep bal1 hb1)
    have zw1 := hB.size
    have c0_0 : w1.cell? ⟨w.heap.size, 0, none⟩ = some (.int .i64 k) := bcell hb1 (cell_new (by simp) 0)
    have c0_1 : w1.cell? ⟨w.heap.size, 1, none⟩ = some (.string nm) := bcell hb1 (cell_new (by simp) 1)
    have c0_2 : w1.cell? ⟨w.heap.size, 2, none⟩ = some (.int .i64 u) := bcell hb1 (cell_new (by simp) 2)
    have c0_3 : w1.cell? ⟨w.heap.size, 3, none⟩ = some (.int .i64 tk) := bcell hb1 (cell_new (by simp) 3)
    have c0_4 : w1.cell? ⟨w.heap.size, 4, none⟩ = some (.slice ta tn tq) := bcell hb1 (cell_new (by simp) 4)
    have c0_5 : w1.cell? ⟨w.heap.size, 5, none⟩ = some (.int .i64 fk) := bcell hb1 (cell_new (by simp) 5)
    have c0_6 : w1.cell? ⟨w.heap.size, 6, none⟩ = some (.slice fa fn fq) := bcell hb1 (cell_new (by simp) 6)
    have c0_7 : w1.cell? ⟨w.heap.size, 7, none⟩ = some (.int .i64 l) := bcell hb1 (cell_new (by simp) 7)
    have c0_8 : w1.cell? ⟨w.heap.size, 8, none⟩ = some (.slice c m q) := bcell hb1 (cell_new (by simp) 8)
    have d0_w1 := World.block_lt_of_cell? _ _ c0_0
    go_wp2_with fail
    refine (H2.out Hq1.out _ hB).mono ?_
    rintro e w2 ⟨rfl, hb2⟩
    replace hB := (bstep hB hb2)
    have zw2 := hB.size
    go_wp2_with fail
    refine bodyPost_ret (v := .bool (decide (z ≤ 30))) (by simp [results, Try.results28, go_sem, bne]) rfl ?_
    exact ⟨ret_bool ((leaf_sv12_0 s z Hq1.out).trans HT.out), hB⟩
  · have Hq1 := Lib.hid q1
    clear q1
    go_wp2_with fail
    refine (H1.out _ bal1).mono ?_
    rintro e w3 ⟨rfl, hb3⟩
    rw [Hq1.out]
    have hB := (bstep bal1 hb3)
    have zw3 := hB.size
    go_wp2_with fail
    refine bodyPost_ret (v := .bool (false)) (by simp [results, Try.results28, go_sem, bne]) rfl ?_
    exact ⟨ret_bool ((leaf_sv12_1 s z Hq1.out).trans HT.out), hB⟩
set_option maxHeartbeats 1000000 in
theorem specCastValid (F : Nat → Prop) (t : Tm) (y : Value) (w : World) (hy : TmRep F w t y) :
    Calls Try.prog 32 #[y] w fun e w' => e = .returned (.bool (t.castValid)) ∧ Below w.heap.size w w' := by
  have h1 := fun W (h : Below w.heap.size w W) => specL4Shape F t 40 y W (hy.below h) (by omega) (by omega)
  have h2 := fun (hs : t.shape 13 40 = true) W (h : Below w.heap.size w W) => specL2Count F t 13 40 hs 40 (by omega) (by omega) y W (hy.below h)
  obtain ⟨k, nm, u, tk, ta, tn, tq, fk, fa, fn, fq, l, c, m, q, rfl⟩ := hy.shape
  unfold Tm.castValid
  generalize t.shape 13 40 = s at *
  generalize t.size = z at *
  have H1 := Lib.hid h1
  have H2 := Lib.hid h2
  clear h1 h2 hy
  obtain ⟨rr, hrr⟩ : ∃ rr0 : Bool, (s && decide (z ≤ 200)) = rr0 := ⟨_, rfl⟩
  rw [hrr]
  have HT := Lib.hid hrr
  clear hrr
  go_enter Try.func32, Try.ntmps32
  rcases Bool.eq_false_or_eq_true (s) with q1 | q1
  · have Hq1 := Lib.hid q1
    clear q1
    go_wp2_with fail
    refine (H1.out _ bal1).mono ?_
    rintro e w1 ⟨rfl, hb1⟩
    rw [Hq1.out]
    have hB := (bstep bal1 hb1)
    have zw1 := hB.size
    have c0_0 : w1.cell? ⟨w.heap.size, 0, none⟩ = some (.int .i64 k) := bcell hb1 (cell_new (by simp) 0)
    have c0_1 : w1.cell? ⟨w.heap.size, 1, none⟩ = some (.string nm) := bcell hb1 (cell_new (by simp) 1)
    have c0_2 : w1.cell? ⟨w.heap.size, 2, none⟩ = some (.int .i64 u) := bcell hb1 (cell_new (by simp) 2)
    have c0_3 : w1.cell? ⟨w.heap.size, 3, none⟩ = some (.int .i64 tk) := bcell hb1 (cell_new (by simp) 3)
    have c0_4 : w1.cell? ⟨w.heap.size, 4, none⟩ = some (.slice ta tn tq) := bcell hb1 (cell_new (by simp) 4)
    have c0_5 : w1.cell? ⟨w.heap.size, 5, none⟩ = some (.int .i64 fk) := bcell hb1 (cell_new (by simp) 5)
    have c0_6 : w1.cell? ⟨w.heap.size, 6, none⟩ = some (.slice fa fn fq) := bcell hb1 (cell_new (by simp) 6)
    have c0_7 : w1.cell? ⟨w.heap.size, 7, none⟩ = some (.int .i64 l) := bcell hb1 (cell_new (by simp) 7)
    have c0_8 : w1.cell? ⟨w.heap.size, 8, none⟩ = some (.slice c m q) := bcell hb1 (cell_new (by simp) 8)
    have d0_w1 := World.block_lt_of_cell? _ _ c0_0
    go_wp2_with fail
    refine (H2.out Hq1.out _ hB).mono ?_
    rintro e w2 ⟨rfl, hb2⟩
    replace hB := (bstep hB hb2)
    have zw2 := hB.size
    go_wp2_with fail
    refine bodyPost_ret (v := .bool (decide (z ≤ 200))) (by simp [results, Try.results32, go_sem, bne]) rfl ?_
    exact ⟨ret_bool ((leaf_sv40_2 s z Hq1.out).trans HT.out), hB⟩
  · have Hq1 := Lib.hid q1
    clear q1
    go_wp2_with fail
    refine (H1.out _ bal1).mono ?_
    rintro e w3 ⟨rfl, hb3⟩
    rw [Hq1.out]
    have hB := (bstep bal1 hb3)
    have zw3 := hB.size
    go_wp2_with fail
    refine bodyPost_ret (v := .bool (false)) (by simp [results, Try.results32, go_sem, bne]) rfl ?_
    exact ⟨ret_bool ((leaf_sv40_3 s z Hq1.out).trans HT.out), hB⟩
end Go.Proofs.Ytghgjpcibdfbmaa
