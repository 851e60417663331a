/-
  FnTypeSame returns true: the walk.
-/
import Derived.Test.YtjkkahlcbhcifaaFn
import Derived.Test.YtjkkahlcbhcifaaDraws
import Derived.Test.YtjkkahlcbhcifaaFnFmt
namespace Go.Proofs.Ytjkkahlcbhcifaa
open Go.RowKit
set_option linter.unusedVariables false
set_option linter.unusedSimpArgs false
set_option maxRecDepth 100000

set_option maxHeartbeats 8000000 in
theorem walk_FnTypeSame (y0 : Value) (w : World) (r0 : ByRep w w.heap.size y0) :
    Calls Try.prog 12 #[y0] w fun e w' => e = .returned (.bool true) ∧ Below w.heap.size w w' := by
  obtain ⟨a0, n0, q0, rfl⟩ := r0.shape
  go_enter Try.func12, Try.ntmps12
  rcases Bool.eq_false_or_eq_true (decide ((n0 : Int) > 1048576)) with q1 | q1
  · (try rw [q1])
    go_wp2_with fail
    refine bodyPost_ret (v := .bool true) (by simp [results, Try.results12, go_sem]) rfl ?_
    exact ⟨rfl, (Below.refl _ _)⟩
  · (try rw [q1])
    go_wp2_with fail
    refine (specDrawTypeSame _ _ _ (r0.below (Below.refl _ _)) (by first | omega | (simp; done) | (simp; omega))).mono ?_
    rintro e w1 ⟨t1, u1, v1, x1, rfl, hv1, hx1, hb1⟩
    obtain ⟨kv1, av1, nv1, qv1, rfl⟩ := hv1.shape
    obtain ⟨kx1, ax1, nx1, qx1, rfl⟩ := hx1.shape
    have hB := (bstep (Below.refl _ _) hb1)
    have zw1 := hB.size
    go_wp2_with fail
    refine (implTypeSame _ _ t1 u1 _ _ _ (hv1.below bal2).all (hx1.below bal2).all).mono ?_
    rintro e w2 ⟨rfl, hb2⟩
    replace hB := (bstep ((hB.alloc hB.size _).alloc (hB.alloc hB.size _).size _) hb2)
    have zw2 := hB.size
    have c0_0 : w2.cell? ⟨w1.heap.size, 0, none⟩ = some (.int .i64 kv1) := bcell hb2 (bcell bal1 (cell_new (by simp) 0))
    have c0_1 : w2.cell? ⟨w1.heap.size, 1, none⟩ = some (.slice av1 nv1 qv1) := bcell hb2 (bcell bal1 (cell_new (by simp) 1))
    have c1_0 : w2.cell? ⟨w1.heap.size + 1, 0, none⟩ = some (.int .i64 kx1) := bcell hb2 (cell_new (by simp) 0)
    have c1_1 : w2.cell? ⟨w1.heap.size + 1, 1, none⟩ = some (.slice ax1 nx1 qx1) := bcell hb2 (cell_new (by simp) 1)
    replace hv1 := (hv1.below (bstep bal2 hb2))
    replace hx1 := (hx1.below (bstep bal2 hb2))
    have d0_w2 := World.block_lt_of_cell? _ _ c0_0
    have d1_w2 := World.block_lt_of_cell? _ _ c1_0
    go_wp2_with fail
    refine (specTypeSame _ _ t1 u1 _ _ _ hv1.all hx1.all).mono ?_
    rintro e w3 ⟨rfl, hb3⟩
    replace hB := (bstep hB hb3)
    have zw3 := hB.size
    replace c1_0 : w3.cell? ⟨w1.heap.size + 1, 0, none⟩ = some (.int .i64 kx1) := bcell hb3 (c1_0)
    replace c1_1 : w3.cell? ⟨w1.heap.size + 1, 1, none⟩ = some (.slice ax1 nx1 qx1) := bcell hb3 (c1_1)
    replace c0_0 : w3.cell? ⟨w1.heap.size, 0, none⟩ = some (.int .i64 kv1) := bcell hb3 (c0_0)
    replace c0_1 : w3.cell? ⟨w1.heap.size, 1, none⟩ = some (.slice av1 nv1 qv1) := bcell hb3 (c0_1)
    replace hx1 := (hx1.below hb3)
    replace hv1 := (hv1.below hb3)
    have d1_w3 := World.block_lt_of_cell? _ _ c1_0
    have d0_w3 := World.block_lt_of_cell? _ _ c0_0
    go_wp2_with fail
    refine (implTypeSameSym _ _ u1 t1 _ _ _ hx1.all hv1.all).mono ?_
    rintro e w4 ⟨rfl, hb4⟩
    replace hB := (bstep hB hb4)
    have zw4 := hB.size
    replace c0_0 : w4.cell? ⟨w1.heap.size, 0, none⟩ = some (.int .i64 kv1) := bcell hb4 (c0_0)
    replace c0_1 : w4.cell? ⟨w1.heap.size, 1, none⟩ = some (.slice av1 nv1 qv1) := bcell hb4 (c0_1)
    replace c1_0 : w4.cell? ⟨w1.heap.size + 1, 0, none⟩ = some (.int .i64 kx1) := bcell hb4 (c1_0)
    replace c1_1 : w4.cell? ⟨w1.heap.size + 1, 1, none⟩ = some (.slice ax1 nx1 qx1) := bcell hb4 (c1_1)
    replace hv1 := (hv1.below hb4)
    replace hx1 := (hx1.below hb4)
    have d0_w4 := World.block_lt_of_cell? _ _ c0_0
    have d1_w4 := World.block_lt_of_cell? _ _ c1_0
    go_wp2_with fail
    refine (implTypeSameSelf _ _ t1 _ _ _ hv1.all hv1.all).mono ?_
    rintro e w5 ⟨rfl, hb5⟩
    replace hB := (bstep hB hb5)
    have zw5 := hB.size
    replace c0_0 : w5.cell? ⟨w1.heap.size, 0, none⟩ = some (.int .i64 kv1) := bcell hb5 (c0_0)
    replace c0_1 : w5.cell? ⟨w1.heap.size, 1, none⟩ = some (.slice av1 nv1 qv1) := bcell hb5 (c0_1)
    replace c1_0 : w5.cell? ⟨w1.heap.size + 1, 0, none⟩ = some (.int .i64 kx1) := bcell hb5 (c1_0)
    replace c1_1 : w5.cell? ⟨w1.heap.size + 1, 1, none⟩ = some (.slice ax1 nx1 qx1) := bcell hb5 (c1_1)
    replace hv1 := (hv1.below hb5)
    replace hx1 := (hx1.below hb5)
    have d0_w5 := World.block_lt_of_cell? _ _ c0_0
    have d1_w5 := World.block_lt_of_cell? _ _ c1_0
    rcases Bool.eq_false_or_eq_true (Ty.valid t1) with q2 | q2
    · have Hq2 := Lib.hid q2
      clear q2
      go_wp2_with fail
      refine (implFormatType _ t1 _ _ hv1.all).mono ?_
      rintro e w6 ⟨rfl, hb6⟩
      have hea6 := (fmtB_ne Hq2.out).1
      have heb6 := (fmtB_ne Hq2.out).2.1
      have hec6 := (fmtB_ne Hq2.out).2.2
      replace hB := (bstep hB hb6)
      have zw6 := hB.size
      replace c1_0 : w6.cell? ⟨w1.heap.size + 1, 0, none⟩ = some (.int .i64 kx1) := bcell hb6 (c1_0)
      replace c1_1 : w6.cell? ⟨w1.heap.size + 1, 1, none⟩ = some (.slice ax1 nx1 qx1) := bcell hb6 (c1_1)
      replace hx1 := (hx1.below hb6)
      have d1_w6 := World.block_lt_of_cell? _ _ c1_0
      rcases Bool.eq_false_or_eq_true (Ty.valid u1) with q3 | q3
      · have Hq3 := Lib.hid q3
        clear q3
        go_wp2_with fail
        refine (implFormatType _ u1 _ _ hx1.all).mono ?_
        rintro e w7 ⟨rfl, hb7⟩
        have hea7 := (fmtB_ne Hq3.out).1
        have heb7 := (fmtB_ne Hq3.out).2.1
        have hec7 := (fmtB_ne Hq3.out).2.2
        replace hB := (bstep hB hb7)
        have zw7 := hB.size
        have hfs := fmtB_same Hq2.out Hq3.out
        go_wp2_with fail
        refine bodyPost_ret (v := .bool true) (by simp [results, Try.results12, go_sem]) rfl ?_
        exact ⟨rfl, hB⟩
      · have Hq3 := Lib.hid q3
        clear q3
        go_wp2_with fail
        refine (implFormatType _ u1 _ _ hx1.all).mono ?_
        rintro e w8 ⟨rfl, hb8⟩
        rw [fmtB_bad Hq3.out]
        replace hB := (bstep hB hb8)
        have zw8 := hB.size
        go_wp2_with fail
        refine bodyPost_ret (v := .bool true) (by simp [results, Try.results12, go_sem]) rfl ?_
        exact ⟨rfl, hB⟩
    · have Hq2 := Lib.hid q2
      clear q2
      go_wp2_with fail
      refine (implFormatType _ t1 _ _ hv1.all).mono ?_
      rintro e w9 ⟨rfl, hb9⟩
      rw [fmtB_bad Hq2.out]
      replace hB := (bstep hB hb9)
      have zw9 := hB.size
      replace c1_0 : w9.cell? ⟨w1.heap.size + 1, 0, none⟩ = some (.int .i64 kx1) := bcell hb9 (c1_0)
      replace c1_1 : w9.cell? ⟨w1.heap.size + 1, 1, none⟩ = some (.slice ax1 nx1 qx1) := bcell hb9 (c1_1)
      replace hx1 := (hx1.below hb9)
      have d1_w9 := World.block_lt_of_cell? _ _ c1_0
      rcases Bool.eq_false_or_eq_true (Ty.valid u1) with q4 | q4
      · have Hq4 := Lib.hid q4
        clear q4
        go_wp2_with fail
        refine (implFormatType _ u1 _ _ hx1.all).mono ?_
        rintro e w10 ⟨rfl, hb10⟩
        have hea10 := (fmtB_ne Hq4.out).1
        have heb10 := (fmtB_ne Hq4.out).2.1
        have hec10 := (fmtB_ne Hq4.out).2.2
        replace hB := (bstep hB hb10)
        have zw10 := hB.size
        go_wp2_with fail
        refine bodyPost_ret (v := .bool true) (by simp [results, Try.results12, go_sem]) rfl ?_
        exact ⟨rfl, hB⟩
      · have Hq4 := Lib.hid q4
        clear q4
        go_wp2_with fail
        refine (implFormatType _ u1 _ _ hx1.all).mono ?_
        rintro e w11 ⟨rfl, hb11⟩
        rw [fmtB_bad Hq4.out]
        replace hB := (bstep hB hb11)
        have zw11 := hB.size
        go_wp2_with fail
        refine bodyPost_ret (v := .bool true) (by simp [results, Try.results12, go_sem]) rfl ?_
        exact ⟨rfl, hB⟩
end Go.Proofs.Ytjkkahlcbhcifaa
