/-
  FnExactFreeNames returns true: the walk.
-/
import Derived.Test.YtghgjpcibdfbmaaLaTm
import Derived.Test.YtghgjpcibdfbmaaTmFree
namespace Go.Proofs.Ytghgjpcibdfbmaa
open Go.RowKit
set_option maxRecDepth 100000
set_option linter.unusedVariables false
set_option linter.unusedSimpArgs false

set_option maxHeartbeats 4000000 in
theorem walk_FnExactFreeNames (F0 : Nat → Prop) (t0 : Tm) (y0 : Value) (w : World) (r0 : TmRep F0 w t0 y0) :
    Calls Try.prog 12 #[y0] w fun e w' => e = .returned (.bool true) ∧ Below w.heap.size w w' := by
  obtain ⟨k0, sn0, u0, kt0, at0, nt0, qt0, kf0, af0, nf0, qf0, lb0, a0, n0, q0, rfl⟩ := r0.shape
  by_cases h0 : (t0.cnt : Int) ≤ 1048576
  · have s0 := szr_pos h0
    have l0 : 0 ≤ (1048576 - (t0.cnt : Int)) := by omega
    have m0 : (1048576 - (t0.cnt : Int)) ≤ 1048576 := by omega
    have b0 : t0.cnt ≤ 1048576 := by omega
    have S0 := Lib.hid s0
    have B0 := Lib.hid b0
    clear s0 h0 b0
    go_enter Try.func12, Try.ntmps12
    go_wp2_with fail
    refine (szTerm_any F0 t0 _ _ _ (r0.below bal1) (by omega) (by omega)).mono ?_
    rintro e w1 ⟨rfl, hb1⟩
    rw [S0.out]
    have hB := bstep bal1 hb1
    have c0_0 : w1.cell? ⟨w.heap.size, 0, none⟩ = some (.int .i64 k0) := bcell hb1 (cell_n0 0)
    have c0_1 : w1.cell? ⟨w.heap.size, 1, none⟩ = some (.string sn0) := bcell hb1 (cell_n0 1)
    have c0_2 : w1.cell? ⟨w.heap.size, 2, none⟩ = some (.int .i64 u0) := bcell hb1 (cell_n0 2)
    have c0_3 : w1.cell? ⟨w.heap.size, 3, none⟩ = some (.int .i64 kt0) := bcell hb1 (cell_n0 3)
    have c0_4 : w1.cell? ⟨w.heap.size, 4, none⟩ = some (.slice at0 nt0 qt0) := bcell hb1 (cell_n0 4)
    have c0_5 : w1.cell? ⟨w.heap.size, 5, none⟩ = some (.int .i64 kf0) := bcell hb1 (cell_n0 5)
    have c0_6 : w1.cell? ⟨w.heap.size, 6, none⟩ = some (.slice af0 nf0 qf0) := bcell hb1 (cell_n0 6)
    have c0_7 : w1.cell? ⟨w.heap.size, 7, none⟩ = some (.int .i64 lb0) := bcell hb1 (cell_n0 7)
    have c0_8 : w1.cell? ⟨w.heap.size, 8, none⟩ = some (.slice a0 n0 q0) := bcell hb1 (cell_n0 8)
    replace r0 := r0.below hB
    have dc0_0 := World.block_lt_of_cell? _ _ c0_0
    go_wp2_with fail
    refine (toTerm_any F0 t0 _ _ (r0) B0.out).mono ?_
    rintro e w2 ⟨v2, rfl, hv2, hb2⟩
    obtain ⟨k2, sn2, u2, kt2, at2, nt2, qt2, kf2, af2, nf2, qf2, lb2, a2, n2, q2, rfl⟩ := hv2.shape
    go_wp2_with fail
    refine (specFreeNames _ t0 _ _ hv2.rep).mono ?_
    rintro e w3 ⟨rfl, hb3⟩
    have hst := bstep (hb2) hb3
    clear dc0_0
    replace c0_0 := bcell (hst) c0_0
    replace c0_1 := bcell (hst) c0_1
    replace c0_2 := bcell (hst) c0_2
    replace c0_3 := bcell (hst) c0_3
    replace c0_4 := bcell (hst) c0_4
    replace c0_5 := bcell (hst) c0_5
    replace c0_6 := bcell (hst) c0_6
    replace c0_7 := bcell (hst) c0_7
    replace c0_8 := bcell (hst) c0_8
    replace r0 := r0.below (hst)
    replace hB := bstep hB (hst)
    have dc0_0 := World.block_lt_of_cell? _ _ c0_0
    clear hst hb2 hb3 hv2
    go_wp2_with fail
    refine (toTerm_any F0 t0 _ _ (r0) B0.out).mono ?_
    rintro e w4 ⟨v4, rfl, hv4, hb4⟩
    obtain ⟨k4, sn4, u4, kt4, at4, nt4, qt4, kf4, af4, nf4, qf4, lb4, a4, n4, q4, rfl⟩ := hv4.shape
    clear dc0_0
    replace c0_0 := bcell (hb4) c0_0
    replace c0_1 := bcell (hb4) c0_1
    replace c0_2 := bcell (hb4) c0_2
    replace c0_3 := bcell (hb4) c0_3
    replace c0_4 := bcell (hb4) c0_4
    replace c0_5 := bcell (hb4) c0_5
    replace c0_6 := bcell (hb4) c0_6
    replace c0_7 := bcell (hb4) c0_7
    replace c0_8 := bcell (hb4) c0_8
    replace r0 := r0.below (hb4)
    replace hB := bstep hB (hb4)
    have dc0_0 := World.block_lt_of_cell? _ _ c0_0
    go_wp2_with fail
    refine (implFreeNames _ t0 _ _ (hv4.rep.below bal1)).mono ?_
    rintro e w5 ⟨rfl, hb5⟩
    clear dc0_0
    replace c0_0 := bcell (bstep bal1 hb5) c0_0
    replace c0_1 := bcell (bstep bal1 hb5) c0_1
    replace c0_2 := bcell (bstep bal1 hb5) c0_2
    replace c0_3 := bcell (bstep bal1 hb5) c0_3
    replace c0_4 := bcell (bstep bal1 hb5) c0_4
    replace c0_5 := bcell (bstep bal1 hb5) c0_5
    replace c0_6 := bcell (bstep bal1 hb5) c0_6
    replace c0_7 := bcell (bstep bal1 hb5) c0_7
    replace c0_8 := bcell (bstep bal1 hb5) c0_8
    replace r0 := r0.below (bstep bal1 hb5)
    replace hv4 := hv4.below (bstep bal1 hb5)
    replace hB := bstep hB (bstep bal1 hb5)
    have dc0_0 := World.block_lt_of_cell? _ _ c0_0
    have x0_0 : w5.cell? ⟨w4.heap.size, 0, none⟩ = some (.int .i64 k4) := bcell hb5 (cell_n0 0)
    have dx0_0 := World.block_lt_of_cell? _ _ x0_0
    have x0_1 : w5.cell? ⟨w4.heap.size, 1, none⟩ = some (.string sn4) := bcell hb5 (cell_n0 1)
    have x0_2 : w5.cell? ⟨w4.heap.size, 2, none⟩ = some (.int .i64 u4) := bcell hb5 (cell_n0 2)
    have x0_3 : w5.cell? ⟨w4.heap.size, 3, none⟩ = some (.int .i64 kt4) := bcell hb5 (cell_n0 3)
    have x0_4 : w5.cell? ⟨w4.heap.size, 4, none⟩ = some (.slice at4 nt4 qt4) := bcell hb5 (cell_n0 4)
    have x0_5 : w5.cell? ⟨w4.heap.size, 5, none⟩ = some (.int .i64 kf4) := bcell hb5 (cell_n0 5)
    have x0_6 : w5.cell? ⟨w4.heap.size, 6, none⟩ = some (.slice af4 nf4 qf4) := bcell hb5 (cell_n0 6)
    have x0_7 : w5.cell? ⟨w4.heap.size, 7, none⟩ = some (.int .i64 lb4) := bcell hb5 (cell_n0 7)
    have x0_8 : w5.cell? ⟨w4.heap.size, 8, none⟩ = some (.slice a4 n4 q4) := bcell hb5 (cell_n0 8)
    go_wp2_with fail
    go_region_held3 (fun w' => w'.cell? ⟨w4.heap.size, 0, none⟩ = some (.int .i64 k4) ∧ w'.cell? ⟨w4.heap.size, 1, none⟩ = some (.string sn4) ∧ w'.cell? ⟨w4.heap.size, 2, none⟩ = some (.int .i64 u4) ∧ w'.cell? ⟨w4.heap.size, 3, none⟩ = some (.int .i64 kt4) ∧ w'.cell? ⟨w4.heap.size, 4, none⟩ = some (.slice at4 nt4 qt4) ∧ w'.cell? ⟨w4.heap.size, 5, none⟩ = some (.int .i64 kf4) ∧ w'.cell? ⟨w4.heap.size, 6, none⟩ = some (.slice af4 nf4 qf4) ∧ w'.cell? ⟨w4.heap.size, 7, none⟩ = some (.int .i64 lb4) ∧ w'.cell? ⟨w4.heap.size, 8, none⟩ = some (.slice a4 n4 q4) ∧ w'.cell? ⟨w.heap.size, 0, none⟩ = some (.int .i64 k0) ∧ w'.cell? ⟨w.heap.size, 1, none⟩ = some (.string sn0) ∧ w'.cell? ⟨w.heap.size, 2, none⟩ = some (.int .i64 u0) ∧ w'.cell? ⟨w.heap.size, 3, none⟩ = some (.int .i64 kt0) ∧ w'.cell? ⟨w.heap.size, 4, none⟩ = some (.slice at0 nt0 qt0) ∧ w'.cell? ⟨w.heap.size, 5, none⟩ = some (.int .i64 kf0) ∧ w'.cell? ⟨w.heap.size, 6, none⟩ = some (.slice af0 nf0 qf0) ∧ w'.cell? ⟨w.heap.size, 7, none⟩ = some (.int .i64 lb0) ∧ w'.cell? ⟨w.heap.size, 8, none⟩ = some (.slice a0 n0 q0))
      (first | go_keep | exact ⟨bcelld hb6 x0_0, bcelld hb6 x0_1, bcelld hb6 x0_2, bcelld hb6 x0_3, bcelld hb6 x0_4, bcelld hb6 x0_5, bcelld hb6 x0_6, bcelld hb6 x0_7, bcelld hb6 x0_8, bcelld hb6 c0_0, bcelld hb6 c0_1, bcelld hb6 c0_2, bcelld hb6 c0_3, bcelld hb6 c0_4, bcelld hb6 c0_5, bcelld hb6 c0_6, bcelld hb6 c0_7, bcelld hb6 c0_8⟩ | exact ⟨bcell hb7 (bcelld hb6 x0_0), bcell hb7 (bcelld hb6 x0_1), bcell hb7 (bcelld hb6 x0_2), bcell hb7 (bcelld hb6 x0_3), bcell hb7 (bcelld hb6 x0_4), bcell hb7 (bcelld hb6 x0_5), bcell hb7 (bcelld hb6 x0_6), bcell hb7 (bcelld hb6 x0_7), bcell hb7 (bcelld hb6 x0_8), bcell hb7 (bcelld hb6 c0_0), bcell hb7 (bcelld hb6 c0_1), bcell hb7 (bcelld hb6 c0_2), bcell hb7 (bcelld hb6 c0_3), bcell hb7 (bcelld hb6 c0_4), bcell hb7 (bcelld hb6 c0_5), bcell hb7 (bcelld hb6 c0_6), bcell hb7 (bcelld hb6 c0_7), bcell hb7 (bcelld hb6 c0_8)⟩)
      (first | (go_at_call 19; refine (toTerm_any F0 t0 _ _ (r0.below bdr) B0.out).mono ?_; rintro e w6 ⟨v6, rfl, hv6, hb6⟩; obtain ⟨k6, sn6, u6, kt6, at6, nt6, qt6, kf6, af6, nf6, qf6, lb6, a6, n6, q6, rfl⟩ := hv6.shape) | (go_at_call 22; refine (eqTerm_refl _ _ t0 _ _ _ (hv4.rep.below (bstep bdr hb6)) hv6.rep).mono ?_; rintro e w7 ⟨rfl, hb7⟩))
    have hst := bstep (bstep bdr hb6) hb7
    clear dc0_0 dx0_0
    replace c0_0 := bcell (hst) c0_0
    replace c0_1 := bcell (hst) c0_1
    replace c0_2 := bcell (hst) c0_2
    replace c0_3 := bcell (hst) c0_3
    replace c0_4 := bcell (hst) c0_4
    replace c0_5 := bcell (hst) c0_5
    replace c0_6 := bcell (hst) c0_6
    replace c0_7 := bcell (hst) c0_7
    replace c0_8 := bcell (hst) c0_8
    replace x0_0 := bcell (hst) x0_0
    replace x0_1 := bcell (hst) x0_1
    replace x0_2 := bcell (hst) x0_2
    replace x0_3 := bcell (hst) x0_3
    replace x0_4 := bcell (hst) x0_4
    replace x0_5 := bcell (hst) x0_5
    replace x0_6 := bcell (hst) x0_6
    replace x0_7 := bcell (hst) x0_7
    replace x0_8 := bcell (hst) x0_8
    replace r0 := r0.below (hst)
    replace hv4 := hv4.below (hst)
    replace hB := bstep hB (hst)
    have dc0_0 := World.block_lt_of_cell? _ _ c0_0
    have dx0_0 := World.block_lt_of_cell? _ _ x0_0
    clear hst hb6 hb7 hv6
    go_wp2_with fail
    go_ret
    exact ⟨rfl, hB⟩
  · have s0 := szr_neg h0
    have S0 := Lib.hid s0
    clear s0 h0
    go_enter Try.func12, Try.ntmps12
    go_wp2_with fail
    refine (szTerm_any F0 t0 _ _ _ (r0.below bal1) (by omega) (by omega)).mono ?_
    rintro e w1 ⟨rfl, hb1⟩
    rw [S0.out]
    have hB := bstep bal1 hb1
    have c0_0 : w1.cell? ⟨w.heap.size, 0, none⟩ = some (.int .i64 k0) := bcell hb1 (cell_n0 0)
    have c0_1 : w1.cell? ⟨w.heap.size, 1, none⟩ = some (.string sn0) := bcell hb1 (cell_n0 1)
    have c0_2 : w1.cell? ⟨w.heap.size, 2, none⟩ = some (.int .i64 u0) := bcell hb1 (cell_n0 2)
    have c0_3 : w1.cell? ⟨w.heap.size, 3, none⟩ = some (.int .i64 kt0) := bcell hb1 (cell_n0 3)
    have c0_4 : w1.cell? ⟨w.heap.size, 4, none⟩ = some (.slice at0 nt0 qt0) := bcell hb1 (cell_n0 4)
    have c0_5 : w1.cell? ⟨w.heap.size, 5, none⟩ = some (.int .i64 kf0) := bcell hb1 (cell_n0 5)
    have c0_6 : w1.cell? ⟨w.heap.size, 6, none⟩ = some (.slice af0 nf0 qf0) := bcell hb1 (cell_n0 6)
    have c0_7 : w1.cell? ⟨w.heap.size, 7, none⟩ = some (.int .i64 lb0) := bcell hb1 (cell_n0 7)
    have c0_8 : w1.cell? ⟨w.heap.size, 8, none⟩ = some (.slice a0 n0 q0) := bcell hb1 (cell_n0 8)
    replace r0 := r0.below hB
    have dc0_0 := World.block_lt_of_cell? _ _ c0_0
    go_wp2_with fail
    go_ret
    exact ⟨rfl, hB⟩
end Go.Proofs.Ytghgjpcibdfbmaa
