/-
  FnExactCoercionSame returns true: the walk.
-/
import Derived.Test.YthbaemafodmobaaLaCo
namespace Go.Proofs.Ythbaemafodmobaa
open Go.RowKit
set_option maxRecDepth 100000
set_option linter.unusedVariables false
set_option linter.unusedSimpArgs false

set_option maxHeartbeats 4000000 in
theorem walk_FnExactCoercionSame (F0 F1 : Nat → Prop) (t0 : Co) (t1 : Co) (y0 y1 : Value) (w : World) (r0 : CoRep F0 w t0 y0) (r1 : CoRep F1 w t1 y1) :
    Calls Try.prog 3 #[y0, y1] w fun e w' => e = .returned (.bool true) ∧ Below w.heap.size w w' := by
  obtain ⟨k0, gt0, lb0, a0, n0, q0, rfl⟩ := r0.shape
  obtain ⟨k1, gt1, lb1, a1, n1, q1, rfl⟩ := r1.shape
  by_cases h0 : (t0.cnt : Int) ≤ 1048576
  · have s0 := szr_pos h0
    by_cases h1 : (t1.cnt : Int) ≤ (1048576 - (t0.cnt : Int))
    · have s1 := szr_pos h1
      have l0 : 0 ≤ (1048576 - (t0.cnt : Int)) := by omega
      have m0 : (1048576 - (t0.cnt : Int)) ≤ 1048576 := by omega
      have b0 : t0.cnt ≤ 1048576 := by omega
      have l1 : 0 ≤ ((1048576 - (t0.cnt : Int)) - (t1.cnt : Int)) := by omega
      have m1 : ((1048576 - (t0.cnt : Int)) - (t1.cnt : Int)) ≤ 1048576 := by omega
      have b1 : t1.cnt ≤ 1048576 := by omega
      have S0 := Lib.hid s0
      have S1 := Lib.hid s1
      have B0 := Lib.hid b0
      have B1 := Lib.hid b1
      clear s0 h0 b0 s1 h1 b1
      go_enter Try.func3, Try.ntmps3
      go_wp2_with fail
      refine (szCoercion_any F0 t0 _ _ _ (r0.below bal2) (by omega) (by omega)).mono ?_
      rintro e w1 ⟨rfl, hb1⟩
      rw [S0.out]
      have hB := bstep bal2 hb1
      have c0_0 : w1.cell? ⟨w.heap.size, 0, none⟩ = some (.int .i64 k0) := bcell hb1 (bcell bal1 (cell_n0 0))
      have c0_1 : w1.cell? ⟨w.heap.size, 1, none⟩ = some (.int .i64 gt0) := bcell hb1 (bcell bal1 (cell_n0 1))
      have c0_2 : w1.cell? ⟨w.heap.size, 2, none⟩ = some (.int .i64 lb0) := bcell hb1 (bcell bal1 (cell_n0 2))
      have c0_3 : w1.cell? ⟨w.heap.size, 3, none⟩ = some (.slice a0 n0 q0) := bcell hb1 (bcell bal1 (cell_n0 3))
      have c1_0 : w1.cell? ⟨w.heap.size + 1, 0, none⟩ = some (.int .i64 k1) := bcell hb1 (cell_n1 0)
      have c1_1 : w1.cell? ⟨w.heap.size + 1, 1, none⟩ = some (.int .i64 gt1) := bcell hb1 (cell_n1 1)
      have c1_2 : w1.cell? ⟨w.heap.size + 1, 2, none⟩ = some (.int .i64 lb1) := bcell hb1 (cell_n1 2)
      have c1_3 : w1.cell? ⟨w.heap.size + 1, 3, none⟩ = some (.slice a1 n1 q1) := bcell hb1 (cell_n1 3)
      replace r0 := r0.below hB
      replace r1 := r1.below hB
      have dc0_0 := World.block_lt_of_cell? _ _ c0_0
      have dc1_0 := World.block_lt_of_cell? _ _ c1_0
      go_wp2_with fail
      refine (szCoercion_any F1 t1 _ _ _ r1 (by omega) (by omega)).mono ?_
      rintro e w2 ⟨rfl, hb2⟩
      rw [S1.out]
      clear dc0_0 dc1_0
      replace c0_0 := bcell (hb2) c0_0
      replace c0_1 := bcell (hb2) c0_1
      replace c0_2 := bcell (hb2) c0_2
      replace c0_3 := bcell (hb2) c0_3
      replace c1_0 := bcell (hb2) c1_0
      replace c1_1 := bcell (hb2) c1_1
      replace c1_2 := bcell (hb2) c1_2
      replace c1_3 := bcell (hb2) c1_3
      replace r0 := r0.below (hb2)
      replace r1 := r1.below (hb2)
      replace hB := bstep hB (hb2)
      have dc0_0 := World.block_lt_of_cell? _ _ c0_0
      have dc1_0 := World.block_lt_of_cell? _ _ c1_0
      go_wp2_with fail
      go_region_held3 (fun w' => w'.cell? ⟨w.heap.size, 0, none⟩ = some (.int .i64 k0) ∧ w'.cell? ⟨w.heap.size, 1, none⟩ = some (.int .i64 gt0) ∧ w'.cell? ⟨w.heap.size, 2, none⟩ = some (.int .i64 lb0) ∧ w'.cell? ⟨w.heap.size, 3, none⟩ = some (.slice a0 n0 q0) ∧ w'.cell? ⟨w.heap.size + 1, 0, none⟩ = some (.int .i64 k1) ∧ w'.cell? ⟨w.heap.size + 1, 1, none⟩ = some (.int .i64 gt1) ∧ w'.cell? ⟨w.heap.size + 1, 2, none⟩ = some (.int .i64 lb1) ∧ w'.cell? ⟨w.heap.size + 1, 3, none⟩ = some (.slice a1 n1 q1))
        (first | go_keep | exact ⟨bcelld hb3 c0_0, bcelld hb3 c0_1, bcelld hb3 c0_2, bcelld hb3 c0_3, bcelld hb3 c1_0, bcelld hb3 c1_1, bcelld hb3 c1_2, bcelld hb3 c1_3⟩ | exact ⟨bcell hb4 (bcelld hb3 c0_0), bcell hb4 (bcelld hb3 c0_1), bcell hb4 (bcelld hb3 c0_2), bcell hb4 (bcelld hb3 c0_3), bcell hb4 (bcelld hb3 c1_0), bcell hb4 (bcelld hb3 c1_1), bcell hb4 (bcelld hb3 c1_2), bcell hb4 (bcelld hb3 c1_3)⟩ | exact ⟨bcell hb5 (bcell hb4 (bcelld hb3 c0_0)), bcell hb5 (bcell hb4 (bcelld hb3 c0_1)), bcell hb5 (bcell hb4 (bcelld hb3 c0_2)), bcell hb5 (bcell hb4 (bcelld hb3 c0_3)), bcell hb5 (bcell hb4 (bcelld hb3 c1_0)), bcell hb5 (bcell hb4 (bcelld hb3 c1_1)), bcell hb5 (bcell hb4 (bcelld hb3 c1_2)), bcell hb5 (bcell hb4 (bcelld hb3 c1_3))⟩)
        (first | (go_at_call_of 9 (Value.agg #[Value.int IntKind.i64 k0, Value.int IntKind.i64 gt0, Value.int IntKind.i64 lb0, Value.slice a0 n0 q0]); refine (toCoercion_any F0 t0 _ _ (r0.below (bdr)) B0.out).mono ?_; rintro e w3 ⟨v3, rfl, hv3, hb3⟩; obtain ⟨k3, gt3, lb3, a3, n3, q3, rfl⟩ := hv3.shape) | (go_at_call_of 9 (Value.agg #[Value.int IntKind.i64 k1, Value.int IntKind.i64 gt1, Value.int IntKind.i64 lb1, Value.slice a1 n1 q1]); refine (toCoercion_any F1 t1 _ _ (r1.below (bstep (bdr) hb3)) B1.out).mono ?_; rintro e w4 ⟨v4, rfl, hv4, hb4⟩; obtain ⟨k4, gt4, lb4, a4, n4, q4, rfl⟩ := hv4.shape) | (go_at_call 8; refine (specCoercionSame _ _ t0 t1 _ _ _ (hv3.rep.below hb4) hv4.rep).mono ?_; rintro e w5 ⟨rfl, hb5⟩))
      have hst := bstep (bstep (bstep (bdr) hb3) hb4) hb5
      clear dc0_0 dc1_0
      replace c0_0 := bcell (hst) c0_0
      replace c0_1 := bcell (hst) c0_1
      replace c0_2 := bcell (hst) c0_2
      replace c0_3 := bcell (hst) c0_3
      replace c1_0 := bcell (hst) c1_0
      replace c1_1 := bcell (hst) c1_1
      replace c1_2 := bcell (hst) c1_2
      replace c1_3 := bcell (hst) c1_3
      replace r0 := r0.below (hst)
      replace r1 := r1.below (hst)
      replace hB := bstep hB (hst)
      have dc0_0 := World.block_lt_of_cell? _ _ c0_0
      have dc1_0 := World.block_lt_of_cell? _ _ c1_0
      clear hst hb3 hb4 hb5 hv3 hv4
      go_wp2_with fail
      refine (toCoercion_any F0 t0 _ _ (r0) B0.out).mono ?_
      rintro e w6 ⟨v6, rfl, hv6, hb6⟩
      obtain ⟨k6, gt6, lb6, a6, n6, q6, rfl⟩ := hv6.shape
      clear dc0_0 dc1_0
      replace c0_0 := bcell (hb6) c0_0
      replace c0_1 := bcell (hb6) c0_1
      replace c0_2 := bcell (hb6) c0_2
      replace c0_3 := bcell (hb6) c0_3
      replace c1_0 := bcell (hb6) c1_0
      replace c1_1 := bcell (hb6) c1_1
      replace c1_2 := bcell (hb6) c1_2
      replace c1_3 := bcell (hb6) c1_3
      replace r0 := r0.below (hb6)
      replace r1 := r1.below (hb6)
      replace hB := bstep hB (hb6)
      have dc0_0 := World.block_lt_of_cell? _ _ c0_0
      have dc1_0 := World.block_lt_of_cell? _ _ c1_0
      go_wp2_with fail
      refine (toCoercion_any F1 t1 _ _ (r1.below bal1) B1.out).mono ?_
      rintro e w7 ⟨v7, rfl, hv7, hb7⟩
      obtain ⟨k7, gt7, lb7, a7, n7, q7, rfl⟩ := hv7.shape
      clear dc0_0 dc1_0
      replace c0_0 := bcell (bstep bal1 hb7) c0_0
      replace c0_1 := bcell (bstep bal1 hb7) c0_1
      replace c0_2 := bcell (bstep bal1 hb7) c0_2
      replace c0_3 := bcell (bstep bal1 hb7) c0_3
      replace c1_0 := bcell (bstep bal1 hb7) c1_0
      replace c1_1 := bcell (bstep bal1 hb7) c1_1
      replace c1_2 := bcell (bstep bal1 hb7) c1_2
      replace c1_3 := bcell (bstep bal1 hb7) c1_3
      replace r0 := r0.below (bstep bal1 hb7)
      replace r1 := r1.below (bstep bal1 hb7)
      replace hv6 := hv6.below (bstep bal1 hb7)
      replace hB := bstep hB (bstep bal1 hb7)
      have dc0_0 := World.block_lt_of_cell? _ _ c0_0
      have dc1_0 := World.block_lt_of_cell? _ _ c1_0
      have x0_0 : w7.cell? ⟨w6.heap.size, 0, none⟩ = some (.int .i64 k6) := bcell hb7 (cell_n0 0)
      have dx0_0 := World.block_lt_of_cell? _ _ x0_0
      have x0_1 : w7.cell? ⟨w6.heap.size, 1, none⟩ = some (.int .i64 gt6) := bcell hb7 (cell_n0 1)
      have x0_2 : w7.cell? ⟨w6.heap.size, 2, none⟩ = some (.int .i64 lb6) := bcell hb7 (cell_n0 2)
      have x0_3 : w7.cell? ⟨w6.heap.size, 3, none⟩ = some (.slice a6 n6 q6) := bcell hb7 (cell_n0 3)
      go_wp2_with fail
      refine (implCoercionSame _ _ t0 t1 _ _ _ (hv6.rep.below bal1) (hv7.rep.below bal1)).mono ?_
      rintro e w8 ⟨rfl, hb8⟩
      clear dc0_0 dc1_0 dx0_0
      replace c0_0 := bcell (bstep bal1 hb8) c0_0
      replace c0_1 := bcell (bstep bal1 hb8) c0_1
      replace c0_2 := bcell (bstep bal1 hb8) c0_2
      replace c0_3 := bcell (bstep bal1 hb8) c0_3
      replace c1_0 := bcell (bstep bal1 hb8) c1_0
      replace c1_1 := bcell (bstep bal1 hb8) c1_1
      replace c1_2 := bcell (bstep bal1 hb8) c1_2
      replace c1_3 := bcell (bstep bal1 hb8) c1_3
      replace x0_0 := bcell (bstep bal1 hb8) x0_0
      replace x0_1 := bcell (bstep bal1 hb8) x0_1
      replace x0_2 := bcell (bstep bal1 hb8) x0_2
      replace x0_3 := bcell (bstep bal1 hb8) x0_3
      replace r0 := r0.below (bstep bal1 hb8)
      replace r1 := r1.below (bstep bal1 hb8)
      replace hv6 := hv6.below (bstep bal1 hb8)
      replace hv7 := hv7.below (bstep bal1 hb8)
      replace hB := bstep hB (bstep bal1 hb8)
      have dc0_0 := World.block_lt_of_cell? _ _ c0_0
      have dc1_0 := World.block_lt_of_cell? _ _ c1_0
      have dx0_0 := World.block_lt_of_cell? _ _ x0_0
      have x1_0 : w8.cell? ⟨w7.heap.size, 0, none⟩ = some (.int .i64 k7) := bcell hb8 (cell_n0 0)
      have dx1_0 := World.block_lt_of_cell? _ _ x1_0
      have x1_1 : w8.cell? ⟨w7.heap.size, 1, none⟩ = some (.int .i64 gt7) := bcell hb8 (cell_n0 1)
      have x1_2 : w8.cell? ⟨w7.heap.size, 2, none⟩ = some (.int .i64 lb7) := bcell hb8 (cell_n0 2)
      have x1_3 : w8.cell? ⟨w7.heap.size, 3, none⟩ = some (.slice a7 n7 q7) := bcell hb8 (cell_n0 3)
      go_wp2_with fail
      go_region_held3 (fun w' => w'.cell? ⟨w6.heap.size, 0, none⟩ = some (.int .i64 k6) ∧ w'.cell? ⟨w6.heap.size, 1, none⟩ = some (.int .i64 gt6) ∧ w'.cell? ⟨w6.heap.size, 2, none⟩ = some (.int .i64 lb6) ∧ w'.cell? ⟨w6.heap.size, 3, none⟩ = some (.slice a6 n6 q6) ∧ w'.cell? ⟨w.heap.size, 0, none⟩ = some (.int .i64 k0) ∧ w'.cell? ⟨w.heap.size, 1, none⟩ = some (.int .i64 gt0) ∧ w'.cell? ⟨w.heap.size, 2, none⟩ = some (.int .i64 lb0) ∧ w'.cell? ⟨w.heap.size, 3, none⟩ = some (.slice a0 n0 q0))
        (first | go_keep | exact ⟨bcelld hb9 x0_0, bcelld hb9 x0_1, bcelld hb9 x0_2, bcelld hb9 x0_3, bcelld hb9 c0_0, bcelld hb9 c0_1, bcelld hb9 c0_2, bcelld hb9 c0_3⟩ | exact ⟨bcell hb10 (bcelld hb9 x0_0), bcell hb10 (bcelld hb9 x0_1), bcell hb10 (bcelld hb9 x0_2), bcell hb10 (bcelld hb9 x0_3), bcell hb10 (bcelld hb9 c0_0), bcell hb10 (bcelld hb9 c0_1), bcell hb10 (bcelld hb9 c0_2), bcell hb10 (bcelld hb9 c0_3)⟩)
        (first | (go_at_call 9; refine (toCoercion_any F0 t0 _ _ (r0.below bdr) B0.out).mono ?_; rintro e w9 ⟨v9, rfl, hv9, hb9⟩; obtain ⟨k9, gt9, lb9, a9, n9, q9, rfl⟩ := hv9.shape) | (go_at_call 11; refine (eqCoercion_refl _ _ t0 _ _ _ (hv6.rep.below (bstep bdr hb9)) hv9.rep).mono ?_; rintro e w10 ⟨rfl, hb10⟩))
      have hst := bstep (bstep bdr hb9) hb10
      clear dc0_0 dc1_0 dx0_0 dx1_0
      replace c0_0 := bcell (hst) c0_0
      replace c0_1 := bcell (hst) c0_1
      replace c0_2 := bcell (hst) c0_2
      replace c0_3 := bcell (hst) c0_3
      replace c1_0 := bcell (hst) c1_0
      replace c1_1 := bcell (hst) c1_1
      replace c1_2 := bcell (hst) c1_2
      replace c1_3 := bcell (hst) c1_3
      replace x0_0 := bcell (hst) x0_0
      replace x0_1 := bcell (hst) x0_1
      replace x0_2 := bcell (hst) x0_2
      replace x0_3 := bcell (hst) x0_3
      replace x1_0 := bcell (hst) x1_0
      replace x1_1 := bcell (hst) x1_1
      replace x1_2 := bcell (hst) x1_2
      replace x1_3 := bcell (hst) x1_3
      replace r0 := r0.below (hst)
      replace r1 := r1.below (hst)
      replace hv6 := hv6.below (hst)
      replace hv7 := hv7.below (hst)
      replace hB := bstep hB (hst)
      have dc0_0 := World.block_lt_of_cell? _ _ c0_0
      have dc1_0 := World.block_lt_of_cell? _ _ c1_0
      have dx0_0 := World.block_lt_of_cell? _ _ x0_0
      have dx1_0 := World.block_lt_of_cell? _ _ x1_0
      clear hst hb9 hb10 hv9
      go_wp2_with fail
      go_region_held3 (fun w' => w'.cell? ⟨w7.heap.size, 0, none⟩ = some (.int .i64 k7) ∧ w'.cell? ⟨w7.heap.size, 1, none⟩ = some (.int .i64 gt7) ∧ w'.cell? ⟨w7.heap.size, 2, none⟩ = some (.int .i64 lb7) ∧ w'.cell? ⟨w7.heap.size, 3, none⟩ = some (.slice a7 n7 q7) ∧ w'.cell? ⟨w.heap.size + 1, 0, none⟩ = some (.int .i64 k1) ∧ w'.cell? ⟨w.heap.size + 1, 1, none⟩ = some (.int .i64 gt1) ∧ w'.cell? ⟨w.heap.size + 1, 2, none⟩ = some (.int .i64 lb1) ∧ w'.cell? ⟨w.heap.size + 1, 3, none⟩ = some (.slice a1 n1 q1))
        (first | go_keep | exact ⟨bcelld hb11 x1_0, bcelld hb11 x1_1, bcelld hb11 x1_2, bcelld hb11 x1_3, bcelld hb11 c1_0, bcelld hb11 c1_1, bcelld hb11 c1_2, bcelld hb11 c1_3⟩ | exact ⟨bcell hb12 (bcelld hb11 x1_0), bcell hb12 (bcelld hb11 x1_1), bcell hb12 (bcelld hb11 x1_2), bcell hb12 (bcelld hb11 x1_3), bcell hb12 (bcelld hb11 c1_0), bcell hb12 (bcelld hb11 c1_1), bcell hb12 (bcelld hb11 c1_2), bcell hb12 (bcelld hb11 c1_3)⟩)
        (first | (go_at_call 9; refine (toCoercion_any F1 t1 _ _ (r1.below bdr) B1.out).mono ?_; rintro e w11 ⟨v11, rfl, hv11, hb11⟩; obtain ⟨k11, gt11, lb11, a11, n11, q11, rfl⟩ := hv11.shape) | (go_at_call 11; refine (eqCoercion_refl _ _ t1 _ _ _ (hv7.rep.below (bstep bdr hb11)) hv11.rep).mono ?_; rintro e w12 ⟨rfl, hb12⟩))
      have hst := bstep (bstep bdr hb11) hb12
      clear dc0_0 dc1_0 dx0_0 dx1_0
      replace c0_0 := bcell (hst) c0_0
      replace c0_1 := bcell (hst) c0_1
      replace c0_2 := bcell (hst) c0_2
      replace c0_3 := bcell (hst) c0_3
      replace c1_0 := bcell (hst) c1_0
      replace c1_1 := bcell (hst) c1_1
      replace c1_2 := bcell (hst) c1_2
      replace c1_3 := bcell (hst) c1_3
      replace x0_0 := bcell (hst) x0_0
      replace x0_1 := bcell (hst) x0_1
      replace x0_2 := bcell (hst) x0_2
      replace x0_3 := bcell (hst) x0_3
      replace x1_0 := bcell (hst) x1_0
      replace x1_1 := bcell (hst) x1_1
      replace x1_2 := bcell (hst) x1_2
      replace x1_3 := bcell (hst) x1_3
      replace r0 := r0.below (hst)
      replace r1 := r1.below (hst)
      replace hv6 := hv6.below (hst)
      replace hv7 := hv7.below (hst)
      replace hB := bstep hB (hst)
      have dc0_0 := World.block_lt_of_cell? _ _ c0_0
      have dc1_0 := World.block_lt_of_cell? _ _ c1_0
      have dx0_0 := World.block_lt_of_cell? _ _ x0_0
      have dx1_0 := World.block_lt_of_cell? _ _ x1_0
      clear hst hb11 hb12 hv11
      go_wp2_with fail
      go_ret
      exact ⟨rfl, hB⟩
    · have s1 := szr_neg h1
      have l0 : 0 ≤ (1048576 - (t0.cnt : Int)) := by omega
      have m0 : (1048576 - (t0.cnt : Int)) ≤ 1048576 := by omega
      have S0 := Lib.hid s0
      have S1 := Lib.hid s1
      clear s0 h0 s1 h1
      go_enter Try.func3, Try.ntmps3
      go_wp2_with fail
      refine (szCoercion_any F0 t0 _ _ _ (r0.below bal2) (by omega) (by omega)).mono ?_
      rintro e w1 ⟨rfl, hb1⟩
      rw [S0.out]
      have hB := bstep bal2 hb1
      have c0_0 : w1.cell? ⟨w.heap.size, 0, none⟩ = some (.int .i64 k0) := bcell hb1 (bcell bal1 (cell_n0 0))
      have c0_1 : w1.cell? ⟨w.heap.size, 1, none⟩ = some (.int .i64 gt0) := bcell hb1 (bcell bal1 (cell_n0 1))
      have c0_2 : w1.cell? ⟨w.heap.size, 2, none⟩ = some (.int .i64 lb0) := bcell hb1 (bcell bal1 (cell_n0 2))
      have c0_3 : w1.cell? ⟨w.heap.size, 3, none⟩ = some (.slice a0 n0 q0) := bcell hb1 (bcell bal1 (cell_n0 3))
      have c1_0 : w1.cell? ⟨w.heap.size + 1, 0, none⟩ = some (.int .i64 k1) := bcell hb1 (cell_n1 0)
      have c1_1 : w1.cell? ⟨w.heap.size + 1, 1, none⟩ = some (.int .i64 gt1) := bcell hb1 (cell_n1 1)
      have c1_2 : w1.cell? ⟨w.heap.size + 1, 2, none⟩ = some (.int .i64 lb1) := bcell hb1 (cell_n1 2)
      have c1_3 : w1.cell? ⟨w.heap.size + 1, 3, none⟩ = some (.slice a1 n1 q1) := bcell hb1 (cell_n1 3)
      replace r0 := r0.below hB
      replace r1 := r1.below hB
      have dc0_0 := World.block_lt_of_cell? _ _ c0_0
      have dc1_0 := World.block_lt_of_cell? _ _ c1_0
      go_wp2_with fail
      refine (szCoercion_any F1 t1 _ _ _ r1 (by omega) (by omega)).mono ?_
      rintro e w2 ⟨rfl, hb2⟩
      rw [S1.out]
      clear dc0_0 dc1_0
      replace c0_0 := bcell (hb2) c0_0
      replace c0_1 := bcell (hb2) c0_1
      replace c0_2 := bcell (hb2) c0_2
      replace c0_3 := bcell (hb2) c0_3
      replace c1_0 := bcell (hb2) c1_0
      replace c1_1 := bcell (hb2) c1_1
      replace c1_2 := bcell (hb2) c1_2
      replace c1_3 := bcell (hb2) c1_3
      replace r0 := r0.below (hb2)
      replace r1 := r1.below (hb2)
      replace hB := bstep hB (hb2)
      have dc0_0 := World.block_lt_of_cell? _ _ c0_0
      have dc1_0 := World.block_lt_of_cell? _ _ c1_0
      go_wp2_with fail
      go_ret
      exact ⟨rfl, hB⟩
  · have s0 := szr_neg h0
    have S0 := Lib.hid s0
    clear s0 h0
    go_enter Try.func3, Try.ntmps3
    go_wp2_with fail
    refine (szCoercion_any F0 t0 _ _ _ (r0.below bal2) (by omega) (by omega)).mono ?_
    rintro e w1 ⟨rfl, hb1⟩
    rw [S0.out]
    have hB := bstep bal2 hb1
    have c0_0 : w1.cell? ⟨w.heap.size, 0, none⟩ = some (.int .i64 k0) := bcell hb1 (bcell bal1 (cell_n0 0))
    have c0_1 : w1.cell? ⟨w.heap.size, 1, none⟩ = some (.int .i64 gt0) := bcell hb1 (bcell bal1 (cell_n0 1))
    have c0_2 : w1.cell? ⟨w.heap.size, 2, none⟩ = some (.int .i64 lb0) := bcell hb1 (bcell bal1 (cell_n0 2))
    have c0_3 : w1.cell? ⟨w.heap.size, 3, none⟩ = some (.slice a0 n0 q0) := bcell hb1 (bcell bal1 (cell_n0 3))
    have c1_0 : w1.cell? ⟨w.heap.size + 1, 0, none⟩ = some (.int .i64 k1) := bcell hb1 (cell_n1 0)
    have c1_1 : w1.cell? ⟨w.heap.size + 1, 1, none⟩ = some (.int .i64 gt1) := bcell hb1 (cell_n1 1)
    have c1_2 : w1.cell? ⟨w.heap.size + 1, 2, none⟩ = some (.int .i64 lb1) := bcell hb1 (cell_n1 2)
    have c1_3 : w1.cell? ⟨w.heap.size + 1, 3, none⟩ = some (.slice a1 n1 q1) := bcell hb1 (cell_n1 3)
    replace r0 := r0.below hB
    replace r1 := r1.below hB
    have dc0_0 := World.block_lt_of_cell? _ _ c0_0
    have dc1_0 := World.block_lt_of_cell? _ _ c1_0
    go_wp2_with fail
    go_ret
    exact ⟨rfl, hB⟩
end Go.Proofs.Ythbaemafodmobaa
