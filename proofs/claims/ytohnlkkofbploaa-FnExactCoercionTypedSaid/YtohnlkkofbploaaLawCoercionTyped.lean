/-
  FnExactCoercionTyped returns true: the walk.
-/
import Derived.Test.YtohnlkkofbploaaLaCo
import Derived.Test.YtohnlkkofbploaaLaTy
import Derived.Test.YtohnlkkofbploaaCoTyped
namespace Go.Proofs.Ytohnlkkofbploaa
open Go.RowKit
set_option maxRecDepth 100000
set_option linter.unusedVariables false
set_option linter.unusedSimpArgs false

set_option maxHeartbeats 4000000 in
theorem walk_FnExactCoercionTyped (F0 F1 F2 : Nat → Prop) (t0 : Co) (t1 : Ty) (t2 : Ty) (y0 y1 y2 : Value) (w : World) (r0 : CoRep F0 w t0 y0) (r1 : TyRep F1 w t1 y1) (r2 : TyRep F2 w t2 y2) :
    Calls Try.prog 7 #[y0, y1, y2] w fun e w' => e = .returned (.bool true) ∧ Below w.heap.size w w' := by
  obtain ⟨k0, gt0, lb0, a0, n0, q0, rfl⟩ := r0.shape
  obtain ⟨k1, a1, n1, q1, rfl⟩ := r1.shape
  obtain ⟨k2, a2, n2, q2, rfl⟩ := r2.shape
  by_cases h0 : (t0.cnt : Int) ≤ 1048576
  · have s0 := szr_pos h0
    by_cases h1 : (t1.cnt : Int) ≤ (1048576 - (t0.cnt : Int))
    · have s1 := szr_pos h1
      by_cases h2 : (t2.cnt : Int) ≤ ((1048576 - (t0.cnt : Int)) - (t1.cnt : Int))
      · have s2 := szr_pos h2
        have l0 : 0 ≤ (1048576 - (t0.cnt : Int)) := by omega
        have m0 : (1048576 - (t0.cnt : Int)) ≤ 1048576 := by omega
        have b0 : t0.cnt ≤ 1048576 := by omega
        have l1 : 0 ≤ ((1048576 - (t0.cnt : Int)) - (t1.cnt : Int)) := by omega
        have m1 : ((1048576 - (t0.cnt : Int)) - (t1.cnt : Int)) ≤ 1048576 := by omega
        have b1 : t1.cnt ≤ 1048576 := by omega
        have l2 : 0 ≤ (((1048576 - (t0.cnt : Int)) - (t1.cnt : Int)) - (t2.cnt : Int)) := by omega
        have m2 : (((1048576 - (t0.cnt : Int)) - (t1.cnt : Int)) - (t2.cnt : Int)) ≤ 1048576 := by omega
        have b2 : t2.cnt ≤ 1048576 := by omega
        have S0 := Lib.hid s0
        have S1 := Lib.hid s1
        have S2 := Lib.hid s2
        have B0 := Lib.hid b0
        have B1 := Lib.hid b1
        have B2 := Lib.hid b2
        clear s0 h0 b0 s1 h1 b1 s2 h2 b2
        go_enter Try.func7, Try.ntmps7
        go_wp2_with fail
        refine (szCoercion_any F0 t0 _ _ _ (r0.below bal3) (by omega) (by omega)).mono ?_
        rintro e w1 ⟨rfl, hb1⟩
        rw [S0.out]
        have hB := bstep bal3 hb1
        have c0_0 : w1.cell? ⟨w.heap.size, 0, none⟩ = some (.int .i64 k0) := bcell hb1 (bcell bal1 (bcell bal1 (cell_n0 0)))
        have c0_1 : w1.cell? ⟨w.heap.size, 1, none⟩ = some (.int .i64 gt0) := bcell hb1 (bcell bal1 (bcell bal1 (cell_n0 1)))
        have c0_2 : w1.cell? ⟨w.heap.size, 2, none⟩ = some (.int .i64 lb0) := bcell hb1 (bcell bal1 (bcell bal1 (cell_n0 2)))
        have c0_3 : w1.cell? ⟨w.heap.size, 3, none⟩ = some (.slice a0 n0 q0) := bcell hb1 (bcell bal1 (bcell bal1 (cell_n0 3)))
        have c1_0 : w1.cell? ⟨w.heap.size + 1, 0, none⟩ = some (.int .i64 k1) := bcell hb1 (bcell bal1 (cell_n1 0))
        have c1_1 : w1.cell? ⟨w.heap.size + 1, 1, none⟩ = some (.slice a1 n1 q1) := bcell hb1 (bcell bal1 (cell_n1 1))
        have c2_0 : w1.cell? ⟨w.heap.size + 1 + 1, 0, none⟩ = some (.int .i64 k2) := bcell hb1 (cell_n2 0)
        have c2_1 : w1.cell? ⟨w.heap.size + 1 + 1, 1, none⟩ = some (.slice a2 n2 q2) := bcell hb1 (cell_n2 1)
        replace r0 := r0.below hB
        replace r1 := r1.below hB
        replace r2 := r2.below hB
        have dc0_0 := World.block_lt_of_cell? _ _ c0_0
        have dc1_0 := World.block_lt_of_cell? _ _ c1_0
        have dc2_0 := World.block_lt_of_cell? _ _ c2_0
        go_wp2_with fail
        refine (szType_any F1 t1 _ _ _ r1 (by omega) (by omega)).mono ?_
        rintro e w2 ⟨rfl, hb2⟩
        rw [S1.out]
        clear dc0_0 dc1_0 dc2_0
        replace c0_0 := bcell (hb2) c0_0
        replace c0_1 := bcell (hb2) c0_1
        replace c0_2 := bcell (hb2) c0_2
        replace c0_3 := bcell (hb2) c0_3
        replace c1_0 := bcell (hb2) c1_0
        replace c1_1 := bcell (hb2) c1_1
        replace c2_0 := bcell (hb2) c2_0
        replace c2_1 := bcell (hb2) c2_1
        replace r0 := r0.below (hb2)
        replace r1 := r1.below (hb2)
        replace r2 := r2.below (hb2)
        replace hB := bstep hB (hb2)
        have dc0_0 := World.block_lt_of_cell? _ _ c0_0
        have dc1_0 := World.block_lt_of_cell? _ _ c1_0
        have dc2_0 := World.block_lt_of_cell? _ _ c2_0
        go_wp2_with fail
        refine (szType_any F2 t2 _ _ _ r2 (by omega) (by omega)).mono ?_
        rintro e w3 ⟨rfl, hb3⟩
        rw [S2.out]
        clear dc0_0 dc1_0 dc2_0
        replace c0_0 := bcell (hb3) c0_0
        replace c0_1 := bcell (hb3) c0_1
        replace c0_2 := bcell (hb3) c0_2
        replace c0_3 := bcell (hb3) c0_3
        replace c1_0 := bcell (hb3) c1_0
        replace c1_1 := bcell (hb3) c1_1
        replace c2_0 := bcell (hb3) c2_0
        replace c2_1 := bcell (hb3) c2_1
        replace r0 := r0.below (hb3)
        replace r1 := r1.below (hb3)
        replace r2 := r2.below (hb3)
        replace hB := bstep hB (hb3)
        have dc0_0 := World.block_lt_of_cell? _ _ c0_0
        have dc1_0 := World.block_lt_of_cell? _ _ c1_0
        have dc2_0 := World.block_lt_of_cell? _ _ c2_0
        go_wp2_with fail
        go_region_held3 (fun w' => w'.cell? ⟨w.heap.size, 0, none⟩ = some (.int .i64 k0) ∧ w'.cell? ⟨w.heap.size, 1, none⟩ = some (.int .i64 gt0) ∧ w'.cell? ⟨w.heap.size, 2, none⟩ = some (.int .i64 lb0) ∧ w'.cell? ⟨w.heap.size, 3, none⟩ = some (.slice a0 n0 q0) ∧ w'.cell? ⟨w.heap.size + 1, 0, none⟩ = some (.int .i64 k1) ∧ w'.cell? ⟨w.heap.size + 1, 1, none⟩ = some (.slice a1 n1 q1) ∧ w'.cell? ⟨w.heap.size + 1 + 1, 0, none⟩ = some (.int .i64 k2) ∧ w'.cell? ⟨w.heap.size + 1 + 1, 1, none⟩ = some (.slice a2 n2 q2))
          (first | go_keep | exact ⟨bcelld hb4 c0_0, bcelld hb4 c0_1, bcelld hb4 c0_2, bcelld hb4 c0_3, bcelld hb4 c1_0, bcelld hb4 c1_1, bcelld hb4 c2_0, bcelld hb4 c2_1⟩ | exact ⟨bcell hb5 (bcelld hb4 c0_0), bcell hb5 (bcelld hb4 c0_1), bcell hb5 (bcelld hb4 c0_2), bcell hb5 (bcelld hb4 c0_3), bcell hb5 (bcelld hb4 c1_0), bcell hb5 (bcelld hb4 c1_1), bcell hb5 (bcelld hb4 c2_0), bcell hb5 (bcelld hb4 c2_1)⟩ | exact ⟨bcell hb6 (bcell hb5 (bcelld hb4 c0_0)), bcell hb6 (bcell hb5 (bcelld hb4 c0_1)), bcell hb6 (bcell hb5 (bcelld hb4 c0_2)), bcell hb6 (bcell hb5 (bcelld hb4 c0_3)), bcell hb6 (bcell hb5 (bcelld hb4 c1_0)), bcell hb6 (bcell hb5 (bcelld hb4 c1_1)), bcell hb6 (bcell hb5 (bcelld hb4 c2_0)), bcell hb6 (bcell hb5 (bcelld hb4 c2_1))⟩ | exact ⟨bcell hb7 (bcell hb6 (bcell hb5 (bcelld hb4 c0_0))), bcell hb7 (bcell hb6 (bcell hb5 (bcelld hb4 c0_1))), bcell hb7 (bcell hb6 (bcell hb5 (bcelld hb4 c0_2))), bcell hb7 (bcell hb6 (bcell hb5 (bcelld hb4 c0_3))), bcell hb7 (bcell hb6 (bcell hb5 (bcelld hb4 c1_0))), bcell hb7 (bcell hb6 (bcell hb5 (bcelld hb4 c1_1))), bcell hb7 (bcell hb6 (bcell hb5 (bcelld hb4 c2_0))), bcell hb7 (bcell hb6 (bcell hb5 (bcelld hb4 c2_1)))⟩)
          (first | (go_at_call_of 12 (Value.agg #[Value.int IntKind.i64 k0, Value.int IntKind.i64 gt0, Value.int IntKind.i64 lb0, Value.slice a0 n0 q0]); refine (toCoercion_any F0 t0 _ _ (r0.below (bdr)) B0.out).mono ?_; rintro e w4 ⟨v4, rfl, hv4, hb4⟩; obtain ⟨k4, gt4, lb4, a4, n4, q4, rfl⟩ := hv4.shape) | (go_at_call_of 21 (Value.agg #[Value.int IntKind.i64 k1, Value.slice a1 n1 q1]); refine (toType_any F1 t1 _ _ (r1.below (bstep (bdr) hb4)) B1.out).mono ?_; rintro e w5 ⟨v5, rfl, hv5, hb5⟩; obtain ⟨k5, a5, n5, q5, rfl⟩ := hv5.shape) | (go_at_call_of 21 (Value.agg #[Value.int IntKind.i64 k2, Value.slice a2 n2 q2]); refine (toType_any F2 t2 _ _ (r2.below (bstep (bstep (bdr) hb4) hb5)) B2.out).mono ?_; rintro e w6 ⟨v6, rfl, hv6, hb6⟩; obtain ⟨k6, a6, n6, q6, rfl⟩ := hv6.shape) | (go_at_call 27; refine (specCoercionTyped _ _ _ t0 t1 t2 _ _ _ _ ((hv4.rep.below hb5).below hb6) (hv5.rep.below hb6) hv6.rep).mono ?_; rintro e w7 ⟨rfl, hb7⟩))
        have hst := bstep (bstep (bstep (bstep (bdr) hb4) hb5) hb6) hb7
        clear dc0_0 dc1_0 dc2_0
        replace c0_0 := bcell (hst) c0_0
        replace c0_1 := bcell (hst) c0_1
        replace c0_2 := bcell (hst) c0_2
        replace c0_3 := bcell (hst) c0_3
        replace c1_0 := bcell (hst) c1_0
        replace c1_1 := bcell (hst) c1_1
        replace c2_0 := bcell (hst) c2_0
        replace c2_1 := bcell (hst) c2_1
        replace r0 := r0.below (hst)
        replace r1 := r1.below (hst)
        replace r2 := r2.below (hst)
        replace hB := bstep hB (hst)
        have dc0_0 := World.block_lt_of_cell? _ _ c0_0
        have dc1_0 := World.block_lt_of_cell? _ _ c1_0
        have dc2_0 := World.block_lt_of_cell? _ _ c2_0
        clear hst hb4 hb5 hb6 hb7 hv4 hv5 hv6
        go_wp2_with fail
        refine (toCoercion_any F0 t0 _ _ (r0) B0.out).mono ?_
        rintro e w8 ⟨v8, rfl, hv8, hb8⟩
        obtain ⟨k8, gt8, lb8, a8, n8, q8, rfl⟩ := hv8.shape
        clear dc0_0 dc1_0 dc2_0
        replace c0_0 := bcell (hb8) c0_0
        replace c0_1 := bcell (hb8) c0_1
        replace c0_2 := bcell (hb8) c0_2
        replace c0_3 := bcell (hb8) c0_3
        replace c1_0 := bcell (hb8) c1_0
        replace c1_1 := bcell (hb8) c1_1
        replace c2_0 := bcell (hb8) c2_0
        replace c2_1 := bcell (hb8) c2_1
        replace r0 := r0.below (hb8)
        replace r1 := r1.below (hb8)
        replace r2 := r2.below (hb8)
        replace hB := bstep hB (hb8)
        have dc0_0 := World.block_lt_of_cell? _ _ c0_0
        have dc1_0 := World.block_lt_of_cell? _ _ c1_0
        have dc2_0 := World.block_lt_of_cell? _ _ c2_0
        go_wp2_with fail
        refine (toType_any F1 t1 _ _ (r1.below bal1) B1.out).mono ?_
        rintro e w9 ⟨v9, rfl, hv9, hb9⟩
        obtain ⟨k9, a9, n9, q9, rfl⟩ := hv9.shape
        clear dc0_0 dc1_0 dc2_0
        replace c0_0 := bcell (bstep bal1 hb9) c0_0
        replace c0_1 := bcell (bstep bal1 hb9) c0_1
        replace c0_2 := bcell (bstep bal1 hb9) c0_2
        replace c0_3 := bcell (bstep bal1 hb9) c0_3
        replace c1_0 := bcell (bstep bal1 hb9) c1_0
        replace c1_1 := bcell (bstep bal1 hb9) c1_1
        replace c2_0 := bcell (bstep bal1 hb9) c2_0
        replace c2_1 := bcell (bstep bal1 hb9) c2_1
        replace r0 := r0.below (bstep bal1 hb9)
        replace r1 := r1.below (bstep bal1 hb9)
        replace r2 := r2.below (bstep bal1 hb9)
        replace hv8 := hv8.below (bstep bal1 hb9)
        replace hB := bstep hB (bstep bal1 hb9)
        have dc0_0 := World.block_lt_of_cell? _ _ c0_0
        have dc1_0 := World.block_lt_of_cell? _ _ c1_0
        have dc2_0 := World.block_lt_of_cell? _ _ c2_0
        have x0_0 : w9.cell? ⟨w8.heap.size, 0, none⟩ = some (.int .i64 k8) := bcell hb9 (cell_n0 0)
        have dx0_0 := World.block_lt_of_cell? _ _ x0_0
        have x0_1 : w9.cell? ⟨w8.heap.size, 1, none⟩ = some (.int .i64 gt8) := bcell hb9 (cell_n0 1)
        have x0_2 : w9.cell? ⟨w8.heap.size, 2, none⟩ = some (.int .i64 lb8) := bcell hb9 (cell_n0 2)
        have x0_3 : w9.cell? ⟨w8.heap.size, 3, none⟩ = some (.slice a8 n8 q8) := bcell hb9 (cell_n0 3)
        go_wp2_with fail
        refine (toType_any F2 t2 _ _ (r2.below bal1) B2.out).mono ?_
        rintro e w10 ⟨v10, rfl, hv10, hb10⟩
        obtain ⟨k10, a10, n10, q10, rfl⟩ := hv10.shape
        clear dc0_0 dc1_0 dc2_0 dx0_0
        replace c0_0 := bcell (bstep bal1 hb10) c0_0
        replace c0_1 := bcell (bstep bal1 hb10) c0_1
        replace c0_2 := bcell (bstep bal1 hb10) c0_2
        replace c0_3 := bcell (bstep bal1 hb10) c0_3
        replace c1_0 := bcell (bstep bal1 hb10) c1_0
        replace c1_1 := bcell (bstep bal1 hb10) c1_1
        replace c2_0 := bcell (bstep bal1 hb10) c2_0
        replace c2_1 := bcell (bstep bal1 hb10) c2_1
        replace x0_0 := bcell (bstep bal1 hb10) x0_0
        replace x0_1 := bcell (bstep bal1 hb10) x0_1
        replace x0_2 := bcell (bstep bal1 hb10) x0_2
        replace x0_3 := bcell (bstep bal1 hb10) x0_3
        replace r0 := r0.below (bstep bal1 hb10)
        replace r1 := r1.below (bstep bal1 hb10)
        replace r2 := r2.below (bstep bal1 hb10)
        replace hv8 := hv8.below (bstep bal1 hb10)
        replace hv9 := hv9.below (bstep bal1 hb10)
        replace hB := bstep hB (bstep bal1 hb10)
        have dc0_0 := World.block_lt_of_cell? _ _ c0_0
        have dc1_0 := World.block_lt_of_cell? _ _ c1_0
        have dc2_0 := World.block_lt_of_cell? _ _ c2_0
        have dx0_0 := World.block_lt_of_cell? _ _ x0_0
        have x1_0 : w10.cell? ⟨w9.heap.size, 0, none⟩ = some (.int .i64 k9) := bcell hb10 (cell_n0 0)
        have dx1_0 := World.block_lt_of_cell? _ _ x1_0
        have x1_1 : w10.cell? ⟨w9.heap.size, 1, none⟩ = some (.slice a9 n9 q9) := bcell hb10 (cell_n0 1)
        go_wp2_with fail
        refine (implCoercionTyped _ _ _ t0 t1 t2 _ _ _ _ (hv8.rep.below bal1) (hv9.rep.below bal1) (hv10.rep.below bal1)).mono ?_
        rintro e w11 ⟨rfl, hb11⟩
        clear dc0_0 dc1_0 dc2_0 dx0_0 dx1_0
        replace c0_0 := bcell (bstep bal1 hb11) c0_0
        replace c0_1 := bcell (bstep bal1 hb11) c0_1
        replace c0_2 := bcell (bstep bal1 hb11) c0_2
        replace c0_3 := bcell (bstep bal1 hb11) c0_3
        replace c1_0 := bcell (bstep bal1 hb11) c1_0
        replace c1_1 := bcell (bstep bal1 hb11) c1_1
        replace c2_0 := bcell (bstep bal1 hb11) c2_0
        replace c2_1 := bcell (bstep bal1 hb11) c2_1
        replace x0_0 := bcell (bstep bal1 hb11) x0_0
        replace x0_1 := bcell (bstep bal1 hb11) x0_1
        replace x0_2 := bcell (bstep bal1 hb11) x0_2
        replace x0_3 := bcell (bstep bal1 hb11) x0_3
        replace x1_0 := bcell (bstep bal1 hb11) x1_0
        replace x1_1 := bcell (bstep bal1 hb11) x1_1
        replace r0 := r0.below (bstep bal1 hb11)
        replace r1 := r1.below (bstep bal1 hb11)
        replace r2 := r2.below (bstep bal1 hb11)
        replace hv8 := hv8.below (bstep bal1 hb11)
        replace hv9 := hv9.below (bstep bal1 hb11)
        replace hv10 := hv10.below (bstep bal1 hb11)
        replace hB := bstep hB (bstep bal1 hb11)
        have dc0_0 := World.block_lt_of_cell? _ _ c0_0
        have dc1_0 := World.block_lt_of_cell? _ _ c1_0
        have dc2_0 := World.block_lt_of_cell? _ _ c2_0
        have dx0_0 := World.block_lt_of_cell? _ _ x0_0
        have dx1_0 := World.block_lt_of_cell? _ _ x1_0
        have x2_0 : w11.cell? ⟨w10.heap.size, 0, none⟩ = some (.int .i64 k10) := bcell hb11 (cell_n0 0)
        have dx2_0 := World.block_lt_of_cell? _ _ x2_0
        have x2_1 : w11.cell? ⟨w10.heap.size, 1, none⟩ = some (.slice a10 n10 q10) := bcell hb11 (cell_n0 1)
        go_wp2_with fail
        go_region_held3 (fun w' => w'.cell? ⟨w8.heap.size, 0, none⟩ = some (.int .i64 k8) ∧ w'.cell? ⟨w8.heap.size, 1, none⟩ = some (.int .i64 gt8) ∧ w'.cell? ⟨w8.heap.size, 2, none⟩ = some (.int .i64 lb8) ∧ w'.cell? ⟨w8.heap.size, 3, none⟩ = some (.slice a8 n8 q8) ∧ w'.cell? ⟨w.heap.size, 0, none⟩ = some (.int .i64 k0) ∧ w'.cell? ⟨w.heap.size, 1, none⟩ = some (.int .i64 gt0) ∧ w'.cell? ⟨w.heap.size, 2, none⟩ = some (.int .i64 lb0) ∧ w'.cell? ⟨w.heap.size, 3, none⟩ = some (.slice a0 n0 q0))
          (first | go_keep | exact ⟨bcelld hb12 x0_0, bcelld hb12 x0_1, bcelld hb12 x0_2, bcelld hb12 x0_3, bcelld hb12 c0_0, bcelld hb12 c0_1, bcelld hb12 c0_2, bcelld hb12 c0_3⟩ | exact ⟨bcell hb13 (bcelld hb12 x0_0), bcell hb13 (bcelld hb12 x0_1), bcell hb13 (bcelld hb12 x0_2), bcell hb13 (bcelld hb12 x0_3), bcell hb13 (bcelld hb12 c0_0), bcell hb13 (bcelld hb12 c0_1), bcell hb13 (bcelld hb12 c0_2), bcell hb13 (bcelld hb12 c0_3)⟩)
          (first | (go_at_call 12; refine (toCoercion_any F0 t0 _ _ (r0.below bdr) B0.out).mono ?_; rintro e w12 ⟨v12, rfl, hv12, hb12⟩; obtain ⟨k12, gt12, lb12, a12, n12, q12, rfl⟩ := hv12.shape) | (go_at_call 14; refine (eqCoercion_refl _ _ t0 _ _ _ (hv8.rep.below (bstep bdr hb12)) hv12.rep).mono ?_; rintro e w13 ⟨rfl, hb13⟩))
        have hst := bstep (bstep bdr hb12) hb13
        clear dc0_0 dc1_0 dc2_0 dx0_0 dx1_0 dx2_0
        replace c0_0 := bcell (hst) c0_0
        replace c0_1 := bcell (hst) c0_1
        replace c0_2 := bcell (hst) c0_2
        replace c0_3 := bcell (hst) c0_3
        replace c1_0 := bcell (hst) c1_0
        replace c1_1 := bcell (hst) c1_1
        replace c2_0 := bcell (hst) c2_0
        replace c2_1 := bcell (hst) c2_1
        replace x0_0 := bcell (hst) x0_0
        replace x0_1 := bcell (hst) x0_1
        replace x0_2 := bcell (hst) x0_2
        replace x0_3 := bcell (hst) x0_3
        replace x1_0 := bcell (hst) x1_0
        replace x1_1 := bcell (hst) x1_1
        replace x2_0 := bcell (hst) x2_0
        replace x2_1 := bcell (hst) x2_1
        replace r0 := r0.below (hst)
        replace r1 := r1.below (hst)
        replace r2 := r2.below (hst)
        replace hv8 := hv8.below (hst)
        replace hv9 := hv9.below (hst)
        replace hv10 := hv10.below (hst)
        replace hB := bstep hB (hst)
        have dc0_0 := World.block_lt_of_cell? _ _ c0_0
        have dc1_0 := World.block_lt_of_cell? _ _ c1_0
        have dc2_0 := World.block_lt_of_cell? _ _ c2_0
        have dx0_0 := World.block_lt_of_cell? _ _ x0_0
        have dx1_0 := World.block_lt_of_cell? _ _ x1_0
        have dx2_0 := World.block_lt_of_cell? _ _ x2_0
        clear hst hb12 hb13 hv12
        go_wp2_with fail
        go_region_held3 (fun w' => w'.cell? ⟨w9.heap.size, 0, none⟩ = some (.int .i64 k9) ∧ w'.cell? ⟨w9.heap.size, 1, none⟩ = some (.slice a9 n9 q9) ∧ w'.cell? ⟨w.heap.size + 1, 0, none⟩ = some (.int .i64 k1) ∧ w'.cell? ⟨w.heap.size + 1, 1, none⟩ = some (.slice a1 n1 q1))
          (first | go_keep | exact ⟨bcelld hb14 x1_0, bcelld hb14 x1_1, bcelld hb14 c1_0, bcelld hb14 c1_1⟩ | exact ⟨bcell hb15 (bcelld hb14 x1_0), bcell hb15 (bcelld hb14 x1_1), bcell hb15 (bcelld hb14 c1_0), bcell hb15 (bcelld hb14 c1_1)⟩)
          (first | (go_at_call 21; refine (toType_any F1 t1 _ _ (r1.below bdr) B1.out).mono ?_; rintro e w14 ⟨v14, rfl, hv14, hb14⟩; obtain ⟨k14, a14, n14, q14, rfl⟩ := hv14.shape) | (go_at_call 23; refine (eqType_refl _ _ t1 _ _ _ (hv9.rep.below (bstep bdr hb14)) hv14.rep).mono ?_; rintro e w15 ⟨rfl, hb15⟩))
        have hst := bstep (bstep bdr hb14) hb15
        clear dc0_0 dc1_0 dc2_0 dx0_0 dx1_0 dx2_0
        replace c0_0 := bcell (hst) c0_0
        replace c0_1 := bcell (hst) c0_1
        replace c0_2 := bcell (hst) c0_2
        replace c0_3 := bcell (hst) c0_3
        replace c1_0 := bcell (hst) c1_0
        replace c1_1 := bcell (hst) c1_1
        replace c2_0 := bcell (hst) c2_0
        replace c2_1 := bcell (hst) c2_1
        replace x0_0 := bcell (hst) x0_0
        replace x0_1 := bcell (hst) x0_1
        replace x0_2 := bcell (hst) x0_2
        replace x0_3 := bcell (hst) x0_3
        replace x1_0 := bcell (hst) x1_0
        replace x1_1 := bcell (hst) x1_1
        replace x2_0 := bcell (hst) x2_0
        replace x2_1 := bcell (hst) x2_1
        replace r0 := r0.below (hst)
        replace r1 := r1.below (hst)
        replace r2 := r2.below (hst)
        replace hv8 := hv8.below (hst)
        replace hv9 := hv9.below (hst)
        replace hv10 := hv10.below (hst)
        replace hB := bstep hB (hst)
        have dc0_0 := World.block_lt_of_cell? _ _ c0_0
        have dc1_0 := World.block_lt_of_cell? _ _ c1_0
        have dc2_0 := World.block_lt_of_cell? _ _ c2_0
        have dx0_0 := World.block_lt_of_cell? _ _ x0_0
        have dx1_0 := World.block_lt_of_cell? _ _ x1_0
        have dx2_0 := World.block_lt_of_cell? _ _ x2_0
        clear hst hb14 hb15 hv14
        go_wp2_with fail
        go_region_held3 (fun w' => w'.cell? ⟨w10.heap.size, 0, none⟩ = some (.int .i64 k10) ∧ w'.cell? ⟨w10.heap.size, 1, none⟩ = some (.slice a10 n10 q10) ∧ w'.cell? ⟨w.heap.size + 1 + 1, 0, none⟩ = some (.int .i64 k2) ∧ w'.cell? ⟨w.heap.size + 1 + 1, 1, none⟩ = some (.slice a2 n2 q2))
          (first | go_keep | exact ⟨bcelld hb16 x2_0, bcelld hb16 x2_1, bcelld hb16 c2_0, bcelld hb16 c2_1⟩ | exact ⟨bcell hb17 (bcelld hb16 x2_0), bcell hb17 (bcelld hb16 x2_1), bcell hb17 (bcelld hb16 c2_0), bcell hb17 (bcelld hb16 c2_1)⟩)
          (first | (go_at_call 21; refine (toType_any F2 t2 _ _ (r2.below bdr) B2.out).mono ?_; rintro e w16 ⟨v16, rfl, hv16, hb16⟩; obtain ⟨k16, a16, n16, q16, rfl⟩ := hv16.shape) | (go_at_call 23; refine (eqType_refl _ _ t2 _ _ _ (hv10.rep.below (bstep bdr hb16)) hv16.rep).mono ?_; rintro e w17 ⟨rfl, hb17⟩))
        have hst := bstep (bstep bdr hb16) hb17
        clear dc0_0 dc1_0 dc2_0 dx0_0 dx1_0 dx2_0
        replace c0_0 := bcell (hst) c0_0
        replace c0_1 := bcell (hst) c0_1
        replace c0_2 := bcell (hst) c0_2
        replace c0_3 := bcell (hst) c0_3
        replace c1_0 := bcell (hst) c1_0
        replace c1_1 := bcell (hst) c1_1
        replace c2_0 := bcell (hst) c2_0
        replace c2_1 := bcell (hst) c2_1
        replace x0_0 := bcell (hst) x0_0
        replace x0_1 := bcell (hst) x0_1
        replace x0_2 := bcell (hst) x0_2
        replace x0_3 := bcell (hst) x0_3
        replace x1_0 := bcell (hst) x1_0
        replace x1_1 := bcell (hst) x1_1
        replace x2_0 := bcell (hst) x2_0
        replace x2_1 := bcell (hst) x2_1
        replace r0 := r0.below (hst)
        replace r1 := r1.below (hst)
        replace r2 := r2.below (hst)
        replace hv8 := hv8.below (hst)
        replace hv9 := hv9.below (hst)
        replace hv10 := hv10.below (hst)
        replace hB := bstep hB (hst)
        have dc0_0 := World.block_lt_of_cell? _ _ c0_0
        have dc1_0 := World.block_lt_of_cell? _ _ c1_0
        have dc2_0 := World.block_lt_of_cell? _ _ c2_0
        have dx0_0 := World.block_lt_of_cell? _ _ x0_0
        have dx1_0 := World.block_lt_of_cell? _ _ x1_0
        have dx2_0 := World.block_lt_of_cell? _ _ x2_0
        clear hst hb16 hb17 hv16
        go_wp2_with fail
        go_ret
        exact ⟨rfl, hB⟩
      · have s2 := szr_neg h2
        have l0 : 0 ≤ (1048576 - (t0.cnt : Int)) := by omega
        have m0 : (1048576 - (t0.cnt : Int)) ≤ 1048576 := by omega
        have l1 : 0 ≤ ((1048576 - (t0.cnt : Int)) - (t1.cnt : Int)) := by omega
        have m1 : ((1048576 - (t0.cnt : Int)) - (t1.cnt : Int)) ≤ 1048576 := by omega
        have S0 := Lib.hid s0
        have S1 := Lib.hid s1
        have S2 := Lib.hid s2
        clear s0 h0 s1 h1 s2 h2
        go_enter Try.func7, Try.ntmps7
        go_wp2_with fail
        refine (szCoercion_any F0 t0 _ _ _ (r0.below bal3) (by omega) (by omega)).mono ?_
        rintro e w1 ⟨rfl, hb1⟩
        rw [S0.out]
        have hB := bstep bal3 hb1
        have c0_0 : w1.cell? ⟨w.heap.size, 0, none⟩ = some (.int .i64 k0) := bcell hb1 (bcell bal1 (bcell bal1 (cell_n0 0)))
        have c0_1 : w1.cell? ⟨w.heap.size, 1, none⟩ = some (.int .i64 gt0) := bcell hb1 (bcell bal1 (bcell bal1 (cell_n0 1)))
        have c0_2 : w1.cell? ⟨w.heap.size, 2, none⟩ = some (.int .i64 lb0) := bcell hb1 (bcell bal1 (bcell bal1 (cell_n0 2)))
        have c0_3 : w1.cell? ⟨w.heap.size, 3, none⟩ = some (.slice a0 n0 q0) := bcell hb1 (bcell bal1 (bcell bal1 (cell_n0 3)))
        have c1_0 : w1.cell? ⟨w.heap.size + 1, 0, none⟩ = some (.int .i64 k1) := bcell hb1 (bcell bal1 (cell_n1 0))
        have c1_1 : w1.cell? ⟨w.heap.size + 1, 1, none⟩ = some (.slice a1 n1 q1) := bcell hb1 (bcell bal1 (cell_n1 1))
        have c2_0 : w1.cell? ⟨w.heap.size + 1 + 1, 0, none⟩ = some (.int .i64 k2) := bcell hb1 (cell_n2 0)
        have c2_1 : w1.cell? ⟨w.heap.size + 1 + 1, 1, none⟩ = some (.slice a2 n2 q2) := bcell hb1 (cell_n2 1)
        replace r0 := r0.below hB
        replace r1 := r1.below hB
        replace r2 := r2.below hB
        have dc0_0 := World.block_lt_of_cell? _ _ c0_0
        have dc1_0 := World.block_lt_of_cell? _ _ c1_0
        have dc2_0 := World.block_lt_of_cell? _ _ c2_0
        go_wp2_with fail
        refine (szType_any F1 t1 _ _ _ r1 (by omega) (by omega)).mono ?_
        rintro e w2 ⟨rfl, hb2⟩
        rw [S1.out]
        clear dc0_0 dc1_0 dc2_0
        replace c0_0 := bcell (hb2) c0_0
        replace c0_1 := bcell (hb2) c0_1
        replace c0_2 := bcell (hb2) c0_2
        replace c0_3 := bcell (hb2) c0_3
        replace c1_0 := bcell (hb2) c1_0
        replace c1_1 := bcell (hb2) c1_1
        replace c2_0 := bcell (hb2) c2_0
        replace c2_1 := bcell (hb2) c2_1
        replace r0 := r0.below (hb2)
        replace r1 := r1.below (hb2)
        replace r2 := r2.below (hb2)
        replace hB := bstep hB (hb2)
        have dc0_0 := World.block_lt_of_cell? _ _ c0_0
        have dc1_0 := World.block_lt_of_cell? _ _ c1_0
        have dc2_0 := World.block_lt_of_cell? _ _ c2_0
        go_wp2_with fail
        refine (szType_any F2 t2 _ _ _ r2 (by omega) (by omega)).mono ?_
        rintro e w3 ⟨rfl, hb3⟩
        rw [S2.out]
        clear dc0_0 dc1_0 dc2_0
        replace c0_0 := bcell (hb3) c0_0
        replace c0_1 := bcell (hb3) c0_1
        replace c0_2 := bcell (hb3) c0_2
        replace c0_3 := bcell (hb3) c0_3
        replace c1_0 := bcell (hb3) c1_0
        replace c1_1 := bcell (hb3) c1_1
        replace c2_0 := bcell (hb3) c2_0
        replace c2_1 := bcell (hb3) c2_1
        replace r0 := r0.below (hb3)
        replace r1 := r1.below (hb3)
        replace r2 := r2.below (hb3)
        replace hB := bstep hB (hb3)
        have dc0_0 := World.block_lt_of_cell? _ _ c0_0
        have dc1_0 := World.block_lt_of_cell? _ _ c1_0
        have dc2_0 := World.block_lt_of_cell? _ _ c2_0
        go_wp2_with fail
        go_ret
        exact ⟨rfl, hB⟩
    · have s1 := szr_neg h1
      have l0 : 0 ≤ (1048576 - (t0.cnt : Int)) := by omega
      have m0 : (1048576 - (t0.cnt : Int)) ≤ 1048576 := by omega
      have S0 := Lib.hid s0
      have S1 := Lib.hid s1
      clear s0 h0 s1 h1
      go_enter Try.func7, Try.ntmps7
      go_wp2_with fail
      refine (szCoercion_any F0 t0 _ _ _ (r0.below bal3) (by omega) (by omega)).mono ?_
      rintro e w1 ⟨rfl, hb1⟩
      rw [S0.out]
      have hB := bstep bal3 hb1
      have c0_0 : w1.cell? ⟨w.heap.size, 0, none⟩ = some (.int .i64 k0) := bcell hb1 (bcell bal1 (bcell bal1 (cell_n0 0)))
      have c0_1 : w1.cell? ⟨w.heap.size, 1, none⟩ = some (.int .i64 gt0) := bcell hb1 (bcell bal1 (bcell bal1 (cell_n0 1)))
      have c0_2 : w1.cell? ⟨w.heap.size, 2, none⟩ = some (.int .i64 lb0) := bcell hb1 (bcell bal1 (bcell bal1 (cell_n0 2)))
      have c0_3 : w1.cell? ⟨w.heap.size, 3, none⟩ = some (.slice a0 n0 q0) := bcell hb1 (bcell bal1 (bcell bal1 (cell_n0 3)))
      have c1_0 : w1.cell? ⟨w.heap.size + 1, 0, none⟩ = some (.int .i64 k1) := bcell hb1 (bcell bal1 (cell_n1 0))
      have c1_1 : w1.cell? ⟨w.heap.size + 1, 1, none⟩ = some (.slice a1 n1 q1) := bcell hb1 (bcell bal1 (cell_n1 1))
      have c2_0 : w1.cell? ⟨w.heap.size + 1 + 1, 0, none⟩ = some (.int .i64 k2) := bcell hb1 (cell_n2 0)
      have c2_1 : w1.cell? ⟨w.heap.size + 1 + 1, 1, none⟩ = some (.slice a2 n2 q2) := bcell hb1 (cell_n2 1)
      replace r0 := r0.below hB
      replace r1 := r1.below hB
      replace r2 := r2.below hB
      have dc0_0 := World.block_lt_of_cell? _ _ c0_0
      have dc1_0 := World.block_lt_of_cell? _ _ c1_0
      have dc2_0 := World.block_lt_of_cell? _ _ c2_0
      go_wp2_with fail
      refine (szType_any F1 t1 _ _ _ r1 (by omega) (by omega)).mono ?_
      rintro e w2 ⟨rfl, hb2⟩
      rw [S1.out]
      clear dc0_0 dc1_0 dc2_0
      replace c0_0 := bcell (hb2) c0_0
      replace c0_1 := bcell (hb2) c0_1
      replace c0_2 := bcell (hb2) c0_2
      replace c0_3 := bcell (hb2) c0_3
      replace c1_0 := bcell (hb2) c1_0
      replace c1_1 := bcell (hb2) c1_1
      replace c2_0 := bcell (hb2) c2_0
      replace c2_1 := bcell (hb2) c2_1
      replace r0 := r0.below (hb2)
      replace r1 := r1.below (hb2)
      replace r2 := r2.below (hb2)
      replace hB := bstep hB (hb2)
      have dc0_0 := World.block_lt_of_cell? _ _ c0_0
      have dc1_0 := World.block_lt_of_cell? _ _ c1_0
      have dc2_0 := World.block_lt_of_cell? _ _ c2_0
      go_wp2_with fail
      go_ret
      exact ⟨rfl, hB⟩
  · have s0 := szr_neg h0
    have S0 := Lib.hid s0
    clear s0 h0
    go_enter Try.func7, Try.ntmps7
    go_wp2_with fail
    refine (szCoercion_any F0 t0 _ _ _ (r0.below bal3) (by omega) (by omega)).mono ?_
    rintro e w1 ⟨rfl, hb1⟩
    rw [S0.out]
    have hB := bstep bal3 hb1
    have c0_0 : w1.cell? ⟨w.heap.size, 0, none⟩ = some (.int .i64 k0) := bcell hb1 (bcell bal1 (bcell bal1 (cell_n0 0)))
    have c0_1 : w1.cell? ⟨w.heap.size, 1, none⟩ = some (.int .i64 gt0) := bcell hb1 (bcell bal1 (bcell bal1 (cell_n0 1)))
    have c0_2 : w1.cell? ⟨w.heap.size, 2, none⟩ = some (.int .i64 lb0) := bcell hb1 (bcell bal1 (bcell bal1 (cell_n0 2)))
    have c0_3 : w1.cell? ⟨w.heap.size, 3, none⟩ = some (.slice a0 n0 q0) := bcell hb1 (bcell bal1 (bcell bal1 (cell_n0 3)))
    have c1_0 : w1.cell? ⟨w.heap.size + 1, 0, none⟩ = some (.int .i64 k1) := bcell hb1 (bcell bal1 (cell_n1 0))
    have c1_1 : w1.cell? ⟨w.heap.size + 1, 1, none⟩ = some (.slice a1 n1 q1) := bcell hb1 (bcell bal1 (cell_n1 1))
    have c2_0 : w1.cell? ⟨w.heap.size + 1 + 1, 0, none⟩ = some (.int .i64 k2) := bcell hb1 (cell_n2 0)
    have c2_1 : w1.cell? ⟨w.heap.size + 1 + 1, 1, none⟩ = some (.slice a2 n2 q2) := bcell hb1 (cell_n2 1)
    replace r0 := r0.below hB
    replace r1 := r1.below hB
    replace r2 := r2.below hB
    have dc0_0 := World.block_lt_of_cell? _ _ c0_0
    have dc1_0 := World.block_lt_of_cell? _ _ c1_0
    have dc2_0 := World.block_lt_of_cell? _ _ c2_0
    go_wp2_with fail
    go_ret
    exact ⟨rfl, hB⟩
end Go.Proofs.Ytohnlkkofbploaa
