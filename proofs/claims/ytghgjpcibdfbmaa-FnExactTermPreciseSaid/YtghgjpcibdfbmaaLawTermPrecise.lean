/-
  FnExactTermPrecise returns true: the walk.
-/
import Derived.Test.YtghgjpcibdfbmaaLaTm
import Derived.Test.YtghgjpcibdfbmaaTmPrec
namespace Go.Proofs.Ytghgjpcibdfbmaa
open Go.RowKit
set_option maxRecDepth 100000
set_option linter.unusedVariables false
set_option linter.unusedSimpArgs false

set_option maxHeartbeats 4000000 in
theorem walk_FnExactTermPrecise (F0 F1 : Nat → Prop) (t0 : Tm) (t1 : Tm) (y0 y1 : Value) (w : World) (r0 : TmRep F0 w t0 y0) (r1 : TmRep F1 w t1 y1) :
    Calls Try.prog 8 #[y0, y1] w fun e w' => e = .returned (.bool true) ∧ Below w.heap.size w w' := by
  obtain ⟨k0, sn0, u0, ka0, aa0, na0, qa0, kb0, ab0, nb0, qb0, lb0, a0, n0, q0, rfl⟩ := r0.shape
  obtain ⟨k1, sn1, u1, ka1, aa1, na1, qa1, kb1, ab1, nb1, qb1, lb1, a1, n1, q1, rfl⟩ := r1.shape
  by_cases h0 : (t0.cnt : Int) ≤ 1048576
  · have s0 := szr_pos h0
    by_cases h1 : (t1.cnt : Int) ≤ (1048576 - (t0.cnt : Int))
    · have s1 := szr_pos h1
      have l0 : 0 ≤ (1048576 - (t0.cnt : Int)) := by omega
      have m0 : (1048576 - (t0.cnt : Int)) ≤ 1048576 := by omega
      have b0 : t0.cnt ≤ 1048576 := by omega
      have l1 : 0 ≤ ((1048576 - (t0.cnt : Int)) - (t1.cnt : Int)) := by omega
      have m1 : ((1048576 - (t0.cnt : Int)) - (t1.cnt : Int)) ≤ 1048576 := by omega
      have b1 : t1.cnt ≤ 1048576 := by omega
      have S0 := Lib.hid s0
      have S1 := Lib.hid s1
      have B0 := Lib.hid b0
      have B1 := Lib.hid b1
      clear s0 h0 b0 s1 h1 b1
      go_enter Try.func8, Try.ntmps8
      go_wp2_with fail
      refine (szTerm_any F0 t0 _ _ _ (r0.below bal2) (by omega) (by omega)).mono ?_
      rintro e w1 ⟨rfl, hb1⟩
      rw [S0.out]
      have hB := bstep bal2 hb1
      have c0_0 : w1.cell? ⟨w.heap.size, 0, none⟩ = some (.int .i64 k0) := bcell hb1 (bcell bal1 (cell_n0 0))
      have c0_1 : w1.cell? ⟨w.heap.size, 1, none⟩ = some (.string sn0) := bcell hb1 (bcell bal1 (cell_n0 1))
      have c0_2 : w1.cell? ⟨w.heap.size, 2, none⟩ = some (.int .i64 u0) := bcell hb1 (bcell bal1 (cell_n0 2))
      have c0_3 : w1.cell? ⟨w.heap.size, 3, none⟩ = some (.int .i64 ka0) := bcell hb1 (bcell bal1 (cell_n0 3))
      have c0_4 : w1.cell? ⟨w.heap.size, 4, none⟩ = some (.slice aa0 na0 qa0) := bcell hb1 (bcell bal1 (cell_n0 4))
      have c0_5 : w1.cell? ⟨w.heap.size, 5, none⟩ = some (.int .i64 kb0) := bcell hb1 (bcell bal1 (cell_n0 5))
      have c0_6 : w1.cell? ⟨w.heap.size, 6, none⟩ = some (.slice ab0 nb0 qb0) := bcell hb1 (bcell bal1 (cell_n0 6))
      have c0_7 : w1.cell? ⟨w.heap.size, 7, none⟩ = some (.int .i64 lb0) := bcell hb1 (bcell bal1 (cell_n0 7))
      have c0_8 : w1.cell? ⟨w.heap.size, 8, none⟩ = some (.slice a0 n0 q0) := bcell hb1 (bcell bal1 (cell_n0 8))
      have c1_0 : w1.cell? ⟨w.heap.size + 1, 0, none⟩ = some (.int .i64 k1) := bcell hb1 (cell_n1 0)
      have c1_1 : w1.cell? ⟨w.heap.size + 1, 1, none⟩ = some (.string sn1) := bcell hb1 (cell_n1 1)
      have c1_2 : w1.cell? ⟨w.heap.size + 1, 2, none⟩ = some (.int .i64 u1) := bcell hb1 (cell_n1 2)
      have c1_3 : w1.cell? ⟨w.heap.size + 1, 3, none⟩ = some (.int .i64 ka1) := bcell hb1 (cell_n1 3)
      have c1_4 : w1.cell? ⟨w.heap.size + 1, 4, none⟩ = some (.slice aa1 na1 qa1) := bcell hb1 (cell_n1 4)
      have c1_5 : w1.cell? ⟨w.heap.size + 1, 5, none⟩ = some (.int .i64 kb1) := bcell hb1 (cell_n1 5)
      have c1_6 : w1.cell? ⟨w.heap.size + 1, 6, none⟩ = some (.slice ab1 nb1 qb1) := bcell hb1 (cell_n1 6)
      have c1_7 : w1.cell? ⟨w.heap.size + 1, 7, none⟩ = some (.int .i64 lb1) := bcell hb1 (cell_n1 7)
      have c1_8 : w1.cell? ⟨w.heap.size + 1, 8, none⟩ = some (.slice a1 n1 q1) := bcell hb1 (cell_n1 8)
      replace r0 := r0.below hB
      replace r1 := r1.below hB
      have dc0_0 := World.block_lt_of_cell? _ _ c0_0
      have dc1_0 := World.block_lt_of_cell? _ _ c1_0
      go_wp2_with fail
      refine (szTerm_any F1 t1 _ _ _ r1 (by omega) (by omega)).mono ?_
      rintro e w2 ⟨rfl, hb2⟩
      rw [S1.out]
      clear dc0_0 dc1_0
      replace c0_0 := bcell (hb2) c0_0
      replace c0_1 := bcell (hb2) c0_1
      replace c0_2 := bcell (hb2) c0_2
      replace c0_3 := bcell (hb2) c0_3
      replace c0_4 := bcell (hb2) c0_4
      replace c0_5 := bcell (hb2) c0_5
      replace c0_6 := bcell (hb2) c0_6
      replace c0_7 := bcell (hb2) c0_7
      replace c0_8 := bcell (hb2) c0_8
      replace c1_0 := bcell (hb2) c1_0
      replace c1_1 := bcell (hb2) c1_1
      replace c1_2 := bcell (hb2) c1_2
      replace c1_3 := bcell (hb2) c1_3
      replace c1_4 := bcell (hb2) c1_4
      replace c1_5 := bcell (hb2) c1_5
      replace c1_6 := bcell (hb2) c1_6
      replace c1_7 := bcell (hb2) c1_7
      replace c1_8 := bcell (hb2) c1_8
      replace r0 := r0.below (hb2)
      replace r1 := r1.below (hb2)
      replace hB := bstep hB (hb2)
      have dc0_0 := World.block_lt_of_cell? _ _ c0_0
      have dc1_0 := World.block_lt_of_cell? _ _ c1_0
      go_wp2_with fail
      go_region_held3 (fun w' => w'.cell? ⟨w.heap.size, 0, none⟩ = some (.int .i64 k0) ∧ w'.cell? ⟨w.heap.size, 1, none⟩ = some (.string sn0) ∧ w'.cell? ⟨w.heap.size, 2, none⟩ = some (.int .i64 u0) ∧ w'.cell? ⟨w.heap.size, 3, none⟩ = some (.int .i64 ka0) ∧ w'.cell? ⟨w.heap.size, 4, none⟩ = some (.slice aa0 na0 qa0) ∧ w'.cell? ⟨w.heap.size, 5, none⟩ = some (.int .i64 kb0) ∧ w'.cell? ⟨w.heap.size, 6, none⟩ = some (.slice ab0 nb0 qb0) ∧ w'.cell? ⟨w.heap.size, 7, none⟩ = some (.int .i64 lb0) ∧ w'.cell? ⟨w.heap.size, 8, none⟩ = some (.slice a0 n0 q0) ∧ w'.cell? ⟨w.heap.size + 1, 0, none⟩ = some (.int .i64 k1) ∧ w'.cell? ⟨w.heap.size + 1, 1, none⟩ = some (.string sn1) ∧ w'.cell? ⟨w.heap.size + 1, 2, none⟩ = some (.int .i64 u1) ∧ w'.cell? ⟨w.heap.size + 1, 3, none⟩ = some (.int .i64 ka1) ∧ w'.cell? ⟨w.heap.size + 1, 4, none⟩ = some (.slice aa1 na1 qa1) ∧ w'.cell? ⟨w.heap.size + 1, 5, none⟩ = some (.int .i64 kb1) ∧ w'.cell? ⟨w.heap.size + 1, 6, none⟩ = some (.slice ab1 nb1 qb1) ∧ w'.cell? ⟨w.heap.size + 1, 7, none⟩ = some (.int .i64 lb1) ∧ w'.cell? ⟨w.heap.size + 1, 8, none⟩ = some (.slice a1 n1 q1))
        (first | go_keep | exact ⟨bcelld hb3 c0_0, bcelld hb3 c0_1, bcelld hb3 c0_2, bcelld hb3 c0_3, bcelld hb3 c0_4, bcelld hb3 c0_5, bcelld hb3 c0_6, bcelld hb3 c0_7, bcelld hb3 c0_8, bcelld hb3 c1_0, bcelld hb3 c1_1, bcelld hb3 c1_2, bcelld hb3 c1_3, bcelld hb3 c1_4, bcelld hb3 c1_5, bcelld hb3 c1_6, bcelld hb3 c1_7, bcelld hb3 c1_8⟩ | exact ⟨bcell hb4 (bcelld hb3 c0_0), bcell hb4 (bcelld hb3 c0_1), bcell hb4 (bcelld hb3 c0_2), bcell hb4 (bcelld hb3 c0_3), bcell hb4 (bcelld hb3 c0_4), bcell hb4 (bcelld hb3 c0_5), bcell hb4 (bcelld hb3 c0_6), bcell hb4 (bcelld hb3 c0_7), bcell hb4 (bcelld hb3 c0_8), bcell hb4 (bcelld hb3 c1_0), bcell hb4 (bcelld hb3 c1_1), bcell hb4 (bcelld hb3 c1_2), bcell hb4 (bcelld hb3 c1_3), bcell hb4 (bcelld hb3 c1_4), bcell hb4 (bcelld hb3 c1_5), bcell hb4 (bcelld hb3 c1_6), bcell hb4 (bcelld hb3 c1_7), bcell hb4 (bcelld hb3 c1_8)⟩ | exact ⟨bcell hb5 (bcell hb4 (bcelld hb3 c0_0)), bcell hb5 (bcell hb4 (bcelld hb3 c0_1)), bcell hb5 (bcell hb4 (bcelld hb3 c0_2)), bcell hb5 (bcell hb4 (bcelld hb3 c0_3)), bcell hb5 (bcell hb4 (bcelld hb3 c0_4)), bcell hb5 (bcell hb4 (bcelld hb3 c0_5)), bcell hb5 (bcell hb4 (bcelld hb3 c0_6)), bcell hb5 (bcell hb4 (bcelld hb3 c0_7)), bcell hb5 (bcell hb4 (bcelld hb3 c0_8)), bcell hb5 (bcell hb4 (bcelld hb3 c1_0)), bcell hb5 (bcell hb4 (bcelld hb3 c1_1)), bcell hb5 (bcell hb4 (bcelld hb3 c1_2)), bcell hb5 (bcell hb4 (bcelld hb3 c1_3)), bcell hb5 (bcell hb4 (bcelld hb3 c1_4)), bcell hb5 (bcell hb4 (bcelld hb3 c1_5)), bcell hb5 (bcell hb4 (bcelld hb3 c1_6)), bcell hb5 (bcell hb4 (bcelld hb3 c1_7)), bcell hb5 (bcell hb4 (bcelld hb3 c1_8))⟩)
        (first | (go_at_call_of 19 (Value.agg #[Value.int IntKind.i64 k0, Value.string sn0, Value.int IntKind.i64 u0, Value.int IntKind.i64 ka0, Value.slice aa0 na0 qa0, Value.int IntKind.i64 kb0, Value.slice ab0 nb0 qb0, Value.int IntKind.i64 lb0, Value.slice a0 n0 q0]); refine (toTerm_any F0 t0 _ _ (r0.below (bdr)) B0.out).mono ?_; rintro e w3 ⟨v3, rfl, hv3, hb3⟩; obtain ⟨k3, sn3, u3, ka3, aa3, na3, qa3, kb3, ab3, nb3, qb3, lb3, a3, n3, q3, rfl⟩ := hv3.shape) | (go_at_call_of 19 (Value.agg #[Value.int IntKind.i64 k1, Value.string sn1, Value.int IntKind.i64 u1, Value.int IntKind.i64 ka1, Value.slice aa1 na1 qa1, Value.int IntKind.i64 kb1, Value.slice ab1 nb1 qb1, Value.int IntKind.i64 lb1, Value.slice a1 n1 q1]); refine (toTerm_any F1 t1 _ _ (r1.below (bstep (bdr) hb3)) B1.out).mono ?_; rintro e w4 ⟨v4, rfl, hv4, hb4⟩; obtain ⟨k4, sn4, u4, ka4, aa4, na4, qa4, kb4, ab4, nb4, qb4, lb4, a4, n4, q4, rfl⟩ := hv4.shape) | (go_at_call 34; refine (specTermPrecise _ _ t0 t1 _ _ _ (hv3.rep.below hb4) hv4.rep).mono ?_; rintro e w5 ⟨rfl, hb5⟩))
      have hst := bstep (bstep (bstep (bdr) hb3) hb4) hb5
      clear dc0_0 dc1_0
      replace c0_0 := bcell (hst) c0_0
      replace c0_1 := bcell (hst) c0_1
      replace c0_2 := bcell (hst) c0_2
      replace c0_3 := bcell (hst) c0_3
      replace c0_4 := bcell (hst) c0_4
      replace c0_5 := bcell (hst) c0_5
      replace c0_6 := bcell (hst) c0_6
      replace c0_7 := bcell (hst) c0_7
      replace c0_8 := bcell (hst) c0_8
      replace c1_0 := bcell (hst) c1_0
      replace c1_1 := bcell (hst) c1_1
      replace c1_2 := bcell (hst) c1_2
      replace c1_3 := bcell (hst) c1_3
      replace c1_4 := bcell (hst) c1_4
      replace c1_5 := bcell (hst) c1_5
      replace c1_6 := bcell (hst) c1_6
      replace c1_7 := bcell (hst) c1_7
      replace c1_8 := bcell (hst) c1_8
      replace r0 := r0.below (hst)
      replace r1 := r1.below (hst)
      replace hB := bstep hB (hst)
      have dc0_0 := World.block_lt_of_cell? _ _ c0_0
      have dc1_0 := World.block_lt_of_cell? _ _ c1_0
      clear hst hb3 hb4 hb5 hv3 hv4
      go_wp2_with fail
      refine (toTerm_any F0 t0 _ _ (r0) B0.out).mono ?_
      rintro e w6 ⟨v6, rfl, hv6, hb6⟩
      obtain ⟨k6, sn6, u6, ka6, aa6, na6, qa6, kb6, ab6, nb6, qb6, lb6, a6, n6, q6, rfl⟩ := hv6.shape
      clear dc0_0 dc1_0
      replace c0_0 := bcell (hb6) c0_0
      replace c0_1 := bcell (hb6) c0_1
      replace c0_2 := bcell (hb6) c0_2
      replace c0_3 := bcell (hb6) c0_3
      replace c0_4 := bcell (hb6) c0_4
      replace c0_5 := bcell (hb6) c0_5
      replace c0_6 := bcell (hb6) c0_6
      replace c0_7 := bcell (hb6) c0_7
      replace c0_8 := bcell (hb6) c0_8
      replace c1_0 := bcell (hb6) c1_0
      replace c1_1 := bcell (hb6) c1_1
      replace c1_2 := bcell (hb6) c1_2
      replace c1_3 := bcell (hb6) c1_3
      replace c1_4 := bcell (hb6) c1_4
      replace c1_5 := bcell (hb6) c1_5
      replace c1_6 := bcell (hb6) c1_6
      replace c1_7 := bcell (hb6) c1_7
      replace c1_8 := bcell (hb6) c1_8
      replace r0 := r0.below (hb6)
      replace r1 := r1.below (hb6)
      replace hB := bstep hB (hb6)
      have dc0_0 := World.block_lt_of_cell? _ _ c0_0
      have dc1_0 := World.block_lt_of_cell? _ _ c1_0
      go_wp2_with fail
      refine (toTerm_any F1 t1 _ _ (r1.below bal1) B1.out).mono ?_
      rintro e w7 ⟨v7, rfl, hv7, hb7⟩
      obtain ⟨k7, sn7, u7, ka7, aa7, na7, qa7, kb7, ab7, nb7, qb7, lb7, a7, n7, q7, rfl⟩ := hv7.shape
      clear dc0_0 dc1_0
      replace c0_0 := bcell (bstep bal1 hb7) c0_0
      replace c0_1 := bcell (bstep bal1 hb7) c0_1
      replace c0_2 := bcell (bstep bal1 hb7) c0_2
      replace c0_3 := bcell (bstep bal1 hb7) c0_3
      replace c0_4 := bcell (bstep bal1 hb7) c0_4
      replace c0_5 := bcell (bstep bal1 hb7) c0_5
      replace c0_6 := bcell (bstep bal1 hb7) c0_6
      replace c0_7 := bcell (bstep bal1 hb7) c0_7
      replace c0_8 := bcell (bstep bal1 hb7) c0_8
      replace c1_0 := bcell (bstep bal1 hb7) c1_0
      replace c1_1 := bcell (bstep bal1 hb7) c1_1
      replace c1_2 := bcell (bstep bal1 hb7) c1_2
      replace c1_3 := bcell (bstep bal1 hb7) c1_3
      replace c1_4 := bcell (bstep bal1 hb7) c1_4
      replace c1_5 := bcell (bstep bal1 hb7) c1_5
      replace c1_6 := bcell (bstep bal1 hb7) c1_6
      replace c1_7 := bcell (bstep bal1 hb7) c1_7
      replace c1_8 := bcell (bstep bal1 hb7) c1_8
      replace r0 := r0.below (bstep bal1 hb7)
      replace r1 := r1.below (bstep bal1 hb7)
      replace hv6 := hv6.below (bstep bal1 hb7)
      replace hB := bstep hB (bstep bal1 hb7)
      have dc0_0 := World.block_lt_of_cell? _ _ c0_0
      have dc1_0 := World.block_lt_of_cell? _ _ c1_0
      have x0_0 : w7.cell? ⟨w6.heap.size, 0, none⟩ = some (.int .i64 k6) := bcell hb7 (cell_n0 0)
      have dx0_0 := World.block_lt_of_cell? _ _ x0_0
      have x0_1 : w7.cell? ⟨w6.heap.size, 1, none⟩ = some (.string sn6) := bcell hb7 (cell_n0 1)
      have x0_2 : w7.cell? ⟨w6.heap.size, 2, none⟩ = some (.int .i64 u6) := bcell hb7 (cell_n0 2)
      have x0_3 : w7.cell? ⟨w6.heap.size, 3, none⟩ = some (.int .i64 ka6) := bcell hb7 (cell_n0 3)
      have x0_4 : w7.cell? ⟨w6.heap.size, 4, none⟩ = some (.slice aa6 na6 qa6) := bcell hb7 (cell_n0 4)
      have x0_5 : w7.cell? ⟨w6.heap.size, 5, none⟩ = some (.int .i64 kb6) := bcell hb7 (cell_n0 5)
      have x0_6 : w7.cell? ⟨w6.heap.size, 6, none⟩ = some (.slice ab6 nb6 qb6) := bcell hb7 (cell_n0 6)
      have x0_7 : w7.cell? ⟨w6.heap.size, 7, none⟩ = some (.int .i64 lb6) := bcell hb7 (cell_n0 7)
      have x0_8 : w7.cell? ⟨w6.heap.size, 8, none⟩ = some (.slice a6 n6 q6) := bcell hb7 (cell_n0 8)
      go_wp2_with fail
      refine (implTermPrecise _ _ t0 t1 _ _ _ (hv6.rep.below bal1) (hv7.rep.below bal1)).mono ?_
      rintro e w8 ⟨rfl, hb8⟩
      clear dc0_0 dc1_0 dx0_0
      replace c0_0 := bcell (bstep bal1 hb8) c0_0
      replace c0_1 := bcell (bstep bal1 hb8) c0_1
      replace c0_2 := bcell (bstep bal1 hb8) c0_2
      replace c0_3 := bcell (bstep bal1 hb8) c0_3
      replace c0_4 := bcell (bstep bal1 hb8) c0_4
      replace c0_5 := bcell (bstep bal1 hb8) c0_5
      replace c0_6 := bcell (bstep bal1 hb8) c0_6
      replace c0_7 := bcell (bstep bal1 hb8) c0_7
      replace c0_8 := bcell (bstep bal1 hb8) c0_8
      replace c1_0 := bcell (bstep bal1 hb8) c1_0
      replace c1_1 := bcell (bstep bal1 hb8) c1_1
      replace c1_2 := bcell (bstep bal1 hb8) c1_2
      replace c1_3 := bcell (bstep bal1 hb8) c1_3
      replace c1_4 := bcell (bstep bal1 hb8) c1_4
      replace c1_5 := bcell (bstep bal1 hb8) c1_5
      replace c1_6 := bcell (bstep bal1 hb8) c1_6
      replace c1_7 := bcell (bstep bal1 hb8) c1_7
      replace c1_8 := bcell (bstep bal1 hb8) c1_8
      replace x0_0 := bcell (bstep bal1 hb8) x0_0
      replace x0_1 := bcell (bstep bal1 hb8) x0_1
      replace x0_2 := bcell (bstep bal1 hb8) x0_2
      replace x0_3 := bcell (bstep bal1 hb8) x0_3
      replace x0_4 := bcell (bstep bal1 hb8) x0_4
      replace x0_5 := bcell (bstep bal1 hb8) x0_5
      replace x0_6 := bcell (bstep bal1 hb8) x0_6
      replace x0_7 := bcell (bstep bal1 hb8) x0_7
      replace x0_8 := bcell (bstep bal1 hb8) x0_8
      replace r0 := r0.below (bstep bal1 hb8)
      replace r1 := r1.below (bstep bal1 hb8)
      replace hv6 := hv6.below (bstep bal1 hb8)
      replace hv7 := hv7.below (bstep bal1 hb8)
      replace hB := bstep hB (bstep bal1 hb8)
      have dc0_0 := World.block_lt_of_cell? _ _ c0_0
      have dc1_0 := World.block_lt_of_cell? _ _ c1_0
      have dx0_0 := World.block_lt_of_cell? _ _ x0_0
      have x1_0 : w8.cell? ⟨w7.heap.size, 0, none⟩ = some (.int .i64 k7) := bcell hb8 (cell_n0 0)
      have dx1_0 := World.block_lt_of_cell? _ _ x1_0
      have x1_1 : w8.cell? ⟨w7.heap.size, 1, none⟩ = some (.string sn7) := bcell hb8 (cell_n0 1)
      have x1_2 : w8.cell? ⟨w7.heap.size, 2, none⟩ = some (.int .i64 u7) := bcell hb8 (cell_n0 2)
      have x1_3 : w8.cell? ⟨w7.heap.size, 3, none⟩ = some (.int .i64 ka7) := bcell hb8 (cell_n0 3)
      have x1_4 : w8.cell? ⟨w7.heap.size, 4, none⟩ = some (.slice aa7 na7 qa7) := bcell hb8 (cell_n0 4)
      have x1_5 : w8.cell? ⟨w7.heap.size, 5, none⟩ = some (.int .i64 kb7) := bcell hb8 (cell_n0 5)
      have x1_6 : w8.cell? ⟨w7.heap.size, 6, none⟩ = some (.slice ab7 nb7 qb7) := bcell hb8 (cell_n0 6)
      have x1_7 : w8.cell? ⟨w7.heap.size, 7, none⟩ = some (.int .i64 lb7) := bcell hb8 (cell_n0 7)
      have x1_8 : w8.cell? ⟨w7.heap.size, 8, none⟩ = some (.slice a7 n7 q7) := bcell hb8 (cell_n0 8)
      go_wp2_with fail
      go_region_held3 (fun w' => w'.cell? ⟨w6.heap.size, 0, none⟩ = some (.int .i64 k6) ∧ w'.cell? ⟨w6.heap.size, 1, none⟩ = some (.string sn6) ∧ w'.cell? ⟨w6.heap.size, 2, none⟩ = some (.int .i64 u6) ∧ w'.cell? ⟨w6.heap.size, 3, none⟩ = some (.int .i64 ka6) ∧ w'.cell? ⟨w6.heap.size, 4, none⟩ = some (.slice aa6 na6 qa6) ∧ w'.cell? ⟨w6.heap.size, 5, none⟩ = some (.int .i64 kb6) ∧ w'.cell? ⟨w6.heap.size, 6, none⟩ = some (.slice ab6 nb6 qb6) ∧ w'.cell? ⟨w6.heap.size, 7, none⟩ = some (.int .i64 lb6) ∧ w'.cell? ⟨w6.heap.size, 8, none⟩ = some (.slice a6 n6 q6) ∧ w'.cell? ⟨w.heap.size, 0, none⟩ = some (.int .i64 k0) ∧ w'.cell? ⟨w.heap.size, 1, none⟩ = some (.string sn0) ∧ w'.cell? ⟨w.heap.size, 2, none⟩ = some (.int .i64 u0) ∧ w'.cell? ⟨w.heap.size, 3, none⟩ = some (.int .i64 ka0) ∧ w'.cell? ⟨w.heap.size, 4, none⟩ = some (.slice aa0 na0 qa0) ∧ w'.cell? ⟨w.heap.size, 5, none⟩ = some (.int .i64 kb0) ∧ w'.cell? ⟨w.heap.size, 6, none⟩ = some (.slice ab0 nb0 qb0) ∧ w'.cell? ⟨w.heap.size, 7, none⟩ = some (.int .i64 lb0) ∧ w'.cell? ⟨w.heap.size, 8, none⟩ = some (.slice a0 n0 q0))
        (first | go_keep | exact ⟨bcelld hb9 x0_0, bcelld hb9 x0_1, bcelld hb9 x0_2, bcelld hb9 x0_3, bcelld hb9 x0_4, bcelld hb9 x0_5, bcelld hb9 x0_6, bcelld hb9 x0_7, bcelld hb9 x0_8, bcelld hb9 c0_0, bcelld hb9 c0_1, bcelld hb9 c0_2, bcelld hb9 c0_3, bcelld hb9 c0_4, bcelld hb9 c0_5, bcelld hb9 c0_6, bcelld hb9 c0_7, bcelld hb9 c0_8⟩ | exact ⟨bcell hb10 (bcelld hb9 x0_0), bcell hb10 (bcelld hb9 x0_1), bcell hb10 (bcelld hb9 x0_2), bcell hb10 (bcelld hb9 x0_3), bcell hb10 (bcelld hb9 x0_4), bcell hb10 (bcelld hb9 x0_5), bcell hb10 (bcelld hb9 x0_6), bcell hb10 (bcelld hb9 x0_7), bcell hb10 (bcelld hb9 x0_8), bcell hb10 (bcelld hb9 c0_0), bcell hb10 (bcelld hb9 c0_1), bcell hb10 (bcelld hb9 c0_2), bcell hb10 (bcelld hb9 c0_3), bcell hb10 (bcelld hb9 c0_4), bcell hb10 (bcelld hb9 c0_5), bcell hb10 (bcelld hb9 c0_6), bcell hb10 (bcelld hb9 c0_7), bcell hb10 (bcelld hb9 c0_8)⟩)
        (first | (go_at_call 19; refine (toTerm_any F0 t0 _ _ (r0.below bdr) B0.out).mono ?_; rintro e w9 ⟨v9, rfl, hv9, hb9⟩; obtain ⟨k9, sn9, u9, ka9, aa9, na9, qa9, kb9, ab9, nb9, qb9, lb9, a9, n9, q9, rfl⟩ := hv9.shape) | (go_at_call 22; refine (eqTerm_refl _ _ t0 _ _ _ (hv6.rep.below (bstep bdr hb9)) hv9.rep).mono ?_; rintro e w10 ⟨rfl, hb10⟩))
      have hst := bstep (bstep bdr hb9) hb10
      clear dc0_0 dc1_0 dx0_0 dx1_0
      replace c0_0 := bcell (hst) c0_0
      replace c0_1 := bcell (hst) c0_1
      replace c0_2 := bcell (hst) c0_2
      replace c0_3 := bcell (hst) c0_3
      replace c0_4 := bcell (hst) c0_4
      replace c0_5 := bcell (hst) c0_5
      replace c0_6 := bcell (hst) c0_6
      replace c0_7 := bcell (hst) c0_7
      replace c0_8 := bcell (hst) c0_8
      replace c1_0 := bcell (hst) c1_0
      replace c1_1 := bcell (hst) c1_1
      replace c1_2 := bcell (hst) c1_2
      replace c1_3 := bcell (hst) c1_3
      replace c1_4 := bcell (hst) c1_4
      replace c1_5 := bcell (hst) c1_5
      replace c1_6 := bcell (hst) c1_6
      replace c1_7 := bcell (hst) c1_7
      replace c1_8 := bcell (hst) c1_8
      replace x0_0 := bcell (hst) x0_0
      replace x0_1 := bcell (hst) x0_1
      replace x0_2 := bcell (hst) x0_2
      replace x0_3 := bcell (hst) x0_3
      replace x0_4 := bcell (hst) x0_4
      replace x0_5 := bcell (hst) x0_5
      replace x0_6 := bcell (hst) x0_6
      replace x0_7 := bcell (hst) x0_7
      replace x0_8 := bcell (hst) x0_8
      replace x1_0 := bcell (hst) x1_0
      replace x1_1 := bcell (hst) x1_1
      replace x1_2 := bcell (hst) x1_2
      replace x1_3 := bcell (hst) x1_3
      replace x1_4 := bcell (hst) x1_4
      replace x1_5 := bcell (hst) x1_5
      replace x1_6 := bcell (hst) x1_6
      replace x1_7 := bcell (hst) x1_7
      replace x1_8 := bcell (hst) x1_8
      replace r0 := r0.below (hst)
      replace r1 := r1.below (hst)
      replace hv6 := hv6.below (hst)
      replace hv7 := hv7.below (hst)
      replace hB := bstep hB (hst)
      have dc0_0 := World.block_lt_of_cell? _ _ c0_0
      have dc1_0 := World.block_lt_of_cell? _ _ c1_0
      have dx0_0 := World.block_lt_of_cell? _ _ x0_0
      have dx1_0 := World.block_lt_of_cell? _ _ x1_0
      clear hst hb9 hb10 hv9
      go_wp2_with fail
      go_region_held3 (fun w' => w'.cell? ⟨w7.heap.size, 0, none⟩ = some (.int .i64 k7) ∧ w'.cell? ⟨w7.heap.size, 1, none⟩ = some (.string sn7) ∧ w'.cell? ⟨w7.heap.size, 2, none⟩ = some (.int .i64 u7) ∧ w'.cell? ⟨w7.heap.size, 3, none⟩ = some (.int .i64 ka7) ∧ w'.cell? ⟨w7.heap.size, 4, none⟩ = some (.slice aa7 na7 qa7) ∧ w'.cell? ⟨w7.heap.size, 5, none⟩ = some (.int .i64 kb7) ∧ w'.cell? ⟨w7.heap.size, 6, none⟩ = some (.slice ab7 nb7 qb7) ∧ w'.cell? ⟨w7.heap.size, 7, none⟩ = some (.int .i64 lb7) ∧ w'.cell? ⟨w7.heap.size, 8, none⟩ = some (.slice a7 n7 q7) ∧ w'.cell? ⟨w.heap.size + 1, 0, none⟩ = some (.int .i64 k1) ∧ w'.cell? ⟨w.heap.size + 1, 1, none⟩ = some (.string sn1) ∧ w'.cell? ⟨w.heap.size + 1, 2, none⟩ = some (.int .i64 u1) ∧ w'.cell? ⟨w.heap.size + 1, 3, none⟩ = some (.int .i64 ka1) ∧ w'.cell? ⟨w.heap.size + 1, 4, none⟩ = some (.slice aa1 na1 qa1) ∧ w'.cell? ⟨w.heap.size + 1, 5, none⟩ = some (.int .i64 kb1) ∧ w'.cell? ⟨w.heap.size + 1, 6, none⟩ = some (.slice ab1 nb1 qb1) ∧ w'.cell? ⟨w.heap.size + 1, 7, none⟩ = some (.int .i64 lb1) ∧ w'.cell? ⟨w.heap.size + 1, 8, none⟩ = some (.slice a1 n1 q1))
        (first | go_keep | exact ⟨bcelld hb11 x1_0, bcelld hb11 x1_1, bcelld hb11 x1_2, bcelld hb11 x1_3, bcelld hb11 x1_4, bcelld hb11 x1_5, bcelld hb11 x1_6, bcelld hb11 x1_7, bcelld hb11 x1_8, bcelld hb11 c1_0, bcelld hb11 c1_1, bcelld hb11 c1_2, bcelld hb11 c1_3, bcelld hb11 c1_4, bcelld hb11 c1_5, bcelld hb11 c1_6, bcelld hb11 c1_7, bcelld hb11 c1_8⟩ | exact ⟨bcell hb12 (bcelld hb11 x1_0), bcell hb12 (bcelld hb11 x1_1), bcell hb12 (bcelld hb11 x1_2), bcell hb12 (bcelld hb11 x1_3), bcell hb12 (bcelld hb11 x1_4), bcell hb12 (bcelld hb11 x1_5), bcell hb12 (bcelld hb11 x1_6), bcell hb12 (bcelld hb11 x1_7), bcell hb12 (bcelld hb11 x1_8), bcell hb12 (bcelld hb11 c1_0), bcell hb12 (bcelld hb11 c1_1), bcell hb12 (bcelld hb11 c1_2), bcell hb12 (bcelld hb11 c1_3), bcell hb12 (bcelld hb11 c1_4), bcell hb12 (bcelld hb11 c1_5), bcell hb12 (bcelld hb11 c1_6), bcell hb12 (bcelld hb11 c1_7), bcell hb12 (bcelld hb11 c1_8)⟩)
        (first | (go_at_call 19; refine (toTerm_any F1 t1 _ _ (r1.below bdr) B1.out).mono ?_; rintro e w11 ⟨v11, rfl, hv11, hb11⟩; obtain ⟨k11, sn11, u11, ka11, aa11, na11, qa11, kb11, ab11, nb11, qb11, lb11, a11, n11, q11, rfl⟩ := hv11.shape) | (go_at_call 22; refine (eqTerm_refl _ _ t1 _ _ _ (hv7.rep.below (bstep bdr hb11)) hv11.rep).mono ?_; rintro e w12 ⟨rfl, hb12⟩))
      have hst := bstep (bstep bdr hb11) hb12
      clear dc0_0 dc1_0 dx0_0 dx1_0
      replace c0_0 := bcell (hst) c0_0
      replace c0_1 := bcell (hst) c0_1
      replace c0_2 := bcell (hst) c0_2
      replace c0_3 := bcell (hst) c0_3
      replace c0_4 := bcell (hst) c0_4
      replace c0_5 := bcell (hst) c0_5
      replace c0_6 := bcell (hst) c0_6
      replace c0_7 := bcell (hst) c0_7
      replace c0_8 := bcell (hst) c0_8
      replace c1_0 := bcell (hst) c1_0
      replace c1_1 := bcell (hst) c1_1
      replace c1_2 := bcell (hst) c1_2
      replace c1_3 := bcell (hst) c1_3
      replace c1_4 := bcell (hst) c1_4
      replace c1_5 := bcell (hst) c1_5
      replace c1_6 := bcell (hst) c1_6
      replace c1_7 := bcell (hst) c1_7
      replace c1_8 := bcell (hst) c1_8
      replace x0_0 := bcell (hst) x0_0
      replace x0_1 := bcell (hst) x0_1
      replace x0_2 := bcell (hst) x0_2
      replace x0_3 := bcell (hst) x0_3
      replace x0_4 := bcell (hst) x0_4
      replace x0_5 := bcell (hst) x0_5
      replace x0_6 := bcell (hst) x0_6
      replace x0_7 := bcell (hst) x0_7
      replace x0_8 := bcell (hst) x0_8
      replace x1_0 := bcell (hst) x1_0
      replace x1_1 := bcell (hst) x1_1
      replace x1_2 := bcell (hst) x1_2
      replace x1_3 := bcell (hst) x1_3
      replace x1_4 := bcell (hst) x1_4
      replace x1_5 := bcell (hst) x1_5
      replace x1_6 := bcell (hst) x1_6
      replace x1_7 := bcell (hst) x1_7
      replace x1_8 := bcell (hst) x1_8
      replace r0 := r0.below (hst)
      replace r1 := r1.below (hst)
      replace hv6 := hv6.below (hst)
      replace hv7 := hv7.below (hst)
      replace hB := bstep hB (hst)
      have dc0_0 := World.block_lt_of_cell? _ _ c0_0
      have dc1_0 := World.block_lt_of_cell? _ _ c1_0
      have dx0_0 := World.block_lt_of_cell? _ _ x0_0
      have dx1_0 := World.block_lt_of_cell? _ _ x1_0
      clear hst hb11 hb12 hv11
      go_wp2_with fail
      go_ret
      exact ⟨rfl, hB⟩
    · have s1 := szr_neg h1
      have l0 : 0 ≤ (1048576 - (t0.cnt : Int)) := by omega
      have m0 : (1048576 - (t0.cnt : Int)) ≤ 1048576 := by omega
      have S0 := Lib.hid s0
      have S1 := Lib.hid s1
      clear s0 h0 s1 h1
      go_enter Try.func8, Try.ntmps8
      go_wp2_with fail
      refine (szTerm_any F0 t0 _ _ _ (r0.below bal2) (by omega) (by omega)).mono ?_
      rintro e w1 ⟨rfl, hb1⟩
      rw [S0.out]
      have hB := bstep bal2 hb1
      have c0_0 : w1.cell? ⟨w.heap.size, 0, none⟩ = some (.int .i64 k0) := bcell hb1 (bcell bal1 (cell_n0 0))
      have c0_1 : w1.cell? ⟨w.heap.size, 1, none⟩ = some (.string sn0) := bcell hb1 (bcell bal1 (cell_n0 1))
      have c0_2 : w1.cell? ⟨w.heap.size, 2, none⟩ = some (.int .i64 u0) := bcell hb1 (bcell bal1 (cell_n0 2))
      have c0_3 : w1.cell? ⟨w.heap.size, 3, none⟩ = some (.int .i64 ka0) := bcell hb1 (bcell bal1 (cell_n0 3))
      have c0_4 : w1.cell? ⟨w.heap.size, 4, none⟩ = some (.slice aa0 na0 qa0) := bcell hb1 (bcell bal1 (cell_n0 4))
      have c0_5 : w1.cell? ⟨w.heap.size, 5, none⟩ = some (.int .i64 kb0) := bcell hb1 (bcell bal1 (cell_n0 5))
      have c0_6 : w1.cell? ⟨w.heap.size, 6, none⟩ = some (.slice ab0 nb0 qb0) := bcell hb1 (bcell bal1 (cell_n0 6))
      have c0_7 : w1.cell? ⟨w.heap.size, 7, none⟩ = some (.int .i64 lb0) := bcell hb1 (bcell bal1 (cell_n0 7))
      have c0_8 : w1.cell? ⟨w.heap.size, 8, none⟩ = some (.slice a0 n0 q0) := bcell hb1 (bcell bal1 (cell_n0 8))
      have c1_0 : w1.cell? ⟨w.heap.size + 1, 0, none⟩ = some (.int .i64 k1) := bcell hb1 (cell_n1 0)
      have c1_1 : w1.cell? ⟨w.heap.size + 1, 1, none⟩ = some (.string sn1) := bcell hb1 (cell_n1 1)
      have c1_2 : w1.cell? ⟨w.heap.size + 1, 2, none⟩ = some (.int .i64 u1) := bcell hb1 (cell_n1 2)
      have c1_3 : w1.cell? ⟨w.heap.size + 1, 3, none⟩ = some (.int .i64 ka1) := bcell hb1 (cell_n1 3)
      have c1_4 : w1.cell? ⟨w.heap.size + 1, 4, none⟩ = some (.slice aa1 na1 qa1) := bcell hb1 (cell_n1 4)
      have c1_5 : w1.cell? ⟨w.heap.size + 1, 5, none⟩ = some (.int .i64 kb1) := bcell hb1 (cell_n1 5)
      have c1_6 : w1.cell? ⟨w.heap.size + 1, 6, none⟩ = some (.slice ab1 nb1 qb1) := bcell hb1 (cell_n1 6)
      have c1_7 : w1.cell? ⟨w.heap.size + 1, 7, none⟩ = some (.int .i64 lb1) := bcell hb1 (cell_n1 7)
      have c1_8 : w1.cell? ⟨w.heap.size + 1, 8, none⟩ = some (.slice a1 n1 q1) := bcell hb1 (cell_n1 8)
      replace r0 := r0.below hB
      replace r1 := r1.below hB
      have dc0_0 := World.block_lt_of_cell? _ _ c0_0
      have dc1_0 := World.block_lt_of_cell? _ _ c1_0
      go_wp2_with fail
      refine (szTerm_any F1 t1 _ _ _ r1 (by omega) (by omega)).mono ?_
      rintro e w2 ⟨rfl, hb2⟩
      rw [S1.out]
      clear dc0_0 dc1_0
      replace c0_0 := bcell (hb2) c0_0
      replace c0_1 := bcell (hb2) c0_1
      replace c0_2 := bcell (hb2) c0_2
      replace c0_3 := bcell (hb2) c0_3
      replace c0_4 := bcell (hb2) c0_4
      replace c0_5 := bcell (hb2) c0_5
      replace c0_6 := bcell (hb2) c0_6
      replace c0_7 := bcell (hb2) c0_7
      replace c0_8 := bcell (hb2) c0_8
      replace c1_0 := bcell (hb2) c1_0
      replace c1_1 := bcell (hb2) c1_1
      replace c1_2 := bcell (hb2) c1_2
      replace c1_3 := bcell (hb2) c1_3
      replace c1_4 := bcell (hb2) c1_4
      replace c1_5 := bcell (hb2) c1_5
      replace c1_6 := bcell (hb2) c1_6
      replace c1_7 := bcell (hb2) c1_7
      replace c1_8 := bcell (hb2) c1_8
      replace r0 := r0.below (hb2)
      replace r1 := r1.below (hb2)
      replace hB := bstep hB (hb2)
      have dc0_0 := World.block_lt_of_cell? _ _ c0_0
      have dc1_0 := World.block_lt_of_cell? _ _ c1_0
      go_wp2_with fail
      go_ret
      exact ⟨rfl, hB⟩
  · have s0 := szr_neg h0
    have S0 := Lib.hid s0
    clear s0 h0
    go_enter Try.func8, Try.ntmps8
    go_wp2_with fail
    refine (szTerm_any F0 t0 _ _ _ (r0.below bal2) (by omega) (by omega)).mono ?_
    rintro e w1 ⟨rfl, hb1⟩
    rw [S0.out]
    have hB := bstep bal2 hb1
    have c0_0 : w1.cell? ⟨w.heap.size, 0, none⟩ = some (.int .i64 k0) := bcell hb1 (bcell bal1 (cell_n0 0))
    have c0_1 : w1.cell? ⟨w.heap.size, 1, none⟩ = some (.string sn0) := bcell hb1 (bcell bal1 (cell_n0 1))
    have c0_2 : w1.cell? ⟨w.heap.size, 2, none⟩ = some (.int .i64 u0) := bcell hb1 (bcell bal1 (cell_n0 2))
    have c0_3 : w1.cell? ⟨w.heap.size, 3, none⟩ = some (.int .i64 ka0) := bcell hb1 (bcell bal1 (cell_n0 3))
    have c0_4 : w1.cell? ⟨w.heap.size, 4, none⟩ = some (.slice aa0 na0 qa0) := bcell hb1 (bcell bal1 (cell_n0 4))
    have c0_5 : w1.cell? ⟨w.heap.size, 5, none⟩ = some (.int .i64 kb0) := bcell hb1 (bcell bal1 (cell_n0 5))
    have c0_6 : w1.cell? ⟨w.heap.size, 6, none⟩ = some (.slice ab0 nb0 qb0) := bcell hb1 (bcell bal1 (cell_n0 6))
    have c0_7 : w1.cell? ⟨w.heap.size, 7, none⟩ = some (.int .i64 lb0) := bcell hb1 (bcell bal1 (cell_n0 7))
    have c0_8 : w1.cell? ⟨w.heap.size, 8, none⟩ = some (.slice a0 n0 q0) := bcell hb1 (bcell bal1 (cell_n0 8))
    have c1_0 : w1.cell? ⟨w.heap.size + 1, 0, none⟩ = some (.int .i64 k1) := bcell hb1 (cell_n1 0)
    have c1_1 : w1.cell? ⟨w.heap.size + 1, 1, none⟩ = some (.string sn1) := bcell hb1 (cell_n1 1)
    have c1_2 : w1.cell? ⟨w.heap.size + 1, 2, none⟩ = some (.int .i64 u1) := bcell hb1 (cell_n1 2)
    have c1_3 : w1.cell? ⟨w.heap.size + 1, 3, none⟩ = some (.int .i64 ka1) := bcell hb1 (cell_n1 3)
    have c1_4 : w1.cell? ⟨w.heap.size + 1, 4, none⟩ = some (.slice aa1 na1 qa1) := bcell hb1 (cell_n1 4)
    have c1_5 : w1.cell? ⟨w.heap.size + 1, 5, none⟩ = some (.int .i64 kb1) := bcell hb1 (cell_n1 5)
    have c1_6 : w1.cell? ⟨w.heap.size + 1, 6, none⟩ = some (.slice ab1 nb1 qb1) := bcell hb1 (cell_n1 6)
    have c1_7 : w1.cell? ⟨w.heap.size + 1, 7, none⟩ = some (.int .i64 lb1) := bcell hb1 (cell_n1 7)
    have c1_8 : w1.cell? ⟨w.heap.size + 1, 8, none⟩ = some (.slice a1 n1 q1) := bcell hb1 (cell_n1 8)
    replace r0 := r0.below hB
    replace r1 := r1.below hB
    have dc0_0 := World.block_lt_of_cell? _ _ c0_0
    have dc1_0 := World.block_lt_of_cell? _ _ c1_0
    go_wp2_with fail
    go_ret
    exact ⟨rfl, hB⟩
end Go.Proofs.Ytghgjpcibdfbmaa
