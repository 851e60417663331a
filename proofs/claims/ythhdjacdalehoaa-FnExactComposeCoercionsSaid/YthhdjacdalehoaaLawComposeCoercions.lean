/-
  FnExactComposeCoercions returns true: the walk.
-/
import Derived.Test.YthhdjacdalehoaaLaCo
import Derived.Test.YthhdjacdalehoaaB11
import Derived.Test.YthhdjacdalehoaaCoComp
namespace Go.Proofs.Ythhdjacdalehoaa
open Go.RowKit
set_option maxRecDepth 100000
set_option linter.unusedVariables false
set_option linter.unusedSimpArgs false

set_option maxHeartbeats 8000000 in
theorem walk_FnExactComposeCoercions (F0 F1 : Nat → Prop) (t0 : Co) (t1 : Co) (y0 y1 : Value) (w : World) (r0 : CoRep F0 w t0 y0) (r1 : CoRep F1 w t1 y1) :
    Calls Try.prog 3 #[y0, y1] w fun e w' => e = .returned (.bool true) ∧ Below w.heap.size w w' := by
  replace r0 := r0.old
  obtain ⟨k0, gt0, lb0, a0, n0, q0, rfl⟩ := r0.shape
  replace r1 := r1.old
  obtain ⟨k1, gt1, lb1, a1, n1, q1, rfl⟩ := r1.shape
  by_cases h0 : (t0.cnt : Int) ≤ 1048576
  · have s0 := szr_pos h0
    by_cases h1 : (t1.cnt : Int) ≤ (1048576 - (t0.cnt : Int))
    · have s1 := szr_pos h1
      have l0 : 0 ≤ (1048576 - (t0.cnt : Int)) := by omega
      have m0 : (1048576 - (t0.cnt : Int)) ≤ 1048576 := by omega
      have b0 : t0.cnt ≤ 1048576 := by omega
      have l1 : 0 ≤ ((1048576 - (t0.cnt : Int)) - (t1.cnt : Int)) := by omega
      have m1 : ((1048576 - (t0.cnt : Int)) - (t1.cnt : Int)) ≤ 1048576 := by omega
      have b1 : t1.cnt ≤ 1048576 := by omega
      obtain ⟨K0, hK0⟩ : ∃ x : Int, 1 + ((3 * t0.cnt : Nat) : Int) = x := ⟨_, rfl⟩
      have gK0 : 0 ≤ K0 := by omega
      have uK0 : 1 + ((3 * t0.cnt : Nat) : Int) ≤ 1099511627776 := by omega
      have vK0 : K0 ≤ 1099511627776 := by omega
      obtain ⟨K1, hK1⟩ : ∃ x : Int, K0 + ((3 * t1.cnt : Nat) : Int) = x := ⟨_, rfl⟩
      have gK1 : 0 ≤ K1 := by omega
      have uK1 : K0 + ((3 * t1.cnt : Nat) : Int) ≤ 1099511627776 := by omega
      have vK1 : K1 ≤ 1099511627776 := by omega
      have T0 := compT_cnt t0 t1
      obtain ⟨M0, hM0⟩ : ∃ x : Int, 1 + ((3 * (compT t0 t1).cnt : Nat) : Int) = x := ⟨_, rfl⟩
      have gM0 : 0 ≤ M0 := by omega
      have uM0 : 1 + ((3 * (compT t0 t1).cnt : Nat) : Int) ≤ 1099511627776 := by omega
      have Hs0 := Lib.hid s0
      have Hs1 := Lib.hid s1
      have Hb0 := Lib.hid b0
      have Hb1 := Lib.hid b1
      have HhK0 := Lib.hid hK0
      have HhK1 := Lib.hid hK1
      have HuK0 := Lib.hid uK0
      have HuK1 := Lib.hid uK1
      have HvK0 := Lib.hid vK0
      have HvK1 := Lib.hid vK1
      have HT0 := Lib.hid T0
      have HhM0 := Lib.hid hM0
      have HuM0 := Lib.hid uM0
      have S0 := Hs0
      have S1 := Hs1
      clear s0 s1 b0 b1 hK0 hK1 uK0 uK1 vK0 vK1 T0 hM0 uM0 h0 h1
      go_enter Try.func3, Try.ntmps3
      go_wp2_with fail
      refine (szCoercion_any _ t0 _ _ _ (r0.below bal2) (by omega) (by omega)).mono ?_
      rintro e w1 ⟨rfl, hb1⟩
      rw [S0.out]
      have hB := bstep bal2 hb1
      have zw1 := hB.size
      have zpw1 : w.heap.size + 2 ≤ w1.heap.size := by have := hb1.size; simp at this; omega
      have c0_0 : w1.cell? ⟨w.heap.size, 0, none⟩ = some (.int .i64 k0) := bcell hb1 (bcell bal1 (cell_n0 0))
      have c0_1 : w1.cell? ⟨w.heap.size, 1, none⟩ = some (.int .i64 gt0) := bcell hb1 (bcell bal1 (cell_n0 1))
      have c0_2 : w1.cell? ⟨w.heap.size, 2, none⟩ = some (.int .i64 lb0) := bcell hb1 (bcell bal1 (cell_n0 2))
      have c0_3 : w1.cell? ⟨w.heap.size, 3, none⟩ = some (.slice a0 n0 q0) := bcell hb1 (bcell bal1 (cell_n0 3))
      have c1_0 : w1.cell? ⟨w.heap.size + 1, 0, none⟩ = some (.int .i64 k1) := bcell hb1 (cell_n1 0)
      have c1_1 : w1.cell? ⟨w.heap.size + 1, 1, none⟩ = some (.int .i64 gt1) := bcell hb1 (cell_n1 1)
      have c1_2 : w1.cell? ⟨w.heap.size + 1, 2, none⟩ = some (.int .i64 lb1) := bcell hb1 (cell_n1 2)
      have c1_3 : w1.cell? ⟨w.heap.size + 1, 3, none⟩ = some (.slice a1 n1 q1) := bcell hb1 (cell_n1 3)
      replace r0 := r0.below hB
      replace r1 := r1.below hB
      have dc0_0 := World.block_lt_of_cell? _ _ c0_0
      have dc1_0 := World.block_lt_of_cell? _ _ c1_0
      go_wp2_with fail
      refine (szCoercion_any _ t1 _ _ _ r1 (by omega) (by omega)).mono ?_
      rintro e w2 ⟨rfl, hb2⟩
      rw [S1.out]
      have hst := hb2
      clear dc0_0 dc1_0
      replace c0_0 := bcell hst c0_0
      replace c0_1 := bcell hst c0_1
      replace c0_2 := bcell hst c0_2
      replace c0_3 := bcell hst c0_3
      replace c1_0 := bcell hst c1_0
      replace c1_1 := bcell hst c1_1
      replace c1_2 := bcell hst c1_2
      replace c1_3 := bcell hst c1_3
      replace r0 := r0.below hst
      replace r1 := r1.below hst
      replace hB := bstep hB hst
      have zw2 : w1.heap.size ≤ w2.heap.size := hst.size
      have dc0_0 := World.block_lt_of_cell? _ _ c0_0
      have dc1_0 := World.block_lt_of_cell? _ _ c1_0
      clear hst
      go_wp2_with fail
      go_cut [6, 7] (fun s6 s7 wx => CutCo (compT t0 t1) (compOk t0 t1) w2 s6 s7 wx)
      case first =>
        have hS0 := Lib.hid (show w2.cell? ⟨w.heap.size, 0, none⟩ = some (Value.int IntKind.i64 k0) ∧ w2.cell? ⟨w.heap.size, 1, none⟩ = some (Value.int IntKind.i64 gt0) ∧ w2.cell? ⟨w.heap.size, 2, none⟩ = some (Value.int IntKind.i64 lb0) ∧ w2.cell? ⟨w.heap.size, 3, none⟩ = some (Value.slice a0 n0 q0) ∧ w2.cell? ⟨w.heap.size + 1, 0, none⟩ = some (Value.int IntKind.i64 k1) ∧ w2.cell? ⟨w.heap.size + 1, 1, none⟩ = some (Value.int IntKind.i64 gt1) ∧ w2.cell? ⟨w.heap.size + 1, 2, none⟩ = some (Value.int IntKind.i64 lb1) ∧ w2.cell? ⟨w.heap.size + 1, 3, none⟩ = some (Value.slice a1 n1 q1) from ⟨c0_0, c0_1, c0_2, c0_3, c1_0, c1_1, c1_2, c1_3⟩)
        have hSd := Lib.hid (show ∀ X : World, (X.cell? ⟨w.heap.size, 0, none⟩ = some (Value.int IntKind.i64 k0) ∧ X.cell? ⟨w.heap.size, 1, none⟩ = some (Value.int IntKind.i64 gt0) ∧ X.cell? ⟨w.heap.size, 2, none⟩ = some (Value.int IntKind.i64 lb0) ∧ X.cell? ⟨w.heap.size, 3, none⟩ = some (Value.slice a0 n0 q0) ∧ X.cell? ⟨w.heap.size + 1, 0, none⟩ = some (Value.int IntKind.i64 k1) ∧ X.cell? ⟨w.heap.size + 1, 1, none⟩ = some (Value.int IntKind.i64 gt1) ∧ X.cell? ⟨w.heap.size + 1, 2, none⟩ = some (Value.int IntKind.i64 lb1) ∧ X.cell? ⟨w.heap.size + 1, 3, none⟩ = some (Value.slice a1 n1 q1)) → ((World.drew X).cell? ⟨w.heap.size, 0, none⟩ = some (Value.int IntKind.i64 k0) ∧ (World.drew X).cell? ⟨w.heap.size, 1, none⟩ = some (Value.int IntKind.i64 gt0) ∧ (World.drew X).cell? ⟨w.heap.size, 2, none⟩ = some (Value.int IntKind.i64 lb0) ∧ (World.drew X).cell? ⟨w.heap.size, 3, none⟩ = some (Value.slice a0 n0 q0) ∧ (World.drew X).cell? ⟨w.heap.size + 1, 0, none⟩ = some (Value.int IntKind.i64 k1) ∧ (World.drew X).cell? ⟨w.heap.size + 1, 1, none⟩ = some (Value.int IntKind.i64 gt1) ∧ (World.drew X).cell? ⟨w.heap.size + 1, 2, none⟩ = some (Value.int IntKind.i64 lb1) ∧ (World.drew X).cell? ⟨w.heap.size + 1, 3, none⟩ = some (Value.slice a1 n1 q1)) from fun X s => ⟨dcell s.1, dcell s.2.1, dcell s.2.2.1, dcell s.2.2.2.1, dcell s.2.2.2.2.1, dcell s.2.2.2.2.2.1, dcell s.2.2.2.2.2.2.1, dcell s.2.2.2.2.2.2.2⟩)
        have hSb := Lib.hid (show ∀ X Y : World, Below X.heap.size X Y → (X.cell? ⟨w.heap.size, 0, none⟩ = some (Value.int IntKind.i64 k0) ∧ X.cell? ⟨w.heap.size, 1, none⟩ = some (Value.int IntKind.i64 gt0) ∧ X.cell? ⟨w.heap.size, 2, none⟩ = some (Value.int IntKind.i64 lb0) ∧ X.cell? ⟨w.heap.size, 3, none⟩ = some (Value.slice a0 n0 q0) ∧ X.cell? ⟨w.heap.size + 1, 0, none⟩ = some (Value.int IntKind.i64 k1) ∧ X.cell? ⟨w.heap.size + 1, 1, none⟩ = some (Value.int IntKind.i64 gt1) ∧ X.cell? ⟨w.heap.size + 1, 2, none⟩ = some (Value.int IntKind.i64 lb1) ∧ X.cell? ⟨w.heap.size + 1, 3, none⟩ = some (Value.slice a1 n1 q1)) → (Y.cell? ⟨w.heap.size, 0, none⟩ = some (Value.int IntKind.i64 k0) ∧ Y.cell? ⟨w.heap.size, 1, none⟩ = some (Value.int IntKind.i64 gt0) ∧ Y.cell? ⟨w.heap.size, 2, none⟩ = some (Value.int IntKind.i64 lb0) ∧ Y.cell? ⟨w.heap.size, 3, none⟩ = some (Value.slice a0 n0 q0) ∧ Y.cell? ⟨w.heap.size + 1, 0, none⟩ = some (Value.int IntKind.i64 k1) ∧ Y.cell? ⟨w.heap.size + 1, 1, none⟩ = some (Value.int IntKind.i64 gt1) ∧ Y.cell? ⟨w.heap.size + 1, 2, none⟩ = some (Value.int IntKind.i64 lb1) ∧ Y.cell? ⟨w.heap.size + 1, 3, none⟩ = some (Value.slice a1 n1 q1)) from fun X Y h s => ⟨bcell h s.1, bcell h s.2.1, bcell h s.2.2.1, bcell h s.2.2.2.1, bcell h s.2.2.2.2.1, bcell h s.2.2.2.2.2.1, bcell h s.2.2.2.2.2.2.1, bcell h s.2.2.2.2.2.2.2⟩)
        have hSs := Lib.hid (show ∀ (X : World) (g o : Nat) (v : Value), w.heap.size ≠ g → w.heap.size + 1 ≠ g → (X.cell? ⟨w.heap.size, 0, none⟩ = some (Value.int IntKind.i64 k0) ∧ X.cell? ⟨w.heap.size, 1, none⟩ = some (Value.int IntKind.i64 gt0) ∧ X.cell? ⟨w.heap.size, 2, none⟩ = some (Value.int IntKind.i64 lb0) ∧ X.cell? ⟨w.heap.size, 3, none⟩ = some (Value.slice a0 n0 q0) ∧ X.cell? ⟨w.heap.size + 1, 0, none⟩ = some (Value.int IntKind.i64 k1) ∧ X.cell? ⟨w.heap.size + 1, 1, none⟩ = some (Value.int IntKind.i64 gt1) ∧ X.cell? ⟨w.heap.size + 1, 2, none⟩ = some (Value.int IntKind.i64 lb1) ∧ X.cell? ⟨w.heap.size + 1, 3, none⟩ = some (Value.slice a1 n1 q1)) → ((World.setCell X ⟨g, o, none⟩ v).cell? ⟨w.heap.size, 0, none⟩ = some (Value.int IntKind.i64 k0) ∧ (World.setCell X ⟨g, o, none⟩ v).cell? ⟨w.heap.size, 1, none⟩ = some (Value.int IntKind.i64 gt0) ∧ (World.setCell X ⟨g, o, none⟩ v).cell? ⟨w.heap.size, 2, none⟩ = some (Value.int IntKind.i64 lb0) ∧ (World.setCell X ⟨g, o, none⟩ v).cell? ⟨w.heap.size, 3, none⟩ = some (Value.slice a0 n0 q0) ∧ (World.setCell X ⟨g, o, none⟩ v).cell? ⟨w.heap.size + 1, 0, none⟩ = some (Value.int IntKind.i64 k1) ∧ (World.setCell X ⟨g, o, none⟩ v).cell? ⟨w.heap.size + 1, 1, none⟩ = some (Value.int IntKind.i64 gt1) ∧ (World.setCell X ⟨g, o, none⟩ v).cell? ⟨w.heap.size + 1, 2, none⟩ = some (Value.int IntKind.i64 lb1) ∧ (World.setCell X ⟨g, o, none⟩ v).cell? ⟨w.heap.size + 1, 3, none⟩ = some (Value.slice a1 n1 q1)) from fun X g o v n0 n1 s => ⟨sc_blk s.1 n0, sc_blk s.2.1 n0, sc_blk s.2.2.1 n0, sc_blk s.2.2.2.1 n0, sc_blk s.2.2.2.2.1 n1, sc_blk s.2.2.2.2.2.1 n1, sc_blk s.2.2.2.2.2.2.1 n1, sc_blk s.2.2.2.2.2.2.2 n1⟩)
        go_region_held3 (fun w' => w'.cell? ⟨w.heap.size, 0, none⟩ = some (.int .i64 k0) ∧ w'.cell? ⟨w.heap.size, 1, none⟩ = some (.int .i64 gt0) ∧ w'.cell? ⟨w.heap.size, 2, none⟩ = some (.int .i64 lb0) ∧ w'.cell? ⟨w.heap.size, 3, none⟩ = some (.slice a0 n0 q0) ∧ w'.cell? ⟨w.heap.size + 1, 0, none⟩ = some (.int .i64 k1) ∧ w'.cell? ⟨w.heap.size + 1, 1, none⟩ = some (.int .i64 gt1) ∧ w'.cell? ⟨w.heap.size + 1, 2, none⟩ = some (.int .i64 lb1) ∧ w'.cell? ⟨w.heap.size + 1, 3, none⟩ = some (.slice a1 n1 q1))
          (repeat (first | with_reducible exact hS0.out | with_reducible refine hSs.out _ _ _ _ (by omega) (by omega) ?_ | with_reducible refine hSb.out _ _ hb5 ?_ | with_reducible refine hSb.out _ _ hb4 ?_ | with_reducible refine hSb.out _ _ hb3 ?_ | with_reducible refine hSb.out _ _ bal1 ?_ | with_reducible refine hSd.out _ ?_))
          (first | (go_at_call 7; ((with_reducible refine (toCoercion_any _ t0 _ _ (r0.below (by first | exact bdr | exact bal1.drew | exact (bstep bdr bal1))) Hb0.out).mono ?_); rintro e w3 ⟨v3, rfl, hv3, hb3⟩; have hB3 : Below w2.heap.size w2 w3 := (by first | exact bstep bdr hb3 | exact bstep bal1.drew hb3 | exact bstep (bstep bdr bal1) hb3); have zs3 := hb3.size; (try simp at zs3); obtain ⟨k3, gt3, lb3, a3, n3, q3, rfl⟩ := hv3.shape)) | (go_at_call 7; ((with_reducible refine (toCoercion_any _ t1 _ _ (r1.below (by first | exact hB3 | exact (bstep hB3 bal1))) Hb1.out).mono ?_); rintro e w4 ⟨v4, rfl, hv4, hb4⟩; have hB4 : Below w2.heap.size w2 w4 := (by first | exact bstep hB3 hb4 | exact bstep (bstep hB3 bal1) hb4); have zs4 := hb4.size; (try simp at zs4); obtain ⟨k4, gt4, lb4, a4, n4, q4, rfl⟩ := hv4.shape; have hr3 := hv3.rep.below (by first | exact hb4 | exact (bstep bal1 hb4)))) | (go_at_call 6; ((with_reducible refine (specComposeCoercions _ _ t0 t1 _ _ _ (by first | exact hr3 | exact hr3.below bal1) (by first | exact hv4.rep | exact hv4.rep.below bal1)).mono ?_); rintro e w5 ⟨v5, rfl, hv5, hb5⟩; have hB5 : Below w2.heap.size w2 w5 := (by first | exact bstep hB4 hb5 | exact bstep (bstep hB4 bal1) hb5); obtain ⟨k5, gt5, lb5, a5, n5, q5, rfl⟩ := hv5.shape; have zz := hB4.size; have zy := hB3.size; have zs5 := hb5.size; (try simp at zs5); (first | (have G0 : w5.cell? ⟨w2.heap.size, 0, none⟩ = some (.int .i64 0) := bcell hb5 (bcell hb4 (bcell hb3 (dcell (cell_new (by simp) 0)))); have GF0 : w5.frozen? ⟨w2.heap.size, 0, none⟩ = false := bfroc hb5 (bcell hb4 (bcell hb3 (dcell (cell_new (by simp) 0)))) (bfroc hb4 (bcell hb3 (dcell (cell_new (by simp) 0))) (bfroc hb3 (dcell (cell_new (by simp) 0)) (dfro (fro_new (by simp) 0)))); have G1 : w5.cell? ⟨w2.heap.size, 1, none⟩ = some (.int .i64 0) := bcell hb5 (bcell hb4 (bcell hb3 (dcell (cell_new (by simp) 1)))); have GF1 : w5.frozen? ⟨w2.heap.size, 1, none⟩ = false := bfroc hb5 (bcell hb4 (bcell hb3 (dcell (cell_new (by simp) 1)))) (bfroc hb4 (bcell hb3 (dcell (cell_new (by simp) 1))) (bfroc hb3 (dcell (cell_new (by simp) 1)) (dfro (fro_new (by simp) 1)))); have G2 : w5.cell? ⟨w2.heap.size, 2, none⟩ = some (.int .i64 0) := bcell hb5 (bcell hb4 (bcell hb3 (dcell (cell_new (by simp) 2)))); have GF2 : w5.frozen? ⟨w2.heap.size, 2, none⟩ = false := bfroc hb5 (bcell hb4 (bcell hb3 (dcell (cell_new (by simp) 2)))) (bfroc hb4 (bcell hb3 (dcell (cell_new (by simp) 2))) (bfroc hb3 (dcell (cell_new (by simp) 2)) (dfro (fro_new (by simp) 2)))); have G3 : w5.cell? ⟨w2.heap.size, 3, none⟩ = some (.slice none 0 0) := bcell hb5 (bcell hb4 (bcell hb3 (dcell (cell_new (by simp) 3)))); have GF3 : w5.frozen? ⟨w2.heap.size, 3, none⟩ = false := bfroc hb5 (bcell hb4 (bcell hb3 (dcell (cell_new (by simp) 3)))) (bfroc hb4 (bcell hb3 (dcell (cell_new (by simp) 3))) (bfroc hb3 (dcell (cell_new (by simp) 3)) (dfro (fro_new (by simp) 3))))) | (have G0 : w5.cell? ⟨w3.heap.size, 0, none⟩ = some (.int .i64 0) := bcell hb5 (bcell hb4 (cell_new (by simp) 0)); have GF0 : w5.frozen? ⟨w3.heap.size, 0, none⟩ = false := bfroc hb5 (bcell hb4 (cell_new (by simp) 0)) (bfroc hb4 (cell_new (by simp) 0) (fro_new (by simp) 0)); have G1 : w5.cell? ⟨w3.heap.size, 1, none⟩ = some (.int .i64 0) := bcell hb5 (bcell hb4 (cell_new (by simp) 1)); have GF1 : w5.frozen? ⟨w3.heap.size, 1, none⟩ = false := bfroc hb5 (bcell hb4 (cell_new (by simp) 1)) (bfroc hb4 (cell_new (by simp) 1) (fro_new (by simp) 1)); have G2 : w5.cell? ⟨w3.heap.size, 2, none⟩ = some (.int .i64 0) := bcell hb5 (bcell hb4 (cell_new (by simp) 2)); have GF2 : w5.frozen? ⟨w3.heap.size, 2, none⟩ = false := bfroc hb5 (bcell hb4 (cell_new (by simp) 2)) (bfroc hb4 (cell_new (by simp) 2) (fro_new (by simp) 2)); have G3 : w5.cell? ⟨w3.heap.size, 3, none⟩ = some (.slice none 0 0) := bcell hb5 (bcell hb4 (cell_new (by simp) 3)); have GF3 : w5.frozen? ⟨w3.heap.size, 3, none⟩ = false := bfroc hb5 (bcell hb4 (cell_new (by simp) 3)) (bfroc hb4 (cell_new (by simp) 3) (fro_new (by simp) 3))) | (have G0 : w5.cell? ⟨w4.heap.size, 0, none⟩ = some (.int .i64 0) := bcell hb5 (cell_new (by simp) 0); have GF0 : w5.frozen? ⟨w4.heap.size, 0, none⟩ = false := bfroc hb5 (cell_new (by simp) 0) (fro_new (by simp) 0); have G1 : w5.cell? ⟨w4.heap.size, 1, none⟩ = some (.int .i64 0) := bcell hb5 (cell_new (by simp) 1); have GF1 : w5.frozen? ⟨w4.heap.size, 1, none⟩ = false := bfroc hb5 (cell_new (by simp) 1) (fro_new (by simp) 1); have G2 : w5.cell? ⟨w4.heap.size, 2, none⟩ = some (.int .i64 0) := bcell hb5 (cell_new (by simp) 2); have GF2 : w5.frozen? ⟨w4.heap.size, 2, none⟩ = false := bfroc hb5 (cell_new (by simp) 2) (fro_new (by simp) 2); have G3 : w5.cell? ⟨w4.heap.size, 3, none⟩ = some (.slice none 0 0) := bcell hb5 (cell_new (by simp) 3); have GF3 : w5.frozen? ⟨w4.heap.size, 3, none⟩ = false := bfroc hb5 (cell_new (by simp) 3) (fro_new (by simp) 3)) | skip))))
        all_goals (go_wp2_with fail; go_meet; first | exact CutCo_late hB5 hB4.size hv5 | exact CutCo_early hB5 G0 G1 G2 G3 (by first | exact Nat.le_refl _ | omega) (by first | exact Nat.le_refl _ | omega | (simp; omega) | simp) hv5)
      case rest =>
        obtain ⟨w6, rfl⟩ : ∃ x : World, x = wc := ⟨_, rfl⟩
        obtain ⟨gw0, kw0, gtw0, lbw0, aw0, nw0, qw0, fw0, rfl, rfl, lgw0, hgw0, xw0_0, xw0_1, xw0_2, xw0_3, ow0, ndw0, low0, gnw0, hb6⟩ := hcut
        have hst := hb6
        clear dc0_0 dc1_0
        replace c0_0 := bcell hst c0_0
        replace c0_1 := bcell hst c0_1
        replace c0_2 := bcell hst c0_2
        replace c0_3 := bcell hst c0_3
        replace c1_0 := bcell hst c1_0
        replace c1_1 := bcell hst c1_1
        replace c1_2 := bcell hst c1_2
        replace c1_3 := bcell hst c1_3
        replace r0 := r0.below hst
        replace r1 := r1.below hst
        replace hB := bstep hB hst
        have zw6 : w2.heap.size ≤ w6.heap.size := hst.size
        have dc0_0 := World.block_lt_of_cell? _ _ c0_0
        have dc1_0 := World.block_lt_of_cell? _ _ c1_0
        clear hst
        have loow0 : ∀ b ∈ fw0, w2.heap.size + 0 ≤ b := fun b hb => by have := low0 b hb; skip; omega
        have hiow0 : ∀ b ∈ fw0, b < w6.heap.size := ow0.lt
        clear low0
        have dxw0_0 := World.block_lt_of_cell? _ _ xw0_0
        go_wp2_with fail
        refine (toCoercion_any _ t0 _ _ r0 Hb0.out).mono ?_
        rintro e w7 ⟨vx0, rfl, ⟨fx0, ox0, ndx0, lox0⟩, hb7⟩
        obtain ⟨kx0, gtx0, lbx0, ax0, nx0, qx0, rfl⟩ := ox0.ks
        have hst := hb7
        clear dc0_0 dc1_0 dxw0_0
        replace c0_0 := bcell hst c0_0
        replace c0_1 := bcell hst c0_1
        replace c0_2 := bcell hst c0_2
        replace c0_3 := bcell hst c0_3
        replace c1_0 := bcell hst c1_0
        replace c1_1 := bcell hst c1_1
        replace c1_2 := bcell hst c1_2
        replace c1_3 := bcell hst c1_3
        replace xw0_0 := bcell hst xw0_0
        replace xw0_1 := bcell hst xw0_1
        replace xw0_2 := bcell hst xw0_2
        replace xw0_3 := bcell hst xw0_3
        replace r0 := r0.below hst
        replace r1 := r1.below hst
        replace ow0 := ow0.below hst
        replace hB := bstep hB hst
        have zw7 : w6.heap.size ≤ w7.heap.size := hst.size
        have dc0_0 := World.block_lt_of_cell? _ _ c0_0
        have dc1_0 := World.block_lt_of_cell? _ _ c1_0
        have dxw0_0 := World.block_lt_of_cell? _ _ xw0_0
        clear hst
        have loox0 : ∀ b ∈ fx0, w6.heap.size + 0 ≤ b := fun b hb => by have := lox0 b hb; skip; omega
        have hiox0 : ∀ b ∈ fx0, b < w7.heap.size := ox0.lt
        clear lox0
        go_wp2_with fail
        refine (toCoercion_any _ t1 _ _ (r1.below bal1) Hb1.out).mono ?_
        rintro e w8 ⟨vx1, rfl, ⟨fx1, ox1, ndx1, lox1⟩, hb8⟩
        obtain ⟨kx1, gtx1, lbx1, ax1, nx1, qx1, rfl⟩ := ox1.ks
        have hst := bstep bal1 hb8
        clear dc0_0 dc1_0 dxw0_0
        replace c0_0 := bcell hst c0_0
        replace c0_1 := bcell hst c0_1
        replace c0_2 := bcell hst c0_2
        replace c0_3 := bcell hst c0_3
        replace c1_0 := bcell hst c1_0
        replace c1_1 := bcell hst c1_1
        replace c1_2 := bcell hst c1_2
        replace c1_3 := bcell hst c1_3
        replace xw0_0 := bcell hst xw0_0
        replace xw0_1 := bcell hst xw0_1
        replace xw0_2 := bcell hst xw0_2
        replace xw0_3 := bcell hst xw0_3
        replace r0 := r0.below hst
        replace r1 := r1.below hst
        replace ow0 := ow0.below hst
        replace ox0 := ox0.below hst
        replace hB := bstep hB hst
        have zw8 : w7.heap.size ≤ w8.heap.size := hst.size
        have dc0_0 := World.block_lt_of_cell? _ _ c0_0
        have dc1_0 := World.block_lt_of_cell? _ _ c1_0
        have dxw0_0 := World.block_lt_of_cell? _ _ xw0_0
        clear hst
        have zw8p : w7.heap.size + 1 ≤ w8.heap.size := by have := hb8.size; simp at this; omega
        have xx0_0 : w8.cell? ⟨w7.heap.size, 0, none⟩ = some (.int .i64 kx0) := bcell hb8 (cell_n0 0)
        have dxx0_0 := World.block_lt_of_cell? _ _ xx0_0
        have xx0_1 : w8.cell? ⟨w7.heap.size, 1, none⟩ = some (.int .i64 gtx0) := bcell hb8 (cell_n0 1)
        have xx0_2 : w8.cell? ⟨w7.heap.size, 2, none⟩ = some (.int .i64 lbx0) := bcell hb8 (cell_n0 2)
        have xx0_3 : w8.cell? ⟨w7.heap.size, 3, none⟩ = some (.slice ax0 nx0 qx0) := bcell hb8 (cell_n0 3)
        have loox1 : ∀ b ∈ fx1, w7.heap.size + 1 ≤ b := fun b hb => by have := lox1 b hb; simp at this; omega
        have hiox1 : ∀ b ∈ fx1, b < w8.heap.size := ox1.lt
        clear lox1
        go_wp2_with fail
        refine (implComposeCoercions _ _ t0 t1 _ _ _ (ox0.rep.below bal1) (ox1.rep.below bal1)).mono ?_
        rintro e w9 ⟨vg0, rfl, ⟨fg0, og0, ndg0, log0⟩, hb9⟩
        obtain ⟨kg0, gtg0, lbg0, ag0, ng0, qg0, rfl⟩ := og0.ks
        have hst := bstep bal1 hb9
        clear dc0_0 dc1_0 dxw0_0 dxx0_0
        replace c0_0 := bcell hst c0_0
        replace c0_1 := bcell hst c0_1
        replace c0_2 := bcell hst c0_2
        replace c0_3 := bcell hst c0_3
        replace c1_0 := bcell hst c1_0
        replace c1_1 := bcell hst c1_1
        replace c1_2 := bcell hst c1_2
        replace c1_3 := bcell hst c1_3
        replace xw0_0 := bcell hst xw0_0
        replace xw0_1 := bcell hst xw0_1
        replace xw0_2 := bcell hst xw0_2
        replace xw0_3 := bcell hst xw0_3
        replace xx0_0 := bcell hst xx0_0
        replace xx0_1 := bcell hst xx0_1
        replace xx0_2 := bcell hst xx0_2
        replace xx0_3 := bcell hst xx0_3
        replace r0 := r0.below hst
        replace r1 := r1.below hst
        replace ow0 := ow0.below hst
        replace ox0 := ox0.below hst
        replace ox1 := ox1.below hst
        replace hB := bstep hB hst
        have zw9 : w8.heap.size ≤ w9.heap.size := hst.size
        have dc0_0 := World.block_lt_of_cell? _ _ c0_0
        have dc1_0 := World.block_lt_of_cell? _ _ c1_0
        have dxw0_0 := World.block_lt_of_cell? _ _ xw0_0
        have dxx0_0 := World.block_lt_of_cell? _ _ xx0_0
        clear hst
        have zw9p : w8.heap.size + 1 ≤ w9.heap.size := by have := hb9.size; simp at this; omega
        have xx1_0 : w9.cell? ⟨w8.heap.size, 0, none⟩ = some (.int .i64 kx1) := bcell hb9 (cell_n0 0)
        have dxx1_0 := World.block_lt_of_cell? _ _ xx1_0
        have xx1_1 : w9.cell? ⟨w8.heap.size, 1, none⟩ = some (.int .i64 gtx1) := bcell hb9 (cell_n0 1)
        have xx1_2 : w9.cell? ⟨w8.heap.size, 2, none⟩ = some (.int .i64 lbx1) := bcell hb9 (cell_n0 2)
        have xx1_3 : w9.cell? ⟨w8.heap.size, 3, none⟩ = some (.slice ax1 nx1 qx1) := bcell hb9 (cell_n0 3)
        have loog0 : ∀ b ∈ fg0, w8.heap.size + 1 ≤ b := fun b hb => by have := log0 b hb; simp at this; omega
        have hiog0 : ∀ b ∈ fg0, b < w9.heap.size := og0.lt
        clear log0
        go_wp2_with fail
        refine (eqCoercion_refl _ _ (compT t0 t1) _ _ _ (og0.rep.below bal1) (ow0.rep.below bal1)).mono ?_
        rintro e w10 ⟨rfl, hb10⟩
        have hst := bstep bal1 hb10
        clear dc0_0 dc1_0 dxw0_0 dxx0_0 dxx1_0
        replace c0_0 := bcell hst c0_0
        replace c0_1 := bcell hst c0_1
        replace c0_2 := bcell hst c0_2
        replace c0_3 := bcell hst c0_3
        replace c1_0 := bcell hst c1_0
        replace c1_1 := bcell hst c1_1
        replace c1_2 := bcell hst c1_2
        replace c1_3 := bcell hst c1_3
        replace xw0_0 := bcell hst xw0_0
        replace xw0_1 := bcell hst xw0_1
        replace xw0_2 := bcell hst xw0_2
        replace xw0_3 := bcell hst xw0_3
        replace xx0_0 := bcell hst xx0_0
        replace xx0_1 := bcell hst xx0_1
        replace xx0_2 := bcell hst xx0_2
        replace xx0_3 := bcell hst xx0_3
        replace xx1_0 := bcell hst xx1_0
        replace xx1_1 := bcell hst xx1_1
        replace xx1_2 := bcell hst xx1_2
        replace xx1_3 := bcell hst xx1_3
        replace r0 := r0.below hst
        replace r1 := r1.below hst
        replace ow0 := ow0.below hst
        replace ox0 := ox0.below hst
        replace ox1 := ox1.below hst
        replace og0 := og0.below hst
        replace hB := bstep hB hst
        have zw10 : w9.heap.size ≤ w10.heap.size := hst.size
        have dc0_0 := World.block_lt_of_cell? _ _ c0_0
        have dc1_0 := World.block_lt_of_cell? _ _ c1_0
        have dxw0_0 := World.block_lt_of_cell? _ _ xw0_0
        have dxx0_0 := World.block_lt_of_cell? _ _ xx0_0
        have dxx1_0 := World.block_lt_of_cell? _ _ xx1_0
        clear hst
        have zw10p : w9.heap.size + 1 ≤ w10.heap.size := by have := hb10.size; simp at this; omega
        have xg0_0 : w10.cell? ⟨w9.heap.size, 0, none⟩ = some (.int .i64 kg0) := bcell hb10 (cell_n0 0)
        have dxg0_0 := World.block_lt_of_cell? _ _ xg0_0
        have xg0_1 : w10.cell? ⟨w9.heap.size, 1, none⟩ = some (.int .i64 gtg0) := bcell hb10 (cell_n0 1)
        have xg0_2 : w10.cell? ⟨w9.heap.size, 2, none⟩ = some (.int .i64 lbg0) := bcell hb10 (cell_n0 2)
        have xg0_3 : w10.cell? ⟨w9.heap.size, 3, none⟩ = some (.slice ag0 ng0 qg0) := bcell hb10 (cell_n0 3)
        go_wp2_with fail
        go_region_held3 (fun w' => w'.cell? ⟨w7.heap.size, 0, none⟩ = some (.int .i64 kx0) ∧ w'.cell? ⟨w7.heap.size, 1, none⟩ = some (.int .i64 gtx0) ∧ w'.cell? ⟨w7.heap.size, 2, none⟩ = some (.int .i64 lbx0) ∧ w'.cell? ⟨w7.heap.size, 3, none⟩ = some (.slice ax0 nx0 qx0) ∧ w'.cell? ⟨w.heap.size, 0, none⟩ = some (.int .i64 k0) ∧ w'.cell? ⟨w.heap.size, 1, none⟩ = some (.int .i64 gt0) ∧ w'.cell? ⟨w.heap.size, 2, none⟩ = some (.int .i64 lb0) ∧ w'.cell? ⟨w.heap.size, 3, none⟩ = some (.slice a0 n0 q0))
          (first | go_keep | exact ⟨bcelld hb11 xx0_0, bcelld hb11 xx0_1, bcelld hb11 xx0_2, bcelld hb11 xx0_3, bcelld hb11 c0_0, bcelld hb11 c0_1, bcelld hb11 c0_2, bcelld hb11 c0_3⟩ | exact ⟨bcell hb12 (bcelld hb11 xx0_0), bcell hb12 (bcelld hb11 xx0_1), bcell hb12 (bcelld hb11 xx0_2), bcell hb12 (bcelld hb11 xx0_3), bcell hb12 (bcelld hb11 c0_0), bcell hb12 (bcelld hb11 c0_1), bcell hb12 (bcelld hb11 c0_2), bcell hb12 (bcelld hb11 c0_3)⟩)
          (first | (go_at_call 7; refine (toCoercion_any _ t0 _ _ (r0.below bdr) Hb0.out).mono ?_; rintro e w11 ⟨v11, rfl, hv11, hb11⟩; obtain ⟨k11, gt11, lb11, a11, n11, q11, rfl⟩ := hv11.shape) | (go_at_call 9; refine (eqCoercion_refl _ _ t0 _ _ _ (ox0.rep.below (bstep bdr hb11)) hv11.rep).mono ?_; rintro e w12 ⟨rfl, hb12⟩))
        have hst := bstep (bstep bdr hb11) hb12
        clear dc0_0 dc1_0 dxw0_0 dxx0_0 dxx1_0 dxg0_0
        replace c0_0 := bcell hst c0_0
        replace c0_1 := bcell hst c0_1
        replace c0_2 := bcell hst c0_2
        replace c0_3 := bcell hst c0_3
        replace c1_0 := bcell hst c1_0
        replace c1_1 := bcell hst c1_1
        replace c1_2 := bcell hst c1_2
        replace c1_3 := bcell hst c1_3
        replace xw0_0 := bcell hst xw0_0
        replace xw0_1 := bcell hst xw0_1
        replace xw0_2 := bcell hst xw0_2
        replace xw0_3 := bcell hst xw0_3
        replace xx0_0 := bcell hst xx0_0
        replace xx0_1 := bcell hst xx0_1
        replace xx0_2 := bcell hst xx0_2
        replace xx0_3 := bcell hst xx0_3
        replace xx1_0 := bcell hst xx1_0
        replace xx1_1 := bcell hst xx1_1
        replace xx1_2 := bcell hst xx1_2
        replace xx1_3 := bcell hst xx1_3
        replace xg0_0 := bcell hst xg0_0
        replace xg0_1 := bcell hst xg0_1
        replace xg0_2 := bcell hst xg0_2
        replace xg0_3 := bcell hst xg0_3
        replace r0 := r0.below hst
        replace r1 := r1.below hst
        replace ow0 := ow0.below hst
        replace ox0 := ox0.below hst
        replace ox1 := ox1.below hst
        replace og0 := og0.below hst
        replace hB := bstep hB hst
        have zw12 : w10.heap.size ≤ w12.heap.size := hst.size
        have dc0_0 := World.block_lt_of_cell? _ _ c0_0
        have dc1_0 := World.block_lt_of_cell? _ _ c1_0
        have dxw0_0 := World.block_lt_of_cell? _ _ xw0_0
        have dxx0_0 := World.block_lt_of_cell? _ _ xx0_0
        have dxx1_0 := World.block_lt_of_cell? _ _ xx1_0
        have dxg0_0 := World.block_lt_of_cell? _ _ xg0_0
        clear hst
        clear hb11 hb12 hv11
        go_wp2_with fail
        go_region_held3 (fun w' => w'.cell? ⟨w8.heap.size, 0, none⟩ = some (.int .i64 kx1) ∧ w'.cell? ⟨w8.heap.size, 1, none⟩ = some (.int .i64 gtx1) ∧ w'.cell? ⟨w8.heap.size, 2, none⟩ = some (.int .i64 lbx1) ∧ w'.cell? ⟨w8.heap.size, 3, none⟩ = some (.slice ax1 nx1 qx1) ∧ w'.cell? ⟨w.heap.size + 1, 0, none⟩ = some (.int .i64 k1) ∧ w'.cell? ⟨w.heap.size + 1, 1, none⟩ = some (.int .i64 gt1) ∧ w'.cell? ⟨w.heap.size + 1, 2, none⟩ = some (.int .i64 lb1) ∧ w'.cell? ⟨w.heap.size + 1, 3, none⟩ = some (.slice a1 n1 q1))
          (first | go_keep | exact ⟨bcelld hb13 xx1_0, bcelld hb13 xx1_1, bcelld hb13 xx1_2, bcelld hb13 xx1_3, bcelld hb13 c1_0, bcelld hb13 c1_1, bcelld hb13 c1_2, bcelld hb13 c1_3⟩ | exact ⟨bcell hb14 (bcelld hb13 xx1_0), bcell hb14 (bcelld hb13 xx1_1), bcell hb14 (bcelld hb13 xx1_2), bcell hb14 (bcelld hb13 xx1_3), bcell hb14 (bcelld hb13 c1_0), bcell hb14 (bcelld hb13 c1_1), bcell hb14 (bcelld hb13 c1_2), bcell hb14 (bcelld hb13 c1_3)⟩)
          (first | (go_at_call 7; refine (toCoercion_any _ t1 _ _ (r1.below bdr) Hb1.out).mono ?_; rintro e w13 ⟨v13, rfl, hv13, hb13⟩; obtain ⟨k13, gt13, lb13, a13, n13, q13, rfl⟩ := hv13.shape) | (go_at_call 9; refine (eqCoercion_refl _ _ t1 _ _ _ (ox1.rep.below (bstep bdr hb13)) hv13.rep).mono ?_; rintro e w14 ⟨rfl, hb14⟩))
        have hst := bstep (bstep bdr hb13) hb14
        clear dc0_0 dc1_0 dxw0_0 dxx0_0 dxx1_0 dxg0_0
        replace c0_0 := bcell hst c0_0
        replace c0_1 := bcell hst c0_1
        replace c0_2 := bcell hst c0_2
        replace c0_3 := bcell hst c0_3
        replace c1_0 := bcell hst c1_0
        replace c1_1 := bcell hst c1_1
        replace c1_2 := bcell hst c1_2
        replace c1_3 := bcell hst c1_3
        replace xw0_0 := bcell hst xw0_0
        replace xw0_1 := bcell hst xw0_1
        replace xw0_2 := bcell hst xw0_2
        replace xw0_3 := bcell hst xw0_3
        replace xx0_0 := bcell hst xx0_0
        replace xx0_1 := bcell hst xx0_1
        replace xx0_2 := bcell hst xx0_2
        replace xx0_3 := bcell hst xx0_3
        replace xx1_0 := bcell hst xx1_0
        replace xx1_1 := bcell hst xx1_1
        replace xx1_2 := bcell hst xx1_2
        replace xx1_3 := bcell hst xx1_3
        replace xg0_0 := bcell hst xg0_0
        replace xg0_1 := bcell hst xg0_1
        replace xg0_2 := bcell hst xg0_2
        replace xg0_3 := bcell hst xg0_3
        replace r0 := r0.below hst
        replace r1 := r1.below hst
        replace ow0 := ow0.below hst
        replace ox0 := ox0.below hst
        replace ox1 := ox1.below hst
        replace og0 := og0.below hst
        replace hB := bstep hB hst
        have zw14 : w12.heap.size ≤ w14.heap.size := hst.size
        have dc0_0 := World.block_lt_of_cell? _ _ c0_0
        have dc1_0 := World.block_lt_of_cell? _ _ c1_0
        have dxw0_0 := World.block_lt_of_cell? _ _ xw0_0
        have dxx0_0 := World.block_lt_of_cell? _ _ xx0_0
        have dxx1_0 := World.block_lt_of_cell? _ _ xx1_0
        have dxg0_0 := World.block_lt_of_cell? _ _ xg0_0
        clear hst
        clear hb13 hb14 hv13
        go_wp2_with fail
        refine (markCoercion_any t0 1 _ _ _ ox0 ndx0 (by omega) HuK0.out).mono ?_
        rintro e w15 ⟨rfl, ox0, hc15⟩
        rw [HhK0.out]
        clear dxx0_0
        clear xx0_0
        clear xx0_1
        clear xx0_2
        clear xx0_3
        have hch := hc15
        replace c0_0 := hch.cell (fun hm => by have h1 := loox0 _ hm; have h2 := hiox0 _ hm; change _ ≤ w.heap.size at h1; change w.heap.size < _ at h2; omega) c0_0
        replace c0_1 := hch.cell (fun hm => by have h1 := loox0 _ hm; have h2 := hiox0 _ hm; change _ ≤ w.heap.size at h1; change w.heap.size < _ at h2; omega) c0_1
        replace c0_2 := hch.cell (fun hm => by have h1 := loox0 _ hm; have h2 := hiox0 _ hm; change _ ≤ w.heap.size at h1; change w.heap.size < _ at h2; omega) c0_2
        replace c0_3 := hch.cell (fun hm => by have h1 := loox0 _ hm; have h2 := hiox0 _ hm; change _ ≤ w.heap.size at h1; change w.heap.size < _ at h2; omega) c0_3
        replace c1_0 := hch.cell (fun hm => by have h1 := loox0 _ hm; have h2 := hiox0 _ hm; change _ ≤ w.heap.size + 1 at h1; change w.heap.size + 1 < _ at h2; omega) c1_0
        replace c1_1 := hch.cell (fun hm => by have h1 := loox0 _ hm; have h2 := hiox0 _ hm; change _ ≤ w.heap.size + 1 at h1; change w.heap.size + 1 < _ at h2; omega) c1_1
        replace c1_2 := hch.cell (fun hm => by have h1 := loox0 _ hm; have h2 := hiox0 _ hm; change _ ≤ w.heap.size + 1 at h1; change w.heap.size + 1 < _ at h2; omega) c1_2
        replace c1_3 := hch.cell (fun hm => by have h1 := loox0 _ hm; have h2 := hiox0 _ hm; change _ ≤ w.heap.size + 1 at h1; change w.heap.size + 1 < _ at h2; omega) c1_3
        replace xw0_0 := hch.cell (fun hm => by have h1 := loox0 _ hm; have h2 := hiox0 _ hm; change _ ≤ gw0 at h1; change gw0 < _ at h2; omega) xw0_0
        replace xw0_1 := hch.cell (fun hm => by have h1 := loox0 _ hm; have h2 := hiox0 _ hm; change _ ≤ gw0 at h1; change gw0 < _ at h2; omega) xw0_1
        replace xw0_2 := hch.cell (fun hm => by have h1 := loox0 _ hm; have h2 := hiox0 _ hm; change _ ≤ gw0 at h1; change gw0 < _ at h2; omega) xw0_2
        replace xw0_3 := hch.cell (fun hm => by have h1 := loox0 _ hm; have h2 := hiox0 _ hm; change _ ≤ gw0 at h1; change gw0 < _ at h2; omega) xw0_3
        replace xx1_0 := hch.cell (fun hm => by have h1 := loox0 _ hm; have h2 := hiox0 _ hm; change _ ≤ w8.heap.size at h1; change w8.heap.size < _ at h2; omega) xx1_0
        replace xx1_1 := hch.cell (fun hm => by have h1 := loox0 _ hm; have h2 := hiox0 _ hm; change _ ≤ w8.heap.size at h1; change w8.heap.size < _ at h2; omega) xx1_1
        replace xx1_2 := hch.cell (fun hm => by have h1 := loox0 _ hm; have h2 := hiox0 _ hm; change _ ≤ w8.heap.size at h1; change w8.heap.size < _ at h2; omega) xx1_2
        replace xx1_3 := hch.cell (fun hm => by have h1 := loox0 _ hm; have h2 := hiox0 _ hm; change _ ≤ w8.heap.size at h1; change w8.heap.size < _ at h2; omega) xx1_3
        replace xg0_0 := hch.cell (fun hm => by have h1 := loox0 _ hm; have h2 := hiox0 _ hm; change _ ≤ w9.heap.size at h1; change w9.heap.size < _ at h2; omega) xg0_0
        replace xg0_1 := hch.cell (fun hm => by have h1 := loox0 _ hm; have h2 := hiox0 _ hm; change _ ≤ w9.heap.size at h1; change w9.heap.size < _ at h2; omega) xg0_1
        replace xg0_2 := hch.cell (fun hm => by have h1 := loox0 _ hm; have h2 := hiox0 _ hm; change _ ≤ w9.heap.size at h1; change w9.heap.size < _ at h2; omega) xg0_2
        replace xg0_3 := hch.cell (fun hm => by have h1 := loox0 _ hm; have h2 := hiox0 _ hm; change _ ≤ w9.heap.size at h1; change w9.heap.size < _ at h2; omega) xg0_3
        clear dc0_0 dc1_0 dxw0_0 dxx1_0 dxg0_0
        replace r0 := CoRep.chg hch (fun b hb hm => by have h1 := loox0 _ hm; have h2 := hB.size; have h3 : b < w.heap.size := hb; omega) r0
        replace r1 := CoRep.chg hch (fun b hb hm => by have h1 := loox0 _ hm; have h2 := hB.size; have h3 : b < w.heap.size := hb; omega) r1
        replace ow0 := CoOwn.chg hch (fun b hb hm => by have h1 := loox0 _ hm; have h2 := hiox0 _ hm; have h3 := loow0 _ hb; have h4 := hiow0 _ hb; omega) ow0
        replace ox1 := CoOwn.chg hch (fun b hb hm => by have h1 := loox0 _ hm; have h2 := hiox0 _ hm; have h3 := loox1 _ hb; have h4 := hiox1 _ hb; omega) ox1
        replace og0 := CoOwn.chg hch (fun b hb hm => by have h1 := loox0 _ hm; have h2 := hiox0 _ hm; have h3 := loog0 _ hb; have h4 := hiog0 _ hb; omega) og0
        replace hB := hB.trans (hch.below (fun b hm => by have h1 := loox0 _ hm; have h2 := hB.size; omega) hB.size)
        have zw15 : w14.heap.size ≤ w15.heap.size := hch.size
        have dc0_0 := World.block_lt_of_cell? _ _ c0_0
        have dc1_0 := World.block_lt_of_cell? _ _ c1_0
        have dxw0_0 := World.block_lt_of_cell? _ _ xw0_0
        have dxx1_0 := World.block_lt_of_cell? _ _ xx1_0
        have dxg0_0 := World.block_lt_of_cell? _ _ xg0_0
        clear hch
        clear ox0 ndx0
        go_wp2_with fail
        refine (markCoercion_any t1 K0 _ _ _ ox1 ndx1 (by omega) HuK1.out).mono ?_
        rintro e w16 ⟨rfl, ox1, hc16⟩
        rw [HhK1.out]
        clear dxx1_0
        clear xx1_0
        clear xx1_1
        clear xx1_2
        clear xx1_3
        have hch := hc16
        replace c0_0 := hch.cell (fun hm => by have h1 := loox1 _ hm; have h2 := hiox1 _ hm; change _ ≤ w.heap.size at h1; change w.heap.size < _ at h2; omega) c0_0
        replace c0_1 := hch.cell (fun hm => by have h1 := loox1 _ hm; have h2 := hiox1 _ hm; change _ ≤ w.heap.size at h1; change w.heap.size < _ at h2; omega) c0_1
        replace c0_2 := hch.cell (fun hm => by have h1 := loox1 _ hm; have h2 := hiox1 _ hm; change _ ≤ w.heap.size at h1; change w.heap.size < _ at h2; omega) c0_2
        replace c0_3 := hch.cell (fun hm => by have h1 := loox1 _ hm; have h2 := hiox1 _ hm; change _ ≤ w.heap.size at h1; change w.heap.size < _ at h2; omega) c0_3
        replace c1_0 := hch.cell (fun hm => by have h1 := loox1 _ hm; have h2 := hiox1 _ hm; change _ ≤ w.heap.size + 1 at h1; change w.heap.size + 1 < _ at h2; omega) c1_0
        replace c1_1 := hch.cell (fun hm => by have h1 := loox1 _ hm; have h2 := hiox1 _ hm; change _ ≤ w.heap.size + 1 at h1; change w.heap.size + 1 < _ at h2; omega) c1_1
        replace c1_2 := hch.cell (fun hm => by have h1 := loox1 _ hm; have h2 := hiox1 _ hm; change _ ≤ w.heap.size + 1 at h1; change w.heap.size + 1 < _ at h2; omega) c1_2
        replace c1_3 := hch.cell (fun hm => by have h1 := loox1 _ hm; have h2 := hiox1 _ hm; change _ ≤ w.heap.size + 1 at h1; change w.heap.size + 1 < _ at h2; omega) c1_3
        replace xw0_0 := hch.cell (fun hm => by have h1 := loox1 _ hm; have h2 := hiox1 _ hm; change _ ≤ gw0 at h1; change gw0 < _ at h2; omega) xw0_0
        replace xw0_1 := hch.cell (fun hm => by have h1 := loox1 _ hm; have h2 := hiox1 _ hm; change _ ≤ gw0 at h1; change gw0 < _ at h2; omega) xw0_1
        replace xw0_2 := hch.cell (fun hm => by have h1 := loox1 _ hm; have h2 := hiox1 _ hm; change _ ≤ gw0 at h1; change gw0 < _ at h2; omega) xw0_2
        replace xw0_3 := hch.cell (fun hm => by have h1 := loox1 _ hm; have h2 := hiox1 _ hm; change _ ≤ gw0 at h1; change gw0 < _ at h2; omega) xw0_3
        replace xg0_0 := hch.cell (fun hm => by have h1 := loox1 _ hm; have h2 := hiox1 _ hm; change _ ≤ w9.heap.size at h1; change w9.heap.size < _ at h2; omega) xg0_0
        replace xg0_1 := hch.cell (fun hm => by have h1 := loox1 _ hm; have h2 := hiox1 _ hm; change _ ≤ w9.heap.size at h1; change w9.heap.size < _ at h2; omega) xg0_1
        replace xg0_2 := hch.cell (fun hm => by have h1 := loox1 _ hm; have h2 := hiox1 _ hm; change _ ≤ w9.heap.size at h1; change w9.heap.size < _ at h2; omega) xg0_2
        replace xg0_3 := hch.cell (fun hm => by have h1 := loox1 _ hm; have h2 := hiox1 _ hm; change _ ≤ w9.heap.size at h1; change w9.heap.size < _ at h2; omega) xg0_3
        clear dc0_0 dc1_0 dxw0_0 dxg0_0
        replace r0 := CoRep.chg hch (fun b hb hm => by have h1 := loox1 _ hm; have h2 := hB.size; have h3 : b < w.heap.size := hb; omega) r0
        replace r1 := CoRep.chg hch (fun b hb hm => by have h1 := loox1 _ hm; have h2 := hB.size; have h3 : b < w.heap.size := hb; omega) r1
        replace ow0 := CoOwn.chg hch (fun b hb hm => by have h1 := loox1 _ hm; have h2 := hiox1 _ hm; have h3 := loow0 _ hb; have h4 := hiow0 _ hb; omega) ow0
        replace og0 := CoOwn.chg hch (fun b hb hm => by have h1 := loox1 _ hm; have h2 := hiox1 _ hm; have h3 := loog0 _ hb; have h4 := hiog0 _ hb; omega) og0
        replace hB := hB.trans (hch.below (fun b hm => by have h1 := loox1 _ hm; have h2 := hB.size; omega) hB.size)
        have zw16 : w15.heap.size ≤ w16.heap.size := hch.size
        have dc0_0 := World.block_lt_of_cell? _ _ c0_0
        have dc1_0 := World.block_lt_of_cell? _ _ c1_0
        have dxw0_0 := World.block_lt_of_cell? _ _ xw0_0
        have dxg0_0 := World.block_lt_of_cell? _ _ xg0_0
        clear hch
        clear ox1 ndx1
        go_wp2_with fail
        refine (eqCoercion_refl _ _ (compT t0 t1) _ _ _ og0.rep ow0.rep).mono ?_
        rintro e w17 ⟨rfl, hb17⟩
        have hst := hb17
        clear dc0_0 dc1_0 dxw0_0 dxg0_0
        replace c0_0 := bcell hst c0_0
        replace c0_1 := bcell hst c0_1
        replace c0_2 := bcell hst c0_2
        replace c0_3 := bcell hst c0_3
        replace c1_0 := bcell hst c1_0
        replace c1_1 := bcell hst c1_1
        replace c1_2 := bcell hst c1_2
        replace c1_3 := bcell hst c1_3
        replace xw0_0 := bcell hst xw0_0
        replace xw0_1 := bcell hst xw0_1
        replace xw0_2 := bcell hst xw0_2
        replace xw0_3 := bcell hst xw0_3
        replace xg0_0 := bcell hst xg0_0
        replace xg0_1 := bcell hst xg0_1
        replace xg0_2 := bcell hst xg0_2
        replace xg0_3 := bcell hst xg0_3
        replace r0 := r0.below hst
        replace r1 := r1.below hst
        replace ow0 := ow0.below hst
        replace og0 := og0.below hst
        replace hB := bstep hB hst
        have zw17 : w16.heap.size ≤ w17.heap.size := hst.size
        have dc0_0 := World.block_lt_of_cell? _ _ c0_0
        have dc1_0 := World.block_lt_of_cell? _ _ c1_0
        have dxw0_0 := World.block_lt_of_cell? _ _ xw0_0
        have dxg0_0 := World.block_lt_of_cell? _ _ xg0_0
        clear hst
        go_wp2_with fail
        refine (markCoercion_any (compT t0 t1) 1 _ _ _ og0 ndg0 (by omega) HuM0.out).mono ?_
        rintro e w18 ⟨rfl, og0, hc18⟩
        rw [HhM0.out]
        have hch := hc18
        replace c0_0 := hch.cell (fun hm => by have h1 := loog0 _ hm; have h2 := hiog0 _ hm; change _ ≤ w.heap.size at h1; change w.heap.size < _ at h2; omega) c0_0
        replace c0_1 := hch.cell (fun hm => by have h1 := loog0 _ hm; have h2 := hiog0 _ hm; change _ ≤ w.heap.size at h1; change w.heap.size < _ at h2; omega) c0_1
        replace c0_2 := hch.cell (fun hm => by have h1 := loog0 _ hm; have h2 := hiog0 _ hm; change _ ≤ w.heap.size at h1; change w.heap.size < _ at h2; omega) c0_2
        replace c0_3 := hch.cell (fun hm => by have h1 := loog0 _ hm; have h2 := hiog0 _ hm; change _ ≤ w.heap.size at h1; change w.heap.size < _ at h2; omega) c0_3
        replace c1_0 := hch.cell (fun hm => by have h1 := loog0 _ hm; have h2 := hiog0 _ hm; change _ ≤ w.heap.size + 1 at h1; change w.heap.size + 1 < _ at h2; omega) c1_0
        replace c1_1 := hch.cell (fun hm => by have h1 := loog0 _ hm; have h2 := hiog0 _ hm; change _ ≤ w.heap.size + 1 at h1; change w.heap.size + 1 < _ at h2; omega) c1_1
        replace c1_2 := hch.cell (fun hm => by have h1 := loog0 _ hm; have h2 := hiog0 _ hm; change _ ≤ w.heap.size + 1 at h1; change w.heap.size + 1 < _ at h2; omega) c1_2
        replace c1_3 := hch.cell (fun hm => by have h1 := loog0 _ hm; have h2 := hiog0 _ hm; change _ ≤ w.heap.size + 1 at h1; change w.heap.size + 1 < _ at h2; omega) c1_3
        replace xw0_0 := hch.cell (fun hm => by have h1 := loog0 _ hm; have h2 := hiog0 _ hm; change _ ≤ gw0 at h1; change gw0 < _ at h2; omega) xw0_0
        replace xw0_1 := hch.cell (fun hm => by have h1 := loog0 _ hm; have h2 := hiog0 _ hm; change _ ≤ gw0 at h1; change gw0 < _ at h2; omega) xw0_1
        replace xw0_2 := hch.cell (fun hm => by have h1 := loog0 _ hm; have h2 := hiog0 _ hm; change _ ≤ gw0 at h1; change gw0 < _ at h2; omega) xw0_2
        replace xw0_3 := hch.cell (fun hm => by have h1 := loog0 _ hm; have h2 := hiog0 _ hm; change _ ≤ gw0 at h1; change gw0 < _ at h2; omega) xw0_3
        replace xg0_0 := hch.cell (fun hm => by have h1 := loog0 _ hm; have h2 := hiog0 _ hm; change _ ≤ w9.heap.size at h1; change w9.heap.size < _ at h2; omega) xg0_0
        replace xg0_1 := hch.cell (fun hm => by have h1 := loog0 _ hm; have h2 := hiog0 _ hm; change _ ≤ w9.heap.size at h1; change w9.heap.size < _ at h2; omega) xg0_1
        replace xg0_2 := hch.cell (fun hm => by have h1 := loog0 _ hm; have h2 := hiog0 _ hm; change _ ≤ w9.heap.size at h1; change w9.heap.size < _ at h2; omega) xg0_2
        replace xg0_3 := hch.cell (fun hm => by have h1 := loog0 _ hm; have h2 := hiog0 _ hm; change _ ≤ w9.heap.size at h1; change w9.heap.size < _ at h2; omega) xg0_3
        clear dc0_0 dc1_0 dxw0_0 dxg0_0
        replace r0 := CoRep.chg hch (fun b hb hm => by have h1 := loog0 _ hm; have h2 := hB.size; have h3 : b < w.heap.size := hb; omega) r0
        replace r1 := CoRep.chg hch (fun b hb hm => by have h1 := loog0 _ hm; have h2 := hB.size; have h3 : b < w.heap.size := hb; omega) r1
        replace ow0 := CoOwn.chg hch (fun b hb hm => by have h1 := loog0 _ hm; have h2 := hiog0 _ hm; have h3 := loow0 _ hb; have h4 := hiow0 _ hb; omega) ow0
        replace hB := hB.trans (hch.below (fun b hm => by have h1 := loog0 _ hm; have h2 := hB.size; omega) hB.size)
        have zw18 : w17.heap.size ≤ w18.heap.size := hch.size
        have dc0_0 := World.block_lt_of_cell? _ _ c0_0
        have dc1_0 := World.block_lt_of_cell? _ _ c1_0
        have dxw0_0 := World.block_lt_of_cell? _ _ xw0_0
        have dxg0_0 := World.block_lt_of_cell? _ _ xg0_0
        clear hch
        go_wp2_with fail
        refine (heldCoercion_any _ (compT t0 t1) 1 _ _ og0.rep (by omega) HuM0.out).mono ?_
        rintro e w19 ⟨rfl, hb19⟩
        rw [HhM0.out]
        have hst := hb19
        clear dc0_0 dc1_0 dxw0_0 dxg0_0
        replace c0_0 := bcell hst c0_0
        replace c0_1 := bcell hst c0_1
        replace c0_2 := bcell hst c0_2
        replace c0_3 := bcell hst c0_3
        replace c1_0 := bcell hst c1_0
        replace c1_1 := bcell hst c1_1
        replace c1_2 := bcell hst c1_2
        replace c1_3 := bcell hst c1_3
        replace xw0_0 := bcell hst xw0_0
        replace xw0_1 := bcell hst xw0_1
        replace xw0_2 := bcell hst xw0_2
        replace xw0_3 := bcell hst xw0_3
        replace xg0_0 := bcell hst xg0_0
        replace xg0_1 := bcell hst xg0_1
        replace xg0_2 := bcell hst xg0_2
        replace xg0_3 := bcell hst xg0_3
        replace r0 := r0.below hst
        replace r1 := r1.below hst
        replace ow0 := ow0.below hst
        replace og0 := og0.below hst
        replace hB := bstep hB hst
        have zw19 : w18.heap.size ≤ w19.heap.size := hst.size
        have dc0_0 := World.block_lt_of_cell? _ _ c0_0
        have dc1_0 := World.block_lt_of_cell? _ _ c1_0
        have dxw0_0 := World.block_lt_of_cell? _ _ xw0_0
        have dxg0_0 := World.block_lt_of_cell? _ _ xg0_0
        clear hst
        go_wp2_with fail
        go_cut [15, 16] (fun s6 s7 wx => CutCo (compT t0 t1) (compOk t0 t1) w19 s6 s7 wx)
        case first =>
          have hS0 := Lib.hid (show w19.cell? ⟨w.heap.size, 0, none⟩ = some (Value.int IntKind.i64 k0) ∧ w19.cell? ⟨w.heap.size, 1, none⟩ = some (Value.int IntKind.i64 gt0) ∧ w19.cell? ⟨w.heap.size, 2, none⟩ = some (Value.int IntKind.i64 lb0) ∧ w19.cell? ⟨w.heap.size, 3, none⟩ = some (Value.slice a0 n0 q0) ∧ w19.cell? ⟨w.heap.size + 1, 0, none⟩ = some (Value.int IntKind.i64 k1) ∧ w19.cell? ⟨w.heap.size + 1, 1, none⟩ = some (Value.int IntKind.i64 gt1) ∧ w19.cell? ⟨w.heap.size + 1, 2, none⟩ = some (Value.int IntKind.i64 lb1) ∧ w19.cell? ⟨w.heap.size + 1, 3, none⟩ = some (Value.slice a1 n1 q1) from ⟨c0_0, c0_1, c0_2, c0_3, c1_0, c1_1, c1_2, c1_3⟩)
          have hSd := Lib.hid (show ∀ X : World, (X.cell? ⟨w.heap.size, 0, none⟩ = some (Value.int IntKind.i64 k0) ∧ X.cell? ⟨w.heap.size, 1, none⟩ = some (Value.int IntKind.i64 gt0) ∧ X.cell? ⟨w.heap.size, 2, none⟩ = some (Value.int IntKind.i64 lb0) ∧ X.cell? ⟨w.heap.size, 3, none⟩ = some (Value.slice a0 n0 q0) ∧ X.cell? ⟨w.heap.size + 1, 0, none⟩ = some (Value.int IntKind.i64 k1) ∧ X.cell? ⟨w.heap.size + 1, 1, none⟩ = some (Value.int IntKind.i64 gt1) ∧ X.cell? ⟨w.heap.size + 1, 2, none⟩ = some (Value.int IntKind.i64 lb1) ∧ X.cell? ⟨w.heap.size + 1, 3, none⟩ = some (Value.slice a1 n1 q1)) → ((World.drew X).cell? ⟨w.heap.size, 0, none⟩ = some (Value.int IntKind.i64 k0) ∧ (World.drew X).cell? ⟨w.heap.size, 1, none⟩ = some (Value.int IntKind.i64 gt0) ∧ (World.drew X).cell? ⟨w.heap.size, 2, none⟩ = some (Value.int IntKind.i64 lb0) ∧ (World.drew X).cell? ⟨w.heap.size, 3, none⟩ = some (Value.slice a0 n0 q0) ∧ (World.drew X).cell? ⟨w.heap.size + 1, 0, none⟩ = some (Value.int IntKind.i64 k1) ∧ (World.drew X).cell? ⟨w.heap.size + 1, 1, none⟩ = some (Value.int IntKind.i64 gt1) ∧ (World.drew X).cell? ⟨w.heap.size + 1, 2, none⟩ = some (Value.int IntKind.i64 lb1) ∧ (World.drew X).cell? ⟨w.heap.size + 1, 3, none⟩ = some (Value.slice a1 n1 q1)) from fun X s => ⟨dcell s.1, dcell s.2.1, dcell s.2.2.1, dcell s.2.2.2.1, dcell s.2.2.2.2.1, dcell s.2.2.2.2.2.1, dcell s.2.2.2.2.2.2.1, dcell s.2.2.2.2.2.2.2⟩)
          have hSb := Lib.hid (show ∀ X Y : World, Below X.heap.size X Y → (X.cell? ⟨w.heap.size, 0, none⟩ = some (Value.int IntKind.i64 k0) ∧ X.cell? ⟨w.heap.size, 1, none⟩ = some (Value.int IntKind.i64 gt0) ∧ X.cell? ⟨w.heap.size, 2, none⟩ = some (Value.int IntKind.i64 lb0) ∧ X.cell? ⟨w.heap.size, 3, none⟩ = some (Value.slice a0 n0 q0) ∧ X.cell? ⟨w.heap.size + 1, 0, none⟩ = some (Value.int IntKind.i64 k1) ∧ X.cell? ⟨w.heap.size + 1, 1, none⟩ = some (Value.int IntKind.i64 gt1) ∧ X.cell? ⟨w.heap.size + 1, 2, none⟩ = some (Value.int IntKind.i64 lb1) ∧ X.cell? ⟨w.heap.size + 1, 3, none⟩ = some (Value.slice a1 n1 q1)) → (Y.cell? ⟨w.heap.size, 0, none⟩ = some (Value.int IntKind.i64 k0) ∧ Y.cell? ⟨w.heap.size, 1, none⟩ = some (Value.int IntKind.i64 gt0) ∧ Y.cell? ⟨w.heap.size, 2, none⟩ = some (Value.int IntKind.i64 lb0) ∧ Y.cell? ⟨w.heap.size, 3, none⟩ = some (Value.slice a0 n0 q0) ∧ Y.cell? ⟨w.heap.size + 1, 0, none⟩ = some (Value.int IntKind.i64 k1) ∧ Y.cell? ⟨w.heap.size + 1, 1, none⟩ = some (Value.int IntKind.i64 gt1) ∧ Y.cell? ⟨w.heap.size + 1, 2, none⟩ = some (Value.int IntKind.i64 lb1) ∧ Y.cell? ⟨w.heap.size + 1, 3, none⟩ = some (Value.slice a1 n1 q1)) from fun X Y h s => ⟨bcell h s.1, bcell h s.2.1, bcell h s.2.2.1, bcell h s.2.2.2.1, bcell h s.2.2.2.2.1, bcell h s.2.2.2.2.2.1, bcell h s.2.2.2.2.2.2.1, bcell h s.2.2.2.2.2.2.2⟩)
          have hSs := Lib.hid (show ∀ (X : World) (g o : Nat) (v : Value), w.heap.size ≠ g → w.heap.size + 1 ≠ g → (X.cell? ⟨w.heap.size, 0, none⟩ = some (Value.int IntKind.i64 k0) ∧ X.cell? ⟨w.heap.size, 1, none⟩ = some (Value.int IntKind.i64 gt0) ∧ X.cell? ⟨w.heap.size, 2, none⟩ = some (Value.int IntKind.i64 lb0) ∧ X.cell? ⟨w.heap.size, 3, none⟩ = some (Value.slice a0 n0 q0) ∧ X.cell? ⟨w.heap.size + 1, 0, none⟩ = some (Value.int IntKind.i64 k1) ∧ X.cell? ⟨w.heap.size + 1, 1, none⟩ = some (Value.int IntKind.i64 gt1) ∧ X.cell? ⟨w.heap.size + 1, 2, none⟩ = some (Value.int IntKind.i64 lb1) ∧ X.cell? ⟨w.heap.size + 1, 3, none⟩ = some (Value.slice a1 n1 q1)) → ((World.setCell X ⟨g, o, none⟩ v).cell? ⟨w.heap.size, 0, none⟩ = some (Value.int IntKind.i64 k0) ∧ (World.setCell X ⟨g, o, none⟩ v).cell? ⟨w.heap.size, 1, none⟩ = some (Value.int IntKind.i64 gt0) ∧ (World.setCell X ⟨g, o, none⟩ v).cell? ⟨w.heap.size, 2, none⟩ = some (Value.int IntKind.i64 lb0) ∧ (World.setCell X ⟨g, o, none⟩ v).cell? ⟨w.heap.size, 3, none⟩ = some (Value.slice a0 n0 q0) ∧ (World.setCell X ⟨g, o, none⟩ v).cell? ⟨w.heap.size + 1, 0, none⟩ = some (Value.int IntKind.i64 k1) ∧ (World.setCell X ⟨g, o, none⟩ v).cell? ⟨w.heap.size + 1, 1, none⟩ = some (Value.int IntKind.i64 gt1) ∧ (World.setCell X ⟨g, o, none⟩ v).cell? ⟨w.heap.size + 1, 2, none⟩ = some (Value.int IntKind.i64 lb1) ∧ (World.setCell X ⟨g, o, none⟩ v).cell? ⟨w.heap.size + 1, 3, none⟩ = some (Value.slice a1 n1 q1)) from fun X g o v n0 n1 s => ⟨sc_blk s.1 n0, sc_blk s.2.1 n0, sc_blk s.2.2.1 n0, sc_blk s.2.2.2.1 n0, sc_blk s.2.2.2.2.1 n1, sc_blk s.2.2.2.2.2.1 n1, sc_blk s.2.2.2.2.2.2.1 n1, sc_blk s.2.2.2.2.2.2.2 n1⟩)
          go_region_held3 (fun w' => w'.cell? ⟨w.heap.size, 0, none⟩ = some (.int .i64 k0) ∧ w'.cell? ⟨w.heap.size, 1, none⟩ = some (.int .i64 gt0) ∧ w'.cell? ⟨w.heap.size, 2, none⟩ = some (.int .i64 lb0) ∧ w'.cell? ⟨w.heap.size, 3, none⟩ = some (.slice a0 n0 q0) ∧ w'.cell? ⟨w.heap.size + 1, 0, none⟩ = some (.int .i64 k1) ∧ w'.cell? ⟨w.heap.size + 1, 1, none⟩ = some (.int .i64 gt1) ∧ w'.cell? ⟨w.heap.size + 1, 2, none⟩ = some (.int .i64 lb1) ∧ w'.cell? ⟨w.heap.size + 1, 3, none⟩ = some (.slice a1 n1 q1))
            (repeat (first | with_reducible exact hS0.out | with_reducible refine hSs.out _ _ _ _ (by omega) (by omega) ?_ | with_reducible refine hSb.out _ _ hb22 ?_ | with_reducible refine hSb.out _ _ hb21 ?_ | with_reducible refine hSb.out _ _ hb20 ?_ | with_reducible refine hSb.out _ _ bal1 ?_ | with_reducible refine hSd.out _ ?_))
            (first | (go_at_call 7; ((with_reducible refine (toCoercion_any _ t0 _ _ (r0.below (by first | exact bdr | exact bal1.drew | exact (bstep bdr bal1))) Hb0.out).mono ?_); rintro e w20 ⟨v20, rfl, hv20, hb20⟩; have hB20 : Below w19.heap.size w19 w20 := (by first | exact bstep bdr hb20 | exact bstep bal1.drew hb20 | exact bstep (bstep bdr bal1) hb20); have zs20 := hb20.size; (try simp at zs20); obtain ⟨k20, gt20, lb20, a20, n20, q20, rfl⟩ := hv20.shape)) | (go_at_call 7; ((with_reducible refine (toCoercion_any _ t1 _ _ (r1.below (by first | exact hB20 | exact (bstep hB20 bal1))) Hb1.out).mono ?_); rintro e w21 ⟨v21, rfl, hv21, hb21⟩; have hB21 : Below w19.heap.size w19 w21 := (by first | exact bstep hB20 hb21 | exact bstep (bstep hB20 bal1) hb21); have zs21 := hb21.size; (try simp at zs21); obtain ⟨k21, gt21, lb21, a21, n21, q21, rfl⟩ := hv21.shape; have hr20 := hv20.rep.below (by first | exact hb21 | exact (bstep bal1 hb21)))) | (go_at_call 8; ((with_reducible refine (implComposeCoercions _ _ t0 t1 _ _ _ (by first | exact hr20 | exact hr20.below bal1) (by first | exact hv21.rep | exact hv21.rep.below bal1)).mono ?_); rintro e w22 ⟨v22, rfl, hv22, hb22⟩; have hB22 : Below w19.heap.size w19 w22 := (by first | exact bstep hB21 hb22 | exact bstep (bstep hB21 bal1) hb22); obtain ⟨k22, gt22, lb22, a22, n22, q22, rfl⟩ := hv22.shape; have zz := hB21.size; have zy := hB20.size; have zs22 := hb22.size; (try simp at zs22); (first | (have G0 : w22.cell? ⟨w19.heap.size, 0, none⟩ = some (.int .i64 0) := bcell hb22 (bcell hb21 (bcell hb20 (dcell (cell_new (by simp) 0)))); have GF0 : w22.frozen? ⟨w19.heap.size, 0, none⟩ = false := bfroc hb22 (bcell hb21 (bcell hb20 (dcell (cell_new (by simp) 0)))) (bfroc hb21 (bcell hb20 (dcell (cell_new (by simp) 0))) (bfroc hb20 (dcell (cell_new (by simp) 0)) (dfro (fro_new (by simp) 0)))); have G1 : w22.cell? ⟨w19.heap.size, 1, none⟩ = some (.int .i64 0) := bcell hb22 (bcell hb21 (bcell hb20 (dcell (cell_new (by simp) 1)))); have GF1 : w22.frozen? ⟨w19.heap.size, 1, none⟩ = false := bfroc hb22 (bcell hb21 (bcell hb20 (dcell (cell_new (by simp) 1)))) (bfroc hb21 (bcell hb20 (dcell (cell_new (by simp) 1))) (bfroc hb20 (dcell (cell_new (by simp) 1)) (dfro (fro_new (by simp) 1)))); have G2 : w22.cell? ⟨w19.heap.size, 2, none⟩ = some (.int .i64 0) := bcell hb22 (bcell hb21 (bcell hb20 (dcell (cell_new (by simp) 2)))); have GF2 : w22.frozen? ⟨w19.heap.size, 2, none⟩ = false := bfroc hb22 (bcell hb21 (bcell hb20 (dcell (cell_new (by simp) 2)))) (bfroc hb21 (bcell hb20 (dcell (cell_new (by simp) 2))) (bfroc hb20 (dcell (cell_new (by simp) 2)) (dfro (fro_new (by simp) 2)))); have G3 : w22.cell? ⟨w19.heap.size, 3, none⟩ = some (.slice none 0 0) := bcell hb22 (bcell hb21 (bcell hb20 (dcell (cell_new (by simp) 3)))); have GF3 : w22.frozen? ⟨w19.heap.size, 3, none⟩ = false := bfroc hb22 (bcell hb21 (bcell hb20 (dcell (cell_new (by simp) 3)))) (bfroc hb21 (bcell hb20 (dcell (cell_new (by simp) 3))) (bfroc hb20 (dcell (cell_new (by simp) 3)) (dfro (fro_new (by simp) 3))))) | (have G0 : w22.cell? ⟨w20.heap.size, 0, none⟩ = some (.int .i64 0) := bcell hb22 (bcell hb21 (cell_new (by simp) 0)); have GF0 : w22.frozen? ⟨w20.heap.size, 0, none⟩ = false := bfroc hb22 (bcell hb21 (cell_new (by simp) 0)) (bfroc hb21 (cell_new (by simp) 0) (fro_new (by simp) 0)); have G1 : w22.cell? ⟨w20.heap.size, 1, none⟩ = some (.int .i64 0) := bcell hb22 (bcell hb21 (cell_new (by simp) 1)); have GF1 : w22.frozen? ⟨w20.heap.size, 1, none⟩ = false := bfroc hb22 (bcell hb21 (cell_new (by simp) 1)) (bfroc hb21 (cell_new (by simp) 1) (fro_new (by simp) 1)); have G2 : w22.cell? ⟨w20.heap.size, 2, none⟩ = some (.int .i64 0) := bcell hb22 (bcell hb21 (cell_new (by simp) 2)); have GF2 : w22.frozen? ⟨w20.heap.size, 2, none⟩ = false := bfroc hb22 (bcell hb21 (cell_new (by simp) 2)) (bfroc hb21 (cell_new (by simp) 2) (fro_new (by simp) 2)); have G3 : w22.cell? ⟨w20.heap.size, 3, none⟩ = some (.slice none 0 0) := bcell hb22 (bcell hb21 (cell_new (by simp) 3)); have GF3 : w22.frozen? ⟨w20.heap.size, 3, none⟩ = false := bfroc hb22 (bcell hb21 (cell_new (by simp) 3)) (bfroc hb21 (cell_new (by simp) 3) (fro_new (by simp) 3))) | (have G0 : w22.cell? ⟨w21.heap.size, 0, none⟩ = some (.int .i64 0) := bcell hb22 (cell_new (by simp) 0); have GF0 : w22.frozen? ⟨w21.heap.size, 0, none⟩ = false := bfroc hb22 (cell_new (by simp) 0) (fro_new (by simp) 0); have G1 : w22.cell? ⟨w21.heap.size, 1, none⟩ = some (.int .i64 0) := bcell hb22 (cell_new (by simp) 1); have GF1 : w22.frozen? ⟨w21.heap.size, 1, none⟩ = false := bfroc hb22 (cell_new (by simp) 1) (fro_new (by simp) 1); have G2 : w22.cell? ⟨w21.heap.size, 2, none⟩ = some (.int .i64 0) := bcell hb22 (cell_new (by simp) 2); have GF2 : w22.frozen? ⟨w21.heap.size, 2, none⟩ = false := bfroc hb22 (cell_new (by simp) 2) (fro_new (by simp) 2); have G3 : w22.cell? ⟨w21.heap.size, 3, none⟩ = some (.slice none 0 0) := bcell hb22 (cell_new (by simp) 3); have GF3 : w22.frozen? ⟨w21.heap.size, 3, none⟩ = false := bfroc hb22 (cell_new (by simp) 3) (fro_new (by simp) 3)) | skip))))
          all_goals (go_wp2_with fail; go_meet; first | exact CutCo_late hB22 hB21.size hv22 | exact CutCo_early hB22 G0 G1 G2 G3 (by first | exact Nat.le_refl _ | omega) (by first | exact Nat.le_refl _ | omega | (simp; omega) | simp) hv22)
        case rest =>
          obtain ⟨w23, rfl⟩ : ∃ x : World, x = wc := ⟨_, rfl⟩
          obtain ⟨gh0, kh0, gth0, lbh0, ah0, nh0, qh0, fh0, rfl, rfl, lgh0, hgh0, xh0_0, xh0_1, xh0_2, xh0_3, oh0, ndh0, loh0, gnh0, hb23⟩ := hcut
          have hst := hb23
          clear dc0_0 dc1_0 dxw0_0 dxg0_0
          replace c0_0 := bcell hst c0_0
          replace c0_1 := bcell hst c0_1
          replace c0_2 := bcell hst c0_2
          replace c0_3 := bcell hst c0_3
          replace c1_0 := bcell hst c1_0
          replace c1_1 := bcell hst c1_1
          replace c1_2 := bcell hst c1_2
          replace c1_3 := bcell hst c1_3
          replace xw0_0 := bcell hst xw0_0
          replace xw0_1 := bcell hst xw0_1
          replace xw0_2 := bcell hst xw0_2
          replace xw0_3 := bcell hst xw0_3
          replace xg0_0 := bcell hst xg0_0
          replace xg0_1 := bcell hst xg0_1
          replace xg0_2 := bcell hst xg0_2
          replace xg0_3 := bcell hst xg0_3
          replace r0 := r0.below hst
          replace r1 := r1.below hst
          replace ow0 := ow0.below hst
          replace og0 := og0.below hst
          replace hB := bstep hB hst
          have zw23 : w19.heap.size ≤ w23.heap.size := hst.size
          have dc0_0 := World.block_lt_of_cell? _ _ c0_0
          have dc1_0 := World.block_lt_of_cell? _ _ c1_0
          have dxw0_0 := World.block_lt_of_cell? _ _ xw0_0
          have dxg0_0 := World.block_lt_of_cell? _ _ xg0_0
          clear hst
          have looh0 : ∀ b ∈ fh0, w19.heap.size + 0 ≤ b := fun b hb => by have := loh0 b hb; skip; omega
          have hioh0 : ∀ b ∈ fh0, b < w23.heap.size := oh0.lt
          clear loh0
          have dxh0_0 := World.block_lt_of_cell? _ _ xh0_0
          go_wp2_with fail
          refine (eqCoercion_refl _ _ (compT t0 t1) _ _ _ oh0.rep ow0.rep).mono ?_
          rintro e w24 ⟨rfl, hb24⟩
          have hst := hb24
          clear dc0_0 dc1_0 dxw0_0 dxg0_0 dxh0_0
          replace c0_0 := bcell hst c0_0
          replace c0_1 := bcell hst c0_1
          replace c0_2 := bcell hst c0_2
          replace c0_3 := bcell hst c0_3
          replace c1_0 := bcell hst c1_0
          replace c1_1 := bcell hst c1_1
          replace c1_2 := bcell hst c1_2
          replace c1_3 := bcell hst c1_3
          replace xw0_0 := bcell hst xw0_0
          replace xw0_1 := bcell hst xw0_1
          replace xw0_2 := bcell hst xw0_2
          replace xw0_3 := bcell hst xw0_3
          replace xg0_0 := bcell hst xg0_0
          replace xg0_1 := bcell hst xg0_1
          replace xg0_2 := bcell hst xg0_2
          replace xg0_3 := bcell hst xg0_3
          replace xh0_0 := bcell hst xh0_0
          replace xh0_1 := bcell hst xh0_1
          replace xh0_2 := bcell hst xh0_2
          replace xh0_3 := bcell hst xh0_3
          replace r0 := r0.below hst
          replace r1 := r1.below hst
          replace ow0 := ow0.below hst
          replace og0 := og0.below hst
          replace oh0 := oh0.below hst
          replace hB := bstep hB hst
          have zw24 : w23.heap.size ≤ w24.heap.size := hst.size
          have dc0_0 := World.block_lt_of_cell? _ _ c0_0
          have dc1_0 := World.block_lt_of_cell? _ _ c1_0
          have dxw0_0 := World.block_lt_of_cell? _ _ xw0_0
          have dxg0_0 := World.block_lt_of_cell? _ _ xg0_0
          have dxh0_0 := World.block_lt_of_cell? _ _ xh0_0
          clear hst
          go_wp2_with fail
          refine (heldCoercion_any _ (compT t0 t1) 1 _ _ og0.rep (by omega) HuM0.out).mono ?_
          rintro e w25 ⟨rfl, hb25⟩
          rw [HhM0.out]
          have hst := hb25
          clear dc0_0 dc1_0 dxw0_0 dxg0_0 dxh0_0
          replace c0_0 := bcell hst c0_0
          replace c0_1 := bcell hst c0_1
          replace c0_2 := bcell hst c0_2
          replace c0_3 := bcell hst c0_3
          replace c1_0 := bcell hst c1_0
          replace c1_1 := bcell hst c1_1
          replace c1_2 := bcell hst c1_2
          replace c1_3 := bcell hst c1_3
          replace xw0_0 := bcell hst xw0_0
          replace xw0_1 := bcell hst xw0_1
          replace xw0_2 := bcell hst xw0_2
          replace xw0_3 := bcell hst xw0_3
          replace xg0_0 := bcell hst xg0_0
          replace xg0_1 := bcell hst xg0_1
          replace xg0_2 := bcell hst xg0_2
          replace xg0_3 := bcell hst xg0_3
          replace xh0_0 := bcell hst xh0_0
          replace xh0_1 := bcell hst xh0_1
          replace xh0_2 := bcell hst xh0_2
          replace xh0_3 := bcell hst xh0_3
          replace r0 := r0.below hst
          replace r1 := r1.below hst
          replace ow0 := ow0.below hst
          replace og0 := og0.below hst
          replace oh0 := oh0.below hst
          replace hB := bstep hB hst
          have zw25 : w24.heap.size ≤ w25.heap.size := hst.size
          have dc0_0 := World.block_lt_of_cell? _ _ c0_0
          have dc1_0 := World.block_lt_of_cell? _ _ c1_0
          have dxw0_0 := World.block_lt_of_cell? _ _ xw0_0
          have dxg0_0 := World.block_lt_of_cell? _ _ xg0_0
          have dxh0_0 := World.block_lt_of_cell? _ _ xh0_0
          clear hst
          go_wp2_with fail
          go_ret
          exact ⟨rfl, hB⟩
    · have s1 := szr_neg h1
      have l0 : 0 ≤ (1048576 - (t0.cnt : Int)) := by omega
      have m0 : (1048576 - (t0.cnt : Int)) ≤ 1048576 := by omega
      have S0 := Lib.hid s0
      have S1 := Lib.hid s1
      clear s0 h0 s1 h1
      go_enter Try.func3, Try.ntmps3
      go_wp2_with fail
      refine (szCoercion_any _ t0 _ _ _ (r0.below bal2) (by omega) (by omega)).mono ?_
      rintro e w26 ⟨rfl, hb26⟩
      rw [S0.out]
      have hB := bstep bal2 hb26
      have zw26 := hB.size
      have zpw26 : w.heap.size + 2 ≤ w26.heap.size := by have := hb26.size; simp at this; omega
      have c0_0 : w26.cell? ⟨w.heap.size, 0, none⟩ = some (.int .i64 k0) := bcell hb26 (bcell bal1 (cell_n0 0))
      have c0_1 : w26.cell? ⟨w.heap.size, 1, none⟩ = some (.int .i64 gt0) := bcell hb26 (bcell bal1 (cell_n0 1))
      have c0_2 : w26.cell? ⟨w.heap.size, 2, none⟩ = some (.int .i64 lb0) := bcell hb26 (bcell bal1 (cell_n0 2))
      have c0_3 : w26.cell? ⟨w.heap.size, 3, none⟩ = some (.slice a0 n0 q0) := bcell hb26 (bcell bal1 (cell_n0 3))
      have c1_0 : w26.cell? ⟨w.heap.size + 1, 0, none⟩ = some (.int .i64 k1) := bcell hb26 (cell_n1 0)
      have c1_1 : w26.cell? ⟨w.heap.size + 1, 1, none⟩ = some (.int .i64 gt1) := bcell hb26 (cell_n1 1)
      have c1_2 : w26.cell? ⟨w.heap.size + 1, 2, none⟩ = some (.int .i64 lb1) := bcell hb26 (cell_n1 2)
      have c1_3 : w26.cell? ⟨w.heap.size + 1, 3, none⟩ = some (.slice a1 n1 q1) := bcell hb26 (cell_n1 3)
      replace r0 := r0.below hB
      replace r1 := r1.below hB
      have dc0_0 := World.block_lt_of_cell? _ _ c0_0
      have dc1_0 := World.block_lt_of_cell? _ _ c1_0
      go_wp2_with fail
      refine (szCoercion_any _ t1 _ _ _ r1 (by omega) (by omega)).mono ?_
      rintro e w27 ⟨rfl, hb27⟩
      rw [S1.out]
      have hst := hb27
      clear dc0_0 dc1_0
      replace c0_0 := bcell hst c0_0
      replace c0_1 := bcell hst c0_1
      replace c0_2 := bcell hst c0_2
      replace c0_3 := bcell hst c0_3
      replace c1_0 := bcell hst c1_0
      replace c1_1 := bcell hst c1_1
      replace c1_2 := bcell hst c1_2
      replace c1_3 := bcell hst c1_3
      replace r0 := r0.below hst
      replace r1 := r1.below hst
      replace hB := bstep hB hst
      have zw27 : w26.heap.size ≤ w27.heap.size := hst.size
      have dc0_0 := World.block_lt_of_cell? _ _ c0_0
      have dc1_0 := World.block_lt_of_cell? _ _ c1_0
      clear hst
      go_wp2_with fail
      go_ret
      exact ⟨rfl, hB⟩
  · have s0 := szr_neg h0
    have S0 := Lib.hid s0
    clear s0 h0
    go_enter Try.func3, Try.ntmps3
    go_wp2_with fail
    refine (szCoercion_any _ t0 _ _ _ (r0.below bal2) (by omega) (by omega)).mono ?_
    rintro e w28 ⟨rfl, hb28⟩
    rw [S0.out]
    have hB := bstep bal2 hb28
    have zw28 := hB.size
    have zpw28 : w.heap.size + 2 ≤ w28.heap.size := by have := hb28.size; simp at this; omega
    have c0_0 : w28.cell? ⟨w.heap.size, 0, none⟩ = some (.int .i64 k0) := bcell hb28 (bcell bal1 (cell_n0 0))
    have c0_1 : w28.cell? ⟨w.heap.size, 1, none⟩ = some (.int .i64 gt0) := bcell hb28 (bcell bal1 (cell_n0 1))
    have c0_2 : w28.cell? ⟨w.heap.size, 2, none⟩ = some (.int .i64 lb0) := bcell hb28 (bcell bal1 (cell_n0 2))
    have c0_3 : w28.cell? ⟨w.heap.size, 3, none⟩ = some (.slice a0 n0 q0) := bcell hb28 (bcell bal1 (cell_n0 3))
    have c1_0 : w28.cell? ⟨w.heap.size + 1, 0, none⟩ = some (.int .i64 k1) := bcell hb28 (cell_n1 0)
    have c1_1 : w28.cell? ⟨w.heap.size + 1, 1, none⟩ = some (.int .i64 gt1) := bcell hb28 (cell_n1 1)
    have c1_2 : w28.cell? ⟨w.heap.size + 1, 2, none⟩ = some (.int .i64 lb1) := bcell hb28 (cell_n1 2)
    have c1_3 : w28.cell? ⟨w.heap.size + 1, 3, none⟩ = some (.slice a1 n1 q1) := bcell hb28 (cell_n1 3)
    replace r0 := r0.below hB
    replace r1 := r1.below hB
    have dc0_0 := World.block_lt_of_cell? _ _ c0_0
    have dc1_0 := World.block_lt_of_cell? _ _ c1_0
    go_wp2_with fail
    go_ret
    exact ⟨rfl, hB⟩
end Go.Proofs.Ythhdjacdalehoaa
