/-
  Draws of the arguments of the laws on types.
-/
import Derived.Test.YthhdjacdalehoaaMut
import Derived.Test.YthhdjacdalehoaaB4
import Derived.Test.YthhdjacdalehoaaDraw2
namespace Go.Proofs.Ythhdjacdalehoaa
open Go.RowKit
set_option linter.unusedVariables false
set_option linter.unusedSimpArgs false
set_option maxRecDepth 100000

set_option maxHeartbeats 4000000 in
theorem specDrawConsistent (r : Nat) (y0 : Value) (w : World) (r0 : ByRep w r y0) (hr : r ≤ w.heap.size) :
    Calls Try.prog 29 #[y0] w (DR2 w) := by
  obtain ⟨a0, n0, q0, rfl⟩ := r0.shape
  go_enter Try.func29, Try.ntmps29
  go_wp2_with fail
  refine (specOpen _ _ _ (r0.below bal2) (by first | omega | (simp; done) | (simp; omega))).mono ?_
  rintro e w1 ⟨rb, rfl, hro1, hrd1, hb1⟩
  have hrl1 := hrd1.1
  try simp at hro1
  have hB := (bstep bal2 hb1)
  have zw1 := hB.size
  have f0_0 : w1.frozen? ⟨w.heap.size, 0, none⟩ = false := bfroc hb1 (bcell bal1 (cell_new (by simp) 0)) (bfroc bal1 (cell_new (by simp) 0) (fro_new (by simp) 0))
  have f0_1 : w1.frozen? ⟨w.heap.size, 1, none⟩ = false := bfroc hb1 (bcell bal1 (cell_new (by simp) 1)) (bfroc bal1 (cell_new (by simp) 1) (fro_new (by simp) 1))
  have f1_0 : w1.frozen? ⟨w.heap.size + 1, 0, none⟩ = false := bfroc hb1 (cell_new (by simp) 0) (fro_new (by simp) 0)
  have f1_1 : w1.frozen? ⟨w.heap.size + 1, 1, none⟩ = false := bfroc hb1 (cell_new (by simp) 1) (fro_new (by simp) 1)
  have c0_0 : w1.cell? ⟨w.heap.size, 0, none⟩ = some (.int .i64 0) := bcell hb1 (bcell bal1 (cell_new (by simp) 0))
  have c0_1 : w1.cell? ⟨w.heap.size, 1, none⟩ = some (.slice none 0 0) := bcell hb1 (bcell bal1 (cell_new (by simp) 1))
  have c1_0 : w1.cell? ⟨w.heap.size + 1, 0, none⟩ = some (.int .i64 0) := bcell hb1 (cell_new (by simp) 0)
  have c1_1 : w1.cell? ⟨w.heap.size + 1, 1, none⟩ = some (.slice none 0 0) := bcell hb1 (cell_new (by simp) 1)
  have d0_w1 := World.block_lt_of_cell? _ _ c0_0
  have d1_w1 := World.block_lt_of_cell? _ _ c1_0
  go_wp2_with fail
  refine (specL1Type rb 0 _ hrd1 (by omega)).mono ?_
  rintro e w2 ⟨t2, v2, q2, rfl, hn2, hv2, hq2, hrd2, hc2⟩
  have hrl2 := hrd2.1
  obtain ⟨kv2, av2, nv2, qv2, rfl⟩ := hv2.shape
  replace hB := (bchg hB hc2 (by omega) (Nat.le_refl _))
  have zw2 := hB.size
  replace f0_0 : w2.frozen? ⟨w.heap.size, 0, none⟩ = false := cfroc hc2 (by omega) (c0_0) (f0_0)
  replace f0_1 : w2.frozen? ⟨w.heap.size, 1, none⟩ = false := cfroc hc2 (by omega) (c0_1) (f0_1)
  replace f1_0 : w2.frozen? ⟨w.heap.size + 1, 0, none⟩ = false := cfroc hc2 (by omega) (c1_0) (f1_0)
  replace f1_1 : w2.frozen? ⟨w.heap.size + 1, 1, none⟩ = false := cfroc hc2 (by omega) (c1_1) (f1_1)
  replace c0_0 : w2.cell? ⟨w.heap.size, 0, none⟩ = some (.int .i64 0) := ccell hc2 (by omega) (c0_0)
  replace c0_1 : w2.cell? ⟨w.heap.size, 1, none⟩ = some (.slice none 0 0) := ccell hc2 (by omega) (c0_1)
  replace c1_0 : w2.cell? ⟨w.heap.size + 1, 0, none⟩ = some (.int .i64 0) := ccell hc2 (by omega) (c1_0)
  replace c1_1 : w2.cell? ⟨w.heap.size + 1, 1, none⟩ = some (.slice none 0 0) := ccell hc2 (by omega) (c1_1)
  have d0_w2 := World.block_lt_of_cell? _ _ c0_0
  have d1_w2 := World.block_lt_of_cell? _ _ c1_0
  go_wp2_with fail
  refine (specPick rb q2 3 _ (hrd2.below bal1) (by omega) (by omega)).mono ?_
  rintro e w3 ⟨j3, rfl, hj3, hjn3, hrd3, hc3⟩
  have hrl3 := hrd3.1
  replace hB := (bchg (hB.alloc hB.size _) hc3 (by omega) (Nat.le_refl _))
  have zw3 := hB.size
  replace f0_0 : w3.frozen? ⟨w.heap.size, 0, none⟩ = false := cfroc hc3 (by omega) (bcell bal1 (c0_0)) (bfroc bal1 (c0_0) (f0_0))
  replace f0_1 : w3.frozen? ⟨w.heap.size, 1, none⟩ = false := cfroc hc3 (by omega) (bcell bal1 (c0_1)) (bfroc bal1 (c0_1) (f0_1))
  replace f1_0 : w3.frozen? ⟨w.heap.size + 1, 0, none⟩ = false := cfroc hc3 (by omega) (bcell bal1 (c1_0)) (bfroc bal1 (c1_0) (f1_0))
  replace f1_1 : w3.frozen? ⟨w.heap.size + 1, 1, none⟩ = false := cfroc hc3 (by omega) (bcell bal1 (c1_1)) (bfroc bal1 (c1_1) (f1_1))
  have c2_0 : w3.cell? ⟨w2.heap.size, 0, none⟩ = some (.int .i64 kv2) := ccell hc3 (by omega) (cell_new (by simp) 0)
  have c2_1 : w3.cell? ⟨w2.heap.size, 1, none⟩ = some (.slice av2 nv2 qv2) := ccell hc3 (by omega) (cell_new (by simp) 1)
  replace c0_0 : w3.cell? ⟨w.heap.size, 0, none⟩ = some (.int .i64 0) := ccell hc3 (by omega) (bcell bal1 (c0_0))
  replace c0_1 : w3.cell? ⟨w.heap.size, 1, none⟩ = some (.slice none 0 0) := ccell hc3 (by omega) (bcell bal1 (c0_1))
  replace c1_0 : w3.cell? ⟨w.heap.size + 1, 0, none⟩ = some (.int .i64 0) := ccell hc3 (by omega) (bcell bal1 (c1_0))
  replace c1_1 : w3.cell? ⟨w.heap.size + 1, 1, none⟩ = some (.slice none 0 0) := ccell hc3 (by omega) (bcell bal1 (c1_1))
  replace hv2 := ((hv2.below bal1).chgB hc3 (by first | omega | (simp; omega)))
  have d2_w3 := World.block_lt_of_cell? _ _ c2_0
  have d0_w3 := World.block_lt_of_cell? _ _ c0_0
  have d1_w3 := World.block_lt_of_cell? _ _ c1_0
  rcases Bool.eq_false_or_eq_true (j3 == 0) with q1 | q1
  · (try rw [q1])
    go_wp2_with fail
    refine (specL1Mutate rb (q2 + 1) 14 t2 _ _ hrd3 (hv2.ne (by first | omega | (simp; done) | (simp; omega))) (by omega) (by omega) (by omega)).mono ?_
    rintro e w4 ⟨t4, v4, q4, rfl, hn4, hv4, hq4, hrd4, hc4⟩
    have hrl4 := hrd4.1
    obtain ⟨kv4, av4, nv4, qv4, rfl⟩ := hv4.shape
    replace hB := (bchg hB hc4 (by omega) (Nat.le_refl _))
    have zw4 := hB.size
    replace f0_0 : w4.frozen? ⟨w.heap.size, 0, none⟩ = false := cfroc hc4 (by omega) (c0_0) (f0_0)
    replace f0_1 : w4.frozen? ⟨w.heap.size, 1, none⟩ = false := cfroc hc4 (by omega) (c0_1) (f0_1)
    replace f1_0 : w4.frozen? ⟨w.heap.size + 1, 0, none⟩ = false := cfroc hc4 (by omega) (c1_0) (f1_0)
    replace f1_1 : w4.frozen? ⟨w.heap.size + 1, 1, none⟩ = false := cfroc hc4 (by omega) (c1_1) (f1_1)
    replace c0_0 : w4.cell? ⟨w.heap.size, 0, none⟩ = some (.int .i64 0) := ccell hc4 (by omega) (c0_0)
    replace c0_1 : w4.cell? ⟨w.heap.size, 1, none⟩ = some (.slice none 0 0) := ccell hc4 (by omega) (c0_1)
    replace c1_0 : w4.cell? ⟨w.heap.size + 1, 0, none⟩ = some (.int .i64 0) := ccell hc4 (by omega) (c1_0)
    replace c1_1 : w4.cell? ⟨w.heap.size + 1, 1, none⟩ = some (.slice none 0 0) := ccell hc4 (by omega) (c1_1)
    have d0_w4 := World.block_lt_of_cell? _ _ c0_0
    have d1_w4 := World.block_lt_of_cell? _ _ c1_0
    go_wp2_with fail
    refine (specL1Type rb q4 _ hrd4 (by omega)).mono ?_
    rintro e w5 ⟨t5, v5, q5, rfl, hn5, hv5, hq5, hrd5, hc5⟩
    have hrl5 := hrd5.1
    obtain ⟨kv5, av5, nv5, qv5, rfl⟩ := hv5.shape
    replace hB := (bchg hB hc5 (by omega) (Nat.le_refl _))
    have zw5 := hB.size
    replace f0_0 : w5.frozen? ⟨w.heap.size, 0, none⟩ = false := cfroc hc5 (by omega) (c0_0) (f0_0)
    replace f0_1 : w5.frozen? ⟨w.heap.size, 1, none⟩ = false := cfroc hc5 (by omega) (c0_1) (f0_1)
    replace f1_0 : w5.frozen? ⟨w.heap.size + 1, 0, none⟩ = false := cfroc hc5 (by omega) (c1_0) (f1_0)
    replace f1_1 : w5.frozen? ⟨w.heap.size + 1, 1, none⟩ = false := cfroc hc5 (by omega) (c1_1) (f1_1)
    replace c0_0 : w5.cell? ⟨w.heap.size, 0, none⟩ = some (.int .i64 0) := ccell hc5 (by omega) (c0_0)
    replace c0_1 : w5.cell? ⟨w.heap.size, 1, none⟩ = some (.slice none 0 0) := ccell hc5 (by omega) (c0_1)
    replace c1_0 : w5.cell? ⟨w.heap.size + 1, 0, none⟩ = some (.int .i64 0) := ccell hc5 (by omega) (c1_0)
    replace c1_1 : w5.cell? ⟨w.heap.size + 1, 1, none⟩ = some (.slice none 0 0) := ccell hc5 (by omega) (c1_1)
    replace hv4 := (hv4.chgB hc5 (by first | omega | (simp; omega)))
    have d0_w5 := World.block_lt_of_cell? _ _ c0_0
    have d1_w5 := World.block_lt_of_cell? _ _ c1_0
    go_wp2_with fail
    refine bodyPost_ret (v := .tuple #[.agg #[.int .i64 kv4, .slice av4 nv4 qv4], .agg #[.int .i64 kv5, .slice av5 nv5 qv5]]) (by simp [results, Try.results29, go_sem, c0_0, c0_1, c1_0, c1_1]) rfl ?_
    exact ⟨_, _, _, _, rfl, (TyRep.lower ((((hv4.setCell (by first | (show w.heap.size < _; omega) | (show w.heap.size < _; simp; omega) | simp) _).setCell (by first | (show w.heap.size < _; omega) | (show w.heap.size < _; simp; omega) | simp) _).setCell (by first | (show w.heap.size + 1 < _; omega) | (show w.heap.size + 1 < _; simp; omega) | simp) _).setCell (by first | (show w.heap.size + 1 < _; omega) | (show w.heap.size + 1 < _; simp; omega) | simp) _) (by first | omega | (simp; done) | (simp; omega))), (TyRep.lower ((((hv5.setCell (by first | (show w.heap.size < _; omega) | (show w.heap.size < _; simp; omega) | simp) _).setCell (by first | (show w.heap.size < _; omega) | (show w.heap.size < _; simp; omega) | simp) _).setCell (by first | (show w.heap.size + 1 < _; omega) | (show w.heap.size + 1 < _; simp; omega) | simp) _).setCell (by first | (show w.heap.size + 1 < _; omega) | (show w.heap.size + 1 < _; simp; omega) | simp) _) (by first | omega | (simp; done) | (simp; omega))), ((((hB.setCell (by show w.heap.size ≤ w.heap.size; omega) _).setCell (by show w.heap.size ≤ w.heap.size; omega) _).setCell (by show w.heap.size ≤ w.heap.size + 1; omega) _).setCell (by show w.heap.size ≤ w.heap.size + 1; omega) _)⟩
  · (try rw [q1])
    go_wp2_with fail
    go_region_held3 (fun w' => w'.cell? ⟨w2.heap.size, 0, none⟩ = some (.int .i64 kv2) ∧ w'.cell? ⟨w2.heap.size, 1, none⟩ = some (.slice av2 nv2 qv2))
      (first | with_reducible exact ⟨dcell (c2_0), dcell (c2_1)⟩ | with_reducible exact ⟨ccell hc6 (by omega) (dcell (c2_0)), ccell hc6 (by omega) (dcell (c2_1))⟩ | with_reducible exact ⟨ccell hc7 (by omega) (ccell hc6 (by omega) (dcell (c2_0))), ccell hc7 (by omega) (ccell hc6 (by omega) (dcell (c2_1)))⟩ | with_reducible exact ⟨ccell hc8 (by omega) (ccell hc7 (by omega) (ccell hc6 (by omega) (dcell (c2_0)))), ccell hc8 (by omega) (ccell hc7 (by omega) (ccell hc6 (by omega) (dcell (c2_1))))⟩ | with_reducible exact ⟨sc_blk (sc_blk (ccell hc8 (by omega) (ccell hc7 (by omega) (ccell hc6 (by omega) (dcell (c2_0))))) (by show w2.heap.size ≠ w.heap.size; omega)) (by show w2.heap.size ≠ w.heap.size; omega), sc_blk (sc_blk (ccell hc8 (by omega) (ccell hc7 (by omega) (ccell hc6 (by omega) (dcell (c2_1))))) (by show w2.heap.size ≠ w.heap.size; omega)) (by show w2.heap.size ≠ w.heap.size; omega)⟩ | with_reducible exact ⟨sc_blk (sc_blk (sc_blk (sc_blk (ccell hc8 (by omega) (ccell hc7 (by omega) (ccell hc6 (by omega) (dcell (c2_0))))) (by show w2.heap.size ≠ w.heap.size; omega)) (by show w2.heap.size ≠ w.heap.size; omega)) (by show w2.heap.size ≠ w.heap.size + 1; omega)) (by show w2.heap.size ≠ w.heap.size + 1; omega), sc_blk (sc_blk (sc_blk (sc_blk (ccell hc8 (by omega) (ccell hc7 (by omega) (ccell hc6 (by omega) (dcell (c2_1))))) (by show w2.heap.size ≠ w.heap.size; omega)) (by show w2.heap.size ≠ w.heap.size; omega)) (by show w2.heap.size ≠ w.heap.size + 1; omega)) (by show w2.heap.size ≠ w.heap.size + 1; omega)⟩)
      (first | (go_at_call 53; ((with_reducible refine (specL1BlurD rb (q2 + 1) 14 t2 _ _ (hrd3.below bdr) ((hv2.below bdr).ne (by first | omega | (simp; done) | (simp; omega))) (by omega) (by omega) (by omega)).mono ?_); rintro e w6 ⟨t6, v6, q6, rfl, hn6, hv6, hq6, hrd6, hc6⟩; have hrl6 := hrd6.1; obtain ⟨kv6, av6, nv6, qv6, rfl⟩ := hv6.shape)) | (go_at_call 52; ((with_reducible refine (specL1Mutate rb q6 14 t6 _ _ hrd6 (hv6.ne (by first | omega | (simp; done) | (simp; omega))) (by omega) (by omega) (by omega)).mono ?_); rintro e w7 ⟨t7, v7, q7, rfl, hn7, hv7, hq7, hrd7, hc7⟩; have hrl7 := hrd7.1; obtain ⟨kv7, av7, nv7, qv7, rfl⟩ := hv7.shape)) | (go_at_call 53; ((with_reducible refine (specL1BlurD rb q7 14 t2 _ _ hrd7 ((((hv2.below bdr).chgB hc6 (by first | omega | (simp; omega))).chgB hc7 (by first | omega | (simp; omega))).ne (by first | omega | (simp; done) | (simp; omega))) (by omega) (by omega) (by omega)).mono ?_); rintro e w8 ⟨t8, v8, q8, rfl, hn8, hv8, hq8, hrd8, hc8⟩; have hrl8 := hrd8.1; obtain ⟨kv8, av8, nv8, qv8, rfl⟩ := hv8.shape; have f0_0 : w8.frozen? ⟨w.heap.size, 0, none⟩ = false := cfroc hc8 (by omega) (ccell hc7 (by omega) (ccell hc6 (by omega) (dcell (c0_0)))) (cfroc hc7 (by omega) (ccell hc6 (by omega) (dcell (c0_0))) (cfroc hc6 (by omega) (dcell (c0_0)) (dfro (f0_0)))); have c0_0' : w8.cell? ⟨w.heap.size, 0, none⟩ = some (.int .i64 0) := ccell hc8 (by omega) (ccell hc7 (by omega) (ccell hc6 (by omega) (dcell (c0_0)))); have d0_ := World.block_lt_of_cell? _ _ c0_0'; have f0_1 : w8.frozen? ⟨w.heap.size, 1, none⟩ = false := cfroc hc8 (by omega) (ccell hc7 (by omega) (ccell hc6 (by omega) (dcell (c0_1)))) (cfroc hc7 (by omega) (ccell hc6 (by omega) (dcell (c0_1))) (cfroc hc6 (by omega) (dcell (c0_1)) (dfro (f0_1)))); have c0_1' : w8.cell? ⟨w.heap.size, 1, none⟩ = some (.slice none 0 0) := ccell hc8 (by omega) (ccell hc7 (by omega) (ccell hc6 (by omega) (dcell (c0_1)))); have d0_ := World.block_lt_of_cell? _ _ c0_1'; have f1_0 : w8.frozen? ⟨w.heap.size + 1, 0, none⟩ = false := cfroc hc8 (by omega) (ccell hc7 (by omega) (ccell hc6 (by omega) (dcell (c1_0)))) (cfroc hc7 (by omega) (ccell hc6 (by omega) (dcell (c1_0))) (cfroc hc6 (by omega) (dcell (c1_0)) (dfro (f1_0)))); have c1_0' : w8.cell? ⟨w.heap.size + 1, 0, none⟩ = some (.int .i64 0) := ccell hc8 (by omega) (ccell hc7 (by omega) (ccell hc6 (by omega) (dcell (c1_0)))); have d1_ := World.block_lt_of_cell? _ _ c1_0'; have f1_1 : w8.frozen? ⟨w.heap.size + 1, 1, none⟩ = false := cfroc hc8 (by omega) (ccell hc7 (by omega) (ccell hc6 (by omega) (dcell (c1_1)))) (cfroc hc7 (by omega) (ccell hc6 (by omega) (dcell (c1_1))) (cfroc hc6 (by omega) (dcell (c1_1)) (dfro (f1_1)))); have c1_1' : w8.cell? ⟨w.heap.size + 1, 1, none⟩ = some (.slice none 0 0) := ccell hc8 (by omega) (ccell hc7 (by omega) (ccell hc6 (by omega) (dcell (c1_1)))); have d1_ := World.block_lt_of_cell? _ _ c1_1')))
    replace hB := (bchg (bchg (bchg hB.drew hc6 (by omega) (Nat.le_refl _)) hc7 (by omega) (Nat.le_refl _)) hc8 (by omega) (Nat.le_refl _))
    have zw8 := hB.size
    replace c0_0 : w8.cell? ⟨w.heap.size, 0, none⟩ = some (.int .i64 0) := ccell hc8 (by omega) (ccell hc7 (by omega) (ccell hc6 (by omega) (dcell (c0_0))))
    replace c0_1 : w8.cell? ⟨w.heap.size, 1, none⟩ = some (.slice none 0 0) := ccell hc8 (by omega) (ccell hc7 (by omega) (ccell hc6 (by omega) (dcell (c0_1))))
    replace c1_0 : w8.cell? ⟨w.heap.size + 1, 0, none⟩ = some (.int .i64 0) := ccell hc8 (by omega) (ccell hc7 (by omega) (ccell hc6 (by omega) (dcell (c1_0))))
    replace c1_1 : w8.cell? ⟨w.heap.size + 1, 1, none⟩ = some (.slice none 0 0) := ccell hc8 (by omega) (ccell hc7 (by omega) (ccell hc6 (by omega) (dcell (c1_1))))
    replace hv7 := (hv7.chgB hc8 (by first | omega | (simp; omega)))
    have d0_w8 := World.block_lt_of_cell? _ _ c0_0
    have d1_w8 := World.block_lt_of_cell? _ _ c1_0
    go_wp2_with fail
    refine bodyPost_ret (v := .tuple #[.agg #[.int .i64 kv7, .slice av7 nv7 qv7], .agg #[.int .i64 kv8, .slice av8 nv8 qv8]]) (by simp [results, Try.results29, go_sem, c0_0, c0_1, c1_0, c1_1]) rfl ?_
    exact ⟨_, _, _, _, rfl, (TyRep.lower ((((hv7.setCell (by first | (show w.heap.size < _; omega) | (show w.heap.size < _; simp; omega) | simp) _).setCell (by first | (show w.heap.size < _; omega) | (show w.heap.size < _; simp; omega) | simp) _).setCell (by first | (show w.heap.size + 1 < _; omega) | (show w.heap.size + 1 < _; simp; omega) | simp) _).setCell (by first | (show w.heap.size + 1 < _; omega) | (show w.heap.size + 1 < _; simp; omega) | simp) _) (by first | omega | (simp; done) | (simp; omega))), (TyRep.lower ((((hv8.setCell (by first | (show w.heap.size < _; omega) | (show w.heap.size < _; simp; omega) | simp) _).setCell (by first | (show w.heap.size < _; omega) | (show w.heap.size < _; simp; omega) | simp) _).setCell (by first | (show w.heap.size + 1 < _; omega) | (show w.heap.size + 1 < _; simp; omega) | simp) _).setCell (by first | (show w.heap.size + 1 < _; omega) | (show w.heap.size + 1 < _; simp; omega) | simp) _) (by first | omega | (simp; done) | (simp; omega))), ((((hB.setCell (by show w.heap.size ≤ w.heap.size; omega) _).setCell (by show w.heap.size ≤ w.heap.size; omega) _).setCell (by show w.heap.size ≤ w.heap.size + 1; omega) _).setCell (by show w.heap.size ≤ w.heap.size + 1; omega) _)⟩

end Go.Proofs.Ythhdjacdalehoaa
