/-
  Less precise types are drawn.
  Draws of the arguments of the laws on types.
-/
import Derived.Test.YtikkneahhgmdjaaDraw2B
import Derived.Test.YtikkneahhgmdjaaMut
import Derived.Test.YtikkneahhgmdjaaB33
namespace Go.Proofs.Ytikkneahhgmdjaa
open Go.RowKit
set_option linter.unusedVariables false
set_option linter.unusedSimpArgs false
set_option maxRecDepth 100000


end Go.Proofs.Ytikkneahhgmdjaa
namespace Go.Proofs.Ytikkneahhgmdjaa
open Go.RowKit
set_option linter.unusedVariables false
set_option linter.unusedSimpArgs false
set_option maxRecDepth 100000

set_option maxHeartbeats 4000000 in
theorem specDrawTypeValid (r : Nat) (y0 : Value) (w : World) (r0 : ByRep w r y0) (hr : r ≤ w.heap.size) :
    Calls Try.prog 23 #[y0] w (DR1 w) := by
  obtain ⟨a0, n0, q0, rfl⟩ := r0.shape
  go_enter Try.func23, Try.ntmps23
  go_wp2_with fail
  refine (specOpen _ _ _ (r0.below bal1) (by first | omega | (simp; done) | (simp; omega))).mono ?_
  rintro e w1 ⟨rb, rfl, hro1, hrd1, hb1⟩
  have hrl1 := hrd1.1
  try simp at hro1
  have hB := (bstep bal1 hb1)
  have zw1 := hB.size
  have f0_0 : w1.frozen? ⟨w.heap.size, 0, none⟩ = false := bfroc hb1 (cell_new (by simp) 0) (fro_new (by simp) 0)
  have f0_1 : w1.frozen? ⟨w.heap.size, 1, none⟩ = false := bfroc hb1 (cell_new (by simp) 1) (fro_new (by simp) 1)
  have c0_0 : w1.cell? ⟨w.heap.size, 0, none⟩ = some (.int .i64 0) := bcell hb1 (cell_new (by simp) 0)
  have c0_1 : w1.cell? ⟨w.heap.size, 1, none⟩ = some (.slice none 0 0) := bcell hb1 (cell_new (by simp) 1)
  have d0_w1 := World.block_lt_of_cell? _ _ c0_0
  go_wp2_with fail
  refine (specL1Type rb 0 _ hrd1 (by omega)).mono ?_
  rintro e w2 ⟨t2, v2, q2, rfl, hn2, hv2, hq2, hrd2, hc2⟩
  have hrl2 := hrd2.1
  obtain ⟨kv2, av2, nv2, qv2, rfl⟩ := hv2.shape
  replace hB := (bchg hB hc2 (by omega) (Nat.le_refl _))
  have zw2 := hB.size
  replace f0_0 : w2.frozen? ⟨w.heap.size, 0, none⟩ = false := cfroc hc2 (by omega) (c0_0) (f0_0)
  replace f0_1 : w2.frozen? ⟨w.heap.size, 1, none⟩ = false := cfroc hc2 (by omega) (c0_1) (f0_1)
  replace c0_0 : w2.cell? ⟨w.heap.size, 0, none⟩ = some (.int .i64 0) := ccell hc2 (by omega) (c0_0)
  replace c0_1 : w2.cell? ⟨w.heap.size, 1, none⟩ = some (.slice none 0 0) := ccell hc2 (by omega) (c0_1)
  have d0_w2 := World.block_lt_of_cell? _ _ c0_0
  go_wp2_with fail
  refine (specL1Mutate rb q2 14 t2 _ _ hrd2 (hv2.ne (by first | omega | (simp; done) | (simp; omega))) (by omega) (by omega) (by omega)).mono ?_
  rintro e w3 ⟨t3, v3, q3, rfl, hn3, hv3, hq3, hrd3, hc3⟩
  have hrl3 := hrd3.1
  obtain ⟨kv3, av3, nv3, qv3, rfl⟩ := hv3.shape
  replace hB := (bchg hB hc3 (by omega) (Nat.le_refl _))
  have zw3 := hB.size
  replace f0_0 : w3.frozen? ⟨w.heap.size, 0, none⟩ = false := cfroc hc3 (by omega) (c0_0) (f0_0)
  replace f0_1 : w3.frozen? ⟨w.heap.size, 1, none⟩ = false := cfroc hc3 (by omega) (c0_1) (f0_1)
  replace c0_0 : w3.cell? ⟨w.heap.size, 0, none⟩ = some (.int .i64 0) := ccell hc3 (by omega) (c0_0)
  replace c0_1 : w3.cell? ⟨w.heap.size, 1, none⟩ = some (.slice none 0 0) := ccell hc3 (by omega) (c0_1)
  have d0_w3 := World.block_lt_of_cell? _ _ c0_0
  go_wp2_with fail
  refine bodyPost_ret (v := .agg #[.int .i64 kv3, .slice av3 nv3 qv3]) (by simp [results, Try.results23, go_sem, c0_0, c0_1]) rfl ?_
  exact ⟨_, _, rfl, (TyRep.lower ((hv3.setCell (by first | (show w.heap.size < _; omega) | (show w.heap.size < _; simp; omega) | simp) _).setCell (by first | (show w.heap.size < _; omega) | (show w.heap.size < _; simp; omega) | simp) _) (by first | omega | (simp; done) | (simp; omega))), ((hB.setCell (by show w.heap.size ≤ w.heap.size; omega) _).setCell (by show w.heap.size ≤ w.heap.size; omega) _)⟩

set_option maxHeartbeats 4000000 in
theorem specDrawFormatType (r : Nat) (y0 : Value) (w : World) (r0 : ByRep w r y0) (hr : r ≤ w.heap.size) :
    Calls Try.prog 10 #[y0] w (DR1 w) := by
  obtain ⟨a0, n0, q0, rfl⟩ := r0.shape
  go_enter Try.func10, Try.ntmps10
  go_wp2_with fail
  refine (specDrawTypeValid _ _ _ (r0.below bal1) (by first | omega | (simp; done) | (simp; omega))).mono ?_
  rintro e w1 ⟨t1, v1, rfl, hv1, hb1⟩
  obtain ⟨kv1, av1, nv1, qv1, rfl⟩ := hv1.shape
  have hB := (bstep bal1 hb1)
  have zw1 := hB.size
  have f0_0 : w1.frozen? ⟨w.heap.size, 0, none⟩ = false := bfroc hb1 (cell_new (by simp) 0) (fro_new (by simp) 0)
  have f0_1 : w1.frozen? ⟨w.heap.size, 1, none⟩ = false := bfroc hb1 (cell_new (by simp) 1) (fro_new (by simp) 1)
  have c0_0 : w1.cell? ⟨w.heap.size, 0, none⟩ = some (.int .i64 0) := bcell hb1 (cell_new (by simp) 0)
  have c0_1 : w1.cell? ⟨w.heap.size, 1, none⟩ = some (.slice none 0 0) := bcell hb1 (cell_new (by simp) 1)
  have d0_w1 := World.block_lt_of_cell? _ _ c0_0
  go_wp2_with fail
  refine bodyPost_ret (v := .agg #[.int .i64 kv1, .slice av1 nv1 qv1]) (by simp [results, Try.results10, go_sem, c0_0, c0_1]) rfl ?_
  exact ⟨_, _, rfl, (TyRep.lower ((hv1.setCell (by first | (show w.heap.size < _; omega) | (show w.heap.size < _; simp; omega) | simp) _).setCell (by first | (show w.heap.size < _; omega) | (show w.heap.size < _; simp; omega) | simp) _) (by first | omega | (simp; done) | (simp; omega))), ((hB.setCell (by show w.heap.size ≤ w.heap.size; omega) _).setCell (by show w.heap.size ≤ w.heap.size; omega) _)⟩

end Go.Proofs.Ytikkneahhgmdjaa
