/-
  Chain
-/
import Derived.Test.YtjkkahlcbhcifaaMut
import Derived.Test.YtjkkahlcbhcifaaRd3
namespace Go.Proofs.Ytjkkahlcbhcifaa
open Go.RowKit
set_option linter.unusedVariables false
set_option linter.unusedSimpArgs false
set_option maxRecDepth 100000

set_option maxHeartbeats 8000000 in
theorem specDrawChain (r : Nat) (y0 : Value) (w : World) (r0 : ByRep w r y0) (hr : r ≤ w.heap.size) :
    Calls Try.prog 58 #[y0] w (DR3 w) := by
  obtain ⟨a0, n0, q0, rfl⟩ := r0.shape
  go_enter Try.func58, Try.ntmps58
  go_wp2_with fail
  refine (specOpen _ _ _ (r0.below bal3) (by first | omega | (simp; done) | (simp; omega))).mono ?_
  rintro e w1 ⟨rb, rfl, hro1, hrd1, hb1⟩
  have hrl1 := hrd1.1
  try simp at hro1
  have hB := (bstep bal3 hb1)
  have zw1 := hB.size
  have f0_0 : w1.frozen? ⟨w.heap.size, 0, none⟩ = false := bfroc hb1 (bcell bal1 (bcell bal1 (cell_new (by simp) 0))) (bfroc bal1 (bcell bal1 (cell_new (by simp) 0)) (bfroc bal1 (cell_new (by simp) 0) (fro_new (by simp) 0)))
  have f0_1 : w1.frozen? ⟨w.heap.size, 1, none⟩ = false := bfroc hb1 (bcell bal1 (bcell bal1 (cell_new (by simp) 1))) (bfroc bal1 (bcell bal1 (cell_new (by simp) 1)) (bfroc bal1 (cell_new (by simp) 1) (fro_new (by simp) 1)))
  have f1_0 : w1.frozen? ⟨w.heap.size + 1, 0, none⟩ = false := bfroc hb1 (bcell bal1 (cell_new (by simp) 0)) (bfroc bal1 (cell_new (by simp) 0) (fro_new (by simp) 0))
  have f1_1 : w1.frozen? ⟨w.heap.size + 1, 1, none⟩ = false := bfroc hb1 (bcell bal1 (cell_new (by simp) 1)) (bfroc bal1 (cell_new (by simp) 1) (fro_new (by simp) 1))
  have f2_0 : w1.frozen? ⟨w.heap.size + 1 + 1, 0, none⟩ = false := bfroc hb1 (cell_new (by simp) 0) (fro_new (by simp) 0)
  have f2_1 : w1.frozen? ⟨w.heap.size + 1 + 1, 1, none⟩ = false := bfroc hb1 (cell_new (by simp) 1) (fro_new (by simp) 1)
  have c0_0 : w1.cell? ⟨w.heap.size, 0, none⟩ = some (.int .i64 0) := bcell hb1 (bcell bal1 (bcell bal1 (cell_new (by simp) 0)))
  have c0_1 : w1.cell? ⟨w.heap.size, 1, none⟩ = some (.slice none 0 0) := bcell hb1 (bcell bal1 (bcell bal1 (cell_new (by simp) 1)))
  have c1_0 : w1.cell? ⟨w.heap.size + 1, 0, none⟩ = some (.int .i64 0) := bcell hb1 (bcell bal1 (cell_new (by simp) 0))
  have c1_1 : w1.cell? ⟨w.heap.size + 1, 1, none⟩ = some (.slice none 0 0) := bcell hb1 (bcell bal1 (cell_new (by simp) 1))
  have c2_0 : w1.cell? ⟨w.heap.size + 1 + 1, 0, none⟩ = some (.int .i64 0) := bcell hb1 (cell_new (by simp) 0)
  have c2_1 : w1.cell? ⟨w.heap.size + 1 + 1, 1, none⟩ = some (.slice none 0 0) := bcell hb1 (cell_new (by simp) 1)
  have d0_w1 := World.block_lt_of_cell? _ _ c0_0
  have d1_w1 := World.block_lt_of_cell? _ _ c1_0
  have d2_w1 := World.block_lt_of_cell? _ _ c2_0
  go_wp2_with fail
  refine (specL1Type rb 0 _ hrd1 (by omega)).mono ?_
  rintro e w2 ⟨t2, v2, q2, rfl, hn2, hv2, hq2, hrd2, hc2⟩
  have hrl2 := hrd2.1
  obtain ⟨kv2, av2, nv2, qv2, rfl⟩ := hv2.shape
  replace hB := (bchg hB hc2 (by omega) (Nat.le_refl _))
  have zw2 := hB.size
  replace f0_0 : w2.frozen? ⟨w.heap.size, 0, none⟩ = false := cfroc hc2 (by omega) (c0_0) (f0_0)
  replace f0_1 : w2.frozen? ⟨w.heap.size, 1, none⟩ = false := cfroc hc2 (by omega) (c0_1) (f0_1)
  replace f1_0 : w2.frozen? ⟨w.heap.size + 1, 0, none⟩ = false := cfroc hc2 (by omega) (c1_0) (f1_0)
  replace f1_1 : w2.frozen? ⟨w.heap.size + 1, 1, none⟩ = false := cfroc hc2 (by omega) (c1_1) (f1_1)
  replace f2_0 : w2.frozen? ⟨w.heap.size + 1 + 1, 0, none⟩ = false := cfroc hc2 (by omega) (c2_0) (f2_0)
  replace f2_1 : w2.frozen? ⟨w.heap.size + 1 + 1, 1, none⟩ = false := cfroc hc2 (by omega) (c2_1) (f2_1)
  replace c0_0 : w2.cell? ⟨w.heap.size, 0, none⟩ = some (.int .i64 0) := ccell hc2 (by omega) (c0_0)
  replace c0_1 : w2.cell? ⟨w.heap.size, 1, none⟩ = some (.slice none 0 0) := ccell hc2 (by omega) (c0_1)
  replace c1_0 : w2.cell? ⟨w.heap.size + 1, 0, none⟩ = some (.int .i64 0) := ccell hc2 (by omega) (c1_0)
  replace c1_1 : w2.cell? ⟨w.heap.size + 1, 1, none⟩ = some (.slice none 0 0) := ccell hc2 (by omega) (c1_1)
  replace c2_0 : w2.cell? ⟨w.heap.size + 1 + 1, 0, none⟩ = some (.int .i64 0) := ccell hc2 (by omega) (c2_0)
  replace c2_1 : w2.cell? ⟨w.heap.size + 1 + 1, 1, none⟩ = some (.slice none 0 0) := ccell hc2 (by omega) (c2_1)
  have d0_w2 := World.block_lt_of_cell? _ _ c0_0
  have d1_w2 := World.block_lt_of_cell? _ _ c1_0
  have d2_w2 := World.block_lt_of_cell? _ _ c2_0
  go_wp2_with fail
  refine (specL1BlurD rb q2 14 t2 _ _ (hrd2.below bal1) ((hv2.below bal1).ne (by first | omega | (simp; done) | (simp; omega))) (by omega) (by omega) (by omega)).mono ?_
  rintro e w3 ⟨t3, v3, q3, rfl, hn3, hv3, hq3, hrd3, hc3⟩
  have hrl3 := hrd3.1
  obtain ⟨kv3, av3, nv3, qv3, rfl⟩ := hv3.shape
  replace hB := (bchg (hB.alloc hB.size _) hc3 (by omega) (Nat.le_refl _))
  have zw3 := hB.size
  replace f0_0 : w3.frozen? ⟨w.heap.size, 0, none⟩ = false := cfroc hc3 (by omega) (bcell bal1 (c0_0)) (bfroc bal1 (c0_0) (f0_0))
  replace f0_1 : w3.frozen? ⟨w.heap.size, 1, none⟩ = false := cfroc hc3 (by omega) (bcell bal1 (c0_1)) (bfroc bal1 (c0_1) (f0_1))
  replace f1_0 : w3.frozen? ⟨w.heap.size + 1, 0, none⟩ = false := cfroc hc3 (by omega) (bcell bal1 (c1_0)) (bfroc bal1 (c1_0) (f1_0))
  replace f1_1 : w3.frozen? ⟨w.heap.size + 1, 1, none⟩ = false := cfroc hc3 (by omega) (bcell bal1 (c1_1)) (bfroc bal1 (c1_1) (f1_1))
  replace f2_0 : w3.frozen? ⟨w.heap.size + 1 + 1, 0, none⟩ = false := cfroc hc3 (by omega) (bcell bal1 (c2_0)) (bfroc bal1 (c2_0) (f2_0))
  replace f2_1 : w3.frozen? ⟨w.heap.size + 1 + 1, 1, none⟩ = false := cfroc hc3 (by omega) (bcell bal1 (c2_1)) (bfroc bal1 (c2_1) (f2_1))
  have c3_0 : w3.cell? ⟨w2.heap.size, 0, none⟩ = some (.int .i64 kv2) := ccell hc3 (by omega) (cell_new (by simp) 0)
  have c3_1 : w3.cell? ⟨w2.heap.size, 1, none⟩ = some (.slice av2 nv2 qv2) := ccell hc3 (by omega) (cell_new (by simp) 1)
  replace c0_0 : w3.cell? ⟨w.heap.size, 0, none⟩ = some (.int .i64 0) := ccell hc3 (by omega) (bcell bal1 (c0_0))
  replace c0_1 : w3.cell? ⟨w.heap.size, 1, none⟩ = some (.slice none 0 0) := ccell hc3 (by omega) (bcell bal1 (c0_1))
  replace c1_0 : w3.cell? ⟨w.heap.size + 1, 0, none⟩ = some (.int .i64 0) := ccell hc3 (by omega) (bcell bal1 (c1_0))
  replace c1_1 : w3.cell? ⟨w.heap.size + 1, 1, none⟩ = some (.slice none 0 0) := ccell hc3 (by omega) (bcell bal1 (c1_1))
  replace c2_0 : w3.cell? ⟨w.heap.size + 1 + 1, 0, none⟩ = some (.int .i64 0) := ccell hc3 (by omega) (bcell bal1 (c2_0))
  replace c2_1 : w3.cell? ⟨w.heap.size + 1 + 1, 1, none⟩ = some (.slice none 0 0) := ccell hc3 (by omega) (bcell bal1 (c2_1))
  replace hv2 := ((hv2.below bal1).chgB hc3 (by first | omega | (simp; omega)))
  have d3_w3 := World.block_lt_of_cell? _ _ c3_0
  have d0_w3 := World.block_lt_of_cell? _ _ c0_0
  have d1_w3 := World.block_lt_of_cell? _ _ c1_0
  have d2_w3 := World.block_lt_of_cell? _ _ c2_0
  go_wp2_with fail
  have s0_ : (World.alloc w3 (Obj.cells #[.int .i64 kv3, .slice av3 nv3 qv3] 29)).cell? ⟨w2.heap.size, 0, none⟩ = some (.int .i64 kv2) := bcell bal1 (c3_0)
  have s1_ : (World.alloc w3 (Obj.cells #[.int .i64 kv3, .slice av3 nv3 qv3] 29)).cell? ⟨w2.heap.size, 1, none⟩ = some (.slice av2 nv2 qv2) := bcell bal1 (c3_1)
  have s2_ : (World.alloc w3 (Obj.cells #[.int .i64 kv3, .slice av3 nv3 qv3] 29)).cell? ⟨w3.heap.size, 0, none⟩ = some (.int .i64 kv3) := cell_new (by simp) 0
  have s3_ : (World.alloc w3 (Obj.cells #[.int .i64 kv3, .slice av3 nv3 qv3] 29)).cell? ⟨w3.heap.size, 1, none⟩ = some (.slice av3 nv3 qv3) := cell_new (by simp) 1
  have hS0 := Lib.hid (show (World.drew (World.alloc w3 (Obj.cells #[.int .i64 kv3, .slice av3 nv3 qv3] 29))).cell? ⟨w2.heap.size, 0, none⟩ = some (.int .i64 kv2) ∧ (World.drew (World.alloc w3 (Obj.cells #[.int .i64 kv3, .slice av3 nv3 qv3] 29))).cell? ⟨w2.heap.size, 1, none⟩ = some (.slice av2 nv2 qv2) ∧ (World.drew (World.alloc w3 (Obj.cells #[.int .i64 kv3, .slice av3 nv3 qv3] 29))).cell? ⟨w3.heap.size, 0, none⟩ = some (.int .i64 kv3) ∧ (World.drew (World.alloc w3 (Obj.cells #[.int .i64 kv3, .slice av3 nv3 qv3] 29))).cell? ⟨w3.heap.size, 1, none⟩ = some (.slice av3 nv3 qv3) from ⟨dcell (s0_), dcell (s1_), dcell (s2_), dcell (s3_)⟩)
  have hSb := Lib.hid (show ∀ X Y : World, Below X.heap.size X Y → (X.cell? ⟨w2.heap.size, 0, none⟩ = some (.int .i64 kv2) ∧ X.cell? ⟨w2.heap.size, 1, none⟩ = some (.slice av2 nv2 qv2) ∧ X.cell? ⟨w3.heap.size, 0, none⟩ = some (.int .i64 kv3) ∧ X.cell? ⟨w3.heap.size, 1, none⟩ = some (.slice av3 nv3 qv3)) → (Y.cell? ⟨w2.heap.size, 0, none⟩ = some (.int .i64 kv2) ∧ Y.cell? ⟨w2.heap.size, 1, none⟩ = some (.slice av2 nv2 qv2) ∧ Y.cell? ⟨w3.heap.size, 0, none⟩ = some (.int .i64 kv3) ∧ Y.cell? ⟨w3.heap.size, 1, none⟩ = some (.slice av3 nv3 qv3)) from fun X Y h s => ⟨bcell h s.1, bcell h s.2.1, bcell h s.2.2.1, bcell h s.2.2.2⟩)
  have hSc := Lib.hid (show ∀ X Y : World, Chg [rb] X Y → (X.cell? ⟨w2.heap.size, 0, none⟩ = some (.int .i64 kv2) ∧ X.cell? ⟨w2.heap.size, 1, none⟩ = some (.slice av2 nv2 qv2) ∧ X.cell? ⟨w3.heap.size, 0, none⟩ = some (.int .i64 kv3) ∧ X.cell? ⟨w3.heap.size, 1, none⟩ = some (.slice av3 nv3 qv3)) → (Y.cell? ⟨w2.heap.size, 0, none⟩ = some (.int .i64 kv2) ∧ Y.cell? ⟨w2.heap.size, 1, none⟩ = some (.slice av2 nv2 qv2) ∧ Y.cell? ⟨w3.heap.size, 0, none⟩ = some (.int .i64 kv3) ∧ Y.cell? ⟨w3.heap.size, 1, none⟩ = some (.slice av3 nv3 qv3)) from fun X Y h s => ⟨ccell h (by omega) s.1, ccell h (by omega) s.2.1, ccell h (by omega) s.2.2.1, ccell h (by omega) s.2.2.2⟩)
  have hSs0 := Lib.hid (show ∀ (X : World) (v : Value), (X.cell? ⟨w2.heap.size, 0, none⟩ = some (.int .i64 kv2) ∧ X.cell? ⟨w2.heap.size, 1, none⟩ = some (.slice av2 nv2 qv2) ∧ X.cell? ⟨w3.heap.size, 0, none⟩ = some (.int .i64 kv3) ∧ X.cell? ⟨w3.heap.size, 1, none⟩ = some (.slice av3 nv3 qv3)) → ((X.setCell ⟨w.heap.size, 0, none⟩ v).cell? ⟨w2.heap.size, 0, none⟩ = some (.int .i64 kv2) ∧ (X.setCell ⟨w.heap.size, 0, none⟩ v).cell? ⟨w2.heap.size, 1, none⟩ = some (.slice av2 nv2 qv2) ∧ (X.setCell ⟨w.heap.size, 0, none⟩ v).cell? ⟨w3.heap.size, 0, none⟩ = some (.int .i64 kv3) ∧ (X.setCell ⟨w.heap.size, 0, none⟩ v).cell? ⟨w3.heap.size, 1, none⟩ = some (.slice av3 nv3 qv3)) from fun X v s => ⟨sc_blk s.1 (by show w2.heap.size ≠ w.heap.size; omega), sc_blk s.2.1 (by show w2.heap.size ≠ w.heap.size; omega), sc_blk s.2.2.1 (by show w3.heap.size ≠ w.heap.size; omega), sc_blk s.2.2.2 (by show w3.heap.size ≠ w.heap.size; omega)⟩)
  have hSs1 := Lib.hid (show ∀ (X : World) (v : Value), (X.cell? ⟨w2.heap.size, 0, none⟩ = some (.int .i64 kv2) ∧ X.cell? ⟨w2.heap.size, 1, none⟩ = some (.slice av2 nv2 qv2) ∧ X.cell? ⟨w3.heap.size, 0, none⟩ = some (.int .i64 kv3) ∧ X.cell? ⟨w3.heap.size, 1, none⟩ = some (.slice av3 nv3 qv3)) → ((X.setCell ⟨w.heap.size, 1, none⟩ v).cell? ⟨w2.heap.size, 0, none⟩ = some (.int .i64 kv2) ∧ (X.setCell ⟨w.heap.size, 1, none⟩ v).cell? ⟨w2.heap.size, 1, none⟩ = some (.slice av2 nv2 qv2) ∧ (X.setCell ⟨w.heap.size, 1, none⟩ v).cell? ⟨w3.heap.size, 0, none⟩ = some (.int .i64 kv3) ∧ (X.setCell ⟨w.heap.size, 1, none⟩ v).cell? ⟨w3.heap.size, 1, none⟩ = some (.slice av3 nv3 qv3)) from fun X v s => ⟨sc_blk s.1 (by show w2.heap.size ≠ w.heap.size; omega), sc_blk s.2.1 (by show w2.heap.size ≠ w.heap.size; omega), sc_blk s.2.2.1 (by show w3.heap.size ≠ w.heap.size; omega), sc_blk s.2.2.2 (by show w3.heap.size ≠ w.heap.size; omega)⟩)
  have hSs2 := Lib.hid (show ∀ (X : World) (v : Value), (X.cell? ⟨w2.heap.size, 0, none⟩ = some (.int .i64 kv2) ∧ X.cell? ⟨w2.heap.size, 1, none⟩ = some (.slice av2 nv2 qv2) ∧ X.cell? ⟨w3.heap.size, 0, none⟩ = some (.int .i64 kv3) ∧ X.cell? ⟨w3.heap.size, 1, none⟩ = some (.slice av3 nv3 qv3)) → ((X.setCell ⟨w.heap.size + 1, 0, none⟩ v).cell? ⟨w2.heap.size, 0, none⟩ = some (.int .i64 kv2) ∧ (X.setCell ⟨w.heap.size + 1, 0, none⟩ v).cell? ⟨w2.heap.size, 1, none⟩ = some (.slice av2 nv2 qv2) ∧ (X.setCell ⟨w.heap.size + 1, 0, none⟩ v).cell? ⟨w3.heap.size, 0, none⟩ = some (.int .i64 kv3) ∧ (X.setCell ⟨w.heap.size + 1, 0, none⟩ v).cell? ⟨w3.heap.size, 1, none⟩ = some (.slice av3 nv3 qv3)) from fun X v s => ⟨sc_blk s.1 (by show w2.heap.size ≠ w.heap.size + 1; omega), sc_blk s.2.1 (by show w2.heap.size ≠ w.heap.size + 1; omega), sc_blk s.2.2.1 (by show w3.heap.size ≠ w.heap.size + 1; omega), sc_blk s.2.2.2 (by show w3.heap.size ≠ w.heap.size + 1; omega)⟩)
  have hSs3 := Lib.hid (show ∀ (X : World) (v : Value), (X.cell? ⟨w2.heap.size, 0, none⟩ = some (.int .i64 kv2) ∧ X.cell? ⟨w2.heap.size, 1, none⟩ = some (.slice av2 nv2 qv2) ∧ X.cell? ⟨w3.heap.size, 0, none⟩ = some (.int .i64 kv3) ∧ X.cell? ⟨w3.heap.size, 1, none⟩ = some (.slice av3 nv3 qv3)) → ((X.setCell ⟨w.heap.size + 1, 1, none⟩ v).cell? ⟨w2.heap.size, 0, none⟩ = some (.int .i64 kv2) ∧ (X.setCell ⟨w.heap.size + 1, 1, none⟩ v).cell? ⟨w2.heap.size, 1, none⟩ = some (.slice av2 nv2 qv2) ∧ (X.setCell ⟨w.heap.size + 1, 1, none⟩ v).cell? ⟨w3.heap.size, 0, none⟩ = some (.int .i64 kv3) ∧ (X.setCell ⟨w.heap.size + 1, 1, none⟩ v).cell? ⟨w3.heap.size, 1, none⟩ = some (.slice av3 nv3 qv3)) from fun X v s => ⟨sc_blk s.1 (by show w2.heap.size ≠ w.heap.size + 1; omega), sc_blk s.2.1 (by show w2.heap.size ≠ w.heap.size + 1; omega), sc_blk s.2.2.1 (by show w3.heap.size ≠ w.heap.size + 1; omega), sc_blk s.2.2.2 (by show w3.heap.size ≠ w.heap.size + 1; omega)⟩)
  have hSs4 := Lib.hid (show ∀ (X : World) (v : Value), (X.cell? ⟨w2.heap.size, 0, none⟩ = some (.int .i64 kv2) ∧ X.cell? ⟨w2.heap.size, 1, none⟩ = some (.slice av2 nv2 qv2) ∧ X.cell? ⟨w3.heap.size, 0, none⟩ = some (.int .i64 kv3) ∧ X.cell? ⟨w3.heap.size, 1, none⟩ = some (.slice av3 nv3 qv3)) → ((X.setCell ⟨w.heap.size + 1 + 1, 0, none⟩ v).cell? ⟨w2.heap.size, 0, none⟩ = some (.int .i64 kv2) ∧ (X.setCell ⟨w.heap.size + 1 + 1, 0, none⟩ v).cell? ⟨w2.heap.size, 1, none⟩ = some (.slice av2 nv2 qv2) ∧ (X.setCell ⟨w.heap.size + 1 + 1, 0, none⟩ v).cell? ⟨w3.heap.size, 0, none⟩ = some (.int .i64 kv3) ∧ (X.setCell ⟨w.heap.size + 1 + 1, 0, none⟩ v).cell? ⟨w3.heap.size, 1, none⟩ = some (.slice av3 nv3 qv3)) from fun X v s => ⟨sc_blk s.1 (by show w2.heap.size ≠ w.heap.size + 1 + 1; omega), sc_blk s.2.1 (by show w2.heap.size ≠ w.heap.size + 1 + 1; omega), sc_blk s.2.2.1 (by show w3.heap.size ≠ w.heap.size + 1 + 1; omega), sc_blk s.2.2.2 (by show w3.heap.size ≠ w.heap.size + 1 + 1; omega)⟩)
  have hSs5 := Lib.hid (show ∀ (X : World) (v : Value), (X.cell? ⟨w2.heap.size, 0, none⟩ = some (.int .i64 kv2) ∧ X.cell? ⟨w2.heap.size, 1, none⟩ = some (.slice av2 nv2 qv2) ∧ X.cell? ⟨w3.heap.size, 0, none⟩ = some (.int .i64 kv3) ∧ X.cell? ⟨w3.heap.size, 1, none⟩ = some (.slice av3 nv3 qv3)) → ((X.setCell ⟨w.heap.size + 1 + 1, 1, none⟩ v).cell? ⟨w2.heap.size, 0, none⟩ = some (.int .i64 kv2) ∧ (X.setCell ⟨w.heap.size + 1 + 1, 1, none⟩ v).cell? ⟨w2.heap.size, 1, none⟩ = some (.slice av2 nv2 qv2) ∧ (X.setCell ⟨w.heap.size + 1 + 1, 1, none⟩ v).cell? ⟨w3.heap.size, 0, none⟩ = some (.int .i64 kv3) ∧ (X.setCell ⟨w.heap.size + 1 + 1, 1, none⟩ v).cell? ⟨w3.heap.size, 1, none⟩ = some (.slice av3 nv3 qv3)) from fun X v s => ⟨sc_blk s.1 (by show w2.heap.size ≠ w.heap.size + 1 + 1; omega), sc_blk s.2.1 (by show w2.heap.size ≠ w.heap.size + 1 + 1; omega), sc_blk s.2.2.1 (by show w3.heap.size ≠ w.heap.size + 1 + 1; omega), sc_blk s.2.2.2 (by show w3.heap.size ≠ w.heap.size + 1 + 1; omega)⟩)
  go_region_held3 (fun w' => w'.cell? ⟨w2.heap.size, 0, none⟩ = some (.int .i64 kv2) ∧ w'.cell? ⟨w2.heap.size, 1, none⟩ = some (.slice av2 nv2 qv2) ∧ w'.cell? ⟨w3.heap.size, 0, none⟩ = some (.int .i64 kv3) ∧ w'.cell? ⟨w3.heap.size, 1, none⟩ = some (.slice av3 nv3 qv3))
    (repeat (first | with_reducible refine hSs5.out _ _ ?_ | with_reducible refine hSs4.out _ _ ?_ | with_reducible refine hSs3.out _ _ ?_ | with_reducible refine hSs2.out _ _ ?_ | with_reducible refine hSs1.out _ _ ?_ | with_reducible refine hSs0.out _ _ ?_ | with_reducible refine hSc.out _ _ hc5 ?_ | with_reducible refine hSc.out _ _ hc4 ?_ | with_reducible exact hS0.out))
    (first | (go_at_call 108; ((with_reducible refine (specL1Mutate rb q3 14 t2 _ _ (hrd3.below bal1.drew) ((hv2.below bal1.drew).ne (by first | omega | (simp; done) | (simp; omega))) (by omega) (by omega) (by omega)).mono ?_); rintro e w4 ⟨t4, v4, q4, rfl, hn4, hv4, hq4, hrd4, hc4⟩; have hrl4 := hrd4.1; obtain ⟨kv4, av4, nv4, qv4, rfl⟩ := hv4.shape)) | (go_at_call 110; ((with_reducible refine (specL1BlurD rb q4 14 t3 _ _ hrd4 (((hv3.below bal1.drew).chgB hc4 (by first | omega | (simp; omega))).ne (by first | omega | (simp; done) | (simp; omega))) (by omega) (by omega) (by omega)).mono ?_); rintro e w5 ⟨t5, v5, q5, rfl, hn5, hv5, hq5, hrd5, hc5⟩; have hrl5 := hrd5.1; obtain ⟨kv5, av5, nv5, qv5, rfl⟩ := hv5.shape; have f0_0 : w5.frozen? ⟨w.heap.size, 0, none⟩ = false := cfroc hc5 (by omega) (ccell hc4 (by omega) (dcell (bcell bal1 (c0_0)))) (cfroc hc4 (by omega) (dcell (bcell bal1 (c0_0))) (dfro (bfroc bal1 (c0_0) (f0_0)))); have c0_0' : w5.cell? ⟨w.heap.size, 0, none⟩ = some (.int .i64 0) := ccell hc5 (by omega) (ccell hc4 (by omega) (dcell (bcell bal1 (c0_0)))); have d0_ := World.block_lt_of_cell? _ _ c0_0'; have f0_1 : w5.frozen? ⟨w.heap.size, 1, none⟩ = false := cfroc hc5 (by omega) (ccell hc4 (by omega) (dcell (bcell bal1 (c0_1)))) (cfroc hc4 (by omega) (dcell (bcell bal1 (c0_1))) (dfro (bfroc bal1 (c0_1) (f0_1)))); have c0_1' : w5.cell? ⟨w.heap.size, 1, none⟩ = some (.slice none 0 0) := ccell hc5 (by omega) (ccell hc4 (by omega) (dcell (bcell bal1 (c0_1)))); have d0_ := World.block_lt_of_cell? _ _ c0_1'; have f1_0 : w5.frozen? ⟨w.heap.size + 1, 0, none⟩ = false := cfroc hc5 (by omega) (ccell hc4 (by omega) (dcell (bcell bal1 (c1_0)))) (cfroc hc4 (by omega) (dcell (bcell bal1 (c1_0))) (dfro (bfroc bal1 (c1_0) (f1_0)))); have c1_0' : w5.cell? ⟨w.heap.size + 1, 0, none⟩ = some (.int .i64 0) := ccell hc5 (by omega) (ccell hc4 (by omega) (dcell (bcell bal1 (c1_0)))); have d1_ := World.block_lt_of_cell? _ _ c1_0'; have f1_1 : w5.frozen? ⟨w.heap.size + 1, 1, none⟩ = false := cfroc hc5 (by omega) (ccell hc4 (by omega) (dcell (bcell bal1 (c1_1)))) (cfroc hc4 (by omega) (dcell (bcell bal1 (c1_1))) (dfro (bfroc bal1 (c1_1) (f1_1)))); have c1_1' : w5.cell? ⟨w.heap.size + 1, 1, none⟩ = some (.slice none 0 0) := ccell hc5 (by omega) (ccell hc4 (by omega) (dcell (bcell bal1 (c1_1)))); have d1_ := World.block_lt_of_cell? _ _ c1_1'; have f2_0 : w5.frozen? ⟨w.heap.size + 1 + 1, 0, none⟩ = false := cfroc hc5 (by omega) (ccell hc4 (by omega) (dcell (bcell bal1 (c2_0)))) (cfroc hc4 (by omega) (dcell (bcell bal1 (c2_0))) (dfro (bfroc bal1 (c2_0) (f2_0)))); have c2_0' : w5.cell? ⟨w.heap.size + 1 + 1, 0, none⟩ = some (.int .i64 0) := ccell hc5 (by omega) (ccell hc4 (by omega) (dcell (bcell bal1 (c2_0)))); have d2_ := World.block_lt_of_cell? _ _ c2_0'; have f2_1 : w5.frozen? ⟨w.heap.size + 1 + 1, 1, none⟩ = false := cfroc hc5 (by omega) (ccell hc4 (by omega) (dcell (bcell bal1 (c2_1)))) (cfroc hc4 (by omega) (dcell (bcell bal1 (c2_1))) (dfro (bfroc bal1 (c2_1) (f2_1)))); have c2_1' : w5.cell? ⟨w.heap.size + 1 + 1, 1, none⟩ = some (.slice none 0 0) := ccell hc5 (by omega) (ccell hc4 (by omega) (dcell (bcell bal1 (c2_1)))); have d2_ := World.block_lt_of_cell? _ _ c2_1')))
  clear s0_ s1_ s2_ s3_
  replace hB := (bchg (bchg (hB.alloc hB.size _).drew hc4 (by omega) (Nat.le_refl _)) hc5 (by omega) (Nat.le_refl _))
  have zw5 := hB.size
  replace c0_0 : w5.cell? ⟨w.heap.size, 0, none⟩ = some (.int .i64 0) := ccell hc5 (by omega) (ccell hc4 (by omega) (dcell (bcell bal1 (c0_0))))
  replace c0_1 : w5.cell? ⟨w.heap.size, 1, none⟩ = some (.slice none 0 0) := ccell hc5 (by omega) (ccell hc4 (by omega) (dcell (bcell bal1 (c0_1))))
  replace c1_0 : w5.cell? ⟨w.heap.size + 1, 0, none⟩ = some (.int .i64 0) := ccell hc5 (by omega) (ccell hc4 (by omega) (dcell (bcell bal1 (c1_0))))
  replace c1_1 : w5.cell? ⟨w.heap.size + 1, 1, none⟩ = some (.slice none 0 0) := ccell hc5 (by omega) (ccell hc4 (by omega) (dcell (bcell bal1 (c1_1))))
  replace c2_0 : w5.cell? ⟨w.heap.size + 1 + 1, 0, none⟩ = some (.int .i64 0) := ccell hc5 (by omega) (ccell hc4 (by omega) (dcell (bcell bal1 (c2_0))))
  replace c2_1 : w5.cell? ⟨w.heap.size + 1 + 1, 1, none⟩ = some (.slice none 0 0) := ccell hc5 (by omega) (ccell hc4 (by omega) (dcell (bcell bal1 (c2_1))))
  replace hv4 := (hv4.chgB hc5 (by first | omega | (simp; omega)))
  replace hv3 := (((hv3.below bal1.drew).chgB hc4 (by first | omega | (simp; omega))).chgB hc5 (by first | omega | (simp; omega)))
  have d0_w5 := World.block_lt_of_cell? _ _ c0_0
  have d1_w5 := World.block_lt_of_cell? _ _ c1_0
  have d2_w5 := World.block_lt_of_cell? _ _ c2_0
  go_wp2_with fail
  refine bodyPost_ret (v := .tuple #[.agg #[.int .i64 kv4, .slice av4 nv4 qv4], .agg #[.int .i64 kv3, .slice av3 nv3 qv3], .agg #[.int .i64 kv5, .slice av5 nv5 qv5]]) (by simp [results, Try.results58, go_sem, c0_0, c0_1, c1_0, c1_1, c2_0, c2_1]) rfl ?_
  exact ⟨_, _, _, _, _, _, rfl, (TyRep.lower ((((((hv4.setCell (by first | (show w.heap.size < _; omega) | (show w.heap.size < _; simp; omega) | simp) _).setCell (by first | (show w.heap.size < _; omega) | (show w.heap.size < _; simp; omega) | simp) _).setCell (by first | (show w.heap.size + 1 < _; omega) | (show w.heap.size + 1 < _; simp; omega) | simp) _).setCell (by first | (show w.heap.size + 1 < _; omega) | (show w.heap.size + 1 < _; simp; omega) | simp) _).setCell (by first | (show w.heap.size + 1 + 1 < _; omega) | (show w.heap.size + 1 + 1 < _; simp; omega) | simp) _).setCell (by first | (show w.heap.size + 1 + 1 < _; omega) | (show w.heap.size + 1 + 1 < _; simp; omega) | simp) _) (by first | omega | (simp; done) | (simp; omega))), (TyRep.lower ((((((hv3.setCell (by first | (show w.heap.size < _; omega) | (show w.heap.size < _; simp; omega) | simp) _).setCell (by first | (show w.heap.size < _; omega) | (show w.heap.size < _; simp; omega) | simp) _).setCell (by first | (show w.heap.size + 1 < _; omega) | (show w.heap.size + 1 < _; simp; omega) | simp) _).setCell (by first | (show w.heap.size + 1 < _; omega) | (show w.heap.size + 1 < _; simp; omega) | simp) _).setCell (by first | (show w.heap.size + 1 + 1 < _; omega) | (show w.heap.size + 1 + 1 < _; simp; omega) | simp) _).setCell (by first | (show w.heap.size + 1 + 1 < _; omega) | (show w.heap.size + 1 + 1 < _; simp; omega) | simp) _) (by first | omega | (simp; done) | (simp; omega))), (TyRep.lower ((((((hv5.setCell (by first | (show w.heap.size < _; omega) | (show w.heap.size < _; simp; omega) | simp) _).setCell (by first | (show w.heap.size < _; omega) | (show w.heap.size < _; simp; omega) | simp) _).setCell (by first | (show w.heap.size + 1 < _; omega) | (show w.heap.size + 1 < _; simp; omega) | simp) _).setCell (by first | (show w.heap.size + 1 < _; omega) | (show w.heap.size + 1 < _; simp; omega) | simp) _).setCell (by first | (show w.heap.size + 1 + 1 < _; omega) | (show w.heap.size + 1 + 1 < _; simp; omega) | simp) _).setCell (by first | (show w.heap.size + 1 + 1 < _; omega) | (show w.heap.size + 1 + 1 < _; simp; omega) | simp) _) (by first | omega | (simp; done) | (simp; omega))), ((((((hB.setCell (by show w.heap.size ≤ w.heap.size; omega) _).setCell (by show w.heap.size ≤ w.heap.size; omega) _).setCell (by show w.heap.size ≤ w.heap.size + 1; omega) _).setCell (by show w.heap.size ≤ w.heap.size + 1; omega) _).setCell (by show w.heap.size ≤ w.heap.size + 1 + 1; omega) _).setCell (by show w.heap.size ≤ w.heap.size + 1 + 1; omega) _)⟩

end Go.Proofs.Ytjkkahlcbhcifaa
