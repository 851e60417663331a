/-
  FnMatchTypes returns true: the walk.
-/
import Derived.Test.YtjkkahlcbhcifaaFn
import Derived.Test.YtjkkahlcbhcifaaDraws
import Derived.Test.YtjkkahlcbhcifaaDrawCh
namespace Go.Proofs.Ytjkkahlcbhcifaa
open Go.RowKit
set_option linter.unusedVariables false
set_option linter.unusedSimpArgs false
set_option maxRecDepth 100000

theorem leaf_FnMatchTypes_0 {t1 : Ty} (h0 : (matB 5 t1) = true) (h1 : (consB t1 (Ty.mk 5 [Ty.mk 1 [], Ty.mk 1 []])) = true) (h2 : (matB 4 t1) = true) : (consB t1 (Ty.mk 4 [Ty.mk 1 [], Ty.mk 1 []])) = true := by
  have l := law_FnMatchTypes t1
  first | (simp_all; done) | grind

theorem leaf_FnMatchTypes_1 {t1 : Ty} (h0 : (matB 5 t1) = true) (h1 : (consB t1 (Ty.mk 5 [Ty.mk 1 [], Ty.mk 1 []])) = true) (h2 : (matB 4 t1) = false) : (!(consB t1 (Ty.mk 4 [Ty.mk 1 [], Ty.mk 1 []]))) = true := by
  have l := law_FnMatchTypes t1
  first | (simp_all; done) | grind

theorem leaf_FnMatchTypes_2 {t1 : Ty} (h0 : (matB 5 t1) = true) (h1 : (consB t1 (Ty.mk 5 [Ty.mk 1 [], Ty.mk 1 []])) = false) : False := by
  have l := law_FnMatchTypes t1
  first | (simp_all; done) | grind

theorem leaf_FnMatchTypes_3 {t1 : Ty} (h0 : (matB 5 t1) = false) (h1 : (consB t1 (Ty.mk 5 [Ty.mk 1 [], Ty.mk 1 []])) = true) : False := by
  have l := law_FnMatchTypes t1
  first | (simp_all; done) | grind

theorem leaf_FnMatchTypes_4 {t1 : Ty} (h0 : (matB 5 t1) = false) (h1 : (consB t1 (Ty.mk 5 [Ty.mk 1 [], Ty.mk 1 []])) = false) (h2 : (matB 4 t1) = true) : (consB t1 (Ty.mk 4 [Ty.mk 1 [], Ty.mk 1 []])) = true := by
  have l := law_FnMatchTypes t1
  first | (simp_all; done) | grind

theorem leaf_FnMatchTypes_5 {t1 : Ty} (h0 : (matB 5 t1) = false) (h1 : (consB t1 (Ty.mk 5 [Ty.mk 1 [], Ty.mk 1 []])) = false) (h2 : (matB 4 t1) = false) : (!(consB t1 (Ty.mk 4 [Ty.mk 1 [], Ty.mk 1 []]))) = true := by
  have l := law_FnMatchTypes t1
  first | (simp_all; done) | grind
set_option maxHeartbeats 8000000 in
theorem walk_FnMatchTypes (y0 : Value) (w : World) (r0 : ByRep w w.heap.size y0) :
    Calls Try.prog 22 #[y0] w fun e w' => e = .returned (.bool true) ∧ Below w.heap.size w w' := by
  obtain ⟨a0, n0, q0, rfl⟩ := r0.shape
  go_enter Try.func22, Try.ntmps22
  rcases Bool.eq_false_or_eq_true (decide ((n0 : Int) > 1048576)) with q1 | q1
  · (try rw [q1])
    go_wp2_with fail
    refine bodyPost_ret (v := .bool true) (by simp [results, Try.results22, go_sem]) rfl ?_
    exact ⟨rfl, (Below.refl _ _)⟩
  · (try rw [q1])
    go_wp2_with fail
    refine (specDrawMatchPair _ _ _ (r0.below (Below.refl _ _)) (by first | omega | (simp; done) | (simp; omega))).mono ?_
    rintro e w1 ⟨t1, v1, rfl, hv1, hb1⟩
    obtain ⟨kv1, av1, nv1, qv1, rfl⟩ := hv1.shape
    have hB := (bstep (Below.refl _ _) hb1)
    have zw1 := hB.size
    go_wp2_with fail
    refine (implMatchPair _ t1 _ _ (hv1.below bal1).all).mono ?_
    rintro e w2 ⟨v2, u2', rfl, hp2, hb2⟩
    obtain ⟨kr2, ar2, nr2, qr2, ks2, as2, ns2, qs2, rfl, rfl⟩ := hp2.shape
    replace hB := (bstep (hB.alloc hB.size _) hb2)
    have zw2 := hB.size
    have c0_0 : w2.cell? ⟨w1.heap.size, 0, none⟩ = some (.int .i64 kv1) := bcell hb2 (cell_new (by simp) 0)
    have c0_1 : w2.cell? ⟨w1.heap.size, 1, none⟩ = some (.slice av1 nv1 qv1) := bcell hb2 (cell_new (by simp) 1)
    replace hv1 := (hv1.below (bstep bal1 hb2))
    have d0_w2 := World.block_lt_of_cell? _ _ c0_0
    have d0_w2_1 : w1.heap.size < w2.heap.size + 1 := Nat.lt_succ_of_lt d0_w2
    go_wp2_with fail
    refine (specMatchPair _ t1 _ _ (hv1.below bal2).all).mono ?_
    rintro e w3 ⟨v3, u3', rfl, hp3, hb3⟩
    obtain ⟨kr3, ar3, nr3, qr3, ks3, as3, ns3, qs3, rfl, rfl⟩ := hp3.shape
    replace hB := (bstep ((hB.alloc hB.size _).alloc (hB.alloc hB.size _).size _) hb3)
    have zw3 := hB.size
    replace c0_0 : w3.cell? ⟨w1.heap.size, 0, none⟩ = some (.int .i64 kv1) := bcell hb3 (bcell bal1 (bcell bal1 (c0_0)))
    replace c0_1 : w3.cell? ⟨w1.heap.size, 1, none⟩ = some (.slice av1 nv1 qv1) := bcell hb3 (bcell bal1 (bcell bal1 (c0_1)))
    have c1_0 : w3.cell? ⟨w2.heap.size, 0, none⟩ = some (.int .i64 kr2) := bcell hb3 (bcell bal1 (cell_new (by simp) 0))
    have c1_1 : w3.cell? ⟨w2.heap.size, 1, none⟩ = some (.slice ar2 nr2 qr2) := bcell hb3 (bcell bal1 (cell_new (by simp) 1))
    have c2_0 : w3.cell? ⟨w2.heap.size + 1, 0, none⟩ = some (.int .i64 ks2) := bcell hb3 (cell_new (by simp) 0)
    have c2_1 : w3.cell? ⟨w2.heap.size + 1, 1, none⟩ = some (.slice as2 ns2 qs2) := bcell hb3 (cell_new (by simp) 1)
    replace hv1 := (hv1.below (bstep bal2 hb3))
    replace hp2 := (hp2.below (bstep bal2 hb3))
    have d0_w3 := World.block_lt_of_cell? _ _ c0_0
    have d0_w3_1 : w1.heap.size < w3.heap.size + 1 := Nat.lt_succ_of_lt d0_w3
    have d1_w3 := World.block_lt_of_cell? _ _ c1_0
    have d1_w3_1 : w2.heap.size < w3.heap.size + 1 := Nat.lt_succ_of_lt d1_w3
    have d2_w3 := World.block_lt_of_cell? _ _ c2_0
    have d2_w3_1 : w2.heap.size + 1 < w3.heap.size + 1 := Nat.lt_succ_of_lt d2_w3
    go_wp2_with fail
    refine (implMatchFun _ t1 _ _ (hv1.below bal2).all).mono ?_
    rintro e w4 ⟨v4, u4', rfl, hp4, hb4⟩
    obtain ⟨kr4, ar4, nr4, qr4, ks4, as4, ns4, qs4, rfl, rfl⟩ := hp4.shape
    replace hB := (bstep ((hB.alloc hB.size _).alloc (hB.alloc hB.size _).size _) hb4)
    have zw4 := hB.size
    replace c0_0 : w4.cell? ⟨w1.heap.size, 0, none⟩ = some (.int .i64 kv1) := bcell hb4 (bcell bal1 (bcell bal1 (c0_0)))
    replace c0_1 : w4.cell? ⟨w1.heap.size, 1, none⟩ = some (.slice av1 nv1 qv1) := bcell hb4 (bcell bal1 (bcell bal1 (c0_1)))
    replace c1_0 : w4.cell? ⟨w2.heap.size, 0, none⟩ = some (.int .i64 kr2) := bcell hb4 (bcell bal1 (bcell bal1 (c1_0)))
    replace c1_1 : w4.cell? ⟨w2.heap.size, 1, none⟩ = some (.slice ar2 nr2 qr2) := bcell hb4 (bcell bal1 (bcell bal1 (c1_1)))
    have c3_0 : w4.cell? ⟨w3.heap.size, 0, none⟩ = some (.int .i64 kr3) := bcell hb4 (bcell bal1 (cell_new (by simp) 0))
    have c3_1 : w4.cell? ⟨w3.heap.size, 1, none⟩ = some (.slice ar3 nr3 qr3) := bcell hb4 (bcell bal1 (cell_new (by simp) 1))
    replace c2_0 : w4.cell? ⟨w2.heap.size + 1, 0, none⟩ = some (.int .i64 ks2) := bcell hb4 (bcell bal1 (bcell bal1 (c2_0)))
    replace c2_1 : w4.cell? ⟨w2.heap.size + 1, 1, none⟩ = some (.slice as2 ns2 qs2) := bcell hb4 (bcell bal1 (bcell bal1 (c2_1)))
    have c4_0 : w4.cell? ⟨w3.heap.size + 1, 0, none⟩ = some (.int .i64 ks3) := bcell hb4 (cell_new (by simp) 0)
    have c4_1 : w4.cell? ⟨w3.heap.size + 1, 1, none⟩ = some (.slice as3 ns3 qs3) := bcell hb4 (cell_new (by simp) 1)
    replace hv1 := (hv1.below (bstep bal2 hb4))
    replace hp2 := (hp2.below (bstep bal2 hb4))
    replace hp3 := (hp3.below (bstep bal2 hb4))
    have d0_w4 := World.block_lt_of_cell? _ _ c0_0
    have d0_w4_1 : w1.heap.size < w4.heap.size + 1 := Nat.lt_succ_of_lt d0_w4
    have d1_w4 := World.block_lt_of_cell? _ _ c1_0
    have d1_w4_1 : w2.heap.size < w4.heap.size + 1 := Nat.lt_succ_of_lt d1_w4
    have d3_w4 := World.block_lt_of_cell? _ _ c3_0
    have d3_w4_1 : w3.heap.size < w4.heap.size + 1 := Nat.lt_succ_of_lt d3_w4
    have d2_w4 := World.block_lt_of_cell? _ _ c2_0
    have d2_w4_1 : w2.heap.size + 1 < w4.heap.size + 1 := Nat.lt_succ_of_lt d2_w4
    have d4_w4 := World.block_lt_of_cell? _ _ c4_0
    have d4_w4_1 : w3.heap.size + 1 < w4.heap.size + 1 := Nat.lt_succ_of_lt d4_w4
    go_wp2_with fail
    refine (specMatchFun _ t1 _ _ (hv1.below bal2).all).mono ?_
    rintro e w5 ⟨v5, u5', rfl, hp5, hb5⟩
    obtain ⟨kr5, ar5, nr5, qr5, ks5, as5, ns5, qs5, rfl, rfl⟩ := hp5.shape
    replace hB := (bstep ((hB.alloc hB.size _).alloc (hB.alloc hB.size _).size _) hb5)
    have zw5 := hB.size
    replace c1_0 : w5.cell? ⟨w2.heap.size, 0, none⟩ = some (.int .i64 kr2) := bcell hb5 (bcell bal1 (bcell bal1 (c1_0)))
    replace c1_1 : w5.cell? ⟨w2.heap.size, 1, none⟩ = some (.slice ar2 nr2 qr2) := bcell hb5 (bcell bal1 (bcell bal1 (c1_1)))
    replace c3_0 : w5.cell? ⟨w3.heap.size, 0, none⟩ = some (.int .i64 kr3) := bcell hb5 (bcell bal1 (bcell bal1 (c3_0)))
    replace c3_1 : w5.cell? ⟨w3.heap.size, 1, none⟩ = some (.slice ar3 nr3 qr3) := bcell hb5 (bcell bal1 (bcell bal1 (c3_1)))
    replace c2_0 : w5.cell? ⟨w2.heap.size + 1, 0, none⟩ = some (.int .i64 ks2) := bcell hb5 (bcell bal1 (bcell bal1 (c2_0)))
    replace c2_1 : w5.cell? ⟨w2.heap.size + 1, 1, none⟩ = some (.slice as2 ns2 qs2) := bcell hb5 (bcell bal1 (bcell bal1 (c2_1)))
    replace c4_0 : w5.cell? ⟨w3.heap.size + 1, 0, none⟩ = some (.int .i64 ks3) := bcell hb5 (bcell bal1 (bcell bal1 (c4_0)))
    replace c4_1 : w5.cell? ⟨w3.heap.size + 1, 1, none⟩ = some (.slice as3 ns3 qs3) := bcell hb5 (bcell bal1 (bcell bal1 (c4_1)))
    have c5_0 : w5.cell? ⟨w4.heap.size, 0, none⟩ = some (.int .i64 kr4) := bcell hb5 (bcell bal1 (cell_new (by simp) 0))
    have c5_1 : w5.cell? ⟨w4.heap.size, 1, none⟩ = some (.slice ar4 nr4 qr4) := bcell hb5 (bcell bal1 (cell_new (by simp) 1))
    have c6_0 : w5.cell? ⟨w4.heap.size + 1, 0, none⟩ = some (.int .i64 ks4) := bcell hb5 (cell_new (by simp) 0)
    have c6_1 : w5.cell? ⟨w4.heap.size + 1, 1, none⟩ = some (.slice as4 ns4 qs4) := bcell hb5 (cell_new (by simp) 1)
    replace c0_0 : w5.cell? ⟨w1.heap.size, 0, none⟩ = some (.int .i64 kv1) := bcell hb5 (bcell bal1 (bcell bal1 (c0_0)))
    replace c0_1 : w5.cell? ⟨w1.heap.size, 1, none⟩ = some (.slice av1 nv1 qv1) := bcell hb5 (bcell bal1 (bcell bal1 (c0_1)))
    replace hp2 := (hp2.below (bstep bal2 hb5))
    replace hp3 := (hp3.below (bstep bal2 hb5))
    replace hp4 := (hp4.below (bstep bal2 hb5))
    replace hv1 := (hv1.below (bstep bal2 hb5))
    have d1_w5 := World.block_lt_of_cell? _ _ c1_0
    have d1_w5_1 : w2.heap.size < w5.heap.size + 1 := Nat.lt_succ_of_lt d1_w5
    have d3_w5 := World.block_lt_of_cell? _ _ c3_0
    have d3_w5_1 : w3.heap.size < w5.heap.size + 1 := Nat.lt_succ_of_lt d3_w5
    have d2_w5 := World.block_lt_of_cell? _ _ c2_0
    have d2_w5_1 : w2.heap.size + 1 < w5.heap.size + 1 := Nat.lt_succ_of_lt d2_w5
    have d4_w5 := World.block_lt_of_cell? _ _ c4_0
    have d4_w5_1 : w3.heap.size + 1 < w5.heap.size + 1 := Nat.lt_succ_of_lt d4_w5
    have d5_w5 := World.block_lt_of_cell? _ _ c5_0
    have d5_w5_1 : w4.heap.size < w5.heap.size + 1 := Nat.lt_succ_of_lt d5_w5
    have d6_w5 := World.block_lt_of_cell? _ _ c6_0
    have d6_w5_1 : w4.heap.size + 1 < w5.heap.size + 1 := Nat.lt_succ_of_lt d6_w5
    have d0_w5 := World.block_lt_of_cell? _ _ c0_0
    have d0_w5_1 : w1.heap.size < w5.heap.size + 1 := Nat.lt_succ_of_lt d0_w5
    go_wp2_with fail
    refine (implTypeSameSelf _ _ (matT 5 0 t1) _ _ _ (hp2.below bal2).rep1.all (hp3.below bal2).rep1.all).mono ?_
    rintro e w6 ⟨rfl, hb6⟩
    replace hB := (bstep ((hB.alloc hB.size _).alloc (hB.alloc hB.size _).size _) hb6)
    have zw6 := hB.size
    replace c2_0 : w6.cell? ⟨w2.heap.size + 1, 0, none⟩ = some (.int .i64 ks2) := bcell hb6 (bcell bal1 (bcell bal1 (c2_0)))
    replace c2_1 : w6.cell? ⟨w2.heap.size + 1, 1, none⟩ = some (.slice as2 ns2 qs2) := bcell hb6 (bcell bal1 (bcell bal1 (c2_1)))
    replace c4_0 : w6.cell? ⟨w3.heap.size + 1, 0, none⟩ = some (.int .i64 ks3) := bcell hb6 (bcell bal1 (bcell bal1 (c4_0)))
    replace c4_1 : w6.cell? ⟨w3.heap.size + 1, 1, none⟩ = some (.slice as3 ns3 qs3) := bcell hb6 (bcell bal1 (bcell bal1 (c4_1)))
    replace c5_0 : w6.cell? ⟨w4.heap.size, 0, none⟩ = some (.int .i64 kr4) := bcell hb6 (bcell bal1 (bcell bal1 (c5_0)))
    replace c5_1 : w6.cell? ⟨w4.heap.size, 1, none⟩ = some (.slice ar4 nr4 qr4) := bcell hb6 (bcell bal1 (bcell bal1 (c5_1)))
    have c7_0 : w6.cell? ⟨w5.heap.size, 0, none⟩ = some (.int .i64 kr5) := bcell hb6 (bcell bal1 (cell_new (by simp) 0))
    have c7_1 : w6.cell? ⟨w5.heap.size, 1, none⟩ = some (.slice ar5 nr5 qr5) := bcell hb6 (bcell bal1 (cell_new (by simp) 1))
    replace c6_0 : w6.cell? ⟨w4.heap.size + 1, 0, none⟩ = some (.int .i64 ks4) := bcell hb6 (bcell bal1 (bcell bal1 (c6_0)))
    replace c6_1 : w6.cell? ⟨w4.heap.size + 1, 1, none⟩ = some (.slice as4 ns4 qs4) := bcell hb6 (bcell bal1 (bcell bal1 (c6_1)))
    have c8_0 : w6.cell? ⟨w5.heap.size + 1, 0, none⟩ = some (.int .i64 ks5) := bcell hb6 (cell_new (by simp) 0)
    have c8_1 : w6.cell? ⟨w5.heap.size + 1, 1, none⟩ = some (.slice as5 ns5 qs5) := bcell hb6 (cell_new (by simp) 1)
    replace c0_0 : w6.cell? ⟨w1.heap.size, 0, none⟩ = some (.int .i64 kv1) := bcell hb6 (bcell bal1 (bcell bal1 (c0_0)))
    replace c0_1 : w6.cell? ⟨w1.heap.size, 1, none⟩ = some (.slice av1 nv1 qv1) := bcell hb6 (bcell bal1 (bcell bal1 (c0_1)))
    replace hp2 := (hp2.below (bstep bal2 hb6))
    replace hp3 := (hp3.below (bstep bal2 hb6))
    replace hp4 := (hp4.below (bstep bal2 hb6))
    replace hp5 := (hp5.below (bstep bal2 hb6))
    replace hv1 := (hv1.below (bstep bal2 hb6))
    have d2_w6 := World.block_lt_of_cell? _ _ c2_0
    have d4_w6 := World.block_lt_of_cell? _ _ c4_0
    have d5_w6 := World.block_lt_of_cell? _ _ c5_0
    have d7_w6 := World.block_lt_of_cell? _ _ c7_0
    have d6_w6 := World.block_lt_of_cell? _ _ c6_0
    have d8_w6 := World.block_lt_of_cell? _ _ c8_0
    have d0_w6 := World.block_lt_of_cell? _ _ c0_0
    go_wp2_with fail
    refine (implTypeSameSelf _ _ (matT 5 1 t1) _ _ _ hp2.rep2.all hp3.rep2.all).mono ?_
    rintro e w7 ⟨rfl, hb7⟩
    replace hB := (bstep hB hb7)
    have zw7 := hB.size
    replace c5_0 : w7.cell? ⟨w4.heap.size, 0, none⟩ = some (.int .i64 kr4) := bcell hb7 (c5_0)
    replace c5_1 : w7.cell? ⟨w4.heap.size, 1, none⟩ = some (.slice ar4 nr4 qr4) := bcell hb7 (c5_1)
    replace c7_0 : w7.cell? ⟨w5.heap.size, 0, none⟩ = some (.int .i64 kr5) := bcell hb7 (c7_0)
    replace c7_1 : w7.cell? ⟨w5.heap.size, 1, none⟩ = some (.slice ar5 nr5 qr5) := bcell hb7 (c7_1)
    replace c6_0 : w7.cell? ⟨w4.heap.size + 1, 0, none⟩ = some (.int .i64 ks4) := bcell hb7 (c6_0)
    replace c6_1 : w7.cell? ⟨w4.heap.size + 1, 1, none⟩ = some (.slice as4 ns4 qs4) := bcell hb7 (c6_1)
    replace c8_0 : w7.cell? ⟨w5.heap.size + 1, 0, none⟩ = some (.int .i64 ks5) := bcell hb7 (c8_0)
    replace c8_1 : w7.cell? ⟨w5.heap.size + 1, 1, none⟩ = some (.slice as5 ns5 qs5) := bcell hb7 (c8_1)
    replace c0_0 : w7.cell? ⟨w1.heap.size, 0, none⟩ = some (.int .i64 kv1) := bcell hb7 (c0_0)
    replace c0_1 : w7.cell? ⟨w1.heap.size, 1, none⟩ = some (.slice av1 nv1 qv1) := bcell hb7 (c0_1)
    replace hp4 := (hp4.below hb7)
    replace hp5 := (hp5.below hb7)
    replace hv1 := (hv1.below hb7)
    have d5_w7 := World.block_lt_of_cell? _ _ c5_0
    have d7_w7 := World.block_lt_of_cell? _ _ c7_0
    have d6_w7 := World.block_lt_of_cell? _ _ c6_0
    have d8_w7 := World.block_lt_of_cell? _ _ c8_0
    have d0_w7 := World.block_lt_of_cell? _ _ c0_0
    go_wp2_with fail
    refine (implTypeSameSelf _ _ (matT 4 0 t1) _ _ _ hp4.rep1.all hp5.rep1.all).mono ?_
    rintro e w8 ⟨rfl, hb8⟩
    replace hB := (bstep hB hb8)
    have zw8 := hB.size
    replace c6_0 : w8.cell? ⟨w4.heap.size + 1, 0, none⟩ = some (.int .i64 ks4) := bcell hb8 (c6_0)
    replace c6_1 : w8.cell? ⟨w4.heap.size + 1, 1, none⟩ = some (.slice as4 ns4 qs4) := bcell hb8 (c6_1)
    replace c8_0 : w8.cell? ⟨w5.heap.size + 1, 0, none⟩ = some (.int .i64 ks5) := bcell hb8 (c8_0)
    replace c8_1 : w8.cell? ⟨w5.heap.size + 1, 1, none⟩ = some (.slice as5 ns5 qs5) := bcell hb8 (c8_1)
    replace c0_0 : w8.cell? ⟨w1.heap.size, 0, none⟩ = some (.int .i64 kv1) := bcell hb8 (c0_0)
    replace c0_1 : w8.cell? ⟨w1.heap.size, 1, none⟩ = some (.slice av1 nv1 qv1) := bcell hb8 (c0_1)
    replace hp4 := (hp4.below hb8)
    replace hp5 := (hp5.below hb8)
    replace hv1 := (hv1.below hb8)
    have d6_w8 := World.block_lt_of_cell? _ _ c6_0
    have d8_w8 := World.block_lt_of_cell? _ _ c8_0
    have d0_w8 := World.block_lt_of_cell? _ _ c0_0
    go_wp2_with fail
    refine (implTypeSameSelf _ _ (matT 4 1 t1) _ _ _ hp4.rep2.all hp5.rep2.all).mono ?_
    rintro e w9 ⟨rfl, hb9⟩
    replace hB := (bstep hB hb9)
    have zw9 := hB.size
    replace c0_0 : w9.cell? ⟨w1.heap.size, 0, none⟩ = some (.int .i64 kv1) := bcell hb9 (c0_0)
    replace c0_1 : w9.cell? ⟨w1.heap.size, 1, none⟩ = some (.slice av1 nv1 qv1) := bcell hb9 (c0_1)
    replace hv1 := (hv1.below hb9)
    have d0_w9 := World.block_lt_of_cell? _ _ c0_0
    have d0_w9_1 : w1.heap.size < w9.heap.size + 1 := Nat.lt_succ_of_lt d0_w9
    have d0_w9_2 : w1.heap.size < w9.heap.size + 1 + 1 := Nat.lt_succ_of_lt d0_w9_1
    have d0_w9_3 : w1.heap.size < w9.heap.size + 1 + 1 + 1 := Nat.lt_succ_of_lt d0_w9_2
    have d0_w9_4 : w1.heap.size < w9.heap.size + 1 + 1 + 1 + 1 := Nat.lt_succ_of_lt d0_w9_3
    rcases Bool.eq_false_or_eq_true (matB 5 t1) with q2 | q2
    · (try rw [q2])
      have Hq2 := Lib.hid q2
      clear q2
      rcases Bool.eq_false_or_eq_true (consB t1 (Ty.mk 5 [Ty.mk 1 [], Ty.mk 1 []])) with q3 | q3
      · have Hq3 := Lib.hid q3
        clear q3
        rcases Bool.eq_false_or_eq_true (matB 4 t1) with q4 | q4
        · (try rw [q4])
          have Hq4 := Lib.hid q4
          clear q4
          go_wp2_with fail
          refine (implConsistentB _ _ t1 (Ty.mk 5 [Ty.mk 1 [], Ty.mk 1 []]) _ _ _ (hv1.below (bstep bal4 bal1)).all (TyRep.two_mk trivial (by omega) (by unfold maxLen; omega) (bcell bal1 (bcell bal1 (bcell bal1 (cell_new (by simp) 0)))) (bcell bal1 (bcell bal1 (bcell bal1 (cell_new (by simp) 1)))) (bcell bal1 (bcell bal1 (bcell bal1 (cell_new (by simp) 2)))) (bcell bal1 (bcell bal1 (bcell bal1 (cell_new (by simp) 3)))) (TyRep.leaf 1) (TyRep.leaf 1))).mono ?_
          rintro e w10 ⟨rfl, hb10⟩
          rw [Hq3.out]
          replace hB := (bstep (((((hB.alloc hB.size _).alloc (hB.alloc hB.size _).size _).alloc ((hB.alloc hB.size _).alloc (hB.alloc hB.size _).size _).size _).alloc (((hB.alloc hB.size _).alloc (hB.alloc hB.size _).size _).alloc ((hB.alloc hB.size _).alloc (hB.alloc hB.size _).size _).size _).size _).alloc ((((hB.alloc hB.size _).alloc (hB.alloc hB.size _).size _).alloc ((hB.alloc hB.size _).alloc (hB.alloc hB.size _).size _).size _).alloc (((hB.alloc hB.size _).alloc (hB.alloc hB.size _).size _).alloc ((hB.alloc hB.size _).alloc (hB.alloc hB.size _).size _).size _).size _).size _) hb10)
          have zw10 := hB.size
          replace c0_0 : w10.cell? ⟨w1.heap.size, 0, none⟩ = some (.int .i64 kv1) := bcell hb10 (bcell bal1 (bcell bal1 (bcell bal1 (bcell bal1 (bcell bal1 (c0_0))))))
          replace c0_1 : w10.cell? ⟨w1.heap.size, 1, none⟩ = some (.slice av1 nv1 qv1) := bcell hb10 (bcell bal1 (bcell bal1 (bcell bal1 (bcell bal1 (bcell bal1 (c0_1))))))
          have c13_0 : w10.cell? ⟨w9.heap.size + 1 + 1 + 1 + 1, 0, none⟩ = some (.int .i64 4) := bcell hb10 (cell_new (by simp) 0)
          have c13_1 : w10.cell? ⟨w9.heap.size + 1 + 1 + 1 + 1, 1, none⟩ = some (.slice (some ⟨w9.heap.size + 1 + 1 + 1, 0, none⟩) 2 2) := bcell hb10 (cell_new (by simp) 1)
          have c12_0 : w10.cell? ⟨w9.heap.size + 1 + 1 + 1, 0, none⟩ = some (.int .i64 1) := bcell hb10 (bcell bal1 (cell_new (by simp) 0))
          have c12_1 : w10.cell? ⟨w9.heap.size + 1 + 1 + 1, 1, none⟩ = some (.slice none 0 0) := bcell hb10 (bcell bal1 (cell_new (by simp) 1))
          have c12_2 : w10.cell? ⟨w9.heap.size + 1 + 1 + 1, 2, none⟩ = some (.int .i64 1) := bcell hb10 (bcell bal1 (cell_new (by simp) 2))
          have c12_3 : w10.cell? ⟨w9.heap.size + 1 + 1 + 1, 3, none⟩ = some (.slice none 0 0) := bcell hb10 (bcell bal1 (cell_new (by simp) 3))
          replace hv1 := (hv1.below (bstep (bstep bal4 bal1) hb10))
          have d0_w10 := World.block_lt_of_cell? _ _ c0_0
          have d13_w10 := World.block_lt_of_cell? _ _ c13_0
          have d12_w10 := World.block_lt_of_cell? _ _ c12_0
          go_wp2_with fail
          refine (implConsistentB _ _ t1 (Ty.mk 4 [Ty.mk 1 [], Ty.mk 1 []]) _ _ _ hv1.all (TyRep.two_mk trivial (by omega) (by unfold maxLen; omega) (c12_0) (c12_1) (c12_2) (c12_3) (TyRep.leaf 1) (TyRep.leaf 1))).mono ?_
          rintro e w11 ⟨rfl, hb11⟩
          replace hB := (bstep hB hb11)
          have zw11 := hB.size
          go_wp2_with fail
          have hE := leaf_FnMatchTypes_0 Hq2.out Hq3.out Hq4.out
          refine bodyPost_ret (v := .bool (consB t1 (Ty.mk 4 [Ty.mk 1 [], Ty.mk 1 []]))) (by simp [results, Try.results22, go_sem]) rfl ?_
          exact ⟨by rw [hE], hB⟩
        · (try rw [q4])
          have Hq4 := Lib.hid q4
          clear q4
          go_wp2_with fail
          refine (implConsistentB _ _ t1 (Ty.mk 5 [Ty.mk 1 [], Ty.mk 1 []]) _ _ _ (hv1.below (bstep bal4 bal1)).all (TyRep.two_mk trivial (by omega) (by unfold maxLen; omega) (bcell bal1 (bcell bal1 (bcell bal1 (cell_new (by simp) 0)))) (bcell bal1 (bcell bal1 (bcell bal1 (cell_new (by simp) 1)))) (bcell bal1 (bcell bal1 (bcell bal1 (cell_new (by simp) 2)))) (bcell bal1 (bcell bal1 (bcell bal1 (cell_new (by simp) 3)))) (TyRep.leaf 1) (TyRep.leaf 1))).mono ?_
          rintro e w12 ⟨rfl, hb12⟩
          rw [Hq3.out]
          replace hB := (bstep (((((hB.alloc hB.size _).alloc (hB.alloc hB.size _).size _).alloc ((hB.alloc hB.size _).alloc (hB.alloc hB.size _).size _).size _).alloc (((hB.alloc hB.size _).alloc (hB.alloc hB.size _).size _).alloc ((hB.alloc hB.size _).alloc (hB.alloc hB.size _).size _).size _).size _).alloc ((((hB.alloc hB.size _).alloc (hB.alloc hB.size _).size _).alloc ((hB.alloc hB.size _).alloc (hB.alloc hB.size _).size _).size _).alloc (((hB.alloc hB.size _).alloc (hB.alloc hB.size _).size _).alloc ((hB.alloc hB.size _).alloc (hB.alloc hB.size _).size _).size _).size _).size _) hb12)
          have zw12 := hB.size
          replace c0_0 : w12.cell? ⟨w1.heap.size, 0, none⟩ = some (.int .i64 kv1) := bcell hb12 (bcell bal1 (bcell bal1 (bcell bal1 (bcell bal1 (bcell bal1 (c0_0))))))
          replace c0_1 : w12.cell? ⟨w1.heap.size, 1, none⟩ = some (.slice av1 nv1 qv1) := bcell hb12 (bcell bal1 (bcell bal1 (bcell bal1 (bcell bal1 (bcell bal1 (c0_1))))))
          have c13_0 : w12.cell? ⟨w9.heap.size + 1 + 1 + 1 + 1, 0, none⟩ = some (.int .i64 4) := bcell hb12 (cell_new (by simp) 0)
          have c13_1 : w12.cell? ⟨w9.heap.size + 1 + 1 + 1 + 1, 1, none⟩ = some (.slice (some ⟨w9.heap.size + 1 + 1 + 1, 0, none⟩) 2 2) := bcell hb12 (cell_new (by simp) 1)
          have c12_0 : w12.cell? ⟨w9.heap.size + 1 + 1 + 1, 0, none⟩ = some (.int .i64 1) := bcell hb12 (bcell bal1 (cell_new (by simp) 0))
          have c12_1 : w12.cell? ⟨w9.heap.size + 1 + 1 + 1, 1, none⟩ = some (.slice none 0 0) := bcell hb12 (bcell bal1 (cell_new (by simp) 1))
          have c12_2 : w12.cell? ⟨w9.heap.size + 1 + 1 + 1, 2, none⟩ = some (.int .i64 1) := bcell hb12 (bcell bal1 (cell_new (by simp) 2))
          have c12_3 : w12.cell? ⟨w9.heap.size + 1 + 1 + 1, 3, none⟩ = some (.slice none 0 0) := bcell hb12 (bcell bal1 (cell_new (by simp) 3))
          replace hv1 := (hv1.below (bstep (bstep bal4 bal1) hb12))
          have d0_w12 := World.block_lt_of_cell? _ _ c0_0
          have d13_w12 := World.block_lt_of_cell? _ _ c13_0
          have d12_w12 := World.block_lt_of_cell? _ _ c12_0
          go_wp2_with fail
          refine (implConsistentB _ _ t1 (Ty.mk 4 [Ty.mk 1 [], Ty.mk 1 []]) _ _ _ hv1.all (TyRep.two_mk trivial (by omega) (by unfold maxLen; omega) (c12_0) (c12_1) (c12_2) (c12_3) (TyRep.leaf 1) (TyRep.leaf 1))).mono ?_
          rintro e w13 ⟨rfl, hb13⟩
          replace hB := (bstep hB hb13)
          have zw13 := hB.size
          go_wp2_with fail
          have hE := leaf_FnMatchTypes_1 Hq2.out Hq3.out Hq4.out
          refine bodyPost_ret (v := .bool (!(consB t1 (Ty.mk 4 [Ty.mk 1 [], Ty.mk 1 []])))) (by simp [results, Try.results22, go_sem]) rfl ?_
          exact ⟨by rw [hE], hB⟩
      · have Hq3 := Lib.hid q3
        clear q3
        go_wp2_with fail
        refine (implConsistentB _ _ t1 (Ty.mk 5 [Ty.mk 1 [], Ty.mk 1 []]) _ _ _ (hv1.below (bstep bal4 bal1)).all (TyRep.two_mk trivial (by omega) (by unfold maxLen; omega) (bcell bal1 (bcell bal1 (bcell bal1 (cell_new (by simp) 0)))) (bcell bal1 (bcell bal1 (bcell bal1 (cell_new (by simp) 1)))) (bcell bal1 (bcell bal1 (bcell bal1 (cell_new (by simp) 2)))) (bcell bal1 (bcell bal1 (bcell bal1 (cell_new (by simp) 3)))) (TyRep.leaf 1) (TyRep.leaf 1))).mono ?_
        rintro e w14 ⟨rfl, hb14⟩
        rw [Hq3.out]
        replace hB := (bstep (((((hB.alloc hB.size _).alloc (hB.alloc hB.size _).size _).alloc ((hB.alloc hB.size _).alloc (hB.alloc hB.size _).size _).size _).alloc (((hB.alloc hB.size _).alloc (hB.alloc hB.size _).size _).alloc ((hB.alloc hB.size _).alloc (hB.alloc hB.size _).size _).size _).size _).alloc ((((hB.alloc hB.size _).alloc (hB.alloc hB.size _).size _).alloc ((hB.alloc hB.size _).alloc (hB.alloc hB.size _).size _).size _).alloc (((hB.alloc hB.size _).alloc (hB.alloc hB.size _).size _).alloc ((hB.alloc hB.size _).alloc (hB.alloc hB.size _).size _).size _).size _).size _) hb14)
        have zw14 := hB.size
        go_wp2_with fail
        exact (leaf_FnMatchTypes_2 Hq2.out Hq3.out).elim
    · (try rw [q2])
      have Hq2 := Lib.hid q2
      clear q2
      rcases Bool.eq_false_or_eq_true (consB t1 (Ty.mk 5 [Ty.mk 1 [], Ty.mk 1 []])) with q5 | q5
      · have Hq5 := Lib.hid q5
        clear q5
        go_wp2_with fail
        refine (implConsistentB _ _ t1 (Ty.mk 5 [Ty.mk 1 [], Ty.mk 1 []]) _ _ _ (hv1.below (bstep bal4 bal1)).all (TyRep.two_mk trivial (by omega) (by unfold maxLen; omega) (bcell bal1 (bcell bal1 (bcell bal1 (cell_new (by simp) 0)))) (bcell bal1 (bcell bal1 (bcell bal1 (cell_new (by simp) 1)))) (bcell bal1 (bcell bal1 (bcell bal1 (cell_new (by simp) 2)))) (bcell bal1 (bcell bal1 (bcell bal1 (cell_new (by simp) 3)))) (TyRep.leaf 1) (TyRep.leaf 1))).mono ?_
        rintro e w15 ⟨rfl, hb15⟩
        rw [Hq5.out]
        replace hB := (bstep (((((hB.alloc hB.size _).alloc (hB.alloc hB.size _).size _).alloc ((hB.alloc hB.size _).alloc (hB.alloc hB.size _).size _).size _).alloc (((hB.alloc hB.size _).alloc (hB.alloc hB.size _).size _).alloc ((hB.alloc hB.size _).alloc (hB.alloc hB.size _).size _).size _).size _).alloc ((((hB.alloc hB.size _).alloc (hB.alloc hB.size _).size _).alloc ((hB.alloc hB.size _).alloc (hB.alloc hB.size _).size _).size _).alloc (((hB.alloc hB.size _).alloc (hB.alloc hB.size _).size _).alloc ((hB.alloc hB.size _).alloc (hB.alloc hB.size _).size _).size _).size _).size _) hb15)
        have zw15 := hB.size
        go_wp2_with fail
        exact (leaf_FnMatchTypes_3 Hq2.out Hq5.out).elim
      · have Hq5 := Lib.hid q5
        clear q5
        rcases Bool.eq_false_or_eq_true (matB 4 t1) with q6 | q6
        · (try rw [q6])
          have Hq6 := Lib.hid q6
          clear q6
          go_wp2_with fail
          refine (implConsistentB _ _ t1 (Ty.mk 5 [Ty.mk 1 [], Ty.mk 1 []]) _ _ _ (hv1.below (bstep bal4 bal1)).all (TyRep.two_mk trivial (by omega) (by unfold maxLen; omega) (bcell bal1 (bcell bal1 (bcell bal1 (cell_new (by simp) 0)))) (bcell bal1 (bcell bal1 (bcell bal1 (cell_new (by simp) 1)))) (bcell bal1 (bcell bal1 (bcell bal1 (cell_new (by simp) 2)))) (bcell bal1 (bcell bal1 (bcell bal1 (cell_new (by simp) 3)))) (TyRep.leaf 1) (TyRep.leaf 1))).mono ?_
          rintro e w16 ⟨rfl, hb16⟩
          rw [Hq5.out]
          replace hB := (bstep (((((hB.alloc hB.size _).alloc (hB.alloc hB.size _).size _).alloc ((hB.alloc hB.size _).alloc (hB.alloc hB.size _).size _).size _).alloc (((hB.alloc hB.size _).alloc (hB.alloc hB.size _).size _).alloc ((hB.alloc hB.size _).alloc (hB.alloc hB.size _).size _).size _).size _).alloc ((((hB.alloc hB.size _).alloc (hB.alloc hB.size _).size _).alloc ((hB.alloc hB.size _).alloc (hB.alloc hB.size _).size _).size _).alloc (((hB.alloc hB.size _).alloc (hB.alloc hB.size _).size _).alloc ((hB.alloc hB.size _).alloc (hB.alloc hB.size _).size _).size _).size _).size _) hb16)
          have zw16 := hB.size
          replace c0_0 : w16.cell? ⟨w1.heap.size, 0, none⟩ = some (.int .i64 kv1) := bcell hb16 (bcell bal1 (bcell bal1 (bcell bal1 (bcell bal1 (bcell bal1 (c0_0))))))
          replace c0_1 : w16.cell? ⟨w1.heap.size, 1, none⟩ = some (.slice av1 nv1 qv1) := bcell hb16 (bcell bal1 (bcell bal1 (bcell bal1 (bcell bal1 (bcell bal1 (c0_1))))))
          have c13_0 : w16.cell? ⟨w9.heap.size + 1 + 1 + 1 + 1, 0, none⟩ = some (.int .i64 4) := bcell hb16 (cell_new (by simp) 0)
          have c13_1 : w16.cell? ⟨w9.heap.size + 1 + 1 + 1 + 1, 1, none⟩ = some (.slice (some ⟨w9.heap.size + 1 + 1 + 1, 0, none⟩) 2 2) := bcell hb16 (cell_new (by simp) 1)
          have c12_0 : w16.cell? ⟨w9.heap.size + 1 + 1 + 1, 0, none⟩ = some (.int .i64 1) := bcell hb16 (bcell bal1 (cell_new (by simp) 0))
          have c12_1 : w16.cell? ⟨w9.heap.size + 1 + 1 + 1, 1, none⟩ = some (.slice none 0 0) := bcell hb16 (bcell bal1 (cell_new (by simp) 1))
          have c12_2 : w16.cell? ⟨w9.heap.size + 1 + 1 + 1, 2, none⟩ = some (.int .i64 1) := bcell hb16 (bcell bal1 (cell_new (by simp) 2))
          have c12_3 : w16.cell? ⟨w9.heap.size + 1 + 1 + 1, 3, none⟩ = some (.slice none 0 0) := bcell hb16 (bcell bal1 (cell_new (by simp) 3))
          replace hv1 := (hv1.below (bstep (bstep bal4 bal1) hb16))
          have d0_w16 := World.block_lt_of_cell? _ _ c0_0
          have d13_w16 := World.block_lt_of_cell? _ _ c13_0
          have d12_w16 := World.block_lt_of_cell? _ _ c12_0
          go_wp2_with fail
          refine (implConsistentB _ _ t1 (Ty.mk 4 [Ty.mk 1 [], Ty.mk 1 []]) _ _ _ hv1.all (TyRep.two_mk trivial (by omega) (by unfold maxLen; omega) (c12_0) (c12_1) (c12_2) (c12_3) (TyRep.leaf 1) (TyRep.leaf 1))).mono ?_
          rintro e w17 ⟨rfl, hb17⟩
          replace hB := (bstep hB hb17)
          have zw17 := hB.size
          go_wp2_with fail
          have hE := leaf_FnMatchTypes_4 Hq2.out Hq5.out Hq6.out
          refine bodyPost_ret (v := .bool (consB t1 (Ty.mk 4 [Ty.mk 1 [], Ty.mk 1 []]))) (by simp [results, Try.results22, go_sem]) rfl ?_
          exact ⟨by rw [hE], hB⟩
        · (try rw [q6])
          have Hq6 := Lib.hid q6
          clear q6
          go_wp2_with fail
          refine (implConsistentB _ _ t1 (Ty.mk 5 [Ty.mk 1 [], Ty.mk 1 []]) _ _ _ (hv1.below (bstep bal4 bal1)).all (TyRep.two_mk trivial (by omega) (by unfold maxLen; omega) (bcell bal1 (bcell bal1 (bcell bal1 (cell_new (by simp) 0)))) (bcell bal1 (bcell bal1 (bcell bal1 (cell_new (by simp) 1)))) (bcell bal1 (bcell bal1 (bcell bal1 (cell_new (by simp) 2)))) (bcell bal1 (bcell bal1 (bcell bal1 (cell_new (by simp) 3)))) (TyRep.leaf 1) (TyRep.leaf 1))).mono ?_
          rintro e w18 ⟨rfl, hb18⟩
          rw [Hq5.out]
          replace hB := (bstep (((((hB.alloc hB.size _).alloc (hB.alloc hB.size _).size _).alloc ((hB.alloc hB.size _).alloc (hB.alloc hB.size _).size _).size _).alloc (((hB.alloc hB.size _).alloc (hB.alloc hB.size _).size _).alloc ((hB.alloc hB.size _).alloc (hB.alloc hB.size _).size _).size _).size _).alloc ((((hB.alloc hB.size _).alloc (hB.alloc hB.size _).size _).alloc ((hB.alloc hB.size _).alloc (hB.alloc hB.size _).size _).size _).alloc (((hB.alloc hB.size _).alloc (hB.alloc hB.size _).size _).alloc ((hB.alloc hB.size _).alloc (hB.alloc hB.size _).size _).size _).size _).size _) hb18)
          have zw18 := hB.size
          replace c0_0 : w18.cell? ⟨w1.heap.size, 0, none⟩ = some (.int .i64 kv1) := bcell hb18 (bcell bal1 (bcell bal1 (bcell bal1 (bcell bal1 (bcell bal1 (c0_0))))))
          replace c0_1 : w18.cell? ⟨w1.heap.size, 1, none⟩ = some (.slice av1 nv1 qv1) := bcell hb18 (bcell bal1 (bcell bal1 (bcell bal1 (bcell bal1 (bcell bal1 (c0_1))))))
          have c13_0 : w18.cell? ⟨w9.heap.size + 1 + 1 + 1 + 1, 0, none⟩ = some (.int .i64 4) := bcell hb18 (cell_new (by simp) 0)
          have c13_1 : w18.cell? ⟨w9.heap.size + 1 + 1 + 1 + 1, 1, none⟩ = some (.slice (some ⟨w9.heap.size + 1 + 1 + 1, 0, none⟩) 2 2) := bcell hb18 (cell_new (by simp) 1)
          have c12_0 : w18.cell? ⟨w9.heap.size + 1 + 1 + 1, 0, none⟩ = some (.int .i64 1) := bcell hb18 (bcell bal1 (cell_new (by simp) 0))
          have c12_1 : w18.cell? ⟨w9.heap.size + 1 + 1 + 1, 1, none⟩ = some (.slice none 0 0) := bcell hb18 (bcell bal1 (cell_new (by simp) 1))
          have c12_2 : w18.cell? ⟨w9.heap.size + 1 + 1 + 1, 2, none⟩ = some (.int .i64 1) := bcell hb18 (bcell bal1 (cell_new (by simp) 2))
          have c12_3 : w18.cell? ⟨w9.heap.size + 1 + 1 + 1, 3, none⟩ = some (.slice none 0 0) := bcell hb18 (bcell bal1 (cell_new (by simp) 3))
          replace hv1 := (hv1.below (bstep (bstep bal4 bal1) hb18))
          have d0_w18 := World.block_lt_of_cell? _ _ c0_0
          have d13_w18 := World.block_lt_of_cell? _ _ c13_0
          have d12_w18 := World.block_lt_of_cell? _ _ c12_0
          go_wp2_with fail
          refine (implConsistentB _ _ t1 (Ty.mk 4 [Ty.mk 1 [], Ty.mk 1 []]) _ _ _ hv1.all (TyRep.two_mk trivial (by omega) (by unfold maxLen; omega) (c12_0) (c12_1) (c12_2) (c12_3) (TyRep.leaf 1) (TyRep.leaf 1))).mono ?_
          rintro e w19 ⟨rfl, hb19⟩
          replace hB := (bstep hB hb19)
          have zw19 := hB.size
          go_wp2_with fail
          have hE := leaf_FnMatchTypes_5 Hq2.out Hq5.out Hq6.out
          refine bodyPost_ret (v := .bool (!(consB t1 (Ty.mk 4 [Ty.mk 1 [], Ty.mk 1 []])))) (by simp [results, Try.results22, go_sem]) rfl ?_
          exact ⟨by rw [hE], hB⟩
end Go.Proofs.Ytjkkahlcbhcifaa
