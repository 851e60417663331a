/-
  FnJoinTypes returns true: the walk.
-/
import Derived.Test.YtjkkahlcbhcifaaFn
import Derived.Test.YtjkkahlcbhcifaaDraws
import Derived.Test.YtjkkahlcbhcifaaDrawCh
namespace Go.Proofs.Ytjkkahlcbhcifaa
open Go.RowKit
set_option linter.unusedVariables false
set_option linter.unusedSimpArgs false
set_option maxRecDepth 100000

theorem leaf_FnJoinTypes_0 {s5 t1 u1 : Ty} (h0 : (joinB t1 u1) = true) (h1 : (precB t1 s5) = true) (h2 : (precB t1 (joinT t1 u1)) = true) (h3 : (precB u1 (joinT t1 u1)) = true) (h4 : (precB u1 s5) = true) (h5 : (precB (joinT t1 u1) s5) = true) (h6 : (joinB u1 t1) = true) : (Ty.same (joinT t1 u1) (joinT u1 t1)) = true := by
  have l := law_FnJoinTypes t1 u1 s5
  first | (simp_all; done) | grind

theorem leaf_FnJoinTypes_1 {s5 t1 u1 : Ty} (h0 : (joinB t1 u1) = true) (h1 : (precB t1 s5) = true) (h2 : (precB t1 (joinT t1 u1)) = true) (h3 : (precB u1 (joinT t1 u1)) = true) (h4 : (precB u1 s5) = true) (h5 : (precB (joinT t1 u1) s5) = true) (h6 : (joinB u1 t1) = false) : False := by
  have l := law_FnJoinTypes t1 u1 s5
  first | (simp_all; done) | grind

theorem leaf_FnJoinTypes_2 {s5 t1 u1 : Ty} (h0 : (joinB t1 u1) = true) (h1 : (precB t1 s5) = true) (h2 : (precB t1 (joinT t1 u1)) = true) (h3 : (precB u1 (joinT t1 u1)) = true) (h4 : (precB u1 s5) = true) (h5 : (precB (joinT t1 u1) s5) = false) : False := by
  have l := law_FnJoinTypes t1 u1 s5
  first | (simp_all; done) | grind

theorem leaf_FnJoinTypes_3 {s5 t1 u1 : Ty} (h0 : (joinB t1 u1) = true) (h1 : (precB t1 s5) = true) (h2 : (precB t1 (joinT t1 u1)) = true) (h3 : (precB u1 (joinT t1 u1)) = true) (h4 : (precB u1 s5) = false) (h5 : (joinB u1 t1) = true) : (Ty.same (joinT t1 u1) (joinT u1 t1)) = true := by
  have l := law_FnJoinTypes t1 u1 s5
  first | (simp_all; done) | grind

theorem leaf_FnJoinTypes_4 {s5 t1 u1 : Ty} (h0 : (joinB t1 u1) = true) (h1 : (precB t1 s5) = true) (h2 : (precB t1 (joinT t1 u1)) = true) (h3 : (precB u1 (joinT t1 u1)) = true) (h4 : (precB u1 s5) = false) (h5 : (joinB u1 t1) = false) : False := by
  have l := law_FnJoinTypes t1 u1 s5
  first | (simp_all; done) | grind

theorem leaf_FnJoinTypes_5 {s5 t1 u1 : Ty} (h0 : (joinB t1 u1) = true) (h1 : (precB t1 s5) = true) (h2 : (precB t1 (joinT t1 u1)) = true) (h3 : (precB u1 (joinT t1 u1)) = false) : False := by
  have l := law_FnJoinTypes t1 u1 s5
  first | (simp_all; done) | grind

theorem leaf_FnJoinTypes_6 {s5 t1 u1 : Ty} (h0 : (joinB t1 u1) = true) (h1 : (precB t1 s5) = true) (h2 : (precB t1 (joinT t1 u1)) = false) : False := by
  have l := law_FnJoinTypes t1 u1 s5
  first | (simp_all; done) | grind

theorem leaf_FnJoinTypes_7 {s5 t1 u1 : Ty} (h0 : (joinB t1 u1) = true) (h1 : (precB t1 s5) = false) (h2 : (precB t1 (joinT t1 u1)) = true) (h3 : (precB u1 (joinT t1 u1)) = true) (h4 : (joinB u1 t1) = true) : (Ty.same (joinT t1 u1) (joinT u1 t1)) = true := by
  have l := law_FnJoinTypes t1 u1 s5
  first | (simp_all; done) | grind

theorem leaf_FnJoinTypes_8 {s5 t1 u1 : Ty} (h0 : (joinB t1 u1) = true) (h1 : (precB t1 s5) = false) (h2 : (precB t1 (joinT t1 u1)) = true) (h3 : (precB u1 (joinT t1 u1)) = true) (h4 : (joinB u1 t1) = false) : False := by
  have l := law_FnJoinTypes t1 u1 s5
  first | (simp_all; done) | grind

theorem leaf_FnJoinTypes_9 {s5 t1 u1 : Ty} (h0 : (joinB t1 u1) = true) (h1 : (precB t1 s5) = false) (h2 : (precB t1 (joinT t1 u1)) = true) (h3 : (precB u1 (joinT t1 u1)) = false) : False := by
  have l := law_FnJoinTypes t1 u1 s5
  first | (simp_all; done) | grind

theorem leaf_FnJoinTypes_10 {s5 t1 u1 : Ty} (h0 : (joinB t1 u1) = true) (h1 : (precB t1 s5) = false) (h2 : (precB t1 (joinT t1 u1)) = false) : False := by
  have l := law_FnJoinTypes t1 u1 s5
  first | (simp_all; done) | grind
set_option maxHeartbeats 8000000 in
theorem walk_FnJoinTypes (y0 y1 : Value) (w : World) (r0 : ByRep w w.heap.size y0) (r1 : ByRep w w.heap.size y1) :
    Calls Try.prog 26 #[y0, y1] w fun e w' => e = .returned (.bool true) ∧ Below w.heap.size w w' := by
  obtain ⟨a0, n0, q0, rfl⟩ := r0.shape
  obtain ⟨a1, n1, q1, rfl⟩ := r1.shape
  go_enter Try.func26, Try.ntmps26
  rcases Bool.eq_false_or_eq_true (decide ((n0 : Int) > 1048576)) with q1 | q1
  · skip
    go_wp2_with fail
    refine bodyPost_ret (v := .bool true) (by simp [results, Try.results26, go_sem]) rfl ?_
    exact ⟨rfl, (Below.refl _ _)⟩
  · skip
    rcases Bool.eq_false_or_eq_true (decide ((n1 : Int) > 1048576)) with q2 | q2
    · (try rw [q2])
      go_wp2_with fail
      refine bodyPost_ret (v := .bool true) (by simp [results, Try.results26, go_sem]) rfl ?_
      exact ⟨rfl, (Below.refl _ _)⟩
    · (try rw [q2])
      go_wp2_with fail
      refine (specDrawJoinTypes _ _ _ (r0.below (Below.refl _ _)) (by first | omega | (simp; done) | (simp; omega))).mono ?_
      rintro e w1 ⟨t1, u1, v1, x1, rfl, hv1, hx1, hb1⟩
      obtain ⟨kv1, av1, nv1, qv1, rfl⟩ := hv1.shape
      obtain ⟨kx1, ax1, nx1, qx1, rfl⟩ := hx1.shape
      have hB := (bstep (Below.refl _ _) hb1)
      have zw1 := hB.size
      go_wp2_with fail
      refine (implJoinTypes _ _ t1 u1 _ _ _ (hv1.below bal2).all (hx1.below bal2).all).mono ?_
      rintro e w2 ⟨v2, rfl, hv2, hb2⟩
      obtain ⟨kr2, ar2, nr2, qr2, rfl⟩ := hv2.shape
      replace hB := (bstep ((hB.alloc hB.size _).alloc (hB.alloc hB.size _).size _) hb2)
      have zw2 := hB.size
      have c0_0 : w2.cell? ⟨w1.heap.size, 0, none⟩ = some (.int .i64 kv1) := bcell hb2 (bcell bal1 (cell_new (by simp) 0))
      have c0_1 : w2.cell? ⟨w1.heap.size, 1, none⟩ = some (.slice av1 nv1 qv1) := bcell hb2 (bcell bal1 (cell_new (by simp) 1))
      have c1_0 : w2.cell? ⟨w1.heap.size + 1, 0, none⟩ = some (.int .i64 kx1) := bcell hb2 (cell_new (by simp) 0)
      have c1_1 : w2.cell? ⟨w1.heap.size + 1, 1, none⟩ = some (.slice ax1 nx1 qx1) := bcell hb2 (cell_new (by simp) 1)
      replace hv1 := (hv1.below (bstep bal2 hb2))
      replace hx1 := (hx1.below (bstep bal2 hb2))
      have d0_w2 := World.block_lt_of_cell? _ _ c0_0
      have d1_w2 := World.block_lt_of_cell? _ _ c1_0
      go_wp2_with fail
      refine (specJoinTypes _ _ t1 u1 _ _ _ (hv1.below bal1).all (hx1.below bal1).all).mono ?_
      rintro e w3 ⟨v3, rfl, hv3, hb3⟩
      obtain ⟨kr3, ar3, nr3, qr3, rfl⟩ := hv3.shape
      replace hB := (bstep (hB.alloc hB.size _) hb3)
      have zw3 := hB.size
      have c2_0 : w3.cell? ⟨w2.heap.size, 0, none⟩ = some (.int .i64 kr2) := bcell hb3 (cell_new (by simp) 0)
      have c2_1 : w3.cell? ⟨w2.heap.size, 1, none⟩ = some (.slice ar2 nr2 qr2) := bcell hb3 (cell_new (by simp) 1)
      replace c0_0 : w3.cell? ⟨w1.heap.size, 0, none⟩ = some (.int .i64 kv1) := bcell hb3 (bcell bal1 (c0_0))
      replace c0_1 : w3.cell? ⟨w1.heap.size, 1, none⟩ = some (.slice av1 nv1 qv1) := bcell hb3 (bcell bal1 (c0_1))
      replace c1_0 : w3.cell? ⟨w1.heap.size + 1, 0, none⟩ = some (.int .i64 kx1) := bcell hb3 (bcell bal1 (c1_0))
      replace c1_1 : w3.cell? ⟨w1.heap.size + 1, 1, none⟩ = some (.slice ax1 nx1 qx1) := bcell hb3 (bcell bal1 (c1_1))
      replace hv2 := (hv2.below (bstep bal1 hb3))
      replace hv1 := (hv1.below (bstep bal1 hb3))
      replace hx1 := (hx1.below (bstep bal1 hb3))
      have d2_w3 := World.block_lt_of_cell? _ _ c2_0
      have d0_w3 := World.block_lt_of_cell? _ _ c0_0
      have d1_w3 := World.block_lt_of_cell? _ _ c1_0
      go_wp2_with fail
      refine (implTypeSameSelf _ _ (joinT t1 u1) _ _ _ (hv2.below bal1).rep.all (hv3.below bal1).rep.all).mono ?_
      rintro e w4 ⟨rfl, hb4⟩
      replace hB := (bstep (hB.alloc hB.size _) hb4)
      have zw4 := hB.size
      replace c0_0 : w4.cell? ⟨w1.heap.size, 0, none⟩ = some (.int .i64 kv1) := bcell hb4 (bcell bal1 (c0_0))
      replace c0_1 : w4.cell? ⟨w1.heap.size, 1, none⟩ = some (.slice av1 nv1 qv1) := bcell hb4 (bcell bal1 (c0_1))
      replace c1_0 : w4.cell? ⟨w1.heap.size + 1, 0, none⟩ = some (.int .i64 kx1) := bcell hb4 (bcell bal1 (c1_0))
      replace c1_1 : w4.cell? ⟨w1.heap.size + 1, 1, none⟩ = some (.slice ax1 nx1 qx1) := bcell hb4 (bcell bal1 (c1_1))
      replace c2_0 : w4.cell? ⟨w2.heap.size, 0, none⟩ = some (.int .i64 kr2) := bcell hb4 (bcell bal1 (c2_0))
      replace c2_1 : w4.cell? ⟨w2.heap.size, 1, none⟩ = some (.slice ar2 nr2 qr2) := bcell hb4 (bcell bal1 (c2_1))
      have c3_0 : w4.cell? ⟨w3.heap.size, 0, none⟩ = some (.int .i64 kr3) := bcell hb4 (cell_new (by simp) 0)
      have c3_1 : w4.cell? ⟨w3.heap.size, 1, none⟩ = some (.slice ar3 nr3 qr3) := bcell hb4 (cell_new (by simp) 1)
      replace hv1 := (hv1.below (bstep bal1 hb4))
      replace hx1 := (hx1.below (bstep bal1 hb4))
      replace hv2 := (hv2.below (bstep bal1 hb4))
      replace hv3 := (hv3.below (bstep bal1 hb4))
      have d0_w4 := World.block_lt_of_cell? _ _ c0_0
      have d1_w4 := World.block_lt_of_cell? _ _ c1_0
      have d2_w4 := World.block_lt_of_cell? _ _ c2_0
      have d3_w4 := World.block_lt_of_cell? _ _ c3_0
      rcases Bool.eq_false_or_eq_true (joinB t1 u1) with q3 | q3
      · (try rw [q3])
        have Hq3 := Lib.hid q3
        clear q3
        go_wp2_with fail
        refine (specDrawChain _ _ _ (r1.below hB) (by first | omega | (simp; done) | (simp; omega))).mono ?_
        rintro e w5 ⟨t5, u5, s5, v5, x5, y5, rfl, hv5, hx5, hy5, hb5⟩
        obtain ⟨kv5, av5, nv5, qv5, rfl⟩ := hv5.shape
        obtain ⟨kx5, ax5, nx5, qx5, rfl⟩ := hx5.shape
        obtain ⟨ky5, ay5, ny5, qy5, rfl⟩ := hy5.shape
        replace hB := (bstep hB hb5)
        have zw5 := hB.size
        replace c0_0 : w5.cell? ⟨w1.heap.size, 0, none⟩ = some (.int .i64 kv1) := bcell hb5 (c0_0)
        replace c0_1 : w5.cell? ⟨w1.heap.size, 1, none⟩ = some (.slice av1 nv1 qv1) := bcell hb5 (c0_1)
        replace c1_0 : w5.cell? ⟨w1.heap.size + 1, 0, none⟩ = some (.int .i64 kx1) := bcell hb5 (c1_0)
        replace c1_1 : w5.cell? ⟨w1.heap.size + 1, 1, none⟩ = some (.slice ax1 nx1 qx1) := bcell hb5 (c1_1)
        replace c2_0 : w5.cell? ⟨w2.heap.size, 0, none⟩ = some (.int .i64 kr2) := bcell hb5 (c2_0)
        replace c2_1 : w5.cell? ⟨w2.heap.size, 1, none⟩ = some (.slice ar2 nr2 qr2) := bcell hb5 (c2_1)
        replace hv1 := (hv1.below hb5)
        replace hx1 := (hx1.below hb5)
        replace hv2 := (hv2.below hb5)
        have d0_w5 := World.block_lt_of_cell? _ _ c0_0
        have d0_w5_1 : w1.heap.size < w5.heap.size + 1 := Nat.lt_succ_of_lt d0_w5
        have d0_w5_2 : w1.heap.size < w5.heap.size + 1 + 1 := Nat.lt_succ_of_lt d0_w5_1
        have d1_w5 := World.block_lt_of_cell? _ _ c1_0
        have d1_w5_1 : w1.heap.size + 1 < w5.heap.size + 1 := Nat.lt_succ_of_lt d1_w5
        have d1_w5_2 : w1.heap.size + 1 < w5.heap.size + 1 + 1 := Nat.lt_succ_of_lt d1_w5_1
        have d2_w5 := World.block_lt_of_cell? _ _ c2_0
        have d2_w5_1 : w2.heap.size < w5.heap.size + 1 := Nat.lt_succ_of_lt d2_w5
        have d2_w5_2 : w2.heap.size < w5.heap.size + 1 + 1 := Nat.lt_succ_of_lt d2_w5_1
        rcases Bool.eq_false_or_eq_true (precB t1 s5) with q4 | q4
        · have Hq4 := Lib.hid q4
          clear q4
          go_wp2_with fail
          refine (implPreciseB _ _ t1 s5 _ _ _ (hv1.below bal3).all (hy5.below bal3).all).mono ?_
          rintro e w6 ⟨rfl, hb6⟩
          rw [Hq4.out]
          replace hB := (bstep (((hB.alloc hB.size _).alloc (hB.alloc hB.size _).size _).alloc ((hB.alloc hB.size _).alloc (hB.alloc hB.size _).size _).size _) hb6)
          have zw6 := hB.size
          replace c1_0 : w6.cell? ⟨w1.heap.size + 1, 0, none⟩ = some (.int .i64 kx1) := bcell hb6 (bcell bal1 (bcell bal1 (bcell bal1 (c1_0))))
          replace c1_1 : w6.cell? ⟨w1.heap.size + 1, 1, none⟩ = some (.slice ax1 nx1 qx1) := bcell hb6 (bcell bal1 (bcell bal1 (bcell bal1 (c1_1))))
          have c6_0 : w6.cell? ⟨w5.heap.size + 1 + 1, 0, none⟩ = some (.int .i64 ky5) := bcell hb6 (cell_new (by simp) 0)
          have c6_1 : w6.cell? ⟨w5.heap.size + 1 + 1, 1, none⟩ = some (.slice ay5 ny5 qy5) := bcell hb6 (cell_new (by simp) 1)
          replace c0_0 : w6.cell? ⟨w1.heap.size, 0, none⟩ = some (.int .i64 kv1) := bcell hb6 (bcell bal1 (bcell bal1 (bcell bal1 (c0_0))))
          replace c0_1 : w6.cell? ⟨w1.heap.size, 1, none⟩ = some (.slice av1 nv1 qv1) := bcell hb6 (bcell bal1 (bcell bal1 (bcell bal1 (c0_1))))
          replace c2_0 : w6.cell? ⟨w2.heap.size, 0, none⟩ = some (.int .i64 kr2) := bcell hb6 (bcell bal1 (bcell bal1 (bcell bal1 (c2_0))))
          replace c2_1 : w6.cell? ⟨w2.heap.size, 1, none⟩ = some (.slice ar2 nr2 qr2) := bcell hb6 (bcell bal1 (bcell bal1 (bcell bal1 (c2_1))))
          replace hx1 := (hx1.below (bstep bal3 hb6))
          replace hy5 := (hy5.below (bstep bal3 hb6))
          replace hv1 := (hv1.below (bstep bal3 hb6))
          replace hv2 := (hv2.below (bstep bal3 hb6))
          have d1_w6 := World.block_lt_of_cell? _ _ c1_0
          have d6_w6 := World.block_lt_of_cell? _ _ c6_0
          have d0_w6 := World.block_lt_of_cell? _ _ c0_0
          have d2_w6 := World.block_lt_of_cell? _ _ c2_0
          go_wp2_with fail
          refine (implPreciseB _ _ u1 s5 _ _ _ hx1.all hy5.all).mono ?_
          rintro e w7 ⟨rfl, hb7⟩
          replace hB := (bstep hB hb7)
          have zw7 := hB.size
          replace c1_0 : w7.cell? ⟨w1.heap.size + 1, 0, none⟩ = some (.int .i64 kx1) := bcell hb7 (c1_0)
          replace c1_1 : w7.cell? ⟨w1.heap.size + 1, 1, none⟩ = some (.slice ax1 nx1 qx1) := bcell hb7 (c1_1)
          replace c0_0 : w7.cell? ⟨w1.heap.size, 0, none⟩ = some (.int .i64 kv1) := bcell hb7 (c0_0)
          replace c0_1 : w7.cell? ⟨w1.heap.size, 1, none⟩ = some (.slice av1 nv1 qv1) := bcell hb7 (c0_1)
          replace c2_0 : w7.cell? ⟨w2.heap.size, 0, none⟩ = some (.int .i64 kr2) := bcell hb7 (c2_0)
          replace c2_1 : w7.cell? ⟨w2.heap.size, 1, none⟩ = some (.slice ar2 nr2 qr2) := bcell hb7 (c2_1)
          replace c6_0 : w7.cell? ⟨w5.heap.size + 1 + 1, 0, none⟩ = some (.int .i64 ky5) := bcell hb7 (c6_0)
          replace c6_1 : w7.cell? ⟨w5.heap.size + 1 + 1, 1, none⟩ = some (.slice ay5 ny5 qy5) := bcell hb7 (c6_1)
          replace hx1 := (hx1.below hb7)
          replace hv1 := (hv1.below hb7)
          replace hv2 := (hv2.below hb7)
          replace hy5 := (hy5.below hb7)
          have d1_w7 := World.block_lt_of_cell? _ _ c1_0
          have d0_w7 := World.block_lt_of_cell? _ _ c0_0
          have d2_w7 := World.block_lt_of_cell? _ _ c2_0
          have d6_w7 := World.block_lt_of_cell? _ _ c6_0
          go_wp2_with fail
          refine (implJoinTypes _ _ u1 t1 _ _ _ hx1.all hv1.all).mono ?_
          rintro e w8 ⟨v8, rfl, hv8, hb8⟩
          obtain ⟨kr8, ar8, nr8, qr8, rfl⟩ := hv8.shape
          replace hB := (bstep hB hb8)
          have zw8 := hB.size
          replace c0_0 : w8.cell? ⟨w1.heap.size, 0, none⟩ = some (.int .i64 kv1) := bcell hb8 (c0_0)
          replace c0_1 : w8.cell? ⟨w1.heap.size, 1, none⟩ = some (.slice av1 nv1 qv1) := bcell hb8 (c0_1)
          replace c2_0 : w8.cell? ⟨w2.heap.size, 0, none⟩ = some (.int .i64 kr2) := bcell hb8 (c2_0)
          replace c2_1 : w8.cell? ⟨w2.heap.size, 1, none⟩ = some (.slice ar2 nr2 qr2) := bcell hb8 (c2_1)
          replace c1_0 : w8.cell? ⟨w1.heap.size + 1, 0, none⟩ = some (.int .i64 kx1) := bcell hb8 (c1_0)
          replace c1_1 : w8.cell? ⟨w1.heap.size + 1, 1, none⟩ = some (.slice ax1 nx1 qx1) := bcell hb8 (c1_1)
          replace c6_0 : w8.cell? ⟨w5.heap.size + 1 + 1, 0, none⟩ = some (.int .i64 ky5) := bcell hb8 (c6_0)
          replace c6_1 : w8.cell? ⟨w5.heap.size + 1 + 1, 1, none⟩ = some (.slice ay5 ny5 qy5) := bcell hb8 (c6_1)
          replace hv1 := (hv1.below hb8)
          replace hv2 := (hv2.below hb8)
          replace hx1 := (hx1.below hb8)
          replace hy5 := (hy5.below hb8)
          have d0_w8 := World.block_lt_of_cell? _ _ c0_0
          have d2_w8 := World.block_lt_of_cell? _ _ c2_0
          have d1_w8 := World.block_lt_of_cell? _ _ c1_0
          have d6_w8 := World.block_lt_of_cell? _ _ c6_0
          rcases Bool.eq_false_or_eq_true (precB t1 (joinT t1 u1)) with q5 | q5
          · have Hq5 := Lib.hid q5
            clear q5
            rcases Bool.eq_false_or_eq_true (precB u1 (joinT t1 u1)) with q6 | q6
            · have Hq6 := Lib.hid q6
              clear q6
              rcases Bool.eq_false_or_eq_true (precB u1 s5) with q7 | q7
              · (try rw [q7])
                have Hq7 := Lib.hid q7
                clear q7
                rcases Bool.eq_false_or_eq_true (precB (joinT t1 u1) s5) with q8 | q8
                · have Hq8 := Lib.hid q8
                  clear q8
                  rcases Bool.eq_false_or_eq_true (joinB u1 t1) with q9 | q9
                  · (try rw [q9])
                    have Hq9 := Lib.hid q9
                    clear q9
                    go_wp2_with fail
                    refine (implPreciseB _ _ t1 (joinT t1 u1) _ _ _ (hv1.below bal1).all (hv2.below bal1).rep.all).mono ?_
                    rintro e w9 ⟨rfl, hb9⟩
                    rw [Hq5.out]
                    replace hB := (bstep (hB.alloc hB.size _) hb9)
                    have zw9 := hB.size
                    replace c1_0 : w9.cell? ⟨w1.heap.size + 1, 0, none⟩ = some (.int .i64 kx1) := bcell hb9 (bcell bal1 (c1_0))
                    replace c1_1 : w9.cell? ⟨w1.heap.size + 1, 1, none⟩ = some (.slice ax1 nx1 qx1) := bcell hb9 (bcell bal1 (c1_1))
                    replace c2_0 : w9.cell? ⟨w2.heap.size, 0, none⟩ = some (.int .i64 kr2) := bcell hb9 (bcell bal1 (c2_0))
                    replace c2_1 : w9.cell? ⟨w2.heap.size, 1, none⟩ = some (.slice ar2 nr2 qr2) := bcell hb9 (bcell bal1 (c2_1))
                    replace c6_0 : w9.cell? ⟨w5.heap.size + 1 + 1, 0, none⟩ = some (.int .i64 ky5) := bcell hb9 (bcell bal1 (c6_0))
                    replace c6_1 : w9.cell? ⟨w5.heap.size + 1 + 1, 1, none⟩ = some (.slice ay5 ny5 qy5) := bcell hb9 (bcell bal1 (c6_1))
                    have c7_0 : w9.cell? ⟨w8.heap.size, 0, none⟩ = some (.int .i64 kr8) := bcell hb9 (cell_new (by simp) 0)
                    have c7_1 : w9.cell? ⟨w8.heap.size, 1, none⟩ = some (.slice ar8 nr8 qr8) := bcell hb9 (cell_new (by simp) 1)
                    replace hx1 := (hx1.below (bstep bal1 hb9))
                    replace hv2 := (hv2.below (bstep bal1 hb9))
                    replace hy5 := (hy5.below (bstep bal1 hb9))
                    replace hv8 := (hv8.below (bstep bal1 hb9))
                    have d1_w9 := World.block_lt_of_cell? _ _ c1_0
                    have d2_w9 := World.block_lt_of_cell? _ _ c2_0
                    have d6_w9 := World.block_lt_of_cell? _ _ c6_0
                    have d7_w9 := World.block_lt_of_cell? _ _ c7_0
                    go_wp2_with fail
                    refine (implPreciseB _ _ u1 (joinT t1 u1) _ _ _ hx1.all hv2.rep.all).mono ?_
                    rintro e w10 ⟨rfl, hb10⟩
                    rw [Hq6.out]
                    replace hB := (bstep hB hb10)
                    have zw10 := hB.size
                    replace c2_0 : w10.cell? ⟨w2.heap.size, 0, none⟩ = some (.int .i64 kr2) := bcell hb10 (c2_0)
                    replace c2_1 : w10.cell? ⟨w2.heap.size, 1, none⟩ = some (.slice ar2 nr2 qr2) := bcell hb10 (c2_1)
                    replace c6_0 : w10.cell? ⟨w5.heap.size + 1 + 1, 0, none⟩ = some (.int .i64 ky5) := bcell hb10 (c6_0)
                    replace c6_1 : w10.cell? ⟨w5.heap.size + 1 + 1, 1, none⟩ = some (.slice ay5 ny5 qy5) := bcell hb10 (c6_1)
                    replace c7_0 : w10.cell? ⟨w8.heap.size, 0, none⟩ = some (.int .i64 kr8) := bcell hb10 (c7_0)
                    replace c7_1 : w10.cell? ⟨w8.heap.size, 1, none⟩ = some (.slice ar8 nr8 qr8) := bcell hb10 (c7_1)
                    replace hv2 := (hv2.below hb10)
                    replace hy5 := (hy5.below hb10)
                    replace hv8 := (hv8.below hb10)
                    have d2_w10 := World.block_lt_of_cell? _ _ c2_0
                    have d6_w10 := World.block_lt_of_cell? _ _ c6_0
                    have d7_w10 := World.block_lt_of_cell? _ _ c7_0
                    go_wp2_with fail
                    refine (implPreciseB _ _ (joinT t1 u1) s5 _ _ _ hv2.rep.all hy5.all).mono ?_
                    rintro e w11 ⟨rfl, hb11⟩
                    rw [Hq8.out]
                    replace hB := (bstep hB hb11)
                    have zw11 := hB.size
                    replace c2_0 : w11.cell? ⟨w2.heap.size, 0, none⟩ = some (.int .i64 kr2) := bcell hb11 (c2_0)
                    replace c2_1 : w11.cell? ⟨w2.heap.size, 1, none⟩ = some (.slice ar2 nr2 qr2) := bcell hb11 (c2_1)
                    replace c7_0 : w11.cell? ⟨w8.heap.size, 0, none⟩ = some (.int .i64 kr8) := bcell hb11 (c7_0)
                    replace c7_1 : w11.cell? ⟨w8.heap.size, 1, none⟩ = some (.slice ar8 nr8 qr8) := bcell hb11 (c7_1)
                    replace hv2 := (hv2.below hb11)
                    replace hv8 := (hv8.below hb11)
                    have d2_w11 := World.block_lt_of_cell? _ _ c2_0
                    have d7_w11 := World.block_lt_of_cell? _ _ c7_0
                    go_wp2_with fail
                    refine (implTypeSame _ _ (joinT t1 u1) (joinT u1 t1) _ _ _ hv2.rep.all hv8.rep.all).mono ?_
                    rintro e w12 ⟨rfl, hb12⟩
                    replace hB := (bstep hB hb12)
                    have zw12 := hB.size
                    go_wp2_with fail
                    have hE := leaf_FnJoinTypes_0 Hq3.out Hq4.out Hq5.out Hq6.out Hq7.out Hq8.out Hq9.out
                    refine bodyPost_ret (v := .bool (Ty.same (joinT t1 u1) (joinT u1 t1))) (by simp [results, Try.results26, go_sem]) rfl ?_
                    exact ⟨by rw [hE], hB⟩
                  · (try rw [q9])
                    have Hq9 := Lib.hid q9
                    clear q9
                    go_wp2_with fail
                    refine (implPreciseB _ _ t1 (joinT t1 u1) _ _ _ (hv1.below bal1).all (hv2.below bal1).rep.all).mono ?_
                    rintro e w13 ⟨rfl, hb13⟩
                    rw [Hq5.out]
                    replace hB := (bstep (hB.alloc hB.size _) hb13)
                    have zw13 := hB.size
                    replace c1_0 : w13.cell? ⟨w1.heap.size + 1, 0, none⟩ = some (.int .i64 kx1) := bcell hb13 (bcell bal1 (c1_0))
                    replace c1_1 : w13.cell? ⟨w1.heap.size + 1, 1, none⟩ = some (.slice ax1 nx1 qx1) := bcell hb13 (bcell bal1 (c1_1))
                    replace c2_0 : w13.cell? ⟨w2.heap.size, 0, none⟩ = some (.int .i64 kr2) := bcell hb13 (bcell bal1 (c2_0))
                    replace c2_1 : w13.cell? ⟨w2.heap.size, 1, none⟩ = some (.slice ar2 nr2 qr2) := bcell hb13 (bcell bal1 (c2_1))
                    replace c6_0 : w13.cell? ⟨w5.heap.size + 1 + 1, 0, none⟩ = some (.int .i64 ky5) := bcell hb13 (bcell bal1 (c6_0))
                    replace c6_1 : w13.cell? ⟨w5.heap.size + 1 + 1, 1, none⟩ = some (.slice ay5 ny5 qy5) := bcell hb13 (bcell bal1 (c6_1))
                    replace hx1 := (hx1.below (bstep bal1 hb13))
                    replace hv2 := (hv2.below (bstep bal1 hb13))
                    replace hy5 := (hy5.below (bstep bal1 hb13))
                    have d1_w13 := World.block_lt_of_cell? _ _ c1_0
                    have d2_w13 := World.block_lt_of_cell? _ _ c2_0
                    have d6_w13 := World.block_lt_of_cell? _ _ c6_0
                    go_wp2_with fail
                    refine (implPreciseB _ _ u1 (joinT t1 u1) _ _ _ hx1.all hv2.rep.all).mono ?_
                    rintro e w14 ⟨rfl, hb14⟩
                    rw [Hq6.out]
                    replace hB := (bstep hB hb14)
                    have zw14 := hB.size
                    replace c2_0 : w14.cell? ⟨w2.heap.size, 0, none⟩ = some (.int .i64 kr2) := bcell hb14 (c2_0)
                    replace c2_1 : w14.cell? ⟨w2.heap.size, 1, none⟩ = some (.slice ar2 nr2 qr2) := bcell hb14 (c2_1)
                    replace c6_0 : w14.cell? ⟨w5.heap.size + 1 + 1, 0, none⟩ = some (.int .i64 ky5) := bcell hb14 (c6_0)
                    replace c6_1 : w14.cell? ⟨w5.heap.size + 1 + 1, 1, none⟩ = some (.slice ay5 ny5 qy5) := bcell hb14 (c6_1)
                    replace hv2 := (hv2.below hb14)
                    replace hy5 := (hy5.below hb14)
                    have d2_w14 := World.block_lt_of_cell? _ _ c2_0
                    have d6_w14 := World.block_lt_of_cell? _ _ c6_0
                    go_wp2_with fail
                    refine (implPreciseB _ _ (joinT t1 u1) s5 _ _ _ hv2.rep.all hy5.all).mono ?_
                    rintro e w15 ⟨rfl, hb15⟩
                    rw [Hq8.out]
                    replace hB := (bstep hB hb15)
                    have zw15 := hB.size
                    go_wp2_with fail
                    exact (leaf_FnJoinTypes_1 Hq3.out Hq4.out Hq5.out Hq6.out Hq7.out Hq8.out Hq9.out).elim
                · have Hq8 := Lib.hid q8
                  clear q8
                  go_wp2_with fail
                  refine (implPreciseB _ _ t1 (joinT t1 u1) _ _ _ (hv1.below bal1).all (hv2.below bal1).rep.all).mono ?_
                  rintro e w16 ⟨rfl, hb16⟩
                  rw [Hq5.out]
                  replace hB := (bstep (hB.alloc hB.size _) hb16)
                  have zw16 := hB.size
                  replace c1_0 : w16.cell? ⟨w1.heap.size + 1, 0, none⟩ = some (.int .i64 kx1) := bcell hb16 (bcell bal1 (c1_0))
                  replace c1_1 : w16.cell? ⟨w1.heap.size + 1, 1, none⟩ = some (.slice ax1 nx1 qx1) := bcell hb16 (bcell bal1 (c1_1))
                  replace c2_0 : w16.cell? ⟨w2.heap.size, 0, none⟩ = some (.int .i64 kr2) := bcell hb16 (bcell bal1 (c2_0))
                  replace c2_1 : w16.cell? ⟨w2.heap.size, 1, none⟩ = some (.slice ar2 nr2 qr2) := bcell hb16 (bcell bal1 (c2_1))
                  replace c6_0 : w16.cell? ⟨w5.heap.size + 1 + 1, 0, none⟩ = some (.int .i64 ky5) := bcell hb16 (bcell bal1 (c6_0))
                  replace c6_1 : w16.cell? ⟨w5.heap.size + 1 + 1, 1, none⟩ = some (.slice ay5 ny5 qy5) := bcell hb16 (bcell bal1 (c6_1))
                  replace hx1 := (hx1.below (bstep bal1 hb16))
                  replace hv2 := (hv2.below (bstep bal1 hb16))
                  replace hy5 := (hy5.below (bstep bal1 hb16))
                  have d1_w16 := World.block_lt_of_cell? _ _ c1_0
                  have d2_w16 := World.block_lt_of_cell? _ _ c2_0
                  have d6_w16 := World.block_lt_of_cell? _ _ c6_0
                  go_wp2_with fail
                  refine (implPreciseB _ _ u1 (joinT t1 u1) _ _ _ hx1.all hv2.rep.all).mono ?_
                  rintro e w17 ⟨rfl, hb17⟩
                  rw [Hq6.out]
                  replace hB := (bstep hB hb17)
                  have zw17 := hB.size
                  replace c2_0 : w17.cell? ⟨w2.heap.size, 0, none⟩ = some (.int .i64 kr2) := bcell hb17 (c2_0)
                  replace c2_1 : w17.cell? ⟨w2.heap.size, 1, none⟩ = some (.slice ar2 nr2 qr2) := bcell hb17 (c2_1)
                  replace c6_0 : w17.cell? ⟨w5.heap.size + 1 + 1, 0, none⟩ = some (.int .i64 ky5) := bcell hb17 (c6_0)
                  replace c6_1 : w17.cell? ⟨w5.heap.size + 1 + 1, 1, none⟩ = some (.slice ay5 ny5 qy5) := bcell hb17 (c6_1)
                  replace hv2 := (hv2.below hb17)
                  replace hy5 := (hy5.below hb17)
                  have d2_w17 := World.block_lt_of_cell? _ _ c2_0
                  have d6_w17 := World.block_lt_of_cell? _ _ c6_0
                  go_wp2_with fail
                  refine (implPreciseB _ _ (joinT t1 u1) s5 _ _ _ hv2.rep.all hy5.all).mono ?_
                  rintro e w18 ⟨rfl, hb18⟩
                  rw [Hq8.out]
                  replace hB := (bstep hB hb18)
                  have zw18 := hB.size
                  go_wp2_with fail
                  exact (leaf_FnJoinTypes_2 Hq3.out Hq4.out Hq5.out Hq6.out Hq7.out Hq8.out).elim
              · (try rw [q7])
                have Hq7 := Lib.hid q7
                clear q7
                rcases Bool.eq_false_or_eq_true (joinB u1 t1) with q10 | q10
                · (try rw [q10])
                  have Hq10 := Lib.hid q10
                  clear q10
                  go_wp2_with fail
                  refine (implPreciseB _ _ t1 (joinT t1 u1) _ _ _ (hv1.below bal1).all (hv2.below bal1).rep.all).mono ?_
                  rintro e w19 ⟨rfl, hb19⟩
                  rw [Hq5.out]
                  replace hB := (bstep (hB.alloc hB.size _) hb19)
                  have zw19 := hB.size
                  replace c1_0 : w19.cell? ⟨w1.heap.size + 1, 0, none⟩ = some (.int .i64 kx1) := bcell hb19 (bcell bal1 (c1_0))
                  replace c1_1 : w19.cell? ⟨w1.heap.size + 1, 1, none⟩ = some (.slice ax1 nx1 qx1) := bcell hb19 (bcell bal1 (c1_1))
                  replace c2_0 : w19.cell? ⟨w2.heap.size, 0, none⟩ = some (.int .i64 kr2) := bcell hb19 (bcell bal1 (c2_0))
                  replace c2_1 : w19.cell? ⟨w2.heap.size, 1, none⟩ = some (.slice ar2 nr2 qr2) := bcell hb19 (bcell bal1 (c2_1))
                  have c7_0 : w19.cell? ⟨w8.heap.size, 0, none⟩ = some (.int .i64 kr8) := bcell hb19 (cell_new (by simp) 0)
                  have c7_1 : w19.cell? ⟨w8.heap.size, 1, none⟩ = some (.slice ar8 nr8 qr8) := bcell hb19 (cell_new (by simp) 1)
                  replace hx1 := (hx1.below (bstep bal1 hb19))
                  replace hv2 := (hv2.below (bstep bal1 hb19))
                  replace hv8 := (hv8.below (bstep bal1 hb19))
                  have d1_w19 := World.block_lt_of_cell? _ _ c1_0
                  have d2_w19 := World.block_lt_of_cell? _ _ c2_0
                  have d7_w19 := World.block_lt_of_cell? _ _ c7_0
                  go_wp2_with fail
                  refine (implPreciseB _ _ u1 (joinT t1 u1) _ _ _ hx1.all hv2.rep.all).mono ?_
                  rintro e w20 ⟨rfl, hb20⟩
                  rw [Hq6.out]
                  replace hB := (bstep hB hb20)
                  have zw20 := hB.size
                  replace c2_0 : w20.cell? ⟨w2.heap.size, 0, none⟩ = some (.int .i64 kr2) := bcell hb20 (c2_0)
                  replace c2_1 : w20.cell? ⟨w2.heap.size, 1, none⟩ = some (.slice ar2 nr2 qr2) := bcell hb20 (c2_1)
                  replace c7_0 : w20.cell? ⟨w8.heap.size, 0, none⟩ = some (.int .i64 kr8) := bcell hb20 (c7_0)
                  replace c7_1 : w20.cell? ⟨w8.heap.size, 1, none⟩ = some (.slice ar8 nr8 qr8) := bcell hb20 (c7_1)
                  replace hv2 := (hv2.below hb20)
                  replace hv8 := (hv8.below hb20)
                  have d2_w20 := World.block_lt_of_cell? _ _ c2_0
                  have d7_w20 := World.block_lt_of_cell? _ _ c7_0
                  go_wp2_with fail
                  refine (implTypeSame _ _ (joinT t1 u1) (joinT u1 t1) _ _ _ hv2.rep.all hv8.rep.all).mono ?_
                  rintro e w21 ⟨rfl, hb21⟩
                  replace hB := (bstep hB hb21)
                  have zw21 := hB.size
                  go_wp2_with fail
                  have hE := leaf_FnJoinTypes_3 Hq3.out Hq4.out Hq5.out Hq6.out Hq7.out Hq10.out
                  refine bodyPost_ret (v := .bool (Ty.same (joinT t1 u1) (joinT u1 t1))) (by simp [results, Try.results26, go_sem]) rfl ?_
                  exact ⟨by rw [hE], hB⟩
                · (try rw [q10])
                  have Hq10 := Lib.hid q10
                  clear q10
                  go_wp2_with fail
                  refine (implPreciseB _ _ t1 (joinT t1 u1) _ _ _ (hv1.below bal1).all (hv2.below bal1).rep.all).mono ?_
                  rintro e w22 ⟨rfl, hb22⟩
                  rw [Hq5.out]
                  replace hB := (bstep (hB.alloc hB.size _) hb22)
                  have zw22 := hB.size
                  replace c1_0 : w22.cell? ⟨w1.heap.size + 1, 0, none⟩ = some (.int .i64 kx1) := bcell hb22 (bcell bal1 (c1_0))
                  replace c1_1 : w22.cell? ⟨w1.heap.size + 1, 1, none⟩ = some (.slice ax1 nx1 qx1) := bcell hb22 (bcell bal1 (c1_1))
                  replace c2_0 : w22.cell? ⟨w2.heap.size, 0, none⟩ = some (.int .i64 kr2) := bcell hb22 (bcell bal1 (c2_0))
                  replace c2_1 : w22.cell? ⟨w2.heap.size, 1, none⟩ = some (.slice ar2 nr2 qr2) := bcell hb22 (bcell bal1 (c2_1))
                  replace hx1 := (hx1.below (bstep bal1 hb22))
                  replace hv2 := (hv2.below (bstep bal1 hb22))
                  have d1_w22 := World.block_lt_of_cell? _ _ c1_0
                  have d2_w22 := World.block_lt_of_cell? _ _ c2_0
                  go_wp2_with fail
                  refine (implPreciseB _ _ u1 (joinT t1 u1) _ _ _ hx1.all hv2.rep.all).mono ?_
                  rintro e w23 ⟨rfl, hb23⟩
                  rw [Hq6.out]
                  replace hB := (bstep hB hb23)
                  have zw23 := hB.size
                  go_wp2_with fail
                  exact (leaf_FnJoinTypes_4 Hq3.out Hq4.out Hq5.out Hq6.out Hq7.out Hq10.out).elim
            · have Hq6 := Lib.hid q6
              clear q6
              go_wp2_with fail
              refine (implPreciseB _ _ t1 (joinT t1 u1) _ _ _ (hv1.below bal1).all (hv2.below bal1).rep.all).mono ?_
              rintro e w24 ⟨rfl, hb24⟩
              rw [Hq5.out]
              replace hB := (bstep (hB.alloc hB.size _) hb24)
              have zw24 := hB.size
              replace c1_0 : w24.cell? ⟨w1.heap.size + 1, 0, none⟩ = some (.int .i64 kx1) := bcell hb24 (bcell bal1 (c1_0))
              replace c1_1 : w24.cell? ⟨w1.heap.size + 1, 1, none⟩ = some (.slice ax1 nx1 qx1) := bcell hb24 (bcell bal1 (c1_1))
              replace c2_0 : w24.cell? ⟨w2.heap.size, 0, none⟩ = some (.int .i64 kr2) := bcell hb24 (bcell bal1 (c2_0))
              replace c2_1 : w24.cell? ⟨w2.heap.size, 1, none⟩ = some (.slice ar2 nr2 qr2) := bcell hb24 (bcell bal1 (c2_1))
              replace hx1 := (hx1.below (bstep bal1 hb24))
              replace hv2 := (hv2.below (bstep bal1 hb24))
              have d1_w24 := World.block_lt_of_cell? _ _ c1_0
              have d2_w24 := World.block_lt_of_cell? _ _ c2_0
              go_wp2_with fail
              refine (implPreciseB _ _ u1 (joinT t1 u1) _ _ _ hx1.all hv2.rep.all).mono ?_
              rintro e w25 ⟨rfl, hb25⟩
              rw [Hq6.out]
              replace hB := (bstep hB hb25)
              have zw25 := hB.size
              go_wp2_with fail
              exact (leaf_FnJoinTypes_5 Hq3.out Hq4.out Hq5.out Hq6.out).elim
          · have Hq5 := Lib.hid q5
            clear q5
            go_wp2_with fail
            refine (implPreciseB _ _ t1 (joinT t1 u1) _ _ _ (hv1.below bal1).all (hv2.below bal1).rep.all).mono ?_
            rintro e w26 ⟨rfl, hb26⟩
            rw [Hq5.out]
            replace hB := (bstep (hB.alloc hB.size _) hb26)
            have zw26 := hB.size
            go_wp2_with fail
            exact (leaf_FnJoinTypes_6 Hq3.out Hq4.out Hq5.out).elim
        · have Hq4 := Lib.hid q4
          clear q4
          go_wp2_with fail
          refine (implPreciseB _ _ t1 s5 _ _ _ (hv1.below bal3).all (hy5.below bal3).all).mono ?_
          rintro e w27 ⟨rfl, hb27⟩
          rw [Hq4.out]
          replace hB := (bstep (((hB.alloc hB.size _).alloc (hB.alloc hB.size _).size _).alloc ((hB.alloc hB.size _).alloc (hB.alloc hB.size _).size _).size _) hb27)
          have zw27 := hB.size
          replace c1_0 : w27.cell? ⟨w1.heap.size + 1, 0, none⟩ = some (.int .i64 kx1) := bcell hb27 (bcell bal1 (bcell bal1 (bcell bal1 (c1_0))))
          replace c1_1 : w27.cell? ⟨w1.heap.size + 1, 1, none⟩ = some (.slice ax1 nx1 qx1) := bcell hb27 (bcell bal1 (bcell bal1 (bcell bal1 (c1_1))))
          replace c0_0 : w27.cell? ⟨w1.heap.size, 0, none⟩ = some (.int .i64 kv1) := bcell hb27 (bcell bal1 (bcell bal1 (bcell bal1 (c0_0))))
          replace c0_1 : w27.cell? ⟨w1.heap.size, 1, none⟩ = some (.slice av1 nv1 qv1) := bcell hb27 (bcell bal1 (bcell bal1 (bcell bal1 (c0_1))))
          replace c2_0 : w27.cell? ⟨w2.heap.size, 0, none⟩ = some (.int .i64 kr2) := bcell hb27 (bcell bal1 (bcell bal1 (bcell bal1 (c2_0))))
          replace c2_1 : w27.cell? ⟨w2.heap.size, 1, none⟩ = some (.slice ar2 nr2 qr2) := bcell hb27 (bcell bal1 (bcell bal1 (bcell bal1 (c2_1))))
          replace hx1 := (hx1.below (bstep bal3 hb27))
          replace hv1 := (hv1.below (bstep bal3 hb27))
          replace hv2 := (hv2.below (bstep bal3 hb27))
          have d1_w27 := World.block_lt_of_cell? _ _ c1_0
          have d0_w27 := World.block_lt_of_cell? _ _ c0_0
          have d2_w27 := World.block_lt_of_cell? _ _ c2_0
          go_wp2_with fail
          refine (implJoinTypes _ _ u1 t1 _ _ _ hx1.all hv1.all).mono ?_
          rintro e w28 ⟨v28, rfl, hv28, hb28⟩
          obtain ⟨kr28, ar28, nr28, qr28, rfl⟩ := hv28.shape
          replace hB := (bstep hB hb28)
          have zw28 := hB.size
          replace c0_0 : w28.cell? ⟨w1.heap.size, 0, none⟩ = some (.int .i64 kv1) := bcell hb28 (c0_0)
          replace c0_1 : w28.cell? ⟨w1.heap.size, 1, none⟩ = some (.slice av1 nv1 qv1) := bcell hb28 (c0_1)
          replace c2_0 : w28.cell? ⟨w2.heap.size, 0, none⟩ = some (.int .i64 kr2) := bcell hb28 (c2_0)
          replace c2_1 : w28.cell? ⟨w2.heap.size, 1, none⟩ = some (.slice ar2 nr2 qr2) := bcell hb28 (c2_1)
          replace c1_0 : w28.cell? ⟨w1.heap.size + 1, 0, none⟩ = some (.int .i64 kx1) := bcell hb28 (c1_0)
          replace c1_1 : w28.cell? ⟨w1.heap.size + 1, 1, none⟩ = some (.slice ax1 nx1 qx1) := bcell hb28 (c1_1)
          replace hv1 := (hv1.below hb28)
          replace hv2 := (hv2.below hb28)
          replace hx1 := (hx1.below hb28)
          have d0_w28 := World.block_lt_of_cell? _ _ c0_0
          have d2_w28 := World.block_lt_of_cell? _ _ c2_0
          have d1_w28 := World.block_lt_of_cell? _ _ c1_0
          rcases Bool.eq_false_or_eq_true (precB t1 (joinT t1 u1)) with q11 | q11
          · have Hq11 := Lib.hid q11
            clear q11
            rcases Bool.eq_false_or_eq_true (precB u1 (joinT t1 u1)) with q12 | q12
            · have Hq12 := Lib.hid q12
              clear q12
              rcases Bool.eq_false_or_eq_true (joinB u1 t1) with q13 | q13
              · (try rw [q13])
                have Hq13 := Lib.hid q13
                clear q13
                go_wp2_with fail
                refine (implPreciseB _ _ t1 (joinT t1 u1) _ _ _ (hv1.below bal1).all (hv2.below bal1).rep.all).mono ?_
                rintro e w29 ⟨rfl, hb29⟩
                rw [Hq11.out]
                replace hB := (bstep (hB.alloc hB.size _) hb29)
                have zw29 := hB.size
                replace c1_0 : w29.cell? ⟨w1.heap.size + 1, 0, none⟩ = some (.int .i64 kx1) := bcell hb29 (bcell bal1 (c1_0))
                replace c1_1 : w29.cell? ⟨w1.heap.size + 1, 1, none⟩ = some (.slice ax1 nx1 qx1) := bcell hb29 (bcell bal1 (c1_1))
                replace c2_0 : w29.cell? ⟨w2.heap.size, 0, none⟩ = some (.int .i64 kr2) := bcell hb29 (bcell bal1 (c2_0))
                replace c2_1 : w29.cell? ⟨w2.heap.size, 1, none⟩ = some (.slice ar2 nr2 qr2) := bcell hb29 (bcell bal1 (c2_1))
                have c7_0 : w29.cell? ⟨w28.heap.size, 0, none⟩ = some (.int .i64 kr28) := bcell hb29 (cell_new (by simp) 0)
                have c7_1 : w29.cell? ⟨w28.heap.size, 1, none⟩ = some (.slice ar28 nr28 qr28) := bcell hb29 (cell_new (by simp) 1)
                replace hx1 := (hx1.below (bstep bal1 hb29))
                replace hv2 := (hv2.below (bstep bal1 hb29))
                replace hv28 := (hv28.below (bstep bal1 hb29))
                have d1_w29 := World.block_lt_of_cell? _ _ c1_0
                have d2_w29 := World.block_lt_of_cell? _ _ c2_0
                have d7_w29 := World.block_lt_of_cell? _ _ c7_0
                go_wp2_with fail
                refine (implPreciseB _ _ u1 (joinT t1 u1) _ _ _ hx1.all hv2.rep.all).mono ?_
                rintro e w30 ⟨rfl, hb30⟩
                rw [Hq12.out]
                replace hB := (bstep hB hb30)
                have zw30 := hB.size
                replace c2_0 : w30.cell? ⟨w2.heap.size, 0, none⟩ = some (.int .i64 kr2) := bcell hb30 (c2_0)
                replace c2_1 : w30.cell? ⟨w2.heap.size, 1, none⟩ = some (.slice ar2 nr2 qr2) := bcell hb30 (c2_1)
                replace c7_0 : w30.cell? ⟨w28.heap.size, 0, none⟩ = some (.int .i64 kr28) := bcell hb30 (c7_0)
                replace c7_1 : w30.cell? ⟨w28.heap.size, 1, none⟩ = some (.slice ar28 nr28 qr28) := bcell hb30 (c7_1)
                replace hv2 := (hv2.below hb30)
                replace hv28 := (hv28.below hb30)
                have d2_w30 := World.block_lt_of_cell? _ _ c2_0
                have d7_w30 := World.block_lt_of_cell? _ _ c7_0
                go_wp2_with fail
                refine (implTypeSame _ _ (joinT t1 u1) (joinT u1 t1) _ _ _ hv2.rep.all hv28.rep.all).mono ?_
                rintro e w31 ⟨rfl, hb31⟩
                replace hB := (bstep hB hb31)
                have zw31 := hB.size
                go_wp2_with fail
                have hE := leaf_FnJoinTypes_7 Hq3.out Hq4.out Hq11.out Hq12.out Hq13.out
                refine bodyPost_ret (v := .bool (Ty.same (joinT t1 u1) (joinT u1 t1))) (by simp [results, Try.results26, go_sem]) rfl ?_
                exact ⟨by rw [hE], hB⟩
              · (try rw [q13])
                have Hq13 := Lib.hid q13
                clear q13
                go_wp2_with fail
                refine (implPreciseB _ _ t1 (joinT t1 u1) _ _ _ (hv1.below bal1).all (hv2.below bal1).rep.all).mono ?_
                rintro e w32 ⟨rfl, hb32⟩
                rw [Hq11.out]
                replace hB := (bstep (hB.alloc hB.size _) hb32)
                have zw32 := hB.size
                replace c1_0 : w32.cell? ⟨w1.heap.size + 1, 0, none⟩ = some (.int .i64 kx1) := bcell hb32 (bcell bal1 (c1_0))
                replace c1_1 : w32.cell? ⟨w1.heap.size + 1, 1, none⟩ = some (.slice ax1 nx1 qx1) := bcell hb32 (bcell bal1 (c1_1))
                replace c2_0 : w32.cell? ⟨w2.heap.size, 0, none⟩ = some (.int .i64 kr2) := bcell hb32 (bcell bal1 (c2_0))
                replace c2_1 : w32.cell? ⟨w2.heap.size, 1, none⟩ = some (.slice ar2 nr2 qr2) := bcell hb32 (bcell bal1 (c2_1))
                replace hx1 := (hx1.below (bstep bal1 hb32))
                replace hv2 := (hv2.below (bstep bal1 hb32))
                have d1_w32 := World.block_lt_of_cell? _ _ c1_0
                have d2_w32 := World.block_lt_of_cell? _ _ c2_0
                go_wp2_with fail
                refine (implPreciseB _ _ u1 (joinT t1 u1) _ _ _ hx1.all hv2.rep.all).mono ?_
                rintro e w33 ⟨rfl, hb33⟩
                rw [Hq12.out]
                replace hB := (bstep hB hb33)
                have zw33 := hB.size
                go_wp2_with fail
                exact (leaf_FnJoinTypes_8 Hq3.out Hq4.out Hq11.out Hq12.out Hq13.out).elim
            · have Hq12 := Lib.hid q12
              clear q12
              go_wp2_with fail
              refine (implPreciseB _ _ t1 (joinT t1 u1) _ _ _ (hv1.below bal1).all (hv2.below bal1).rep.all).mono ?_
              rintro e w34 ⟨rfl, hb34⟩
              rw [Hq11.out]
              replace hB := (bstep (hB.alloc hB.size _) hb34)
              have zw34 := hB.size
              replace c1_0 : w34.cell? ⟨w1.heap.size + 1, 0, none⟩ = some (.int .i64 kx1) := bcell hb34 (bcell bal1 (c1_0))
              replace c1_1 : w34.cell? ⟨w1.heap.size + 1, 1, none⟩ = some (.slice ax1 nx1 qx1) := bcell hb34 (bcell bal1 (c1_1))
              replace c2_0 : w34.cell? ⟨w2.heap.size, 0, none⟩ = some (.int .i64 kr2) := bcell hb34 (bcell bal1 (c2_0))
              replace c2_1 : w34.cell? ⟨w2.heap.size, 1, none⟩ = some (.slice ar2 nr2 qr2) := bcell hb34 (bcell bal1 (c2_1))
              replace hx1 := (hx1.below (bstep bal1 hb34))
              replace hv2 := (hv2.below (bstep bal1 hb34))
              have d1_w34 := World.block_lt_of_cell? _ _ c1_0
              have d2_w34 := World.block_lt_of_cell? _ _ c2_0
              go_wp2_with fail
              refine (implPreciseB _ _ u1 (joinT t1 u1) _ _ _ hx1.all hv2.rep.all).mono ?_
              rintro e w35 ⟨rfl, hb35⟩
              rw [Hq12.out]
              replace hB := (bstep hB hb35)
              have zw35 := hB.size
              go_wp2_with fail
              exact (leaf_FnJoinTypes_9 Hq3.out Hq4.out Hq11.out Hq12.out).elim
          · have Hq11 := Lib.hid q11
            clear q11
            go_wp2_with fail
            refine (implPreciseB _ _ t1 (joinT t1 u1) _ _ _ (hv1.below bal1).all (hv2.below bal1).rep.all).mono ?_
            rintro e w36 ⟨rfl, hb36⟩
            rw [Hq11.out]
            replace hB := (bstep (hB.alloc hB.size _) hb36)
            have zw36 := hB.size
            go_wp2_with fail
            exact (leaf_FnJoinTypes_10 Hq3.out Hq4.out Hq11.out).elim
      · (try rw [q3])
        have Hq3 := Lib.hid q3
        clear q3
        go_wp2_with fail
        refine (implTypeSameSelf _ _ (joinT t1 u1) _ _ _ hv2.rep.all hv3.rep.all).mono ?_
        rintro e w37 ⟨rfl, hb37⟩
        replace hB := (bstep hB hb37)
        have zw37 := hB.size
        go_wp2_with fail
        refine bodyPost_ret (v := .bool true) (by simp [results, Try.results26, go_sem]) rfl ?_
        exact ⟨rfl, hB⟩
end Go.Proofs.Ytjkkahlcbhcifaa
