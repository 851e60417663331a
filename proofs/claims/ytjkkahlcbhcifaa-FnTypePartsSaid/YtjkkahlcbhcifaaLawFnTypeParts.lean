/-
  FnTypeParts returns true: the walk.
-/
import Derived.Test.YtjkkahlcbhcifaaFn
import Derived.Test.YtjkkahlcbhcifaaDraws
import Derived.Test.YtjkkahlcbhcifaaDrawCh
namespace Go.Proofs.Ytjkkahlcbhcifaa
open Go.RowKit
set_option linter.unusedVariables false
set_option linter.unusedSimpArgs false
set_option maxRecDepth 100000

theorem leaf_FnTypeParts_0 {t1 t2 : Ty} (h0 : (Ty.valid (Ty.mk 4 [t1, t2])) = true) (h1 : (decide ((Ty.depthV t2) > (Ty.depthV t1))) = true) (h2 : ((Ty.depthV (Ty.mk 4 [t1, t2])) == ((Ty.depthV t2) + 1)) = true) (h3 : ((Ty.anyV (Ty.mk 4 [t1, t2])) == ((Ty.anyV t1) + (Ty.anyV t2))) = true) (h4 : (staticB t1) = true) (h5 : (staticB t2) = true) : (staticB (Ty.mk 4 [t1, t2])) = true := by
  have l := law_FnTypeParts t1 t2
  first | (simp_all; done) | grind

theorem leaf_FnTypeParts_1 {t1 t2 : Ty} (h0 : (Ty.valid (Ty.mk 4 [t1, t2])) = true) (h1 : (decide ((Ty.depthV t2) > (Ty.depthV t1))) = true) (h2 : ((Ty.depthV (Ty.mk 4 [t1, t2])) == ((Ty.depthV t2) + 1)) = true) (h3 : ((Ty.anyV (Ty.mk 4 [t1, t2])) == ((Ty.anyV t1) + (Ty.anyV t2))) = true) (h4 : (staticB t1) = true) (h5 : (staticB t2) = false) : (!(staticB (Ty.mk 4 [t1, t2]))) = true := by
  have l := law_FnTypeParts t1 t2
  first | (simp_all; done) | grind

theorem leaf_FnTypeParts_2 {t1 t2 : Ty} (h0 : (Ty.valid (Ty.mk 4 [t1, t2])) = true) (h1 : (decide ((Ty.depthV t2) > (Ty.depthV t1))) = true) (h2 : ((Ty.depthV (Ty.mk 4 [t1, t2])) == ((Ty.depthV t2) + 1)) = true) (h3 : ((Ty.anyV (Ty.mk 4 [t1, t2])) == ((Ty.anyV t1) + (Ty.anyV t2))) = true) (h4 : (staticB t1) = false) : (!(staticB (Ty.mk 4 [t1, t2]))) = true := by
  have l := law_FnTypeParts t1 t2
  first | (simp_all; done) | grind

theorem leaf_FnTypeParts_3 {t1 t2 : Ty} (h0 : (Ty.valid (Ty.mk 4 [t1, t2])) = true) (h1 : (decide ((Ty.depthV t2) > (Ty.depthV t1))) = false) (h2 : ((Ty.depthV (Ty.mk 4 [t1, t2])) == ((Ty.depthV t1) + 1)) = true) (h3 : ((Ty.anyV (Ty.mk 4 [t1, t2])) == ((Ty.anyV t1) + (Ty.anyV t2))) = true) (h4 : (staticB t1) = true) (h5 : (staticB t2) = true) : (staticB (Ty.mk 4 [t1, t2])) = true := by
  have l := law_FnTypeParts t1 t2
  first | (simp_all; done) | grind

theorem leaf_FnTypeParts_4 {t1 t2 : Ty} (h0 : (Ty.valid (Ty.mk 4 [t1, t2])) = true) (h1 : (decide ((Ty.depthV t2) > (Ty.depthV t1))) = false) (h2 : ((Ty.depthV (Ty.mk 4 [t1, t2])) == ((Ty.depthV t1) + 1)) = true) (h3 : ((Ty.anyV (Ty.mk 4 [t1, t2])) == ((Ty.anyV t1) + (Ty.anyV t2))) = true) (h4 : (staticB t1) = true) (h5 : (staticB t2) = false) : (!(staticB (Ty.mk 4 [t1, t2]))) = true := by
  have l := law_FnTypeParts t1 t2
  first | (simp_all; done) | grind

theorem leaf_FnTypeParts_5 {t1 t2 : Ty} (h0 : (Ty.valid (Ty.mk 4 [t1, t2])) = true) (h1 : (decide ((Ty.depthV t2) > (Ty.depthV t1))) = false) (h2 : ((Ty.depthV (Ty.mk 4 [t1, t2])) == ((Ty.depthV t1) + 1)) = true) (h3 : ((Ty.anyV (Ty.mk 4 [t1, t2])) == ((Ty.anyV t1) + (Ty.anyV t2))) = true) (h4 : (staticB t1) = false) : (!(staticB (Ty.mk 4 [t1, t2]))) = true := by
  have l := law_FnTypeParts t1 t2
  first | (simp_all; done) | grind
set_option maxHeartbeats 8000000 in
theorem walk_FnTypeParts (y0 y1 : Value) (w : World) (r0 : ByRep w w.heap.size y0) (r1 : ByRep w w.heap.size y1) :
    Calls Try.prog 13 #[y0, y1] w fun e w' => e = .returned (.bool true) ∧ Below w.heap.size w w' := by
  obtain ⟨a0, n0, q0, rfl⟩ := r0.shape
  obtain ⟨a1, n1, q1, rfl⟩ := r1.shape
  go_enter Try.func13, Try.ntmps13
  rcases Bool.eq_false_or_eq_true (decide ((n0 : Int) > 1048576)) with q1 | q1
  · skip
    go_wp2_with fail
    refine bodyPost_ret (v := .bool true) (by simp [results, Try.results13, go_sem]) rfl ?_
    exact ⟨rfl, (Below.refl _ _)⟩
  · skip
    rcases Bool.eq_false_or_eq_true (decide ((n1 : Int) > 1048576)) with q2 | q2
    · (try rw [q2])
      go_wp2_with fail
      refine bodyPost_ret (v := .bool true) (by simp [results, Try.results13, go_sem]) rfl ?_
      exact ⟨rfl, (Below.refl _ _)⟩
    · (try rw [q2])
      go_wp2_with fail
      refine (specDrawTypeDepth _ _ _ (r0.below (Below.refl _ _)) (by first | omega | (simp; done) | (simp; omega))).mono ?_
      rintro e w1 ⟨t1, v1, rfl, hv1, hb1⟩
      obtain ⟨kv1, av1, nv1, qv1, rfl⟩ := hv1.shape
      have hB := (bstep (Below.refl _ _) hb1)
      have zw1 := hB.size
      go_wp2_with fail
      refine (specDrawTypeDepth _ _ _ (r1.below (hB.alloc hB.size _)) (by first | omega | (simp; done) | (simp; omega))).mono ?_
      rintro e w2 ⟨t2, v2, rfl, hv2, hb2⟩
      obtain ⟨kv2, av2, nv2, qv2, rfl⟩ := hv2.shape
      replace hB := (bstep (hB.alloc hB.size _) hb2)
      have zw2 := hB.size
      have c0_0 : w2.cell? ⟨w1.heap.size, 0, none⟩ = some (.int .i64 kv1) := bcell hb2 (cell_new (by simp) 0)
      have c0_1 : w2.cell? ⟨w1.heap.size, 1, none⟩ = some (.slice av1 nv1 qv1) := bcell hb2 (cell_new (by simp) 1)
      replace hv1 := (hv1.below (bstep bal1 hb2))
      have d0_w2 := World.block_lt_of_cell? _ _ c0_0
      have d0_w2_1 : w1.heap.size < w2.heap.size + 1 := Nat.lt_succ_of_lt d0_w2
      have d0_w2_2 : w1.heap.size < w2.heap.size + 1 + 1 := Nat.lt_succ_of_lt d0_w2_1
      go_wp2_with fail
      refine (implTypeDepth _ t1 _ _ (hv1.below bal3).all).mono ?_
      rintro e w3 ⟨rfl, hb3⟩
      have hi3 := Ty.depthV_bd t1
      replace hB := (bstep (((hB.alloc hB.size _).alloc (hB.alloc hB.size _).size _).alloc ((hB.alloc hB.size _).alloc (hB.alloc hB.size _).size _).size _) hb3)
      have zw3 := hB.size
      replace c0_0 : w3.cell? ⟨w1.heap.size, 0, none⟩ = some (.int .i64 kv1) := bcell hb3 (bcell bal1 (bcell bal1 (bcell bal1 (c0_0))))
      replace c0_1 : w3.cell? ⟨w1.heap.size, 1, none⟩ = some (.slice av1 nv1 qv1) := bcell hb3 (bcell bal1 (bcell bal1 (bcell bal1 (c0_1))))
      have c3_0 : w3.cell? ⟨w2.heap.size + 1 + 1, 0, none⟩ = some (.int .i64 4) := bcell hb3 (cell_new (by simp) 0)
      have c3_1 : w3.cell? ⟨w2.heap.size + 1 + 1, 1, none⟩ = some (.slice (some ⟨w2.heap.size + 1, 0, none⟩) 2 2) := bcell hb3 (cell_new (by simp) 1)
      have c2_0 : w3.cell? ⟨w2.heap.size + 1, 0, none⟩ = some (.int .i64 kv1) := bcell hb3 (bcell bal1 (cell_new (by simp) 0))
      have c2_1 : w3.cell? ⟨w2.heap.size + 1, 1, none⟩ = some (.slice av1 nv1 qv1) := bcell hb3 (bcell bal1 (cell_new (by simp) 1))
      have c2_2 : w3.cell? ⟨w2.heap.size + 1, 2, none⟩ = some (.int .i64 kv2) := bcell hb3 (bcell bal1 (cell_new (by simp) 2))
      have c2_3 : w3.cell? ⟨w2.heap.size + 1, 3, none⟩ = some (.slice av2 nv2 qv2) := bcell hb3 (bcell bal1 (cell_new (by simp) 3))
      have c1_0 : w3.cell? ⟨w2.heap.size, 0, none⟩ = some (.int .i64 kv2) := bcell hb3 (bcell bal1 (bcell bal1 (cell_new (by simp) 0)))
      have c1_1 : w3.cell? ⟨w2.heap.size, 1, none⟩ = some (.slice av2 nv2 qv2) := bcell hb3 (bcell bal1 (bcell bal1 (cell_new (by simp) 1)))
      replace hv1 := (hv1.below (bstep bal3 hb3))
      replace hv2 := (hv2.below (bstep bal3 hb3))
      have d0_w3 := World.block_lt_of_cell? _ _ c0_0
      have d3_w3 := World.block_lt_of_cell? _ _ c3_0
      have d2_w3 := World.block_lt_of_cell? _ _ c2_0
      have d1_w3 := World.block_lt_of_cell? _ _ c1_0
      go_wp2_with fail
      refine (specTypeDepth _ t1 _ _ hv1.all).mono ?_
      rintro e w4 ⟨rfl, hb4⟩
      have hi4 := Ty.depthV_bd t1
      replace hB := (bstep hB hb4)
      have zw4 := hB.size
      replace c3_0 : w4.cell? ⟨w2.heap.size + 1 + 1, 0, none⟩ = some (.int .i64 4) := bcell hb4 (c3_0)
      replace c3_1 : w4.cell? ⟨w2.heap.size + 1 + 1, 1, none⟩ = some (.slice (some ⟨w2.heap.size + 1, 0, none⟩) 2 2) := bcell hb4 (c3_1)
      replace c2_0 : w4.cell? ⟨w2.heap.size + 1, 0, none⟩ = some (.int .i64 kv1) := bcell hb4 (c2_0)
      replace c2_1 : w4.cell? ⟨w2.heap.size + 1, 1, none⟩ = some (.slice av1 nv1 qv1) := bcell hb4 (c2_1)
      replace c2_2 : w4.cell? ⟨w2.heap.size + 1, 2, none⟩ = some (.int .i64 kv2) := bcell hb4 (c2_2)
      replace c2_3 : w4.cell? ⟨w2.heap.size + 1, 3, none⟩ = some (.slice av2 nv2 qv2) := bcell hb4 (c2_3)
      replace c1_0 : w4.cell? ⟨w2.heap.size, 0, none⟩ = some (.int .i64 kv2) := bcell hb4 (c1_0)
      replace c1_1 : w4.cell? ⟨w2.heap.size, 1, none⟩ = some (.slice av2 nv2 qv2) := bcell hb4 (c1_1)
      replace c0_0 : w4.cell? ⟨w1.heap.size, 0, none⟩ = some (.int .i64 kv1) := bcell hb4 (c0_0)
      replace c0_1 : w4.cell? ⟨w1.heap.size, 1, none⟩ = some (.slice av1 nv1 qv1) := bcell hb4 (c0_1)
      replace hv1 := (hv1.below hb4)
      replace hv2 := (hv2.below hb4)
      have d3_w4 := World.block_lt_of_cell? _ _ c3_0
      have d2_w4 := World.block_lt_of_cell? _ _ c2_0
      have d1_w4 := World.block_lt_of_cell? _ _ c1_0
      have d0_w4 := World.block_lt_of_cell? _ _ c0_0
      go_wp2_with fail
      refine (implTypeValid _ (Ty.mk 4 [t1, t2]) _ _ (TyRep.two_mk trivial (by omega) (by unfold maxLen; omega) (c2_0) (c2_1) (c2_2) (c2_3) hv1.all hv2.all)).mono ?_
      rintro e w5 ⟨rfl, hb5⟩
      replace hB := (bstep hB hb5)
      have zw5 := hB.size
      replace c1_0 : w5.cell? ⟨w2.heap.size, 0, none⟩ = some (.int .i64 kv2) := bcell hb5 (c1_0)
      replace c1_1 : w5.cell? ⟨w2.heap.size, 1, none⟩ = some (.slice av2 nv2 qv2) := bcell hb5 (c1_1)
      replace c2_0 : w5.cell? ⟨w2.heap.size + 1, 0, none⟩ = some (.int .i64 kv1) := bcell hb5 (c2_0)
      replace c2_1 : w5.cell? ⟨w2.heap.size + 1, 1, none⟩ = some (.slice av1 nv1 qv1) := bcell hb5 (c2_1)
      replace c2_2 : w5.cell? ⟨w2.heap.size + 1, 2, none⟩ = some (.int .i64 kv2) := bcell hb5 (c2_2)
      replace c2_3 : w5.cell? ⟨w2.heap.size + 1, 3, none⟩ = some (.slice av2 nv2 qv2) := bcell hb5 (c2_3)
      replace c3_0 : w5.cell? ⟨w2.heap.size + 1 + 1, 0, none⟩ = some (.int .i64 4) := bcell hb5 (c3_0)
      replace c3_1 : w5.cell? ⟨w2.heap.size + 1 + 1, 1, none⟩ = some (.slice (some ⟨w2.heap.size + 1, 0, none⟩) 2 2) := bcell hb5 (c3_1)
      replace c0_0 : w5.cell? ⟨w1.heap.size, 0, none⟩ = some (.int .i64 kv1) := bcell hb5 (c0_0)
      replace c0_1 : w5.cell? ⟨w1.heap.size, 1, none⟩ = some (.slice av1 nv1 qv1) := bcell hb5 (c0_1)
      replace hv2 := (hv2.below hb5)
      replace hv1 := (hv1.below hb5)
      have d1_w5 := World.block_lt_of_cell? _ _ c1_0
      have d2_w5 := World.block_lt_of_cell? _ _ c2_0
      have d3_w5 := World.block_lt_of_cell? _ _ c3_0
      have d0_w5 := World.block_lt_of_cell? _ _ c0_0
      rcases Bool.eq_false_or_eq_true (Ty.valid (Ty.mk 4 [t1, t2])) with q3 | q3
      · (try rw [q3])
        have Hq3 := Lib.hid q3
        clear q3
        go_wp2_with fail
        refine (implTypeDepth _ t2 _ _ hv2.all).mono ?_
        rintro e w6 ⟨rfl, hb6⟩
        have hi6 := Ty.depthV_bd t2
        replace hB := (bstep hB hb6)
        have zw6 := hB.size
        replace c1_0 : w6.cell? ⟨w2.heap.size, 0, none⟩ = some (.int .i64 kv2) := bcell hb6 (c1_0)
        replace c1_1 : w6.cell? ⟨w2.heap.size, 1, none⟩ = some (.slice av2 nv2 qv2) := bcell hb6 (c1_1)
        replace c2_0 : w6.cell? ⟨w2.heap.size + 1, 0, none⟩ = some (.int .i64 kv1) := bcell hb6 (c2_0)
        replace c2_1 : w6.cell? ⟨w2.heap.size + 1, 1, none⟩ = some (.slice av1 nv1 qv1) := bcell hb6 (c2_1)
        replace c2_2 : w6.cell? ⟨w2.heap.size + 1, 2, none⟩ = some (.int .i64 kv2) := bcell hb6 (c2_2)
        replace c2_3 : w6.cell? ⟨w2.heap.size + 1, 3, none⟩ = some (.slice av2 nv2 qv2) := bcell hb6 (c2_3)
        replace c3_0 : w6.cell? ⟨w2.heap.size + 1 + 1, 0, none⟩ = some (.int .i64 4) := bcell hb6 (c3_0)
        replace c3_1 : w6.cell? ⟨w2.heap.size + 1 + 1, 1, none⟩ = some (.slice (some ⟨w2.heap.size + 1, 0, none⟩) 2 2) := bcell hb6 (c3_1)
        replace c0_0 : w6.cell? ⟨w1.heap.size, 0, none⟩ = some (.int .i64 kv1) := bcell hb6 (c0_0)
        replace c0_1 : w6.cell? ⟨w1.heap.size, 1, none⟩ = some (.slice av1 nv1 qv1) := bcell hb6 (c0_1)
        replace hv2 := (hv2.below hb6)
        replace hv1 := (hv1.below hb6)
        have d1_w6 := World.block_lt_of_cell? _ _ c1_0
        have d2_w6 := World.block_lt_of_cell? _ _ c2_0
        have d3_w6 := World.block_lt_of_cell? _ _ c3_0
        have d0_w6 := World.block_lt_of_cell? _ _ c0_0
        rcases Bool.eq_false_or_eq_true (decide ((Ty.depthV t2) > (Ty.depthV t1))) with q4 | q4
        · (try rw [q4])
          go_wp2_with fail
          refine (implTypeDepth _ t2 _ _ hv2.all).mono ?_
          rintro e w7 ⟨rfl, hb7⟩
          have hi7 := Ty.depthV_bd t2
          replace hB := (bstep hB hb7)
          have zw7 := hB.size
          replace c2_0 : w7.cell? ⟨w2.heap.size + 1, 0, none⟩ = some (.int .i64 kv1) := bcell hb7 (c2_0)
          replace c2_1 : w7.cell? ⟨w2.heap.size + 1, 1, none⟩ = some (.slice av1 nv1 qv1) := bcell hb7 (c2_1)
          replace c2_2 : w7.cell? ⟨w2.heap.size + 1, 2, none⟩ = some (.int .i64 kv2) := bcell hb7 (c2_2)
          replace c2_3 : w7.cell? ⟨w2.heap.size + 1, 3, none⟩ = some (.slice av2 nv2 qv2) := bcell hb7 (c2_3)
          replace c3_0 : w7.cell? ⟨w2.heap.size + 1 + 1, 0, none⟩ = some (.int .i64 4) := bcell hb7 (c3_0)
          replace c3_1 : w7.cell? ⟨w2.heap.size + 1 + 1, 1, none⟩ = some (.slice (some ⟨w2.heap.size + 1, 0, none⟩) 2 2) := bcell hb7 (c3_1)
          replace c0_0 : w7.cell? ⟨w1.heap.size, 0, none⟩ = some (.int .i64 kv1) := bcell hb7 (c0_0)
          replace c0_1 : w7.cell? ⟨w1.heap.size, 1, none⟩ = some (.slice av1 nv1 qv1) := bcell hb7 (c0_1)
          replace c1_0 : w7.cell? ⟨w2.heap.size, 0, none⟩ = some (.int .i64 kv2) := bcell hb7 (c1_0)
          replace c1_1 : w7.cell? ⟨w2.heap.size, 1, none⟩ = some (.slice av2 nv2 qv2) := bcell hb7 (c1_1)
          replace hv1 := (hv1.below hb7)
          replace hv2 := (hv2.below hb7)
          have d2_w7 := World.block_lt_of_cell? _ _ c2_0
          have d3_w7 := World.block_lt_of_cell? _ _ c3_0
          have d0_w7 := World.block_lt_of_cell? _ _ c0_0
          have d1_w7 := World.block_lt_of_cell? _ _ c1_0
          have q5 : ((Ty.depthV (Ty.mk 4 [t1, t2])) == ((Ty.depthV t2) + 1)) = true := beq_iff_eq.2 (by have l := (law_FnTypeParts t1 t2 Hq3.out).1; have h := q4; simp at h; omega)
          have q6 : ((Ty.anyV (Ty.mk 4 [t1, t2])) == ((Ty.anyV t1) + (Ty.anyV t2))) = true := beq_iff_eq.2 (law_FnTypeParts t1 t2 Hq3.out).2.1
          rcases Bool.eq_false_or_eq_true (staticB t1) with q7 | q7
          · have Hq7 := Lib.hid q7
            clear q7
            rcases Bool.eq_false_or_eq_true (staticB t2) with q8 | q8
            · have Hq8 := Lib.hid q8
              clear q8
              go_wp2_with fail
              have hwr := IntWalk.i64_in ((Ty.depthV t2) + 1) (by have := Ty.depthV_bd t2; omega)
              have hwr := IntWalk.i64_in ((Ty.anyV t1) + (Ty.anyV t2)) (by have := Ty.anyV_bd t1; have := Ty.anyV_bd t2; omega)
              have hS0 := Lib.hid (show (World.drew w7).cell? ⟨w2.heap.size + 1 + 1, 0, none⟩ = some (.int .i64 4) ∧ (World.drew w7).cell? ⟨w2.heap.size + 1 + 1, 1, none⟩ = some (.slice (some ⟨w2.heap.size + 1, 0, none⟩) 2 2) ∧ (World.drew w7).cell? ⟨w1.heap.size, 0, none⟩ = some (.int .i64 kv1) ∧ (World.drew w7).cell? ⟨w1.heap.size, 1, none⟩ = some (.slice av1 nv1 qv1) ∧ (World.drew w7).cell? ⟨w2.heap.size, 0, none⟩ = some (.int .i64 kv2) ∧ (World.drew w7).cell? ⟨w2.heap.size, 1, none⟩ = some (.slice av2 nv2 qv2) from ⟨dcell (c3_0), dcell (c3_1), dcell (c0_0), dcell (c0_1), dcell (c1_0), dcell (c1_1)⟩)
              have hSb := Lib.hid (show ∀ X Y : World, Below X.heap.size X Y → (X.cell? ⟨w2.heap.size + 1 + 1, 0, none⟩ = some (.int .i64 4) ∧ X.cell? ⟨w2.heap.size + 1 + 1, 1, none⟩ = some (.slice (some ⟨w2.heap.size + 1, 0, none⟩) 2 2) ∧ X.cell? ⟨w1.heap.size, 0, none⟩ = some (.int .i64 kv1) ∧ X.cell? ⟨w1.heap.size, 1, none⟩ = some (.slice av1 nv1 qv1) ∧ X.cell? ⟨w2.heap.size, 0, none⟩ = some (.int .i64 kv2) ∧ X.cell? ⟨w2.heap.size, 1, none⟩ = some (.slice av2 nv2 qv2)) → (Y.cell? ⟨w2.heap.size + 1 + 1, 0, none⟩ = some (.int .i64 4) ∧ Y.cell? ⟨w2.heap.size + 1 + 1, 1, none⟩ = some (.slice (some ⟨w2.heap.size + 1, 0, none⟩) 2 2) ∧ Y.cell? ⟨w1.heap.size, 0, none⟩ = some (.int .i64 kv1) ∧ Y.cell? ⟨w1.heap.size, 1, none⟩ = some (.slice av1 nv1 qv1) ∧ Y.cell? ⟨w2.heap.size, 0, none⟩ = some (.int .i64 kv2) ∧ Y.cell? ⟨w2.heap.size, 1, none⟩ = some (.slice av2 nv2 qv2)) from fun X Y h s => ⟨bcell h s.1, bcell h s.2.1, bcell h s.2.2.1, bcell h s.2.2.2.1, bcell h s.2.2.2.2.1, bcell h s.2.2.2.2.2⟩)
              go_region_held3 (fun w' => w'.cell? ⟨w2.heap.size + 1 + 1, 0, none⟩ = some (.int .i64 4) ∧ w'.cell? ⟨w2.heap.size + 1 + 1, 1, none⟩ = some (.slice (some ⟨w2.heap.size + 1, 0, none⟩) 2 2) ∧ w'.cell? ⟨w1.heap.size, 0, none⟩ = some (.int .i64 kv1) ∧ w'.cell? ⟨w1.heap.size, 1, none⟩ = some (.slice av1 nv1 qv1) ∧ w'.cell? ⟨w2.heap.size, 0, none⟩ = some (.int .i64 kv2) ∧ w'.cell? ⟨w2.heap.size, 1, none⟩ = some (.slice av2 nv2 qv2))
                (repeat (first | with_reducible refine hSb.out _ _ hb14 ?_ | with_reducible refine hSb.out _ _ hb13 ?_ | with_reducible refine hSb.out _ _ hb12 ?_ | with_reducible refine hSb.out _ _ hb11 ?_ | with_reducible refine hSb.out _ _ hb10 ?_ | with_reducible refine hSb.out _ _ hb9 ?_ | with_reducible refine hSb.out _ _ hb8 ?_ | with_reducible exact hS0.out))
                (first | (go_at_call 44; ((with_reducible refine (implTypeDepth _ (Ty.mk 4 [t1, t2]) _ _ (TyRep.two_mk trivial (by omega) (by unfold maxLen; omega) (dcell (c2_0)) (dcell (c2_1)) (dcell (c2_2)) (dcell (c2_3)) (hv1.below bdr).all (hv2.below bdr).all)).mono ?_); rintro e w8 ⟨rfl, hb8⟩; have hi8 := Ty.depthV_bd (Ty.mk 4 [t1, t2]))) | (go_at_call 49; ((with_reducible refine (implCountAny _ (Ty.mk 4 [t1, t2]) _ _ (TyRep.two_mk trivial (by omega) (by unfold maxLen; omega) (bcell hb8 (dcell (c2_0))) (bcell hb8 (dcell (c2_1))) (bcell hb8 (dcell (c2_2))) (bcell hb8 (dcell (c2_3))) (hv1.below (bstep bdr hb8)).all (hv2.below (bstep bdr hb8)).all)).mono ?_); rintro e w9 ⟨rfl, hb9⟩; have hi9 := Ty.anyV_bd (Ty.mk 4 [t1, t2]))) | (go_at_call 49; ((with_reducible refine (implCountAny _ t1 _ _ (hv1.below (bstep (bstep bdr hb8) hb9)).all).mono ?_); rintro e w10 ⟨rfl, hb10⟩; have hi10 := Ty.anyV_bd t1)) | (go_at_call 49; ((with_reducible refine (implCountAny _ t2 _ _ (hv2.below (bstep (bstep (bstep bdr hb8) hb9) hb10)).all).mono ?_); rintro e w11 ⟨rfl, hb11⟩; have hi11 := Ty.anyV_bd t2)) | (go_at_call 42; ((with_reducible refine (implIsStaticB _ (Ty.mk 4 [t1, t2]) _ _ (TyRep.two_mk trivial (by omega) (by unfold maxLen; omega) (bcell hb11 (bcell hb10 (bcell hb9 (bcell hb8 (dcell (c2_0)))))) (bcell hb11 (bcell hb10 (bcell hb9 (bcell hb8 (dcell (c2_1)))))) (bcell hb11 (bcell hb10 (bcell hb9 (bcell hb8 (dcell (c2_2)))))) (bcell hb11 (bcell hb10 (bcell hb9 (bcell hb8 (dcell (c2_3)))))) (hv1.below (bstep (bstep (bstep (bstep bdr hb8) hb9) hb10) hb11)).all (hv2.below (bstep (bstep (bstep (bstep bdr hb8) hb9) hb10) hb11)).all)).mono ?_); rintro e w12 ⟨rfl, hb12⟩)) | (go_at_call 42; ((with_reducible refine (implIsStaticB _ t1 _ _ (hv1.below (bstep (bstep (bstep (bstep (bstep bdr hb8) hb9) hb10) hb11) hb12)).all).mono ?_); rintro e w13 ⟨rfl, hb13⟩; rw [Hq7.out])) | (go_at_call 42; ((with_reducible refine (implIsStaticB _ t2 _ _ (hv2.below (bstep (bstep (bstep (bstep (bstep (bstep bdr hb8) hb9) hb10) hb11) hb12) hb13)).all).mono ?_); rintro e w14 ⟨rfl, hb14⟩; rw [Hq8.out])))
              replace hB := (bstep (bstep (bstep (bstep (bstep (bstep (bstep hB.drew hb8) hb9) hb10) hb11) hb12) hb13) hb14)
              have zw14 := hB.size
              go_wp2_with fail
              have hE := leaf_FnTypeParts_0 Hq3.out q4 q5 q6 Hq7.out Hq8.out
              refine bodyPost_ret (v := .bool (staticB (Ty.mk 4 [t1, t2]))) (by simp [results, Try.results13, go_sem]) rfl ?_
              exact ⟨by rw [hE], hB⟩
            · have Hq8 := Lib.hid q8
              clear q8
              go_wp2_with fail
              have hwr := IntWalk.i64_in ((Ty.depthV t2) + 1) (by have := Ty.depthV_bd t2; omega)
              have hwr := IntWalk.i64_in ((Ty.anyV t1) + (Ty.anyV t2)) (by have := Ty.anyV_bd t1; have := Ty.anyV_bd t2; omega)
              have hS0 := Lib.hid (show (World.drew w7).cell? ⟨w2.heap.size + 1 + 1, 0, none⟩ = some (.int .i64 4) ∧ (World.drew w7).cell? ⟨w2.heap.size + 1 + 1, 1, none⟩ = some (.slice (some ⟨w2.heap.size + 1, 0, none⟩) 2 2) ∧ (World.drew w7).cell? ⟨w1.heap.size, 0, none⟩ = some (.int .i64 kv1) ∧ (World.drew w7).cell? ⟨w1.heap.size, 1, none⟩ = some (.slice av1 nv1 qv1) ∧ (World.drew w7).cell? ⟨w2.heap.size, 0, none⟩ = some (.int .i64 kv2) ∧ (World.drew w7).cell? ⟨w2.heap.size, 1, none⟩ = some (.slice av2 nv2 qv2) from ⟨dcell (c3_0), dcell (c3_1), dcell (c0_0), dcell (c0_1), dcell (c1_0), dcell (c1_1)⟩)
              have hSb := Lib.hid (show ∀ X Y : World, Below X.heap.size X Y → (X.cell? ⟨w2.heap.size + 1 + 1, 0, none⟩ = some (.int .i64 4) ∧ X.cell? ⟨w2.heap.size + 1 + 1, 1, none⟩ = some (.slice (some ⟨w2.heap.size + 1, 0, none⟩) 2 2) ∧ X.cell? ⟨w1.heap.size, 0, none⟩ = some (.int .i64 kv1) ∧ X.cell? ⟨w1.heap.size, 1, none⟩ = some (.slice av1 nv1 qv1) ∧ X.cell? ⟨w2.heap.size, 0, none⟩ = some (.int .i64 kv2) ∧ X.cell? ⟨w2.heap.size, 1, none⟩ = some (.slice av2 nv2 qv2)) → (Y.cell? ⟨w2.heap.size + 1 + 1, 0, none⟩ = some (.int .i64 4) ∧ Y.cell? ⟨w2.heap.size + 1 + 1, 1, none⟩ = some (.slice (some ⟨w2.heap.size + 1, 0, none⟩) 2 2) ∧ Y.cell? ⟨w1.heap.size, 0, none⟩ = some (.int .i64 kv1) ∧ Y.cell? ⟨w1.heap.size, 1, none⟩ = some (.slice av1 nv1 qv1) ∧ Y.cell? ⟨w2.heap.size, 0, none⟩ = some (.int .i64 kv2) ∧ Y.cell? ⟨w2.heap.size, 1, none⟩ = some (.slice av2 nv2 qv2)) from fun X Y h s => ⟨bcell h s.1, bcell h s.2.1, bcell h s.2.2.1, bcell h s.2.2.2.1, bcell h s.2.2.2.2.1, bcell h s.2.2.2.2.2⟩)
              go_region_held3 (fun w' => w'.cell? ⟨w2.heap.size + 1 + 1, 0, none⟩ = some (.int .i64 4) ∧ w'.cell? ⟨w2.heap.size + 1 + 1, 1, none⟩ = some (.slice (some ⟨w2.heap.size + 1, 0, none⟩) 2 2) ∧ w'.cell? ⟨w1.heap.size, 0, none⟩ = some (.int .i64 kv1) ∧ w'.cell? ⟨w1.heap.size, 1, none⟩ = some (.slice av1 nv1 qv1) ∧ w'.cell? ⟨w2.heap.size, 0, none⟩ = some (.int .i64 kv2) ∧ w'.cell? ⟨w2.heap.size, 1, none⟩ = some (.slice av2 nv2 qv2))
                (repeat (first | with_reducible refine hSb.out _ _ hb21 ?_ | with_reducible refine hSb.out _ _ hb20 ?_ | with_reducible refine hSb.out _ _ hb19 ?_ | with_reducible refine hSb.out _ _ hb18 ?_ | with_reducible refine hSb.out _ _ hb17 ?_ | with_reducible refine hSb.out _ _ hb16 ?_ | with_reducible refine hSb.out _ _ hb15 ?_ | with_reducible exact hS0.out))
                (first | (go_at_call 44; ((with_reducible refine (implTypeDepth _ (Ty.mk 4 [t1, t2]) _ _ (TyRep.two_mk trivial (by omega) (by unfold maxLen; omega) (dcell (c2_0)) (dcell (c2_1)) (dcell (c2_2)) (dcell (c2_3)) (hv1.below bdr).all (hv2.below bdr).all)).mono ?_); rintro e w15 ⟨rfl, hb15⟩; have hi15 := Ty.depthV_bd (Ty.mk 4 [t1, t2]))) | (go_at_call 49; ((with_reducible refine (implCountAny _ (Ty.mk 4 [t1, t2]) _ _ (TyRep.two_mk trivial (by omega) (by unfold maxLen; omega) (bcell hb15 (dcell (c2_0))) (bcell hb15 (dcell (c2_1))) (bcell hb15 (dcell (c2_2))) (bcell hb15 (dcell (c2_3))) (hv1.below (bstep bdr hb15)).all (hv2.below (bstep bdr hb15)).all)).mono ?_); rintro e w16 ⟨rfl, hb16⟩; have hi16 := Ty.anyV_bd (Ty.mk 4 [t1, t2]))) | (go_at_call 49; ((with_reducible refine (implCountAny _ t1 _ _ (hv1.below (bstep (bstep bdr hb15) hb16)).all).mono ?_); rintro e w17 ⟨rfl, hb17⟩; have hi17 := Ty.anyV_bd t1)) | (go_at_call 49; ((with_reducible refine (implCountAny _ t2 _ _ (hv2.below (bstep (bstep (bstep bdr hb15) hb16) hb17)).all).mono ?_); rintro e w18 ⟨rfl, hb18⟩; have hi18 := Ty.anyV_bd t2)) | (go_at_call 42; ((with_reducible refine (implIsStaticB _ (Ty.mk 4 [t1, t2]) _ _ (TyRep.two_mk trivial (by omega) (by unfold maxLen; omega) (bcell hb18 (bcell hb17 (bcell hb16 (bcell hb15 (dcell (c2_0)))))) (bcell hb18 (bcell hb17 (bcell hb16 (bcell hb15 (dcell (c2_1)))))) (bcell hb18 (bcell hb17 (bcell hb16 (bcell hb15 (dcell (c2_2)))))) (bcell hb18 (bcell hb17 (bcell hb16 (bcell hb15 (dcell (c2_3)))))) (hv1.below (bstep (bstep (bstep (bstep bdr hb15) hb16) hb17) hb18)).all (hv2.below (bstep (bstep (bstep (bstep bdr hb15) hb16) hb17) hb18)).all)).mono ?_); rintro e w19 ⟨rfl, hb19⟩)) | (go_at_call 42; ((with_reducible refine (implIsStaticB _ t1 _ _ (hv1.below (bstep (bstep (bstep (bstep (bstep bdr hb15) hb16) hb17) hb18) hb19)).all).mono ?_); rintro e w20 ⟨rfl, hb20⟩; rw [Hq7.out])) | (go_at_call 42; ((with_reducible refine (implIsStaticB _ t2 _ _ (hv2.below (bstep (bstep (bstep (bstep (bstep (bstep bdr hb15) hb16) hb17) hb18) hb19) hb20)).all).mono ?_); rintro e w21 ⟨rfl, hb21⟩; rw [Hq8.out])))
              replace hB := (bstep (bstep (bstep (bstep (bstep (bstep (bstep hB.drew hb15) hb16) hb17) hb18) hb19) hb20) hb21)
              have zw21 := hB.size
              go_wp2_with fail
              have hE := leaf_FnTypeParts_1 Hq3.out q4 q5 q6 Hq7.out Hq8.out
              refine bodyPost_ret (v := .bool (!(staticB (Ty.mk 4 [t1, t2])))) (by simp [results, Try.results13, go_sem]) rfl ?_
              exact ⟨by rw [hE], hB⟩
          · have Hq7 := Lib.hid q7
            clear q7
            go_wp2_with fail
            have hwr := IntWalk.i64_in ((Ty.depthV t2) + 1) (by have := Ty.depthV_bd t2; omega)
            have hwr := IntWalk.i64_in ((Ty.anyV t1) + (Ty.anyV t2)) (by have := Ty.anyV_bd t1; have := Ty.anyV_bd t2; omega)
            refine wp_region_noPanic ?_
            refine wp_region_held_drew (S := fun w' => w'.cell? ⟨w2.heap.size + 1 + 1, 0, none⟩ = some (.int .i64 4) ∧ w'.cell? ⟨w2.heap.size + 1 + 1, 1, none⟩ = some (.slice (some ⟨w2.heap.size + 1, 0, none⟩) 2 2) ∧ w'.cell? ⟨w1.heap.size, 0, none⟩ = some (.int .i64 kv1) ∧ w'.cell? ⟨w1.heap.size, 1, none⟩ = some (.slice av1 nv1 qv1) ∧ w'.cell? ⟨w2.heap.size, 0, none⟩ = some (.int .i64 kv2) ∧ w'.cell? ⟨w2.heap.size, 1, none⟩ = some (.slice av2 nv2 qv2)) (by kernel_rfl) ?_ (fun hHeld0 => ?_)
            · exact ⟨dcell (c3_0), dcell (c3_1), dcell (c0_0), dcell (c0_1), dcell (c1_0), dcell (c1_1)⟩
            refine wpAnyH_take (i := 0) (oi := { dst := some 46, op := Op.load 29 (Operand.tmp 7), type := 29, pos := "laws.go:219", after := #[], guard := none }) (v := .agg #[.int .i64 4, .slice (some ⟨w2.heap.size + 1, 0, none⟩) 2 2]) rfl (by kernel_rfl) (by kernel_rfl) (by kernel_rfl) (fun _ _ _ h => h) (Or.inl ⟨by rfl, ?_⟩) hHeld0 ?_
            · intro w' hSw; (try dsimp only at hSw); go_simp
            (try simp only [Act.put, List.setIfInBounds_toArray, List.set_cons_zero, List.set_cons_succ])
            refine wpAnyH_take (i := 2) (oi := { dst := some 48, op := Op.move (Operand.tmp 8), type := 3, pos := "laws.go:219", after := #[], guard := none }) (v := .int .i64 (Ty.depthV t2)) rfl (by kernel_rfl) (by kernel_rfl) (by kernel_rfl) (fun _ _ _ h => h) (Or.inl ⟨by rfl, ?_⟩) hHeld0 ?_
            · intro w' hSw; (try dsimp only at hSw); go_simp
            (try simp only [Act.put, List.setIfInBounds_toArray, List.set_cons_zero, List.set_cons_succ])
            refine wpAnyH_take (i := 3) (oi := { dst := some 49, op := Op.binOp BinOp.add 3 (Operand.tmp 48) (Operand.const (Value.int IntKind.i64 1)) 3, type := 3, pos := "laws.go:219", after := #[{ on := 2, ground := Ground.data }], guard := none }) (v := .int .i64 ((Ty.depthV t2) + 1)) rfl (by kernel_rfl) (by kernel_rfl) (by kernel_rfl) (fun _ _ _ h => h) (Or.inl ⟨by rfl, ?_⟩) hHeld0 ?_
            · intro w' hSw; (try dsimp only at hSw); go_simp
            (try simp only [Act.put, List.setIfInBounds_toArray, List.set_cons_zero, List.set_cons_succ])
            refine wpAnyH_ready (rs := [1]) (by kernel_rfl) (by simp) ?_
            refine AllReadyH.cons (o := { dst := some 47, op := Op.call { callee := Callee.value (Operand.func 44), args := #[Operand.tmp 46], argTypes := #[29] }, type := 3, pos := "laws.go:219", after := #[{ on := 0, ground := Ground.data }], guard := none }) rfl (fun K hK => ?_) AllReadyH.nil
            go_simp
            go_at_call 44
            (with_reducible refine (implTypeDepth _ (Ty.mk 4 [t1, t2]) _ _ (TyRep.two_mk trivial (by omega) (by unfold maxLen; omega) (dcell (c2_0)) (dcell (c2_1)) (dcell (c2_2)) (dcell (c2_3)) (hv1.below bdr).all (hv2.below bdr).all)).mono ?_)
            rintro e w22 ⟨rfl, hb22⟩
            have hi22 := Ty.depthV_bd (Ty.mk 4 [t1, t2])
            go_wp2_with fail
            refine hK.out _ _ ?_ (fun hHeld1 => ?_)
            · exact ⟨bcell hb22 (dcell (c3_0)), bcell hb22 (dcell (c3_1)), bcell hb22 (dcell (c0_0)), bcell hb22 (dcell (c0_1)), bcell hb22 (dcell (c1_0)), bcell hb22 (dcell (c1_1))⟩
            clear hK K hHeld0
            (try simp only [Act.put, List.setIfInBounds_toArray, List.set_cons_zero, List.set_cons_succ])
            refine wpAnyH_take (i := 4) (oi := { dst := some 50, op := Op.binOp BinOp.eql 3 (Operand.tmp 47) (Operand.tmp 49) 3, type := 4, pos := "laws.go:219", after := #[{ on := 1, ground := Ground.data }, { on := 3, ground := Ground.data }], guard := none }) (v := .bool true) rfl (by kernel_rfl) (by kernel_rfl) (by kernel_rfl) (fun _ _ _ h => h) (Or.inl ⟨by rfl, ?_⟩) hHeld1 ?_
            · intro w' hSw; (try dsimp only at hSw); go_simp
            (try simp only [Act.put, List.setIfInBounds_toArray, List.set_cons_zero, List.set_cons_succ])
            refine wpAnyH_take (i := 5) (oi := { dst := some 51, op := Op.move (Operand.tmp 50), type := 4, pos := "laws.go:219", after := #[{ on := 4, ground := Ground.data }, { on := 1, ground := Ground.chain }], guard := none }) (v := .bool true) rfl (by kernel_rfl) (by kernel_rfl) (by kernel_rfl) (fun _ _ _ h => h) (Or.inl ⟨by rfl, ?_⟩) hHeld1 ?_
            · intro w' hSw; (try dsimp only at hSw); go_simp
            (try simp only [Act.put, List.setIfInBounds_toArray, List.set_cons_zero, List.set_cons_succ])
            refine wpAnyH_take (i := 6) (oi := { dst := some 52, op := Op.load 29 (Operand.tmp 7), type := 29, pos := "laws.go:219", after := #[{ on := 5, ground := Ground.guard }], guard := some (5, true) }) (v := .agg #[.int .i64 4, .slice (some ⟨w2.heap.size + 1, 0, none⟩) 2 2]) rfl (by kernel_rfl) (by kernel_rfl) (by kernel_rfl) (fun _ _ _ h => h) (Or.inl ⟨by rfl, ?_⟩) hHeld1 ?_
            · intro w' hSw; (try dsimp only at hSw); go_simp
            (try simp only [Act.put, List.setIfInBounds_toArray, List.set_cons_zero, List.set_cons_succ])
            refine wpAnyH_take (i := 8) (oi := { dst := some 54, op := Op.load 29 (Operand.tmp 5), type := 29, pos := "laws.go:219", after := #[{ on := 5, ground := Ground.guard }], guard := some (5, true) }) (v := .agg #[.int .i64 kv1, .slice av1 nv1 qv1]) rfl (by kernel_rfl) (by kernel_rfl) (by kernel_rfl) (fun _ _ _ h => h) (Or.inl ⟨by rfl, ?_⟩) hHeld1 ?_
            · intro w' hSw; (try dsimp only at hSw); go_simp
            (try simp only [Act.put, List.setIfInBounds_toArray, List.set_cons_zero, List.set_cons_succ])
            refine wpAnyH_take (i := 10) (oi := { dst := some 56, op := Op.load 29 (Operand.tmp 6), type := 29, pos := "laws.go:219", after := #[{ on := 5, ground := Ground.guard }], guard := some (5, true) }) (v := .agg #[.int .i64 kv2, .slice av2 nv2 qv2]) rfl (by kernel_rfl) (by kernel_rfl) (by kernel_rfl) (fun _ _ _ h => h) (Or.inl ⟨by rfl, ?_⟩) hHeld1 ?_
            · intro w' hSw; (try dsimp only at hSw); go_simp
            (try simp only [Act.put, List.setIfInBounds_toArray, List.set_cons_zero, List.set_cons_succ])
            refine wpAnyH_ready (rs := [7]) (by kernel_rfl) (by simp) ?_
            refine AllReadyH.cons (o := { dst := some 53, op := Op.call { callee := Callee.value (Operand.func 49), args := #[Operand.tmp 52], argTypes := #[29] }, type := 3, pos := "laws.go:219", after := #[{ on := 6, ground := Ground.data }, { on := 5, ground := Ground.chain }, { on := 5, ground := Ground.guard }], guard := some (5, true) }) rfl (fun K hK => ?_) AllReadyH.nil
            go_simp
            go_at_call 49
            (with_reducible refine (implCountAny _ (Ty.mk 4 [t1, t2]) _ _ (TyRep.two_mk trivial (by omega) (by unfold maxLen; omega) (bcell hb22 (dcell (c2_0))) (bcell hb22 (dcell (c2_1))) (bcell hb22 (dcell (c2_2))) (bcell hb22 (dcell (c2_3))) (hv1.below (bstep bdr hb22)).all (hv2.below (bstep bdr hb22)).all)).mono ?_)
            rintro e w23 ⟨rfl, hb23⟩
            have hi23 := Ty.anyV_bd (Ty.mk 4 [t1, t2])
            go_wp2_with fail
            refine hK.out _ _ ?_ (fun hHeld2 => ?_)
            · exact ⟨bcell hb23 (bcell hb22 (dcell (c3_0))), bcell hb23 (bcell hb22 (dcell (c3_1))), bcell hb23 (bcell hb22 (dcell (c0_0))), bcell hb23 (bcell hb22 (dcell (c0_1))), bcell hb23 (bcell hb22 (dcell (c1_0))), bcell hb23 (bcell hb22 (dcell (c1_1)))⟩
            clear hK K hHeld1
            (try simp only [Act.put, List.setIfInBounds_toArray, List.set_cons_zero, List.set_cons_succ])
            refine wpAnyH_ready (rs := [9]) (by kernel_rfl) (by simp) ?_
            refine AllReadyH.cons (o := { dst := some 55, op := Op.call { callee := Callee.value (Operand.func 49), args := #[Operand.tmp 54], argTypes := #[29] }, type := 3, pos := "laws.go:219", after := #[{ on := 8, ground := Ground.data }, { on := 7, ground := Ground.chain }, { on := 5, ground := Ground.guard }], guard := some (5, true) }) rfl (fun K hK => ?_) AllReadyH.nil
            go_simp
            go_at_call 49
            (with_reducible refine (implCountAny _ t1 _ _ (hv1.below (bstep (bstep bdr hb22) hb23)).all).mono ?_)
            rintro e w24 ⟨rfl, hb24⟩
            have hi24 := Ty.anyV_bd t1
            go_wp2_with fail
            refine hK.out _ _ ?_ (fun hHeld3 => ?_)
            · exact ⟨bcell hb24 (bcell hb23 (bcell hb22 (dcell (c3_0)))), bcell hb24 (bcell hb23 (bcell hb22 (dcell (c3_1)))), bcell hb24 (bcell hb23 (bcell hb22 (dcell (c0_0)))), bcell hb24 (bcell hb23 (bcell hb22 (dcell (c0_1)))), bcell hb24 (bcell hb23 (bcell hb22 (dcell (c1_0)))), bcell hb24 (bcell hb23 (bcell hb22 (dcell (c1_1))))⟩
            clear hK K hHeld2
            (try simp only [Act.put, List.setIfInBounds_toArray, List.set_cons_zero, List.set_cons_succ])
            refine wpAnyH_ready (rs := [11]) (by kernel_rfl) (by simp) ?_
            refine AllReadyH.cons (o := { dst := some 57, op := Op.call { callee := Callee.value (Operand.func 49), args := #[Operand.tmp 56], argTypes := #[29] }, type := 3, pos := "laws.go:219", after := #[{ on := 10, ground := Ground.data }, { on := 9, ground := Ground.chain }, { on := 5, ground := Ground.guard }], guard := some (5, true) }) rfl (fun K hK => ?_) AllReadyH.nil
            go_simp
            go_at_call 49
            (with_reducible refine (implCountAny _ t2 _ _ (hv2.below (bstep (bstep (bstep bdr hb22) hb23) hb24)).all).mono ?_)
            rintro e w25 ⟨rfl, hb25⟩
            have hi25 := Ty.anyV_bd t2
            go_wp2_with fail
            refine hK.out _ _ ?_ (fun hHeld4 => ?_)
            · exact ⟨bcell hb25 (bcell hb24 (bcell hb23 (bcell hb22 (dcell (c3_0))))), bcell hb25 (bcell hb24 (bcell hb23 (bcell hb22 (dcell (c3_1))))), bcell hb25 (bcell hb24 (bcell hb23 (bcell hb22 (dcell (c0_0))))), bcell hb25 (bcell hb24 (bcell hb23 (bcell hb22 (dcell (c0_1))))), bcell hb25 (bcell hb24 (bcell hb23 (bcell hb22 (dcell (c1_0))))), bcell hb25 (bcell hb24 (bcell hb23 (bcell hb22 (dcell (c1_1)))))⟩
            clear hK K hHeld3
            (try simp only [Act.put, List.setIfInBounds_toArray, List.set_cons_zero, List.set_cons_succ])
            refine wpAnyH_take (i := 12) (oi := { dst := some 58, op := Op.binOp BinOp.add 3 (Operand.tmp 55) (Operand.tmp 57) 3, type := 3, pos := "laws.go:219", after := #[{ on := 9, ground := Ground.data }, { on := 11, ground := Ground.data }, { on := 5, ground := Ground.guard }], guard := some (5, true) }) (v := .int .i64 ((Ty.anyV t1) + (Ty.anyV t2))) rfl (by kernel_rfl) (by kernel_rfl) (by kernel_rfl) (fun _ _ _ h => h) (Or.inl ⟨by rfl, ?_⟩) hHeld4 ?_
            · intro w' hSw; (try dsimp only at hSw); go_simp
            (try simp only [Act.put, List.setIfInBounds_toArray, List.set_cons_zero, List.set_cons_succ])
            refine wpAnyH_take (i := 13) (oi := { dst := some 59, op := Op.binOp BinOp.eql 3 (Operand.tmp 53) (Operand.tmp 58) 3, type := 4, pos := "laws.go:219", after := #[{ on := 7, ground := Ground.data }, { on := 12, ground := Ground.data }, { on := 5, ground := Ground.guard }], guard := some (5, true) }) (v := .bool true) rfl (by kernel_rfl) (by kernel_rfl) (by kernel_rfl) (fun _ _ _ h => h) (Or.inl ⟨by rfl, ?_⟩) hHeld4 ?_
            · intro w' hSw; (try dsimp only at hSw); go_simp
            (try simp only [Act.put, List.setIfInBounds_toArray, List.set_cons_zero, List.set_cons_succ])
            refine wpAnyH_take (i := 14) (oi := { dst := some 60, op := Op.pick (Operand.tmp 51) (Operand.tmp 59) (Operand.const (Value.bool false)), type := 4, pos := "laws.go:219", after := #[{ on := 5, ground := Ground.data }, { on := 13, ground := Ground.data }], guard := none }) (v := .bool true) rfl (by kernel_rfl) (by kernel_rfl) (by kernel_rfl) (fun _ _ _ h => h) (Or.inl ⟨by rfl, ?_⟩) hHeld4 ?_
            · intro w' hSw; (try dsimp only at hSw); go_simp
            (try simp only [Act.put, List.setIfInBounds_toArray, List.set_cons_zero, List.set_cons_succ])
            refine wpAnyH_take (i := 15) (oi := { dst := some 61, op := Op.move (Operand.tmp 60), type := 4, pos := "laws.go:219", after := #[{ on := 14, ground := Ground.data }, { on := 11, ground := Ground.chain }], guard := none }) (v := .bool true) rfl (by kernel_rfl) (by kernel_rfl) (by kernel_rfl) (fun _ _ _ h => h) (Or.inl ⟨by rfl, ?_⟩) hHeld4 ?_
            · intro w' hSw; (try dsimp only at hSw); go_simp
            (try simp only [Act.put, List.setIfInBounds_toArray, List.set_cons_zero, List.set_cons_succ])
            refine wpAnyH_take (i := 16) (oi := { dst := some 62, op := Op.load 29 (Operand.tmp 7), type := 29, pos := "laws.go:219", after := #[{ on := 15, ground := Ground.guard }], guard := some (15, true) }) (v := .agg #[.int .i64 4, .slice (some ⟨w2.heap.size + 1, 0, none⟩) 2 2]) rfl (by kernel_rfl) (by kernel_rfl) (by kernel_rfl) (fun _ _ _ h => h) (Or.inl ⟨by rfl, ?_⟩) hHeld4 ?_
            · intro w' hSw; (try dsimp only at hSw); go_simp
            (try simp only [Act.put, List.setIfInBounds_toArray, List.set_cons_zero, List.set_cons_succ])
            refine wpAnyH_take (i := 18) (oi := { dst := some 64, op := Op.load 29 (Operand.tmp 5), type := 29, pos := "laws.go:219", after := #[{ on := 15, ground := Ground.guard }], guard := some (15, true) }) (v := .agg #[.int .i64 kv1, .slice av1 nv1 qv1]) rfl (by kernel_rfl) (by kernel_rfl) (by kernel_rfl) (fun _ _ _ h => h) (Or.inl ⟨by rfl, ?_⟩) hHeld4 ?_
            · intro w' hSw; (try dsimp only at hSw); go_simp
            (try simp only [Act.put, List.setIfInBounds_toArray, List.set_cons_zero, List.set_cons_succ])
            refine wpAnyH_ready (rs := [17]) (by kernel_rfl) (by simp) ?_
            refine AllReadyH.cons (o := { dst := some 63, op := Op.call { callee := Callee.value (Operand.func 42), args := #[Operand.tmp 62], argTypes := #[29] }, type := 4, pos := "laws.go:219", after := #[{ on := 16, ground := Ground.data }, { on := 15, ground := Ground.chain }, { on := 15, ground := Ground.guard }], guard := some (15, true) }) rfl (fun K hK => ?_) AllReadyH.nil
            go_simp
            go_at_call 42
            (with_reducible refine (implIsStaticB _ (Ty.mk 4 [t1, t2]) _ _ (TyRep.two_mk trivial (by omega) (by unfold maxLen; omega) (bcell hb25 (bcell hb24 (bcell hb23 (bcell hb22 (dcell (c2_0)))))) (bcell hb25 (bcell hb24 (bcell hb23 (bcell hb22 (dcell (c2_1)))))) (bcell hb25 (bcell hb24 (bcell hb23 (bcell hb22 (dcell (c2_2)))))) (bcell hb25 (bcell hb24 (bcell hb23 (bcell hb22 (dcell (c2_3)))))) (hv1.below (bstep (bstep (bstep (bstep bdr hb22) hb23) hb24) hb25)).all (hv2.below (bstep (bstep (bstep (bstep bdr hb22) hb23) hb24) hb25)).all)).mono ?_)
            rintro e w26 ⟨rfl, hb26⟩
            go_wp2_with fail
            refine hK.out _ _ ?_ (fun hHeld5 => ?_)
            · exact ⟨bcell hb26 (bcell hb25 (bcell hb24 (bcell hb23 (bcell hb22 (dcell (c3_0)))))), bcell hb26 (bcell hb25 (bcell hb24 (bcell hb23 (bcell hb22 (dcell (c3_1)))))), bcell hb26 (bcell hb25 (bcell hb24 (bcell hb23 (bcell hb22 (dcell (c0_0)))))), bcell hb26 (bcell hb25 (bcell hb24 (bcell hb23 (bcell hb22 (dcell (c0_1)))))), bcell hb26 (bcell hb25 (bcell hb24 (bcell hb23 (bcell hb22 (dcell (c1_0)))))), bcell hb26 (bcell hb25 (bcell hb24 (bcell hb23 (bcell hb22 (dcell (c1_1))))))⟩
            clear hK K hHeld4
            (try simp only [Act.put, List.setIfInBounds_toArray, List.set_cons_zero, List.set_cons_succ])
            refine wpAnyH_ready (rs := [19]) (by kernel_rfl) (by simp) ?_
            refine AllReadyH.cons (o := { dst := some 65, op := Op.call { callee := Callee.value (Operand.func 42), args := #[Operand.tmp 64], argTypes := #[29] }, type := 4, pos := "laws.go:219", after := #[{ on := 18, ground := Ground.data }, { on := 17, ground := Ground.chain }, { on := 15, ground := Ground.guard }], guard := some (15, true) }) rfl (fun K hK => ?_) AllReadyH.nil
            go_simp
            go_at_call 42
            (with_reducible refine (implIsStaticB _ t1 _ _ (hv1.below (bstep (bstep (bstep (bstep (bstep bdr hb22) hb23) hb24) hb25) hb26)).all).mono ?_)
            rintro e w27 ⟨rfl, hb27⟩
            rw [Hq7.out]
            go_wp2_with fail
            refine hK.out _ _ ?_ (fun hHeld6 => ?_)
            · exact ⟨bcell hb27 (bcell hb26 (bcell hb25 (bcell hb24 (bcell hb23 (bcell hb22 (dcell (c3_0))))))), bcell hb27 (bcell hb26 (bcell hb25 (bcell hb24 (bcell hb23 (bcell hb22 (dcell (c3_1))))))), bcell hb27 (bcell hb26 (bcell hb25 (bcell hb24 (bcell hb23 (bcell hb22 (dcell (c0_0))))))), bcell hb27 (bcell hb26 (bcell hb25 (bcell hb24 (bcell hb23 (bcell hb22 (dcell (c0_1))))))), bcell hb27 (bcell hb26 (bcell hb25 (bcell hb24 (bcell hb23 (bcell hb22 (dcell (c1_0))))))), bcell hb27 (bcell hb26 (bcell hb25 (bcell hb24 (bcell hb23 (bcell hb22 (dcell (c1_1)))))))⟩
            clear hK K hHeld5
            (try simp only [Act.put, List.setIfInBounds_toArray, List.set_cons_zero, List.set_cons_succ])
            refine wpAnyH_take (i := 20) (oi := { dst := some 66, op := Op.move (Operand.tmp 65), type := 4, pos := "laws.go:219", after := #[{ on := 19, ground := Ground.data }, { on := 19, ground := Ground.chain }, { on := 15, ground := Ground.guard }], guard := some (15, true) }) (v := .bool false) rfl (by kernel_rfl) (by kernel_rfl) (by kernel_rfl) (fun _ _ _ h => h) (Or.inl ⟨by rfl, ?_⟩) hHeld6 ?_
            · intro w' hSw; (try dsimp only at hSw); go_simp
            (try simp only [Act.put, List.setIfInBounds_toArray, List.set_cons_zero, List.set_cons_succ])
            refine wpAnyH_take (i := 21) (oi := { dst := some 67, op := Op.load 29 (Operand.tmp 6), type := 29, pos := "laws.go:219", after := #[{ on := 20, ground := Ground.guard }], guard := some (20, true) }) (v := undef) rfl (by kernel_rfl) (by kernel_rfl) (by kernel_rfl) (fun _ _ _ h => h) (Or.inr ⟨by rfl, rfl⟩) hHeld6 ?_
            (try simp only [Act.put, List.setIfInBounds_toArray, List.set_cons_zero, List.set_cons_succ])
            refine wpAnyH_take (i := 22) (oi := { dst := some 68, op := Op.call { callee := Callee.value (Operand.func 42), args := #[Operand.tmp 67], argTypes := #[29] }, type := 4, pos := "laws.go:219", after := #[{ on := 21, ground := Ground.data }, { on := 20, ground := Ground.chain }, { on := 20, ground := Ground.guard }], guard := some (20, true) }) (v := undef) rfl (by kernel_rfl) (by kernel_rfl) (by kernel_rfl) (fun _ _ _ h => h) (Or.inr ⟨by rfl, rfl⟩) hHeld6 ?_
            (try simp only [Act.put, List.setIfInBounds_toArray, List.set_cons_zero, List.set_cons_succ])
            refine wpAnyH_take (i := 23) (oi := { dst := some 69, op := Op.pick (Operand.tmp 66) (Operand.tmp 68) (Operand.const (Value.bool false)), type := 4, pos := "laws.go:219", after := #[{ on := 20, ground := Ground.data }, { on := 22, ground := Ground.data }, { on := 15, ground := Ground.guard }], guard := some (15, true) }) (v := .bool false) rfl (by kernel_rfl) (by kernel_rfl) (by kernel_rfl) (fun _ _ _ h => h) (Or.inl ⟨by rfl, ?_⟩) hHeld6 ?_
            · intro w' hSw; (try dsimp only at hSw); go_simp
            (try simp only [Act.put, List.setIfInBounds_toArray, List.set_cons_zero, List.set_cons_succ])
            refine wpAnyH_take (i := 24) (oi := { dst := some 70, op := Op.binOp BinOp.eql 4 (Operand.tmp 63) (Operand.tmp 69) 4, type := 4, pos := "laws.go:219", after := #[{ on := 17, ground := Ground.data }, { on := 23, ground := Ground.data }, { on := 15, ground := Ground.guard }], guard := some (15, true) }) (v := .bool (!(staticB (Ty.mk 4 [t1, t2])))) rfl (by kernel_rfl) (by kernel_rfl) (by kernel_rfl) (fun _ _ _ h => h) (Or.inl ⟨by rfl, ?_⟩) hHeld6 ?_
            · intro w' hSw; (try dsimp only at hSw); go_simp
            (try simp only [Act.put, List.setIfInBounds_toArray, List.set_cons_zero, List.set_cons_succ])
            refine wpAnyH_take (i := 25) (oi := { dst := some 71, op := Op.pick (Operand.tmp 61) (Operand.tmp 70) (Operand.const (Value.bool false)), type := 4, pos := "laws.go:219", after := #[{ on := 15, ground := Ground.data }, { on := 24, ground := Ground.data }], guard := none }) (v := .bool (!(staticB (Ty.mk 4 [t1, t2])))) rfl (by kernel_rfl) (by kernel_rfl) (by kernel_rfl) (fun _ _ _ h => h) (Or.inl ⟨by rfl, ?_⟩) hHeld6 ?_
            · intro w' hSw; (try dsimp only at hSw); go_simp
            (try simp only [Act.put, List.setIfInBounds_toArray, List.set_cons_zero, List.set_cons_succ])
            refine wpAnyH_take (i := 26) (oi := { dst := some 4, op := Op.assign (Operand.tmp 71), type := 4, pos := "laws.go:219", after := #[{ on := 25, ground := Ground.data }, { on := 22, ground := Ground.chain }, { on := 0, ground := Ground.phase }, { on := 1, ground := Ground.phase }, { on := 2, ground := Ground.phase }, { on := 3, ground := Ground.phase }, { on := 4, ground := Ground.phase }, { on := 5, ground := Ground.phase }, { on := 6, ground := Ground.phase }, { on := 7, ground := Ground.phase }, { on := 8, ground := Ground.phase }, { on := 9, ground := Ground.phase }, { on := 10, ground := Ground.phase }, { on := 11, ground := Ground.phase }, { on := 12, ground := Ground.phase }, { on := 13, ground := Ground.phase }, { on := 14, ground := Ground.phase }, { on := 15, ground := Ground.phase }, { on := 16, ground := Ground.phase }, { on := 17, ground := Ground.phase }, { on := 18, ground := Ground.phase }, { on := 19, ground := Ground.phase }, { on := 20, ground := Ground.phase }, { on := 21, ground := Ground.phase }, { on := 22, ground := Ground.phase }, { on := 23, ground := Ground.phase }, { on := 24, ground := Ground.phase }, { on := 25, ground := Ground.phase }], guard := none }) (v := .bool (!(staticB (Ty.mk 4 [t1, t2])))) rfl (by kernel_rfl) (by kernel_rfl) (by kernel_rfl) (fun _ _ _ h => h) (Or.inl ⟨by rfl, ?_⟩) hHeld6 ?_
            · intro w' hSw; (try dsimp only at hSw); go_simp
            (try simp only [Act.put, List.setIfInBounds_toArray, List.set_cons_zero, List.set_cons_succ])
            refine wpAnyH_done (by kernel_rfl) ?_ _
            refine NoPanic.normal ?_
            clear hHeld6
            replace hB := (bstep (bstep (bstep (bstep (bstep (bstep hB.drew hb22) hb23) hb24) hb25) hb26) hb27)
            have zw27 := hB.size
            go_wp2_with fail
            have hE := leaf_FnTypeParts_2 Hq3.out q4 q5 q6 Hq7.out
            refine bodyPost_ret (v := .bool (!(staticB (Ty.mk 4 [t1, t2])))) (by simp [results, Try.results13, go_sem]) rfl ?_
            exact ⟨by rw [hE], hB⟩
        · (try rw [q4])
          have q9 : ((Ty.depthV (Ty.mk 4 [t1, t2])) == ((Ty.depthV t1) + 1)) = true := beq_iff_eq.2 (by have l := (law_FnTypeParts t1 t2 Hq3.out).1; have h := q4; simp at h; omega)
          have q10 : ((Ty.anyV (Ty.mk 4 [t1, t2])) == ((Ty.anyV t1) + (Ty.anyV t2))) = true := beq_iff_eq.2 (law_FnTypeParts t1 t2 Hq3.out).2.1
          rcases Bool.eq_false_or_eq_true (staticB t1) with q11 | q11
          · have Hq11 := Lib.hid q11
            clear q11
            rcases Bool.eq_false_or_eq_true (staticB t2) with q12 | q12
            · have Hq12 := Lib.hid q12
              clear q12
              go_wp2_with fail
              have hwr := IntWalk.i64_in ((Ty.depthV t1) + 1) (by have := Ty.depthV_bd t1; omega)
              have hwr := IntWalk.i64_in ((Ty.anyV t1) + (Ty.anyV t2)) (by have := Ty.anyV_bd t1; have := Ty.anyV_bd t2; omega)
              have hS0 := Lib.hid (show (World.drew w6).cell? ⟨w2.heap.size + 1 + 1, 0, none⟩ = some (.int .i64 4) ∧ (World.drew w6).cell? ⟨w2.heap.size + 1 + 1, 1, none⟩ = some (.slice (some ⟨w2.heap.size + 1, 0, none⟩) 2 2) ∧ (World.drew w6).cell? ⟨w1.heap.size, 0, none⟩ = some (.int .i64 kv1) ∧ (World.drew w6).cell? ⟨w1.heap.size, 1, none⟩ = some (.slice av1 nv1 qv1) ∧ (World.drew w6).cell? ⟨w2.heap.size, 0, none⟩ = some (.int .i64 kv2) ∧ (World.drew w6).cell? ⟨w2.heap.size, 1, none⟩ = some (.slice av2 nv2 qv2) from ⟨dcell (c3_0), dcell (c3_1), dcell (c0_0), dcell (c0_1), dcell (c1_0), dcell (c1_1)⟩)
              have hSb := Lib.hid (show ∀ X Y : World, Below X.heap.size X Y → (X.cell? ⟨w2.heap.size + 1 + 1, 0, none⟩ = some (.int .i64 4) ∧ X.cell? ⟨w2.heap.size + 1 + 1, 1, none⟩ = some (.slice (some ⟨w2.heap.size + 1, 0, none⟩) 2 2) ∧ X.cell? ⟨w1.heap.size, 0, none⟩ = some (.int .i64 kv1) ∧ X.cell? ⟨w1.heap.size, 1, none⟩ = some (.slice av1 nv1 qv1) ∧ X.cell? ⟨w2.heap.size, 0, none⟩ = some (.int .i64 kv2) ∧ X.cell? ⟨w2.heap.size, 1, none⟩ = some (.slice av2 nv2 qv2)) → (Y.cell? ⟨w2.heap.size + 1 + 1, 0, none⟩ = some (.int .i64 4) ∧ Y.cell? ⟨w2.heap.size + 1 + 1, 1, none⟩ = some (.slice (some ⟨w2.heap.size + 1, 0, none⟩) 2 2) ∧ Y.cell? ⟨w1.heap.size, 0, none⟩ = some (.int .i64 kv1) ∧ Y.cell? ⟨w1.heap.size, 1, none⟩ = some (.slice av1 nv1 qv1) ∧ Y.cell? ⟨w2.heap.size, 0, none⟩ = some (.int .i64 kv2) ∧ Y.cell? ⟨w2.heap.size, 1, none⟩ = some (.slice av2 nv2 qv2)) from fun X Y h s => ⟨bcell h s.1, bcell h s.2.1, bcell h s.2.2.1, bcell h s.2.2.2.1, bcell h s.2.2.2.2.1, bcell h s.2.2.2.2.2⟩)
              go_region_held3 (fun w' => w'.cell? ⟨w2.heap.size + 1 + 1, 0, none⟩ = some (.int .i64 4) ∧ w'.cell? ⟨w2.heap.size + 1 + 1, 1, none⟩ = some (.slice (some ⟨w2.heap.size + 1, 0, none⟩) 2 2) ∧ w'.cell? ⟨w1.heap.size, 0, none⟩ = some (.int .i64 kv1) ∧ w'.cell? ⟨w1.heap.size, 1, none⟩ = some (.slice av1 nv1 qv1) ∧ w'.cell? ⟨w2.heap.size, 0, none⟩ = some (.int .i64 kv2) ∧ w'.cell? ⟨w2.heap.size, 1, none⟩ = some (.slice av2 nv2 qv2))
                (repeat (first | with_reducible refine hSb.out _ _ hb34 ?_ | with_reducible refine hSb.out _ _ hb33 ?_ | with_reducible refine hSb.out _ _ hb32 ?_ | with_reducible refine hSb.out _ _ hb31 ?_ | with_reducible refine hSb.out _ _ hb30 ?_ | with_reducible refine hSb.out _ _ hb29 ?_ | with_reducible refine hSb.out _ _ hb28 ?_ | with_reducible exact hS0.out))
                (first | (go_at_call 44; ((with_reducible refine (implTypeDepth _ (Ty.mk 4 [t1, t2]) _ _ (TyRep.two_mk trivial (by omega) (by unfold maxLen; omega) (dcell (c2_0)) (dcell (c2_1)) (dcell (c2_2)) (dcell (c2_3)) (hv1.below bdr).all (hv2.below bdr).all)).mono ?_); rintro e w28 ⟨rfl, hb28⟩; have hi28 := Ty.depthV_bd (Ty.mk 4 [t1, t2]))) | (go_at_call 49; ((with_reducible refine (implCountAny _ (Ty.mk 4 [t1, t2]) _ _ (TyRep.two_mk trivial (by omega) (by unfold maxLen; omega) (bcell hb28 (dcell (c2_0))) (bcell hb28 (dcell (c2_1))) (bcell hb28 (dcell (c2_2))) (bcell hb28 (dcell (c2_3))) (hv1.below (bstep bdr hb28)).all (hv2.below (bstep bdr hb28)).all)).mono ?_); rintro e w29 ⟨rfl, hb29⟩; have hi29 := Ty.anyV_bd (Ty.mk 4 [t1, t2]))) | (go_at_call 49; ((with_reducible refine (implCountAny _ t1 _ _ (hv1.below (bstep (bstep bdr hb28) hb29)).all).mono ?_); rintro e w30 ⟨rfl, hb30⟩; have hi30 := Ty.anyV_bd t1)) | (go_at_call 49; ((with_reducible refine (implCountAny _ t2 _ _ (hv2.below (bstep (bstep (bstep bdr hb28) hb29) hb30)).all).mono ?_); rintro e w31 ⟨rfl, hb31⟩; have hi31 := Ty.anyV_bd t2)) | (go_at_call 42; ((with_reducible refine (implIsStaticB _ (Ty.mk 4 [t1, t2]) _ _ (TyRep.two_mk trivial (by omega) (by unfold maxLen; omega) (bcell hb31 (bcell hb30 (bcell hb29 (bcell hb28 (dcell (c2_0)))))) (bcell hb31 (bcell hb30 (bcell hb29 (bcell hb28 (dcell (c2_1)))))) (bcell hb31 (bcell hb30 (bcell hb29 (bcell hb28 (dcell (c2_2)))))) (bcell hb31 (bcell hb30 (bcell hb29 (bcell hb28 (dcell (c2_3)))))) (hv1.below (bstep (bstep (bstep (bstep bdr hb28) hb29) hb30) hb31)).all (hv2.below (bstep (bstep (bstep (bstep bdr hb28) hb29) hb30) hb31)).all)).mono ?_); rintro e w32 ⟨rfl, hb32⟩)) | (go_at_call 42; ((with_reducible refine (implIsStaticB _ t1 _ _ (hv1.below (bstep (bstep (bstep (bstep (bstep bdr hb28) hb29) hb30) hb31) hb32)).all).mono ?_); rintro e w33 ⟨rfl, hb33⟩; rw [Hq11.out])) | (go_at_call 42; ((with_reducible refine (implIsStaticB _ t2 _ _ (hv2.below (bstep (bstep (bstep (bstep (bstep (bstep bdr hb28) hb29) hb30) hb31) hb32) hb33)).all).mono ?_); rintro e w34 ⟨rfl, hb34⟩; rw [Hq12.out])))
              replace hB := (bstep (bstep (bstep (bstep (bstep (bstep (bstep hB.drew hb28) hb29) hb30) hb31) hb32) hb33) hb34)
              have zw34 := hB.size
              go_wp2_with fail
              have hE := leaf_FnTypeParts_3 Hq3.out q4 q9 q10 Hq11.out Hq12.out
              refine bodyPost_ret (v := .bool (staticB (Ty.mk 4 [t1, t2]))) (by simp [results, Try.results13, go_sem]) rfl ?_
              exact ⟨by rw [hE], hB⟩
            · have Hq12 := Lib.hid q12
              clear q12
              go_wp2_with fail
              have hwr := IntWalk.i64_in ((Ty.depthV t1) + 1) (by have := Ty.depthV_bd t1; omega)
              have hwr := IntWalk.i64_in ((Ty.anyV t1) + (Ty.anyV t2)) (by have := Ty.anyV_bd t1; have := Ty.anyV_bd t2; omega)
              have hS0 := Lib.hid (show (World.drew w6).cell? ⟨w2.heap.size + 1 + 1, 0, none⟩ = some (.int .i64 4) ∧ (World.drew w6).cell? ⟨w2.heap.size + 1 + 1, 1, none⟩ = some (.slice (some ⟨w2.heap.size + 1, 0, none⟩) 2 2) ∧ (World.drew w6).cell? ⟨w1.heap.size, 0, none⟩ = some (.int .i64 kv1) ∧ (World.drew w6).cell? ⟨w1.heap.size, 1, none⟩ = some (.slice av1 nv1 qv1) ∧ (World.drew w6).cell? ⟨w2.heap.size, 0, none⟩ = some (.int .i64 kv2) ∧ (World.drew w6).cell? ⟨w2.heap.size, 1, none⟩ = some (.slice av2 nv2 qv2) from ⟨dcell (c3_0), dcell (c3_1), dcell (c0_0), dcell (c0_1), dcell (c1_0), dcell (c1_1)⟩)
              have hSb := Lib.hid (show ∀ X Y : World, Below X.heap.size X Y → (X.cell? ⟨w2.heap.size + 1 + 1, 0, none⟩ = some (.int .i64 4) ∧ X.cell? ⟨w2.heap.size + 1 + 1, 1, none⟩ = some (.slice (some ⟨w2.heap.size + 1, 0, none⟩) 2 2) ∧ X.cell? ⟨w1.heap.size, 0, none⟩ = some (.int .i64 kv1) ∧ X.cell? ⟨w1.heap.size, 1, none⟩ = some (.slice av1 nv1 qv1) ∧ X.cell? ⟨w2.heap.size, 0, none⟩ = some (.int .i64 kv2) ∧ X.cell? ⟨w2.heap.size, 1, none⟩ = some (.slice av2 nv2 qv2)) → (Y.cell? ⟨w2.heap.size + 1 + 1, 0, none⟩ = some (.int .i64 4) ∧ Y.cell? ⟨w2.heap.size + 1 + 1, 1, none⟩ = some (.slice (some ⟨w2.heap.size + 1, 0, none⟩) 2 2) ∧ Y.cell? ⟨w1.heap.size, 0, none⟩ = some (.int .i64 kv1) ∧ Y.cell? ⟨w1.heap.size, 1, none⟩ = some (.slice av1 nv1 qv1) ∧ Y.cell? ⟨w2.heap.size, 0, none⟩ = some (.int .i64 kv2) ∧ Y.cell? ⟨w2.heap.size, 1, none⟩ = some (.slice av2 nv2 qv2)) from fun X Y h s => ⟨bcell h s.1, bcell h s.2.1, bcell h s.2.2.1, bcell h s.2.2.2.1, bcell h s.2.2.2.2.1, bcell h s.2.2.2.2.2⟩)
              go_region_held3 (fun w' => w'.cell? ⟨w2.heap.size + 1 + 1, 0, none⟩ = some (.int .i64 4) ∧ w'.cell? ⟨w2.heap.size + 1 + 1, 1, none⟩ = some (.slice (some ⟨w2.heap.size + 1, 0, none⟩) 2 2) ∧ w'.cell? ⟨w1.heap.size, 0, none⟩ = some (.int .i64 kv1) ∧ w'.cell? ⟨w1.heap.size, 1, none⟩ = some (.slice av1 nv1 qv1) ∧ w'.cell? ⟨w2.heap.size, 0, none⟩ = some (.int .i64 kv2) ∧ w'.cell? ⟨w2.heap.size, 1, none⟩ = some (.slice av2 nv2 qv2))
                (repeat (first | with_reducible refine hSb.out _ _ hb41 ?_ | with_reducible refine hSb.out _ _ hb40 ?_ | with_reducible refine hSb.out _ _ hb39 ?_ | with_reducible refine hSb.out _ _ hb38 ?_ | with_reducible refine hSb.out _ _ hb37 ?_ | with_reducible refine hSb.out _ _ hb36 ?_ | with_reducible refine hSb.out _ _ hb35 ?_ | with_reducible exact hS0.out))
                (first | (go_at_call 44; ((with_reducible refine (implTypeDepth _ (Ty.mk 4 [t1, t2]) _ _ (TyRep.two_mk trivial (by omega) (by unfold maxLen; omega) (dcell (c2_0)) (dcell (c2_1)) (dcell (c2_2)) (dcell (c2_3)) (hv1.below bdr).all (hv2.below bdr).all)).mono ?_); rintro e w35 ⟨rfl, hb35⟩; have hi35 := Ty.depthV_bd (Ty.mk 4 [t1, t2]))) | (go_at_call 49; ((with_reducible refine (implCountAny _ (Ty.mk 4 [t1, t2]) _ _ (TyRep.two_mk trivial (by omega) (by unfold maxLen; omega) (bcell hb35 (dcell (c2_0))) (bcell hb35 (dcell (c2_1))) (bcell hb35 (dcell (c2_2))) (bcell hb35 (dcell (c2_3))) (hv1.below (bstep bdr hb35)).all (hv2.below (bstep bdr hb35)).all)).mono ?_); rintro e w36 ⟨rfl, hb36⟩; have hi36 := Ty.anyV_bd (Ty.mk 4 [t1, t2]))) | (go_at_call 49; ((with_reducible refine (implCountAny _ t1 _ _ (hv1.below (bstep (bstep bdr hb35) hb36)).all).mono ?_); rintro e w37 ⟨rfl, hb37⟩; have hi37 := Ty.anyV_bd t1)) | (go_at_call 49; ((with_reducible refine (implCountAny _ t2 _ _ (hv2.below (bstep (bstep (bstep bdr hb35) hb36) hb37)).all).mono ?_); rintro e w38 ⟨rfl, hb38⟩; have hi38 := Ty.anyV_bd t2)) | (go_at_call 42; ((with_reducible refine (implIsStaticB _ (Ty.mk 4 [t1, t2]) _ _ (TyRep.two_mk trivial (by omega) (by unfold maxLen; omega) (bcell hb38 (bcell hb37 (bcell hb36 (bcell hb35 (dcell (c2_0)))))) (bcell hb38 (bcell hb37 (bcell hb36 (bcell hb35 (dcell (c2_1)))))) (bcell hb38 (bcell hb37 (bcell hb36 (bcell hb35 (dcell (c2_2)))))) (bcell hb38 (bcell hb37 (bcell hb36 (bcell hb35 (dcell (c2_3)))))) (hv1.below (bstep (bstep (bstep (bstep bdr hb35) hb36) hb37) hb38)).all (hv2.below (bstep (bstep (bstep (bstep bdr hb35) hb36) hb37) hb38)).all)).mono ?_); rintro e w39 ⟨rfl, hb39⟩)) | (go_at_call 42; ((with_reducible refine (implIsStaticB _ t1 _ _ (hv1.below (bstep (bstep (bstep (bstep (bstep bdr hb35) hb36) hb37) hb38) hb39)).all).mono ?_); rintro e w40 ⟨rfl, hb40⟩; rw [Hq11.out])) | (go_at_call 42; ((with_reducible refine (implIsStaticB _ t2 _ _ (hv2.below (bstep (bstep (bstep (bstep (bstep (bstep bdr hb35) hb36) hb37) hb38) hb39) hb40)).all).mono ?_); rintro e w41 ⟨rfl, hb41⟩; rw [Hq12.out])))
              replace hB := (bstep (bstep (bstep (bstep (bstep (bstep (bstep hB.drew hb35) hb36) hb37) hb38) hb39) hb40) hb41)
              have zw41 := hB.size
              go_wp2_with fail
              have hE := leaf_FnTypeParts_4 Hq3.out q4 q9 q10 Hq11.out Hq12.out
              refine bodyPost_ret (v := .bool (!(staticB (Ty.mk 4 [t1, t2])))) (by simp [results, Try.results13, go_sem]) rfl ?_
              exact ⟨by rw [hE], hB⟩
          · have Hq11 := Lib.hid q11
            clear q11
            go_wp2_with fail
            have hwr := IntWalk.i64_in ((Ty.depthV t1) + 1) (by have := Ty.depthV_bd t1; omega)
            have hwr := IntWalk.i64_in ((Ty.anyV t1) + (Ty.anyV t2)) (by have := Ty.anyV_bd t1; have := Ty.anyV_bd t2; omega)
            refine wp_region_noPanic ?_
            refine wp_region_held_drew (S := fun w' => w'.cell? ⟨w2.heap.size + 1 + 1, 0, none⟩ = some (.int .i64 4) ∧ w'.cell? ⟨w2.heap.size + 1 + 1, 1, none⟩ = some (.slice (some ⟨w2.heap.size + 1, 0, none⟩) 2 2) ∧ w'.cell? ⟨w1.heap.size, 0, none⟩ = some (.int .i64 kv1) ∧ w'.cell? ⟨w1.heap.size, 1, none⟩ = some (.slice av1 nv1 qv1) ∧ w'.cell? ⟨w2.heap.size, 0, none⟩ = some (.int .i64 kv2) ∧ w'.cell? ⟨w2.heap.size, 1, none⟩ = some (.slice av2 nv2 qv2)) (by kernel_rfl) ?_ (fun hHeld0 => ?_)
            · exact ⟨dcell (c3_0), dcell (c3_1), dcell (c0_0), dcell (c0_1), dcell (c1_0), dcell (c1_1)⟩
            refine wpAnyH_take (i := 0) (oi := { dst := some 46, op := Op.load 29 (Operand.tmp 7), type := 29, pos := "laws.go:219", after := #[], guard := none }) (v := .agg #[.int .i64 4, .slice (some ⟨w2.heap.size + 1, 0, none⟩) 2 2]) rfl (by kernel_rfl) (by kernel_rfl) (by kernel_rfl) (fun _ _ _ h => h) (Or.inl ⟨by rfl, ?_⟩) hHeld0 ?_
            · intro w' hSw; (try dsimp only at hSw); go_simp
            (try simp only [Act.put, List.setIfInBounds_toArray, List.set_cons_zero, List.set_cons_succ])
            refine wpAnyH_take (i := 2) (oi := { dst := some 48, op := Op.move (Operand.tmp 8), type := 3, pos := "laws.go:219", after := #[], guard := none }) (v := .int .i64 (Ty.depthV t1)) rfl (by kernel_rfl) (by kernel_rfl) (by kernel_rfl) (fun _ _ _ h => h) (Or.inl ⟨by rfl, ?_⟩) hHeld0 ?_
            · intro w' hSw; (try dsimp only at hSw); go_simp
            (try simp only [Act.put, List.setIfInBounds_toArray, List.set_cons_zero, List.set_cons_succ])
            refine wpAnyH_take (i := 3) (oi := { dst := some 49, op := Op.binOp BinOp.add 3 (Operand.tmp 48) (Operand.const (Value.int IntKind.i64 1)) 3, type := 3, pos := "laws.go:219", after := #[{ on := 2, ground := Ground.data }], guard := none }) (v := .int .i64 ((Ty.depthV t1) + 1)) rfl (by kernel_rfl) (by kernel_rfl) (by kernel_rfl) (fun _ _ _ h => h) (Or.inl ⟨by rfl, ?_⟩) hHeld0 ?_
            · intro w' hSw; (try dsimp only at hSw); go_simp
            (try simp only [Act.put, List.setIfInBounds_toArray, List.set_cons_zero, List.set_cons_succ])
            refine wpAnyH_ready (rs := [1]) (by kernel_rfl) (by simp) ?_
            refine AllReadyH.cons (o := { dst := some 47, op := Op.call { callee := Callee.value (Operand.func 44), args := #[Operand.tmp 46], argTypes := #[29] }, type := 3, pos := "laws.go:219", after := #[{ on := 0, ground := Ground.data }], guard := none }) rfl (fun K hK => ?_) AllReadyH.nil
            go_simp
            go_at_call 44
            (with_reducible refine (implTypeDepth _ (Ty.mk 4 [t1, t2]) _ _ (TyRep.two_mk trivial (by omega) (by unfold maxLen; omega) (dcell (c2_0)) (dcell (c2_1)) (dcell (c2_2)) (dcell (c2_3)) (hv1.below bdr).all (hv2.below bdr).all)).mono ?_)
            rintro e w42 ⟨rfl, hb42⟩
            have hi42 := Ty.depthV_bd (Ty.mk 4 [t1, t2])
            go_wp2_with fail
            refine hK.out _ _ ?_ (fun hHeld1 => ?_)
            · exact ⟨bcell hb42 (dcell (c3_0)), bcell hb42 (dcell (c3_1)), bcell hb42 (dcell (c0_0)), bcell hb42 (dcell (c0_1)), bcell hb42 (dcell (c1_0)), bcell hb42 (dcell (c1_1))⟩
            clear hK K hHeld0
            (try simp only [Act.put, List.setIfInBounds_toArray, List.set_cons_zero, List.set_cons_succ])
            refine wpAnyH_take (i := 4) (oi := { dst := some 50, op := Op.binOp BinOp.eql 3 (Operand.tmp 47) (Operand.tmp 49) 3, type := 4, pos := "laws.go:219", after := #[{ on := 1, ground := Ground.data }, { on := 3, ground := Ground.data }], guard := none }) (v := .bool true) rfl (by kernel_rfl) (by kernel_rfl) (by kernel_rfl) (fun _ _ _ h => h) (Or.inl ⟨by rfl, ?_⟩) hHeld1 ?_
            · intro w' hSw; (try dsimp only at hSw); go_simp
            (try simp only [Act.put, List.setIfInBounds_toArray, List.set_cons_zero, List.set_cons_succ])
            refine wpAnyH_take (i := 5) (oi := { dst := some 51, op := Op.move (Operand.tmp 50), type := 4, pos := "laws.go:219", after := #[{ on := 4, ground := Ground.data }, { on := 1, ground := Ground.chain }], guard := none }) (v := .bool true) rfl (by kernel_rfl) (by kernel_rfl) (by kernel_rfl) (fun _ _ _ h => h) (Or.inl ⟨by rfl, ?_⟩) hHeld1 ?_
            · intro w' hSw; (try dsimp only at hSw); go_simp
            (try simp only [Act.put, List.setIfInBounds_toArray, List.set_cons_zero, List.set_cons_succ])
            refine wpAnyH_take (i := 6) (oi := { dst := some 52, op := Op.load 29 (Operand.tmp 7), type := 29, pos := "laws.go:219", after := #[{ on := 5, ground := Ground.guard }], guard := some (5, true) }) (v := .agg #[.int .i64 4, .slice (some ⟨w2.heap.size + 1, 0, none⟩) 2 2]) rfl (by kernel_rfl) (by kernel_rfl) (by kernel_rfl) (fun _ _ _ h => h) (Or.inl ⟨by rfl, ?_⟩) hHeld1 ?_
            · intro w' hSw; (try dsimp only at hSw); go_simp
            (try simp only [Act.put, List.setIfInBounds_toArray, List.set_cons_zero, List.set_cons_succ])
            refine wpAnyH_take (i := 8) (oi := { dst := some 54, op := Op.load 29 (Operand.tmp 5), type := 29, pos := "laws.go:219", after := #[{ on := 5, ground := Ground.guard }], guard := some (5, true) }) (v := .agg #[.int .i64 kv1, .slice av1 nv1 qv1]) rfl (by kernel_rfl) (by kernel_rfl) (by kernel_rfl) (fun _ _ _ h => h) (Or.inl ⟨by rfl, ?_⟩) hHeld1 ?_
            · intro w' hSw; (try dsimp only at hSw); go_simp
            (try simp only [Act.put, List.setIfInBounds_toArray, List.set_cons_zero, List.set_cons_succ])
            refine wpAnyH_take (i := 10) (oi := { dst := some 56, op := Op.load 29 (Operand.tmp 6), type := 29, pos := "laws.go:219", after := #[{ on := 5, ground := Ground.guard }], guard := some (5, true) }) (v := .agg #[.int .i64 kv2, .slice av2 nv2 qv2]) rfl (by kernel_rfl) (by kernel_rfl) (by kernel_rfl) (fun _ _ _ h => h) (Or.inl ⟨by rfl, ?_⟩) hHeld1 ?_
            · intro w' hSw; (try dsimp only at hSw); go_simp
            (try simp only [Act.put, List.setIfInBounds_toArray, List.set_cons_zero, List.set_cons_succ])
            refine wpAnyH_ready (rs := [7]) (by kernel_rfl) (by simp) ?_
            refine AllReadyH.cons (o := { dst := some 53, op := Op.call { callee := Callee.value (Operand.func 49), args := #[Operand.tmp 52], argTypes := #[29] }, type := 3, pos := "laws.go:219", after := #[{ on := 6, ground := Ground.data }, { on := 5, ground := Ground.chain }, { on := 5, ground := Ground.guard }], guard := some (5, true) }) rfl (fun K hK => ?_) AllReadyH.nil
            go_simp
            go_at_call 49
            (with_reducible refine (implCountAny _ (Ty.mk 4 [t1, t2]) _ _ (TyRep.two_mk trivial (by omega) (by unfold maxLen; omega) (bcell hb42 (dcell (c2_0))) (bcell hb42 (dcell (c2_1))) (bcell hb42 (dcell (c2_2))) (bcell hb42 (dcell (c2_3))) (hv1.below (bstep bdr hb42)).all (hv2.below (bstep bdr hb42)).all)).mono ?_)
            rintro e w43 ⟨rfl, hb43⟩
            have hi43 := Ty.anyV_bd (Ty.mk 4 [t1, t2])
            go_wp2_with fail
            refine hK.out _ _ ?_ (fun hHeld2 => ?_)
            · exact ⟨bcell hb43 (bcell hb42 (dcell (c3_0))), bcell hb43 (bcell hb42 (dcell (c3_1))), bcell hb43 (bcell hb42 (dcell (c0_0))), bcell hb43 (bcell hb42 (dcell (c0_1))), bcell hb43 (bcell hb42 (dcell (c1_0))), bcell hb43 (bcell hb42 (dcell (c1_1)))⟩
            clear hK K hHeld1
            (try simp only [Act.put, List.setIfInBounds_toArray, List.set_cons_zero, List.set_cons_succ])
            refine wpAnyH_ready (rs := [9]) (by kernel_rfl) (by simp) ?_
            refine AllReadyH.cons (o := { dst := some 55, op := Op.call { callee := Callee.value (Operand.func 49), args := #[Operand.tmp 54], argTypes := #[29] }, type := 3, pos := "laws.go:219", after := #[{ on := 8, ground := Ground.data }, { on := 7, ground := Ground.chain }, { on := 5, ground := Ground.guard }], guard := some (5, true) }) rfl (fun K hK => ?_) AllReadyH.nil
            go_simp
            go_at_call 49
            (with_reducible refine (implCountAny _ t1 _ _ (hv1.below (bstep (bstep bdr hb42) hb43)).all).mono ?_)
            rintro e w44 ⟨rfl, hb44⟩
            have hi44 := Ty.anyV_bd t1
            go_wp2_with fail
            refine hK.out _ _ ?_ (fun hHeld3 => ?_)
            · exact ⟨bcell hb44 (bcell hb43 (bcell hb42 (dcell (c3_0)))), bcell hb44 (bcell hb43 (bcell hb42 (dcell (c3_1)))), bcell hb44 (bcell hb43 (bcell hb42 (dcell (c0_0)))), bcell hb44 (bcell hb43 (bcell hb42 (dcell (c0_1)))), bcell hb44 (bcell hb43 (bcell hb42 (dcell (c1_0)))), bcell hb44 (bcell hb43 (bcell hb42 (dcell (c1_1))))⟩
            clear hK K hHeld2
            (try simp only [Act.put, List.setIfInBounds_toArray, List.set_cons_zero, List.set_cons_succ])
            refine wpAnyH_ready (rs := [11]) (by kernel_rfl) (by simp) ?_
            refine AllReadyH.cons (o := { dst := some 57, op := Op.call { callee := Callee.value (Operand.func 49), args := #[Operand.tmp 56], argTypes := #[29] }, type := 3, pos := "laws.go:219", after := #[{ on := 10, ground := Ground.data }, { on := 9, ground := Ground.chain }, { on := 5, ground := Ground.guard }], guard := some (5, true) }) rfl (fun K hK => ?_) AllReadyH.nil
            go_simp
            go_at_call 49
            (with_reducible refine (implCountAny _ t2 _ _ (hv2.below (bstep (bstep (bstep bdr hb42) hb43) hb44)).all).mono ?_)
            rintro e w45 ⟨rfl, hb45⟩
            have hi45 := Ty.anyV_bd t2
            go_wp2_with fail
            refine hK.out _ _ ?_ (fun hHeld4 => ?_)
            · exact ⟨bcell hb45 (bcell hb44 (bcell hb43 (bcell hb42 (dcell (c3_0))))), bcell hb45 (bcell hb44 (bcell hb43 (bcell hb42 (dcell (c3_1))))), bcell hb45 (bcell hb44 (bcell hb43 (bcell hb42 (dcell (c0_0))))), bcell hb45 (bcell hb44 (bcell hb43 (bcell hb42 (dcell (c0_1))))), bcell hb45 (bcell hb44 (bcell hb43 (bcell hb42 (dcell (c1_0))))), bcell hb45 (bcell hb44 (bcell hb43 (bcell hb42 (dcell (c1_1)))))⟩
            clear hK K hHeld3
            (try simp only [Act.put, List.setIfInBounds_toArray, List.set_cons_zero, List.set_cons_succ])
            refine wpAnyH_take (i := 12) (oi := { dst := some 58, op := Op.binOp BinOp.add 3 (Operand.tmp 55) (Operand.tmp 57) 3, type := 3, pos := "laws.go:219", after := #[{ on := 9, ground := Ground.data }, { on := 11, ground := Ground.data }, { on := 5, ground := Ground.guard }], guard := some (5, true) }) (v := .int .i64 ((Ty.anyV t1) + (Ty.anyV t2))) rfl (by kernel_rfl) (by kernel_rfl) (by kernel_rfl) (fun _ _ _ h => h) (Or.inl ⟨by rfl, ?_⟩) hHeld4 ?_
            · intro w' hSw; (try dsimp only at hSw); go_simp
            (try simp only [Act.put, List.setIfInBounds_toArray, List.set_cons_zero, List.set_cons_succ])
            refine wpAnyH_take (i := 13) (oi := { dst := some 59, op := Op.binOp BinOp.eql 3 (Operand.tmp 53) (Operand.tmp 58) 3, type := 4, pos := "laws.go:219", after := #[{ on := 7, ground := Ground.data }, { on := 12, ground := Ground.data }, { on := 5, ground := Ground.guard }], guard := some (5, true) }) (v := .bool true) rfl (by kernel_rfl) (by kernel_rfl) (by kernel_rfl) (fun _ _ _ h => h) (Or.inl ⟨by rfl, ?_⟩) hHeld4 ?_
            · intro w' hSw; (try dsimp only at hSw); go_simp
            (try simp only [Act.put, List.setIfInBounds_toArray, List.set_cons_zero, List.set_cons_succ])
            refine wpAnyH_take (i := 14) (oi := { dst := some 60, op := Op.pick (Operand.tmp 51) (Operand.tmp 59) (Operand.const (Value.bool false)), type := 4, pos := "laws.go:219", after := #[{ on := 5, ground := Ground.data }, { on := 13, ground := Ground.data }], guard := none }) (v := .bool true) rfl (by kernel_rfl) (by kernel_rfl) (by kernel_rfl) (fun _ _ _ h => h) (Or.inl ⟨by rfl, ?_⟩) hHeld4 ?_
            · intro w' hSw; (try dsimp only at hSw); go_simp
            (try simp only [Act.put, List.setIfInBounds_toArray, List.set_cons_zero, List.set_cons_succ])
            refine wpAnyH_take (i := 15) (oi := { dst := some 61, op := Op.move (Operand.tmp 60), type := 4, pos := "laws.go:219", after := #[{ on := 14, ground := Ground.data }, { on := 11, ground := Ground.chain }], guard := none }) (v := .bool true) rfl (by kernel_rfl) (by kernel_rfl) (by kernel_rfl) (fun _ _ _ h => h) (Or.inl ⟨by rfl, ?_⟩) hHeld4 ?_
            · intro w' hSw; (try dsimp only at hSw); go_simp
            (try simp only [Act.put, List.setIfInBounds_toArray, List.set_cons_zero, List.set_cons_succ])
            refine wpAnyH_take (i := 16) (oi := { dst := some 62, op := Op.load 29 (Operand.tmp 7), type := 29, pos := "laws.go:219", after := #[{ on := 15, ground := Ground.guard }], guard := some (15, true) }) (v := .agg #[.int .i64 4, .slice (some ⟨w2.heap.size + 1, 0, none⟩) 2 2]) rfl (by kernel_rfl) (by kernel_rfl) (by kernel_rfl) (fun _ _ _ h => h) (Or.inl ⟨by rfl, ?_⟩) hHeld4 ?_
            · intro w' hSw; (try dsimp only at hSw); go_simp
            (try simp only [Act.put, List.setIfInBounds_toArray, List.set_cons_zero, List.set_cons_succ])
            refine wpAnyH_take (i := 18) (oi := { dst := some 64, op := Op.load 29 (Operand.tmp 5), type := 29, pos := "laws.go:219", after := #[{ on := 15, ground := Ground.guard }], guard := some (15, true) }) (v := .agg #[.int .i64 kv1, .slice av1 nv1 qv1]) rfl (by kernel_rfl) (by kernel_rfl) (by kernel_rfl) (fun _ _ _ h => h) (Or.inl ⟨by rfl, ?_⟩) hHeld4 ?_
            · intro w' hSw; (try dsimp only at hSw); go_simp
            (try simp only [Act.put, List.setIfInBounds_toArray, List.set_cons_zero, List.set_cons_succ])
            refine wpAnyH_ready (rs := [17]) (by kernel_rfl) (by simp) ?_
            refine AllReadyH.cons (o := { dst := some 63, op := Op.call { callee := Callee.value (Operand.func 42), args := #[Operand.tmp 62], argTypes := #[29] }, type := 4, pos := "laws.go:219", after := #[{ on := 16, ground := Ground.data }, { on := 15, ground := Ground.chain }, { on := 15, ground := Ground.guard }], guard := some (15, true) }) rfl (fun K hK => ?_) AllReadyH.nil
            go_simp
            go_at_call 42
            (with_reducible refine (implIsStaticB _ (Ty.mk 4 [t1, t2]) _ _ (TyRep.two_mk trivial (by omega) (by unfold maxLen; omega) (bcell hb45 (bcell hb44 (bcell hb43 (bcell hb42 (dcell (c2_0)))))) (bcell hb45 (bcell hb44 (bcell hb43 (bcell hb42 (dcell (c2_1)))))) (bcell hb45 (bcell hb44 (bcell hb43 (bcell hb42 (dcell (c2_2)))))) (bcell hb45 (bcell hb44 (bcell hb43 (bcell hb42 (dcell (c2_3)))))) (hv1.below (bstep (bstep (bstep (bstep bdr hb42) hb43) hb44) hb45)).all (hv2.below (bstep (bstep (bstep (bstep bdr hb42) hb43) hb44) hb45)).all)).mono ?_)
            rintro e w46 ⟨rfl, hb46⟩
            go_wp2_with fail
            refine hK.out _ _ ?_ (fun hHeld5 => ?_)
            · exact ⟨bcell hb46 (bcell hb45 (bcell hb44 (bcell hb43 (bcell hb42 (dcell (c3_0)))))), bcell hb46 (bcell hb45 (bcell hb44 (bcell hb43 (bcell hb42 (dcell (c3_1)))))), bcell hb46 (bcell hb45 (bcell hb44 (bcell hb43 (bcell hb42 (dcell (c0_0)))))), bcell hb46 (bcell hb45 (bcell hb44 (bcell hb43 (bcell hb42 (dcell (c0_1)))))), bcell hb46 (bcell hb45 (bcell hb44 (bcell hb43 (bcell hb42 (dcell (c1_0)))))), bcell hb46 (bcell hb45 (bcell hb44 (bcell hb43 (bcell hb42 (dcell (c1_1))))))⟩
            clear hK K hHeld4
            (try simp only [Act.put, List.setIfInBounds_toArray, List.set_cons_zero, List.set_cons_succ])
            refine wpAnyH_ready (rs := [19]) (by kernel_rfl) (by simp) ?_
            refine AllReadyH.cons (o := { dst := some 65, op := Op.call { callee := Callee.value (Operand.func 42), args := #[Operand.tmp 64], argTypes := #[29] }, type := 4, pos := "laws.go:219", after := #[{ on := 18, ground := Ground.data }, { on := 17, ground := Ground.chain }, { on := 15, ground := Ground.guard }], guard := some (15, true) }) rfl (fun K hK => ?_) AllReadyH.nil
            go_simp
            go_at_call 42
            (with_reducible refine (implIsStaticB _ t1 _ _ (hv1.below (bstep (bstep (bstep (bstep (bstep bdr hb42) hb43) hb44) hb45) hb46)).all).mono ?_)
            rintro e w47 ⟨rfl, hb47⟩
            rw [Hq11.out]
            go_wp2_with fail
            refine hK.out _ _ ?_ (fun hHeld6 => ?_)
            · exact ⟨bcell hb47 (bcell hb46 (bcell hb45 (bcell hb44 (bcell hb43 (bcell hb42 (dcell (c3_0))))))), bcell hb47 (bcell hb46 (bcell hb45 (bcell hb44 (bcell hb43 (bcell hb42 (dcell (c3_1))))))), bcell hb47 (bcell hb46 (bcell hb45 (bcell hb44 (bcell hb43 (bcell hb42 (dcell (c0_0))))))), bcell hb47 (bcell hb46 (bcell hb45 (bcell hb44 (bcell hb43 (bcell hb42 (dcell (c0_1))))))), bcell hb47 (bcell hb46 (bcell hb45 (bcell hb44 (bcell hb43 (bcell hb42 (dcell (c1_0))))))), bcell hb47 (bcell hb46 (bcell hb45 (bcell hb44 (bcell hb43 (bcell hb42 (dcell (c1_1)))))))⟩
            clear hK K hHeld5
            (try simp only [Act.put, List.setIfInBounds_toArray, List.set_cons_zero, List.set_cons_succ])
            refine wpAnyH_take (i := 20) (oi := { dst := some 66, op := Op.move (Operand.tmp 65), type := 4, pos := "laws.go:219", after := #[{ on := 19, ground := Ground.data }, { on := 19, ground := Ground.chain }, { on := 15, ground := Ground.guard }], guard := some (15, true) }) (v := .bool false) rfl (by kernel_rfl) (by kernel_rfl) (by kernel_rfl) (fun _ _ _ h => h) (Or.inl ⟨by rfl, ?_⟩) hHeld6 ?_
            · intro w' hSw; (try dsimp only at hSw); go_simp
            (try simp only [Act.put, List.setIfInBounds_toArray, List.set_cons_zero, List.set_cons_succ])
            refine wpAnyH_take (i := 21) (oi := { dst := some 67, op := Op.load 29 (Operand.tmp 6), type := 29, pos := "laws.go:219", after := #[{ on := 20, ground := Ground.guard }], guard := some (20, true) }) (v := undef) rfl (by kernel_rfl) (by kernel_rfl) (by kernel_rfl) (fun _ _ _ h => h) (Or.inr ⟨by rfl, rfl⟩) hHeld6 ?_
            (try simp only [Act.put, List.setIfInBounds_toArray, List.set_cons_zero, List.set_cons_succ])
            refine wpAnyH_take (i := 22) (oi := { dst := some 68, op := Op.call { callee := Callee.value (Operand.func 42), args := #[Operand.tmp 67], argTypes := #[29] }, type := 4, pos := "laws.go:219", after := #[{ on := 21, ground := Ground.data }, { on := 20, ground := Ground.chain }, { on := 20, ground := Ground.guard }], guard := some (20, true) }) (v := undef) rfl (by kernel_rfl) (by kernel_rfl) (by kernel_rfl) (fun _ _ _ h => h) (Or.inr ⟨by rfl, rfl⟩) hHeld6 ?_
            (try simp only [Act.put, List.setIfInBounds_toArray, List.set_cons_zero, List.set_cons_succ])
            refine wpAnyH_take (i := 23) (oi := { dst := some 69, op := Op.pick (Operand.tmp 66) (Operand.tmp 68) (Operand.const (Value.bool false)), type := 4, pos := "laws.go:219", after := #[{ on := 20, ground := Ground.data }, { on := 22, ground := Ground.data }, { on := 15, ground := Ground.guard }], guard := some (15, true) }) (v := .bool false) rfl (by kernel_rfl) (by kernel_rfl) (by kernel_rfl) (fun _ _ _ h => h) (Or.inl ⟨by rfl, ?_⟩) hHeld6 ?_
            · intro w' hSw; (try dsimp only at hSw); go_simp
            (try simp only [Act.put, List.setIfInBounds_toArray, List.set_cons_zero, List.set_cons_succ])
            refine wpAnyH_take (i := 24) (oi := { dst := some 70, op := Op.binOp BinOp.eql 4 (Operand.tmp 63) (Operand.tmp 69) 4, type := 4, pos := "laws.go:219", after := #[{ on := 17, ground := Ground.data }, { on := 23, ground := Ground.data }, { on := 15, ground := Ground.guard }], guard := some (15, true) }) (v := .bool (!(staticB (Ty.mk 4 [t1, t2])))) rfl (by kernel_rfl) (by kernel_rfl) (by kernel_rfl) (fun _ _ _ h => h) (Or.inl ⟨by rfl, ?_⟩) hHeld6 ?_
            · intro w' hSw; (try dsimp only at hSw); go_simp
            (try simp only [Act.put, List.setIfInBounds_toArray, List.set_cons_zero, List.set_cons_succ])
            refine wpAnyH_take (i := 25) (oi := { dst := some 71, op := Op.pick (Operand.tmp 61) (Operand.tmp 70) (Operand.const (Value.bool false)), type := 4, pos := "laws.go:219", after := #[{ on := 15, ground := Ground.data }, { on := 24, ground := Ground.data }], guard := none }) (v := .bool (!(staticB (Ty.mk 4 [t1, t2])))) rfl (by kernel_rfl) (by kernel_rfl) (by kernel_rfl) (fun _ _ _ h => h) (Or.inl ⟨by rfl, ?_⟩) hHeld6 ?_
            · intro w' hSw; (try dsimp only at hSw); go_simp
            (try simp only [Act.put, List.setIfInBounds_toArray, List.set_cons_zero, List.set_cons_succ])
            refine wpAnyH_take (i := 26) (oi := { dst := some 4, op := Op.assign (Operand.tmp 71), type := 4, pos := "laws.go:219", after := #[{ on := 25, ground := Ground.data }, { on := 22, ground := Ground.chain }, { on := 0, ground := Ground.phase }, { on := 1, ground := Ground.phase }, { on := 2, ground := Ground.phase }, { on := 3, ground := Ground.phase }, { on := 4, ground := Ground.phase }, { on := 5, ground := Ground.phase }, { on := 6, ground := Ground.phase }, { on := 7, ground := Ground.phase }, { on := 8, ground := Ground.phase }, { on := 9, ground := Ground.phase }, { on := 10, ground := Ground.phase }, { on := 11, ground := Ground.phase }, { on := 12, ground := Ground.phase }, { on := 13, ground := Ground.phase }, { on := 14, ground := Ground.phase }, { on := 15, ground := Ground.phase }, { on := 16, ground := Ground.phase }, { on := 17, ground := Ground.phase }, { on := 18, ground := Ground.phase }, { on := 19, ground := Ground.phase }, { on := 20, ground := Ground.phase }, { on := 21, ground := Ground.phase }, { on := 22, ground := Ground.phase }, { on := 23, ground := Ground.phase }, { on := 24, ground := Ground.phase }, { on := 25, ground := Ground.phase }], guard := none }) (v := .bool (!(staticB (Ty.mk 4 [t1, t2])))) rfl (by kernel_rfl) (by kernel_rfl) (by kernel_rfl) (fun _ _ _ h => h) (Or.inl ⟨by rfl, ?_⟩) hHeld6 ?_
            · intro w' hSw; (try dsimp only at hSw); go_simp
            (try simp only [Act.put, List.setIfInBounds_toArray, List.set_cons_zero, List.set_cons_succ])
            refine wpAnyH_done (by kernel_rfl) ?_ _
            refine NoPanic.normal ?_
            clear hHeld6
            replace hB := (bstep (bstep (bstep (bstep (bstep (bstep hB.drew hb42) hb43) hb44) hb45) hb46) hb47)
            have zw47 := hB.size
            go_wp2_with fail
            have hE := leaf_FnTypeParts_5 Hq3.out q4 q9 q10 Hq11.out
            refine bodyPost_ret (v := .bool (!(staticB (Ty.mk 4 [t1, t2])))) (by simp [results, Try.results13, go_sem]) rfl ?_
            exact ⟨by rw [hE], hB⟩
      · (try rw [q3])
        have Hq3 := Lib.hid q3
        clear q3
        go_wp2_with fail
        refine (specTypeDepth _ t1 _ _ hv1.all).mono ?_
        rintro e w48 ⟨rfl, hb48⟩
        have hi48 := Ty.depthV_bd t1
        replace hB := (bstep hB hb48)
        have zw48 := hB.size
        go_wp2_with fail
        refine bodyPost_ret (v := .bool true) (by simp [results, Try.results13, go_sem]) rfl ?_
        exact ⟨rfl, hB⟩
end Go.Proofs.Ytjkkahlcbhcifaa
