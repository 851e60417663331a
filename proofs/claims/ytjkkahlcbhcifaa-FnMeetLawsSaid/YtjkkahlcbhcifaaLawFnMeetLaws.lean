/-
  FnMeetLaws returns true: the walk.
-/
import Derived.Test.YtjkkahlcbhcifaaFn
import Derived.Test.YtjkkahlcbhcifaaDraws
import Derived.Test.YtjkkahlcbhcifaaDrawCh
namespace Go.Proofs.Ytjkkahlcbhcifaa
open Go.RowKit
set_option linter.unusedVariables false
set_option linter.unusedSimpArgs false
set_option maxRecDepth 100000

theorem leaf_FnMeetLaws_0 {t1 u1 u5 : Ty} (h0 : (consB t1 u1) = true) (h1 : (precB t1 u1) = true) (h2 : (Ty.same (meetT t1 u1) t1) = true) (h3 : (consB u1 u5) = true) (h4 : (consB (meetT t1 u1) u5) = true) (h5 : (consB t1 (meetT u1 u5)) = true) : (Ty.same (meetT (meetT t1 u1) u5) (meetT t1 (meetT u1 u5))) = true := by
  have l := law_FnMeetLaws t1 u1 u5
  first | (simp_all; done) | grind

theorem leaf_FnMeetLaws_1 {t1 u1 u5 : Ty} (h0 : (consB t1 u1) = true) (h1 : (precB t1 u1) = true) (h2 : (Ty.same (meetT t1 u1) t1) = true) (h3 : (consB u1 u5) = true) (h4 : (consB (meetT t1 u1) u5) = true) (h5 : (consB t1 (meetT u1 u5)) = false) : False := by
  have l := law_FnMeetLaws t1 u1 u5
  first | (simp_all; done) | grind

theorem leaf_FnMeetLaws_2 {t1 u1 u5 : Ty} (h0 : (consB t1 u1) = true) (h1 : (precB t1 u1) = true) (h2 : (Ty.same (meetT t1 u1) t1) = true) (h3 : (consB u1 u5) = true) (h4 : (consB (meetT t1 u1) u5) = false) (h5 : (consB t1 (meetT u1 u5)) = true) : False := by
  have l := law_FnMeetLaws t1 u1 u5
  first | (simp_all; done) | grind

theorem leaf_FnMeetLaws_3 {t1 u1 u5 : Ty} (h0 : (consB t1 u1) = true) (h1 : (precB t1 u1) = true) (h2 : (Ty.same (meetT t1 u1) t1) = true) (h3 : (consB u1 u5) = false) (h4 : (consB (meetT t1 u1) u5) = true) : False := by
  have l := law_FnMeetLaws t1 u1 u5
  first | (simp_all; done) | grind

theorem leaf_FnMeetLaws_4 {t1 u1 : Ty} (h0 : (consB t1 u1) = true) (h1 : (precB t1 u1) = true) (h2 : (Ty.same (meetT t1 u1) t1) = false) : False := by
  have l := law_FnMeetLaws t1 u1 Ty.none
  first | (simp_all; done) | grind

theorem leaf_FnMeetLaws_5 {t1 u1 : Ty} (h0 : (consB t1 u1) = true) (h1 : (precB t1 u1) = false) (h2 : (Ty.same (meetT t1 u1) t1) = true) : False := by
  have l := law_FnMeetLaws t1 u1 Ty.none
  first | (simp_all; done) | grind

theorem leaf_FnMeetLaws_6 {t1 u1 u5 : Ty} (h0 : (consB t1 u1) = true) (h1 : (precB t1 u1) = false) (h2 : (Ty.same (meetT t1 u1) t1) = false) (h3 : (consB u1 u5) = true) (h4 : (consB (meetT t1 u1) u5) = true) (h5 : (consB t1 (meetT u1 u5)) = true) : (Ty.same (meetT (meetT t1 u1) u5) (meetT t1 (meetT u1 u5))) = true := by
  have l := law_FnMeetLaws t1 u1 u5
  first | (simp_all; done) | grind

theorem leaf_FnMeetLaws_7 {t1 u1 u5 : Ty} (h0 : (consB t1 u1) = true) (h1 : (precB t1 u1) = false) (h2 : (Ty.same (meetT t1 u1) t1) = false) (h3 : (consB u1 u5) = true) (h4 : (consB (meetT t1 u1) u5) = true) (h5 : (consB t1 (meetT u1 u5)) = false) : False := by
  have l := law_FnMeetLaws t1 u1 u5
  first | (simp_all; done) | grind

theorem leaf_FnMeetLaws_8 {t1 u1 u5 : Ty} (h0 : (consB t1 u1) = true) (h1 : (precB t1 u1) = false) (h2 : (Ty.same (meetT t1 u1) t1) = false) (h3 : (consB u1 u5) = true) (h4 : (consB (meetT t1 u1) u5) = false) (h5 : (consB t1 (meetT u1 u5)) = true) : False := by
  have l := law_FnMeetLaws t1 u1 u5
  first | (simp_all; done) | grind

theorem leaf_FnMeetLaws_9 {t1 u1 u5 : Ty} (h0 : (consB t1 u1) = true) (h1 : (precB t1 u1) = false) (h2 : (Ty.same (meetT t1 u1) t1) = false) (h3 : (consB u1 u5) = false) (h4 : (consB (meetT t1 u1) u5) = true) : False := by
  have l := law_FnMeetLaws t1 u1 u5
  first | (simp_all; done) | grind
set_option maxHeartbeats 8000000 in
theorem walk_FnMeetLaws (y0 y1 : Value) (w : World) (r0 : ByRep w w.heap.size y0) (r1 : ByRep w w.heap.size y1) :
    Calls Try.prog 29 #[y0, y1] w fun e w' => e = .returned (.bool true) ∧ Below w.heap.size w w' := by
  obtain ⟨a0, n0, q0, rfl⟩ := r0.shape
  obtain ⟨a1, n1, q1, rfl⟩ := r1.shape
  go_enter Try.func29, Try.ntmps29
  rcases Bool.eq_false_or_eq_true (decide ((n0 : Int) > 1048576)) with q1 | q1
  · skip
    go_wp2_with fail
    refine bodyPost_ret (v := .bool true) (by simp [results, Try.results29, go_sem]) rfl ?_
    exact ⟨rfl, (Below.refl _ _)⟩
  · skip
    rcases Bool.eq_false_or_eq_true (decide ((n1 : Int) > 1048576)) with q2 | q2
    · (try rw [q2])
      go_wp2_with fail
      refine bodyPost_ret (v := .bool true) (by simp [results, Try.results29, go_sem]) rfl ?_
      exact ⟨rfl, (Below.refl _ _)⟩
    · (try rw [q2])
      go_wp2_with fail
      refine (specDrawMeetTypes _ _ _ (r0.below (Below.refl _ _)) (by first | omega | (simp; done) | (simp; omega))).mono ?_
      rintro e w1 ⟨t1, u1, v1, x1, rfl, hv1, hx1, hb1⟩
      obtain ⟨kv1, av1, nv1, qv1, rfl⟩ := hv1.shape
      obtain ⟨kx1, ax1, nx1, qx1, rfl⟩ := hx1.shape
      have hB := (bstep (Below.refl _ _) hb1)
      have zw1 := hB.size
      go_wp2_with fail
      refine (implMeetTypes _ _ t1 u1 _ _ _ (hv1.below bal2).all (hx1.below bal2).all).mono ?_
      rintro e w2 ⟨v2, rfl, hv2, hb2⟩
      obtain ⟨kr2, ar2, nr2, qr2, rfl⟩ := hv2.shape
      replace hB := (bstep ((hB.alloc hB.size _).alloc (hB.alloc hB.size _).size _) hb2)
      have zw2 := hB.size
      have c0_0 : w2.cell? ⟨w1.heap.size, 0, none⟩ = some (.int .i64 kv1) := bcell hb2 (bcell bal1 (cell_new (by simp) 0))
      have c0_1 : w2.cell? ⟨w1.heap.size, 1, none⟩ = some (.slice av1 nv1 qv1) := bcell hb2 (bcell bal1 (cell_new (by simp) 1))
      have c1_0 : w2.cell? ⟨w1.heap.size + 1, 0, none⟩ = some (.int .i64 kx1) := bcell hb2 (cell_new (by simp) 0)
      have c1_1 : w2.cell? ⟨w1.heap.size + 1, 1, none⟩ = some (.slice ax1 nx1 qx1) := bcell hb2 (cell_new (by simp) 1)
      replace hv1 := (hv1.below (bstep bal2 hb2))
      replace hx1 := (hx1.below (bstep bal2 hb2))
      have d0_w2 := World.block_lt_of_cell? _ _ c0_0
      have d1_w2 := World.block_lt_of_cell? _ _ c1_0
      go_wp2_with fail
      refine (specMeetTypes _ _ t1 u1 _ _ _ (hv1.below bal1).all (hx1.below bal1).all).mono ?_
      rintro e w3 ⟨v3, rfl, hv3, hb3⟩
      obtain ⟨kr3, ar3, nr3, qr3, rfl⟩ := hv3.shape
      replace hB := (bstep (hB.alloc hB.size _) hb3)
      have zw3 := hB.size
      have c2_0 : w3.cell? ⟨w2.heap.size, 0, none⟩ = some (.int .i64 kr2) := bcell hb3 (cell_new (by simp) 0)
      have c2_1 : w3.cell? ⟨w2.heap.size, 1, none⟩ = some (.slice ar2 nr2 qr2) := bcell hb3 (cell_new (by simp) 1)
      replace c1_0 : w3.cell? ⟨w1.heap.size + 1, 0, none⟩ = some (.int .i64 kx1) := bcell hb3 (bcell bal1 (c1_0))
      replace c1_1 : w3.cell? ⟨w1.heap.size + 1, 1, none⟩ = some (.slice ax1 nx1 qx1) := bcell hb3 (bcell bal1 (c1_1))
      replace c0_0 : w3.cell? ⟨w1.heap.size, 0, none⟩ = some (.int .i64 kv1) := bcell hb3 (bcell bal1 (c0_0))
      replace c0_1 : w3.cell? ⟨w1.heap.size, 1, none⟩ = some (.slice av1 nv1 qv1) := bcell hb3 (bcell bal1 (c0_1))
      replace hv2 := (hv2.below (bstep bal1 hb3))
      replace hx1 := (hx1.below (bstep bal1 hb3))
      replace hv1 := (hv1.below (bstep bal1 hb3))
      have d2_w3 := World.block_lt_of_cell? _ _ c2_0
      have d1_w3 := World.block_lt_of_cell? _ _ c1_0
      have d0_w3 := World.block_lt_of_cell? _ _ c0_0
      go_wp2_with fail
      refine (implTypeSameSelf _ _ (meetT t1 u1) _ _ _ (hv2.below bal1).rep.all (hv3.below bal1).rep.all).mono ?_
      rintro e w4 ⟨rfl, hb4⟩
      replace hB := (bstep (hB.alloc hB.size _) hb4)
      have zw4 := hB.size
      replace c2_0 : w4.cell? ⟨w2.heap.size, 0, none⟩ = some (.int .i64 kr2) := bcell hb4 (bcell bal1 (c2_0))
      replace c2_1 : w4.cell? ⟨w2.heap.size, 1, none⟩ = some (.slice ar2 nr2 qr2) := bcell hb4 (bcell bal1 (c2_1))
      replace c1_0 : w4.cell? ⟨w1.heap.size + 1, 0, none⟩ = some (.int .i64 kx1) := bcell hb4 (bcell bal1 (c1_0))
      replace c1_1 : w4.cell? ⟨w1.heap.size + 1, 1, none⟩ = some (.slice ax1 nx1 qx1) := bcell hb4 (bcell bal1 (c1_1))
      replace c0_0 : w4.cell? ⟨w1.heap.size, 0, none⟩ = some (.int .i64 kv1) := bcell hb4 (bcell bal1 (c0_0))
      replace c0_1 : w4.cell? ⟨w1.heap.size, 1, none⟩ = some (.slice av1 nv1 qv1) := bcell hb4 (bcell bal1 (c0_1))
      have c3_0 : w4.cell? ⟨w3.heap.size, 0, none⟩ = some (.int .i64 kr3) := bcell hb4 (cell_new (by simp) 0)
      have c3_1 : w4.cell? ⟨w3.heap.size, 1, none⟩ = some (.slice ar3 nr3 qr3) := bcell hb4 (cell_new (by simp) 1)
      replace hv2 := (hv2.below (bstep bal1 hb4))
      replace hx1 := (hx1.below (bstep bal1 hb4))
      replace hv1 := (hv1.below (bstep bal1 hb4))
      replace hv3 := (hv3.below (bstep bal1 hb4))
      have d2_w4 := World.block_lt_of_cell? _ _ c2_0
      have d1_w4 := World.block_lt_of_cell? _ _ c1_0
      have d0_w4 := World.block_lt_of_cell? _ _ c0_0
      have d3_w4 := World.block_lt_of_cell? _ _ c3_0
      rcases Bool.eq_false_or_eq_true (consB t1 u1) with q3 | q3
      · (try rw [q3])
        have Hq3 := Lib.hid q3
        clear q3
        go_wp2_with fail
        refine (specDrawChain _ _ _ (r1.below hB) (by first | omega | (simp; done) | (simp; omega))).mono ?_
        rintro e w5 ⟨t5, u5, s5, v5, x5, y5, rfl, hv5, hx5, hy5, hb5⟩
        obtain ⟨kv5, av5, nv5, qv5, rfl⟩ := hv5.shape
        obtain ⟨kx5, ax5, nx5, qx5, rfl⟩ := hx5.shape
        obtain ⟨ky5, ay5, ny5, qy5, rfl⟩ := hy5.shape
        replace hB := (bstep hB hb5)
        have zw5 := hB.size
        replace c2_0 : w5.cell? ⟨w2.heap.size, 0, none⟩ = some (.int .i64 kr2) := bcell hb5 (c2_0)
        replace c2_1 : w5.cell? ⟨w2.heap.size, 1, none⟩ = some (.slice ar2 nr2 qr2) := bcell hb5 (c2_1)
        replace c1_0 : w5.cell? ⟨w1.heap.size + 1, 0, none⟩ = some (.int .i64 kx1) := bcell hb5 (c1_0)
        replace c1_1 : w5.cell? ⟨w1.heap.size + 1, 1, none⟩ = some (.slice ax1 nx1 qx1) := bcell hb5 (c1_1)
        replace c0_0 : w5.cell? ⟨w1.heap.size, 0, none⟩ = some (.int .i64 kv1) := bcell hb5 (c0_0)
        replace c0_1 : w5.cell? ⟨w1.heap.size, 1, none⟩ = some (.slice av1 nv1 qv1) := bcell hb5 (c0_1)
        replace hv2 := (hv2.below hb5)
        replace hx1 := (hx1.below hb5)
        replace hv1 := (hv1.below hb5)
        have d2_w5 := World.block_lt_of_cell? _ _ c2_0
        have d2_w5_1 : w2.heap.size < w5.heap.size + 1 := Nat.lt_succ_of_lt d2_w5
        have d2_w5_2 : w2.heap.size < w5.heap.size + 1 + 1 := Nat.lt_succ_of_lt d2_w5_1
        have d1_w5 := World.block_lt_of_cell? _ _ c1_0
        have d1_w5_1 : w1.heap.size + 1 < w5.heap.size + 1 := Nat.lt_succ_of_lt d1_w5
        have d1_w5_2 : w1.heap.size + 1 < w5.heap.size + 1 + 1 := Nat.lt_succ_of_lt d1_w5_1
        have d0_w5 := World.block_lt_of_cell? _ _ c0_0
        have d0_w5_1 : w1.heap.size < w5.heap.size + 1 := Nat.lt_succ_of_lt d0_w5
        have d0_w5_2 : w1.heap.size < w5.heap.size + 1 + 1 := Nat.lt_succ_of_lt d0_w5_1
        go_wp2_with fail
        refine (implMeetTypes _ _ (meetT t1 u1) u5 _ _ _ (hv2.below bal3).rep.all (hx5.below bal3).all).mono ?_
        rintro e w6 ⟨v6, rfl, hv6, hb6⟩
        obtain ⟨kr6, ar6, nr6, qr6, rfl⟩ := hv6.shape
        replace hB := (bstep (((hB.alloc hB.size _).alloc (hB.alloc hB.size _).size _).alloc ((hB.alloc hB.size _).alloc (hB.alloc hB.size _).size _).size _) hb6)
        have zw6 := hB.size
        replace c1_0 : w6.cell? ⟨w1.heap.size + 1, 0, none⟩ = some (.int .i64 kx1) := bcell hb6 (bcell bal1 (bcell bal1 (bcell bal1 (c1_0))))
        replace c1_1 : w6.cell? ⟨w1.heap.size + 1, 1, none⟩ = some (.slice ax1 nx1 qx1) := bcell hb6 (bcell bal1 (bcell bal1 (bcell bal1 (c1_1))))
        have c5_0 : w6.cell? ⟨w5.heap.size + 1, 0, none⟩ = some (.int .i64 kx5) := bcell hb6 (bcell bal1 (cell_new (by simp) 0))
        have c5_1 : w6.cell? ⟨w5.heap.size + 1, 1, none⟩ = some (.slice ax5 nx5 qx5) := bcell hb6 (bcell bal1 (cell_new (by simp) 1))
        replace c0_0 : w6.cell? ⟨w1.heap.size, 0, none⟩ = some (.int .i64 kv1) := bcell hb6 (bcell bal1 (bcell bal1 (bcell bal1 (c0_0))))
        replace c0_1 : w6.cell? ⟨w1.heap.size, 1, none⟩ = some (.slice av1 nv1 qv1) := bcell hb6 (bcell bal1 (bcell bal1 (bcell bal1 (c0_1))))
        replace c2_0 : w6.cell? ⟨w2.heap.size, 0, none⟩ = some (.int .i64 kr2) := bcell hb6 (bcell bal1 (bcell bal1 (bcell bal1 (c2_0))))
        replace c2_1 : w6.cell? ⟨w2.heap.size, 1, none⟩ = some (.slice ar2 nr2 qr2) := bcell hb6 (bcell bal1 (bcell bal1 (bcell bal1 (c2_1))))
        replace hx1 := (hx1.below (bstep bal3 hb6))
        replace hx5 := (hx5.below (bstep bal3 hb6))
        replace hv1 := (hv1.below (bstep bal3 hb6))
        replace hv2 := (hv2.below (bstep bal3 hb6))
        have d1_w6 := World.block_lt_of_cell? _ _ c1_0
        have d5_w6 := World.block_lt_of_cell? _ _ c5_0
        have d0_w6 := World.block_lt_of_cell? _ _ c0_0
        have d2_w6 := World.block_lt_of_cell? _ _ c2_0
        go_wp2_with fail
        refine (implMeetTypes _ _ u1 u5 _ _ _ (hx1.below bal1).all (hx5.below bal1).all).mono ?_
        rintro e w7 ⟨v7, rfl, hv7, hb7⟩
        obtain ⟨kr7, ar7, nr7, qr7, rfl⟩ := hv7.shape
        replace hB := (bstep (hB.alloc hB.size _) hb7)
        have zw7 := hB.size
        replace c0_0 : w7.cell? ⟨w1.heap.size, 0, none⟩ = some (.int .i64 kv1) := bcell hb7 (bcell bal1 (c0_0))
        replace c0_1 : w7.cell? ⟨w1.heap.size, 1, none⟩ = some (.slice av1 nv1 qv1) := bcell hb7 (bcell bal1 (c0_1))
        replace c1_0 : w7.cell? ⟨w1.heap.size + 1, 0, none⟩ = some (.int .i64 kx1) := bcell hb7 (bcell bal1 (c1_0))
        replace c1_1 : w7.cell? ⟨w1.heap.size + 1, 1, none⟩ = some (.slice ax1 nx1 qx1) := bcell hb7 (bcell bal1 (c1_1))
        replace c2_0 : w7.cell? ⟨w2.heap.size, 0, none⟩ = some (.int .i64 kr2) := bcell hb7 (bcell bal1 (c2_0))
        replace c2_1 : w7.cell? ⟨w2.heap.size, 1, none⟩ = some (.slice ar2 nr2 qr2) := bcell hb7 (bcell bal1 (c2_1))
        have c7_0 : w7.cell? ⟨w6.heap.size, 0, none⟩ = some (.int .i64 kr6) := bcell hb7 (cell_new (by simp) 0)
        have c7_1 : w7.cell? ⟨w6.heap.size, 1, none⟩ = some (.slice ar6 nr6 qr6) := bcell hb7 (cell_new (by simp) 1)
        replace hv1 := (hv1.below (bstep bal1 hb7))
        replace hx1 := (hx1.below (bstep bal1 hb7))
        replace hv2 := (hv2.below (bstep bal1 hb7))
        replace hv6 := (hv6.below (bstep bal1 hb7))
        have d0_w7 := World.block_lt_of_cell? _ _ c0_0
        have d1_w7 := World.block_lt_of_cell? _ _ c1_0
        have d2_w7 := World.block_lt_of_cell? _ _ c2_0
        have d7_w7 := World.block_lt_of_cell? _ _ c7_0
        go_wp2_with fail
        refine (implMeetTypes _ _ t1 (meetT u1 u5) _ _ _ (hv1.below bal1).all (hv7.below bal1).rep.all).mono ?_
        rintro e w8 ⟨v8, rfl, hv8, hb8⟩
        obtain ⟨kr8, ar8, nr8, qr8, rfl⟩ := hv8.shape
        replace hB := (bstep (hB.alloc hB.size _) hb8)
        have zw8 := hB.size
        replace c0_0 : w8.cell? ⟨w1.heap.size, 0, none⟩ = some (.int .i64 kv1) := bcell hb8 (bcell bal1 (c0_0))
        replace c0_1 : w8.cell? ⟨w1.heap.size, 1, none⟩ = some (.slice av1 nv1 qv1) := bcell hb8 (bcell bal1 (c0_1))
        replace c1_0 : w8.cell? ⟨w1.heap.size + 1, 0, none⟩ = some (.int .i64 kx1) := bcell hb8 (bcell bal1 (c1_0))
        replace c1_1 : w8.cell? ⟨w1.heap.size + 1, 1, none⟩ = some (.slice ax1 nx1 qx1) := bcell hb8 (bcell bal1 (c1_1))
        replace c2_0 : w8.cell? ⟨w2.heap.size, 0, none⟩ = some (.int .i64 kr2) := bcell hb8 (bcell bal1 (c2_0))
        replace c2_1 : w8.cell? ⟨w2.heap.size, 1, none⟩ = some (.slice ar2 nr2 qr2) := bcell hb8 (bcell bal1 (c2_1))
        replace c7_0 : w8.cell? ⟨w6.heap.size, 0, none⟩ = some (.int .i64 kr6) := bcell hb8 (bcell bal1 (c7_0))
        replace c7_1 : w8.cell? ⟨w6.heap.size, 1, none⟩ = some (.slice ar6 nr6 qr6) := bcell hb8 (bcell bal1 (c7_1))
        replace hv1 := (hv1.below (bstep bal1 hb8))
        replace hx1 := (hx1.below (bstep bal1 hb8))
        replace hv2 := (hv2.below (bstep bal1 hb8))
        replace hv6 := (hv6.below (bstep bal1 hb8))
        have d0_w8 := World.block_lt_of_cell? _ _ c0_0
        have d1_w8 := World.block_lt_of_cell? _ _ c1_0
        have d2_w8 := World.block_lt_of_cell? _ _ c2_0
        have d7_w8 := World.block_lt_of_cell? _ _ c7_0
        rcases Bool.eq_false_or_eq_true (precB t1 u1) with q4 | q4
        · have Hq4 := Lib.hid q4
          clear q4
          rcases Bool.eq_false_or_eq_true (Ty.same (meetT t1 u1) t1) with q5 | q5
          · have Hq5 := Lib.hid q5
            clear q5
            rcases Bool.eq_false_or_eq_true (consB u1 u5) with q6 | q6
            · (try rw [q6])
              have Hq6 := Lib.hid q6
              clear q6
              rcases Bool.eq_false_or_eq_true (consB (meetT t1 u1) u5) with q7 | q7
              · (try rw [q7])
                have Hq7 := Lib.hid q7
                clear q7
                rcases Bool.eq_false_or_eq_true (consB t1 (meetT u1 u5)) with q8 | q8
                · (try rw [q8])
                  have Hq8 := Lib.hid q8
                  clear q8
                  go_wp2_with fail
                  have s0_ : (World.alloc w8 (Obj.cells #[.int .i64 kr8, .slice ar8 nr8 qr8] 29)).cell? ⟨w1.heap.size, 0, none⟩ = some (.int .i64 kv1) := bcell bal1 (c0_0)
                  have s1_ : (World.alloc w8 (Obj.cells #[.int .i64 kr8, .slice ar8 nr8 qr8] 29)).cell? ⟨w1.heap.size, 1, none⟩ = some (.slice av1 nv1 qv1) := bcell bal1 (c0_1)
                  have s2_ : (World.alloc w8 (Obj.cells #[.int .i64 kr8, .slice ar8 nr8 qr8] 29)).cell? ⟨w1.heap.size + 1, 0, none⟩ = some (.int .i64 kx1) := bcell bal1 (c1_0)
                  have s3_ : (World.alloc w8 (Obj.cells #[.int .i64 kr8, .slice ar8 nr8 qr8] 29)).cell? ⟨w1.heap.size + 1, 1, none⟩ = some (.slice ax1 nx1 qx1) := bcell bal1 (c1_1)
                  have s4_ : (World.alloc w8 (Obj.cells #[.int .i64 kr8, .slice ar8 nr8 qr8] 29)).cell? ⟨w2.heap.size, 0, none⟩ = some (.int .i64 kr2) := bcell bal1 (c2_0)
                  have s5_ : (World.alloc w8 (Obj.cells #[.int .i64 kr8, .slice ar8 nr8 qr8] 29)).cell? ⟨w2.heap.size, 1, none⟩ = some (.slice ar2 nr2 qr2) := bcell bal1 (c2_1)
                  have s6_ : (World.alloc w8 (Obj.cells #[.int .i64 kr8, .slice ar8 nr8 qr8] 29)).cell? ⟨w6.heap.size, 0, none⟩ = some (.int .i64 kr6) := bcell bal1 (c7_0)
                  have s7_ : (World.alloc w8 (Obj.cells #[.int .i64 kr8, .slice ar8 nr8 qr8] 29)).cell? ⟨w6.heap.size, 1, none⟩ = some (.slice ar6 nr6 qr6) := bcell bal1 (c7_1)
                  have s8_ : (World.alloc w8 (Obj.cells #[.int .i64 kr8, .slice ar8 nr8 qr8] 29)).cell? ⟨w8.heap.size, 0, none⟩ = some (.int .i64 kr8) := cell_new (by simp) 0
                  have s9_ : (World.alloc w8 (Obj.cells #[.int .i64 kr8, .slice ar8 nr8 qr8] 29)).cell? ⟨w8.heap.size, 1, none⟩ = some (.slice ar8 nr8 qr8) := cell_new (by simp) 1
                  have hS0 := Lib.hid (show (World.drew (World.alloc w8 (Obj.cells #[.int .i64 kr8, .slice ar8 nr8 qr8] 29))).cell? ⟨w1.heap.size, 0, none⟩ = some (.int .i64 kv1) ∧ (World.drew (World.alloc w8 (Obj.cells #[.int .i64 kr8, .slice ar8 nr8 qr8] 29))).cell? ⟨w1.heap.size, 1, none⟩ = some (.slice av1 nv1 qv1) ∧ (World.drew (World.alloc w8 (Obj.cells #[.int .i64 kr8, .slice ar8 nr8 qr8] 29))).cell? ⟨w1.heap.size + 1, 0, none⟩ = some (.int .i64 kx1) ∧ (World.drew (World.alloc w8 (Obj.cells #[.int .i64 kr8, .slice ar8 nr8 qr8] 29))).cell? ⟨w1.heap.size + 1, 1, none⟩ = some (.slice ax1 nx1 qx1) ∧ (World.drew (World.alloc w8 (Obj.cells #[.int .i64 kr8, .slice ar8 nr8 qr8] 29))).cell? ⟨w2.heap.size, 0, none⟩ = some (.int .i64 kr2) ∧ (World.drew (World.alloc w8 (Obj.cells #[.int .i64 kr8, .slice ar8 nr8 qr8] 29))).cell? ⟨w2.heap.size, 1, none⟩ = some (.slice ar2 nr2 qr2) ∧ (World.drew (World.alloc w8 (Obj.cells #[.int .i64 kr8, .slice ar8 nr8 qr8] 29))).cell? ⟨w6.heap.size, 0, none⟩ = some (.int .i64 kr6) ∧ (World.drew (World.alloc w8 (Obj.cells #[.int .i64 kr8, .slice ar8 nr8 qr8] 29))).cell? ⟨w6.heap.size, 1, none⟩ = some (.slice ar6 nr6 qr6) ∧ (World.drew (World.alloc w8 (Obj.cells #[.int .i64 kr8, .slice ar8 nr8 qr8] 29))).cell? ⟨w8.heap.size, 0, none⟩ = some (.int .i64 kr8) ∧ (World.drew (World.alloc w8 (Obj.cells #[.int .i64 kr8, .slice ar8 nr8 qr8] 29))).cell? ⟨w8.heap.size, 1, none⟩ = some (.slice ar8 nr8 qr8) from ⟨dcell (s0_), dcell (s1_), dcell (s2_), dcell (s3_), dcell (s4_), dcell (s5_), dcell (s6_), dcell (s7_), dcell (s8_), dcell (s9_)⟩)
                  have hSb := Lib.hid (show ∀ X Y : World, Below X.heap.size X Y → (X.cell? ⟨w1.heap.size, 0, none⟩ = some (.int .i64 kv1) ∧ X.cell? ⟨w1.heap.size, 1, none⟩ = some (.slice av1 nv1 qv1) ∧ X.cell? ⟨w1.heap.size + 1, 0, none⟩ = some (.int .i64 kx1) ∧ X.cell? ⟨w1.heap.size + 1, 1, none⟩ = some (.slice ax1 nx1 qx1) ∧ X.cell? ⟨w2.heap.size, 0, none⟩ = some (.int .i64 kr2) ∧ X.cell? ⟨w2.heap.size, 1, none⟩ = some (.slice ar2 nr2 qr2) ∧ X.cell? ⟨w6.heap.size, 0, none⟩ = some (.int .i64 kr6) ∧ X.cell? ⟨w6.heap.size, 1, none⟩ = some (.slice ar6 nr6 qr6) ∧ X.cell? ⟨w8.heap.size, 0, none⟩ = some (.int .i64 kr8) ∧ X.cell? ⟨w8.heap.size, 1, none⟩ = some (.slice ar8 nr8 qr8)) → (Y.cell? ⟨w1.heap.size, 0, none⟩ = some (.int .i64 kv1) ∧ Y.cell? ⟨w1.heap.size, 1, none⟩ = some (.slice av1 nv1 qv1) ∧ Y.cell? ⟨w1.heap.size + 1, 0, none⟩ = some (.int .i64 kx1) ∧ Y.cell? ⟨w1.heap.size + 1, 1, none⟩ = some (.slice ax1 nx1 qx1) ∧ Y.cell? ⟨w2.heap.size, 0, none⟩ = some (.int .i64 kr2) ∧ Y.cell? ⟨w2.heap.size, 1, none⟩ = some (.slice ar2 nr2 qr2) ∧ Y.cell? ⟨w6.heap.size, 0, none⟩ = some (.int .i64 kr6) ∧ Y.cell? ⟨w6.heap.size, 1, none⟩ = some (.slice ar6 nr6 qr6) ∧ Y.cell? ⟨w8.heap.size, 0, none⟩ = some (.int .i64 kr8) ∧ Y.cell? ⟨w8.heap.size, 1, none⟩ = some (.slice ar8 nr8 qr8)) from fun X Y h s => ⟨bcell h s.1, bcell h s.2.1, bcell h s.2.2.1, bcell h s.2.2.2.1, bcell h s.2.2.2.2.1, bcell h s.2.2.2.2.2.1, bcell h s.2.2.2.2.2.2.1, bcell h s.2.2.2.2.2.2.2.1, bcell h s.2.2.2.2.2.2.2.2.1, bcell h s.2.2.2.2.2.2.2.2.2⟩)
                  go_region_held3 (fun w' => w'.cell? ⟨w1.heap.size, 0, none⟩ = some (.int .i64 kv1) ∧ w'.cell? ⟨w1.heap.size, 1, none⟩ = some (.slice av1 nv1 qv1) ∧ w'.cell? ⟨w1.heap.size + 1, 0, none⟩ = some (.int .i64 kx1) ∧ w'.cell? ⟨w1.heap.size + 1, 1, none⟩ = some (.slice ax1 nx1 qx1) ∧ w'.cell? ⟨w2.heap.size, 0, none⟩ = some (.int .i64 kr2) ∧ w'.cell? ⟨w2.heap.size, 1, none⟩ = some (.slice ar2 nr2 qr2) ∧ w'.cell? ⟨w6.heap.size, 0, none⟩ = some (.int .i64 kr6) ∧ w'.cell? ⟨w6.heap.size, 1, none⟩ = some (.slice ar6 nr6 qr6) ∧ w'.cell? ⟨w8.heap.size, 0, none⟩ = some (.int .i64 kr8) ∧ w'.cell? ⟨w8.heap.size, 1, none⟩ = some (.slice ar8 nr8 qr8))
                    (repeat (first | with_reducible refine hSb.out _ _ hb11 ?_ | with_reducible refine hSb.out _ _ hb10 ?_ | with_reducible refine hSb.out _ _ hb9 ?_ | with_reducible exact hS0.out))
                    (first | (go_at_call 53; ((with_reducible refine (implPreciseB _ _ t1 u1 _ _ _ (hv1.below bal1.drew).all (hx1.below bal1.drew).all).mono ?_); rintro e w9 ⟨rfl, hb9⟩; rw [Hq4.out])) | (go_at_call 37; ((with_reducible refine (implTypeSame _ _ (meetT t1 u1) t1 _ _ _ (hv2.below (bstep bal1.drew hb9)).rep.all (hv1.below (bstep bal1.drew hb9)).all).mono ?_); rintro e w10 ⟨rfl, hb10⟩; rw [Hq5.out])) | (go_at_call 37; ((with_reducible refine (implTypeSame _ _ (meetT (meetT t1 u1) u5) (meetT t1 (meetT u1 u5)) _ _ _ (hv6.below (bstep (bstep bal1.drew hb9) hb10)).rep.all (hv8.below (bstep (bstep bal1.drew hb9) hb10)).rep.all).mono ?_); rintro e w11 ⟨rfl, hb11⟩)))
                  clear s0_ s1_ s2_ s3_ s4_ s5_ s6_ s7_ s8_ s9_
                  replace hB := (bstep (bstep (bstep (hB.alloc hB.size _).drew hb9) hb10) hb11)
                  have zw11 := hB.size
                  go_wp2_with fail
                  have hE := leaf_FnMeetLaws_0 Hq3.out Hq4.out Hq5.out Hq6.out Hq7.out Hq8.out
                  refine bodyPost_ret (v := .bool (Ty.same (meetT (meetT t1 u1) u5) (meetT t1 (meetT u1 u5)))) (by simp [results, Try.results29, go_sem]) rfl ?_
                  exact ⟨by rw [hE], hB⟩
                · (try rw [q8])
                  have Hq8 := Lib.hid q8
                  clear q8
                  go_wp2_with fail
                  have s0_ : (World.alloc w8 (Obj.cells #[.int .i64 kr8, .slice ar8 nr8 qr8] 29)).cell? ⟨w1.heap.size, 0, none⟩ = some (.int .i64 kv1) := bcell bal1 (c0_0)
                  have s1_ : (World.alloc w8 (Obj.cells #[.int .i64 kr8, .slice ar8 nr8 qr8] 29)).cell? ⟨w1.heap.size, 1, none⟩ = some (.slice av1 nv1 qv1) := bcell bal1 (c0_1)
                  have s2_ : (World.alloc w8 (Obj.cells #[.int .i64 kr8, .slice ar8 nr8 qr8] 29)).cell? ⟨w1.heap.size + 1, 0, none⟩ = some (.int .i64 kx1) := bcell bal1 (c1_0)
                  have s3_ : (World.alloc w8 (Obj.cells #[.int .i64 kr8, .slice ar8 nr8 qr8] 29)).cell? ⟨w1.heap.size + 1, 1, none⟩ = some (.slice ax1 nx1 qx1) := bcell bal1 (c1_1)
                  have s4_ : (World.alloc w8 (Obj.cells #[.int .i64 kr8, .slice ar8 nr8 qr8] 29)).cell? ⟨w2.heap.size, 0, none⟩ = some (.int .i64 kr2) := bcell bal1 (c2_0)
                  have s5_ : (World.alloc w8 (Obj.cells #[.int .i64 kr8, .slice ar8 nr8 qr8] 29)).cell? ⟨w2.heap.size, 1, none⟩ = some (.slice ar2 nr2 qr2) := bcell bal1 (c2_1)
                  refine wp_region_noPanic ?_
                  refine wp_region_held_drew (S := fun w' => w'.cell? ⟨w1.heap.size, 0, none⟩ = some (.int .i64 kv1) ∧ w'.cell? ⟨w1.heap.size, 1, none⟩ = some (.slice av1 nv1 qv1) ∧ w'.cell? ⟨w1.heap.size + 1, 0, none⟩ = some (.int .i64 kx1) ∧ w'.cell? ⟨w1.heap.size + 1, 1, none⟩ = some (.slice ax1 nx1 qx1) ∧ w'.cell? ⟨w2.heap.size, 0, none⟩ = some (.int .i64 kr2) ∧ w'.cell? ⟨w2.heap.size, 1, none⟩ = some (.slice ar2 nr2 qr2)) (by kernel_rfl) ?_ (fun hHeld0 => ?_)
                  · exact ⟨dcell (s0_), dcell (s1_), dcell (s2_), dcell (s3_), dcell (s4_), dcell (s5_)⟩
                  refine wpAnyH_take (i := 0) (oi := { dst := some 90, op := Op.load 29 (Operand.tmp 5), type := 29, pos := "laws.go:111", after := #[], guard := none }) (v := .agg #[.int .i64 kv1, .slice av1 nv1 qv1]) rfl (by kernel_rfl) (by kernel_rfl) (by kernel_rfl) (fun _ _ _ h => h) (Or.inl ⟨by rfl, ?_⟩) hHeld0 ?_
                  · intro w' hSw; (try dsimp only at hSw); go_simp
                  (try simp only [Act.put, List.setIfInBounds_toArray, List.set_cons_zero, List.set_cons_succ])
                  refine wpAnyH_take (i := 1) (oi := { dst := some 91, op := Op.load 29 (Operand.tmp 6), type := 29, pos := "laws.go:111", after := #[], guard := none }) (v := .agg #[.int .i64 kx1, .slice ax1 nx1 qx1]) rfl (by kernel_rfl) (by kernel_rfl) (by kernel_rfl) (fun _ _ _ h => h) (Or.inl ⟨by rfl, ?_⟩) hHeld0 ?_
                  · intro w' hSw; (try dsimp only at hSw); go_simp
                  (try simp only [Act.put, List.setIfInBounds_toArray, List.set_cons_zero, List.set_cons_succ])
                  refine wpAnyH_take (i := 3) (oi := { dst := some 93, op := Op.load 29 (Operand.tmp 7), type := 29, pos := "laws.go:111", after := #[], guard := none }) (v := .agg #[.int .i64 kr2, .slice ar2 nr2 qr2]) rfl (by kernel_rfl) (by kernel_rfl) (by kernel_rfl) (fun _ _ _ h => h) (Or.inl ⟨by rfl, ?_⟩) hHeld0 ?_
                  · intro w' hSw; (try dsimp only at hSw); go_simp
                  (try simp only [Act.put, List.setIfInBounds_toArray, List.set_cons_zero, List.set_cons_succ])
                  refine wpAnyH_take (i := 4) (oi := { dst := some 94, op := Op.load 29 (Operand.tmp 5), type := 29, pos := "laws.go:111", after := #[], guard := none }) (v := .agg #[.int .i64 kv1, .slice av1 nv1 qv1]) rfl (by kernel_rfl) (by kernel_rfl) (by kernel_rfl) (fun _ _ _ h => h) (Or.inl ⟨by rfl, ?_⟩) hHeld0 ?_
                  · intro w' hSw; (try dsimp only at hSw); go_simp
                  (try simp only [Act.put, List.setIfInBounds_toArray, List.set_cons_zero, List.set_cons_succ])
                  refine wpAnyH_ready (rs := [2]) (by kernel_rfl) (by simp) ?_
                  refine AllReadyH.cons (o := { dst := some 92, op := Op.call { callee := Callee.value (Operand.func 53), args := #[Operand.tmp 90, Operand.tmp 91], argTypes := #[29, 29] }, type := 4, pos := "laws.go:111", after := #[{ on := 0, ground := Ground.data }, { on := 1, ground := Ground.data }], guard := none }) rfl (fun K hK => ?_) AllReadyH.nil
                  go_simp
                  go_at_call 53
                  (with_reducible refine (implPreciseB _ _ t1 u1 _ _ _ (hv1.below bal1.drew).all (hx1.below bal1.drew).all).mono ?_)
                  rintro e w12 ⟨rfl, hb12⟩
                  rw [Hq4.out]
                  go_wp2_with fail
                  refine hK.out _ _ ?_ (fun hHeld1 => ?_)
                  · exact ⟨bcell hb12 (dcell (s0_)), bcell hb12 (dcell (s1_)), bcell hb12 (dcell (s2_)), bcell hb12 (dcell (s3_)), bcell hb12 (dcell (s4_)), bcell hb12 (dcell (s5_))⟩
                  clear hK K hHeld0
                  (try simp only [Act.put, List.setIfInBounds_toArray, List.set_cons_zero, List.set_cons_succ])
                  refine wpAnyH_ready (rs := [5]) (by kernel_rfl) (by simp) ?_
                  refine AllReadyH.cons (o := { dst := some 95, op := Op.call { callee := Callee.value (Operand.func 37), args := #[Operand.tmp 93, Operand.tmp 94], argTypes := #[29, 29] }, type := 4, pos := "laws.go:111", after := #[{ on := 3, ground := Ground.data }, { on := 4, ground := Ground.data }, { on := 2, ground := Ground.chain }], guard := none }) rfl (fun K hK => ?_) AllReadyH.nil
                  go_simp
                  go_at_call 37
                  (with_reducible refine (implTypeSame _ _ (meetT t1 u1) t1 _ _ _ (hv2.below (bstep bal1.drew hb12)).rep.all (hv1.below (bstep bal1.drew hb12)).all).mono ?_)
                  rintro e w13 ⟨rfl, hb13⟩
                  rw [Hq5.out]
                  go_wp2_with fail
                  refine hK.out _ _ ?_ (fun hHeld2 => ?_)
                  · exact ⟨bcell hb13 (bcell hb12 (dcell (s0_))), bcell hb13 (bcell hb12 (dcell (s1_))), bcell hb13 (bcell hb12 (dcell (s2_))), bcell hb13 (bcell hb12 (dcell (s3_))), bcell hb13 (bcell hb12 (dcell (s4_))), bcell hb13 (bcell hb12 (dcell (s5_)))⟩
                  clear hK K hHeld1
                  (try simp only [Act.put, List.setIfInBounds_toArray, List.set_cons_zero, List.set_cons_succ])
                  refine wpAnyH_take (i := 6) (oi := { dst := some 96, op := Op.binOp BinOp.eql 4 (Operand.tmp 92) (Operand.tmp 95) 4, type := 4, pos := "laws.go:111", after := #[{ on := 2, ground := Ground.data }, { on := 5, ground := Ground.data }], guard := none }) (v := .bool true) rfl (by kernel_rfl) (by kernel_rfl) (by kernel_rfl) (fun _ _ _ h => h) (Or.inl ⟨by rfl, ?_⟩) hHeld2 ?_
                  · intro w' hSw; (try dsimp only at hSw); go_simp
                  (try simp only [Act.put, List.setIfInBounds_toArray, List.set_cons_zero, List.set_cons_succ])
                  refine wpAnyH_take (i := 7) (oi := { dst := some 97, op := Op.move (Operand.tmp 96), type := 4, pos := "laws.go:111", after := #[{ on := 6, ground := Ground.data }, { on := 5, ground := Ground.chain }], guard := none }) (v := .bool true) rfl (by kernel_rfl) (by kernel_rfl) (by kernel_rfl) (fun _ _ _ h => h) (Or.inl ⟨by rfl, ?_⟩) hHeld2 ?_
                  · intro w' hSw; (try dsimp only at hSw); go_simp
                  (try simp only [Act.put, List.setIfInBounds_toArray, List.set_cons_zero, List.set_cons_succ])
                  refine wpAnyH_take (i := 8) (oi := { dst := some 98, op := Op.move (Operand.tmp 15), type := 4, pos := "laws.go:111", after := #[{ on := 7, ground := Ground.guard }], guard := some (7, true) }) (v := .bool true) rfl (by kernel_rfl) (by kernel_rfl) (by kernel_rfl) (fun _ _ _ h => h) (Or.inl ⟨by rfl, ?_⟩) hHeld2 ?_
                  · intro w' hSw; (try dsimp only at hSw); go_simp
                  (try simp only [Act.put, List.setIfInBounds_toArray, List.set_cons_zero, List.set_cons_succ])
                  refine wpAnyH_take (i := 9) (oi := { dst := some 99, op := Op.move (Operand.tmp 17), type := 4, pos := "laws.go:111", after := #[{ on := 7, ground := Ground.guard }], guard := some (7, true) }) (v := .bool true) rfl (by kernel_rfl) (by kernel_rfl) (by kernel_rfl) (fun _ _ _ h => h) (Or.inl ⟨by rfl, ?_⟩) hHeld2 ?_
                  · intro w' hSw; (try dsimp only at hSw); go_simp
                  (try simp only [Act.put, List.setIfInBounds_toArray, List.set_cons_zero, List.set_cons_succ])
                  refine wpAnyH_take (i := 10) (oi := { dst := some 100, op := Op.move (Operand.tmp 99), type := 4, pos := "laws.go:111", after := #[{ on := 9, ground := Ground.data }, { on := 7, ground := Ground.chain }, { on := 7, ground := Ground.guard }], guard := some (7, true) }) (v := .bool true) rfl (by kernel_rfl) (by kernel_rfl) (by kernel_rfl) (fun _ _ _ h => h) (Or.inl ⟨by rfl, ?_⟩) hHeld2 ?_
                  · intro w' hSw; (try dsimp only at hSw); go_simp
                  (try simp only [Act.put, List.setIfInBounds_toArray, List.set_cons_zero, List.set_cons_succ])
                  refine wpAnyH_take (i := 11) (oi := { dst := some 101, op := Op.move (Operand.tmp 19), type := 4, pos := "laws.go:111", after := #[{ on := 10, ground := Ground.guard }], guard := some (10, true) }) (v := .bool false) rfl (by kernel_rfl) (by kernel_rfl) (by kernel_rfl) (fun _ _ _ h => h) (Or.inl ⟨by rfl, ?_⟩) hHeld2 ?_
                  · intro w' hSw; (try dsimp only at hSw); go_simp
                  (try simp only [Act.put, List.setIfInBounds_toArray, List.set_cons_zero, List.set_cons_succ])
                  refine wpAnyH_take (i := 12) (oi := { dst := some 102, op := Op.pick (Operand.tmp 100) (Operand.tmp 101) (Operand.const (Value.bool false)), type := 4, pos := "laws.go:111", after := #[{ on := 10, ground := Ground.data }, { on := 11, ground := Ground.data }, { on := 7, ground := Ground.guard }], guard := some (7, true) }) (v := .bool false) rfl (by kernel_rfl) (by kernel_rfl) (by kernel_rfl) (fun _ _ _ h => h) (Or.inl ⟨by rfl, ?_⟩) hHeld2 ?_
                  · intro w' hSw; (try dsimp only at hSw); go_simp
                  (try simp only [Act.put, List.setIfInBounds_toArray, List.set_cons_zero, List.set_cons_succ])
                  refine wpAnyH_take (i := 13) (oi := { dst := some 103, op := Op.binOp BinOp.eql 4 (Operand.tmp 98) (Operand.tmp 102) 4, type := 4, pos := "laws.go:111", after := #[{ on := 8, ground := Ground.data }, { on := 12, ground := Ground.data }, { on := 7, ground := Ground.guard }], guard := some (7, true) }) (v := .bool false) rfl (by kernel_rfl) (by kernel_rfl) (by kernel_rfl) (fun _ _ _ h => h) (Or.inl ⟨by rfl, ?_⟩) hHeld2 ?_
                  · intro w' hSw; (try dsimp only at hSw); go_simp
                  (try simp only [Act.put, List.setIfInBounds_toArray, List.set_cons_zero, List.set_cons_succ])
                  refine wpAnyH_take (i := 14) (oi := { dst := some 104, op := Op.pick (Operand.tmp 97) (Operand.tmp 103) (Operand.const (Value.bool false)), type := 4, pos := "laws.go:111", after := #[{ on := 7, ground := Ground.data }, { on := 13, ground := Ground.data }], guard := none }) (v := .bool false) rfl (by kernel_rfl) (by kernel_rfl) (by kernel_rfl) (fun _ _ _ h => h) (Or.inl ⟨by rfl, ?_⟩) hHeld2 ?_
                  · intro w' hSw; (try dsimp only at hSw); go_simp
                  (try simp only [Act.put, List.setIfInBounds_toArray, List.set_cons_zero, List.set_cons_succ])
                  refine wpAnyH_take (i := 15) (oi := { dst := some 105, op := Op.move (Operand.tmp 104), type := 4, pos := "laws.go:111", after := #[{ on := 14, ground := Ground.data }, { on := 10, ground := Ground.chain }], guard := none }) (v := .bool false) rfl (by kernel_rfl) (by kernel_rfl) (by kernel_rfl) (fun _ _ _ h => h) (Or.inl ⟨by rfl, ?_⟩) hHeld2 ?_
                  · intro w' hSw; (try dsimp only at hSw); go_simp
                  (try simp only [Act.put, List.setIfInBounds_toArray, List.set_cons_zero, List.set_cons_succ])
                  refine wpAnyH_take (i := 16) (oi := { dst := some 106, op := Op.move (Operand.tmp 15), type := 4, pos := "laws.go:111", after := #[{ on := 15, ground := Ground.guard }], guard := some (15, true) }) (v := undef) rfl (by kernel_rfl) (by kernel_rfl) (by kernel_rfl) (fun _ _ _ h => h) (Or.inr ⟨by rfl, rfl⟩) hHeld2 ?_
                  (try simp only [Act.put, List.setIfInBounds_toArray, List.set_cons_zero, List.set_cons_succ])
                  refine wpAnyH_take (i := 17) (oi := { dst := some 107, op := Op.unOp UnOp.not 4 (Operand.tmp 106), type := 4, pos := "laws.go:111", after := #[{ on := 16, ground := Ground.data }, { on := 15, ground := Ground.guard }], guard := some (15, true) }) (v := undef) rfl (by kernel_rfl) (by kernel_rfl) (by kernel_rfl) (fun _ _ _ h => h) (Or.inr ⟨by rfl, rfl⟩) hHeld2 ?_
                  (try simp only [Act.put, List.setIfInBounds_toArray, List.set_cons_zero, List.set_cons_succ])
                  refine wpAnyH_take (i := 18) (oi := { dst := some 108, op := Op.move (Operand.tmp 107), type := 4, pos := "laws.go:111", after := #[{ on := 17, ground := Ground.data }, { on := 15, ground := Ground.chain }, { on := 15, ground := Ground.guard }], guard := some (15, true) }) (v := undef) rfl (by kernel_rfl) (by kernel_rfl) (by kernel_rfl) (fun _ _ _ h => h) (Or.inr ⟨by rfl, rfl⟩) hHeld2 ?_
                  (try simp only [Act.put, List.setIfInBounds_toArray, List.set_cons_zero, List.set_cons_succ])
                  refine wpAnyH_take (i := 19) (oi := { dst := some 109, op := Op.load 29 (Operand.tmp 14), type := 29, pos := "laws.go:111", after := #[{ on := 18, ground := Ground.guard }], guard := some (18, false) }) (v := undef) rfl (by kernel_rfl) (by kernel_rfl) (by kernel_rfl) (fun _ _ _ h => h) (Or.inr ⟨by rfl, rfl⟩) hHeld2 ?_
                  (try simp only [Act.put, List.setIfInBounds_toArray, List.set_cons_zero, List.set_cons_succ])
                  refine wpAnyH_take (i := 20) (oi := { dst := some 110, op := Op.load 29 (Operand.tmp 18), type := 29, pos := "laws.go:111", after := #[{ on := 18, ground := Ground.guard }], guard := some (18, false) }) (v := undef) rfl (by kernel_rfl) (by kernel_rfl) (by kernel_rfl) (fun _ _ _ h => h) (Or.inr ⟨by rfl, rfl⟩) hHeld2 ?_
                  (try simp only [Act.put, List.setIfInBounds_toArray, List.set_cons_zero, List.set_cons_succ])
                  refine wpAnyH_take (i := 21) (oi := { dst := some 111, op := Op.call { callee := Callee.value (Operand.func 37), args := #[Operand.tmp 109, Operand.tmp 110], argTypes := #[29, 29] }, type := 4, pos := "laws.go:111", after := #[{ on := 19, ground := Ground.data }, { on := 20, ground := Ground.data }, { on := 18, ground := Ground.chain }, { on := 18, ground := Ground.guard }], guard := some (18, false) }) (v := undef) rfl (by kernel_rfl) (by kernel_rfl) (by kernel_rfl) (fun _ _ _ h => h) (Or.inr ⟨by rfl, rfl⟩) hHeld2 ?_
                  (try simp only [Act.put, List.setIfInBounds_toArray, List.set_cons_zero, List.set_cons_succ])
                  refine wpAnyH_take (i := 22) (oi := { dst := some 112, op := Op.pick (Operand.tmp 108) (Operand.const (Value.bool true)) (Operand.tmp 111), type := 4, pos := "laws.go:111", after := #[{ on := 18, ground := Ground.data }, { on := 21, ground := Ground.data }, { on := 15, ground := Ground.guard }], guard := some (15, true) }) (v := undef) rfl (by kernel_rfl) (by kernel_rfl) (by kernel_rfl) (fun _ _ _ h => h) (Or.inr ⟨by rfl, rfl⟩) hHeld2 ?_
                  (try simp only [Act.put, List.setIfInBounds_toArray, List.set_cons_zero, List.set_cons_succ])
                  refine wpAnyH_take (i := 23) (oi := { dst := some 113, op := Op.pick (Operand.tmp 105) (Operand.tmp 112) (Operand.const (Value.bool false)), type := 4, pos := "laws.go:111", after := #[{ on := 15, ground := Ground.data }, { on := 22, ground := Ground.data }], guard := none }) (v := .bool false) rfl (by kernel_rfl) (by kernel_rfl) (by kernel_rfl) (fun _ _ _ h => h) (Or.inl ⟨by rfl, ?_⟩) hHeld2 ?_
                  · intro w' hSw; (try dsimp only at hSw); go_simp
                  (try simp only [Act.put, List.setIfInBounds_toArray, List.set_cons_zero, List.set_cons_succ])
                  refine wpAnyH_take (i := 24) (oi := { dst := some 4, op := Op.assign (Operand.tmp 113), type := 4, pos := "laws.go:111", after := #[{ on := 23, ground := Ground.data }, { on := 21, ground := Ground.chain }, { on := 0, ground := Ground.phase }, { on := 1, ground := Ground.phase }, { on := 2, ground := Ground.phase }, { on := 3, ground := Ground.phase }, { on := 4, ground := Ground.phase }, { on := 5, ground := Ground.phase }, { on := 6, ground := Ground.phase }, { on := 7, ground := Ground.phase }, { on := 8, ground := Ground.phase }, { on := 9, ground := Ground.phase }, { on := 10, ground := Ground.phase }, { on := 11, ground := Ground.phase }, { on := 12, ground := Ground.phase }, { on := 13, ground := Ground.phase }, { on := 14, ground := Ground.phase }, { on := 15, ground := Ground.phase }, { on := 16, ground := Ground.phase }, { on := 17, ground := Ground.phase }, { on := 18, ground := Ground.phase }, { on := 19, ground := Ground.phase }, { on := 20, ground := Ground.phase }, { on := 21, ground := Ground.phase }, { on := 22, ground := Ground.phase }, { on := 23, ground := Ground.phase }], guard := none }) (v := .bool false) rfl (by kernel_rfl) (by kernel_rfl) (by kernel_rfl) (fun _ _ _ h => h) (Or.inl ⟨by rfl, ?_⟩) hHeld2 ?_
                  · intro w' hSw; (try dsimp only at hSw); go_simp
                  (try simp only [Act.put, List.setIfInBounds_toArray, List.set_cons_zero, List.set_cons_succ])
                  refine wpAnyH_done (by kernel_rfl) ?_ _
                  refine NoPanic.normal ?_
                  clear hHeld2 s0_ s1_ s2_ s3_ s4_ s5_
                  replace hB := (bstep (bstep (hB.alloc hB.size _).drew hb12) hb13)
                  have zw13 := hB.size
                  go_wp2_with fail
                  exact (leaf_FnMeetLaws_1 Hq3.out Hq4.out Hq5.out Hq6.out Hq7.out Hq8.out).elim
              · (try rw [q7])
                have Hq7 := Lib.hid q7
                clear q7
                rcases Bool.eq_false_or_eq_true (consB t1 (meetT u1 u5)) with q9 | q9
                · (try rw [q9])
                  have Hq9 := Lib.hid q9
                  clear q9
                  go_wp2_with fail
                  have s0_ : (World.alloc w8 (Obj.cells #[.int .i64 kr8, .slice ar8 nr8 qr8] 29)).cell? ⟨w1.heap.size, 0, none⟩ = some (.int .i64 kv1) := bcell bal1 (c0_0)
                  have s1_ : (World.alloc w8 (Obj.cells #[.int .i64 kr8, .slice ar8 nr8 qr8] 29)).cell? ⟨w1.heap.size, 1, none⟩ = some (.slice av1 nv1 qv1) := bcell bal1 (c0_1)
                  have s2_ : (World.alloc w8 (Obj.cells #[.int .i64 kr8, .slice ar8 nr8 qr8] 29)).cell? ⟨w1.heap.size + 1, 0, none⟩ = some (.int .i64 kx1) := bcell bal1 (c1_0)
                  have s3_ : (World.alloc w8 (Obj.cells #[.int .i64 kr8, .slice ar8 nr8 qr8] 29)).cell? ⟨w1.heap.size + 1, 1, none⟩ = some (.slice ax1 nx1 qx1) := bcell bal1 (c1_1)
                  have s4_ : (World.alloc w8 (Obj.cells #[.int .i64 kr8, .slice ar8 nr8 qr8] 29)).cell? ⟨w2.heap.size, 0, none⟩ = some (.int .i64 kr2) := bcell bal1 (c2_0)
                  have s5_ : (World.alloc w8 (Obj.cells #[.int .i64 kr8, .slice ar8 nr8 qr8] 29)).cell? ⟨w2.heap.size, 1, none⟩ = some (.slice ar2 nr2 qr2) := bcell bal1 (c2_1)
                  refine wp_region_noPanic ?_
                  refine wp_region_held_drew (S := fun w' => w'.cell? ⟨w1.heap.size, 0, none⟩ = some (.int .i64 kv1) ∧ w'.cell? ⟨w1.heap.size, 1, none⟩ = some (.slice av1 nv1 qv1) ∧ w'.cell? ⟨w1.heap.size + 1, 0, none⟩ = some (.int .i64 kx1) ∧ w'.cell? ⟨w1.heap.size + 1, 1, none⟩ = some (.slice ax1 nx1 qx1) ∧ w'.cell? ⟨w2.heap.size, 0, none⟩ = some (.int .i64 kr2) ∧ w'.cell? ⟨w2.heap.size, 1, none⟩ = some (.slice ar2 nr2 qr2)) (by kernel_rfl) ?_ (fun hHeld0 => ?_)
                  · exact ⟨dcell (s0_), dcell (s1_), dcell (s2_), dcell (s3_), dcell (s4_), dcell (s5_)⟩
                  refine wpAnyH_take (i := 0) (oi := { dst := some 90, op := Op.load 29 (Operand.tmp 5), type := 29, pos := "laws.go:111", after := #[], guard := none }) (v := .agg #[.int .i64 kv1, .slice av1 nv1 qv1]) rfl (by kernel_rfl) (by kernel_rfl) (by kernel_rfl) (fun _ _ _ h => h) (Or.inl ⟨by rfl, ?_⟩) hHeld0 ?_
                  · intro w' hSw; (try dsimp only at hSw); go_simp
                  (try simp only [Act.put, List.setIfInBounds_toArray, List.set_cons_zero, List.set_cons_succ])
                  refine wpAnyH_take (i := 1) (oi := { dst := some 91, op := Op.load 29 (Operand.tmp 6), type := 29, pos := "laws.go:111", after := #[], guard := none }) (v := .agg #[.int .i64 kx1, .slice ax1 nx1 qx1]) rfl (by kernel_rfl) (by kernel_rfl) (by kernel_rfl) (fun _ _ _ h => h) (Or.inl ⟨by rfl, ?_⟩) hHeld0 ?_
                  · intro w' hSw; (try dsimp only at hSw); go_simp
                  (try simp only [Act.put, List.setIfInBounds_toArray, List.set_cons_zero, List.set_cons_succ])
                  refine wpAnyH_take (i := 3) (oi := { dst := some 93, op := Op.load 29 (Operand.tmp 7), type := 29, pos := "laws.go:111", after := #[], guard := none }) (v := .agg #[.int .i64 kr2, .slice ar2 nr2 qr2]) rfl (by kernel_rfl) (by kernel_rfl) (by kernel_rfl) (fun _ _ _ h => h) (Or.inl ⟨by rfl, ?_⟩) hHeld0 ?_
                  · intro w' hSw; (try dsimp only at hSw); go_simp
                  (try simp only [Act.put, List.setIfInBounds_toArray, List.set_cons_zero, List.set_cons_succ])
                  refine wpAnyH_take (i := 4) (oi := { dst := some 94, op := Op.load 29 (Operand.tmp 5), type := 29, pos := "laws.go:111", after := #[], guard := none }) (v := .agg #[.int .i64 kv1, .slice av1 nv1 qv1]) rfl (by kernel_rfl) (by kernel_rfl) (by kernel_rfl) (fun _ _ _ h => h) (Or.inl ⟨by rfl, ?_⟩) hHeld0 ?_
                  · intro w' hSw; (try dsimp only at hSw); go_simp
                  (try simp only [Act.put, List.setIfInBounds_toArray, List.set_cons_zero, List.set_cons_succ])
                  refine wpAnyH_ready (rs := [2]) (by kernel_rfl) (by simp) ?_
                  refine AllReadyH.cons (o := { dst := some 92, op := Op.call { callee := Callee.value (Operand.func 53), args := #[Operand.tmp 90, Operand.tmp 91], argTypes := #[29, 29] }, type := 4, pos := "laws.go:111", after := #[{ on := 0, ground := Ground.data }, { on := 1, ground := Ground.data }], guard := none }) rfl (fun K hK => ?_) AllReadyH.nil
                  go_simp
                  go_at_call 53
                  (with_reducible refine (implPreciseB _ _ t1 u1 _ _ _ (hv1.below bal1.drew).all (hx1.below bal1.drew).all).mono ?_)
                  rintro e w14 ⟨rfl, hb14⟩
                  rw [Hq4.out]
                  go_wp2_with fail
                  refine hK.out _ _ ?_ (fun hHeld1 => ?_)
                  · exact ⟨bcell hb14 (dcell (s0_)), bcell hb14 (dcell (s1_)), bcell hb14 (dcell (s2_)), bcell hb14 (dcell (s3_)), bcell hb14 (dcell (s4_)), bcell hb14 (dcell (s5_))⟩
                  clear hK K hHeld0
                  (try simp only [Act.put, List.setIfInBounds_toArray, List.set_cons_zero, List.set_cons_succ])
                  refine wpAnyH_ready (rs := [5]) (by kernel_rfl) (by simp) ?_
                  refine AllReadyH.cons (o := { dst := some 95, op := Op.call { callee := Callee.value (Operand.func 37), args := #[Operand.tmp 93, Operand.tmp 94], argTypes := #[29, 29] }, type := 4, pos := "laws.go:111", after := #[{ on := 3, ground := Ground.data }, { on := 4, ground := Ground.data }, { on := 2, ground := Ground.chain }], guard := none }) rfl (fun K hK => ?_) AllReadyH.nil
                  go_simp
                  go_at_call 37
                  (with_reducible refine (implTypeSame _ _ (meetT t1 u1) t1 _ _ _ (hv2.below (bstep bal1.drew hb14)).rep.all (hv1.below (bstep bal1.drew hb14)).all).mono ?_)
                  rintro e w15 ⟨rfl, hb15⟩
                  rw [Hq5.out]
                  go_wp2_with fail
                  refine hK.out _ _ ?_ (fun hHeld2 => ?_)
                  · exact ⟨bcell hb15 (bcell hb14 (dcell (s0_))), bcell hb15 (bcell hb14 (dcell (s1_))), bcell hb15 (bcell hb14 (dcell (s2_))), bcell hb15 (bcell hb14 (dcell (s3_))), bcell hb15 (bcell hb14 (dcell (s4_))), bcell hb15 (bcell hb14 (dcell (s5_)))⟩
                  clear hK K hHeld1
                  (try simp only [Act.put, List.setIfInBounds_toArray, List.set_cons_zero, List.set_cons_succ])
                  refine wpAnyH_take (i := 6) (oi := { dst := some 96, op := Op.binOp BinOp.eql 4 (Operand.tmp 92) (Operand.tmp 95) 4, type := 4, pos := "laws.go:111", after := #[{ on := 2, ground := Ground.data }, { on := 5, ground := Ground.data }], guard := none }) (v := .bool true) rfl (by kernel_rfl) (by kernel_rfl) (by kernel_rfl) (fun _ _ _ h => h) (Or.inl ⟨by rfl, ?_⟩) hHeld2 ?_
                  · intro w' hSw; (try dsimp only at hSw); go_simp
                  (try simp only [Act.put, List.setIfInBounds_toArray, List.set_cons_zero, List.set_cons_succ])
                  refine wpAnyH_take (i := 7) (oi := { dst := some 97, op := Op.move (Operand.tmp 96), type := 4, pos := "laws.go:111", after := #[{ on := 6, ground := Ground.data }, { on := 5, ground := Ground.chain }], guard := none }) (v := .bool true) rfl (by kernel_rfl) (by kernel_rfl) (by kernel_rfl) (fun _ _ _ h => h) (Or.inl ⟨by rfl, ?_⟩) hHeld2 ?_
                  · intro w' hSw; (try dsimp only at hSw); go_simp
                  (try simp only [Act.put, List.setIfInBounds_toArray, List.set_cons_zero, List.set_cons_succ])
                  refine wpAnyH_take (i := 8) (oi := { dst := some 98, op := Op.move (Operand.tmp 15), type := 4, pos := "laws.go:111", after := #[{ on := 7, ground := Ground.guard }], guard := some (7, true) }) (v := .bool false) rfl (by kernel_rfl) (by kernel_rfl) (by kernel_rfl) (fun _ _ _ h => h) (Or.inl ⟨by rfl, ?_⟩) hHeld2 ?_
                  · intro w' hSw; (try dsimp only at hSw); go_simp
                  (try simp only [Act.put, List.setIfInBounds_toArray, List.set_cons_zero, List.set_cons_succ])
                  refine wpAnyH_take (i := 9) (oi := { dst := some 99, op := Op.move (Operand.tmp 17), type := 4, pos := "laws.go:111", after := #[{ on := 7, ground := Ground.guard }], guard := some (7, true) }) (v := .bool true) rfl (by kernel_rfl) (by kernel_rfl) (by kernel_rfl) (fun _ _ _ h => h) (Or.inl ⟨by rfl, ?_⟩) hHeld2 ?_
                  · intro w' hSw; (try dsimp only at hSw); go_simp
                  (try simp only [Act.put, List.setIfInBounds_toArray, List.set_cons_zero, List.set_cons_succ])
                  refine wpAnyH_take (i := 10) (oi := { dst := some 100, op := Op.move (Operand.tmp 99), type := 4, pos := "laws.go:111", after := #[{ on := 9, ground := Ground.data }, { on := 7, ground := Ground.chain }, { on := 7, ground := Ground.guard }], guard := some (7, true) }) (v := .bool true) rfl (by kernel_rfl) (by kernel_rfl) (by kernel_rfl) (fun _ _ _ h => h) (Or.inl ⟨by rfl, ?_⟩) hHeld2 ?_
                  · intro w' hSw; (try dsimp only at hSw); go_simp
                  (try simp only [Act.put, List.setIfInBounds_toArray, List.set_cons_zero, List.set_cons_succ])
                  refine wpAnyH_take (i := 11) (oi := { dst := some 101, op := Op.move (Operand.tmp 19), type := 4, pos := "laws.go:111", after := #[{ on := 10, ground := Ground.guard }], guard := some (10, true) }) (v := .bool true) rfl (by kernel_rfl) (by kernel_rfl) (by kernel_rfl) (fun _ _ _ h => h) (Or.inl ⟨by rfl, ?_⟩) hHeld2 ?_
                  · intro w' hSw; (try dsimp only at hSw); go_simp
                  (try simp only [Act.put, List.setIfInBounds_toArray, List.set_cons_zero, List.set_cons_succ])
                  refine wpAnyH_take (i := 12) (oi := { dst := some 102, op := Op.pick (Operand.tmp 100) (Operand.tmp 101) (Operand.const (Value.bool false)), type := 4, pos := "laws.go:111", after := #[{ on := 10, ground := Ground.data }, { on := 11, ground := Ground.data }, { on := 7, ground := Ground.guard }], guard := some (7, true) }) (v := .bool true) rfl (by kernel_rfl) (by kernel_rfl) (by kernel_rfl) (fun _ _ _ h => h) (Or.inl ⟨by rfl, ?_⟩) hHeld2 ?_
                  · intro w' hSw; (try dsimp only at hSw); go_simp
                  (try simp only [Act.put, List.setIfInBounds_toArray, List.set_cons_zero, List.set_cons_succ])
                  refine wpAnyH_take (i := 13) (oi := { dst := some 103, op := Op.binOp BinOp.eql 4 (Operand.tmp 98) (Operand.tmp 102) 4, type := 4, pos := "laws.go:111", after := #[{ on := 8, ground := Ground.data }, { on := 12, ground := Ground.data }, { on := 7, ground := Ground.guard }], guard := some (7, true) }) (v := .bool false) rfl (by kernel_rfl) (by kernel_rfl) (by kernel_rfl) (fun _ _ _ h => h) (Or.inl ⟨by rfl, ?_⟩) hHeld2 ?_
                  · intro w' hSw; (try dsimp only at hSw); go_simp
                  (try simp only [Act.put, List.setIfInBounds_toArray, List.set_cons_zero, List.set_cons_succ])
                  refine wpAnyH_take (i := 14) (oi := { dst := some 104, op := Op.pick (Operand.tmp 97) (Operand.tmp 103) (Operand.const (Value.bool false)), type := 4, pos := "laws.go:111", after := #[{ on := 7, ground := Ground.data }, { on := 13, ground := Ground.data }], guard := none }) (v := .bool false) rfl (by kernel_rfl) (by kernel_rfl) (by kernel_rfl) (fun _ _ _ h => h) (Or.inl ⟨by rfl, ?_⟩) hHeld2 ?_
                  · intro w' hSw; (try dsimp only at hSw); go_simp
                  (try simp only [Act.put, List.setIfInBounds_toArray, List.set_cons_zero, List.set_cons_succ])
                  refine wpAnyH_take (i := 15) (oi := { dst := some 105, op := Op.move (Operand.tmp 104), type := 4, pos := "laws.go:111", after := #[{ on := 14, ground := Ground.data }, { on := 10, ground := Ground.chain }], guard := none }) (v := .bool false) rfl (by kernel_rfl) (by kernel_rfl) (by kernel_rfl) (fun _ _ _ h => h) (Or.inl ⟨by rfl, ?_⟩) hHeld2 ?_
                  · intro w' hSw; (try dsimp only at hSw); go_simp
                  (try simp only [Act.put, List.setIfInBounds_toArray, List.set_cons_zero, List.set_cons_succ])
                  refine wpAnyH_take (i := 16) (oi := { dst := some 106, op := Op.move (Operand.tmp 15), type := 4, pos := "laws.go:111", after := #[{ on := 15, ground := Ground.guard }], guard := some (15, true) }) (v := undef) rfl (by kernel_rfl) (by kernel_rfl) (by kernel_rfl) (fun _ _ _ h => h) (Or.inr ⟨by rfl, rfl⟩) hHeld2 ?_
                  (try simp only [Act.put, List.setIfInBounds_toArray, List.set_cons_zero, List.set_cons_succ])
                  refine wpAnyH_take (i := 17) (oi := { dst := some 107, op := Op.unOp UnOp.not 4 (Operand.tmp 106), type := 4, pos := "laws.go:111", after := #[{ on := 16, ground := Ground.data }, { on := 15, ground := Ground.guard }], guard := some (15, true) }) (v := undef) rfl (by kernel_rfl) (by kernel_rfl) (by kernel_rfl) (fun _ _ _ h => h) (Or.inr ⟨by rfl, rfl⟩) hHeld2 ?_
                  (try simp only [Act.put, List.setIfInBounds_toArray, List.set_cons_zero, List.set_cons_succ])
                  refine wpAnyH_take (i := 18) (oi := { dst := some 108, op := Op.move (Operand.tmp 107), type := 4, pos := "laws.go:111", after := #[{ on := 17, ground := Ground.data }, { on := 15, ground := Ground.chain }, { on := 15, ground := Ground.guard }], guard := some (15, true) }) (v := undef) rfl (by kernel_rfl) (by kernel_rfl) (by kernel_rfl) (fun _ _ _ h => h) (Or.inr ⟨by rfl, rfl⟩) hHeld2 ?_
                  (try simp only [Act.put, List.setIfInBounds_toArray, List.set_cons_zero, List.set_cons_succ])
                  refine wpAnyH_take (i := 19) (oi := { dst := some 109, op := Op.load 29 (Operand.tmp 14), type := 29, pos := "laws.go:111", after := #[{ on := 18, ground := Ground.guard }], guard := some (18, false) }) (v := undef) rfl (by kernel_rfl) (by kernel_rfl) (by kernel_rfl) (fun _ _ _ h => h) (Or.inr ⟨by rfl, rfl⟩) hHeld2 ?_
                  (try simp only [Act.put, List.setIfInBounds_toArray, List.set_cons_zero, List.set_cons_succ])
                  refine wpAnyH_take (i := 20) (oi := { dst := some 110, op := Op.load 29 (Operand.tmp 18), type := 29, pos := "laws.go:111", after := #[{ on := 18, ground := Ground.guard }], guard := some (18, false) }) (v := undef) rfl (by kernel_rfl) (by kernel_rfl) (by kernel_rfl) (fun _ _ _ h => h) (Or.inr ⟨by rfl, rfl⟩) hHeld2 ?_
                  (try simp only [Act.put, List.setIfInBounds_toArray, List.set_cons_zero, List.set_cons_succ])
                  refine wpAnyH_take (i := 21) (oi := { dst := some 111, op := Op.call { callee := Callee.value (Operand.func 37), args := #[Operand.tmp 109, Operand.tmp 110], argTypes := #[29, 29] }, type := 4, pos := "laws.go:111", after := #[{ on := 19, ground := Ground.data }, { on := 20, ground := Ground.data }, { on := 18, ground := Ground.chain }, { on := 18, ground := Ground.guard }], guard := some (18, false) }) (v := undef) rfl (by kernel_rfl) (by kernel_rfl) (by kernel_rfl) (fun _ _ _ h => h) (Or.inr ⟨by rfl, rfl⟩) hHeld2 ?_
                  (try simp only [Act.put, List.setIfInBounds_toArray, List.set_cons_zero, List.set_cons_succ])
                  refine wpAnyH_take (i := 22) (oi := { dst := some 112, op := Op.pick (Operand.tmp 108) (Operand.const (Value.bool true)) (Operand.tmp 111), type := 4, pos := "laws.go:111", after := #[{ on := 18, ground := Ground.data }, { on := 21, ground := Ground.data }, { on := 15, ground := Ground.guard }], guard := some (15, true) }) (v := undef) rfl (by kernel_rfl) (by kernel_rfl) (by kernel_rfl) (fun _ _ _ h => h) (Or.inr ⟨by rfl, rfl⟩) hHeld2 ?_
                  (try simp only [Act.put, List.setIfInBounds_toArray, List.set_cons_zero, List.set_cons_succ])
                  refine wpAnyH_take (i := 23) (oi := { dst := some 113, op := Op.pick (Operand.tmp 105) (Operand.tmp 112) (Operand.const (Value.bool false)), type := 4, pos := "laws.go:111", after := #[{ on := 15, ground := Ground.data }, { on := 22, ground := Ground.data }], guard := none }) (v := .bool false) rfl (by kernel_rfl) (by kernel_rfl) (by kernel_rfl) (fun _ _ _ h => h) (Or.inl ⟨by rfl, ?_⟩) hHeld2 ?_
                  · intro w' hSw; (try dsimp only at hSw); go_simp
                  (try simp only [Act.put, List.setIfInBounds_toArray, List.set_cons_zero, List.set_cons_succ])
                  refine wpAnyH_take (i := 24) (oi := { dst := some 4, op := Op.assign (Operand.tmp 113), type := 4, pos := "laws.go:111", after := #[{ on := 23, ground := Ground.data }, { on := 21, ground := Ground.chain }, { on := 0, ground := Ground.phase }, { on := 1, ground := Ground.phase }, { on := 2, ground := Ground.phase }, { on := 3, ground := Ground.phase }, { on := 4, ground := Ground.phase }, { on := 5, ground := Ground.phase }, { on := 6, ground := Ground.phase }, { on := 7, ground := Ground.phase }, { on := 8, ground := Ground.phase }, { on := 9, ground := Ground.phase }, { on := 10, ground := Ground.phase }, { on := 11, ground := Ground.phase }, { on := 12, ground := Ground.phase }, { on := 13, ground := Ground.phase }, { on := 14, ground := Ground.phase }, { on := 15, ground := Ground.phase }, { on := 16, ground := Ground.phase }, { on := 17, ground := Ground.phase }, { on := 18, ground := Ground.phase }, { on := 19, ground := Ground.phase }, { on := 20, ground := Ground.phase }, { on := 21, ground := Ground.phase }, { on := 22, ground := Ground.phase }, { on := 23, ground := Ground.phase }], guard := none }) (v := .bool false) rfl (by kernel_rfl) (by kernel_rfl) (by kernel_rfl) (fun _ _ _ h => h) (Or.inl ⟨by rfl, ?_⟩) hHeld2 ?_
                  · intro w' hSw; (try dsimp only at hSw); go_simp
                  (try simp only [Act.put, List.setIfInBounds_toArray, List.set_cons_zero, List.set_cons_succ])
                  refine wpAnyH_done (by kernel_rfl) ?_ _
                  refine NoPanic.normal ?_
                  clear hHeld2 s0_ s1_ s2_ s3_ s4_ s5_
                  replace hB := (bstep (bstep (hB.alloc hB.size _).drew hb14) hb15)
                  have zw15 := hB.size
                  go_wp2_with fail
                  exact (leaf_FnMeetLaws_2 Hq3.out Hq4.out Hq5.out Hq6.out Hq7.out Hq9.out).elim
                · (try rw [q9])
                  have Hq9 := Lib.hid q9
                  clear q9
                  go_wp2_with fail
                  have s0_ : (World.alloc w8 (Obj.cells #[.int .i64 kr8, .slice ar8 nr8 qr8] 29)).cell? ⟨w1.heap.size, 0, none⟩ = some (.int .i64 kv1) := bcell bal1 (c0_0)
                  have s1_ : (World.alloc w8 (Obj.cells #[.int .i64 kr8, .slice ar8 nr8 qr8] 29)).cell? ⟨w1.heap.size, 1, none⟩ = some (.slice av1 nv1 qv1) := bcell bal1 (c0_1)
                  have s2_ : (World.alloc w8 (Obj.cells #[.int .i64 kr8, .slice ar8 nr8 qr8] 29)).cell? ⟨w1.heap.size + 1, 0, none⟩ = some (.int .i64 kx1) := bcell bal1 (c1_0)
                  have s3_ : (World.alloc w8 (Obj.cells #[.int .i64 kr8, .slice ar8 nr8 qr8] 29)).cell? ⟨w1.heap.size + 1, 1, none⟩ = some (.slice ax1 nx1 qx1) := bcell bal1 (c1_1)
                  have s4_ : (World.alloc w8 (Obj.cells #[.int .i64 kr8, .slice ar8 nr8 qr8] 29)).cell? ⟨w2.heap.size, 0, none⟩ = some (.int .i64 kr2) := bcell bal1 (c2_0)
                  have s5_ : (World.alloc w8 (Obj.cells #[.int .i64 kr8, .slice ar8 nr8 qr8] 29)).cell? ⟨w2.heap.size, 1, none⟩ = some (.slice ar2 nr2 qr2) := bcell bal1 (c2_1)
                  refine wp_region_noPanic ?_
                  refine wp_region_held_drew (S := fun w' => w'.cell? ⟨w1.heap.size, 0, none⟩ = some (.int .i64 kv1) ∧ w'.cell? ⟨w1.heap.size, 1, none⟩ = some (.slice av1 nv1 qv1) ∧ w'.cell? ⟨w1.heap.size + 1, 0, none⟩ = some (.int .i64 kx1) ∧ w'.cell? ⟨w1.heap.size + 1, 1, none⟩ = some (.slice ax1 nx1 qx1) ∧ w'.cell? ⟨w2.heap.size, 0, none⟩ = some (.int .i64 kr2) ∧ w'.cell? ⟨w2.heap.size, 1, none⟩ = some (.slice ar2 nr2 qr2)) (by kernel_rfl) ?_ (fun hHeld0 => ?_)
                  · exact ⟨dcell (s0_), dcell (s1_), dcell (s2_), dcell (s3_), dcell (s4_), dcell (s5_)⟩
                  refine wpAnyH_take (i := 0) (oi := { dst := some 90, op := Op.load 29 (Operand.tmp 5), type := 29, pos := "laws.go:111", after := #[], guard := none }) (v := .agg #[.int .i64 kv1, .slice av1 nv1 qv1]) rfl (by kernel_rfl) (by kernel_rfl) (by kernel_rfl) (fun _ _ _ h => h) (Or.inl ⟨by rfl, ?_⟩) hHeld0 ?_
                  · intro w' hSw; (try dsimp only at hSw); go_simp
                  (try simp only [Act.put, List.setIfInBounds_toArray, List.set_cons_zero, List.set_cons_succ])
                  refine wpAnyH_take (i := 1) (oi := { dst := some 91, op := Op.load 29 (Operand.tmp 6), type := 29, pos := "laws.go:111", after := #[], guard := none }) (v := .agg #[.int .i64 kx1, .slice ax1 nx1 qx1]) rfl (by kernel_rfl) (by kernel_rfl) (by kernel_rfl) (fun _ _ _ h => h) (Or.inl ⟨by rfl, ?_⟩) hHeld0 ?_
                  · intro w' hSw; (try dsimp only at hSw); go_simp
                  (try simp only [Act.put, List.setIfInBounds_toArray, List.set_cons_zero, List.set_cons_succ])
                  refine wpAnyH_take (i := 3) (oi := { dst := some 93, op := Op.load 29 (Operand.tmp 7), type := 29, pos := "laws.go:111", after := #[], guard := none }) (v := .agg #[.int .i64 kr2, .slice ar2 nr2 qr2]) rfl (by kernel_rfl) (by kernel_rfl) (by kernel_rfl) (fun _ _ _ h => h) (Or.inl ⟨by rfl, ?_⟩) hHeld0 ?_
                  · intro w' hSw; (try dsimp only at hSw); go_simp
                  (try simp only [Act.put, List.setIfInBounds_toArray, List.set_cons_zero, List.set_cons_succ])
                  refine wpAnyH_take (i := 4) (oi := { dst := some 94, op := Op.load 29 (Operand.tmp 5), type := 29, pos := "laws.go:111", after := #[], guard := none }) (v := .agg #[.int .i64 kv1, .slice av1 nv1 qv1]) rfl (by kernel_rfl) (by kernel_rfl) (by kernel_rfl) (fun _ _ _ h => h) (Or.inl ⟨by rfl, ?_⟩) hHeld0 ?_
                  · intro w' hSw; (try dsimp only at hSw); go_simp
                  (try simp only [Act.put, List.setIfInBounds_toArray, List.set_cons_zero, List.set_cons_succ])
                  refine wpAnyH_ready (rs := [2]) (by kernel_rfl) (by simp) ?_
                  refine AllReadyH.cons (o := { dst := some 92, op := Op.call { callee := Callee.value (Operand.func 53), args := #[Operand.tmp 90, Operand.tmp 91], argTypes := #[29, 29] }, type := 4, pos := "laws.go:111", after := #[{ on := 0, ground := Ground.data }, { on := 1, ground := Ground.data }], guard := none }) rfl (fun K hK => ?_) AllReadyH.nil
                  go_simp
                  go_at_call 53
                  (with_reducible refine (implPreciseB _ _ t1 u1 _ _ _ (hv1.below bal1.drew).all (hx1.below bal1.drew).all).mono ?_)
                  rintro e w16 ⟨rfl, hb16⟩
                  rw [Hq4.out]
                  go_wp2_with fail
                  refine hK.out _ _ ?_ (fun hHeld1 => ?_)
                  · exact ⟨bcell hb16 (dcell (s0_)), bcell hb16 (dcell (s1_)), bcell hb16 (dcell (s2_)), bcell hb16 (dcell (s3_)), bcell hb16 (dcell (s4_)), bcell hb16 (dcell (s5_))⟩
                  clear hK K hHeld0
                  (try simp only [Act.put, List.setIfInBounds_toArray, List.set_cons_zero, List.set_cons_succ])
                  refine wpAnyH_ready (rs := [5]) (by kernel_rfl) (by simp) ?_
                  refine AllReadyH.cons (o := { dst := some 95, op := Op.call { callee := Callee.value (Operand.func 37), args := #[Operand.tmp 93, Operand.tmp 94], argTypes := #[29, 29] }, type := 4, pos := "laws.go:111", after := #[{ on := 3, ground := Ground.data }, { on := 4, ground := Ground.data }, { on := 2, ground := Ground.chain }], guard := none }) rfl (fun K hK => ?_) AllReadyH.nil
                  go_simp
                  go_at_call 37
                  (with_reducible refine (implTypeSame _ _ (meetT t1 u1) t1 _ _ _ (hv2.below (bstep bal1.drew hb16)).rep.all (hv1.below (bstep bal1.drew hb16)).all).mono ?_)
                  rintro e w17 ⟨rfl, hb17⟩
                  rw [Hq5.out]
                  go_wp2_with fail
                  refine hK.out _ _ ?_ (fun hHeld2 => ?_)
                  · exact ⟨bcell hb17 (bcell hb16 (dcell (s0_))), bcell hb17 (bcell hb16 (dcell (s1_))), bcell hb17 (bcell hb16 (dcell (s2_))), bcell hb17 (bcell hb16 (dcell (s3_))), bcell hb17 (bcell hb16 (dcell (s4_))), bcell hb17 (bcell hb16 (dcell (s5_)))⟩
                  clear hK K hHeld1
                  (try simp only [Act.put, List.setIfInBounds_toArray, List.set_cons_zero, List.set_cons_succ])
                  refine wpAnyH_take (i := 6) (oi := { dst := some 96, op := Op.binOp BinOp.eql 4 (Operand.tmp 92) (Operand.tmp 95) 4, type := 4, pos := "laws.go:111", after := #[{ on := 2, ground := Ground.data }, { on := 5, ground := Ground.data }], guard := none }) (v := .bool true) rfl (by kernel_rfl) (by kernel_rfl) (by kernel_rfl) (fun _ _ _ h => h) (Or.inl ⟨by rfl, ?_⟩) hHeld2 ?_
                  · intro w' hSw; (try dsimp only at hSw); go_simp
                  (try simp only [Act.put, List.setIfInBounds_toArray, List.set_cons_zero, List.set_cons_succ])
                  refine wpAnyH_take (i := 7) (oi := { dst := some 97, op := Op.move (Operand.tmp 96), type := 4, pos := "laws.go:111", after := #[{ on := 6, ground := Ground.data }, { on := 5, ground := Ground.chain }], guard := none }) (v := .bool true) rfl (by kernel_rfl) (by kernel_rfl) (by kernel_rfl) (fun _ _ _ h => h) (Or.inl ⟨by rfl, ?_⟩) hHeld2 ?_
                  · intro w' hSw; (try dsimp only at hSw); go_simp
                  (try simp only [Act.put, List.setIfInBounds_toArray, List.set_cons_zero, List.set_cons_succ])
                  refine wpAnyH_take (i := 8) (oi := { dst := some 98, op := Op.move (Operand.tmp 15), type := 4, pos := "laws.go:111", after := #[{ on := 7, ground := Ground.guard }], guard := some (7, true) }) (v := .bool false) rfl (by kernel_rfl) (by kernel_rfl) (by kernel_rfl) (fun _ _ _ h => h) (Or.inl ⟨by rfl, ?_⟩) hHeld2 ?_
                  · intro w' hSw; (try dsimp only at hSw); go_simp
                  (try simp only [Act.put, List.setIfInBounds_toArray, List.set_cons_zero, List.set_cons_succ])
                  refine wpAnyH_take (i := 9) (oi := { dst := some 99, op := Op.move (Operand.tmp 17), type := 4, pos := "laws.go:111", after := #[{ on := 7, ground := Ground.guard }], guard := some (7, true) }) (v := .bool true) rfl (by kernel_rfl) (by kernel_rfl) (by kernel_rfl) (fun _ _ _ h => h) (Or.inl ⟨by rfl, ?_⟩) hHeld2 ?_
                  · intro w' hSw; (try dsimp only at hSw); go_simp
                  (try simp only [Act.put, List.setIfInBounds_toArray, List.set_cons_zero, List.set_cons_succ])
                  refine wpAnyH_take (i := 10) (oi := { dst := some 100, op := Op.move (Operand.tmp 99), type := 4, pos := "laws.go:111", after := #[{ on := 9, ground := Ground.data }, { on := 7, ground := Ground.chain }, { on := 7, ground := Ground.guard }], guard := some (7, true) }) (v := .bool true) rfl (by kernel_rfl) (by kernel_rfl) (by kernel_rfl) (fun _ _ _ h => h) (Or.inl ⟨by rfl, ?_⟩) hHeld2 ?_
                  · intro w' hSw; (try dsimp only at hSw); go_simp
                  (try simp only [Act.put, List.setIfInBounds_toArray, List.set_cons_zero, List.set_cons_succ])
                  refine wpAnyH_take (i := 11) (oi := { dst := some 101, op := Op.move (Operand.tmp 19), type := 4, pos := "laws.go:111", after := #[{ on := 10, ground := Ground.guard }], guard := some (10, true) }) (v := .bool false) rfl (by kernel_rfl) (by kernel_rfl) (by kernel_rfl) (fun _ _ _ h => h) (Or.inl ⟨by rfl, ?_⟩) hHeld2 ?_
                  · intro w' hSw; (try dsimp only at hSw); go_simp
                  (try simp only [Act.put, List.setIfInBounds_toArray, List.set_cons_zero, List.set_cons_succ])
                  refine wpAnyH_take (i := 12) (oi := { dst := some 102, op := Op.pick (Operand.tmp 100) (Operand.tmp 101) (Operand.const (Value.bool false)), type := 4, pos := "laws.go:111", after := #[{ on := 10, ground := Ground.data }, { on := 11, ground := Ground.data }, { on := 7, ground := Ground.guard }], guard := some (7, true) }) (v := .bool false) rfl (by kernel_rfl) (by kernel_rfl) (by kernel_rfl) (fun _ _ _ h => h) (Or.inl ⟨by rfl, ?_⟩) hHeld2 ?_
                  · intro w' hSw; (try dsimp only at hSw); go_simp
                  (try simp only [Act.put, List.setIfInBounds_toArray, List.set_cons_zero, List.set_cons_succ])
                  refine wpAnyH_take (i := 13) (oi := { dst := some 103, op := Op.binOp BinOp.eql 4 (Operand.tmp 98) (Operand.tmp 102) 4, type := 4, pos := "laws.go:111", after := #[{ on := 8, ground := Ground.data }, { on := 12, ground := Ground.data }, { on := 7, ground := Ground.guard }], guard := some (7, true) }) (v := .bool true) rfl (by kernel_rfl) (by kernel_rfl) (by kernel_rfl) (fun _ _ _ h => h) (Or.inl ⟨by rfl, ?_⟩) hHeld2 ?_
                  · intro w' hSw; (try dsimp only at hSw); go_simp
                  (try simp only [Act.put, List.setIfInBounds_toArray, List.set_cons_zero, List.set_cons_succ])
                  refine wpAnyH_take (i := 14) (oi := { dst := some 104, op := Op.pick (Operand.tmp 97) (Operand.tmp 103) (Operand.const (Value.bool false)), type := 4, pos := "laws.go:111", after := #[{ on := 7, ground := Ground.data }, { on := 13, ground := Ground.data }], guard := none }) (v := .bool true) rfl (by kernel_rfl) (by kernel_rfl) (by kernel_rfl) (fun _ _ _ h => h) (Or.inl ⟨by rfl, ?_⟩) hHeld2 ?_
                  · intro w' hSw; (try dsimp only at hSw); go_simp
                  (try simp only [Act.put, List.setIfInBounds_toArray, List.set_cons_zero, List.set_cons_succ])
                  refine wpAnyH_take (i := 15) (oi := { dst := some 105, op := Op.move (Operand.tmp 104), type := 4, pos := "laws.go:111", after := #[{ on := 14, ground := Ground.data }, { on := 10, ground := Ground.chain }], guard := none }) (v := .bool true) rfl (by kernel_rfl) (by kernel_rfl) (by kernel_rfl) (fun _ _ _ h => h) (Or.inl ⟨by rfl, ?_⟩) hHeld2 ?_
                  · intro w' hSw; (try dsimp only at hSw); go_simp
                  (try simp only [Act.put, List.setIfInBounds_toArray, List.set_cons_zero, List.set_cons_succ])
                  refine wpAnyH_take (i := 16) (oi := { dst := some 106, op := Op.move (Operand.tmp 15), type := 4, pos := "laws.go:111", after := #[{ on := 15, ground := Ground.guard }], guard := some (15, true) }) (v := .bool false) rfl (by kernel_rfl) (by kernel_rfl) (by kernel_rfl) (fun _ _ _ h => h) (Or.inl ⟨by rfl, ?_⟩) hHeld2 ?_
                  · intro w' hSw; (try dsimp only at hSw); go_simp
                  (try simp only [Act.put, List.setIfInBounds_toArray, List.set_cons_zero, List.set_cons_succ])
                  refine wpAnyH_take (i := 17) (oi := { dst := some 107, op := Op.unOp UnOp.not 4 (Operand.tmp 106), type := 4, pos := "laws.go:111", after := #[{ on := 16, ground := Ground.data }, { on := 15, ground := Ground.guard }], guard := some (15, true) }) (v := .bool true) rfl (by kernel_rfl) (by kernel_rfl) (by kernel_rfl) (fun _ _ _ h => h) (Or.inl ⟨by rfl, ?_⟩) hHeld2 ?_
                  · intro w' hSw; (try dsimp only at hSw); go_simp
                  (try simp only [Act.put, List.setIfInBounds_toArray, List.set_cons_zero, List.set_cons_succ])
                  refine wpAnyH_take (i := 18) (oi := { dst := some 108, op := Op.move (Operand.tmp 107), type := 4, pos := "laws.go:111", after := #[{ on := 17, ground := Ground.data }, { on := 15, ground := Ground.chain }, { on := 15, ground := Ground.guard }], guard := some (15, true) }) (v := .bool true) rfl (by kernel_rfl) (by kernel_rfl) (by kernel_rfl) (fun _ _ _ h => h) (Or.inl ⟨by rfl, ?_⟩) hHeld2 ?_
                  · intro w' hSw; (try dsimp only at hSw); go_simp
                  (try simp only [Act.put, List.setIfInBounds_toArray, List.set_cons_zero, List.set_cons_succ])
                  refine wpAnyH_take (i := 19) (oi := { dst := some 109, op := Op.load 29 (Operand.tmp 14), type := 29, pos := "laws.go:111", after := #[{ on := 18, ground := Ground.guard }], guard := some (18, false) }) (v := undef) rfl (by kernel_rfl) (by kernel_rfl) (by kernel_rfl) (fun _ _ _ h => h) (Or.inr ⟨by rfl, rfl⟩) hHeld2 ?_
                  (try simp only [Act.put, List.setIfInBounds_toArray, List.set_cons_zero, List.set_cons_succ])
                  refine wpAnyH_take (i := 20) (oi := { dst := some 110, op := Op.load 29 (Operand.tmp 18), type := 29, pos := "laws.go:111", after := #[{ on := 18, ground := Ground.guard }], guard := some (18, false) }) (v := undef) rfl (by kernel_rfl) (by kernel_rfl) (by kernel_rfl) (fun _ _ _ h => h) (Or.inr ⟨by rfl, rfl⟩) hHeld2 ?_
                  (try simp only [Act.put, List.setIfInBounds_toArray, List.set_cons_zero, List.set_cons_succ])
                  refine wpAnyH_take (i := 21) (oi := { dst := some 111, op := Op.call { callee := Callee.value (Operand.func 37), args := #[Operand.tmp 109, Operand.tmp 110], argTypes := #[29, 29] }, type := 4, pos := "laws.go:111", after := #[{ on := 19, ground := Ground.data }, { on := 20, ground := Ground.data }, { on := 18, ground := Ground.chain }, { on := 18, ground := Ground.guard }], guard := some (18, false) }) (v := undef) rfl (by kernel_rfl) (by kernel_rfl) (by kernel_rfl) (fun _ _ _ h => h) (Or.inr ⟨by rfl, rfl⟩) hHeld2 ?_
                  (try simp only [Act.put, List.setIfInBounds_toArray, List.set_cons_zero, List.set_cons_succ])
                  refine wpAnyH_take (i := 22) (oi := { dst := some 112, op := Op.pick (Operand.tmp 108) (Operand.const (Value.bool true)) (Operand.tmp 111), type := 4, pos := "laws.go:111", after := #[{ on := 18, ground := Ground.data }, { on := 21, ground := Ground.data }, { on := 15, ground := Ground.guard }], guard := some (15, true) }) (v := .bool true) rfl (by kernel_rfl) (by kernel_rfl) (by kernel_rfl) (fun _ _ _ h => h) (Or.inl ⟨by rfl, ?_⟩) hHeld2 ?_
                  · intro w' hSw; (try dsimp only at hSw); go_simp
                  (try simp only [Act.put, List.setIfInBounds_toArray, List.set_cons_zero, List.set_cons_succ])
                  refine wpAnyH_take (i := 23) (oi := { dst := some 113, op := Op.pick (Operand.tmp 105) (Operand.tmp 112) (Operand.const (Value.bool false)), type := 4, pos := "laws.go:111", after := #[{ on := 15, ground := Ground.data }, { on := 22, ground := Ground.data }], guard := none }) (v := .bool true) rfl (by kernel_rfl) (by kernel_rfl) (by kernel_rfl) (fun _ _ _ h => h) (Or.inl ⟨by rfl, ?_⟩) hHeld2 ?_
                  · intro w' hSw; (try dsimp only at hSw); go_simp
                  (try simp only [Act.put, List.setIfInBounds_toArray, List.set_cons_zero, List.set_cons_succ])
                  refine wpAnyH_take (i := 24) (oi := { dst := some 4, op := Op.assign (Operand.tmp 113), type := 4, pos := "laws.go:111", after := #[{ on := 23, ground := Ground.data }, { on := 21, ground := Ground.chain }, { on := 0, ground := Ground.phase }, { on := 1, ground := Ground.phase }, { on := 2, ground := Ground.phase }, { on := 3, ground := Ground.phase }, { on := 4, ground := Ground.phase }, { on := 5, ground := Ground.phase }, { on := 6, ground := Ground.phase }, { on := 7, ground := Ground.phase }, { on := 8, ground := Ground.phase }, { on := 9, ground := Ground.phase }, { on := 10, ground := Ground.phase }, { on := 11, ground := Ground.phase }, { on := 12, ground := Ground.phase }, { on := 13, ground := Ground.phase }, { on := 14, ground := Ground.phase }, { on := 15, ground := Ground.phase }, { on := 16, ground := Ground.phase }, { on := 17, ground := Ground.phase }, { on := 18, ground := Ground.phase }, { on := 19, ground := Ground.phase }, { on := 20, ground := Ground.phase }, { on := 21, ground := Ground.phase }, { on := 22, ground := Ground.phase }, { on := 23, ground := Ground.phase }], guard := none }) (v := .bool true) rfl (by kernel_rfl) (by kernel_rfl) (by kernel_rfl) (fun _ _ _ h => h) (Or.inl ⟨by rfl, ?_⟩) hHeld2 ?_
                  · intro w' hSw; (try dsimp only at hSw); go_simp
                  (try simp only [Act.put, List.setIfInBounds_toArray, List.set_cons_zero, List.set_cons_succ])
                  refine wpAnyH_done (by kernel_rfl) ?_ _
                  refine NoPanic.normal ?_
                  clear hHeld2 s0_ s1_ s2_ s3_ s4_ s5_
                  replace hB := (bstep (bstep (hB.alloc hB.size _).drew hb16) hb17)
                  have zw17 := hB.size
                  go_wp2_with fail
                  refine bodyPost_ret (v := .bool true) (by simp [results, Try.results29, go_sem]) rfl ?_
                  exact ⟨rfl, hB⟩
            · (try rw [q6])
              have Hq6 := Lib.hid q6
              clear q6
              rcases Bool.eq_false_or_eq_true (consB (meetT t1 u1) u5) with q10 | q10
              · (try rw [q10])
                have Hq10 := Lib.hid q10
                clear q10
                go_wp2_with fail
                have s0_ : (World.alloc w8 (Obj.cells #[.int .i64 kr8, .slice ar8 nr8 qr8] 29)).cell? ⟨w1.heap.size, 0, none⟩ = some (.int .i64 kv1) := bcell bal1 (c0_0)
                have s1_ : (World.alloc w8 (Obj.cells #[.int .i64 kr8, .slice ar8 nr8 qr8] 29)).cell? ⟨w1.heap.size, 1, none⟩ = some (.slice av1 nv1 qv1) := bcell bal1 (c0_1)
                have s2_ : (World.alloc w8 (Obj.cells #[.int .i64 kr8, .slice ar8 nr8 qr8] 29)).cell? ⟨w1.heap.size + 1, 0, none⟩ = some (.int .i64 kx1) := bcell bal1 (c1_0)
                have s3_ : (World.alloc w8 (Obj.cells #[.int .i64 kr8, .slice ar8 nr8 qr8] 29)).cell? ⟨w1.heap.size + 1, 1, none⟩ = some (.slice ax1 nx1 qx1) := bcell bal1 (c1_1)
                have s4_ : (World.alloc w8 (Obj.cells #[.int .i64 kr8, .slice ar8 nr8 qr8] 29)).cell? ⟨w2.heap.size, 0, none⟩ = some (.int .i64 kr2) := bcell bal1 (c2_0)
                have s5_ : (World.alloc w8 (Obj.cells #[.int .i64 kr8, .slice ar8 nr8 qr8] 29)).cell? ⟨w2.heap.size, 1, none⟩ = some (.slice ar2 nr2 qr2) := bcell bal1 (c2_1)
                refine wp_region_noPanic ?_
                refine wp_region_held_drew (S := fun w' => w'.cell? ⟨w1.heap.size, 0, none⟩ = some (.int .i64 kv1) ∧ w'.cell? ⟨w1.heap.size, 1, none⟩ = some (.slice av1 nv1 qv1) ∧ w'.cell? ⟨w1.heap.size + 1, 0, none⟩ = some (.int .i64 kx1) ∧ w'.cell? ⟨w1.heap.size + 1, 1, none⟩ = some (.slice ax1 nx1 qx1) ∧ w'.cell? ⟨w2.heap.size, 0, none⟩ = some (.int .i64 kr2) ∧ w'.cell? ⟨w2.heap.size, 1, none⟩ = some (.slice ar2 nr2 qr2)) (by kernel_rfl) ?_ (fun hHeld0 => ?_)
                · exact ⟨dcell (s0_), dcell (s1_), dcell (s2_), dcell (s3_), dcell (s4_), dcell (s5_)⟩
                refine wpAnyH_take (i := 0) (oi := { dst := some 90, op := Op.load 29 (Operand.tmp 5), type := 29, pos := "laws.go:111", after := #[], guard := none }) (v := .agg #[.int .i64 kv1, .slice av1 nv1 qv1]) rfl (by kernel_rfl) (by kernel_rfl) (by kernel_rfl) (fun _ _ _ h => h) (Or.inl ⟨by rfl, ?_⟩) hHeld0 ?_
                · intro w' hSw; (try dsimp only at hSw); go_simp
                (try simp only [Act.put, List.setIfInBounds_toArray, List.set_cons_zero, List.set_cons_succ])
                refine wpAnyH_take (i := 1) (oi := { dst := some 91, op := Op.load 29 (Operand.tmp 6), type := 29, pos := "laws.go:111", after := #[], guard := none }) (v := .agg #[.int .i64 kx1, .slice ax1 nx1 qx1]) rfl (by kernel_rfl) (by kernel_rfl) (by kernel_rfl) (fun _ _ _ h => h) (Or.inl ⟨by rfl, ?_⟩) hHeld0 ?_
                · intro w' hSw; (try dsimp only at hSw); go_simp
                (try simp only [Act.put, List.setIfInBounds_toArray, List.set_cons_zero, List.set_cons_succ])
                refine wpAnyH_take (i := 3) (oi := { dst := some 93, op := Op.load 29 (Operand.tmp 7), type := 29, pos := "laws.go:111", after := #[], guard := none }) (v := .agg #[.int .i64 kr2, .slice ar2 nr2 qr2]) rfl (by kernel_rfl) (by kernel_rfl) (by kernel_rfl) (fun _ _ _ h => h) (Or.inl ⟨by rfl, ?_⟩) hHeld0 ?_
                · intro w' hSw; (try dsimp only at hSw); go_simp
                (try simp only [Act.put, List.setIfInBounds_toArray, List.set_cons_zero, List.set_cons_succ])
                refine wpAnyH_take (i := 4) (oi := { dst := some 94, op := Op.load 29 (Operand.tmp 5), type := 29, pos := "laws.go:111", after := #[], guard := none }) (v := .agg #[.int .i64 kv1, .slice av1 nv1 qv1]) rfl (by kernel_rfl) (by kernel_rfl) (by kernel_rfl) (fun _ _ _ h => h) (Or.inl ⟨by rfl, ?_⟩) hHeld0 ?_
                · intro w' hSw; (try dsimp only at hSw); go_simp
                (try simp only [Act.put, List.setIfInBounds_toArray, List.set_cons_zero, List.set_cons_succ])
                refine wpAnyH_ready (rs := [2]) (by kernel_rfl) (by simp) ?_
                refine AllReadyH.cons (o := { dst := some 92, op := Op.call { callee := Callee.value (Operand.func 53), args := #[Operand.tmp 90, Operand.tmp 91], argTypes := #[29, 29] }, type := 4, pos := "laws.go:111", after := #[{ on := 0, ground := Ground.data }, { on := 1, ground := Ground.data }], guard := none }) rfl (fun K hK => ?_) AllReadyH.nil
                go_simp
                go_at_call 53
                (with_reducible refine (implPreciseB _ _ t1 u1 _ _ _ (hv1.below bal1.drew).all (hx1.below bal1.drew).all).mono ?_)
                rintro e w18 ⟨rfl, hb18⟩
                rw [Hq4.out]
                go_wp2_with fail
                refine hK.out _ _ ?_ (fun hHeld1 => ?_)
                · exact ⟨bcell hb18 (dcell (s0_)), bcell hb18 (dcell (s1_)), bcell hb18 (dcell (s2_)), bcell hb18 (dcell (s3_)), bcell hb18 (dcell (s4_)), bcell hb18 (dcell (s5_))⟩
                clear hK K hHeld0
                (try simp only [Act.put, List.setIfInBounds_toArray, List.set_cons_zero, List.set_cons_succ])
                refine wpAnyH_ready (rs := [5]) (by kernel_rfl) (by simp) ?_
                refine AllReadyH.cons (o := { dst := some 95, op := Op.call { callee := Callee.value (Operand.func 37), args := #[Operand.tmp 93, Operand.tmp 94], argTypes := #[29, 29] }, type := 4, pos := "laws.go:111", after := #[{ on := 3, ground := Ground.data }, { on := 4, ground := Ground.data }, { on := 2, ground := Ground.chain }], guard := none }) rfl (fun K hK => ?_) AllReadyH.nil
                go_simp
                go_at_call 37
                (with_reducible refine (implTypeSame _ _ (meetT t1 u1) t1 _ _ _ (hv2.below (bstep bal1.drew hb18)).rep.all (hv1.below (bstep bal1.drew hb18)).all).mono ?_)
                rintro e w19 ⟨rfl, hb19⟩
                rw [Hq5.out]
                go_wp2_with fail
                refine hK.out _ _ ?_ (fun hHeld2 => ?_)
                · exact ⟨bcell hb19 (bcell hb18 (dcell (s0_))), bcell hb19 (bcell hb18 (dcell (s1_))), bcell hb19 (bcell hb18 (dcell (s2_))), bcell hb19 (bcell hb18 (dcell (s3_))), bcell hb19 (bcell hb18 (dcell (s4_))), bcell hb19 (bcell hb18 (dcell (s5_)))⟩
                clear hK K hHeld1
                (try simp only [Act.put, List.setIfInBounds_toArray, List.set_cons_zero, List.set_cons_succ])
                refine wpAnyH_take (i := 6) (oi := { dst := some 96, op := Op.binOp BinOp.eql 4 (Operand.tmp 92) (Operand.tmp 95) 4, type := 4, pos := "laws.go:111", after := #[{ on := 2, ground := Ground.data }, { on := 5, ground := Ground.data }], guard := none }) (v := .bool true) rfl (by kernel_rfl) (by kernel_rfl) (by kernel_rfl) (fun _ _ _ h => h) (Or.inl ⟨by rfl, ?_⟩) hHeld2 ?_
                · intro w' hSw; (try dsimp only at hSw); go_simp
                (try simp only [Act.put, List.setIfInBounds_toArray, List.set_cons_zero, List.set_cons_succ])
                refine wpAnyH_take (i := 7) (oi := { dst := some 97, op := Op.move (Operand.tmp 96), type := 4, pos := "laws.go:111", after := #[{ on := 6, ground := Ground.data }, { on := 5, ground := Ground.chain }], guard := none }) (v := .bool true) rfl (by kernel_rfl) (by kernel_rfl) (by kernel_rfl) (fun _ _ _ h => h) (Or.inl ⟨by rfl, ?_⟩) hHeld2 ?_
                · intro w' hSw; (try dsimp only at hSw); go_simp
                (try simp only [Act.put, List.setIfInBounds_toArray, List.set_cons_zero, List.set_cons_succ])
                refine wpAnyH_take (i := 8) (oi := { dst := some 98, op := Op.move (Operand.tmp 15), type := 4, pos := "laws.go:111", after := #[{ on := 7, ground := Ground.guard }], guard := some (7, true) }) (v := .bool true) rfl (by kernel_rfl) (by kernel_rfl) (by kernel_rfl) (fun _ _ _ h => h) (Or.inl ⟨by rfl, ?_⟩) hHeld2 ?_
                · intro w' hSw; (try dsimp only at hSw); go_simp
                (try simp only [Act.put, List.setIfInBounds_toArray, List.set_cons_zero, List.set_cons_succ])
                refine wpAnyH_take (i := 9) (oi := { dst := some 99, op := Op.move (Operand.tmp 17), type := 4, pos := "laws.go:111", after := #[{ on := 7, ground := Ground.guard }], guard := some (7, true) }) (v := .bool false) rfl (by kernel_rfl) (by kernel_rfl) (by kernel_rfl) (fun _ _ _ h => h) (Or.inl ⟨by rfl, ?_⟩) hHeld2 ?_
                · intro w' hSw; (try dsimp only at hSw); go_simp
                (try simp only [Act.put, List.setIfInBounds_toArray, List.set_cons_zero, List.set_cons_succ])
                refine wpAnyH_take (i := 10) (oi := { dst := some 100, op := Op.move (Operand.tmp 99), type := 4, pos := "laws.go:111", after := #[{ on := 9, ground := Ground.data }, { on := 7, ground := Ground.chain }, { on := 7, ground := Ground.guard }], guard := some (7, true) }) (v := .bool false) rfl (by kernel_rfl) (by kernel_rfl) (by kernel_rfl) (fun _ _ _ h => h) (Or.inl ⟨by rfl, ?_⟩) hHeld2 ?_
                · intro w' hSw; (try dsimp only at hSw); go_simp
                (try simp only [Act.put, List.setIfInBounds_toArray, List.set_cons_zero, List.set_cons_succ])
                refine wpAnyH_take (i := 11) (oi := { dst := some 101, op := Op.move (Operand.tmp 19), type := 4, pos := "laws.go:111", after := #[{ on := 10, ground := Ground.guard }], guard := some (10, true) }) (v := undef) rfl (by kernel_rfl) (by kernel_rfl) (by kernel_rfl) (fun _ _ _ h => h) (Or.inr ⟨by rfl, rfl⟩) hHeld2 ?_
                (try simp only [Act.put, List.setIfInBounds_toArray, List.set_cons_zero, List.set_cons_succ])
                refine wpAnyH_take (i := 12) (oi := { dst := some 102, op := Op.pick (Operand.tmp 100) (Operand.tmp 101) (Operand.const (Value.bool false)), type := 4, pos := "laws.go:111", after := #[{ on := 10, ground := Ground.data }, { on := 11, ground := Ground.data }, { on := 7, ground := Ground.guard }], guard := some (7, true) }) (v := .bool false) rfl (by kernel_rfl) (by kernel_rfl) (by kernel_rfl) (fun _ _ _ h => h) (Or.inl ⟨by rfl, ?_⟩) hHeld2 ?_
                · intro w' hSw; (try dsimp only at hSw); go_simp
                (try simp only [Act.put, List.setIfInBounds_toArray, List.set_cons_zero, List.set_cons_succ])
                refine wpAnyH_take (i := 13) (oi := { dst := some 103, op := Op.binOp BinOp.eql 4 (Operand.tmp 98) (Operand.tmp 102) 4, type := 4, pos := "laws.go:111", after := #[{ on := 8, ground := Ground.data }, { on := 12, ground := Ground.data }, { on := 7, ground := Ground.guard }], guard := some (7, true) }) (v := .bool false) rfl (by kernel_rfl) (by kernel_rfl) (by kernel_rfl) (fun _ _ _ h => h) (Or.inl ⟨by rfl, ?_⟩) hHeld2 ?_
                · intro w' hSw; (try dsimp only at hSw); go_simp
                (try simp only [Act.put, List.setIfInBounds_toArray, List.set_cons_zero, List.set_cons_succ])
                refine wpAnyH_take (i := 14) (oi := { dst := some 104, op := Op.pick (Operand.tmp 97) (Operand.tmp 103) (Operand.const (Value.bool false)), type := 4, pos := "laws.go:111", after := #[{ on := 7, ground := Ground.data }, { on := 13, ground := Ground.data }], guard := none }) (v := .bool false) rfl (by kernel_rfl) (by kernel_rfl) (by kernel_rfl) (fun _ _ _ h => h) (Or.inl ⟨by rfl, ?_⟩) hHeld2 ?_
                · intro w' hSw; (try dsimp only at hSw); go_simp
                (try simp only [Act.put, List.setIfInBounds_toArray, List.set_cons_zero, List.set_cons_succ])
                refine wpAnyH_take (i := 15) (oi := { dst := some 105, op := Op.move (Operand.tmp 104), type := 4, pos := "laws.go:111", after := #[{ on := 14, ground := Ground.data }, { on := 10, ground := Ground.chain }], guard := none }) (v := .bool false) rfl (by kernel_rfl) (by kernel_rfl) (by kernel_rfl) (fun _ _ _ h => h) (Or.inl ⟨by rfl, ?_⟩) hHeld2 ?_
                · intro w' hSw; (try dsimp only at hSw); go_simp
                (try simp only [Act.put, List.setIfInBounds_toArray, List.set_cons_zero, List.set_cons_succ])
                refine wpAnyH_take (i := 16) (oi := { dst := some 106, op := Op.move (Operand.tmp 15), type := 4, pos := "laws.go:111", after := #[{ on := 15, ground := Ground.guard }], guard := some (15, true) }) (v := undef) rfl (by kernel_rfl) (by kernel_rfl) (by kernel_rfl) (fun _ _ _ h => h) (Or.inr ⟨by rfl, rfl⟩) hHeld2 ?_
                (try simp only [Act.put, List.setIfInBounds_toArray, List.set_cons_zero, List.set_cons_succ])
                refine wpAnyH_take (i := 17) (oi := { dst := some 107, op := Op.unOp UnOp.not 4 (Operand.tmp 106), type := 4, pos := "laws.go:111", after := #[{ on := 16, ground := Ground.data }, { on := 15, ground := Ground.guard }], guard := some (15, true) }) (v := undef) rfl (by kernel_rfl) (by kernel_rfl) (by kernel_rfl) (fun _ _ _ h => h) (Or.inr ⟨by rfl, rfl⟩) hHeld2 ?_
                (try simp only [Act.put, List.setIfInBounds_toArray, List.set_cons_zero, List.set_cons_succ])
                refine wpAnyH_take (i := 18) (oi := { dst := some 108, op := Op.move (Operand.tmp 107), type := 4, pos := "laws.go:111", after := #[{ on := 17, ground := Ground.data }, { on := 15, ground := Ground.chain }, { on := 15, ground := Ground.guard }], guard := some (15, true) }) (v := undef) rfl (by kernel_rfl) (by kernel_rfl) (by kernel_rfl) (fun _ _ _ h => h) (Or.inr ⟨by rfl, rfl⟩) hHeld2 ?_
                (try simp only [Act.put, List.setIfInBounds_toArray, List.set_cons_zero, List.set_cons_succ])
                refine wpAnyH_take (i := 19) (oi := { dst := some 109, op := Op.load 29 (Operand.tmp 14), type := 29, pos := "laws.go:111", after := #[{ on := 18, ground := Ground.guard }], guard := some (18, false) }) (v := undef) rfl (by kernel_rfl) (by kernel_rfl) (by kernel_rfl) (fun _ _ _ h => h) (Or.inr ⟨by rfl, rfl⟩) hHeld2 ?_
                (try simp only [Act.put, List.setIfInBounds_toArray, List.set_cons_zero, List.set_cons_succ])
                refine wpAnyH_take (i := 20) (oi := { dst := some 110, op := Op.load 29 (Operand.tmp 18), type := 29, pos := "laws.go:111", after := #[{ on := 18, ground := Ground.guard }], guard := some (18, false) }) (v := undef) rfl (by kernel_rfl) (by kernel_rfl) (by kernel_rfl) (fun _ _ _ h => h) (Or.inr ⟨by rfl, rfl⟩) hHeld2 ?_
                (try simp only [Act.put, List.setIfInBounds_toArray, List.set_cons_zero, List.set_cons_succ])
                refine wpAnyH_take (i := 21) (oi := { dst := some 111, op := Op.call { callee := Callee.value (Operand.func 37), args := #[Operand.tmp 109, Operand.tmp 110], argTypes := #[29, 29] }, type := 4, pos := "laws.go:111", after := #[{ on := 19, ground := Ground.data }, { on := 20, ground := Ground.data }, { on := 18, ground := Ground.chain }, { on := 18, ground := Ground.guard }], guard := some (18, false) }) (v := undef) rfl (by kernel_rfl) (by kernel_rfl) (by kernel_rfl) (fun _ _ _ h => h) (Or.inr ⟨by rfl, rfl⟩) hHeld2 ?_
                (try simp only [Act.put, List.setIfInBounds_toArray, List.set_cons_zero, List.set_cons_succ])
                refine wpAnyH_take (i := 22) (oi := { dst := some 112, op := Op.pick (Operand.tmp 108) (Operand.const (Value.bool true)) (Operand.tmp 111), type := 4, pos := "laws.go:111", after := #[{ on := 18, ground := Ground.data }, { on := 21, ground := Ground.data }, { on := 15, ground := Ground.guard }], guard := some (15, true) }) (v := undef) rfl (by kernel_rfl) (by kernel_rfl) (by kernel_rfl) (fun _ _ _ h => h) (Or.inr ⟨by rfl, rfl⟩) hHeld2 ?_
                (try simp only [Act.put, List.setIfInBounds_toArray, List.set_cons_zero, List.set_cons_succ])
                refine wpAnyH_take (i := 23) (oi := { dst := some 113, op := Op.pick (Operand.tmp 105) (Operand.tmp 112) (Operand.const (Value.bool false)), type := 4, pos := "laws.go:111", after := #[{ on := 15, ground := Ground.data }, { on := 22, ground := Ground.data }], guard := none }) (v := .bool false) rfl (by kernel_rfl) (by kernel_rfl) (by kernel_rfl) (fun _ _ _ h => h) (Or.inl ⟨by rfl, ?_⟩) hHeld2 ?_
                · intro w' hSw; (try dsimp only at hSw); go_simp
                (try simp only [Act.put, List.setIfInBounds_toArray, List.set_cons_zero, List.set_cons_succ])
                refine wpAnyH_take (i := 24) (oi := { dst := some 4, op := Op.assign (Operand.tmp 113), type := 4, pos := "laws.go:111", after := #[{ on := 23, ground := Ground.data }, { on := 21, ground := Ground.chain }, { on := 0, ground := Ground.phase }, { on := 1, ground := Ground.phase }, { on := 2, ground := Ground.phase }, { on := 3, ground := Ground.phase }, { on := 4, ground := Ground.phase }, { on := 5, ground := Ground.phase }, { on := 6, ground := Ground.phase }, { on := 7, ground := Ground.phase }, { on := 8, ground := Ground.phase }, { on := 9, ground := Ground.phase }, { on := 10, ground := Ground.phase }, { on := 11, ground := Ground.phase }, { on := 12, ground := Ground.phase }, { on := 13, ground := Ground.phase }, { on := 14, ground := Ground.phase }, { on := 15, ground := Ground.phase }, { on := 16, ground := Ground.phase }, { on := 17, ground := Ground.phase }, { on := 18, ground := Ground.phase }, { on := 19, ground := Ground.phase }, { on := 20, ground := Ground.phase }, { on := 21, ground := Ground.phase }, { on := 22, ground := Ground.phase }, { on := 23, ground := Ground.phase }], guard := none }) (v := .bool false) rfl (by kernel_rfl) (by kernel_rfl) (by kernel_rfl) (fun _ _ _ h => h) (Or.inl ⟨by rfl, ?_⟩) hHeld2 ?_
                · intro w' hSw; (try dsimp only at hSw); go_simp
                (try simp only [Act.put, List.setIfInBounds_toArray, List.set_cons_zero, List.set_cons_succ])
                refine wpAnyH_done (by kernel_rfl) ?_ _
                refine NoPanic.normal ?_
                clear hHeld2 s0_ s1_ s2_ s3_ s4_ s5_
                replace hB := (bstep (bstep (hB.alloc hB.size _).drew hb18) hb19)
                have zw19 := hB.size
                go_wp2_with fail
                exact (leaf_FnMeetLaws_3 Hq3.out Hq4.out Hq5.out Hq6.out Hq10.out).elim
              · (try rw [q10])
                have Hq10 := Lib.hid q10
                clear q10
                go_wp2_with fail
                have s0_ : (World.alloc w8 (Obj.cells #[.int .i64 kr8, .slice ar8 nr8 qr8] 29)).cell? ⟨w1.heap.size, 0, none⟩ = some (.int .i64 kv1) := bcell bal1 (c0_0)
                have s1_ : (World.alloc w8 (Obj.cells #[.int .i64 kr8, .slice ar8 nr8 qr8] 29)).cell? ⟨w1.heap.size, 1, none⟩ = some (.slice av1 nv1 qv1) := bcell bal1 (c0_1)
                have s2_ : (World.alloc w8 (Obj.cells #[.int .i64 kr8, .slice ar8 nr8 qr8] 29)).cell? ⟨w1.heap.size + 1, 0, none⟩ = some (.int .i64 kx1) := bcell bal1 (c1_0)
                have s3_ : (World.alloc w8 (Obj.cells #[.int .i64 kr8, .slice ar8 nr8 qr8] 29)).cell? ⟨w1.heap.size + 1, 1, none⟩ = some (.slice ax1 nx1 qx1) := bcell bal1 (c1_1)
                have s4_ : (World.alloc w8 (Obj.cells #[.int .i64 kr8, .slice ar8 nr8 qr8] 29)).cell? ⟨w2.heap.size, 0, none⟩ = some (.int .i64 kr2) := bcell bal1 (c2_0)
                have s5_ : (World.alloc w8 (Obj.cells #[.int .i64 kr8, .slice ar8 nr8 qr8] 29)).cell? ⟨w2.heap.size, 1, none⟩ = some (.slice ar2 nr2 qr2) := bcell bal1 (c2_1)
                refine wp_region_noPanic ?_
                refine wp_region_held_drew (S := fun w' => w'.cell? ⟨w1.heap.size, 0, none⟩ = some (.int .i64 kv1) ∧ w'.cell? ⟨w1.heap.size, 1, none⟩ = some (.slice av1 nv1 qv1) ∧ w'.cell? ⟨w1.heap.size + 1, 0, none⟩ = some (.int .i64 kx1) ∧ w'.cell? ⟨w1.heap.size + 1, 1, none⟩ = some (.slice ax1 nx1 qx1) ∧ w'.cell? ⟨w2.heap.size, 0, none⟩ = some (.int .i64 kr2) ∧ w'.cell? ⟨w2.heap.size, 1, none⟩ = some (.slice ar2 nr2 qr2)) (by kernel_rfl) ?_ (fun hHeld0 => ?_)
                · exact ⟨dcell (s0_), dcell (s1_), dcell (s2_), dcell (s3_), dcell (s4_), dcell (s5_)⟩
                refine wpAnyH_take (i := 0) (oi := { dst := some 90, op := Op.load 29 (Operand.tmp 5), type := 29, pos := "laws.go:111", after := #[], guard := none }) (v := .agg #[.int .i64 kv1, .slice av1 nv1 qv1]) rfl (by kernel_rfl) (by kernel_rfl) (by kernel_rfl) (fun _ _ _ h => h) (Or.inl ⟨by rfl, ?_⟩) hHeld0 ?_
                · intro w' hSw; (try dsimp only at hSw); go_simp
                (try simp only [Act.put, List.setIfInBounds_toArray, List.set_cons_zero, List.set_cons_succ])
                refine wpAnyH_take (i := 1) (oi := { dst := some 91, op := Op.load 29 (Operand.tmp 6), type := 29, pos := "laws.go:111", after := #[], guard := none }) (v := .agg #[.int .i64 kx1, .slice ax1 nx1 qx1]) rfl (by kernel_rfl) (by kernel_rfl) (by kernel_rfl) (fun _ _ _ h => h) (Or.inl ⟨by rfl, ?_⟩) hHeld0 ?_
                · intro w' hSw; (try dsimp only at hSw); go_simp
                (try simp only [Act.put, List.setIfInBounds_toArray, List.set_cons_zero, List.set_cons_succ])
                refine wpAnyH_take (i := 3) (oi := { dst := some 93, op := Op.load 29 (Operand.tmp 7), type := 29, pos := "laws.go:111", after := #[], guard := none }) (v := .agg #[.int .i64 kr2, .slice ar2 nr2 qr2]) rfl (by kernel_rfl) (by kernel_rfl) (by kernel_rfl) (fun _ _ _ h => h) (Or.inl ⟨by rfl, ?_⟩) hHeld0 ?_
                · intro w' hSw; (try dsimp only at hSw); go_simp
                (try simp only [Act.put, List.setIfInBounds_toArray, List.set_cons_zero, List.set_cons_succ])
                refine wpAnyH_take (i := 4) (oi := { dst := some 94, op := Op.load 29 (Operand.tmp 5), type := 29, pos := "laws.go:111", after := #[], guard := none }) (v := .agg #[.int .i64 kv1, .slice av1 nv1 qv1]) rfl (by kernel_rfl) (by kernel_rfl) (by kernel_rfl) (fun _ _ _ h => h) (Or.inl ⟨by rfl, ?_⟩) hHeld0 ?_
                · intro w' hSw; (try dsimp only at hSw); go_simp
                (try simp only [Act.put, List.setIfInBounds_toArray, List.set_cons_zero, List.set_cons_succ])
                refine wpAnyH_ready (rs := [2]) (by kernel_rfl) (by simp) ?_
                refine AllReadyH.cons (o := { dst := some 92, op := Op.call { callee := Callee.value (Operand.func 53), args := #[Operand.tmp 90, Operand.tmp 91], argTypes := #[29, 29] }, type := 4, pos := "laws.go:111", after := #[{ on := 0, ground := Ground.data }, { on := 1, ground := Ground.data }], guard := none }) rfl (fun K hK => ?_) AllReadyH.nil
                go_simp
                go_at_call 53
                (with_reducible refine (implPreciseB _ _ t1 u1 _ _ _ (hv1.below bal1.drew).all (hx1.below bal1.drew).all).mono ?_)
                rintro e w20 ⟨rfl, hb20⟩
                rw [Hq4.out]
                go_wp2_with fail
                refine hK.out _ _ ?_ (fun hHeld1 => ?_)
                · exact ⟨bcell hb20 (dcell (s0_)), bcell hb20 (dcell (s1_)), bcell hb20 (dcell (s2_)), bcell hb20 (dcell (s3_)), bcell hb20 (dcell (s4_)), bcell hb20 (dcell (s5_))⟩
                clear hK K hHeld0
                (try simp only [Act.put, List.setIfInBounds_toArray, List.set_cons_zero, List.set_cons_succ])
                refine wpAnyH_ready (rs := [5]) (by kernel_rfl) (by simp) ?_
                refine AllReadyH.cons (o := { dst := some 95, op := Op.call { callee := Callee.value (Operand.func 37), args := #[Operand.tmp 93, Operand.tmp 94], argTypes := #[29, 29] }, type := 4, pos := "laws.go:111", after := #[{ on := 3, ground := Ground.data }, { on := 4, ground := Ground.data }, { on := 2, ground := Ground.chain }], guard := none }) rfl (fun K hK => ?_) AllReadyH.nil
                go_simp
                go_at_call 37
                (with_reducible refine (implTypeSame _ _ (meetT t1 u1) t1 _ _ _ (hv2.below (bstep bal1.drew hb20)).rep.all (hv1.below (bstep bal1.drew hb20)).all).mono ?_)
                rintro e w21 ⟨rfl, hb21⟩
                rw [Hq5.out]
                go_wp2_with fail
                refine hK.out _ _ ?_ (fun hHeld2 => ?_)
                · exact ⟨bcell hb21 (bcell hb20 (dcell (s0_))), bcell hb21 (bcell hb20 (dcell (s1_))), bcell hb21 (bcell hb20 (dcell (s2_))), bcell hb21 (bcell hb20 (dcell (s3_))), bcell hb21 (bcell hb20 (dcell (s4_))), bcell hb21 (bcell hb20 (dcell (s5_)))⟩
                clear hK K hHeld1
                (try simp only [Act.put, List.setIfInBounds_toArray, List.set_cons_zero, List.set_cons_succ])
                refine wpAnyH_take (i := 6) (oi := { dst := some 96, op := Op.binOp BinOp.eql 4 (Operand.tmp 92) (Operand.tmp 95) 4, type := 4, pos := "laws.go:111", after := #[{ on := 2, ground := Ground.data }, { on := 5, ground := Ground.data }], guard := none }) (v := .bool true) rfl (by kernel_rfl) (by kernel_rfl) (by kernel_rfl) (fun _ _ _ h => h) (Or.inl ⟨by rfl, ?_⟩) hHeld2 ?_
                · intro w' hSw; (try dsimp only at hSw); go_simp
                (try simp only [Act.put, List.setIfInBounds_toArray, List.set_cons_zero, List.set_cons_succ])
                refine wpAnyH_take (i := 7) (oi := { dst := some 97, op := Op.move (Operand.tmp 96), type := 4, pos := "laws.go:111", after := #[{ on := 6, ground := Ground.data }, { on := 5, ground := Ground.chain }], guard := none }) (v := .bool true) rfl (by kernel_rfl) (by kernel_rfl) (by kernel_rfl) (fun _ _ _ h => h) (Or.inl ⟨by rfl, ?_⟩) hHeld2 ?_
                · intro w' hSw; (try dsimp only at hSw); go_simp
                (try simp only [Act.put, List.setIfInBounds_toArray, List.set_cons_zero, List.set_cons_succ])
                refine wpAnyH_take (i := 8) (oi := { dst := some 98, op := Op.move (Operand.tmp 15), type := 4, pos := "laws.go:111", after := #[{ on := 7, ground := Ground.guard }], guard := some (7, true) }) (v := .bool false) rfl (by kernel_rfl) (by kernel_rfl) (by kernel_rfl) (fun _ _ _ h => h) (Or.inl ⟨by rfl, ?_⟩) hHeld2 ?_
                · intro w' hSw; (try dsimp only at hSw); go_simp
                (try simp only [Act.put, List.setIfInBounds_toArray, List.set_cons_zero, List.set_cons_succ])
                refine wpAnyH_take (i := 9) (oi := { dst := some 99, op := Op.move (Operand.tmp 17), type := 4, pos := "laws.go:111", after := #[{ on := 7, ground := Ground.guard }], guard := some (7, true) }) (v := .bool false) rfl (by kernel_rfl) (by kernel_rfl) (by kernel_rfl) (fun _ _ _ h => h) (Or.inl ⟨by rfl, ?_⟩) hHeld2 ?_
                · intro w' hSw; (try dsimp only at hSw); go_simp
                (try simp only [Act.put, List.setIfInBounds_toArray, List.set_cons_zero, List.set_cons_succ])
                refine wpAnyH_take (i := 10) (oi := { dst := some 100, op := Op.move (Operand.tmp 99), type := 4, pos := "laws.go:111", after := #[{ on := 9, ground := Ground.data }, { on := 7, ground := Ground.chain }, { on := 7, ground := Ground.guard }], guard := some (7, true) }) (v := .bool false) rfl (by kernel_rfl) (by kernel_rfl) (by kernel_rfl) (fun _ _ _ h => h) (Or.inl ⟨by rfl, ?_⟩) hHeld2 ?_
                · intro w' hSw; (try dsimp only at hSw); go_simp
                (try simp only [Act.put, List.setIfInBounds_toArray, List.set_cons_zero, List.set_cons_succ])
                refine wpAnyH_take (i := 11) (oi := { dst := some 101, op := Op.move (Operand.tmp 19), type := 4, pos := "laws.go:111", after := #[{ on := 10, ground := Ground.guard }], guard := some (10, true) }) (v := undef) rfl (by kernel_rfl) (by kernel_rfl) (by kernel_rfl) (fun _ _ _ h => h) (Or.inr ⟨by rfl, rfl⟩) hHeld2 ?_
                (try simp only [Act.put, List.setIfInBounds_toArray, List.set_cons_zero, List.set_cons_succ])
                refine wpAnyH_take (i := 12) (oi := { dst := some 102, op := Op.pick (Operand.tmp 100) (Operand.tmp 101) (Operand.const (Value.bool false)), type := 4, pos := "laws.go:111", after := #[{ on := 10, ground := Ground.data }, { on := 11, ground := Ground.data }, { on := 7, ground := Ground.guard }], guard := some (7, true) }) (v := .bool false) rfl (by kernel_rfl) (by kernel_rfl) (by kernel_rfl) (fun _ _ _ h => h) (Or.inl ⟨by rfl, ?_⟩) hHeld2 ?_
                · intro w' hSw; (try dsimp only at hSw); go_simp
                (try simp only [Act.put, List.setIfInBounds_toArray, List.set_cons_zero, List.set_cons_succ])
                refine wpAnyH_take (i := 13) (oi := { dst := some 103, op := Op.binOp BinOp.eql 4 (Operand.tmp 98) (Operand.tmp 102) 4, type := 4, pos := "laws.go:111", after := #[{ on := 8, ground := Ground.data }, { on := 12, ground := Ground.data }, { on := 7, ground := Ground.guard }], guard := some (7, true) }) (v := .bool true) rfl (by kernel_rfl) (by kernel_rfl) (by kernel_rfl) (fun _ _ _ h => h) (Or.inl ⟨by rfl, ?_⟩) hHeld2 ?_
                · intro w' hSw; (try dsimp only at hSw); go_simp
                (try simp only [Act.put, List.setIfInBounds_toArray, List.set_cons_zero, List.set_cons_succ])
                refine wpAnyH_take (i := 14) (oi := { dst := some 104, op := Op.pick (Operand.tmp 97) (Operand.tmp 103) (Operand.const (Value.bool false)), type := 4, pos := "laws.go:111", after := #[{ on := 7, ground := Ground.data }, { on := 13, ground := Ground.data }], guard := none }) (v := .bool true) rfl (by kernel_rfl) (by kernel_rfl) (by kernel_rfl) (fun _ _ _ h => h) (Or.inl ⟨by rfl, ?_⟩) hHeld2 ?_
                · intro w' hSw; (try dsimp only at hSw); go_simp
                (try simp only [Act.put, List.setIfInBounds_toArray, List.set_cons_zero, List.set_cons_succ])
                refine wpAnyH_take (i := 15) (oi := { dst := some 105, op := Op.move (Operand.tmp 104), type := 4, pos := "laws.go:111", after := #[{ on := 14, ground := Ground.data }, { on := 10, ground := Ground.chain }], guard := none }) (v := .bool true) rfl (by kernel_rfl) (by kernel_rfl) (by kernel_rfl) (fun _ _ _ h => h) (Or.inl ⟨by rfl, ?_⟩) hHeld2 ?_
                · intro w' hSw; (try dsimp only at hSw); go_simp
                (try simp only [Act.put, List.setIfInBounds_toArray, List.set_cons_zero, List.set_cons_succ])
                refine wpAnyH_take (i := 16) (oi := { dst := some 106, op := Op.move (Operand.tmp 15), type := 4, pos := "laws.go:111", after := #[{ on := 15, ground := Ground.guard }], guard := some (15, true) }) (v := .bool false) rfl (by kernel_rfl) (by kernel_rfl) (by kernel_rfl) (fun _ _ _ h => h) (Or.inl ⟨by rfl, ?_⟩) hHeld2 ?_
                · intro w' hSw; (try dsimp only at hSw); go_simp
                (try simp only [Act.put, List.setIfInBounds_toArray, List.set_cons_zero, List.set_cons_succ])
                refine wpAnyH_take (i := 17) (oi := { dst := some 107, op := Op.unOp UnOp.not 4 (Operand.tmp 106), type := 4, pos := "laws.go:111", after := #[{ on := 16, ground := Ground.data }, { on := 15, ground := Ground.guard }], guard := some (15, true) }) (v := .bool true) rfl (by kernel_rfl) (by kernel_rfl) (by kernel_rfl) (fun _ _ _ h => h) (Or.inl ⟨by rfl, ?_⟩) hHeld2 ?_
                · intro w' hSw; (try dsimp only at hSw); go_simp
                (try simp only [Act.put, List.setIfInBounds_toArray, List.set_cons_zero, List.set_cons_succ])
                refine wpAnyH_take (i := 18) (oi := { dst := some 108, op := Op.move (Operand.tmp 107), type := 4, pos := "laws.go:111", after := #[{ on := 17, ground := Ground.data }, { on := 15, ground := Ground.chain }, { on := 15, ground := Ground.guard }], guard := some (15, true) }) (v := .bool true) rfl (by kernel_rfl) (by kernel_rfl) (by kernel_rfl) (fun _ _ _ h => h) (Or.inl ⟨by rfl, ?_⟩) hHeld2 ?_
                · intro w' hSw; (try dsimp only at hSw); go_simp
                (try simp only [Act.put, List.setIfInBounds_toArray, List.set_cons_zero, List.set_cons_succ])
                refine wpAnyH_take (i := 19) (oi := { dst := some 109, op := Op.load 29 (Operand.tmp 14), type := 29, pos := "laws.go:111", after := #[{ on := 18, ground := Ground.guard }], guard := some (18, false) }) (v := undef) rfl (by kernel_rfl) (by kernel_rfl) (by kernel_rfl) (fun _ _ _ h => h) (Or.inr ⟨by rfl, rfl⟩) hHeld2 ?_
                (try simp only [Act.put, List.setIfInBounds_toArray, List.set_cons_zero, List.set_cons_succ])
                refine wpAnyH_take (i := 20) (oi := { dst := some 110, op := Op.load 29 (Operand.tmp 18), type := 29, pos := "laws.go:111", after := #[{ on := 18, ground := Ground.guard }], guard := some (18, false) }) (v := undef) rfl (by kernel_rfl) (by kernel_rfl) (by kernel_rfl) (fun _ _ _ h => h) (Or.inr ⟨by rfl, rfl⟩) hHeld2 ?_
                (try simp only [Act.put, List.setIfInBounds_toArray, List.set_cons_zero, List.set_cons_succ])
                refine wpAnyH_take (i := 21) (oi := { dst := some 111, op := Op.call { callee := Callee.value (Operand.func 37), args := #[Operand.tmp 109, Operand.tmp 110], argTypes := #[29, 29] }, type := 4, pos := "laws.go:111", after := #[{ on := 19, ground := Ground.data }, { on := 20, ground := Ground.data }, { on := 18, ground := Ground.chain }, { on := 18, ground := Ground.guard }], guard := some (18, false) }) (v := undef) rfl (by kernel_rfl) (by kernel_rfl) (by kernel_rfl) (fun _ _ _ h => h) (Or.inr ⟨by rfl, rfl⟩) hHeld2 ?_
                (try simp only [Act.put, List.setIfInBounds_toArray, List.set_cons_zero, List.set_cons_succ])
                refine wpAnyH_take (i := 22) (oi := { dst := some 112, op := Op.pick (Operand.tmp 108) (Operand.const (Value.bool true)) (Operand.tmp 111), type := 4, pos := "laws.go:111", after := #[{ on := 18, ground := Ground.data }, { on := 21, ground := Ground.data }, { on := 15, ground := Ground.guard }], guard := some (15, true) }) (v := .bool true) rfl (by kernel_rfl) (by kernel_rfl) (by kernel_rfl) (fun _ _ _ h => h) (Or.inl ⟨by rfl, ?_⟩) hHeld2 ?_
                · intro w' hSw; (try dsimp only at hSw); go_simp
                (try simp only [Act.put, List.setIfInBounds_toArray, List.set_cons_zero, List.set_cons_succ])
                refine wpAnyH_take (i := 23) (oi := { dst := some 113, op := Op.pick (Operand.tmp 105) (Operand.tmp 112) (Operand.const (Value.bool false)), type := 4, pos := "laws.go:111", after := #[{ on := 15, ground := Ground.data }, { on := 22, ground := Ground.data }], guard := none }) (v := .bool true) rfl (by kernel_rfl) (by kernel_rfl) (by kernel_rfl) (fun _ _ _ h => h) (Or.inl ⟨by rfl, ?_⟩) hHeld2 ?_
                · intro w' hSw; (try dsimp only at hSw); go_simp
                (try simp only [Act.put, List.setIfInBounds_toArray, List.set_cons_zero, List.set_cons_succ])
                refine wpAnyH_take (i := 24) (oi := { dst := some 4, op := Op.assign (Operand.tmp 113), type := 4, pos := "laws.go:111", after := #[{ on := 23, ground := Ground.data }, { on := 21, ground := Ground.chain }, { on := 0, ground := Ground.phase }, { on := 1, ground := Ground.phase }, { on := 2, ground := Ground.phase }, { on := 3, ground := Ground.phase }, { on := 4, ground := Ground.phase }, { on := 5, ground := Ground.phase }, { on := 6, ground := Ground.phase }, { on := 7, ground := Ground.phase }, { on := 8, ground := Ground.phase }, { on := 9, ground := Ground.phase }, { on := 10, ground := Ground.phase }, { on := 11, ground := Ground.phase }, { on := 12, ground := Ground.phase }, { on := 13, ground := Ground.phase }, { on := 14, ground := Ground.phase }, { on := 15, ground := Ground.phase }, { on := 16, ground := Ground.phase }, { on := 17, ground := Ground.phase }, { on := 18, ground := Ground.phase }, { on := 19, ground := Ground.phase }, { on := 20, ground := Ground.phase }, { on := 21, ground := Ground.phase }, { on := 22, ground := Ground.phase }, { on := 23, ground := Ground.phase }], guard := none }) (v := .bool true) rfl (by kernel_rfl) (by kernel_rfl) (by kernel_rfl) (fun _ _ _ h => h) (Or.inl ⟨by rfl, ?_⟩) hHeld2 ?_
                · intro w' hSw; (try dsimp only at hSw); go_simp
                (try simp only [Act.put, List.setIfInBounds_toArray, List.set_cons_zero, List.set_cons_succ])
                refine wpAnyH_done (by kernel_rfl) ?_ _
                refine NoPanic.normal ?_
                clear hHeld2 s0_ s1_ s2_ s3_ s4_ s5_
                replace hB := (bstep (bstep (hB.alloc hB.size _).drew hb20) hb21)
                have zw21 := hB.size
                go_wp2_with fail
                refine bodyPost_ret (v := .bool true) (by simp [results, Try.results29, go_sem]) rfl ?_
                exact ⟨rfl, hB⟩
          · have Hq5 := Lib.hid q5
            clear q5
            go_wp2_with fail
            have s0_ : (World.alloc w8 (Obj.cells #[.int .i64 kr8, .slice ar8 nr8 qr8] 29)).cell? ⟨w1.heap.size, 0, none⟩ = some (.int .i64 kv1) := bcell bal1 (c0_0)
            have s1_ : (World.alloc w8 (Obj.cells #[.int .i64 kr8, .slice ar8 nr8 qr8] 29)).cell? ⟨w1.heap.size, 1, none⟩ = some (.slice av1 nv1 qv1) := bcell bal1 (c0_1)
            have s2_ : (World.alloc w8 (Obj.cells #[.int .i64 kr8, .slice ar8 nr8 qr8] 29)).cell? ⟨w1.heap.size + 1, 0, none⟩ = some (.int .i64 kx1) := bcell bal1 (c1_0)
            have s3_ : (World.alloc w8 (Obj.cells #[.int .i64 kr8, .slice ar8 nr8 qr8] 29)).cell? ⟨w1.heap.size + 1, 1, none⟩ = some (.slice ax1 nx1 qx1) := bcell bal1 (c1_1)
            have s4_ : (World.alloc w8 (Obj.cells #[.int .i64 kr8, .slice ar8 nr8 qr8] 29)).cell? ⟨w2.heap.size, 0, none⟩ = some (.int .i64 kr2) := bcell bal1 (c2_0)
            have s5_ : (World.alloc w8 (Obj.cells #[.int .i64 kr8, .slice ar8 nr8 qr8] 29)).cell? ⟨w2.heap.size, 1, none⟩ = some (.slice ar2 nr2 qr2) := bcell bal1 (c2_1)
            refine wp_region_noPanic ?_
            refine wp_region_held_drew (S := fun w' => w'.cell? ⟨w1.heap.size, 0, none⟩ = some (.int .i64 kv1) ∧ w'.cell? ⟨w1.heap.size, 1, none⟩ = some (.slice av1 nv1 qv1) ∧ w'.cell? ⟨w1.heap.size + 1, 0, none⟩ = some (.int .i64 kx1) ∧ w'.cell? ⟨w1.heap.size + 1, 1, none⟩ = some (.slice ax1 nx1 qx1) ∧ w'.cell? ⟨w2.heap.size, 0, none⟩ = some (.int .i64 kr2) ∧ w'.cell? ⟨w2.heap.size, 1, none⟩ = some (.slice ar2 nr2 qr2)) (by kernel_rfl) ?_ (fun hHeld0 => ?_)
            · exact ⟨dcell (s0_), dcell (s1_), dcell (s2_), dcell (s3_), dcell (s4_), dcell (s5_)⟩
            refine wpAnyH_take (i := 0) (oi := { dst := some 90, op := Op.load 29 (Operand.tmp 5), type := 29, pos := "laws.go:111", after := #[], guard := none }) (v := .agg #[.int .i64 kv1, .slice av1 nv1 qv1]) rfl (by kernel_rfl) (by kernel_rfl) (by kernel_rfl) (fun _ _ _ h => h) (Or.inl ⟨by rfl, ?_⟩) hHeld0 ?_
            · intro w' hSw; (try dsimp only at hSw); go_simp
            (try simp only [Act.put, List.setIfInBounds_toArray, List.set_cons_zero, List.set_cons_succ])
            refine wpAnyH_take (i := 1) (oi := { dst := some 91, op := Op.load 29 (Operand.tmp 6), type := 29, pos := "laws.go:111", after := #[], guard := none }) (v := .agg #[.int .i64 kx1, .slice ax1 nx1 qx1]) rfl (by kernel_rfl) (by kernel_rfl) (by kernel_rfl) (fun _ _ _ h => h) (Or.inl ⟨by rfl, ?_⟩) hHeld0 ?_
            · intro w' hSw; (try dsimp only at hSw); go_simp
            (try simp only [Act.put, List.setIfInBounds_toArray, List.set_cons_zero, List.set_cons_succ])
            refine wpAnyH_take (i := 3) (oi := { dst := some 93, op := Op.load 29 (Operand.tmp 7), type := 29, pos := "laws.go:111", after := #[], guard := none }) (v := .agg #[.int .i64 kr2, .slice ar2 nr2 qr2]) rfl (by kernel_rfl) (by kernel_rfl) (by kernel_rfl) (fun _ _ _ h => h) (Or.inl ⟨by rfl, ?_⟩) hHeld0 ?_
            · intro w' hSw; (try dsimp only at hSw); go_simp
            (try simp only [Act.put, List.setIfInBounds_toArray, List.set_cons_zero, List.set_cons_succ])
            refine wpAnyH_take (i := 4) (oi := { dst := some 94, op := Op.load 29 (Operand.tmp 5), type := 29, pos := "laws.go:111", after := #[], guard := none }) (v := .agg #[.int .i64 kv1, .slice av1 nv1 qv1]) rfl (by kernel_rfl) (by kernel_rfl) (by kernel_rfl) (fun _ _ _ h => h) (Or.inl ⟨by rfl, ?_⟩) hHeld0 ?_
            · intro w' hSw; (try dsimp only at hSw); go_simp
            (try simp only [Act.put, List.setIfInBounds_toArray, List.set_cons_zero, List.set_cons_succ])
            refine wpAnyH_ready (rs := [2]) (by kernel_rfl) (by simp) ?_
            refine AllReadyH.cons (o := { dst := some 92, op := Op.call { callee := Callee.value (Operand.func 53), args := #[Operand.tmp 90, Operand.tmp 91], argTypes := #[29, 29] }, type := 4, pos := "laws.go:111", after := #[{ on := 0, ground := Ground.data }, { on := 1, ground := Ground.data }], guard := none }) rfl (fun K hK => ?_) AllReadyH.nil
            go_simp
            go_at_call 53
            (with_reducible refine (implPreciseB _ _ t1 u1 _ _ _ (hv1.below bal1.drew).all (hx1.below bal1.drew).all).mono ?_)
            rintro e w22 ⟨rfl, hb22⟩
            rw [Hq4.out]
            go_wp2_with fail
            refine hK.out _ _ ?_ (fun hHeld1 => ?_)
            · exact ⟨bcell hb22 (dcell (s0_)), bcell hb22 (dcell (s1_)), bcell hb22 (dcell (s2_)), bcell hb22 (dcell (s3_)), bcell hb22 (dcell (s4_)), bcell hb22 (dcell (s5_))⟩
            clear hK K hHeld0
            (try simp only [Act.put, List.setIfInBounds_toArray, List.set_cons_zero, List.set_cons_succ])
            refine wpAnyH_ready (rs := [5]) (by kernel_rfl) (by simp) ?_
            refine AllReadyH.cons (o := { dst := some 95, op := Op.call { callee := Callee.value (Operand.func 37), args := #[Operand.tmp 93, Operand.tmp 94], argTypes := #[29, 29] }, type := 4, pos := "laws.go:111", after := #[{ on := 3, ground := Ground.data }, { on := 4, ground := Ground.data }, { on := 2, ground := Ground.chain }], guard := none }) rfl (fun K hK => ?_) AllReadyH.nil
            go_simp
            go_at_call 37
            (with_reducible refine (implTypeSame _ _ (meetT t1 u1) t1 _ _ _ (hv2.below (bstep bal1.drew hb22)).rep.all (hv1.below (bstep bal1.drew hb22)).all).mono ?_)
            rintro e w23 ⟨rfl, hb23⟩
            rw [Hq5.out]
            go_wp2_with fail
            refine hK.out _ _ ?_ (fun hHeld2 => ?_)
            · exact ⟨bcell hb23 (bcell hb22 (dcell (s0_))), bcell hb23 (bcell hb22 (dcell (s1_))), bcell hb23 (bcell hb22 (dcell (s2_))), bcell hb23 (bcell hb22 (dcell (s3_))), bcell hb23 (bcell hb22 (dcell (s4_))), bcell hb23 (bcell hb22 (dcell (s5_)))⟩
            clear hK K hHeld1
            (try simp only [Act.put, List.setIfInBounds_toArray, List.set_cons_zero, List.set_cons_succ])
            refine wpAnyH_take (i := 6) (oi := { dst := some 96, op := Op.binOp BinOp.eql 4 (Operand.tmp 92) (Operand.tmp 95) 4, type := 4, pos := "laws.go:111", after := #[{ on := 2, ground := Ground.data }, { on := 5, ground := Ground.data }], guard := none }) (v := .bool false) rfl (by kernel_rfl) (by kernel_rfl) (by kernel_rfl) (fun _ _ _ h => h) (Or.inl ⟨by rfl, ?_⟩) hHeld2 ?_
            · intro w' hSw; (try dsimp only at hSw); go_simp
            (try simp only [Act.put, List.setIfInBounds_toArray, List.set_cons_zero, List.set_cons_succ])
            refine wpAnyH_take (i := 7) (oi := { dst := some 97, op := Op.move (Operand.tmp 96), type := 4, pos := "laws.go:111", after := #[{ on := 6, ground := Ground.data }, { on := 5, ground := Ground.chain }], guard := none }) (v := .bool false) rfl (by kernel_rfl) (by kernel_rfl) (by kernel_rfl) (fun _ _ _ h => h) (Or.inl ⟨by rfl, ?_⟩) hHeld2 ?_
            · intro w' hSw; (try dsimp only at hSw); go_simp
            (try simp only [Act.put, List.setIfInBounds_toArray, List.set_cons_zero, List.set_cons_succ])
            refine wpAnyH_take (i := 8) (oi := { dst := some 98, op := Op.move (Operand.tmp 15), type := 4, pos := "laws.go:111", after := #[{ on := 7, ground := Ground.guard }], guard := some (7, true) }) (v := undef) rfl (by kernel_rfl) (by kernel_rfl) (by kernel_rfl) (fun _ _ _ h => h) (Or.inr ⟨by rfl, rfl⟩) hHeld2 ?_
            (try simp only [Act.put, List.setIfInBounds_toArray, List.set_cons_zero, List.set_cons_succ])
            refine wpAnyH_take (i := 9) (oi := { dst := some 99, op := Op.move (Operand.tmp 17), type := 4, pos := "laws.go:111", after := #[{ on := 7, ground := Ground.guard }], guard := some (7, true) }) (v := undef) rfl (by kernel_rfl) (by kernel_rfl) (by kernel_rfl) (fun _ _ _ h => h) (Or.inr ⟨by rfl, rfl⟩) hHeld2 ?_
            (try simp only [Act.put, List.setIfInBounds_toArray, List.set_cons_zero, List.set_cons_succ])
            refine wpAnyH_take (i := 10) (oi := { dst := some 100, op := Op.move (Operand.tmp 99), type := 4, pos := "laws.go:111", after := #[{ on := 9, ground := Ground.data }, { on := 7, ground := Ground.chain }, { on := 7, ground := Ground.guard }], guard := some (7, true) }) (v := undef) rfl (by kernel_rfl) (by kernel_rfl) (by kernel_rfl) (fun _ _ _ h => h) (Or.inr ⟨by rfl, rfl⟩) hHeld2 ?_
            (try simp only [Act.put, List.setIfInBounds_toArray, List.set_cons_zero, List.set_cons_succ])
            refine wpAnyH_take (i := 11) (oi := { dst := some 101, op := Op.move (Operand.tmp 19), type := 4, pos := "laws.go:111", after := #[{ on := 10, ground := Ground.guard }], guard := some (10, true) }) (v := undef) rfl (by kernel_rfl) (by kernel_rfl) (by kernel_rfl) (fun _ _ _ h => h) (Or.inr ⟨by rfl, rfl⟩) hHeld2 ?_
            (try simp only [Act.put, List.setIfInBounds_toArray, List.set_cons_zero, List.set_cons_succ])
            refine wpAnyH_take (i := 12) (oi := { dst := some 102, op := Op.pick (Operand.tmp 100) (Operand.tmp 101) (Operand.const (Value.bool false)), type := 4, pos := "laws.go:111", after := #[{ on := 10, ground := Ground.data }, { on := 11, ground := Ground.data }, { on := 7, ground := Ground.guard }], guard := some (7, true) }) (v := undef) rfl (by kernel_rfl) (by kernel_rfl) (by kernel_rfl) (fun _ _ _ h => h) (Or.inr ⟨by rfl, rfl⟩) hHeld2 ?_
            (try simp only [Act.put, List.setIfInBounds_toArray, List.set_cons_zero, List.set_cons_succ])
            refine wpAnyH_take (i := 13) (oi := { dst := some 103, op := Op.binOp BinOp.eql 4 (Operand.tmp 98) (Operand.tmp 102) 4, type := 4, pos := "laws.go:111", after := #[{ on := 8, ground := Ground.data }, { on := 12, ground := Ground.data }, { on := 7, ground := Ground.guard }], guard := some (7, true) }) (v := undef) rfl (by kernel_rfl) (by kernel_rfl) (by kernel_rfl) (fun _ _ _ h => h) (Or.inr ⟨by rfl, rfl⟩) hHeld2 ?_
            (try simp only [Act.put, List.setIfInBounds_toArray, List.set_cons_zero, List.set_cons_succ])
            refine wpAnyH_take (i := 14) (oi := { dst := some 104, op := Op.pick (Operand.tmp 97) (Operand.tmp 103) (Operand.const (Value.bool false)), type := 4, pos := "laws.go:111", after := #[{ on := 7, ground := Ground.data }, { on := 13, ground := Ground.data }], guard := none }) (v := .bool false) rfl (by kernel_rfl) (by kernel_rfl) (by kernel_rfl) (fun _ _ _ h => h) (Or.inl ⟨by rfl, ?_⟩) hHeld2 ?_
            · intro w' hSw; (try dsimp only at hSw); go_simp
            (try simp only [Act.put, List.setIfInBounds_toArray, List.set_cons_zero, List.set_cons_succ])
            refine wpAnyH_take (i := 15) (oi := { dst := some 105, op := Op.move (Operand.tmp 104), type := 4, pos := "laws.go:111", after := #[{ on := 14, ground := Ground.data }, { on := 10, ground := Ground.chain }], guard := none }) (v := .bool false) rfl (by kernel_rfl) (by kernel_rfl) (by kernel_rfl) (fun _ _ _ h => h) (Or.inl ⟨by rfl, ?_⟩) hHeld2 ?_
            · intro w' hSw; (try dsimp only at hSw); go_simp
            (try simp only [Act.put, List.setIfInBounds_toArray, List.set_cons_zero, List.set_cons_succ])
            refine wpAnyH_take (i := 16) (oi := { dst := some 106, op := Op.move (Operand.tmp 15), type := 4, pos := "laws.go:111", after := #[{ on := 15, ground := Ground.guard }], guard := some (15, true) }) (v := undef) rfl (by kernel_rfl) (by kernel_rfl) (by kernel_rfl) (fun _ _ _ h => h) (Or.inr ⟨by rfl, rfl⟩) hHeld2 ?_
            (try simp only [Act.put, List.setIfInBounds_toArray, List.set_cons_zero, List.set_cons_succ])
            refine wpAnyH_take (i := 17) (oi := { dst := some 107, op := Op.unOp UnOp.not 4 (Operand.tmp 106), type := 4, pos := "laws.go:111", after := #[{ on := 16, ground := Ground.data }, { on := 15, ground := Ground.guard }], guard := some (15, true) }) (v := undef) rfl (by kernel_rfl) (by kernel_rfl) (by kernel_rfl) (fun _ _ _ h => h) (Or.inr ⟨by rfl, rfl⟩) hHeld2 ?_
            (try simp only [Act.put, List.setIfInBounds_toArray, List.set_cons_zero, List.set_cons_succ])
            refine wpAnyH_take (i := 18) (oi := { dst := some 108, op := Op.move (Operand.tmp 107), type := 4, pos := "laws.go:111", after := #[{ on := 17, ground := Ground.data }, { on := 15, ground := Ground.chain }, { on := 15, ground := Ground.guard }], guard := some (15, true) }) (v := undef) rfl (by kernel_rfl) (by kernel_rfl) (by kernel_rfl) (fun _ _ _ h => h) (Or.inr ⟨by rfl, rfl⟩) hHeld2 ?_
            (try simp only [Act.put, List.setIfInBounds_toArray, List.set_cons_zero, List.set_cons_succ])
            refine wpAnyH_take (i := 19) (oi := { dst := some 109, op := Op.load 29 (Operand.tmp 14), type := 29, pos := "laws.go:111", after := #[{ on := 18, ground := Ground.guard }], guard := some (18, false) }) (v := undef) rfl (by kernel_rfl) (by kernel_rfl) (by kernel_rfl) (fun _ _ _ h => h) (Or.inr ⟨by rfl, rfl⟩) hHeld2 ?_
            (try simp only [Act.put, List.setIfInBounds_toArray, List.set_cons_zero, List.set_cons_succ])
            refine wpAnyH_take (i := 20) (oi := { dst := some 110, op := Op.load 29 (Operand.tmp 18), type := 29, pos := "laws.go:111", after := #[{ on := 18, ground := Ground.guard }], guard := some (18, false) }) (v := undef) rfl (by kernel_rfl) (by kernel_rfl) (by kernel_rfl) (fun _ _ _ h => h) (Or.inr ⟨by rfl, rfl⟩) hHeld2 ?_
            (try simp only [Act.put, List.setIfInBounds_toArray, List.set_cons_zero, List.set_cons_succ])
            refine wpAnyH_take (i := 21) (oi := { dst := some 111, op := Op.call { callee := Callee.value (Operand.func 37), args := #[Operand.tmp 109, Operand.tmp 110], argTypes := #[29, 29] }, type := 4, pos := "laws.go:111", after := #[{ on := 19, ground := Ground.data }, { on := 20, ground := Ground.data }, { on := 18, ground := Ground.chain }, { on := 18, ground := Ground.guard }], guard := some (18, false) }) (v := undef) rfl (by kernel_rfl) (by kernel_rfl) (by kernel_rfl) (fun _ _ _ h => h) (Or.inr ⟨by rfl, rfl⟩) hHeld2 ?_
            (try simp only [Act.put, List.setIfInBounds_toArray, List.set_cons_zero, List.set_cons_succ])
            refine wpAnyH_take (i := 22) (oi := { dst := some 112, op := Op.pick (Operand.tmp 108) (Operand.const (Value.bool true)) (Operand.tmp 111), type := 4, pos := "laws.go:111", after := #[{ on := 18, ground := Ground.data }, { on := 21, ground := Ground.data }, { on := 15, ground := Ground.guard }], guard := some (15, true) }) (v := undef) rfl (by kernel_rfl) (by kernel_rfl) (by kernel_rfl) (fun _ _ _ h => h) (Or.inr ⟨by rfl, rfl⟩) hHeld2 ?_
            (try simp only [Act.put, List.setIfInBounds_toArray, List.set_cons_zero, List.set_cons_succ])
            refine wpAnyH_take (i := 23) (oi := { dst := some 113, op := Op.pick (Operand.tmp 105) (Operand.tmp 112) (Operand.const (Value.bool false)), type := 4, pos := "laws.go:111", after := #[{ on := 15, ground := Ground.data }, { on := 22, ground := Ground.data }], guard := none }) (v := .bool false) rfl (by kernel_rfl) (by kernel_rfl) (by kernel_rfl) (fun _ _ _ h => h) (Or.inl ⟨by rfl, ?_⟩) hHeld2 ?_
            · intro w' hSw; (try dsimp only at hSw); go_simp
            (try simp only [Act.put, List.setIfInBounds_toArray, List.set_cons_zero, List.set_cons_succ])
            refine wpAnyH_take (i := 24) (oi := { dst := some 4, op := Op.assign (Operand.tmp 113), type := 4, pos := "laws.go:111", after := #[{ on := 23, ground := Ground.data }, { on := 21, ground := Ground.chain }, { on := 0, ground := Ground.phase }, { on := 1, ground := Ground.phase }, { on := 2, ground := Ground.phase }, { on := 3, ground := Ground.phase }, { on := 4, ground := Ground.phase }, { on := 5, ground := Ground.phase }, { on := 6, ground := Ground.phase }, { on := 7, ground := Ground.phase }, { on := 8, ground := Ground.phase }, { on := 9, ground := Ground.phase }, { on := 10, ground := Ground.phase }, { on := 11, ground := Ground.phase }, { on := 12, ground := Ground.phase }, { on := 13, ground := Ground.phase }, { on := 14, ground := Ground.phase }, { on := 15, ground := Ground.phase }, { on := 16, ground := Ground.phase }, { on := 17, ground := Ground.phase }, { on := 18, ground := Ground.phase }, { on := 19, ground := Ground.phase }, { on := 20, ground := Ground.phase }, { on := 21, ground := Ground.phase }, { on := 22, ground := Ground.phase }, { on := 23, ground := Ground.phase }], guard := none }) (v := .bool false) rfl (by kernel_rfl) (by kernel_rfl) (by kernel_rfl) (fun _ _ _ h => h) (Or.inl ⟨by rfl, ?_⟩) hHeld2 ?_
            · intro w' hSw; (try dsimp only at hSw); go_simp
            (try simp only [Act.put, List.setIfInBounds_toArray, List.set_cons_zero, List.set_cons_succ])
            refine wpAnyH_done (by kernel_rfl) ?_ _
            refine NoPanic.normal ?_
            clear hHeld2 s0_ s1_ s2_ s3_ s4_ s5_
            replace hB := (bstep (bstep (hB.alloc hB.size _).drew hb22) hb23)
            have zw23 := hB.size
            go_wp2_with fail
            exact (leaf_FnMeetLaws_4 Hq3.out Hq4.out Hq5.out).elim
        · have Hq4 := Lib.hid q4
          clear q4
          rcases Bool.eq_false_or_eq_true (Ty.same (meetT t1 u1) t1) with q11 | q11
          · have Hq11 := Lib.hid q11
            clear q11
            go_wp2_with fail
            have s0_ : (World.alloc w8 (Obj.cells #[.int .i64 kr8, .slice ar8 nr8 qr8] 29)).cell? ⟨w1.heap.size, 0, none⟩ = some (.int .i64 kv1) := bcell bal1 (c0_0)
            have s1_ : (World.alloc w8 (Obj.cells #[.int .i64 kr8, .slice ar8 nr8 qr8] 29)).cell? ⟨w1.heap.size, 1, none⟩ = some (.slice av1 nv1 qv1) := bcell bal1 (c0_1)
            have s2_ : (World.alloc w8 (Obj.cells #[.int .i64 kr8, .slice ar8 nr8 qr8] 29)).cell? ⟨w1.heap.size + 1, 0, none⟩ = some (.int .i64 kx1) := bcell bal1 (c1_0)
            have s3_ : (World.alloc w8 (Obj.cells #[.int .i64 kr8, .slice ar8 nr8 qr8] 29)).cell? ⟨w1.heap.size + 1, 1, none⟩ = some (.slice ax1 nx1 qx1) := bcell bal1 (c1_1)
            have s4_ : (World.alloc w8 (Obj.cells #[.int .i64 kr8, .slice ar8 nr8 qr8] 29)).cell? ⟨w2.heap.size, 0, none⟩ = some (.int .i64 kr2) := bcell bal1 (c2_0)
            have s5_ : (World.alloc w8 (Obj.cells #[.int .i64 kr8, .slice ar8 nr8 qr8] 29)).cell? ⟨w2.heap.size, 1, none⟩ = some (.slice ar2 nr2 qr2) := bcell bal1 (c2_1)
            refine wp_region_noPanic ?_
            refine wp_region_held_drew (S := fun w' => w'.cell? ⟨w1.heap.size, 0, none⟩ = some (.int .i64 kv1) ∧ w'.cell? ⟨w1.heap.size, 1, none⟩ = some (.slice av1 nv1 qv1) ∧ w'.cell? ⟨w1.heap.size + 1, 0, none⟩ = some (.int .i64 kx1) ∧ w'.cell? ⟨w1.heap.size + 1, 1, none⟩ = some (.slice ax1 nx1 qx1) ∧ w'.cell? ⟨w2.heap.size, 0, none⟩ = some (.int .i64 kr2) ∧ w'.cell? ⟨w2.heap.size, 1, none⟩ = some (.slice ar2 nr2 qr2)) (by kernel_rfl) ?_ (fun hHeld0 => ?_)
            · exact ⟨dcell (s0_), dcell (s1_), dcell (s2_), dcell (s3_), dcell (s4_), dcell (s5_)⟩
            refine wpAnyH_take (i := 0) (oi := { dst := some 90, op := Op.load 29 (Operand.tmp 5), type := 29, pos := "laws.go:111", after := #[], guard := none }) (v := .agg #[.int .i64 kv1, .slice av1 nv1 qv1]) rfl (by kernel_rfl) (by kernel_rfl) (by kernel_rfl) (fun _ _ _ h => h) (Or.inl ⟨by rfl, ?_⟩) hHeld0 ?_
            · intro w' hSw; (try dsimp only at hSw); go_simp
            (try simp only [Act.put, List.setIfInBounds_toArray, List.set_cons_zero, List.set_cons_succ])
            refine wpAnyH_take (i := 1) (oi := { dst := some 91, op := Op.load 29 (Operand.tmp 6), type := 29, pos := "laws.go:111", after := #[], guard := none }) (v := .agg #[.int .i64 kx1, .slice ax1 nx1 qx1]) rfl (by kernel_rfl) (by kernel_rfl) (by kernel_rfl) (fun _ _ _ h => h) (Or.inl ⟨by rfl, ?_⟩) hHeld0 ?_
            · intro w' hSw; (try dsimp only at hSw); go_simp
            (try simp only [Act.put, List.setIfInBounds_toArray, List.set_cons_zero, List.set_cons_succ])
            refine wpAnyH_take (i := 3) (oi := { dst := some 93, op := Op.load 29 (Operand.tmp 7), type := 29, pos := "laws.go:111", after := #[], guard := none }) (v := .agg #[.int .i64 kr2, .slice ar2 nr2 qr2]) rfl (by kernel_rfl) (by kernel_rfl) (by kernel_rfl) (fun _ _ _ h => h) (Or.inl ⟨by rfl, ?_⟩) hHeld0 ?_
            · intro w' hSw; (try dsimp only at hSw); go_simp
            (try simp only [Act.put, List.setIfInBounds_toArray, List.set_cons_zero, List.set_cons_succ])
            refine wpAnyH_take (i := 4) (oi := { dst := some 94, op := Op.load 29 (Operand.tmp 5), type := 29, pos := "laws.go:111", after := #[], guard := none }) (v := .agg #[.int .i64 kv1, .slice av1 nv1 qv1]) rfl (by kernel_rfl) (by kernel_rfl) (by kernel_rfl) (fun _ _ _ h => h) (Or.inl ⟨by rfl, ?_⟩) hHeld0 ?_
            · intro w' hSw; (try dsimp only at hSw); go_simp
            (try simp only [Act.put, List.setIfInBounds_toArray, List.set_cons_zero, List.set_cons_succ])
            refine wpAnyH_ready (rs := [2]) (by kernel_rfl) (by simp) ?_
            refine AllReadyH.cons (o := { dst := some 92, op := Op.call { callee := Callee.value (Operand.func 53), args := #[Operand.tmp 90, Operand.tmp 91], argTypes := #[29, 29] }, type := 4, pos := "laws.go:111", after := #[{ on := 0, ground := Ground.data }, { on := 1, ground := Ground.data }], guard := none }) rfl (fun K hK => ?_) AllReadyH.nil
            go_simp
            go_at_call 53
            (with_reducible refine (implPreciseB _ _ t1 u1 _ _ _ (hv1.below bal1.drew).all (hx1.below bal1.drew).all).mono ?_)
            rintro e w24 ⟨rfl, hb24⟩
            rw [Hq4.out]
            go_wp2_with fail
            refine hK.out _ _ ?_ (fun hHeld1 => ?_)
            · exact ⟨bcell hb24 (dcell (s0_)), bcell hb24 (dcell (s1_)), bcell hb24 (dcell (s2_)), bcell hb24 (dcell (s3_)), bcell hb24 (dcell (s4_)), bcell hb24 (dcell (s5_))⟩
            clear hK K hHeld0
            (try simp only [Act.put, List.setIfInBounds_toArray, List.set_cons_zero, List.set_cons_succ])
            refine wpAnyH_ready (rs := [5]) (by kernel_rfl) (by simp) ?_
            refine AllReadyH.cons (o := { dst := some 95, op := Op.call { callee := Callee.value (Operand.func 37), args := #[Operand.tmp 93, Operand.tmp 94], argTypes := #[29, 29] }, type := 4, pos := "laws.go:111", after := #[{ on := 3, ground := Ground.data }, { on := 4, ground := Ground.data }, { on := 2, ground := Ground.chain }], guard := none }) rfl (fun K hK => ?_) AllReadyH.nil
            go_simp
            go_at_call 37
            (with_reducible refine (implTypeSame _ _ (meetT t1 u1) t1 _ _ _ (hv2.below (bstep bal1.drew hb24)).rep.all (hv1.below (bstep bal1.drew hb24)).all).mono ?_)
            rintro e w25 ⟨rfl, hb25⟩
            rw [Hq11.out]
            go_wp2_with fail
            refine hK.out _ _ ?_ (fun hHeld2 => ?_)
            · exact ⟨bcell hb25 (bcell hb24 (dcell (s0_))), bcell hb25 (bcell hb24 (dcell (s1_))), bcell hb25 (bcell hb24 (dcell (s2_))), bcell hb25 (bcell hb24 (dcell (s3_))), bcell hb25 (bcell hb24 (dcell (s4_))), bcell hb25 (bcell hb24 (dcell (s5_)))⟩
            clear hK K hHeld1
            (try simp only [Act.put, List.setIfInBounds_toArray, List.set_cons_zero, List.set_cons_succ])
            refine wpAnyH_take (i := 6) (oi := { dst := some 96, op := Op.binOp BinOp.eql 4 (Operand.tmp 92) (Operand.tmp 95) 4, type := 4, pos := "laws.go:111", after := #[{ on := 2, ground := Ground.data }, { on := 5, ground := Ground.data }], guard := none }) (v := .bool false) rfl (by kernel_rfl) (by kernel_rfl) (by kernel_rfl) (fun _ _ _ h => h) (Or.inl ⟨by rfl, ?_⟩) hHeld2 ?_
            · intro w' hSw; (try dsimp only at hSw); go_simp
            (try simp only [Act.put, List.setIfInBounds_toArray, List.set_cons_zero, List.set_cons_succ])
            refine wpAnyH_take (i := 7) (oi := { dst := some 97, op := Op.move (Operand.tmp 96), type := 4, pos := "laws.go:111", after := #[{ on := 6, ground := Ground.data }, { on := 5, ground := Ground.chain }], guard := none }) (v := .bool false) rfl (by kernel_rfl) (by kernel_rfl) (by kernel_rfl) (fun _ _ _ h => h) (Or.inl ⟨by rfl, ?_⟩) hHeld2 ?_
            · intro w' hSw; (try dsimp only at hSw); go_simp
            (try simp only [Act.put, List.setIfInBounds_toArray, List.set_cons_zero, List.set_cons_succ])
            refine wpAnyH_take (i := 8) (oi := { dst := some 98, op := Op.move (Operand.tmp 15), type := 4, pos := "laws.go:111", after := #[{ on := 7, ground := Ground.guard }], guard := some (7, true) }) (v := undef) rfl (by kernel_rfl) (by kernel_rfl) (by kernel_rfl) (fun _ _ _ h => h) (Or.inr ⟨by rfl, rfl⟩) hHeld2 ?_
            (try simp only [Act.put, List.setIfInBounds_toArray, List.set_cons_zero, List.set_cons_succ])
            refine wpAnyH_take (i := 9) (oi := { dst := some 99, op := Op.move (Operand.tmp 17), type := 4, pos := "laws.go:111", after := #[{ on := 7, ground := Ground.guard }], guard := some (7, true) }) (v := undef) rfl (by kernel_rfl) (by kernel_rfl) (by kernel_rfl) (fun _ _ _ h => h) (Or.inr ⟨by rfl, rfl⟩) hHeld2 ?_
            (try simp only [Act.put, List.setIfInBounds_toArray, List.set_cons_zero, List.set_cons_succ])
            refine wpAnyH_take (i := 10) (oi := { dst := some 100, op := Op.move (Operand.tmp 99), type := 4, pos := "laws.go:111", after := #[{ on := 9, ground := Ground.data }, { on := 7, ground := Ground.chain }, { on := 7, ground := Ground.guard }], guard := some (7, true) }) (v := undef) rfl (by kernel_rfl) (by kernel_rfl) (by kernel_rfl) (fun _ _ _ h => h) (Or.inr ⟨by rfl, rfl⟩) hHeld2 ?_
            (try simp only [Act.put, List.setIfInBounds_toArray, List.set_cons_zero, List.set_cons_succ])
            refine wpAnyH_take (i := 11) (oi := { dst := some 101, op := Op.move (Operand.tmp 19), type := 4, pos := "laws.go:111", after := #[{ on := 10, ground := Ground.guard }], guard := some (10, true) }) (v := undef) rfl (by kernel_rfl) (by kernel_rfl) (by kernel_rfl) (fun _ _ _ h => h) (Or.inr ⟨by rfl, rfl⟩) hHeld2 ?_
            (try simp only [Act.put, List.setIfInBounds_toArray, List.set_cons_zero, List.set_cons_succ])
            refine wpAnyH_take (i := 12) (oi := { dst := some 102, op := Op.pick (Operand.tmp 100) (Operand.tmp 101) (Operand.const (Value.bool false)), type := 4, pos := "laws.go:111", after := #[{ on := 10, ground := Ground.data }, { on := 11, ground := Ground.data }, { on := 7, ground := Ground.guard }], guard := some (7, true) }) (v := undef) rfl (by kernel_rfl) (by kernel_rfl) (by kernel_rfl) (fun _ _ _ h => h) (Or.inr ⟨by rfl, rfl⟩) hHeld2 ?_
            (try simp only [Act.put, List.setIfInBounds_toArray, List.set_cons_zero, List.set_cons_succ])
            refine wpAnyH_take (i := 13) (oi := { dst := some 103, op := Op.binOp BinOp.eql 4 (Operand.tmp 98) (Operand.tmp 102) 4, type := 4, pos := "laws.go:111", after := #[{ on := 8, ground := Ground.data }, { on := 12, ground := Ground.data }, { on := 7, ground := Ground.guard }], guard := some (7, true) }) (v := undef) rfl (by kernel_rfl) (by kernel_rfl) (by kernel_rfl) (fun _ _ _ h => h) (Or.inr ⟨by rfl, rfl⟩) hHeld2 ?_
            (try simp only [Act.put, List.setIfInBounds_toArray, List.set_cons_zero, List.set_cons_succ])
            refine wpAnyH_take (i := 14) (oi := { dst := some 104, op := Op.pick (Operand.tmp 97) (Operand.tmp 103) (Operand.const (Value.bool false)), type := 4, pos := "laws.go:111", after := #[{ on := 7, ground := Ground.data }, { on := 13, ground := Ground.data }], guard := none }) (v := .bool false) rfl (by kernel_rfl) (by kernel_rfl) (by kernel_rfl) (fun _ _ _ h => h) (Or.inl ⟨by rfl, ?_⟩) hHeld2 ?_
            · intro w' hSw; (try dsimp only at hSw); go_simp
            (try simp only [Act.put, List.setIfInBounds_toArray, List.set_cons_zero, List.set_cons_succ])
            refine wpAnyH_take (i := 15) (oi := { dst := some 105, op := Op.move (Operand.tmp 104), type := 4, pos := "laws.go:111", after := #[{ on := 14, ground := Ground.data }, { on := 10, ground := Ground.chain }], guard := none }) (v := .bool false) rfl (by kernel_rfl) (by kernel_rfl) (by kernel_rfl) (fun _ _ _ h => h) (Or.inl ⟨by rfl, ?_⟩) hHeld2 ?_
            · intro w' hSw; (try dsimp only at hSw); go_simp
            (try simp only [Act.put, List.setIfInBounds_toArray, List.set_cons_zero, List.set_cons_succ])
            refine wpAnyH_take (i := 16) (oi := { dst := some 106, op := Op.move (Operand.tmp 15), type := 4, pos := "laws.go:111", after := #[{ on := 15, ground := Ground.guard }], guard := some (15, true) }) (v := undef) rfl (by kernel_rfl) (by kernel_rfl) (by kernel_rfl) (fun _ _ _ h => h) (Or.inr ⟨by rfl, rfl⟩) hHeld2 ?_
            (try simp only [Act.put, List.setIfInBounds_toArray, List.set_cons_zero, List.set_cons_succ])
            refine wpAnyH_take (i := 17) (oi := { dst := some 107, op := Op.unOp UnOp.not 4 (Operand.tmp 106), type := 4, pos := "laws.go:111", after := #[{ on := 16, ground := Ground.data }, { on := 15, ground := Ground.guard }], guard := some (15, true) }) (v := undef) rfl (by kernel_rfl) (by kernel_rfl) (by kernel_rfl) (fun _ _ _ h => h) (Or.inr ⟨by rfl, rfl⟩) hHeld2 ?_
            (try simp only [Act.put, List.setIfInBounds_toArray, List.set_cons_zero, List.set_cons_succ])
            refine wpAnyH_take (i := 18) (oi := { dst := some 108, op := Op.move (Operand.tmp 107), type := 4, pos := "laws.go:111", after := #[{ on := 17, ground := Ground.data }, { on := 15, ground := Ground.chain }, { on := 15, ground := Ground.guard }], guard := some (15, true) }) (v := undef) rfl (by kernel_rfl) (by kernel_rfl) (by kernel_rfl) (fun _ _ _ h => h) (Or.inr ⟨by rfl, rfl⟩) hHeld2 ?_
            (try simp only [Act.put, List.setIfInBounds_toArray, List.set_cons_zero, List.set_cons_succ])
            refine wpAnyH_take (i := 19) (oi := { dst := some 109, op := Op.load 29 (Operand.tmp 14), type := 29, pos := "laws.go:111", after := #[{ on := 18, ground := Ground.guard }], guard := some (18, false) }) (v := undef) rfl (by kernel_rfl) (by kernel_rfl) (by kernel_rfl) (fun _ _ _ h => h) (Or.inr ⟨by rfl, rfl⟩) hHeld2 ?_
            (try simp only [Act.put, List.setIfInBounds_toArray, List.set_cons_zero, List.set_cons_succ])
            refine wpAnyH_take (i := 20) (oi := { dst := some 110, op := Op.load 29 (Operand.tmp 18), type := 29, pos := "laws.go:111", after := #[{ on := 18, ground := Ground.guard }], guard := some (18, false) }) (v := undef) rfl (by kernel_rfl) (by kernel_rfl) (by kernel_rfl) (fun _ _ _ h => h) (Or.inr ⟨by rfl, rfl⟩) hHeld2 ?_
            (try simp only [Act.put, List.setIfInBounds_toArray, List.set_cons_zero, List.set_cons_succ])
            refine wpAnyH_take (i := 21) (oi := { dst := some 111, op := Op.call { callee := Callee.value (Operand.func 37), args := #[Operand.tmp 109, Operand.tmp 110], argTypes := #[29, 29] }, type := 4, pos := "laws.go:111", after := #[{ on := 19, ground := Ground.data }, { on := 20, ground := Ground.data }, { on := 18, ground := Ground.chain }, { on := 18, ground := Ground.guard }], guard := some (18, false) }) (v := undef) rfl (by kernel_rfl) (by kernel_rfl) (by kernel_rfl) (fun _ _ _ h => h) (Or.inr ⟨by rfl, rfl⟩) hHeld2 ?_
            (try simp only [Act.put, List.setIfInBounds_toArray, List.set_cons_zero, List.set_cons_succ])
            refine wpAnyH_take (i := 22) (oi := { dst := some 112, op := Op.pick (Operand.tmp 108) (Operand.const (Value.bool true)) (Operand.tmp 111), type := 4, pos := "laws.go:111", after := #[{ on := 18, ground := Ground.data }, { on := 21, ground := Ground.data }, { on := 15, ground := Ground.guard }], guard := some (15, true) }) (v := undef) rfl (by kernel_rfl) (by kernel_rfl) (by kernel_rfl) (fun _ _ _ h => h) (Or.inr ⟨by rfl, rfl⟩) hHeld2 ?_
            (try simp only [Act.put, List.setIfInBounds_toArray, List.set_cons_zero, List.set_cons_succ])
            refine wpAnyH_take (i := 23) (oi := { dst := some 113, op := Op.pick (Operand.tmp 105) (Operand.tmp 112) (Operand.const (Value.bool false)), type := 4, pos := "laws.go:111", after := #[{ on := 15, ground := Ground.data }, { on := 22, ground := Ground.data }], guard := none }) (v := .bool false) rfl (by kernel_rfl) (by kernel_rfl) (by kernel_rfl) (fun _ _ _ h => h) (Or.inl ⟨by rfl, ?_⟩) hHeld2 ?_
            · intro w' hSw; (try dsimp only at hSw); go_simp
            (try simp only [Act.put, List.setIfInBounds_toArray, List.set_cons_zero, List.set_cons_succ])
            refine wpAnyH_take (i := 24) (oi := { dst := some 4, op := Op.assign (Operand.tmp 113), type := 4, pos := "laws.go:111", after := #[{ on := 23, ground := Ground.data }, { on := 21, ground := Ground.chain }, { on := 0, ground := Ground.phase }, { on := 1, ground := Ground.phase }, { on := 2, ground := Ground.phase }, { on := 3, ground := Ground.phase }, { on := 4, ground := Ground.phase }, { on := 5, ground := Ground.phase }, { on := 6, ground := Ground.phase }, { on := 7, ground := Ground.phase }, { on := 8, ground := Ground.phase }, { on := 9, ground := Ground.phase }, { on := 10, ground := Ground.phase }, { on := 11, ground := Ground.phase }, { on := 12, ground := Ground.phase }, { on := 13, ground := Ground.phase }, { on := 14, ground := Ground.phase }, { on := 15, ground := Ground.phase }, { on := 16, ground := Ground.phase }, { on := 17, ground := Ground.phase }, { on := 18, ground := Ground.phase }, { on := 19, ground := Ground.phase }, { on := 20, ground := Ground.phase }, { on := 21, ground := Ground.phase }, { on := 22, ground := Ground.phase }, { on := 23, ground := Ground.phase }], guard := none }) (v := .bool false) rfl (by kernel_rfl) (by kernel_rfl) (by kernel_rfl) (fun _ _ _ h => h) (Or.inl ⟨by rfl, ?_⟩) hHeld2 ?_
            · intro w' hSw; (try dsimp only at hSw); go_simp
            (try simp only [Act.put, List.setIfInBounds_toArray, List.set_cons_zero, List.set_cons_succ])
            refine wpAnyH_done (by kernel_rfl) ?_ _
            refine NoPanic.normal ?_
            clear hHeld2 s0_ s1_ s2_ s3_ s4_ s5_
            replace hB := (bstep (bstep (hB.alloc hB.size _).drew hb24) hb25)
            have zw25 := hB.size
            go_wp2_with fail
            exact (leaf_FnMeetLaws_5 Hq3.out Hq4.out Hq11.out).elim
          · have Hq11 := Lib.hid q11
            clear q11
            rcases Bool.eq_false_or_eq_true (consB u1 u5) with q12 | q12
            · (try rw [q12])
              have Hq12 := Lib.hid q12
              clear q12
              rcases Bool.eq_false_or_eq_true (consB (meetT t1 u1) u5) with q13 | q13
              · (try rw [q13])
                have Hq13 := Lib.hid q13
                clear q13
                rcases Bool.eq_false_or_eq_true (consB t1 (meetT u1 u5)) with q14 | q14
                · (try rw [q14])
                  have Hq14 := Lib.hid q14
                  clear q14
                  go_wp2_with fail
                  have s0_ : (World.alloc w8 (Obj.cells #[.int .i64 kr8, .slice ar8 nr8 qr8] 29)).cell? ⟨w1.heap.size, 0, none⟩ = some (.int .i64 kv1) := bcell bal1 (c0_0)
                  have s1_ : (World.alloc w8 (Obj.cells #[.int .i64 kr8, .slice ar8 nr8 qr8] 29)).cell? ⟨w1.heap.size, 1, none⟩ = some (.slice av1 nv1 qv1) := bcell bal1 (c0_1)
                  have s2_ : (World.alloc w8 (Obj.cells #[.int .i64 kr8, .slice ar8 nr8 qr8] 29)).cell? ⟨w1.heap.size + 1, 0, none⟩ = some (.int .i64 kx1) := bcell bal1 (c1_0)
                  have s3_ : (World.alloc w8 (Obj.cells #[.int .i64 kr8, .slice ar8 nr8 qr8] 29)).cell? ⟨w1.heap.size + 1, 1, none⟩ = some (.slice ax1 nx1 qx1) := bcell bal1 (c1_1)
                  have s4_ : (World.alloc w8 (Obj.cells #[.int .i64 kr8, .slice ar8 nr8 qr8] 29)).cell? ⟨w2.heap.size, 0, none⟩ = some (.int .i64 kr2) := bcell bal1 (c2_0)
                  have s5_ : (World.alloc w8 (Obj.cells #[.int .i64 kr8, .slice ar8 nr8 qr8] 29)).cell? ⟨w2.heap.size, 1, none⟩ = some (.slice ar2 nr2 qr2) := bcell bal1 (c2_1)
                  have s6_ : (World.alloc w8 (Obj.cells #[.int .i64 kr8, .slice ar8 nr8 qr8] 29)).cell? ⟨w6.heap.size, 0, none⟩ = some (.int .i64 kr6) := bcell bal1 (c7_0)
                  have s7_ : (World.alloc w8 (Obj.cells #[.int .i64 kr8, .slice ar8 nr8 qr8] 29)).cell? ⟨w6.heap.size, 1, none⟩ = some (.slice ar6 nr6 qr6) := bcell bal1 (c7_1)
                  have s8_ : (World.alloc w8 (Obj.cells #[.int .i64 kr8, .slice ar8 nr8 qr8] 29)).cell? ⟨w8.heap.size, 0, none⟩ = some (.int .i64 kr8) := cell_new (by simp) 0
                  have s9_ : (World.alloc w8 (Obj.cells #[.int .i64 kr8, .slice ar8 nr8 qr8] 29)).cell? ⟨w8.heap.size, 1, none⟩ = some (.slice ar8 nr8 qr8) := cell_new (by simp) 1
                  have hS0 := Lib.hid (show (World.drew (World.alloc w8 (Obj.cells #[.int .i64 kr8, .slice ar8 nr8 qr8] 29))).cell? ⟨w1.heap.size, 0, none⟩ = some (.int .i64 kv1) ∧ (World.drew (World.alloc w8 (Obj.cells #[.int .i64 kr8, .slice ar8 nr8 qr8] 29))).cell? ⟨w1.heap.size, 1, none⟩ = some (.slice av1 nv1 qv1) ∧ (World.drew (World.alloc w8 (Obj.cells #[.int .i64 kr8, .slice ar8 nr8 qr8] 29))).cell? ⟨w1.heap.size + 1, 0, none⟩ = some (.int .i64 kx1) ∧ (World.drew (World.alloc w8 (Obj.cells #[.int .i64 kr8, .slice ar8 nr8 qr8] 29))).cell? ⟨w1.heap.size + 1, 1, none⟩ = some (.slice ax1 nx1 qx1) ∧ (World.drew (World.alloc w8 (Obj.cells #[.int .i64 kr8, .slice ar8 nr8 qr8] 29))).cell? ⟨w2.heap.size, 0, none⟩ = some (.int .i64 kr2) ∧ (World.drew (World.alloc w8 (Obj.cells #[.int .i64 kr8, .slice ar8 nr8 qr8] 29))).cell? ⟨w2.heap.size, 1, none⟩ = some (.slice ar2 nr2 qr2) ∧ (World.drew (World.alloc w8 (Obj.cells #[.int .i64 kr8, .slice ar8 nr8 qr8] 29))).cell? ⟨w6.heap.size, 0, none⟩ = some (.int .i64 kr6) ∧ (World.drew (World.alloc w8 (Obj.cells #[.int .i64 kr8, .slice ar8 nr8 qr8] 29))).cell? ⟨w6.heap.size, 1, none⟩ = some (.slice ar6 nr6 qr6) ∧ (World.drew (World.alloc w8 (Obj.cells #[.int .i64 kr8, .slice ar8 nr8 qr8] 29))).cell? ⟨w8.heap.size, 0, none⟩ = some (.int .i64 kr8) ∧ (World.drew (World.alloc w8 (Obj.cells #[.int .i64 kr8, .slice ar8 nr8 qr8] 29))).cell? ⟨w8.heap.size, 1, none⟩ = some (.slice ar8 nr8 qr8) from ⟨dcell (s0_), dcell (s1_), dcell (s2_), dcell (s3_), dcell (s4_), dcell (s5_), dcell (s6_), dcell (s7_), dcell (s8_), dcell (s9_)⟩)
                  have hSb := Lib.hid (show ∀ X Y : World, Below X.heap.size X Y → (X.cell? ⟨w1.heap.size, 0, none⟩ = some (.int .i64 kv1) ∧ X.cell? ⟨w1.heap.size, 1, none⟩ = some (.slice av1 nv1 qv1) ∧ X.cell? ⟨w1.heap.size + 1, 0, none⟩ = some (.int .i64 kx1) ∧ X.cell? ⟨w1.heap.size + 1, 1, none⟩ = some (.slice ax1 nx1 qx1) ∧ X.cell? ⟨w2.heap.size, 0, none⟩ = some (.int .i64 kr2) ∧ X.cell? ⟨w2.heap.size, 1, none⟩ = some (.slice ar2 nr2 qr2) ∧ X.cell? ⟨w6.heap.size, 0, none⟩ = some (.int .i64 kr6) ∧ X.cell? ⟨w6.heap.size, 1, none⟩ = some (.slice ar6 nr6 qr6) ∧ X.cell? ⟨w8.heap.size, 0, none⟩ = some (.int .i64 kr8) ∧ X.cell? ⟨w8.heap.size, 1, none⟩ = some (.slice ar8 nr8 qr8)) → (Y.cell? ⟨w1.heap.size, 0, none⟩ = some (.int .i64 kv1) ∧ Y.cell? ⟨w1.heap.size, 1, none⟩ = some (.slice av1 nv1 qv1) ∧ Y.cell? ⟨w1.heap.size + 1, 0, none⟩ = some (.int .i64 kx1) ∧ Y.cell? ⟨w1.heap.size + 1, 1, none⟩ = some (.slice ax1 nx1 qx1) ∧ Y.cell? ⟨w2.heap.size, 0, none⟩ = some (.int .i64 kr2) ∧ Y.cell? ⟨w2.heap.size, 1, none⟩ = some (.slice ar2 nr2 qr2) ∧ Y.cell? ⟨w6.heap.size, 0, none⟩ = some (.int .i64 kr6) ∧ Y.cell? ⟨w6.heap.size, 1, none⟩ = some (.slice ar6 nr6 qr6) ∧ Y.cell? ⟨w8.heap.size, 0, none⟩ = some (.int .i64 kr8) ∧ Y.cell? ⟨w8.heap.size, 1, none⟩ = some (.slice ar8 nr8 qr8)) from fun X Y h s => ⟨bcell h s.1, bcell h s.2.1, bcell h s.2.2.1, bcell h s.2.2.2.1, bcell h s.2.2.2.2.1, bcell h s.2.2.2.2.2.1, bcell h s.2.2.2.2.2.2.1, bcell h s.2.2.2.2.2.2.2.1, bcell h s.2.2.2.2.2.2.2.2.1, bcell h s.2.2.2.2.2.2.2.2.2⟩)
                  go_region_held3 (fun w' => w'.cell? ⟨w1.heap.size, 0, none⟩ = some (.int .i64 kv1) ∧ w'.cell? ⟨w1.heap.size, 1, none⟩ = some (.slice av1 nv1 qv1) ∧ w'.cell? ⟨w1.heap.size + 1, 0, none⟩ = some (.int .i64 kx1) ∧ w'.cell? ⟨w1.heap.size + 1, 1, none⟩ = some (.slice ax1 nx1 qx1) ∧ w'.cell? ⟨w2.heap.size, 0, none⟩ = some (.int .i64 kr2) ∧ w'.cell? ⟨w2.heap.size, 1, none⟩ = some (.slice ar2 nr2 qr2) ∧ w'.cell? ⟨w6.heap.size, 0, none⟩ = some (.int .i64 kr6) ∧ w'.cell? ⟨w6.heap.size, 1, none⟩ = some (.slice ar6 nr6 qr6) ∧ w'.cell? ⟨w8.heap.size, 0, none⟩ = some (.int .i64 kr8) ∧ w'.cell? ⟨w8.heap.size, 1, none⟩ = some (.slice ar8 nr8 qr8))
                    (repeat (first | with_reducible refine hSb.out _ _ hb28 ?_ | with_reducible refine hSb.out _ _ hb27 ?_ | with_reducible refine hSb.out _ _ hb26 ?_ | with_reducible exact hS0.out))
                    (first | (go_at_call 53; ((with_reducible refine (implPreciseB _ _ t1 u1 _ _ _ (hv1.below bal1.drew).all (hx1.below bal1.drew).all).mono ?_); rintro e w26 ⟨rfl, hb26⟩; rw [Hq4.out])) | (go_at_call 37; ((with_reducible refine (implTypeSame _ _ (meetT t1 u1) t1 _ _ _ (hv2.below (bstep bal1.drew hb26)).rep.all (hv1.below (bstep bal1.drew hb26)).all).mono ?_); rintro e w27 ⟨rfl, hb27⟩; rw [Hq11.out])) | (go_at_call 37; ((with_reducible refine (implTypeSame _ _ (meetT (meetT t1 u1) u5) (meetT t1 (meetT u1 u5)) _ _ _ (hv6.below (bstep (bstep bal1.drew hb26) hb27)).rep.all (hv8.below (bstep (bstep bal1.drew hb26) hb27)).rep.all).mono ?_); rintro e w28 ⟨rfl, hb28⟩)))
                  clear s0_ s1_ s2_ s3_ s4_ s5_ s6_ s7_ s8_ s9_
                  replace hB := (bstep (bstep (bstep (hB.alloc hB.size _).drew hb26) hb27) hb28)
                  have zw28 := hB.size
                  go_wp2_with fail
                  have hE := leaf_FnMeetLaws_6 Hq3.out Hq4.out Hq11.out Hq12.out Hq13.out Hq14.out
                  refine bodyPost_ret (v := .bool (Ty.same (meetT (meetT t1 u1) u5) (meetT t1 (meetT u1 u5)))) (by simp [results, Try.results29, go_sem]) rfl ?_
                  exact ⟨by rw [hE], hB⟩
                · (try rw [q14])
                  have Hq14 := Lib.hid q14
                  clear q14
                  go_wp2_with fail
                  have s0_ : (World.alloc w8 (Obj.cells #[.int .i64 kr8, .slice ar8 nr8 qr8] 29)).cell? ⟨w1.heap.size, 0, none⟩ = some (.int .i64 kv1) := bcell bal1 (c0_0)
                  have s1_ : (World.alloc w8 (Obj.cells #[.int .i64 kr8, .slice ar8 nr8 qr8] 29)).cell? ⟨w1.heap.size, 1, none⟩ = some (.slice av1 nv1 qv1) := bcell bal1 (c0_1)
                  have s2_ : (World.alloc w8 (Obj.cells #[.int .i64 kr8, .slice ar8 nr8 qr8] 29)).cell? ⟨w1.heap.size + 1, 0, none⟩ = some (.int .i64 kx1) := bcell bal1 (c1_0)
                  have s3_ : (World.alloc w8 (Obj.cells #[.int .i64 kr8, .slice ar8 nr8 qr8] 29)).cell? ⟨w1.heap.size + 1, 1, none⟩ = some (.slice ax1 nx1 qx1) := bcell bal1 (c1_1)
                  have s4_ : (World.alloc w8 (Obj.cells #[.int .i64 kr8, .slice ar8 nr8 qr8] 29)).cell? ⟨w2.heap.size, 0, none⟩ = some (.int .i64 kr2) := bcell bal1 (c2_0)
                  have s5_ : (World.alloc w8 (Obj.cells #[.int .i64 kr8, .slice ar8 nr8 qr8] 29)).cell? ⟨w2.heap.size, 1, none⟩ = some (.slice ar2 nr2 qr2) := bcell bal1 (c2_1)
                  refine wp_region_noPanic ?_
                  refine wp_region_held_drew (S := fun w' => w'.cell? ⟨w1.heap.size, 0, none⟩ = some (.int .i64 kv1) ∧ w'.cell? ⟨w1.heap.size, 1, none⟩ = some (.slice av1 nv1 qv1) ∧ w'.cell? ⟨w1.heap.size + 1, 0, none⟩ = some (.int .i64 kx1) ∧ w'.cell? ⟨w1.heap.size + 1, 1, none⟩ = some (.slice ax1 nx1 qx1) ∧ w'.cell? ⟨w2.heap.size, 0, none⟩ = some (.int .i64 kr2) ∧ w'.cell? ⟨w2.heap.size, 1, none⟩ = some (.slice ar2 nr2 qr2)) (by kernel_rfl) ?_ (fun hHeld0 => ?_)
                  · exact ⟨dcell (s0_), dcell (s1_), dcell (s2_), dcell (s3_), dcell (s4_), dcell (s5_)⟩
                  refine wpAnyH_take (i := 0) (oi := { dst := some 90, op := Op.load 29 (Operand.tmp 5), type := 29, pos := "laws.go:111", after := #[], guard := none }) (v := .agg #[.int .i64 kv1, .slice av1 nv1 qv1]) rfl (by kernel_rfl) (by kernel_rfl) (by kernel_rfl) (fun _ _ _ h => h) (Or.inl ⟨by rfl, ?_⟩) hHeld0 ?_
                  · intro w' hSw; (try dsimp only at hSw); go_simp
                  (try simp only [Act.put, List.setIfInBounds_toArray, List.set_cons_zero, List.set_cons_succ])
                  refine wpAnyH_take (i := 1) (oi := { dst := some 91, op := Op.load 29 (Operand.tmp 6), type := 29, pos := "laws.go:111", after := #[], guard := none }) (v := .agg #[.int .i64 kx1, .slice ax1 nx1 qx1]) rfl (by kernel_rfl) (by kernel_rfl) (by kernel_rfl) (fun _ _ _ h => h) (Or.inl ⟨by rfl, ?_⟩) hHeld0 ?_
                  · intro w' hSw; (try dsimp only at hSw); go_simp
                  (try simp only [Act.put, List.setIfInBounds_toArray, List.set_cons_zero, List.set_cons_succ])
                  refine wpAnyH_take (i := 3) (oi := { dst := some 93, op := Op.load 29 (Operand.tmp 7), type := 29, pos := "laws.go:111", after := #[], guard := none }) (v := .agg #[.int .i64 kr2, .slice ar2 nr2 qr2]) rfl (by kernel_rfl) (by kernel_rfl) (by kernel_rfl) (fun _ _ _ h => h) (Or.inl ⟨by rfl, ?_⟩) hHeld0 ?_
                  · intro w' hSw; (try dsimp only at hSw); go_simp
                  (try simp only [Act.put, List.setIfInBounds_toArray, List.set_cons_zero, List.set_cons_succ])
                  refine wpAnyH_take (i := 4) (oi := { dst := some 94, op := Op.load 29 (Operand.tmp 5), type := 29, pos := "laws.go:111", after := #[], guard := none }) (v := .agg #[.int .i64 kv1, .slice av1 nv1 qv1]) rfl (by kernel_rfl) (by kernel_rfl) (by kernel_rfl) (fun _ _ _ h => h) (Or.inl ⟨by rfl, ?_⟩) hHeld0 ?_
                  · intro w' hSw; (try dsimp only at hSw); go_simp
                  (try simp only [Act.put, List.setIfInBounds_toArray, List.set_cons_zero, List.set_cons_succ])
                  refine wpAnyH_ready (rs := [2]) (by kernel_rfl) (by simp) ?_
                  refine AllReadyH.cons (o := { dst := some 92, op := Op.call { callee := Callee.value (Operand.func 53), args := #[Operand.tmp 90, Operand.tmp 91], argTypes := #[29, 29] }, type := 4, pos := "laws.go:111", after := #[{ on := 0, ground := Ground.data }, { on := 1, ground := Ground.data }], guard := none }) rfl (fun K hK => ?_) AllReadyH.nil
                  go_simp
                  go_at_call 53
                  (with_reducible refine (implPreciseB _ _ t1 u1 _ _ _ (hv1.below bal1.drew).all (hx1.below bal1.drew).all).mono ?_)
                  rintro e w29 ⟨rfl, hb29⟩
                  rw [Hq4.out]
                  go_wp2_with fail
                  refine hK.out _ _ ?_ (fun hHeld1 => ?_)
                  · exact ⟨bcell hb29 (dcell (s0_)), bcell hb29 (dcell (s1_)), bcell hb29 (dcell (s2_)), bcell hb29 (dcell (s3_)), bcell hb29 (dcell (s4_)), bcell hb29 (dcell (s5_))⟩
                  clear hK K hHeld0
                  (try simp only [Act.put, List.setIfInBounds_toArray, List.set_cons_zero, List.set_cons_succ])
                  refine wpAnyH_ready (rs := [5]) (by kernel_rfl) (by simp) ?_
                  refine AllReadyH.cons (o := { dst := some 95, op := Op.call { callee := Callee.value (Operand.func 37), args := #[Operand.tmp 93, Operand.tmp 94], argTypes := #[29, 29] }, type := 4, pos := "laws.go:111", after := #[{ on := 3, ground := Ground.data }, { on := 4, ground := Ground.data }, { on := 2, ground := Ground.chain }], guard := none }) rfl (fun K hK => ?_) AllReadyH.nil
                  go_simp
                  go_at_call 37
                  (with_reducible refine (implTypeSame _ _ (meetT t1 u1) t1 _ _ _ (hv2.below (bstep bal1.drew hb29)).rep.all (hv1.below (bstep bal1.drew hb29)).all).mono ?_)
                  rintro e w30 ⟨rfl, hb30⟩
                  rw [Hq11.out]
                  go_wp2_with fail
                  refine hK.out _ _ ?_ (fun hHeld2 => ?_)
                  · exact ⟨bcell hb30 (bcell hb29 (dcell (s0_))), bcell hb30 (bcell hb29 (dcell (s1_))), bcell hb30 (bcell hb29 (dcell (s2_))), bcell hb30 (bcell hb29 (dcell (s3_))), bcell hb30 (bcell hb29 (dcell (s4_))), bcell hb30 (bcell hb29 (dcell (s5_)))⟩
                  clear hK K hHeld1
                  (try simp only [Act.put, List.setIfInBounds_toArray, List.set_cons_zero, List.set_cons_succ])
                  refine wpAnyH_take (i := 6) (oi := { dst := some 96, op := Op.binOp BinOp.eql 4 (Operand.tmp 92) (Operand.tmp 95) 4, type := 4, pos := "laws.go:111", after := #[{ on := 2, ground := Ground.data }, { on := 5, ground := Ground.data }], guard := none }) (v := .bool true) rfl (by kernel_rfl) (by kernel_rfl) (by kernel_rfl) (fun _ _ _ h => h) (Or.inl ⟨by rfl, ?_⟩) hHeld2 ?_
                  · intro w' hSw; (try dsimp only at hSw); go_simp
                  (try simp only [Act.put, List.setIfInBounds_toArray, List.set_cons_zero, List.set_cons_succ])
                  refine wpAnyH_take (i := 7) (oi := { dst := some 97, op := Op.move (Operand.tmp 96), type := 4, pos := "laws.go:111", after := #[{ on := 6, ground := Ground.data }, { on := 5, ground := Ground.chain }], guard := none }) (v := .bool true) rfl (by kernel_rfl) (by kernel_rfl) (by kernel_rfl) (fun _ _ _ h => h) (Or.inl ⟨by rfl, ?_⟩) hHeld2 ?_
                  · intro w' hSw; (try dsimp only at hSw); go_simp
                  (try simp only [Act.put, List.setIfInBounds_toArray, List.set_cons_zero, List.set_cons_succ])
                  refine wpAnyH_take (i := 8) (oi := { dst := some 98, op := Op.move (Operand.tmp 15), type := 4, pos := "laws.go:111", after := #[{ on := 7, ground := Ground.guard }], guard := some (7, true) }) (v := .bool true) rfl (by kernel_rfl) (by kernel_rfl) (by kernel_rfl) (fun _ _ _ h => h) (Or.inl ⟨by rfl, ?_⟩) hHeld2 ?_
                  · intro w' hSw; (try dsimp only at hSw); go_simp
                  (try simp only [Act.put, List.setIfInBounds_toArray, List.set_cons_zero, List.set_cons_succ])
                  refine wpAnyH_take (i := 9) (oi := { dst := some 99, op := Op.move (Operand.tmp 17), type := 4, pos := "laws.go:111", after := #[{ on := 7, ground := Ground.guard }], guard := some (7, true) }) (v := .bool true) rfl (by kernel_rfl) (by kernel_rfl) (by kernel_rfl) (fun _ _ _ h => h) (Or.inl ⟨by rfl, ?_⟩) hHeld2 ?_
                  · intro w' hSw; (try dsimp only at hSw); go_simp
                  (try simp only [Act.put, List.setIfInBounds_toArray, List.set_cons_zero, List.set_cons_succ])
                  refine wpAnyH_take (i := 10) (oi := { dst := some 100, op := Op.move (Operand.tmp 99), type := 4, pos := "laws.go:111", after := #[{ on := 9, ground := Ground.data }, { on := 7, ground := Ground.chain }, { on := 7, ground := Ground.guard }], guard := some (7, true) }) (v := .bool true) rfl (by kernel_rfl) (by kernel_rfl) (by kernel_rfl) (fun _ _ _ h => h) (Or.inl ⟨by rfl, ?_⟩) hHeld2 ?_
                  · intro w' hSw; (try dsimp only at hSw); go_simp
                  (try simp only [Act.put, List.setIfInBounds_toArray, List.set_cons_zero, List.set_cons_succ])
                  refine wpAnyH_take (i := 11) (oi := { dst := some 101, op := Op.move (Operand.tmp 19), type := 4, pos := "laws.go:111", after := #[{ on := 10, ground := Ground.guard }], guard := some (10, true) }) (v := .bool false) rfl (by kernel_rfl) (by kernel_rfl) (by kernel_rfl) (fun _ _ _ h => h) (Or.inl ⟨by rfl, ?_⟩) hHeld2 ?_
                  · intro w' hSw; (try dsimp only at hSw); go_simp
                  (try simp only [Act.put, List.setIfInBounds_toArray, List.set_cons_zero, List.set_cons_succ])
                  refine wpAnyH_take (i := 12) (oi := { dst := some 102, op := Op.pick (Operand.tmp 100) (Operand.tmp 101) (Operand.const (Value.bool false)), type := 4, pos := "laws.go:111", after := #[{ on := 10, ground := Ground.data }, { on := 11, ground := Ground.data }, { on := 7, ground := Ground.guard }], guard := some (7, true) }) (v := .bool false) rfl (by kernel_rfl) (by kernel_rfl) (by kernel_rfl) (fun _ _ _ h => h) (Or.inl ⟨by rfl, ?_⟩) hHeld2 ?_
                  · intro w' hSw; (try dsimp only at hSw); go_simp
                  (try simp only [Act.put, List.setIfInBounds_toArray, List.set_cons_zero, List.set_cons_succ])
                  refine wpAnyH_take (i := 13) (oi := { dst := some 103, op := Op.binOp BinOp.eql 4 (Operand.tmp 98) (Operand.tmp 102) 4, type := 4, pos := "laws.go:111", after := #[{ on := 8, ground := Ground.data }, { on := 12, ground := Ground.data }, { on := 7, ground := Ground.guard }], guard := some (7, true) }) (v := .bool false) rfl (by kernel_rfl) (by kernel_rfl) (by kernel_rfl) (fun _ _ _ h => h) (Or.inl ⟨by rfl, ?_⟩) hHeld2 ?_
                  · intro w' hSw; (try dsimp only at hSw); go_simp
                  (try simp only [Act.put, List.setIfInBounds_toArray, List.set_cons_zero, List.set_cons_succ])
                  refine wpAnyH_take (i := 14) (oi := { dst := some 104, op := Op.pick (Operand.tmp 97) (Operand.tmp 103) (Operand.const (Value.bool false)), type := 4, pos := "laws.go:111", after := #[{ on := 7, ground := Ground.data }, { on := 13, ground := Ground.data }], guard := none }) (v := .bool false) rfl (by kernel_rfl) (by kernel_rfl) (by kernel_rfl) (fun _ _ _ h => h) (Or.inl ⟨by rfl, ?_⟩) hHeld2 ?_
                  · intro w' hSw; (try dsimp only at hSw); go_simp
                  (try simp only [Act.put, List.setIfInBounds_toArray, List.set_cons_zero, List.set_cons_succ])
                  refine wpAnyH_take (i := 15) (oi := { dst := some 105, op := Op.move (Operand.tmp 104), type := 4, pos := "laws.go:111", after := #[{ on := 14, ground := Ground.data }, { on := 10, ground := Ground.chain }], guard := none }) (v := .bool false) rfl (by kernel_rfl) (by kernel_rfl) (by kernel_rfl) (fun _ _ _ h => h) (Or.inl ⟨by rfl, ?_⟩) hHeld2 ?_
                  · intro w' hSw; (try dsimp only at hSw); go_simp
                  (try simp only [Act.put, List.setIfInBounds_toArray, List.set_cons_zero, List.set_cons_succ])
                  refine wpAnyH_take (i := 16) (oi := { dst := some 106, op := Op.move (Operand.tmp 15), type := 4, pos := "laws.go:111", after := #[{ on := 15, ground := Ground.guard }], guard := some (15, true) }) (v := undef) rfl (by kernel_rfl) (by kernel_rfl) (by kernel_rfl) (fun _ _ _ h => h) (Or.inr ⟨by rfl, rfl⟩) hHeld2 ?_
                  (try simp only [Act.put, List.setIfInBounds_toArray, List.set_cons_zero, List.set_cons_succ])
                  refine wpAnyH_take (i := 17) (oi := { dst := some 107, op := Op.unOp UnOp.not 4 (Operand.tmp 106), type := 4, pos := "laws.go:111", after := #[{ on := 16, ground := Ground.data }, { on := 15, ground := Ground.guard }], guard := some (15, true) }) (v := undef) rfl (by kernel_rfl) (by kernel_rfl) (by kernel_rfl) (fun _ _ _ h => h) (Or.inr ⟨by rfl, rfl⟩) hHeld2 ?_
                  (try simp only [Act.put, List.setIfInBounds_toArray, List.set_cons_zero, List.set_cons_succ])
                  refine wpAnyH_take (i := 18) (oi := { dst := some 108, op := Op.move (Operand.tmp 107), type := 4, pos := "laws.go:111", after := #[{ on := 17, ground := Ground.data }, { on := 15, ground := Ground.chain }, { on := 15, ground := Ground.guard }], guard := some (15, true) }) (v := undef) rfl (by kernel_rfl) (by kernel_rfl) (by kernel_rfl) (fun _ _ _ h => h) (Or.inr ⟨by rfl, rfl⟩) hHeld2 ?_
                  (try simp only [Act.put, List.setIfInBounds_toArray, List.set_cons_zero, List.set_cons_succ])
                  refine wpAnyH_take (i := 19) (oi := { dst := some 109, op := Op.load 29 (Operand.tmp 14), type := 29, pos := "laws.go:111", after := #[{ on := 18, ground := Ground.guard }], guard := some (18, false) }) (v := undef) rfl (by kernel_rfl) (by kernel_rfl) (by kernel_rfl) (fun _ _ _ h => h) (Or.inr ⟨by rfl, rfl⟩) hHeld2 ?_
                  (try simp only [Act.put, List.setIfInBounds_toArray, List.set_cons_zero, List.set_cons_succ])
                  refine wpAnyH_take (i := 20) (oi := { dst := some 110, op := Op.load 29 (Operand.tmp 18), type := 29, pos := "laws.go:111", after := #[{ on := 18, ground := Ground.guard }], guard := some (18, false) }) (v := undef) rfl (by kernel_rfl) (by kernel_rfl) (by kernel_rfl) (fun _ _ _ h => h) (Or.inr ⟨by rfl, rfl⟩) hHeld2 ?_
                  (try simp only [Act.put, List.setIfInBounds_toArray, List.set_cons_zero, List.set_cons_succ])
                  refine wpAnyH_take (i := 21) (oi := { dst := some 111, op := Op.call { callee := Callee.value (Operand.func 37), args := #[Operand.tmp 109, Operand.tmp 110], argTypes := #[29, 29] }, type := 4, pos := "laws.go:111", after := #[{ on := 19, ground := Ground.data }, { on := 20, ground := Ground.data }, { on := 18, ground := Ground.chain }, { on := 18, ground := Ground.guard }], guard := some (18, false) }) (v := undef) rfl (by kernel_rfl) (by kernel_rfl) (by kernel_rfl) (fun _ _ _ h => h) (Or.inr ⟨by rfl, rfl⟩) hHeld2 ?_
                  (try simp only [Act.put, List.setIfInBounds_toArray, List.set_cons_zero, List.set_cons_succ])
                  refine wpAnyH_take (i := 22) (oi := { dst := some 112, op := Op.pick (Operand.tmp 108) (Operand.const (Value.bool true)) (Operand.tmp 111), type := 4, pos := "laws.go:111", after := #[{ on := 18, ground := Ground.data }, { on := 21, ground := Ground.data }, { on := 15, ground := Ground.guard }], guard := some (15, true) }) (v := undef) rfl (by kernel_rfl) (by kernel_rfl) (by kernel_rfl) (fun _ _ _ h => h) (Or.inr ⟨by rfl, rfl⟩) hHeld2 ?_
                  (try simp only [Act.put, List.setIfInBounds_toArray, List.set_cons_zero, List.set_cons_succ])
                  refine wpAnyH_take (i := 23) (oi := { dst := some 113, op := Op.pick (Operand.tmp 105) (Operand.tmp 112) (Operand.const (Value.bool false)), type := 4, pos := "laws.go:111", after := #[{ on := 15, ground := Ground.data }, { on := 22, ground := Ground.data }], guard := none }) (v := .bool false) rfl (by kernel_rfl) (by kernel_rfl) (by kernel_rfl) (fun _ _ _ h => h) (Or.inl ⟨by rfl, ?_⟩) hHeld2 ?_
                  · intro w' hSw; (try dsimp only at hSw); go_simp
                  (try simp only [Act.put, List.setIfInBounds_toArray, List.set_cons_zero, List.set_cons_succ])
                  refine wpAnyH_take (i := 24) (oi := { dst := some 4, op := Op.assign (Operand.tmp 113), type := 4, pos := "laws.go:111", after := #[{ on := 23, ground := Ground.data }, { on := 21, ground := Ground.chain }, { on := 0, ground := Ground.phase }, { on := 1, ground := Ground.phase }, { on := 2, ground := Ground.phase }, { on := 3, ground := Ground.phase }, { on := 4, ground := Ground.phase }, { on := 5, ground := Ground.phase }, { on := 6, ground := Ground.phase }, { on := 7, ground := Ground.phase }, { on := 8, ground := Ground.phase }, { on := 9, ground := Ground.phase }, { on := 10, ground := Ground.phase }, { on := 11, ground := Ground.phase }, { on := 12, ground := Ground.phase }, { on := 13, ground := Ground.phase }, { on := 14, ground := Ground.phase }, { on := 15, ground := Ground.phase }, { on := 16, ground := Ground.phase }, { on := 17, ground := Ground.phase }, { on := 18, ground := Ground.phase }, { on := 19, ground := Ground.phase }, { on := 20, ground := Ground.phase }, { on := 21, ground := Ground.phase }, { on := 22, ground := Ground.phase }, { on := 23, ground := Ground.phase }], guard := none }) (v := .bool false) rfl (by kernel_rfl) (by kernel_rfl) (by kernel_rfl) (fun _ _ _ h => h) (Or.inl ⟨by rfl, ?_⟩) hHeld2 ?_
                  · intro w' hSw; (try dsimp only at hSw); go_simp
                  (try simp only [Act.put, List.setIfInBounds_toArray, List.set_cons_zero, List.set_cons_succ])
                  refine wpAnyH_done (by kernel_rfl) ?_ _
                  refine NoPanic.normal ?_
                  clear hHeld2 s0_ s1_ s2_ s3_ s4_ s5_
                  replace hB := (bstep (bstep (hB.alloc hB.size _).drew hb29) hb30)
                  have zw30 := hB.size
                  go_wp2_with fail
                  exact (leaf_FnMeetLaws_7 Hq3.out Hq4.out Hq11.out Hq12.out Hq13.out Hq14.out).elim
              · (try rw [q13])
                have Hq13 := Lib.hid q13
                clear q13
                rcases Bool.eq_false_or_eq_true (consB t1 (meetT u1 u5)) with q15 | q15
                · (try rw [q15])
                  have Hq15 := Lib.hid q15
                  clear q15
                  go_wp2_with fail
                  have s0_ : (World.alloc w8 (Obj.cells #[.int .i64 kr8, .slice ar8 nr8 qr8] 29)).cell? ⟨w1.heap.size, 0, none⟩ = some (.int .i64 kv1) := bcell bal1 (c0_0)
                  have s1_ : (World.alloc w8 (Obj.cells #[.int .i64 kr8, .slice ar8 nr8 qr8] 29)).cell? ⟨w1.heap.size, 1, none⟩ = some (.slice av1 nv1 qv1) := bcell bal1 (c0_1)
                  have s2_ : (World.alloc w8 (Obj.cells #[.int .i64 kr8, .slice ar8 nr8 qr8] 29)).cell? ⟨w1.heap.size + 1, 0, none⟩ = some (.int .i64 kx1) := bcell bal1 (c1_0)
                  have s3_ : (World.alloc w8 (Obj.cells #[.int .i64 kr8, .slice ar8 nr8 qr8] 29)).cell? ⟨w1.heap.size + 1, 1, none⟩ = some (.slice ax1 nx1 qx1) := bcell bal1 (c1_1)
                  have s4_ : (World.alloc w8 (Obj.cells #[.int .i64 kr8, .slice ar8 nr8 qr8] 29)).cell? ⟨w2.heap.size, 0, none⟩ = some (.int .i64 kr2) := bcell bal1 (c2_0)
                  have s5_ : (World.alloc w8 (Obj.cells #[.int .i64 kr8, .slice ar8 nr8 qr8] 29)).cell? ⟨w2.heap.size, 1, none⟩ = some (.slice ar2 nr2 qr2) := bcell bal1 (c2_1)
                  refine wp_region_noPanic ?_
                  refine wp_region_held_drew (S := fun w' => w'.cell? ⟨w1.heap.size, 0, none⟩ = some (.int .i64 kv1) ∧ w'.cell? ⟨w1.heap.size, 1, none⟩ = some (.slice av1 nv1 qv1) ∧ w'.cell? ⟨w1.heap.size + 1, 0, none⟩ = some (.int .i64 kx1) ∧ w'.cell? ⟨w1.heap.size + 1, 1, none⟩ = some (.slice ax1 nx1 qx1) ∧ w'.cell? ⟨w2.heap.size, 0, none⟩ = some (.int .i64 kr2) ∧ w'.cell? ⟨w2.heap.size, 1, none⟩ = some (.slice ar2 nr2 qr2)) (by kernel_rfl) ?_ (fun hHeld0 => ?_)
                  · exact ⟨dcell (s0_), dcell (s1_), dcell (s2_), dcell (s3_), dcell (s4_), dcell (s5_)⟩
                  refine wpAnyH_take (i := 0) (oi := { dst := some 90, op := Op.load 29 (Operand.tmp 5), type := 29, pos := "laws.go:111", after := #[], guard := none }) (v := .agg #[.int .i64 kv1, .slice av1 nv1 qv1]) rfl (by kernel_rfl) (by kernel_rfl) (by kernel_rfl) (fun _ _ _ h => h) (Or.inl ⟨by rfl, ?_⟩) hHeld0 ?_
                  · intro w' hSw; (try dsimp only at hSw); go_simp
                  (try simp only [Act.put, List.setIfInBounds_toArray, List.set_cons_zero, List.set_cons_succ])
                  refine wpAnyH_take (i := 1) (oi := { dst := some 91, op := Op.load 29 (Operand.tmp 6), type := 29, pos := "laws.go:111", after := #[], guard := none }) (v := .agg #[.int .i64 kx1, .slice ax1 nx1 qx1]) rfl (by kernel_rfl) (by kernel_rfl) (by kernel_rfl) (fun _ _ _ h => h) (Or.inl ⟨by rfl, ?_⟩) hHeld0 ?_
                  · intro w' hSw; (try dsimp only at hSw); go_simp
                  (try simp only [Act.put, List.setIfInBounds_toArray, List.set_cons_zero, List.set_cons_succ])
                  refine wpAnyH_take (i := 3) (oi := { dst := some 93, op := Op.load 29 (Operand.tmp 7), type := 29, pos := "laws.go:111", after := #[], guard := none }) (v := .agg #[.int .i64 kr2, .slice ar2 nr2 qr2]) rfl (by kernel_rfl) (by kernel_rfl) (by kernel_rfl) (fun _ _ _ h => h) (Or.inl ⟨by rfl, ?_⟩) hHeld0 ?_
                  · intro w' hSw; (try dsimp only at hSw); go_simp
                  (try simp only [Act.put, List.setIfInBounds_toArray, List.set_cons_zero, List.set_cons_succ])
                  refine wpAnyH_take (i := 4) (oi := { dst := some 94, op := Op.load 29 (Operand.tmp 5), type := 29, pos := "laws.go:111", after := #[], guard := none }) (v := .agg #[.int .i64 kv1, .slice av1 nv1 qv1]) rfl (by kernel_rfl) (by kernel_rfl) (by kernel_rfl) (fun _ _ _ h => h) (Or.inl ⟨by rfl, ?_⟩) hHeld0 ?_
                  · intro w' hSw; (try dsimp only at hSw); go_simp
                  (try simp only [Act.put, List.setIfInBounds_toArray, List.set_cons_zero, List.set_cons_succ])
                  refine wpAnyH_ready (rs := [2]) (by kernel_rfl) (by simp) ?_
                  refine AllReadyH.cons (o := { dst := some 92, op := Op.call { callee := Callee.value (Operand.func 53), args := #[Operand.tmp 90, Operand.tmp 91], argTypes := #[29, 29] }, type := 4, pos := "laws.go:111", after := #[{ on := 0, ground := Ground.data }, { on := 1, ground := Ground.data }], guard := none }) rfl (fun K hK => ?_) AllReadyH.nil
                  go_simp
                  go_at_call 53
                  (with_reducible refine (implPreciseB _ _ t1 u1 _ _ _ (hv1.below bal1.drew).all (hx1.below bal1.drew).all).mono ?_)
                  rintro e w31 ⟨rfl, hb31⟩
                  rw [Hq4.out]
                  go_wp2_with fail
                  refine hK.out _ _ ?_ (fun hHeld1 => ?_)
                  · exact ⟨bcell hb31 (dcell (s0_)), bcell hb31 (dcell (s1_)), bcell hb31 (dcell (s2_)), bcell hb31 (dcell (s3_)), bcell hb31 (dcell (s4_)), bcell hb31 (dcell (s5_))⟩
                  clear hK K hHeld0
                  (try simp only [Act.put, List.setIfInBounds_toArray, List.set_cons_zero, List.set_cons_succ])
                  refine wpAnyH_ready (rs := [5]) (by kernel_rfl) (by simp) ?_
                  refine AllReadyH.cons (o := { dst := some 95, op := Op.call { callee := Callee.value (Operand.func 37), args := #[Operand.tmp 93, Operand.tmp 94], argTypes := #[29, 29] }, type := 4, pos := "laws.go:111", after := #[{ on := 3, ground := Ground.data }, { on := 4, ground := Ground.data }, { on := 2, ground := Ground.chain }], guard := none }) rfl (fun K hK => ?_) AllReadyH.nil
                  go_simp
                  go_at_call 37
                  (with_reducible refine (implTypeSame _ _ (meetT t1 u1) t1 _ _ _ (hv2.below (bstep bal1.drew hb31)).rep.all (hv1.below (bstep bal1.drew hb31)).all).mono ?_)
                  rintro e w32 ⟨rfl, hb32⟩
                  rw [Hq11.out]
                  go_wp2_with fail
                  refine hK.out _ _ ?_ (fun hHeld2 => ?_)
                  · exact ⟨bcell hb32 (bcell hb31 (dcell (s0_))), bcell hb32 (bcell hb31 (dcell (s1_))), bcell hb32 (bcell hb31 (dcell (s2_))), bcell hb32 (bcell hb31 (dcell (s3_))), bcell hb32 (bcell hb31 (dcell (s4_))), bcell hb32 (bcell hb31 (dcell (s5_)))⟩
                  clear hK K hHeld1
                  (try simp only [Act.put, List.setIfInBounds_toArray, List.set_cons_zero, List.set_cons_succ])
                  refine wpAnyH_take (i := 6) (oi := { dst := some 96, op := Op.binOp BinOp.eql 4 (Operand.tmp 92) (Operand.tmp 95) 4, type := 4, pos := "laws.go:111", after := #[{ on := 2, ground := Ground.data }, { on := 5, ground := Ground.data }], guard := none }) (v := .bool true) rfl (by kernel_rfl) (by kernel_rfl) (by kernel_rfl) (fun _ _ _ h => h) (Or.inl ⟨by rfl, ?_⟩) hHeld2 ?_
                  · intro w' hSw; (try dsimp only at hSw); go_simp
                  (try simp only [Act.put, List.setIfInBounds_toArray, List.set_cons_zero, List.set_cons_succ])
                  refine wpAnyH_take (i := 7) (oi := { dst := some 97, op := Op.move (Operand.tmp 96), type := 4, pos := "laws.go:111", after := #[{ on := 6, ground := Ground.data }, { on := 5, ground := Ground.chain }], guard := none }) (v := .bool true) rfl (by kernel_rfl) (by kernel_rfl) (by kernel_rfl) (fun _ _ _ h => h) (Or.inl ⟨by rfl, ?_⟩) hHeld2 ?_
                  · intro w' hSw; (try dsimp only at hSw); go_simp
                  (try simp only [Act.put, List.setIfInBounds_toArray, List.set_cons_zero, List.set_cons_succ])
                  refine wpAnyH_take (i := 8) (oi := { dst := some 98, op := Op.move (Operand.tmp 15), type := 4, pos := "laws.go:111", after := #[{ on := 7, ground := Ground.guard }], guard := some (7, true) }) (v := .bool false) rfl (by kernel_rfl) (by kernel_rfl) (by kernel_rfl) (fun _ _ _ h => h) (Or.inl ⟨by rfl, ?_⟩) hHeld2 ?_
                  · intro w' hSw; (try dsimp only at hSw); go_simp
                  (try simp only [Act.put, List.setIfInBounds_toArray, List.set_cons_zero, List.set_cons_succ])
                  refine wpAnyH_take (i := 9) (oi := { dst := some 99, op := Op.move (Operand.tmp 17), type := 4, pos := "laws.go:111", after := #[{ on := 7, ground := Ground.guard }], guard := some (7, true) }) (v := .bool true) rfl (by kernel_rfl) (by kernel_rfl) (by kernel_rfl) (fun _ _ _ h => h) (Or.inl ⟨by rfl, ?_⟩) hHeld2 ?_
                  · intro w' hSw; (try dsimp only at hSw); go_simp
                  (try simp only [Act.put, List.setIfInBounds_toArray, List.set_cons_zero, List.set_cons_succ])
                  refine wpAnyH_take (i := 10) (oi := { dst := some 100, op := Op.move (Operand.tmp 99), type := 4, pos := "laws.go:111", after := #[{ on := 9, ground := Ground.data }, { on := 7, ground := Ground.chain }, { on := 7, ground := Ground.guard }], guard := some (7, true) }) (v := .bool true) rfl (by kernel_rfl) (by kernel_rfl) (by kernel_rfl) (fun _ _ _ h => h) (Or.inl ⟨by rfl, ?_⟩) hHeld2 ?_
                  · intro w' hSw; (try dsimp only at hSw); go_simp
                  (try simp only [Act.put, List.setIfInBounds_toArray, List.set_cons_zero, List.set_cons_succ])
                  refine wpAnyH_take (i := 11) (oi := { dst := some 101, op := Op.move (Operand.tmp 19), type := 4, pos := "laws.go:111", after := #[{ on := 10, ground := Ground.guard }], guard := some (10, true) }) (v := .bool true) rfl (by kernel_rfl) (by kernel_rfl) (by kernel_rfl) (fun _ _ _ h => h) (Or.inl ⟨by rfl, ?_⟩) hHeld2 ?_
                  · intro w' hSw; (try dsimp only at hSw); go_simp
                  (try simp only [Act.put, List.setIfInBounds_toArray, List.set_cons_zero, List.set_cons_succ])
                  refine wpAnyH_take (i := 12) (oi := { dst := some 102, op := Op.pick (Operand.tmp 100) (Operand.tmp 101) (Operand.const (Value.bool false)), type := 4, pos := "laws.go:111", after := #[{ on := 10, ground := Ground.data }, { on := 11, ground := Ground.data }, { on := 7, ground := Ground.guard }], guard := some (7, true) }) (v := .bool true) rfl (by kernel_rfl) (by kernel_rfl) (by kernel_rfl) (fun _ _ _ h => h) (Or.inl ⟨by rfl, ?_⟩) hHeld2 ?_
                  · intro w' hSw; (try dsimp only at hSw); go_simp
                  (try simp only [Act.put, List.setIfInBounds_toArray, List.set_cons_zero, List.set_cons_succ])
                  refine wpAnyH_take (i := 13) (oi := { dst := some 103, op := Op.binOp BinOp.eql 4 (Operand.tmp 98) (Operand.tmp 102) 4, type := 4, pos := "laws.go:111", after := #[{ on := 8, ground := Ground.data }, { on := 12, ground := Ground.data }, { on := 7, ground := Ground.guard }], guard := some (7, true) }) (v := .bool false) rfl (by kernel_rfl) (by kernel_rfl) (by kernel_rfl) (fun _ _ _ h => h) (Or.inl ⟨by rfl, ?_⟩) hHeld2 ?_
                  · intro w' hSw; (try dsimp only at hSw); go_simp
                  (try simp only [Act.put, List.setIfInBounds_toArray, List.set_cons_zero, List.set_cons_succ])
                  refine wpAnyH_take (i := 14) (oi := { dst := some 104, op := Op.pick (Operand.tmp 97) (Operand.tmp 103) (Operand.const (Value.bool false)), type := 4, pos := "laws.go:111", after := #[{ on := 7, ground := Ground.data }, { on := 13, ground := Ground.data }], guard := none }) (v := .bool false) rfl (by kernel_rfl) (by kernel_rfl) (by kernel_rfl) (fun _ _ _ h => h) (Or.inl ⟨by rfl, ?_⟩) hHeld2 ?_
                  · intro w' hSw; (try dsimp only at hSw); go_simp
                  (try simp only [Act.put, List.setIfInBounds_toArray, List.set_cons_zero, List.set_cons_succ])
                  refine wpAnyH_take (i := 15) (oi := { dst := some 105, op := Op.move (Operand.tmp 104), type := 4, pos := "laws.go:111", after := #[{ on := 14, ground := Ground.data }, { on := 10, ground := Ground.chain }], guard := none }) (v := .bool false) rfl (by kernel_rfl) (by kernel_rfl) (by kernel_rfl) (fun _ _ _ h => h) (Or.inl ⟨by rfl, ?_⟩) hHeld2 ?_
                  · intro w' hSw; (try dsimp only at hSw); go_simp
                  (try simp only [Act.put, List.setIfInBounds_toArray, List.set_cons_zero, List.set_cons_succ])
                  refine wpAnyH_take (i := 16) (oi := { dst := some 106, op := Op.move (Operand.tmp 15), type := 4, pos := "laws.go:111", after := #[{ on := 15, ground := Ground.guard }], guard := some (15, true) }) (v := undef) rfl (by kernel_rfl) (by kernel_rfl) (by kernel_rfl) (fun _ _ _ h => h) (Or.inr ⟨by rfl, rfl⟩) hHeld2 ?_
                  (try simp only [Act.put, List.setIfInBounds_toArray, List.set_cons_zero, List.set_cons_succ])
                  refine wpAnyH_take (i := 17) (oi := { dst := some 107, op := Op.unOp UnOp.not 4 (Operand.tmp 106), type := 4, pos := "laws.go:111", after := #[{ on := 16, ground := Ground.data }, { on := 15, ground := Ground.guard }], guard := some (15, true) }) (v := undef) rfl (by kernel_rfl) (by kernel_rfl) (by kernel_rfl) (fun _ _ _ h => h) (Or.inr ⟨by rfl, rfl⟩) hHeld2 ?_
                  (try simp only [Act.put, List.setIfInBounds_toArray, List.set_cons_zero, List.set_cons_succ])
                  refine wpAnyH_take (i := 18) (oi := { dst := some 108, op := Op.move (Operand.tmp 107), type := 4, pos := "laws.go:111", after := #[{ on := 17, ground := Ground.data }, { on := 15, ground := Ground.chain }, { on := 15, ground := Ground.guard }], guard := some (15, true) }) (v := undef) rfl (by kernel_rfl) (by kernel_rfl) (by kernel_rfl) (fun _ _ _ h => h) (Or.inr ⟨by rfl, rfl⟩) hHeld2 ?_
                  (try simp only [Act.put, List.setIfInBounds_toArray, List.set_cons_zero, List.set_cons_succ])
                  refine wpAnyH_take (i := 19) (oi := { dst := some 109, op := Op.load 29 (Operand.tmp 14), type := 29, pos := "laws.go:111", after := #[{ on := 18, ground := Ground.guard }], guard := some (18, false) }) (v := undef) rfl (by kernel_rfl) (by kernel_rfl) (by kernel_rfl) (fun _ _ _ h => h) (Or.inr ⟨by rfl, rfl⟩) hHeld2 ?_
                  (try simp only [Act.put, List.setIfInBounds_toArray, List.set_cons_zero, List.set_cons_succ])
                  refine wpAnyH_take (i := 20) (oi := { dst := some 110, op := Op.load 29 (Operand.tmp 18), type := 29, pos := "laws.go:111", after := #[{ on := 18, ground := Ground.guard }], guard := some (18, false) }) (v := undef) rfl (by kernel_rfl) (by kernel_rfl) (by kernel_rfl) (fun _ _ _ h => h) (Or.inr ⟨by rfl, rfl⟩) hHeld2 ?_
                  (try simp only [Act.put, List.setIfInBounds_toArray, List.set_cons_zero, List.set_cons_succ])
                  refine wpAnyH_take (i := 21) (oi := { dst := some 111, op := Op.call { callee := Callee.value (Operand.func 37), args := #[Operand.tmp 109, Operand.tmp 110], argTypes := #[29, 29] }, type := 4, pos := "laws.go:111", after := #[{ on := 19, ground := Ground.data }, { on := 20, ground := Ground.data }, { on := 18, ground := Ground.chain }, { on := 18, ground := Ground.guard }], guard := some (18, false) }) (v := undef) rfl (by kernel_rfl) (by kernel_rfl) (by kernel_rfl) (fun _ _ _ h => h) (Or.inr ⟨by rfl, rfl⟩) hHeld2 ?_
                  (try simp only [Act.put, List.setIfInBounds_toArray, List.set_cons_zero, List.set_cons_succ])
                  refine wpAnyH_take (i := 22) (oi := { dst := some 112, op := Op.pick (Operand.tmp 108) (Operand.const (Value.bool true)) (Operand.tmp 111), type := 4, pos := "laws.go:111", after := #[{ on := 18, ground := Ground.data }, { on := 21, ground := Ground.data }, { on := 15, ground := Ground.guard }], guard := some (15, true) }) (v := undef) rfl (by kernel_rfl) (by kernel_rfl) (by kernel_rfl) (fun _ _ _ h => h) (Or.inr ⟨by rfl, rfl⟩) hHeld2 ?_
                  (try simp only [Act.put, List.setIfInBounds_toArray, List.set_cons_zero, List.set_cons_succ])
                  refine wpAnyH_take (i := 23) (oi := { dst := some 113, op := Op.pick (Operand.tmp 105) (Operand.tmp 112) (Operand.const (Value.bool false)), type := 4, pos := "laws.go:111", after := #[{ on := 15, ground := Ground.data }, { on := 22, ground := Ground.data }], guard := none }) (v := .bool false) rfl (by kernel_rfl) (by kernel_rfl) (by kernel_rfl) (fun _ _ _ h => h) (Or.inl ⟨by rfl, ?_⟩) hHeld2 ?_
                  · intro w' hSw; (try dsimp only at hSw); go_simp
                  (try simp only [Act.put, List.setIfInBounds_toArray, List.set_cons_zero, List.set_cons_succ])
                  refine wpAnyH_take (i := 24) (oi := { dst := some 4, op := Op.assign (Operand.tmp 113), type := 4, pos := "laws.go:111", after := #[{ on := 23, ground := Ground.data }, { on := 21, ground := Ground.chain }, { on := 0, ground := Ground.phase }, { on := 1, ground := Ground.phase }, { on := 2, ground := Ground.phase }, { on := 3, ground := Ground.phase }, { on := 4, ground := Ground.phase }, { on := 5, ground := Ground.phase }, { on := 6, ground := Ground.phase }, { on := 7, ground := Ground.phase }, { on := 8, ground := Ground.phase }, { on := 9, ground := Ground.phase }, { on := 10, ground := Ground.phase }, { on := 11, ground := Ground.phase }, { on := 12, ground := Ground.phase }, { on := 13, ground := Ground.phase }, { on := 14, ground := Ground.phase }, { on := 15, ground := Ground.phase }, { on := 16, ground := Ground.phase }, { on := 17, ground := Ground.phase }, { on := 18, ground := Ground.phase }, { on := 19, ground := Ground.phase }, { on := 20, ground := Ground.phase }, { on := 21, ground := Ground.phase }, { on := 22, ground := Ground.phase }, { on := 23, ground := Ground.phase }], guard := none }) (v := .bool false) rfl (by kernel_rfl) (by kernel_rfl) (by kernel_rfl) (fun _ _ _ h => h) (Or.inl ⟨by rfl, ?_⟩) hHeld2 ?_
                  · intro w' hSw; (try dsimp only at hSw); go_simp
                  (try simp only [Act.put, List.setIfInBounds_toArray, List.set_cons_zero, List.set_cons_succ])
                  refine wpAnyH_done (by kernel_rfl) ?_ _
                  refine NoPanic.normal ?_
                  clear hHeld2 s0_ s1_ s2_ s3_ s4_ s5_
                  replace hB := (bstep (bstep (hB.alloc hB.size _).drew hb31) hb32)
                  have zw32 := hB.size
                  go_wp2_with fail
                  exact (leaf_FnMeetLaws_8 Hq3.out Hq4.out Hq11.out Hq12.out Hq13.out Hq15.out).elim
                · (try rw [q15])
                  have Hq15 := Lib.hid q15
                  clear q15
                  go_wp2_with fail
                  have s0_ : (World.alloc w8 (Obj.cells #[.int .i64 kr8, .slice ar8 nr8 qr8] 29)).cell? ⟨w1.heap.size, 0, none⟩ = some (.int .i64 kv1) := bcell bal1 (c0_0)
                  have s1_ : (World.alloc w8 (Obj.cells #[.int .i64 kr8, .slice ar8 nr8 qr8] 29)).cell? ⟨w1.heap.size, 1, none⟩ = some (.slice av1 nv1 qv1) := bcell bal1 (c0_1)
                  have s2_ : (World.alloc w8 (Obj.cells #[.int .i64 kr8, .slice ar8 nr8 qr8] 29)).cell? ⟨w1.heap.size + 1, 0, none⟩ = some (.int .i64 kx1) := bcell bal1 (c1_0)
                  have s3_ : (World.alloc w8 (Obj.cells #[.int .i64 kr8, .slice ar8 nr8 qr8] 29)).cell? ⟨w1.heap.size + 1, 1, none⟩ = some (.slice ax1 nx1 qx1) := bcell bal1 (c1_1)
                  have s4_ : (World.alloc w8 (Obj.cells #[.int .i64 kr8, .slice ar8 nr8 qr8] 29)).cell? ⟨w2.heap.size, 0, none⟩ = some (.int .i64 kr2) := bcell bal1 (c2_0)
                  have s5_ : (World.alloc w8 (Obj.cells #[.int .i64 kr8, .slice ar8 nr8 qr8] 29)).cell? ⟨w2.heap.size, 1, none⟩ = some (.slice ar2 nr2 qr2) := bcell bal1 (c2_1)
                  refine wp_region_noPanic ?_
                  refine wp_region_held_drew (S := fun w' => w'.cell? ⟨w1.heap.size, 0, none⟩ = some (.int .i64 kv1) ∧ w'.cell? ⟨w1.heap.size, 1, none⟩ = some (.slice av1 nv1 qv1) ∧ w'.cell? ⟨w1.heap.size + 1, 0, none⟩ = some (.int .i64 kx1) ∧ w'.cell? ⟨w1.heap.size + 1, 1, none⟩ = some (.slice ax1 nx1 qx1) ∧ w'.cell? ⟨w2.heap.size, 0, none⟩ = some (.int .i64 kr2) ∧ w'.cell? ⟨w2.heap.size, 1, none⟩ = some (.slice ar2 nr2 qr2)) (by kernel_rfl) ?_ (fun hHeld0 => ?_)
                  · exact ⟨dcell (s0_), dcell (s1_), dcell (s2_), dcell (s3_), dcell (s4_), dcell (s5_)⟩
                  refine wpAnyH_take (i := 0) (oi := { dst := some 90, op := Op.load 29 (Operand.tmp 5), type := 29, pos := "laws.go:111", after := #[], guard := none }) (v := .agg #[.int .i64 kv1, .slice av1 nv1 qv1]) rfl (by kernel_rfl) (by kernel_rfl) (by kernel_rfl) (fun _ _ _ h => h) (Or.inl ⟨by rfl, ?_⟩) hHeld0 ?_
                  · intro w' hSw; (try dsimp only at hSw); go_simp
                  (try simp only [Act.put, List.setIfInBounds_toArray, List.set_cons_zero, List.set_cons_succ])
                  refine wpAnyH_take (i := 1) (oi := { dst := some 91, op := Op.load 29 (Operand.tmp 6), type := 29, pos := "laws.go:111", after := #[], guard := none }) (v := .agg #[.int .i64 kx1, .slice ax1 nx1 qx1]) rfl (by kernel_rfl) (by kernel_rfl) (by kernel_rfl) (fun _ _ _ h => h) (Or.inl ⟨by rfl, ?_⟩) hHeld0 ?_
                  · intro w' hSw; (try dsimp only at hSw); go_simp
                  (try simp only [Act.put, List.setIfInBounds_toArray, List.set_cons_zero, List.set_cons_succ])
                  refine wpAnyH_take (i := 3) (oi := { dst := some 93, op := Op.load 29 (Operand.tmp 7), type := 29, pos := "laws.go:111", after := #[], guard := none }) (v := .agg #[.int .i64 kr2, .slice ar2 nr2 qr2]) rfl (by kernel_rfl) (by kernel_rfl) (by kernel_rfl) (fun _ _ _ h => h) (Or.inl ⟨by rfl, ?_⟩) hHeld0 ?_
                  · intro w' hSw; (try dsimp only at hSw); go_simp
                  (try simp only [Act.put, List.setIfInBounds_toArray, List.set_cons_zero, List.set_cons_succ])
                  refine wpAnyH_take (i := 4) (oi := { dst := some 94, op := Op.load 29 (Operand.tmp 5), type := 29, pos := "laws.go:111", after := #[], guard := none }) (v := .agg #[.int .i64 kv1, .slice av1 nv1 qv1]) rfl (by kernel_rfl) (by kernel_rfl) (by kernel_rfl) (fun _ _ _ h => h) (Or.inl ⟨by rfl, ?_⟩) hHeld0 ?_
                  · intro w' hSw; (try dsimp only at hSw); go_simp
                  (try simp only [Act.put, List.setIfInBounds_toArray, List.set_cons_zero, List.set_cons_succ])
                  refine wpAnyH_ready (rs := [2]) (by kernel_rfl) (by simp) ?_
                  refine AllReadyH.cons (o := { dst := some 92, op := Op.call { callee := Callee.value (Operand.func 53), args := #[Operand.tmp 90, Operand.tmp 91], argTypes := #[29, 29] }, type := 4, pos := "laws.go:111", after := #[{ on := 0, ground := Ground.data }, { on := 1, ground := Ground.data }], guard := none }) rfl (fun K hK => ?_) AllReadyH.nil
                  go_simp
                  go_at_call 53
                  (with_reducible refine (implPreciseB _ _ t1 u1 _ _ _ (hv1.below bal1.drew).all (hx1.below bal1.drew).all).mono ?_)
                  rintro e w33 ⟨rfl, hb33⟩
                  rw [Hq4.out]
                  go_wp2_with fail
                  refine hK.out _ _ ?_ (fun hHeld1 => ?_)
                  · exact ⟨bcell hb33 (dcell (s0_)), bcell hb33 (dcell (s1_)), bcell hb33 (dcell (s2_)), bcell hb33 (dcell (s3_)), bcell hb33 (dcell (s4_)), bcell hb33 (dcell (s5_))⟩
                  clear hK K hHeld0
                  (try simp only [Act.put, List.setIfInBounds_toArray, List.set_cons_zero, List.set_cons_succ])
                  refine wpAnyH_ready (rs := [5]) (by kernel_rfl) (by simp) ?_
                  refine AllReadyH.cons (o := { dst := some 95, op := Op.call { callee := Callee.value (Operand.func 37), args := #[Operand.tmp 93, Operand.tmp 94], argTypes := #[29, 29] }, type := 4, pos := "laws.go:111", after := #[{ on := 3, ground := Ground.data }, { on := 4, ground := Ground.data }, { on := 2, ground := Ground.chain }], guard := none }) rfl (fun K hK => ?_) AllReadyH.nil
                  go_simp
                  go_at_call 37
                  (with_reducible refine (implTypeSame _ _ (meetT t1 u1) t1 _ _ _ (hv2.below (bstep bal1.drew hb33)).rep.all (hv1.below (bstep bal1.drew hb33)).all).mono ?_)
                  rintro e w34 ⟨rfl, hb34⟩
                  rw [Hq11.out]
                  go_wp2_with fail
                  refine hK.out _ _ ?_ (fun hHeld2 => ?_)
                  · exact ⟨bcell hb34 (bcell hb33 (dcell (s0_))), bcell hb34 (bcell hb33 (dcell (s1_))), bcell hb34 (bcell hb33 (dcell (s2_))), bcell hb34 (bcell hb33 (dcell (s3_))), bcell hb34 (bcell hb33 (dcell (s4_))), bcell hb34 (bcell hb33 (dcell (s5_)))⟩
                  clear hK K hHeld1
                  (try simp only [Act.put, List.setIfInBounds_toArray, List.set_cons_zero, List.set_cons_succ])
                  refine wpAnyH_take (i := 6) (oi := { dst := some 96, op := Op.binOp BinOp.eql 4 (Operand.tmp 92) (Operand.tmp 95) 4, type := 4, pos := "laws.go:111", after := #[{ on := 2, ground := Ground.data }, { on := 5, ground := Ground.data }], guard := none }) (v := .bool true) rfl (by kernel_rfl) (by kernel_rfl) (by kernel_rfl) (fun _ _ _ h => h) (Or.inl ⟨by rfl, ?_⟩) hHeld2 ?_
                  · intro w' hSw; (try dsimp only at hSw); go_simp
                  (try simp only [Act.put, List.setIfInBounds_toArray, List.set_cons_zero, List.set_cons_succ])
                  refine wpAnyH_take (i := 7) (oi := { dst := some 97, op := Op.move (Operand.tmp 96), type := 4, pos := "laws.go:111", after := #[{ on := 6, ground := Ground.data }, { on := 5, ground := Ground.chain }], guard := none }) (v := .bool true) rfl (by kernel_rfl) (by kernel_rfl) (by kernel_rfl) (fun _ _ _ h => h) (Or.inl ⟨by rfl, ?_⟩) hHeld2 ?_
                  · intro w' hSw; (try dsimp only at hSw); go_simp
                  (try simp only [Act.put, List.setIfInBounds_toArray, List.set_cons_zero, List.set_cons_succ])
                  refine wpAnyH_take (i := 8) (oi := { dst := some 98, op := Op.move (Operand.tmp 15), type := 4, pos := "laws.go:111", after := #[{ on := 7, ground := Ground.guard }], guard := some (7, true) }) (v := .bool false) rfl (by kernel_rfl) (by kernel_rfl) (by kernel_rfl) (fun _ _ _ h => h) (Or.inl ⟨by rfl, ?_⟩) hHeld2 ?_
                  · intro w' hSw; (try dsimp only at hSw); go_simp
                  (try simp only [Act.put, List.setIfInBounds_toArray, List.set_cons_zero, List.set_cons_succ])
                  refine wpAnyH_take (i := 9) (oi := { dst := some 99, op := Op.move (Operand.tmp 17), type := 4, pos := "laws.go:111", after := #[{ on := 7, ground := Ground.guard }], guard := some (7, true) }) (v := .bool true) rfl (by kernel_rfl) (by kernel_rfl) (by kernel_rfl) (fun _ _ _ h => h) (Or.inl ⟨by rfl, ?_⟩) hHeld2 ?_
                  · intro w' hSw; (try dsimp only at hSw); go_simp
                  (try simp only [Act.put, List.setIfInBounds_toArray, List.set_cons_zero, List.set_cons_succ])
                  refine wpAnyH_take (i := 10) (oi := { dst := some 100, op := Op.move (Operand.tmp 99), type := 4, pos := "laws.go:111", after := #[{ on := 9, ground := Ground.data }, { on := 7, ground := Ground.chain }, { on := 7, ground := Ground.guard }], guard := some (7, true) }) (v := .bool true) rfl (by kernel_rfl) (by kernel_rfl) (by kernel_rfl) (fun _ _ _ h => h) (Or.inl ⟨by rfl, ?_⟩) hHeld2 ?_
                  · intro w' hSw; (try dsimp only at hSw); go_simp
                  (try simp only [Act.put, List.setIfInBounds_toArray, List.set_cons_zero, List.set_cons_succ])
                  refine wpAnyH_take (i := 11) (oi := { dst := some 101, op := Op.move (Operand.tmp 19), type := 4, pos := "laws.go:111", after := #[{ on := 10, ground := Ground.guard }], guard := some (10, true) }) (v := .bool false) rfl (by kernel_rfl) (by kernel_rfl) (by kernel_rfl) (fun _ _ _ h => h) (Or.inl ⟨by rfl, ?_⟩) hHeld2 ?_
                  · intro w' hSw; (try dsimp only at hSw); go_simp
                  (try simp only [Act.put, List.setIfInBounds_toArray, List.set_cons_zero, List.set_cons_succ])
                  refine wpAnyH_take (i := 12) (oi := { dst := some 102, op := Op.pick (Operand.tmp 100) (Operand.tmp 101) (Operand.const (Value.bool false)), type := 4, pos := "laws.go:111", after := #[{ on := 10, ground := Ground.data }, { on := 11, ground := Ground.data }, { on := 7, ground := Ground.guard }], guard := some (7, true) }) (v := .bool false) rfl (by kernel_rfl) (by kernel_rfl) (by kernel_rfl) (fun _ _ _ h => h) (Or.inl ⟨by rfl, ?_⟩) hHeld2 ?_
                  · intro w' hSw; (try dsimp only at hSw); go_simp
                  (try simp only [Act.put, List.setIfInBounds_toArray, List.set_cons_zero, List.set_cons_succ])
                  refine wpAnyH_take (i := 13) (oi := { dst := some 103, op := Op.binOp BinOp.eql 4 (Operand.tmp 98) (Operand.tmp 102) 4, type := 4, pos := "laws.go:111", after := #[{ on := 8, ground := Ground.data }, { on := 12, ground := Ground.data }, { on := 7, ground := Ground.guard }], guard := some (7, true) }) (v := .bool true) rfl (by kernel_rfl) (by kernel_rfl) (by kernel_rfl) (fun _ _ _ h => h) (Or.inl ⟨by rfl, ?_⟩) hHeld2 ?_
                  · intro w' hSw; (try dsimp only at hSw); go_simp
                  (try simp only [Act.put, List.setIfInBounds_toArray, List.set_cons_zero, List.set_cons_succ])
                  refine wpAnyH_take (i := 14) (oi := { dst := some 104, op := Op.pick (Operand.tmp 97) (Operand.tmp 103) (Operand.const (Value.bool false)), type := 4, pos := "laws.go:111", after := #[{ on := 7, ground := Ground.data }, { on := 13, ground := Ground.data }], guard := none }) (v := .bool true) rfl (by kernel_rfl) (by kernel_rfl) (by kernel_rfl) (fun _ _ _ h => h) (Or.inl ⟨by rfl, ?_⟩) hHeld2 ?_
                  · intro w' hSw; (try dsimp only at hSw); go_simp
                  (try simp only [Act.put, List.setIfInBounds_toArray, List.set_cons_zero, List.set_cons_succ])
                  refine wpAnyH_take (i := 15) (oi := { dst := some 105, op := Op.move (Operand.tmp 104), type := 4, pos := "laws.go:111", after := #[{ on := 14, ground := Ground.data }, { on := 10, ground := Ground.chain }], guard := none }) (v := .bool true) rfl (by kernel_rfl) (by kernel_rfl) (by kernel_rfl) (fun _ _ _ h => h) (Or.inl ⟨by rfl, ?_⟩) hHeld2 ?_
                  · intro w' hSw; (try dsimp only at hSw); go_simp
                  (try simp only [Act.put, List.setIfInBounds_toArray, List.set_cons_zero, List.set_cons_succ])
                  refine wpAnyH_take (i := 16) (oi := { dst := some 106, op := Op.move (Operand.tmp 15), type := 4, pos := "laws.go:111", after := #[{ on := 15, ground := Ground.guard }], guard := some (15, true) }) (v := .bool false) rfl (by kernel_rfl) (by kernel_rfl) (by kernel_rfl) (fun _ _ _ h => h) (Or.inl ⟨by rfl, ?_⟩) hHeld2 ?_
                  · intro w' hSw; (try dsimp only at hSw); go_simp
                  (try simp only [Act.put, List.setIfInBounds_toArray, List.set_cons_zero, List.set_cons_succ])
                  refine wpAnyH_take (i := 17) (oi := { dst := some 107, op := Op.unOp UnOp.not 4 (Operand.tmp 106), type := 4, pos := "laws.go:111", after := #[{ on := 16, ground := Ground.data }, { on := 15, ground := Ground.guard }], guard := some (15, true) }) (v := .bool true) rfl (by kernel_rfl) (by kernel_rfl) (by kernel_rfl) (fun _ _ _ h => h) (Or.inl ⟨by rfl, ?_⟩) hHeld2 ?_
                  · intro w' hSw; (try dsimp only at hSw); go_simp
                  (try simp only [Act.put, List.setIfInBounds_toArray, List.set_cons_zero, List.set_cons_succ])
                  refine wpAnyH_take (i := 18) (oi := { dst := some 108, op := Op.move (Operand.tmp 107), type := 4, pos := "laws.go:111", after := #[{ on := 17, ground := Ground.data }, { on := 15, ground := Ground.chain }, { on := 15, ground := Ground.guard }], guard := some (15, true) }) (v := .bool true) rfl (by kernel_rfl) (by kernel_rfl) (by kernel_rfl) (fun _ _ _ h => h) (Or.inl ⟨by rfl, ?_⟩) hHeld2 ?_
                  · intro w' hSw; (try dsimp only at hSw); go_simp
                  (try simp only [Act.put, List.setIfInBounds_toArray, List.set_cons_zero, List.set_cons_succ])
                  refine wpAnyH_take (i := 19) (oi := { dst := some 109, op := Op.load 29 (Operand.tmp 14), type := 29, pos := "laws.go:111", after := #[{ on := 18, ground := Ground.guard }], guard := some (18, false) }) (v := undef) rfl (by kernel_rfl) (by kernel_rfl) (by kernel_rfl) (fun _ _ _ h => h) (Or.inr ⟨by rfl, rfl⟩) hHeld2 ?_
                  (try simp only [Act.put, List.setIfInBounds_toArray, List.set_cons_zero, List.set_cons_succ])
                  refine wpAnyH_take (i := 20) (oi := { dst := some 110, op := Op.load 29 (Operand.tmp 18), type := 29, pos := "laws.go:111", after := #[{ on := 18, ground := Ground.guard }], guard := some (18, false) }) (v := undef) rfl (by kernel_rfl) (by kernel_rfl) (by kernel_rfl) (fun _ _ _ h => h) (Or.inr ⟨by rfl, rfl⟩) hHeld2 ?_
                  (try simp only [Act.put, List.setIfInBounds_toArray, List.set_cons_zero, List.set_cons_succ])
                  refine wpAnyH_take (i := 21) (oi := { dst := some 111, op := Op.call { callee := Callee.value (Operand.func 37), args := #[Operand.tmp 109, Operand.tmp 110], argTypes := #[29, 29] }, type := 4, pos := "laws.go:111", after := #[{ on := 19, ground := Ground.data }, { on := 20, ground := Ground.data }, { on := 18, ground := Ground.chain }, { on := 18, ground := Ground.guard }], guard := some (18, false) }) (v := undef) rfl (by kernel_rfl) (by kernel_rfl) (by kernel_rfl) (fun _ _ _ h => h) (Or.inr ⟨by rfl, rfl⟩) hHeld2 ?_
                  (try simp only [Act.put, List.setIfInBounds_toArray, List.set_cons_zero, List.set_cons_succ])
                  refine wpAnyH_take (i := 22) (oi := { dst := some 112, op := Op.pick (Operand.tmp 108) (Operand.const (Value.bool true)) (Operand.tmp 111), type := 4, pos := "laws.go:111", after := #[{ on := 18, ground := Ground.data }, { on := 21, ground := Ground.data }, { on := 15, ground := Ground.guard }], guard := some (15, true) }) (v := .bool true) rfl (by kernel_rfl) (by kernel_rfl) (by kernel_rfl) (fun _ _ _ h => h) (Or.inl ⟨by rfl, ?_⟩) hHeld2 ?_
                  · intro w' hSw; (try dsimp only at hSw); go_simp
                  (try simp only [Act.put, List.setIfInBounds_toArray, List.set_cons_zero, List.set_cons_succ])
                  refine wpAnyH_take (i := 23) (oi := { dst := some 113, op := Op.pick (Operand.tmp 105) (Operand.tmp 112) (Operand.const (Value.bool false)), type := 4, pos := "laws.go:111", after := #[{ on := 15, ground := Ground.data }, { on := 22, ground := Ground.data }], guard := none }) (v := .bool true) rfl (by kernel_rfl) (by kernel_rfl) (by kernel_rfl) (fun _ _ _ h => h) (Or.inl ⟨by rfl, ?_⟩) hHeld2 ?_
                  · intro w' hSw; (try dsimp only at hSw); go_simp
                  (try simp only [Act.put, List.setIfInBounds_toArray, List.set_cons_zero, List.set_cons_succ])
                  refine wpAnyH_take (i := 24) (oi := { dst := some 4, op := Op.assign (Operand.tmp 113), type := 4, pos := "laws.go:111", after := #[{ on := 23, ground := Ground.data }, { on := 21, ground := Ground.chain }, { on := 0, ground := Ground.phase }, { on := 1, ground := Ground.phase }, { on := 2, ground := Ground.phase }, { on := 3, ground := Ground.phase }, { on := 4, ground := Ground.phase }, { on := 5, ground := Ground.phase }, { on := 6, ground := Ground.phase }, { on := 7, ground := Ground.phase }, { on := 8, ground := Ground.phase }, { on := 9, ground := Ground.phase }, { on := 10, ground := Ground.phase }, { on := 11, ground := Ground.phase }, { on := 12, ground := Ground.phase }, { on := 13, ground := Ground.phase }, { on := 14, ground := Ground.phase }, { on := 15, ground := Ground.phase }, { on := 16, ground := Ground.phase }, { on := 17, ground := Ground.phase }, { on := 18, ground := Ground.phase }, { on := 19, ground := Ground.phase }, { on := 20, ground := Ground.phase }, { on := 21, ground := Ground.phase }, { on := 22, ground := Ground.phase }, { on := 23, ground := Ground.phase }], guard := none }) (v := .bool true) rfl (by kernel_rfl) (by kernel_rfl) (by kernel_rfl) (fun _ _ _ h => h) (Or.inl ⟨by rfl, ?_⟩) hHeld2 ?_
                  · intro w' hSw; (try dsimp only at hSw); go_simp
                  (try simp only [Act.put, List.setIfInBounds_toArray, List.set_cons_zero, List.set_cons_succ])
                  refine wpAnyH_done (by kernel_rfl) ?_ _
                  refine NoPanic.normal ?_
                  clear hHeld2 s0_ s1_ s2_ s3_ s4_ s5_
                  replace hB := (bstep (bstep (hB.alloc hB.size _).drew hb33) hb34)
                  have zw34 := hB.size
                  go_wp2_with fail
                  refine bodyPost_ret (v := .bool true) (by simp [results, Try.results29, go_sem]) rfl ?_
                  exact ⟨rfl, hB⟩
            · (try rw [q12])
              have Hq12 := Lib.hid q12
              clear q12
              rcases Bool.eq_false_or_eq_true (consB (meetT t1 u1) u5) with q16 | q16
              · (try rw [q16])
                have Hq16 := Lib.hid q16
                clear q16
                go_wp2_with fail
                have s0_ : (World.alloc w8 (Obj.cells #[.int .i64 kr8, .slice ar8 nr8 qr8] 29)).cell? ⟨w1.heap.size, 0, none⟩ = some (.int .i64 kv1) := bcell bal1 (c0_0)
                have s1_ : (World.alloc w8 (Obj.cells #[.int .i64 kr8, .slice ar8 nr8 qr8] 29)).cell? ⟨w1.heap.size, 1, none⟩ = some (.slice av1 nv1 qv1) := bcell bal1 (c0_1)
                have s2_ : (World.alloc w8 (Obj.cells #[.int .i64 kr8, .slice ar8 nr8 qr8] 29)).cell? ⟨w1.heap.size + 1, 0, none⟩ = some (.int .i64 kx1) := bcell bal1 (c1_0)
                have s3_ : (World.alloc w8 (Obj.cells #[.int .i64 kr8, .slice ar8 nr8 qr8] 29)).cell? ⟨w1.heap.size + 1, 1, none⟩ = some (.slice ax1 nx1 qx1) := bcell bal1 (c1_1)
                have s4_ : (World.alloc w8 (Obj.cells #[.int .i64 kr8, .slice ar8 nr8 qr8] 29)).cell? ⟨w2.heap.size, 0, none⟩ = some (.int .i64 kr2) := bcell bal1 (c2_0)
                have s5_ : (World.alloc w8 (Obj.cells #[.int .i64 kr8, .slice ar8 nr8 qr8] 29)).cell? ⟨w2.heap.size, 1, none⟩ = some (.slice ar2 nr2 qr2) := bcell bal1 (c2_1)
                refine wp_region_noPanic ?_
                refine wp_region_held_drew (S := fun w' => w'.cell? ⟨w1.heap.size, 0, none⟩ = some (.int .i64 kv1) ∧ w'.cell? ⟨w1.heap.size, 1, none⟩ = some (.slice av1 nv1 qv1) ∧ w'.cell? ⟨w1.heap.size + 1, 0, none⟩ = some (.int .i64 kx1) ∧ w'.cell? ⟨w1.heap.size + 1, 1, none⟩ = some (.slice ax1 nx1 qx1) ∧ w'.cell? ⟨w2.heap.size, 0, none⟩ = some (.int .i64 kr2) ∧ w'.cell? ⟨w2.heap.size, 1, none⟩ = some (.slice ar2 nr2 qr2)) (by kernel_rfl) ?_ (fun hHeld0 => ?_)
                · exact ⟨dcell (s0_), dcell (s1_), dcell (s2_), dcell (s3_), dcell (s4_), dcell (s5_)⟩
                refine wpAnyH_take (i := 0) (oi := { dst := some 90, op := Op.load 29 (Operand.tmp 5), type := 29, pos := "laws.go:111", after := #[], guard := none }) (v := .agg #[.int .i64 kv1, .slice av1 nv1 qv1]) rfl (by kernel_rfl) (by kernel_rfl) (by kernel_rfl) (fun _ _ _ h => h) (Or.inl ⟨by rfl, ?_⟩) hHeld0 ?_
                · intro w' hSw; (try dsimp only at hSw); go_simp
                (try simp only [Act.put, List.setIfInBounds_toArray, List.set_cons_zero, List.set_cons_succ])
                refine wpAnyH_take (i := 1) (oi := { dst := some 91, op := Op.load 29 (Operand.tmp 6), type := 29, pos := "laws.go:111", after := #[], guard := none }) (v := .agg #[.int .i64 kx1, .slice ax1 nx1 qx1]) rfl (by kernel_rfl) (by kernel_rfl) (by kernel_rfl) (fun _ _ _ h => h) (Or.inl ⟨by rfl, ?_⟩) hHeld0 ?_
                · intro w' hSw; (try dsimp only at hSw); go_simp
                (try simp only [Act.put, List.setIfInBounds_toArray, List.set_cons_zero, List.set_cons_succ])
                refine wpAnyH_take (i := 3) (oi := { dst := some 93, op := Op.load 29 (Operand.tmp 7), type := 29, pos := "laws.go:111", after := #[], guard := none }) (v := .agg #[.int .i64 kr2, .slice ar2 nr2 qr2]) rfl (by kernel_rfl) (by kernel_rfl) (by kernel_rfl) (fun _ _ _ h => h) (Or.inl ⟨by rfl, ?_⟩) hHeld0 ?_
                · intro w' hSw; (try dsimp only at hSw); go_simp
                (try simp only [Act.put, List.setIfInBounds_toArray, List.set_cons_zero, List.set_cons_succ])
                refine wpAnyH_take (i := 4) (oi := { dst := some 94, op := Op.load 29 (Operand.tmp 5), type := 29, pos := "laws.go:111", after := #[], guard := none }) (v := .agg #[.int .i64 kv1, .slice av1 nv1 qv1]) rfl (by kernel_rfl) (by kernel_rfl) (by kernel_rfl) (fun _ _ _ h => h) (Or.inl ⟨by rfl, ?_⟩) hHeld0 ?_
                · intro w' hSw; (try dsimp only at hSw); go_simp
                (try simp only [Act.put, List.setIfInBounds_toArray, List.set_cons_zero, List.set_cons_succ])
                refine wpAnyH_ready (rs := [2]) (by kernel_rfl) (by simp) ?_
                refine AllReadyH.cons (o := { dst := some 92, op := Op.call { callee := Callee.value (Operand.func 53), args := #[Operand.tmp 90, Operand.tmp 91], argTypes := #[29, 29] }, type := 4, pos := "laws.go:111", after := #[{ on := 0, ground := Ground.data }, { on := 1, ground := Ground.data }], guard := none }) rfl (fun K hK => ?_) AllReadyH.nil
                go_simp
                go_at_call 53
                (with_reducible refine (implPreciseB _ _ t1 u1 _ _ _ (hv1.below bal1.drew).all (hx1.below bal1.drew).all).mono ?_)
                rintro e w35 ⟨rfl, hb35⟩
                rw [Hq4.out]
                go_wp2_with fail
                refine hK.out _ _ ?_ (fun hHeld1 => ?_)
                · exact ⟨bcell hb35 (dcell (s0_)), bcell hb35 (dcell (s1_)), bcell hb35 (dcell (s2_)), bcell hb35 (dcell (s3_)), bcell hb35 (dcell (s4_)), bcell hb35 (dcell (s5_))⟩
                clear hK K hHeld0
                (try simp only [Act.put, List.setIfInBounds_toArray, List.set_cons_zero, List.set_cons_succ])
                refine wpAnyH_ready (rs := [5]) (by kernel_rfl) (by simp) ?_
                refine AllReadyH.cons (o := { dst := some 95, op := Op.call { callee := Callee.value (Operand.func 37), args := #[Operand.tmp 93, Operand.tmp 94], argTypes := #[29, 29] }, type := 4, pos := "laws.go:111", after := #[{ on := 3, ground := Ground.data }, { on := 4, ground := Ground.data }, { on := 2, ground := Ground.chain }], guard := none }) rfl (fun K hK => ?_) AllReadyH.nil
                go_simp
                go_at_call 37
                (with_reducible refine (implTypeSame _ _ (meetT t1 u1) t1 _ _ _ (hv2.below (bstep bal1.drew hb35)).rep.all (hv1.below (bstep bal1.drew hb35)).all).mono ?_)
                rintro e w36 ⟨rfl, hb36⟩
                rw [Hq11.out]
                go_wp2_with fail
                refine hK.out _ _ ?_ (fun hHeld2 => ?_)
                · exact ⟨bcell hb36 (bcell hb35 (dcell (s0_))), bcell hb36 (bcell hb35 (dcell (s1_))), bcell hb36 (bcell hb35 (dcell (s2_))), bcell hb36 (bcell hb35 (dcell (s3_))), bcell hb36 (bcell hb35 (dcell (s4_))), bcell hb36 (bcell hb35 (dcell (s5_)))⟩
                clear hK K hHeld1
                (try simp only [Act.put, List.setIfInBounds_toArray, List.set_cons_zero, List.set_cons_succ])
                refine wpAnyH_take (i := 6) (oi := { dst := some 96, op := Op.binOp BinOp.eql 4 (Operand.tmp 92) (Operand.tmp 95) 4, type := 4, pos := "laws.go:111", after := #[{ on := 2, ground := Ground.data }, { on := 5, ground := Ground.data }], guard := none }) (v := .bool true) rfl (by kernel_rfl) (by kernel_rfl) (by kernel_rfl) (fun _ _ _ h => h) (Or.inl ⟨by rfl, ?_⟩) hHeld2 ?_
                · intro w' hSw; (try dsimp only at hSw); go_simp
                (try simp only [Act.put, List.setIfInBounds_toArray, List.set_cons_zero, List.set_cons_succ])
                refine wpAnyH_take (i := 7) (oi := { dst := some 97, op := Op.move (Operand.tmp 96), type := 4, pos := "laws.go:111", after := #[{ on := 6, ground := Ground.data }, { on := 5, ground := Ground.chain }], guard := none }) (v := .bool true) rfl (by kernel_rfl) (by kernel_rfl) (by kernel_rfl) (fun _ _ _ h => h) (Or.inl ⟨by rfl, ?_⟩) hHeld2 ?_
                · intro w' hSw; (try dsimp only at hSw); go_simp
                (try simp only [Act.put, List.setIfInBounds_toArray, List.set_cons_zero, List.set_cons_succ])
                refine wpAnyH_take (i := 8) (oi := { dst := some 98, op := Op.move (Operand.tmp 15), type := 4, pos := "laws.go:111", after := #[{ on := 7, ground := Ground.guard }], guard := some (7, true) }) (v := .bool true) rfl (by kernel_rfl) (by kernel_rfl) (by kernel_rfl) (fun _ _ _ h => h) (Or.inl ⟨by rfl, ?_⟩) hHeld2 ?_
                · intro w' hSw; (try dsimp only at hSw); go_simp
                (try simp only [Act.put, List.setIfInBounds_toArray, List.set_cons_zero, List.set_cons_succ])
                refine wpAnyH_take (i := 9) (oi := { dst := some 99, op := Op.move (Operand.tmp 17), type := 4, pos := "laws.go:111", after := #[{ on := 7, ground := Ground.guard }], guard := some (7, true) }) (v := .bool false) rfl (by kernel_rfl) (by kernel_rfl) (by kernel_rfl) (fun _ _ _ h => h) (Or.inl ⟨by rfl, ?_⟩) hHeld2 ?_
                · intro w' hSw; (try dsimp only at hSw); go_simp
                (try simp only [Act.put, List.setIfInBounds_toArray, List.set_cons_zero, List.set_cons_succ])
                refine wpAnyH_take (i := 10) (oi := { dst := some 100, op := Op.move (Operand.tmp 99), type := 4, pos := "laws.go:111", after := #[{ on := 9, ground := Ground.data }, { on := 7, ground := Ground.chain }, { on := 7, ground := Ground.guard }], guard := some (7, true) }) (v := .bool false) rfl (by kernel_rfl) (by kernel_rfl) (by kernel_rfl) (fun _ _ _ h => h) (Or.inl ⟨by rfl, ?_⟩) hHeld2 ?_
                · intro w' hSw; (try dsimp only at hSw); go_simp
                (try simp only [Act.put, List.setIfInBounds_toArray, List.set_cons_zero, List.set_cons_succ])
                refine wpAnyH_take (i := 11) (oi := { dst := some 101, op := Op.move (Operand.tmp 19), type := 4, pos := "laws.go:111", after := #[{ on := 10, ground := Ground.guard }], guard := some (10, true) }) (v := undef) rfl (by kernel_rfl) (by kernel_rfl) (by kernel_rfl) (fun _ _ _ h => h) (Or.inr ⟨by rfl, rfl⟩) hHeld2 ?_
                (try simp only [Act.put, List.setIfInBounds_toArray, List.set_cons_zero, List.set_cons_succ])
                refine wpAnyH_take (i := 12) (oi := { dst := some 102, op := Op.pick (Operand.tmp 100) (Operand.tmp 101) (Operand.const (Value.bool false)), type := 4, pos := "laws.go:111", after := #[{ on := 10, ground := Ground.data }, { on := 11, ground := Ground.data }, { on := 7, ground := Ground.guard }], guard := some (7, true) }) (v := .bool false) rfl (by kernel_rfl) (by kernel_rfl) (by kernel_rfl) (fun _ _ _ h => h) (Or.inl ⟨by rfl, ?_⟩) hHeld2 ?_
                · intro w' hSw; (try dsimp only at hSw); go_simp
                (try simp only [Act.put, List.setIfInBounds_toArray, List.set_cons_zero, List.set_cons_succ])
                refine wpAnyH_take (i := 13) (oi := { dst := some 103, op := Op.binOp BinOp.eql 4 (Operand.tmp 98) (Operand.tmp 102) 4, type := 4, pos := "laws.go:111", after := #[{ on := 8, ground := Ground.data }, { on := 12, ground := Ground.data }, { on := 7, ground := Ground.guard }], guard := some (7, true) }) (v := .bool false) rfl (by kernel_rfl) (by kernel_rfl) (by kernel_rfl) (fun _ _ _ h => h) (Or.inl ⟨by rfl, ?_⟩) hHeld2 ?_
                · intro w' hSw; (try dsimp only at hSw); go_simp
                (try simp only [Act.put, List.setIfInBounds_toArray, List.set_cons_zero, List.set_cons_succ])
                refine wpAnyH_take (i := 14) (oi := { dst := some 104, op := Op.pick (Operand.tmp 97) (Operand.tmp 103) (Operand.const (Value.bool false)), type := 4, pos := "laws.go:111", after := #[{ on := 7, ground := Ground.data }, { on := 13, ground := Ground.data }], guard := none }) (v := .bool false) rfl (by kernel_rfl) (by kernel_rfl) (by kernel_rfl) (fun _ _ _ h => h) (Or.inl ⟨by rfl, ?_⟩) hHeld2 ?_
                · intro w' hSw; (try dsimp only at hSw); go_simp
                (try simp only [Act.put, List.setIfInBounds_toArray, List.set_cons_zero, List.set_cons_succ])
                refine wpAnyH_take (i := 15) (oi := { dst := some 105, op := Op.move (Operand.tmp 104), type := 4, pos := "laws.go:111", after := #[{ on := 14, ground := Ground.data }, { on := 10, ground := Ground.chain }], guard := none }) (v := .bool false) rfl (by kernel_rfl) (by kernel_rfl) (by kernel_rfl) (fun _ _ _ h => h) (Or.inl ⟨by rfl, ?_⟩) hHeld2 ?_
                · intro w' hSw; (try dsimp only at hSw); go_simp
                (try simp only [Act.put, List.setIfInBounds_toArray, List.set_cons_zero, List.set_cons_succ])
                refine wpAnyH_take (i := 16) (oi := { dst := some 106, op := Op.move (Operand.tmp 15), type := 4, pos := "laws.go:111", after := #[{ on := 15, ground := Ground.guard }], guard := some (15, true) }) (v := undef) rfl (by kernel_rfl) (by kernel_rfl) (by kernel_rfl) (fun _ _ _ h => h) (Or.inr ⟨by rfl, rfl⟩) hHeld2 ?_
                (try simp only [Act.put, List.setIfInBounds_toArray, List.set_cons_zero, List.set_cons_succ])
                refine wpAnyH_take (i := 17) (oi := { dst := some 107, op := Op.unOp UnOp.not 4 (Operand.tmp 106), type := 4, pos := "laws.go:111", after := #[{ on := 16, ground := Ground.data }, { on := 15, ground := Ground.guard }], guard := some (15, true) }) (v := undef) rfl (by kernel_rfl) (by kernel_rfl) (by kernel_rfl) (fun _ _ _ h => h) (Or.inr ⟨by rfl, rfl⟩) hHeld2 ?_
                (try simp only [Act.put, List.setIfInBounds_toArray, List.set_cons_zero, List.set_cons_succ])
                refine wpAnyH_take (i := 18) (oi := { dst := some 108, op := Op.move (Operand.tmp 107), type := 4, pos := "laws.go:111", after := #[{ on := 17, ground := Ground.data }, { on := 15, ground := Ground.chain }, { on := 15, ground := Ground.guard }], guard := some (15, true) }) (v := undef) rfl (by kernel_rfl) (by kernel_rfl) (by kernel_rfl) (fun _ _ _ h => h) (Or.inr ⟨by rfl, rfl⟩) hHeld2 ?_
                (try simp only [Act.put, List.setIfInBounds_toArray, List.set_cons_zero, List.set_cons_succ])
                refine wpAnyH_take (i := 19) (oi := { dst := some 109, op := Op.load 29 (Operand.tmp 14), type := 29, pos := "laws.go:111", after := #[{ on := 18, ground := Ground.guard }], guard := some (18, false) }) (v := undef) rfl (by kernel_rfl) (by kernel_rfl) (by kernel_rfl) (fun _ _ _ h => h) (Or.inr ⟨by rfl, rfl⟩) hHeld2 ?_
                (try simp only [Act.put, List.setIfInBounds_toArray, List.set_cons_zero, List.set_cons_succ])
                refine wpAnyH_take (i := 20) (oi := { dst := some 110, op := Op.load 29 (Operand.tmp 18), type := 29, pos := "laws.go:111", after := #[{ on := 18, ground := Ground.guard }], guard := some (18, false) }) (v := undef) rfl (by kernel_rfl) (by kernel_rfl) (by kernel_rfl) (fun _ _ _ h => h) (Or.inr ⟨by rfl, rfl⟩) hHeld2 ?_
                (try simp only [Act.put, List.setIfInBounds_toArray, List.set_cons_zero, List.set_cons_succ])
                refine wpAnyH_take (i := 21) (oi := { dst := some 111, op := Op.call { callee := Callee.value (Operand.func 37), args := #[Operand.tmp 109, Operand.tmp 110], argTypes := #[29, 29] }, type := 4, pos := "laws.go:111", after := #[{ on := 19, ground := Ground.data }, { on := 20, ground := Ground.data }, { on := 18, ground := Ground.chain }, { on := 18, ground := Ground.guard }], guard := some (18, false) }) (v := undef) rfl (by kernel_rfl) (by kernel_rfl) (by kernel_rfl) (fun _ _ _ h => h) (Or.inr ⟨by rfl, rfl⟩) hHeld2 ?_
                (try simp only [Act.put, List.setIfInBounds_toArray, List.set_cons_zero, List.set_cons_succ])
                refine wpAnyH_take (i := 22) (oi := { dst := some 112, op := Op.pick (Operand.tmp 108) (Operand.const (Value.bool true)) (Operand.tmp 111), type := 4, pos := "laws.go:111", after := #[{ on := 18, ground := Ground.data }, { on := 21, ground := Ground.data }, { on := 15, ground := Ground.guard }], guard := some (15, true) }) (v := undef) rfl (by kernel_rfl) (by kernel_rfl) (by kernel_rfl) (fun _ _ _ h => h) (Or.inr ⟨by rfl, rfl⟩) hHeld2 ?_
                (try simp only [Act.put, List.setIfInBounds_toArray, List.set_cons_zero, List.set_cons_succ])
                refine wpAnyH_take (i := 23) (oi := { dst := some 113, op := Op.pick (Operand.tmp 105) (Operand.tmp 112) (Operand.const (Value.bool false)), type := 4, pos := "laws.go:111", after := #[{ on := 15, ground := Ground.data }, { on := 22, ground := Ground.data }], guard := none }) (v := .bool false) rfl (by kernel_rfl) (by kernel_rfl) (by kernel_rfl) (fun _ _ _ h => h) (Or.inl ⟨by rfl, ?_⟩) hHeld2 ?_
                · intro w' hSw; (try dsimp only at hSw); go_simp
                (try simp only [Act.put, List.setIfInBounds_toArray, List.set_cons_zero, List.set_cons_succ])
                refine wpAnyH_take (i := 24) (oi := { dst := some 4, op := Op.assign (Operand.tmp 113), type := 4, pos := "laws.go:111", after := #[{ on := 23, ground := Ground.data }, { on := 21, ground := Ground.chain }, { on := 0, ground := Ground.phase }, { on := 1, ground := Ground.phase }, { on := 2, ground := Ground.phase }, { on := 3, ground := Ground.phase }, { on := 4, ground := Ground.phase }, { on := 5, ground := Ground.phase }, { on := 6, ground := Ground.phase }, { on := 7, ground := Ground.phase }, { on := 8, ground := Ground.phase }, { on := 9, ground := Ground.phase }, { on := 10, ground := Ground.phase }, { on := 11, ground := Ground.phase }, { on := 12, ground := Ground.phase }, { on := 13, ground := Ground.phase }, { on := 14, ground := Ground.phase }, { on := 15, ground := Ground.phase }, { on := 16, ground := Ground.phase }, { on := 17, ground := Ground.phase }, { on := 18, ground := Ground.phase }, { on := 19, ground := Ground.phase }, { on := 20, ground := Ground.phase }, { on := 21, ground := Ground.phase }, { on := 22, ground := Ground.phase }, { on := 23, ground := Ground.phase }], guard := none }) (v := .bool false) rfl (by kernel_rfl) (by kernel_rfl) (by kernel_rfl) (fun _ _ _ h => h) (Or.inl ⟨by rfl, ?_⟩) hHeld2 ?_
                · intro w' hSw; (try dsimp only at hSw); go_simp
                (try simp only [Act.put, List.setIfInBounds_toArray, List.set_cons_zero, List.set_cons_succ])
                refine wpAnyH_done (by kernel_rfl) ?_ _
                refine NoPanic.normal ?_
                clear hHeld2 s0_ s1_ s2_ s3_ s4_ s5_
                replace hB := (bstep (bstep (hB.alloc hB.size _).drew hb35) hb36)
                have zw36 := hB.size
                go_wp2_with fail
                exact (leaf_FnMeetLaws_9 Hq3.out Hq4.out Hq11.out Hq12.out Hq16.out).elim
              · (try rw [q16])
                have Hq16 := Lib.hid q16
                clear q16
                go_wp2_with fail
                have s0_ : (World.alloc w8 (Obj.cells #[.int .i64 kr8, .slice ar8 nr8 qr8] 29)).cell? ⟨w1.heap.size, 0, none⟩ = some (.int .i64 kv1) := bcell bal1 (c0_0)
                have s1_ : (World.alloc w8 (Obj.cells #[.int .i64 kr8, .slice ar8 nr8 qr8] 29)).cell? ⟨w1.heap.size, 1, none⟩ = some (.slice av1 nv1 qv1) := bcell bal1 (c0_1)
                have s2_ : (World.alloc w8 (Obj.cells #[.int .i64 kr8, .slice ar8 nr8 qr8] 29)).cell? ⟨w1.heap.size + 1, 0, none⟩ = some (.int .i64 kx1) := bcell bal1 (c1_0)
                have s3_ : (World.alloc w8 (Obj.cells #[.int .i64 kr8, .slice ar8 nr8 qr8] 29)).cell? ⟨w1.heap.size + 1, 1, none⟩ = some (.slice ax1 nx1 qx1) := bcell bal1 (c1_1)
                have s4_ : (World.alloc w8 (Obj.cells #[.int .i64 kr8, .slice ar8 nr8 qr8] 29)).cell? ⟨w2.heap.size, 0, none⟩ = some (.int .i64 kr2) := bcell bal1 (c2_0)
                have s5_ : (World.alloc w8 (Obj.cells #[.int .i64 kr8, .slice ar8 nr8 qr8] 29)).cell? ⟨w2.heap.size, 1, none⟩ = some (.slice ar2 nr2 qr2) := bcell bal1 (c2_1)
                refine wp_region_noPanic ?_
                refine wp_region_held_drew (S := fun w' => w'.cell? ⟨w1.heap.size, 0, none⟩ = some (.int .i64 kv1) ∧ w'.cell? ⟨w1.heap.size, 1, none⟩ = some (.slice av1 nv1 qv1) ∧ w'.cell? ⟨w1.heap.size + 1, 0, none⟩ = some (.int .i64 kx1) ∧ w'.cell? ⟨w1.heap.size + 1, 1, none⟩ = some (.slice ax1 nx1 qx1) ∧ w'.cell? ⟨w2.heap.size, 0, none⟩ = some (.int .i64 kr2) ∧ w'.cell? ⟨w2.heap.size, 1, none⟩ = some (.slice ar2 nr2 qr2)) (by kernel_rfl) ?_ (fun hHeld0 => ?_)
                · exact ⟨dcell (s0_), dcell (s1_), dcell (s2_), dcell (s3_), dcell (s4_), dcell (s5_)⟩
                refine wpAnyH_take (i := 0) (oi := { dst := some 90, op := Op.load 29 (Operand.tmp 5), type := 29, pos := "laws.go:111", after := #[], guard := none }) (v := .agg #[.int .i64 kv1, .slice av1 nv1 qv1]) rfl (by kernel_rfl) (by kernel_rfl) (by kernel_rfl) (fun _ _ _ h => h) (Or.inl ⟨by rfl, ?_⟩) hHeld0 ?_
                · intro w' hSw; (try dsimp only at hSw); go_simp
                (try simp only [Act.put, List.setIfInBounds_toArray, List.set_cons_zero, List.set_cons_succ])
                refine wpAnyH_take (i := 1) (oi := { dst := some 91, op := Op.load 29 (Operand.tmp 6), type := 29, pos := "laws.go:111", after := #[], guard := none }) (v := .agg #[.int .i64 kx1, .slice ax1 nx1 qx1]) rfl (by kernel_rfl) (by kernel_rfl) (by kernel_rfl) (fun _ _ _ h => h) (Or.inl ⟨by rfl, ?_⟩) hHeld0 ?_
                · intro w' hSw; (try dsimp only at hSw); go_simp
                (try simp only [Act.put, List.setIfInBounds_toArray, List.set_cons_zero, List.set_cons_succ])
                refine wpAnyH_take (i := 3) (oi := { dst := some 93, op := Op.load 29 (Operand.tmp 7), type := 29, pos := "laws.go:111", after := #[], guard := none }) (v := .agg #[.int .i64 kr2, .slice ar2 nr2 qr2]) rfl (by kernel_rfl) (by kernel_rfl) (by kernel_rfl) (fun _ _ _ h => h) (Or.inl ⟨by rfl, ?_⟩) hHeld0 ?_
                · intro w' hSw; (try dsimp only at hSw); go_simp
                (try simp only [Act.put, List.setIfInBounds_toArray, List.set_cons_zero, List.set_cons_succ])
                refine wpAnyH_take (i := 4) (oi := { dst := some 94, op := Op.load 29 (Operand.tmp 5), type := 29, pos := "laws.go:111", after := #[], guard := none }) (v := .agg #[.int .i64 kv1, .slice av1 nv1 qv1]) rfl (by kernel_rfl) (by kernel_rfl) (by kernel_rfl) (fun _ _ _ h => h) (Or.inl ⟨by rfl, ?_⟩) hHeld0 ?_
                · intro w' hSw; (try dsimp only at hSw); go_simp
                (try simp only [Act.put, List.setIfInBounds_toArray, List.set_cons_zero, List.set_cons_succ])
                refine wpAnyH_ready (rs := [2]) (by kernel_rfl) (by simp) ?_
                refine AllReadyH.cons (o := { dst := some 92, op := Op.call { callee := Callee.value (Operand.func 53), args := #[Operand.tmp 90, Operand.tmp 91], argTypes := #[29, 29] }, type := 4, pos := "laws.go:111", after := #[{ on := 0, ground := Ground.data }, { on := 1, ground := Ground.data }], guard := none }) rfl (fun K hK => ?_) AllReadyH.nil
                go_simp
                go_at_call 53
                (with_reducible refine (implPreciseB _ _ t1 u1 _ _ _ (hv1.below bal1.drew).all (hx1.below bal1.drew).all).mono ?_)
                rintro e w37 ⟨rfl, hb37⟩
                rw [Hq4.out]
                go_wp2_with fail
                refine hK.out _ _ ?_ (fun hHeld1 => ?_)
                · exact ⟨bcell hb37 (dcell (s0_)), bcell hb37 (dcell (s1_)), bcell hb37 (dcell (s2_)), bcell hb37 (dcell (s3_)), bcell hb37 (dcell (s4_)), bcell hb37 (dcell (s5_))⟩
                clear hK K hHeld0
                (try simp only [Act.put, List.setIfInBounds_toArray, List.set_cons_zero, List.set_cons_succ])
                refine wpAnyH_ready (rs := [5]) (by kernel_rfl) (by simp) ?_
                refine AllReadyH.cons (o := { dst := some 95, op := Op.call { callee := Callee.value (Operand.func 37), args := #[Operand.tmp 93, Operand.tmp 94], argTypes := #[29, 29] }, type := 4, pos := "laws.go:111", after := #[{ on := 3, ground := Ground.data }, { on := 4, ground := Ground.data }, { on := 2, ground := Ground.chain }], guard := none }) rfl (fun K hK => ?_) AllReadyH.nil
                go_simp
                go_at_call 37
                (with_reducible refine (implTypeSame _ _ (meetT t1 u1) t1 _ _ _ (hv2.below (bstep bal1.drew hb37)).rep.all (hv1.below (bstep bal1.drew hb37)).all).mono ?_)
                rintro e w38 ⟨rfl, hb38⟩
                rw [Hq11.out]
                go_wp2_with fail
                refine hK.out _ _ ?_ (fun hHeld2 => ?_)
                · exact ⟨bcell hb38 (bcell hb37 (dcell (s0_))), bcell hb38 (bcell hb37 (dcell (s1_))), bcell hb38 (bcell hb37 (dcell (s2_))), bcell hb38 (bcell hb37 (dcell (s3_))), bcell hb38 (bcell hb37 (dcell (s4_))), bcell hb38 (bcell hb37 (dcell (s5_)))⟩
                clear hK K hHeld1
                (try simp only [Act.put, List.setIfInBounds_toArray, List.set_cons_zero, List.set_cons_succ])
                refine wpAnyH_take (i := 6) (oi := { dst := some 96, op := Op.binOp BinOp.eql 4 (Operand.tmp 92) (Operand.tmp 95) 4, type := 4, pos := "laws.go:111", after := #[{ on := 2, ground := Ground.data }, { on := 5, ground := Ground.data }], guard := none }) (v := .bool true) rfl (by kernel_rfl) (by kernel_rfl) (by kernel_rfl) (fun _ _ _ h => h) (Or.inl ⟨by rfl, ?_⟩) hHeld2 ?_
                · intro w' hSw; (try dsimp only at hSw); go_simp
                (try simp only [Act.put, List.setIfInBounds_toArray, List.set_cons_zero, List.set_cons_succ])
                refine wpAnyH_take (i := 7) (oi := { dst := some 97, op := Op.move (Operand.tmp 96), type := 4, pos := "laws.go:111", after := #[{ on := 6, ground := Ground.data }, { on := 5, ground := Ground.chain }], guard := none }) (v := .bool true) rfl (by kernel_rfl) (by kernel_rfl) (by kernel_rfl) (fun _ _ _ h => h) (Or.inl ⟨by rfl, ?_⟩) hHeld2 ?_
                · intro w' hSw; (try dsimp only at hSw); go_simp
                (try simp only [Act.put, List.setIfInBounds_toArray, List.set_cons_zero, List.set_cons_succ])
                refine wpAnyH_take (i := 8) (oi := { dst := some 98, op := Op.move (Operand.tmp 15), type := 4, pos := "laws.go:111", after := #[{ on := 7, ground := Ground.guard }], guard := some (7, true) }) (v := .bool false) rfl (by kernel_rfl) (by kernel_rfl) (by kernel_rfl) (fun _ _ _ h => h) (Or.inl ⟨by rfl, ?_⟩) hHeld2 ?_
                · intro w' hSw; (try dsimp only at hSw); go_simp
                (try simp only [Act.put, List.setIfInBounds_toArray, List.set_cons_zero, List.set_cons_succ])
                refine wpAnyH_take (i := 9) (oi := { dst := some 99, op := Op.move (Operand.tmp 17), type := 4, pos := "laws.go:111", after := #[{ on := 7, ground := Ground.guard }], guard := some (7, true) }) (v := .bool false) rfl (by kernel_rfl) (by kernel_rfl) (by kernel_rfl) (fun _ _ _ h => h) (Or.inl ⟨by rfl, ?_⟩) hHeld2 ?_
                · intro w' hSw; (try dsimp only at hSw); go_simp
                (try simp only [Act.put, List.setIfInBounds_toArray, List.set_cons_zero, List.set_cons_succ])
                refine wpAnyH_take (i := 10) (oi := { dst := some 100, op := Op.move (Operand.tmp 99), type := 4, pos := "laws.go:111", after := #[{ on := 9, ground := Ground.data }, { on := 7, ground := Ground.chain }, { on := 7, ground := Ground.guard }], guard := some (7, true) }) (v := .bool false) rfl (by kernel_rfl) (by kernel_rfl) (by kernel_rfl) (fun _ _ _ h => h) (Or.inl ⟨by rfl, ?_⟩) hHeld2 ?_
                · intro w' hSw; (try dsimp only at hSw); go_simp
                (try simp only [Act.put, List.setIfInBounds_toArray, List.set_cons_zero, List.set_cons_succ])
                refine wpAnyH_take (i := 11) (oi := { dst := some 101, op := Op.move (Operand.tmp 19), type := 4, pos := "laws.go:111", after := #[{ on := 10, ground := Ground.guard }], guard := some (10, true) }) (v := undef) rfl (by kernel_rfl) (by kernel_rfl) (by kernel_rfl) (fun _ _ _ h => h) (Or.inr ⟨by rfl, rfl⟩) hHeld2 ?_
                (try simp only [Act.put, List.setIfInBounds_toArray, List.set_cons_zero, List.set_cons_succ])
                refine wpAnyH_take (i := 12) (oi := { dst := some 102, op := Op.pick (Operand.tmp 100) (Operand.tmp 101) (Operand.const (Value.bool false)), type := 4, pos := "laws.go:111", after := #[{ on := 10, ground := Ground.data }, { on := 11, ground := Ground.data }, { on := 7, ground := Ground.guard }], guard := some (7, true) }) (v := .bool false) rfl (by kernel_rfl) (by kernel_rfl) (by kernel_rfl) (fun _ _ _ h => h) (Or.inl ⟨by rfl, ?_⟩) hHeld2 ?_
                · intro w' hSw; (try dsimp only at hSw); go_simp
                (try simp only [Act.put, List.setIfInBounds_toArray, List.set_cons_zero, List.set_cons_succ])
                refine wpAnyH_take (i := 13) (oi := { dst := some 103, op := Op.binOp BinOp.eql 4 (Operand.tmp 98) (Operand.tmp 102) 4, type := 4, pos := "laws.go:111", after := #[{ on := 8, ground := Ground.data }, { on := 12, ground := Ground.data }, { on := 7, ground := Ground.guard }], guard := some (7, true) }) (v := .bool true) rfl (by kernel_rfl) (by kernel_rfl) (by kernel_rfl) (fun _ _ _ h => h) (Or.inl ⟨by rfl, ?_⟩) hHeld2 ?_
                · intro w' hSw; (try dsimp only at hSw); go_simp
                (try simp only [Act.put, List.setIfInBounds_toArray, List.set_cons_zero, List.set_cons_succ])
                refine wpAnyH_take (i := 14) (oi := { dst := some 104, op := Op.pick (Operand.tmp 97) (Operand.tmp 103) (Operand.const (Value.bool false)), type := 4, pos := "laws.go:111", after := #[{ on := 7, ground := Ground.data }, { on := 13, ground := Ground.data }], guard := none }) (v := .bool true) rfl (by kernel_rfl) (by kernel_rfl) (by kernel_rfl) (fun _ _ _ h => h) (Or.inl ⟨by rfl, ?_⟩) hHeld2 ?_
                · intro w' hSw; (try dsimp only at hSw); go_simp
                (try simp only [Act.put, List.setIfInBounds_toArray, List.set_cons_zero, List.set_cons_succ])
                refine wpAnyH_take (i := 15) (oi := { dst := some 105, op := Op.move (Operand.tmp 104), type := 4, pos := "laws.go:111", after := #[{ on := 14, ground := Ground.data }, { on := 10, ground := Ground.chain }], guard := none }) (v := .bool true) rfl (by kernel_rfl) (by kernel_rfl) (by kernel_rfl) (fun _ _ _ h => h) (Or.inl ⟨by rfl, ?_⟩) hHeld2 ?_
                · intro w' hSw; (try dsimp only at hSw); go_simp
                (try simp only [Act.put, List.setIfInBounds_toArray, List.set_cons_zero, List.set_cons_succ])
                refine wpAnyH_take (i := 16) (oi := { dst := some 106, op := Op.move (Operand.tmp 15), type := 4, pos := "laws.go:111", after := #[{ on := 15, ground := Ground.guard }], guard := some (15, true) }) (v := .bool false) rfl (by kernel_rfl) (by kernel_rfl) (by kernel_rfl) (fun _ _ _ h => h) (Or.inl ⟨by rfl, ?_⟩) hHeld2 ?_
                · intro w' hSw; (try dsimp only at hSw); go_simp
                (try simp only [Act.put, List.setIfInBounds_toArray, List.set_cons_zero, List.set_cons_succ])
                refine wpAnyH_take (i := 17) (oi := { dst := some 107, op := Op.unOp UnOp.not 4 (Operand.tmp 106), type := 4, pos := "laws.go:111", after := #[{ on := 16, ground := Ground.data }, { on := 15, ground := Ground.guard }], guard := some (15, true) }) (v := .bool true) rfl (by kernel_rfl) (by kernel_rfl) (by kernel_rfl) (fun _ _ _ h => h) (Or.inl ⟨by rfl, ?_⟩) hHeld2 ?_
                · intro w' hSw; (try dsimp only at hSw); go_simp
                (try simp only [Act.put, List.setIfInBounds_toArray, List.set_cons_zero, List.set_cons_succ])
                refine wpAnyH_take (i := 18) (oi := { dst := some 108, op := Op.move (Operand.tmp 107), type := 4, pos := "laws.go:111", after := #[{ on := 17, ground := Ground.data }, { on := 15, ground := Ground.chain }, { on := 15, ground := Ground.guard }], guard := some (15, true) }) (v := .bool true) rfl (by kernel_rfl) (by kernel_rfl) (by kernel_rfl) (fun _ _ _ h => h) (Or.inl ⟨by rfl, ?_⟩) hHeld2 ?_
                · intro w' hSw; (try dsimp only at hSw); go_simp
                (try simp only [Act.put, List.setIfInBounds_toArray, List.set_cons_zero, List.set_cons_succ])
                refine wpAnyH_take (i := 19) (oi := { dst := some 109, op := Op.load 29 (Operand.tmp 14), type := 29, pos := "laws.go:111", after := #[{ on := 18, ground := Ground.guard }], guard := some (18, false) }) (v := undef) rfl (by kernel_rfl) (by kernel_rfl) (by kernel_rfl) (fun _ _ _ h => h) (Or.inr ⟨by rfl, rfl⟩) hHeld2 ?_
                (try simp only [Act.put, List.setIfInBounds_toArray, List.set_cons_zero, List.set_cons_succ])
                refine wpAnyH_take (i := 20) (oi := { dst := some 110, op := Op.load 29 (Operand.tmp 18), type := 29, pos := "laws.go:111", after := #[{ on := 18, ground := Ground.guard }], guard := some (18, false) }) (v := undef) rfl (by kernel_rfl) (by kernel_rfl) (by kernel_rfl) (fun _ _ _ h => h) (Or.inr ⟨by rfl, rfl⟩) hHeld2 ?_
                (try simp only [Act.put, List.setIfInBounds_toArray, List.set_cons_zero, List.set_cons_succ])
                refine wpAnyH_take (i := 21) (oi := { dst := some 111, op := Op.call { callee := Callee.value (Operand.func 37), args := #[Operand.tmp 109, Operand.tmp 110], argTypes := #[29, 29] }, type := 4, pos := "laws.go:111", after := #[{ on := 19, ground := Ground.data }, { on := 20, ground := Ground.data }, { on := 18, ground := Ground.chain }, { on := 18, ground := Ground.guard }], guard := some (18, false) }) (v := undef) rfl (by kernel_rfl) (by kernel_rfl) (by kernel_rfl) (fun _ _ _ h => h) (Or.inr ⟨by rfl, rfl⟩) hHeld2 ?_
                (try simp only [Act.put, List.setIfInBounds_toArray, List.set_cons_zero, List.set_cons_succ])
                refine wpAnyH_take (i := 22) (oi := { dst := some 112, op := Op.pick (Operand.tmp 108) (Operand.const (Value.bool true)) (Operand.tmp 111), type := 4, pos := "laws.go:111", after := #[{ on := 18, ground := Ground.data }, { on := 21, ground := Ground.data }, { on := 15, ground := Ground.guard }], guard := some (15, true) }) (v := .bool true) rfl (by kernel_rfl) (by kernel_rfl) (by kernel_rfl) (fun _ _ _ h => h) (Or.inl ⟨by rfl, ?_⟩) hHeld2 ?_
                · intro w' hSw; (try dsimp only at hSw); go_simp
                (try simp only [Act.put, List.setIfInBounds_toArray, List.set_cons_zero, List.set_cons_succ])
                refine wpAnyH_take (i := 23) (oi := { dst := some 113, op := Op.pick (Operand.tmp 105) (Operand.tmp 112) (Operand.const (Value.bool false)), type := 4, pos := "laws.go:111", after := #[{ on := 15, ground := Ground.data }, { on := 22, ground := Ground.data }], guard := none }) (v := .bool true) rfl (by kernel_rfl) (by kernel_rfl) (by kernel_rfl) (fun _ _ _ h => h) (Or.inl ⟨by rfl, ?_⟩) hHeld2 ?_
                · intro w' hSw; (try dsimp only at hSw); go_simp
                (try simp only [Act.put, List.setIfInBounds_toArray, List.set_cons_zero, List.set_cons_succ])
                refine wpAnyH_take (i := 24) (oi := { dst := some 4, op := Op.assign (Operand.tmp 113), type := 4, pos := "laws.go:111", after := #[{ on := 23, ground := Ground.data }, { on := 21, ground := Ground.chain }, { on := 0, ground := Ground.phase }, { on := 1, ground := Ground.phase }, { on := 2, ground := Ground.phase }, { on := 3, ground := Ground.phase }, { on := 4, ground := Ground.phase }, { on := 5, ground := Ground.phase }, { on := 6, ground := Ground.phase }, { on := 7, ground := Ground.phase }, { on := 8, ground := Ground.phase }, { on := 9, ground := Ground.phase }, { on := 10, ground := Ground.phase }, { on := 11, ground := Ground.phase }, { on := 12, ground := Ground.phase }, { on := 13, ground := Ground.phase }, { on := 14, ground := Ground.phase }, { on := 15, ground := Ground.phase }, { on := 16, ground := Ground.phase }, { on := 17, ground := Ground.phase }, { on := 18, ground := Ground.phase }, { on := 19, ground := Ground.phase }, { on := 20, ground := Ground.phase }, { on := 21, ground := Ground.phase }, { on := 22, ground := Ground.phase }, { on := 23, ground := Ground.phase }], guard := none }) (v := .bool true) rfl (by kernel_rfl) (by kernel_rfl) (by kernel_rfl) (fun _ _ _ h => h) (Or.inl ⟨by rfl, ?_⟩) hHeld2 ?_
                · intro w' hSw; (try dsimp only at hSw); go_simp
                (try simp only [Act.put, List.setIfInBounds_toArray, List.set_cons_zero, List.set_cons_succ])
                refine wpAnyH_done (by kernel_rfl) ?_ _
                refine NoPanic.normal ?_
                clear hHeld2 s0_ s1_ s2_ s3_ s4_ s5_
                replace hB := (bstep (bstep (hB.alloc hB.size _).drew hb37) hb38)
                have zw38 := hB.size
                go_wp2_with fail
                refine bodyPost_ret (v := .bool true) (by simp [results, Try.results29, go_sem]) rfl ?_
                exact ⟨rfl, hB⟩
      · (try rw [q3])
        have Hq3 := Lib.hid q3
        clear q3
        go_wp2_with fail
        refine (implTypeSameSelf _ _ (meetT t1 u1) _ _ _ hv2.rep.all hv3.rep.all).mono ?_
        rintro e w39 ⟨rfl, hb39⟩
        replace hB := (bstep hB hb39)
        have zw39 := hB.size
        go_wp2_with fail
        refine bodyPost_ret (v := .bool true) (by simp [results, Try.results29, go_sem]) rfl ?_
        exact ⟨rfl, hB⟩
end Go.Proofs.Ytjkkahlcbhcifaa
