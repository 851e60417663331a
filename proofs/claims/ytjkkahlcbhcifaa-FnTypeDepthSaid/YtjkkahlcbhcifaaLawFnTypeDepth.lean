/-
  FnTypeDepth returns true: the walk.
-/
import Derived.Test.YtjkkahlcbhcifaaFn
import Derived.Test.YtjkkahlcbhcifaaDraws
import Derived.Test.YtjkkahlcbhcifaaDrawCh
namespace Go.Proofs.Ytjkkahlcbhcifaa
open Go.RowKit
set_option linter.unusedVariables false
set_option linter.unusedSimpArgs false
set_option maxRecDepth 100000

theorem leaf_FnTypeDepth_0 {t1 u1 : Ty} (h0 : (precB t1 u1) = true) (h1 : (decide ((Ty.depthV u1) ≤ (Ty.depthV t1))) = true) (h2 : (decide ((Ty.depthV t1) ≤ 4)) = true) (h3 : (decide ((Ty.anyV u1) > 0)) = false) : (Ty.same t1 u1) = true := by
  have l := law_FnTypeDepth t1 u1
  first | (simp_all; done) | grind
set_option maxHeartbeats 8000000 in
theorem walk_FnTypeDepth (y0 : Value) (w : World) (r0 : ByRep w w.heap.size y0) :
    Calls Try.prog 28 #[y0] w fun e w' => e = .returned (.bool true) ∧ Below w.heap.size w w' := by
  obtain ⟨a0, n0, q0, rfl⟩ := r0.shape
  go_enter Try.func28, Try.ntmps28
  rcases Bool.eq_false_or_eq_true (decide ((n0 : Int) > 1048576)) with q1 | q1
  · (try rw [q1])
    go_wp2_with fail
    refine bodyPost_ret (v := .bool true) (by simp [results, Try.results28, go_sem]) rfl ?_
    exact ⟨rfl, (Below.refl _ _)⟩
  · (try rw [q1])
    go_wp2_with fail
    refine (specDrawChain _ _ _ (r0.below (Below.refl _ _)) (by first | omega | (simp; done) | (simp; omega))).mono ?_
    rintro e w1 ⟨t1, u1, s1, v1, x1, y1, rfl, hv1, hx1, hy1, hb1⟩
    obtain ⟨kv1, av1, nv1, qv1, rfl⟩ := hv1.shape
    obtain ⟨kx1, ax1, nx1, qx1, rfl⟩ := hx1.shape
    obtain ⟨ky1, ay1, ny1, qy1, rfl⟩ := hy1.shape
    have hB := (bstep (Below.refl _ _) hb1)
    have zw1 := hB.size
    go_wp2_with fail
    refine (implTypeDepth _ t1 _ _ (hv1.below bal3).all).mono ?_
    rintro e w2 ⟨rfl, hb2⟩
    have hi2 := Ty.depthV_bd t1
    replace hB := (bstep (((hB.alloc hB.size _).alloc (hB.alloc hB.size _).size _).alloc ((hB.alloc hB.size _).alloc (hB.alloc hB.size _).size _).size _) hb2)
    have zw2 := hB.size
    have c0_0 : w2.cell? ⟨w1.heap.size, 0, none⟩ = some (.int .i64 kv1) := bcell hb2 (bcell bal1 (bcell bal1 (cell_new (by simp) 0)))
    have c0_1 : w2.cell? ⟨w1.heap.size, 1, none⟩ = some (.slice av1 nv1 qv1) := bcell hb2 (bcell bal1 (bcell bal1 (cell_new (by simp) 1)))
    have c1_0 : w2.cell? ⟨w1.heap.size + 1, 0, none⟩ = some (.int .i64 kx1) := bcell hb2 (bcell bal1 (cell_new (by simp) 0))
    have c1_1 : w2.cell? ⟨w1.heap.size + 1, 1, none⟩ = some (.slice ax1 nx1 qx1) := bcell hb2 (bcell bal1 (cell_new (by simp) 1))
    replace hv1 := (hv1.below (bstep bal3 hb2))
    replace hx1 := (hx1.below (bstep bal3 hb2))
    have d0_w2 := World.block_lt_of_cell? _ _ c0_0
    have d1_w2 := World.block_lt_of_cell? _ _ c1_0
    go_wp2_with fail
    have hS0 := Lib.hid (show (World.drew w2).cell? ⟨w1.heap.size, 0, none⟩ = some (.int .i64 kv1) ∧ (World.drew w2).cell? ⟨w1.heap.size, 1, none⟩ = some (.slice av1 nv1 qv1) ∧ (World.drew w2).cell? ⟨w1.heap.size + 1, 0, none⟩ = some (.int .i64 kx1) ∧ (World.drew w2).cell? ⟨w1.heap.size + 1, 1, none⟩ = some (.slice ax1 nx1 qx1) from ⟨dcell (c0_0), dcell (c0_1), dcell (c1_0), dcell (c1_1)⟩)
    have hSb := Lib.hid (show ∀ X Y : World, Below X.heap.size X Y → (X.cell? ⟨w1.heap.size, 0, none⟩ = some (.int .i64 kv1) ∧ X.cell? ⟨w1.heap.size, 1, none⟩ = some (.slice av1 nv1 qv1) ∧ X.cell? ⟨w1.heap.size + 1, 0, none⟩ = some (.int .i64 kx1) ∧ X.cell? ⟨w1.heap.size + 1, 1, none⟩ = some (.slice ax1 nx1 qx1)) → (Y.cell? ⟨w1.heap.size, 0, none⟩ = some (.int .i64 kv1) ∧ Y.cell? ⟨w1.heap.size, 1, none⟩ = some (.slice av1 nv1 qv1) ∧ Y.cell? ⟨w1.heap.size + 1, 0, none⟩ = some (.int .i64 kx1) ∧ Y.cell? ⟨w1.heap.size + 1, 1, none⟩ = some (.slice ax1 nx1 qx1)) from fun X Y h s => ⟨bcell h s.1, bcell h s.2.1, bcell h s.2.2.1, bcell h s.2.2.2⟩)
    go_region_held3 (fun w' => w'.cell? ⟨w1.heap.size, 0, none⟩ = some (.int .i64 kv1) ∧ w'.cell? ⟨w1.heap.size, 1, none⟩ = some (.slice av1 nv1 qv1) ∧ w'.cell? ⟨w1.heap.size + 1, 0, none⟩ = some (.int .i64 kx1) ∧ w'.cell? ⟨w1.heap.size + 1, 1, none⟩ = some (.slice ax1 nx1 qx1))
      (repeat (first | with_reducible refine hSb.out _ _ hb6 ?_ | with_reducible refine hSb.out _ _ hb5 ?_ | with_reducible refine hSb.out _ _ hb4 ?_ | with_reducible refine hSb.out _ _ hb3 ?_ | with_reducible exact hS0.out))
      (first | (go_at_call 43; ((with_reducible refine (specTypeDepth _ t1 _ _ (hv1.below bdr).all).mono ?_); rintro e w3 ⟨rfl, hb3⟩; have hi3 := Ty.depthV_bd t1)) | (go_at_call 49; ((with_reducible refine (implCountAny _ t1 _ _ (hv1.below (bstep bdr hb3)).all).mono ?_); rintro e w4 ⟨rfl, hb4⟩; have hi4 := Ty.anyV_bd t1)) | (go_at_call 48; ((with_reducible refine (specCountAny _ t1 _ _ (hv1.below (bstep (bstep bdr hb3) hb4)).all).mono ?_); rintro e w5 ⟨rfl, hb5⟩; have hi5 := Ty.anyV_bd t1)) | (go_at_call 53; ((with_reducible refine (implPreciseB _ _ t1 u1 _ _ _ (hv1.below (bstep (bstep (bstep bdr hb3) hb4) hb5)).all (hx1.below (bstep (bstep (bstep bdr hb3) hb4) hb5)).all).mono ?_); rintro e w6 ⟨rfl, hb6⟩)))
    replace hB := (bstep (bstep (bstep (bstep hB.drew hb3) hb4) hb5) hb6)
    have zw6 := hB.size
    replace c1_0 : w6.cell? ⟨w1.heap.size + 1, 0, none⟩ = some (.int .i64 kx1) := bcell hb6 (bcell hb5 (bcell hb4 (bcell hb3 (dcell (c1_0)))))
    replace c1_1 : w6.cell? ⟨w1.heap.size + 1, 1, none⟩ = some (.slice ax1 nx1 qx1) := bcell hb6 (bcell hb5 (bcell hb4 (bcell hb3 (dcell (c1_1)))))
    replace c0_0 : w6.cell? ⟨w1.heap.size, 0, none⟩ = some (.int .i64 kv1) := bcell hb6 (bcell hb5 (bcell hb4 (bcell hb3 (dcell (c0_0)))))
    replace c0_1 : w6.cell? ⟨w1.heap.size, 1, none⟩ = some (.slice av1 nv1 qv1) := bcell hb6 (bcell hb5 (bcell hb4 (bcell hb3 (dcell (c0_1)))))
    replace hx1 := (hx1.below (bstep (bstep (bstep (bstep bdr hb3) hb4) hb5) hb6))
    replace hv1 := (hv1.below (bstep (bstep (bstep (bstep bdr hb3) hb4) hb5) hb6))
    have d1_w6 := World.block_lt_of_cell? _ _ c1_0
    have d0_w6 := World.block_lt_of_cell? _ _ c0_0
    rcases Bool.eq_false_or_eq_true (precB t1 u1) with q2 | q2
    · (try rw [q2])
      have Hq2 := Lib.hid q2
      clear q2
      have q3 : (decide ((Ty.depthV u1) ≤ (Ty.depthV t1))) = true := decide_eq_true (law_FnTypeDepth t1 u1 Hq2.out).1
      have q4 : (decide ((Ty.depthV t1) ≤ 4)) = true := decide_eq_true (law_FnTypeDepth t1 u1 Hq2.out).2.1
      rcases Bool.eq_false_or_eq_true (decide ((Ty.anyV u1) > 0)) with q5 | q5
      · skip
        go_wp2_with fail
        refine (implTypeDepth _ u1 _ _ hx1.all).mono ?_
        rintro e w7 ⟨rfl, hb7⟩
        have hi7 := Ty.depthV_bd u1
        replace hB := (bstep hB hb7)
        have zw7 := hB.size
        replace c1_0 : w7.cell? ⟨w1.heap.size + 1, 0, none⟩ = some (.int .i64 kx1) := bcell hb7 (c1_0)
        replace c1_1 : w7.cell? ⟨w1.heap.size + 1, 1, none⟩ = some (.slice ax1 nx1 qx1) := bcell hb7 (c1_1)
        replace hx1 := (hx1.below hb7)
        have d1_w7 := World.block_lt_of_cell? _ _ c1_0
        go_wp2_with fail
        refine (implCountAny _ u1 _ _ hx1.all).mono ?_
        rintro e w8 ⟨rfl, hb8⟩
        have hi8 := Ty.anyV_bd u1
        replace hB := (bstep hB hb8)
        have zw8 := hB.size
        go_wp2_with fail
        refine bodyPost_ret (v := .bool true) (by simp [results, Try.results28, go_sem]) rfl ?_
        exact ⟨rfl, hB⟩
      · skip
        go_wp2_with fail
        refine (implTypeDepth _ u1 _ _ hx1.all).mono ?_
        rintro e w9 ⟨rfl, hb9⟩
        have hi9 := Ty.depthV_bd u1
        replace hB := (bstep hB hb9)
        have zw9 := hB.size
        replace c1_0 : w9.cell? ⟨w1.heap.size + 1, 0, none⟩ = some (.int .i64 kx1) := bcell hb9 (c1_0)
        replace c1_1 : w9.cell? ⟨w1.heap.size + 1, 1, none⟩ = some (.slice ax1 nx1 qx1) := bcell hb9 (c1_1)
        replace c0_0 : w9.cell? ⟨w1.heap.size, 0, none⟩ = some (.int .i64 kv1) := bcell hb9 (c0_0)
        replace c0_1 : w9.cell? ⟨w1.heap.size, 1, none⟩ = some (.slice av1 nv1 qv1) := bcell hb9 (c0_1)
        replace hx1 := (hx1.below hb9)
        replace hv1 := (hv1.below hb9)
        have d1_w9 := World.block_lt_of_cell? _ _ c1_0
        have d0_w9 := World.block_lt_of_cell? _ _ c0_0
        go_wp2_with fail
        refine (implCountAny _ u1 _ _ hx1.all).mono ?_
        rintro e w10 ⟨rfl, hb10⟩
        have hi10 := Ty.anyV_bd u1
        replace hB := (bstep hB hb10)
        have zw10 := hB.size
        replace c0_0 : w10.cell? ⟨w1.heap.size, 0, none⟩ = some (.int .i64 kv1) := bcell hb10 (c0_0)
        replace c0_1 : w10.cell? ⟨w1.heap.size, 1, none⟩ = some (.slice av1 nv1 qv1) := bcell hb10 (c0_1)
        replace c1_0 : w10.cell? ⟨w1.heap.size + 1, 0, none⟩ = some (.int .i64 kx1) := bcell hb10 (c1_0)
        replace c1_1 : w10.cell? ⟨w1.heap.size + 1, 1, none⟩ = some (.slice ax1 nx1 qx1) := bcell hb10 (c1_1)
        replace hv1 := (hv1.below hb10)
        replace hx1 := (hx1.below hb10)
        have d0_w10 := World.block_lt_of_cell? _ _ c0_0
        have d1_w10 := World.block_lt_of_cell? _ _ c1_0
        go_wp2_with fail
        refine (implTypeSame _ _ t1 u1 _ _ _ hv1.all hx1.all).mono ?_
        rintro e w11 ⟨rfl, hb11⟩
        replace hB := (bstep hB hb11)
        have zw11 := hB.size
        go_wp2_with fail
        have hE := leaf_FnTypeDepth_0 Hq2.out q3 q4 q5
        refine bodyPost_ret (v := .bool (Ty.same t1 u1)) (by simp [results, Try.results28, go_sem]) rfl ?_
        exact ⟨by rw [hE], hB⟩
    · (try rw [q2])
      have Hq2 := Lib.hid q2
      clear q2
      go_wp2_with fail
      have hS0 := Lib.hid (show (World.drew w6).cell? ⟨w1.heap.size, 0, none⟩ = some (.int .i64 kv1) ∧ (World.drew w6).cell? ⟨w1.heap.size, 1, none⟩ = some (.slice av1 nv1 qv1) from ⟨dcell (c0_0), dcell (c0_1)⟩)
      have hSb := Lib.hid (show ∀ X Y : World, Below X.heap.size X Y → (X.cell? ⟨w1.heap.size, 0, none⟩ = some (.int .i64 kv1) ∧ X.cell? ⟨w1.heap.size, 1, none⟩ = some (.slice av1 nv1 qv1)) → (Y.cell? ⟨w1.heap.size, 0, none⟩ = some (.int .i64 kv1) ∧ Y.cell? ⟨w1.heap.size, 1, none⟩ = some (.slice av1 nv1 qv1)) from fun X Y h s => ⟨bcell h s.1, bcell h s.2⟩)
      go_region_held3 (fun w' => w'.cell? ⟨w1.heap.size, 0, none⟩ = some (.int .i64 kv1) ∧ w'.cell? ⟨w1.heap.size, 1, none⟩ = some (.slice av1 nv1 qv1))
        (repeat (first | with_reducible refine hSb.out _ _ hb14 ?_ | with_reducible refine hSb.out _ _ hb13 ?_ | with_reducible refine hSb.out _ _ hb12 ?_ | with_reducible exact hS0.out))
        (first | (go_at_call 43; ((with_reducible refine (specTypeDepth _ t1 _ _ (hv1.below bdr).all).mono ?_); rintro e w12 ⟨rfl, hb12⟩; have hi12 := Ty.depthV_bd t1)) | (go_at_call 49; ((with_reducible refine (implCountAny _ t1 _ _ (hv1.below (bstep bdr hb12)).all).mono ?_); rintro e w13 ⟨rfl, hb13⟩; have hi13 := Ty.anyV_bd t1)) | (go_at_call 48; ((with_reducible refine (specCountAny _ t1 _ _ (hv1.below (bstep (bstep bdr hb12) hb13)).all).mono ?_); rintro e w14 ⟨rfl, hb14⟩; have hi14 := Ty.anyV_bd t1)))
      replace hB := (bstep (bstep (bstep hB.drew hb12) hb13) hb14)
      have zw14 := hB.size
      go_wp2_with fail
      refine bodyPost_ret (v := .bool true) (by simp [results, Try.results28, go_sem]) rfl ?_
      exact ⟨rfl, hB⟩
end Go.Proofs.Ytjkkahlcbhcifaa
