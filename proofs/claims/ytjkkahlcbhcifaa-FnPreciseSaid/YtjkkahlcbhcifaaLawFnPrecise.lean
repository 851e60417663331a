/-
  FnPrecise returns true: the walk.
-/
import Derived.Test.YtjkkahlcbhcifaaFn
import Derived.Test.YtjkkahlcbhcifaaDraws
import Derived.Test.YtjkkahlcbhcifaaDrawCh
namespace Go.Proofs.Ytjkkahlcbhcifaa
open Go.RowKit
set_option linter.unusedVariables false
set_option linter.unusedSimpArgs false
set_option maxRecDepth 100000

theorem leaf_FnPrecise_0 {s1 t1 u1 : Ty} (h0 : (precB t1 u1) = true) (h1 : (precB u1 s1) = true) (h2 : (precB t1 s1) = true) (h3 : (precB u1 t1) = true) : (Ty.same t1 u1) = true := by
  have l := law_FnPrecise t1 u1 s1
  first | (simp_all; done) | grind

theorem leaf_FnPrecise_1 {s1 t1 u1 : Ty} (h0 : (precB t1 u1) = true) (h1 : (precB u1 s1) = true) (h2 : (precB t1 s1) = false) : False := by
  have l := law_FnPrecise t1 u1 s1
  first | (simp_all; done) | grind

theorem leaf_FnPrecise_2 {s1 t1 u1 : Ty} (h0 : (precB t1 u1) = true) (h1 : (precB u1 s1) = false) (h2 : (precB u1 t1) = true) : (Ty.same t1 u1) = true := by
  have l := law_FnPrecise t1 u1 s1
  first | (simp_all; done) | grind
set_option maxHeartbeats 8000000 in
theorem walk_FnPrecise (y0 : Value) (w : World) (r0 : ByRep w w.heap.size y0) :
    Calls Try.prog 14 #[y0] w fun e w' => e = .returned (.bool true) ∧ Below w.heap.size w w' := by
  obtain ⟨a0, n0, q0, rfl⟩ := r0.shape
  go_enter Try.func14, Try.ntmps14
  rcases Bool.eq_false_or_eq_true (decide ((n0 : Int) > 1048576)) with q1 | q1
  · (try rw [q1])
    go_wp2_with fail
    refine bodyPost_ret (v := .bool true) (by simp [results, Try.results14, go_sem]) rfl ?_
    exact ⟨rfl, (Below.refl _ _)⟩
  · (try rw [q1])
    go_wp2_with fail
    refine (specDrawChain _ _ _ (r0.below (Below.refl _ _)) (by first | omega | (simp; done) | (simp; omega))).mono ?_
    rintro e w1 ⟨t1, u1, s1, v1, x1, y1, rfl, hv1, hx1, hy1, hb1⟩
    obtain ⟨kv1, av1, nv1, qv1, rfl⟩ := hv1.shape
    obtain ⟨kx1, ax1, nx1, qx1, rfl⟩ := hx1.shape
    obtain ⟨ky1, ay1, ny1, qy1, rfl⟩ := hy1.shape
    have hB := (bstep (Below.refl _ _) hb1)
    have zw1 := hB.size
    go_wp2_with fail
    refine (implPreciseB _ _ t1 u1 _ _ _ (hv1.below bal3).all (hx1.below bal3).all).mono ?_
    rintro e w2 ⟨rfl, hb2⟩
    replace hB := (bstep (((hB.alloc hB.size _).alloc (hB.alloc hB.size _).size _).alloc ((hB.alloc hB.size _).alloc (hB.alloc hB.size _).size _).size _) hb2)
    have zw2 := hB.size
    have c1_0 : w2.cell? ⟨w1.heap.size + 1, 0, none⟩ = some (.int .i64 kx1) := bcell hb2 (bcell bal1 (cell_new (by simp) 0))
    have c1_1 : w2.cell? ⟨w1.heap.size + 1, 1, none⟩ = some (.slice ax1 nx1 qx1) := bcell hb2 (bcell bal1 (cell_new (by simp) 1))
    have c2_0 : w2.cell? ⟨w1.heap.size + 1 + 1, 0, none⟩ = some (.int .i64 ky1) := bcell hb2 (cell_new (by simp) 0)
    have c2_1 : w2.cell? ⟨w1.heap.size + 1 + 1, 1, none⟩ = some (.slice ay1 ny1 qy1) := bcell hb2 (cell_new (by simp) 1)
    have c0_0 : w2.cell? ⟨w1.heap.size, 0, none⟩ = some (.int .i64 kv1) := bcell hb2 (bcell bal1 (bcell bal1 (cell_new (by simp) 0)))
    have c0_1 : w2.cell? ⟨w1.heap.size, 1, none⟩ = some (.slice av1 nv1 qv1) := bcell hb2 (bcell bal1 (bcell bal1 (cell_new (by simp) 1)))
    replace hx1 := (hx1.below (bstep bal3 hb2))
    replace hy1 := (hy1.below (bstep bal3 hb2))
    replace hv1 := (hv1.below (bstep bal3 hb2))
    have d1_w2 := World.block_lt_of_cell? _ _ c1_0
    have d2_w2 := World.block_lt_of_cell? _ _ c2_0
    have d0_w2 := World.block_lt_of_cell? _ _ c0_0
    go_wp2_with fail
    refine (implPreciseB _ _ u1 s1 _ _ _ hx1.all hy1.all).mono ?_
    rintro e w3 ⟨rfl, hb3⟩
    replace hB := (bstep hB hb3)
    have zw3 := hB.size
    replace c0_0 : w3.cell? ⟨w1.heap.size, 0, none⟩ = some (.int .i64 kv1) := bcell hb3 (c0_0)
    replace c0_1 : w3.cell? ⟨w1.heap.size, 1, none⟩ = some (.slice av1 nv1 qv1) := bcell hb3 (c0_1)
    replace c1_0 : w3.cell? ⟨w1.heap.size + 1, 0, none⟩ = some (.int .i64 kx1) := bcell hb3 (c1_0)
    replace c1_1 : w3.cell? ⟨w1.heap.size + 1, 1, none⟩ = some (.slice ax1 nx1 qx1) := bcell hb3 (c1_1)
    replace c2_0 : w3.cell? ⟨w1.heap.size + 1 + 1, 0, none⟩ = some (.int .i64 ky1) := bcell hb3 (c2_0)
    replace c2_1 : w3.cell? ⟨w1.heap.size + 1 + 1, 1, none⟩ = some (.slice ay1 ny1 qy1) := bcell hb3 (c2_1)
    replace hv1 := (hv1.below hb3)
    replace hx1 := (hx1.below hb3)
    replace hy1 := (hy1.below hb3)
    have d0_w3 := World.block_lt_of_cell? _ _ c0_0
    have d1_w3 := World.block_lt_of_cell? _ _ c1_0
    have d2_w3 := World.block_lt_of_cell? _ _ c2_0
    go_wp2_with fail
    have hS0 := Lib.hid (show (World.drew w3).cell? ⟨w1.heap.size, 0, none⟩ = some (.int .i64 kv1) ∧ (World.drew w3).cell? ⟨w1.heap.size, 1, none⟩ = some (.slice av1 nv1 qv1) ∧ (World.drew w3).cell? ⟨w1.heap.size + 1, 0, none⟩ = some (.int .i64 kx1) ∧ (World.drew w3).cell? ⟨w1.heap.size + 1, 1, none⟩ = some (.slice ax1 nx1 qx1) ∧ (World.drew w3).cell? ⟨w1.heap.size + 1 + 1, 0, none⟩ = some (.int .i64 ky1) ∧ (World.drew w3).cell? ⟨w1.heap.size + 1 + 1, 1, none⟩ = some (.slice ay1 ny1 qy1) from ⟨dcell (c0_0), dcell (c0_1), dcell (c1_0), dcell (c1_1), dcell (c2_0), dcell (c2_1)⟩)
    have hSb := Lib.hid (show ∀ X Y : World, Below X.heap.size X Y → (X.cell? ⟨w1.heap.size, 0, none⟩ = some (.int .i64 kv1) ∧ X.cell? ⟨w1.heap.size, 1, none⟩ = some (.slice av1 nv1 qv1) ∧ X.cell? ⟨w1.heap.size + 1, 0, none⟩ = some (.int .i64 kx1) ∧ X.cell? ⟨w1.heap.size + 1, 1, none⟩ = some (.slice ax1 nx1 qx1) ∧ X.cell? ⟨w1.heap.size + 1 + 1, 0, none⟩ = some (.int .i64 ky1) ∧ X.cell? ⟨w1.heap.size + 1 + 1, 1, none⟩ = some (.slice ay1 ny1 qy1)) → (Y.cell? ⟨w1.heap.size, 0, none⟩ = some (.int .i64 kv1) ∧ Y.cell? ⟨w1.heap.size, 1, none⟩ = some (.slice av1 nv1 qv1) ∧ Y.cell? ⟨w1.heap.size + 1, 0, none⟩ = some (.int .i64 kx1) ∧ Y.cell? ⟨w1.heap.size + 1, 1, none⟩ = some (.slice ax1 nx1 qx1) ∧ Y.cell? ⟨w1.heap.size + 1 + 1, 0, none⟩ = some (.int .i64 ky1) ∧ Y.cell? ⟨w1.heap.size + 1 + 1, 1, none⟩ = some (.slice ay1 ny1 qy1)) from fun X Y h s => ⟨bcell h s.1, bcell h s.2.1, bcell h s.2.2.1, bcell h s.2.2.2.1, bcell h s.2.2.2.2.1, bcell h s.2.2.2.2.2⟩)
    go_region_held3 (fun w' => w'.cell? ⟨w1.heap.size, 0, none⟩ = some (.int .i64 kv1) ∧ w'.cell? ⟨w1.heap.size, 1, none⟩ = some (.slice av1 nv1 qv1) ∧ w'.cell? ⟨w1.heap.size + 1, 0, none⟩ = some (.int .i64 kx1) ∧ w'.cell? ⟨w1.heap.size + 1, 1, none⟩ = some (.slice ax1 nx1 qx1) ∧ w'.cell? ⟨w1.heap.size + 1 + 1, 0, none⟩ = some (.int .i64 ky1) ∧ w'.cell? ⟨w1.heap.size + 1 + 1, 1, none⟩ = some (.slice ay1 ny1 qy1))
      (repeat (first | with_reducible refine hSb.out _ _ hb7 ?_ | with_reducible refine hSb.out _ _ hb6 ?_ | with_reducible refine hSb.out _ _ hb5 ?_ | with_reducible refine hSb.out _ _ hb4 ?_ | with_reducible exact hS0.out))
      (first | (go_at_call 52; ((with_reducible refine (specPreciseB _ _ t1 u1 _ _ _ (hv1.below bdr).all (hx1.below bdr).all).mono ?_); rintro e w4 ⟨rfl, hb4⟩)) | (go_at_call 52; ((with_reducible refine (specPreciseB _ _ u1 s1 _ _ _ (hx1.below (bstep bdr hb4)).all (hy1.below (bstep bdr hb4)).all).mono ?_); rintro e w5 ⟨rfl, hb5⟩)) | (go_at_call 53; ((with_reducible refine (implPreciseSelf _ _ t1 _ _ _ (hv1.below (bstep (bstep bdr hb4) hb5)).all (hv1.below (bstep (bstep bdr hb4) hb5)).all).mono ?_); rintro e w6 ⟨rfl, hb6⟩)) | (go_at_call 40; ((with_reducible refine (implTypeValid _ t1 _ _ (hv1.below (bstep (bstep (bstep bdr hb4) hb5) hb6)).all).mono ?_); rintro e w7 ⟨rfl, hb7⟩)))
    replace hB := (bstep (bstep (bstep (bstep hB.drew hb4) hb5) hb6) hb7)
    have zw7 := hB.size
    replace c0_0 : w7.cell? ⟨w1.heap.size, 0, none⟩ = some (.int .i64 kv1) := bcell hb7 (bcell hb6 (bcell hb5 (bcell hb4 (dcell (c0_0)))))
    replace c0_1 : w7.cell? ⟨w1.heap.size, 1, none⟩ = some (.slice av1 nv1 qv1) := bcell hb7 (bcell hb6 (bcell hb5 (bcell hb4 (dcell (c0_1)))))
    replace c2_0 : w7.cell? ⟨w1.heap.size + 1 + 1, 0, none⟩ = some (.int .i64 ky1) := bcell hb7 (bcell hb6 (bcell hb5 (bcell hb4 (dcell (c2_0)))))
    replace c2_1 : w7.cell? ⟨w1.heap.size + 1 + 1, 1, none⟩ = some (.slice ay1 ny1 qy1) := bcell hb7 (bcell hb6 (bcell hb5 (bcell hb4 (dcell (c2_1)))))
    replace c1_0 : w7.cell? ⟨w1.heap.size + 1, 0, none⟩ = some (.int .i64 kx1) := bcell hb7 (bcell hb6 (bcell hb5 (bcell hb4 (dcell (c1_0)))))
    replace c1_1 : w7.cell? ⟨w1.heap.size + 1, 1, none⟩ = some (.slice ax1 nx1 qx1) := bcell hb7 (bcell hb6 (bcell hb5 (bcell hb4 (dcell (c1_1)))))
    replace hv1 := (hv1.below (bstep (bstep (bstep (bstep bdr hb4) hb5) hb6) hb7))
    replace hy1 := (hy1.below (bstep (bstep (bstep (bstep bdr hb4) hb5) hb6) hb7))
    replace hx1 := (hx1.below (bstep (bstep (bstep (bstep bdr hb4) hb5) hb6) hb7))
    have d0_w7 := World.block_lt_of_cell? _ _ c0_0
    have d2_w7 := World.block_lt_of_cell? _ _ c2_0
    have d1_w7 := World.block_lt_of_cell? _ _ c1_0
    rcases Bool.eq_false_or_eq_true (precB t1 u1) with q2 | q2
    · (try rw [q2])
      have Hq2 := Lib.hid q2
      clear q2
      rcases Bool.eq_false_or_eq_true (precB u1 s1) with q3 | q3
      · (try rw [q3])
        have Hq3 := Lib.hid q3
        clear q3
        rcases Bool.eq_false_or_eq_true (precB t1 s1) with q4 | q4
        · have Hq4 := Lib.hid q4
          clear q4
          rcases Bool.eq_false_or_eq_true (precB u1 t1) with q5 | q5
          · have Hq5 := Lib.hid q5
            clear q5
            go_wp2_with fail
            refine (implPreciseB _ _ t1 s1 _ _ _ hv1.all hy1.all).mono ?_
            rintro e w8 ⟨rfl, hb8⟩
            rw [Hq4.out]
            replace hB := (bstep hB hb8)
            have zw8 := hB.size
            replace c1_0 : w8.cell? ⟨w1.heap.size + 1, 0, none⟩ = some (.int .i64 kx1) := bcell hb8 (c1_0)
            replace c1_1 : w8.cell? ⟨w1.heap.size + 1, 1, none⟩ = some (.slice ax1 nx1 qx1) := bcell hb8 (c1_1)
            replace c0_0 : w8.cell? ⟨w1.heap.size, 0, none⟩ = some (.int .i64 kv1) := bcell hb8 (c0_0)
            replace c0_1 : w8.cell? ⟨w1.heap.size, 1, none⟩ = some (.slice av1 nv1 qv1) := bcell hb8 (c0_1)
            replace hx1 := (hx1.below hb8)
            replace hv1 := (hv1.below hb8)
            have d1_w8 := World.block_lt_of_cell? _ _ c1_0
            have d0_w8 := World.block_lt_of_cell? _ _ c0_0
            go_wp2_with fail
            refine (implPreciseB _ _ u1 t1 _ _ _ hx1.all hv1.all).mono ?_
            rintro e w9 ⟨rfl, hb9⟩
            rw [Hq5.out]
            replace hB := (bstep hB hb9)
            have zw9 := hB.size
            replace c0_0 : w9.cell? ⟨w1.heap.size, 0, none⟩ = some (.int .i64 kv1) := bcell hb9 (c0_0)
            replace c0_1 : w9.cell? ⟨w1.heap.size, 1, none⟩ = some (.slice av1 nv1 qv1) := bcell hb9 (c0_1)
            replace c1_0 : w9.cell? ⟨w1.heap.size + 1, 0, none⟩ = some (.int .i64 kx1) := bcell hb9 (c1_0)
            replace c1_1 : w9.cell? ⟨w1.heap.size + 1, 1, none⟩ = some (.slice ax1 nx1 qx1) := bcell hb9 (c1_1)
            replace hv1 := (hv1.below hb9)
            replace hx1 := (hx1.below hb9)
            have d0_w9 := World.block_lt_of_cell? _ _ c0_0
            have d1_w9 := World.block_lt_of_cell? _ _ c1_0
            go_wp2_with fail
            refine (implTypeSame _ _ t1 u1 _ _ _ hv1.all hx1.all).mono ?_
            rintro e w10 ⟨rfl, hb10⟩
            replace hB := (bstep hB hb10)
            have zw10 := hB.size
            go_wp2_with fail
            have hE := leaf_FnPrecise_0 Hq2.out Hq3.out Hq4.out Hq5.out
            refine bodyPost_ret (v := .bool (Ty.same t1 u1)) (by simp [results, Try.results14, go_sem]) rfl ?_
            exact ⟨by rw [hE], hB⟩
          · have Hq5 := Lib.hid q5
            clear q5
            go_wp2_with fail
            refine (implPreciseB _ _ t1 s1 _ _ _ hv1.all hy1.all).mono ?_
            rintro e w11 ⟨rfl, hb11⟩
            rw [Hq4.out]
            replace hB := (bstep hB hb11)
            have zw11 := hB.size
            replace c1_0 : w11.cell? ⟨w1.heap.size + 1, 0, none⟩ = some (.int .i64 kx1) := bcell hb11 (c1_0)
            replace c1_1 : w11.cell? ⟨w1.heap.size + 1, 1, none⟩ = some (.slice ax1 nx1 qx1) := bcell hb11 (c1_1)
            replace c0_0 : w11.cell? ⟨w1.heap.size, 0, none⟩ = some (.int .i64 kv1) := bcell hb11 (c0_0)
            replace c0_1 : w11.cell? ⟨w1.heap.size, 1, none⟩ = some (.slice av1 nv1 qv1) := bcell hb11 (c0_1)
            replace hx1 := (hx1.below hb11)
            replace hv1 := (hv1.below hb11)
            have d1_w11 := World.block_lt_of_cell? _ _ c1_0
            have d0_w11 := World.block_lt_of_cell? _ _ c0_0
            go_wp2_with fail
            refine (implPreciseB _ _ u1 t1 _ _ _ hx1.all hv1.all).mono ?_
            rintro e w12 ⟨rfl, hb12⟩
            rw [Hq5.out]
            replace hB := (bstep hB hb12)
            have zw12 := hB.size
            go_wp2_with fail
            refine bodyPost_ret (v := .bool true) (by simp [results, Try.results14, go_sem]) rfl ?_
            exact ⟨rfl, hB⟩
        · have Hq4 := Lib.hid q4
          clear q4
          go_wp2_with fail
          refine (implPreciseB _ _ t1 s1 _ _ _ hv1.all hy1.all).mono ?_
          rintro e w13 ⟨rfl, hb13⟩
          rw [Hq4.out]
          replace hB := (bstep hB hb13)
          have zw13 := hB.size
          go_wp2_with fail
          exact (leaf_FnPrecise_1 Hq2.out Hq3.out Hq4.out).elim
      · (try rw [q3])
        have Hq3 := Lib.hid q3
        clear q3
        rcases Bool.eq_false_or_eq_true (precB u1 t1) with q6 | q6
        · have Hq6 := Lib.hid q6
          clear q6
          go_wp2_with fail
          refine (implPreciseB _ _ u1 t1 _ _ _ hx1.all hv1.all).mono ?_
          rintro e w14 ⟨rfl, hb14⟩
          rw [Hq6.out]
          replace hB := (bstep hB hb14)
          have zw14 := hB.size
          replace c0_0 : w14.cell? ⟨w1.heap.size, 0, none⟩ = some (.int .i64 kv1) := bcell hb14 (c0_0)
          replace c0_1 : w14.cell? ⟨w1.heap.size, 1, none⟩ = some (.slice av1 nv1 qv1) := bcell hb14 (c0_1)
          replace c1_0 : w14.cell? ⟨w1.heap.size + 1, 0, none⟩ = some (.int .i64 kx1) := bcell hb14 (c1_0)
          replace c1_1 : w14.cell? ⟨w1.heap.size + 1, 1, none⟩ = some (.slice ax1 nx1 qx1) := bcell hb14 (c1_1)
          replace hv1 := (hv1.below hb14)
          replace hx1 := (hx1.below hb14)
          have d0_w14 := World.block_lt_of_cell? _ _ c0_0
          have d1_w14 := World.block_lt_of_cell? _ _ c1_0
          go_wp2_with fail
          refine (implTypeSame _ _ t1 u1 _ _ _ hv1.all hx1.all).mono ?_
          rintro e w15 ⟨rfl, hb15⟩
          replace hB := (bstep hB hb15)
          have zw15 := hB.size
          go_wp2_with fail
          have hE := leaf_FnPrecise_2 Hq2.out Hq3.out Hq6.out
          refine bodyPost_ret (v := .bool (Ty.same t1 u1)) (by simp [results, Try.results14, go_sem]) rfl ?_
          exact ⟨by rw [hE], hB⟩
        · have Hq6 := Lib.hid q6
          clear q6
          go_wp2_with fail
          refine (implPreciseB _ _ u1 t1 _ _ _ hx1.all hv1.all).mono ?_
          rintro e w16 ⟨rfl, hb16⟩
          rw [Hq6.out]
          replace hB := (bstep hB hb16)
          have zw16 := hB.size
          go_wp2_with fail
          refine bodyPost_ret (v := .bool true) (by simp [results, Try.results14, go_sem]) rfl ?_
          exact ⟨rfl, hB⟩
    · (try rw [q2])
      have Hq2 := Lib.hid q2
      clear q2
      go_wp2_with fail
      refine bodyPost_ret (v := .bool true) (by simp [results, Try.results14, go_sem]) rfl ?_
      exact ⟨rfl, hB⟩
end Go.Proofs.Ytjkkahlcbhcifaa
