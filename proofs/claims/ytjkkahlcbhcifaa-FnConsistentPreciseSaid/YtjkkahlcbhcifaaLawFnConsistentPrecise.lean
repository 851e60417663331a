/-
  FnConsistentPrecise returns true: the walk.
-/
import Derived.Test.YtjkkahlcbhcifaaFn
import Derived.Test.YtjkkahlcbhcifaaDraws
import Derived.Test.YtjkkahlcbhcifaaDrawCh
namespace Go.Proofs.Ytjkkahlcbhcifaa
open Go.RowKit
set_option linter.unusedVariables false
set_option linter.unusedSimpArgs false
set_option maxRecDepth 100000

theorem leaf_FnConsistentPrecise_0 {s1 t1 t2 u1 : Ty} (h0 : (precB t1 u1) = true) (h1 : (consB t1 t2) = true) (h2 : (consB u1 t2) = true) (h3 : (precB u1 s1) = true) : (consB t1 s1) = true := by
  have l := law_FnConsistentPrecise t1 u1 s1 t2
  first | (simp_all; done) | grind

theorem leaf_FnConsistentPrecise_1 {t1 t2 u1 : Ty} (h0 : (precB t1 u1) = true) (h1 : (consB t1 t2) = true) (h2 : (consB u1 t2) = false) : False := by
  have l := law_FnConsistentPrecise t1 u1 Ty.none t2
  first | (simp_all; done) | grind

theorem leaf_FnConsistentPrecise_2 {s1 t1 t2 u1 : Ty} (h0 : (precB t1 u1) = true) (h1 : (consB t1 t2) = false) (h2 : (precB u1 s1) = true) : (consB t1 s1) = true := by
  have l := law_FnConsistentPrecise t1 u1 s1 t2
  first | (simp_all; done) | grind
set_option maxHeartbeats 8000000 in
theorem walk_FnConsistentPrecise (y0 y1 : Value) (w : World) (r0 : ByRep w w.heap.size y0) (r1 : ByRep w w.heap.size y1) :
    Calls Try.prog 17 #[y0, y1] w fun e w' => e = .returned (.bool true) ∧ Below w.heap.size w w' := by
  obtain ⟨a0, n0, q0, rfl⟩ := r0.shape
  obtain ⟨a1, n1, q1, rfl⟩ := r1.shape
  go_enter Try.func17, Try.ntmps17
  rcases Bool.eq_false_or_eq_true (decide ((n0 : Int) > 1048576)) with q1 | q1
  · skip
    go_wp2_with fail
    refine bodyPost_ret (v := .bool true) (by simp [results, Try.results17, go_sem]) rfl ?_
    exact ⟨rfl, (Below.refl _ _)⟩
  · skip
    rcases Bool.eq_false_or_eq_true (decide ((n1 : Int) > 1048576)) with q2 | q2
    · (try rw [q2])
      go_wp2_with fail
      refine bodyPost_ret (v := .bool true) (by simp [results, Try.results17, go_sem]) rfl ?_
      exact ⟨rfl, (Below.refl _ _)⟩
    · (try rw [q2])
      go_wp2_with fail
      refine (specDrawChain _ _ _ (r0.below (Below.refl _ _)) (by first | omega | (simp; done) | (simp; omega))).mono ?_
      rintro e w1 ⟨t1, u1, s1, v1, x1, y1, rfl, hv1, hx1, hy1, hb1⟩
      obtain ⟨kv1, av1, nv1, qv1, rfl⟩ := hv1.shape
      obtain ⟨kx1, ax1, nx1, qx1, rfl⟩ := hx1.shape
      obtain ⟨ky1, ay1, ny1, qy1, rfl⟩ := hy1.shape
      have hB := (bstep (Below.refl _ _) hb1)
      have zw1 := hB.size
      go_wp2_with fail
      refine (specDrawConsistent _ _ _ (r1.below (((hB.alloc hB.size _).alloc (hB.alloc hB.size _).size _).alloc ((hB.alloc hB.size _).alloc (hB.alloc hB.size _).size _).size _)) (by first | omega | (simp; done) | (simp; omega))).mono ?_
      rintro e w2 ⟨t2, u2, v2, x2, rfl, hv2, hx2, hb2⟩
      obtain ⟨kv2, av2, nv2, qv2, rfl⟩ := hv2.shape
      obtain ⟨kx2, ax2, nx2, qx2, rfl⟩ := hx2.shape
      replace hB := (bstep (((hB.alloc hB.size _).alloc (hB.alloc hB.size _).size _).alloc ((hB.alloc hB.size _).alloc (hB.alloc hB.size _).size _).size _) hb2)
      have zw2 := hB.size
      have c0_0 : w2.cell? ⟨w1.heap.size, 0, none⟩ = some (.int .i64 kv1) := bcell hb2 (bcell bal1 (bcell bal1 (cell_new (by simp) 0)))
      have c0_1 : w2.cell? ⟨w1.heap.size, 1, none⟩ = some (.slice av1 nv1 qv1) := bcell hb2 (bcell bal1 (bcell bal1 (cell_new (by simp) 1)))
      have c1_0 : w2.cell? ⟨w1.heap.size + 1, 0, none⟩ = some (.int .i64 kx1) := bcell hb2 (bcell bal1 (cell_new (by simp) 0))
      have c1_1 : w2.cell? ⟨w1.heap.size + 1, 1, none⟩ = some (.slice ax1 nx1 qx1) := bcell hb2 (bcell bal1 (cell_new (by simp) 1))
      have c2_0 : w2.cell? ⟨w1.heap.size + 1 + 1, 0, none⟩ = some (.int .i64 ky1) := bcell hb2 (cell_new (by simp) 0)
      have c2_1 : w2.cell? ⟨w1.heap.size + 1 + 1, 1, none⟩ = some (.slice ay1 ny1 qy1) := bcell hb2 (cell_new (by simp) 1)
      replace hv1 := (hv1.below (bstep bal3 hb2))
      replace hx1 := (hx1.below (bstep bal3 hb2))
      replace hy1 := (hy1.below (bstep bal3 hb2))
      have d0_w2 := World.block_lt_of_cell? _ _ c0_0
      have d1_w2 := World.block_lt_of_cell? _ _ c1_0
      have d2_w2 := World.block_lt_of_cell? _ _ c2_0
      go_wp2_with fail
      have s0_ : (World.alloc (World.alloc w2 (Obj.cells #[.int .i64 kv2, .slice av2 nv2 qv2] 29)) (Obj.cells #[.int .i64 kx2, .slice ax2 nx2 qx2] 29)).cell? ⟨w2.heap.size, 0, none⟩ = some (.int .i64 kv2) := bcell bal1 (cell_new (by simp) 0)
      have s1_ : (World.alloc (World.alloc w2 (Obj.cells #[.int .i64 kv2, .slice av2 nv2 qv2] 29)) (Obj.cells #[.int .i64 kx2, .slice ax2 nx2 qx2] 29)).cell? ⟨w2.heap.size, 1, none⟩ = some (.slice av2 nv2 qv2) := bcell bal1 (cell_new (by simp) 1)
      have s2_ : (World.alloc (World.alloc w2 (Obj.cells #[.int .i64 kv2, .slice av2 nv2 qv2] 29)) (Obj.cells #[.int .i64 kx2, .slice ax2 nx2 qx2] 29)).cell? ⟨w2.heap.size + 1, 0, none⟩ = some (.int .i64 kx2) := cell_new (by simp) 0
      have s3_ : (World.alloc (World.alloc w2 (Obj.cells #[.int .i64 kv2, .slice av2 nv2 qv2] 29)) (Obj.cells #[.int .i64 kx2, .slice ax2 nx2 qx2] 29)).cell? ⟨w2.heap.size + 1, 1, none⟩ = some (.slice ax2 nx2 qx2) := cell_new (by simp) 1
      have s4_ : (World.alloc (World.alloc w2 (Obj.cells #[.int .i64 kv2, .slice av2 nv2 qv2] 29)) (Obj.cells #[.int .i64 kx2, .slice ax2 nx2 qx2] 29)).cell? ⟨w1.heap.size, 0, none⟩ = some (.int .i64 kv1) := bcell bal1 (bcell bal1 (c0_0))
      have s5_ : (World.alloc (World.alloc w2 (Obj.cells #[.int .i64 kv2, .slice av2 nv2 qv2] 29)) (Obj.cells #[.int .i64 kx2, .slice ax2 nx2 qx2] 29)).cell? ⟨w1.heap.size, 1, none⟩ = some (.slice av1 nv1 qv1) := bcell bal1 (bcell bal1 (c0_1))
      have s6_ : (World.alloc (World.alloc w2 (Obj.cells #[.int .i64 kv2, .slice av2 nv2 qv2] 29)) (Obj.cells #[.int .i64 kx2, .slice ax2 nx2 qx2] 29)).cell? ⟨w1.heap.size + 1, 0, none⟩ = some (.int .i64 kx1) := bcell bal1 (bcell bal1 (c1_0))
      have s7_ : (World.alloc (World.alloc w2 (Obj.cells #[.int .i64 kv2, .slice av2 nv2 qv2] 29)) (Obj.cells #[.int .i64 kx2, .slice ax2 nx2 qx2] 29)).cell? ⟨w1.heap.size + 1, 1, none⟩ = some (.slice ax1 nx1 qx1) := bcell bal1 (bcell bal1 (c1_1))
      have hS0 := Lib.hid (show (World.drew (World.alloc (World.alloc w2 (Obj.cells #[.int .i64 kv2, .slice av2 nv2 qv2] 29)) (Obj.cells #[.int .i64 kx2, .slice ax2 nx2 qx2] 29))).cell? ⟨w2.heap.size, 0, none⟩ = some (.int .i64 kv2) ∧ (World.drew (World.alloc (World.alloc w2 (Obj.cells #[.int .i64 kv2, .slice av2 nv2 qv2] 29)) (Obj.cells #[.int .i64 kx2, .slice ax2 nx2 qx2] 29))).cell? ⟨w2.heap.size, 1, none⟩ = some (.slice av2 nv2 qv2) ∧ (World.drew (World.alloc (World.alloc w2 (Obj.cells #[.int .i64 kv2, .slice av2 nv2 qv2] 29)) (Obj.cells #[.int .i64 kx2, .slice ax2 nx2 qx2] 29))).cell? ⟨w2.heap.size + 1, 0, none⟩ = some (.int .i64 kx2) ∧ (World.drew (World.alloc (World.alloc w2 (Obj.cells #[.int .i64 kv2, .slice av2 nv2 qv2] 29)) (Obj.cells #[.int .i64 kx2, .slice ax2 nx2 qx2] 29))).cell? ⟨w2.heap.size + 1, 1, none⟩ = some (.slice ax2 nx2 qx2) ∧ (World.drew (World.alloc (World.alloc w2 (Obj.cells #[.int .i64 kv2, .slice av2 nv2 qv2] 29)) (Obj.cells #[.int .i64 kx2, .slice ax2 nx2 qx2] 29))).cell? ⟨w1.heap.size, 0, none⟩ = some (.int .i64 kv1) ∧ (World.drew (World.alloc (World.alloc w2 (Obj.cells #[.int .i64 kv2, .slice av2 nv2 qv2] 29)) (Obj.cells #[.int .i64 kx2, .slice ax2 nx2 qx2] 29))).cell? ⟨w1.heap.size, 1, none⟩ = some (.slice av1 nv1 qv1) ∧ (World.drew (World.alloc (World.alloc w2 (Obj.cells #[.int .i64 kv2, .slice av2 nv2 qv2] 29)) (Obj.cells #[.int .i64 kx2, .slice ax2 nx2 qx2] 29))).cell? ⟨w1.heap.size + 1, 0, none⟩ = some (.int .i64 kx1) ∧ (World.drew (World.alloc (World.alloc w2 (Obj.cells #[.int .i64 kv2, .slice av2 nv2 qv2] 29)) (Obj.cells #[.int .i64 kx2, .slice ax2 nx2 qx2] 29))).cell? ⟨w1.heap.size + 1, 1, none⟩ = some (.slice ax1 nx1 qx1) from ⟨dcell (s0_), dcell (s1_), dcell (s2_), dcell (s3_), dcell (s4_), dcell (s5_), dcell (s6_), dcell (s7_)⟩)
      have hSb := Lib.hid (show ∀ X Y : World, Below X.heap.size X Y → (X.cell? ⟨w2.heap.size, 0, none⟩ = some (.int .i64 kv2) ∧ X.cell? ⟨w2.heap.size, 1, none⟩ = some (.slice av2 nv2 qv2) ∧ X.cell? ⟨w2.heap.size + 1, 0, none⟩ = some (.int .i64 kx2) ∧ X.cell? ⟨w2.heap.size + 1, 1, none⟩ = some (.slice ax2 nx2 qx2) ∧ X.cell? ⟨w1.heap.size, 0, none⟩ = some (.int .i64 kv1) ∧ X.cell? ⟨w1.heap.size, 1, none⟩ = some (.slice av1 nv1 qv1) ∧ X.cell? ⟨w1.heap.size + 1, 0, none⟩ = some (.int .i64 kx1) ∧ X.cell? ⟨w1.heap.size + 1, 1, none⟩ = some (.slice ax1 nx1 qx1)) → (Y.cell? ⟨w2.heap.size, 0, none⟩ = some (.int .i64 kv2) ∧ Y.cell? ⟨w2.heap.size, 1, none⟩ = some (.slice av2 nv2 qv2) ∧ Y.cell? ⟨w2.heap.size + 1, 0, none⟩ = some (.int .i64 kx2) ∧ Y.cell? ⟨w2.heap.size + 1, 1, none⟩ = some (.slice ax2 nx2 qx2) ∧ Y.cell? ⟨w1.heap.size, 0, none⟩ = some (.int .i64 kv1) ∧ Y.cell? ⟨w1.heap.size, 1, none⟩ = some (.slice av1 nv1 qv1) ∧ Y.cell? ⟨w1.heap.size + 1, 0, none⟩ = some (.int .i64 kx1) ∧ Y.cell? ⟨w1.heap.size + 1, 1, none⟩ = some (.slice ax1 nx1 qx1)) from fun X Y h s => ⟨bcell h s.1, bcell h s.2.1, bcell h s.2.2.1, bcell h s.2.2.2.1, bcell h s.2.2.2.2.1, bcell h s.2.2.2.2.2.1, bcell h s.2.2.2.2.2.2.1, bcell h s.2.2.2.2.2.2.2⟩)
      go_region_held3 (fun w' => w'.cell? ⟨w2.heap.size, 0, none⟩ = some (.int .i64 kv2) ∧ w'.cell? ⟨w2.heap.size, 1, none⟩ = some (.slice av2 nv2 qv2) ∧ w'.cell? ⟨w2.heap.size + 1, 0, none⟩ = some (.int .i64 kx2) ∧ w'.cell? ⟨w2.heap.size + 1, 1, none⟩ = some (.slice ax2 nx2 qx2) ∧ w'.cell? ⟨w1.heap.size, 0, none⟩ = some (.int .i64 kv1) ∧ w'.cell? ⟨w1.heap.size, 1, none⟩ = some (.slice av1 nv1 qv1) ∧ w'.cell? ⟨w1.heap.size + 1, 0, none⟩ = some (.int .i64 kx1) ∧ w'.cell? ⟨w1.heap.size + 1, 1, none⟩ = some (.slice ax1 nx1 qx1))
        (repeat (first | with_reducible refine hSb.out _ _ hb5 ?_ | with_reducible refine hSb.out _ _ hb4 ?_ | with_reducible refine hSb.out _ _ hb3 ?_ | with_reducible exact hS0.out))
        (first | (go_at_call 51; ((with_reducible refine (implConsistentB _ _ t2 u2 _ _ _ (hv2.below bal2.drew).all (hx2.below bal2.drew).all).mono ?_); rintro e w3 ⟨rfl, hb3⟩)) | (go_at_call 50; ((with_reducible refine (specConsistentB _ _ t2 u2 _ _ _ (hv2.below (bstep bal2.drew hb3)).all (hx2.below (bstep bal2.drew hb3)).all).mono ?_); rintro e w4 ⟨rfl, hb4⟩)) | (go_at_call 53; ((with_reducible refine (implPreciseB _ _ t1 u1 _ _ _ (hv1.below (bstep (bstep bal2.drew hb3) hb4)).all (hx1.below (bstep (bstep bal2.drew hb3) hb4)).all).mono ?_); rintro e w5 ⟨rfl, hb5⟩)))
      clear s0_ s1_ s2_ s3_ s4_ s5_ s6_ s7_
      replace hB := (bstep (bstep (bstep ((hB.alloc hB.size _).alloc (hB.alloc hB.size _).size _).drew hb3) hb4) hb5)
      have zw5 := hB.size
      replace c0_0 : w5.cell? ⟨w1.heap.size, 0, none⟩ = some (.int .i64 kv1) := bcell hb5 (bcell hb4 (bcell hb3 (dcell (bcell bal1 (bcell bal1 (c0_0))))))
      replace c0_1 : w5.cell? ⟨w1.heap.size, 1, none⟩ = some (.slice av1 nv1 qv1) := bcell hb5 (bcell hb4 (bcell hb3 (dcell (bcell bal1 (bcell bal1 (c0_1))))))
      have c3_0 : w5.cell? ⟨w2.heap.size, 0, none⟩ = some (.int .i64 kv2) := bcell hb5 (bcell hb4 (bcell hb3 (dcell (bcell bal1 (cell_new (by simp) 0)))))
      have c3_1 : w5.cell? ⟨w2.heap.size, 1, none⟩ = some (.slice av2 nv2 qv2) := bcell hb5 (bcell hb4 (bcell hb3 (dcell (bcell bal1 (cell_new (by simp) 1)))))
      replace c1_0 : w5.cell? ⟨w1.heap.size + 1, 0, none⟩ = some (.int .i64 kx1) := bcell hb5 (bcell hb4 (bcell hb3 (dcell (bcell bal1 (bcell bal1 (c1_0))))))
      replace c1_1 : w5.cell? ⟨w1.heap.size + 1, 1, none⟩ = some (.slice ax1 nx1 qx1) := bcell hb5 (bcell hb4 (bcell hb3 (dcell (bcell bal1 (bcell bal1 (c1_1))))))
      replace c2_0 : w5.cell? ⟨w1.heap.size + 1 + 1, 0, none⟩ = some (.int .i64 ky1) := bcell hb5 (bcell hb4 (bcell hb3 (dcell (bcell bal1 (bcell bal1 (c2_0))))))
      replace c2_1 : w5.cell? ⟨w1.heap.size + 1 + 1, 1, none⟩ = some (.slice ay1 ny1 qy1) := bcell hb5 (bcell hb4 (bcell hb3 (dcell (bcell bal1 (bcell bal1 (c2_1))))))
      have c4_0 : w5.cell? ⟨w2.heap.size + 1, 0, none⟩ = some (.int .i64 kx2) := bcell hb5 (bcell hb4 (bcell hb3 (dcell (cell_new (by simp) 0))))
      have c4_1 : w5.cell? ⟨w2.heap.size + 1, 1, none⟩ = some (.slice ax2 nx2 qx2) := bcell hb5 (bcell hb4 (bcell hb3 (dcell (cell_new (by simp) 1))))
      replace hv1 := (hv1.below (bstep (bstep (bstep bal2.drew hb3) hb4) hb5))
      replace hv2 := (hv2.below (bstep (bstep (bstep bal2.drew hb3) hb4) hb5))
      replace hx1 := (hx1.below (bstep (bstep (bstep bal2.drew hb3) hb4) hb5))
      replace hy1 := (hy1.below (bstep (bstep (bstep bal2.drew hb3) hb4) hb5))
      replace hx2 := (hx2.below (bstep (bstep (bstep bal2.drew hb3) hb4) hb5))
      have d0_w5 := World.block_lt_of_cell? _ _ c0_0
      have d3_w5 := World.block_lt_of_cell? _ _ c3_0
      have d1_w5 := World.block_lt_of_cell? _ _ c1_0
      have d2_w5 := World.block_lt_of_cell? _ _ c2_0
      have d4_w5 := World.block_lt_of_cell? _ _ c4_0
      rcases Bool.eq_false_or_eq_true (precB t1 u1) with q3 | q3
      · (try rw [q3])
        have Hq3 := Lib.hid q3
        clear q3
        rcases Bool.eq_false_or_eq_true (consB t1 t2) with q4 | q4
        · have Hq4 := Lib.hid q4
          clear q4
          rcases Bool.eq_false_or_eq_true (consB u1 t2) with q5 | q5
          · have Hq5 := Lib.hid q5
            clear q5
            rcases Bool.eq_false_or_eq_true (precB u1 s1) with q6 | q6
            · have Hq6 := Lib.hid q6
              clear q6
              go_wp2_with fail
              refine (implConsistentB _ _ t1 t2 _ _ _ hv1.all hv2.all).mono ?_
              rintro e w6 ⟨rfl, hb6⟩
              rw [Hq4.out]
              replace hB := (bstep hB hb6)
              have zw6 := hB.size
              replace c1_0 : w6.cell? ⟨w1.heap.size + 1, 0, none⟩ = some (.int .i64 kx1) := bcell hb6 (c1_0)
              replace c1_1 : w6.cell? ⟨w1.heap.size + 1, 1, none⟩ = some (.slice ax1 nx1 qx1) := bcell hb6 (c1_1)
              replace c3_0 : w6.cell? ⟨w2.heap.size, 0, none⟩ = some (.int .i64 kv2) := bcell hb6 (c3_0)
              replace c3_1 : w6.cell? ⟨w2.heap.size, 1, none⟩ = some (.slice av2 nv2 qv2) := bcell hb6 (c3_1)
              replace c2_0 : w6.cell? ⟨w1.heap.size + 1 + 1, 0, none⟩ = some (.int .i64 ky1) := bcell hb6 (c2_0)
              replace c2_1 : w6.cell? ⟨w1.heap.size + 1 + 1, 1, none⟩ = some (.slice ay1 ny1 qy1) := bcell hb6 (c2_1)
              replace c0_0 : w6.cell? ⟨w1.heap.size, 0, none⟩ = some (.int .i64 kv1) := bcell hb6 (c0_0)
              replace c0_1 : w6.cell? ⟨w1.heap.size, 1, none⟩ = some (.slice av1 nv1 qv1) := bcell hb6 (c0_1)
              replace hx1 := (hx1.below hb6)
              replace hv2 := (hv2.below hb6)
              replace hy1 := (hy1.below hb6)
              replace hv1 := (hv1.below hb6)
              have d1_w6 := World.block_lt_of_cell? _ _ c1_0
              have d3_w6 := World.block_lt_of_cell? _ _ c3_0
              have d2_w6 := World.block_lt_of_cell? _ _ c2_0
              have d0_w6 := World.block_lt_of_cell? _ _ c0_0
              go_wp2_with fail
              refine (implConsistentB _ _ u1 t2 _ _ _ hx1.all hv2.all).mono ?_
              rintro e w7 ⟨rfl, hb7⟩
              rw [Hq5.out]
              replace hB := (bstep hB hb7)
              have zw7 := hB.size
              replace c1_0 : w7.cell? ⟨w1.heap.size + 1, 0, none⟩ = some (.int .i64 kx1) := bcell hb7 (c1_0)
              replace c1_1 : w7.cell? ⟨w1.heap.size + 1, 1, none⟩ = some (.slice ax1 nx1 qx1) := bcell hb7 (c1_1)
              replace c2_0 : w7.cell? ⟨w1.heap.size + 1 + 1, 0, none⟩ = some (.int .i64 ky1) := bcell hb7 (c2_0)
              replace c2_1 : w7.cell? ⟨w1.heap.size + 1 + 1, 1, none⟩ = some (.slice ay1 ny1 qy1) := bcell hb7 (c2_1)
              replace c0_0 : w7.cell? ⟨w1.heap.size, 0, none⟩ = some (.int .i64 kv1) := bcell hb7 (c0_0)
              replace c0_1 : w7.cell? ⟨w1.heap.size, 1, none⟩ = some (.slice av1 nv1 qv1) := bcell hb7 (c0_1)
              replace hx1 := (hx1.below hb7)
              replace hy1 := (hy1.below hb7)
              replace hv1 := (hv1.below hb7)
              have d1_w7 := World.block_lt_of_cell? _ _ c1_0
              have d2_w7 := World.block_lt_of_cell? _ _ c2_0
              have d0_w7 := World.block_lt_of_cell? _ _ c0_0
              go_wp2_with fail
              refine (implPreciseB _ _ u1 s1 _ _ _ hx1.all hy1.all).mono ?_
              rintro e w8 ⟨rfl, hb8⟩
              rw [Hq6.out]
              replace hB := (bstep hB hb8)
              have zw8 := hB.size
              replace c0_0 : w8.cell? ⟨w1.heap.size, 0, none⟩ = some (.int .i64 kv1) := bcell hb8 (c0_0)
              replace c0_1 : w8.cell? ⟨w1.heap.size, 1, none⟩ = some (.slice av1 nv1 qv1) := bcell hb8 (c0_1)
              replace c2_0 : w8.cell? ⟨w1.heap.size + 1 + 1, 0, none⟩ = some (.int .i64 ky1) := bcell hb8 (c2_0)
              replace c2_1 : w8.cell? ⟨w1.heap.size + 1 + 1, 1, none⟩ = some (.slice ay1 ny1 qy1) := bcell hb8 (c2_1)
              replace hv1 := (hv1.below hb8)
              replace hy1 := (hy1.below hb8)
              have d0_w8 := World.block_lt_of_cell? _ _ c0_0
              have d2_w8 := World.block_lt_of_cell? _ _ c2_0
              go_wp2_with fail
              refine (implConsistentB _ _ t1 s1 _ _ _ hv1.all hy1.all).mono ?_
              rintro e w9 ⟨rfl, hb9⟩
              replace hB := (bstep hB hb9)
              have zw9 := hB.size
              go_wp2_with fail
              have hE := leaf_FnConsistentPrecise_0 Hq3.out Hq4.out Hq5.out Hq6.out
              refine bodyPost_ret (v := .bool (consB t1 s1)) (by simp [results, Try.results17, go_sem]) rfl ?_
              exact ⟨by rw [hE], hB⟩
            · have Hq6 := Lib.hid q6
              clear q6
              go_wp2_with fail
              refine (implConsistentB _ _ t1 t2 _ _ _ hv1.all hv2.all).mono ?_
              rintro e w10 ⟨rfl, hb10⟩
              rw [Hq4.out]
              replace hB := (bstep hB hb10)
              have zw10 := hB.size
              replace c1_0 : w10.cell? ⟨w1.heap.size + 1, 0, none⟩ = some (.int .i64 kx1) := bcell hb10 (c1_0)
              replace c1_1 : w10.cell? ⟨w1.heap.size + 1, 1, none⟩ = some (.slice ax1 nx1 qx1) := bcell hb10 (c1_1)
              replace c3_0 : w10.cell? ⟨w2.heap.size, 0, none⟩ = some (.int .i64 kv2) := bcell hb10 (c3_0)
              replace c3_1 : w10.cell? ⟨w2.heap.size, 1, none⟩ = some (.slice av2 nv2 qv2) := bcell hb10 (c3_1)
              replace c2_0 : w10.cell? ⟨w1.heap.size + 1 + 1, 0, none⟩ = some (.int .i64 ky1) := bcell hb10 (c2_0)
              replace c2_1 : w10.cell? ⟨w1.heap.size + 1 + 1, 1, none⟩ = some (.slice ay1 ny1 qy1) := bcell hb10 (c2_1)
              replace hx1 := (hx1.below hb10)
              replace hv2 := (hv2.below hb10)
              replace hy1 := (hy1.below hb10)
              have d1_w10 := World.block_lt_of_cell? _ _ c1_0
              have d3_w10 := World.block_lt_of_cell? _ _ c3_0
              have d2_w10 := World.block_lt_of_cell? _ _ c2_0
              go_wp2_with fail
              refine (implConsistentB _ _ u1 t2 _ _ _ hx1.all hv2.all).mono ?_
              rintro e w11 ⟨rfl, hb11⟩
              rw [Hq5.out]
              replace hB := (bstep hB hb11)
              have zw11 := hB.size
              replace c1_0 : w11.cell? ⟨w1.heap.size + 1, 0, none⟩ = some (.int .i64 kx1) := bcell hb11 (c1_0)
              replace c1_1 : w11.cell? ⟨w1.heap.size + 1, 1, none⟩ = some (.slice ax1 nx1 qx1) := bcell hb11 (c1_1)
              replace c2_0 : w11.cell? ⟨w1.heap.size + 1 + 1, 0, none⟩ = some (.int .i64 ky1) := bcell hb11 (c2_0)
              replace c2_1 : w11.cell? ⟨w1.heap.size + 1 + 1, 1, none⟩ = some (.slice ay1 ny1 qy1) := bcell hb11 (c2_1)
              replace hx1 := (hx1.below hb11)
              replace hy1 := (hy1.below hb11)
              have d1_w11 := World.block_lt_of_cell? _ _ c1_0
              have d2_w11 := World.block_lt_of_cell? _ _ c2_0
              go_wp2_with fail
              refine (implPreciseB _ _ u1 s1 _ _ _ hx1.all hy1.all).mono ?_
              rintro e w12 ⟨rfl, hb12⟩
              rw [Hq6.out]
              replace hB := (bstep hB hb12)
              have zw12 := hB.size
              go_wp2_with fail
              refine bodyPost_ret (v := .bool true) (by simp [results, Try.results17, go_sem]) rfl ?_
              exact ⟨rfl, hB⟩
          · have Hq5 := Lib.hid q5
            clear q5
            go_wp2_with fail
            refine (implConsistentB _ _ t1 t2 _ _ _ hv1.all hv2.all).mono ?_
            rintro e w13 ⟨rfl, hb13⟩
            rw [Hq4.out]
            replace hB := (bstep hB hb13)
            have zw13 := hB.size
            replace c1_0 : w13.cell? ⟨w1.heap.size + 1, 0, none⟩ = some (.int .i64 kx1) := bcell hb13 (c1_0)
            replace c1_1 : w13.cell? ⟨w1.heap.size + 1, 1, none⟩ = some (.slice ax1 nx1 qx1) := bcell hb13 (c1_1)
            replace c3_0 : w13.cell? ⟨w2.heap.size, 0, none⟩ = some (.int .i64 kv2) := bcell hb13 (c3_0)
            replace c3_1 : w13.cell? ⟨w2.heap.size, 1, none⟩ = some (.slice av2 nv2 qv2) := bcell hb13 (c3_1)
            replace hx1 := (hx1.below hb13)
            replace hv2 := (hv2.below hb13)
            have d1_w13 := World.block_lt_of_cell? _ _ c1_0
            have d3_w13 := World.block_lt_of_cell? _ _ c3_0
            go_wp2_with fail
            refine (implConsistentB _ _ u1 t2 _ _ _ hx1.all hv2.all).mono ?_
            rintro e w14 ⟨rfl, hb14⟩
            rw [Hq5.out]
            replace hB := (bstep hB hb14)
            have zw14 := hB.size
            go_wp2_with fail
            exact (leaf_FnConsistentPrecise_1 Hq3.out Hq4.out Hq5.out).elim
        · have Hq4 := Lib.hid q4
          clear q4
          rcases Bool.eq_false_or_eq_true (precB u1 s1) with q7 | q7
          · have Hq7 := Lib.hid q7
            clear q7
            go_wp2_with fail
            refine (implConsistentB _ _ t1 t2 _ _ _ hv1.all hv2.all).mono ?_
            rintro e w15 ⟨rfl, hb15⟩
            rw [Hq4.out]
            replace hB := (bstep hB hb15)
            have zw15 := hB.size
            replace c1_0 : w15.cell? ⟨w1.heap.size + 1, 0, none⟩ = some (.int .i64 kx1) := bcell hb15 (c1_0)
            replace c1_1 : w15.cell? ⟨w1.heap.size + 1, 1, none⟩ = some (.slice ax1 nx1 qx1) := bcell hb15 (c1_1)
            replace c2_0 : w15.cell? ⟨w1.heap.size + 1 + 1, 0, none⟩ = some (.int .i64 ky1) := bcell hb15 (c2_0)
            replace c2_1 : w15.cell? ⟨w1.heap.size + 1 + 1, 1, none⟩ = some (.slice ay1 ny1 qy1) := bcell hb15 (c2_1)
            replace c0_0 : w15.cell? ⟨w1.heap.size, 0, none⟩ = some (.int .i64 kv1) := bcell hb15 (c0_0)
            replace c0_1 : w15.cell? ⟨w1.heap.size, 1, none⟩ = some (.slice av1 nv1 qv1) := bcell hb15 (c0_1)
            replace hx1 := (hx1.below hb15)
            replace hy1 := (hy1.below hb15)
            replace hv1 := (hv1.below hb15)
            have d1_w15 := World.block_lt_of_cell? _ _ c1_0
            have d2_w15 := World.block_lt_of_cell? _ _ c2_0
            have d0_w15 := World.block_lt_of_cell? _ _ c0_0
            go_wp2_with fail
            refine (implPreciseB _ _ u1 s1 _ _ _ hx1.all hy1.all).mono ?_
            rintro e w16 ⟨rfl, hb16⟩
            rw [Hq7.out]
            replace hB := (bstep hB hb16)
            have zw16 := hB.size
            replace c0_0 : w16.cell? ⟨w1.heap.size, 0, none⟩ = some (.int .i64 kv1) := bcell hb16 (c0_0)
            replace c0_1 : w16.cell? ⟨w1.heap.size, 1, none⟩ = some (.slice av1 nv1 qv1) := bcell hb16 (c0_1)
            replace c2_0 : w16.cell? ⟨w1.heap.size + 1 + 1, 0, none⟩ = some (.int .i64 ky1) := bcell hb16 (c2_0)
            replace c2_1 : w16.cell? ⟨w1.heap.size + 1 + 1, 1, none⟩ = some (.slice ay1 ny1 qy1) := bcell hb16 (c2_1)
            replace hv1 := (hv1.below hb16)
            replace hy1 := (hy1.below hb16)
            have d0_w16 := World.block_lt_of_cell? _ _ c0_0
            have d2_w16 := World.block_lt_of_cell? _ _ c2_0
            go_wp2_with fail
            refine (implConsistentB _ _ t1 s1 _ _ _ hv1.all hy1.all).mono ?_
            rintro e w17 ⟨rfl, hb17⟩
            replace hB := (bstep hB hb17)
            have zw17 := hB.size
            go_wp2_with fail
            have hE := leaf_FnConsistentPrecise_2 Hq3.out Hq4.out Hq7.out
            refine bodyPost_ret (v := .bool (consB t1 s1)) (by simp [results, Try.results17, go_sem]) rfl ?_
            exact ⟨by rw [hE], hB⟩
          · have Hq7 := Lib.hid q7
            clear q7
            go_wp2_with fail
            refine (implConsistentB _ _ t1 t2 _ _ _ hv1.all hv2.all).mono ?_
            rintro e w18 ⟨rfl, hb18⟩
            rw [Hq4.out]
            replace hB := (bstep hB hb18)
            have zw18 := hB.size
            replace c1_0 : w18.cell? ⟨w1.heap.size + 1, 0, none⟩ = some (.int .i64 kx1) := bcell hb18 (c1_0)
            replace c1_1 : w18.cell? ⟨w1.heap.size + 1, 1, none⟩ = some (.slice ax1 nx1 qx1) := bcell hb18 (c1_1)
            replace c2_0 : w18.cell? ⟨w1.heap.size + 1 + 1, 0, none⟩ = some (.int .i64 ky1) := bcell hb18 (c2_0)
            replace c2_1 : w18.cell? ⟨w1.heap.size + 1 + 1, 1, none⟩ = some (.slice ay1 ny1 qy1) := bcell hb18 (c2_1)
            replace hx1 := (hx1.below hb18)
            replace hy1 := (hy1.below hb18)
            have d1_w18 := World.block_lt_of_cell? _ _ c1_0
            have d2_w18 := World.block_lt_of_cell? _ _ c2_0
            go_wp2_with fail
            refine (implPreciseB _ _ u1 s1 _ _ _ hx1.all hy1.all).mono ?_
            rintro e w19 ⟨rfl, hb19⟩
            rw [Hq7.out]
            replace hB := (bstep hB hb19)
            have zw19 := hB.size
            go_wp2_with fail
            refine bodyPost_ret (v := .bool true) (by simp [results, Try.results17, go_sem]) rfl ?_
            exact ⟨rfl, hB⟩
      · (try rw [q3])
        have Hq3 := Lib.hid q3
        clear q3
        go_wp2_with fail
        have hS0 := Lib.hid (show (World.drew w5).cell? ⟨w2.heap.size, 0, none⟩ = some (.int .i64 kv2) ∧ (World.drew w5).cell? ⟨w2.heap.size, 1, none⟩ = some (.slice av2 nv2 qv2) ∧ (World.drew w5).cell? ⟨w2.heap.size + 1, 0, none⟩ = some (.int .i64 kx2) ∧ (World.drew w5).cell? ⟨w2.heap.size + 1, 1, none⟩ = some (.slice ax2 nx2 qx2) from ⟨dcell (c3_0), dcell (c3_1), dcell (c4_0), dcell (c4_1)⟩)
        have hSb := Lib.hid (show ∀ X Y : World, Below X.heap.size X Y → (X.cell? ⟨w2.heap.size, 0, none⟩ = some (.int .i64 kv2) ∧ X.cell? ⟨w2.heap.size, 1, none⟩ = some (.slice av2 nv2 qv2) ∧ X.cell? ⟨w2.heap.size + 1, 0, none⟩ = some (.int .i64 kx2) ∧ X.cell? ⟨w2.heap.size + 1, 1, none⟩ = some (.slice ax2 nx2 qx2)) → (Y.cell? ⟨w2.heap.size, 0, none⟩ = some (.int .i64 kv2) ∧ Y.cell? ⟨w2.heap.size, 1, none⟩ = some (.slice av2 nv2 qv2) ∧ Y.cell? ⟨w2.heap.size + 1, 0, none⟩ = some (.int .i64 kx2) ∧ Y.cell? ⟨w2.heap.size + 1, 1, none⟩ = some (.slice ax2 nx2 qx2)) from fun X Y h s => ⟨bcell h s.1, bcell h s.2.1, bcell h s.2.2.1, bcell h s.2.2.2⟩)
        go_region_held3 (fun w' => w'.cell? ⟨w2.heap.size, 0, none⟩ = some (.int .i64 kv2) ∧ w'.cell? ⟨w2.heap.size, 1, none⟩ = some (.slice av2 nv2 qv2) ∧ w'.cell? ⟨w2.heap.size + 1, 0, none⟩ = some (.int .i64 kx2) ∧ w'.cell? ⟨w2.heap.size + 1, 1, none⟩ = some (.slice ax2 nx2 qx2))
          (repeat (first | with_reducible refine hSb.out _ _ hb21 ?_ | with_reducible refine hSb.out _ _ hb20 ?_ | with_reducible exact hS0.out))
          (first | (go_at_call 51; ((with_reducible refine (implConsistentB _ _ t2 u2 _ _ _ (hv2.below bdr).all (hx2.below bdr).all).mono ?_); rintro e w20 ⟨rfl, hb20⟩)) | (go_at_call 50; ((with_reducible refine (specConsistentB _ _ t2 u2 _ _ _ (hv2.below (bstep bdr hb20)).all (hx2.below (bstep bdr hb20)).all).mono ?_); rintro e w21 ⟨rfl, hb21⟩)))
        replace hB := (bstep (bstep hB.drew hb20) hb21)
        have zw21 := hB.size
        go_wp2_with fail
        refine bodyPost_ret (v := .bool true) (by simp [results, Try.results17, go_sem]) rfl ?_
        exact ⟨rfl, hB⟩
end Go.Proofs.Ytjkkahlcbhcifaa
