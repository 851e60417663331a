/-
  FnGroundOf returns true: the walk.
-/
import Derived.Test.YtjkkahlcbhcifaaFn
import Derived.Test.YtjkkahlcbhcifaaDraws
import Derived.Test.YtjkkahlcbhcifaaDrawCh
namespace Go.Proofs.Ytjkkahlcbhcifaa
open Go.RowKit
set_option linter.unusedVariables false
set_option linter.unusedSimpArgs false
set_option maxRecDepth 100000

theorem leaf_FnGroundOf_0 {t1 t5 : Ty} (h0 : (groundB t1) = true) (h1 : (precB t1 (groundOfT t1)) = true) (h2 : (groundB (groundOfT t1)) = true) (h3 : (Ty.same (groundOfT (groundOfT t1)) (groundOfT t1)) = true) (h4 : (groundB t5) = true) (h5 : (consB t1 (groundOfT t5)) = true) : (Ty.same (groundOfT t1) (groundOfT t5)) = true := by
  have l := law_FnGroundOf t1 t5
  first | (simp_all; done) | grind

theorem leaf_FnGroundOf_1 {t1 t5 : Ty} (h0 : (groundB t1) = true) (h1 : (precB t1 (groundOfT t1)) = true) (h2 : (groundB (groundOfT t1)) = true) (h3 : (Ty.same (groundOfT (groundOfT t1)) (groundOfT t1)) = true) (h4 : (groundB t5) = true) (h5 : (consB t1 (groundOfT t5)) = false) : (!(Ty.same (groundOfT t1) (groundOfT t5))) = true := by
  have l := law_FnGroundOf t1 t5
  first | (simp_all; done) | grind

theorem leaf_FnGroundOf_2 {t1 : Ty} (h0 : (groundB t1) = true) (h1 : (precB t1 (groundOfT t1)) = true) (h2 : (groundB (groundOfT t1)) = true) (h3 : (Ty.same (groundOfT (groundOfT t1)) (groundOfT t1)) = false) : False := by
  have l := law_FnGroundOf t1 Ty.none
  first | (simp_all; done) | grind

theorem leaf_FnGroundOf_3 {t1 : Ty} (h0 : (groundB t1) = true) (h1 : (precB t1 (groundOfT t1)) = true) (h2 : (groundB (groundOfT t1)) = false) : False := by
  have l := law_FnGroundOf t1 Ty.none
  first | (simp_all; done) | grind

theorem leaf_FnGroundOf_4 {t1 : Ty} (h0 : (groundB t1) = true) (h1 : (precB t1 (groundOfT t1)) = false) : False := by
  have l := law_FnGroundOf t1 Ty.none
  first | (simp_all; done) | grind
set_option maxHeartbeats 8000000 in
theorem walk_FnGroundOf (y0 y1 : Value) (w : World) (r0 : ByRep w w.heap.size y0) (r1 : ByRep w w.heap.size y1) :
    Calls Try.prog 15 #[y0, y1] w fun e w' => e = .returned (.bool true) ∧ Below w.heap.size w w' := by
  obtain ⟨a0, n0, q0, rfl⟩ := r0.shape
  obtain ⟨a1, n1, q1, rfl⟩ := r1.shape
  go_enter Try.func15, Try.ntmps15
  rcases Bool.eq_false_or_eq_true (decide ((n0 : Int) > 1048576)) with q1 | q1
  · skip
    go_wp2_with fail
    refine bodyPost_ret (v := .bool true) (by simp [results, Try.results15, go_sem]) rfl ?_
    exact ⟨rfl, (Below.refl _ _)⟩
  · skip
    rcases Bool.eq_false_or_eq_true (decide ((n1 : Int) > 1048576)) with q2 | q2
    · (try rw [q2])
      go_wp2_with fail
      refine bodyPost_ret (v := .bool true) (by simp [results, Try.results15, go_sem]) rfl ?_
      exact ⟨rfl, (Below.refl _ _)⟩
    · (try rw [q2])
      go_wp2_with fail
      refine (specDrawGroundOf _ _ _ (r0.below (Below.refl _ _)) (by first | omega | (simp; done) | (simp; omega))).mono ?_
      rintro e w1 ⟨t1, v1, rfl, hv1, hb1⟩
      obtain ⟨kv1, av1, nv1, qv1, rfl⟩ := hv1.shape
      have hB := (bstep (Below.refl _ _) hb1)
      have zw1 := hB.size
      go_wp2_with fail
      refine (implGroundOf' _ t1 _ _ (hv1.below bal1).all).mono ?_
      rintro e w2 ⟨v2, rfl, hv2, hb2⟩
      obtain ⟨kr2, ar2, nr2, qr2, rfl⟩ := hv2.shape
      replace hB := (bstep (hB.alloc hB.size _) hb2)
      have zw2 := hB.size
      have c0_0 : w2.cell? ⟨w1.heap.size, 0, none⟩ = some (.int .i64 kv1) := bcell hb2 (cell_new (by simp) 0)
      have c0_1 : w2.cell? ⟨w1.heap.size, 1, none⟩ = some (.slice av1 nv1 qv1) := bcell hb2 (cell_new (by simp) 1)
      replace hv1 := (hv1.below (bstep bal1 hb2))
      have d0_w2 := World.block_lt_of_cell? _ _ c0_0
      go_wp2_with fail
      refine (specGroundOf' _ t1 _ _ (hv1.below bal1).all).mono ?_
      rintro e w3 ⟨v3, rfl, hv3, hb3⟩
      obtain ⟨kr3, ar3, nr3, qr3, rfl⟩ := hv3.shape
      replace hB := (bstep (hB.alloc hB.size _) hb3)
      have zw3 := hB.size
      have c1_0 : w3.cell? ⟨w2.heap.size, 0, none⟩ = some (.int .i64 kr2) := bcell hb3 (cell_new (by simp) 0)
      have c1_1 : w3.cell? ⟨w2.heap.size, 1, none⟩ = some (.slice ar2 nr2 qr2) := bcell hb3 (cell_new (by simp) 1)
      replace c0_0 : w3.cell? ⟨w1.heap.size, 0, none⟩ = some (.int .i64 kv1) := bcell hb3 (bcell bal1 (c0_0))
      replace c0_1 : w3.cell? ⟨w1.heap.size, 1, none⟩ = some (.slice av1 nv1 qv1) := bcell hb3 (bcell bal1 (c0_1))
      replace hv2 := (hv2.below (bstep bal1 hb3))
      replace hv1 := (hv1.below (bstep bal1 hb3))
      have d1_w3 := World.block_lt_of_cell? _ _ c1_0
      have d0_w3 := World.block_lt_of_cell? _ _ c0_0
      go_wp2_with fail
      refine (implTypeSameSelf _ _ (groundOfT t1) _ _ _ (hv2.below bal1).rep.all (hv3.below bal1).rep.all).mono ?_
      rintro e w4 ⟨rfl, hb4⟩
      replace hB := (bstep (hB.alloc hB.size _) hb4)
      have zw4 := hB.size
      replace c1_0 : w4.cell? ⟨w2.heap.size, 0, none⟩ = some (.int .i64 kr2) := bcell hb4 (bcell bal1 (c1_0))
      replace c1_1 : w4.cell? ⟨w2.heap.size, 1, none⟩ = some (.slice ar2 nr2 qr2) := bcell hb4 (bcell bal1 (c1_1))
      replace c0_0 : w4.cell? ⟨w1.heap.size, 0, none⟩ = some (.int .i64 kv1) := bcell hb4 (bcell bal1 (c0_0))
      replace c0_1 : w4.cell? ⟨w1.heap.size, 1, none⟩ = some (.slice av1 nv1 qv1) := bcell hb4 (bcell bal1 (c0_1))
      have c2_0 : w4.cell? ⟨w3.heap.size, 0, none⟩ = some (.int .i64 kr3) := bcell hb4 (cell_new (by simp) 0)
      have c2_1 : w4.cell? ⟨w3.heap.size, 1, none⟩ = some (.slice ar3 nr3 qr3) := bcell hb4 (cell_new (by simp) 1)
      replace hv2 := (hv2.below (bstep bal1 hb4))
      replace hv1 := (hv1.below (bstep bal1 hb4))
      replace hv3 := (hv3.below (bstep bal1 hb4))
      have d1_w4 := World.block_lt_of_cell? _ _ c1_0
      have d0_w4 := World.block_lt_of_cell? _ _ c0_0
      have d2_w4 := World.block_lt_of_cell? _ _ c2_0
      rcases Bool.eq_false_or_eq_true (groundB t1) with q3 | q3
      · (try rw [q3])
        have Hq3 := Lib.hid q3
        clear q3
        go_wp2_with fail
        refine (specDrawGroundOf _ _ _ (r1.below hB) (by first | omega | (simp; done) | (simp; omega))).mono ?_
        rintro e w5 ⟨t5, v5, rfl, hv5, hb5⟩
        obtain ⟨kv5, av5, nv5, qv5, rfl⟩ := hv5.shape
        replace hB := (bstep hB hb5)
        have zw5 := hB.size
        replace c1_0 : w5.cell? ⟨w2.heap.size, 0, none⟩ = some (.int .i64 kr2) := bcell hb5 (c1_0)
        replace c1_1 : w5.cell? ⟨w2.heap.size, 1, none⟩ = some (.slice ar2 nr2 qr2) := bcell hb5 (c1_1)
        replace c0_0 : w5.cell? ⟨w1.heap.size, 0, none⟩ = some (.int .i64 kv1) := bcell hb5 (c0_0)
        replace c0_1 : w5.cell? ⟨w1.heap.size, 1, none⟩ = some (.slice av1 nv1 qv1) := bcell hb5 (c0_1)
        replace hv2 := (hv2.below hb5)
        replace hv1 := (hv1.below hb5)
        have d1_w5 := World.block_lt_of_cell? _ _ c1_0
        have d0_w5 := World.block_lt_of_cell? _ _ c0_0
        go_wp2_with fail
        refine (implGroundOf' _ t5 _ _ (hv5.below bal1).all).mono ?_
        rintro e w6 ⟨v6, rfl, hv6, hb6⟩
        obtain ⟨kr6, ar6, nr6, qr6, rfl⟩ := hv6.shape
        replace hB := (bstep (hB.alloc hB.size _) hb6)
        have zw6 := hB.size
        replace c1_0 : w6.cell? ⟨w2.heap.size, 0, none⟩ = some (.int .i64 kr2) := bcell hb6 (bcell bal1 (c1_0))
        replace c1_1 : w6.cell? ⟨w2.heap.size, 1, none⟩ = some (.slice ar2 nr2 qr2) := bcell hb6 (bcell bal1 (c1_1))
        replace c0_0 : w6.cell? ⟨w1.heap.size, 0, none⟩ = some (.int .i64 kv1) := bcell hb6 (bcell bal1 (c0_0))
        replace c0_1 : w6.cell? ⟨w1.heap.size, 1, none⟩ = some (.slice av1 nv1 qv1) := bcell hb6 (bcell bal1 (c0_1))
        replace hv2 := (hv2.below (bstep bal1 hb6))
        replace hv1 := (hv1.below (bstep bal1 hb6))
        have d1_w6 := World.block_lt_of_cell? _ _ c1_0
        have d0_w6 := World.block_lt_of_cell? _ _ c0_0
        go_wp2_with fail
        refine (implGroundOf' _ (groundOfT t1) _ _ (hv2.below bal1).rep.all).mono ?_
        rintro e w7 ⟨v7, rfl, hv7, hb7⟩
        obtain ⟨kr7, ar7, nr7, qr7, rfl⟩ := hv7.shape
        replace hB := (bstep (hB.alloc hB.size _) hb7)
        have zw7 := hB.size
        replace c0_0 : w7.cell? ⟨w1.heap.size, 0, none⟩ = some (.int .i64 kv1) := bcell hb7 (bcell bal1 (c0_0))
        replace c0_1 : w7.cell? ⟨w1.heap.size, 1, none⟩ = some (.slice av1 nv1 qv1) := bcell hb7 (bcell bal1 (c0_1))
        replace c1_0 : w7.cell? ⟨w2.heap.size, 0, none⟩ = some (.int .i64 kr2) := bcell hb7 (bcell bal1 (c1_0))
        replace c1_1 : w7.cell? ⟨w2.heap.size, 1, none⟩ = some (.slice ar2 nr2 qr2) := bcell hb7 (bcell bal1 (c1_1))
        have c4_0 : w7.cell? ⟨w6.heap.size, 0, none⟩ = some (.int .i64 kr6) := bcell hb7 (cell_new (by simp) 0)
        have c4_1 : w7.cell? ⟨w6.heap.size, 1, none⟩ = some (.slice ar6 nr6 qr6) := bcell hb7 (cell_new (by simp) 1)
        replace hv1 := (hv1.below (bstep bal1 hb7))
        replace hv2 := (hv2.below (bstep bal1 hb7))
        replace hv6 := (hv6.below (bstep bal1 hb7))
        have d0_w7 := World.block_lt_of_cell? _ _ c0_0
        have d1_w7 := World.block_lt_of_cell? _ _ c1_0
        have d4_w7 := World.block_lt_of_cell? _ _ c4_0
        rcases Bool.eq_false_or_eq_true (precB t1 (groundOfT t1)) with q4 | q4
        · have Hq4 := Lib.hid q4
          clear q4
          rcases Bool.eq_false_or_eq_true (groundB (groundOfT t1)) with q5 | q5
          · (try rw [q5])
            have Hq5 := Lib.hid q5
            clear q5
            rcases Bool.eq_false_or_eq_true (Ty.same (groundOfT (groundOfT t1)) (groundOfT t1)) with q6 | q6
            · have Hq6 := Lib.hid q6
              clear q6
              rcases Bool.eq_false_or_eq_true (groundB t5) with q7 | q7
              · (try rw [q7])
                have Hq7 := Lib.hid q7
                clear q7
                rcases Bool.eq_false_or_eq_true (consB t1 (groundOfT t5)) with q8 | q8
                · have Hq8 := Lib.hid q8
                  clear q8
                  go_wp2_with fail
                  have s0_ : (World.alloc w7 (Obj.cells #[.int .i64 kr7, .slice ar7 nr7 qr7] 29)).cell? ⟨w1.heap.size, 0, none⟩ = some (.int .i64 kv1) := bcell bal1 (c0_0)
                  have s1_ : (World.alloc w7 (Obj.cells #[.int .i64 kr7, .slice ar7 nr7 qr7] 29)).cell? ⟨w1.heap.size, 1, none⟩ = some (.slice av1 nv1 qv1) := bcell bal1 (c0_1)
                  have s2_ : (World.alloc w7 (Obj.cells #[.int .i64 kr7, .slice ar7 nr7 qr7] 29)).cell? ⟨w2.heap.size, 0, none⟩ = some (.int .i64 kr2) := bcell bal1 (c1_0)
                  have s3_ : (World.alloc w7 (Obj.cells #[.int .i64 kr7, .slice ar7 nr7 qr7] 29)).cell? ⟨w2.heap.size, 1, none⟩ = some (.slice ar2 nr2 qr2) := bcell bal1 (c1_1)
                  have s4_ : (World.alloc w7 (Obj.cells #[.int .i64 kr7, .slice ar7 nr7 qr7] 29)).cell? ⟨w7.heap.size, 0, none⟩ = some (.int .i64 kr7) := cell_new (by simp) 0
                  have s5_ : (World.alloc w7 (Obj.cells #[.int .i64 kr7, .slice ar7 nr7 qr7] 29)).cell? ⟨w7.heap.size, 1, none⟩ = some (.slice ar7 nr7 qr7) := cell_new (by simp) 1
                  have s6_ : (World.alloc w7 (Obj.cells #[.int .i64 kr7, .slice ar7 nr7 qr7] 29)).cell? ⟨w6.heap.size, 0, none⟩ = some (.int .i64 kr6) := bcell bal1 (c4_0)
                  have s7_ : (World.alloc w7 (Obj.cells #[.int .i64 kr7, .slice ar7 nr7 qr7] 29)).cell? ⟨w6.heap.size, 1, none⟩ = some (.slice ar6 nr6 qr6) := bcell bal1 (c4_1)
                  have hS0 := Lib.hid (show (World.drew (World.alloc w7 (Obj.cells #[.int .i64 kr7, .slice ar7 nr7 qr7] 29))).cell? ⟨w1.heap.size, 0, none⟩ = some (.int .i64 kv1) ∧ (World.drew (World.alloc w7 (Obj.cells #[.int .i64 kr7, .slice ar7 nr7 qr7] 29))).cell? ⟨w1.heap.size, 1, none⟩ = some (.slice av1 nv1 qv1) ∧ (World.drew (World.alloc w7 (Obj.cells #[.int .i64 kr7, .slice ar7 nr7 qr7] 29))).cell? ⟨w2.heap.size, 0, none⟩ = some (.int .i64 kr2) ∧ (World.drew (World.alloc w7 (Obj.cells #[.int .i64 kr7, .slice ar7 nr7 qr7] 29))).cell? ⟨w2.heap.size, 1, none⟩ = some (.slice ar2 nr2 qr2) ∧ (World.drew (World.alloc w7 (Obj.cells #[.int .i64 kr7, .slice ar7 nr7 qr7] 29))).cell? ⟨w7.heap.size, 0, none⟩ = some (.int .i64 kr7) ∧ (World.drew (World.alloc w7 (Obj.cells #[.int .i64 kr7, .slice ar7 nr7 qr7] 29))).cell? ⟨w7.heap.size, 1, none⟩ = some (.slice ar7 nr7 qr7) ∧ (World.drew (World.alloc w7 (Obj.cells #[.int .i64 kr7, .slice ar7 nr7 qr7] 29))).cell? ⟨w6.heap.size, 0, none⟩ = some (.int .i64 kr6) ∧ (World.drew (World.alloc w7 (Obj.cells #[.int .i64 kr7, .slice ar7 nr7 qr7] 29))).cell? ⟨w6.heap.size, 1, none⟩ = some (.slice ar6 nr6 qr6) from ⟨dcell (s0_), dcell (s1_), dcell (s2_), dcell (s3_), dcell (s4_), dcell (s5_), dcell (s6_), dcell (s7_)⟩)
                  have hSb := Lib.hid (show ∀ X Y : World, Below X.heap.size X Y → (X.cell? ⟨w1.heap.size, 0, none⟩ = some (.int .i64 kv1) ∧ X.cell? ⟨w1.heap.size, 1, none⟩ = some (.slice av1 nv1 qv1) ∧ X.cell? ⟨w2.heap.size, 0, none⟩ = some (.int .i64 kr2) ∧ X.cell? ⟨w2.heap.size, 1, none⟩ = some (.slice ar2 nr2 qr2) ∧ X.cell? ⟨w7.heap.size, 0, none⟩ = some (.int .i64 kr7) ∧ X.cell? ⟨w7.heap.size, 1, none⟩ = some (.slice ar7 nr7 qr7) ∧ X.cell? ⟨w6.heap.size, 0, none⟩ = some (.int .i64 kr6) ∧ X.cell? ⟨w6.heap.size, 1, none⟩ = some (.slice ar6 nr6 qr6)) → (Y.cell? ⟨w1.heap.size, 0, none⟩ = some (.int .i64 kv1) ∧ Y.cell? ⟨w1.heap.size, 1, none⟩ = some (.slice av1 nv1 qv1) ∧ Y.cell? ⟨w2.heap.size, 0, none⟩ = some (.int .i64 kr2) ∧ Y.cell? ⟨w2.heap.size, 1, none⟩ = some (.slice ar2 nr2 qr2) ∧ Y.cell? ⟨w7.heap.size, 0, none⟩ = some (.int .i64 kr7) ∧ Y.cell? ⟨w7.heap.size, 1, none⟩ = some (.slice ar7 nr7 qr7) ∧ Y.cell? ⟨w6.heap.size, 0, none⟩ = some (.int .i64 kr6) ∧ Y.cell? ⟨w6.heap.size, 1, none⟩ = some (.slice ar6 nr6 qr6)) from fun X Y h s => ⟨bcell h s.1, bcell h s.2.1, bcell h s.2.2.1, bcell h s.2.2.2.1, bcell h s.2.2.2.2.1, bcell h s.2.2.2.2.2.1, bcell h s.2.2.2.2.2.2.1, bcell h s.2.2.2.2.2.2.2⟩)
                  go_region_held3 (fun w' => w'.cell? ⟨w1.heap.size, 0, none⟩ = some (.int .i64 kv1) ∧ w'.cell? ⟨w1.heap.size, 1, none⟩ = some (.slice av1 nv1 qv1) ∧ w'.cell? ⟨w2.heap.size, 0, none⟩ = some (.int .i64 kr2) ∧ w'.cell? ⟨w2.heap.size, 1, none⟩ = some (.slice ar2 nr2 qr2) ∧ w'.cell? ⟨w7.heap.size, 0, none⟩ = some (.int .i64 kr7) ∧ w'.cell? ⟨w7.heap.size, 1, none⟩ = some (.slice ar7 nr7 qr7) ∧ w'.cell? ⟨w6.heap.size, 0, none⟩ = some (.int .i64 kr6) ∧ w'.cell? ⟨w6.heap.size, 1, none⟩ = some (.slice ar6 nr6 qr6))
                    (repeat (first | with_reducible refine hSb.out _ _ hb11 ?_ | with_reducible refine hSb.out _ _ hb10 ?_ | with_reducible refine hSb.out _ _ hb9 ?_ | with_reducible refine hSb.out _ _ hb8 ?_ | with_reducible exact hS0.out))
                    (first | (go_at_call 53; ((with_reducible refine (implPreciseB _ _ t1 (groundOfT t1) _ _ _ (hv1.below bal1.drew).all (hv2.below bal1.drew).rep.all).mono ?_); rintro e w8 ⟨rfl, hb8⟩; rw [Hq4.out])) | (go_at_call 37; ((with_reducible refine (implTypeSame _ _ (groundOfT (groundOfT t1)) (groundOfT t1) _ _ _ (hv7.below (bstep bal1.drew hb8)).rep.all (hv2.below (bstep bal1.drew hb8)).rep.all).mono ?_); rintro e w9 ⟨rfl, hb9⟩; rw [Hq6.out])) | (go_at_call 51; ((with_reducible refine (implConsistentB _ _ t1 (groundOfT t5) _ _ _ (hv1.below (bstep (bstep bal1.drew hb8) hb9)).all (hv6.below (bstep (bstep bal1.drew hb8) hb9)).rep.all).mono ?_); rintro e w10 ⟨rfl, hb10⟩; rw [Hq8.out])) | (go_at_call 37; ((with_reducible refine (implTypeSame _ _ (groundOfT t1) (groundOfT t5) _ _ _ (hv2.below (bstep (bstep (bstep bal1.drew hb8) hb9) hb10)).rep.all (hv6.below (bstep (bstep (bstep bal1.drew hb8) hb9) hb10)).rep.all).mono ?_); rintro e w11 ⟨rfl, hb11⟩)))
                  clear s0_ s1_ s2_ s3_ s4_ s5_ s6_ s7_
                  replace hB := (bstep (bstep (bstep (bstep (hB.alloc hB.size _).drew hb8) hb9) hb10) hb11)
                  have zw11 := hB.size
                  go_wp2_with fail
                  have hE := leaf_FnGroundOf_0 Hq3.out Hq4.out Hq5.out Hq6.out Hq7.out Hq8.out
                  refine bodyPost_ret (v := .bool (Ty.same (groundOfT t1) (groundOfT t5))) (by simp [results, Try.results15, go_sem]) rfl ?_
                  exact ⟨by rw [hE], hB⟩
                · have Hq8 := Lib.hid q8
                  clear q8
                  go_wp2_with fail
                  have s0_ : (World.alloc w7 (Obj.cells #[.int .i64 kr7, .slice ar7 nr7 qr7] 29)).cell? ⟨w1.heap.size, 0, none⟩ = some (.int .i64 kv1) := bcell bal1 (c0_0)
                  have s1_ : (World.alloc w7 (Obj.cells #[.int .i64 kr7, .slice ar7 nr7 qr7] 29)).cell? ⟨w1.heap.size, 1, none⟩ = some (.slice av1 nv1 qv1) := bcell bal1 (c0_1)
                  have s2_ : (World.alloc w7 (Obj.cells #[.int .i64 kr7, .slice ar7 nr7 qr7] 29)).cell? ⟨w2.heap.size, 0, none⟩ = some (.int .i64 kr2) := bcell bal1 (c1_0)
                  have s3_ : (World.alloc w7 (Obj.cells #[.int .i64 kr7, .slice ar7 nr7 qr7] 29)).cell? ⟨w2.heap.size, 1, none⟩ = some (.slice ar2 nr2 qr2) := bcell bal1 (c1_1)
                  have s4_ : (World.alloc w7 (Obj.cells #[.int .i64 kr7, .slice ar7 nr7 qr7] 29)).cell? ⟨w7.heap.size, 0, none⟩ = some (.int .i64 kr7) := cell_new (by simp) 0
                  have s5_ : (World.alloc w7 (Obj.cells #[.int .i64 kr7, .slice ar7 nr7 qr7] 29)).cell? ⟨w7.heap.size, 1, none⟩ = some (.slice ar7 nr7 qr7) := cell_new (by simp) 1
                  have s6_ : (World.alloc w7 (Obj.cells #[.int .i64 kr7, .slice ar7 nr7 qr7] 29)).cell? ⟨w6.heap.size, 0, none⟩ = some (.int .i64 kr6) := bcell bal1 (c4_0)
                  have s7_ : (World.alloc w7 (Obj.cells #[.int .i64 kr7, .slice ar7 nr7 qr7] 29)).cell? ⟨w6.heap.size, 1, none⟩ = some (.slice ar6 nr6 qr6) := bcell bal1 (c4_1)
                  have hS0 := Lib.hid (show (World.drew (World.alloc w7 (Obj.cells #[.int .i64 kr7, .slice ar7 nr7 qr7] 29))).cell? ⟨w1.heap.size, 0, none⟩ = some (.int .i64 kv1) ∧ (World.drew (World.alloc w7 (Obj.cells #[.int .i64 kr7, .slice ar7 nr7 qr7] 29))).cell? ⟨w1.heap.size, 1, none⟩ = some (.slice av1 nv1 qv1) ∧ (World.drew (World.alloc w7 (Obj.cells #[.int .i64 kr7, .slice ar7 nr7 qr7] 29))).cell? ⟨w2.heap.size, 0, none⟩ = some (.int .i64 kr2) ∧ (World.drew (World.alloc w7 (Obj.cells #[.int .i64 kr7, .slice ar7 nr7 qr7] 29))).cell? ⟨w2.heap.size, 1, none⟩ = some (.slice ar2 nr2 qr2) ∧ (World.drew (World.alloc w7 (Obj.cells #[.int .i64 kr7, .slice ar7 nr7 qr7] 29))).cell? ⟨w7.heap.size, 0, none⟩ = some (.int .i64 kr7) ∧ (World.drew (World.alloc w7 (Obj.cells #[.int .i64 kr7, .slice ar7 nr7 qr7] 29))).cell? ⟨w7.heap.size, 1, none⟩ = some (.slice ar7 nr7 qr7) ∧ (World.drew (World.alloc w7 (Obj.cells #[.int .i64 kr7, .slice ar7 nr7 qr7] 29))).cell? ⟨w6.heap.size, 0, none⟩ = some (.int .i64 kr6) ∧ (World.drew (World.alloc w7 (Obj.cells #[.int .i64 kr7, .slice ar7 nr7 qr7] 29))).cell? ⟨w6.heap.size, 1, none⟩ = some (.slice ar6 nr6 qr6) from ⟨dcell (s0_), dcell (s1_), dcell (s2_), dcell (s3_), dcell (s4_), dcell (s5_), dcell (s6_), dcell (s7_)⟩)
                  have hSb := Lib.hid (show ∀ X Y : World, Below X.heap.size X Y → (X.cell? ⟨w1.heap.size, 0, none⟩ = some (.int .i64 kv1) ∧ X.cell? ⟨w1.heap.size, 1, none⟩ = some (.slice av1 nv1 qv1) ∧ X.cell? ⟨w2.heap.size, 0, none⟩ = some (.int .i64 kr2) ∧ X.cell? ⟨w2.heap.size, 1, none⟩ = some (.slice ar2 nr2 qr2) ∧ X.cell? ⟨w7.heap.size, 0, none⟩ = some (.int .i64 kr7) ∧ X.cell? ⟨w7.heap.size, 1, none⟩ = some (.slice ar7 nr7 qr7) ∧ X.cell? ⟨w6.heap.size, 0, none⟩ = some (.int .i64 kr6) ∧ X.cell? ⟨w6.heap.size, 1, none⟩ = some (.slice ar6 nr6 qr6)) → (Y.cell? ⟨w1.heap.size, 0, none⟩ = some (.int .i64 kv1) ∧ Y.cell? ⟨w1.heap.size, 1, none⟩ = some (.slice av1 nv1 qv1) ∧ Y.cell? ⟨w2.heap.size, 0, none⟩ = some (.int .i64 kr2) ∧ Y.cell? ⟨w2.heap.size, 1, none⟩ = some (.slice ar2 nr2 qr2) ∧ Y.cell? ⟨w7.heap.size, 0, none⟩ = some (.int .i64 kr7) ∧ Y.cell? ⟨w7.heap.size, 1, none⟩ = some (.slice ar7 nr7 qr7) ∧ Y.cell? ⟨w6.heap.size, 0, none⟩ = some (.int .i64 kr6) ∧ Y.cell? ⟨w6.heap.size, 1, none⟩ = some (.slice ar6 nr6 qr6)) from fun X Y h s => ⟨bcell h s.1, bcell h s.2.1, bcell h s.2.2.1, bcell h s.2.2.2.1, bcell h s.2.2.2.2.1, bcell h s.2.2.2.2.2.1, bcell h s.2.2.2.2.2.2.1, bcell h s.2.2.2.2.2.2.2⟩)
                  go_region_held3 (fun w' => w'.cell? ⟨w1.heap.size, 0, none⟩ = some (.int .i64 kv1) ∧ w'.cell? ⟨w1.heap.size, 1, none⟩ = some (.slice av1 nv1 qv1) ∧ w'.cell? ⟨w2.heap.size, 0, none⟩ = some (.int .i64 kr2) ∧ w'.cell? ⟨w2.heap.size, 1, none⟩ = some (.slice ar2 nr2 qr2) ∧ w'.cell? ⟨w7.heap.size, 0, none⟩ = some (.int .i64 kr7) ∧ w'.cell? ⟨w7.heap.size, 1, none⟩ = some (.slice ar7 nr7 qr7) ∧ w'.cell? ⟨w6.heap.size, 0, none⟩ = some (.int .i64 kr6) ∧ w'.cell? ⟨w6.heap.size, 1, none⟩ = some (.slice ar6 nr6 qr6))
                    (repeat (first | with_reducible refine hSb.out _ _ hb15 ?_ | with_reducible refine hSb.out _ _ hb14 ?_ | with_reducible refine hSb.out _ _ hb13 ?_ | with_reducible refine hSb.out _ _ hb12 ?_ | with_reducible exact hS0.out))
                    (first | (go_at_call 53; ((with_reducible refine (implPreciseB _ _ t1 (groundOfT t1) _ _ _ (hv1.below bal1.drew).all (hv2.below bal1.drew).rep.all).mono ?_); rintro e w12 ⟨rfl, hb12⟩; rw [Hq4.out])) | (go_at_call 37; ((with_reducible refine (implTypeSame _ _ (groundOfT (groundOfT t1)) (groundOfT t1) _ _ _ (hv7.below (bstep bal1.drew hb12)).rep.all (hv2.below (bstep bal1.drew hb12)).rep.all).mono ?_); rintro e w13 ⟨rfl, hb13⟩; rw [Hq6.out])) | (go_at_call 51; ((with_reducible refine (implConsistentB _ _ t1 (groundOfT t5) _ _ _ (hv1.below (bstep (bstep bal1.drew hb12) hb13)).all (hv6.below (bstep (bstep bal1.drew hb12) hb13)).rep.all).mono ?_); rintro e w14 ⟨rfl, hb14⟩; rw [Hq8.out])) | (go_at_call 37; ((with_reducible refine (implTypeSame _ _ (groundOfT t1) (groundOfT t5) _ _ _ (hv2.below (bstep (bstep (bstep bal1.drew hb12) hb13) hb14)).rep.all (hv6.below (bstep (bstep (bstep bal1.drew hb12) hb13) hb14)).rep.all).mono ?_); rintro e w15 ⟨rfl, hb15⟩)))
                  clear s0_ s1_ s2_ s3_ s4_ s5_ s6_ s7_
                  replace hB := (bstep (bstep (bstep (bstep (hB.alloc hB.size _).drew hb12) hb13) hb14) hb15)
                  have zw15 := hB.size
                  go_wp2_with fail
                  have hE := leaf_FnGroundOf_1 Hq3.out Hq4.out Hq5.out Hq6.out Hq7.out Hq8.out
                  refine bodyPost_ret (v := .bool (!(Ty.same (groundOfT t1) (groundOfT t5)))) (by simp [results, Try.results15, go_sem]) rfl ?_
                  exact ⟨by rw [hE], hB⟩
              · (try rw [q7])
                have Hq7 := Lib.hid q7
                clear q7
                go_wp2_with fail
                have s0_ : (World.alloc w7 (Obj.cells #[.int .i64 kr7, .slice ar7 nr7 qr7] 29)).cell? ⟨w1.heap.size, 0, none⟩ = some (.int .i64 kv1) := bcell bal1 (c0_0)
                have s1_ : (World.alloc w7 (Obj.cells #[.int .i64 kr7, .slice ar7 nr7 qr7] 29)).cell? ⟨w1.heap.size, 1, none⟩ = some (.slice av1 nv1 qv1) := bcell bal1 (c0_1)
                have s2_ : (World.alloc w7 (Obj.cells #[.int .i64 kr7, .slice ar7 nr7 qr7] 29)).cell? ⟨w2.heap.size, 0, none⟩ = some (.int .i64 kr2) := bcell bal1 (c1_0)
                have s3_ : (World.alloc w7 (Obj.cells #[.int .i64 kr7, .slice ar7 nr7 qr7] 29)).cell? ⟨w2.heap.size, 1, none⟩ = some (.slice ar2 nr2 qr2) := bcell bal1 (c1_1)
                have s4_ : (World.alloc w7 (Obj.cells #[.int .i64 kr7, .slice ar7 nr7 qr7] 29)).cell? ⟨w7.heap.size, 0, none⟩ = some (.int .i64 kr7) := cell_new (by simp) 0
                have s5_ : (World.alloc w7 (Obj.cells #[.int .i64 kr7, .slice ar7 nr7 qr7] 29)).cell? ⟨w7.heap.size, 1, none⟩ = some (.slice ar7 nr7 qr7) := cell_new (by simp) 1
                refine wp_region_noPanic ?_
                refine wp_region_held_drew (S := fun w' => w'.cell? ⟨w1.heap.size, 0, none⟩ = some (.int .i64 kv1) ∧ w'.cell? ⟨w1.heap.size, 1, none⟩ = some (.slice av1 nv1 qv1) ∧ w'.cell? ⟨w2.heap.size, 0, none⟩ = some (.int .i64 kr2) ∧ w'.cell? ⟨w2.heap.size, 1, none⟩ = some (.slice ar2 nr2 qr2) ∧ w'.cell? ⟨w7.heap.size, 0, none⟩ = some (.int .i64 kr7) ∧ w'.cell? ⟨w7.heap.size, 1, none⟩ = some (.slice ar7 nr7 qr7)) (by kernel_rfl) ?_ (fun hHeld0 => ?_)
                · exact ⟨dcell (s0_), dcell (s1_), dcell (s2_), dcell (s3_), dcell (s4_), dcell (s5_)⟩
                refine wpAnyH_take (i := 0) (oi := { dst := some 68, op := Op.load 29 (Operand.tmp 5), type := 29, pos := "laws.go:145", after := #[], guard := none }) (v := .agg #[.int .i64 kv1, .slice av1 nv1 qv1]) rfl (by kernel_rfl) (by kernel_rfl) (by kernel_rfl) (fun _ _ _ h => h) (Or.inl ⟨by rfl, ?_⟩) hHeld0 ?_
                · intro w' hSw; (try dsimp only at hSw); go_simp
                (try simp only [Act.put, List.setIfInBounds_toArray, List.set_cons_zero, List.set_cons_succ])
                refine wpAnyH_take (i := 1) (oi := { dst := some 69, op := Op.load 29 (Operand.tmp 6), type := 29, pos := "laws.go:145", after := #[], guard := none }) (v := .agg #[.int .i64 kr2, .slice ar2 nr2 qr2]) rfl (by kernel_rfl) (by kernel_rfl) (by kernel_rfl) (fun _ _ _ h => h) (Or.inl ⟨by rfl, ?_⟩) hHeld0 ?_
                · intro w' hSw; (try dsimp only at hSw); go_simp
                (try simp only [Act.put, List.setIfInBounds_toArray, List.set_cons_zero, List.set_cons_succ])
                refine wpAnyH_ready (rs := [2]) (by kernel_rfl) (by simp) ?_
                refine AllReadyH.cons (o := { dst := some 70, op := Op.call { callee := Callee.value (Operand.func 53), args := #[Operand.tmp 68, Operand.tmp 69], argTypes := #[29, 29] }, type := 4, pos := "laws.go:145", after := #[{ on := 0, ground := Ground.data }, { on := 1, ground := Ground.data }], guard := none }) rfl (fun K hK => ?_) AllReadyH.nil
                go_simp
                go_at_call 53
                (with_reducible refine (implPreciseB _ _ t1 (groundOfT t1) _ _ _ (hv1.below bal1.drew).all (hv2.below bal1.drew).rep.all).mono ?_)
                rintro e w16 ⟨rfl, hb16⟩
                rw [Hq4.out]
                go_wp2_with fail
                refine hK.out _ _ ?_ (fun hHeld1 => ?_)
                · exact ⟨bcell hb16 (dcell (s0_)), bcell hb16 (dcell (s1_)), bcell hb16 (dcell (s2_)), bcell hb16 (dcell (s3_)), bcell hb16 (dcell (s4_)), bcell hb16 (dcell (s5_))⟩
                clear hK K hHeld0
                (try simp only [Act.put, List.setIfInBounds_toArray, List.set_cons_zero, List.set_cons_succ])
                refine wpAnyH_take (i := 3) (oi := { dst := some 71, op := Op.move (Operand.tmp 70), type := 4, pos := "laws.go:145", after := #[{ on := 2, ground := Ground.data }, { on := 2, ground := Ground.chain }], guard := none }) (v := .bool true) rfl (by kernel_rfl) (by kernel_rfl) (by kernel_rfl) (fun _ _ _ h => h) (Or.inl ⟨by rfl, ?_⟩) hHeld1 ?_
                · intro w' hSw; (try dsimp only at hSw); go_simp
                (try simp only [Act.put, List.setIfInBounds_toArray, List.set_cons_zero, List.set_cons_succ])
                refine wpAnyH_take (i := 4) (oi := { dst := some 72, op := Op.move (Operand.tmp 14), type := 4, pos := "laws.go:145", after := #[{ on := 3, ground := Ground.guard }], guard := some (3, true) }) (v := .bool true) rfl (by kernel_rfl) (by kernel_rfl) (by kernel_rfl) (fun _ _ _ h => h) (Or.inl ⟨by rfl, ?_⟩) hHeld1 ?_
                · intro w' hSw; (try dsimp only at hSw); go_simp
                (try simp only [Act.put, List.setIfInBounds_toArray, List.set_cons_zero, List.set_cons_succ])
                refine wpAnyH_take (i := 5) (oi := { dst := some 73, op := Op.pick (Operand.tmp 71) (Operand.tmp 72) (Operand.const (Value.bool false)), type := 4, pos := "laws.go:145", after := #[{ on := 3, ground := Ground.data }, { on := 4, ground := Ground.data }], guard := none }) (v := .bool true) rfl (by kernel_rfl) (by kernel_rfl) (by kernel_rfl) (fun _ _ _ h => h) (Or.inl ⟨by rfl, ?_⟩) hHeld1 ?_
                · intro w' hSw; (try dsimp only at hSw); go_simp
                (try simp only [Act.put, List.setIfInBounds_toArray, List.set_cons_zero, List.set_cons_succ])
                refine wpAnyH_take (i := 6) (oi := { dst := some 74, op := Op.move (Operand.tmp 73), type := 4, pos := "laws.go:145", after := #[{ on := 5, ground := Ground.data }, { on := 3, ground := Ground.chain }], guard := none }) (v := .bool true) rfl (by kernel_rfl) (by kernel_rfl) (by kernel_rfl) (fun _ _ _ h => h) (Or.inl ⟨by rfl, ?_⟩) hHeld1 ?_
                · intro w' hSw; (try dsimp only at hSw); go_simp
                (try simp only [Act.put, List.setIfInBounds_toArray, List.set_cons_zero, List.set_cons_succ])
                refine wpAnyH_take (i := 7) (oi := { dst := some 75, op := Op.load 29 (Operand.tmp 13), type := 29, pos := "laws.go:145", after := #[{ on := 6, ground := Ground.guard }], guard := some (6, true) }) (v := .agg #[.int .i64 kr7, .slice ar7 nr7 qr7]) rfl (by kernel_rfl) (by kernel_rfl) (by kernel_rfl) (fun _ _ _ h => h) (Or.inl ⟨by rfl, ?_⟩) hHeld1 ?_
                · intro w' hSw; (try dsimp only at hSw); go_simp
                (try simp only [Act.put, List.setIfInBounds_toArray, List.set_cons_zero, List.set_cons_succ])
                refine wpAnyH_take (i := 8) (oi := { dst := some 76, op := Op.load 29 (Operand.tmp 6), type := 29, pos := "laws.go:145", after := #[{ on := 6, ground := Ground.guard }], guard := some (6, true) }) (v := .agg #[.int .i64 kr2, .slice ar2 nr2 qr2]) rfl (by kernel_rfl) (by kernel_rfl) (by kernel_rfl) (fun _ _ _ h => h) (Or.inl ⟨by rfl, ?_⟩) hHeld1 ?_
                · intro w' hSw; (try dsimp only at hSw); go_simp
                (try simp only [Act.put, List.setIfInBounds_toArray, List.set_cons_zero, List.set_cons_succ])
                refine wpAnyH_ready (rs := [9]) (by kernel_rfl) (by simp) ?_
                refine AllReadyH.cons (o := { dst := some 77, op := Op.call { callee := Callee.value (Operand.func 37), args := #[Operand.tmp 75, Operand.tmp 76], argTypes := #[29, 29] }, type := 4, pos := "laws.go:145", after := #[{ on := 7, ground := Ground.data }, { on := 8, ground := Ground.data }, { on := 6, ground := Ground.chain }, { on := 6, ground := Ground.guard }], guard := some (6, true) }) rfl (fun K hK => ?_) AllReadyH.nil
                go_simp
                go_at_call 37
                (with_reducible refine (implTypeSame _ _ (groundOfT (groundOfT t1)) (groundOfT t1) _ _ _ (hv7.below (bstep bal1.drew hb16)).rep.all (hv2.below (bstep bal1.drew hb16)).rep.all).mono ?_)
                rintro e w17 ⟨rfl, hb17⟩
                rw [Hq6.out]
                go_wp2_with fail
                refine hK.out _ _ ?_ (fun hHeld2 => ?_)
                · exact ⟨bcell hb17 (bcell hb16 (dcell (s0_))), bcell hb17 (bcell hb16 (dcell (s1_))), bcell hb17 (bcell hb16 (dcell (s2_))), bcell hb17 (bcell hb16 (dcell (s3_))), bcell hb17 (bcell hb16 (dcell (s4_))), bcell hb17 (bcell hb16 (dcell (s5_)))⟩
                clear hK K hHeld1
                (try simp only [Act.put, List.setIfInBounds_toArray, List.set_cons_zero, List.set_cons_succ])
                refine wpAnyH_take (i := 10) (oi := { dst := some 78, op := Op.pick (Operand.tmp 74) (Operand.tmp 77) (Operand.const (Value.bool false)), type := 4, pos := "laws.go:145", after := #[{ on := 6, ground := Ground.data }, { on := 9, ground := Ground.data }], guard := none }) (v := .bool true) rfl (by kernel_rfl) (by kernel_rfl) (by kernel_rfl) (fun _ _ _ h => h) (Or.inl ⟨by rfl, ?_⟩) hHeld2 ?_
                · intro w' hSw; (try dsimp only at hSw); go_simp
                (try simp only [Act.put, List.setIfInBounds_toArray, List.set_cons_zero, List.set_cons_succ])
                refine wpAnyH_take (i := 11) (oi := { dst := some 79, op := Op.move (Operand.tmp 78), type := 4, pos := "laws.go:145", after := #[{ on := 10, ground := Ground.data }, { on := 9, ground := Ground.chain }], guard := none }) (v := .bool true) rfl (by kernel_rfl) (by kernel_rfl) (by kernel_rfl) (fun _ _ _ h => h) (Or.inl ⟨by rfl, ?_⟩) hHeld2 ?_
                · intro w' hSw; (try dsimp only at hSw); go_simp
                (try simp only [Act.put, List.setIfInBounds_toArray, List.set_cons_zero, List.set_cons_succ])
                refine wpAnyH_take (i := 12) (oi := { dst := some 80, op := Op.move (Operand.tmp 12), type := 4, pos := "laws.go:145", after := #[{ on := 11, ground := Ground.guard }], guard := some (11, true) }) (v := .bool false) rfl (by kernel_rfl) (by kernel_rfl) (by kernel_rfl) (fun _ _ _ h => h) (Or.inl ⟨by rfl, ?_⟩) hHeld2 ?_
                · intro w' hSw; (try dsimp only at hSw); go_simp
                (try simp only [Act.put, List.setIfInBounds_toArray, List.set_cons_zero, List.set_cons_succ])
                refine wpAnyH_take (i := 13) (oi := { dst := some 81, op := Op.unOp UnOp.not 4 (Operand.tmp 80), type := 4, pos := "laws.go:145", after := #[{ on := 12, ground := Ground.data }, { on := 11, ground := Ground.guard }], guard := some (11, true) }) (v := .bool true) rfl (by kernel_rfl) (by kernel_rfl) (by kernel_rfl) (fun _ _ _ h => h) (Or.inl ⟨by rfl, ?_⟩) hHeld2 ?_
                · intro w' hSw; (try dsimp only at hSw); go_simp
                (try simp only [Act.put, List.setIfInBounds_toArray, List.set_cons_zero, List.set_cons_succ])
                refine wpAnyH_take (i := 14) (oi := { dst := some 82, op := Op.move (Operand.tmp 81), type := 4, pos := "laws.go:145", after := #[{ on := 13, ground := Ground.data }, { on := 11, ground := Ground.chain }, { on := 11, ground := Ground.guard }], guard := some (11, true) }) (v := .bool true) rfl (by kernel_rfl) (by kernel_rfl) (by kernel_rfl) (fun _ _ _ h => h) (Or.inl ⟨by rfl, ?_⟩) hHeld2 ?_
                · intro w' hSw; (try dsimp only at hSw); go_simp
                (try simp only [Act.put, List.setIfInBounds_toArray, List.set_cons_zero, List.set_cons_succ])
                refine wpAnyH_take (i := 15) (oi := { dst := some 83, op := Op.load 29 (Operand.tmp 5), type := 29, pos := "laws.go:145", after := #[{ on := 14, ground := Ground.guard }], guard := some (14, false) }) (v := undef) rfl (by kernel_rfl) (by kernel_rfl) (by kernel_rfl) (fun _ _ _ h => h) (Or.inr ⟨by rfl, rfl⟩) hHeld2 ?_
                (try simp only [Act.put, List.setIfInBounds_toArray, List.set_cons_zero, List.set_cons_succ])
                refine wpAnyH_take (i := 16) (oi := { dst := some 84, op := Op.load 29 (Operand.tmp 11), type := 29, pos := "laws.go:145", after := #[{ on := 14, ground := Ground.guard }], guard := some (14, false) }) (v := undef) rfl (by kernel_rfl) (by kernel_rfl) (by kernel_rfl) (fun _ _ _ h => h) (Or.inr ⟨by rfl, rfl⟩) hHeld2 ?_
                (try simp only [Act.put, List.setIfInBounds_toArray, List.set_cons_zero, List.set_cons_succ])
                refine wpAnyH_take (i := 17) (oi := { dst := some 85, op := Op.call { callee := Callee.value (Operand.func 51), args := #[Operand.tmp 83, Operand.tmp 84], argTypes := #[29, 29] }, type := 4, pos := "laws.go:145", after := #[{ on := 15, ground := Ground.data }, { on := 16, ground := Ground.data }, { on := 14, ground := Ground.chain }, { on := 14, ground := Ground.guard }], guard := some (14, false) }) (v := undef) rfl (by kernel_rfl) (by kernel_rfl) (by kernel_rfl) (fun _ _ _ h => h) (Or.inr ⟨by rfl, rfl⟩) hHeld2 ?_
                (try simp only [Act.put, List.setIfInBounds_toArray, List.set_cons_zero, List.set_cons_succ])
                refine wpAnyH_take (i := 18) (oi := { dst := some 86, op := Op.load 29 (Operand.tmp 6), type := 29, pos := "laws.go:145", after := #[{ on := 14, ground := Ground.guard }], guard := some (14, false) }) (v := undef) rfl (by kernel_rfl) (by kernel_rfl) (by kernel_rfl) (fun _ _ _ h => h) (Or.inr ⟨by rfl, rfl⟩) hHeld2 ?_
                (try simp only [Act.put, List.setIfInBounds_toArray, List.set_cons_zero, List.set_cons_succ])
                refine wpAnyH_take (i := 19) (oi := { dst := some 87, op := Op.load 29 (Operand.tmp 11), type := 29, pos := "laws.go:145", after := #[{ on := 14, ground := Ground.guard }], guard := some (14, false) }) (v := undef) rfl (by kernel_rfl) (by kernel_rfl) (by kernel_rfl) (fun _ _ _ h => h) (Or.inr ⟨by rfl, rfl⟩) hHeld2 ?_
                (try simp only [Act.put, List.setIfInBounds_toArray, List.set_cons_zero, List.set_cons_succ])
                refine wpAnyH_take (i := 20) (oi := { dst := some 88, op := Op.call { callee := Callee.value (Operand.func 37), args := #[Operand.tmp 86, Operand.tmp 87], argTypes := #[29, 29] }, type := 4, pos := "laws.go:145", after := #[{ on := 18, ground := Ground.data }, { on := 19, ground := Ground.data }, { on := 17, ground := Ground.chain }, { on := 14, ground := Ground.guard }], guard := some (14, false) }) (v := undef) rfl (by kernel_rfl) (by kernel_rfl) (by kernel_rfl) (fun _ _ _ h => h) (Or.inr ⟨by rfl, rfl⟩) hHeld2 ?_
                (try simp only [Act.put, List.setIfInBounds_toArray, List.set_cons_zero, List.set_cons_succ])
                refine wpAnyH_take (i := 21) (oi := { dst := some 89, op := Op.binOp BinOp.eql 4 (Operand.tmp 85) (Operand.tmp 88) 4, type := 4, pos := "laws.go:145", after := #[{ on := 17, ground := Ground.data }, { on := 20, ground := Ground.data }, { on := 14, ground := Ground.guard }], guard := some (14, false) }) (v := undef) rfl (by kernel_rfl) (by kernel_rfl) (by kernel_rfl) (fun _ _ _ h => h) (Or.inr ⟨by rfl, rfl⟩) hHeld2 ?_
                (try simp only [Act.put, List.setIfInBounds_toArray, List.set_cons_zero, List.set_cons_succ])
                refine wpAnyH_take (i := 22) (oi := { dst := some 90, op := Op.pick (Operand.tmp 82) (Operand.const (Value.bool true)) (Operand.tmp 89), type := 4, pos := "laws.go:145", after := #[{ on := 14, ground := Ground.data }, { on := 21, ground := Ground.data }, { on := 11, ground := Ground.guard }], guard := some (11, true) }) (v := .bool true) rfl (by kernel_rfl) (by kernel_rfl) (by kernel_rfl) (fun _ _ _ h => h) (Or.inl ⟨by rfl, ?_⟩) hHeld2 ?_
                · intro w' hSw; (try dsimp only at hSw); go_simp
                (try simp only [Act.put, List.setIfInBounds_toArray, List.set_cons_zero, List.set_cons_succ])
                refine wpAnyH_take (i := 23) (oi := { dst := some 91, op := Op.pick (Operand.tmp 79) (Operand.tmp 90) (Operand.const (Value.bool false)), type := 4, pos := "laws.go:145", after := #[{ on := 11, ground := Ground.data }, { on := 22, ground := Ground.data }], guard := none }) (v := .bool true) rfl (by kernel_rfl) (by kernel_rfl) (by kernel_rfl) (fun _ _ _ h => h) (Or.inl ⟨by rfl, ?_⟩) hHeld2 ?_
                · intro w' hSw; (try dsimp only at hSw); go_simp
                (try simp only [Act.put, List.setIfInBounds_toArray, List.set_cons_zero, List.set_cons_succ])
                refine wpAnyH_take (i := 24) (oi := { dst := some 4, op := Op.assign (Operand.tmp 91), type := 4, pos := "laws.go:145", after := #[{ on := 23, ground := Ground.data }, { on := 20, ground := Ground.chain }, { on := 0, ground := Ground.phase }, { on := 1, ground := Ground.phase }, { on := 2, ground := Ground.phase }, { on := 3, ground := Ground.phase }, { on := 4, ground := Ground.phase }, { on := 5, ground := Ground.phase }, { on := 6, ground := Ground.phase }, { on := 7, ground := Ground.phase }, { on := 8, ground := Ground.phase }, { on := 9, ground := Ground.phase }, { on := 10, ground := Ground.phase }, { on := 11, ground := Ground.phase }, { on := 12, ground := Ground.phase }, { on := 13, ground := Ground.phase }, { on := 14, ground := Ground.phase }, { on := 15, ground := Ground.phase }, { on := 16, ground := Ground.phase }, { on := 17, ground := Ground.phase }, { on := 18, ground := Ground.phase }, { on := 19, ground := Ground.phase }, { on := 20, ground := Ground.phase }, { on := 21, ground := Ground.phase }, { on := 22, ground := Ground.phase }, { on := 23, ground := Ground.phase }], guard := none }) (v := .bool true) rfl (by kernel_rfl) (by kernel_rfl) (by kernel_rfl) (fun _ _ _ h => h) (Or.inl ⟨by rfl, ?_⟩) hHeld2 ?_
                · intro w' hSw; (try dsimp only at hSw); go_simp
                (try simp only [Act.put, List.setIfInBounds_toArray, List.set_cons_zero, List.set_cons_succ])
                refine wpAnyH_done (by kernel_rfl) ?_ _
                refine NoPanic.normal ?_
                clear hHeld2 s0_ s1_ s2_ s3_ s4_ s5_
                replace hB := (bstep (bstep (hB.alloc hB.size _).drew hb16) hb17)
                have zw17 := hB.size
                go_wp2_with fail
                refine bodyPost_ret (v := .bool true) (by simp [results, Try.results15, go_sem]) rfl ?_
                exact ⟨rfl, hB⟩
            · have Hq6 := Lib.hid q6
              clear q6
              go_wp2_with fail
              have s0_ : (World.alloc w7 (Obj.cells #[.int .i64 kr7, .slice ar7 nr7 qr7] 29)).cell? ⟨w1.heap.size, 0, none⟩ = some (.int .i64 kv1) := bcell bal1 (c0_0)
              have s1_ : (World.alloc w7 (Obj.cells #[.int .i64 kr7, .slice ar7 nr7 qr7] 29)).cell? ⟨w1.heap.size, 1, none⟩ = some (.slice av1 nv1 qv1) := bcell bal1 (c0_1)
              have s2_ : (World.alloc w7 (Obj.cells #[.int .i64 kr7, .slice ar7 nr7 qr7] 29)).cell? ⟨w2.heap.size, 0, none⟩ = some (.int .i64 kr2) := bcell bal1 (c1_0)
              have s3_ : (World.alloc w7 (Obj.cells #[.int .i64 kr7, .slice ar7 nr7 qr7] 29)).cell? ⟨w2.heap.size, 1, none⟩ = some (.slice ar2 nr2 qr2) := bcell bal1 (c1_1)
              have s4_ : (World.alloc w7 (Obj.cells #[.int .i64 kr7, .slice ar7 nr7 qr7] 29)).cell? ⟨w7.heap.size, 0, none⟩ = some (.int .i64 kr7) := cell_new (by simp) 0
              have s5_ : (World.alloc w7 (Obj.cells #[.int .i64 kr7, .slice ar7 nr7 qr7] 29)).cell? ⟨w7.heap.size, 1, none⟩ = some (.slice ar7 nr7 qr7) := cell_new (by simp) 1
              refine wp_region_noPanic ?_
              refine wp_region_held_drew (S := fun w' => w'.cell? ⟨w1.heap.size, 0, none⟩ = some (.int .i64 kv1) ∧ w'.cell? ⟨w1.heap.size, 1, none⟩ = some (.slice av1 nv1 qv1) ∧ w'.cell? ⟨w2.heap.size, 0, none⟩ = some (.int .i64 kr2) ∧ w'.cell? ⟨w2.heap.size, 1, none⟩ = some (.slice ar2 nr2 qr2) ∧ w'.cell? ⟨w7.heap.size, 0, none⟩ = some (.int .i64 kr7) ∧ w'.cell? ⟨w7.heap.size, 1, none⟩ = some (.slice ar7 nr7 qr7)) (by kernel_rfl) ?_ (fun hHeld0 => ?_)
              · exact ⟨dcell (s0_), dcell (s1_), dcell (s2_), dcell (s3_), dcell (s4_), dcell (s5_)⟩
              refine wpAnyH_take (i := 0) (oi := { dst := some 68, op := Op.load 29 (Operand.tmp 5), type := 29, pos := "laws.go:145", after := #[], guard := none }) (v := .agg #[.int .i64 kv1, .slice av1 nv1 qv1]) rfl (by kernel_rfl) (by kernel_rfl) (by kernel_rfl) (fun _ _ _ h => h) (Or.inl ⟨by rfl, ?_⟩) hHeld0 ?_
              · intro w' hSw; (try dsimp only at hSw); go_simp
              (try simp only [Act.put, List.setIfInBounds_toArray, List.set_cons_zero, List.set_cons_succ])
              refine wpAnyH_take (i := 1) (oi := { dst := some 69, op := Op.load 29 (Operand.tmp 6), type := 29, pos := "laws.go:145", after := #[], guard := none }) (v := .agg #[.int .i64 kr2, .slice ar2 nr2 qr2]) rfl (by kernel_rfl) (by kernel_rfl) (by kernel_rfl) (fun _ _ _ h => h) (Or.inl ⟨by rfl, ?_⟩) hHeld0 ?_
              · intro w' hSw; (try dsimp only at hSw); go_simp
              (try simp only [Act.put, List.setIfInBounds_toArray, List.set_cons_zero, List.set_cons_succ])
              refine wpAnyH_ready (rs := [2]) (by kernel_rfl) (by simp) ?_
              refine AllReadyH.cons (o := { dst := some 70, op := Op.call { callee := Callee.value (Operand.func 53), args := #[Operand.tmp 68, Operand.tmp 69], argTypes := #[29, 29] }, type := 4, pos := "laws.go:145", after := #[{ on := 0, ground := Ground.data }, { on := 1, ground := Ground.data }], guard := none }) rfl (fun K hK => ?_) AllReadyH.nil
              go_simp
              go_at_call 53
              (with_reducible refine (implPreciseB _ _ t1 (groundOfT t1) _ _ _ (hv1.below bal1.drew).all (hv2.below bal1.drew).rep.all).mono ?_)
              rintro e w18 ⟨rfl, hb18⟩
              rw [Hq4.out]
              go_wp2_with fail
              refine hK.out _ _ ?_ (fun hHeld1 => ?_)
              · exact ⟨bcell hb18 (dcell (s0_)), bcell hb18 (dcell (s1_)), bcell hb18 (dcell (s2_)), bcell hb18 (dcell (s3_)), bcell hb18 (dcell (s4_)), bcell hb18 (dcell (s5_))⟩
              clear hK K hHeld0
              (try simp only [Act.put, List.setIfInBounds_toArray, List.set_cons_zero, List.set_cons_succ])
              refine wpAnyH_take (i := 3) (oi := { dst := some 71, op := Op.move (Operand.tmp 70), type := 4, pos := "laws.go:145", after := #[{ on := 2, ground := Ground.data }, { on := 2, ground := Ground.chain }], guard := none }) (v := .bool true) rfl (by kernel_rfl) (by kernel_rfl) (by kernel_rfl) (fun _ _ _ h => h) (Or.inl ⟨by rfl, ?_⟩) hHeld1 ?_
              · intro w' hSw; (try dsimp only at hSw); go_simp
              (try simp only [Act.put, List.setIfInBounds_toArray, List.set_cons_zero, List.set_cons_succ])
              refine wpAnyH_take (i := 4) (oi := { dst := some 72, op := Op.move (Operand.tmp 14), type := 4, pos := "laws.go:145", after := #[{ on := 3, ground := Ground.guard }], guard := some (3, true) }) (v := .bool true) rfl (by kernel_rfl) (by kernel_rfl) (by kernel_rfl) (fun _ _ _ h => h) (Or.inl ⟨by rfl, ?_⟩) hHeld1 ?_
              · intro w' hSw; (try dsimp only at hSw); go_simp
              (try simp only [Act.put, List.setIfInBounds_toArray, List.set_cons_zero, List.set_cons_succ])
              refine wpAnyH_take (i := 5) (oi := { dst := some 73, op := Op.pick (Operand.tmp 71) (Operand.tmp 72) (Operand.const (Value.bool false)), type := 4, pos := "laws.go:145", after := #[{ on := 3, ground := Ground.data }, { on := 4, ground := Ground.data }], guard := none }) (v := .bool true) rfl (by kernel_rfl) (by kernel_rfl) (by kernel_rfl) (fun _ _ _ h => h) (Or.inl ⟨by rfl, ?_⟩) hHeld1 ?_
              · intro w' hSw; (try dsimp only at hSw); go_simp
              (try simp only [Act.put, List.setIfInBounds_toArray, List.set_cons_zero, List.set_cons_succ])
              refine wpAnyH_take (i := 6) (oi := { dst := some 74, op := Op.move (Operand.tmp 73), type := 4, pos := "laws.go:145", after := #[{ on := 5, ground := Ground.data }, { on := 3, ground := Ground.chain }], guard := none }) (v := .bool true) rfl (by kernel_rfl) (by kernel_rfl) (by kernel_rfl) (fun _ _ _ h => h) (Or.inl ⟨by rfl, ?_⟩) hHeld1 ?_
              · intro w' hSw; (try dsimp only at hSw); go_simp
              (try simp only [Act.put, List.setIfInBounds_toArray, List.set_cons_zero, List.set_cons_succ])
              refine wpAnyH_take (i := 7) (oi := { dst := some 75, op := Op.load 29 (Operand.tmp 13), type := 29, pos := "laws.go:145", after := #[{ on := 6, ground := Ground.guard }], guard := some (6, true) }) (v := .agg #[.int .i64 kr7, .slice ar7 nr7 qr7]) rfl (by kernel_rfl) (by kernel_rfl) (by kernel_rfl) (fun _ _ _ h => h) (Or.inl ⟨by rfl, ?_⟩) hHeld1 ?_
              · intro w' hSw; (try dsimp only at hSw); go_simp
              (try simp only [Act.put, List.setIfInBounds_toArray, List.set_cons_zero, List.set_cons_succ])
              refine wpAnyH_take (i := 8) (oi := { dst := some 76, op := Op.load 29 (Operand.tmp 6), type := 29, pos := "laws.go:145", after := #[{ on := 6, ground := Ground.guard }], guard := some (6, true) }) (v := .agg #[.int .i64 kr2, .slice ar2 nr2 qr2]) rfl (by kernel_rfl) (by kernel_rfl) (by kernel_rfl) (fun _ _ _ h => h) (Or.inl ⟨by rfl, ?_⟩) hHeld1 ?_
              · intro w' hSw; (try dsimp only at hSw); go_simp
              (try simp only [Act.put, List.setIfInBounds_toArray, List.set_cons_zero, List.set_cons_succ])
              refine wpAnyH_ready (rs := [9]) (by kernel_rfl) (by simp) ?_
              refine AllReadyH.cons (o := { dst := some 77, op := Op.call { callee := Callee.value (Operand.func 37), args := #[Operand.tmp 75, Operand.tmp 76], argTypes := #[29, 29] }, type := 4, pos := "laws.go:145", after := #[{ on := 7, ground := Ground.data }, { on := 8, ground := Ground.data }, { on := 6, ground := Ground.chain }, { on := 6, ground := Ground.guard }], guard := some (6, true) }) rfl (fun K hK => ?_) AllReadyH.nil
              go_simp
              go_at_call 37
              (with_reducible refine (implTypeSame _ _ (groundOfT (groundOfT t1)) (groundOfT t1) _ _ _ (hv7.below (bstep bal1.drew hb18)).rep.all (hv2.below (bstep bal1.drew hb18)).rep.all).mono ?_)
              rintro e w19 ⟨rfl, hb19⟩
              rw [Hq6.out]
              go_wp2_with fail
              refine hK.out _ _ ?_ (fun hHeld2 => ?_)
              · exact ⟨bcell hb19 (bcell hb18 (dcell (s0_))), bcell hb19 (bcell hb18 (dcell (s1_))), bcell hb19 (bcell hb18 (dcell (s2_))), bcell hb19 (bcell hb18 (dcell (s3_))), bcell hb19 (bcell hb18 (dcell (s4_))), bcell hb19 (bcell hb18 (dcell (s5_)))⟩
              clear hK K hHeld1
              (try simp only [Act.put, List.setIfInBounds_toArray, List.set_cons_zero, List.set_cons_succ])
              refine wpAnyH_take (i := 10) (oi := { dst := some 78, op := Op.pick (Operand.tmp 74) (Operand.tmp 77) (Operand.const (Value.bool false)), type := 4, pos := "laws.go:145", after := #[{ on := 6, ground := Ground.data }, { on := 9, ground := Ground.data }], guard := none }) (v := .bool false) rfl (by kernel_rfl) (by kernel_rfl) (by kernel_rfl) (fun _ _ _ h => h) (Or.inl ⟨by rfl, ?_⟩) hHeld2 ?_
              · intro w' hSw; (try dsimp only at hSw); go_simp
              (try simp only [Act.put, List.setIfInBounds_toArray, List.set_cons_zero, List.set_cons_succ])
              refine wpAnyH_take (i := 11) (oi := { dst := some 79, op := Op.move (Operand.tmp 78), type := 4, pos := "laws.go:145", after := #[{ on := 10, ground := Ground.data }, { on := 9, ground := Ground.chain }], guard := none }) (v := .bool false) rfl (by kernel_rfl) (by kernel_rfl) (by kernel_rfl) (fun _ _ _ h => h) (Or.inl ⟨by rfl, ?_⟩) hHeld2 ?_
              · intro w' hSw; (try dsimp only at hSw); go_simp
              (try simp only [Act.put, List.setIfInBounds_toArray, List.set_cons_zero, List.set_cons_succ])
              refine wpAnyH_take (i := 12) (oi := { dst := some 80, op := Op.move (Operand.tmp 12), type := 4, pos := "laws.go:145", after := #[{ on := 11, ground := Ground.guard }], guard := some (11, true) }) (v := undef) rfl (by kernel_rfl) (by kernel_rfl) (by kernel_rfl) (fun _ _ _ h => h) (Or.inr ⟨by rfl, rfl⟩) hHeld2 ?_
              (try simp only [Act.put, List.setIfInBounds_toArray, List.set_cons_zero, List.set_cons_succ])
              refine wpAnyH_take (i := 13) (oi := { dst := some 81, op := Op.unOp UnOp.not 4 (Operand.tmp 80), type := 4, pos := "laws.go:145", after := #[{ on := 12, ground := Ground.data }, { on := 11, ground := Ground.guard }], guard := some (11, true) }) (v := undef) rfl (by kernel_rfl) (by kernel_rfl) (by kernel_rfl) (fun _ _ _ h => h) (Or.inr ⟨by rfl, rfl⟩) hHeld2 ?_
              (try simp only [Act.put, List.setIfInBounds_toArray, List.set_cons_zero, List.set_cons_succ])
              refine wpAnyH_take (i := 14) (oi := { dst := some 82, op := Op.move (Operand.tmp 81), type := 4, pos := "laws.go:145", after := #[{ on := 13, ground := Ground.data }, { on := 11, ground := Ground.chain }, { on := 11, ground := Ground.guard }], guard := some (11, true) }) (v := undef) rfl (by kernel_rfl) (by kernel_rfl) (by kernel_rfl) (fun _ _ _ h => h) (Or.inr ⟨by rfl, rfl⟩) hHeld2 ?_
              (try simp only [Act.put, List.setIfInBounds_toArray, List.set_cons_zero, List.set_cons_succ])
              refine wpAnyH_take (i := 15) (oi := { dst := some 83, op := Op.load 29 (Operand.tmp 5), type := 29, pos := "laws.go:145", after := #[{ on := 14, ground := Ground.guard }], guard := some (14, false) }) (v := undef) rfl (by kernel_rfl) (by kernel_rfl) (by kernel_rfl) (fun _ _ _ h => h) (Or.inr ⟨by rfl, rfl⟩) hHeld2 ?_
              (try simp only [Act.put, List.setIfInBounds_toArray, List.set_cons_zero, List.set_cons_succ])
              refine wpAnyH_take (i := 16) (oi := { dst := some 84, op := Op.load 29 (Operand.tmp 11), type := 29, pos := "laws.go:145", after := #[{ on := 14, ground := Ground.guard }], guard := some (14, false) }) (v := undef) rfl (by kernel_rfl) (by kernel_rfl) (by kernel_rfl) (fun _ _ _ h => h) (Or.inr ⟨by rfl, rfl⟩) hHeld2 ?_
              (try simp only [Act.put, List.setIfInBounds_toArray, List.set_cons_zero, List.set_cons_succ])
              refine wpAnyH_take (i := 17) (oi := { dst := some 85, op := Op.call { callee := Callee.value (Operand.func 51), args := #[Operand.tmp 83, Operand.tmp 84], argTypes := #[29, 29] }, type := 4, pos := "laws.go:145", after := #[{ on := 15, ground := Ground.data }, { on := 16, ground := Ground.data }, { on := 14, ground := Ground.chain }, { on := 14, ground := Ground.guard }], guard := some (14, false) }) (v := undef) rfl (by kernel_rfl) (by kernel_rfl) (by kernel_rfl) (fun _ _ _ h => h) (Or.inr ⟨by rfl, rfl⟩) hHeld2 ?_
              (try simp only [Act.put, List.setIfInBounds_toArray, List.set_cons_zero, List.set_cons_succ])
              refine wpAnyH_take (i := 18) (oi := { dst := some 86, op := Op.load 29 (Operand.tmp 6), type := 29, pos := "laws.go:145", after := #[{ on := 14, ground := Ground.guard }], guard := some (14, false) }) (v := undef) rfl (by kernel_rfl) (by kernel_rfl) (by kernel_rfl) (fun _ _ _ h => h) (Or.inr ⟨by rfl, rfl⟩) hHeld2 ?_
              (try simp only [Act.put, List.setIfInBounds_toArray, List.set_cons_zero, List.set_cons_succ])
              refine wpAnyH_take (i := 19) (oi := { dst := some 87, op := Op.load 29 (Operand.tmp 11), type := 29, pos := "laws.go:145", after := #[{ on := 14, ground := Ground.guard }], guard := some (14, false) }) (v := undef) rfl (by kernel_rfl) (by kernel_rfl) (by kernel_rfl) (fun _ _ _ h => h) (Or.inr ⟨by rfl, rfl⟩) hHeld2 ?_
              (try simp only [Act.put, List.setIfInBounds_toArray, List.set_cons_zero, List.set_cons_succ])
              refine wpAnyH_take (i := 20) (oi := { dst := some 88, op := Op.call { callee := Callee.value (Operand.func 37), args := #[Operand.tmp 86, Operand.tmp 87], argTypes := #[29, 29] }, type := 4, pos := "laws.go:145", after := #[{ on := 18, ground := Ground.data }, { on := 19, ground := Ground.data }, { on := 17, ground := Ground.chain }, { on := 14, ground := Ground.guard }], guard := some (14, false) }) (v := undef) rfl (by kernel_rfl) (by kernel_rfl) (by kernel_rfl) (fun _ _ _ h => h) (Or.inr ⟨by rfl, rfl⟩) hHeld2 ?_
              (try simp only [Act.put, List.setIfInBounds_toArray, List.set_cons_zero, List.set_cons_succ])
              refine wpAnyH_take (i := 21) (oi := { dst := some 89, op := Op.binOp BinOp.eql 4 (Operand.tmp 85) (Operand.tmp 88) 4, type := 4, pos := "laws.go:145", after := #[{ on := 17, ground := Ground.data }, { on := 20, ground := Ground.data }, { on := 14, ground := Ground.guard }], guard := some (14, false) }) (v := undef) rfl (by kernel_rfl) (by kernel_rfl) (by kernel_rfl) (fun _ _ _ h => h) (Or.inr ⟨by rfl, rfl⟩) hHeld2 ?_
              (try simp only [Act.put, List.setIfInBounds_toArray, List.set_cons_zero, List.set_cons_succ])
              refine wpAnyH_take (i := 22) (oi := { dst := some 90, op := Op.pick (Operand.tmp 82) (Operand.const (Value.bool true)) (Operand.tmp 89), type := 4, pos := "laws.go:145", after := #[{ on := 14, ground := Ground.data }, { on := 21, ground := Ground.data }, { on := 11, ground := Ground.guard }], guard := some (11, true) }) (v := undef) rfl (by kernel_rfl) (by kernel_rfl) (by kernel_rfl) (fun _ _ _ h => h) (Or.inr ⟨by rfl, rfl⟩) hHeld2 ?_
              (try simp only [Act.put, List.setIfInBounds_toArray, List.set_cons_zero, List.set_cons_succ])
              refine wpAnyH_take (i := 23) (oi := { dst := some 91, op := Op.pick (Operand.tmp 79) (Operand.tmp 90) (Operand.const (Value.bool false)), type := 4, pos := "laws.go:145", after := #[{ on := 11, ground := Ground.data }, { on := 22, ground := Ground.data }], guard := none }) (v := .bool false) rfl (by kernel_rfl) (by kernel_rfl) (by kernel_rfl) (fun _ _ _ h => h) (Or.inl ⟨by rfl, ?_⟩) hHeld2 ?_
              · intro w' hSw; (try dsimp only at hSw); go_simp
              (try simp only [Act.put, List.setIfInBounds_toArray, List.set_cons_zero, List.set_cons_succ])
              refine wpAnyH_take (i := 24) (oi := { dst := some 4, op := Op.assign (Operand.tmp 91), type := 4, pos := "laws.go:145", after := #[{ on := 23, ground := Ground.data }, { on := 20, ground := Ground.chain }, { on := 0, ground := Ground.phase }, { on := 1, ground := Ground.phase }, { on := 2, ground := Ground.phase }, { on := 3, ground := Ground.phase }, { on := 4, ground := Ground.phase }, { on := 5, ground := Ground.phase }, { on := 6, ground := Ground.phase }, { on := 7, ground := Ground.phase }, { on := 8, ground := Ground.phase }, { on := 9, ground := Ground.phase }, { on := 10, ground := Ground.phase }, { on := 11, ground := Ground.phase }, { on := 12, ground := Ground.phase }, { on := 13, ground := Ground.phase }, { on := 14, ground := Ground.phase }, { on := 15, ground := Ground.phase }, { on := 16, ground := Ground.phase }, { on := 17, ground := Ground.phase }, { on := 18, ground := Ground.phase }, { on := 19, ground := Ground.phase }, { on := 20, ground := Ground.phase }, { on := 21, ground := Ground.phase }, { on := 22, ground := Ground.phase }, { on := 23, ground := Ground.phase }], guard := none }) (v := .bool false) rfl (by kernel_rfl) (by kernel_rfl) (by kernel_rfl) (fun _ _ _ h => h) (Or.inl ⟨by rfl, ?_⟩) hHeld2 ?_
              · intro w' hSw; (try dsimp only at hSw); go_simp
              (try simp only [Act.put, List.setIfInBounds_toArray, List.set_cons_zero, List.set_cons_succ])
              refine wpAnyH_done (by kernel_rfl) ?_ _
              refine NoPanic.normal ?_
              clear hHeld2 s0_ s1_ s2_ s3_ s4_ s5_
              replace hB := (bstep (bstep (hB.alloc hB.size _).drew hb18) hb19)
              have zw19 := hB.size
              go_wp2_with fail
              exact (leaf_FnGroundOf_2 Hq3.out Hq4.out Hq5.out Hq6.out).elim
          · (try rw [q5])
            have Hq5 := Lib.hid q5
            clear q5
            go_wp2_with fail
            have s0_ : (World.alloc w7 (Obj.cells #[.int .i64 kr7, .slice ar7 nr7 qr7] 29)).cell? ⟨w1.heap.size, 0, none⟩ = some (.int .i64 kv1) := bcell bal1 (c0_0)
            have s1_ : (World.alloc w7 (Obj.cells #[.int .i64 kr7, .slice ar7 nr7 qr7] 29)).cell? ⟨w1.heap.size, 1, none⟩ = some (.slice av1 nv1 qv1) := bcell bal1 (c0_1)
            have s2_ : (World.alloc w7 (Obj.cells #[.int .i64 kr7, .slice ar7 nr7 qr7] 29)).cell? ⟨w2.heap.size, 0, none⟩ = some (.int .i64 kr2) := bcell bal1 (c1_0)
            have s3_ : (World.alloc w7 (Obj.cells #[.int .i64 kr7, .slice ar7 nr7 qr7] 29)).cell? ⟨w2.heap.size, 1, none⟩ = some (.slice ar2 nr2 qr2) := bcell bal1 (c1_1)
            refine wp_region_noPanic ?_
            refine wp_region_held_drew (S := fun w' => w'.cell? ⟨w1.heap.size, 0, none⟩ = some (.int .i64 kv1) ∧ w'.cell? ⟨w1.heap.size, 1, none⟩ = some (.slice av1 nv1 qv1) ∧ w'.cell? ⟨w2.heap.size, 0, none⟩ = some (.int .i64 kr2) ∧ w'.cell? ⟨w2.heap.size, 1, none⟩ = some (.slice ar2 nr2 qr2)) (by kernel_rfl) ?_ (fun hHeld0 => ?_)
            · exact ⟨dcell (s0_), dcell (s1_), dcell (s2_), dcell (s3_)⟩
            refine wpAnyH_take (i := 0) (oi := { dst := some 68, op := Op.load 29 (Operand.tmp 5), type := 29, pos := "laws.go:145", after := #[], guard := none }) (v := .agg #[.int .i64 kv1, .slice av1 nv1 qv1]) rfl (by kernel_rfl) (by kernel_rfl) (by kernel_rfl) (fun _ _ _ h => h) (Or.inl ⟨by rfl, ?_⟩) hHeld0 ?_
            · intro w' hSw; (try dsimp only at hSw); go_simp
            (try simp only [Act.put, List.setIfInBounds_toArray, List.set_cons_zero, List.set_cons_succ])
            refine wpAnyH_take (i := 1) (oi := { dst := some 69, op := Op.load 29 (Operand.tmp 6), type := 29, pos := "laws.go:145", after := #[], guard := none }) (v := .agg #[.int .i64 kr2, .slice ar2 nr2 qr2]) rfl (by kernel_rfl) (by kernel_rfl) (by kernel_rfl) (fun _ _ _ h => h) (Or.inl ⟨by rfl, ?_⟩) hHeld0 ?_
            · intro w' hSw; (try dsimp only at hSw); go_simp
            (try simp only [Act.put, List.setIfInBounds_toArray, List.set_cons_zero, List.set_cons_succ])
            refine wpAnyH_ready (rs := [2]) (by kernel_rfl) (by simp) ?_
            refine AllReadyH.cons (o := { dst := some 70, op := Op.call { callee := Callee.value (Operand.func 53), args := #[Operand.tmp 68, Operand.tmp 69], argTypes := #[29, 29] }, type := 4, pos := "laws.go:145", after := #[{ on := 0, ground := Ground.data }, { on := 1, ground := Ground.data }], guard := none }) rfl (fun K hK => ?_) AllReadyH.nil
            go_simp
            go_at_call 53
            (with_reducible refine (implPreciseB _ _ t1 (groundOfT t1) _ _ _ (hv1.below bal1.drew).all (hv2.below bal1.drew).rep.all).mono ?_)
            rintro e w20 ⟨rfl, hb20⟩
            rw [Hq4.out]
            go_wp2_with fail
            refine hK.out _ _ ?_ (fun hHeld1 => ?_)
            · exact ⟨bcell hb20 (dcell (s0_)), bcell hb20 (dcell (s1_)), bcell hb20 (dcell (s2_)), bcell hb20 (dcell (s3_))⟩
            clear hK K hHeld0
            (try simp only [Act.put, List.setIfInBounds_toArray, List.set_cons_zero, List.set_cons_succ])
            refine wpAnyH_take (i := 3) (oi := { dst := some 71, op := Op.move (Operand.tmp 70), type := 4, pos := "laws.go:145", after := #[{ on := 2, ground := Ground.data }, { on := 2, ground := Ground.chain }], guard := none }) (v := .bool true) rfl (by kernel_rfl) (by kernel_rfl) (by kernel_rfl) (fun _ _ _ h => h) (Or.inl ⟨by rfl, ?_⟩) hHeld1 ?_
            · intro w' hSw; (try dsimp only at hSw); go_simp
            (try simp only [Act.put, List.setIfInBounds_toArray, List.set_cons_zero, List.set_cons_succ])
            refine wpAnyH_take (i := 4) (oi := { dst := some 72, op := Op.move (Operand.tmp 14), type := 4, pos := "laws.go:145", after := #[{ on := 3, ground := Ground.guard }], guard := some (3, true) }) (v := .bool false) rfl (by kernel_rfl) (by kernel_rfl) (by kernel_rfl) (fun _ _ _ h => h) (Or.inl ⟨by rfl, ?_⟩) hHeld1 ?_
            · intro w' hSw; (try dsimp only at hSw); go_simp
            (try simp only [Act.put, List.setIfInBounds_toArray, List.set_cons_zero, List.set_cons_succ])
            refine wpAnyH_take (i := 5) (oi := { dst := some 73, op := Op.pick (Operand.tmp 71) (Operand.tmp 72) (Operand.const (Value.bool false)), type := 4, pos := "laws.go:145", after := #[{ on := 3, ground := Ground.data }, { on := 4, ground := Ground.data }], guard := none }) (v := .bool false) rfl (by kernel_rfl) (by kernel_rfl) (by kernel_rfl) (fun _ _ _ h => h) (Or.inl ⟨by rfl, ?_⟩) hHeld1 ?_
            · intro w' hSw; (try dsimp only at hSw); go_simp
            (try simp only [Act.put, List.setIfInBounds_toArray, List.set_cons_zero, List.set_cons_succ])
            refine wpAnyH_take (i := 6) (oi := { dst := some 74, op := Op.move (Operand.tmp 73), type := 4, pos := "laws.go:145", after := #[{ on := 5, ground := Ground.data }, { on := 3, ground := Ground.chain }], guard := none }) (v := .bool false) rfl (by kernel_rfl) (by kernel_rfl) (by kernel_rfl) (fun _ _ _ h => h) (Or.inl ⟨by rfl, ?_⟩) hHeld1 ?_
            · intro w' hSw; (try dsimp only at hSw); go_simp
            (try simp only [Act.put, List.setIfInBounds_toArray, List.set_cons_zero, List.set_cons_succ])
            refine wpAnyH_take (i := 7) (oi := { dst := some 75, op := Op.load 29 (Operand.tmp 13), type := 29, pos := "laws.go:145", after := #[{ on := 6, ground := Ground.guard }], guard := some (6, true) }) (v := undef) rfl (by kernel_rfl) (by kernel_rfl) (by kernel_rfl) (fun _ _ _ h => h) (Or.inr ⟨by rfl, rfl⟩) hHeld1 ?_
            (try simp only [Act.put, List.setIfInBounds_toArray, List.set_cons_zero, List.set_cons_succ])
            refine wpAnyH_take (i := 8) (oi := { dst := some 76, op := Op.load 29 (Operand.tmp 6), type := 29, pos := "laws.go:145", after := #[{ on := 6, ground := Ground.guard }], guard := some (6, true) }) (v := undef) rfl (by kernel_rfl) (by kernel_rfl) (by kernel_rfl) (fun _ _ _ h => h) (Or.inr ⟨by rfl, rfl⟩) hHeld1 ?_
            (try simp only [Act.put, List.setIfInBounds_toArray, List.set_cons_zero, List.set_cons_succ])
            refine wpAnyH_take (i := 9) (oi := { dst := some 77, op := Op.call { callee := Callee.value (Operand.func 37), args := #[Operand.tmp 75, Operand.tmp 76], argTypes := #[29, 29] }, type := 4, pos := "laws.go:145", after := #[{ on := 7, ground := Ground.data }, { on := 8, ground := Ground.data }, { on := 6, ground := Ground.chain }, { on := 6, ground := Ground.guard }], guard := some (6, true) }) (v := undef) rfl (by kernel_rfl) (by kernel_rfl) (by kernel_rfl) (fun _ _ _ h => h) (Or.inr ⟨by rfl, rfl⟩) hHeld1 ?_
            (try simp only [Act.put, List.setIfInBounds_toArray, List.set_cons_zero, List.set_cons_succ])
            refine wpAnyH_take (i := 10) (oi := { dst := some 78, op := Op.pick (Operand.tmp 74) (Operand.tmp 77) (Operand.const (Value.bool false)), type := 4, pos := "laws.go:145", after := #[{ on := 6, ground := Ground.data }, { on := 9, ground := Ground.data }], guard := none }) (v := .bool false) rfl (by kernel_rfl) (by kernel_rfl) (by kernel_rfl) (fun _ _ _ h => h) (Or.inl ⟨by rfl, ?_⟩) hHeld1 ?_
            · intro w' hSw; (try dsimp only at hSw); go_simp
            (try simp only [Act.put, List.setIfInBounds_toArray, List.set_cons_zero, List.set_cons_succ])
            refine wpAnyH_take (i := 11) (oi := { dst := some 79, op := Op.move (Operand.tmp 78), type := 4, pos := "laws.go:145", after := #[{ on := 10, ground := Ground.data }, { on := 9, ground := Ground.chain }], guard := none }) (v := .bool false) rfl (by kernel_rfl) (by kernel_rfl) (by kernel_rfl) (fun _ _ _ h => h) (Or.inl ⟨by rfl, ?_⟩) hHeld1 ?_
            · intro w' hSw; (try dsimp only at hSw); go_simp
            (try simp only [Act.put, List.setIfInBounds_toArray, List.set_cons_zero, List.set_cons_succ])
            refine wpAnyH_take (i := 12) (oi := { dst := some 80, op := Op.move (Operand.tmp 12), type := 4, pos := "laws.go:145", after := #[{ on := 11, ground := Ground.guard }], guard := some (11, true) }) (v := undef) rfl (by kernel_rfl) (by kernel_rfl) (by kernel_rfl) (fun _ _ _ h => h) (Or.inr ⟨by rfl, rfl⟩) hHeld1 ?_
            (try simp only [Act.put, List.setIfInBounds_toArray, List.set_cons_zero, List.set_cons_succ])
            refine wpAnyH_take (i := 13) (oi := { dst := some 81, op := Op.unOp UnOp.not 4 (Operand.tmp 80), type := 4, pos := "laws.go:145", after := #[{ on := 12, ground := Ground.data }, { on := 11, ground := Ground.guard }], guard := some (11, true) }) (v := undef) rfl (by kernel_rfl) (by kernel_rfl) (by kernel_rfl) (fun _ _ _ h => h) (Or.inr ⟨by rfl, rfl⟩) hHeld1 ?_
            (try simp only [Act.put, List.setIfInBounds_toArray, List.set_cons_zero, List.set_cons_succ])
            refine wpAnyH_take (i := 14) (oi := { dst := some 82, op := Op.move (Operand.tmp 81), type := 4, pos := "laws.go:145", after := #[{ on := 13, ground := Ground.data }, { on := 11, ground := Ground.chain }, { on := 11, ground := Ground.guard }], guard := some (11, true) }) (v := undef) rfl (by kernel_rfl) (by kernel_rfl) (by kernel_rfl) (fun _ _ _ h => h) (Or.inr ⟨by rfl, rfl⟩) hHeld1 ?_
            (try simp only [Act.put, List.setIfInBounds_toArray, List.set_cons_zero, List.set_cons_succ])
            refine wpAnyH_take (i := 15) (oi := { dst := some 83, op := Op.load 29 (Operand.tmp 5), type := 29, pos := "laws.go:145", after := #[{ on := 14, ground := Ground.guard }], guard := some (14, false) }) (v := undef) rfl (by kernel_rfl) (by kernel_rfl) (by kernel_rfl) (fun _ _ _ h => h) (Or.inr ⟨by rfl, rfl⟩) hHeld1 ?_
            (try simp only [Act.put, List.setIfInBounds_toArray, List.set_cons_zero, List.set_cons_succ])
            refine wpAnyH_take (i := 16) (oi := { dst := some 84, op := Op.load 29 (Operand.tmp 11), type := 29, pos := "laws.go:145", after := #[{ on := 14, ground := Ground.guard }], guard := some (14, false) }) (v := undef) rfl (by kernel_rfl) (by kernel_rfl) (by kernel_rfl) (fun _ _ _ h => h) (Or.inr ⟨by rfl, rfl⟩) hHeld1 ?_
            (try simp only [Act.put, List.setIfInBounds_toArray, List.set_cons_zero, List.set_cons_succ])
            refine wpAnyH_take (i := 17) (oi := { dst := some 85, op := Op.call { callee := Callee.value (Operand.func 51), args := #[Operand.tmp 83, Operand.tmp 84], argTypes := #[29, 29] }, type := 4, pos := "laws.go:145", after := #[{ on := 15, ground := Ground.data }, { on := 16, ground := Ground.data }, { on := 14, ground := Ground.chain }, { on := 14, ground := Ground.guard }], guard := some (14, false) }) (v := undef) rfl (by kernel_rfl) (by kernel_rfl) (by kernel_rfl) (fun _ _ _ h => h) (Or.inr ⟨by rfl, rfl⟩) hHeld1 ?_
            (try simp only [Act.put, List.setIfInBounds_toArray, List.set_cons_zero, List.set_cons_succ])
            refine wpAnyH_take (i := 18) (oi := { dst := some 86, op := Op.load 29 (Operand.tmp 6), type := 29, pos := "laws.go:145", after := #[{ on := 14, ground := Ground.guard }], guard := some (14, false) }) (v := undef) rfl (by kernel_rfl) (by kernel_rfl) (by kernel_rfl) (fun _ _ _ h => h) (Or.inr ⟨by rfl, rfl⟩) hHeld1 ?_
            (try simp only [Act.put, List.setIfInBounds_toArray, List.set_cons_zero, List.set_cons_succ])
            refine wpAnyH_take (i := 19) (oi := { dst := some 87, op := Op.load 29 (Operand.tmp 11), type := 29, pos := "laws.go:145", after := #[{ on := 14, ground := Ground.guard }], guard := some (14, false) }) (v := undef) rfl (by kernel_rfl) (by kernel_rfl) (by kernel_rfl) (fun _ _ _ h => h) (Or.inr ⟨by rfl, rfl⟩) hHeld1 ?_
            (try simp only [Act.put, List.setIfInBounds_toArray, List.set_cons_zero, List.set_cons_succ])
            refine wpAnyH_take (i := 20) (oi := { dst := some 88, op := Op.call { callee := Callee.value (Operand.func 37), args := #[Operand.tmp 86, Operand.tmp 87], argTypes := #[29, 29] }, type := 4, pos := "laws.go:145", after := #[{ on := 18, ground := Ground.data }, { on := 19, ground := Ground.data }, { on := 17, ground := Ground.chain }, { on := 14, ground := Ground.guard }], guard := some (14, false) }) (v := undef) rfl (by kernel_rfl) (by kernel_rfl) (by kernel_rfl) (fun _ _ _ h => h) (Or.inr ⟨by rfl, rfl⟩) hHeld1 ?_
            (try simp only [Act.put, List.setIfInBounds_toArray, List.set_cons_zero, List.set_cons_succ])
            refine wpAnyH_take (i := 21) (oi := { dst := some 89, op := Op.binOp BinOp.eql 4 (Operand.tmp 85) (Operand.tmp 88) 4, type := 4, pos := "laws.go:145", after := #[{ on := 17, ground := Ground.data }, { on := 20, ground := Ground.data }, { on := 14, ground := Ground.guard }], guard := some (14, false) }) (v := undef) rfl (by kernel_rfl) (by kernel_rfl) (by kernel_rfl) (fun _ _ _ h => h) (Or.inr ⟨by rfl, rfl⟩) hHeld1 ?_
            (try simp only [Act.put, List.setIfInBounds_toArray, List.set_cons_zero, List.set_cons_succ])
            refine wpAnyH_take (i := 22) (oi := { dst := some 90, op := Op.pick (Operand.tmp 82) (Operand.const (Value.bool true)) (Operand.tmp 89), type := 4, pos := "laws.go:145", after := #[{ on := 14, ground := Ground.data }, { on := 21, ground := Ground.data }, { on := 11, ground := Ground.guard }], guard := some (11, true) }) (v := undef) rfl (by kernel_rfl) (by kernel_rfl) (by kernel_rfl) (fun _ _ _ h => h) (Or.inr ⟨by rfl, rfl⟩) hHeld1 ?_
            (try simp only [Act.put, List.setIfInBounds_toArray, List.set_cons_zero, List.set_cons_succ])
            refine wpAnyH_take (i := 23) (oi := { dst := some 91, op := Op.pick (Operand.tmp 79) (Operand.tmp 90) (Operand.const (Value.bool false)), type := 4, pos := "laws.go:145", after := #[{ on := 11, ground := Ground.data }, { on := 22, ground := Ground.data }], guard := none }) (v := .bool false) rfl (by kernel_rfl) (by kernel_rfl) (by kernel_rfl) (fun _ _ _ h => h) (Or.inl ⟨by rfl, ?_⟩) hHeld1 ?_
            · intro w' hSw; (try dsimp only at hSw); go_simp
            (try simp only [Act.put, List.setIfInBounds_toArray, List.set_cons_zero, List.set_cons_succ])
            refine wpAnyH_take (i := 24) (oi := { dst := some 4, op := Op.assign (Operand.tmp 91), type := 4, pos := "laws.go:145", after := #[{ on := 23, ground := Ground.data }, { on := 20, ground := Ground.chain }, { on := 0, ground := Ground.phase }, { on := 1, ground := Ground.phase }, { on := 2, ground := Ground.phase }, { on := 3, ground := Ground.phase }, { on := 4, ground := Ground.phase }, { on := 5, ground := Ground.phase }, { on := 6, ground := Ground.phase }, { on := 7, ground := Ground.phase }, { on := 8, ground := Ground.phase }, { on := 9, ground := Ground.phase }, { on := 10, ground := Ground.phase }, { on := 11, ground := Ground.phase }, { on := 12, ground := Ground.phase }, { on := 13, ground := Ground.phase }, { on := 14, ground := Ground.phase }, { on := 15, ground := Ground.phase }, { on := 16, ground := Ground.phase }, { on := 17, ground := Ground.phase }, { on := 18, ground := Ground.phase }, { on := 19, ground := Ground.phase }, { on := 20, ground := Ground.phase }, { on := 21, ground := Ground.phase }, { on := 22, ground := Ground.phase }, { on := 23, ground := Ground.phase }], guard := none }) (v := .bool false) rfl (by kernel_rfl) (by kernel_rfl) (by kernel_rfl) (fun _ _ _ h => h) (Or.inl ⟨by rfl, ?_⟩) hHeld1 ?_
            · intro w' hSw; (try dsimp only at hSw); go_simp
            (try simp only [Act.put, List.setIfInBounds_toArray, List.set_cons_zero, List.set_cons_succ])
            refine wpAnyH_done (by kernel_rfl) ?_ _
            refine NoPanic.normal ?_
            clear hHeld1 s0_ s1_ s2_ s3_
            replace hB := (bstep (hB.alloc hB.size _).drew hb20)
            have zw20 := hB.size
            go_wp2_with fail
            exact (leaf_FnGroundOf_3 Hq3.out Hq4.out Hq5.out).elim
        · have Hq4 := Lib.hid q4
          clear q4
          go_wp2_with fail
          have s0_ : (World.alloc w7 (Obj.cells #[.int .i64 kr7, .slice ar7 nr7 qr7] 29)).cell? ⟨w1.heap.size, 0, none⟩ = some (.int .i64 kv1) := bcell bal1 (c0_0)
          have s1_ : (World.alloc w7 (Obj.cells #[.int .i64 kr7, .slice ar7 nr7 qr7] 29)).cell? ⟨w1.heap.size, 1, none⟩ = some (.slice av1 nv1 qv1) := bcell bal1 (c0_1)
          have s2_ : (World.alloc w7 (Obj.cells #[.int .i64 kr7, .slice ar7 nr7 qr7] 29)).cell? ⟨w2.heap.size, 0, none⟩ = some (.int .i64 kr2) := bcell bal1 (c1_0)
          have s3_ : (World.alloc w7 (Obj.cells #[.int .i64 kr7, .slice ar7 nr7 qr7] 29)).cell? ⟨w2.heap.size, 1, none⟩ = some (.slice ar2 nr2 qr2) := bcell bal1 (c1_1)
          refine wp_region_noPanic ?_
          refine wp_region_held_drew (S := fun w' => w'.cell? ⟨w1.heap.size, 0, none⟩ = some (.int .i64 kv1) ∧ w'.cell? ⟨w1.heap.size, 1, none⟩ = some (.slice av1 nv1 qv1) ∧ w'.cell? ⟨w2.heap.size, 0, none⟩ = some (.int .i64 kr2) ∧ w'.cell? ⟨w2.heap.size, 1, none⟩ = some (.slice ar2 nr2 qr2)) (by kernel_rfl) ?_ (fun hHeld0 => ?_)
          · exact ⟨dcell (s0_), dcell (s1_), dcell (s2_), dcell (s3_)⟩
          refine wpAnyH_take (i := 0) (oi := { dst := some 68, op := Op.load 29 (Operand.tmp 5), type := 29, pos := "laws.go:145", after := #[], guard := none }) (v := .agg #[.int .i64 kv1, .slice av1 nv1 qv1]) rfl (by kernel_rfl) (by kernel_rfl) (by kernel_rfl) (fun _ _ _ h => h) (Or.inl ⟨by rfl, ?_⟩) hHeld0 ?_
          · intro w' hSw; (try dsimp only at hSw); go_simp
          (try simp only [Act.put, List.setIfInBounds_toArray, List.set_cons_zero, List.set_cons_succ])
          refine wpAnyH_take (i := 1) (oi := { dst := some 69, op := Op.load 29 (Operand.tmp 6), type := 29, pos := "laws.go:145", after := #[], guard := none }) (v := .agg #[.int .i64 kr2, .slice ar2 nr2 qr2]) rfl (by kernel_rfl) (by kernel_rfl) (by kernel_rfl) (fun _ _ _ h => h) (Or.inl ⟨by rfl, ?_⟩) hHeld0 ?_
          · intro w' hSw; (try dsimp only at hSw); go_simp
          (try simp only [Act.put, List.setIfInBounds_toArray, List.set_cons_zero, List.set_cons_succ])
          refine wpAnyH_ready (rs := [2]) (by kernel_rfl) (by simp) ?_
          refine AllReadyH.cons (o := { dst := some 70, op := Op.call { callee := Callee.value (Operand.func 53), args := #[Operand.tmp 68, Operand.tmp 69], argTypes := #[29, 29] }, type := 4, pos := "laws.go:145", after := #[{ on := 0, ground := Ground.data }, { on := 1, ground := Ground.data }], guard := none }) rfl (fun K hK => ?_) AllReadyH.nil
          go_simp
          go_at_call 53
          (with_reducible refine (implPreciseB _ _ t1 (groundOfT t1) _ _ _ (hv1.below bal1.drew).all (hv2.below bal1.drew).rep.all).mono ?_)
          rintro e w21 ⟨rfl, hb21⟩
          rw [Hq4.out]
          go_wp2_with fail
          refine hK.out _ _ ?_ (fun hHeld1 => ?_)
          · exact ⟨bcell hb21 (dcell (s0_)), bcell hb21 (dcell (s1_)), bcell hb21 (dcell (s2_)), bcell hb21 (dcell (s3_))⟩
          clear hK K hHeld0
          (try simp only [Act.put, List.setIfInBounds_toArray, List.set_cons_zero, List.set_cons_succ])
          refine wpAnyH_take (i := 3) (oi := { dst := some 71, op := Op.move (Operand.tmp 70), type := 4, pos := "laws.go:145", after := #[{ on := 2, ground := Ground.data }, { on := 2, ground := Ground.chain }], guard := none }) (v := .bool false) rfl (by kernel_rfl) (by kernel_rfl) (by kernel_rfl) (fun _ _ _ h => h) (Or.inl ⟨by rfl, ?_⟩) hHeld1 ?_
          · intro w' hSw; (try dsimp only at hSw); go_simp
          (try simp only [Act.put, List.setIfInBounds_toArray, List.set_cons_zero, List.set_cons_succ])
          refine wpAnyH_take (i := 4) (oi := { dst := some 72, op := Op.move (Operand.tmp 14), type := 4, pos := "laws.go:145", after := #[{ on := 3, ground := Ground.guard }], guard := some (3, true) }) (v := undef) rfl (by kernel_rfl) (by kernel_rfl) (by kernel_rfl) (fun _ _ _ h => h) (Or.inr ⟨by rfl, rfl⟩) hHeld1 ?_
          (try simp only [Act.put, List.setIfInBounds_toArray, List.set_cons_zero, List.set_cons_succ])
          refine wpAnyH_take (i := 5) (oi := { dst := some 73, op := Op.pick (Operand.tmp 71) (Operand.tmp 72) (Operand.const (Value.bool false)), type := 4, pos := "laws.go:145", after := #[{ on := 3, ground := Ground.data }, { on := 4, ground := Ground.data }], guard := none }) (v := .bool false) rfl (by kernel_rfl) (by kernel_rfl) (by kernel_rfl) (fun _ _ _ h => h) (Or.inl ⟨by rfl, ?_⟩) hHeld1 ?_
          · intro w' hSw; (try dsimp only at hSw); go_simp
          (try simp only [Act.put, List.setIfInBounds_toArray, List.set_cons_zero, List.set_cons_succ])
          refine wpAnyH_take (i := 6) (oi := { dst := some 74, op := Op.move (Operand.tmp 73), type := 4, pos := "laws.go:145", after := #[{ on := 5, ground := Ground.data }, { on := 3, ground := Ground.chain }], guard := none }) (v := .bool false) rfl (by kernel_rfl) (by kernel_rfl) (by kernel_rfl) (fun _ _ _ h => h) (Or.inl ⟨by rfl, ?_⟩) hHeld1 ?_
          · intro w' hSw; (try dsimp only at hSw); go_simp
          (try simp only [Act.put, List.setIfInBounds_toArray, List.set_cons_zero, List.set_cons_succ])
          refine wpAnyH_take (i := 7) (oi := { dst := some 75, op := Op.load 29 (Operand.tmp 13), type := 29, pos := "laws.go:145", after := #[{ on := 6, ground := Ground.guard }], guard := some (6, true) }) (v := undef) rfl (by kernel_rfl) (by kernel_rfl) (by kernel_rfl) (fun _ _ _ h => h) (Or.inr ⟨by rfl, rfl⟩) hHeld1 ?_
          (try simp only [Act.put, List.setIfInBounds_toArray, List.set_cons_zero, List.set_cons_succ])
          refine wpAnyH_take (i := 8) (oi := { dst := some 76, op := Op.load 29 (Operand.tmp 6), type := 29, pos := "laws.go:145", after := #[{ on := 6, ground := Ground.guard }], guard := some (6, true) }) (v := undef) rfl (by kernel_rfl) (by kernel_rfl) (by kernel_rfl) (fun _ _ _ h => h) (Or.inr ⟨by rfl, rfl⟩) hHeld1 ?_
          (try simp only [Act.put, List.setIfInBounds_toArray, List.set_cons_zero, List.set_cons_succ])
          refine wpAnyH_take (i := 9) (oi := { dst := some 77, op := Op.call { callee := Callee.value (Operand.func 37), args := #[Operand.tmp 75, Operand.tmp 76], argTypes := #[29, 29] }, type := 4, pos := "laws.go:145", after := #[{ on := 7, ground := Ground.data }, { on := 8, ground := Ground.data }, { on := 6, ground := Ground.chain }, { on := 6, ground := Ground.guard }], guard := some (6, true) }) (v := undef) rfl (by kernel_rfl) (by kernel_rfl) (by kernel_rfl) (fun _ _ _ h => h) (Or.inr ⟨by rfl, rfl⟩) hHeld1 ?_
          (try simp only [Act.put, List.setIfInBounds_toArray, List.set_cons_zero, List.set_cons_succ])
          refine wpAnyH_take (i := 10) (oi := { dst := some 78, op := Op.pick (Operand.tmp 74) (Operand.tmp 77) (Operand.const (Value.bool false)), type := 4, pos := "laws.go:145", after := #[{ on := 6, ground := Ground.data }, { on := 9, ground := Ground.data }], guard := none }) (v := .bool false) rfl (by kernel_rfl) (by kernel_rfl) (by kernel_rfl) (fun _ _ _ h => h) (Or.inl ⟨by rfl, ?_⟩) hHeld1 ?_
          · intro w' hSw; (try dsimp only at hSw); go_simp
          (try simp only [Act.put, List.setIfInBounds_toArray, List.set_cons_zero, List.set_cons_succ])
          refine wpAnyH_take (i := 11) (oi := { dst := some 79, op := Op.move (Operand.tmp 78), type := 4, pos := "laws.go:145", after := #[{ on := 10, ground := Ground.data }, { on := 9, ground := Ground.chain }], guard := none }) (v := .bool false) rfl (by kernel_rfl) (by kernel_rfl) (by kernel_rfl) (fun _ _ _ h => h) (Or.inl ⟨by rfl, ?_⟩) hHeld1 ?_
          · intro w' hSw; (try dsimp only at hSw); go_simp
          (try simp only [Act.put, List.setIfInBounds_toArray, List.set_cons_zero, List.set_cons_succ])
          refine wpAnyH_take (i := 12) (oi := { dst := some 80, op := Op.move (Operand.tmp 12), type := 4, pos := "laws.go:145", after := #[{ on := 11, ground := Ground.guard }], guard := some (11, true) }) (v := undef) rfl (by kernel_rfl) (by kernel_rfl) (by kernel_rfl) (fun _ _ _ h => h) (Or.inr ⟨by rfl, rfl⟩) hHeld1 ?_
          (try simp only [Act.put, List.setIfInBounds_toArray, List.set_cons_zero, List.set_cons_succ])
          refine wpAnyH_take (i := 13) (oi := { dst := some 81, op := Op.unOp UnOp.not 4 (Operand.tmp 80), type := 4, pos := "laws.go:145", after := #[{ on := 12, ground := Ground.data }, { on := 11, ground := Ground.guard }], guard := some (11, true) }) (v := undef) rfl (by kernel_rfl) (by kernel_rfl) (by kernel_rfl) (fun _ _ _ h => h) (Or.inr ⟨by rfl, rfl⟩) hHeld1 ?_
          (try simp only [Act.put, List.setIfInBounds_toArray, List.set_cons_zero, List.set_cons_succ])
          refine wpAnyH_take (i := 14) (oi := { dst := some 82, op := Op.move (Operand.tmp 81), type := 4, pos := "laws.go:145", after := #[{ on := 13, ground := Ground.data }, { on := 11, ground := Ground.chain }, { on := 11, ground := Ground.guard }], guard := some (11, true) }) (v := undef) rfl (by kernel_rfl) (by kernel_rfl) (by kernel_rfl) (fun _ _ _ h => h) (Or.inr ⟨by rfl, rfl⟩) hHeld1 ?_
          (try simp only [Act.put, List.setIfInBounds_toArray, List.set_cons_zero, List.set_cons_succ])
          refine wpAnyH_take (i := 15) (oi := { dst := some 83, op := Op.load 29 (Operand.tmp 5), type := 29, pos := "laws.go:145", after := #[{ on := 14, ground := Ground.guard }], guard := some (14, false) }) (v := undef) rfl (by kernel_rfl) (by kernel_rfl) (by kernel_rfl) (fun _ _ _ h => h) (Or.inr ⟨by rfl, rfl⟩) hHeld1 ?_
          (try simp only [Act.put, List.setIfInBounds_toArray, List.set_cons_zero, List.set_cons_succ])
          refine wpAnyH_take (i := 16) (oi := { dst := some 84, op := Op.load 29 (Operand.tmp 11), type := 29, pos := "laws.go:145", after := #[{ on := 14, ground := Ground.guard }], guard := some (14, false) }) (v := undef) rfl (by kernel_rfl) (by kernel_rfl) (by kernel_rfl) (fun _ _ _ h => h) (Or.inr ⟨by rfl, rfl⟩) hHeld1 ?_
          (try simp only [Act.put, List.setIfInBounds_toArray, List.set_cons_zero, List.set_cons_succ])
          refine wpAnyH_take (i := 17) (oi := { dst := some 85, op := Op.call { callee := Callee.value (Operand.func 51), args := #[Operand.tmp 83, Operand.tmp 84], argTypes := #[29, 29] }, type := 4, pos := "laws.go:145", after := #[{ on := 15, ground := Ground.data }, { on := 16, ground := Ground.data }, { on := 14, ground := Ground.chain }, { on := 14, ground := Ground.guard }], guard := some (14, false) }) (v := undef) rfl (by kernel_rfl) (by kernel_rfl) (by kernel_rfl) (fun _ _ _ h => h) (Or.inr ⟨by rfl, rfl⟩) hHeld1 ?_
          (try simp only [Act.put, List.setIfInBounds_toArray, List.set_cons_zero, List.set_cons_succ])
          refine wpAnyH_take (i := 18) (oi := { dst := some 86, op := Op.load 29 (Operand.tmp 6), type := 29, pos := "laws.go:145", after := #[{ on := 14, ground := Ground.guard }], guard := some (14, false) }) (v := undef) rfl (by kernel_rfl) (by kernel_rfl) (by kernel_rfl) (fun _ _ _ h => h) (Or.inr ⟨by rfl, rfl⟩) hHeld1 ?_
          (try simp only [Act.put, List.setIfInBounds_toArray, List.set_cons_zero, List.set_cons_succ])
          refine wpAnyH_take (i := 19) (oi := { dst := some 87, op := Op.load 29 (Operand.tmp 11), type := 29, pos := "laws.go:145", after := #[{ on := 14, ground := Ground.guard }], guard := some (14, false) }) (v := undef) rfl (by kernel_rfl) (by kernel_rfl) (by kernel_rfl) (fun _ _ _ h => h) (Or.inr ⟨by rfl, rfl⟩) hHeld1 ?_
          (try simp only [Act.put, List.setIfInBounds_toArray, List.set_cons_zero, List.set_cons_succ])
          refine wpAnyH_take (i := 20) (oi := { dst := some 88, op := Op.call { callee := Callee.value (Operand.func 37), args := #[Operand.tmp 86, Operand.tmp 87], argTypes := #[29, 29] }, type := 4, pos := "laws.go:145", after := #[{ on := 18, ground := Ground.data }, { on := 19, ground := Ground.data }, { on := 17, ground := Ground.chain }, { on := 14, ground := Ground.guard }], guard := some (14, false) }) (v := undef) rfl (by kernel_rfl) (by kernel_rfl) (by kernel_rfl) (fun _ _ _ h => h) (Or.inr ⟨by rfl, rfl⟩) hHeld1 ?_
          (try simp only [Act.put, List.setIfInBounds_toArray, List.set_cons_zero, List.set_cons_succ])
          refine wpAnyH_take (i := 21) (oi := { dst := some 89, op := Op.binOp BinOp.eql 4 (Operand.tmp 85) (Operand.tmp 88) 4, type := 4, pos := "laws.go:145", after := #[{ on := 17, ground := Ground.data }, { on := 20, ground := Ground.data }, { on := 14, ground := Ground.guard }], guard := some (14, false) }) (v := undef) rfl (by kernel_rfl) (by kernel_rfl) (by kernel_rfl) (fun _ _ _ h => h) (Or.inr ⟨by rfl, rfl⟩) hHeld1 ?_
          (try simp only [Act.put, List.setIfInBounds_toArray, List.set_cons_zero, List.set_cons_succ])
          refine wpAnyH_take (i := 22) (oi := { dst := some 90, op := Op.pick (Operand.tmp 82) (Operand.const (Value.bool true)) (Operand.tmp 89), type := 4, pos := "laws.go:145", after := #[{ on := 14, ground := Ground.data }, { on := 21, ground := Ground.data }, { on := 11, ground := Ground.guard }], guard := some (11, true) }) (v := undef) rfl (by kernel_rfl) (by kernel_rfl) (by kernel_rfl) (fun _ _ _ h => h) (Or.inr ⟨by rfl, rfl⟩) hHeld1 ?_
          (try simp only [Act.put, List.setIfInBounds_toArray, List.set_cons_zero, List.set_cons_succ])
          refine wpAnyH_take (i := 23) (oi := { dst := some 91, op := Op.pick (Operand.tmp 79) (Operand.tmp 90) (Operand.const (Value.bool false)), type := 4, pos := "laws.go:145", after := #[{ on := 11, ground := Ground.data }, { on := 22, ground := Ground.data }], guard := none }) (v := .bool false) rfl (by kernel_rfl) (by kernel_rfl) (by kernel_rfl) (fun _ _ _ h => h) (Or.inl ⟨by rfl, ?_⟩) hHeld1 ?_
          · intro w' hSw; (try dsimp only at hSw); go_simp
          (try simp only [Act.put, List.setIfInBounds_toArray, List.set_cons_zero, List.set_cons_succ])
          refine wpAnyH_take (i := 24) (oi := { dst := some 4, op := Op.assign (Operand.tmp 91), type := 4, pos := "laws.go:145", after := #[{ on := 23, ground := Ground.data }, { on := 20, ground := Ground.chain }, { on := 0, ground := Ground.phase }, { on := 1, ground := Ground.phase }, { on := 2, ground := Ground.phase }, { on := 3, ground := Ground.phase }, { on := 4, ground := Ground.phase }, { on := 5, ground := Ground.phase }, { on := 6, ground := Ground.phase }, { on := 7, ground := Ground.phase }, { on := 8, ground := Ground.phase }, { on := 9, ground := Ground.phase }, { on := 10, ground := Ground.phase }, { on := 11, ground := Ground.phase }, { on := 12, ground := Ground.phase }, { on := 13, ground := Ground.phase }, { on := 14, ground := Ground.phase }, { on := 15, ground := Ground.phase }, { on := 16, ground := Ground.phase }, { on := 17, ground := Ground.phase }, { on := 18, ground := Ground.phase }, { on := 19, ground := Ground.phase }, { on := 20, ground := Ground.phase }, { on := 21, ground := Ground.phase }, { on := 22, ground := Ground.phase }, { on := 23, ground := Ground.phase }], guard := none }) (v := .bool false) rfl (by kernel_rfl) (by kernel_rfl) (by kernel_rfl) (fun _ _ _ h => h) (Or.inl ⟨by rfl, ?_⟩) hHeld1 ?_
          · intro w' hSw; (try dsimp only at hSw); go_simp
          (try simp only [Act.put, List.setIfInBounds_toArray, List.set_cons_zero, List.set_cons_succ])
          refine wpAnyH_done (by kernel_rfl) ?_ _
          refine NoPanic.normal ?_
          clear hHeld1 s0_ s1_ s2_ s3_
          replace hB := (bstep (hB.alloc hB.size _).drew hb21)
          have zw21 := hB.size
          go_wp2_with fail
          exact (leaf_FnGroundOf_4 Hq3.out Hq4.out).elim
      · (try rw [q3])
        have Hq3 := Lib.hid q3
        clear q3
        go_wp2_with fail
        refine (implTypeSameSelf _ _ (groundOfT t1) _ _ _ hv2.rep.all hv3.rep.all).mono ?_
        rintro e w22 ⟨rfl, hb22⟩
        replace hB := (bstep hB hb22)
        have zw22 := hB.size
        go_wp2_with fail
        refine bodyPost_ret (v := .bool true) (by simp [results, Try.results15, go_sem]) rfl ?_
        exact ⟨rfl, hB⟩
end Go.Proofs.Ytjkkahlcbhcifaa
