/-
  FnMeetStatic returns true: the walk.
-/
import Derived.Test.YtjkkahlcbhcifaaFn
import Derived.Test.YtjkkahlcbhcifaaDraws
import Derived.Test.YtjkkahlcbhcifaaDrawCh
namespace Go.Proofs.Ytjkkahlcbhcifaa
open Go.RowKit
set_option linter.unusedVariables false
set_option linter.unusedSimpArgs false
set_option maxRecDepth 100000

theorem leaf_FnMeetStatic_0 {t1 u1 : Ty} (h0 : (consB t1 u1) = true) (h1 : (staticB t1) = true) (h2 : (Ty.same (meetT t1 u1) t1) = true) (h3 : (staticB u1) = true) (h4 : (Ty.same (meetT t1 u1) u1) = true) : (decide ((Ty.anyV (meetT t1 u1)) ≤ ((Ty.anyV t1) + (Ty.anyV u1)))) = true := by
  have l := law_FnMeetStatic t1 u1
  first | (simp_all; done) | grind

theorem leaf_FnMeetStatic_1 {t1 u1 : Ty} (h0 : (consB t1 u1) = true) (h1 : (staticB t1) = true) (h2 : (Ty.same (meetT t1 u1) t1) = true) (h3 : (staticB u1) = true) (h4 : (Ty.same (meetT t1 u1) u1) = false) : False := by
  have l := law_FnMeetStatic t1 u1
  first | (simp_all; done) | grind

theorem leaf_FnMeetStatic_2 {t1 u1 : Ty} (h0 : (consB t1 u1) = true) (h1 : (staticB t1) = true) (h2 : (Ty.same (meetT t1 u1) t1) = true) (h3 : (staticB u1) = false) : (decide ((Ty.anyV (meetT t1 u1)) ≤ ((Ty.anyV t1) + (Ty.anyV u1)))) = true := by
  have l := law_FnMeetStatic t1 u1
  first | (simp_all; done) | grind

theorem leaf_FnMeetStatic_3 {t1 u1 : Ty} (h0 : (consB t1 u1) = true) (h1 : (staticB t1) = true) (h2 : (Ty.same (meetT t1 u1) t1) = false) : False := by
  have l := law_FnMeetStatic t1 u1
  first | (simp_all; done) | grind

theorem leaf_FnMeetStatic_4 {t1 u1 : Ty} (h0 : (consB t1 u1) = true) (h1 : (staticB t1) = false) (h2 : (staticB u1) = true) (h3 : (Ty.same (meetT t1 u1) u1) = true) : (decide ((Ty.anyV (meetT t1 u1)) ≤ ((Ty.anyV t1) + (Ty.anyV u1)))) = true := by
  have l := law_FnMeetStatic t1 u1
  first | (simp_all; done) | grind

theorem leaf_FnMeetStatic_5 {t1 u1 : Ty} (h0 : (consB t1 u1) = true) (h1 : (staticB t1) = false) (h2 : (staticB u1) = true) (h3 : (Ty.same (meetT t1 u1) u1) = false) : False := by
  have l := law_FnMeetStatic t1 u1
  first | (simp_all; done) | grind

theorem leaf_FnMeetStatic_6 {t1 u1 : Ty} (h0 : (consB t1 u1) = true) (h1 : (staticB t1) = false) (h2 : (staticB u1) = false) : (decide ((Ty.anyV (meetT t1 u1)) ≤ ((Ty.anyV t1) + (Ty.anyV u1)))) = true := by
  have l := law_FnMeetStatic t1 u1
  first | (simp_all; done) | grind
set_option maxHeartbeats 8000000 in
theorem walk_FnMeetStatic (y0 : Value) (w : World) (r0 : ByRep w w.heap.size y0) :
    Calls Try.prog 32 #[y0] w fun e w' => e = .returned (.bool true) ∧ Below w.heap.size w w' := by
  obtain ⟨a0, n0, q0, rfl⟩ := r0.shape
  go_enter Try.func32, Try.ntmps32
  rcases Bool.eq_false_or_eq_true (decide ((n0 : Int) > 1048576)) with q1 | q1
  · (try rw [q1])
    go_wp2_with fail
    refine bodyPost_ret (v := .bool true) (by simp [results, Try.results32, go_sem]) rfl ?_
    exact ⟨rfl, (Below.refl _ _)⟩
  · (try rw [q1])
    go_wp2_with fail
    refine (specDrawMeetTypes _ _ _ (r0.below (Below.refl _ _)) (by first | omega | (simp; done) | (simp; omega))).mono ?_
    rintro e w1 ⟨t1, u1, v1, x1, rfl, hv1, hx1, hb1⟩
    obtain ⟨kv1, av1, nv1, qv1, rfl⟩ := hv1.shape
    obtain ⟨kx1, ax1, nx1, qx1, rfl⟩ := hx1.shape
    have hB := (bstep (Below.refl _ _) hb1)
    have zw1 := hB.size
    go_wp2_with fail
    refine (implMeetTypes _ _ t1 u1 _ _ _ (hv1.below bal2).all (hx1.below bal2).all).mono ?_
    rintro e w2 ⟨v2, rfl, hv2, hb2⟩
    obtain ⟨kr2, ar2, nr2, qr2, rfl⟩ := hv2.shape
    replace hB := (bstep ((hB.alloc hB.size _).alloc (hB.alloc hB.size _).size _) hb2)
    have zw2 := hB.size
    have c0_0 : w2.cell? ⟨w1.heap.size, 0, none⟩ = some (.int .i64 kv1) := bcell hb2 (bcell bal1 (cell_new (by simp) 0))
    have c0_1 : w2.cell? ⟨w1.heap.size, 1, none⟩ = some (.slice av1 nv1 qv1) := bcell hb2 (bcell bal1 (cell_new (by simp) 1))
    have c1_0 : w2.cell? ⟨w1.heap.size + 1, 0, none⟩ = some (.int .i64 kx1) := bcell hb2 (cell_new (by simp) 0)
    have c1_1 : w2.cell? ⟨w1.heap.size + 1, 1, none⟩ = some (.slice ax1 nx1 qx1) := bcell hb2 (cell_new (by simp) 1)
    replace hv1 := (hv1.below (bstep bal2 hb2))
    replace hx1 := (hx1.below (bstep bal2 hb2))
    have d0_w2 := World.block_lt_of_cell? _ _ c0_0
    have d1_w2 := World.block_lt_of_cell? _ _ c1_0
    go_wp2_with fail
    refine (specMeetTypes _ _ t1 u1 _ _ _ (hv1.below bal1).all (hx1.below bal1).all).mono ?_
    rintro e w3 ⟨v3, rfl, hv3, hb3⟩
    obtain ⟨kr3, ar3, nr3, qr3, rfl⟩ := hv3.shape
    replace hB := (bstep (hB.alloc hB.size _) hb3)
    have zw3 := hB.size
    have c2_0 : w3.cell? ⟨w2.heap.size, 0, none⟩ = some (.int .i64 kr2) := bcell hb3 (cell_new (by simp) 0)
    have c2_1 : w3.cell? ⟨w2.heap.size, 1, none⟩ = some (.slice ar2 nr2 qr2) := bcell hb3 (cell_new (by simp) 1)
    replace c0_0 : w3.cell? ⟨w1.heap.size, 0, none⟩ = some (.int .i64 kv1) := bcell hb3 (bcell bal1 (c0_0))
    replace c0_1 : w3.cell? ⟨w1.heap.size, 1, none⟩ = some (.slice av1 nv1 qv1) := bcell hb3 (bcell bal1 (c0_1))
    replace c1_0 : w3.cell? ⟨w1.heap.size + 1, 0, none⟩ = some (.int .i64 kx1) := bcell hb3 (bcell bal1 (c1_0))
    replace c1_1 : w3.cell? ⟨w1.heap.size + 1, 1, none⟩ = some (.slice ax1 nx1 qx1) := bcell hb3 (bcell bal1 (c1_1))
    replace hv2 := (hv2.below (bstep bal1 hb3))
    replace hv1 := (hv1.below (bstep bal1 hb3))
    replace hx1 := (hx1.below (bstep bal1 hb3))
    have d2_w3 := World.block_lt_of_cell? _ _ c2_0
    have d0_w3 := World.block_lt_of_cell? _ _ c0_0
    have d1_w3 := World.block_lt_of_cell? _ _ c1_0
    go_wp2_with fail
    refine (implTypeSameSelf _ _ (meetT t1 u1) _ _ _ (hv2.below bal1).rep.all (hv3.below bal1).rep.all).mono ?_
    rintro e w4 ⟨rfl, hb4⟩
    replace hB := (bstep (hB.alloc hB.size _) hb4)
    have zw4 := hB.size
    replace c0_0 : w4.cell? ⟨w1.heap.size, 0, none⟩ = some (.int .i64 kv1) := bcell hb4 (bcell bal1 (c0_0))
    replace c0_1 : w4.cell? ⟨w1.heap.size, 1, none⟩ = some (.slice av1 nv1 qv1) := bcell hb4 (bcell bal1 (c0_1))
    replace c2_0 : w4.cell? ⟨w2.heap.size, 0, none⟩ = some (.int .i64 kr2) := bcell hb4 (bcell bal1 (c2_0))
    replace c2_1 : w4.cell? ⟨w2.heap.size, 1, none⟩ = some (.slice ar2 nr2 qr2) := bcell hb4 (bcell bal1 (c2_1))
    replace c1_0 : w4.cell? ⟨w1.heap.size + 1, 0, none⟩ = some (.int .i64 kx1) := bcell hb4 (bcell bal1 (c1_0))
    replace c1_1 : w4.cell? ⟨w1.heap.size + 1, 1, none⟩ = some (.slice ax1 nx1 qx1) := bcell hb4 (bcell bal1 (c1_1))
    have c3_0 : w4.cell? ⟨w3.heap.size, 0, none⟩ = some (.int .i64 kr3) := bcell hb4 (cell_new (by simp) 0)
    have c3_1 : w4.cell? ⟨w3.heap.size, 1, none⟩ = some (.slice ar3 nr3 qr3) := bcell hb4 (cell_new (by simp) 1)
    replace hv1 := (hv1.below (bstep bal1 hb4))
    replace hv2 := (hv2.below (bstep bal1 hb4))
    replace hx1 := (hx1.below (bstep bal1 hb4))
    replace hv3 := (hv3.below (bstep bal1 hb4))
    have d0_w4 := World.block_lt_of_cell? _ _ c0_0
    have d2_w4 := World.block_lt_of_cell? _ _ c2_0
    have d1_w4 := World.block_lt_of_cell? _ _ c1_0
    have d3_w4 := World.block_lt_of_cell? _ _ c3_0
    rcases Bool.eq_false_or_eq_true (consB t1 u1) with q2 | q2
    · (try rw [q2])
      have Hq2 := Lib.hid q2
      clear q2
      rcases Bool.eq_false_or_eq_true (staticB t1) with q3 | q3
      · have Hq3 := Lib.hid q3
        clear q3
        rcases Bool.eq_false_or_eq_true (Ty.same (meetT t1 u1) t1) with q4 | q4
        · have Hq4 := Lib.hid q4
          clear q4
          rcases Bool.eq_false_or_eq_true (staticB u1) with q5 | q5
          · have Hq5 := Lib.hid q5
            clear q5
            rcases Bool.eq_false_or_eq_true (Ty.same (meetT t1 u1) u1) with q6 | q6
            · have Hq6 := Lib.hid q6
              clear q6
              go_wp2_with fail
              have hwr := IntWalk.i64_in ((Ty.anyV t1) + (Ty.anyV u1)) (by have := Ty.anyV_bd t1; have := Ty.anyV_bd u1; omega)
              have hS0 := Lib.hid (show (World.drew w4).cell? ⟨w1.heap.size, 0, none⟩ = some (.int .i64 kv1) ∧ (World.drew w4).cell? ⟨w1.heap.size, 1, none⟩ = some (.slice av1 nv1 qv1) ∧ (World.drew w4).cell? ⟨w2.heap.size, 0, none⟩ = some (.int .i64 kr2) ∧ (World.drew w4).cell? ⟨w2.heap.size, 1, none⟩ = some (.slice ar2 nr2 qr2) ∧ (World.drew w4).cell? ⟨w1.heap.size + 1, 0, none⟩ = some (.int .i64 kx1) ∧ (World.drew w4).cell? ⟨w1.heap.size + 1, 1, none⟩ = some (.slice ax1 nx1 qx1) from ⟨dcell (c0_0), dcell (c0_1), dcell (c2_0), dcell (c2_1), dcell (c1_0), dcell (c1_1)⟩)
              have hSb := Lib.hid (show ∀ X Y : World, Below X.heap.size X Y → (X.cell? ⟨w1.heap.size, 0, none⟩ = some (.int .i64 kv1) ∧ X.cell? ⟨w1.heap.size, 1, none⟩ = some (.slice av1 nv1 qv1) ∧ X.cell? ⟨w2.heap.size, 0, none⟩ = some (.int .i64 kr2) ∧ X.cell? ⟨w2.heap.size, 1, none⟩ = some (.slice ar2 nr2 qr2) ∧ X.cell? ⟨w1.heap.size + 1, 0, none⟩ = some (.int .i64 kx1) ∧ X.cell? ⟨w1.heap.size + 1, 1, none⟩ = some (.slice ax1 nx1 qx1)) → (Y.cell? ⟨w1.heap.size, 0, none⟩ = some (.int .i64 kv1) ∧ Y.cell? ⟨w1.heap.size, 1, none⟩ = some (.slice av1 nv1 qv1) ∧ Y.cell? ⟨w2.heap.size, 0, none⟩ = some (.int .i64 kr2) ∧ Y.cell? ⟨w2.heap.size, 1, none⟩ = some (.slice ar2 nr2 qr2) ∧ Y.cell? ⟨w1.heap.size + 1, 0, none⟩ = some (.int .i64 kx1) ∧ Y.cell? ⟨w1.heap.size + 1, 1, none⟩ = some (.slice ax1 nx1 qx1)) from fun X Y h s => ⟨bcell h s.1, bcell h s.2.1, bcell h s.2.2.1, bcell h s.2.2.2.1, bcell h s.2.2.2.2.1, bcell h s.2.2.2.2.2⟩)
              go_region_held3 (fun w' => w'.cell? ⟨w1.heap.size, 0, none⟩ = some (.int .i64 kv1) ∧ w'.cell? ⟨w1.heap.size, 1, none⟩ = some (.slice av1 nv1 qv1) ∧ w'.cell? ⟨w2.heap.size, 0, none⟩ = some (.int .i64 kr2) ∧ w'.cell? ⟨w2.heap.size, 1, none⟩ = some (.slice ar2 nr2 qr2) ∧ w'.cell? ⟨w1.heap.size + 1, 0, none⟩ = some (.int .i64 kx1) ∧ w'.cell? ⟨w1.heap.size + 1, 1, none⟩ = some (.slice ax1 nx1 qx1))
                (repeat (first | with_reducible refine hSb.out _ _ hb11 ?_ | with_reducible refine hSb.out _ _ hb10 ?_ | with_reducible refine hSb.out _ _ hb9 ?_ | with_reducible refine hSb.out _ _ hb8 ?_ | with_reducible refine hSb.out _ _ hb7 ?_ | with_reducible refine hSb.out _ _ hb6 ?_ | with_reducible refine hSb.out _ _ hb5 ?_ | with_reducible exact hS0.out))
                (first | (go_at_call 42; ((with_reducible refine (implIsStaticB _ t1 _ _ (hv1.below bdr).all).mono ?_); rintro e w5 ⟨rfl, hb5⟩; rw [Hq3.out])) | (go_at_call 37; ((with_reducible refine (implTypeSame _ _ (meetT t1 u1) t1 _ _ _ (hv2.below (bstep bdr hb5)).rep.all (hv1.below (bstep bdr hb5)).all).mono ?_); rintro e w6 ⟨rfl, hb6⟩; rw [Hq4.out])) | (go_at_call 42; ((with_reducible refine (implIsStaticB _ u1 _ _ (hx1.below (bstep (bstep bdr hb5) hb6)).all).mono ?_); rintro e w7 ⟨rfl, hb7⟩; rw [Hq5.out])) | (go_at_call 37; ((with_reducible refine (implTypeSame _ _ (meetT t1 u1) u1 _ _ _ (hv2.below (bstep (bstep (bstep bdr hb5) hb6) hb7)).rep.all (hx1.below (bstep (bstep (bstep bdr hb5) hb6) hb7)).all).mono ?_); rintro e w8 ⟨rfl, hb8⟩; rw [Hq6.out])) | (go_at_call 49; ((with_reducible refine (implCountAny _ (meetT t1 u1) _ _ (hv2.below (bstep (bstep (bstep (bstep bdr hb5) hb6) hb7) hb8)).rep.all).mono ?_); rintro e w9 ⟨rfl, hb9⟩; have hi9 := Ty.anyV_bd (meetT t1 u1))) | (go_at_call 49; ((with_reducible refine (implCountAny _ t1 _ _ (hv1.below (bstep (bstep (bstep (bstep (bstep bdr hb5) hb6) hb7) hb8) hb9)).all).mono ?_); rintro e w10 ⟨rfl, hb10⟩; have hi10 := Ty.anyV_bd t1)) | (go_at_call 49; ((with_reducible refine (implCountAny _ u1 _ _ (hx1.below (bstep (bstep (bstep (bstep (bstep (bstep bdr hb5) hb6) hb7) hb8) hb9) hb10)).all).mono ?_); rintro e w11 ⟨rfl, hb11⟩; have hi11 := Ty.anyV_bd u1)))
              replace hB := (bstep (bstep (bstep (bstep (bstep (bstep (bstep hB.drew hb5) hb6) hb7) hb8) hb9) hb10) hb11)
              have zw11 := hB.size
              go_wp2_with fail
              have hE := leaf_FnMeetStatic_0 Hq2.out Hq3.out Hq4.out Hq5.out Hq6.out
              refine bodyPost_ret (v := .bool (decide ((Ty.anyV (meetT t1 u1)) ≤ ((Ty.anyV t1) + (Ty.anyV u1))))) (by simp [results, Try.results32, go_sem]) rfl ?_
              exact ⟨by rw [hE], hB⟩
            · have Hq6 := Lib.hid q6
              clear q6
              go_wp2_with fail
              refine wp_region_noPanic ?_
              refine wp_region_held_drew (S := fun w' => w'.cell? ⟨w1.heap.size, 0, none⟩ = some (.int .i64 kv1) ∧ w'.cell? ⟨w1.heap.size, 1, none⟩ = some (.slice av1 nv1 qv1) ∧ w'.cell? ⟨w2.heap.size, 0, none⟩ = some (.int .i64 kr2) ∧ w'.cell? ⟨w2.heap.size, 1, none⟩ = some (.slice ar2 nr2 qr2) ∧ w'.cell? ⟨w1.heap.size + 1, 0, none⟩ = some (.int .i64 kx1) ∧ w'.cell? ⟨w1.heap.size + 1, 1, none⟩ = some (.slice ax1 nx1 qx1)) (by kernel_rfl) ?_ (fun hHeld0 => ?_)
              · exact ⟨dcell (c0_0), dcell (c0_1), dcell (c2_0), dcell (c2_1), dcell (c1_0), dcell (c1_1)⟩
              refine wpAnyH_take (i := 0) (oi := { dst := some 50, op := Op.load 29 (Operand.tmp 3), type := 29, pos := "laws.go:201", after := #[], guard := none }) (v := .agg #[.int .i64 kv1, .slice av1 nv1 qv1]) rfl (by kernel_rfl) (by kernel_rfl) (by kernel_rfl) (fun _ _ _ h => h) (Or.inl ⟨by rfl, ?_⟩) hHeld0 ?_
              · intro w' hSw; (try dsimp only at hSw); go_simp
              (try simp only [Act.put, List.setIfInBounds_toArray, List.set_cons_zero, List.set_cons_succ])
              refine wpAnyH_ready (rs := [1]) (by kernel_rfl) (by simp) ?_
              refine AllReadyH.cons (o := { dst := some 51, op := Op.call { callee := Callee.value (Operand.func 42), args := #[Operand.tmp 50], argTypes := #[29] }, type := 4, pos := "laws.go:201", after := #[{ on := 0, ground := Ground.data }], guard := none }) rfl (fun K hK => ?_) AllReadyH.nil
              go_simp
              go_at_call 42
              (with_reducible refine (implIsStaticB _ t1 _ _ (hv1.below bdr).all).mono ?_)
              rintro e w12 ⟨rfl, hb12⟩
              rw [Hq3.out]
              go_wp2_with fail
              refine hK.out _ _ ?_ (fun hHeld1 => ?_)
              · exact ⟨bcell hb12 (dcell (c0_0)), bcell hb12 (dcell (c0_1)), bcell hb12 (dcell (c2_0)), bcell hb12 (dcell (c2_1)), bcell hb12 (dcell (c1_0)), bcell hb12 (dcell (c1_1))⟩
              clear hK K hHeld0
              (try simp only [Act.put, List.setIfInBounds_toArray, List.set_cons_zero, List.set_cons_succ])
              refine wpAnyH_take (i := 2) (oi := { dst := some 52, op := Op.unOp UnOp.not 4 (Operand.tmp 51), type := 4, pos := "laws.go:201", after := #[{ on := 1, ground := Ground.data }], guard := none }) (v := .bool false) rfl (by kernel_rfl) (by kernel_rfl) (by kernel_rfl) (fun _ _ _ h => h) (Or.inl ⟨by rfl, ?_⟩) hHeld1 ?_
              · intro w' hSw; (try dsimp only at hSw); go_simp
              (try simp only [Act.put, List.setIfInBounds_toArray, List.set_cons_zero, List.set_cons_succ])
              refine wpAnyH_take (i := 3) (oi := { dst := some 53, op := Op.move (Operand.tmp 52), type := 4, pos := "laws.go:201", after := #[{ on := 2, ground := Ground.data }, { on := 1, ground := Ground.chain }], guard := none }) (v := .bool false) rfl (by kernel_rfl) (by kernel_rfl) (by kernel_rfl) (fun _ _ _ h => h) (Or.inl ⟨by rfl, ?_⟩) hHeld1 ?_
              · intro w' hSw; (try dsimp only at hSw); go_simp
              (try simp only [Act.put, List.setIfInBounds_toArray, List.set_cons_zero, List.set_cons_succ])
              refine wpAnyH_take (i := 4) (oi := { dst := some 54, op := Op.load 29 (Operand.tmp 5), type := 29, pos := "laws.go:201", after := #[{ on := 3, ground := Ground.guard }], guard := some (3, false) }) (v := .agg #[.int .i64 kr2, .slice ar2 nr2 qr2]) rfl (by kernel_rfl) (by kernel_rfl) (by kernel_rfl) (fun _ _ _ h => h) (Or.inl ⟨by rfl, ?_⟩) hHeld1 ?_
              · intro w' hSw; (try dsimp only at hSw); go_simp
              (try simp only [Act.put, List.setIfInBounds_toArray, List.set_cons_zero, List.set_cons_succ])
              refine wpAnyH_take (i := 5) (oi := { dst := some 55, op := Op.load 29 (Operand.tmp 3), type := 29, pos := "laws.go:201", after := #[{ on := 3, ground := Ground.guard }], guard := some (3, false) }) (v := .agg #[.int .i64 kv1, .slice av1 nv1 qv1]) rfl (by kernel_rfl) (by kernel_rfl) (by kernel_rfl) (fun _ _ _ h => h) (Or.inl ⟨by rfl, ?_⟩) hHeld1 ?_
              · intro w' hSw; (try dsimp only at hSw); go_simp
              (try simp only [Act.put, List.setIfInBounds_toArray, List.set_cons_zero, List.set_cons_succ])
              refine wpAnyH_ready (rs := [6]) (by kernel_rfl) (by simp) ?_
              refine AllReadyH.cons (o := { dst := some 56, op := Op.call { callee := Callee.value (Operand.func 37), args := #[Operand.tmp 54, Operand.tmp 55], argTypes := #[29, 29] }, type := 4, pos := "laws.go:201", after := #[{ on := 4, ground := Ground.data }, { on := 5, ground := Ground.data }, { on := 3, ground := Ground.chain }, { on := 3, ground := Ground.guard }], guard := some (3, false) }) rfl (fun K hK => ?_) AllReadyH.nil
              go_simp
              go_at_call 37
              (with_reducible refine (implTypeSame _ _ (meetT t1 u1) t1 _ _ _ (hv2.below (bstep bdr hb12)).rep.all (hv1.below (bstep bdr hb12)).all).mono ?_)
              rintro e w13 ⟨rfl, hb13⟩
              rw [Hq4.out]
              go_wp2_with fail
              refine hK.out _ _ ?_ (fun hHeld2 => ?_)
              · exact ⟨bcell hb13 (bcell hb12 (dcell (c0_0))), bcell hb13 (bcell hb12 (dcell (c0_1))), bcell hb13 (bcell hb12 (dcell (c2_0))), bcell hb13 (bcell hb12 (dcell (c2_1))), bcell hb13 (bcell hb12 (dcell (c1_0))), bcell hb13 (bcell hb12 (dcell (c1_1)))⟩
              clear hK K hHeld1
              (try simp only [Act.put, List.setIfInBounds_toArray, List.set_cons_zero, List.set_cons_succ])
              refine wpAnyH_take (i := 7) (oi := { dst := some 57, op := Op.pick (Operand.tmp 53) (Operand.const (Value.bool true)) (Operand.tmp 56), type := 4, pos := "laws.go:201", after := #[{ on := 3, ground := Ground.data }, { on := 6, ground := Ground.data }], guard := none }) (v := .bool true) rfl (by kernel_rfl) (by kernel_rfl) (by kernel_rfl) (fun _ _ _ h => h) (Or.inl ⟨by rfl, ?_⟩) hHeld2 ?_
              · intro w' hSw; (try dsimp only at hSw); go_simp
              (try simp only [Act.put, List.setIfInBounds_toArray, List.set_cons_zero, List.set_cons_succ])
              refine wpAnyH_take (i := 8) (oi := { dst := some 58, op := Op.move (Operand.tmp 57), type := 4, pos := "laws.go:201", after := #[{ on := 7, ground := Ground.data }, { on := 6, ground := Ground.chain }], guard := none }) (v := .bool true) rfl (by kernel_rfl) (by kernel_rfl) (by kernel_rfl) (fun _ _ _ h => h) (Or.inl ⟨by rfl, ?_⟩) hHeld2 ?_
              · intro w' hSw; (try dsimp only at hSw); go_simp
              (try simp only [Act.put, List.setIfInBounds_toArray, List.set_cons_zero, List.set_cons_succ])
              refine wpAnyH_take (i := 9) (oi := { dst := some 59, op := Op.load 29 (Operand.tmp 4), type := 29, pos := "laws.go:201", after := #[{ on := 8, ground := Ground.guard }], guard := some (8, true) }) (v := .agg #[.int .i64 kx1, .slice ax1 nx1 qx1]) rfl (by kernel_rfl) (by kernel_rfl) (by kernel_rfl) (fun _ _ _ h => h) (Or.inl ⟨by rfl, ?_⟩) hHeld2 ?_
              · intro w' hSw; (try dsimp only at hSw); go_simp
              (try simp only [Act.put, List.setIfInBounds_toArray, List.set_cons_zero, List.set_cons_succ])
              refine wpAnyH_ready (rs := [10]) (by kernel_rfl) (by simp) ?_
              refine AllReadyH.cons (o := { dst := some 60, op := Op.call { callee := Callee.value (Operand.func 42), args := #[Operand.tmp 59], argTypes := #[29] }, type := 4, pos := "laws.go:201", after := #[{ on := 9, ground := Ground.data }, { on := 8, ground := Ground.chain }, { on := 8, ground := Ground.guard }], guard := some (8, true) }) rfl (fun K hK => ?_) AllReadyH.nil
              go_simp
              go_at_call 42
              (with_reducible refine (implIsStaticB _ u1 _ _ (hx1.below (bstep (bstep bdr hb12) hb13)).all).mono ?_)
              rintro e w14 ⟨rfl, hb14⟩
              rw [Hq5.out]
              go_wp2_with fail
              refine hK.out _ _ ?_ (fun hHeld3 => ?_)
              · exact ⟨bcell hb14 (bcell hb13 (bcell hb12 (dcell (c0_0)))), bcell hb14 (bcell hb13 (bcell hb12 (dcell (c0_1)))), bcell hb14 (bcell hb13 (bcell hb12 (dcell (c2_0)))), bcell hb14 (bcell hb13 (bcell hb12 (dcell (c2_1)))), bcell hb14 (bcell hb13 (bcell hb12 (dcell (c1_0)))), bcell hb14 (bcell hb13 (bcell hb12 (dcell (c1_1))))⟩
              clear hK K hHeld2
              (try simp only [Act.put, List.setIfInBounds_toArray, List.set_cons_zero, List.set_cons_succ])
              refine wpAnyH_take (i := 11) (oi := { dst := some 61, op := Op.unOp UnOp.not 4 (Operand.tmp 60), type := 4, pos := "laws.go:201", after := #[{ on := 10, ground := Ground.data }, { on := 8, ground := Ground.guard }], guard := some (8, true) }) (v := .bool false) rfl (by kernel_rfl) (by kernel_rfl) (by kernel_rfl) (fun _ _ _ h => h) (Or.inl ⟨by rfl, ?_⟩) hHeld3 ?_
              · intro w' hSw; (try dsimp only at hSw); go_simp
              (try simp only [Act.put, List.setIfInBounds_toArray, List.set_cons_zero, List.set_cons_succ])
              refine wpAnyH_take (i := 12) (oi := { dst := some 62, op := Op.move (Operand.tmp 61), type := 4, pos := "laws.go:201", after := #[{ on := 11, ground := Ground.data }, { on := 10, ground := Ground.chain }, { on := 8, ground := Ground.guard }], guard := some (8, true) }) (v := .bool false) rfl (by kernel_rfl) (by kernel_rfl) (by kernel_rfl) (fun _ _ _ h => h) (Or.inl ⟨by rfl, ?_⟩) hHeld3 ?_
              · intro w' hSw; (try dsimp only at hSw); go_simp
              (try simp only [Act.put, List.setIfInBounds_toArray, List.set_cons_zero, List.set_cons_succ])
              refine wpAnyH_take (i := 13) (oi := { dst := some 63, op := Op.load 29 (Operand.tmp 5), type := 29, pos := "laws.go:201", after := #[{ on := 12, ground := Ground.guard }], guard := some (12, false) }) (v := .agg #[.int .i64 kr2, .slice ar2 nr2 qr2]) rfl (by kernel_rfl) (by kernel_rfl) (by kernel_rfl) (fun _ _ _ h => h) (Or.inl ⟨by rfl, ?_⟩) hHeld3 ?_
              · intro w' hSw; (try dsimp only at hSw); go_simp
              (try simp only [Act.put, List.setIfInBounds_toArray, List.set_cons_zero, List.set_cons_succ])
              refine wpAnyH_take (i := 14) (oi := { dst := some 64, op := Op.load 29 (Operand.tmp 4), type := 29, pos := "laws.go:201", after := #[{ on := 12, ground := Ground.guard }], guard := some (12, false) }) (v := .agg #[.int .i64 kx1, .slice ax1 nx1 qx1]) rfl (by kernel_rfl) (by kernel_rfl) (by kernel_rfl) (fun _ _ _ h => h) (Or.inl ⟨by rfl, ?_⟩) hHeld3 ?_
              · intro w' hSw; (try dsimp only at hSw); go_simp
              (try simp only [Act.put, List.setIfInBounds_toArray, List.set_cons_zero, List.set_cons_succ])
              refine wpAnyH_ready (rs := [15]) (by kernel_rfl) (by simp) ?_
              refine AllReadyH.cons (o := { dst := some 65, op := Op.call { callee := Callee.value (Operand.func 37), args := #[Operand.tmp 63, Operand.tmp 64], argTypes := #[29, 29] }, type := 4, pos := "laws.go:201", after := #[{ on := 13, ground := Ground.data }, { on := 14, ground := Ground.data }, { on := 12, ground := Ground.chain }, { on := 12, ground := Ground.guard }], guard := some (12, false) }) rfl (fun K hK => ?_) AllReadyH.nil
              go_simp
              go_at_call 37
              (with_reducible refine (implTypeSame _ _ (meetT t1 u1) u1 _ _ _ (hv2.below (bstep (bstep (bstep bdr hb12) hb13) hb14)).rep.all (hx1.below (bstep (bstep (bstep bdr hb12) hb13) hb14)).all).mono ?_)
              rintro e w15 ⟨rfl, hb15⟩
              rw [Hq6.out]
              go_wp2_with fail
              refine hK.out _ _ ?_ (fun hHeld4 => ?_)
              · exact ⟨bcell hb15 (bcell hb14 (bcell hb13 (bcell hb12 (dcell (c0_0))))), bcell hb15 (bcell hb14 (bcell hb13 (bcell hb12 (dcell (c0_1))))), bcell hb15 (bcell hb14 (bcell hb13 (bcell hb12 (dcell (c2_0))))), bcell hb15 (bcell hb14 (bcell hb13 (bcell hb12 (dcell (c2_1))))), bcell hb15 (bcell hb14 (bcell hb13 (bcell hb12 (dcell (c1_0))))), bcell hb15 (bcell hb14 (bcell hb13 (bcell hb12 (dcell (c1_1)))))⟩
              clear hK K hHeld3
              (try simp only [Act.put, List.setIfInBounds_toArray, List.set_cons_zero, List.set_cons_succ])
              refine wpAnyH_take (i := 16) (oi := { dst := some 66, op := Op.pick (Operand.tmp 62) (Operand.const (Value.bool true)) (Operand.tmp 65), type := 4, pos := "laws.go:201", after := #[{ on := 12, ground := Ground.data }, { on := 15, ground := Ground.data }, { on := 8, ground := Ground.guard }], guard := some (8, true) }) (v := .bool false) rfl (by kernel_rfl) (by kernel_rfl) (by kernel_rfl) (fun _ _ _ h => h) (Or.inl ⟨by rfl, ?_⟩) hHeld4 ?_
              · intro w' hSw; (try dsimp only at hSw); go_simp
              (try simp only [Act.put, List.setIfInBounds_toArray, List.set_cons_zero, List.set_cons_succ])
              refine wpAnyH_take (i := 17) (oi := { dst := some 67, op := Op.pick (Operand.tmp 58) (Operand.tmp 66) (Operand.const (Value.bool false)), type := 4, pos := "laws.go:201", after := #[{ on := 8, ground := Ground.data }, { on := 16, ground := Ground.data }], guard := none }) (v := .bool false) rfl (by kernel_rfl) (by kernel_rfl) (by kernel_rfl) (fun _ _ _ h => h) (Or.inl ⟨by rfl, ?_⟩) hHeld4 ?_
              · intro w' hSw; (try dsimp only at hSw); go_simp
              (try simp only [Act.put, List.setIfInBounds_toArray, List.set_cons_zero, List.set_cons_succ])
              refine wpAnyH_take (i := 18) (oi := { dst := some 68, op := Op.move (Operand.tmp 67), type := 4, pos := "laws.go:201", after := #[{ on := 17, ground := Ground.data }, { on := 15, ground := Ground.chain }], guard := none }) (v := .bool false) rfl (by kernel_rfl) (by kernel_rfl) (by kernel_rfl) (fun _ _ _ h => h) (Or.inl ⟨by rfl, ?_⟩) hHeld4 ?_
              · intro w' hSw; (try dsimp only at hSw); go_simp
              (try simp only [Act.put, List.setIfInBounds_toArray, List.set_cons_zero, List.set_cons_succ])
              refine wpAnyH_take (i := 19) (oi := { dst := some 69, op := Op.load 29 (Operand.tmp 5), type := 29, pos := "laws.go:201", after := #[{ on := 18, ground := Ground.guard }], guard := some (18, true) }) (v := undef) rfl (by kernel_rfl) (by kernel_rfl) (by kernel_rfl) (fun _ _ _ h => h) (Or.inr ⟨by rfl, rfl⟩) hHeld4 ?_
              (try simp only [Act.put, List.setIfInBounds_toArray, List.set_cons_zero, List.set_cons_succ])
              refine wpAnyH_take (i := 20) (oi := { dst := some 70, op := Op.call { callee := Callee.value (Operand.func 49), args := #[Operand.tmp 69], argTypes := #[29] }, type := 3, pos := "laws.go:201", after := #[{ on := 19, ground := Ground.data }, { on := 18, ground := Ground.chain }, { on := 18, ground := Ground.guard }], guard := some (18, true) }) (v := undef) rfl (by kernel_rfl) (by kernel_rfl) (by kernel_rfl) (fun _ _ _ h => h) (Or.inr ⟨by rfl, rfl⟩) hHeld4 ?_
              (try simp only [Act.put, List.setIfInBounds_toArray, List.set_cons_zero, List.set_cons_succ])
              refine wpAnyH_take (i := 21) (oi := { dst := some 71, op := Op.load 29 (Operand.tmp 3), type := 29, pos := "laws.go:201", after := #[{ on := 18, ground := Ground.guard }], guard := some (18, true) }) (v := undef) rfl (by kernel_rfl) (by kernel_rfl) (by kernel_rfl) (fun _ _ _ h => h) (Or.inr ⟨by rfl, rfl⟩) hHeld4 ?_
              (try simp only [Act.put, List.setIfInBounds_toArray, List.set_cons_zero, List.set_cons_succ])
              refine wpAnyH_take (i := 22) (oi := { dst := some 72, op := Op.call { callee := Callee.value (Operand.func 49), args := #[Operand.tmp 71], argTypes := #[29] }, type := 3, pos := "laws.go:201", after := #[{ on := 21, ground := Ground.data }, { on := 20, ground := Ground.chain }, { on := 18, ground := Ground.guard }], guard := some (18, true) }) (v := undef) rfl (by kernel_rfl) (by kernel_rfl) (by kernel_rfl) (fun _ _ _ h => h) (Or.inr ⟨by rfl, rfl⟩) hHeld4 ?_
              (try simp only [Act.put, List.setIfInBounds_toArray, List.set_cons_zero, List.set_cons_succ])
              refine wpAnyH_take (i := 23) (oi := { dst := some 73, op := Op.load 29 (Operand.tmp 4), type := 29, pos := "laws.go:201", after := #[{ on := 18, ground := Ground.guard }], guard := some (18, true) }) (v := undef) rfl (by kernel_rfl) (by kernel_rfl) (by kernel_rfl) (fun _ _ _ h => h) (Or.inr ⟨by rfl, rfl⟩) hHeld4 ?_
              (try simp only [Act.put, List.setIfInBounds_toArray, List.set_cons_zero, List.set_cons_succ])
              refine wpAnyH_take (i := 24) (oi := { dst := some 74, op := Op.call { callee := Callee.value (Operand.func 49), args := #[Operand.tmp 73], argTypes := #[29] }, type := 3, pos := "laws.go:201", after := #[{ on := 23, ground := Ground.data }, { on := 22, ground := Ground.chain }, { on := 18, ground := Ground.guard }], guard := some (18, true) }) (v := undef) rfl (by kernel_rfl) (by kernel_rfl) (by kernel_rfl) (fun _ _ _ h => h) (Or.inr ⟨by rfl, rfl⟩) hHeld4 ?_
              (try simp only [Act.put, List.setIfInBounds_toArray, List.set_cons_zero, List.set_cons_succ])
              refine wpAnyH_take (i := 25) (oi := { dst := some 75, op := Op.binOp BinOp.add 3 (Operand.tmp 72) (Operand.tmp 74) 3, type := 3, pos := "laws.go:201", after := #[{ on := 22, ground := Ground.data }, { on := 24, ground := Ground.data }, { on := 18, ground := Ground.guard }], guard := some (18, true) }) (v := undef) rfl (by kernel_rfl) (by kernel_rfl) (by kernel_rfl) (fun _ _ _ h => h) (Or.inr ⟨by rfl, rfl⟩) hHeld4 ?_
              (try simp only [Act.put, List.setIfInBounds_toArray, List.set_cons_zero, List.set_cons_succ])
              refine wpAnyH_take (i := 26) (oi := { dst := some 76, op := Op.binOp BinOp.leq 3 (Operand.tmp 70) (Operand.tmp 75) 3, type := 4, pos := "laws.go:201", after := #[{ on := 20, ground := Ground.data }, { on := 25, ground := Ground.data }, { on := 18, ground := Ground.guard }], guard := some (18, true) }) (v := undef) rfl (by kernel_rfl) (by kernel_rfl) (by kernel_rfl) (fun _ _ _ h => h) (Or.inr ⟨by rfl, rfl⟩) hHeld4 ?_
              (try simp only [Act.put, List.setIfInBounds_toArray, List.set_cons_zero, List.set_cons_succ])
              refine wpAnyH_take (i := 27) (oi := { dst := some 77, op := Op.pick (Operand.tmp 68) (Operand.tmp 76) (Operand.const (Value.bool false)), type := 4, pos := "laws.go:201", after := #[{ on := 18, ground := Ground.data }, { on := 26, ground := Ground.data }], guard := none }) (v := .bool false) rfl (by kernel_rfl) (by kernel_rfl) (by kernel_rfl) (fun _ _ _ h => h) (Or.inl ⟨by rfl, ?_⟩) hHeld4 ?_
              · intro w' hSw; (try dsimp only at hSw); go_simp
              (try simp only [Act.put, List.setIfInBounds_toArray, List.set_cons_zero, List.set_cons_succ])
              refine wpAnyH_take (i := 28) (oi := { dst := some 2, op := Op.assign (Operand.tmp 77), type := 4, pos := "laws.go:201", after := #[{ on := 27, ground := Ground.data }, { on := 24, ground := Ground.chain }, { on := 0, ground := Ground.phase }, { on := 1, ground := Ground.phase }, { on := 2, ground := Ground.phase }, { on := 3, ground := Ground.phase }, { on := 4, ground := Ground.phase }, { on := 5, ground := Ground.phase }, { on := 6, ground := Ground.phase }, { on := 7, ground := Ground.phase }, { on := 8, ground := Ground.phase }, { on := 9, ground := Ground.phase }, { on := 10, ground := Ground.phase }, { on := 11, ground := Ground.phase }, { on := 12, ground := Ground.phase }, { on := 13, ground := Ground.phase }, { on := 14, ground := Ground.phase }, { on := 15, ground := Ground.phase }, { on := 16, ground := Ground.phase }, { on := 17, ground := Ground.phase }, { on := 18, ground := Ground.phase }, { on := 19, ground := Ground.phase }, { on := 20, ground := Ground.phase }, { on := 21, ground := Ground.phase }, { on := 22, ground := Ground.phase }, { on := 23, ground := Ground.phase }, { on := 24, ground := Ground.phase }, { on := 25, ground := Ground.phase }, { on := 26, ground := Ground.phase }, { on := 27, ground := Ground.phase }], guard := none }) (v := .bool false) rfl (by kernel_rfl) (by kernel_rfl) (by kernel_rfl) (fun _ _ _ h => h) (Or.inl ⟨by rfl, ?_⟩) hHeld4 ?_
              · intro w' hSw; (try dsimp only at hSw); go_simp
              (try simp only [Act.put, List.setIfInBounds_toArray, List.set_cons_zero, List.set_cons_succ])
              refine wpAnyH_done (by kernel_rfl) ?_ _
              refine NoPanic.normal ?_
              clear hHeld4
              replace hB := (bstep (bstep (bstep (bstep hB.drew hb12) hb13) hb14) hb15)
              have zw15 := hB.size
              go_wp2_with fail
              exact (leaf_FnMeetStatic_1 Hq2.out Hq3.out Hq4.out Hq5.out Hq6.out).elim
          · have Hq5 := Lib.hid q5
            clear q5
            go_wp2_with fail
            have hwr := IntWalk.i64_in ((Ty.anyV t1) + (Ty.anyV u1)) (by have := Ty.anyV_bd t1; have := Ty.anyV_bd u1; omega)
            refine wp_region_noPanic ?_
            refine wp_region_held_drew (S := fun w' => w'.cell? ⟨w1.heap.size, 0, none⟩ = some (.int .i64 kv1) ∧ w'.cell? ⟨w1.heap.size, 1, none⟩ = some (.slice av1 nv1 qv1) ∧ w'.cell? ⟨w2.heap.size, 0, none⟩ = some (.int .i64 kr2) ∧ w'.cell? ⟨w2.heap.size, 1, none⟩ = some (.slice ar2 nr2 qr2) ∧ w'.cell? ⟨w1.heap.size + 1, 0, none⟩ = some (.int .i64 kx1) ∧ w'.cell? ⟨w1.heap.size + 1, 1, none⟩ = some (.slice ax1 nx1 qx1)) (by kernel_rfl) ?_ (fun hHeld0 => ?_)
            · exact ⟨dcell (c0_0), dcell (c0_1), dcell (c2_0), dcell (c2_1), dcell (c1_0), dcell (c1_1)⟩
            refine wpAnyH_take (i := 0) (oi := { dst := some 50, op := Op.load 29 (Operand.tmp 3), type := 29, pos := "laws.go:201", after := #[], guard := none }) (v := .agg #[.int .i64 kv1, .slice av1 nv1 qv1]) rfl (by kernel_rfl) (by kernel_rfl) (by kernel_rfl) (fun _ _ _ h => h) (Or.inl ⟨by rfl, ?_⟩) hHeld0 ?_
            · intro w' hSw; (try dsimp only at hSw); go_simp
            (try simp only [Act.put, List.setIfInBounds_toArray, List.set_cons_zero, List.set_cons_succ])
            refine wpAnyH_ready (rs := [1]) (by kernel_rfl) (by simp) ?_
            refine AllReadyH.cons (o := { dst := some 51, op := Op.call { callee := Callee.value (Operand.func 42), args := #[Operand.tmp 50], argTypes := #[29] }, type := 4, pos := "laws.go:201", after := #[{ on := 0, ground := Ground.data }], guard := none }) rfl (fun K hK => ?_) AllReadyH.nil
            go_simp
            go_at_call 42
            (with_reducible refine (implIsStaticB _ t1 _ _ (hv1.below bdr).all).mono ?_)
            rintro e w16 ⟨rfl, hb16⟩
            rw [Hq3.out]
            go_wp2_with fail
            refine hK.out _ _ ?_ (fun hHeld1 => ?_)
            · exact ⟨bcell hb16 (dcell (c0_0)), bcell hb16 (dcell (c0_1)), bcell hb16 (dcell (c2_0)), bcell hb16 (dcell (c2_1)), bcell hb16 (dcell (c1_0)), bcell hb16 (dcell (c1_1))⟩
            clear hK K hHeld0
            (try simp only [Act.put, List.setIfInBounds_toArray, List.set_cons_zero, List.set_cons_succ])
            refine wpAnyH_take (i := 2) (oi := { dst := some 52, op := Op.unOp UnOp.not 4 (Operand.tmp 51), type := 4, pos := "laws.go:201", after := #[{ on := 1, ground := Ground.data }], guard := none }) (v := .bool false) rfl (by kernel_rfl) (by kernel_rfl) (by kernel_rfl) (fun _ _ _ h => h) (Or.inl ⟨by rfl, ?_⟩) hHeld1 ?_
            · intro w' hSw; (try dsimp only at hSw); go_simp
            (try simp only [Act.put, List.setIfInBounds_toArray, List.set_cons_zero, List.set_cons_succ])
            refine wpAnyH_take (i := 3) (oi := { dst := some 53, op := Op.move (Operand.tmp 52), type := 4, pos := "laws.go:201", after := #[{ on := 2, ground := Ground.data }, { on := 1, ground := Ground.chain }], guard := none }) (v := .bool false) rfl (by kernel_rfl) (by kernel_rfl) (by kernel_rfl) (fun _ _ _ h => h) (Or.inl ⟨by rfl, ?_⟩) hHeld1 ?_
            · intro w' hSw; (try dsimp only at hSw); go_simp
            (try simp only [Act.put, List.setIfInBounds_toArray, List.set_cons_zero, List.set_cons_succ])
            refine wpAnyH_take (i := 4) (oi := { dst := some 54, op := Op.load 29 (Operand.tmp 5), type := 29, pos := "laws.go:201", after := #[{ on := 3, ground := Ground.guard }], guard := some (3, false) }) (v := .agg #[.int .i64 kr2, .slice ar2 nr2 qr2]) rfl (by kernel_rfl) (by kernel_rfl) (by kernel_rfl) (fun _ _ _ h => h) (Or.inl ⟨by rfl, ?_⟩) hHeld1 ?_
            · intro w' hSw; (try dsimp only at hSw); go_simp
            (try simp only [Act.put, List.setIfInBounds_toArray, List.set_cons_zero, List.set_cons_succ])
            refine wpAnyH_take (i := 5) (oi := { dst := some 55, op := Op.load 29 (Operand.tmp 3), type := 29, pos := "laws.go:201", after := #[{ on := 3, ground := Ground.guard }], guard := some (3, false) }) (v := .agg #[.int .i64 kv1, .slice av1 nv1 qv1]) rfl (by kernel_rfl) (by kernel_rfl) (by kernel_rfl) (fun _ _ _ h => h) (Or.inl ⟨by rfl, ?_⟩) hHeld1 ?_
            · intro w' hSw; (try dsimp only at hSw); go_simp
            (try simp only [Act.put, List.setIfInBounds_toArray, List.set_cons_zero, List.set_cons_succ])
            refine wpAnyH_ready (rs := [6]) (by kernel_rfl) (by simp) ?_
            refine AllReadyH.cons (o := { dst := some 56, op := Op.call { callee := Callee.value (Operand.func 37), args := #[Operand.tmp 54, Operand.tmp 55], argTypes := #[29, 29] }, type := 4, pos := "laws.go:201", after := #[{ on := 4, ground := Ground.data }, { on := 5, ground := Ground.data }, { on := 3, ground := Ground.chain }, { on := 3, ground := Ground.guard }], guard := some (3, false) }) rfl (fun K hK => ?_) AllReadyH.nil
            go_simp
            go_at_call 37
            (with_reducible refine (implTypeSame _ _ (meetT t1 u1) t1 _ _ _ (hv2.below (bstep bdr hb16)).rep.all (hv1.below (bstep bdr hb16)).all).mono ?_)
            rintro e w17 ⟨rfl, hb17⟩
            rw [Hq4.out]
            go_wp2_with fail
            refine hK.out _ _ ?_ (fun hHeld2 => ?_)
            · exact ⟨bcell hb17 (bcell hb16 (dcell (c0_0))), bcell hb17 (bcell hb16 (dcell (c0_1))), bcell hb17 (bcell hb16 (dcell (c2_0))), bcell hb17 (bcell hb16 (dcell (c2_1))), bcell hb17 (bcell hb16 (dcell (c1_0))), bcell hb17 (bcell hb16 (dcell (c1_1)))⟩
            clear hK K hHeld1
            (try simp only [Act.put, List.setIfInBounds_toArray, List.set_cons_zero, List.set_cons_succ])
            refine wpAnyH_take (i := 7) (oi := { dst := some 57, op := Op.pick (Operand.tmp 53) (Operand.const (Value.bool true)) (Operand.tmp 56), type := 4, pos := "laws.go:201", after := #[{ on := 3, ground := Ground.data }, { on := 6, ground := Ground.data }], guard := none }) (v := .bool true) rfl (by kernel_rfl) (by kernel_rfl) (by kernel_rfl) (fun _ _ _ h => h) (Or.inl ⟨by rfl, ?_⟩) hHeld2 ?_
            · intro w' hSw; (try dsimp only at hSw); go_simp
            (try simp only [Act.put, List.setIfInBounds_toArray, List.set_cons_zero, List.set_cons_succ])
            refine wpAnyH_take (i := 8) (oi := { dst := some 58, op := Op.move (Operand.tmp 57), type := 4, pos := "laws.go:201", after := #[{ on := 7, ground := Ground.data }, { on := 6, ground := Ground.chain }], guard := none }) (v := .bool true) rfl (by kernel_rfl) (by kernel_rfl) (by kernel_rfl) (fun _ _ _ h => h) (Or.inl ⟨by rfl, ?_⟩) hHeld2 ?_
            · intro w' hSw; (try dsimp only at hSw); go_simp
            (try simp only [Act.put, List.setIfInBounds_toArray, List.set_cons_zero, List.set_cons_succ])
            refine wpAnyH_take (i := 9) (oi := { dst := some 59, op := Op.load 29 (Operand.tmp 4), type := 29, pos := "laws.go:201", after := #[{ on := 8, ground := Ground.guard }], guard := some (8, true) }) (v := .agg #[.int .i64 kx1, .slice ax1 nx1 qx1]) rfl (by kernel_rfl) (by kernel_rfl) (by kernel_rfl) (fun _ _ _ h => h) (Or.inl ⟨by rfl, ?_⟩) hHeld2 ?_
            · intro w' hSw; (try dsimp only at hSw); go_simp
            (try simp only [Act.put, List.setIfInBounds_toArray, List.set_cons_zero, List.set_cons_succ])
            refine wpAnyH_ready (rs := [10]) (by kernel_rfl) (by simp) ?_
            refine AllReadyH.cons (o := { dst := some 60, op := Op.call { callee := Callee.value (Operand.func 42), args := #[Operand.tmp 59], argTypes := #[29] }, type := 4, pos := "laws.go:201", after := #[{ on := 9, ground := Ground.data }, { on := 8, ground := Ground.chain }, { on := 8, ground := Ground.guard }], guard := some (8, true) }) rfl (fun K hK => ?_) AllReadyH.nil
            go_simp
            go_at_call 42
            (with_reducible refine (implIsStaticB _ u1 _ _ (hx1.below (bstep (bstep bdr hb16) hb17)).all).mono ?_)
            rintro e w18 ⟨rfl, hb18⟩
            rw [Hq5.out]
            go_wp2_with fail
            refine hK.out _ _ ?_ (fun hHeld3 => ?_)
            · exact ⟨bcell hb18 (bcell hb17 (bcell hb16 (dcell (c0_0)))), bcell hb18 (bcell hb17 (bcell hb16 (dcell (c0_1)))), bcell hb18 (bcell hb17 (bcell hb16 (dcell (c2_0)))), bcell hb18 (bcell hb17 (bcell hb16 (dcell (c2_1)))), bcell hb18 (bcell hb17 (bcell hb16 (dcell (c1_0)))), bcell hb18 (bcell hb17 (bcell hb16 (dcell (c1_1))))⟩
            clear hK K hHeld2
            (try simp only [Act.put, List.setIfInBounds_toArray, List.set_cons_zero, List.set_cons_succ])
            refine wpAnyH_take (i := 11) (oi := { dst := some 61, op := Op.unOp UnOp.not 4 (Operand.tmp 60), type := 4, pos := "laws.go:201", after := #[{ on := 10, ground := Ground.data }, { on := 8, ground := Ground.guard }], guard := some (8, true) }) (v := .bool true) rfl (by kernel_rfl) (by kernel_rfl) (by kernel_rfl) (fun _ _ _ h => h) (Or.inl ⟨by rfl, ?_⟩) hHeld3 ?_
            · intro w' hSw; (try dsimp only at hSw); go_simp
            (try simp only [Act.put, List.setIfInBounds_toArray, List.set_cons_zero, List.set_cons_succ])
            refine wpAnyH_take (i := 12) (oi := { dst := some 62, op := Op.move (Operand.tmp 61), type := 4, pos := "laws.go:201", after := #[{ on := 11, ground := Ground.data }, { on := 10, ground := Ground.chain }, { on := 8, ground := Ground.guard }], guard := some (8, true) }) (v := .bool true) rfl (by kernel_rfl) (by kernel_rfl) (by kernel_rfl) (fun _ _ _ h => h) (Or.inl ⟨by rfl, ?_⟩) hHeld3 ?_
            · intro w' hSw; (try dsimp only at hSw); go_simp
            (try simp only [Act.put, List.setIfInBounds_toArray, List.set_cons_zero, List.set_cons_succ])
            refine wpAnyH_take (i := 13) (oi := { dst := some 63, op := Op.load 29 (Operand.tmp 5), type := 29, pos := "laws.go:201", after := #[{ on := 12, ground := Ground.guard }], guard := some (12, false) }) (v := undef) rfl (by kernel_rfl) (by kernel_rfl) (by kernel_rfl) (fun _ _ _ h => h) (Or.inr ⟨by rfl, rfl⟩) hHeld3 ?_
            (try simp only [Act.put, List.setIfInBounds_toArray, List.set_cons_zero, List.set_cons_succ])
            refine wpAnyH_take (i := 14) (oi := { dst := some 64, op := Op.load 29 (Operand.tmp 4), type := 29, pos := "laws.go:201", after := #[{ on := 12, ground := Ground.guard }], guard := some (12, false) }) (v := undef) rfl (by kernel_rfl) (by kernel_rfl) (by kernel_rfl) (fun _ _ _ h => h) (Or.inr ⟨by rfl, rfl⟩) hHeld3 ?_
            (try simp only [Act.put, List.setIfInBounds_toArray, List.set_cons_zero, List.set_cons_succ])
            refine wpAnyH_take (i := 15) (oi := { dst := some 65, op := Op.call { callee := Callee.value (Operand.func 37), args := #[Operand.tmp 63, Operand.tmp 64], argTypes := #[29, 29] }, type := 4, pos := "laws.go:201", after := #[{ on := 13, ground := Ground.data }, { on := 14, ground := Ground.data }, { on := 12, ground := Ground.chain }, { on := 12, ground := Ground.guard }], guard := some (12, false) }) (v := undef) rfl (by kernel_rfl) (by kernel_rfl) (by kernel_rfl) (fun _ _ _ h => h) (Or.inr ⟨by rfl, rfl⟩) hHeld3 ?_
            (try simp only [Act.put, List.setIfInBounds_toArray, List.set_cons_zero, List.set_cons_succ])
            refine wpAnyH_take (i := 16) (oi := { dst := some 66, op := Op.pick (Operand.tmp 62) (Operand.const (Value.bool true)) (Operand.tmp 65), type := 4, pos := "laws.go:201", after := #[{ on := 12, ground := Ground.data }, { on := 15, ground := Ground.data }, { on := 8, ground := Ground.guard }], guard := some (8, true) }) (v := .bool true) rfl (by kernel_rfl) (by kernel_rfl) (by kernel_rfl) (fun _ _ _ h => h) (Or.inl ⟨by rfl, ?_⟩) hHeld3 ?_
            · intro w' hSw; (try dsimp only at hSw); go_simp
            (try simp only [Act.put, List.setIfInBounds_toArray, List.set_cons_zero, List.set_cons_succ])
            refine wpAnyH_take (i := 17) (oi := { dst := some 67, op := Op.pick (Operand.tmp 58) (Operand.tmp 66) (Operand.const (Value.bool false)), type := 4, pos := "laws.go:201", after := #[{ on := 8, ground := Ground.data }, { on := 16, ground := Ground.data }], guard := none }) (v := .bool true) rfl (by kernel_rfl) (by kernel_rfl) (by kernel_rfl) (fun _ _ _ h => h) (Or.inl ⟨by rfl, ?_⟩) hHeld3 ?_
            · intro w' hSw; (try dsimp only at hSw); go_simp
            (try simp only [Act.put, List.setIfInBounds_toArray, List.set_cons_zero, List.set_cons_succ])
            refine wpAnyH_take (i := 18) (oi := { dst := some 68, op := Op.move (Operand.tmp 67), type := 4, pos := "laws.go:201", after := #[{ on := 17, ground := Ground.data }, { on := 15, ground := Ground.chain }], guard := none }) (v := .bool true) rfl (by kernel_rfl) (by kernel_rfl) (by kernel_rfl) (fun _ _ _ h => h) (Or.inl ⟨by rfl, ?_⟩) hHeld3 ?_
            · intro w' hSw; (try dsimp only at hSw); go_simp
            (try simp only [Act.put, List.setIfInBounds_toArray, List.set_cons_zero, List.set_cons_succ])
            refine wpAnyH_take (i := 19) (oi := { dst := some 69, op := Op.load 29 (Operand.tmp 5), type := 29, pos := "laws.go:201", after := #[{ on := 18, ground := Ground.guard }], guard := some (18, true) }) (v := .agg #[.int .i64 kr2, .slice ar2 nr2 qr2]) rfl (by kernel_rfl) (by kernel_rfl) (by kernel_rfl) (fun _ _ _ h => h) (Or.inl ⟨by rfl, ?_⟩) hHeld3 ?_
            · intro w' hSw; (try dsimp only at hSw); go_simp
            (try simp only [Act.put, List.setIfInBounds_toArray, List.set_cons_zero, List.set_cons_succ])
            refine wpAnyH_take (i := 21) (oi := { dst := some 71, op := Op.load 29 (Operand.tmp 3), type := 29, pos := "laws.go:201", after := #[{ on := 18, ground := Ground.guard }], guard := some (18, true) }) (v := .agg #[.int .i64 kv1, .slice av1 nv1 qv1]) rfl (by kernel_rfl) (by kernel_rfl) (by kernel_rfl) (fun _ _ _ h => h) (Or.inl ⟨by rfl, ?_⟩) hHeld3 ?_
            · intro w' hSw; (try dsimp only at hSw); go_simp
            (try simp only [Act.put, List.setIfInBounds_toArray, List.set_cons_zero, List.set_cons_succ])
            refine wpAnyH_take (i := 23) (oi := { dst := some 73, op := Op.load 29 (Operand.tmp 4), type := 29, pos := "laws.go:201", after := #[{ on := 18, ground := Ground.guard }], guard := some (18, true) }) (v := .agg #[.int .i64 kx1, .slice ax1 nx1 qx1]) rfl (by kernel_rfl) (by kernel_rfl) (by kernel_rfl) (fun _ _ _ h => h) (Or.inl ⟨by rfl, ?_⟩) hHeld3 ?_
            · intro w' hSw; (try dsimp only at hSw); go_simp
            (try simp only [Act.put, List.setIfInBounds_toArray, List.set_cons_zero, List.set_cons_succ])
            refine wpAnyH_ready (rs := [20]) (by kernel_rfl) (by simp) ?_
            refine AllReadyH.cons (o := { dst := some 70, op := Op.call { callee := Callee.value (Operand.func 49), args := #[Operand.tmp 69], argTypes := #[29] }, type := 3, pos := "laws.go:201", after := #[{ on := 19, ground := Ground.data }, { on := 18, ground := Ground.chain }, { on := 18, ground := Ground.guard }], guard := some (18, true) }) rfl (fun K hK => ?_) AllReadyH.nil
            go_simp
            go_at_call 49
            (with_reducible refine (implCountAny _ (meetT t1 u1) _ _ (hv2.below (bstep (bstep (bstep bdr hb16) hb17) hb18)).rep.all).mono ?_)
            rintro e w19 ⟨rfl, hb19⟩
            have hi19 := Ty.anyV_bd (meetT t1 u1)
            go_wp2_with fail
            refine hK.out _ _ ?_ (fun hHeld4 => ?_)
            · exact ⟨bcell hb19 (bcell hb18 (bcell hb17 (bcell hb16 (dcell (c0_0))))), bcell hb19 (bcell hb18 (bcell hb17 (bcell hb16 (dcell (c0_1))))), bcell hb19 (bcell hb18 (bcell hb17 (bcell hb16 (dcell (c2_0))))), bcell hb19 (bcell hb18 (bcell hb17 (bcell hb16 (dcell (c2_1))))), bcell hb19 (bcell hb18 (bcell hb17 (bcell hb16 (dcell (c1_0))))), bcell hb19 (bcell hb18 (bcell hb17 (bcell hb16 (dcell (c1_1)))))⟩
            clear hK K hHeld3
            (try simp only [Act.put, List.setIfInBounds_toArray, List.set_cons_zero, List.set_cons_succ])
            refine wpAnyH_ready (rs := [22]) (by kernel_rfl) (by simp) ?_
            refine AllReadyH.cons (o := { dst := some 72, op := Op.call { callee := Callee.value (Operand.func 49), args := #[Operand.tmp 71], argTypes := #[29] }, type := 3, pos := "laws.go:201", after := #[{ on := 21, ground := Ground.data }, { on := 20, ground := Ground.chain }, { on := 18, ground := Ground.guard }], guard := some (18, true) }) rfl (fun K hK => ?_) AllReadyH.nil
            go_simp
            go_at_call 49
            (with_reducible refine (implCountAny _ t1 _ _ (hv1.below (bstep (bstep (bstep (bstep bdr hb16) hb17) hb18) hb19)).all).mono ?_)
            rintro e w20 ⟨rfl, hb20⟩
            have hi20 := Ty.anyV_bd t1
            go_wp2_with fail
            refine hK.out _ _ ?_ (fun hHeld5 => ?_)
            · exact ⟨bcell hb20 (bcell hb19 (bcell hb18 (bcell hb17 (bcell hb16 (dcell (c0_0)))))), bcell hb20 (bcell hb19 (bcell hb18 (bcell hb17 (bcell hb16 (dcell (c0_1)))))), bcell hb20 (bcell hb19 (bcell hb18 (bcell hb17 (bcell hb16 (dcell (c2_0)))))), bcell hb20 (bcell hb19 (bcell hb18 (bcell hb17 (bcell hb16 (dcell (c2_1)))))), bcell hb20 (bcell hb19 (bcell hb18 (bcell hb17 (bcell hb16 (dcell (c1_0)))))), bcell hb20 (bcell hb19 (bcell hb18 (bcell hb17 (bcell hb16 (dcell (c1_1))))))⟩
            clear hK K hHeld4
            (try simp only [Act.put, List.setIfInBounds_toArray, List.set_cons_zero, List.set_cons_succ])
            refine wpAnyH_ready (rs := [24]) (by kernel_rfl) (by simp) ?_
            refine AllReadyH.cons (o := { dst := some 74, op := Op.call { callee := Callee.value (Operand.func 49), args := #[Operand.tmp 73], argTypes := #[29] }, type := 3, pos := "laws.go:201", after := #[{ on := 23, ground := Ground.data }, { on := 22, ground := Ground.chain }, { on := 18, ground := Ground.guard }], guard := some (18, true) }) rfl (fun K hK => ?_) AllReadyH.nil
            go_simp
            go_at_call 49
            (with_reducible refine (implCountAny _ u1 _ _ (hx1.below (bstep (bstep (bstep (bstep (bstep bdr hb16) hb17) hb18) hb19) hb20)).all).mono ?_)
            rintro e w21 ⟨rfl, hb21⟩
            have hi21 := Ty.anyV_bd u1
            go_wp2_with fail
            refine hK.out _ _ ?_ (fun hHeld6 => ?_)
            · exact ⟨bcell hb21 (bcell hb20 (bcell hb19 (bcell hb18 (bcell hb17 (bcell hb16 (dcell (c0_0))))))), bcell hb21 (bcell hb20 (bcell hb19 (bcell hb18 (bcell hb17 (bcell hb16 (dcell (c0_1))))))), bcell hb21 (bcell hb20 (bcell hb19 (bcell hb18 (bcell hb17 (bcell hb16 (dcell (c2_0))))))), bcell hb21 (bcell hb20 (bcell hb19 (bcell hb18 (bcell hb17 (bcell hb16 (dcell (c2_1))))))), bcell hb21 (bcell hb20 (bcell hb19 (bcell hb18 (bcell hb17 (bcell hb16 (dcell (c1_0))))))), bcell hb21 (bcell hb20 (bcell hb19 (bcell hb18 (bcell hb17 (bcell hb16 (dcell (c1_1)))))))⟩
            clear hK K hHeld5
            (try simp only [Act.put, List.setIfInBounds_toArray, List.set_cons_zero, List.set_cons_succ])
            refine wpAnyH_take (i := 25) (oi := { dst := some 75, op := Op.binOp BinOp.add 3 (Operand.tmp 72) (Operand.tmp 74) 3, type := 3, pos := "laws.go:201", after := #[{ on := 22, ground := Ground.data }, { on := 24, ground := Ground.data }, { on := 18, ground := Ground.guard }], guard := some (18, true) }) (v := .int .i64 ((Ty.anyV t1) + (Ty.anyV u1))) rfl (by kernel_rfl) (by kernel_rfl) (by kernel_rfl) (fun _ _ _ h => h) (Or.inl ⟨by rfl, ?_⟩) hHeld6 ?_
            · intro w' hSw; (try dsimp only at hSw); go_simp
            (try simp only [Act.put, List.setIfInBounds_toArray, List.set_cons_zero, List.set_cons_succ])
            refine wpAnyH_take (i := 26) (oi := { dst := some 76, op := Op.binOp BinOp.leq 3 (Operand.tmp 70) (Operand.tmp 75) 3, type := 4, pos := "laws.go:201", after := #[{ on := 20, ground := Ground.data }, { on := 25, ground := Ground.data }, { on := 18, ground := Ground.guard }], guard := some (18, true) }) (v := .bool (decide ((Ty.anyV (meetT t1 u1)) ≤ ((Ty.anyV t1) + (Ty.anyV u1))))) rfl (by kernel_rfl) (by kernel_rfl) (by kernel_rfl) (fun _ _ _ h => h) (Or.inl ⟨by rfl, ?_⟩) hHeld6 ?_
            · intro w' hSw; (try dsimp only at hSw); go_simp
            (try simp only [Act.put, List.setIfInBounds_toArray, List.set_cons_zero, List.set_cons_succ])
            refine wpAnyH_take (i := 27) (oi := { dst := some 77, op := Op.pick (Operand.tmp 68) (Operand.tmp 76) (Operand.const (Value.bool false)), type := 4, pos := "laws.go:201", after := #[{ on := 18, ground := Ground.data }, { on := 26, ground := Ground.data }], guard := none }) (v := .bool (decide ((Ty.anyV (meetT t1 u1)) ≤ ((Ty.anyV t1) + (Ty.anyV u1))))) rfl (by kernel_rfl) (by kernel_rfl) (by kernel_rfl) (fun _ _ _ h => h) (Or.inl ⟨by rfl, ?_⟩) hHeld6 ?_
            · intro w' hSw; (try dsimp only at hSw); go_simp
            (try simp only [Act.put, List.setIfInBounds_toArray, List.set_cons_zero, List.set_cons_succ])
            refine wpAnyH_take (i := 28) (oi := { dst := some 2, op := Op.assign (Operand.tmp 77), type := 4, pos := "laws.go:201", after := #[{ on := 27, ground := Ground.data }, { on := 24, ground := Ground.chain }, { on := 0, ground := Ground.phase }, { on := 1, ground := Ground.phase }, { on := 2, ground := Ground.phase }, { on := 3, ground := Ground.phase }, { on := 4, ground := Ground.phase }, { on := 5, ground := Ground.phase }, { on := 6, ground := Ground.phase }, { on := 7, ground := Ground.phase }, { on := 8, ground := Ground.phase }, { on := 9, ground := Ground.phase }, { on := 10, ground := Ground.phase }, { on := 11, ground := Ground.phase }, { on := 12, ground := Ground.phase }, { on := 13, ground := Ground.phase }, { on := 14, ground := Ground.phase }, { on := 15, ground := Ground.phase }, { on := 16, ground := Ground.phase }, { on := 17, ground := Ground.phase }, { on := 18, ground := Ground.phase }, { on := 19, ground := Ground.phase }, { on := 20, ground := Ground.phase }, { on := 21, ground := Ground.phase }, { on := 22, ground := Ground.phase }, { on := 23, ground := Ground.phase }, { on := 24, ground := Ground.phase }, { on := 25, ground := Ground.phase }, { on := 26, ground := Ground.phase }, { on := 27, ground := Ground.phase }], guard := none }) (v := .bool (decide ((Ty.anyV (meetT t1 u1)) ≤ ((Ty.anyV t1) + (Ty.anyV u1))))) rfl (by kernel_rfl) (by kernel_rfl) (by kernel_rfl) (fun _ _ _ h => h) (Or.inl ⟨by rfl, ?_⟩) hHeld6 ?_
            · intro w' hSw; (try dsimp only at hSw); go_simp
            (try simp only [Act.put, List.setIfInBounds_toArray, List.set_cons_zero, List.set_cons_succ])
            refine wpAnyH_done (by kernel_rfl) ?_ _
            refine NoPanic.normal ?_
            clear hHeld6
            replace hB := (bstep (bstep (bstep (bstep (bstep (bstep hB.drew hb16) hb17) hb18) hb19) hb20) hb21)
            have zw21 := hB.size
            go_wp2_with fail
            have hE := leaf_FnMeetStatic_2 Hq2.out Hq3.out Hq4.out Hq5.out
            refine bodyPost_ret (v := .bool (decide ((Ty.anyV (meetT t1 u1)) ≤ ((Ty.anyV t1) + (Ty.anyV u1))))) (by simp [results, Try.results32, go_sem]) rfl ?_
            exact ⟨by rw [hE], hB⟩
        · have Hq4 := Lib.hid q4
          clear q4
          go_wp2_with fail
          refine wp_region_noPanic ?_
          refine wp_region_held_drew (S := fun w' => w'.cell? ⟨w1.heap.size, 0, none⟩ = some (.int .i64 kv1) ∧ w'.cell? ⟨w1.heap.size, 1, none⟩ = some (.slice av1 nv1 qv1) ∧ w'.cell? ⟨w2.heap.size, 0, none⟩ = some (.int .i64 kr2) ∧ w'.cell? ⟨w2.heap.size, 1, none⟩ = some (.slice ar2 nr2 qr2)) (by kernel_rfl) ?_ (fun hHeld0 => ?_)
          · exact ⟨dcell (c0_0), dcell (c0_1), dcell (c2_0), dcell (c2_1)⟩
          refine wpAnyH_take (i := 0) (oi := { dst := some 50, op := Op.load 29 (Operand.tmp 3), type := 29, pos := "laws.go:201", after := #[], guard := none }) (v := .agg #[.int .i64 kv1, .slice av1 nv1 qv1]) rfl (by kernel_rfl) (by kernel_rfl) (by kernel_rfl) (fun _ _ _ h => h) (Or.inl ⟨by rfl, ?_⟩) hHeld0 ?_
          · intro w' hSw; (try dsimp only at hSw); go_simp
          (try simp only [Act.put, List.setIfInBounds_toArray, List.set_cons_zero, List.set_cons_succ])
          refine wpAnyH_ready (rs := [1]) (by kernel_rfl) (by simp) ?_
          refine AllReadyH.cons (o := { dst := some 51, op := Op.call { callee := Callee.value (Operand.func 42), args := #[Operand.tmp 50], argTypes := #[29] }, type := 4, pos := "laws.go:201", after := #[{ on := 0, ground := Ground.data }], guard := none }) rfl (fun K hK => ?_) AllReadyH.nil
          go_simp
          go_at_call 42
          (with_reducible refine (implIsStaticB _ t1 _ _ (hv1.below bdr).all).mono ?_)
          rintro e w22 ⟨rfl, hb22⟩
          rw [Hq3.out]
          go_wp2_with fail
          refine hK.out _ _ ?_ (fun hHeld1 => ?_)
          · exact ⟨bcell hb22 (dcell (c0_0)), bcell hb22 (dcell (c0_1)), bcell hb22 (dcell (c2_0)), bcell hb22 (dcell (c2_1))⟩
          clear hK K hHeld0
          (try simp only [Act.put, List.setIfInBounds_toArray, List.set_cons_zero, List.set_cons_succ])
          refine wpAnyH_take (i := 2) (oi := { dst := some 52, op := Op.unOp UnOp.not 4 (Operand.tmp 51), type := 4, pos := "laws.go:201", after := #[{ on := 1, ground := Ground.data }], guard := none }) (v := .bool false) rfl (by kernel_rfl) (by kernel_rfl) (by kernel_rfl) (fun _ _ _ h => h) (Or.inl ⟨by rfl, ?_⟩) hHeld1 ?_
          · intro w' hSw; (try dsimp only at hSw); go_simp
          (try simp only [Act.put, List.setIfInBounds_toArray, List.set_cons_zero, List.set_cons_succ])
          refine wpAnyH_take (i := 3) (oi := { dst := some 53, op := Op.move (Operand.tmp 52), type := 4, pos := "laws.go:201", after := #[{ on := 2, ground := Ground.data }, { on := 1, ground := Ground.chain }], guard := none }) (v := .bool false) rfl (by kernel_rfl) (by kernel_rfl) (by kernel_rfl) (fun _ _ _ h => h) (Or.inl ⟨by rfl, ?_⟩) hHeld1 ?_
          · intro w' hSw; (try dsimp only at hSw); go_simp
          (try simp only [Act.put, List.setIfInBounds_toArray, List.set_cons_zero, List.set_cons_succ])
          refine wpAnyH_take (i := 4) (oi := { dst := some 54, op := Op.load 29 (Operand.tmp 5), type := 29, pos := "laws.go:201", after := #[{ on := 3, ground := Ground.guard }], guard := some (3, false) }) (v := .agg #[.int .i64 kr2, .slice ar2 nr2 qr2]) rfl (by kernel_rfl) (by kernel_rfl) (by kernel_rfl) (fun _ _ _ h => h) (Or.inl ⟨by rfl, ?_⟩) hHeld1 ?_
          · intro w' hSw; (try dsimp only at hSw); go_simp
          (try simp only [Act.put, List.setIfInBounds_toArray, List.set_cons_zero, List.set_cons_succ])
          refine wpAnyH_take (i := 5) (oi := { dst := some 55, op := Op.load 29 (Operand.tmp 3), type := 29, pos := "laws.go:201", after := #[{ on := 3, ground := Ground.guard }], guard := some (3, false) }) (v := .agg #[.int .i64 kv1, .slice av1 nv1 qv1]) rfl (by kernel_rfl) (by kernel_rfl) (by kernel_rfl) (fun _ _ _ h => h) (Or.inl ⟨by rfl, ?_⟩) hHeld1 ?_
          · intro w' hSw; (try dsimp only at hSw); go_simp
          (try simp only [Act.put, List.setIfInBounds_toArray, List.set_cons_zero, List.set_cons_succ])
          refine wpAnyH_ready (rs := [6]) (by kernel_rfl) (by simp) ?_
          refine AllReadyH.cons (o := { dst := some 56, op := Op.call { callee := Callee.value (Operand.func 37), args := #[Operand.tmp 54, Operand.tmp 55], argTypes := #[29, 29] }, type := 4, pos := "laws.go:201", after := #[{ on := 4, ground := Ground.data }, { on := 5, ground := Ground.data }, { on := 3, ground := Ground.chain }, { on := 3, ground := Ground.guard }], guard := some (3, false) }) rfl (fun K hK => ?_) AllReadyH.nil
          go_simp
          go_at_call 37
          (with_reducible refine (implTypeSame _ _ (meetT t1 u1) t1 _ _ _ (hv2.below (bstep bdr hb22)).rep.all (hv1.below (bstep bdr hb22)).all).mono ?_)
          rintro e w23 ⟨rfl, hb23⟩
          rw [Hq4.out]
          go_wp2_with fail
          refine hK.out _ _ ?_ (fun hHeld2 => ?_)
          · exact ⟨bcell hb23 (bcell hb22 (dcell (c0_0))), bcell hb23 (bcell hb22 (dcell (c0_1))), bcell hb23 (bcell hb22 (dcell (c2_0))), bcell hb23 (bcell hb22 (dcell (c2_1)))⟩
          clear hK K hHeld1
          (try simp only [Act.put, List.setIfInBounds_toArray, List.set_cons_zero, List.set_cons_succ])
          refine wpAnyH_take (i := 7) (oi := { dst := some 57, op := Op.pick (Operand.tmp 53) (Operand.const (Value.bool true)) (Operand.tmp 56), type := 4, pos := "laws.go:201", after := #[{ on := 3, ground := Ground.data }, { on := 6, ground := Ground.data }], guard := none }) (v := .bool false) rfl (by kernel_rfl) (by kernel_rfl) (by kernel_rfl) (fun _ _ _ h => h) (Or.inl ⟨by rfl, ?_⟩) hHeld2 ?_
          · intro w' hSw; (try dsimp only at hSw); go_simp
          (try simp only [Act.put, List.setIfInBounds_toArray, List.set_cons_zero, List.set_cons_succ])
          refine wpAnyH_take (i := 8) (oi := { dst := some 58, op := Op.move (Operand.tmp 57), type := 4, pos := "laws.go:201", after := #[{ on := 7, ground := Ground.data }, { on := 6, ground := Ground.chain }], guard := none }) (v := .bool false) rfl (by kernel_rfl) (by kernel_rfl) (by kernel_rfl) (fun _ _ _ h => h) (Or.inl ⟨by rfl, ?_⟩) hHeld2 ?_
          · intro w' hSw; (try dsimp only at hSw); go_simp
          (try simp only [Act.put, List.setIfInBounds_toArray, List.set_cons_zero, List.set_cons_succ])
          refine wpAnyH_take (i := 9) (oi := { dst := some 59, op := Op.load 29 (Operand.tmp 4), type := 29, pos := "laws.go:201", after := #[{ on := 8, ground := Ground.guard }], guard := some (8, true) }) (v := undef) rfl (by kernel_rfl) (by kernel_rfl) (by kernel_rfl) (fun _ _ _ h => h) (Or.inr ⟨by rfl, rfl⟩) hHeld2 ?_
          (try simp only [Act.put, List.setIfInBounds_toArray, List.set_cons_zero, List.set_cons_succ])
          refine wpAnyH_take (i := 10) (oi := { dst := some 60, op := Op.call { callee := Callee.value (Operand.func 42), args := #[Operand.tmp 59], argTypes := #[29] }, type := 4, pos := "laws.go:201", after := #[{ on := 9, ground := Ground.data }, { on := 8, ground := Ground.chain }, { on := 8, ground := Ground.guard }], guard := some (8, true) }) (v := undef) rfl (by kernel_rfl) (by kernel_rfl) (by kernel_rfl) (fun _ _ _ h => h) (Or.inr ⟨by rfl, rfl⟩) hHeld2 ?_
          (try simp only [Act.put, List.setIfInBounds_toArray, List.set_cons_zero, List.set_cons_succ])
          refine wpAnyH_take (i := 11) (oi := { dst := some 61, op := Op.unOp UnOp.not 4 (Operand.tmp 60), type := 4, pos := "laws.go:201", after := #[{ on := 10, ground := Ground.data }, { on := 8, ground := Ground.guard }], guard := some (8, true) }) (v := undef) rfl (by kernel_rfl) (by kernel_rfl) (by kernel_rfl) (fun _ _ _ h => h) (Or.inr ⟨by rfl, rfl⟩) hHeld2 ?_
          (try simp only [Act.put, List.setIfInBounds_toArray, List.set_cons_zero, List.set_cons_succ])
          refine wpAnyH_take (i := 12) (oi := { dst := some 62, op := Op.move (Operand.tmp 61), type := 4, pos := "laws.go:201", after := #[{ on := 11, ground := Ground.data }, { on := 10, ground := Ground.chain }, { on := 8, ground := Ground.guard }], guard := some (8, true) }) (v := undef) rfl (by kernel_rfl) (by kernel_rfl) (by kernel_rfl) (fun _ _ _ h => h) (Or.inr ⟨by rfl, rfl⟩) hHeld2 ?_
          (try simp only [Act.put, List.setIfInBounds_toArray, List.set_cons_zero, List.set_cons_succ])
          refine wpAnyH_take (i := 13) (oi := { dst := some 63, op := Op.load 29 (Operand.tmp 5), type := 29, pos := "laws.go:201", after := #[{ on := 12, ground := Ground.guard }], guard := some (12, false) }) (v := undef) rfl (by kernel_rfl) (by kernel_rfl) (by kernel_rfl) (fun _ _ _ h => h) (Or.inr ⟨by rfl, rfl⟩) hHeld2 ?_
          (try simp only [Act.put, List.setIfInBounds_toArray, List.set_cons_zero, List.set_cons_succ])
          refine wpAnyH_take (i := 14) (oi := { dst := some 64, op := Op.load 29 (Operand.tmp 4), type := 29, pos := "laws.go:201", after := #[{ on := 12, ground := Ground.guard }], guard := some (12, false) }) (v := undef) rfl (by kernel_rfl) (by kernel_rfl) (by kernel_rfl) (fun _ _ _ h => h) (Or.inr ⟨by rfl, rfl⟩) hHeld2 ?_
          (try simp only [Act.put, List.setIfInBounds_toArray, List.set_cons_zero, List.set_cons_succ])
          refine wpAnyH_take (i := 15) (oi := { dst := some 65, op := Op.call { callee := Callee.value (Operand.func 37), args := #[Operand.tmp 63, Operand.tmp 64], argTypes := #[29, 29] }, type := 4, pos := "laws.go:201", after := #[{ on := 13, ground := Ground.data }, { on := 14, ground := Ground.data }, { on := 12, ground := Ground.chain }, { on := 12, ground := Ground.guard }], guard := some (12, false) }) (v := undef) rfl (by kernel_rfl) (by kernel_rfl) (by kernel_rfl) (fun _ _ _ h => h) (Or.inr ⟨by rfl, rfl⟩) hHeld2 ?_
          (try simp only [Act.put, List.setIfInBounds_toArray, List.set_cons_zero, List.set_cons_succ])
          refine wpAnyH_take (i := 16) (oi := { dst := some 66, op := Op.pick (Operand.tmp 62) (Operand.const (Value.bool true)) (Operand.tmp 65), type := 4, pos := "laws.go:201", after := #[{ on := 12, ground := Ground.data }, { on := 15, ground := Ground.data }, { on := 8, ground := Ground.guard }], guard := some (8, true) }) (v := undef) rfl (by kernel_rfl) (by kernel_rfl) (by kernel_rfl) (fun _ _ _ h => h) (Or.inr ⟨by rfl, rfl⟩) hHeld2 ?_
          (try simp only [Act.put, List.setIfInBounds_toArray, List.set_cons_zero, List.set_cons_succ])
          refine wpAnyH_take (i := 17) (oi := { dst := some 67, op := Op.pick (Operand.tmp 58) (Operand.tmp 66) (Operand.const (Value.bool false)), type := 4, pos := "laws.go:201", after := #[{ on := 8, ground := Ground.data }, { on := 16, ground := Ground.data }], guard := none }) (v := .bool false) rfl (by kernel_rfl) (by kernel_rfl) (by kernel_rfl) (fun _ _ _ h => h) (Or.inl ⟨by rfl, ?_⟩) hHeld2 ?_
          · intro w' hSw; (try dsimp only at hSw); go_simp
          (try simp only [Act.put, List.setIfInBounds_toArray, List.set_cons_zero, List.set_cons_succ])
          refine wpAnyH_take (i := 18) (oi := { dst := some 68, op := Op.move (Operand.tmp 67), type := 4, pos := "laws.go:201", after := #[{ on := 17, ground := Ground.data }, { on := 15, ground := Ground.chain }], guard := none }) (v := .bool false) rfl (by kernel_rfl) (by kernel_rfl) (by kernel_rfl) (fun _ _ _ h => h) (Or.inl ⟨by rfl, ?_⟩) hHeld2 ?_
          · intro w' hSw; (try dsimp only at hSw); go_simp
          (try simp only [Act.put, List.setIfInBounds_toArray, List.set_cons_zero, List.set_cons_succ])
          refine wpAnyH_take (i := 19) (oi := { dst := some 69, op := Op.load 29 (Operand.tmp 5), type := 29, pos := "laws.go:201", after := #[{ on := 18, ground := Ground.guard }], guard := some (18, true) }) (v := undef) rfl (by kernel_rfl) (by kernel_rfl) (by kernel_rfl) (fun _ _ _ h => h) (Or.inr ⟨by rfl, rfl⟩) hHeld2 ?_
          (try simp only [Act.put, List.setIfInBounds_toArray, List.set_cons_zero, List.set_cons_succ])
          refine wpAnyH_take (i := 20) (oi := { dst := some 70, op := Op.call { callee := Callee.value (Operand.func 49), args := #[Operand.tmp 69], argTypes := #[29] }, type := 3, pos := "laws.go:201", after := #[{ on := 19, ground := Ground.data }, { on := 18, ground := Ground.chain }, { on := 18, ground := Ground.guard }], guard := some (18, true) }) (v := undef) rfl (by kernel_rfl) (by kernel_rfl) (by kernel_rfl) (fun _ _ _ h => h) (Or.inr ⟨by rfl, rfl⟩) hHeld2 ?_
          (try simp only [Act.put, List.setIfInBounds_toArray, List.set_cons_zero, List.set_cons_succ])
          refine wpAnyH_take (i := 21) (oi := { dst := some 71, op := Op.load 29 (Operand.tmp 3), type := 29, pos := "laws.go:201", after := #[{ on := 18, ground := Ground.guard }], guard := some (18, true) }) (v := undef) rfl (by kernel_rfl) (by kernel_rfl) (by kernel_rfl) (fun _ _ _ h => h) (Or.inr ⟨by rfl, rfl⟩) hHeld2 ?_
          (try simp only [Act.put, List.setIfInBounds_toArray, List.set_cons_zero, List.set_cons_succ])
          refine wpAnyH_take (i := 22) (oi := { dst := some 72, op := Op.call { callee := Callee.value (Operand.func 49), args := #[Operand.tmp 71], argTypes := #[29] }, type := 3, pos := "laws.go:201", after := #[{ on := 21, ground := Ground.data }, { on := 20, ground := Ground.chain }, { on := 18, ground := Ground.guard }], guard := some (18, true) }) (v := undef) rfl (by kernel_rfl) (by kernel_rfl) (by kernel_rfl) (fun _ _ _ h => h) (Or.inr ⟨by rfl, rfl⟩) hHeld2 ?_
          (try simp only [Act.put, List.setIfInBounds_toArray, List.set_cons_zero, List.set_cons_succ])
          refine wpAnyH_take (i := 23) (oi := { dst := some 73, op := Op.load 29 (Operand.tmp 4), type := 29, pos := "laws.go:201", after := #[{ on := 18, ground := Ground.guard }], guard := some (18, true) }) (v := undef) rfl (by kernel_rfl) (by kernel_rfl) (by kernel_rfl) (fun _ _ _ h => h) (Or.inr ⟨by rfl, rfl⟩) hHeld2 ?_
          (try simp only [Act.put, List.setIfInBounds_toArray, List.set_cons_zero, List.set_cons_succ])
          refine wpAnyH_take (i := 24) (oi := { dst := some 74, op := Op.call { callee := Callee.value (Operand.func 49), args := #[Operand.tmp 73], argTypes := #[29] }, type := 3, pos := "laws.go:201", after := #[{ on := 23, ground := Ground.data }, { on := 22, ground := Ground.chain }, { on := 18, ground := Ground.guard }], guard := some (18, true) }) (v := undef) rfl (by kernel_rfl) (by kernel_rfl) (by kernel_rfl) (fun _ _ _ h => h) (Or.inr ⟨by rfl, rfl⟩) hHeld2 ?_
          (try simp only [Act.put, List.setIfInBounds_toArray, List.set_cons_zero, List.set_cons_succ])
          refine wpAnyH_take (i := 25) (oi := { dst := some 75, op := Op.binOp BinOp.add 3 (Operand.tmp 72) (Operand.tmp 74) 3, type := 3, pos := "laws.go:201", after := #[{ on := 22, ground := Ground.data }, { on := 24, ground := Ground.data }, { on := 18, ground := Ground.guard }], guard := some (18, true) }) (v := undef) rfl (by kernel_rfl) (by kernel_rfl) (by kernel_rfl) (fun _ _ _ h => h) (Or.inr ⟨by rfl, rfl⟩) hHeld2 ?_
          (try simp only [Act.put, List.setIfInBounds_toArray, List.set_cons_zero, List.set_cons_succ])
          refine wpAnyH_take (i := 26) (oi := { dst := some 76, op := Op.binOp BinOp.leq 3 (Operand.tmp 70) (Operand.tmp 75) 3, type := 4, pos := "laws.go:201", after := #[{ on := 20, ground := Ground.data }, { on := 25, ground := Ground.data }, { on := 18, ground := Ground.guard }], guard := some (18, true) }) (v := undef) rfl (by kernel_rfl) (by kernel_rfl) (by kernel_rfl) (fun _ _ _ h => h) (Or.inr ⟨by rfl, rfl⟩) hHeld2 ?_
          (try simp only [Act.put, List.setIfInBounds_toArray, List.set_cons_zero, List.set_cons_succ])
          refine wpAnyH_take (i := 27) (oi := { dst := some 77, op := Op.pick (Operand.tmp 68) (Operand.tmp 76) (Operand.const (Value.bool false)), type := 4, pos := "laws.go:201", after := #[{ on := 18, ground := Ground.data }, { on := 26, ground := Ground.data }], guard := none }) (v := .bool false) rfl (by kernel_rfl) (by kernel_rfl) (by kernel_rfl) (fun _ _ _ h => h) (Or.inl ⟨by rfl, ?_⟩) hHeld2 ?_
          · intro w' hSw; (try dsimp only at hSw); go_simp
          (try simp only [Act.put, List.setIfInBounds_toArray, List.set_cons_zero, List.set_cons_succ])
          refine wpAnyH_take (i := 28) (oi := { dst := some 2, op := Op.assign (Operand.tmp 77), type := 4, pos := "laws.go:201", after := #[{ on := 27, ground := Ground.data }, { on := 24, ground := Ground.chain }, { on := 0, ground := Ground.phase }, { on := 1, ground := Ground.phase }, { on := 2, ground := Ground.phase }, { on := 3, ground := Ground.phase }, { on := 4, ground := Ground.phase }, { on := 5, ground := Ground.phase }, { on := 6, ground := Ground.phase }, { on := 7, ground := Ground.phase }, { on := 8, ground := Ground.phase }, { on := 9, ground := Ground.phase }, { on := 10, ground := Ground.phase }, { on := 11, ground := Ground.phase }, { on := 12, ground := Ground.phase }, { on := 13, ground := Ground.phase }, { on := 14, ground := Ground.phase }, { on := 15, ground := Ground.phase }, { on := 16, ground := Ground.phase }, { on := 17, ground := Ground.phase }, { on := 18, ground := Ground.phase }, { on := 19, ground := Ground.phase }, { on := 20, ground := Ground.phase }, { on := 21, ground := Ground.phase }, { on := 22, ground := Ground.phase }, { on := 23, ground := Ground.phase }, { on := 24, ground := Ground.phase }, { on := 25, ground := Ground.phase }, { on := 26, ground := Ground.phase }, { on := 27, ground := Ground.phase }], guard := none }) (v := .bool false) rfl (by kernel_rfl) (by kernel_rfl) (by kernel_rfl) (fun _ _ _ h => h) (Or.inl ⟨by rfl, ?_⟩) hHeld2 ?_
          · intro w' hSw; (try dsimp only at hSw); go_simp
          (try simp only [Act.put, List.setIfInBounds_toArray, List.set_cons_zero, List.set_cons_succ])
          refine wpAnyH_done (by kernel_rfl) ?_ _
          refine NoPanic.normal ?_
          clear hHeld2
          replace hB := (bstep (bstep hB.drew hb22) hb23)
          have zw23 := hB.size
          go_wp2_with fail
          exact (leaf_FnMeetStatic_3 Hq2.out Hq3.out Hq4.out).elim
      · have Hq3 := Lib.hid q3
        clear q3
        rcases Bool.eq_false_or_eq_true (staticB u1) with q7 | q7
        · have Hq7 := Lib.hid q7
          clear q7
          rcases Bool.eq_false_or_eq_true (Ty.same (meetT t1 u1) u1) with q8 | q8
          · have Hq8 := Lib.hid q8
            clear q8
            go_wp2_with fail
            have hwr := IntWalk.i64_in ((Ty.anyV t1) + (Ty.anyV u1)) (by have := Ty.anyV_bd t1; have := Ty.anyV_bd u1; omega)
            refine wp_region_noPanic ?_
            refine wp_region_held_drew (S := fun w' => w'.cell? ⟨w1.heap.size, 0, none⟩ = some (.int .i64 kv1) ∧ w'.cell? ⟨w1.heap.size, 1, none⟩ = some (.slice av1 nv1 qv1) ∧ w'.cell? ⟨w1.heap.size + 1, 0, none⟩ = some (.int .i64 kx1) ∧ w'.cell? ⟨w1.heap.size + 1, 1, none⟩ = some (.slice ax1 nx1 qx1) ∧ w'.cell? ⟨w2.heap.size, 0, none⟩ = some (.int .i64 kr2) ∧ w'.cell? ⟨w2.heap.size, 1, none⟩ = some (.slice ar2 nr2 qr2)) (by kernel_rfl) ?_ (fun hHeld0 => ?_)
            · exact ⟨dcell (c0_0), dcell (c0_1), dcell (c1_0), dcell (c1_1), dcell (c2_0), dcell (c2_1)⟩
            refine wpAnyH_take (i := 0) (oi := { dst := some 50, op := Op.load 29 (Operand.tmp 3), type := 29, pos := "laws.go:201", after := #[], guard := none }) (v := .agg #[.int .i64 kv1, .slice av1 nv1 qv1]) rfl (by kernel_rfl) (by kernel_rfl) (by kernel_rfl) (fun _ _ _ h => h) (Or.inl ⟨by rfl, ?_⟩) hHeld0 ?_
            · intro w' hSw; (try dsimp only at hSw); go_simp
            (try simp only [Act.put, List.setIfInBounds_toArray, List.set_cons_zero, List.set_cons_succ])
            refine wpAnyH_ready (rs := [1]) (by kernel_rfl) (by simp) ?_
            refine AllReadyH.cons (o := { dst := some 51, op := Op.call { callee := Callee.value (Operand.func 42), args := #[Operand.tmp 50], argTypes := #[29] }, type := 4, pos := "laws.go:201", after := #[{ on := 0, ground := Ground.data }], guard := none }) rfl (fun K hK => ?_) AllReadyH.nil
            go_simp
            go_at_call 42
            (with_reducible refine (implIsStaticB _ t1 _ _ (hv1.below bdr).all).mono ?_)
            rintro e w24 ⟨rfl, hb24⟩
            rw [Hq3.out]
            go_wp2_with fail
            refine hK.out _ _ ?_ (fun hHeld1 => ?_)
            · exact ⟨bcell hb24 (dcell (c0_0)), bcell hb24 (dcell (c0_1)), bcell hb24 (dcell (c1_0)), bcell hb24 (dcell (c1_1)), bcell hb24 (dcell (c2_0)), bcell hb24 (dcell (c2_1))⟩
            clear hK K hHeld0
            (try simp only [Act.put, List.setIfInBounds_toArray, List.set_cons_zero, List.set_cons_succ])
            refine wpAnyH_take (i := 2) (oi := { dst := some 52, op := Op.unOp UnOp.not 4 (Operand.tmp 51), type := 4, pos := "laws.go:201", after := #[{ on := 1, ground := Ground.data }], guard := none }) (v := .bool true) rfl (by kernel_rfl) (by kernel_rfl) (by kernel_rfl) (fun _ _ _ h => h) (Or.inl ⟨by rfl, ?_⟩) hHeld1 ?_
            · intro w' hSw; (try dsimp only at hSw); go_simp
            (try simp only [Act.put, List.setIfInBounds_toArray, List.set_cons_zero, List.set_cons_succ])
            refine wpAnyH_take (i := 3) (oi := { dst := some 53, op := Op.move (Operand.tmp 52), type := 4, pos := "laws.go:201", after := #[{ on := 2, ground := Ground.data }, { on := 1, ground := Ground.chain }], guard := none }) (v := .bool true) rfl (by kernel_rfl) (by kernel_rfl) (by kernel_rfl) (fun _ _ _ h => h) (Or.inl ⟨by rfl, ?_⟩) hHeld1 ?_
            · intro w' hSw; (try dsimp only at hSw); go_simp
            (try simp only [Act.put, List.setIfInBounds_toArray, List.set_cons_zero, List.set_cons_succ])
            refine wpAnyH_take (i := 4) (oi := { dst := some 54, op := Op.load 29 (Operand.tmp 5), type := 29, pos := "laws.go:201", after := #[{ on := 3, ground := Ground.guard }], guard := some (3, false) }) (v := undef) rfl (by kernel_rfl) (by kernel_rfl) (by kernel_rfl) (fun _ _ _ h => h) (Or.inr ⟨by rfl, rfl⟩) hHeld1 ?_
            (try simp only [Act.put, List.setIfInBounds_toArray, List.set_cons_zero, List.set_cons_succ])
            refine wpAnyH_take (i := 5) (oi := { dst := some 55, op := Op.load 29 (Operand.tmp 3), type := 29, pos := "laws.go:201", after := #[{ on := 3, ground := Ground.guard }], guard := some (3, false) }) (v := undef) rfl (by kernel_rfl) (by kernel_rfl) (by kernel_rfl) (fun _ _ _ h => h) (Or.inr ⟨by rfl, rfl⟩) hHeld1 ?_
            (try simp only [Act.put, List.setIfInBounds_toArray, List.set_cons_zero, List.set_cons_succ])
            refine wpAnyH_take (i := 6) (oi := { dst := some 56, op := Op.call { callee := Callee.value (Operand.func 37), args := #[Operand.tmp 54, Operand.tmp 55], argTypes := #[29, 29] }, type := 4, pos := "laws.go:201", after := #[{ on := 4, ground := Ground.data }, { on := 5, ground := Ground.data }, { on := 3, ground := Ground.chain }, { on := 3, ground := Ground.guard }], guard := some (3, false) }) (v := undef) rfl (by kernel_rfl) (by kernel_rfl) (by kernel_rfl) (fun _ _ _ h => h) (Or.inr ⟨by rfl, rfl⟩) hHeld1 ?_
            (try simp only [Act.put, List.setIfInBounds_toArray, List.set_cons_zero, List.set_cons_succ])
            refine wpAnyH_take (i := 7) (oi := { dst := some 57, op := Op.pick (Operand.tmp 53) (Operand.const (Value.bool true)) (Operand.tmp 56), type := 4, pos := "laws.go:201", after := #[{ on := 3, ground := Ground.data }, { on := 6, ground := Ground.data }], guard := none }) (v := .bool true) rfl (by kernel_rfl) (by kernel_rfl) (by kernel_rfl) (fun _ _ _ h => h) (Or.inl ⟨by rfl, ?_⟩) hHeld1 ?_
            · intro w' hSw; (try dsimp only at hSw); go_simp
            (try simp only [Act.put, List.setIfInBounds_toArray, List.set_cons_zero, List.set_cons_succ])
            refine wpAnyH_take (i := 8) (oi := { dst := some 58, op := Op.move (Operand.tmp 57), type := 4, pos := "laws.go:201", after := #[{ on := 7, ground := Ground.data }, { on := 6, ground := Ground.chain }], guard := none }) (v := .bool true) rfl (by kernel_rfl) (by kernel_rfl) (by kernel_rfl) (fun _ _ _ h => h) (Or.inl ⟨by rfl, ?_⟩) hHeld1 ?_
            · intro w' hSw; (try dsimp only at hSw); go_simp
            (try simp only [Act.put, List.setIfInBounds_toArray, List.set_cons_zero, List.set_cons_succ])
            refine wpAnyH_take (i := 9) (oi := { dst := some 59, op := Op.load 29 (Operand.tmp 4), type := 29, pos := "laws.go:201", after := #[{ on := 8, ground := Ground.guard }], guard := some (8, true) }) (v := .agg #[.int .i64 kx1, .slice ax1 nx1 qx1]) rfl (by kernel_rfl) (by kernel_rfl) (by kernel_rfl) (fun _ _ _ h => h) (Or.inl ⟨by rfl, ?_⟩) hHeld1 ?_
            · intro w' hSw; (try dsimp only at hSw); go_simp
            (try simp only [Act.put, List.setIfInBounds_toArray, List.set_cons_zero, List.set_cons_succ])
            refine wpAnyH_ready (rs := [10]) (by kernel_rfl) (by simp) ?_
            refine AllReadyH.cons (o := { dst := some 60, op := Op.call { callee := Callee.value (Operand.func 42), args := #[Operand.tmp 59], argTypes := #[29] }, type := 4, pos := "laws.go:201", after := #[{ on := 9, ground := Ground.data }, { on := 8, ground := Ground.chain }, { on := 8, ground := Ground.guard }], guard := some (8, true) }) rfl (fun K hK => ?_) AllReadyH.nil
            go_simp
            go_at_call 42
            (with_reducible refine (implIsStaticB _ u1 _ _ (hx1.below (bstep bdr hb24)).all).mono ?_)
            rintro e w25 ⟨rfl, hb25⟩
            rw [Hq7.out]
            go_wp2_with fail
            refine hK.out _ _ ?_ (fun hHeld2 => ?_)
            · exact ⟨bcell hb25 (bcell hb24 (dcell (c0_0))), bcell hb25 (bcell hb24 (dcell (c0_1))), bcell hb25 (bcell hb24 (dcell (c1_0))), bcell hb25 (bcell hb24 (dcell (c1_1))), bcell hb25 (bcell hb24 (dcell (c2_0))), bcell hb25 (bcell hb24 (dcell (c2_1)))⟩
            clear hK K hHeld1
            (try simp only [Act.put, List.setIfInBounds_toArray, List.set_cons_zero, List.set_cons_succ])
            refine wpAnyH_take (i := 11) (oi := { dst := some 61, op := Op.unOp UnOp.not 4 (Operand.tmp 60), type := 4, pos := "laws.go:201", after := #[{ on := 10, ground := Ground.data }, { on := 8, ground := Ground.guard }], guard := some (8, true) }) (v := .bool false) rfl (by kernel_rfl) (by kernel_rfl) (by kernel_rfl) (fun _ _ _ h => h) (Or.inl ⟨by rfl, ?_⟩) hHeld2 ?_
            · intro w' hSw; (try dsimp only at hSw); go_simp
            (try simp only [Act.put, List.setIfInBounds_toArray, List.set_cons_zero, List.set_cons_succ])
            refine wpAnyH_take (i := 12) (oi := { dst := some 62, op := Op.move (Operand.tmp 61), type := 4, pos := "laws.go:201", after := #[{ on := 11, ground := Ground.data }, { on := 10, ground := Ground.chain }, { on := 8, ground := Ground.guard }], guard := some (8, true) }) (v := .bool false) rfl (by kernel_rfl) (by kernel_rfl) (by kernel_rfl) (fun _ _ _ h => h) (Or.inl ⟨by rfl, ?_⟩) hHeld2 ?_
            · intro w' hSw; (try dsimp only at hSw); go_simp
            (try simp only [Act.put, List.setIfInBounds_toArray, List.set_cons_zero, List.set_cons_succ])
            refine wpAnyH_take (i := 13) (oi := { dst := some 63, op := Op.load 29 (Operand.tmp 5), type := 29, pos := "laws.go:201", after := #[{ on := 12, ground := Ground.guard }], guard := some (12, false) }) (v := .agg #[.int .i64 kr2, .slice ar2 nr2 qr2]) rfl (by kernel_rfl) (by kernel_rfl) (by kernel_rfl) (fun _ _ _ h => h) (Or.inl ⟨by rfl, ?_⟩) hHeld2 ?_
            · intro w' hSw; (try dsimp only at hSw); go_simp
            (try simp only [Act.put, List.setIfInBounds_toArray, List.set_cons_zero, List.set_cons_succ])
            refine wpAnyH_take (i := 14) (oi := { dst := some 64, op := Op.load 29 (Operand.tmp 4), type := 29, pos := "laws.go:201", after := #[{ on := 12, ground := Ground.guard }], guard := some (12, false) }) (v := .agg #[.int .i64 kx1, .slice ax1 nx1 qx1]) rfl (by kernel_rfl) (by kernel_rfl) (by kernel_rfl) (fun _ _ _ h => h) (Or.inl ⟨by rfl, ?_⟩) hHeld2 ?_
            · intro w' hSw; (try dsimp only at hSw); go_simp
            (try simp only [Act.put, List.setIfInBounds_toArray, List.set_cons_zero, List.set_cons_succ])
            refine wpAnyH_ready (rs := [15]) (by kernel_rfl) (by simp) ?_
            refine AllReadyH.cons (o := { dst := some 65, op := Op.call { callee := Callee.value (Operand.func 37), args := #[Operand.tmp 63, Operand.tmp 64], argTypes := #[29, 29] }, type := 4, pos := "laws.go:201", after := #[{ on := 13, ground := Ground.data }, { on := 14, ground := Ground.data }, { on := 12, ground := Ground.chain }, { on := 12, ground := Ground.guard }], guard := some (12, false) }) rfl (fun K hK => ?_) AllReadyH.nil
            go_simp
            go_at_call 37
            (with_reducible refine (implTypeSame _ _ (meetT t1 u1) u1 _ _ _ (hv2.below (bstep (bstep bdr hb24) hb25)).rep.all (hx1.below (bstep (bstep bdr hb24) hb25)).all).mono ?_)
            rintro e w26 ⟨rfl, hb26⟩
            rw [Hq8.out]
            go_wp2_with fail
            refine hK.out _ _ ?_ (fun hHeld3 => ?_)
            · exact ⟨bcell hb26 (bcell hb25 (bcell hb24 (dcell (c0_0)))), bcell hb26 (bcell hb25 (bcell hb24 (dcell (c0_1)))), bcell hb26 (bcell hb25 (bcell hb24 (dcell (c1_0)))), bcell hb26 (bcell hb25 (bcell hb24 (dcell (c1_1)))), bcell hb26 (bcell hb25 (bcell hb24 (dcell (c2_0)))), bcell hb26 (bcell hb25 (bcell hb24 (dcell (c2_1))))⟩
            clear hK K hHeld2
            (try simp only [Act.put, List.setIfInBounds_toArray, List.set_cons_zero, List.set_cons_succ])
            refine wpAnyH_take (i := 16) (oi := { dst := some 66, op := Op.pick (Operand.tmp 62) (Operand.const (Value.bool true)) (Operand.tmp 65), type := 4, pos := "laws.go:201", after := #[{ on := 12, ground := Ground.data }, { on := 15, ground := Ground.data }, { on := 8, ground := Ground.guard }], guard := some (8, true) }) (v := .bool true) rfl (by kernel_rfl) (by kernel_rfl) (by kernel_rfl) (fun _ _ _ h => h) (Or.inl ⟨by rfl, ?_⟩) hHeld3 ?_
            · intro w' hSw; (try dsimp only at hSw); go_simp
            (try simp only [Act.put, List.setIfInBounds_toArray, List.set_cons_zero, List.set_cons_succ])
            refine wpAnyH_take (i := 17) (oi := { dst := some 67, op := Op.pick (Operand.tmp 58) (Operand.tmp 66) (Operand.const (Value.bool false)), type := 4, pos := "laws.go:201", after := #[{ on := 8, ground := Ground.data }, { on := 16, ground := Ground.data }], guard := none }) (v := .bool true) rfl (by kernel_rfl) (by kernel_rfl) (by kernel_rfl) (fun _ _ _ h => h) (Or.inl ⟨by rfl, ?_⟩) hHeld3 ?_
            · intro w' hSw; (try dsimp only at hSw); go_simp
            (try simp only [Act.put, List.setIfInBounds_toArray, List.set_cons_zero, List.set_cons_succ])
            refine wpAnyH_take (i := 18) (oi := { dst := some 68, op := Op.move (Operand.tmp 67), type := 4, pos := "laws.go:201", after := #[{ on := 17, ground := Ground.data }, { on := 15, ground := Ground.chain }], guard := none }) (v := .bool true) rfl (by kernel_rfl) (by kernel_rfl) (by kernel_rfl) (fun _ _ _ h => h) (Or.inl ⟨by rfl, ?_⟩) hHeld3 ?_
            · intro w' hSw; (try dsimp only at hSw); go_simp
            (try simp only [Act.put, List.setIfInBounds_toArray, List.set_cons_zero, List.set_cons_succ])
            refine wpAnyH_take (i := 19) (oi := { dst := some 69, op := Op.load 29 (Operand.tmp 5), type := 29, pos := "laws.go:201", after := #[{ on := 18, ground := Ground.guard }], guard := some (18, true) }) (v := .agg #[.int .i64 kr2, .slice ar2 nr2 qr2]) rfl (by kernel_rfl) (by kernel_rfl) (by kernel_rfl) (fun _ _ _ h => h) (Or.inl ⟨by rfl, ?_⟩) hHeld3 ?_
            · intro w' hSw; (try dsimp only at hSw); go_simp
            (try simp only [Act.put, List.setIfInBounds_toArray, List.set_cons_zero, List.set_cons_succ])
            refine wpAnyH_take (i := 21) (oi := { dst := some 71, op := Op.load 29 (Operand.tmp 3), type := 29, pos := "laws.go:201", after := #[{ on := 18, ground := Ground.guard }], guard := some (18, true) }) (v := .agg #[.int .i64 kv1, .slice av1 nv1 qv1]) rfl (by kernel_rfl) (by kernel_rfl) (by kernel_rfl) (fun _ _ _ h => h) (Or.inl ⟨by rfl, ?_⟩) hHeld3 ?_
            · intro w' hSw; (try dsimp only at hSw); go_simp
            (try simp only [Act.put, List.setIfInBounds_toArray, List.set_cons_zero, List.set_cons_succ])
            refine wpAnyH_take (i := 23) (oi := { dst := some 73, op := Op.load 29 (Operand.tmp 4), type := 29, pos := "laws.go:201", after := #[{ on := 18, ground := Ground.guard }], guard := some (18, true) }) (v := .agg #[.int .i64 kx1, .slice ax1 nx1 qx1]) rfl (by kernel_rfl) (by kernel_rfl) (by kernel_rfl) (fun _ _ _ h => h) (Or.inl ⟨by rfl, ?_⟩) hHeld3 ?_
            · intro w' hSw; (try dsimp only at hSw); go_simp
            (try simp only [Act.put, List.setIfInBounds_toArray, List.set_cons_zero, List.set_cons_succ])
            refine wpAnyH_ready (rs := [20]) (by kernel_rfl) (by simp) ?_
            refine AllReadyH.cons (o := { dst := some 70, op := Op.call { callee := Callee.value (Operand.func 49), args := #[Operand.tmp 69], argTypes := #[29] }, type := 3, pos := "laws.go:201", after := #[{ on := 19, ground := Ground.data }, { on := 18, ground := Ground.chain }, { on := 18, ground := Ground.guard }], guard := some (18, true) }) rfl (fun K hK => ?_) AllReadyH.nil
            go_simp
            go_at_call 49
            (with_reducible refine (implCountAny _ (meetT t1 u1) _ _ (hv2.below (bstep (bstep (bstep bdr hb24) hb25) hb26)).rep.all).mono ?_)
            rintro e w27 ⟨rfl, hb27⟩
            have hi27 := Ty.anyV_bd (meetT t1 u1)
            go_wp2_with fail
            refine hK.out _ _ ?_ (fun hHeld4 => ?_)
            · exact ⟨bcell hb27 (bcell hb26 (bcell hb25 (bcell hb24 (dcell (c0_0))))), bcell hb27 (bcell hb26 (bcell hb25 (bcell hb24 (dcell (c0_1))))), bcell hb27 (bcell hb26 (bcell hb25 (bcell hb24 (dcell (c1_0))))), bcell hb27 (bcell hb26 (bcell hb25 (bcell hb24 (dcell (c1_1))))), bcell hb27 (bcell hb26 (bcell hb25 (bcell hb24 (dcell (c2_0))))), bcell hb27 (bcell hb26 (bcell hb25 (bcell hb24 (dcell (c2_1)))))⟩
            clear hK K hHeld3
            (try simp only [Act.put, List.setIfInBounds_toArray, List.set_cons_zero, List.set_cons_succ])
            refine wpAnyH_ready (rs := [22]) (by kernel_rfl) (by simp) ?_
            refine AllReadyH.cons (o := { dst := some 72, op := Op.call { callee := Callee.value (Operand.func 49), args := #[Operand.tmp 71], argTypes := #[29] }, type := 3, pos := "laws.go:201", after := #[{ on := 21, ground := Ground.data }, { on := 20, ground := Ground.chain }, { on := 18, ground := Ground.guard }], guard := some (18, true) }) rfl (fun K hK => ?_) AllReadyH.nil
            go_simp
            go_at_call 49
            (with_reducible refine (implCountAny _ t1 _ _ (hv1.below (bstep (bstep (bstep (bstep bdr hb24) hb25) hb26) hb27)).all).mono ?_)
            rintro e w28 ⟨rfl, hb28⟩
            have hi28 := Ty.anyV_bd t1
            go_wp2_with fail
            refine hK.out _ _ ?_ (fun hHeld5 => ?_)
            · exact ⟨bcell hb28 (bcell hb27 (bcell hb26 (bcell hb25 (bcell hb24 (dcell (c0_0)))))), bcell hb28 (bcell hb27 (bcell hb26 (bcell hb25 (bcell hb24 (dcell (c0_1)))))), bcell hb28 (bcell hb27 (bcell hb26 (bcell hb25 (bcell hb24 (dcell (c1_0)))))), bcell hb28 (bcell hb27 (bcell hb26 (bcell hb25 (bcell hb24 (dcell (c1_1)))))), bcell hb28 (bcell hb27 (bcell hb26 (bcell hb25 (bcell hb24 (dcell (c2_0)))))), bcell hb28 (bcell hb27 (bcell hb26 (bcell hb25 (bcell hb24 (dcell (c2_1))))))⟩
            clear hK K hHeld4
            (try simp only [Act.put, List.setIfInBounds_toArray, List.set_cons_zero, List.set_cons_succ])
            refine wpAnyH_ready (rs := [24]) (by kernel_rfl) (by simp) ?_
            refine AllReadyH.cons (o := { dst := some 74, op := Op.call { callee := Callee.value (Operand.func 49), args := #[Operand.tmp 73], argTypes := #[29] }, type := 3, pos := "laws.go:201", after := #[{ on := 23, ground := Ground.data }, { on := 22, ground := Ground.chain }, { on := 18, ground := Ground.guard }], guard := some (18, true) }) rfl (fun K hK => ?_) AllReadyH.nil
            go_simp
            go_at_call 49
            (with_reducible refine (implCountAny _ u1 _ _ (hx1.below (bstep (bstep (bstep (bstep (bstep bdr hb24) hb25) hb26) hb27) hb28)).all).mono ?_)
            rintro e w29 ⟨rfl, hb29⟩
            have hi29 := Ty.anyV_bd u1
            go_wp2_with fail
            refine hK.out _ _ ?_ (fun hHeld6 => ?_)
            · exact ⟨bcell hb29 (bcell hb28 (bcell hb27 (bcell hb26 (bcell hb25 (bcell hb24 (dcell (c0_0))))))), bcell hb29 (bcell hb28 (bcell hb27 (bcell hb26 (bcell hb25 (bcell hb24 (dcell (c0_1))))))), bcell hb29 (bcell hb28 (bcell hb27 (bcell hb26 (bcell hb25 (bcell hb24 (dcell (c1_0))))))), bcell hb29 (bcell hb28 (bcell hb27 (bcell hb26 (bcell hb25 (bcell hb24 (dcell (c1_1))))))), bcell hb29 (bcell hb28 (bcell hb27 (bcell hb26 (bcell hb25 (bcell hb24 (dcell (c2_0))))))), bcell hb29 (bcell hb28 (bcell hb27 (bcell hb26 (bcell hb25 (bcell hb24 (dcell (c2_1)))))))⟩
            clear hK K hHeld5
            (try simp only [Act.put, List.setIfInBounds_toArray, List.set_cons_zero, List.set_cons_succ])
            refine wpAnyH_take (i := 25) (oi := { dst := some 75, op := Op.binOp BinOp.add 3 (Operand.tmp 72) (Operand.tmp 74) 3, type := 3, pos := "laws.go:201", after := #[{ on := 22, ground := Ground.data }, { on := 24, ground := Ground.data }, { on := 18, ground := Ground.guard }], guard := some (18, true) }) (v := .int .i64 ((Ty.anyV t1) + (Ty.anyV u1))) rfl (by kernel_rfl) (by kernel_rfl) (by kernel_rfl) (fun _ _ _ h => h) (Or.inl ⟨by rfl, ?_⟩) hHeld6 ?_
            · intro w' hSw; (try dsimp only at hSw); go_simp
            (try simp only [Act.put, List.setIfInBounds_toArray, List.set_cons_zero, List.set_cons_succ])
            refine wpAnyH_take (i := 26) (oi := { dst := some 76, op := Op.binOp BinOp.leq 3 (Operand.tmp 70) (Operand.tmp 75) 3, type := 4, pos := "laws.go:201", after := #[{ on := 20, ground := Ground.data }, { on := 25, ground := Ground.data }, { on := 18, ground := Ground.guard }], guard := some (18, true) }) (v := .bool (decide ((Ty.anyV (meetT t1 u1)) ≤ ((Ty.anyV t1) + (Ty.anyV u1))))) rfl (by kernel_rfl) (by kernel_rfl) (by kernel_rfl) (fun _ _ _ h => h) (Or.inl ⟨by rfl, ?_⟩) hHeld6 ?_
            · intro w' hSw; (try dsimp only at hSw); go_simp
            (try simp only [Act.put, List.setIfInBounds_toArray, List.set_cons_zero, List.set_cons_succ])
            refine wpAnyH_take (i := 27) (oi := { dst := some 77, op := Op.pick (Operand.tmp 68) (Operand.tmp 76) (Operand.const (Value.bool false)), type := 4, pos := "laws.go:201", after := #[{ on := 18, ground := Ground.data }, { on := 26, ground := Ground.data }], guard := none }) (v := .bool (decide ((Ty.anyV (meetT t1 u1)) ≤ ((Ty.anyV t1) + (Ty.anyV u1))))) rfl (by kernel_rfl) (by kernel_rfl) (by kernel_rfl) (fun _ _ _ h => h) (Or.inl ⟨by rfl, ?_⟩) hHeld6 ?_
            · intro w' hSw; (try dsimp only at hSw); go_simp
            (try simp only [Act.put, List.setIfInBounds_toArray, List.set_cons_zero, List.set_cons_succ])
            refine wpAnyH_take (i := 28) (oi := { dst := some 2, op := Op.assign (Operand.tmp 77), type := 4, pos := "laws.go:201", after := #[{ on := 27, ground := Ground.data }, { on := 24, ground := Ground.chain }, { on := 0, ground := Ground.phase }, { on := 1, ground := Ground.phase }, { on := 2, ground := Ground.phase }, { on := 3, ground := Ground.phase }, { on := 4, ground := Ground.phase }, { on := 5, ground := Ground.phase }, { on := 6, ground := Ground.phase }, { on := 7, ground := Ground.phase }, { on := 8, ground := Ground.phase }, { on := 9, ground := Ground.phase }, { on := 10, ground := Ground.phase }, { on := 11, ground := Ground.phase }, { on := 12, ground := Ground.phase }, { on := 13, ground := Ground.phase }, { on := 14, ground := Ground.phase }, { on := 15, ground := Ground.phase }, { on := 16, ground := Ground.phase }, { on := 17, ground := Ground.phase }, { on := 18, ground := Ground.phase }, { on := 19, ground := Ground.phase }, { on := 20, ground := Ground.phase }, { on := 21, ground := Ground.phase }, { on := 22, ground := Ground.phase }, { on := 23, ground := Ground.phase }, { on := 24, ground := Ground.phase }, { on := 25, ground := Ground.phase }, { on := 26, ground := Ground.phase }, { on := 27, ground := Ground.phase }], guard := none }) (v := .bool (decide ((Ty.anyV (meetT t1 u1)) ≤ ((Ty.anyV t1) + (Ty.anyV u1))))) rfl (by kernel_rfl) (by kernel_rfl) (by kernel_rfl) (fun _ _ _ h => h) (Or.inl ⟨by rfl, ?_⟩) hHeld6 ?_
            · intro w' hSw; (try dsimp only at hSw); go_simp
            (try simp only [Act.put, List.setIfInBounds_toArray, List.set_cons_zero, List.set_cons_succ])
            refine wpAnyH_done (by kernel_rfl) ?_ _
            refine NoPanic.normal ?_
            clear hHeld6
            replace hB := (bstep (bstep (bstep (bstep (bstep (bstep hB.drew hb24) hb25) hb26) hb27) hb28) hb29)
            have zw29 := hB.size
            go_wp2_with fail
            have hE := leaf_FnMeetStatic_4 Hq2.out Hq3.out Hq7.out Hq8.out
            refine bodyPost_ret (v := .bool (decide ((Ty.anyV (meetT t1 u1)) ≤ ((Ty.anyV t1) + (Ty.anyV u1))))) (by simp [results, Try.results32, go_sem]) rfl ?_
            exact ⟨by rw [hE], hB⟩
          · have Hq8 := Lib.hid q8
            clear q8
            go_wp2_with fail
            refine wp_region_noPanic ?_
            refine wp_region_held_drew (S := fun w' => w'.cell? ⟨w1.heap.size, 0, none⟩ = some (.int .i64 kv1) ∧ w'.cell? ⟨w1.heap.size, 1, none⟩ = some (.slice av1 nv1 qv1) ∧ w'.cell? ⟨w1.heap.size + 1, 0, none⟩ = some (.int .i64 kx1) ∧ w'.cell? ⟨w1.heap.size + 1, 1, none⟩ = some (.slice ax1 nx1 qx1) ∧ w'.cell? ⟨w2.heap.size, 0, none⟩ = some (.int .i64 kr2) ∧ w'.cell? ⟨w2.heap.size, 1, none⟩ = some (.slice ar2 nr2 qr2)) (by kernel_rfl) ?_ (fun hHeld0 => ?_)
            · exact ⟨dcell (c0_0), dcell (c0_1), dcell (c1_0), dcell (c1_1), dcell (c2_0), dcell (c2_1)⟩
            refine wpAnyH_take (i := 0) (oi := { dst := some 50, op := Op.load 29 (Operand.tmp 3), type := 29, pos := "laws.go:201", after := #[], guard := none }) (v := .agg #[.int .i64 kv1, .slice av1 nv1 qv1]) rfl (by kernel_rfl) (by kernel_rfl) (by kernel_rfl) (fun _ _ _ h => h) (Or.inl ⟨by rfl, ?_⟩) hHeld0 ?_
            · intro w' hSw; (try dsimp only at hSw); go_simp
            (try simp only [Act.put, List.setIfInBounds_toArray, List.set_cons_zero, List.set_cons_succ])
            refine wpAnyH_ready (rs := [1]) (by kernel_rfl) (by simp) ?_
            refine AllReadyH.cons (o := { dst := some 51, op := Op.call { callee := Callee.value (Operand.func 42), args := #[Operand.tmp 50], argTypes := #[29] }, type := 4, pos := "laws.go:201", after := #[{ on := 0, ground := Ground.data }], guard := none }) rfl (fun K hK => ?_) AllReadyH.nil
            go_simp
            go_at_call 42
            (with_reducible refine (implIsStaticB _ t1 _ _ (hv1.below bdr).all).mono ?_)
            rintro e w30 ⟨rfl, hb30⟩
            rw [Hq3.out]
            go_wp2_with fail
            refine hK.out _ _ ?_ (fun hHeld1 => ?_)
            · exact ⟨bcell hb30 (dcell (c0_0)), bcell hb30 (dcell (c0_1)), bcell hb30 (dcell (c1_0)), bcell hb30 (dcell (c1_1)), bcell hb30 (dcell (c2_0)), bcell hb30 (dcell (c2_1))⟩
            clear hK K hHeld0
            (try simp only [Act.put, List.setIfInBounds_toArray, List.set_cons_zero, List.set_cons_succ])
            refine wpAnyH_take (i := 2) (oi := { dst := some 52, op := Op.unOp UnOp.not 4 (Operand.tmp 51), type := 4, pos := "laws.go:201", after := #[{ on := 1, ground := Ground.data }], guard := none }) (v := .bool true) rfl (by kernel_rfl) (by kernel_rfl) (by kernel_rfl) (fun _ _ _ h => h) (Or.inl ⟨by rfl, ?_⟩) hHeld1 ?_
            · intro w' hSw; (try dsimp only at hSw); go_simp
            (try simp only [Act.put, List.setIfInBounds_toArray, List.set_cons_zero, List.set_cons_succ])
            refine wpAnyH_take (i := 3) (oi := { dst := some 53, op := Op.move (Operand.tmp 52), type := 4, pos := "laws.go:201", after := #[{ on := 2, ground := Ground.data }, { on := 1, ground := Ground.chain }], guard := none }) (v := .bool true) rfl (by kernel_rfl) (by kernel_rfl) (by kernel_rfl) (fun _ _ _ h => h) (Or.inl ⟨by rfl, ?_⟩) hHeld1 ?_
            · intro w' hSw; (try dsimp only at hSw); go_simp
            (try simp only [Act.put, List.setIfInBounds_toArray, List.set_cons_zero, List.set_cons_succ])
            refine wpAnyH_take (i := 4) (oi := { dst := some 54, op := Op.load 29 (Operand.tmp 5), type := 29, pos := "laws.go:201", after := #[{ on := 3, ground := Ground.guard }], guard := some (3, false) }) (v := undef) rfl (by kernel_rfl) (by kernel_rfl) (by kernel_rfl) (fun _ _ _ h => h) (Or.inr ⟨by rfl, rfl⟩) hHeld1 ?_
            (try simp only [Act.put, List.setIfInBounds_toArray, List.set_cons_zero, List.set_cons_succ])
            refine wpAnyH_take (i := 5) (oi := { dst := some 55, op := Op.load 29 (Operand.tmp 3), type := 29, pos := "laws.go:201", after := #[{ on := 3, ground := Ground.guard }], guard := some (3, false) }) (v := undef) rfl (by kernel_rfl) (by kernel_rfl) (by kernel_rfl) (fun _ _ _ h => h) (Or.inr ⟨by rfl, rfl⟩) hHeld1 ?_
            (try simp only [Act.put, List.setIfInBounds_toArray, List.set_cons_zero, List.set_cons_succ])
            refine wpAnyH_take (i := 6) (oi := { dst := some 56, op := Op.call { callee := Callee.value (Operand.func 37), args := #[Operand.tmp 54, Operand.tmp 55], argTypes := #[29, 29] }, type := 4, pos := "laws.go:201", after := #[{ on := 4, ground := Ground.data }, { on := 5, ground := Ground.data }, { on := 3, ground := Ground.chain }, { on := 3, ground := Ground.guard }], guard := some (3, false) }) (v := undef) rfl (by kernel_rfl) (by kernel_rfl) (by kernel_rfl) (fun _ _ _ h => h) (Or.inr ⟨by rfl, rfl⟩) hHeld1 ?_
            (try simp only [Act.put, List.setIfInBounds_toArray, List.set_cons_zero, List.set_cons_succ])
            refine wpAnyH_take (i := 7) (oi := { dst := some 57, op := Op.pick (Operand.tmp 53) (Operand.const (Value.bool true)) (Operand.tmp 56), type := 4, pos := "laws.go:201", after := #[{ on := 3, ground := Ground.data }, { on := 6, ground := Ground.data }], guard := none }) (v := .bool true) rfl (by kernel_rfl) (by kernel_rfl) (by kernel_rfl) (fun _ _ _ h => h) (Or.inl ⟨by rfl, ?_⟩) hHeld1 ?_
            · intro w' hSw; (try dsimp only at hSw); go_simp
            (try simp only [Act.put, List.setIfInBounds_toArray, List.set_cons_zero, List.set_cons_succ])
            refine wpAnyH_take (i := 8) (oi := { dst := some 58, op := Op.move (Operand.tmp 57), type := 4, pos := "laws.go:201", after := #[{ on := 7, ground := Ground.data }, { on := 6, ground := Ground.chain }], guard := none }) (v := .bool true) rfl (by kernel_rfl) (by kernel_rfl) (by kernel_rfl) (fun _ _ _ h => h) (Or.inl ⟨by rfl, ?_⟩) hHeld1 ?_
            · intro w' hSw; (try dsimp only at hSw); go_simp
            (try simp only [Act.put, List.setIfInBounds_toArray, List.set_cons_zero, List.set_cons_succ])
            refine wpAnyH_take (i := 9) (oi := { dst := some 59, op := Op.load 29 (Operand.tmp 4), type := 29, pos := "laws.go:201", after := #[{ on := 8, ground := Ground.guard }], guard := some (8, true) }) (v := .agg #[.int .i64 kx1, .slice ax1 nx1 qx1]) rfl (by kernel_rfl) (by kernel_rfl) (by kernel_rfl) (fun _ _ _ h => h) (Or.inl ⟨by rfl, ?_⟩) hHeld1 ?_
            · intro w' hSw; (try dsimp only at hSw); go_simp
            (try simp only [Act.put, List.setIfInBounds_toArray, List.set_cons_zero, List.set_cons_succ])
            refine wpAnyH_ready (rs := [10]) (by kernel_rfl) (by simp) ?_
            refine AllReadyH.cons (o := { dst := some 60, op := Op.call { callee := Callee.value (Operand.func 42), args := #[Operand.tmp 59], argTypes := #[29] }, type := 4, pos := "laws.go:201", after := #[{ on := 9, ground := Ground.data }, { on := 8, ground := Ground.chain }, { on := 8, ground := Ground.guard }], guard := some (8, true) }) rfl (fun K hK => ?_) AllReadyH.nil
            go_simp
            go_at_call 42
            (with_reducible refine (implIsStaticB _ u1 _ _ (hx1.below (bstep bdr hb30)).all).mono ?_)
            rintro e w31 ⟨rfl, hb31⟩
            rw [Hq7.out]
            go_wp2_with fail
            refine hK.out _ _ ?_ (fun hHeld2 => ?_)
            · exact ⟨bcell hb31 (bcell hb30 (dcell (c0_0))), bcell hb31 (bcell hb30 (dcell (c0_1))), bcell hb31 (bcell hb30 (dcell (c1_0))), bcell hb31 (bcell hb30 (dcell (c1_1))), bcell hb31 (bcell hb30 (dcell (c2_0))), bcell hb31 (bcell hb30 (dcell (c2_1)))⟩
            clear hK K hHeld1
            (try simp only [Act.put, List.setIfInBounds_toArray, List.set_cons_zero, List.set_cons_succ])
            refine wpAnyH_take (i := 11) (oi := { dst := some 61, op := Op.unOp UnOp.not 4 (Operand.tmp 60), type := 4, pos := "laws.go:201", after := #[{ on := 10, ground := Ground.data }, { on := 8, ground := Ground.guard }], guard := some (8, true) }) (v := .bool false) rfl (by kernel_rfl) (by kernel_rfl) (by kernel_rfl) (fun _ _ _ h => h) (Or.inl ⟨by rfl, ?_⟩) hHeld2 ?_
            · intro w' hSw; (try dsimp only at hSw); go_simp
            (try simp only [Act.put, List.setIfInBounds_toArray, List.set_cons_zero, List.set_cons_succ])
            refine wpAnyH_take (i := 12) (oi := { dst := some 62, op := Op.move (Operand.tmp 61), type := 4, pos := "laws.go:201", after := #[{ on := 11, ground := Ground.data }, { on := 10, ground := Ground.chain }, { on := 8, ground := Ground.guard }], guard := some (8, true) }) (v := .bool false) rfl (by kernel_rfl) (by kernel_rfl) (by kernel_rfl) (fun _ _ _ h => h) (Or.inl ⟨by rfl, ?_⟩) hHeld2 ?_
            · intro w' hSw; (try dsimp only at hSw); go_simp
            (try simp only [Act.put, List.setIfInBounds_toArray, List.set_cons_zero, List.set_cons_succ])
            refine wpAnyH_take (i := 13) (oi := { dst := some 63, op := Op.load 29 (Operand.tmp 5), type := 29, pos := "laws.go:201", after := #[{ on := 12, ground := Ground.guard }], guard := some (12, false) }) (v := .agg #[.int .i64 kr2, .slice ar2 nr2 qr2]) rfl (by kernel_rfl) (by kernel_rfl) (by kernel_rfl) (fun _ _ _ h => h) (Or.inl ⟨by rfl, ?_⟩) hHeld2 ?_
            · intro w' hSw; (try dsimp only at hSw); go_simp
            (try simp only [Act.put, List.setIfInBounds_toArray, List.set_cons_zero, List.set_cons_succ])
            refine wpAnyH_take (i := 14) (oi := { dst := some 64, op := Op.load 29 (Operand.tmp 4), type := 29, pos := "laws.go:201", after := #[{ on := 12, ground := Ground.guard }], guard := some (12, false) }) (v := .agg #[.int .i64 kx1, .slice ax1 nx1 qx1]) rfl (by kernel_rfl) (by kernel_rfl) (by kernel_rfl) (fun _ _ _ h => h) (Or.inl ⟨by rfl, ?_⟩) hHeld2 ?_
            · intro w' hSw; (try dsimp only at hSw); go_simp
            (try simp only [Act.put, List.setIfInBounds_toArray, List.set_cons_zero, List.set_cons_succ])
            refine wpAnyH_ready (rs := [15]) (by kernel_rfl) (by simp) ?_
            refine AllReadyH.cons (o := { dst := some 65, op := Op.call { callee := Callee.value (Operand.func 37), args := #[Operand.tmp 63, Operand.tmp 64], argTypes := #[29, 29] }, type := 4, pos := "laws.go:201", after := #[{ on := 13, ground := Ground.data }, { on := 14, ground := Ground.data }, { on := 12, ground := Ground.chain }, { on := 12, ground := Ground.guard }], guard := some (12, false) }) rfl (fun K hK => ?_) AllReadyH.nil
            go_simp
            go_at_call 37
            (with_reducible refine (implTypeSame _ _ (meetT t1 u1) u1 _ _ _ (hv2.below (bstep (bstep bdr hb30) hb31)).rep.all (hx1.below (bstep (bstep bdr hb30) hb31)).all).mono ?_)
            rintro e w32 ⟨rfl, hb32⟩
            rw [Hq8.out]
            go_wp2_with fail
            refine hK.out _ _ ?_ (fun hHeld3 => ?_)
            · exact ⟨bcell hb32 (bcell hb31 (bcell hb30 (dcell (c0_0)))), bcell hb32 (bcell hb31 (bcell hb30 (dcell (c0_1)))), bcell hb32 (bcell hb31 (bcell hb30 (dcell (c1_0)))), bcell hb32 (bcell hb31 (bcell hb30 (dcell (c1_1)))), bcell hb32 (bcell hb31 (bcell hb30 (dcell (c2_0)))), bcell hb32 (bcell hb31 (bcell hb30 (dcell (c2_1))))⟩
            clear hK K hHeld2
            (try simp only [Act.put, List.setIfInBounds_toArray, List.set_cons_zero, List.set_cons_succ])
            refine wpAnyH_take (i := 16) (oi := { dst := some 66, op := Op.pick (Operand.tmp 62) (Operand.const (Value.bool true)) (Operand.tmp 65), type := 4, pos := "laws.go:201", after := #[{ on := 12, ground := Ground.data }, { on := 15, ground := Ground.data }, { on := 8, ground := Ground.guard }], guard := some (8, true) }) (v := .bool false) rfl (by kernel_rfl) (by kernel_rfl) (by kernel_rfl) (fun _ _ _ h => h) (Or.inl ⟨by rfl, ?_⟩) hHeld3 ?_
            · intro w' hSw; (try dsimp only at hSw); go_simp
            (try simp only [Act.put, List.setIfInBounds_toArray, List.set_cons_zero, List.set_cons_succ])
            refine wpAnyH_take (i := 17) (oi := { dst := some 67, op := Op.pick (Operand.tmp 58) (Operand.tmp 66) (Operand.const (Value.bool false)), type := 4, pos := "laws.go:201", after := #[{ on := 8, ground := Ground.data }, { on := 16, ground := Ground.data }], guard := none }) (v := .bool false) rfl (by kernel_rfl) (by kernel_rfl) (by kernel_rfl) (fun _ _ _ h => h) (Or.inl ⟨by rfl, ?_⟩) hHeld3 ?_
            · intro w' hSw; (try dsimp only at hSw); go_simp
            (try simp only [Act.put, List.setIfInBounds_toArray, List.set_cons_zero, List.set_cons_succ])
            refine wpAnyH_take (i := 18) (oi := { dst := some 68, op := Op.move (Operand.tmp 67), type := 4, pos := "laws.go:201", after := #[{ on := 17, ground := Ground.data }, { on := 15, ground := Ground.chain }], guard := none }) (v := .bool false) rfl (by kernel_rfl) (by kernel_rfl) (by kernel_rfl) (fun _ _ _ h => h) (Or.inl ⟨by rfl, ?_⟩) hHeld3 ?_
            · intro w' hSw; (try dsimp only at hSw); go_simp
            (try simp only [Act.put, List.setIfInBounds_toArray, List.set_cons_zero, List.set_cons_succ])
            refine wpAnyH_take (i := 19) (oi := { dst := some 69, op := Op.load 29 (Operand.tmp 5), type := 29, pos := "laws.go:201", after := #[{ on := 18, ground := Ground.guard }], guard := some (18, true) }) (v := undef) rfl (by kernel_rfl) (by kernel_rfl) (by kernel_rfl) (fun _ _ _ h => h) (Or.inr ⟨by rfl, rfl⟩) hHeld3 ?_
            (try simp only [Act.put, List.setIfInBounds_toArray, List.set_cons_zero, List.set_cons_succ])
            refine wpAnyH_take (i := 20) (oi := { dst := some 70, op := Op.call { callee := Callee.value (Operand.func 49), args := #[Operand.tmp 69], argTypes := #[29] }, type := 3, pos := "laws.go:201", after := #[{ on := 19, ground := Ground.data }, { on := 18, ground := Ground.chain }, { on := 18, ground := Ground.guard }], guard := some (18, true) }) (v := undef) rfl (by kernel_rfl) (by kernel_rfl) (by kernel_rfl) (fun _ _ _ h => h) (Or.inr ⟨by rfl, rfl⟩) hHeld3 ?_
            (try simp only [Act.put, List.setIfInBounds_toArray, List.set_cons_zero, List.set_cons_succ])
            refine wpAnyH_take (i := 21) (oi := { dst := some 71, op := Op.load 29 (Operand.tmp 3), type := 29, pos := "laws.go:201", after := #[{ on := 18, ground := Ground.guard }], guard := some (18, true) }) (v := undef) rfl (by kernel_rfl) (by kernel_rfl) (by kernel_rfl) (fun _ _ _ h => h) (Or.inr ⟨by rfl, rfl⟩) hHeld3 ?_
            (try simp only [Act.put, List.setIfInBounds_toArray, List.set_cons_zero, List.set_cons_succ])
            refine wpAnyH_take (i := 22) (oi := { dst := some 72, op := Op.call { callee := Callee.value (Operand.func 49), args := #[Operand.tmp 71], argTypes := #[29] }, type := 3, pos := "laws.go:201", after := #[{ on := 21, ground := Ground.data }, { on := 20, ground := Ground.chain }, { on := 18, ground := Ground.guard }], guard := some (18, true) }) (v := undef) rfl (by kernel_rfl) (by kernel_rfl) (by kernel_rfl) (fun _ _ _ h => h) (Or.inr ⟨by rfl, rfl⟩) hHeld3 ?_
            (try simp only [Act.put, List.setIfInBounds_toArray, List.set_cons_zero, List.set_cons_succ])
            refine wpAnyH_take (i := 23) (oi := { dst := some 73, op := Op.load 29 (Operand.tmp 4), type := 29, pos := "laws.go:201", after := #[{ on := 18, ground := Ground.guard }], guard := some (18, true) }) (v := undef) rfl (by kernel_rfl) (by kernel_rfl) (by kernel_rfl) (fun _ _ _ h => h) (Or.inr ⟨by rfl, rfl⟩) hHeld3 ?_
            (try simp only [Act.put, List.setIfInBounds_toArray, List.set_cons_zero, List.set_cons_succ])
            refine wpAnyH_take (i := 24) (oi := { dst := some 74, op := Op.call { callee := Callee.value (Operand.func 49), args := #[Operand.tmp 73], argTypes := #[29] }, type := 3, pos := "laws.go:201", after := #[{ on := 23, ground := Ground.data }, { on := 22, ground := Ground.chain }, { on := 18, ground := Ground.guard }], guard := some (18, true) }) (v := undef) rfl (by kernel_rfl) (by kernel_rfl) (by kernel_rfl) (fun _ _ _ h => h) (Or.inr ⟨by rfl, rfl⟩) hHeld3 ?_
            (try simp only [Act.put, List.setIfInBounds_toArray, List.set_cons_zero, List.set_cons_succ])
            refine wpAnyH_take (i := 25) (oi := { dst := some 75, op := Op.binOp BinOp.add 3 (Operand.tmp 72) (Operand.tmp 74) 3, type := 3, pos := "laws.go:201", after := #[{ on := 22, ground := Ground.data }, { on := 24, ground := Ground.data }, { on := 18, ground := Ground.guard }], guard := some (18, true) }) (v := undef) rfl (by kernel_rfl) (by kernel_rfl) (by kernel_rfl) (fun _ _ _ h => h) (Or.inr ⟨by rfl, rfl⟩) hHeld3 ?_
            (try simp only [Act.put, List.setIfInBounds_toArray, List.set_cons_zero, List.set_cons_succ])
            refine wpAnyH_take (i := 26) (oi := { dst := some 76, op := Op.binOp BinOp.leq 3 (Operand.tmp 70) (Operand.tmp 75) 3, type := 4, pos := "laws.go:201", after := #[{ on := 20, ground := Ground.data }, { on := 25, ground := Ground.data }, { on := 18, ground := Ground.guard }], guard := some (18, true) }) (v := undef) rfl (by kernel_rfl) (by kernel_rfl) (by kernel_rfl) (fun _ _ _ h => h) (Or.inr ⟨by rfl, rfl⟩) hHeld3 ?_
            (try simp only [Act.put, List.setIfInBounds_toArray, List.set_cons_zero, List.set_cons_succ])
            refine wpAnyH_take (i := 27) (oi := { dst := some 77, op := Op.pick (Operand.tmp 68) (Operand.tmp 76) (Operand.const (Value.bool false)), type := 4, pos := "laws.go:201", after := #[{ on := 18, ground := Ground.data }, { on := 26, ground := Ground.data }], guard := none }) (v := .bool false) rfl (by kernel_rfl) (by kernel_rfl) (by kernel_rfl) (fun _ _ _ h => h) (Or.inl ⟨by rfl, ?_⟩) hHeld3 ?_
            · intro w' hSw; (try dsimp only at hSw); go_simp
            (try simp only [Act.put, List.setIfInBounds_toArray, List.set_cons_zero, List.set_cons_succ])
            refine wpAnyH_take (i := 28) (oi := { dst := some 2, op := Op.assign (Operand.tmp 77), type := 4, pos := "laws.go:201", after := #[{ on := 27, ground := Ground.data }, { on := 24, ground := Ground.chain }, { on := 0, ground := Ground.phase }, { on := 1, ground := Ground.phase }, { on := 2, ground := Ground.phase }, { on := 3, ground := Ground.phase }, { on := 4, ground := Ground.phase }, { on := 5, ground := Ground.phase }, { on := 6, ground := Ground.phase }, { on := 7, ground := Ground.phase }, { on := 8, ground := Ground.phase }, { on := 9, ground := Ground.phase }, { on := 10, ground := Ground.phase }, { on := 11, ground := Ground.phase }, { on := 12, ground := Ground.phase }, { on := 13, ground := Ground.phase }, { on := 14, ground := Ground.phase }, { on := 15, ground := Ground.phase }, { on := 16, ground := Ground.phase }, { on := 17, ground := Ground.phase }, { on := 18, ground := Ground.phase }, { on := 19, ground := Ground.phase }, { on := 20, ground := Ground.phase }, { on := 21, ground := Ground.phase }, { on := 22, ground := Ground.phase }, { on := 23, ground := Ground.phase }, { on := 24, ground := Ground.phase }, { on := 25, ground := Ground.phase }, { on := 26, ground := Ground.phase }, { on := 27, ground := Ground.phase }], guard := none }) (v := .bool false) rfl (by kernel_rfl) (by kernel_rfl) (by kernel_rfl) (fun _ _ _ h => h) (Or.inl ⟨by rfl, ?_⟩) hHeld3 ?_
            · intro w' hSw; (try dsimp only at hSw); go_simp
            (try simp only [Act.put, List.setIfInBounds_toArray, List.set_cons_zero, List.set_cons_succ])
            refine wpAnyH_done (by kernel_rfl) ?_ _
            refine NoPanic.normal ?_
            clear hHeld3
            replace hB := (bstep (bstep (bstep hB.drew hb30) hb31) hb32)
            have zw32 := hB.size
            go_wp2_with fail
            exact (leaf_FnMeetStatic_5 Hq2.out Hq3.out Hq7.out Hq8.out).elim
        · have Hq7 := Lib.hid q7
          clear q7
          go_wp2_with fail
          have hwr := IntWalk.i64_in ((Ty.anyV t1) + (Ty.anyV u1)) (by have := Ty.anyV_bd t1; have := Ty.anyV_bd u1; omega)
          refine wp_region_noPanic ?_
          refine wp_region_held_drew (S := fun w' => w'.cell? ⟨w1.heap.size, 0, none⟩ = some (.int .i64 kv1) ∧ w'.cell? ⟨w1.heap.size, 1, none⟩ = some (.slice av1 nv1 qv1) ∧ w'.cell? ⟨w1.heap.size + 1, 0, none⟩ = some (.int .i64 kx1) ∧ w'.cell? ⟨w1.heap.size + 1, 1, none⟩ = some (.slice ax1 nx1 qx1) ∧ w'.cell? ⟨w2.heap.size, 0, none⟩ = some (.int .i64 kr2) ∧ w'.cell? ⟨w2.heap.size, 1, none⟩ = some (.slice ar2 nr2 qr2)) (by kernel_rfl) ?_ (fun hHeld0 => ?_)
          · exact ⟨dcell (c0_0), dcell (c0_1), dcell (c1_0), dcell (c1_1), dcell (c2_0), dcell (c2_1)⟩
          refine wpAnyH_take (i := 0) (oi := { dst := some 50, op := Op.load 29 (Operand.tmp 3), type := 29, pos := "laws.go:201", after := #[], guard := none }) (v := .agg #[.int .i64 kv1, .slice av1 nv1 qv1]) rfl (by kernel_rfl) (by kernel_rfl) (by kernel_rfl) (fun _ _ _ h => h) (Or.inl ⟨by rfl, ?_⟩) hHeld0 ?_
          · intro w' hSw; (try dsimp only at hSw); go_simp
          (try simp only [Act.put, List.setIfInBounds_toArray, List.set_cons_zero, List.set_cons_succ])
          refine wpAnyH_ready (rs := [1]) (by kernel_rfl) (by simp) ?_
          refine AllReadyH.cons (o := { dst := some 51, op := Op.call { callee := Callee.value (Operand.func 42), args := #[Operand.tmp 50], argTypes := #[29] }, type := 4, pos := "laws.go:201", after := #[{ on := 0, ground := Ground.data }], guard := none }) rfl (fun K hK => ?_) AllReadyH.nil
          go_simp
          go_at_call 42
          (with_reducible refine (implIsStaticB _ t1 _ _ (hv1.below bdr).all).mono ?_)
          rintro e w33 ⟨rfl, hb33⟩
          rw [Hq3.out]
          go_wp2_with fail
          refine hK.out _ _ ?_ (fun hHeld1 => ?_)
          · exact ⟨bcell hb33 (dcell (c0_0)), bcell hb33 (dcell (c0_1)), bcell hb33 (dcell (c1_0)), bcell hb33 (dcell (c1_1)), bcell hb33 (dcell (c2_0)), bcell hb33 (dcell (c2_1))⟩
          clear hK K hHeld0
          (try simp only [Act.put, List.setIfInBounds_toArray, List.set_cons_zero, List.set_cons_succ])
          refine wpAnyH_take (i := 2) (oi := { dst := some 52, op := Op.unOp UnOp.not 4 (Operand.tmp 51), type := 4, pos := "laws.go:201", after := #[{ on := 1, ground := Ground.data }], guard := none }) (v := .bool true) rfl (by kernel_rfl) (by kernel_rfl) (by kernel_rfl) (fun _ _ _ h => h) (Or.inl ⟨by rfl, ?_⟩) hHeld1 ?_
          · intro w' hSw; (try dsimp only at hSw); go_simp
          (try simp only [Act.put, List.setIfInBounds_toArray, List.set_cons_zero, List.set_cons_succ])
          refine wpAnyH_take (i := 3) (oi := { dst := some 53, op := Op.move (Operand.tmp 52), type := 4, pos := "laws.go:201", after := #[{ on := 2, ground := Ground.data }, { on := 1, ground := Ground.chain }], guard := none }) (v := .bool true) rfl (by kernel_rfl) (by kernel_rfl) (by kernel_rfl) (fun _ _ _ h => h) (Or.inl ⟨by rfl, ?_⟩) hHeld1 ?_
          · intro w' hSw; (try dsimp only at hSw); go_simp
          (try simp only [Act.put, List.setIfInBounds_toArray, List.set_cons_zero, List.set_cons_succ])
          refine wpAnyH_take (i := 4) (oi := { dst := some 54, op := Op.load 29 (Operand.tmp 5), type := 29, pos := "laws.go:201", after := #[{ on := 3, ground := Ground.guard }], guard := some (3, false) }) (v := undef) rfl (by kernel_rfl) (by kernel_rfl) (by kernel_rfl) (fun _ _ _ h => h) (Or.inr ⟨by rfl, rfl⟩) hHeld1 ?_
          (try simp only [Act.put, List.setIfInBounds_toArray, List.set_cons_zero, List.set_cons_succ])
          refine wpAnyH_take (i := 5) (oi := { dst := some 55, op := Op.load 29 (Operand.tmp 3), type := 29, pos := "laws.go:201", after := #[{ on := 3, ground := Ground.guard }], guard := some (3, false) }) (v := undef) rfl (by kernel_rfl) (by kernel_rfl) (by kernel_rfl) (fun _ _ _ h => h) (Or.inr ⟨by rfl, rfl⟩) hHeld1 ?_
          (try simp only [Act.put, List.setIfInBounds_toArray, List.set_cons_zero, List.set_cons_succ])
          refine wpAnyH_take (i := 6) (oi := { dst := some 56, op := Op.call { callee := Callee.value (Operand.func 37), args := #[Operand.tmp 54, Operand.tmp 55], argTypes := #[29, 29] }, type := 4, pos := "laws.go:201", after := #[{ on := 4, ground := Ground.data }, { on := 5, ground := Ground.data }, { on := 3, ground := Ground.chain }, { on := 3, ground := Ground.guard }], guard := some (3, false) }) (v := undef) rfl (by kernel_rfl) (by kernel_rfl) (by kernel_rfl) (fun _ _ _ h => h) (Or.inr ⟨by rfl, rfl⟩) hHeld1 ?_
          (try simp only [Act.put, List.setIfInBounds_toArray, List.set_cons_zero, List.set_cons_succ])
          refine wpAnyH_take (i := 7) (oi := { dst := some 57, op := Op.pick (Operand.tmp 53) (Operand.const (Value.bool true)) (Operand.tmp 56), type := 4, pos := "laws.go:201", after := #[{ on := 3, ground := Ground.data }, { on := 6, ground := Ground.data }], guard := none }) (v := .bool true) rfl (by kernel_rfl) (by kernel_rfl) (by kernel_rfl) (fun _ _ _ h => h) (Or.inl ⟨by rfl, ?_⟩) hHeld1 ?_
          · intro w' hSw; (try dsimp only at hSw); go_simp
          (try simp only [Act.put, List.setIfInBounds_toArray, List.set_cons_zero, List.set_cons_succ])
          refine wpAnyH_take (i := 8) (oi := { dst := some 58, op := Op.move (Operand.tmp 57), type := 4, pos := "laws.go:201", after := #[{ on := 7, ground := Ground.data }, { on := 6, ground := Ground.chain }], guard := none }) (v := .bool true) rfl (by kernel_rfl) (by kernel_rfl) (by kernel_rfl) (fun _ _ _ h => h) (Or.inl ⟨by rfl, ?_⟩) hHeld1 ?_
          · intro w' hSw; (try dsimp only at hSw); go_simp
          (try simp only [Act.put, List.setIfInBounds_toArray, List.set_cons_zero, List.set_cons_succ])
          refine wpAnyH_take (i := 9) (oi := { dst := some 59, op := Op.load 29 (Operand.tmp 4), type := 29, pos := "laws.go:201", after := #[{ on := 8, ground := Ground.guard }], guard := some (8, true) }) (v := .agg #[.int .i64 kx1, .slice ax1 nx1 qx1]) rfl (by kernel_rfl) (by kernel_rfl) (by kernel_rfl) (fun _ _ _ h => h) (Or.inl ⟨by rfl, ?_⟩) hHeld1 ?_
          · intro w' hSw; (try dsimp only at hSw); go_simp
          (try simp only [Act.put, List.setIfInBounds_toArray, List.set_cons_zero, List.set_cons_succ])
          refine wpAnyH_ready (rs := [10]) (by kernel_rfl) (by simp) ?_
          refine AllReadyH.cons (o := { dst := some 60, op := Op.call { callee := Callee.value (Operand.func 42), args := #[Operand.tmp 59], argTypes := #[29] }, type := 4, pos := "laws.go:201", after := #[{ on := 9, ground := Ground.data }, { on := 8, ground := Ground.chain }, { on := 8, ground := Ground.guard }], guard := some (8, true) }) rfl (fun K hK => ?_) AllReadyH.nil
          go_simp
          go_at_call 42
          (with_reducible refine (implIsStaticB _ u1 _ _ (hx1.below (bstep bdr hb33)).all).mono ?_)
          rintro e w34 ⟨rfl, hb34⟩
          rw [Hq7.out]
          go_wp2_with fail
          refine hK.out _ _ ?_ (fun hHeld2 => ?_)
          · exact ⟨bcell hb34 (bcell hb33 (dcell (c0_0))), bcell hb34 (bcell hb33 (dcell (c0_1))), bcell hb34 (bcell hb33 (dcell (c1_0))), bcell hb34 (bcell hb33 (dcell (c1_1))), bcell hb34 (bcell hb33 (dcell (c2_0))), bcell hb34 (bcell hb33 (dcell (c2_1)))⟩
          clear hK K hHeld1
          (try simp only [Act.put, List.setIfInBounds_toArray, List.set_cons_zero, List.set_cons_succ])
          refine wpAnyH_take (i := 11) (oi := { dst := some 61, op := Op.unOp UnOp.not 4 (Operand.tmp 60), type := 4, pos := "laws.go:201", after := #[{ on := 10, ground := Ground.data }, { on := 8, ground := Ground.guard }], guard := some (8, true) }) (v := .bool true) rfl (by kernel_rfl) (by kernel_rfl) (by kernel_rfl) (fun _ _ _ h => h) (Or.inl ⟨by rfl, ?_⟩) hHeld2 ?_
          · intro w' hSw; (try dsimp only at hSw); go_simp
          (try simp only [Act.put, List.setIfInBounds_toArray, List.set_cons_zero, List.set_cons_succ])
          refine wpAnyH_take (i := 12) (oi := { dst := some 62, op := Op.move (Operand.tmp 61), type := 4, pos := "laws.go:201", after := #[{ on := 11, ground := Ground.data }, { on := 10, ground := Ground.chain }, { on := 8, ground := Ground.guard }], guard := some (8, true) }) (v := .bool true) rfl (by kernel_rfl) (by kernel_rfl) (by kernel_rfl) (fun _ _ _ h => h) (Or.inl ⟨by rfl, ?_⟩) hHeld2 ?_
          · intro w' hSw; (try dsimp only at hSw); go_simp
          (try simp only [Act.put, List.setIfInBounds_toArray, List.set_cons_zero, List.set_cons_succ])
          refine wpAnyH_take (i := 13) (oi := { dst := some 63, op := Op.load 29 (Operand.tmp 5), type := 29, pos := "laws.go:201", after := #[{ on := 12, ground := Ground.guard }], guard := some (12, false) }) (v := undef) rfl (by kernel_rfl) (by kernel_rfl) (by kernel_rfl) (fun _ _ _ h => h) (Or.inr ⟨by rfl, rfl⟩) hHeld2 ?_
          (try simp only [Act.put, List.setIfInBounds_toArray, List.set_cons_zero, List.set_cons_succ])
          refine wpAnyH_take (i := 14) (oi := { dst := some 64, op := Op.load 29 (Operand.tmp 4), type := 29, pos := "laws.go:201", after := #[{ on := 12, ground := Ground.guard }], guard := some (12, false) }) (v := undef) rfl (by kernel_rfl) (by kernel_rfl) (by kernel_rfl) (fun _ _ _ h => h) (Or.inr ⟨by rfl, rfl⟩) hHeld2 ?_
          (try simp only [Act.put, List.setIfInBounds_toArray, List.set_cons_zero, List.set_cons_succ])
          refine wpAnyH_take (i := 15) (oi := { dst := some 65, op := Op.call { callee := Callee.value (Operand.func 37), args := #[Operand.tmp 63, Operand.tmp 64], argTypes := #[29, 29] }, type := 4, pos := "laws.go:201", after := #[{ on := 13, ground := Ground.data }, { on := 14, ground := Ground.data }, { on := 12, ground := Ground.chain }, { on := 12, ground := Ground.guard }], guard := some (12, false) }) (v := undef) rfl (by kernel_rfl) (by kernel_rfl) (by kernel_rfl) (fun _ _ _ h => h) (Or.inr ⟨by rfl, rfl⟩) hHeld2 ?_
          (try simp only [Act.put, List.setIfInBounds_toArray, List.set_cons_zero, List.set_cons_succ])
          refine wpAnyH_take (i := 16) (oi := { dst := some 66, op := Op.pick (Operand.tmp 62) (Operand.const (Value.bool true)) (Operand.tmp 65), type := 4, pos := "laws.go:201", after := #[{ on := 12, ground := Ground.data }, { on := 15, ground := Ground.data }, { on := 8, ground := Ground.guard }], guard := some (8, true) }) (v := .bool true) rfl (by kernel_rfl) (by kernel_rfl) (by kernel_rfl) (fun _ _ _ h => h) (Or.inl ⟨by rfl, ?_⟩) hHeld2 ?_
          · intro w' hSw; (try dsimp only at hSw); go_simp
          (try simp only [Act.put, List.setIfInBounds_toArray, List.set_cons_zero, List.set_cons_succ])
          refine wpAnyH_take (i := 17) (oi := { dst := some 67, op := Op.pick (Operand.tmp 58) (Operand.tmp 66) (Operand.const (Value.bool false)), type := 4, pos := "laws.go:201", after := #[{ on := 8, ground := Ground.data }, { on := 16, ground := Ground.data }], guard := none }) (v := .bool true) rfl (by kernel_rfl) (by kernel_rfl) (by kernel_rfl) (fun _ _ _ h => h) (Or.inl ⟨by rfl, ?_⟩) hHeld2 ?_
          · intro w' hSw; (try dsimp only at hSw); go_simp
          (try simp only [Act.put, List.setIfInBounds_toArray, List.set_cons_zero, List.set_cons_succ])
          refine wpAnyH_take (i := 18) (oi := { dst := some 68, op := Op.move (Operand.tmp 67), type := 4, pos := "laws.go:201", after := #[{ on := 17, ground := Ground.data }, { on := 15, ground := Ground.chain }], guard := none }) (v := .bool true) rfl (by kernel_rfl) (by kernel_rfl) (by kernel_rfl) (fun _ _ _ h => h) (Or.inl ⟨by rfl, ?_⟩) hHeld2 ?_
          · intro w' hSw; (try dsimp only at hSw); go_simp
          (try simp only [Act.put, List.setIfInBounds_toArray, List.set_cons_zero, List.set_cons_succ])
          refine wpAnyH_take (i := 19) (oi := { dst := some 69, op := Op.load 29 (Operand.tmp 5), type := 29, pos := "laws.go:201", after := #[{ on := 18, ground := Ground.guard }], guard := some (18, true) }) (v := .agg #[.int .i64 kr2, .slice ar2 nr2 qr2]) rfl (by kernel_rfl) (by kernel_rfl) (by kernel_rfl) (fun _ _ _ h => h) (Or.inl ⟨by rfl, ?_⟩) hHeld2 ?_
          · intro w' hSw; (try dsimp only at hSw); go_simp
          (try simp only [Act.put, List.setIfInBounds_toArray, List.set_cons_zero, List.set_cons_succ])
          refine wpAnyH_take (i := 21) (oi := { dst := some 71, op := Op.load 29 (Operand.tmp 3), type := 29, pos := "laws.go:201", after := #[{ on := 18, ground := Ground.guard }], guard := some (18, true) }) (v := .agg #[.int .i64 kv1, .slice av1 nv1 qv1]) rfl (by kernel_rfl) (by kernel_rfl) (by kernel_rfl) (fun _ _ _ h => h) (Or.inl ⟨by rfl, ?_⟩) hHeld2 ?_
          · intro w' hSw; (try dsimp only at hSw); go_simp
          (try simp only [Act.put, List.setIfInBounds_toArray, List.set_cons_zero, List.set_cons_succ])
          refine wpAnyH_take (i := 23) (oi := { dst := some 73, op := Op.load 29 (Operand.tmp 4), type := 29, pos := "laws.go:201", after := #[{ on := 18, ground := Ground.guard }], guard := some (18, true) }) (v := .agg #[.int .i64 kx1, .slice ax1 nx1 qx1]) rfl (by kernel_rfl) (by kernel_rfl) (by kernel_rfl) (fun _ _ _ h => h) (Or.inl ⟨by rfl, ?_⟩) hHeld2 ?_
          · intro w' hSw; (try dsimp only at hSw); go_simp
          (try simp only [Act.put, List.setIfInBounds_toArray, List.set_cons_zero, List.set_cons_succ])
          refine wpAnyH_ready (rs := [20]) (by kernel_rfl) (by simp) ?_
          refine AllReadyH.cons (o := { dst := some 70, op := Op.call { callee := Callee.value (Operand.func 49), args := #[Operand.tmp 69], argTypes := #[29] }, type := 3, pos := "laws.go:201", after := #[{ on := 19, ground := Ground.data }, { on := 18, ground := Ground.chain }, { on := 18, ground := Ground.guard }], guard := some (18, true) }) rfl (fun K hK => ?_) AllReadyH.nil
          go_simp
          go_at_call 49
          (with_reducible refine (implCountAny _ (meetT t1 u1) _ _ (hv2.below (bstep (bstep bdr hb33) hb34)).rep.all).mono ?_)
          rintro e w35 ⟨rfl, hb35⟩
          have hi35 := Ty.anyV_bd (meetT t1 u1)
          go_wp2_with fail
          refine hK.out _ _ ?_ (fun hHeld3 => ?_)
          · exact ⟨bcell hb35 (bcell hb34 (bcell hb33 (dcell (c0_0)))), bcell hb35 (bcell hb34 (bcell hb33 (dcell (c0_1)))), bcell hb35 (bcell hb34 (bcell hb33 (dcell (c1_0)))), bcell hb35 (bcell hb34 (bcell hb33 (dcell (c1_1)))), bcell hb35 (bcell hb34 (bcell hb33 (dcell (c2_0)))), bcell hb35 (bcell hb34 (bcell hb33 (dcell (c2_1))))⟩
          clear hK K hHeld2
          (try simp only [Act.put, List.setIfInBounds_toArray, List.set_cons_zero, List.set_cons_succ])
          refine wpAnyH_ready (rs := [22]) (by kernel_rfl) (by simp) ?_
          refine AllReadyH.cons (o := { dst := some 72, op := Op.call { callee := Callee.value (Operand.func 49), args := #[Operand.tmp 71], argTypes := #[29] }, type := 3, pos := "laws.go:201", after := #[{ on := 21, ground := Ground.data }, { on := 20, ground := Ground.chain }, { on := 18, ground := Ground.guard }], guard := some (18, true) }) rfl (fun K hK => ?_) AllReadyH.nil
          go_simp
          go_at_call 49
          (with_reducible refine (implCountAny _ t1 _ _ (hv1.below (bstep (bstep (bstep bdr hb33) hb34) hb35)).all).mono ?_)
          rintro e w36 ⟨rfl, hb36⟩
          have hi36 := Ty.anyV_bd t1
          go_wp2_with fail
          refine hK.out _ _ ?_ (fun hHeld4 => ?_)
          · exact ⟨bcell hb36 (bcell hb35 (bcell hb34 (bcell hb33 (dcell (c0_0))))), bcell hb36 (bcell hb35 (bcell hb34 (bcell hb33 (dcell (c0_1))))), bcell hb36 (bcell hb35 (bcell hb34 (bcell hb33 (dcell (c1_0))))), bcell hb36 (bcell hb35 (bcell hb34 (bcell hb33 (dcell (c1_1))))), bcell hb36 (bcell hb35 (bcell hb34 (bcell hb33 (dcell (c2_0))))), bcell hb36 (bcell hb35 (bcell hb34 (bcell hb33 (dcell (c2_1)))))⟩
          clear hK K hHeld3
          (try simp only [Act.put, List.setIfInBounds_toArray, List.set_cons_zero, List.set_cons_succ])
          refine wpAnyH_ready (rs := [24]) (by kernel_rfl) (by simp) ?_
          refine AllReadyH.cons (o := { dst := some 74, op := Op.call { callee := Callee.value (Operand.func 49), args := #[Operand.tmp 73], argTypes := #[29] }, type := 3, pos := "laws.go:201", after := #[{ on := 23, ground := Ground.data }, { on := 22, ground := Ground.chain }, { on := 18, ground := Ground.guard }], guard := some (18, true) }) rfl (fun K hK => ?_) AllReadyH.nil
          go_simp
          go_at_call 49
          (with_reducible refine (implCountAny _ u1 _ _ (hx1.below (bstep (bstep (bstep (bstep bdr hb33) hb34) hb35) hb36)).all).mono ?_)
          rintro e w37 ⟨rfl, hb37⟩
          have hi37 := Ty.anyV_bd u1
          go_wp2_with fail
          refine hK.out _ _ ?_ (fun hHeld5 => ?_)
          · exact ⟨bcell hb37 (bcell hb36 (bcell hb35 (bcell hb34 (bcell hb33 (dcell (c0_0)))))), bcell hb37 (bcell hb36 (bcell hb35 (bcell hb34 (bcell hb33 (dcell (c0_1)))))), bcell hb37 (bcell hb36 (bcell hb35 (bcell hb34 (bcell hb33 (dcell (c1_0)))))), bcell hb37 (bcell hb36 (bcell hb35 (bcell hb34 (bcell hb33 (dcell (c1_1)))))), bcell hb37 (bcell hb36 (bcell hb35 (bcell hb34 (bcell hb33 (dcell (c2_0)))))), bcell hb37 (bcell hb36 (bcell hb35 (bcell hb34 (bcell hb33 (dcell (c2_1))))))⟩
          clear hK K hHeld4
          (try simp only [Act.put, List.setIfInBounds_toArray, List.set_cons_zero, List.set_cons_succ])
          refine wpAnyH_take (i := 25) (oi := { dst := some 75, op := Op.binOp BinOp.add 3 (Operand.tmp 72) (Operand.tmp 74) 3, type := 3, pos := "laws.go:201", after := #[{ on := 22, ground := Ground.data }, { on := 24, ground := Ground.data }, { on := 18, ground := Ground.guard }], guard := some (18, true) }) (v := .int .i64 ((Ty.anyV t1) + (Ty.anyV u1))) rfl (by kernel_rfl) (by kernel_rfl) (by kernel_rfl) (fun _ _ _ h => h) (Or.inl ⟨by rfl, ?_⟩) hHeld5 ?_
          · intro w' hSw; (try dsimp only at hSw); go_simp
          (try simp only [Act.put, List.setIfInBounds_toArray, List.set_cons_zero, List.set_cons_succ])
          refine wpAnyH_take (i := 26) (oi := { dst := some 76, op := Op.binOp BinOp.leq 3 (Operand.tmp 70) (Operand.tmp 75) 3, type := 4, pos := "laws.go:201", after := #[{ on := 20, ground := Ground.data }, { on := 25, ground := Ground.data }, { on := 18, ground := Ground.guard }], guard := some (18, true) }) (v := .bool (decide ((Ty.anyV (meetT t1 u1)) ≤ ((Ty.anyV t1) + (Ty.anyV u1))))) rfl (by kernel_rfl) (by kernel_rfl) (by kernel_rfl) (fun _ _ _ h => h) (Or.inl ⟨by rfl, ?_⟩) hHeld5 ?_
          · intro w' hSw; (try dsimp only at hSw); go_simp
          (try simp only [Act.put, List.setIfInBounds_toArray, List.set_cons_zero, List.set_cons_succ])
          refine wpAnyH_take (i := 27) (oi := { dst := some 77, op := Op.pick (Operand.tmp 68) (Operand.tmp 76) (Operand.const (Value.bool false)), type := 4, pos := "laws.go:201", after := #[{ on := 18, ground := Ground.data }, { on := 26, ground := Ground.data }], guard := none }) (v := .bool (decide ((Ty.anyV (meetT t1 u1)) ≤ ((Ty.anyV t1) + (Ty.anyV u1))))) rfl (by kernel_rfl) (by kernel_rfl) (by kernel_rfl) (fun _ _ _ h => h) (Or.inl ⟨by rfl, ?_⟩) hHeld5 ?_
          · intro w' hSw; (try dsimp only at hSw); go_simp
          (try simp only [Act.put, List.setIfInBounds_toArray, List.set_cons_zero, List.set_cons_succ])
          refine wpAnyH_take (i := 28) (oi := { dst := some 2, op := Op.assign (Operand.tmp 77), type := 4, pos := "laws.go:201", after := #[{ on := 27, ground := Ground.data }, { on := 24, ground := Ground.chain }, { on := 0, ground := Ground.phase }, { on := 1, ground := Ground.phase }, { on := 2, ground := Ground.phase }, { on := 3, ground := Ground.phase }, { on := 4, ground := Ground.phase }, { on := 5, ground := Ground.phase }, { on := 6, ground := Ground.phase }, { on := 7, ground := Ground.phase }, { on := 8, ground := Ground.phase }, { on := 9, ground := Ground.phase }, { on := 10, ground := Ground.phase }, { on := 11, ground := Ground.phase }, { on := 12, ground := Ground.phase }, { on := 13, ground := Ground.phase }, { on := 14, ground := Ground.phase }, { on := 15, ground := Ground.phase }, { on := 16, ground := Ground.phase }, { on := 17, ground := Ground.phase }, { on := 18, ground := Ground.phase }, { on := 19, ground := Ground.phase }, { on := 20, ground := Ground.phase }, { on := 21, ground := Ground.phase }, { on := 22, ground := Ground.phase }, { on := 23, ground := Ground.phase }, { on := 24, ground := Ground.phase }, { on := 25, ground := Ground.phase }, { on := 26, ground := Ground.phase }, { on := 27, ground := Ground.phase }], guard := none }) (v := .bool (decide ((Ty.anyV (meetT t1 u1)) ≤ ((Ty.anyV t1) + (Ty.anyV u1))))) rfl (by kernel_rfl) (by kernel_rfl) (by kernel_rfl) (fun _ _ _ h => h) (Or.inl ⟨by rfl, ?_⟩) hHeld5 ?_
          · intro w' hSw; (try dsimp only at hSw); go_simp
          (try simp only [Act.put, List.setIfInBounds_toArray, List.set_cons_zero, List.set_cons_succ])
          refine wpAnyH_done (by kernel_rfl) ?_ _
          refine NoPanic.normal ?_
          clear hHeld5
          replace hB := (bstep (bstep (bstep (bstep (bstep hB.drew hb33) hb34) hb35) hb36) hb37)
          have zw37 := hB.size
          go_wp2_with fail
          have hE := leaf_FnMeetStatic_6 Hq2.out Hq3.out Hq7.out
          refine bodyPost_ret (v := .bool (decide ((Ty.anyV (meetT t1 u1)) ≤ ((Ty.anyV t1) + (Ty.anyV u1))))) (by simp [results, Try.results32, go_sem]) rfl ?_
          exact ⟨by rw [hE], hB⟩
    · (try rw [q2])
      have Hq2 := Lib.hid q2
      clear q2
      go_wp2_with fail
      refine (implTypeSameSelf _ _ (meetT t1 u1) _ _ _ hv2.rep.all hv3.rep.all).mono ?_
      rintro e w38 ⟨rfl, hb38⟩
      replace hB := (bstep hB hb38)
      have zw38 := hB.size
      go_wp2_with fail
      refine bodyPost_ret (v := .bool true) (by simp [results, Try.results32, go_sem]) rfl ?_
      exact ⟨rfl, hB⟩
end Go.Proofs.Ytjkkahlcbhcifaa
