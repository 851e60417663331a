/-
  FnConsistent returns true: the walk.
-/
import Derived.Test.YtjkkahlcbhcifaaFn
import Derived.Test.YtjkkahlcbhcifaaDraws
import Derived.Test.YtjkkahlcbhcifaaDrawCh
namespace Go.Proofs.Ytjkkahlcbhcifaa
open Go.RowKit
set_option linter.unusedVariables false
set_option linter.unusedSimpArgs false
set_option maxRecDepth 100000

theorem leaf_FnConsistent_0 {t1 u1 : Ty} (h0 : (consB t1 u1) = true) (h1 : (consB u1 t1) = false) : False := by
  have l := law_FnConsistent t1 u1
  first | (simp_all; done) | grind

theorem leaf_FnConsistent_1 {t1 u1 : Ty} (h0 : (consB t1 u1) = false) (h1 : (consB u1 t1) = true) : False := by
  have l := law_FnConsistent t1 u1
  first | (simp_all; done) | grind
set_option maxHeartbeats 8000000 in
theorem walk_FnConsistent (y0 : Value) (w : World) (r0 : ByRep w w.heap.size y0) :
    Calls Try.prog 23 #[y0] w fun e w' => e = .returned (.bool true) ∧ Below w.heap.size w w' := by
  obtain ⟨a0, n0, q0, rfl⟩ := r0.shape
  go_enter Try.func23, Try.ntmps23
  rcases Bool.eq_false_or_eq_true (decide ((n0 : Int) > 1048576)) with q1 | q1
  · (try rw [q1])
    go_wp2_with fail
    refine bodyPost_ret (v := .bool true) (by simp [results, Try.results23, go_sem]) rfl ?_
    exact ⟨rfl, (Below.refl _ _)⟩
  · (try rw [q1])
    go_wp2_with fail
    refine (specDrawConsistent _ _ _ (r0.below (Below.refl _ _)) (by first | omega | (simp; done) | (simp; omega))).mono ?_
    rintro e w1 ⟨t1, u1, v1, x1, rfl, hv1, hx1, hb1⟩
    obtain ⟨kv1, av1, nv1, qv1, rfl⟩ := hv1.shape
    obtain ⟨kx1, ax1, nx1, qx1, rfl⟩ := hx1.shape
    have hB := (bstep (Below.refl _ _) hb1)
    have zw1 := hB.size
    go_wp2_with fail
    refine (implConsistentB _ _ t1 u1 _ _ _ (hv1.below bal2).all (hx1.below bal2).all).mono ?_
    rintro e w2 ⟨rfl, hb2⟩
    replace hB := (bstep ((hB.alloc hB.size _).alloc (hB.alloc hB.size _).size _) hb2)
    have zw2 := hB.size
    have c0_0 : w2.cell? ⟨w1.heap.size, 0, none⟩ = some (.int .i64 kv1) := bcell hb2 (bcell bal1 (cell_new (by simp) 0))
    have c0_1 : w2.cell? ⟨w1.heap.size, 1, none⟩ = some (.slice av1 nv1 qv1) := bcell hb2 (bcell bal1 (cell_new (by simp) 1))
    have c1_0 : w2.cell? ⟨w1.heap.size + 1, 0, none⟩ = some (.int .i64 kx1) := bcell hb2 (cell_new (by simp) 0)
    have c1_1 : w2.cell? ⟨w1.heap.size + 1, 1, none⟩ = some (.slice ax1 nx1 qx1) := bcell hb2 (cell_new (by simp) 1)
    replace hv1 := (hv1.below (bstep bal2 hb2))
    replace hx1 := (hx1.below (bstep bal2 hb2))
    have d0_w2 := World.block_lt_of_cell? _ _ c0_0
    have d1_w2 := World.block_lt_of_cell? _ _ c1_0
    go_wp2_with fail
    refine (implMeetTypes _ _ t1 u1 _ _ _ hv1.all hx1.all).mono ?_
    rintro e w3 ⟨v3, rfl, hv3, hb3⟩
    obtain ⟨kr3, ar3, nr3, qr3, rfl⟩ := hv3.shape
    replace hB := (bstep hB hb3)
    have zw3 := hB.size
    replace c0_0 : w3.cell? ⟨w1.heap.size, 0, none⟩ = some (.int .i64 kv1) := bcell hb3 (c0_0)
    replace c0_1 : w3.cell? ⟨w1.heap.size, 1, none⟩ = some (.slice av1 nv1 qv1) := bcell hb3 (c0_1)
    replace c1_0 : w3.cell? ⟨w1.heap.size + 1, 0, none⟩ = some (.int .i64 kx1) := bcell hb3 (c1_0)
    replace c1_1 : w3.cell? ⟨w1.heap.size + 1, 1, none⟩ = some (.slice ax1 nx1 qx1) := bcell hb3 (c1_1)
    replace hv1 := (hv1.below hb3)
    replace hx1 := (hx1.below hb3)
    have d0_w3 := World.block_lt_of_cell? _ _ c0_0
    have d1_w3 := World.block_lt_of_cell? _ _ c1_0
    rcases Bool.eq_false_or_eq_true (consB t1 u1) with q2 | q2
    · (try rw [q2])
      have Hq2 := Lib.hid q2
      clear q2
      rcases Bool.eq_false_or_eq_true (consB u1 t1) with q3 | q3
      · have Hq3 := Lib.hid q3
        clear q3
        go_wp2_with fail
        have s0_ : (World.alloc w3 (Obj.cells #[.int .i64 kr3, .slice ar3 nr3 qr3] 29)).cell? ⟨w1.heap.size, 0, none⟩ = some (.int .i64 kv1) := bcell bal1 (c0_0)
        have s1_ : (World.alloc w3 (Obj.cells #[.int .i64 kr3, .slice ar3 nr3 qr3] 29)).cell? ⟨w1.heap.size, 1, none⟩ = some (.slice av1 nv1 qv1) := bcell bal1 (c0_1)
        have s2_ : (World.alloc w3 (Obj.cells #[.int .i64 kr3, .slice ar3 nr3 qr3] 29)).cell? ⟨w1.heap.size + 1, 0, none⟩ = some (.int .i64 kx1) := bcell bal1 (c1_0)
        have s3_ : (World.alloc w3 (Obj.cells #[.int .i64 kr3, .slice ar3 nr3 qr3] 29)).cell? ⟨w1.heap.size + 1, 1, none⟩ = some (.slice ax1 nx1 qx1) := bcell bal1 (c1_1)
        have hS0 := Lib.hid (show (World.drew (World.alloc w3 (Obj.cells #[.int .i64 kr3, .slice ar3 nr3 qr3] 29))).cell? ⟨w1.heap.size, 0, none⟩ = some (.int .i64 kv1) ∧ (World.drew (World.alloc w3 (Obj.cells #[.int .i64 kr3, .slice ar3 nr3 qr3] 29))).cell? ⟨w1.heap.size, 1, none⟩ = some (.slice av1 nv1 qv1) ∧ (World.drew (World.alloc w3 (Obj.cells #[.int .i64 kr3, .slice ar3 nr3 qr3] 29))).cell? ⟨w1.heap.size + 1, 0, none⟩ = some (.int .i64 kx1) ∧ (World.drew (World.alloc w3 (Obj.cells #[.int .i64 kr3, .slice ar3 nr3 qr3] 29))).cell? ⟨w1.heap.size + 1, 1, none⟩ = some (.slice ax1 nx1 qx1) from ⟨dcell (s0_), dcell (s1_), dcell (s2_), dcell (s3_)⟩)
        have hSb := Lib.hid (show ∀ X Y : World, Below X.heap.size X Y → (X.cell? ⟨w1.heap.size, 0, none⟩ = some (.int .i64 kv1) ∧ X.cell? ⟨w1.heap.size, 1, none⟩ = some (.slice av1 nv1 qv1) ∧ X.cell? ⟨w1.heap.size + 1, 0, none⟩ = some (.int .i64 kx1) ∧ X.cell? ⟨w1.heap.size + 1, 1, none⟩ = some (.slice ax1 nx1 qx1)) → (Y.cell? ⟨w1.heap.size, 0, none⟩ = some (.int .i64 kv1) ∧ Y.cell? ⟨w1.heap.size, 1, none⟩ = some (.slice av1 nv1 qv1) ∧ Y.cell? ⟨w1.heap.size + 1, 0, none⟩ = some (.int .i64 kx1) ∧ Y.cell? ⟨w1.heap.size + 1, 1, none⟩ = some (.slice ax1 nx1 qx1)) from fun X Y h s => ⟨bcell h s.1, bcell h s.2.1, bcell h s.2.2.1, bcell h s.2.2.2⟩)
        go_region_held3 (fun w' => w'.cell? ⟨w1.heap.size, 0, none⟩ = some (.int .i64 kv1) ∧ w'.cell? ⟨w1.heap.size, 1, none⟩ = some (.slice av1 nv1 qv1) ∧ w'.cell? ⟨w1.heap.size + 1, 0, none⟩ = some (.int .i64 kx1) ∧ w'.cell? ⟨w1.heap.size + 1, 1, none⟩ = some (.slice ax1 nx1 qx1))
          (repeat (first | with_reducible refine hSb.out _ _ hb7 ?_ | with_reducible refine hSb.out _ _ hb6 ?_ | with_reducible refine hSb.out _ _ hb5 ?_ | with_reducible refine hSb.out _ _ hb4 ?_ | with_reducible exact hS0.out))
          (first | (go_at_call 50; ((with_reducible refine (specConsistentB _ _ t1 u1 _ _ _ (hv1.below bal1.drew).all (hx1.below bal1.drew).all).mono ?_); rintro e w4 ⟨rfl, hb4⟩; rw [Hq2.out])) | (go_at_call 51; ((with_reducible refine (implConsistentB _ _ u1 t1 _ _ _ (hx1.below (bstep bal1.drew hb4)).all (hv1.below (bstep bal1.drew hb4)).all).mono ?_); rintro e w5 ⟨rfl, hb5⟩; rw [Hq3.out])) | (go_at_call 51; ((with_reducible refine (implConsistentSelf _ _ t1 _ _ _ (hv1.below (bstep (bstep bal1.drew hb4) hb5)).all (hv1.below (bstep (bstep bal1.drew hb4) hb5)).all).mono ?_); rintro e w6 ⟨rfl, hb6⟩)) | (go_at_call 40; ((with_reducible refine (implTypeValid _ t1 _ _ (hv1.below (bstep (bstep (bstep bal1.drew hb4) hb5) hb6)).all).mono ?_); rintro e w7 ⟨rfl, hb7⟩)))
        clear s0_ s1_ s2_ s3_
        replace hB := (bstep (bstep (bstep (bstep (hB.alloc hB.size _).drew hb4) hb5) hb6) hb7)
        have zw7 := hB.size
        go_wp2_with fail
        refine bodyPost_ret (v := .bool true) (by simp [results, Try.results23, go_sem]) rfl ?_
        exact ⟨rfl, hB⟩
      · have Hq3 := Lib.hid q3
        clear q3
        go_wp2_with fail
        have s0_ : (World.alloc w3 (Obj.cells #[.int .i64 kr3, .slice ar3 nr3 qr3] 29)).cell? ⟨w1.heap.size, 0, none⟩ = some (.int .i64 kv1) := bcell bal1 (c0_0)
        have s1_ : (World.alloc w3 (Obj.cells #[.int .i64 kr3, .slice ar3 nr3 qr3] 29)).cell? ⟨w1.heap.size, 1, none⟩ = some (.slice av1 nv1 qv1) := bcell bal1 (c0_1)
        have s2_ : (World.alloc w3 (Obj.cells #[.int .i64 kr3, .slice ar3 nr3 qr3] 29)).cell? ⟨w1.heap.size + 1, 0, none⟩ = some (.int .i64 kx1) := bcell bal1 (c1_0)
        have s3_ : (World.alloc w3 (Obj.cells #[.int .i64 kr3, .slice ar3 nr3 qr3] 29)).cell? ⟨w1.heap.size + 1, 1, none⟩ = some (.slice ax1 nx1 qx1) := bcell bal1 (c1_1)
        refine wp_region_noPanic ?_
        refine wp_region_held_drew (S := fun w' => w'.cell? ⟨w1.heap.size, 0, none⟩ = some (.int .i64 kv1) ∧ w'.cell? ⟨w1.heap.size, 1, none⟩ = some (.slice av1 nv1 qv1) ∧ w'.cell? ⟨w1.heap.size + 1, 0, none⟩ = some (.int .i64 kx1) ∧ w'.cell? ⟨w1.heap.size + 1, 1, none⟩ = some (.slice ax1 nx1 qx1)) (by kernel_rfl) ?_ (fun hHeld0 => ?_)
        · exact ⟨dcell (s0_), dcell (s1_), dcell (s2_), dcell (s3_)⟩
        refine wpAnyH_take (i := 0) (oi := { dst := some 25, op := Op.move (Operand.tmp 5), type := 4, pos := "laws.go:63", after := #[], guard := none }) (v := .bool true) rfl (by kernel_rfl) (by kernel_rfl) (by kernel_rfl) (fun _ _ _ h => h) (Or.inl ⟨by rfl, ?_⟩) hHeld0 ?_
        · intro w' hSw; (try dsimp only at hSw); go_simp
        (try simp only [Act.put, List.setIfInBounds_toArray, List.set_cons_zero, List.set_cons_succ])
        refine wpAnyH_take (i := 1) (oi := { dst := some 26, op := Op.load 29 (Operand.tmp 3), type := 29, pos := "laws.go:63", after := #[], guard := none }) (v := .agg #[.int .i64 kv1, .slice av1 nv1 qv1]) rfl (by kernel_rfl) (by kernel_rfl) (by kernel_rfl) (fun _ _ _ h => h) (Or.inl ⟨by rfl, ?_⟩) hHeld0 ?_
        · intro w' hSw; (try dsimp only at hSw); go_simp
        (try simp only [Act.put, List.setIfInBounds_toArray, List.set_cons_zero, List.set_cons_succ])
        refine wpAnyH_take (i := 2) (oi := { dst := some 27, op := Op.load 29 (Operand.tmp 4), type := 29, pos := "laws.go:63", after := #[], guard := none }) (v := .agg #[.int .i64 kx1, .slice ax1 nx1 qx1]) rfl (by kernel_rfl) (by kernel_rfl) (by kernel_rfl) (fun _ _ _ h => h) (Or.inl ⟨by rfl, ?_⟩) hHeld0 ?_
        · intro w' hSw; (try dsimp only at hSw); go_simp
        (try simp only [Act.put, List.setIfInBounds_toArray, List.set_cons_zero, List.set_cons_succ])
        refine wpAnyH_ready (rs := [3]) (by kernel_rfl) (by simp) ?_
        refine AllReadyH.cons (o := { dst := some 28, op := Op.call { callee := Callee.value (Operand.func 50), args := #[Operand.tmp 26, Operand.tmp 27], argTypes := #[29, 29] }, type := 4, pos := "laws.go:63", after := #[{ on := 1, ground := Ground.data }, { on := 2, ground := Ground.data }], guard := none }) rfl (fun K hK => ?_) AllReadyH.nil
        go_simp
        go_at_call 50
        (with_reducible refine (specConsistentB _ _ t1 u1 _ _ _ (hv1.below bal1.drew).all (hx1.below bal1.drew).all).mono ?_)
        rintro e w8 ⟨rfl, hb8⟩
        rw [Hq2.out]
        go_wp2_with fail
        refine hK.out _ _ ?_ (fun hHeld1 => ?_)
        · exact ⟨bcell hb8 (dcell (s0_)), bcell hb8 (dcell (s1_)), bcell hb8 (dcell (s2_)), bcell hb8 (dcell (s3_))⟩
        clear hK K hHeld0
        (try simp only [Act.put, List.setIfInBounds_toArray, List.set_cons_zero, List.set_cons_succ])
        refine wpAnyH_take (i := 4) (oi := { dst := some 29, op := Op.binOp BinOp.eql 4 (Operand.tmp 25) (Operand.tmp 28) 4, type := 4, pos := "laws.go:63", after := #[{ on := 0, ground := Ground.data }, { on := 3, ground := Ground.data }], guard := none }) (v := .bool true) rfl (by kernel_rfl) (by kernel_rfl) (by kernel_rfl) (fun _ _ _ h => h) (Or.inl ⟨by rfl, ?_⟩) hHeld1 ?_
        · intro w' hSw; (try dsimp only at hSw); go_simp
        (try simp only [Act.put, List.setIfInBounds_toArray, List.set_cons_zero, List.set_cons_succ])
        refine wpAnyH_take (i := 5) (oi := { dst := some 30, op := Op.move (Operand.tmp 29), type := 4, pos := "laws.go:63", after := #[{ on := 4, ground := Ground.data }, { on := 3, ground := Ground.chain }], guard := none }) (v := .bool true) rfl (by kernel_rfl) (by kernel_rfl) (by kernel_rfl) (fun _ _ _ h => h) (Or.inl ⟨by rfl, ?_⟩) hHeld1 ?_
        · intro w' hSw; (try dsimp only at hSw); go_simp
        (try simp only [Act.put, List.setIfInBounds_toArray, List.set_cons_zero, List.set_cons_succ])
        refine wpAnyH_take (i := 6) (oi := { dst := some 31, op := Op.move (Operand.tmp 5), type := 4, pos := "laws.go:63", after := #[{ on := 5, ground := Ground.guard }], guard := some (5, true) }) (v := .bool true) rfl (by kernel_rfl) (by kernel_rfl) (by kernel_rfl) (fun _ _ _ h => h) (Or.inl ⟨by rfl, ?_⟩) hHeld1 ?_
        · intro w' hSw; (try dsimp only at hSw); go_simp
        (try simp only [Act.put, List.setIfInBounds_toArray, List.set_cons_zero, List.set_cons_succ])
        refine wpAnyH_take (i := 7) (oi := { dst := some 32, op := Op.load 29 (Operand.tmp 4), type := 29, pos := "laws.go:63", after := #[{ on := 5, ground := Ground.guard }], guard := some (5, true) }) (v := .agg #[.int .i64 kx1, .slice ax1 nx1 qx1]) rfl (by kernel_rfl) (by kernel_rfl) (by kernel_rfl) (fun _ _ _ h => h) (Or.inl ⟨by rfl, ?_⟩) hHeld1 ?_
        · intro w' hSw; (try dsimp only at hSw); go_simp
        (try simp only [Act.put, List.setIfInBounds_toArray, List.set_cons_zero, List.set_cons_succ])
        refine wpAnyH_take (i := 8) (oi := { dst := some 33, op := Op.load 29 (Operand.tmp 3), type := 29, pos := "laws.go:63", after := #[{ on := 5, ground := Ground.guard }], guard := some (5, true) }) (v := .agg #[.int .i64 kv1, .slice av1 nv1 qv1]) rfl (by kernel_rfl) (by kernel_rfl) (by kernel_rfl) (fun _ _ _ h => h) (Or.inl ⟨by rfl, ?_⟩) hHeld1 ?_
        · intro w' hSw; (try dsimp only at hSw); go_simp
        (try simp only [Act.put, List.setIfInBounds_toArray, List.set_cons_zero, List.set_cons_succ])
        refine wpAnyH_ready (rs := [9]) (by kernel_rfl) (by simp) ?_
        refine AllReadyH.cons (o := { dst := some 34, op := Op.call { callee := Callee.value (Operand.func 51), args := #[Operand.tmp 32, Operand.tmp 33], argTypes := #[29, 29] }, type := 4, pos := "laws.go:63", after := #[{ on := 7, ground := Ground.data }, { on := 8, ground := Ground.data }, { on := 5, ground := Ground.chain }, { on := 5, ground := Ground.guard }], guard := some (5, true) }) rfl (fun K hK => ?_) AllReadyH.nil
        go_simp
        go_at_call 51
        (with_reducible refine (implConsistentB _ _ u1 t1 _ _ _ (hx1.below (bstep bal1.drew hb8)).all (hv1.below (bstep bal1.drew hb8)).all).mono ?_)
        rintro e w9 ⟨rfl, hb9⟩
        rw [Hq3.out]
        go_wp2_with fail
        refine hK.out _ _ ?_ (fun hHeld2 => ?_)
        · exact ⟨bcell hb9 (bcell hb8 (dcell (s0_))), bcell hb9 (bcell hb8 (dcell (s1_))), bcell hb9 (bcell hb8 (dcell (s2_))), bcell hb9 (bcell hb8 (dcell (s3_)))⟩
        clear hK K hHeld1
        (try simp only [Act.put, List.setIfInBounds_toArray, List.set_cons_zero, List.set_cons_succ])
        refine wpAnyH_take (i := 10) (oi := { dst := some 35, op := Op.binOp BinOp.eql 4 (Operand.tmp 31) (Operand.tmp 34) 4, type := 4, pos := "laws.go:63", after := #[{ on := 6, ground := Ground.data }, { on := 9, ground := Ground.data }, { on := 5, ground := Ground.guard }], guard := some (5, true) }) (v := .bool false) rfl (by kernel_rfl) (by kernel_rfl) (by kernel_rfl) (fun _ _ _ h => h) (Or.inl ⟨by rfl, ?_⟩) hHeld2 ?_
        · intro w' hSw; (try dsimp only at hSw); go_simp
        (try simp only [Act.put, List.setIfInBounds_toArray, List.set_cons_zero, List.set_cons_succ])
        refine wpAnyH_take (i := 11) (oi := { dst := some 36, op := Op.pick (Operand.tmp 30) (Operand.tmp 35) (Operand.const (Value.bool false)), type := 4, pos := "laws.go:63", after := #[{ on := 5, ground := Ground.data }, { on := 10, ground := Ground.data }], guard := none }) (v := .bool false) rfl (by kernel_rfl) (by kernel_rfl) (by kernel_rfl) (fun _ _ _ h => h) (Or.inl ⟨by rfl, ?_⟩) hHeld2 ?_
        · intro w' hSw; (try dsimp only at hSw); go_simp
        (try simp only [Act.put, List.setIfInBounds_toArray, List.set_cons_zero, List.set_cons_succ])
        refine wpAnyH_take (i := 12) (oi := { dst := some 37, op := Op.move (Operand.tmp 36), type := 4, pos := "laws.go:63", after := #[{ on := 11, ground := Ground.data }, { on := 9, ground := Ground.chain }], guard := none }) (v := .bool false) rfl (by kernel_rfl) (by kernel_rfl) (by kernel_rfl) (fun _ _ _ h => h) (Or.inl ⟨by rfl, ?_⟩) hHeld2 ?_
        · intro w' hSw; (try dsimp only at hSw); go_simp
        (try simp only [Act.put, List.setIfInBounds_toArray, List.set_cons_zero, List.set_cons_succ])
        refine wpAnyH_take (i := 13) (oi := { dst := some 38, op := Op.move (Operand.tmp 5), type := 4, pos := "laws.go:63", after := #[{ on := 12, ground := Ground.guard }], guard := some (12, true) }) (v := undef) rfl (by kernel_rfl) (by kernel_rfl) (by kernel_rfl) (fun _ _ _ h => h) (Or.inr ⟨by rfl, rfl⟩) hHeld2 ?_
        (try simp only [Act.put, List.setIfInBounds_toArray, List.set_cons_zero, List.set_cons_succ])
        refine wpAnyH_take (i := 14) (oi := { dst := some 39, op := Op.move (Operand.tmp 7), type := 4, pos := "laws.go:63", after := #[{ on := 12, ground := Ground.guard }], guard := some (12, true) }) (v := undef) rfl (by kernel_rfl) (by kernel_rfl) (by kernel_rfl) (fun _ _ _ h => h) (Or.inr ⟨by rfl, rfl⟩) hHeld2 ?_
        (try simp only [Act.put, List.setIfInBounds_toArray, List.set_cons_zero, List.set_cons_succ])
        refine wpAnyH_take (i := 15) (oi := { dst := some 40, op := Op.binOp BinOp.eql 4 (Operand.tmp 38) (Operand.tmp 39) 4, type := 4, pos := "laws.go:63", after := #[{ on := 13, ground := Ground.data }, { on := 14, ground := Ground.data }, { on := 12, ground := Ground.guard }], guard := some (12, true) }) (v := undef) rfl (by kernel_rfl) (by kernel_rfl) (by kernel_rfl) (fun _ _ _ h => h) (Or.inr ⟨by rfl, rfl⟩) hHeld2 ?_
        (try simp only [Act.put, List.setIfInBounds_toArray, List.set_cons_zero, List.set_cons_succ])
        refine wpAnyH_take (i := 16) (oi := { dst := some 41, op := Op.pick (Operand.tmp 37) (Operand.tmp 40) (Operand.const (Value.bool false)), type := 4, pos := "laws.go:63", after := #[{ on := 12, ground := Ground.data }, { on := 15, ground := Ground.data }], guard := none }) (v := .bool false) rfl (by kernel_rfl) (by kernel_rfl) (by kernel_rfl) (fun _ _ _ h => h) (Or.inl ⟨by rfl, ?_⟩) hHeld2 ?_
        · intro w' hSw; (try dsimp only at hSw); go_simp
        (try simp only [Act.put, List.setIfInBounds_toArray, List.set_cons_zero, List.set_cons_succ])
        refine wpAnyH_take (i := 17) (oi := { dst := some 42, op := Op.move (Operand.tmp 41), type := 4, pos := "laws.go:63", after := #[{ on := 16, ground := Ground.data }, { on := 12, ground := Ground.chain }], guard := none }) (v := .bool false) rfl (by kernel_rfl) (by kernel_rfl) (by kernel_rfl) (fun _ _ _ h => h) (Or.inl ⟨by rfl, ?_⟩) hHeld2 ?_
        · intro w' hSw; (try dsimp only at hSw); go_simp
        (try simp only [Act.put, List.setIfInBounds_toArray, List.set_cons_zero, List.set_cons_succ])
        refine wpAnyH_take (i := 18) (oi := { dst := some 43, op := Op.load 29 (Operand.tmp 3), type := 29, pos := "laws.go:63", after := #[{ on := 17, ground := Ground.guard }], guard := some (17, true) }) (v := undef) rfl (by kernel_rfl) (by kernel_rfl) (by kernel_rfl) (fun _ _ _ h => h) (Or.inr ⟨by rfl, rfl⟩) hHeld2 ?_
        (try simp only [Act.put, List.setIfInBounds_toArray, List.set_cons_zero, List.set_cons_succ])
        refine wpAnyH_take (i := 19) (oi := { dst := some 44, op := Op.load 29 (Operand.tmp 3), type := 29, pos := "laws.go:63", after := #[{ on := 17, ground := Ground.guard }], guard := some (17, true) }) (v := undef) rfl (by kernel_rfl) (by kernel_rfl) (by kernel_rfl) (fun _ _ _ h => h) (Or.inr ⟨by rfl, rfl⟩) hHeld2 ?_
        (try simp only [Act.put, List.setIfInBounds_toArray, List.set_cons_zero, List.set_cons_succ])
        refine wpAnyH_take (i := 20) (oi := { dst := some 45, op := Op.call { callee := Callee.value (Operand.func 51), args := #[Operand.tmp 43, Operand.tmp 44], argTypes := #[29, 29] }, type := 4, pos := "laws.go:63", after := #[{ on := 18, ground := Ground.data }, { on := 19, ground := Ground.data }, { on := 17, ground := Ground.chain }, { on := 17, ground := Ground.guard }], guard := some (17, true) }) (v := undef) rfl (by kernel_rfl) (by kernel_rfl) (by kernel_rfl) (fun _ _ _ h => h) (Or.inr ⟨by rfl, rfl⟩) hHeld2 ?_
        (try simp only [Act.put, List.setIfInBounds_toArray, List.set_cons_zero, List.set_cons_succ])
        refine wpAnyH_take (i := 21) (oi := { dst := some 46, op := Op.load 29 (Operand.tmp 3), type := 29, pos := "laws.go:63", after := #[{ on := 17, ground := Ground.guard }], guard := some (17, true) }) (v := undef) rfl (by kernel_rfl) (by kernel_rfl) (by kernel_rfl) (fun _ _ _ h => h) (Or.inr ⟨by rfl, rfl⟩) hHeld2 ?_
        (try simp only [Act.put, List.setIfInBounds_toArray, List.set_cons_zero, List.set_cons_succ])
        refine wpAnyH_take (i := 22) (oi := { dst := some 47, op := Op.call { callee := Callee.value (Operand.func 40), args := #[Operand.tmp 46], argTypes := #[29] }, type := 4, pos := "laws.go:63", after := #[{ on := 21, ground := Ground.data }, { on := 20, ground := Ground.chain }, { on := 17, ground := Ground.guard }], guard := some (17, true) }) (v := undef) rfl (by kernel_rfl) (by kernel_rfl) (by kernel_rfl) (fun _ _ _ h => h) (Or.inr ⟨by rfl, rfl⟩) hHeld2 ?_
        (try simp only [Act.put, List.setIfInBounds_toArray, List.set_cons_zero, List.set_cons_succ])
        refine wpAnyH_take (i := 23) (oi := { dst := some 48, op := Op.binOp BinOp.eql 4 (Operand.tmp 45) (Operand.tmp 47) 4, type := 4, pos := "laws.go:63", after := #[{ on := 20, ground := Ground.data }, { on := 22, ground := Ground.data }, { on := 17, ground := Ground.guard }], guard := some (17, true) }) (v := undef) rfl (by kernel_rfl) (by kernel_rfl) (by kernel_rfl) (fun _ _ _ h => h) (Or.inr ⟨by rfl, rfl⟩) hHeld2 ?_
        (try simp only [Act.put, List.setIfInBounds_toArray, List.set_cons_zero, List.set_cons_succ])
        refine wpAnyH_take (i := 24) (oi := { dst := some 49, op := Op.pick (Operand.tmp 42) (Operand.tmp 48) (Operand.const (Value.bool false)), type := 4, pos := "laws.go:63", after := #[{ on := 17, ground := Ground.data }, { on := 23, ground := Ground.data }], guard := none }) (v := .bool false) rfl (by kernel_rfl) (by kernel_rfl) (by kernel_rfl) (fun _ _ _ h => h) (Or.inl ⟨by rfl, ?_⟩) hHeld2 ?_
        · intro w' hSw; (try dsimp only at hSw); go_simp
        (try simp only [Act.put, List.setIfInBounds_toArray, List.set_cons_zero, List.set_cons_succ])
        refine wpAnyH_take (i := 25) (oi := { dst := some 2, op := Op.assign (Operand.tmp 49), type := 4, pos := "laws.go:63", after := #[{ on := 24, ground := Ground.data }, { on := 22, ground := Ground.chain }, { on := 0, ground := Ground.phase }, { on := 1, ground := Ground.phase }, { on := 2, ground := Ground.phase }, { on := 3, ground := Ground.phase }, { on := 4, ground := Ground.phase }, { on := 5, ground := Ground.phase }, { on := 6, ground := Ground.phase }, { on := 7, ground := Ground.phase }, { on := 8, ground := Ground.phase }, { on := 9, ground := Ground.phase }, { on := 10, ground := Ground.phase }, { on := 11, ground := Ground.phase }, { on := 12, ground := Ground.phase }, { on := 13, ground := Ground.phase }, { on := 14, ground := Ground.phase }, { on := 15, ground := Ground.phase }, { on := 16, ground := Ground.phase }, { on := 17, ground := Ground.phase }, { on := 18, ground := Ground.phase }, { on := 19, ground := Ground.phase }, { on := 20, ground := Ground.phase }, { on := 21, ground := Ground.phase }, { on := 22, ground := Ground.phase }, { on := 23, ground := Ground.phase }, { on := 24, ground := Ground.phase }], guard := none }) (v := .bool false) rfl (by kernel_rfl) (by kernel_rfl) (by kernel_rfl) (fun _ _ _ h => h) (Or.inl ⟨by rfl, ?_⟩) hHeld2 ?_
        · intro w' hSw; (try dsimp only at hSw); go_simp
        (try simp only [Act.put, List.setIfInBounds_toArray, List.set_cons_zero, List.set_cons_succ])
        refine wpAnyH_done (by kernel_rfl) ?_ _
        refine NoPanic.normal ?_
        clear hHeld2 s0_ s1_ s2_ s3_
        replace hB := (bstep (bstep (hB.alloc hB.size _).drew hb8) hb9)
        have zw9 := hB.size
        go_wp2_with fail
        exact (leaf_FnConsistent_0 Hq2.out Hq3.out).elim
    · (try rw [q2])
      have Hq2 := Lib.hid q2
      clear q2
      rcases Bool.eq_false_or_eq_true (consB u1 t1) with q4 | q4
      · have Hq4 := Lib.hid q4
        clear q4
        go_wp2_with fail
        have s0_ : (World.alloc w3 (Obj.cells #[.int .i64 kr3, .slice ar3 nr3 qr3] 29)).cell? ⟨w1.heap.size, 0, none⟩ = some (.int .i64 kv1) := bcell bal1 (c0_0)
        have s1_ : (World.alloc w3 (Obj.cells #[.int .i64 kr3, .slice ar3 nr3 qr3] 29)).cell? ⟨w1.heap.size, 1, none⟩ = some (.slice av1 nv1 qv1) := bcell bal1 (c0_1)
        have s2_ : (World.alloc w3 (Obj.cells #[.int .i64 kr3, .slice ar3 nr3 qr3] 29)).cell? ⟨w1.heap.size + 1, 0, none⟩ = some (.int .i64 kx1) := bcell bal1 (c1_0)
        have s3_ : (World.alloc w3 (Obj.cells #[.int .i64 kr3, .slice ar3 nr3 qr3] 29)).cell? ⟨w1.heap.size + 1, 1, none⟩ = some (.slice ax1 nx1 qx1) := bcell bal1 (c1_1)
        refine wp_region_noPanic ?_
        refine wp_region_held_drew (S := fun w' => w'.cell? ⟨w1.heap.size, 0, none⟩ = some (.int .i64 kv1) ∧ w'.cell? ⟨w1.heap.size, 1, none⟩ = some (.slice av1 nv1 qv1) ∧ w'.cell? ⟨w1.heap.size + 1, 0, none⟩ = some (.int .i64 kx1) ∧ w'.cell? ⟨w1.heap.size + 1, 1, none⟩ = some (.slice ax1 nx1 qx1)) (by kernel_rfl) ?_ (fun hHeld0 => ?_)
        · exact ⟨dcell (s0_), dcell (s1_), dcell (s2_), dcell (s3_)⟩
        refine wpAnyH_take (i := 0) (oi := { dst := some 25, op := Op.move (Operand.tmp 5), type := 4, pos := "laws.go:63", after := #[], guard := none }) (v := .bool false) rfl (by kernel_rfl) (by kernel_rfl) (by kernel_rfl) (fun _ _ _ h => h) (Or.inl ⟨by rfl, ?_⟩) hHeld0 ?_
        · intro w' hSw; (try dsimp only at hSw); go_simp
        (try simp only [Act.put, List.setIfInBounds_toArray, List.set_cons_zero, List.set_cons_succ])
        refine wpAnyH_take (i := 1) (oi := { dst := some 26, op := Op.load 29 (Operand.tmp 3), type := 29, pos := "laws.go:63", after := #[], guard := none }) (v := .agg #[.int .i64 kv1, .slice av1 nv1 qv1]) rfl (by kernel_rfl) (by kernel_rfl) (by kernel_rfl) (fun _ _ _ h => h) (Or.inl ⟨by rfl, ?_⟩) hHeld0 ?_
        · intro w' hSw; (try dsimp only at hSw); go_simp
        (try simp only [Act.put, List.setIfInBounds_toArray, List.set_cons_zero, List.set_cons_succ])
        refine wpAnyH_take (i := 2) (oi := { dst := some 27, op := Op.load 29 (Operand.tmp 4), type := 29, pos := "laws.go:63", after := #[], guard := none }) (v := .agg #[.int .i64 kx1, .slice ax1 nx1 qx1]) rfl (by kernel_rfl) (by kernel_rfl) (by kernel_rfl) (fun _ _ _ h => h) (Or.inl ⟨by rfl, ?_⟩) hHeld0 ?_
        · intro w' hSw; (try dsimp only at hSw); go_simp
        (try simp only [Act.put, List.setIfInBounds_toArray, List.set_cons_zero, List.set_cons_succ])
        refine wpAnyH_ready (rs := [3]) (by kernel_rfl) (by simp) ?_
        refine AllReadyH.cons (o := { dst := some 28, op := Op.call { callee := Callee.value (Operand.func 50), args := #[Operand.tmp 26, Operand.tmp 27], argTypes := #[29, 29] }, type := 4, pos := "laws.go:63", after := #[{ on := 1, ground := Ground.data }, { on := 2, ground := Ground.data }], guard := none }) rfl (fun K hK => ?_) AllReadyH.nil
        go_simp
        go_at_call 50
        (with_reducible refine (specConsistentB _ _ t1 u1 _ _ _ (hv1.below bal1.drew).all (hx1.below bal1.drew).all).mono ?_)
        rintro e w10 ⟨rfl, hb10⟩
        rw [Hq2.out]
        go_wp2_with fail
        refine hK.out _ _ ?_ (fun hHeld1 => ?_)
        · exact ⟨bcell hb10 (dcell (s0_)), bcell hb10 (dcell (s1_)), bcell hb10 (dcell (s2_)), bcell hb10 (dcell (s3_))⟩
        clear hK K hHeld0
        (try simp only [Act.put, List.setIfInBounds_toArray, List.set_cons_zero, List.set_cons_succ])
        refine wpAnyH_take (i := 4) (oi := { dst := some 29, op := Op.binOp BinOp.eql 4 (Operand.tmp 25) (Operand.tmp 28) 4, type := 4, pos := "laws.go:63", after := #[{ on := 0, ground := Ground.data }, { on := 3, ground := Ground.data }], guard := none }) (v := .bool true) rfl (by kernel_rfl) (by kernel_rfl) (by kernel_rfl) (fun _ _ _ h => h) (Or.inl ⟨by rfl, ?_⟩) hHeld1 ?_
        · intro w' hSw; (try dsimp only at hSw); go_simp
        (try simp only [Act.put, List.setIfInBounds_toArray, List.set_cons_zero, List.set_cons_succ])
        refine wpAnyH_take (i := 5) (oi := { dst := some 30, op := Op.move (Operand.tmp 29), type := 4, pos := "laws.go:63", after := #[{ on := 4, ground := Ground.data }, { on := 3, ground := Ground.chain }], guard := none }) (v := .bool true) rfl (by kernel_rfl) (by kernel_rfl) (by kernel_rfl) (fun _ _ _ h => h) (Or.inl ⟨by rfl, ?_⟩) hHeld1 ?_
        · intro w' hSw; (try dsimp only at hSw); go_simp
        (try simp only [Act.put, List.setIfInBounds_toArray, List.set_cons_zero, List.set_cons_succ])
        refine wpAnyH_take (i := 6) (oi := { dst := some 31, op := Op.move (Operand.tmp 5), type := 4, pos := "laws.go:63", after := #[{ on := 5, ground := Ground.guard }], guard := some (5, true) }) (v := .bool false) rfl (by kernel_rfl) (by kernel_rfl) (by kernel_rfl) (fun _ _ _ h => h) (Or.inl ⟨by rfl, ?_⟩) hHeld1 ?_
        · intro w' hSw; (try dsimp only at hSw); go_simp
        (try simp only [Act.put, List.setIfInBounds_toArray, List.set_cons_zero, List.set_cons_succ])
        refine wpAnyH_take (i := 7) (oi := { dst := some 32, op := Op.load 29 (Operand.tmp 4), type := 29, pos := "laws.go:63", after := #[{ on := 5, ground := Ground.guard }], guard := some (5, true) }) (v := .agg #[.int .i64 kx1, .slice ax1 nx1 qx1]) rfl (by kernel_rfl) (by kernel_rfl) (by kernel_rfl) (fun _ _ _ h => h) (Or.inl ⟨by rfl, ?_⟩) hHeld1 ?_
        · intro w' hSw; (try dsimp only at hSw); go_simp
        (try simp only [Act.put, List.setIfInBounds_toArray, List.set_cons_zero, List.set_cons_succ])
        refine wpAnyH_take (i := 8) (oi := { dst := some 33, op := Op.load 29 (Operand.tmp 3), type := 29, pos := "laws.go:63", after := #[{ on := 5, ground := Ground.guard }], guard := some (5, true) }) (v := .agg #[.int .i64 kv1, .slice av1 nv1 qv1]) rfl (by kernel_rfl) (by kernel_rfl) (by kernel_rfl) (fun _ _ _ h => h) (Or.inl ⟨by rfl, ?_⟩) hHeld1 ?_
        · intro w' hSw; (try dsimp only at hSw); go_simp
        (try simp only [Act.put, List.setIfInBounds_toArray, List.set_cons_zero, List.set_cons_succ])
        refine wpAnyH_ready (rs := [9]) (by kernel_rfl) (by simp) ?_
        refine AllReadyH.cons (o := { dst := some 34, op := Op.call { callee := Callee.value (Operand.func 51), args := #[Operand.tmp 32, Operand.tmp 33], argTypes := #[29, 29] }, type := 4, pos := "laws.go:63", after := #[{ on := 7, ground := Ground.data }, { on := 8, ground := Ground.data }, { on := 5, ground := Ground.chain }, { on := 5, ground := Ground.guard }], guard := some (5, true) }) rfl (fun K hK => ?_) AllReadyH.nil
        go_simp
        go_at_call 51
        (with_reducible refine (implConsistentB _ _ u1 t1 _ _ _ (hx1.below (bstep bal1.drew hb10)).all (hv1.below (bstep bal1.drew hb10)).all).mono ?_)
        rintro e w11 ⟨rfl, hb11⟩
        rw [Hq4.out]
        go_wp2_with fail
        refine hK.out _ _ ?_ (fun hHeld2 => ?_)
        · exact ⟨bcell hb11 (bcell hb10 (dcell (s0_))), bcell hb11 (bcell hb10 (dcell (s1_))), bcell hb11 (bcell hb10 (dcell (s2_))), bcell hb11 (bcell hb10 (dcell (s3_)))⟩
        clear hK K hHeld1
        (try simp only [Act.put, List.setIfInBounds_toArray, List.set_cons_zero, List.set_cons_succ])
        refine wpAnyH_take (i := 10) (oi := { dst := some 35, op := Op.binOp BinOp.eql 4 (Operand.tmp 31) (Operand.tmp 34) 4, type := 4, pos := "laws.go:63", after := #[{ on := 6, ground := Ground.data }, { on := 9, ground := Ground.data }, { on := 5, ground := Ground.guard }], guard := some (5, true) }) (v := .bool false) rfl (by kernel_rfl) (by kernel_rfl) (by kernel_rfl) (fun _ _ _ h => h) (Or.inl ⟨by rfl, ?_⟩) hHeld2 ?_
        · intro w' hSw; (try dsimp only at hSw); go_simp
        (try simp only [Act.put, List.setIfInBounds_toArray, List.set_cons_zero, List.set_cons_succ])
        refine wpAnyH_take (i := 11) (oi := { dst := some 36, op := Op.pick (Operand.tmp 30) (Operand.tmp 35) (Operand.const (Value.bool false)), type := 4, pos := "laws.go:63", after := #[{ on := 5, ground := Ground.data }, { on := 10, ground := Ground.data }], guard := none }) (v := .bool false) rfl (by kernel_rfl) (by kernel_rfl) (by kernel_rfl) (fun _ _ _ h => h) (Or.inl ⟨by rfl, ?_⟩) hHeld2 ?_
        · intro w' hSw; (try dsimp only at hSw); go_simp
        (try simp only [Act.put, List.setIfInBounds_toArray, List.set_cons_zero, List.set_cons_succ])
        refine wpAnyH_take (i := 12) (oi := { dst := some 37, op := Op.move (Operand.tmp 36), type := 4, pos := "laws.go:63", after := #[{ on := 11, ground := Ground.data }, { on := 9, ground := Ground.chain }], guard := none }) (v := .bool false) rfl (by kernel_rfl) (by kernel_rfl) (by kernel_rfl) (fun _ _ _ h => h) (Or.inl ⟨by rfl, ?_⟩) hHeld2 ?_
        · intro w' hSw; (try dsimp only at hSw); go_simp
        (try simp only [Act.put, List.setIfInBounds_toArray, List.set_cons_zero, List.set_cons_succ])
        refine wpAnyH_take (i := 13) (oi := { dst := some 38, op := Op.move (Operand.tmp 5), type := 4, pos := "laws.go:63", after := #[{ on := 12, ground := Ground.guard }], guard := some (12, true) }) (v := undef) rfl (by kernel_rfl) (by kernel_rfl) (by kernel_rfl) (fun _ _ _ h => h) (Or.inr ⟨by rfl, rfl⟩) hHeld2 ?_
        (try simp only [Act.put, List.setIfInBounds_toArray, List.set_cons_zero, List.set_cons_succ])
        refine wpAnyH_take (i := 14) (oi := { dst := some 39, op := Op.move (Operand.tmp 7), type := 4, pos := "laws.go:63", after := #[{ on := 12, ground := Ground.guard }], guard := some (12, true) }) (v := undef) rfl (by kernel_rfl) (by kernel_rfl) (by kernel_rfl) (fun _ _ _ h => h) (Or.inr ⟨by rfl, rfl⟩) hHeld2 ?_
        (try simp only [Act.put, List.setIfInBounds_toArray, List.set_cons_zero, List.set_cons_succ])
        refine wpAnyH_take (i := 15) (oi := { dst := some 40, op := Op.binOp BinOp.eql 4 (Operand.tmp 38) (Operand.tmp 39) 4, type := 4, pos := "laws.go:63", after := #[{ on := 13, ground := Ground.data }, { on := 14, ground := Ground.data }, { on := 12, ground := Ground.guard }], guard := some (12, true) }) (v := undef) rfl (by kernel_rfl) (by kernel_rfl) (by kernel_rfl) (fun _ _ _ h => h) (Or.inr ⟨by rfl, rfl⟩) hHeld2 ?_
        (try simp only [Act.put, List.setIfInBounds_toArray, List.set_cons_zero, List.set_cons_succ])
        refine wpAnyH_take (i := 16) (oi := { dst := some 41, op := Op.pick (Operand.tmp 37) (Operand.tmp 40) (Operand.const (Value.bool false)), type := 4, pos := "laws.go:63", after := #[{ on := 12, ground := Ground.data }, { on := 15, ground := Ground.data }], guard := none }) (v := .bool false) rfl (by kernel_rfl) (by kernel_rfl) (by kernel_rfl) (fun _ _ _ h => h) (Or.inl ⟨by rfl, ?_⟩) hHeld2 ?_
        · intro w' hSw; (try dsimp only at hSw); go_simp
        (try simp only [Act.put, List.setIfInBounds_toArray, List.set_cons_zero, List.set_cons_succ])
        refine wpAnyH_take (i := 17) (oi := { dst := some 42, op := Op.move (Operand.tmp 41), type := 4, pos := "laws.go:63", after := #[{ on := 16, ground := Ground.data }, { on := 12, ground := Ground.chain }], guard := none }) (v := .bool false) rfl (by kernel_rfl) (by kernel_rfl) (by kernel_rfl) (fun _ _ _ h => h) (Or.inl ⟨by rfl, ?_⟩) hHeld2 ?_
        · intro w' hSw; (try dsimp only at hSw); go_simp
        (try simp only [Act.put, List.setIfInBounds_toArray, List.set_cons_zero, List.set_cons_succ])
        refine wpAnyH_take (i := 18) (oi := { dst := some 43, op := Op.load 29 (Operand.tmp 3), type := 29, pos := "laws.go:63", after := #[{ on := 17, ground := Ground.guard }], guard := some (17, true) }) (v := undef) rfl (by kernel_rfl) (by kernel_rfl) (by kernel_rfl) (fun _ _ _ h => h) (Or.inr ⟨by rfl, rfl⟩) hHeld2 ?_
        (try simp only [Act.put, List.setIfInBounds_toArray, List.set_cons_zero, List.set_cons_succ])
        refine wpAnyH_take (i := 19) (oi := { dst := some 44, op := Op.load 29 (Operand.tmp 3), type := 29, pos := "laws.go:63", after := #[{ on := 17, ground := Ground.guard }], guard := some (17, true) }) (v := undef) rfl (by kernel_rfl) (by kernel_rfl) (by kernel_rfl) (fun _ _ _ h => h) (Or.inr ⟨by rfl, rfl⟩) hHeld2 ?_
        (try simp only [Act.put, List.setIfInBounds_toArray, List.set_cons_zero, List.set_cons_succ])
        refine wpAnyH_take (i := 20) (oi := { dst := some 45, op := Op.call { callee := Callee.value (Operand.func 51), args := #[Operand.tmp 43, Operand.tmp 44], argTypes := #[29, 29] }, type := 4, pos := "laws.go:63", after := #[{ on := 18, ground := Ground.data }, { on := 19, ground := Ground.data }, { on := 17, ground := Ground.chain }, { on := 17, ground := Ground.guard }], guard := some (17, true) }) (v := undef) rfl (by kernel_rfl) (by kernel_rfl) (by kernel_rfl) (fun _ _ _ h => h) (Or.inr ⟨by rfl, rfl⟩) hHeld2 ?_
        (try simp only [Act.put, List.setIfInBounds_toArray, List.set_cons_zero, List.set_cons_succ])
        refine wpAnyH_take (i := 21) (oi := { dst := some 46, op := Op.load 29 (Operand.tmp 3), type := 29, pos := "laws.go:63", after := #[{ on := 17, ground := Ground.guard }], guard := some (17, true) }) (v := undef) rfl (by kernel_rfl) (by kernel_rfl) (by kernel_rfl) (fun _ _ _ h => h) (Or.inr ⟨by rfl, rfl⟩) hHeld2 ?_
        (try simp only [Act.put, List.setIfInBounds_toArray, List.set_cons_zero, List.set_cons_succ])
        refine wpAnyH_take (i := 22) (oi := { dst := some 47, op := Op.call { callee := Callee.value (Operand.func 40), args := #[Operand.tmp 46], argTypes := #[29] }, type := 4, pos := "laws.go:63", after := #[{ on := 21, ground := Ground.data }, { on := 20, ground := Ground.chain }, { on := 17, ground := Ground.guard }], guard := some (17, true) }) (v := undef) rfl (by kernel_rfl) (by kernel_rfl) (by kernel_rfl) (fun _ _ _ h => h) (Or.inr ⟨by rfl, rfl⟩) hHeld2 ?_
        (try simp only [Act.put, List.setIfInBounds_toArray, List.set_cons_zero, List.set_cons_succ])
        refine wpAnyH_take (i := 23) (oi := { dst := some 48, op := Op.binOp BinOp.eql 4 (Operand.tmp 45) (Operand.tmp 47) 4, type := 4, pos := "laws.go:63", after := #[{ on := 20, ground := Ground.data }, { on := 22, ground := Ground.data }, { on := 17, ground := Ground.guard }], guard := some (17, true) }) (v := undef) rfl (by kernel_rfl) (by kernel_rfl) (by kernel_rfl) (fun _ _ _ h => h) (Or.inr ⟨by rfl, rfl⟩) hHeld2 ?_
        (try simp only [Act.put, List.setIfInBounds_toArray, List.set_cons_zero, List.set_cons_succ])
        refine wpAnyH_take (i := 24) (oi := { dst := some 49, op := Op.pick (Operand.tmp 42) (Operand.tmp 48) (Operand.const (Value.bool false)), type := 4, pos := "laws.go:63", after := #[{ on := 17, ground := Ground.data }, { on := 23, ground := Ground.data }], guard := none }) (v := .bool false) rfl (by kernel_rfl) (by kernel_rfl) (by kernel_rfl) (fun _ _ _ h => h) (Or.inl ⟨by rfl, ?_⟩) hHeld2 ?_
        · intro w' hSw; (try dsimp only at hSw); go_simp
        (try simp only [Act.put, List.setIfInBounds_toArray, List.set_cons_zero, List.set_cons_succ])
        refine wpAnyH_take (i := 25) (oi := { dst := some 2, op := Op.assign (Operand.tmp 49), type := 4, pos := "laws.go:63", after := #[{ on := 24, ground := Ground.data }, { on := 22, ground := Ground.chain }, { on := 0, ground := Ground.phase }, { on := 1, ground := Ground.phase }, { on := 2, ground := Ground.phase }, { on := 3, ground := Ground.phase }, { on := 4, ground := Ground.phase }, { on := 5, ground := Ground.phase }, { on := 6, ground := Ground.phase }, { on := 7, ground := Ground.phase }, { on := 8, ground := Ground.phase }, { on := 9, ground := Ground.phase }, { on := 10, ground := Ground.phase }, { on := 11, ground := Ground.phase }, { on := 12, ground := Ground.phase }, { on := 13, ground := Ground.phase }, { on := 14, ground := Ground.phase }, { on := 15, ground := Ground.phase }, { on := 16, ground := Ground.phase }, { on := 17, ground := Ground.phase }, { on := 18, ground := Ground.phase }, { on := 19, ground := Ground.phase }, { on := 20, ground := Ground.phase }, { on := 21, ground := Ground.phase }, { on := 22, ground := Ground.phase }, { on := 23, ground := Ground.phase }, { on := 24, ground := Ground.phase }], guard := none }) (v := .bool false) rfl (by kernel_rfl) (by kernel_rfl) (by kernel_rfl) (fun _ _ _ h => h) (Or.inl ⟨by rfl, ?_⟩) hHeld2 ?_
        · intro w' hSw; (try dsimp only at hSw); go_simp
        (try simp only [Act.put, List.setIfInBounds_toArray, List.set_cons_zero, List.set_cons_succ])
        refine wpAnyH_done (by kernel_rfl) ?_ _
        refine NoPanic.normal ?_
        clear hHeld2 s0_ s1_ s2_ s3_
        replace hB := (bstep (bstep (hB.alloc hB.size _).drew hb10) hb11)
        have zw11 := hB.size
        go_wp2_with fail
        exact (leaf_FnConsistent_1 Hq2.out Hq4.out).elim
      · have Hq4 := Lib.hid q4
        clear q4
        go_wp2_with fail
        have s0_ : (World.alloc w3 (Obj.cells #[.int .i64 kr3, .slice ar3 nr3 qr3] 29)).cell? ⟨w1.heap.size, 0, none⟩ = some (.int .i64 kv1) := bcell bal1 (c0_0)
        have s1_ : (World.alloc w3 (Obj.cells #[.int .i64 kr3, .slice ar3 nr3 qr3] 29)).cell? ⟨w1.heap.size, 1, none⟩ = some (.slice av1 nv1 qv1) := bcell bal1 (c0_1)
        have s2_ : (World.alloc w3 (Obj.cells #[.int .i64 kr3, .slice ar3 nr3 qr3] 29)).cell? ⟨w1.heap.size + 1, 0, none⟩ = some (.int .i64 kx1) := bcell bal1 (c1_0)
        have s3_ : (World.alloc w3 (Obj.cells #[.int .i64 kr3, .slice ar3 nr3 qr3] 29)).cell? ⟨w1.heap.size + 1, 1, none⟩ = some (.slice ax1 nx1 qx1) := bcell bal1 (c1_1)
        have hS0 := Lib.hid (show (World.drew (World.alloc w3 (Obj.cells #[.int .i64 kr3, .slice ar3 nr3 qr3] 29))).cell? ⟨w1.heap.size, 0, none⟩ = some (.int .i64 kv1) ∧ (World.drew (World.alloc w3 (Obj.cells #[.int .i64 kr3, .slice ar3 nr3 qr3] 29))).cell? ⟨w1.heap.size, 1, none⟩ = some (.slice av1 nv1 qv1) ∧ (World.drew (World.alloc w3 (Obj.cells #[.int .i64 kr3, .slice ar3 nr3 qr3] 29))).cell? ⟨w1.heap.size + 1, 0, none⟩ = some (.int .i64 kx1) ∧ (World.drew (World.alloc w3 (Obj.cells #[.int .i64 kr3, .slice ar3 nr3 qr3] 29))).cell? ⟨w1.heap.size + 1, 1, none⟩ = some (.slice ax1 nx1 qx1) from ⟨dcell (s0_), dcell (s1_), dcell (s2_), dcell (s3_)⟩)
        have hSb := Lib.hid (show ∀ X Y : World, Below X.heap.size X Y → (X.cell? ⟨w1.heap.size, 0, none⟩ = some (.int .i64 kv1) ∧ X.cell? ⟨w1.heap.size, 1, none⟩ = some (.slice av1 nv1 qv1) ∧ X.cell? ⟨w1.heap.size + 1, 0, none⟩ = some (.int .i64 kx1) ∧ X.cell? ⟨w1.heap.size + 1, 1, none⟩ = some (.slice ax1 nx1 qx1)) → (Y.cell? ⟨w1.heap.size, 0, none⟩ = some (.int .i64 kv1) ∧ Y.cell? ⟨w1.heap.size, 1, none⟩ = some (.slice av1 nv1 qv1) ∧ Y.cell? ⟨w1.heap.size + 1, 0, none⟩ = some (.int .i64 kx1) ∧ Y.cell? ⟨w1.heap.size + 1, 1, none⟩ = some (.slice ax1 nx1 qx1)) from fun X Y h s => ⟨bcell h s.1, bcell h s.2.1, bcell h s.2.2.1, bcell h s.2.2.2⟩)
        go_region_held3 (fun w' => w'.cell? ⟨w1.heap.size, 0, none⟩ = some (.int .i64 kv1) ∧ w'.cell? ⟨w1.heap.size, 1, none⟩ = some (.slice av1 nv1 qv1) ∧ w'.cell? ⟨w1.heap.size + 1, 0, none⟩ = some (.int .i64 kx1) ∧ w'.cell? ⟨w1.heap.size + 1, 1, none⟩ = some (.slice ax1 nx1 qx1))
          (repeat (first | with_reducible refine hSb.out _ _ hb15 ?_ | with_reducible refine hSb.out _ _ hb14 ?_ | with_reducible refine hSb.out _ _ hb13 ?_ | with_reducible refine hSb.out _ _ hb12 ?_ | with_reducible exact hS0.out))
          (first | (go_at_call 50; ((with_reducible refine (specConsistentB _ _ t1 u1 _ _ _ (hv1.below bal1.drew).all (hx1.below bal1.drew).all).mono ?_); rintro e w12 ⟨rfl, hb12⟩; rw [Hq2.out])) | (go_at_call 51; ((with_reducible refine (implConsistentB _ _ u1 t1 _ _ _ (hx1.below (bstep bal1.drew hb12)).all (hv1.below (bstep bal1.drew hb12)).all).mono ?_); rintro e w13 ⟨rfl, hb13⟩; rw [Hq4.out])) | (go_at_call 51; ((with_reducible refine (implConsistentSelf _ _ t1 _ _ _ (hv1.below (bstep (bstep bal1.drew hb12) hb13)).all (hv1.below (bstep (bstep bal1.drew hb12) hb13)).all).mono ?_); rintro e w14 ⟨rfl, hb14⟩)) | (go_at_call 40; ((with_reducible refine (implTypeValid _ t1 _ _ (hv1.below (bstep (bstep (bstep bal1.drew hb12) hb13) hb14)).all).mono ?_); rintro e w15 ⟨rfl, hb15⟩)))
        clear s0_ s1_ s2_ s3_
        replace hB := (bstep (bstep (bstep (bstep (hB.alloc hB.size _).drew hb12) hb13) hb14) hb15)
        have zw15 := hB.size
        go_wp2_with fail
        refine bodyPost_ret (v := .bool true) (by simp [results, Try.results23, go_sem]) rfl ?_
        exact ⟨rfl, hB⟩
end Go.Proofs.Ytjkkahlcbhcifaa
