/-
  FnTypeText returns true: the walk.
-/
import Derived.Test.YtikkneahhgmdjaaB39
import Derived.Test.YtikkneahhgmdjaaB44
import Derived.Test.YtikkneahhgmdjaaB46
import Derived.Test.YtikkneahhgmdjaaB39
namespace Go.Proofs.Ytikkneahhgmdjaa
open Go.RowKit
set_option linter.unusedVariables false
set_option linter.unusedSimpArgs false
set_option maxRecDepth 100000

set_option maxHeartbeats 8000000 in
theorem walk_FnTypeText (y0 y1 : Value) (w : World) (r0 : ByRep w w.heap.size y0) (r1 : ByRep w w.heap.size y1) :
    Calls Try.prog 4 #[y0, y1] w fun e w' => e = .returned (.bool true) ∧ Below w.heap.size w w' := by
  obtain ⟨a0, n0, q0, rfl⟩ := r0.shape
  obtain ⟨a1, n1, q1, rfl⟩ := r1.shape
  go_enter Try.func4, Try.ntmps4
  rcases Bool.eq_false_or_eq_true (decide ((n0 : Int) > 1048576)) with q1 | q1
  · skip
    go_wp2_with fail
    refine bodyPost_ret (v := .bool true) (by simp [results, Try.results4, go_sem]) rfl ?_
    exact ⟨rfl, (Below.refl _ _)⟩
  · skip
    rcases Bool.eq_false_or_eq_true (decide ((n1 : Int) > 1048576)) with q2 | q2
    · (try rw [q2])
      go_wp2_with fail
      refine bodyPost_ret (v := .bool true) (by simp [results, Try.results4, go_sem]) rfl ?_
      exact ⟨rfl, (Below.refl _ _)⟩
    · (try rw [q2])
      go_wp2_with fail
      refine (specDrawFormatType _ _ _ (r0.below (Below.refl _ _)) (by first | omega | (simp; done) | (simp; omega))).mono ?_
      rintro e w1 ⟨t1, v1, rfl, hv1, hb1⟩
      obtain ⟨kv1, av1, nv1, qv1, rfl⟩ := hv1.shape
      have hB := (bstep (Below.refl _ _) hb1)
      have zw1 := hB.size
      rcases Bool.eq_false_or_eq_true (Ty.valid t1) with q3 | q3
      · have Hq3 := Lib.hid q3
        clear q3
        go_wp2_with fail
        refine (implFormatType _ t1 _ _ (hv1.below bal1).all).mono ?_
        rintro e w2 ⟨rfl, hb2⟩
        have hea2 := (fmtB_ne Hq3.out).1
        have heb2 := (fmtB_ne Hq3.out).2.1
        have hec2 := (fmtB_ne Hq3.out).2.2
        replace hB := (bstep (hB.alloc hB.size _) hb2)
        have zw2 := hB.size
        have c0_0 : w2.cell? ⟨w1.heap.size, 0, none⟩ = some (.int .i64 kv1) := bcell hb2 (cell_new (by simp) 0)
        have c0_1 : w2.cell? ⟨w1.heap.size, 1, none⟩ = some (.slice av1 nv1 qv1) := bcell hb2 (cell_new (by simp) 1)
        replace hv1 := (hv1.below (bstep bal1 hb2))
        have d0_w2 := World.block_lt_of_cell? _ _ c0_0
        go_wp2_with fail
        refine (implParsePrint t1 Hq3.out _).mono ?_
        rintro e w3 ⟨v3, rfl, hv3, hb3⟩
        obtain ⟨kr3, ar3, nr3, qr3, rfl⟩ := hv3.shape
        replace hB := (bstep hB hb3)
        have zw3 := hB.size
        replace c0_0 : w3.cell? ⟨w1.heap.size, 0, none⟩ = some (.int .i64 kv1) := bcell hb3 (c0_0)
        replace c0_1 : w3.cell? ⟨w1.heap.size, 1, none⟩ = some (.slice av1 nv1 qv1) := bcell hb3 (c0_1)
        replace hv1 := (hv1.below hb3)
        have d0_w3 := World.block_lt_of_cell? _ _ c0_0
        go_wp2_with fail
        have s0_ : (World.alloc w3 (Obj.cells #[.int .i64 kr3, .slice ar3 nr3 qr3] 24)).cell? ⟨w1.heap.size, 0, none⟩ = some (.int .i64 kv1) := bcell bal1 (c0_0)
        have s1_ : (World.alloc w3 (Obj.cells #[.int .i64 kr3, .slice ar3 nr3 qr3] 24)).cell? ⟨w1.heap.size, 1, none⟩ = some (.slice av1 nv1 qv1) := bcell bal1 (c0_1)
        have s2_ : (World.alloc w3 (Obj.cells #[.int .i64 kr3, .slice ar3 nr3 qr3] 24)).cell? ⟨w3.heap.size, 0, none⟩ = some (.int .i64 kr3) := cell_new (by simp) 0
        have s3_ : (World.alloc w3 (Obj.cells #[.int .i64 kr3, .slice ar3 nr3 qr3] 24)).cell? ⟨w3.heap.size, 1, none⟩ = some (.slice ar3 nr3 qr3) := cell_new (by simp) 1
        have hS0 := Lib.hid (show (World.drew (World.alloc w3 (Obj.cells #[.int .i64 kr3, .slice ar3 nr3 qr3] 24))).cell? ⟨w1.heap.size, 0, none⟩ = some (.int .i64 kv1) ∧ (World.drew (World.alloc w3 (Obj.cells #[.int .i64 kr3, .slice ar3 nr3 qr3] 24))).cell? ⟨w1.heap.size, 1, none⟩ = some (.slice av1 nv1 qv1) ∧ (World.drew (World.alloc w3 (Obj.cells #[.int .i64 kr3, .slice ar3 nr3 qr3] 24))).cell? ⟨w3.heap.size, 0, none⟩ = some (.int .i64 kr3) ∧ (World.drew (World.alloc w3 (Obj.cells #[.int .i64 kr3, .slice ar3 nr3 qr3] 24))).cell? ⟨w3.heap.size, 1, none⟩ = some (.slice ar3 nr3 qr3) from ⟨dcell (s0_), dcell (s1_), dcell (s2_), dcell (s3_)⟩)
        have hSb := Lib.hid (show ∀ X Y : World, Below X.heap.size X Y → (X.cell? ⟨w1.heap.size, 0, none⟩ = some (.int .i64 kv1) ∧ X.cell? ⟨w1.heap.size, 1, none⟩ = some (.slice av1 nv1 qv1) ∧ X.cell? ⟨w3.heap.size, 0, none⟩ = some (.int .i64 kr3) ∧ X.cell? ⟨w3.heap.size, 1, none⟩ = some (.slice ar3 nr3 qr3)) → (Y.cell? ⟨w1.heap.size, 0, none⟩ = some (.int .i64 kv1) ∧ Y.cell? ⟨w1.heap.size, 1, none⟩ = some (.slice av1 nv1 qv1) ∧ Y.cell? ⟨w3.heap.size, 0, none⟩ = some (.int .i64 kr3) ∧ Y.cell? ⟨w3.heap.size, 1, none⟩ = some (.slice ar3 nr3 qr3)) from fun X Y h s => ⟨bcell h s.1, bcell h s.2.1, bcell h s.2.2.1, bcell h s.2.2.2⟩)
        go_region_held3 (fun w' => w'.cell? ⟨w1.heap.size, 0, none⟩ = some (.int .i64 kv1) ∧ w'.cell? ⟨w1.heap.size, 1, none⟩ = some (.slice av1 nv1 qv1) ∧ w'.cell? ⟨w3.heap.size, 0, none⟩ = some (.int .i64 kr3) ∧ w'.cell? ⟨w3.heap.size, 1, none⟩ = some (.slice ar3 nr3 qr3))
          (repeat (first | with_reducible refine hSb.out _ _ hb8 ?_ | with_reducible refine hSb.out _ _ hb7 ?_ | with_reducible refine hSb.out _ _ hb6 ?_ | with_reducible refine hSb.out _ _ hb5 ?_ | with_reducible refine hSb.out _ _ hb4 ?_ | with_reducible exact hS0.out))
          (first | (go_at_call 12; ((with_reducible refine (specFormatType _ t1 _ _ (hv1.below bal1.drew).all).mono ?_); rintro e w4 ⟨rfl, hb4⟩; have hea4 := (fmtB_ne Hq3.out).1; have heb4 := (fmtB_ne Hq3.out).2.1; have hec4 := (fmtB_ne Hq3.out).2.2)) | (go_at_call 13; ((with_reducible refine (implTypeValid _ t1 _ _ (hv1.below (bstep bal1.drew hb4)).all).mono ?_); rintro e w5 ⟨rfl, hb5⟩; rw [Hq3.out])) | (go_at_call 14; ((with_reducible refine (specTypeValid _ t1 _ _ (hv1.below (bstep (bstep bal1.drew hb4) hb5)).all).mono ?_); rintro e w6 ⟨rfl, hb6⟩; rw [Hq3.out])) | (go_at_call 14; ((with_reducible refine (specTypeValid _ t1 _ _ (hv1.below (bstep (bstep (bstep bal1.drew hb4) hb5) hb6)).all).mono ?_); rintro e w7 ⟨rfl, hb7⟩; rw [Hq3.out])) | (go_at_call 15; ((with_reducible refine (implTypeSameS t1 _ _ _ (hv3.below (bstep (bstep (bstep (bstep bal1.drew hb4) hb5) hb6) hb7)).rep.all (hv1.below (bstep (bstep (bstep (bstep bal1.drew hb4) hb5) hb6) hb7)).all).mono ?_); rintro e w8 ⟨rfl, hb8⟩)))
        clear s0_ s1_ s2_ s3_
        replace hB := (bstep (bstep (bstep (bstep (bstep (hB.alloc hB.size _).drew hb4) hb5) hb6) hb7) hb8)
        have zw8 := hB.size
        go_wp2_with fail
        refine (specDrawParseType _ _ _ (r1.below hB) (by first | omega | (simp; done) | (simp; omega))).mono ?_
        rintro e w9 ⟨x9, rfl, hz9, hb9⟩
        replace hB := (bstep hB hb9)
        have zw9 := hB.size
        go_wp2_with fail
        refine (implParseX x9 _).mono ?_
        rintro e w10 ⟨v10, rfl, hv10, hb10⟩
        obtain ⟨kr10, ar10, nr10, qr10, rfl⟩ := hv10.shape
        replace hB := (bstep hB hb10)
        have zw10 := hB.size
        go_wp2_with fail
        refine (specParseX' x9 hz9 _).mono ?_
        rintro e w11 ⟨v11, rfl, hv11, hb11⟩
        obtain ⟨kr11, ar11, nr11, qr11, rfl⟩ := hv11.shape
        replace hB := (bstep (hB.alloc hB.size _) hb11)
        have zw11 := hB.size
        have c2_0 : w11.cell? ⟨w10.heap.size, 0, none⟩ = some (.int .i64 kr10) := bcell hb11 (cell_new (by simp) 0)
        have c2_1 : w11.cell? ⟨w10.heap.size, 1, none⟩ = some (.slice ar10 nr10 qr10) := bcell hb11 (cell_new (by simp) 1)
        replace hv10 := (hv10.below (bstep bal1 hb11))
        have d2_w11 := World.block_lt_of_cell? _ _ c2_0
        rcases Bool.eq_false_or_eq_true (pOk x9) with q4 | q4
        · (try rw [q4])
          have Hq4 := Lib.hid q4
          clear q4
          go_wp2_with fail
          refine (implTypeSameS (pT x9) _ _ _ (hv10.below bal1).rep.all (hv11.below bal1).rep.all).mono ?_
          rintro e w12 ⟨rfl, hb12⟩
          replace hB := (bstep (hB.alloc hB.size _) hb12)
          have zw12 := hB.size
          replace c2_0 : w12.cell? ⟨w10.heap.size, 0, none⟩ = some (.int .i64 kr10) := bcell hb12 (bcell bal1 (c2_0))
          replace c2_1 : w12.cell? ⟨w10.heap.size, 1, none⟩ = some (.slice ar10 nr10 qr10) := bcell hb12 (bcell bal1 (c2_1))
          replace hv10 := (hv10.below (bstep bal1 hb12))
          have d2_w12 := World.block_lt_of_cell? _ _ c2_0
          go_wp2_with fail
          refine (implFormatX _ x9 _ _ Hq4.out hv10.rep.all).mono ?_
          rintro e w13 ⟨rfl, hb13⟩
          replace hB := (bstep hB hb13)
          have zw13 := hB.size
          go_wp2_with fail
          refine bodyPost_ret (v := .bool true) (by simp [results, Try.results4, go_sem]) rfl ?_
          exact ⟨rfl, hB⟩
        · (try rw [q4])
          have Hq4 := Lib.hid q4
          clear q4
          go_wp2_with fail
          refine (implTypeSameS (pT x9) _ _ _ (hv10.below bal1).rep.all (hv11.below bal1).rep.all).mono ?_
          rintro e w14 ⟨rfl, hb14⟩
          replace hB := (bstep (hB.alloc hB.size _) hb14)
          have zw14 := hB.size
          go_wp2_with fail
          refine bodyPost_ret (v := .bool true) (by simp [results, Try.results4, go_sem]) rfl ?_
          exact ⟨rfl, hB⟩
      · have Hq3 := Lib.hid q3
        clear q3
        go_wp2_with fail
        refine (implFormatType _ t1 _ _ (hv1.below bal1).all).mono ?_
        rintro e w15 ⟨rfl, hb15⟩
        rw [fmtB_bad Hq3.out]
        replace hB := (bstep (hB.alloc hB.size _) hb15)
        have zw15 := hB.size
        have c0_0 : w15.cell? ⟨w1.heap.size, 0, none⟩ = some (.int .i64 kv1) := bcell hb15 (cell_new (by simp) 0)
        have c0_1 : w15.cell? ⟨w1.heap.size, 1, none⟩ = some (.slice av1 nv1 qv1) := bcell hb15 (cell_new (by simp) 1)
        replace hv1 := (hv1.below (bstep bal1 hb15))
        have d0_w15 := World.block_lt_of_cell? _ _ c0_0
        go_wp2_with fail
        refine (implParseEmpty _).mono ?_
        rintro e w16 ⟨v16, rfl, hv16, hb16⟩
        obtain ⟨kr16, ar16, nr16, qr16, rfl⟩ := hv16.shape
        replace hB := (bstep hB hb16)
        have zw16 := hB.size
        replace c0_0 : w16.cell? ⟨w1.heap.size, 0, none⟩ = some (.int .i64 kv1) := bcell hb16 (c0_0)
        replace c0_1 : w16.cell? ⟨w1.heap.size, 1, none⟩ = some (.slice av1 nv1 qv1) := bcell hb16 (c0_1)
        replace hv1 := (hv1.below hb16)
        have d0_w16 := World.block_lt_of_cell? _ _ c0_0
        go_wp2_with fail
        have s0_ : (World.alloc w16 (Obj.cells #[.int .i64 kr16, .slice ar16 nr16 qr16] 24)).cell? ⟨w1.heap.size, 0, none⟩ = some (.int .i64 kv1) := bcell bal1 (c0_0)
        have s1_ : (World.alloc w16 (Obj.cells #[.int .i64 kr16, .slice ar16 nr16 qr16] 24)).cell? ⟨w1.heap.size, 1, none⟩ = some (.slice av1 nv1 qv1) := bcell bal1 (c0_1)
        refine wp_region_noPanic ?_
        refine wp_region_held_drew (S := fun w' => w'.cell? ⟨w1.heap.size, 0, none⟩ = some (.int .i64 kv1) ∧ w'.cell? ⟨w1.heap.size, 1, none⟩ = some (.slice av1 nv1 qv1)) (by kernel_rfl) ?_ (fun hHeld0 => ?_)
        · exact ⟨dcell (s0_), dcell (s1_)⟩
        refine wpAnyH_take (i := 0) (oi := { dst := some 31, op := Op.move (Operand.tmp 6), type := 9, pos := "laws.go:17", after := #[], guard := none }) (v := .string (⟨#[]⟩ : ByteArray)) rfl (by kernel_rfl) (by kernel_rfl) (by kernel_rfl) (fun _ _ _ h => h) (Or.inl ⟨by rfl, ?_⟩) hHeld0 ?_
        · intro w' hSw; (try dsimp only at hSw); go_simp
        (try simp only [Act.put, List.setIfInBounds_toArray, List.set_cons_zero, List.set_cons_succ])
        refine wpAnyH_take (i := 1) (oi := { dst := some 32, op := Op.load 24 (Operand.tmp 5), type := 24, pos := "laws.go:17", after := #[], guard := none }) (v := .agg #[.int .i64 kv1, .slice av1 nv1 qv1]) rfl (by kernel_rfl) (by kernel_rfl) (by kernel_rfl) (fun _ _ _ h => h) (Or.inl ⟨by rfl, ?_⟩) hHeld0 ?_
        · intro w' hSw; (try dsimp only at hSw); go_simp
        (try simp only [Act.put, List.setIfInBounds_toArray, List.set_cons_zero, List.set_cons_succ])
        refine wpAnyH_ready (rs := [2]) (by kernel_rfl) (by simp) ?_
        refine AllReadyH.cons (o := { dst := some 33, op := Op.call { callee := Callee.value (Operand.func 12), args := #[Operand.tmp 32], argTypes := #[24] }, type := 9, pos := "laws.go:17", after := #[{ on := 1, ground := Ground.data }], guard := none }) rfl (fun K hK => ?_) AllReadyH.nil
        go_simp
        go_at_call 12
        (with_reducible refine (specFormatType _ t1 _ _ (hv1.below bal1.drew).all).mono ?_)
        rintro e w17 ⟨rfl, hb17⟩
        rw [fmtB_bad Hq3.out]
        go_wp2_with fail
        refine hK.out _ _ ?_ (fun hHeld1 => ?_)
        · exact ⟨bcell hb17 (dcell (s0_)), bcell hb17 (dcell (s1_))⟩
        clear hK K hHeld0
        (try simp only [Act.put, List.setIfInBounds_toArray, List.set_cons_zero, List.set_cons_succ])
        refine wpAnyH_take (i := 3) (oi := { dst := some 34, op := Op.binOp BinOp.neq 9 (Operand.tmp 31) (Operand.tmp 33) 9, type := 4, pos := "laws.go:17", after := #[{ on := 0, ground := Ground.data }, { on := 2, ground := Ground.data }], guard := none }) (v := .bool false) rfl (by kernel_rfl) (by kernel_rfl) (by kernel_rfl) (fun _ _ _ h => h) (Or.inl ⟨by rfl, ?_⟩) hHeld1 ?_
        · intro w' hSw; (try dsimp only at hSw); go_simp
        (try simp only [Act.put, List.setIfInBounds_toArray, List.set_cons_zero, List.set_cons_succ])
        refine wpAnyH_take (i := 4) (oi := { dst := some 35, op := Op.move (Operand.tmp 34), type := 4, pos := "laws.go:17", after := #[{ on := 3, ground := Ground.data }, { on := 2, ground := Ground.chain }], guard := none }) (v := .bool false) rfl (by kernel_rfl) (by kernel_rfl) (by kernel_rfl) (fun _ _ _ h => h) (Or.inl ⟨by rfl, ?_⟩) hHeld1 ?_
        · intro w' hSw; (try dsimp only at hSw); go_simp
        (try simp only [Act.put, List.setIfInBounds_toArray, List.set_cons_zero, List.set_cons_succ])
        refine wpAnyH_take (i := 5) (oi := { dst := some 36, op := Op.load 24 (Operand.tmp 5), type := 24, pos := "laws.go:17", after := #[{ on := 4, ground := Ground.guard }], guard := some (4, false) }) (v := .agg #[.int .i64 kv1, .slice av1 nv1 qv1]) rfl (by kernel_rfl) (by kernel_rfl) (by kernel_rfl) (fun _ _ _ h => h) (Or.inl ⟨by rfl, ?_⟩) hHeld1 ?_
        · intro w' hSw; (try dsimp only at hSw); go_simp
        (try simp only [Act.put, List.setIfInBounds_toArray, List.set_cons_zero, List.set_cons_succ])
        refine wpAnyH_take (i := 7) (oi := { dst := some 38, op := Op.load 24 (Operand.tmp 5), type := 24, pos := "laws.go:17", after := #[{ on := 4, ground := Ground.guard }], guard := some (4, false) }) (v := .agg #[.int .i64 kv1, .slice av1 nv1 qv1]) rfl (by kernel_rfl) (by kernel_rfl) (by kernel_rfl) (fun _ _ _ h => h) (Or.inl ⟨by rfl, ?_⟩) hHeld1 ?_
        · intro w' hSw; (try dsimp only at hSw); go_simp
        (try simp only [Act.put, List.setIfInBounds_toArray, List.set_cons_zero, List.set_cons_succ])
        refine wpAnyH_ready (rs := [6]) (by kernel_rfl) (by simp) ?_
        refine AllReadyH.cons (o := { dst := some 37, op := Op.call { callee := Callee.value (Operand.func 13), args := #[Operand.tmp 36], argTypes := #[24] }, type := 4, pos := "laws.go:17", after := #[{ on := 5, ground := Ground.data }, { on := 4, ground := Ground.chain }, { on := 4, ground := Ground.guard }], guard := some (4, false) }) rfl (fun K hK => ?_) AllReadyH.nil
        go_simp
        go_at_call 13
        (with_reducible refine (implTypeValid _ t1 _ _ (hv1.below (bstep bal1.drew hb17)).all).mono ?_)
        rintro e w18 ⟨rfl, hb18⟩
        rw [Hq3.out]
        go_wp2_with fail
        refine hK.out _ _ ?_ (fun hHeld2 => ?_)
        · exact ⟨bcell hb18 (bcell hb17 (dcell (s0_))), bcell hb18 (bcell hb17 (dcell (s1_)))⟩
        clear hK K hHeld1
        (try simp only [Act.put, List.setIfInBounds_toArray, List.set_cons_zero, List.set_cons_succ])
        refine wpAnyH_ready (rs := [8]) (by kernel_rfl) (by simp) ?_
        refine AllReadyH.cons (o := { dst := some 39, op := Op.call { callee := Callee.value (Operand.func 14), args := #[Operand.tmp 38], argTypes := #[24] }, type := 4, pos := "laws.go:17", after := #[{ on := 7, ground := Ground.data }, { on := 6, ground := Ground.chain }, { on := 4, ground := Ground.guard }], guard := some (4, false) }) rfl (fun K hK => ?_) AllReadyH.nil
        go_simp
        go_at_call 14
        (with_reducible refine (specTypeValid _ t1 _ _ (hv1.below (bstep (bstep bal1.drew hb17) hb18)).all).mono ?_)
        rintro e w19 ⟨rfl, hb19⟩
        rw [Hq3.out]
        go_wp2_with fail
        refine hK.out _ _ ?_ (fun hHeld3 => ?_)
        · exact ⟨bcell hb19 (bcell hb18 (bcell hb17 (dcell (s0_)))), bcell hb19 (bcell hb18 (bcell hb17 (dcell (s1_))))⟩
        clear hK K hHeld2
        (try simp only [Act.put, List.setIfInBounds_toArray, List.set_cons_zero, List.set_cons_succ])
        refine wpAnyH_take (i := 9) (oi := { dst := some 40, op := Op.binOp BinOp.neq 4 (Operand.tmp 37) (Operand.tmp 39) 4, type := 4, pos := "laws.go:17", after := #[{ on := 6, ground := Ground.data }, { on := 8, ground := Ground.data }, { on := 4, ground := Ground.guard }], guard := some (4, false) }) (v := .bool false) rfl (by kernel_rfl) (by kernel_rfl) (by kernel_rfl) (fun _ _ _ h => h) (Or.inl ⟨by rfl, ?_⟩) hHeld3 ?_
        · intro w' hSw; (try dsimp only at hSw); go_simp
        (try simp only [Act.put, List.setIfInBounds_toArray, List.set_cons_zero, List.set_cons_succ])
        refine wpAnyH_take (i := 10) (oi := { dst := some 41, op := Op.pick (Operand.tmp 35) (Operand.const (Value.bool true)) (Operand.tmp 40), type := 4, pos := "laws.go:17", after := #[{ on := 4, ground := Ground.data }, { on := 9, ground := Ground.data }], guard := none }) (v := .bool false) rfl (by kernel_rfl) (by kernel_rfl) (by kernel_rfl) (fun _ _ _ h => h) (Or.inl ⟨by rfl, ?_⟩) hHeld3 ?_
        · intro w' hSw; (try dsimp only at hSw); go_simp
        (try simp only [Act.put, List.setIfInBounds_toArray, List.set_cons_zero, List.set_cons_succ])
        refine wpAnyH_take (i := 11) (oi := { dst := some 42, op := Op.move (Operand.tmp 41), type := 4, pos := "laws.go:17", after := #[{ on := 10, ground := Ground.data }, { on := 8, ground := Ground.chain }], guard := none }) (v := .bool false) rfl (by kernel_rfl) (by kernel_rfl) (by kernel_rfl) (fun _ _ _ h => h) (Or.inl ⟨by rfl, ?_⟩) hHeld3 ?_
        · intro w' hSw; (try dsimp only at hSw); go_simp
        (try simp only [Act.put, List.setIfInBounds_toArray, List.set_cons_zero, List.set_cons_succ])
        refine wpAnyH_take (i := 12) (oi := { dst := some 43, op := Op.move (Operand.tmp 8), type := 4, pos := "laws.go:17", after := #[{ on := 11, ground := Ground.guard }], guard := some (11, false) }) (v := .bool false) rfl (by kernel_rfl) (by kernel_rfl) (by kernel_rfl) (fun _ _ _ h => h) (Or.inl ⟨by rfl, ?_⟩) hHeld3 ?_
        · intro w' hSw; (try dsimp only at hSw); go_simp
        (try simp only [Act.put, List.setIfInBounds_toArray, List.set_cons_zero, List.set_cons_succ])
        refine wpAnyH_take (i := 13) (oi := { dst := some 44, op := Op.load 24 (Operand.tmp 5), type := 24, pos := "laws.go:17", after := #[{ on := 11, ground := Ground.guard }], guard := some (11, false) }) (v := .agg #[.int .i64 kv1, .slice av1 nv1 qv1]) rfl (by kernel_rfl) (by kernel_rfl) (by kernel_rfl) (fun _ _ _ h => h) (Or.inl ⟨by rfl, ?_⟩) hHeld3 ?_
        · intro w' hSw; (try dsimp only at hSw); go_simp
        (try simp only [Act.put, List.setIfInBounds_toArray, List.set_cons_zero, List.set_cons_succ])
        refine wpAnyH_ready (rs := [14]) (by kernel_rfl) (by simp) ?_
        refine AllReadyH.cons (o := { dst := some 45, op := Op.call { callee := Callee.value (Operand.func 14), args := #[Operand.tmp 44], argTypes := #[24] }, type := 4, pos := "laws.go:17", after := #[{ on := 13, ground := Ground.data }, { on := 11, ground := Ground.chain }, { on := 11, ground := Ground.guard }], guard := some (11, false) }) rfl (fun K hK => ?_) AllReadyH.nil
        go_simp
        go_at_call 14
        (with_reducible refine (specTypeValid _ t1 _ _ (hv1.below (bstep (bstep (bstep bal1.drew hb17) hb18) hb19)).all).mono ?_)
        rintro e w20 ⟨rfl, hb20⟩
        rw [Hq3.out]
        go_wp2_with fail
        refine hK.out _ _ ?_ (fun hHeld4 => ?_)
        · exact ⟨bcell hb20 (bcell hb19 (bcell hb18 (bcell hb17 (dcell (s0_))))), bcell hb20 (bcell hb19 (bcell hb18 (bcell hb17 (dcell (s1_)))))⟩
        clear hK K hHeld3
        (try simp only [Act.put, List.setIfInBounds_toArray, List.set_cons_zero, List.set_cons_succ])
        refine wpAnyH_take (i := 15) (oi := { dst := some 46, op := Op.binOp BinOp.neq 4 (Operand.tmp 43) (Operand.tmp 45) 4, type := 4, pos := "laws.go:17", after := #[{ on := 12, ground := Ground.data }, { on := 14, ground := Ground.data }, { on := 11, ground := Ground.guard }], guard := some (11, false) }) (v := .bool false) rfl (by kernel_rfl) (by kernel_rfl) (by kernel_rfl) (fun _ _ _ h => h) (Or.inl ⟨by rfl, ?_⟩) hHeld4 ?_
        · intro w' hSw; (try dsimp only at hSw); go_simp
        (try simp only [Act.put, List.setIfInBounds_toArray, List.set_cons_zero, List.set_cons_succ])
        refine wpAnyH_take (i := 16) (oi := { dst := some 47, op := Op.pick (Operand.tmp 42) (Operand.const (Value.bool true)) (Operand.tmp 46), type := 4, pos := "laws.go:17", after := #[{ on := 11, ground := Ground.data }, { on := 15, ground := Ground.data }], guard := none }) (v := .bool false) rfl (by kernel_rfl) (by kernel_rfl) (by kernel_rfl) (fun _ _ _ h => h) (Or.inl ⟨by rfl, ?_⟩) hHeld4 ?_
        · intro w' hSw; (try dsimp only at hSw); go_simp
        (try simp only [Act.put, List.setIfInBounds_toArray, List.set_cons_zero, List.set_cons_succ])
        refine wpAnyH_take (i := 17) (oi := { dst := some 48, op := Op.move (Operand.tmp 47), type := 4, pos := "laws.go:17", after := #[{ on := 16, ground := Ground.data }, { on := 14, ground := Ground.chain }], guard := none }) (v := .bool false) rfl (by kernel_rfl) (by kernel_rfl) (by kernel_rfl) (fun _ _ _ h => h) (Or.inl ⟨by rfl, ?_⟩) hHeld4 ?_
        · intro w' hSw; (try dsimp only at hSw); go_simp
        (try simp only [Act.put, List.setIfInBounds_toArray, List.set_cons_zero, List.set_cons_succ])
        refine wpAnyH_take (i := 18) (oi := { dst := some 49, op := Op.move (Operand.tmp 8), type := 4, pos := "laws.go:17", after := #[{ on := 17, ground := Ground.guard }], guard := some (17, false) }) (v := .bool false) rfl (by kernel_rfl) (by kernel_rfl) (by kernel_rfl) (fun _ _ _ h => h) (Or.inl ⟨by rfl, ?_⟩) hHeld4 ?_
        · intro w' hSw; (try dsimp only at hSw); go_simp
        (try simp only [Act.put, List.setIfInBounds_toArray, List.set_cons_zero, List.set_cons_succ])
        refine wpAnyH_take (i := 19) (oi := { dst := some 50, op := Op.move (Operand.tmp 49), type := 4, pos := "laws.go:17", after := #[{ on := 18, ground := Ground.data }, { on := 17, ground := Ground.chain }, { on := 17, ground := Ground.guard }], guard := some (17, false) }) (v := .bool false) rfl (by kernel_rfl) (by kernel_rfl) (by kernel_rfl) (fun _ _ _ h => h) (Or.inl ⟨by rfl, ?_⟩) hHeld4 ?_
        · intro w' hSw; (try dsimp only at hSw); go_simp
        (try simp only [Act.put, List.setIfInBounds_toArray, List.set_cons_zero, List.set_cons_succ])
        refine wpAnyH_take (i := 20) (oi := { dst := some 51, op := Op.load 24 (Operand.tmp 7), type := 24, pos := "laws.go:17", after := #[{ on := 19, ground := Ground.guard }], guard := some (19, true) }) (v := undef) rfl (by kernel_rfl) (by kernel_rfl) (by kernel_rfl) (fun _ _ _ h => h) (Or.inr ⟨by rfl, rfl⟩) hHeld4 ?_
        (try simp only [Act.put, List.setIfInBounds_toArray, List.set_cons_zero, List.set_cons_succ])
        refine wpAnyH_take (i := 21) (oi := { dst := some 52, op := Op.load 24 (Operand.tmp 5), type := 24, pos := "laws.go:17", after := #[{ on := 19, ground := Ground.guard }], guard := some (19, true) }) (v := undef) rfl (by kernel_rfl) (by kernel_rfl) (by kernel_rfl) (fun _ _ _ h => h) (Or.inr ⟨by rfl, rfl⟩) hHeld4 ?_
        (try simp only [Act.put, List.setIfInBounds_toArray, List.set_cons_zero, List.set_cons_succ])
        refine wpAnyH_take (i := 22) (oi := { dst := some 53, op := Op.call { callee := Callee.value (Operand.func 15), args := #[Operand.tmp 51, Operand.tmp 52], argTypes := #[24, 24] }, type := 4, pos := "laws.go:17", after := #[{ on := 20, ground := Ground.data }, { on := 21, ground := Ground.data }, { on := 19, ground := Ground.chain }, { on := 19, ground := Ground.guard }], guard := some (19, true) }) (v := undef) rfl (by kernel_rfl) (by kernel_rfl) (by kernel_rfl) (fun _ _ _ h => h) (Or.inr ⟨by rfl, rfl⟩) hHeld4 ?_
        (try simp only [Act.put, List.setIfInBounds_toArray, List.set_cons_zero, List.set_cons_succ])
        refine wpAnyH_take (i := 23) (oi := { dst := some 54, op := Op.unOp UnOp.not 4 (Operand.tmp 53), type := 4, pos := "laws.go:17", after := #[{ on := 22, ground := Ground.data }, { on := 19, ground := Ground.guard }], guard := some (19, true) }) (v := undef) rfl (by kernel_rfl) (by kernel_rfl) (by kernel_rfl) (fun _ _ _ h => h) (Or.inr ⟨by rfl, rfl⟩) hHeld4 ?_
        (try simp only [Act.put, List.setIfInBounds_toArray, List.set_cons_zero, List.set_cons_succ])
        refine wpAnyH_take (i := 24) (oi := { dst := some 55, op := Op.pick (Operand.tmp 50) (Operand.tmp 54) (Operand.const (Value.bool false)), type := 4, pos := "laws.go:17", after := #[{ on := 19, ground := Ground.data }, { on := 23, ground := Ground.data }, { on := 17, ground := Ground.guard }], guard := some (17, false) }) (v := .bool false) rfl (by kernel_rfl) (by kernel_rfl) (by kernel_rfl) (fun _ _ _ h => h) (Or.inl ⟨by rfl, ?_⟩) hHeld4 ?_
        · intro w' hSw; (try dsimp only at hSw); go_simp
        (try simp only [Act.put, List.setIfInBounds_toArray, List.set_cons_zero, List.set_cons_succ])
        refine wpAnyH_take (i := 25) (oi := { dst := some 56, op := Op.pick (Operand.tmp 48) (Operand.const (Value.bool true)) (Operand.tmp 55), type := 4, pos := "laws.go:17", after := #[{ on := 17, ground := Ground.data }, { on := 24, ground := Ground.data }], guard := none }) (v := .bool false) rfl (by kernel_rfl) (by kernel_rfl) (by kernel_rfl) (fun _ _ _ h => h) (Or.inl ⟨by rfl, ?_⟩) hHeld4 ?_
        · intro w' hSw; (try dsimp only at hSw); go_simp
        (try simp only [Act.put, List.setIfInBounds_toArray, List.set_cons_zero, List.set_cons_succ])
        refine wpAnyH_done (by kernel_rfl) ?_ _
        refine NoPanic.normal ?_
        clear hHeld4 s0_ s1_
        replace hB := (bstep (bstep (bstep (bstep (hB.alloc hB.size _).drew hb17) hb18) hb19) hb20)
        have zw20 := hB.size
        go_wp2_with fail
        refine (specDrawParseType _ _ _ (r1.below hB) (by first | omega | (simp; done) | (simp; omega))).mono ?_
        rintro e w21 ⟨x21, rfl, hz21, hb21⟩
        replace hB := (bstep hB hb21)
        have zw21 := hB.size
        go_wp2_with fail
        refine (implParseX x21 _).mono ?_
        rintro e w22 ⟨v22, rfl, hv22, hb22⟩
        obtain ⟨kr22, ar22, nr22, qr22, rfl⟩ := hv22.shape
        replace hB := (bstep hB hb22)
        have zw22 := hB.size
        go_wp2_with fail
        refine (specParseX' x21 hz21 _).mono ?_
        rintro e w23 ⟨v23, rfl, hv23, hb23⟩
        obtain ⟨kr23, ar23, nr23, qr23, rfl⟩ := hv23.shape
        replace hB := (bstep (hB.alloc hB.size _) hb23)
        have zw23 := hB.size
        have c2_0 : w23.cell? ⟨w22.heap.size, 0, none⟩ = some (.int .i64 kr22) := bcell hb23 (cell_new (by simp) 0)
        have c2_1 : w23.cell? ⟨w22.heap.size, 1, none⟩ = some (.slice ar22 nr22 qr22) := bcell hb23 (cell_new (by simp) 1)
        replace hv22 := (hv22.below (bstep bal1 hb23))
        have d2_w23 := World.block_lt_of_cell? _ _ c2_0
        rcases Bool.eq_false_or_eq_true (pOk x21) with q5 | q5
        · (try rw [q5])
          have Hq5 := Lib.hid q5
          clear q5
          go_wp2_with fail
          refine (implTypeSameS (pT x21) _ _ _ (hv22.below bal1).rep.all (hv23.below bal1).rep.all).mono ?_
          rintro e w24 ⟨rfl, hb24⟩
          replace hB := (bstep (hB.alloc hB.size _) hb24)
          have zw24 := hB.size
          replace c2_0 : w24.cell? ⟨w22.heap.size, 0, none⟩ = some (.int .i64 kr22) := bcell hb24 (bcell bal1 (c2_0))
          replace c2_1 : w24.cell? ⟨w22.heap.size, 1, none⟩ = some (.slice ar22 nr22 qr22) := bcell hb24 (bcell bal1 (c2_1))
          replace hv22 := (hv22.below (bstep bal1 hb24))
          have d2_w24 := World.block_lt_of_cell? _ _ c2_0
          go_wp2_with fail
          refine (implFormatX _ x21 _ _ Hq5.out hv22.rep.all).mono ?_
          rintro e w25 ⟨rfl, hb25⟩
          replace hB := (bstep hB hb25)
          have zw25 := hB.size
          go_wp2_with fail
          refine bodyPost_ret (v := .bool true) (by simp [results, Try.results4, go_sem]) rfl ?_
          exact ⟨rfl, hB⟩
        · (try rw [q5])
          have Hq5 := Lib.hid q5
          clear q5
          go_wp2_with fail
          refine (implTypeSameS (pT x21) _ _ _ (hv22.below bal1).rep.all (hv23.below bal1).rep.all).mono ?_
          rintro e w26 ⟨rfl, hb26⟩
          replace hB := (bstep (hB.alloc hB.size _) hb26)
          have zw26 := hB.size
          go_wp2_with fail
          refine bodyPost_ret (v := .bool true) (by simp [results, Try.results4, go_sem]) rfl ?_
          exact ⟨rfl, hB⟩
end Go.Proofs.Ytikkneahhgmdjaa
