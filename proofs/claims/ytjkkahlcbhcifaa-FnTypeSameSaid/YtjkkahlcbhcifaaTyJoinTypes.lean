/-
  JoinTypes of the program and of the reference.
-/
import Derived.Test.YtjkkahlcbhcifaaTyJoin
import Derived.Test.YtjkkahlcbhcifaaTyJoin2
import Derived.Test.YtjkkahlcbhcifaaTyDepth
namespace Go.Proofs.Ytjkkahlcbhcifaa
open Go.RowKit
set_option linter.unusedVariables false
set_option linter.unusedSimpArgs false
set_option maxRecDepth 100000

theorem implJoin_leafS (F G : Nat → Prop) (s : S) (hl : s.leaf = true) : ∀ (u : S) (y z : Value) (w : World), TyRep F w s.ty y → TyRep G w u.ty z → Calls Try.prog 116 #[y, z] w (RetTy (s.join u).ty w) := by
  intro u y z w hy hz
  by_cases hk : s.kind = u.kind
  · rw [S.join_leaf hk hl]
    rw [S.leaf_ty hl] at hy ⊢
    exact implJoin_leaf F G _ _ y z w hy hz (by rw [S.ty_kind]; exact hk)
  · rw [S.join_diff hk]
    exact implJoin_diff F G _ _ y z w hy hz (by rw [S.ty_kind, S.ty_kind]; exact hk)
theorem implJoin (F G : Nat → Prop) (s : S) : ∀ (u : S) (y z : Value) (w : World), TyRep F w s.ty y → TyRep G w u.ty z → Calls Try.prog 116 #[y, z] w (RetTy (s.join u).ty w) := by
  induction s with
  | fn a b ha hb =>
    intro u y z w hy hz
    by_cases hk : (S.fn a b).kind = u.kind
    · cases u <;> simp [S.kind] at hk
      rename_i c d
      exact implJoin_two F G 4 _ _ _ _ _ _ y z w hy hz (fun W y z p q => ha c y z W p q) (fun W y z p q => hb d y z W p q)
    · rw [S.join_diff hk]
      exact implJoin_diff F G _ _ y z w hy hz (by rw [S.ty_kind, S.ty_kind]; exact hk)
  | pr a b ha hb =>
    intro u y z w hy hz
    by_cases hk : (S.pr a b).kind = u.kind
    · cases u <;> simp [S.kind] at hk
      rename_i c d
      exact implJoin_two F G 5 _ _ _ _ _ _ y z w hy hz (fun W y z p q => ha c y z W p q) (fun W y z p q => hb d y z W p q)
    · rw [S.join_diff hk]
      exact implJoin_diff F G _ _ y z w hy hz (by rw [S.ty_kind, S.ty_kind]; exact hk)
  | zero => exact implJoin_leafS F G _ rfl
  | any => exact implJoin_leafS F G _ rfl
  | int => exact implJoin_leafS F G _ rfl
  | bool => exact implJoin_leafS F G _ rfl
theorem S.ty_join : ∀ s u : S, s.ty.join u.ty = (s.join u).ty := by
  intro s
  induction s with
  | fn a b ha hb => intro u; cases u <;> simp [S.ty, Ty.join, Ty.joins, S.join, ha, hb]
  | pr a b ha hb => intro u; cases u <;> simp [S.ty, Ty.join, Ty.joins, S.join, ha, hb]
  | _ => intro u; cases u <;> simp [S.ty, Ty.join, Ty.joins, S.join]
theorem implJoinV (F G : Nat → Prop) (t u : Ty) (y z : Value) (w : World) (ht : t.valid = true) (hu : u.valid = true) (h1 : TyRep F w t y) (h2 : TyRep G w u z) : Calls Try.prog 116 #[y, z] w (RetTy (t.join u) w) := by
  obtain ⟨s, rfl, -⟩ := Ty.valid_S ht
  obtain ⟨v, rfl, -⟩ := Ty.valid_S hu
  rw [S.ty_join]
  exact implJoin F G s v y z w h1 h2
theorem specJoinV (F G : Nat → Prop) (t u : Ty) (y z : Value) (w : World) (ht : t.valid = true) (hu : u.valid = true) (h1 : TyRep F w t y) (h2 : TyRep G w u z) : Calls Try.prog 115 #[y, z] w (RetTy (t.join u) w) :=
  specL1Join F G t u 4 4 y z w h1 h2 ht hu (Ty.cnt_valid ht)
def joinT (t u : Ty) : Ty := if t.valid && u.valid then t.join u else Ty.none
def joinB (t u : Ty) : Bool := t.valid && u.valid
theorem joinT_cnt (t u : Ty) : (joinT t u).cnt ≤ 1048576 := by
  unfold joinT
  split
  · rename_i h
    simp only [Bool.and_eq_true] at h
    obtain ⟨s, rfl, hs⟩ := Ty.valid_S h.1
    obtain ⟨v, rfl, hv⟩ := Ty.valid_S h.2
    rw [S.ty_join]
    exact Ty.cnt_valid (by rw [S.valid]; exact S.join_vd s v hs hv)
  · simp [Ty.none, Ty.cnt, Ty.cnts]

set_option maxHeartbeats 4000000 in
theorem implJoinTypes (F G : Nat → Prop) (t u : Ty) (y z : Value) (w : World) (h1 : TyRep F w t y) (h2 : TyRep G w u z) :
    Calls Try.prog 66 #[y, z] w (RetTyB (joinT t u) (joinB t u) w) := by
  obtain ⟨k1, a1, n1, q1, rfl⟩ := h1.shape
  obtain ⟨k2, a2, n2, q2, rfl⟩ := h2.shape
  go_enter Try.func66, Try.ntmps66
  rcases Bool.eq_false_or_eq_true (t.valid) with q1 | q1
  · have Hq1 := Lib.hid q1
    clear q1
    go_wp2_with fail
    refine (implTypeValid _ t _ _ (h1.below bal3)).mono ?_
    rintro e w1 ⟨rfl, hb1⟩
    rw [Hq1.out]
    have hB := (bstep bal3 hb1)
    have zw1 := hB.size
    have f2_0 : w1.frozen? ⟨w.heap.size + 1 + 1, 0, none⟩ = false := bfroc hb1 (cell_new (by simp) 0) (fro_new (by simp) 0)
    have f2_1 : w1.frozen? ⟨w.heap.size + 1 + 1, 1, none⟩ = false := bfroc hb1 (cell_new (by simp) 1) (fro_new (by simp) 1)
    have c1_0 : w1.cell? ⟨w.heap.size + 1, 0, none⟩ = some (.int .i64 k2) := bcell hb1 (bcell bal1 (cell_new (by simp) 0))
    have c1_1 : w1.cell? ⟨w.heap.size + 1, 1, none⟩ = some (.slice a2 n2 q2) := bcell hb1 (bcell bal1 (cell_new (by simp) 1))
    have c0_0 : w1.cell? ⟨w.heap.size, 0, none⟩ = some (.int .i64 k1) := bcell hb1 (bcell bal1 (bcell bal1 (cell_new (by simp) 0)))
    have c0_1 : w1.cell? ⟨w.heap.size, 1, none⟩ = some (.slice a1 n1 q1) := bcell hb1 (bcell bal1 (bcell bal1 (cell_new (by simp) 1)))
    have c2_0 : w1.cell? ⟨w.heap.size + 1 + 1, 0, none⟩ = some (.int .i64 0) := bcell hb1 (cell_new (by simp) 0)
    have c2_1 : w1.cell? ⟨w.heap.size + 1 + 1, 1, none⟩ = some (.slice none 0 0) := bcell hb1 (cell_new (by simp) 1)
    have d1_w1 := World.block_lt_of_cell? _ _ c1_0
    have d0_w1 := World.block_lt_of_cell? _ _ c0_0
    have d2_w1 := World.block_lt_of_cell? _ _ c2_0
    go_wp2_with fail
    refine (implTypeValid _ u _ _ (h2.below hB)).mono ?_
    rintro e w2 ⟨rfl, hb2⟩
    replace hB := (bstep hB hb2)
    have zw2 := hB.size
    replace f2_0 : w2.frozen? ⟨w.heap.size + 1 + 1, 0, none⟩ = false := bfroc hb2 (c2_0) (f2_0)
    replace f2_1 : w2.frozen? ⟨w.heap.size + 1 + 1, 1, none⟩ = false := bfroc hb2 (c2_1) (f2_1)
    replace c0_0 : w2.cell? ⟨w.heap.size, 0, none⟩ = some (.int .i64 k1) := bcell hb2 (c0_0)
    replace c0_1 : w2.cell? ⟨w.heap.size, 1, none⟩ = some (.slice a1 n1 q1) := bcell hb2 (c0_1)
    replace c1_0 : w2.cell? ⟨w.heap.size + 1, 0, none⟩ = some (.int .i64 k2) := bcell hb2 (c1_0)
    replace c1_1 : w2.cell? ⟨w.heap.size + 1, 1, none⟩ = some (.slice a2 n2 q2) := bcell hb2 (c1_1)
    replace c2_0 : w2.cell? ⟨w.heap.size + 1 + 1, 0, none⟩ = some (.int .i64 0) := bcell hb2 (c2_0)
    replace c2_1 : w2.cell? ⟨w.heap.size + 1 + 1, 1, none⟩ = some (.slice none 0 0) := bcell hb2 (c2_1)
    have d0_w2 := World.block_lt_of_cell? _ _ c0_0
    have d1_w2 := World.block_lt_of_cell? _ _ c1_0
    have d2_w2 := World.block_lt_of_cell? _ _ c2_0
    rcases Bool.eq_false_or_eq_true (u.valid) with q2 | q2
    · rw [q2]
      have Hq2 := Lib.hid q2
      clear q2
      go_wp2_with fail
      refine (implJoinV _ _ _ _ _ _ _ Hq1.out Hq2.out (h1.below hB) (h2.below hB)).mono ?_
      rintro e w3 ⟨v3, rfl, hv3, hb3⟩
      obtain ⟨kr3, ar3, nr3, qr3, rfl⟩ := hv3.shape
      replace hB := (bstep hB hb3)
      have zw3 := hB.size
      replace f2_0 : w3.frozen? ⟨w.heap.size + 1 + 1, 0, none⟩ = false := bfroc hb3 (c2_0) (f2_0)
      replace f2_1 : w3.frozen? ⟨w.heap.size + 1 + 1, 1, none⟩ = false := bfroc hb3 (c2_1) (f2_1)
      replace c2_0 : w3.cell? ⟨w.heap.size + 1 + 1, 0, none⟩ = some (.int .i64 0) := bcell hb3 (c2_0)
      replace c2_1 : w3.cell? ⟨w.heap.size + 1 + 1, 1, none⟩ = some (.slice none 0 0) := bcell hb3 (c2_1)
      have d2_w3 := World.block_lt_of_cell? _ _ c2_0
      go_wp2_with fail
      refine bodyPost_ret (v := .tuple #[.agg #[.int .i64 kr3, .slice ar3 nr3 qr3], .bool true]) (by simp [results, Try.results66, go_sem, c2_0, c2_1]) rfl ?_
      rw [show joinT t u = t.join u from by simp [joinT, joinB, Hq1.out, Hq2.out], show joinB t u = true from by simp [joinT, joinB, Hq1.out, Hq2.out]]
      exact ⟨_, rfl, TyNew.mono ((hv3.setCell (by first | (show w.heap.size + 1 + 1 < _; omega) | (show w.heap.size + 1 + 1 < _; simp; omega) | simp) _).setCell (by first | (show w.heap.size + 1 + 1 < _; omega) | (show w.heap.size + 1 + 1 < _; simp; omega) | simp) _) (by first | exact Nat.le_refl _ | omega | (simp; done) | (simp; omega)), ((hB.setCell (by show w.heap.size ≤ w.heap.size + 1 + 1; omega) _).setCell (by show w.heap.size ≤ w.heap.size + 1 + 1; omega) _)⟩
    · rw [q2]
      have Hq2 := Lib.hid q2
      clear q2
      go_wp2_with fail
      refine bodyPost_ret (v := .tuple #[.agg #[.int .i64 0, .slice none 0 0], .bool false]) (by simp [results, Try.results66, go_sem, c2_0, c2_1]) rfl ?_
      rw [show joinT t u = Ty.none from by simp [joinT, joinB, Hq1.out, Hq2.out], show joinB t u = false from by simp [joinT, joinB, Hq1.out, Hq2.out]]
      exact ⟨_, rfl, TyNew.mono (TysNew.ty (TysNew.nil _ _)) (by first | exact Nat.le_refl _ | omega | (simp; done) | (simp; omega)), ((hB.setCell (by show w.heap.size ≤ w.heap.size + 1 + 1; omega) _).setCell (by show w.heap.size ≤ w.heap.size + 1 + 1; omega) _)⟩
  · have Hq1 := Lib.hid q1
    clear q1
    go_wp2_with fail
    refine (implTypeValid _ t _ _ (h1.below bal3)).mono ?_
    rintro e w4 ⟨rfl, hb4⟩
    rw [Hq1.out]
    have hB := (bstep bal3 hb4)
    have zw4 := hB.size
    have f2_0 : w4.frozen? ⟨w.heap.size + 1 + 1, 0, none⟩ = false := bfroc hb4 (cell_new (by simp) 0) (fro_new (by simp) 0)
    have f2_1 : w4.frozen? ⟨w.heap.size + 1 + 1, 1, none⟩ = false := bfroc hb4 (cell_new (by simp) 1) (fro_new (by simp) 1)
    have c2_0 : w4.cell? ⟨w.heap.size + 1 + 1, 0, none⟩ = some (.int .i64 0) := bcell hb4 (cell_new (by simp) 0)
    have c2_1 : w4.cell? ⟨w.heap.size + 1 + 1, 1, none⟩ = some (.slice none 0 0) := bcell hb4 (cell_new (by simp) 1)
    have d2_w4 := World.block_lt_of_cell? _ _ c2_0
    go_wp2_with fail
    refine bodyPost_ret (v := .tuple #[.agg #[.int .i64 0, .slice none 0 0], .bool false]) (by simp [results, Try.results66, go_sem, c2_0, c2_1]) rfl ?_
    rw [show joinT t u = Ty.none from by simp [joinT, joinB, Hq1.out], show joinB t u = false from by simp [joinT, joinB, Hq1.out]]
    exact ⟨_, rfl, TyNew.mono (TysNew.ty (TysNew.nil _ _)) (by first | exact Nat.le_refl _ | omega | (simp; done) | (simp; omega)), ((hB.setCell (by show w.heap.size ≤ w.heap.size + 1 + 1; omega) _).setCell (by show w.heap.size ≤ w.heap.size + 1 + 1; omega) _)⟩

set_option maxHeartbeats 4000000 in
theorem specJoinTypes (F G : Nat → Prop) (t u : Ty) (y z : Value) (w : World) (h1 : TyRep F w t y) (h2 : TyRep G w u z) :
    Calls Try.prog 65 #[y, z] w (RetTyB (joinT t u) (joinB t u) w) := by
  obtain ⟨k1, a1, n1, q1, rfl⟩ := h1.shape
  obtain ⟨k2, a2, n2, q2, rfl⟩ := h2.shape
  go_enter Try.func65, Try.ntmps65
  rcases Bool.eq_false_or_eq_true (t.valid) with q1 | q1
  · have Hq1 := Lib.hid q1
    clear q1
    go_wp2_with fail
    refine (specTypeValid _ t _ _ (h1.below bal3)).mono ?_
    rintro e w1 ⟨rfl, hb1⟩
    rw [Hq1.out]
    have hB := (bstep bal3 hb1)
    have zw1 := hB.size
    have f2_0 : w1.frozen? ⟨w.heap.size + 1 + 1, 0, none⟩ = false := bfroc hb1 (cell_new (by simp) 0) (fro_new (by simp) 0)
    have f2_1 : w1.frozen? ⟨w.heap.size + 1 + 1, 1, none⟩ = false := bfroc hb1 (cell_new (by simp) 1) (fro_new (by simp) 1)
    have c1_0 : w1.cell? ⟨w.heap.size + 1, 0, none⟩ = some (.int .i64 k2) := bcell hb1 (bcell bal1 (cell_new (by simp) 0))
    have c1_1 : w1.cell? ⟨w.heap.size + 1, 1, none⟩ = some (.slice a2 n2 q2) := bcell hb1 (bcell bal1 (cell_new (by simp) 1))
    have c0_0 : w1.cell? ⟨w.heap.size, 0, none⟩ = some (.int .i64 k1) := bcell hb1 (bcell bal1 (bcell bal1 (cell_new (by simp) 0)))
    have c0_1 : w1.cell? ⟨w.heap.size, 1, none⟩ = some (.slice a1 n1 q1) := bcell hb1 (bcell bal1 (bcell bal1 (cell_new (by simp) 1)))
    have c2_0 : w1.cell? ⟨w.heap.size + 1 + 1, 0, none⟩ = some (.int .i64 0) := bcell hb1 (cell_new (by simp) 0)
    have c2_1 : w1.cell? ⟨w.heap.size + 1 + 1, 1, none⟩ = some (.slice none 0 0) := bcell hb1 (cell_new (by simp) 1)
    have d1_w1 := World.block_lt_of_cell? _ _ c1_0
    have d0_w1 := World.block_lt_of_cell? _ _ c0_0
    have d2_w1 := World.block_lt_of_cell? _ _ c2_0
    go_wp2_with fail
    refine (specTypeValid _ u _ _ (h2.below hB)).mono ?_
    rintro e w2 ⟨rfl, hb2⟩
    replace hB := (bstep hB hb2)
    have zw2 := hB.size
    replace f2_0 : w2.frozen? ⟨w.heap.size + 1 + 1, 0, none⟩ = false := bfroc hb2 (c2_0) (f2_0)
    replace f2_1 : w2.frozen? ⟨w.heap.size + 1 + 1, 1, none⟩ = false := bfroc hb2 (c2_1) (f2_1)
    replace c0_0 : w2.cell? ⟨w.heap.size, 0, none⟩ = some (.int .i64 k1) := bcell hb2 (c0_0)
    replace c0_1 : w2.cell? ⟨w.heap.size, 1, none⟩ = some (.slice a1 n1 q1) := bcell hb2 (c0_1)
    replace c1_0 : w2.cell? ⟨w.heap.size + 1, 0, none⟩ = some (.int .i64 k2) := bcell hb2 (c1_0)
    replace c1_1 : w2.cell? ⟨w.heap.size + 1, 1, none⟩ = some (.slice a2 n2 q2) := bcell hb2 (c1_1)
    replace c2_0 : w2.cell? ⟨w.heap.size + 1 + 1, 0, none⟩ = some (.int .i64 0) := bcell hb2 (c2_0)
    replace c2_1 : w2.cell? ⟨w.heap.size + 1 + 1, 1, none⟩ = some (.slice none 0 0) := bcell hb2 (c2_1)
    have d0_w2 := World.block_lt_of_cell? _ _ c0_0
    have d1_w2 := World.block_lt_of_cell? _ _ c1_0
    have d2_w2 := World.block_lt_of_cell? _ _ c2_0
    rcases Bool.eq_false_or_eq_true (u.valid) with q2 | q2
    · rw [q2]
      have Hq2 := Lib.hid q2
      clear q2
      go_wp2_with fail
      refine (specJoinV _ _ _ _ _ _ _ Hq1.out Hq2.out (h1.below hB) (h2.below hB)).mono ?_
      rintro e w3 ⟨v3, rfl, hv3, hb3⟩
      obtain ⟨kr3, ar3, nr3, qr3, rfl⟩ := hv3.shape
      replace hB := (bstep hB hb3)
      have zw3 := hB.size
      replace f2_0 : w3.frozen? ⟨w.heap.size + 1 + 1, 0, none⟩ = false := bfroc hb3 (c2_0) (f2_0)
      replace f2_1 : w3.frozen? ⟨w.heap.size + 1 + 1, 1, none⟩ = false := bfroc hb3 (c2_1) (f2_1)
      replace c2_0 : w3.cell? ⟨w.heap.size + 1 + 1, 0, none⟩ = some (.int .i64 0) := bcell hb3 (c2_0)
      replace c2_1 : w3.cell? ⟨w.heap.size + 1 + 1, 1, none⟩ = some (.slice none 0 0) := bcell hb3 (c2_1)
      have d2_w3 := World.block_lt_of_cell? _ _ c2_0
      go_wp2_with fail
      refine bodyPost_ret (v := .tuple #[.agg #[.int .i64 kr3, .slice ar3 nr3 qr3], .bool true]) (by simp [results, Try.results65, go_sem, c2_0, c2_1]) rfl ?_
      rw [show joinT t u = t.join u from by simp [joinT, joinB, Hq1.out, Hq2.out], show joinB t u = true from by simp [joinT, joinB, Hq1.out, Hq2.out]]
      exact ⟨_, rfl, TyNew.mono ((hv3.setCell (by first | (show w.heap.size + 1 + 1 < _; omega) | (show w.heap.size + 1 + 1 < _; simp; omega) | simp) _).setCell (by first | (show w.heap.size + 1 + 1 < _; omega) | (show w.heap.size + 1 + 1 < _; simp; omega) | simp) _) (by first | exact Nat.le_refl _ | omega | (simp; done) | (simp; omega)), ((hB.setCell (by show w.heap.size ≤ w.heap.size + 1 + 1; omega) _).setCell (by show w.heap.size ≤ w.heap.size + 1 + 1; omega) _)⟩
    · rw [q2]
      have Hq2 := Lib.hid q2
      clear q2
      go_wp2_with fail
      refine bodyPost_ret (v := .tuple #[.agg #[.int .i64 0, .slice none 0 0], .bool false]) (by simp [results, Try.results65, go_sem, c2_0, c2_1]) rfl ?_
      rw [show joinT t u = Ty.none from by simp [joinT, joinB, Hq1.out, Hq2.out], show joinB t u = false from by simp [joinT, joinB, Hq1.out, Hq2.out]]
      exact ⟨_, rfl, TyNew.mono (TysNew.ty (TysNew.nil _ _)) (by first | exact Nat.le_refl _ | omega | (simp; done) | (simp; omega)), ((hB.setCell (by show w.heap.size ≤ w.heap.size + 1 + 1; omega) _).setCell (by show w.heap.size ≤ w.heap.size + 1 + 1; omega) _)⟩
  · have Hq1 := Lib.hid q1
    clear q1
    go_wp2_with fail
    refine (specTypeValid _ t _ _ (h1.below bal3)).mono ?_
    rintro e w4 ⟨rfl, hb4⟩
    rw [Hq1.out]
    have hB := (bstep bal3 hb4)
    have zw4 := hB.size
    have f2_0 : w4.frozen? ⟨w.heap.size + 1 + 1, 0, none⟩ = false := bfroc hb4 (cell_new (by simp) 0) (fro_new (by simp) 0)
    have f2_1 : w4.frozen? ⟨w.heap.size + 1 + 1, 1, none⟩ = false := bfroc hb4 (cell_new (by simp) 1) (fro_new (by simp) 1)
    have c2_0 : w4.cell? ⟨w.heap.size + 1 + 1, 0, none⟩ = some (.int .i64 0) := bcell hb4 (cell_new (by simp) 0)
    have c2_1 : w4.cell? ⟨w.heap.size + 1 + 1, 1, none⟩ = some (.slice none 0 0) := bcell hb4 (cell_new (by simp) 1)
    have d2_w4 := World.block_lt_of_cell? _ _ c2_0
    go_wp2_with fail
    refine bodyPost_ret (v := .tuple #[.agg #[.int .i64 0, .slice none 0 0], .bool false]) (by simp [results, Try.results65, go_sem, c2_0, c2_1]) rfl ?_
    rw [show joinT t u = Ty.none from by simp [joinT, joinB, Hq1.out], show joinB t u = false from by simp [joinT, joinB, Hq1.out]]
    exact ⟨_, rfl, TyNew.mono (TysNew.ty (TysNew.nil _ _)) (by first | exact Nat.le_refl _ | omega | (simp; done) | (simp; omega)), ((hB.setCell (by show w.heap.size ≤ w.heap.size + 1 + 1; omega) _).setCell (by show w.heap.size ≤ w.heap.size + 1 + 1; omega) _)⟩

end Go.Proofs.Ytjkkahlcbhcifaa
