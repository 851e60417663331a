/-
  TermValid and CastValid of the program.
  impl.CastTypeOf.
  CastTypeOf of both sides as the law's walk takes them.
-/
import Derived.Test.YtkhmkohgnikcmaaB47
import Derived.Test.YtkhmkohgnikcmaaB45
import Derived.Test.YtkhmkohgnikcmaaTyOwnT
import Derived.Test.YtkhmkohgnikcmaaB5
import Derived.Test.YtkhmkohgnikcmaaB7
namespace Go.Proofs.Ytkhmkohgnikcmaa
open Go.RowKit
set_option linter.unusedVariables false
set_option linter.unusedSimpArgs false
set_option maxRecDepth 100000

theorem leaf_iv40_1 (v : Bool) : (v : Bool) = (v) := by
  rfl

set_option maxHeartbeats 1000000 in
theorem implCastValid (F : Nat → Prop) (t : Tm) (y : Value) (w : World) (hy : TmRep F w t y) :
    Calls Try.prog 20 #[y] w fun e w' => e = .returned (.bool (t.castValid)) ∧ Below w.heap.size w w' := by
  have hv : (t.scan 13 200 40 1 0).1 = t.castValid := by
    have h := (Tm.scan_eq t 13 200 40 1 0 (by omega)).1
    unfold Tm.castValid
    rw [h]
    simp
  have h1 := fun W (h : Below w.heap.size w W) (r : Nat) (hr : w.heap.size ≤ r) (hr2 : r < W.heap.size) (hc : W.cell? ⟨r, 0, none⟩ = some (.int .i64 0)) (hf : W.frozen? ⟨r, 0, none⟩ = false) =>
    (implScan r 13 200 40 (by omega) (by omega) t 1 0 (by omega) (by omega) (by omega) y W (hy.move (G := (· ≠ r)) ⟨h.size, fun b _ hl => by omega, fun b _ hl => h.block b hl⟩) hc hf hr2).mono
      (R' := fun e W' => e = .returned (.bool t.castValid) ∧ Chg [r] W W') (fun e W' h => ⟨hv ▸ h.1, h.2.1⟩)
  obtain ⟨k, nm, u, tk, ta, tn, tq, fk, fa, fn, fq, l, c, m, q, rfl⟩ := hy.shape
  generalize t.castValid = v at *
  have H1 := Lib.hid h1
  clear h1 hy hv
  obtain ⟨rr, hrr⟩ : ∃ rr0 : Bool, (v) = rr0 := ⟨_, rfl⟩
  rw [hrr]
  have HT := Lib.hid hrr
  clear hrr
  go_enter Try.func20, Try.ntmps20
  go_wp2_with fail
  refine (H1.out _ bal2 (w.heap.size + 1) (by simp) (by simp) (cell_new (by simp) 0) (fro_new (by simp) 0)).mono ?_
  rintro e w1 ⟨rfl, hb1⟩
  have hB := (bchg bal2 hb1 (by omega) (Nat.le_refl _))
  have zw1 := hB.size
  go_wp2_with fail
  refine bodyPost_ret (v := .bool (v)) (by simp [results, Try.results20, go_sem, bne]) rfl ?_
  exact ⟨ret_bool ((leaf_iv40_1 v ).trans HT.out), hB⟩
end Go.Proofs.Ytkhmkohgnikcmaa
namespace Go.Proofs.Ytkhmkohgnikcmaa
open Go.RowKit
set_option linter.unusedVariables false
set_option linter.unusedSimpArgs false
set_option maxRecDepth 100000

set_option maxHeartbeats 4000000 in
theorem implCastTypeOf (F : Nat → Prop) (t : Tm) (y : Value) (w : World) (hy : TmRep F w t y) : Calls Try.prog 7 #[y] w (RetTyB (castOfT t) (castOf t).isSome w) := by
  have HV := Lib.hid (fun W (h : Below w.heap.size w W) => implCastValid F t y W (hy.below h))
  have H4 := Lib.hid (fun (hv : t.castValid = true) W (h : Below w.heap.size w W) => implCT t 40 [] (.slice none 0 0) y W F (by unfold Tm.castValid at hv; simp at hv; exact hv.1) (by simp) (fun b hb => by cases hb) (.inl ⟨rfl, rfl⟩) (by unfold BdsRep CRep; exact ⟨none, 0, rfl, Nat.le_refl _, by unfold maxLen; omega, .inl rfl⟩) (hy.below h))
  have HVD := Lib.hid (fun (hv : t.castValid = true) (h : S) (e : t.castS [] = some h) => castS_vd t 40 [] (by unfold Tm.castValid at hv; simp at hv; exact hv.1) (fun b hb => by cases hb) h e)
  obtain ⟨k, nm, u, tk, ta, tn, tq, fk, fa, fn, fq, lb, ca, cm, cq, rfl⟩ := hy.shape
  have fE := blk_below (blk_new (w := w) (o := .cells #[.int .i64 k, .string nm, .int .i64 u, .int .i64 tk, .slice ta tn tq, .int .i64 fk, .slice fa fn fq, .int .i64 lb, .slice ca cm cq] 36) rfl) (bal1 (o := .cells #[.int .i64 0, .slice none 0 0] 31))
  have fR := blk_new (w := w.alloc (.cells #[.int .i64 k, .string nm, .int .i64 u, .int .i64 tk, .slice ta tn tq, .int .i64 fk, .slice fa fn fq, .int .i64 lb, .slice ca cm cq] 36)) (o := .cells #[.int .i64 0, .slice none 0 0] 31) (b := w.heap.size + 1) (by simp)
  have HO := Lib.hid (show castOf t = if t.castValid then (t.castS []).map S.ty else none from rfl)
  unfold castOfT
  generalize castOf t = O at HO ⊢
  generalize t.castS [] = O1 at HO H4 HVD
  generalize hcv : t.castValid = cv at HO HV H4 HVD
  clear hcv hy
  cases cv with
  | false =>
    have HOO := Lib.hid (show O = none from by rw [HO.out]; rfl)
    clear HO
    go_enter Try.func7, Try.ntmps7
    go_wp2_with fail
    refine (HV.out _ (bstep bal1 bal1)).mono ?_
    rintro e w1 ⟨rfl, hb1⟩
    replace fR := blk_below fR hb1
    have fC := Lib.hid (bstep (bstep bal1 bal1) hb1)
    clear hb1 fE
    have r0 := blk_cell fR (o := 0) rfl
    have r1 := blk_cell fR (o := 1) rfl
    have rf0 := blk_fro fR 0
    have rf1 := blk_fro fR 1
    go_wp2_with fail
    have hY : ((w1.setCell ⟨w.heap.size + 1, 0, none⟩ (.int .i64 0)).setCell ⟨w.heap.size + 1, 1, none⟩ (.slice none 0 0)).heap[w.heap.size + 1]? = some (.cells #[.int .i64 0, .slice none 0 0] 31 (0, 0)) := blk_set (blk_set fR rfl) rfl
    have rc0 := blk_cell hY (o := 0) rfl
    have rc1 := blk_cell hY (o := 1) rfl
    refine bodyPost_ret (v := .tuple #[.agg #[.int .i64 0, .slice none 0 0], .bool false]) (by simp [results, Try.results7, go_sem, rc0, rc1]) rfl ?_
    rw [HOO.out]
    exact ⟨_, rfl, TysNew.ty (TysNew.nil _ _), (fC.out.setCell (p := ⟨w.heap.size + 1, 0, none⟩) (by show w.heap.size ≤ w.heap.size + 1; omega) _).setCell (p := ⟨w.heap.size + 1, 1, none⟩) (by show w.heap.size ≤ w.heap.size + 1; omega) _⟩
  | true =>
    have HOO := Lib.hid (show O = O1.map S.ty from by rw [HO.out]; rfl)
    clear HO
    go_enter Try.func7, Try.ntmps7
    go_wp2_with fail
    refine (HV.out _ (bstep bal1 bal1)).mono ?_
    rintro e w1 ⟨rfl, hb1⟩
    replace fR := blk_below fR hb1
    replace fE := blk_below fE hb1
    have fC := Lib.hid (bstep (bstep bal1 bal1) hb1)
    have H5 := Lib.hid (H4.out (by simp) w1 fC.out)
    have hz1 := hb1.size
    simp only [World.size_alloc] at hz1
    clear hb1 H4
    have d0 := blk_cell fE (o := 0) rfl
    have d1 := blk_cell fE (o := 1) rfl
    have d2 := blk_cell fE (o := 2) rfl
    have d3 := blk_cell fE (o := 3) rfl
    have d4 := blk_cell fE (o := 4) rfl
    have d5 := blk_cell fE (o := 5) rfl
    have d6 := blk_cell fE (o := 6) rfl
    have d7 := blk_cell fE (o := 7) rfl
    have d8 := blk_cell fE (o := 8) rfl
    go_wp2_with fail
    refine H5.out.mono ?_
    rintro e w2 ⟨k2, a2, n2, q2, b2, t2, rfl, hb2, ht2, ho2, hst⟩
    replace fR := blk_below fR hst
    replace fC := Lib.hid (bstep fC.out hst)
    have HT := Lib.hid ht2
    have HOT := Lib.hid ho2
    have hz2 := hst.size
    have lR2 := blk_lt fR
    have lR3 : w.heap.size + 1 < w2.heap.size + 1 := by omega
    clear ht2 ho2 hst d0 d1 d2 d3 d4 d5 d6 d7 d8
    cases O1 with
    | none =>
      obtain rfl : b2 = false := hb2
      have HN := Lib.hid (show O = none from HOO.out)
      have r0 := blk_cell fR (o := 0) rfl
      have r1 := blk_cell fR (o := 1) rfl
      have rf0 := blk_fro fR 0
      have rf1 := blk_fro fR 1
      go_wp2_with fail
      have hY : (((w2.setCell ⟨w.heap.size + 1, 0, none⟩ (.int .i64 0)).setCell ⟨w.heap.size + 1, 1, none⟩ (.slice none 0 0)).alloc (.cells #[.int .i64 k2, .slice a2 n2 q2] 31)).heap[w.heap.size + 1]? = some (.cells #[.int .i64 0, .slice none 0 0] 31 (0, 0)) := blk_below (blk_set (blk_set fR rfl) rfl) bal1
      have rc0 := blk_cell hY (o := 0) rfl
      have rc1 := blk_cell hY (o := 1) rfl
      refine bodyPost_ret (v := .tuple #[.agg #[.int .i64 0, .slice none 0 0], .bool false]) (by simp [results, Try.results7, go_sem, rc0, rc1]) rfl ?_
      rw [HN.out]
      exact ⟨_, rfl, TysNew.ty (TysNew.nil _ _), bstep ((fC.out.setCell (p := ⟨w.heap.size + 1, 0, none⟩) (by show w.heap.size ≤ w.heap.size + 1; omega) _).setCell (p := ⟨w.heap.size + 1, 1, none⟩) (by show w.heap.size ≤ w.heap.size + 1; omega) _) bal1⟩
    | some s =>
      obtain rfl : b2 = true := hb2
      obtain rfl : t2 = s.ty := HOT.out _ rfl
      have HN := Lib.hid (show O = some s.ty from HOO.out)
      have HW := Lib.hid (fun W (h : Below w2.heap.size w2 W) => implOwnType _ s.ty _ W (HT.out.below h) (S.cnt_ok (HVD.out (by simp) s rfl)))
      have fR2 := blk_below fR (bal1 (o := .cells #[.int .i64 k2, .slice a2 n2 q2] 31))
      go_wp2_with fail
      refine (HW.out _ bal1).mono ?_
      rintro e w3 ⟨v3, rfl, hv3, hb3⟩
      obtain ⟨k3, a3, n3, q3, rfl⟩ := hv3.shape
      have HV3 := Lib.hid hv3
      have fR3 := blk_below fR2 hb3
      replace fC := Lib.hid (bstep (bstep fC.out bal1) hb3)
      have hz3 := hb3.size
      simp only [World.size_alloc] at hz3
      clear hb3 hv3
      have r0 := blk_cell fR3 (o := 0) rfl
      have r1 := blk_cell fR3 (o := 1) rfl
      have rf0 := blk_fro fR3 0
      have rf1 := blk_fro fR3 1
      go_wp2_with fail
      have hY : ((w3.setCell ⟨w.heap.size + 1, 0, none⟩ (.int .i64 k3)).setCell ⟨w.heap.size + 1, 1, none⟩ (.slice a3 n3 q3)).heap[w.heap.size + 1]? = some (.cells #[.int .i64 k3, .slice a3 n3 q3] 31 (0, 0)) := blk_set (blk_set fR3 rfl) rfl
      have rc0 := blk_cell hY (o := 0) rfl
      have rc1 := blk_cell hY (o := 1) rfl
      refine bodyPost_ret (v := .tuple #[.agg #[.int .i64 k3, .slice a3 n3 q3], .bool true]) (by simp [results, Try.results7, go_sem, rc0, rc1]) rfl ?_
      rw [HN.out]
      exact ⟨_, rfl, TyNew.mono ((HV3.out.setCell (by show w.heap.size + 1 < _; simp; omega) _).setCell (by show w.heap.size + 1 < _; simp; omega) _) (by simp; omega), (fC.out.setCell (p := ⟨w.heap.size + 1, 0, none⟩) (by show w.heap.size ≤ w.heap.size + 1; omega) _).setCell (p := ⟨w.heap.size + 1, 1, none⟩) (by show w.heap.size ≤ w.heap.size + 1; omega) _⟩
end Go.Proofs.Ytkhmkohgnikcmaa
namespace Go.Proofs.Ytkhmkohgnikcmaa
open Go.RowKit
set_option linter.unusedVariables false
set_option linter.unusedSimpArgs false
set_option maxRecDepth 100000

/-- A reading in blocks of a list. -/
def TyRd (w : World) (t : Ty) (v : Value) (f : List Nat) : Prop := TyRep (fun b => b ∈ f) w t v ∧ ∀ b ∈ f, b < w.heap.size
theorem TyRd.below {w w' : World} {t : Ty} {y : Value} {fp : List Nat} (h : TyRd w t y fp) (k : Below w.heap.size w w') : TyRd w' t y fp :=
  ⟨h.1.below k, fun b hb => Nat.lt_of_lt_of_le (h.2 b hb) k.size⟩
theorem TyRd.rep {w : World} {t : Ty} {y : Value} {fp : List Nat} (h : TyRd w t y fp) : TyRep (· ∈ fp) w t y := h.1
theorem TyRd.lt {w : World} {t : Ty} {y : Value} {fp : List Nat} (h : TyRd w t y fp) : ∀ b ∈ fp, b < w.heap.size := h.2
theorem TyRd.chg {fp fp' : List Nat} {w w' : World} {t : Ty} {y : Value} (h : Chg fp w w') (hn : ∀ b ∈ fp', b ∉ fp) (r : TyRd w t y fp') : TyRd w' t y fp' :=
  ⟨r.1.move ⟨h.size, fun b hb _ => hb, fun b hb hl => h.block b hl (hn b hb)⟩, fun b hb => Nat.lt_of_lt_of_le (r.2 b hb) h.size⟩
theorem TyRd.ks {w : World} {t : Ty} {y : Value} {fp : List Nat} (r : TyRd w t y fp) : ∃ k a n q, y = .agg #[.int .i64 k, .slice a n q] := r.1.shape
theorem castOf_vd (t : Tm) : ∀ s, castOf t = some s → s.valid = true := by
  intro s h
  unfold castOf at h
  split at h
  · rename_i hv
    cases e : t.castS [] with
    | none => rw [e] at h; cases h
    | some g =>
      rw [e] at h
      obtain rfl := Option.some.inj h
      rw [S.valid]
      exact castS_vd t 40 [] (by unfold Tm.castValid at hv; simp at hv; exact hv.1) (fun b hb => by cases hb) g e
  · cases h
theorem castOfT_cnt (t : Tm) : (castOfT t).cnt ≤ 1048576 := by
  unfold castOfT
  cases h : castOf t with
  | none => simp [Ty.cnt, Ty.cnts]
  | some s => exact Ty.cnt_valid (castOf_vd t s h)
theorem specCastTypeOf' (F : Nat → Prop) (t : Tm) (y : Value) (w : World) (hy : TmRep F w t y) : Calls Try.prog 5 #[y] w fun e w' => ∃ v, e = .returned (.tuple #[v, .bool (castOf t).isSome]) ∧ (∃ f, TyRd w' (castOfT t) v f ∧ f.Nodup ∧ ∀ b ∈ f, w.heap.size ≤ b) ∧ Below w.heap.size w w' := by
  refine (specCastTypeOf F t y w hy).mono ?_
  rintro e w' ⟨k, a, n, q, rfl, h, hb⟩
  have hs := hb.size
  refine ⟨_, rfl, ⟨List.range' w.heap.size (w'.heap.size - w.heap.size), ⟨h.move (.weaken fun b hb hl => List.mem_range'_1.2 ⟨hb, by omega⟩), fun b hb => by have h1 := (List.mem_range'_1.1 hb).2; omega⟩, List.nodup_range', fun b hb => (List.mem_range'_1.1 hb).1⟩, hb⟩
end Go.Proofs.Ytkhmkohgnikcmaa
