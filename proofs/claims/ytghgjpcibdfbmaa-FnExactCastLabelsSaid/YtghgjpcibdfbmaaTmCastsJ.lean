/-
  The casts of a term, by the program, joined; the types of the casts with a label.
-/
import Derived.Test.YtghgjpcibdfbmaaTmCastsA
import Derived.Test.YtghgjpcibdfbmaaTmCastsB
import Derived.Test.YtghgjpcibdfbmaaK6
namespace Go.Proofs.Ytghgjpcibdfbmaa
open Go.RowKit
set_option linter.unusedVariables false
set_option linter.unusedSimpArgs false
set_option maxRecDepth 100000

theorem implCasts (F : Nat → Prop) (N0 : Nat) (hF : ∀ b, F b → b < N0) (t : Tm) : CastsC F N0 t := by
  have IH : ∀ t' ∈ t.kids, CastsC F N0 t' := fun t' ht => implCasts F N0 hF t'
  by_cases hk : (t.kind == 14) = true
  · exact castsA F N0 hF t hk IH
  · exact castsB F N0 hF t (by simpa using hk) IH
termination_by SizeOf.sizeOf t
decreasing_by exact Tm.kid_lt ht

theorem SRep.lenOf {F : Nat → Prop} {w : World} : ∀ {r : List C} {ys : List Value}, SRep F w r ys → ys.length = r.length
  | [], _, h => by unfold SRep at h; subst h; rfl
  | c :: cs, _, ⟨z, zs, e, h1, h2⟩ => by subst e; simp [SRep.lenOf h2]
theorem SRep.cellsAtOf {F : Nat → Prop} {w : World} {b : Nat} : ∀ (r : List C) (ys : List Value) (off : Nat), SRep F w r ys → (∀ i, i < ys.length → w.cell? ⟨b, off + i, none⟩ = ys[i]?) → CellsAt F w b off r
  | [], _, _, _, _ => by unfold CellsAt; trivial
  | c :: cs, _, off, ⟨z, zs, e, h1, h2⟩, k => by
    subst e
    unfold CellsAt
    refine ⟨⟨z, ?_, h1⟩, SRep.cellsAtOf cs zs _ h2 fun i hi => ?_⟩
    · have := k 0 (by simp); simpa using this
    · rw [Nat.add_assoc, k (1 + i) (by simp; omega), Nat.add_comm 1 i]; simp
theorem SRepRows.rowsAt {F : Nat → Prop} {w : World} {b : Nat} : ∀ (rs : List (List C)) (xs : List Value) (off : Nat), SRepRows F w rs xs → (∀ i, i < xs.length → w.cell? ⟨b, off + i, none⟩ = xs[i]?) → RowsAt F w b off rs
  | [], _, _, _, _ => by unfold RowsAt; trivial
  | r :: rs, _, off, ⟨ys, xs', e, h1, h2⟩, k => by
    subst e
    have hl := h1.lenOf
    unfold RowsAt
    refine ⟨SRep.cellsAtOf r ys off h1 (fun i hi => ?_), SRepRows.rowsAt rs xs' _ h2 fun i hi => ?_⟩
    · rw [k i (by rw [List.length_append]; omega), List.getElem?_append_left hi]
    · rw [← hl, Nat.add_assoc, k (ys.length + i) (by rw [List.length_append]; omega), List.getElem?_append_right (by omega)]
      congr 1
      omega
/-- A list that has grown reads as data. -/
theorem AccRep.crep {B n size : Nat} {F : Nat → Prop} {e : TypeId} {w : World} {v : Value} {rows : List (List C)} (h : AccRep B F e size w v n rows) : CRep (· < w.heap.size) w (.sl rows) v := by
  obtain ⟨xs, ⟨hl, h1⟩, h2, h3⟩ := h
  have h3' := h3.move (Keeps.weaken (G := (· < w.heap.size)) fun b _ hl => hl) _ _
  unfold CRep
  rcases h1 with ⟨rfl, rfl⟩ | ⟨g, cap, cur, rfl, hb, hg, hn, hc, hs, ht⟩
  · obtain rfl : rows = [] := List.eq_nil_of_length_eq_zero h2
    exact ⟨none, 0, rfl, Nat.le_refl _, by unfold maxLen; omega, .inl rfl⟩
  · have hlt : g < w.heap.size := by
      rcases Nat.lt_or_ge g w.heap.size with h | h
      · exact h
      · rw [Array.getElem?_eq_none h] at hg; cases hg
    exact ⟨_, cap, by rw [h2], by omega, hc, .inr ⟨g, 0, rfl, hlt, hlt, h3'.rowsAt _ _ 0 (fun i hi => by
      rw [← ht] at hi ⊢
      simp only [World.cell?, hg]
      simp only [List.length_take] at hi
      simp
      rw [List.getElem?_take_of_lt (by omega), Array.getElem?_toList])⟩⟩
theorem AccRep.tms {B n : Nat} {F : Nat → Prop} {e : TypeId} {w : World} {v : Value} {us : List Tm} (h : AccRep B F e 9 w v n (Tm.rows us)) : TmsRep (· < w.heap.size) w us v := h.crep

/-- The types of the casts with a label, of a list. -/
def castTys (l : Int) : List Tm → List Ty
  | [] => []
  | t :: ts => (if t.label == l then [t.src, t.type] else []) ++ castTys l ts
mutual
def Tm.ctys (l : Int) : Tm → List Ty
  | .mk k s u t f b ts => (if k == 14 && b == l then [f, t] else []) ++ Tm.ctyss l ts
def Tm.ctyss (l : Int) : List Tm → List Ty
  | [] => []
  | t :: ts => t.ctys l ++ Tm.ctyss l ts
end
theorem castTys_append (l : Int) (xs bs : List Tm) : castTys l (xs ++ bs) = castTys l xs ++ castTys l bs := by
  induction xs with
  | nil => simp [castTys]
  | cons a xs ih => simp [castTys, ih]
mutual
theorem Tm.ctys_eq (l : Int) : ∀ t : Tm, castTys l t.casts = t.ctys l
  | .mk k s u t f b ts => by
    unfold Tm.casts Tm.ctys
    rw [castTys_append, Tm.ctyss_eq l ts]
    congr 1
    by_cases hk : k = 14
    · subst hk; simp [castTys, Tm.label, Tm.src, Tm.type]
    · have : (k == 14) = false := by simpa using hk
      rw [this]; simp [castTys]
theorem Tm.ctyss_eq (l : Int) : ∀ ts : List Tm, castTys l (Tm.castss ts) = Tm.ctyss l ts
  | [] => by unfold Tm.castss Tm.ctyss; rfl
  | t :: ts => by unfold Tm.castss Tm.ctyss; rw [castTys_append, Tm.ctys_eq l t, Tm.ctyss_eq l ts]
end
theorem castTys_take_succ (l : Int) (us : List Tm) (j : Nat) (h : j < us.length) : castTys l (us.take (j + 1)) = castTys l (us.take j) ++ (if us[j].label == l then [us[j].src, us[j].type] else []) := by
  rw [List.take_succ_eq_append_getElem h, castTys_append]
  simp [castTys]
theorem castTys_len (l : Int) : ∀ us : List Tm, (castTys l us).length ≤ 2 * us.length
  | [] => by simp [castTys]
  | t :: ts => by
    have := castTys_len l ts
    unfold castTys
    rw [List.length_append]
    split <;> simp <;> omega
theorem castTys_take_le (l : Int) (us : List Tm) (j : Nat) : (castTys l (us.take j)).length ≤ 2 * us.length := by
  have := castTys_len l (us.take j)
  have h2 : (us.take j).length ≤ us.length := by rw [List.length_take]; omega
  omega
theorem Tm.own_cast {k u l : Int} {s : ByteArray} {t f : Ty} {ts : List Tm} (h : (Tm.mk k s u t f l ts).ownB = true) (hk : (k == 14) = true) : f.valid = true ∧ t.valid = true := by
  have h1 : Go.Proofs.Ytghgjpcibdfbmaa.ownB k u l s t.valid t.noneB f.noneB (f.valid && t.valid && f.cons t) = true := h
  unfold Go.Proofs.Ytghgjpcibdfbmaa.ownB at h1
  simp only [hk, if_true, Bool.and_eq_true] at h1
  exact h1.2.1.1
theorem Tm.ctys_valid (lb : Int) : ∀ (t : Tm) (n d : Int), t.shape n d = true → ∀ x ∈ t.ctys lb, x.valid = true := by
  intro t
  exact Tm.rec (motive_1 := fun t => ∀ (n d : Int), t.shape n d = true → ∀ x ∈ t.ctys lb, x.valid = true) (motive_2 := fun ts => ∀ (n d : Int), Tm.shapes ts n d = true → ∀ x ∈ Tm.ctyss lb ts, x.valid = true)
    (fun k s u ty f l ts ih n d h x hx => by
      obtain ⟨-, -, -, ho, h5⟩ := Tm.shape_parts h
      unfold Tm.ctys at hx
      rcases List.mem_append.1 hx with hx | hx
      · by_cases hk : (k == 14 && l == lb) = true
        · rw [if_pos hk] at hx
          have h2 := Tm.own_cast ho (by simp only [Bool.and_eq_true] at hk; exact hk.1)
          simp only [List.mem_cons, List.not_mem_nil, or_false] at hx
          rcases hx with rfl | rfl
          · exact h2.1
          · exact h2.2
        · rw [if_neg hk] at hx
          cases hx
      · exact ih _ _ h5 x hx)
    (fun _ _ _ x hx => by unfold Tm.ctyss at hx; cases hx)
    (fun t ts ih1 ih2 n d h x hx => by
      unfold Tm.shapes at h
      simp only [Bool.and_eq_true] at h
      unfold Tm.ctyss at hx
      rcases List.mem_append.1 hx with hx | hx
      · exact ih1 n d h.1 x hx
      · exact ih2 n d h.2 x hx) t
def Tm.castTypes (lb : Int) (t : Tm) : List Ty := if t.castValid then t.ctys lb else []
theorem Tm.castValid_shape {t : Tm} (h : t.castValid = true) : t.shape 13 40 = true := by
  unfold Tm.castValid at h
  simp only [Bool.and_eq_true] at h
  exact h.1
theorem Tm.casts_ok {t : Tm} (h : t.castValid = true) : t.casts.length ≤ 200 := by
  have h1 := t.casts_len
  unfold Tm.castValid at h
  simp only [Bool.and_eq_true, decide_eq_true_eq] at h
  omega
theorem Tm.ctys_ok {t : Tm} (lb : Int) (h : t.castValid = true) : ((t.ctys lb).length ≤ 400) ∧ (∀ x ∈ t.ctys lb, x.valid = true) ∧ ∀ x ∈ t.ctys lb, x.cnt ≤ 1048576 := by
  have hv := Tm.ctys_valid lb t 13 40 (Tm.castValid_shape h)
  refine ⟨?_, hv, fun x hx => Ty.cnt_valid (hv x hx)⟩
  have h1 := castTys_len lb t.casts
  rw [Tm.ctys_eq] at h1
  have := Tm.casts_ok h
  omega
end Go.Proofs.Ytghgjpcibdfbmaa
