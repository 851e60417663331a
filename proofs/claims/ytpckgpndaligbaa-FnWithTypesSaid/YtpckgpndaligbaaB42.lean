/-
  A term with other types, by the program: joined; WithTypes: what it is.
  Validity, the number of nodes and the free names of a term and of its operands: plain laws.
  Terms with other types: plain laws.
-/
import Derived.Test.YtpckgpndaligbaaTmRetk
import Derived.Test.YtpckgpndaligbaaTmRet5
import Derived.Test.YtpckgpndaligbaaTmRet13
import Derived.Test.YtpckgpndaligbaaTmStatic
import Derived.Test.YtpckgpndaligbaaB27
import Derived.Test.YtpckgpndaligbaaB36
namespace Go.Proofs.Ytpckgpndaligbaa
open Go.RowKit
set_option linter.unusedVariables false
set_option linter.unusedSimpArgs false
set_option maxRecDepth 100000

theorem implRetyped (F : Nat → Prop) (B : Nat) (t : Tm) : RetyC F B t := by
  have IH : ∀ t' ∈ t.kids, RetyC F B t' := fun t' ht => implRetyped F B t'
  by_cases h5 : t.kind = 5
  · exact rety5 F B t h5 IH
  · by_cases h13 : t.kind = 13
    · exact rety13 F B t h13 IH
    · exact retyk F B t (by unfold hasT; simp [h5, h13]) IH
termination_by SizeOf.sizeOf t
decreasing_by exact Tm.kid_lt ht
theorem with1 (F : Nat → Prop) (t : Ty) (y : Value) (w : World) (hy : TyRep F w t y) : Calls Try.prog 21 #[y] w fun e w' => e = .returned (.bool (!t.valid)) ∧ Below w.heap.size w w' := by
  have h1 := fun W (h : Below w.heap.size w W) => implTypeValid F t y W (hy.below h)
  obtain ⟨k, a, n, q, rfl⟩ := hy.shape
  generalize t.valid = z at *
  have H1 := Lib.hid h1
  clear h1 hy
  go_enter Try.func21, Try.ntmps21
  go_wp2_with fail
  refine (H1.out _ bal1).mono ?_
  rintro e w1 ⟨rfl, hb1⟩
  have hB := (bstep bal1 hb1)
  go_wp2_with fail
  go_ret
  exact ⟨rfl, hB⟩
def Tm.withB (t : Tm) (L : List Ty) : Bool := t.valid && (decide (t.tys.length = L.length) && !(L.any fun x => !x.valid))
def Tm.withT (t : Tm) (L : List Ty) : Tm := if t.withB L then t.rety L else .zero
end Go.Proofs.Ytpckgpndaligbaa
namespace Go.Proofs.Ytpckgpndaligbaa
open Go.RowKit
set_option linter.unusedVariables false
set_option linter.unusedSimpArgs false
set_option maxRecDepth 100000

mutual
theorem Tm.shape_mono : ∀ (t : Tm) (nt d e : Int), t.shape nt d = true → d ≤ e → t.shape nt e = true
  | .mk k s u t f l ts, nt, d, e, h, hd => by
    unfold Tm.shape at h ⊢
    simp only [Bool.and_eq_true, decide_eq_true_eq] at h ⊢
    exact ⟨⟨⟨by omega, h.1.1.2⟩, h.1.2⟩, Tm.shapes_mono ts nt _ _ h.2 (by omega)⟩
theorem Tm.shapes_mono : ∀ (ts : List Tm) (nt d e : Int), Tm.shapes ts nt d = true → d ≤ e → Tm.shapes ts nt e = true
  | [], _, _, _, _, _ => by unfold Tm.shapes; rfl
  | t :: ts, nt, d, e, h, hd => by
    unfold Tm.shapes at h ⊢
    simp only [Bool.and_eq_true] at h ⊢
    exact ⟨Tm.shape_mono t nt d e h.1 hd, Tm.shapes_mono ts nt d e h.2 hd⟩
end
theorem Tm.size_kids (t : Tm) : t.size = 1 + Tm.sizes t.kids := by cases t; rw [Tm.size]; rfl
theorem Tm.size_mem : ∀ {ts : List Tm} {t : Tm}, t ∈ ts → t.size ≤ Tm.sizes ts
  | u :: ts, t, h => by
    unfold Tm.sizes
    have h1 := Tm.sizes_pos ts
    have h2 := u.size_pos
    rcases List.mem_cons.1 h with rfl | h
    · omega
    · have := Tm.size_mem h; omega
/-- The operands of a valid term are valid. -/
theorem Tm.valid_kid {t x : Tm} (h : t.valid = true) (hx : x ∈ t.kids) : x.valid = true := by
  cases t with | mk k s u ty f l ts =>
  unfold Tm.valid at h ⊢
  simp only [Bool.and_eq_true, decide_eq_true_eq] at h ⊢
  have h1 := (Tm.shape_parts h.1).2.2.2.2
  have h2 := Tm.size_mem hx
  have h3 := (Tm.mk k s u ty f l ts).size_kids
  exact ⟨Tm.shape_mono x 14 11 12 (Tm.shapes_mem h1 hx) (by omega), by omega⟩
/-- A valid term with a label is not valid. -/
theorem Tm.valid_label {k u l : Int} {s : ByteArray} {ty f : Ty} {ts : List Tm} (h : (Tm.mk k s u ty f l ts).valid = true) (f' : Ty) (l' : Int) (hl : l' ≠ 0) : (Tm.mk k s u ty f' l' ts).valid = false := by
  unfold Tm.valid at h
  simp only [Bool.and_eq_true, decide_eq_true_eq] at h
  have hk := (Tm.shape_parts h.1).2.1
  have h0 : (Tm.mk k s u ty f' l' ts).ownB = false := by
    unfold Tm.ownB Go.Proofs.Ytpckgpndaligbaa.ownB
    simp only [Tm.kind, Tm.label]
    have e1 : (k == 14) = false := by simpa using hk
    have e2 : (l' == 0) = false := by simpa using hl
    simp [e1, e2]
  unfold Tm.valid Tm.shape
  simp [h0]
theorem Tm.nodes_kids {t : Tm} (h : t.valid = true) : t.nodes = 1 + Tm.sizes t.kids ∧ t.nodes ≤ 30 := by
  have h' := h
  unfold Tm.nodes
  rw [if_pos h, Tm.size_kids]
  refine ⟨rfl, ?_⟩
  unfold Tm.valid at h'
  simp only [Bool.and_eq_true, decide_eq_true_eq] at h'
  have := Tm.size_kids t
  omega
theorem Tm.nodes_zero (t : Tm) : (t.nodes == 0) = !t.valid := by
  unfold Tm.nodes
  have := t.size_pos
  cases t.valid
  · rfl
  · simp; omega
theorem Tm.nodes_pos (t : Tm) : decide (t.nodes > 0) = t.valid := by
  unfold Tm.nodes
  have := t.size_pos
  cases t.valid
  · rfl
  · simp; omega
end Go.Proofs.Ytpckgpndaligbaa
namespace Go.Proofs.Ytpckgpndaligbaa
open Go.RowKit
set_option linter.unusedVariables false
set_option linter.unusedSimpArgs false
set_option maxRecDepth 100000

mutual
theorem Tm.rety_tys : ∀ (t : Tm) (L : List Ty), t.tys.length ≤ L.length → (t.rety L).tys = L.take t.tys.length
  | .mk k s u ty f l ts, L, h => by
    rw [Tm.rety, Tm.tys]
    rw [Tm.tys] at h ⊢
    by_cases hk : hasT k = true
    · simp only [hk, if_true] at h ⊢
      cases L with
      | nil => simp at h
      | cons x L =>
        have h' : (Tm.tyss ts).length ≤ L.length := by simp at h; omega
        simp only [List.headD_cons, List.tail_cons]
        rw [Tm.retys_tys ts L h']
        simp
    · simp only [hk, Bool.false_eq_true, if_false] at h ⊢
      have h' : (Tm.tyss ts).length ≤ L.length := by simpa using h
      rw [Tm.retys_tys ts L h']
      simp
theorem Tm.retys_tys : ∀ (ts : List Tm) (L : List Ty), (Tm.tyss ts).length ≤ L.length → Tm.tyss (Tm.retys ts L) = L.take (Tm.tyss ts).length
  | [], L, _ => by unfold Tm.retys Tm.tyss; simp
  | t :: ts, L, h => by
    rw [Tm.tyss, List.length_append] at h
    rw [Tm.retys, Tm.tyss, Tm.tyss, Tm.rety_tys t L (by omega), Tm.retys_tys ts (L.drop t.tys.length) (by simp; omega), List.length_append, List.take_add]
end
mutual
theorem Tm.rety_back : ∀ (t : Tm) (L M : List Ty), t.tys.length ≤ L.length → (t.rety L).rety (t.tys ++ M) = t
  | .mk k s u ty f l ts, L, M, h => by
    rw [Tm.rety, Tm.rety, Tm.tys]
    rw [Tm.tys] at h
    by_cases hk : hasT k = true
    · simp only [hk, if_true] at h ⊢
      have h' : (Tm.tyss ts).length ≤ L.tail.length := by simp at h ⊢; omega
      simp only [List.singleton_append, List.cons_append, List.nil_append, List.headD_cons, List.tail_cons]
      rw [Tm.retys_back ts L.tail M h']
    · simp only [hk, Bool.false_eq_true, if_false] at h ⊢
      have h' : (Tm.tyss ts).length ≤ L.length := by simpa using h
      simp only [List.nil_append]
      rw [Tm.retys_back ts L M h']
theorem Tm.retys_back : ∀ (ts : List Tm) (L M : List Ty), (Tm.tyss ts).length ≤ L.length → Tm.retys (Tm.retys ts L) (Tm.tyss ts ++ M) = ts
  | [], L, M, _ => by unfold Tm.retys; rfl
  | t :: ts, L, M, h => by
    rw [Tm.tyss, List.length_append] at h
    have hl : (t.rety L).tys.length = t.tys.length := by rw [Tm.rety_tys t L (by omega)]; simp; omega
    rw [Tm.retys, Tm.retys, Tm.tyss, hl, List.append_assoc, Tm.rety_back t L _ (by omega), List.drop_left, Tm.retys_back ts _ M (by simp; omega)]
end
theorem Tm.retys_length' : ∀ (ts : List Tm) (L : List Ty), (Tm.retys ts L).length = ts.length
  | [], L => by unfold Tm.retys; rfl
  | t :: ts, L => by unfold Tm.retys; simp [Tm.retys_length' ts]
mutual
theorem Tm.rety_size : ∀ (t : Tm) (L : List Ty), (t.rety L).size = t.size
  | .mk k s u ty f l ts, L => by rw [Tm.rety, Tm.size, Tm.size, Tm.retys_size]
theorem Tm.retys_size : ∀ (ts : List Tm) (L : List Ty), Tm.sizes (Tm.retys ts L) = Tm.sizes ts
  | [], L => by unfold Tm.retys; rfl
  | t :: ts, L => by rw [Tm.retys, Tm.sizes, Tm.sizes, Tm.rety_size, Tm.retys_size]
end
mutual
theorem Tm.rety_shape : ∀ (t : Tm) (L : List Ty) (d : Int), t.tys.length ≤ L.length → (∀ x ∈ L, x.valid = true) → t.shape 14 d = true → (t.rety L).shape 14 d = true
  | .mk k s u ty f l ts, L, d, h, hv, hs => by
    rw [Tm.rety]
    obtain ⟨h1, h2, h3, h4, h5⟩ := Tm.shape_parts hs
    rw [Tm.tys] at h
    have hk14 : (k == 14) = false := by simpa using h2
    have hown : (Tm.mk k s u (if hasT k then L.headD .no else ty) f l (Tm.retys ts (if hasT k then L.tail else L))).ownB = true := by
      unfold Tm.ownB Go.Proofs.Ytpckgpndaligbaa.ownB at h4 ⊢
      simp only [Tm.kind, Tm.num, Tm.label, Tm.name, Tm.type, Tm.src] at h4 ⊢
      by_cases hk : hasT k = true
      · simp only [hk, if_true] at h ⊢
        cases L with
        | nil => simp at h
        | cons x L =>
          have hx := hv x (by simp)
          have hk2 : (k == 5 || k == 13 || k == 14) = true := by
            rcases hasT_iff.1 hk with rfl | rfl <;> rfl
          simp only [hk2, if_true, List.headD_cons, hx, hk14, Bool.false_eq_true, if_false] at h4 ⊢
          simp only [Bool.and_eq_true] at h4 ⊢
          have hk3 : (k == 5 || k == 13 || false) = true := by simpa using (by rcases hasT_iff.1 hk with rfl | rfl <;> rfl : (k == 5 || k == 13) = true)
          exact ⟨⟨⟨h4.1.1.1, h4.1.1.2⟩, by rw [if_pos hk3]⟩, h4.2⟩
      · have hk' : hasT k = false := by simpa using hk
        simp only [hk', Bool.false_eq_true, if_false, hk14] at h4 ⊢
        exact h4
    have hkids : Tm.shapes (Tm.retys ts (if hasT k then L.tail else L)) 14 (d - 1) = true := by
      by_cases hk : hasT k = true
      · simp only [hk, if_true] at h ⊢
        exact Tm.retys_shape ts _ _ (by simp at h ⊢; omega) (fun x hx => hv x (List.mem_of_mem_tail hx)) h5
      · simp only [hk, Bool.false_eq_true, if_false] at h ⊢
        exact Tm.retys_shape ts _ _ (by simpa using h) hv h5
    unfold Tm.shape
    simp only [Bool.and_eq_true, decide_eq_true_eq, Bool.not_eq_true', beq_iff_eq]
    exact ⟨⟨⟨h1, hk14⟩, by rw [Tm.retys_length']; exact h3, hown⟩, hkids⟩
theorem Tm.retys_shape : ∀ (ts : List Tm) (L : List Ty) (d : Int), (Tm.tyss ts).length ≤ L.length → (∀ x ∈ L, x.valid = true) → Tm.shapes ts 14 d = true → Tm.shapes (Tm.retys ts L) 14 d = true
  | [], L, d, _, _, _ => by unfold Tm.retys Tm.shapes; rfl
  | t :: ts, L, d, h, hv, hs => by
    rw [Tm.tyss, List.length_append] at h
    unfold Tm.shapes at hs
    simp only [Bool.and_eq_true] at hs
    unfold Tm.retys Tm.shapes
    simp only [Bool.and_eq_true]
    exact ⟨Tm.rety_shape t L d (by omega) hv hs.1, Tm.retys_shape ts _ d (by simp; omega) (fun x hx => hv x (List.mem_of_mem_drop hx)) hs.2⟩
end
theorem Tm.withB_parts {t : Tm} {L : List Ty} (h : t.withB L = true) : t.valid = true ∧ t.tys.length = L.length ∧ ∀ x ∈ L, x.valid = true := by
  unfold Tm.withB at h
  simp only [Bool.and_eq_true, decide_eq_true_eq, Bool.not_eq_true', List.any_eq_false, Bool.not_eq_true, Bool.not_eq_false'] at h
  exact ⟨h.1, h.2.1, fun x hx => by simpa using h.2.2 x hx⟩
/-- What WithTypes answers when it can: valid, with these types, and back again. -/
theorem Tm.with_law {t : Tm} {L : List Ty} (h : t.withB L = true) : (t.withT L).valid = true ∧ (t.withT L).types = L ∧ (t.withT L).withB t.types = true ∧ (t.withT L).withT t.types = t := by
  obtain ⟨h1, h2, h3⟩ := Tm.withB_parts h
  have hW : t.withT L = t.rety L := by unfold Tm.withT; rw [if_pos h]
  have h1' := h1
  unfold Tm.valid at h1'
  simp only [Bool.and_eq_true, decide_eq_true_eq] at h1'
  have hv : (t.withT L).valid = true := by
    rw [hW]
    unfold Tm.valid
    simp only [Bool.and_eq_true, decide_eq_true_eq]
    exact ⟨Tm.rety_shape t L 12 (by omega) h3 h1'.1, by rw [Tm.rety_size]; exact h1'.2⟩
  have ht : (t.withT L).tys = L := by rw [hW, Tm.rety_tys t L (by omega), h2, List.take_length]
  have hty : t.types = t.tys := by unfold Tm.types; rw [if_pos h1]
  have hB : (t.withT L).withB t.types = true := by
    unfold Tm.withB
    rw [hty, hv, ht, h2]
    simp only [Bool.true_and, Bool.and_eq_true, decide_eq_true_eq, Bool.not_eq_true', List.any_eq_false, Bool.not_eq_true, Bool.not_eq_false']
    exact ⟨trivial, fun x hx => by simpa using Tm.tys_valid t 12 h1'.1 x hx⟩
  refine ⟨hv, by unfold Tm.types; rw [if_pos hv, ht], hB, ?_⟩
  unfold Tm.withT at hB ⊢
  rw [if_pos hB, if_pos h, hty]
  have := Tm.rety_back t L [] (by omega)
  rw [List.append_nil] at this
  exact this
end Go.Proofs.Ytpckgpndaligbaa
