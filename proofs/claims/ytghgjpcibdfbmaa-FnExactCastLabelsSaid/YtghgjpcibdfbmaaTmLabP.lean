/-
  The labels of a term with casts: plain facts.
-/
import Derived.Test.YtghgjpcibdfbmaaTmCasts
import Derived.Lib.SlicesCompact
namespace Go.Proofs.Ytghgjpcibdfbmaa
open Go.RowKit
set_option linter.unusedVariables false
set_option linter.unusedSimpArgs false
set_option maxRecDepth 100000

/-- Strictly ascending lists. -/
def Asc (l : List Int) : Prop := l.Pairwise (· < ·)
theorem asc_ext : ∀ {l m : List Int}, Asc l → Asc m → (∀ x, x ∈ l ↔ x ∈ m) → l = m
  | [], [], _, _, _ => rfl
  | [], b :: m, _, _, h => absurd ((h b).2 (List.mem_cons_self ..)) (by simp)
  | a :: l, [], _, _, h => absurd ((h a).1 (List.mem_cons_self ..)) (by simp)
  | a :: l, b :: m, hl, hm, h => by
    have hl1 := (List.pairwise_cons.1 hl).1
    have hm1 := (List.pairwise_cons.1 hm).1
    have hab : a = b := by
      rcases List.mem_cons.1 ((h a).1 (List.mem_cons_self ..)) with e | e
      · exact e
      · rcases List.mem_cons.1 ((h b).2 (List.mem_cons_self ..)) with e2 | e2
        · exact e2.symm
        · have := hm1 a e; have := hl1 b e2; omega
    subst hab
    rw [asc_ext (List.pairwise_cons.1 hl).2 (List.pairwise_cons.1 hm).2 (fun x => ?_)]
    have hx := h x
    simp only [List.mem_cons] at hx
    constructor
    · intro hxl
      rcases hx.1 (.inr hxl) with e | e
      · subst e; exact absurd (hl1 x hxl) (by omega)
      · exact e
    · intro hxm
      rcases hx.2 (.inr hxm) with e | e
      · subst e; exact absurd (hm1 x hxm) (by omega)
      · exact e
def sstep (n : Int) (s : List Int × Bool) (x : Int) : List Int × Bool := if (!s.2 && decide (x > n)) = true then (s.1 ++ [n] ++ [x], true) else (s.1 ++ [x], s.2)
def sfold (n : Int) (l : List Int) : List Int × Bool := l.foldl (sstep n) ([], false)
def sins (n : Int) (l : List Int) : List Int := if l.contains n then l else if (sfold n l).2 then (sfold n l).1 else (sfold n l).1 ++ [n]
theorem sfold_snoc (n : Int) (l : List Int) (x : Int) : sfold n (l ++ [x]) = sstep n (sfold n l) x := by unfold sfold; rw [List.foldl_append]; rfl
theorem sfold_len (n : Int) (l : List Int) : (sfold n l).1.length = l.length + (if (sfold n l).2 then 1 else 0) := by
  obtain ⟨r, rfl⟩ : ∃ r, l = r.reverse := ⟨l.reverse, by simp⟩
  induction r with
  | nil => rfl
  | cons x r ih =>
    rw [List.reverse_cons, sfold_snoc, List.length_append, List.length_singleton]
    generalize sfold n r.reverse = s at *
    obtain ⟨s1, s2⟩ := s
    unfold sstep
    cases s2
    · by_cases h : x > n <;> simp [h] at ih ⊢ <;> omega
    · simp at ih ⊢; omega
theorem sins_len (n : Int) (l : List Int) : (sins n l).length ≤ l.length + 1 := by
  unfold sins
  have := sfold_len n l
  split
  · omega
  · split <;> rename_i h <;> simp [h] at this ⊢ <;> omega
theorem sfold_eq (n : Int) (l : List Int) : Asc l → n ∉ l → sfold n l = if l.any (fun x => decide (x > n)) then (l.filter (fun x => decide (x < n)) ++ n :: l.filter (fun x => decide (x > n)), true) else (l, false) := by
  intro hl hn
  obtain ⟨r, rfl⟩ : ∃ r, l = r.reverse := ⟨l.reverse, by simp⟩
  induction r with
  | nil => rfl
  | cons x r ih =>
    rw [List.reverse_cons] at hl hn ⊢
    have hp := List.pairwise_append.1 hl
    have ih2 := ih hp.1 (fun h => hn (List.mem_append_left _ h))
    have hxn : x ≠ n := fun e => hn (by rw [e]; simp)
    have hlt : ∀ y ∈ r.reverse, y < x := fun y hy => hp.2.2 y hy x (by simp)
    rw [sfold_snoc, ih2]
    generalize r.reverse = a at *
    rw [List.any_append]
    by_cases ha : (a.any fun x => decide (x > n)) = true
    · rw [ha]
      obtain ⟨z, hz, hzn⟩ := List.any_eq_true.1 ha
      have hxg : x > n := by have := hlt z hz; have := of_decide_eq_true hzn; omega
      simp [sstep, List.filter_append, List.filter_cons, hxg, show ¬ x < n by omega]
    · have ha' : (a.any fun x => decide (x > n)) = false := by simpa using ha
      rw [ha']
      have hall : ∀ y ∈ a, y < n := fun y hy => by
        have h1 : ¬ y > n := by have := List.any_eq_false.1 ha' y hy; simpa using this
        have h2 : y ≠ n := fun e => hn (by rw [← e]; exact List.mem_append_left _ hy)
        omega
      have hf1 : a.filter (fun x => decide (x < n)) = a := List.filter_eq_self.2 fun y hy => decide_eq_true (hall y hy)
      have hf2 : a.filter (fun x => decide (x > n)) = [] := List.filter_eq_nil_iff.2 fun y hy => by have := hall y hy; simp; omega
      by_cases hxg : x > n
      · simp [sstep, List.filter_append, List.filter_cons, hf1, hf2, hxg, show ¬ x < n by omega]
      · simp [sstep, hxg]
theorem sins_ok (n : Int) (l : List Int) (hl : Asc l) : Asc (sins n l) ∧ ∀ x, x ∈ sins n l ↔ x ∈ l ∨ x = n := by
  unfold sins
  by_cases hc : l.contains n = true
  · rw [if_pos hc]
    exact ⟨hl, fun x => ⟨.inl, fun h => h.elim id (fun e => by rw [e]; exact List.contains_iff_mem.1 hc)⟩⟩
  · rw [if_neg hc]
    have hn : n ∉ l := fun h => hc (List.contains_iff_mem.2 h)
    have he := sfold_eq n l hl hn
    have hr : (if (sfold n l).2 = true then (sfold n l).1 else (sfold n l).1 ++ [n]) = l.filter (fun x => decide (x < n)) ++ n :: l.filter (fun x => decide (x > n)) := by
      by_cases ha : (l.any fun x => decide (x > n)) = true
      · rw [if_pos ha] at he; rw [he]; rfl
      · rw [if_neg ha] at he
        have ha' : (l.any fun x => decide (x > n)) = false := by simpa using ha
        have hall : ∀ y ∈ l, y < n := fun y hy => by
          have h1 : ¬ y > n := by have := List.any_eq_false.1 ha' y hy; simpa using this
          have h2 : y ≠ n := fun e => hn (by rw [← e]; exact hy)
          omega
        have hf1 : l.filter (fun x => decide (x < n)) = l := List.filter_eq_self.2 fun y hy => decide_eq_true (hall y hy)
        have hf2 : l.filter (fun x => decide (x > n)) = [] := List.filter_eq_nil_iff.2 fun y hy => by have := hall y hy; simp; omega
        rw [he, hf1, hf2]; rfl
    rw [hr]
    refine ⟨List.pairwise_append.2 ⟨hl.filter _, List.pairwise_cons.2 ⟨fun y hy => by have := (List.mem_filter.1 hy).2; simpa using this, hl.filter _⟩, fun x hx y hy => ?_⟩, fun x => ?_⟩
    · have h1 : x < n := by have := (List.mem_filter.1 hx).2; simpa using this
      rcases List.mem_cons.1 hy with e | e
      · omega
      · have h2 : y > n := by have := (List.mem_filter.1 e).2; simpa using this
        omega
    · simp only [List.mem_append, List.mem_cons, List.mem_filter, decide_eq_true_eq]
      constructor
      · rintro (⟨h, -⟩ | h | ⟨h, -⟩)
        · exact .inl h
        · exact .inr h
        · exact .inl h
      · rintro (h | h)
        · have h2 : x ≠ n := fun e => hn (e ▸ h)
          by_cases h3 : x < n
          · exact .inl ⟨h, h3⟩
          · exact .inr (.inr ⟨h, by omega⟩)
        · exact .inr (.inl h)
theorem compact_ok (zs : List Int) (hs : zs.Pairwise (· ≤ ·)) : Asc (Lib.compact zs) ∧ ∀ x, x ∈ Lib.compact zs ↔ x ∈ zs := by
  have hg : ∀ i j (hi : i < zs.length) (hj : j < zs.length), i ≤ j → zs.toArray[i]! ≤ zs.toArray[j]! := fun i j hi hj hij => by
    rw [getElem!_pos zs.toArray i (by simpa using hi), getElem!_pos zs.toArray j (by simpa using hj)]
    simp only [List.getElem_toArray]
    rcases Nat.lt_or_eq_of_le hij with h | h
    · exact List.pairwise_iff_getElem.1 hs i j hi hj h
    · subst h; exact Int.le_refl _
  have h : ∀ m, m ≤ zs.length → Asc (Lib.compactUpTo zs.toArray m) ∧ (∀ x ∈ Lib.compactUpTo zs.toArray m, ∃ j, j < m ∧ zs.toArray[j]! = x) ∧ ∀ j, j < m → zs.toArray[j]! ∈ Lib.compactUpTo zs.toArray m := by
    intro m
    induction m with
    | zero => intro _; exact ⟨List.Pairwise.nil, (by intro x hx; cases hx), (by intro j hj; omega)⟩
    | succ m ih =>
      intro hm
      obtain ⟨h1, h2, h3⟩ := ih (by omega)
      rw [Lib.compactUpTo_succ]
      by_cases hk : Lib.keeps zs.toArray m = true
      · rw [if_pos hk]
        refine ⟨List.pairwise_append.2 ⟨h1, List.pairwise_singleton _ _, fun x hx y hy => ?_⟩, fun x hx => ?_, fun j hj => ?_⟩
        · rw [List.mem_singleton] at hy
          subst hy
          obtain ⟨j, hj, rfl⟩ := h2 x hx
          have hle := hg j (m - 1) (by omega) (by omega) (by omega)
          have hle2 := hg (m - 1) m (by omega) (by omega) (by omega)
          have hne : zs.toArray[m]! ≠ zs.toArray[m - 1]! := by
            unfold Lib.keeps at hk
            have := of_decide_eq_true hk
            rcases this with e | e
            · omega
            · exact e
          omega
        · rcases List.mem_append.1 hx with hx | hx
          · obtain ⟨j, hj, e⟩ := h2 x hx
            exact ⟨j, by omega, e⟩
          · rw [List.mem_singleton] at hx
            exact ⟨m, by omega, hx.symm⟩
        · rcases Nat.lt_or_eq_of_le (Nat.le_of_lt_succ hj) with h | h
          · exact List.mem_append_left _ (h3 j h)
          · subst h; exact List.mem_append_right _ (by simp)
      · rw [if_neg hk, List.append_nil]
        refine ⟨h1, fun x hx => ?_, fun j hj => ?_⟩
        · obtain ⟨j, hj, e⟩ := h2 x hx
          exact ⟨j, by omega, e⟩
        · rcases Nat.lt_or_eq_of_le (Nat.le_of_lt_succ hj) with h | h
          · exact h3 j h
          · subst h
            have h0 : ¬ (j = 0 ∨ zs.toArray[j]! ≠ zs.toArray[j - 1]!) := fun e => hk (by unfold Lib.keeps; exact decide_eq_true e)
            have he : zs.toArray[j]! = zs.toArray[j - 1]! := Classical.not_not.1 (fun e => h0 (.inr e))
            have hj0 : j ≠ 0 := fun e => h0 (.inl e)
            rw [he]
            exact h3 (j - 1) (by omega)
  obtain ⟨h1, h2, h3⟩ := h zs.length (Nat.le_refl _)
  refine ⟨h1, fun x => ⟨fun hx => ?_, fun hx => ?_⟩⟩
  · obtain ⟨j, hj, e⟩ := h2 x hx
    rw [getElem!_pos zs.toArray j (by simpa using hj)] at e
    rw [← e]
    simp
  · obtain ⟨j, hj, e⟩ := List.getElem_of_mem hx
    have := h3 j hj
    rw [getElem!_pos zs.toArray j (by simpa using hj)] at this
    show x ∈ Lib.compactUpTo zs.toArray zs.length
    simpa [e] using this
def sorted (l : List Int) : List Int := l.mergeSort fun x y => decide (x ≤ y)
theorem sorted_ok (l : List Int) : (sorted l).Pairwise (· ≤ ·) ∧ ∀ x, x ∈ sorted l ↔ x ∈ l := by
  constructor
  · have h := List.pairwise_mergeSort (le := fun x y : Int => decide (x ≤ y)) (fun a b c h1 h2 => by simp at *; omega) (fun a b => by simp; omega) l
    exact h.imp (fun h => by simpa using h)
  · intro x; unfold sorted; exact List.mem_mergeSort
mutual
def Tm.labs : Tm → List Int → List Int
  | .mk k _ _ _ _ lb ts, out => Tm.labss ts (if k == 14 then sins lb out else out)
def Tm.labss : List Tm → List Int → List Int
  | [], out => out
  | t :: ts, out => Tm.labss ts (t.labs out)
end
theorem Tm.labss_take_succ : ∀ (ts : List Tm) (out : List Int) (j : Nat) (h : j < ts.length), Tm.labss (ts.take (j + 1)) out = ts[j].labs (Tm.labss (ts.take j) out)
  | [], _, _, h => absurd h (Nat.not_lt_zero _)
  | t :: ts, out, 0, _ => by simp [Tm.labss]
  | t :: ts, out, j + 1, h => by
    have := Tm.labss_take_succ ts (t.labs out) j (by simpa using h)
    simpa only [List.take_succ_cons, Tm.labss, List.getElem_cons_succ] using this
mutual
theorem Tm.labs_ok : ∀ (t : Tm) (out : List Int), Asc out → Asc (t.labs out) ∧ ∀ x, x ∈ t.labs out ↔ x ∈ out ∨ x ∈ t.casts.map Tm.label
  | .mk k s u ty f lb ts, out, h => by
    unfold Tm.labs Tm.casts
    by_cases hk : (k == 14) = true
    · rw [if_pos hk, if_pos hk]
      obtain ⟨h1, h2⟩ := sins_ok lb out h
      obtain ⟨h3, h4⟩ := Tm.labss_ok ts _ h1
      refine ⟨h3, fun x => ?_⟩
      rw [h4, h2, List.map_append]
      simp only [List.map_cons, List.map_nil, List.mem_append, List.mem_singleton, Tm.label]
      constructor
      · rintro ((h | h) | h)
        · exact .inl h
        · exact .inr (.inl h)
        · exact .inr (.inr h)
      · rintro (h | h | h)
        · exact .inl (.inl h)
        · exact .inl (.inr h)
        · exact .inr h
    · rw [if_neg hk, if_neg hk]
      simpa using Tm.labss_ok ts out h
theorem Tm.labss_ok : ∀ (ts : List Tm) (out : List Int), Asc out → Asc (Tm.labss ts out) ∧ ∀ x, x ∈ Tm.labss ts out ↔ x ∈ out ∨ x ∈ (Tm.castss ts).map Tm.label
  | [], out, h => by unfold Tm.labss Tm.castss; exact ⟨h, fun x => by simp⟩
  | t :: ts, out, h => by
    unfold Tm.labss Tm.castss
    obtain ⟨h1, h2⟩ := Tm.labs_ok t out h
    obtain ⟨h3, h4⟩ := Tm.labss_ok ts _ h1
    refine ⟨h3, fun x => ?_⟩
    rw [h4, h2, List.map_append, List.mem_append, or_assoc]
end
mutual
theorem Tm.labs_len : ∀ (t : Tm) (out : List Int), (t.labs out).length ≤ out.length + t.casts.length
  | .mk k s u ty f lb ts, out => by
    unfold Tm.labs Tm.casts
    by_cases hk : (k == 14) = true
    · rw [if_pos hk, if_pos hk]
      have h1 := sins_len lb out
      have h2 := Tm.labss_len ts (sins lb out)
      rw [List.length_append, List.length_singleton]
      omega
    · rw [if_neg hk, if_neg hk]
      have h2 := Tm.labss_len ts out
      simpa using h2
theorem Tm.labss_len : ∀ (ts : List Tm) (out : List Int), (Tm.labss ts out).length ≤ out.length + (Tm.castss ts).length
  | [], out => by unfold Tm.labss Tm.castss; simp
  | t :: ts, out => by
    have h1 := Tm.labs_len t out
    have h2 := Tm.labss_len ts (t.labs out)
    unfold Tm.labss Tm.castss
    rw [List.length_append]
    omega
end
/-- Both ways to the labels of a term come to the same. -/
theorem Tm.labs_eq (t : Tm) : Lib.compact (sorted (t.casts.map Tm.label)) = t.labs [] := by
  obtain ⟨h1, h2⟩ := sorted_ok (t.casts.map Tm.label)
  obtain ⟨h3, h4⟩ := compact_ok _ h1
  obtain ⟨h5, h6⟩ := Tm.labs_ok t [] List.Pairwise.nil
  refine asc_ext h3 h5 (fun x => ?_)
  rw [h4, h2, h6]
  simp
def Tm.labels (t : Tm) : List Int := if t.castValid then t.labs [] else []
end Go.Proofs.Ytghgjpcibdfbmaa
