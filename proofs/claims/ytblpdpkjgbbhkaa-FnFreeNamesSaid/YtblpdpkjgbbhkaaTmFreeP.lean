/-
  Free names: plain facts.
-/
import Derived.Test.YtblpdpkjgbbhkaaName
import Derived.Test.YtblpdpkjgbbhkaaTm
import Derived.Test.YtblpdpkjgbbhkaaTmOwnB
namespace Go.Proofs.Ytblpdpkjgbbhkaa
open Go.RowKit
set_option linter.unusedVariables false
set_option linter.unusedSimpArgs false
set_option maxRecDepth 100000

def bs (l : List UInt8) : ByteArray := ⟨l.toArray⟩
theorem bs_size (l : List UInt8) : (bs l).size = l.length := by unfold bs; simp [ByteArray.size]
theorem bs_get (l : List UInt8) (i : Nat) (h : i < (bs l).size) : (bs l)[i] = l[i]'(by rw [bs_size] at h; exact h) := by unfold bs; rfl
def alpha : List UInt8 := [97, 98, 99, 100, 101, 102, 103, 104, 105, 106, 107, 108, 109, 110, 111, 112, 113, 114, 115, 116, 117, 118, 119, 120, 121, 122]
theorem alpha_mem (x : UInt8) (h1 : 97 ≤ x.toNat) (h2 : x.toNat ≤ 122) : x ∈ alpha := by
  have h : ∀ n, n < 256 → 97 ≤ n → n ≤ 122 → UInt8.ofNat n ∈ alpha := by decide +kernel
  have h3 := h x.toNat x.toNat_lt h1 h2
  rwa [UInt8.ofNat_toNat] at h3
def encL (p : UInt8 → Bool) : List UInt8 := alpha.filter p
def insL (x : UInt8) : List UInt8 → List UInt8
  | [] => [x]
  | y :: l => if y < x then y :: insL x l else if y = x then y :: l else x :: y :: l
theorem insL_filter (p : UInt8 → Bool) (x : UInt8) : ∀ (a : List UInt8), a.Pairwise (· < ·) → x ∈ a → insL x (a.filter p) = a.filter (fun c => p c || c == x)
  | [], _, h => by cases h
  | y :: a, hp, hx => by
    have hp1 := (List.pairwise_cons.1 hp).1
    have hp2 := (List.pairwise_cons.1 hp).2
    by_cases hxy : x = y
    · subst hxy
      have hna : ∀ z ∈ a, (z == x) = false := fun z hz => by
        have := hp1 z hz
        rw [beq_eq_false_iff_ne]
        intro e; subst e; exact absurd this (UInt8.lt_irrefl _)
      have hf : a.filter (fun c => p c || c == x) = a.filter p := List.filter_congr fun z hz => by rw [hna z hz, Bool.or_false]
      have h2 : insL x (a.filter p) = x :: a.filter p := by
        cases hc : a.filter p with
        | nil => rfl
        | cons z l =>
          have hz : z ∈ a := (List.mem_filter.1 (hc ▸ List.mem_cons_self ..)).1
          have hlt := hp1 z hz
          unfold insL
          rw [if_neg (fun h => UInt8.lt_irrefl _ (UInt8.lt_trans h hlt)), if_neg (fun h => by subst h; exact UInt8.lt_irrefl _ hlt)]
      by_cases hpx : p x = true
      · rw [List.filter_cons_of_pos hpx, List.filter_cons_of_pos (by simp), hf]
        unfold insL
        rw [if_neg (UInt8.lt_irrefl _), if_pos rfl]
      · rw [List.filter_cons_of_neg hpx, List.filter_cons_of_pos (by simp), hf, h2]
    · have hxa : x ∈ a := by
        rcases List.mem_cons.1 hx with h | h
        · exact absurd h hxy
        · exact h
      have hlt := hp1 x hxa
      have ih := insL_filter p x a hp2 hxa
      have hyx : (y == x) = false := by rw [beq_eq_false_iff_ne]; exact fun e => hxy e.symm
      by_cases hpy : p y = true
      · rw [List.filter_cons_of_pos hpy, List.filter_cons_of_pos (by simp [hpy])]
        unfold insL
        rw [if_pos hlt, ih]
      · rw [List.filter_cons_of_neg hpy, List.filter_cons_of_neg (by simp [hpy, hyx]), ih]
theorem insL_enc (p : UInt8 → Bool) (x : UInt8) (hx : x ∈ alpha) : insL x (encL p) = encL (fun c => p c || c == x) :=
  insL_filter p x alpha (by decide) hx
theorem insL_split (x : UInt8) : ∀ (l : List UInt8) (k : Nat) (hk : k ≤ l.length), (∀ y ∈ l.take k, y < x) → (∀ h : k < l.length, ¬ l[k] < x) → insL x l = if l[k]? = some x then l else l.take k ++ x :: l.drop k
  | [], k, hk, _, _ => by
    obtain rfl : k = 0 := by simpa using hk
    rfl
  | y :: l, 0, _, _, h2 => by
    have h3 : ¬ y < x := h2 (by simp)
    unfold insL
    rw [if_neg h3]
    by_cases h4 : y = x
    · subst h4; rw [if_pos rfl, if_pos (by simp)]
    · rw [if_neg h4, if_neg (by simpa using h4)]; rfl
  | y :: l, k + 1, hk, h1, h2 => by
    have h3 : y < x := h1 y (by simp)
    have ih := insL_split x l k (by simpa using hk) (fun z hz => h1 z (by rw [List.take_succ_cons]; exact List.mem_cons_of_mem _ hz)) (fun h => by have := h2 (by simpa using h); simpa using this)
    unfold insL
    rw [if_pos h3, ih]
    simp only [List.getElem?_cons_succ, List.take_succ_cons, List.drop_succ_cons]
    split <;> rfl
theorem encL_len (p : UInt8 → Bool) : (encL p).length ≤ 26 := List.length_filter_le _ _
theorem encL_has (p : UInt8 → Bool) (x : UInt8) (hx : x ∈ alpha) : (encL p).contains x = p x := by
  unfold encL
  rw [Bool.eq_iff_iff, List.contains_iff_mem, List.mem_filter]
  exact ⟨fun h => h.2, fun h => ⟨hx, h⟩⟩
mutual
def Tm.fr : Tm → (UInt8 → Bool) → UInt8 → Bool
  | .mk k s _ _ _ _ ts, q, c => (k == 1 && !(q c) && s.data.toList == [c]) || Tm.frs ts (if k == 5 then fun d => q d || s.data.toList == [d] else q) c
def Tm.frs : List Tm → (UInt8 → Bool) → UInt8 → Bool
  | [], _, _ => false
  | t :: ts, q, c => t.fr q c || Tm.frs ts q c
end
theorem Tm.frs_take_succ : ∀ (ts : List Tm) (q : UInt8 → Bool) (c : UInt8) (j : Nat) (h : j < ts.length), Tm.frs (ts.take (j + 1)) q c = (Tm.frs (ts.take j) q c || ts[j].fr q c)
  | [], _, _, _, h => absurd h (Nat.not_lt_zero _)
  | t :: ts, q, c, 0, _ => by simp [Tm.frs]
  | t :: ts, q, c, j + 1, h => by
    have := Tm.frs_take_succ ts q c j (by simpa using h)
    simp only [List.take_succ_cons, Tm.frs, List.getElem_cons_succ, this, Bool.or_assoc]
theorem alpha_idx {x : UInt8} (h : x ∈ alpha) : ∃ i0, i0 < 26 ∧ x = UInt8.ofNat (97 + i0) := by
  have h1 : ∀ y ∈ alpha, ∃ i0, i0 < 26 ∧ y = UInt8.ofNat (97 + i0) := by decide +kernel
  exact h1 x h
theorem name_bs {s : ByteArray} (h : nameB s = true) : ∃ x, s = bs [x] ∧ x ∈ alpha := by
  unfold nameB at h
  split at h
  · rename_i h1
    simp only [Bool.and_eq_true, decide_eq_true_eq] at h
    refine ⟨s[0]'(by omega), ?_, alpha_mem _ (by omega) (by omega)⟩
    obtain ⟨⟨l⟩⟩ := s
    match l, h1 with
    | [a], _ => rfl
  · cases h
end Go.Proofs.Ytblpdpkjgbbhkaa
