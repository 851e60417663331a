/-
  The text of a type, and its reading: plain Lean on lists of bytes.
-/
import Derived.Test.YtjkkahlcbhcifaaS
namespace Go.Proofs.Ytjkkahlcbhcifaa
open Go.RowKit
set_option linter.unusedVariables false
set_option linter.unusedSimpArgs false

/-- The text of a type, as bytes. 63 '?', 73 'I', 66 'B', 62 '>', 42 '*', 40, 41 the brackets. -/
def S.text : S → List UInt8
  | .zero => []
  | .any => [63]
  | .int => [73]
  | .bool => [66]
  | .fn a b => 40 :: (a.text ++ 62 :: (b.text ++ [41]))
  | .pr a b => 40 :: (a.text ++ 42 :: (b.text ++ [41]))

/-- Reading a type of at most a depth: the type and what is left. -/
def pp : Nat → List UInt8 → Option (S × List UInt8)
  | 0, _ => none
  | _ + 1, [] => none
  | d + 1, c :: l =>
    if c = 63 then some (.any, l) else
    if c = 73 then some (.int, l) else
    if c = 66 then some (.bool, l) else
    if c = 40 then
      match pp d l with
      | none => none
      | some (a, []) => none
      | some (a, k :: l1) =>
        if k = 62 ∨ k = 42 then
          match pp d l1 with
          | none => none
          | some (b, []) => none
          | some (b, e :: l2) => if e = 41 then some (if k = 62 then .fn a b else .pr a b, l2) else none
        else none
    else none

theorem pp_text : ∀ (s : S) (d : Nat) (r : List UInt8), s.ok = true → s.dep ≤ d → pp d (s.text ++ r) = some (s, r)
  | .zero, _, _, h, _ => by cases h
  | .any, d, r, _, hd => by obtain ⟨d, rfl⟩ : ∃ e, d = e + 1 := ⟨d - 1, by simp [S.dep] at hd; omega⟩; simp [S.text, pp]
  | .int, d, r, _, hd => by obtain ⟨d, rfl⟩ : ∃ e, d = e + 1 := ⟨d - 1, by simp [S.dep] at hd; omega⟩; simp [S.text, pp]
  | .bool, d, r, _, hd => by obtain ⟨d, rfl⟩ : ∃ e, d = e + 1 := ⟨d - 1, by simp [S.dep] at hd; omega⟩; simp [S.text, pp]
  | .fn a b, d, r, h, hd => by
    obtain ⟨d, rfl⟩ : ∃ e, d = e + 1 := ⟨d - 1, by simp [S.dep] at hd; omega⟩
    simp [S.ok] at h
    simp only [S.dep] at hd
    have h1 := pp_text a d (62 :: (b.text ++ (41 :: r))) h.1 (by omega)
    have h2 := pp_text b d (41 :: r) h.2 (by omega)
    simp [S.text, pp, h1, h2]
  | .pr a b, d, r, h, hd => by
    obtain ⟨d, rfl⟩ : ∃ e, d = e + 1 := ⟨d - 1, by simp [S.dep] at hd; omega⟩
    simp [S.ok] at h
    simp only [S.dep] at hd
    have h1 := pp_text a d (42 :: (b.text ++ (41 :: r))) h.1 (by omega)
    have h2 := pp_text b d (41 :: r) h.2 (by omega)
    simp [S.text, pp, h1, h2]
theorem pp_some : ∀ (d : Nat) (l : List UInt8) (s : S) (r : List UInt8), pp d l = some (s, r) → l = s.text ++ r ∧ s.ok = true ∧ s.dep ≤ d
  | 0, _, _, _, h => by simp [pp] at h
  | _ + 1, [], _, _, h => by simp [pp] at h
  | d + 1, c :: l, s, r, h => by
    unfold pp at h
    split at h
    · rename_i hc; simp at h; obtain ⟨rfl, rfl⟩ := h; subst hc; simp [S.text, S.ok, S.dep]
    split at h
    · rename_i hc; simp at h; obtain ⟨rfl, rfl⟩ := h; subst hc; simp [S.text, S.ok, S.dep]
    split at h
    · rename_i hc; simp at h; obtain ⟨rfl, rfl⟩ := h; subst hc; simp [S.text, S.ok, S.dep]
    split at h
    · rename_i hc
      subst hc
      split at h
      · cases h
      · cases h
      · rename_i a k l1 h1
        obtain ⟨rfl, oa, da⟩ := pp_some d l a _ h1
        split at h
        · rename_i hk
          split at h
          · cases h
          · cases h
          · rename_i b e l2 h2
            obtain ⟨rfl, ob, db⟩ := pp_some d l1 b _ h2
            split at h
            · rename_i he
              subst he
              simp at h
              obtain ⟨h, rfl⟩ := h
              rcases hk with rfl | rfl
              · simp at h; subst h; simp [S.text, S.ok, S.dep, oa, ob]; omega
              · simp at h; subst h; simp [S.text, S.ok, S.dep, oa, ob]; omega
            · cases h
        · cases h
    · cases h

/-- Reading a whole text. -/
def ppAll (l : List UInt8) : Option S :=
  match pp 4 l with
  | some (s, []) => some s
  | _ => none
theorem ppAll_text {s : S} (h : s.vd = true) : ppAll s.text = some s := by
  have := pp_text s 4 [] (S.vd_ok h) (S.vd_dep h)
  unfold ppAll
  rw [List.append_nil] at this
  rw [this]
theorem ppAll_some {l : List UInt8} {s : S} (h : ppAll l = some s) : l = s.text ∧ s.vd = true := by
  unfold ppAll at h
  split at h
  · rename_i s' hp
    simp at h
    subst h
    obtain ⟨h1, h2, h3⟩ := pp_some _ _ _ _ hp
    exact ⟨by simpa using h1, S.vd_mk h2 h3⟩
  · cases h
theorem S.text_ne : ∀ s : S, s.ok = true → s.text ≠ []
  | .zero, h => by cases h
  | .any, _ => by simp [S.text]
  | .int, _ => by simp [S.text]
  | .bool, _ => by simp [S.text]
  | .fn a b, _ => by simp [S.text]
  | .pr a b, _ => by simp [S.text]
theorem S.text_inj {s u : S} (hs : s.vd = true) (hu : u.vd = true) (h : s.text = u.text) : s = u := by
  have h1 := ppAll_text hs
  have h2 := ppAll_text hu
  rw [h, h2] at h1
  exact (Option.some.inj h1).symm
theorem ppAll_nil : ppAll [] = none := by rfl
theorem S.text_len : ∀ s : S, s.text.length + 3 ≤ 2 ^ (s.dep + 1)
  | .zero => by simp [S.text, S.dep]
  | .any => by simp [S.text, S.dep]
  | .int => by simp [S.text, S.dep]
  | .bool => by simp [S.text, S.dep]
  | .fn a b => by
    have h1 := S.text_len a
    have h2 := S.text_len b
    have e1 : 2 ^ (a.dep + 1) ≤ 2 ^ (max a.dep b.dep + 1) := Nat.pow_le_pow_right (by omega) (by omega)
    have e2 : 2 ^ (b.dep + 1) ≤ 2 ^ (max a.dep b.dep + 1) := Nat.pow_le_pow_right (by omega) (by omega)
    simp only [S.text, S.dep, List.length_cons, List.length_append, List.length_nil]
    rw [Nat.pow_succ 2 (max a.dep b.dep + 1)]
    omega
  | .pr a b => by
    have h1 := S.text_len a
    have h2 := S.text_len b
    have e1 : 2 ^ (a.dep + 1) ≤ 2 ^ (max a.dep b.dep + 1) := Nat.pow_le_pow_right (by omega) (by omega)
    have e2 : 2 ^ (b.dep + 1) ≤ 2 ^ (max a.dep b.dep + 1) := Nat.pow_le_pow_right (by omega) (by omega)
    simp only [S.text, S.dep, List.length_cons, List.length_append, List.length_nil]
    rw [Nat.pow_succ 2 (max a.dep b.dep + 1)]
    omega
theorem S.text_small {s : S} (h : s.vd = true) : s.text.length ≤ 29 := by
  have h1 := S.text_len s
  have h2 : 2 ^ (s.dep + 1) ≤ 2 ^ 5 := Nat.pow_le_pow_right (by omega) (by have := S.vd_dep h; omega)
  omega
end Go.Proofs.Ytjkkahlcbhcifaa
