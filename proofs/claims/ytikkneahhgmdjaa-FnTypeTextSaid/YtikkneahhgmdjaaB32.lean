/-
  Two types of one's own, and readings, as results of a call.
  The text of a type, and its reading: plain Lean on lists of bytes.
-/
import Derived.Test.YtikkneahhgmdjaaB5
import Derived.Test.YtikkneahhgmdjaaTyCopy
import Derived.Test.YtikkneahhgmdjaaB31
namespace Go.Proofs.Ytikkneahhgmdjaa
open Go.RowKit
set_option linter.unusedVariables false

theorem TyRep.all {F : Nat → Prop} {w : World} {t : Ty} {y : Value} (h : TyRep F w t y) : TyRep (fun _ => True) w t y := h.move (.weaken fun _ _ _ => trivial)
theorem TyRep.zero {F : Nat → Prop} {w : World} : TyRep F w Ty.none (.agg #[.int .i64 0, .slice none 0 0]) := by
  refine ⟨_, rfl, ?_⟩
  unfold TysRep Ty.none Ty.kids Ty.rows CRep
  exact ⟨none, 0, rfl, Nat.le_refl _, by unfold maxLen; omega, .inl rfl⟩

/-- Two types of one's own, from block B on, no block twice. -/
def Ty2New (B : Nat) (w : World) (t u : Ty) (y z : Value) : Prop := ∃ f g, TyOwn w t y f ∧ TyOwn w u z g ∧ (f ++ g).Nodup ∧ ∀ b ∈ f ++ g, B ≤ b
theorem TyOwn.setCell {w : World} {t : Ty} {y : Value} {f : List Nat} (h : TyOwn w t y f) {p : Addr} (hp : ∀ b ∈ f, b ≠ p.block) (v : Value) : TyOwn (w.setCell p v) t y f := by
  obtain ⟨s, hs, h1⟩ := h
  exact ⟨s, hs, COwn.move _ _ _ (fun b hb => Below.heap_setCell w p v b (hp b hb)) h1⟩
theorem Ty2New.below {B : Nat} {w w' : World} {t u : Ty} {y z : Value} (h : Ty2New B w t u y z) (k : Below w.heap.size w w') : Ty2New B w' t u y z :=
  let ⟨f, g, h1, h2, h3, h4⟩ := h; ⟨f, g, h1.below k, h2.below k, h3, h4⟩
theorem Ty2New.setCell {B : Nat} {w : World} {t u : Ty} {y z : Value} (h : Ty2New B w t u y z) {p : Addr} (hp : p.block < B) (v : Value) : Ty2New B (w.setCell p v) t u y z := by
  obtain ⟨f, g, h1, h2, h3, h4⟩ := h
  exact ⟨f, g, h1.setCell (fun b hb e => by have := h4 b (by simp [hb]); omega) v, h2.setCell (fun b hb e => by have := h4 b (by simp [hb]); omega) v, h3, h4⟩
theorem Ty2New.mono {B B' : Nat} {w : World} {t u : Ty} {y z : Value} (h : Ty2New B w t u y z) (hB : B' ≤ B) : Ty2New B' w t u y z :=
  let ⟨f, g, h1, h2, h3, h4⟩ := h; ⟨f, g, h1, h2, h3, fun b hb => Nat.le_trans hB (h4 b hb)⟩
theorem Ty2New.rep1 {B : Nat} {w : World} {t u : Ty} {y z : Value} (h : Ty2New B w t u y z) : TyRep (fun _ => True) w t y := let ⟨_, _, h1, _, _, _⟩ := h; h1.rep.all
theorem Ty2New.rep2 {B : Nat} {w : World} {t u : Ty} {y z : Value} (h : Ty2New B w t u y z) : TyRep (fun _ => True) w u z := let ⟨_, _, _, h1, _, _⟩ := h; h1.rep.all
theorem Ty2New.zero {B : Nat} {w : World} : Ty2New B w Ty.none Ty.none (.agg #[.int .i64 0, .slice none 0 0]) (.agg #[.int .i64 0, .slice none 0 0]) := by
  refine ⟨[], [], ⟨_, rfl, ?_⟩, ⟨_, rfl, ?_⟩, List.nodup_nil, by simp⟩ <;> exact COwn.sl_nil (by unfold maxLen; omega)
theorem Ty2New.shape {B : Nat} {w : World} {t u : Ty} {y z : Value} (h : Ty2New B w t u y z) : ∃ k a n q l c m r, y = .agg #[.int .i64 k, .slice a n q] ∧ z = .agg #[.int .i64 l, .slice c m r] := by
  obtain ⟨f, g, h1, h2, -, -⟩ := h
  obtain ⟨k, a, n, q, rfl, -⟩ := h1.shape
  obtain ⟨l, c, m, r, rfl, -⟩ := h2.shape
  exact ⟨k, a, n, q, l, c, m, r, rfl, rfl⟩
/-- What a second call has made lies apart from what the first one has made. -/
theorem Ty2New.mk {B : Nat} {w1 w2 : World} {t u : Ty} {y z : Value} (h1 : TyNew B w1 t y) (hB : B ≤ w1.heap.size) (hb : Below w1.heap.size w1 w2) (h2 : TyNew w1.heap.size w2 u z) : Ty2New B w2 t u y z := by
  obtain ⟨f, o1, d1, l1⟩ := h1
  obtain ⟨g, o2, d2, l2⟩ := h2
  have hl : ∀ b ∈ f, b < w1.heap.size := by
    obtain ⟨s, rfl, h⟩ := o1
    exact COwn.lt _ _ _ h
  refine ⟨f, g, o1.below hb, o2, List.nodup_append.2 ⟨d1, d2, fun x hx y hy e => by have := hl x hx; have := l2 y hy; omega⟩, fun b hb => ?_⟩
  rcases List.mem_append.1 hb with hb | hb
  · exact l1 b hb
  · have := l2 b hb; omega
def RetRep2B (t u : Ty) (b : Bool) (w : World) (e : Ending) (w' : World) : Prop := ∃ y z, e = .returned (.tuple #[y, z, .bool b]) ∧ TyRep (fun _ => True) w' t y ∧ TyRep (fun _ => True) w' u z ∧ Below w.heap.size w w'
def RetTy2B (t u : Ty) (b : Bool) (w : World) (e : Ending) (w' : World) : Prop := ∃ y z, e = .returned (.tuple #[y, z, .bool b]) ∧ Ty2New w.heap.size w' t u y z ∧ Below w.heap.size w w'

/-- Two operands behind a slice. -/
theorem TysRep.two {F : Nat → Prop} {w : World} {t u : Ty} {y : Value} (h : TysRep F w [t, u] y) :
    ∃ b off cap k1 c1 m1 q1 k2 c2 m2 q2, y = .slice (some ⟨b, off, none⟩) 2 cap ∧ 2 ≤ cap ∧ cap ≤ maxLen ∧ b < w.heap.size ∧
      w.cell? ⟨b, off, none⟩ = some (.int .i64 k1) ∧ w.cell? ⟨b, off + 1, none⟩ = some (.slice c1 m1 q1) ∧ w.cell? ⟨b, off + 2, none⟩ = some (.int .i64 k2) ∧ w.cell? ⟨b, off + 3, none⟩ = some (.slice c2 m2 q2) ∧
      TyRep F w t (.agg #[.int .i64 k1, .slice c1 m1 q1]) ∧ TyRep F w u (.agg #[.int .i64 k2, .slice c2 m2 q2]) := by
  obtain ⟨a, cap, rfl, h2, h3, hg⟩ := h.open
  obtain ⟨b, off, k1, c1, m1, q1, rfl, e0, e1, ht⟩ := hg 0 (by simp)
  obtain ⟨b', off', k2, c2, m2, q2, he, e2, e3, hu⟩ := hg 1 (by simp)
  simp only [Option.some.injEq, Addr.mk.injEq, and_true] at he
  obtain ⟨rfl, rfl⟩ := he
  exact ⟨b, off, cap, k1, c1, m1, q1, k2, c2, m2, q2, rfl, by simpa using h2, h3, World.block_lt_of_cell? w _ e0, by simpa using e0, by simpa using e1, by simpa using e2, by simpa using e3, ht, hu⟩

/-- Matching: the operands of a type of a kind, or of the unknown type. -/
def S.mat (k : Int) : S → S × S × Bool
  | .any => (.any, .any, true)
  | .fn a b => if k = 4 then (a, b, true) else (.zero, .zero, false)
  | .pr a b => if k = 5 then (a, b, true) else (.zero, .zero, false)
  | _ => (.zero, .zero, false)
end Go.Proofs.Ytikkneahhgmdjaa
namespace Go.Proofs.Ytikkneahhgmdjaa
open Go.RowKit
set_option linter.unusedVariables false
set_option linter.unusedSimpArgs false

/-- The text of a type, as bytes. 63 '?', 73 'I', 66 'B', 62 '>', 42 '*', 40, 41 the brackets. -/
def S.text : S → List UInt8
  | .zero => []
  | .any => [63]
  | .int => [73]
  | .bool => [66]
  | .fn a b => 40 :: (a.text ++ 62 :: (b.text ++ [41]))
  | .pr a b => 40 :: (a.text ++ 42 :: (b.text ++ [41]))

/-- Reading a type of at most a depth: the type and what is left. -/
def pp : Nat → List UInt8 → Option (S × List UInt8)
  | 0, _ => none
  | _ + 1, [] => none
  | d + 1, c :: l =>
    if c = 63 then some (.any, l) else
    if c = 73 then some (.int, l) else
    if c = 66 then some (.bool, l) else
    if c = 40 then
      match pp d l with
      | none => none
      | some (a, []) => none
      | some (a, k :: l1) =>
        if k = 62 ∨ k = 42 then
          match pp d l1 with
          | none => none
          | some (b, []) => none
          | some (b, e :: l2) => if e = 41 then some (if k = 62 then .fn a b else .pr a b, l2) else none
        else none
    else none

theorem pp_text : ∀ (s : S) (d : Nat) (r : List UInt8), s.ok = true → s.dep ≤ d → pp d (s.text ++ r) = some (s, r)
  | .zero, _, _, h, _ => by cases h
  | .any, d, r, _, hd => by obtain ⟨d, rfl⟩ : ∃ e, d = e + 1 := ⟨d - 1, by simp [S.dep] at hd; omega⟩; simp [S.text, pp]
  | .int, d, r, _, hd => by obtain ⟨d, rfl⟩ : ∃ e, d = e + 1 := ⟨d - 1, by simp [S.dep] at hd; omega⟩; simp [S.text, pp]
  | .bool, d, r, _, hd => by obtain ⟨d, rfl⟩ : ∃ e, d = e + 1 := ⟨d - 1, by simp [S.dep] at hd; omega⟩; simp [S.text, pp]
  | .fn a b, d, r, h, hd => by
    obtain ⟨d, rfl⟩ : ∃ e, d = e + 1 := ⟨d - 1, by simp [S.dep] at hd; omega⟩
    simp [S.ok] at h
    simp only [S.dep] at hd
    have h1 := pp_text a d (62 :: (b.text ++ (41 :: r))) h.1 (by omega)
    have h2 := pp_text b d (41 :: r) h.2 (by omega)
    simp [S.text, pp, h1, h2]
  | .pr a b, d, r, h, hd => by
    obtain ⟨d, rfl⟩ : ∃ e, d = e + 1 := ⟨d - 1, by simp [S.dep] at hd; omega⟩
    simp [S.ok] at h
    simp only [S.dep] at hd
    have h1 := pp_text a d (42 :: (b.text ++ (41 :: r))) h.1 (by omega)
    have h2 := pp_text b d (41 :: r) h.2 (by omega)
    simp [S.text, pp, h1, h2]
theorem pp_some : ∀ (d : Nat) (l : List UInt8) (s : S) (r : List UInt8), pp d l = some (s, r) → l = s.text ++ r ∧ s.ok = true ∧ s.dep ≤ d
  | 0, _, _, _, h => by simp [pp] at h
  | _ + 1, [], _, _, h => by simp [pp] at h
  | d + 1, c :: l, s, r, h => by
    unfold pp at h
    split at h
    · rename_i hc; simp at h; obtain ⟨rfl, rfl⟩ := h; subst hc; simp [S.text, S.ok, S.dep]
    split at h
    · rename_i hc; simp at h; obtain ⟨rfl, rfl⟩ := h; subst hc; simp [S.text, S.ok, S.dep]
    split at h
    · rename_i hc; simp at h; obtain ⟨rfl, rfl⟩ := h; subst hc; simp [S.text, S.ok, S.dep]
    split at h
    · rename_i hc
      subst hc
      split at h
      · cases h
      · cases h
      · rename_i a k l1 h1
        obtain ⟨rfl, oa, da⟩ := pp_some d l a _ h1
        split at h
        · rename_i hk
          split at h
          · cases h
          · cases h
          · rename_i b e l2 h2
            obtain ⟨rfl, ob, db⟩ := pp_some d l1 b _ h2
            split at h
            · rename_i he
              subst he
              simp at h
              obtain ⟨h, rfl⟩ := h
              rcases hk with rfl | rfl
              · simp at h; subst h; simp [S.text, S.ok, S.dep, oa, ob]; omega
              · simp at h; subst h; simp [S.text, S.ok, S.dep, oa, ob]; omega
            · cases h
        · cases h
    · cases h

/-- Reading a whole text. -/
def ppAll (l : List UInt8) : Option S :=
  match pp 4 l with
  | some (s, []) => some s
  | _ => none
theorem ppAll_text {s : S} (h : s.vd = true) : ppAll s.text = some s := by
  have := pp_text s 4 [] (S.vd_ok h) (S.vd_dep h)
  unfold ppAll
  rw [List.append_nil] at this
  rw [this]
theorem ppAll_some {l : List UInt8} {s : S} (h : ppAll l = some s) : l = s.text ∧ s.vd = true := by
  unfold ppAll at h
  split at h
  · rename_i s' hp
    simp at h
    subst h
    obtain ⟨h1, h2, h3⟩ := pp_some _ _ _ _ hp
    exact ⟨by simpa using h1, S.vd_mk h2 h3⟩
  · cases h
theorem S.text_ne : ∀ s : S, s.ok = true → s.text ≠ []
  | .zero, h => by cases h
  | .any, _ => by simp [S.text]
  | .int, _ => by simp [S.text]
  | .bool, _ => by simp [S.text]
  | .fn a b, _ => by simp [S.text]
  | .pr a b, _ => by simp [S.text]
theorem S.text_inj {s u : S} (hs : s.vd = true) (hu : u.vd = true) (h : s.text = u.text) : s = u := by
  have h1 := ppAll_text hs
  have h2 := ppAll_text hu
  rw [h, h2] at h1
  exact (Option.some.inj h1).symm
theorem ppAll_nil : ppAll [] = none := by rfl
theorem S.text_len : ∀ s : S, s.text.length + 3 ≤ 2 ^ (s.dep + 1)
  | .zero => by simp [S.text, S.dep]
  | .any => by simp [S.text, S.dep]
  | .int => by simp [S.text, S.dep]
  | .bool => by simp [S.text, S.dep]
  | .fn a b => by
    have h1 := S.text_len a
    have h2 := S.text_len b
    have e1 : 2 ^ (a.dep + 1) ≤ 2 ^ (max a.dep b.dep + 1) := Nat.pow_le_pow_right (by omega) (by omega)
    have e2 : 2 ^ (b.dep + 1) ≤ 2 ^ (max a.dep b.dep + 1) := Nat.pow_le_pow_right (by omega) (by omega)
    simp only [S.text, S.dep, List.length_cons, List.length_append, List.length_nil]
    rw [Nat.pow_succ 2 (max a.dep b.dep + 1)]
    omega
  | .pr a b => by
    have h1 := S.text_len a
    have h2 := S.text_len b
    have e1 : 2 ^ (a.dep + 1) ≤ 2 ^ (max a.dep b.dep + 1) := Nat.pow_le_pow_right (by omega) (by omega)
    have e2 : 2 ^ (b.dep + 1) ≤ 2 ^ (max a.dep b.dep + 1) := Nat.pow_le_pow_right (by omega) (by omega)
    simp only [S.text, S.dep, List.length_cons, List.length_append, List.length_nil]
    rw [Nat.pow_succ 2 (max a.dep b.dep + 1)]
    omega
theorem S.text_small {s : S} (h : s.vd = true) : s.text.length ≤ 29 := by
  have h1 := S.text_len s
  have h2 : 2 ^ (s.dep + 1) ≤ 2 ^ 5 := Nat.pow_le_pow_right (by omega) (by have := S.vd_dep h; omega)
  omega
end Go.Proofs.Ytikkneahhgmdjaa
