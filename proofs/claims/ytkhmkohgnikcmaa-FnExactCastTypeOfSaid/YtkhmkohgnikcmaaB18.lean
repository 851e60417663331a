/-
  Copies by the reference.
  Consistency and precision of types: specConsistent.
  Consistency and precision of types: implPrecise0, specL1Precise.
  Consistency and precision of types: implPrecise, specPrecise.
  Types of the right shape as simple trees, and what the program computes on them: plain Lean.
  Two types of one's own, and readings, as results of a call.
  Matching of the program and of the reference.
  The text of a type, and its reading: plain Lean on lists of bytes.
-/
import Derived.Test.YtkhmkohgnikcmaaB16
import Derived.Test.YtkhmkohgnikcmaaTyCopyB
import Derived.Test.YtkhmkohgnikcmaaB10
import Derived.Test.YtkhmkohgnikcmaaB2
import Derived.Test.YtkhmkohgnikcmaaB3
namespace Go.Proofs.Ytkhmkohgnikcmaa
open Go.RowKit
set_option linter.unusedVariables false
set_option linter.unusedSimpArgs false
set_option maxRecDepth 100000

mutual
/-- The join of two types. -/
def Ty.join : Ty → Ty → Ty
  | .mk k ts, .mk l us => if k = l then .mk k (Ty.joins ts us) else .mk 1 []
def Ty.joins : List Ty → List Ty → List Ty
  | t :: ts, u :: us => t.join u :: Ty.joins ts us
  | _, _ => []
end
end Go.Proofs.Ytkhmkohgnikcmaa
namespace Go.Proofs.Ytkhmkohgnikcmaa
open Go.RowKit
set_option linter.unusedVariables false
set_option linter.unusedSimpArgs false
set_option maxRecDepth 100000

end Go.Proofs.Ytkhmkohgnikcmaa
namespace Go.Proofs.Ytkhmkohgnikcmaa
open Go.RowKit
set_option linter.unusedVariables false
set_option linter.unusedSimpArgs false
set_option maxRecDepth 100000

end Go.Proofs.Ytkhmkohgnikcmaa
namespace Go.Proofs.Ytkhmkohgnikcmaa
open Go.RowKit
set_option linter.unusedVariables false
set_option linter.unusedSimpArgs false
set_option maxRecDepth 100000

end Go.Proofs.Ytkhmkohgnikcmaa
namespace Go.Proofs.Ytkhmkohgnikcmaa
open Go.RowKit
set_option linter.unusedVariables false
set_option linter.unusedSimpArgs false

inductive S where
  | zero | any | int | bool
  | fn (a b : S)
  | pr (a b : S)
deriving DecidableEq

def S.ty : S → Ty
  | .zero => .mk 0 []
  | .any => .mk 1 []
  | .int => .mk 2 []
  | .bool => .mk 3 []
  | .fn a b => .mk 4 [a.ty, b.ty]
  | .pr a b => .mk 5 [a.ty, b.ty]
/-- No zero value inside. -/
def S.ok : S → Bool
  | .zero => false
  | .any => true
  | .int => true
  | .bool => true
  | .fn a b => a.ok && b.ok
  | .pr a b => a.ok && b.ok
def S.dep : S → Nat
  | .fn a b => max a.dep b.dep + 1
  | .pr a b => max a.dep b.dep + 1
  | _ => 1
def S.vd (s : S) : Bool := s.ok && decide (s.dep ≤ 4)
def S.cnt : S → Nat
  | .fn a b => a.cnt + b.cnt + 2
  | .pr a b => a.cnt + b.cnt + 2
  | _ => 0
theorem S.ty_cnt : ∀ s : S, s.ty.cnt = s.cnt
  | .zero => rfl
  | .any => rfl
  | .int => rfl
  | .bool => rfl
  | .fn a b => by simp [S.ty, Ty.cnt, Ty.cnts, S.cnt, a.ty_cnt, b.ty_cnt]; omega
  | .pr a b => by simp [S.ty, Ty.cnt, Ty.cnts, S.cnt, a.ty_cnt, b.ty_cnt]; omega

theorem S.dep_pos : ∀ s : S, 1 ≤ s.dep
  | .zero => Nat.le_refl _
  | .any => Nat.le_refl _
  | .int => Nat.le_refl _
  | .bool => Nat.le_refl _
  | .fn a b => by unfold S.dep; omega
  | .pr a b => by unfold S.dep; omega
theorem max_int (a b : Nat) (d : Int) (h : 1 ≤ a) : ((max a b + 1 : Nat) : Int) ≤ d ↔ (a : Int) ≤ d - 1 ∧ (b : Int) ≤ d - 1 := by
  rcases Nat.le_total a b with h1 | h1
  · rw [Nat.max_eq_right h1]; omega
  · rw [Nat.max_eq_left h1]; omega
theorem S.shape : ∀ (s : S) (d : Int), s.ty.shape d = (s.ok && decide ((s.dep : Int) ≤ d))
  | .zero, d => by simp [S.ty, Ty.shape, S.ok, tkids]
  | .any, d => by simp [S.ty, Ty.shape, Ty.shapes, S.ok, S.dep, tkids]; rfl
  | .int, d => by simp [S.ty, Ty.shape, Ty.shapes, S.ok, S.dep, tkids]; rfl
  | .bool, d => by simp [S.ty, Ty.shape, Ty.shapes, S.ok, S.dep, tkids]; rfl
  | .fn a b, d => by
    simp only [S.ty, Ty.shape, Ty.shapes, S.ok, S.dep, a.shape, b.shape]
    have ha := a.dep_pos
    rw [Bool.eq_iff_iff]
    simp only [Bool.and_eq_true, decide_eq_true_eq, max_int _ _ _ ha]
    simp [tkids]
    constructor
    · rintro ⟨h1, ⟨h2, h3⟩, h4, h5⟩; exact ⟨⟨h2, h4⟩, h3, h5⟩
    · rintro ⟨⟨h2, h4⟩, h3, h5⟩; exact ⟨by omega, ⟨h2, h3⟩, h4, h5⟩
  | .pr a b, d => by
    simp only [S.ty, Ty.shape, Ty.shapes, S.ok, S.dep, a.shape, b.shape]
    have ha := a.dep_pos
    rw [Bool.eq_iff_iff]
    simp only [Bool.and_eq_true, decide_eq_true_eq, max_int _ _ _ ha]
    simp [tkids]
    constructor
    · rintro ⟨h1, ⟨h2, h3⟩, h4, h5⟩; exact ⟨⟨h2, h4⟩, h3, h5⟩
    · rintro ⟨⟨h2, h4⟩, h3, h5⟩; exact ⟨by omega, ⟨h2, h3⟩, h4, h5⟩
theorem S.valid (s : S) : s.ty.valid = s.vd := by
  unfold Ty.valid S.vd
  rw [S.shape]
  congr 1
  rw [Bool.eq_iff_iff]; simp; omega
theorem Ty.shape_S : ∀ (t : Ty) (d : Int), t.shape d = true → ∃ s : S, t = s.ty
  | .mk k ts, d, h => by
    obtain ⟨h1, h2, h3⟩ := Ty.shape_mk h
    unfold tkids at h2
    split at h2
    · rename_i hk
      obtain rfl : ts = [] := List.eq_nil_of_length_eq_zero (by omega)
      rcases hk with rfl | rfl | rfl
      · exact ⟨.any, rfl⟩
      · exact ⟨.int, rfl⟩
      · exact ⟨.bool, rfl⟩
    · split at h2
      · rename_i hk
        match ts, h2, h3 with
        | [a, b], _, h3 =>
          obtain ⟨x, hx⟩ := Ty.shape_S a (d - 1) (Ty.shapes_mem h3 (by simp))
          obtain ⟨y, hy⟩ := Ty.shape_S b (d - 1) (Ty.shapes_mem h3 (by simp))
          subst hx hy
          rcases hk with rfl | rfl
          · exact ⟨.fn x y, rfl⟩
          · exact ⟨.pr x y, rfl⟩
      · omega
theorem Ty.valid_S {t : Ty} (h : t.valid = true) : ∃ s : S, t = s.ty ∧ s.vd = true := by
  obtain ⟨s, rfl⟩ := Ty.shape_S t 4 h
  exact ⟨s, rfl, by rw [← S.valid]; exact h⟩
theorem S.vd_ok {s : S} (h : s.vd = true) : s.ok = true := by unfold S.vd at h; simp at h; exact h.1
theorem S.vd_dep {s : S} (h : s.vd = true) : s.dep ≤ 4 := by unfold S.vd at h; simp at h; exact h.2
theorem S.vd_mk {s : S} (h : s.ok = true) (h2 : s.dep ≤ 4) : s.vd = true := by unfold S.vd; simp [h, h2]
theorem S.ty_inj : ∀ {s u : S}, s.ty = u.ty → s = u
  | .zero, u, h => by cases u <;> simp [S.ty] at h ⊢
  | .any, u, h => by cases u <;> simp [S.ty] at h ⊢
  | .int, u, h => by cases u <;> simp [S.ty] at h ⊢
  | .bool, u, h => by cases u <;> simp [S.ty] at h ⊢
  | .fn a b, u, h => by
    cases u <;> simp [S.ty] at h ⊢
    exact ⟨S.ty_inj h.1, S.ty_inj h.2⟩
  | .pr a b, u, h => by
    cases u <;> simp [S.ty] at h ⊢
    exact ⟨S.ty_inj h.1, S.ty_inj h.2⟩

mutual
theorem Ty.same_eq : ∀ {t u : Ty}, t.same u = true → t = u
  | .mk k ts, .mk l us, h => by
    unfold Ty.same at h
    simp at h
    rw [h.1, Ty.sames_eq h.2]
theorem Ty.sames_eq : ∀ {ts us : List Ty}, Ty.sames ts us = true → ts = us
  | [], [], _ => rfl
  | [], _ :: _, h => by unfold Ty.sames at h; cases h
  | _ :: _, [], h => by unfold Ty.sames at h; cases h
  | t :: ts, u :: us, h => by
    unfold Ty.sames at h
    simp at h
    rw [Ty.same_eq h.1, Ty.sames_eq h.2]
end
theorem Ty.same_iff {t u : Ty} : t.same u = true ↔ t = u := ⟨Ty.same_eq, fun h => h ▸ Ty.same_refl t⟩
theorem S.same (s u : S) : s.ty.same u.ty = decide (s = u) := by
  rw [Bool.eq_iff_iff, Ty.same_iff]
  simp
  exact ⟨S.ty_inj, fun h => h ▸ rfl⟩

def S.kind : S → Int
  | .zero => 0 | .any => 1 | .int => 2 | .bool => 3 | .fn _ _ => 4 | .pr _ _ => 5
/-- Consistency. -/
def S.cons : S → S → Bool
  | .any, _ => true
  | _, .any => true
  | .zero, .zero => true
  | .int, .int => true
  | .bool, .bool => true
  | .fn a b, .fn c d => a.cons c && b.cons d
  | .pr a b, .pr c d => a.cons c && b.cons d
  | _, _ => false
def S.meet : S → S → S
  | .any, u => u
  | .fn a b, .fn c d => .fn (a.meet c) (b.meet d)
  | .pr a b, .pr c d => .pr (a.meet c) (b.meet d)
  | s, _ => s
def S.join : S → S → S
  | .zero, .zero => .zero
  | .int, .int => .int
  | .bool, .bool => .bool
  | .fn a b, .fn c d => .fn (a.join c) (b.join d)
  | .pr a b, .pr c d => .pr (a.join c) (b.join d)
  | _, _ => .any
theorem S.ty_cons : ∀ (s u : S), s.ty.cons u.ty = s.cons u
  | .fn a b, .fn c d => by have h1 := S.ty_cons a c; have h2 := S.ty_cons b d; simp [S.ty, Ty.cons, Ty.conss, S.cons, h1, h2]
  | .pr a b, .pr c d => by have h1 := S.ty_cons a c; have h2 := S.ty_cons b d; simp [S.ty, Ty.cons, Ty.conss, S.cons, h1, h2]
  | .fn a b, .pr c d => by simp [S.ty, Ty.cons, S.cons]
  | .pr a b, .fn c d => by simp [S.ty, Ty.cons, S.cons]
  | .zero, u => by cases u <;> simp [S.ty, Ty.cons, Ty.conss, S.cons]
  | .any, u => by cases u <;> simp [S.ty, Ty.cons, Ty.conss, S.cons]
  | .int, u => by cases u <;> simp [S.ty, Ty.cons, Ty.conss, S.cons]
  | .bool, u => by cases u <;> simp [S.ty, Ty.cons, Ty.conss, S.cons]
  | .fn a b, .zero => by simp [S.ty, Ty.cons, S.cons]
  | .fn a b, .any => by simp [S.ty, Ty.cons, S.cons]
  | .fn a b, .int => by simp [S.ty, Ty.cons, S.cons]
  | .fn a b, .bool => by simp [S.ty, Ty.cons, S.cons]
  | .pr a b, .zero => by simp [S.ty, Ty.cons, S.cons]
  | .pr a b, .any => by simp [S.ty, Ty.cons, S.cons]
  | .pr a b, .int => by simp [S.ty, Ty.cons, S.cons]
  | .pr a b, .bool => by simp [S.ty, Ty.cons, S.cons]
theorem S.cons_refl : ∀ s : S, s.cons s = true
  | .zero => rfl
  | .any => rfl
  | .int => rfl
  | .bool => rfl
  | .fn a b => by simp [S.cons, a.cons_refl, b.cons_refl]
  | .pr a b => by simp [S.cons, a.cons_refl, b.cons_refl]
theorem S.any_cons (s : S) : S.any.cons s = true := by cases s <;> rfl
theorem S.any_meet (s : S) : S.any.meet s = s := by cases s <;> rfl
theorem S.meet_self : ∀ s : S, s.meet s = s
  | .zero => rfl
  | .any => rfl
  | .int => rfl
  | .bool => rfl
  | .fn a b => by simp [S.meet, a.meet_self, b.meet_self]
  | .pr a b => by simp [S.meet, a.meet_self, b.meet_self]
end Go.Proofs.Ytkhmkohgnikcmaa
namespace Go.Proofs.Ytkhmkohgnikcmaa
open Go.RowKit
set_option linter.unusedVariables false

theorem TyRep.all {F : Nat → Prop} {w : World} {t : Ty} {y : Value} (h : TyRep F w t y) : TyRep (fun _ => True) w t y := h.move (.weaken fun _ _ _ => trivial)
theorem TyRep.zero {F : Nat → Prop} {w : World} : TyRep F w Ty.none (.agg #[.int .i64 0, .slice none 0 0]) := by
  refine ⟨_, rfl, ?_⟩
  unfold TysRep Ty.none Ty.kids Ty.rows CRep
  exact ⟨none, 0, rfl, Nat.le_refl _, by unfold maxLen; omega, .inl rfl⟩

/-- Two types of one's own, from block B on, no block twice. -/
def Ty2New (B : Nat) (w : World) (t u : Ty) (y z : Value) : Prop := ∃ f g, TyOwn w t y f ∧ TyOwn w u z g ∧ (f ++ g).Nodup ∧ ∀ b ∈ f ++ g, B ≤ b
theorem TyOwn.setCell {w : World} {t : Ty} {y : Value} {f : List Nat} (h : TyOwn w t y f) {p : Addr} (hp : ∀ b ∈ f, b ≠ p.block) (v : Value) : TyOwn (w.setCell p v) t y f := by
  obtain ⟨s, hs, h1⟩ := h
  exact ⟨s, hs, COwn.move _ _ _ (fun b hb => Below.heap_setCell w p v b (hp b hb)) h1⟩
theorem Ty2New.below {B : Nat} {w w' : World} {t u : Ty} {y z : Value} (h : Ty2New B w t u y z) (k : Below w.heap.size w w') : Ty2New B w' t u y z :=
  let ⟨f, g, h1, h2, h3, h4⟩ := h; ⟨f, g, h1.below k, h2.below k, h3, h4⟩
theorem Ty2New.setCell {B : Nat} {w : World} {t u : Ty} {y z : Value} (h : Ty2New B w t u y z) {p : Addr} (hp : p.block < B) (v : Value) : Ty2New B (w.setCell p v) t u y z := by
  obtain ⟨f, g, h1, h2, h3, h4⟩ := h
  exact ⟨f, g, h1.setCell (fun b hb e => by have := h4 b (by simp [hb]); omega) v, h2.setCell (fun b hb e => by have := h4 b (by simp [hb]); omega) v, h3, h4⟩
theorem Ty2New.mono {B B' : Nat} {w : World} {t u : Ty} {y z : Value} (h : Ty2New B w t u y z) (hB : B' ≤ B) : Ty2New B' w t u y z :=
  let ⟨f, g, h1, h2, h3, h4⟩ := h; ⟨f, g, h1, h2, h3, fun b hb => Nat.le_trans hB (h4 b hb)⟩
theorem Ty2New.zero {B : Nat} {w : World} : Ty2New B w Ty.none Ty.none (.agg #[.int .i64 0, .slice none 0 0]) (.agg #[.int .i64 0, .slice none 0 0]) := by
  refine ⟨[], [], ⟨_, rfl, ?_⟩, ⟨_, rfl, ?_⟩, List.nodup_nil, by simp⟩ <;> exact COwn.sl_nil (by unfold maxLen; omega)
theorem Ty2New.shape {B : Nat} {w : World} {t u : Ty} {y z : Value} (h : Ty2New B w t u y z) : ∃ k a n q l c m r, y = .agg #[.int .i64 k, .slice a n q] ∧ z = .agg #[.int .i64 l, .slice c m r] := by
  obtain ⟨f, g, h1, h2, -, -⟩ := h
  obtain ⟨k, a, n, q, rfl, -⟩ := h1.shape
  obtain ⟨l, c, m, r, rfl, -⟩ := h2.shape
  exact ⟨k, a, n, q, l, c, m, r, rfl, rfl⟩
/-- What a second call has made lies apart from what the first one has made. -/
theorem Ty2New.mk {B : Nat} {w1 w2 : World} {t u : Ty} {y z : Value} (h1 : TyNew B w1 t y) (hB : B ≤ w1.heap.size) (hb : Below w1.heap.size w1 w2) (h2 : TyNew w1.heap.size w2 u z) : Ty2New B w2 t u y z := by
  obtain ⟨f, o1, d1, l1⟩ := h1
  obtain ⟨g, o2, d2, l2⟩ := h2
  have hl : ∀ b ∈ f, b < w1.heap.size := by
    obtain ⟨s, rfl, h⟩ := o1
    exact COwn.lt _ _ _ h
  refine ⟨f, g, o1.below hb, o2, List.nodup_append.2 ⟨d1, d2, fun x hx y hy e => by have := hl x hx; have := l2 y hy; omega⟩, fun b hb => ?_⟩
  rcases List.mem_append.1 hb with hb | hb
  · exact l1 b hb
  · have := l2 b hb; omega
/-- Two operands behind a slice. -/
theorem TysRep.two {F : Nat → Prop} {w : World} {t u : Ty} {y : Value} (h : TysRep F w [t, u] y) :
    ∃ b off cap k1 c1 m1 q1 k2 c2 m2 q2, y = .slice (some ⟨b, off, none⟩) 2 cap ∧ 2 ≤ cap ∧ cap ≤ maxLen ∧ b < w.heap.size ∧
      w.cell? ⟨b, off, none⟩ = some (.int .i64 k1) ∧ w.cell? ⟨b, off + 1, none⟩ = some (.slice c1 m1 q1) ∧ w.cell? ⟨b, off + 2, none⟩ = some (.int .i64 k2) ∧ w.cell? ⟨b, off + 3, none⟩ = some (.slice c2 m2 q2) ∧
      TyRep F w t (.agg #[.int .i64 k1, .slice c1 m1 q1]) ∧ TyRep F w u (.agg #[.int .i64 k2, .slice c2 m2 q2]) := by
  obtain ⟨a, cap, rfl, h2, h3, hg⟩ := h.open
  obtain ⟨b, off, k1, c1, m1, q1, rfl, e0, e1, ht⟩ := hg 0 (by simp)
  obtain ⟨b', off', k2, c2, m2, q2, he, e2, e3, hu⟩ := hg 1 (by simp)
  simp only [Option.some.injEq, Addr.mk.injEq, and_true] at he
  obtain ⟨rfl, rfl⟩ := he
  exact ⟨b, off, cap, k1, c1, m1, q1, k2, c2, m2, q2, rfl, by simpa using h2, h3, World.block_lt_of_cell? w _ e0, by simpa using e0, by simpa using e1, by simpa using e2, by simpa using e3, ht, hu⟩

/-- Matching: the operands of a type of a kind, or of the unknown type. -/
def S.mat (k : Int) : S → S × S × Bool
  | .any => (.any, .any, true)
  | .fn a b => if k = 4 then (a, b, true) else (.zero, .zero, false)
  | .pr a b => if k = 5 then (a, b, true) else (.zero, .zero, false)
  | _ => (.zero, .zero, false)
end Go.Proofs.Ytkhmkohgnikcmaa
namespace Go.Proofs.Ytkhmkohgnikcmaa
open Go.RowKit
set_option linter.unusedVariables false
set_option linter.unusedSimpArgs false
set_option maxRecDepth 100000

end Go.Proofs.Ytkhmkohgnikcmaa
namespace Go.Proofs.Ytkhmkohgnikcmaa
open Go.RowKit
set_option linter.unusedVariables false
set_option linter.unusedSimpArgs false

end Go.Proofs.Ytkhmkohgnikcmaa
