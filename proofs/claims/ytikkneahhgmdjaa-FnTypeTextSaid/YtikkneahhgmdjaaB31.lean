/-
  Consistency and precision of types: implPrecise, specPrecise.
  Types of the right shape as simple trees, and what the program computes on them: plain Lean.
-/
import Derived.Test.YtikkneahhgmdjaaB30
import Derived.Test.YtikkneahhgmdjaaB29
import Derived.Test.YtikkneahhgmdjaaB24
import Derived.Test.YtikkneahhgmdjaaB22
namespace Go.Proofs.Ytikkneahhgmdjaa
open Go.RowKit
set_option linter.unusedVariables false
set_option linter.unusedSimpArgs false
set_option maxRecDepth 100000

end Go.Proofs.Ytikkneahhgmdjaa
namespace Go.Proofs.Ytikkneahhgmdjaa
open Go.RowKit
set_option linter.unusedVariables false
set_option linter.unusedSimpArgs false

inductive S where
  | zero | any | int | bool
  | fn (a b : S)
  | pr (a b : S)
deriving DecidableEq

def S.ty : S → Ty
  | .zero => .mk 0 []
  | .any => .mk 1 []
  | .int => .mk 2 []
  | .bool => .mk 3 []
  | .fn a b => .mk 4 [a.ty, b.ty]
  | .pr a b => .mk 5 [a.ty, b.ty]
/-- No zero value inside. -/
def S.ok : S → Bool
  | .zero => false
  | .any => true
  | .int => true
  | .bool => true
  | .fn a b => a.ok && b.ok
  | .pr a b => a.ok && b.ok
def S.dep : S → Nat
  | .fn a b => max a.dep b.dep + 1
  | .pr a b => max a.dep b.dep + 1
  | _ => 1
def S.vd (s : S) : Bool := s.ok && decide (s.dep ≤ 4)
def S.cnt : S → Nat
  | .fn a b => a.cnt + b.cnt + 2
  | .pr a b => a.cnt + b.cnt + 2
  | _ => 0
theorem S.ty_cnt : ∀ s : S, s.ty.cnt = s.cnt
  | .zero => rfl
  | .any => rfl
  | .int => rfl
  | .bool => rfl
  | .fn a b => by simp [S.ty, Ty.cnt, Ty.cnts, S.cnt, a.ty_cnt, b.ty_cnt]; omega
  | .pr a b => by simp [S.ty, Ty.cnt, Ty.cnts, S.cnt, a.ty_cnt, b.ty_cnt]; omega

theorem S.dep_pos : ∀ s : S, 1 ≤ s.dep
  | .zero => Nat.le_refl _
  | .any => Nat.le_refl _
  | .int => Nat.le_refl _
  | .bool => Nat.le_refl _
  | .fn a b => by unfold S.dep; omega
  | .pr a b => by unfold S.dep; omega
theorem max_int (a b : Nat) (d : Int) (h : 1 ≤ a) : ((max a b + 1 : Nat) : Int) ≤ d ↔ (a : Int) ≤ d - 1 ∧ (b : Int) ≤ d - 1 := by
  rcases Nat.le_total a b with h1 | h1
  · rw [Nat.max_eq_right h1]; omega
  · rw [Nat.max_eq_left h1]; omega
theorem S.shape : ∀ (s : S) (d : Int), s.ty.shape d = (s.ok && decide ((s.dep : Int) ≤ d))
  | .zero, d => by simp [S.ty, Ty.shape, S.ok, tkids]
  | .any, d => by simp [S.ty, Ty.shape, Ty.shapes, S.ok, S.dep, tkids]; rfl
  | .int, d => by simp [S.ty, Ty.shape, Ty.shapes, S.ok, S.dep, tkids]; rfl
  | .bool, d => by simp [S.ty, Ty.shape, Ty.shapes, S.ok, S.dep, tkids]; rfl
  | .fn a b, d => by
    simp only [S.ty, Ty.shape, Ty.shapes, S.ok, S.dep, a.shape, b.shape]
    have ha := a.dep_pos
    rw [Bool.eq_iff_iff]
    simp only [Bool.and_eq_true, decide_eq_true_eq, max_int _ _ _ ha]
    simp [tkids]
    constructor
    · rintro ⟨h1, ⟨h2, h3⟩, h4, h5⟩; exact ⟨⟨h2, h4⟩, h3, h5⟩
    · rintro ⟨⟨h2, h4⟩, h3, h5⟩; exact ⟨by omega, ⟨h2, h3⟩, h4, h5⟩
  | .pr a b, d => by
    simp only [S.ty, Ty.shape, Ty.shapes, S.ok, S.dep, a.shape, b.shape]
    have ha := a.dep_pos
    rw [Bool.eq_iff_iff]
    simp only [Bool.and_eq_true, decide_eq_true_eq, max_int _ _ _ ha]
    simp [tkids]
    constructor
    · rintro ⟨h1, ⟨h2, h3⟩, h4, h5⟩; exact ⟨⟨h2, h4⟩, h3, h5⟩
    · rintro ⟨⟨h2, h4⟩, h3, h5⟩; exact ⟨by omega, ⟨h2, h3⟩, h4, h5⟩
theorem S.valid (s : S) : s.ty.valid = s.vd := by
  unfold Ty.valid S.vd
  rw [S.shape]
  congr 1
  rw [Bool.eq_iff_iff]; simp; omega
theorem Ty.shape_S : ∀ (t : Ty) (d : Int), t.shape d = true → ∃ s : S, t = s.ty
  | .mk k ts, d, h => by
    obtain ⟨h1, h2, h3⟩ := Ty.shape_mk h
    unfold tkids at h2
    split at h2
    · rename_i hk
      obtain rfl : ts = [] := List.eq_nil_of_length_eq_zero (by omega)
      rcases hk with rfl | rfl | rfl
      · exact ⟨.any, rfl⟩
      · exact ⟨.int, rfl⟩
      · exact ⟨.bool, rfl⟩
    · split at h2
      · rename_i hk
        match ts, h2, h3 with
        | [a, b], _, h3 =>
          obtain ⟨x, hx⟩ := Ty.shape_S a (d - 1) (Ty.shapes_mem h3 (by simp))
          obtain ⟨y, hy⟩ := Ty.shape_S b (d - 1) (Ty.shapes_mem h3 (by simp))
          subst hx hy
          rcases hk with rfl | rfl
          · exact ⟨.fn x y, rfl⟩
          · exact ⟨.pr x y, rfl⟩
      · omega
theorem Ty.valid_S {t : Ty} (h : t.valid = true) : ∃ s : S, t = s.ty ∧ s.vd = true := by
  obtain ⟨s, rfl⟩ := Ty.shape_S t 4 h
  exact ⟨s, rfl, by rw [← S.valid]; exact h⟩
theorem S.vd_ok {s : S} (h : s.vd = true) : s.ok = true := by unfold S.vd at h; simp at h; exact h.1
theorem S.vd_dep {s : S} (h : s.vd = true) : s.dep ≤ 4 := by unfold S.vd at h; simp at h; exact h.2
theorem S.vd_mk {s : S} (h : s.ok = true) (h2 : s.dep ≤ 4) : s.vd = true := by unfold S.vd; simp [h, h2]
theorem S.ty_inj : ∀ {s u : S}, s.ty = u.ty → s = u
  | .zero, u, h => by cases u <;> simp [S.ty] at h ⊢
  | .any, u, h => by cases u <;> simp [S.ty] at h ⊢
  | .int, u, h => by cases u <;> simp [S.ty] at h ⊢
  | .bool, u, h => by cases u <;> simp [S.ty] at h ⊢
  | .fn a b, u, h => by
    cases u <;> simp [S.ty] at h ⊢
    exact ⟨S.ty_inj h.1, S.ty_inj h.2⟩
  | .pr a b, u, h => by
    cases u <;> simp [S.ty] at h ⊢
    exact ⟨S.ty_inj h.1, S.ty_inj h.2⟩

mutual
theorem Ty.same_eq : ∀ {t u : Ty}, t.same u = true → t = u
  | .mk k ts, .mk l us, h => by
    unfold Ty.same at h
    simp at h
    rw [h.1, Ty.sames_eq h.2]
theorem Ty.sames_eq : ∀ {ts us : List Ty}, Ty.sames ts us = true → ts = us
  | [], [], _ => rfl
  | [], _ :: _, h => by unfold Ty.sames at h; cases h
  | _ :: _, [], h => by unfold Ty.sames at h; cases h
  | t :: ts, u :: us, h => by
    unfold Ty.sames at h
    simp at h
    rw [Ty.same_eq h.1, Ty.sames_eq h.2]
end
theorem Ty.same_iff {t u : Ty} : t.same u = true ↔ t = u := ⟨Ty.same_eq, fun h => h ▸ Ty.same_refl t⟩
theorem Ty.same_symm (t u : Ty) : t.same u = u.same t := by
  rw [Bool.eq_iff_iff, Ty.same_iff, Ty.same_iff]; exact ⟨Eq.symm, Eq.symm⟩
theorem S.same (s u : S) : s.ty.same u.ty = decide (s = u) := by
  rw [Bool.eq_iff_iff, Ty.same_iff]
  simp
  exact ⟨S.ty_inj, fun h => h ▸ rfl⟩

def S.kind : S → Int
  | .zero => 0 | .any => 1 | .int => 2 | .bool => 3 | .fn _ _ => 4 | .pr _ _ => 5
theorem S.ty_kind (s : S) : s.ty.kind = s.kind := by cases s <;> rfl

/-- Consistency. -/
def S.cons : S → S → Bool
  | .any, _ => true
  | _, .any => true
  | .zero, .zero => true
  | .int, .int => true
  | .bool, .bool => true
  | .fn a b, .fn c d => a.cons c && b.cons d
  | .pr a b, .pr c d => a.cons c && b.cons d
  | _, _ => false
def S.prec : S → S → Bool
  | _, .any => true
  | .zero, .zero => true
  | .int, .int => true
  | .bool, .bool => true
  | .fn a b, .fn c d => a.prec c && b.prec d
  | .pr a b, .pr c d => a.prec c && b.prec d
  | _, _ => false
def S.meet : S → S → S
  | .any, u => u
  | .fn a b, .fn c d => .fn (a.meet c) (b.meet d)
  | .pr a b, .pr c d => .pr (a.meet c) (b.meet d)
  | s, _ => s
def S.join : S → S → S
  | .zero, .zero => .zero
  | .int, .int => .int
  | .bool, .bool => .bool
  | .fn a b, .fn c d => .fn (a.join c) (b.join d)
  | .pr a b, .pr c d => .pr (a.join c) (b.join d)
  | _, _ => .any
def S.cntA : S → Nat
  | .any => 1
  | .fn a b => a.cntA + b.cntA
  | .pr a b => a.cntA + b.cntA
  | _ => 0

theorem S.ty_cons : ∀ (s u : S), s.ty.cons u.ty = s.cons u
  | .fn a b, .fn c d => by have h1 := S.ty_cons a c; have h2 := S.ty_cons b d; simp [S.ty, Ty.cons, Ty.conss, S.cons, h1, h2]
  | .pr a b, .pr c d => by have h1 := S.ty_cons a c; have h2 := S.ty_cons b d; simp [S.ty, Ty.cons, Ty.conss, S.cons, h1, h2]
  | .fn a b, .pr c d => by simp [S.ty, Ty.cons, S.cons]
  | .pr a b, .fn c d => by simp [S.ty, Ty.cons, S.cons]
  | .zero, u => by cases u <;> simp [S.ty, Ty.cons, Ty.conss, S.cons]
  | .any, u => by cases u <;> simp [S.ty, Ty.cons, Ty.conss, S.cons]
  | .int, u => by cases u <;> simp [S.ty, Ty.cons, Ty.conss, S.cons]
  | .bool, u => by cases u <;> simp [S.ty, Ty.cons, Ty.conss, S.cons]
  | .fn a b, .zero => by simp [S.ty, Ty.cons, S.cons]
  | .fn a b, .any => by simp [S.ty, Ty.cons, S.cons]
  | .fn a b, .int => by simp [S.ty, Ty.cons, S.cons]
  | .fn a b, .bool => by simp [S.ty, Ty.cons, S.cons]
  | .pr a b, .zero => by simp [S.ty, Ty.cons, S.cons]
  | .pr a b, .any => by simp [S.ty, Ty.cons, S.cons]
  | .pr a b, .int => by simp [S.ty, Ty.cons, S.cons]
  | .pr a b, .bool => by simp [S.ty, Ty.cons, S.cons]
theorem S.ty_prec : ∀ (s u : S), s.ty.prec u.ty = s.prec u
  | .fn a b, .fn c d => by have h1 := S.ty_prec a c; have h2 := S.ty_prec b d; simp [S.ty, Ty.prec, Ty.precs, S.prec, h1, h2]
  | .pr a b, .pr c d => by have h1 := S.ty_prec a c; have h2 := S.ty_prec b d; simp [S.ty, Ty.prec, Ty.precs, S.prec, h1, h2]
  | .fn a b, .pr c d => by simp [S.ty, Ty.prec, S.prec]
  | .pr a b, .fn c d => by simp [S.ty, Ty.prec, S.prec]
  | .zero, u => by cases u <;> simp [S.ty, Ty.prec, Ty.precs, S.prec]
  | .any, u => by cases u <;> simp [S.ty, Ty.prec, Ty.precs, S.prec]
  | .int, u => by cases u <;> simp [S.ty, Ty.prec, Ty.precs, S.prec]
  | .bool, u => by cases u <;> simp [S.ty, Ty.prec, Ty.precs, S.prec]
  | .fn a b, .zero => by simp [S.ty, Ty.prec, S.prec]
  | .fn a b, .any => by simp [S.ty, Ty.prec, S.prec]
  | .fn a b, .int => by simp [S.ty, Ty.prec, S.prec]
  | .fn a b, .bool => by simp [S.ty, Ty.prec, S.prec]
  | .pr a b, .zero => by simp [S.ty, Ty.prec, S.prec]
  | .pr a b, .any => by simp [S.ty, Ty.prec, S.prec]
  | .pr a b, .int => by simp [S.ty, Ty.prec, S.prec]
  | .pr a b, .bool => by simp [S.ty, Ty.prec, S.prec]
theorem S.ty_any : ∀ s : S, s.ty.any = s.cntA
  | .zero => by simp [S.ty, Ty.any, Ty.anys, S.cntA]
  | .any => by simp [S.ty, Ty.any, Ty.anys, S.cntA]
  | .int => by simp [S.ty, Ty.any, Ty.anys, S.cntA]
  | .bool => by simp [S.ty, Ty.any, Ty.anys, S.cntA]
  | .fn a b => by simp [S.ty, Ty.any, Ty.anys, S.cntA, a.ty_any, b.ty_any]
  | .pr a b => by simp [S.ty, Ty.any, Ty.anys, S.cntA, a.ty_any, b.ty_any]
theorem S.ty_depth : ∀ s : S, s.ty.depth = s.dep
  | .zero => by simp [S.ty, Ty.depth, Ty.depths, S.dep]
  | .any => by simp [S.ty, Ty.depth, Ty.depths, S.dep]
  | .int => by simp [S.ty, Ty.depth, Ty.depths, S.dep]
  | .bool => by simp [S.ty, Ty.depth, Ty.depths, S.dep]
  | .fn a b => by simp [S.ty, Ty.depth, Ty.depths, S.dep, a.ty_depth, b.ty_depth]
  | .pr a b => by simp [S.ty, Ty.depth, Ty.depths, S.dep, a.ty_depth, b.ty_depth]

theorem S.cons_refl : ∀ s : S, s.cons s = true
  | .zero => rfl
  | .any => rfl
  | .int => rfl
  | .bool => rfl
  | .fn a b => by simp [S.cons, a.cons_refl, b.cons_refl]
  | .pr a b => by simp [S.cons, a.cons_refl, b.cons_refl]
theorem S.prec_refl : ∀ s : S, s.prec s = true
  | .zero => rfl
  | .any => rfl
  | .int => rfl
  | .bool => rfl
  | .fn a b => by simp [S.prec, a.prec_refl, b.prec_refl]
  | .pr a b => by simp [S.prec, a.prec_refl, b.prec_refl]
theorem S.cons_symm : ∀ s u : S, s.cons u = u.cons s := by
  intro s
  induction s with
  | fn a b ha hb => intro u; cases u <;> simp [S.cons, ha, hb]
  | pr a b ha hb => intro u; cases u <;> simp [S.cons, ha, hb]
  | _ => intro u; cases u <;> simp [S.cons]
theorem S.prec_trans : ∀ s u v : S, s.prec u = true → u.prec v = true → s.prec v = true := by
  intro s
  induction s with
  | fn a b ha hb =>
    intro u v h1 h2
    cases u <;> cases v <;> simp [S.prec] at h1 h2 ⊢
    exact ⟨ha _ _ h1.1 h2.1, hb _ _ h1.2 h2.2⟩
  | pr a b ha hb =>
    intro u v h1 h2
    cases u <;> cases v <;> simp [S.prec] at h1 h2 ⊢
    exact ⟨ha _ _ h1.1 h2.1, hb _ _ h1.2 h2.2⟩
  | _ => intro u v h1 h2; cases u <;> cases v <;> simp [S.prec] at h1 h2 ⊢
theorem S.prec_anti : ∀ s u : S, s.prec u = true → u.prec s = true → s = u := by
  intro s
  induction s with
  | fn a b ha hb =>
    intro u h1 h2
    cases u <;> simp [S.prec] at h1 h2 ⊢
    exact ⟨ha _ h1.1 h2.1, hb _ h1.2 h2.2⟩
  | pr a b ha hb =>
    intro u h1 h2
    cases u <;> simp [S.prec] at h1 h2 ⊢
    exact ⟨ha _ h1.1 h2.1, hb _ h1.2 h2.2⟩
  | _ => intro u h1 h2; cases u <;> simp [S.prec] at h1 h2 ⊢
/-- Consistency with a more precise type. -/
theorem S.cons_mono : ∀ a b x : S, a.prec b = true → a.cons x = true → b.cons x = true := by
  intro a
  induction a with
  | fn a1 a2 h1 h2 =>
    intro b x hp hc
    cases b <;> cases x <;> simp [S.prec, S.cons] at hp hc ⊢
    exact ⟨h1 _ _ hp.1 hc.1, h2 _ _ hp.2 hc.2⟩
  | pr a1 a2 h1 h2 =>
    intro b x hp hc
    cases b <;> cases x <;> simp [S.prec, S.cons] at hp hc ⊢
    exact ⟨h1 _ _ hp.1 hc.1, h2 _ _ hp.2 hc.2⟩
  | _ => intro b x hp hc; cases b <;> cases x <;> simp [S.prec, S.cons] at hp hc ⊢
theorem S.prec_cons (a b : S) (h : a.prec b = true) : a.cons b = true := by
  rw [S.cons_symm]; exact S.cons_mono a b a h (S.cons_refl a)
theorem S.any_cons (s : S) : S.any.cons s = true := by cases s <;> rfl
theorem S.any_prec {s : S} (h : S.any.prec s = true) : s = .any := by cases s <;> simp [S.prec] at h ⊢

theorem S.meet_any (s : S) : s.meet .any = s := by cases s <;> rfl
theorem S.any_meet (s : S) : S.any.meet s = s := by cases s <;> rfl
theorem S.meet_self : ∀ s : S, s.meet s = s
  | .zero => rfl
  | .any => rfl
  | .int => rfl
  | .bool => rfl
  | .fn a b => by simp [S.meet, a.meet_self, b.meet_self]
  | .pr a b => by simp [S.meet, a.meet_self, b.meet_self]
theorem S.meet_lower : ∀ a b : S, a.cons b = true → (a.meet b).prec a = true ∧ (a.meet b).prec b = true := by
  intro a
  induction a with
  | fn a1 a2 h1 h2 =>
    intro b hc
    cases b <;> simp [S.cons, S.meet, S.prec] at hc ⊢
    · exact ⟨S.prec_refl _, S.prec_refl _⟩
    · exact ⟨⟨(h1 _ hc.1).1, (h2 _ hc.2).1⟩, (h1 _ hc.1).2, (h2 _ hc.2).2⟩
  | pr a1 a2 h1 h2 =>
    intro b hc
    cases b <;> simp [S.cons, S.meet, S.prec] at hc ⊢
    · exact ⟨S.prec_refl _, S.prec_refl _⟩
    · exact ⟨⟨(h1 _ hc.1).1, (h2 _ hc.2).1⟩, (h1 _ hc.1).2, (h2 _ hc.2).2⟩
  | any => intro b _; cases b <;> simp [S.meet, S.prec, S.prec_refl]
  | _ => intro b hc; cases b <;> simp [S.cons, S.meet, S.prec] at hc ⊢
theorem S.meet_great : ∀ c a b : S, c.prec a = true → c.prec b = true → a.cons b = true ∧ c.prec (a.meet b) = true := by
  intro c
  induction c with
  | fn c1 c2 h1 h2 =>
    intro a b ha hb
    cases a <;> cases b <;> simp [S.prec, S.cons, S.meet] at ha hb ⊢ <;> try exact hb
    · exact ha
    · exact ⟨⟨(h1 _ _ ha.1 hb.1).1, (h2 _ _ ha.2 hb.2).1⟩, (h1 _ _ ha.1 hb.1).2, (h2 _ _ ha.2 hb.2).2⟩
  | pr c1 c2 h1 h2 =>
    intro a b ha hb
    cases a <;> cases b <;> simp [S.prec, S.cons, S.meet] at ha hb ⊢ <;> try exact hb
    · exact ha
    · exact ⟨⟨(h1 _ _ ha.1 hb.1).1, (h2 _ _ ha.2 hb.2).1⟩, (h1 _ _ ha.1 hb.1).2, (h2 _ _ ha.2 hb.2).2⟩
  | _ => intro a b ha hb; cases a <;> cases b <;> simp [S.prec, S.cons, S.meet] at ha hb ⊢
theorem S.meet_comm (a b : S) (h : a.cons b = true) : a.meet b = b.meet a := by
  have h1 := S.meet_lower a b h
  have h2 := S.meet_lower b a (by rw [S.cons_symm]; exact h)
  exact S.prec_anti _ _ (S.meet_great _ _ _ h1.2 h1.1).2 (S.meet_great _ _ _ h2.2 h2.1).2
theorem S.prec_iff_meet (a b : S) (h : a.cons b = true) : a.prec b = decide (a.meet b = a) := by
  rw [Bool.eq_iff_iff]
  simp
  constructor
  · intro hp
    exact S.prec_anti _ _ (S.meet_lower a b h).1 (S.meet_great a a b (S.prec_refl a) hp).2
  · intro he
    have := (S.meet_lower a b h).2
    rw [he] at this
    exact this
/-- A common lower bound is what consistency means. -/
theorem S.cons_of_lower (c a b : S) (ha : c.prec a = true) (hb : c.prec b = true) : a.cons b = true := (S.meet_great c a b ha hb).1
theorem S.meet_assoc_ok (a b c : S) (h : a.cons b = true) : (a.meet b).cons c = (b.cons c && a.cons (b.meet c)) := by
  rw [Bool.eq_iff_iff]
  simp only [Bool.and_eq_true]
  have l1 := S.meet_lower a b h
  constructor
  · intro h1
    have l2 := S.meet_lower _ _ h1
    have hb := S.prec_trans _ _ _ l2.1 l1.2
    have hbc := S.meet_great _ _ _ hb l2.2
    exact ⟨hbc.1, (S.meet_great _ _ _ (S.prec_trans _ _ _ l2.1 l1.1) hbc.2).1⟩
  · rintro ⟨h1, h2⟩
    have l2 := S.meet_lower _ _ h1
    have l3 := S.meet_lower _ _ h2
    have hab := S.meet_great _ _ _ l3.1 (S.prec_trans _ _ _ l3.2 l2.1)
    exact (S.meet_great _ _ _ hab.2 (S.prec_trans _ _ _ l3.2 l2.2)).1
theorem S.meet_assoc (a b c : S) (h : a.cons b = true) (h1 : b.cons c = true) (h2 : a.cons (b.meet c) = true) (h3 : (a.meet b).cons c = true) : (a.meet b).meet c = a.meet (b.meet c) := by
  have l0 := S.meet_lower a b h
  have l1 := S.meet_lower _ _ h1
  have l2 := S.meet_lower _ _ h2
  have l3 := S.meet_lower _ _ h3
  apply S.prec_anti
  · exact (S.meet_great _ _ _ (S.prec_trans _ _ _ l3.1 l0.1) (S.meet_great _ _ _ (S.prec_trans _ _ _ l3.1 l0.2) l3.2).2).2
  · exact (S.meet_great _ _ _ (S.meet_great _ _ _ l2.1 (S.prec_trans _ _ _ l2.2 l1.1)).2 (S.prec_trans _ _ _ l2.2 l1.2)).2
theorem S.meet_ok : ∀ a b : S, a.ok = true → b.ok = true → a.cons b = true → (a.meet b).ok = true := by
  intro a
  induction a with
  | fn a1 a2 h1 h2 =>
    intro b ha hb hc
    cases b <;> simp [S.ok, S.cons, S.meet] at ha hb hc ⊢
    · exact ha
    · exact ⟨h1 _ ha.1 hb.1 hc.1, h2 _ ha.2 hb.2 hc.2⟩
  | pr a1 a2 h1 h2 =>
    intro b ha hb hc
    cases b <;> simp [S.ok, S.cons, S.meet] at ha hb hc ⊢
    · exact ha
    · exact ⟨h1 _ ha.1 hb.1 hc.1, h2 _ ha.2 hb.2 hc.2⟩
  | any => intro b _ hb _; rw [S.any_meet]; exact hb
  | _ => intro b ha hb hc; cases b <;> simp [S.ok, S.cons, S.meet] at ha hb hc ⊢
theorem S.meet_dep : ∀ a b : S, a.cons b = true → (a.meet b).dep ≤ max a.dep b.dep := by
  intro a
  induction a with
  | fn a1 a2 h1 h2 =>
    intro b hc
    cases b <;> simp [S.cons, S.meet] at hc ⊢
    · omega
    · have := h1 _ hc.1; have := h2 _ hc.2; simp only [S.dep]; omega
  | pr a1 a2 h1 h2 =>
    intro b hc
    cases b <;> simp [S.cons, S.meet] at hc ⊢
    · omega
    · have := h1 _ hc.1; have := h2 _ hc.2; simp only [S.dep]; omega
  | any => intro b _; rw [S.any_meet]; omega
  | _ => intro b hc; cases b <;> simp [S.cons, S.meet] at hc ⊢ <;> simp [S.dep]
theorem S.meet_vd (a b : S) (ha : a.vd = true) (hb : b.vd = true) (hc : a.cons b = true) : (a.meet b).vd = true := by
  have := S.meet_dep a b hc
  exact S.vd_mk (S.meet_ok a b (S.vd_ok ha) (S.vd_ok hb) hc) (by have := S.vd_dep ha; have := S.vd_dep hb; omega)
theorem S.meet_cntA : ∀ a b : S, a.cons b = true → (a.meet b).cntA ≤ a.cntA + b.cntA := by
  intro a
  induction a with
  | fn a1 a2 h1 h2 =>
    intro b hc
    cases b <;> simp [S.cons, S.meet] at hc ⊢
    have := h1 _ hc.1; have := h2 _ hc.2; simp only [S.cntA]; omega
  | pr a1 a2 h1 h2 =>
    intro b hc
    cases b <;> simp [S.cons, S.meet] at hc ⊢
    have := h1 _ hc.1; have := h2 _ hc.2; simp only [S.cntA]; omega
  | any => intro b _; rw [S.any_meet]; omega
  | _ => intro b hc; cases b <;> simp [S.cons, S.meet] at hc ⊢
theorem S.static_prec : ∀ a b : S, b.cntA = 0 → a.prec b = true → a = b := by
  intro a
  induction a with
  | fn a1 a2 h1 h2 =>
    intro b h0 hp
    cases b <;> simp [S.cntA, S.prec] at h0 hp ⊢
    exact ⟨h1 _ h0.1 hp.1, h2 _ h0.2 hp.2⟩
  | pr a1 a2 h1 h2 =>
    intro b h0 hp
    cases b <;> simp [S.cntA, S.prec] at h0 hp ⊢
    exact ⟨h1 _ h0.1 hp.1, h2 _ h0.2 hp.2⟩
  | _ => intro b h0 hp; cases b <;> simp [S.cntA, S.prec] at h0 hp ⊢
theorem S.static_cons : ∀ a b : S, a.cntA = 0 → a.cons b = true → a.prec b = true := by
  intro a
  induction a with
  | fn a1 a2 h1 h2 =>
    intro b h0 hp
    cases b <;> simp [S.cntA, S.prec, S.cons] at h0 hp ⊢
    exact ⟨h1 _ h0.1 hp.1, h2 _ h0.2 hp.2⟩
  | pr a1 a2 h1 h2 =>
    intro b h0 hp
    cases b <;> simp [S.cntA, S.prec, S.cons] at h0 hp ⊢
    exact ⟨h1 _ h0.1 hp.1, h2 _ h0.2 hp.2⟩
  | _ => intro b h0 hp; cases b <;> simp [S.cntA, S.prec, S.cons] at h0 hp ⊢
theorem S.prec_dep : ∀ a b : S, a.prec b = true → b.dep ≤ a.dep := by
  intro a
  induction a with
  | fn a1 a2 h1 h2 =>
    intro b hp
    have := S.dep_pos (.fn a1 a2)
    cases b <;> simp [S.prec] at hp ⊢ <;> simp only [S.dep] at *
    · omega
    · have := h1 _ hp.1; have := h2 _ hp.2; omega
  | pr a1 a2 h1 h2 =>
    intro b hp
    have := S.dep_pos (.pr a1 a2)
    cases b <;> simp [S.prec] at hp ⊢ <;> simp only [S.dep] at *
    · omega
    · have := h1 _ hp.1; have := h2 _ hp.2; omega
  | _ => intro b hp; cases b <;> simp [S.prec] at hp ⊢ <;> simp [S.dep]

theorem S.join_comm : ∀ a b : S, a.join b = b.join a := by
  intro a
  induction a with
  | fn a1 a2 h1 h2 => intro b; cases b <;> simp [S.join, h1, h2]
  | pr a1 a2 h1 h2 => intro b; cases b <;> simp [S.join, h1, h2]
  | _ => intro b; cases b <;> simp [S.join]
theorem S.join_upper : ∀ a b : S, a.prec (a.join b) = true := by
  intro a
  induction a with
  | fn a1 a2 h1 h2 => intro b; cases b <;> simp [S.join, S.prec, h1, h2]
  | pr a1 a2 h1 h2 => intro b; cases b <;> simp [S.join, S.prec, h1, h2]
  | _ => intro b; cases b <;> simp [S.join, S.prec]
theorem S.join_upper' (a b : S) : b.prec (a.join b) = true := by rw [S.join_comm]; exact S.join_upper b a
theorem S.join_least : ∀ a b c : S, a.prec c = true → b.prec c = true → (a.join b).prec c = true := by
  intro a
  induction a with
  | fn a1 a2 h1 h2 =>
    intro b c ha hb
    cases c <;> cases b <;> simp [S.prec, S.join] at ha hb ⊢
    exact ⟨h1 _ _ ha.1 hb.1, h2 _ _ ha.2 hb.2⟩
  | pr a1 a2 h1 h2 =>
    intro b c ha hb
    cases c <;> cases b <;> simp [S.prec, S.join] at ha hb ⊢
    exact ⟨h1 _ _ ha.1 hb.1, h2 _ _ ha.2 hb.2⟩
  | _ => intro b c ha hb; cases c <;> cases b <;> simp [S.prec, S.join] at ha hb ⊢
theorem S.join_ok : ∀ a b : S, a.ok = true → b.ok = true → (a.join b).ok = true := by
  intro a
  induction a with
  | fn a1 a2 h1 h2 =>
    intro b ha hb
    cases b <;> simp [S.ok, S.join] at ha hb ⊢
    exact ⟨h1 _ ha.1 hb.1, h2 _ ha.2 hb.2⟩
  | pr a1 a2 h1 h2 =>
    intro b ha hb
    cases b <;> simp [S.ok, S.join] at ha hb ⊢
    exact ⟨h1 _ ha.1 hb.1, h2 _ ha.2 hb.2⟩
  | _ => intro b ha hb; cases b <;> simp [S.ok, S.join] at ha hb ⊢
theorem S.join_vd (a b : S) (ha : a.vd = true) (hb : b.vd = true) : (a.join b).vd = true :=
  S.vd_mk (S.join_ok a b (S.vd_ok ha) (S.vd_ok hb)) (by have := S.prec_dep _ _ (S.join_upper a b); have := S.vd_dep ha; omega)
end Go.Proofs.Ytikkneahhgmdjaa
