/-
  Two types of one's own, and readings, as results of a call.
-/
import Derived.Test.YtjkkahlcbhcifaaWk
import Derived.Test.YtjkkahlcbhcifaaTyCopy
import Derived.Test.YtjkkahlcbhcifaaS
namespace Go.Proofs.Ytjkkahlcbhcifaa
open Go.RowKit
set_option linter.unusedVariables false

theorem TyRep.all {F : Nat → Prop} {w : World} {t : Ty} {y : Value} (h : TyRep F w t y) : TyRep (fun _ => True) w t y := h.move (.weaken fun _ _ _ => trivial)
theorem TyRep.zero {F : Nat → Prop} {w : World} : TyRep F w Ty.none (.agg #[.int .i64 0, .slice none 0 0]) := by
  refine ⟨_, rfl, ?_⟩
  unfold TysRep Ty.none Ty.kids Ty.rows CRep
  exact ⟨none, 0, rfl, Nat.le_refl _, by unfold maxLen; omega, .inl rfl⟩

/-- Two types of one's own, from block B on, no block twice. -/
def Ty2New (B : Nat) (w : World) (t u : Ty) (y z : Value) : Prop := ∃ f g, TyOwn w t y f ∧ TyOwn w u z g ∧ (f ++ g).Nodup ∧ ∀ b ∈ f ++ g, B ≤ b
theorem TyOwn.setCell {w : World} {t : Ty} {y : Value} {f : List Nat} (h : TyOwn w t y f) {p : Addr} (hp : ∀ b ∈ f, b ≠ p.block) (v : Value) : TyOwn (w.setCell p v) t y f := by
  obtain ⟨s, hs, h1⟩ := h
  exact ⟨s, hs, COwn.move _ _ _ (fun b hb => Below.heap_setCell w p v b (hp b hb)) h1⟩
theorem Ty2New.below {B : Nat} {w w' : World} {t u : Ty} {y z : Value} (h : Ty2New B w t u y z) (k : Below w.heap.size w w') : Ty2New B w' t u y z :=
  let ⟨f, g, h1, h2, h3, h4⟩ := h; ⟨f, g, h1.below k, h2.below k, h3, h4⟩
theorem Ty2New.setCell {B : Nat} {w : World} {t u : Ty} {y z : Value} (h : Ty2New B w t u y z) {p : Addr} (hp : p.block < B) (v : Value) : Ty2New B (w.setCell p v) t u y z := by
  obtain ⟨f, g, h1, h2, h3, h4⟩ := h
  exact ⟨f, g, h1.setCell (fun b hb e => by have := h4 b (by simp [hb]); omega) v, h2.setCell (fun b hb e => by have := h4 b (by simp [hb]); omega) v, h3, h4⟩
theorem Ty2New.mono {B B' : Nat} {w : World} {t u : Ty} {y z : Value} (h : Ty2New B w t u y z) (hB : B' ≤ B) : Ty2New B' w t u y z :=
  let ⟨f, g, h1, h2, h3, h4⟩ := h; ⟨f, g, h1, h2, h3, fun b hb => Nat.le_trans hB (h4 b hb)⟩
theorem Ty2New.rep1 {B : Nat} {w : World} {t u : Ty} {y z : Value} (h : Ty2New B w t u y z) : TyRep (fun _ => True) w t y := let ⟨_, _, h1, _, _, _⟩ := h; h1.rep.all
theorem Ty2New.rep2 {B : Nat} {w : World} {t u : Ty} {y z : Value} (h : Ty2New B w t u y z) : TyRep (fun _ => True) w u z := let ⟨_, _, _, h1, _, _⟩ := h; h1.rep.all
theorem Ty2New.zero {B : Nat} {w : World} : Ty2New B w Ty.none Ty.none (.agg #[.int .i64 0, .slice none 0 0]) (.agg #[.int .i64 0, .slice none 0 0]) := by
  refine ⟨[], [], ⟨_, rfl, ?_⟩, ⟨_, rfl, ?_⟩, List.nodup_nil, by simp⟩ <;> exact COwn.sl_nil (by unfold maxLen; omega)
theorem Ty2New.shape {B : Nat} {w : World} {t u : Ty} {y z : Value} (h : Ty2New B w t u y z) : ∃ k a n q l c m r, y = .agg #[.int .i64 k, .slice a n q] ∧ z = .agg #[.int .i64 l, .slice c m r] := by
  obtain ⟨f, g, h1, h2, -, -⟩ := h
  obtain ⟨k, a, n, q, rfl, -⟩ := h1.shape
  obtain ⟨l, c, m, r, rfl, -⟩ := h2.shape
  exact ⟨k, a, n, q, l, c, m, r, rfl, rfl⟩
/-- What a second call has made lies apart from what the first one has made. -/
theorem Ty2New.mk {B : Nat} {w1 w2 : World} {t u : Ty} {y z : Value} (h1 : TyNew B w1 t y) (hB : B ≤ w1.heap.size) (hb : Below w1.heap.size w1 w2) (h2 : TyNew w1.heap.size w2 u z) : Ty2New B w2 t u y z := by
  obtain ⟨f, o1, d1, l1⟩ := h1
  obtain ⟨g, o2, d2, l2⟩ := h2
  have hl : ∀ b ∈ f, b < w1.heap.size := by
    obtain ⟨s, rfl, h⟩ := o1
    exact COwn.lt _ _ _ h
  refine ⟨f, g, o1.below hb, o2, List.nodup_append.2 ⟨d1, d2, fun x hx y hy e => by have := hl x hx; have := l2 y hy; omega⟩, fun b hb => ?_⟩
  rcases List.mem_append.1 hb with hb | hb
  · exact l1 b hb
  · have := l2 b hb; omega
def RetRep2B (t u : Ty) (b : Bool) (w : World) (e : Ending) (w' : World) : Prop := ∃ y z, e = .returned (.tuple #[y, z, .bool b]) ∧ TyRep (fun _ => True) w' t y ∧ TyRep (fun _ => True) w' u z ∧ Below w.heap.size w w'
def RetTy2B (t u : Ty) (b : Bool) (w : World) (e : Ending) (w' : World) : Prop := ∃ y z, e = .returned (.tuple #[y, z, .bool b]) ∧ Ty2New w.heap.size w' t u y z ∧ Below w.heap.size w w'

/-- Two operands behind a slice. -/
theorem TysRep.two {F : Nat → Prop} {w : World} {t u : Ty} {y : Value} (h : TysRep F w [t, u] y) :
    ∃ b off cap k1 c1 m1 q1 k2 c2 m2 q2, y = .slice (some ⟨b, off, none⟩) 2 cap ∧ 2 ≤ cap ∧ cap ≤ maxLen ∧ b < w.heap.size ∧
      w.cell? ⟨b, off, none⟩ = some (.int .i64 k1) ∧ w.cell? ⟨b, off + 1, none⟩ = some (.slice c1 m1 q1) ∧ w.cell? ⟨b, off + 2, none⟩ = some (.int .i64 k2) ∧ w.cell? ⟨b, off + 3, none⟩ = some (.slice c2 m2 q2) ∧
      TyRep F w t (.agg #[.int .i64 k1, .slice c1 m1 q1]) ∧ TyRep F w u (.agg #[.int .i64 k2, .slice c2 m2 q2]) := by
  obtain ⟨a, cap, rfl, h2, h3, hg⟩ := h.open
  obtain ⟨b, off, k1, c1, m1, q1, rfl, e0, e1, ht⟩ := hg 0 (by simp)
  obtain ⟨b', off', k2, c2, m2, q2, he, e2, e3, hu⟩ := hg 1 (by simp)
  simp only [Option.some.injEq, Addr.mk.injEq, and_true] at he
  obtain ⟨rfl, rfl⟩ := he
  exact ⟨b, off, cap, k1, c1, m1, q1, k2, c2, m2, q2, rfl, by simpa using h2, h3, World.block_lt_of_cell? w _ e0, by simpa using e0, by simpa using e1, by simpa using e2, by simpa using e3, ht, hu⟩

/-- Matching: the operands of a type of a kind, or of the unknown type. -/
def S.mat (k : Int) : S → S × S × Bool
  | .any => (.any, .any, true)
  | .fn a b => if k = 4 then (a, b, true) else (.zero, .zero, false)
  | .pr a b => if k = 5 then (a, b, true) else (.zero, .zero, false)
  | _ => (.zero, .zero, false)
end Go.Proofs.Ytjkkahlcbhcifaa
