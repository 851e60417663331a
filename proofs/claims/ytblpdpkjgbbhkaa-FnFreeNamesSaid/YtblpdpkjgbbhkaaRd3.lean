/-
  Walks beside a source of numbers: what is known of a cell, a tree, the memory behind a draw.
-/
import Derived.Test.YtblpdpkjgbbhkaaRd2
import Derived.Test.YtblpdpkjgbbhkaaTyCopyB
namespace Go.Proofs.Ytblpdpkjgbbhkaa
open Go.RowKit
set_option linter.unusedVariables false
set_option linter.unusedSimpArgs false
set_option maxRecDepth 100000

theorem TyRep.ne {B r : Nat} {w : World} {t : Ty} {y : Value} (h : TyRep (B ≤ ·) w t y) (hr : r < B) : TyRep (· ≠ r) w t y := h.move (.weaken fun b hb _ => by omega)
theorem TyRep.setCell {B : Nat} {w : World} {t : Ty} {y : Value} (h : TyRep (B ≤ ·) w t y) {p : Addr} (hp : p.block < B) (v : Value) : TyRep (B ≤ ·) (w.setCell p v) t y :=
  h.move ⟨by simp [World.setCell], fun _ h _ => h, fun b hb _ => Below.heap_setCell w p v b (by omega)⟩
theorem TyRep.lower {B B' : Nat} {w : World} {t : Ty} {y : Value} (h : TyRep (B ≤ ·) w t y) (hB : B' ≤ B) : TyRep (B' ≤ ·) w t y := h.move (.weaken fun b hb _ => Nat.le_trans hB hb)
theorem ByRep.below {w w' : World} {r : Nat} {v : Value} (h : ByRep w r v) (k : Below w.heap.size w w') : ByRep w' r v := h.keep k.size fun b hb _ => k.block b hb
theorem ByRep.up {w : World} {r r' : Nat} {v : Value} (h : ByRep w r v) (hr : r ≤ r') : ByRep w r' v := by
  obtain ⟨a, n, cap, h1, h2, h3, h4⟩ := h
  refine ⟨a, n, cap, h1, h2, h3, fun i hi => ?_⟩
  obtain ⟨b, off, c, e, hb, hr⟩ := h4 i hi
  exact ⟨b, off, c, e, by omega, hr⟩
theorem ByRep.shape {w : World} {r : Nat} {v : Value} (h : ByRep w r v) : ∃ a n cap, v = .slice a n cap := let ⟨a, n, cap, h1, _⟩ := h; ⟨a, n, cap, h1⟩

/-- A type has been drawn, of memory of its own. -/
def DrawT (r p c m : Nat) (w : World) (e : Ending) (w' : World) : Prop := ∃ (t : Ty) (v : Value) (q : Nat), e = .returned v ∧ t.cnt + 2 ≤ m ∧ TyNew w.heap.size w' t v ∧ q ≤ p + c ∧ RdAt w' r q ∧ Chg [r] w w'
theorem DrawT.mono {r p c c' m m' : Nat} {w w' : World} {e : Ending} (h : DrawT r p c m w e w') (hc : c ≤ c') (hm : m ≤ m') : DrawT r p c' m' w e w' :=
  let ⟨s, v, q, h1, h2, h3, h4, h5, h6⟩ := h; ⟨s, v, q, h1, by omega, h3, by omega, h5, h6⟩
/-- A type has been drawn, or read off one that was there. -/
def DT (r p m : Nat) (w : World) (e : Ending) (w' : World) : Prop := ∃ (t : Ty) (v : Value) (q : Nat), e = .returned v ∧ t.cnt ≤ m ∧ TyRep (w.heap.size ≤ ·) w' t v ∧ q ≤ p + 200 ∧ RdAt w' r q ∧ Chg [r] w w'
theorem DrawT.dt {r p c m m' : Nat} {w w' : World} {e : Ending} (h : DrawT r p c m w e w') (hc : c ≤ 200) (hm : m ≤ m' + 2) : DT r p m' w e w' :=
  let ⟨s, v, q, h1, h2, h3, h4, h5, h6⟩ := h; ⟨s, v, q, h1, by omega, h3.rep, by omega, h5, h6⟩
/-- Draws of arguments. -/
def DR1 (w : World) (e : Ending) (w' : World) : Prop := ∃ (t : Ty) (v : Value), e = .returned v ∧ TyRep (w.heap.size ≤ ·) w' t v ∧ Below w.heap.size w w'
def DR2 (w : World) (e : Ending) (w' : World) : Prop := ∃ (t u : Ty) (v x : Value), e = .returned (.tuple #[v, x]) ∧ TyRep (w.heap.size ≤ ·) w' t v ∧ TyRep (w.heap.size ≤ ·) w' u x ∧ Below w.heap.size w w'
def DR3 (w : World) (e : Ending) (w' : World) : Prop := ∃ (t u s : Ty) (v x y : Value), e = .returned (.tuple #[v, x, y]) ∧ TyRep (w.heap.size ≤ ·) w' t v ∧ TyRep (w.heap.size ≤ ·) w' u x ∧ TyRep (w.heap.size ≤ ·) w' s y ∧ Below w.heap.size w w'
def OpenPost (w : World) (e : Ending) (w' : World) : Prop := ∃ rb, e = .returned (.pointer (some ⟨rb, 0, none⟩)) ∧ w.heap.size ≤ rb ∧ RdAt w' rb 0 ∧ Below w.heap.size w w'
theorem ints_cell {X : World} {B : Nat} (xs : List Int) {T : TypeId} (hB : X.heap.size = B) (Q : Int → Prop) (hQ : ∀ x ∈ xs, Q x) (i : Nat) (hi : i < xs.length) :
    ∃ x, (X.alloc (.cells (xs.map (Value.int .i64)).toArray T)).cell? ⟨B, i, none⟩ = some (.int .i64 x) ∧ Q x := by
  refine ⟨xs[i], ?_, hQ _ (List.getElem_mem hi)⟩
  rw [cell_new hB]
  simp [hi]
theorem Ty.cnts_append : ∀ (ts us : List Ty), Ty.cnts (ts ++ us) = Ty.cnts ts + Ty.cnts us
  | [], us => by simp [Ty.cnts]
  | t :: ts, us => by simp [Ty.cnts, Ty.cnts_append ts us]; omega
end Go.Proofs.Ytblpdpkjgbbhkaa
