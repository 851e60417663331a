/-
  What a statement 'x, ok := f(g(a), g(b))' leaves, in whatever order its parts come up: a variable of its own that holds what f has made.
-/
import Derived.Test.YtjkkahlcbhcifaaRes
import Derived.Test.YtjkkahlcbhcifaaWk
import Derived.Deep.DeepCutAuto
namespace Go.Proofs.Ytjkkahlcbhcifaa
open Go.RowKit
set_option linter.unusedVariables false

def CutTy (t : Ty) (bb : Bool) (w : World) (s s' : Value) (wx : World) : Prop := ∃ g k a n q f, s = .pointer (some ⟨g, 0, none⟩) ∧ s' = .bool bb ∧ w.heap.size ≤ g ∧ g < wx.heap.size ∧
  wx.cell? ⟨g, 0, none⟩ = some (.int .i64 k) ∧ wx.cell? ⟨g, 1, none⟩ = some (.slice a n q) ∧ TyOwn wx t (.agg #[.int .i64 k, .slice a n q]) f ∧ f.Nodup ∧ (∀ b ∈ f, w.heap.size ≤ b) ∧ g ∉ f ∧ Below w.heap.size w wx
theorem CutTy_late {w ws x : World} {t : Ty} {bb : Bool} {k : Int} {a : Option Addr} {n q : Nat} {T : TypeId} (hb : Below w.heap.size w ws) (hx : w.heap.size ≤ x.heap.size) (hv : TyNew x.heap.size ws t (.agg #[.int .i64 k, .slice a n q])) :
    CutTy t bb w (.pointer (some ⟨ws.heap.size, 0, none⟩)) (.bool bb) (ws.alloc (.cells #[.int .i64 k, .slice a n q] T)) := by
  obtain ⟨f, o, d, l⟩ := hv
  have hlt := o.lt
  exact ⟨ws.heap.size, k, a, n, q, f, rfl, rfl, hb.size, by simp, cell_n0 0, cell_n0 1, o.below bal1, d, fun b hb => Nat.le_trans hx (l b hb), fun h => Nat.lt_irrefl _ (hlt _ h), bstep hb bal1⟩
theorem CutTy_early {w ws x : World} {t : Ty} {bb : Bool} {k : Int} {a : Option Addr} {n q g : Nat} {u0 u1 : Value} (hb : Below w.heap.size w ws) (h0 : ws.cell? ⟨g, 0, none⟩ = some u0) (h1 : ws.cell? ⟨g, 1, none⟩ = some u1) (hg : w.heap.size ≤ g) (hx : g < x.heap.size)
    (hv : TyNew x.heap.size ws t (.agg #[.int .i64 k, .slice a n q])) : CutTy t bb w (.pointer (some ⟨g, 0, none⟩)) (.bool bb) ((ws.setCell ⟨g, 0, none⟩ (.int .i64 k)).setCell ⟨g, 1, none⟩ (.slice a n q)) := by
  obtain ⟨f, o, d, l⟩ := (hv.setCell (p := ⟨g, 0, none⟩) hx (.int .i64 k)).setCell (p := ⟨g, 1, none⟩) hx (.slice a n q)
  have hlt := World.block_lt_of_cell? _ _ h0
  exact ⟨g, k, a, n, q, f, rfl, rfl, hg, by simpa [World.setCell] using hlt, sc_far (sc_self h0) (by simp), sc_self (sc_far h1 (by simp)), o, d, fun b hb => by have := l b hb; omega, fun h => by have := l _ h; omega, (hb.setCell (p := ⟨g, 0, none⟩) hg _).setCell (p := ⟨g, 1, none⟩) hg _⟩
end Go.Proofs.Ytjkkahlcbhcifaa
