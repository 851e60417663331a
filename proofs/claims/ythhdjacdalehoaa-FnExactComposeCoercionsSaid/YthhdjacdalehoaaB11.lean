/-
  What a statement 'x, ok := f(..)' leaves where the result is a coercion, in whatever order its parts come up.
  Results that are coercions: what a mark leaves as it was.
-/
import Derived.Test.YthhdjacdalehoaaB10
import Derived.Deep.DeepCutAuto
import Derived.Test.YthhdjacdalehoaaB8
import Derived.Test.YthhdjacdalehoaaCoMark
namespace Go.Proofs.Ythhdjacdalehoaa
open Go.RowKit
set_option linter.unusedVariables false
set_option linter.unusedSimpArgs false

def CutCo (t : Co) (bb : Bool) (w : World) (s s' : Value) (wx : World) : Prop := ∃ g k gt lb a n q f, s = .pointer (some ⟨g, 0, none⟩) ∧ s' = .bool bb ∧ w.heap.size ≤ g ∧ g < wx.heap.size ∧
  wx.cell? ⟨g, 0, none⟩ = some (.int .i64 k) ∧ wx.cell? ⟨g, 1, none⟩ = some (.int .i64 gt) ∧ wx.cell? ⟨g, 2, none⟩ = some (.int .i64 lb) ∧ wx.cell? ⟨g, 3, none⟩ = some (.slice a n q) ∧ CoOwn wx t (.agg #[.int .i64 k, .int .i64 gt, .int .i64 lb, .slice a n q]) f ∧ f.Nodup ∧ (∀ b ∈ f, w.heap.size ≤ b) ∧ g ∉ f ∧ Below w.heap.size w wx
theorem CutCo_late {w ws x : World} {t : Co} {bb : Bool} {k gt lb : Int} {a : Option Addr} {n q : Nat} {T : TypeId} (hb : Below w.heap.size w ws) (hx : w.heap.size ≤ x.heap.size) (hv : CoNew x.heap.size ws t (.agg #[.int .i64 k, .int .i64 gt, .int .i64 lb, .slice a n q])) :
    CutCo t bb w (.pointer (some ⟨ws.heap.size, 0, none⟩)) (.bool bb) (ws.alloc (.cells #[.int .i64 k, .int .i64 gt, .int .i64 lb, .slice a n q] T)) := by
  obtain ⟨f, o, d, l⟩ := hv
  have hlt := o.lt
  exact ⟨ws.heap.size, k, gt, lb, a, n, q, f, rfl, rfl, hb.size, by simp, cell_n0 0, cell_n0 1, cell_n0 2, cell_n0 3, o.below bal1, d, fun b hb => Nat.le_trans hx (l b hb), fun h => Nat.lt_irrefl _ (hlt _ h), bstep hb bal1⟩
theorem CutCo_early {w ws x : World} {t : Co} {bb : Bool} {k gt lb : Int} {a : Option Addr} {n q g : Nat} {u0 u1 u2 u3 : Value} (hb : Below w.heap.size w ws) (h0 : ws.cell? ⟨g, 0, none⟩ = some u0) (h1 : ws.cell? ⟨g, 1, none⟩ = some u1) (h2 : ws.cell? ⟨g, 2, none⟩ = some u2) (h3 : ws.cell? ⟨g, 3, none⟩ = some u3) (hg : w.heap.size ≤ g) (hx : g < x.heap.size)
    (hv : CoNew x.heap.size ws t (.agg #[.int .i64 k, .int .i64 gt, .int .i64 lb, .slice a n q])) : CutCo t bb w (.pointer (some ⟨g, 0, none⟩)) (.bool bb) ((((ws.setCell ⟨g, 0, none⟩ (.int .i64 k)).setCell ⟨g, 1, none⟩ (.int .i64 gt)).setCell ⟨g, 2, none⟩ (.int .i64 lb)).setCell ⟨g, 3, none⟩ (.slice a n q)) := by
  obtain ⟨f, o, d, l⟩ := (((hv.setCell (p := ⟨g, 0, none⟩) hx (.int .i64 k)).setCell (p := ⟨g, 1, none⟩) hx (.int .i64 gt)).setCell (p := ⟨g, 2, none⟩) hx (.int .i64 lb)).setCell (p := ⟨g, 3, none⟩) hx (.slice a n q)
  have hlt := World.block_lt_of_cell? _ _ h0
  exact ⟨g, k, gt, lb, a, n, q, f, rfl, rfl, hg, by simpa [World.setCell] using hlt,
    sc_far (sc_far (sc_far (sc_self h0) (by simp)) (by simp)) (by simp), sc_far (sc_far (sc_self (sc_far h1 (by simp))) (by simp)) (by simp), sc_far (sc_self (sc_far (sc_far h2 (by simp)) (by simp))) (by simp), sc_self (sc_far (sc_far (sc_far h3 (by simp)) (by simp)) (by simp)),
    o, d, fun b hb => by have := l b hb; omega, fun h => by have := l _ h; omega, (((hb.setCell (p := ⟨g, 0, none⟩) hg _).setCell (p := ⟨g, 1, none⟩) hg _).setCell (p := ⟨g, 2, none⟩) hg _).setCell (p := ⟨g, 3, none⟩) hg _⟩
end Go.Proofs.Ythhdjacdalehoaa
namespace Go.Proofs.Ythhdjacdalehoaa
open Go.RowKit
set_option linter.unusedVariables false
set_option linter.unusedSimpArgs false

theorem CoOwn.chg {fp fp' : List Nat} {w w' : World} {t : Co} {y : Value} (h : Chg fp w w') (hn : ∀ b ∈ fp', b ∉ fp) (r : CoOwn w t y fp') : CoOwn w' t y fp' := by
  obtain ⟨s, rfl, ho⟩ := r
  exact ⟨s, rfl, COwn.move _ _ _ (fun b hb => h.block b (COwn.lt _ _ _ ho b hb) (hn b hb)) ho⟩
theorem CoRep.old {F : Nat → Prop} {w : World} {t : Co} {y : Value} (r : CoRep F w t y) : CoRep (· < w.heap.size) w t y := r.move (.weaken fun _ _ h => h)
theorem CoOwn.ks {w : World} {t : Co} {y : Value} {fp : List Nat} (r : CoOwn w t y fp) : ∃ k g l a n q, y = .agg #[.int .i64 k, .int .i64 g, .int .i64 l, .slice a n q] := by
  obtain ⟨k, g, l, a, n, q, rfl, -⟩ := r.shape
  exact ⟨k, g, l, a, n, q, rfl⟩
end Go.Proofs.Ythhdjacdalehoaa
