/-
  Draws of the arguments of the laws on terms.
-/
import Derived.Test.YtpckgpndaligbaaTmMutD
import Derived.Test.YtpckgpndaligbaaTmClosed
namespace Go.Proofs.Ytpckgpndaligbaa
open Go.RowKit
set_option linter.unusedVariables false
set_option linter.unusedSimpArgs false
set_option maxRecDepth 100000


/-- What a function that draws the argument of a law leaves. -/
def DrT (w : World) (e : Ending) (w' : World) : Prop := ∃ (t : Tm) (v : Value), e = .returned v ∧ t.cnt ≤ 100000 ∧ TmRep (w.heap.size ≤ ·) w' t v ∧ Below w.heap.size w w'
theorem DrT.stored {w w1 : World} {t : Tm} {v : Value} {B R : Nat} {v0 v1 v2 v3 v4 v5 v6 v7 v8 : Value} (hv : TmRep (B ≤ ·) w1 t v) (hc : t.cnt ≤ 100000) (hB : w.heap.size ≤ B) (hb : Below w.heap.size w w1) (hR : w.heap.size ≤ R) (hRB : R < B) : DrT w (.returned v) (set9 w1 R v0 v1 v2 v3 v4 v5 v6 v7 v8) := by
  unfold set9
  exact ⟨t, v, rfl, hc, ((((((((((hv.setB (by show R < B; omega) _).setB (by show R < B; omega) _).setB (by show R < B; omega) _).setB (by show R < B; omega) _).setB (by show R < B; omega) _).setB (by show R < B; omega) _).setB (by show R < B; omega) _).setB (by show R < B; omega) _).setB (by show R < B; omega) _)).lower hB, (((((((((hb.setCell (by show w.heap.size ≤ R; omega) _).setCell (by show w.heap.size ≤ R; omega) _).setCell (by show w.heap.size ≤ R; omega) _).setCell (by show w.heap.size ≤ R; omega) _).setCell (by show w.heap.size ≤ R; omega) _).setCell (by show w.heap.size ≤ R; omega) _).setCell (by show w.heap.size ≤ R; omega) _).setCell (by show w.heap.size ≤ R; omega) _).setCell (by show w.heap.size ≤ R; omega) _)⟩
theorem bchg' {B r : Nat} {w w1 w2 : World} (h : Below B w w1) (k : Chg [r] w1 w2) (hr : B ≤ r) (hw : B ≤ w.heap.size) : Below B w w2 := bchg h k hr hw

end Go.Proofs.Ytpckgpndaligbaa
