/-
  What a statement 'x, ok := f(..)' leaves where the result is a coercion, in whatever order its parts come up.
  Results that are coercions: what a mark leaves as it was.
-/
import Derived.Test.YthhdjacdalehoaaB9
import Derived.Test.YthhdjacdalehoaaB2
import Derived.Deep.DeepCutAuto
import Derived.Test.YthhdjacdalehoaaCoMark
namespace Go.Proofs.Ythhdjacdalehoaa
open Go.RowKit
set_option linter.unusedVariables false
set_option linter.unusedSimpArgs false

end Go.Proofs.Ythhdjacdalehoaa
namespace Go.Proofs.Ythhdjacdalehoaa
open Go.RowKit
set_option linter.unusedVariables false
set_option linter.unusedSimpArgs false

theorem CoOwn.chg {fp fp' : List Nat} {w w' : World} {t : Co} {y : Value} (h : Chg fp w w') (hn : ∀ b ∈ fp', b ∉ fp) (r : CoOwn w t y fp') : CoOwn w' t y fp' := by
  obtain ⟨s, rfl, ho⟩ := r
  exact ⟨s, rfl, COwn.move _ _ _ (fun b hb => h.block b (COwn.lt _ _ _ ho b hb) (hn b hb)) ho⟩
theorem CoRep.old {F : Nat → Prop} {w : World} {t : Co} {y : Value} (r : CoRep F w t y) : CoRep (· < w.heap.size) w t y := r.move (.weaken fun _ _ h => h)
theorem CoOwn.ks {w : World} {t : Co} {y : Value} {fp : List Nat} (r : CoOwn w t y fp) : ∃ k g l a n q, y = .agg #[.int .i64 k, .int .i64 g, .int .i64 l, .slice a n q] := by
  obtain ⟨k, g, l, a, n, q, rfl, -⟩ := r.shape
  exact ⟨k, g, l, a, n, q, rfl⟩
end Go.Proofs.Ythhdjacdalehoaa
