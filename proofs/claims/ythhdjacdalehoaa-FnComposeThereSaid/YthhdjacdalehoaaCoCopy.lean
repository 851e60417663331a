/-
  Copies of coercions: l6Copy, own.
-/
import Derived.Test.YthhdjacdalehoaaB9
import Derived.Test.YthhdjacdalehoaaB3
namespace Go.Proofs.Ythhdjacdalehoaa
open Go.RowKit
set_option linter.unusedVariables false
set_option linter.unusedSimpArgs false
set_option maxRecDepth 100000

theorem AccNew.cos {B n : Nat} {e : TypeId} {w : World} {v : Value} {ts : List Co} (h : AccNew B e 4 w v n (Co.rows ts)) : CosNew B w ts v := h.own
end Go.Proofs.Ythhdjacdalehoaa
