/-
  The check of a coercion by the reference: kinds 1, 6, k.
-/
import Derived.Test.YthhdjacdalehoaaCoDrop
namespace Go.Proofs.Ythhdjacdalehoaa
open Go.RowKit
set_option linter.unusedVariables false
set_option linter.unusedSimpArgs false
set_option maxRecDepth 100000

end Go.Proofs.Ythhdjacdalehoaa
