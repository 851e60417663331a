/-
  The reference's ground of a type.
-/
import Derived.Test.YtikkneahhgmdjaaTyGround
import Derived.Test.YtikkneahhgmdjaaB24
namespace Go.Proofs.Ytikkneahhgmdjaa
open Go.RowKit
set_option linter.unusedVariables false
set_option linter.unusedSimpArgs false
set_option maxRecDepth 100000

end Go.Proofs.Ytikkneahhgmdjaa
