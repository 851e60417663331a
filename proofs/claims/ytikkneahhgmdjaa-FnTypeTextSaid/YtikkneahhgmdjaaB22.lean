/-
  The laws' helpers at types: size, copy.
  Functions that make types.
-/
import Derived.Test.YtikkneahhgmdjaaLaTyE
import Derived.Test.YtikkneahhgmdjaaTyNewB
import Derived.Test.YtikkneahhgmdjaaB5
namespace Go.Proofs.Ytikkneahhgmdjaa
open Go.RowKit
set_option linter.unusedVariables false
set_option linter.unusedSimpArgs false
set_option maxRecDepth 100000

end Go.Proofs.Ytikkneahhgmdjaa
namespace Go.Proofs.Ytikkneahhgmdjaa
open Go.RowKit
set_option linter.unusedVariables false
set_option linter.unusedSimpArgs false
set_option maxRecDepth 100000

end Go.Proofs.Ytikkneahhgmdjaa
