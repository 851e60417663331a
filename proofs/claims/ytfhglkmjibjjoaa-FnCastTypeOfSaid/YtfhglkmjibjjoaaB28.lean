/- StaticTerm of both sides. -/
import Derived.Test.YtfhglkmjibjjoaaB27
set_option linter.unusedSimpArgs false
set_option linter.unusedVariables false
set_option maxRecDepth 100000
set_option maxHeartbeats 16000000
namespace Go.Proofs.Ytfhglkmjibjjoaa
open Go.RowKit
end Go.Proofs.Ytfhglkmjibjjoaa
