/- A term with other types, by the program (13). -/
import Derived.Test.YtfhglkmjibjjoaaB23
set_option linter.unusedSimpArgs false
set_option linter.unusedVariables false
set_option maxRecDepth 100000
set_option maxHeartbeats 16000000
namespace Go.Proofs.Ytfhglkmjibjjoaa
open Go.RowKit
end Go.Proofs.Ytfhglkmjibjjoaa
