/- A term with other types, by the program (k). And what else its parts name. -/
import Derived.Test.YtfahhonmiimmdaaGreatB27
set_option linter.unusedSimpArgs false
set_option linter.unusedVariables false
set_option maxRecDepth 100000
set_option maxHeartbeats 16000000
namespace Go.Proofs.YtfahhonmiimmdaaGreat
open Go.RowKit
end Go.Proofs.YtfahhonmiimmdaaGreat
