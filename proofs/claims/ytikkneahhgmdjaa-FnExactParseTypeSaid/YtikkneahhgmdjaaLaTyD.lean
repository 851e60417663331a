/-
  What a function that makes a type leaves.
-/
import Derived.Test.YtikkneahhgmdjaaRows
import Derived.Test.YtikkneahhgmdjaaOwn
import Derived.Test.YtikkneahhgmdjaaSzr
import Derived.Handy
import Derived.Deep.RegionHeld3
import Derived.Test.YtikkneahhgmdjaaTyEq
namespace Go.Proofs.Ytikkneahhgmdjaa
open Go.RowKit
set_option linter.unusedVariables false
set_option linter.unusedSimpArgs false
set_option maxRecDepth 100000

def RetTy (t : Ty) (w : World) (e : Ending) (w' : World) : Prop := ∃ v, e = .returned v ∧ TyNew w.heap.size w' t v ∧ Below w.heap.size w w'
def RetTys (ts : List Ty) (w : World) (e : Ending) (w' : World) : Prop := ∃ v, e = .returned v ∧ TysNew w.heap.size w' ts v ∧ Below w.heap.size w w'

theorem Try.infoTy : (Try.prog.info? 24).map (fun i => (i.zero, i.size, i.bytes)) = some (some (.agg #[.int .i64 0, .slice none 0 0]), 2, 32) := by kernel_rfl

end Go.Proofs.Ytikkneahhgmdjaa
