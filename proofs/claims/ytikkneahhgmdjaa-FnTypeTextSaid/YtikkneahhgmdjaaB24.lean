/-
  The depth of a type; the listed functions on counts and depths.
  Functions that make types.
-/
import Derived.Test.YtikkneahhgmdjaaB23
import Derived.Test.YtikkneahhgmdjaaTyPlain
import Derived.Test.YtikkneahhgmdjaaTyNewB
import Derived.Test.YtikkneahhgmdjaaB22
import Derived.Test.YtikkneahhgmdjaaB5
namespace Go.Proofs.Ytikkneahhgmdjaa
open Go.RowKit
set_option maxRecDepth 100000
set_option linter.unusedVariables false
set_option linter.unusedSimpArgs false

def Ty.depthV (t : Ty) : Int := if t.valid = true then (t.depth : Int) else 0
def Ty.anyV (t : Ty) : Int := if t.valid = true then (t.any : Int) else 0
end Go.Proofs.Ytikkneahhgmdjaa
namespace Go.Proofs.Ytikkneahhgmdjaa
open Go.RowKit
set_option linter.unusedVariables false
set_option linter.unusedSimpArgs false
set_option maxRecDepth 100000

/-- A type of one's own and a truth value; the zero value is the type without kind. -/
def RetTyB (t : Ty) (b : Bool) (w : World) (e : Ending) (w' : World) : Prop := ∃ v, e = .returned (.tuple #[v, .bool b]) ∧ TyNew w.heap.size w' t v ∧ Below w.heap.size w w'
def Ty.none : Ty := .mk 0 []
def groundOfT (t : Ty) : Ty := if t.valid && t.kind != 1 then ground t.kind else Ty.none

end Go.Proofs.Ytikkneahhgmdjaa
