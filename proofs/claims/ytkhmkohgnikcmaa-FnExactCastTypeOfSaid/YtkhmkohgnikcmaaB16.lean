/-
  Functions that make types.
  How many unknown parts a type has, and how deep it is.
  The depth of a type; the listed functions on counts and depths.
  Functions that make types.
  The reference's ground of a type.
-/
import Derived.Test.YtkhmkohgnikcmaaB14
import Derived.Test.YtkhmkohgnikcmaaB9
import Derived.Test.YtkhmkohgnikcmaaTyOwnT
import Derived.Test.YtkhmkohgnikcmaaB3
import Derived.Test.YtkhmkohgnikcmaaB2
namespace Go.Proofs.Ytkhmkohgnikcmaa
open Go.RowKit
set_option linter.unusedVariables false
set_option linter.unusedSimpArgs false
set_option maxRecDepth 100000

end Go.Proofs.Ytkhmkohgnikcmaa
namespace Go.Proofs.Ytkhmkohgnikcmaa
open Go.RowKit
set_option linter.unusedVariables false
set_option linter.unusedSimpArgs false
set_option maxRecDepth 100000

mutual
def Ty.any : Ty → Nat
  | .mk k ts => if k = 1 then 1 else Ty.anys ts
def Ty.anys : List Ty → Nat
  | [] => 0
  | t :: ts => t.any + Ty.anys ts
end
mutual
def Ty.depth : Ty → Nat
  | .mk _ ts => Ty.depths ts + 1
def Ty.depths : List Ty → Nat
  | [] => 0
  | t :: ts => max t.depth (Ty.depths ts)
end
end Go.Proofs.Ytkhmkohgnikcmaa
namespace Go.Proofs.Ytkhmkohgnikcmaa
open Go.RowKit
set_option maxRecDepth 100000
set_option linter.unusedVariables false
set_option linter.unusedSimpArgs false

end Go.Proofs.Ytkhmkohgnikcmaa
namespace Go.Proofs.Ytkhmkohgnikcmaa
open Go.RowKit
set_option linter.unusedVariables false
set_option linter.unusedSimpArgs false
set_option maxRecDepth 100000

/-- A type of one's own and a truth value; the zero value is the type without kind. -/
def RetTyB (t : Ty) (b : Bool) (w : World) (e : Ending) (w' : World) : Prop := ∃ v, e = .returned (.tuple #[v, .bool b]) ∧ TyNew w.heap.size w' t v ∧ Below w.heap.size w w'
def Ty.none : Ty := .mk 0 []
end Go.Proofs.Ytkhmkohgnikcmaa
namespace Go.Proofs.Ytkhmkohgnikcmaa
open Go.RowKit
set_option linter.unusedVariables false
set_option linter.unusedSimpArgs false
set_option maxRecDepth 100000

end Go.Proofs.Ytkhmkohgnikcmaa
