/-
  The laws' equality of types.
  The laws' helpers at types: size, copy.
-/
import Derived.Test.YtpckgpndaligbaaB27
import Derived.Deep.RegionHeld3
import Derived.Test.YtpckgpndaligbaaB2
namespace Go.Proofs.Ytpckgpndaligbaa
open Go.RowKit
set_option linter.unusedVariables false
set_option linter.unusedSimpArgs false
set_option maxRecDepth 100000

end Go.Proofs.Ytpckgpndaligbaa
namespace Go.Proofs.Ytpckgpndaligbaa
open Go.RowKit
set_option linter.unusedVariables false
set_option linter.unusedSimpArgs false
set_option maxRecDepth 100000

mutual
theorem Ty.same_refl : ∀ t : Ty, t.same t = true
  | .mk k ts => by unfold Ty.same; rw [Ty.sames_refl ts]; simp
theorem Ty.sames_refl : ∀ ts : List Ty, Ty.sames ts ts = true
  | [] => by unfold Ty.sames; rfl
  | t :: ts => by unfold Ty.sames; rw [Ty.same_refl t, Ty.sames_refl ts]; rfl
end
end Go.Proofs.Ytpckgpndaligbaa
namespace Go.Proofs.Ytpckgpndaligbaa
open Go.RowKit
set_option linter.unusedVariables false
set_option linter.unusedSimpArgs false
set_option maxRecDepth 100000

end Go.Proofs.Ytpckgpndaligbaa
