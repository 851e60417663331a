/-
  A term with other types, by the reference: joined.
-/
import Derived.Test.YtpckgpndaligbaaTmWith5
import Derived.Test.YtpckgpndaligbaaTmWith13
import Derived.Test.YtpckgpndaligbaaTmWithk
namespace Go.Proofs.Ytpckgpndaligbaa
open Go.RowKit
set_option linter.unusedVariables false
set_option linter.unusedSimpArgs false
set_option maxRecDepth 100000

theorem specL2With (F G : Nat → Prop) (L : List Ty) (t : Tm) : WithC F G L t := by
  have IH : ∀ t' ∈ t.kids, WithC F G L t' := fun t' ht => specL2With F G L t'
  by_cases h5 : t.kind = 5
  · exact with5 F G L t h5 IH
  · by_cases h13 : t.kind = 13
    · exact with13 F G L t h13 IH
    · exact withk F G L t (by simpa using h5) (by simpa using h13) IH
termination_by SizeOf.sizeOf t
decreasing_by exact Tm.kid_lt ht
end Go.Proofs.Ytpckgpndaligbaa
