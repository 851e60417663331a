/-
  The check of a coercion by the reference: the rows.
-/
import Derived.Test.YthhdjacdalehoaaCoScan
namespace Go.Proofs.Ythhdjacdalehoaa
open Go.RowKit
theorem Co.shapes_drop (ts : List Co) (d : Int) (k : Nat) (h : k < ts.length) : Co.shapes (ts.drop k) d = (ts[k].shape d && Co.shapes (ts.drop (k + 1)) d) := by
  rw [List.drop_eq_getElem_cons h]
  conv => lhs; unfold Co.shapes
end Go.Proofs.Ythhdjacdalehoaa
