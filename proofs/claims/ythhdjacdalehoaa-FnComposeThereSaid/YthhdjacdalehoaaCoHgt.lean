/-
  CoercionHeight of both sides.
-/
import Derived.Test.YthhdjacdalehoaaB7
import Derived.IntWalk
namespace Go.Proofs.Ythhdjacdalehoaa
open Go.RowKit
set_option linter.unusedVariables false
set_option linter.unusedSimpArgs false
set_option maxRecDepth 100000

mutual
def Co.idB : Co → Bool
  | .mk k _ _ ts => (k == 1 || k == 2 || k == 3) && Co.idsB ts
def Co.idsB : List Co → Bool
  | [] => true
  | t :: ts => t.idB && Co.idsB ts
end
theorem Co.shape_parts {k g l : Int} {ts : List Co} {d : Int} (h : (Co.mk k g l ts).shape d = true) : coOps k = (ts.length : Int) ∧ Co.shapes ts (d - 1) = true := by
  unfold Co.shape at h
  simp only [Bool.and_eq_true, Co.nodeB, beq_iff_eq] at h
  exact ⟨h.1.2.1.1.1.1, h.2⟩
theorem Co.shapes_mem {d : Int} : ∀ {ts : List Co} {t : Co}, Co.shapes ts d = true → t ∈ ts → t.shape d = true
  | u :: ts, t, h, ht => by
    unfold Co.shapes at h
    simp only [Bool.and_eq_true] at h
    rcases List.mem_cons.1 ht with rfl | ht
    · exact h.1
    · exact Co.shapes_mem h.2 ht
end Go.Proofs.Ythhdjacdalehoaa
