/-
  How much the types of a term are.
-/
import Derived.Test.YtghgjpcibdfbmaaTmTypes
import Derived.Test.YtghgjpcibdfbmaaTmRes
namespace Go.Proofs.Ytghgjpcibdfbmaa
open Go.RowKit
set_option linter.unusedVariables false
set_option linter.unusedSimpArgs false
set_option maxRecDepth 100000

theorem Ty.cnts_small : ∀ (ts : List Ty), (∀ x ∈ ts, x.valid = true) → Ty.cnts ts ≤ 14 * ts.length
  | [], _ => by unfold Ty.cnts; omega
  | t :: ts, h => by
    unfold Ty.cnts
    have h1 := Ty.cnt_shape t 4 (h t (List.mem_cons_self ..))
    have h2 := Ty.cnts_small ts (fun x hx => h x (List.mem_cons_of_mem _ hx))
    simp only [List.length_cons]
    omega
theorem Tm.types_scnt (t : Tm) : Ty.scnt t.types ≤ 1048576 := by
  unfold Tm.types
  split
  · rename_i h
    have h1 := (Tm.tys_ok h).1
    have h2 := Ty.cnts_small t.tys (Tm.tys_valid t 12 (Tm.valid_shape h))
    unfold Ty.scnt
    omega
  · unfold Ty.scnt Ty.cnts; simp
end Go.Proofs.Ytghgjpcibdfbmaa
