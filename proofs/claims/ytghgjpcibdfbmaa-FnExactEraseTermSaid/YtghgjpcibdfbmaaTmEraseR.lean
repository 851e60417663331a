/-
  How much a term without types is.
-/
import Derived.Test.YtghgjpcibdfbmaaTmEraseP
import Derived.Test.YtghgjpcibdfbmaaK8
namespace Go.Proofs.Ytghgjpcibdfbmaa
open Go.RowKit
set_option linter.unusedVariables false
set_option linter.unusedSimpArgs false
set_option maxRecDepth 100000

theorem Ty.cnts_any1 : ∀ n : Nat, Ty.cnts (List.replicate n .any1) = 0
  | 0 => rfl
  | n + 1 => by
    rw [List.replicate_succ]
    have h : Ty.cnts (Ty.any1 :: List.replicate n .any1) = Ty.any1.cnt + Ty.cnts (List.replicate n .any1) := rfl
    rw [h, Ty.cnts_any1 n]; rfl
theorem Tm.eraseT_mk9 (t : Tm) (h : t.cnt ≤ 1048576) : t.eraseT.mk9 ≤ 6291456 := by
  have h1 := Tm.mk9_le t.eraseT
  have h3 : t.eraseT.cnt ≤ t.cnt := by
    unfold Tm.eraseT Tm.erased
    split
    · have h4 := t.rety_cnt (List.replicate t.tys.length .any1)
      have h5 := Ty.cnts_take_le' (List.replicate t.tys.length .any1) t.tys.length
      rw [Ty.cnts_any1] at h5
      omega
    · show 0 ≤ _; omega
  omega
end Go.Proofs.Ytghgjpcibdfbmaa
