/-
  The reference's ground types.
-/
import Derived.Test.YtikkneahhgmdjaaTyNewB
import Derived.Test.YtikkneahhgmdjaaTyPlain
namespace Go.Proofs.Ytikkneahhgmdjaa
open Go.RowKit
set_option linter.unusedVariables false
set_option linter.unusedSimpArgs false
set_option maxRecDepth 100000

theorem ground_valid {t : Ty} (h : t.valid = true) : Ty.mk t.kind (List.replicate t.kids.length (.mk 1 [])) = ground t.kind := by
  cases t with | mk k ts =>
  unfold Ty.valid Ty.shape at h
  simp only [Bool.and_eq_true, decide_eq_true_eq] at h
  have h2 := h.2.1
  simp only [Ty.kind, Ty.kids]
  unfold tkids at h2
  unfold ground
  split at h2
  · have h0 : ts.length = 0 := by omega
    rw [h0, if_neg (by omega)]
    rfl
  · split at h2
    · rename_i hh
      have h0 : ts.length = 2 := by omega
      rw [h0, if_pos hh]
      rfl
    · omega

end Go.Proofs.Ytikkneahhgmdjaa
