/-
  Equality of coercions as trees.
-/
import Derived.Test.YthhdjacdalehoaaB1
namespace Go.Proofs.Ythhdjacdalehoaa
open Go.RowKit
set_option linter.unusedVariables false
set_option linter.unusedSimpArgs false
set_option maxRecDepth 100000

mutual
def Co.same : Co → Co → Bool
  | .mk k g l ts, .mk k' g' l' us => k == k' && g == g' && l == l' && Co.sames ts us
def Co.sames : List Co → List Co → Bool
  | [], [] => true
  | t :: ts, u :: us => t.same u && Co.sames ts us
  | _, _ => false
end
def call2 (R : Co → Co → Bool) : List Co → List Co → Bool
  | [], [] => true
  | t :: ts, u :: us => R t u && call2 R ts us
  | _, _ => false
theorem call2_drop (R : Co → Co → Bool) (ts us : List Co) (k : Nat) (h : k < ts.length) (h' : k < us.length) : call2 R (ts.drop k) (us.drop k) = (R ts[k] us[k] && call2 R (ts.drop (k + 1)) (us.drop (k + 1))) := by
  rw [List.drop_eq_getElem_cons h, List.drop_eq_getElem_cons h']; rfl
theorem call2_len (R : Co → Co → Bool) : ∀ (ts us : List Co), ts.length ≠ us.length → call2 R ts us = false
  | [], [], h => absurd rfl h
  | [], _ :: _, _ => rfl
  | _ :: _, [], _ => rfl
  | t :: ts, u :: us, h => by
    have := call2_len R ts us (fun e => h (by simp [e]))
    simp [call2, this]
theorem call2_end (R : Co → Co → Bool) (ts us : List Co) (k : Nat) (h : ts.length ≤ k) (h' : us.length ≤ k) : call2 R (ts.drop k) (us.drop k) = true := by
  rw [List.drop_eq_nil_of_le h, List.drop_eq_nil_of_le h']; rfl
theorem Co.sames_all2 : ∀ ts us : List Co, call2 Co.same ts us = Co.sames ts us
  | [], [] => by unfold Co.sames; rfl
  | [], _ :: _ => by unfold Co.sames; rfl
  | _ :: _, [] => by unfold Co.sames; rfl
  | t :: ts, u :: us => by unfold Co.sames call2; rw [Co.sames_all2 ts us]
mutual
theorem Co.same_refl : ∀ t : Co, t.same t = true
  | .mk k g l ts => by unfold Co.same; rw [Co.sames_refl ts]; simp
theorem Co.sames_refl : ∀ ts : List Co, Co.sames ts ts = true
  | [] => by unfold Co.sames; rfl
  | t :: ts => by unfold Co.sames; rw [Co.same_refl t, Co.sames_refl ts]; rfl
end

end Go.Proofs.Ythhdjacdalehoaa
