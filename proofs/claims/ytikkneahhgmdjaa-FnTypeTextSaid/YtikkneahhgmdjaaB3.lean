/-
  Equality of the program and of the reference: equality of trees.
  What a function that makes a type leaves.
-/
import Derived.Test.YtikkneahhgmdjaaRows
import Derived.Test.YtikkneahhgmdjaaB1
import Derived.Test.YtikkneahhgmdjaaB2
import Derived.Handy
import Derived.Deep.RegionHeld3
namespace Go.Proofs.Ytikkneahhgmdjaa
open Go.RowKit
set_option linter.unusedVariables false
set_option linter.unusedSimpArgs false
set_option maxRecDepth 100000

mutual
def Ty.same : Ty → Ty → Bool
  | .mk k ts, .mk l us => k == l && Ty.sames ts us
def Ty.sames : List Ty → List Ty → Bool
  | [], [] => true
  | t :: ts, u :: us => t.same u && Ty.sames ts us
  | _, _ => false
end

/-- slices.EqualFunc at types: whatever the function compares. -/
def all2 (R : Ty → Ty → Bool) : List Ty → List Ty → Bool
  | [], [] => true
  | t :: ts, u :: us => R t u && all2 R ts us
  | _, _ => false

theorem all2_drop (R : Ty → Ty → Bool) (ts us : List Ty) (k : Nat) (h : k < ts.length) (h' : k < us.length) : all2 R (ts.drop k) (us.drop k) = (R ts[k] us[k] && all2 R (ts.drop (k + 1)) (us.drop (k + 1))) := by
  rw [List.drop_eq_getElem_cons h, List.drop_eq_getElem_cons h']; rfl
theorem all2_len (R : Ty → Ty → Bool) : ∀ (ts us : List Ty), ts.length ≠ us.length → all2 R ts us = false
  | [], [], h => absurd rfl h
  | [], _ :: _, _ => rfl
  | _ :: _, [], _ => rfl
  | t :: ts, u :: us, h => by
    have := all2_len R ts us (fun e => h (by simp [e]))
    simp [all2, this]
theorem all2_end (R : Ty → Ty → Bool) (ts us : List Ty) (k : Nat) (h : ts.length ≤ k) (h' : us.length ≤ k) : all2 R (ts.drop k) (us.drop k) = true := by
  rw [List.drop_eq_nil_of_le h, List.drop_eq_nil_of_le h']; rfl

theorem Ty.sames_all2 : ∀ ts us : List Ty, all2 Ty.same ts us = Ty.sames ts us
  | [], [] => by unfold Ty.sames; rfl
  | [], _ :: _ => by unfold Ty.sames; rfl
  | _ :: _, [] => by unfold Ty.sames; rfl
  | t :: ts, u :: us => by unfold Ty.sames all2; rw [Ty.sames_all2 ts us]

end Go.Proofs.Ytikkneahhgmdjaa
namespace Go.Proofs.Ytikkneahhgmdjaa
open Go.RowKit
set_option linter.unusedVariables false
set_option linter.unusedSimpArgs false
set_option maxRecDepth 100000

def RetTy (t : Ty) (w : World) (e : Ending) (w' : World) : Prop := ∃ v, e = .returned v ∧ TyNew w.heap.size w' t v ∧ Below w.heap.size w w'
def RetTys (ts : List Ty) (w : World) (e : Ending) (w' : World) : Prop := ∃ v, e = .returned v ∧ TysNew w.heap.size w' ts v ∧ Below w.heap.size w w'

theorem Try.infoTy : (Try.prog.info? 24).map (fun i => (i.zero, i.size, i.bytes)) = some (some (.agg #[.int .i64 0, .slice none 0 0]), 2, 32) := by kernel_rfl

end Go.Proofs.Ytikkneahhgmdjaa
