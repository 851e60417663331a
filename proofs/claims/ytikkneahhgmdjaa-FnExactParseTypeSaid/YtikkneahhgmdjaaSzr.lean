/-
  What is left of a law's purse.
-/
import Derived.Test.YtikkneahhgmdjaaBase
namespace Go.Proofs.Ytikkneahhgmdjaa
open Go.RowKit

/-- What is left of a purse when c things are taken from it; -1: too little. -/
def szr (l : Int) (c : Nat) : Int := if (c : Int) ≤ l then l - c else -1

theorem szr_pos {l : Int} {c : Nat} (h : (c : Int) ≤ l) : szr l c = l - c := by unfold szr; rw [if_pos h]
theorem szr_neg {l : Int} {c : Nat} (h : ¬ (c : Int) ≤ l) : szr l c = -1 := by unfold szr; rw [if_neg h]
end Go.Proofs.Ytikkneahhgmdjaa
