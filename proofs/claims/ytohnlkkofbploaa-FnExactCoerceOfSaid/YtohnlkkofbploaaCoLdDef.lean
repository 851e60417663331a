/-
  Where coercions lead: the kinds of the nodes.
-/
import Derived.Test.YtohnlkkofbploaaCoTag
import Derived.Test.YtohnlkkofbploaaTyGround
import Derived.Deep.RegionHeld3
import Derived.Deep.QuietTactic
namespace Go.Proofs.Ytohnlkkofbploaa
open Go.RowKit
set_option linter.unusedVariables false
set_option linter.unusedSimpArgs false
set_option maxRecDepth 100000

def Ty.kid (t : Ty) (i : Nat) : Ty := t.kids.getD i (.mk 0 [])
mutual
def Co.leads : Co → Ty → Ty → Bool
  | .mk k g _ ts, f, t =>
    if k == 1 then f.kind == g && t.kind == g
    else if k == 2 then f.kind == 4 && t.kind == 4 && Co.leads2 ts (t.kid 0) (f.kid 0) (f.kid 1) (t.kid 1)
    else if k == 3 then f.kind == 5 && t.kind == 5 && Co.leads2 ts (f.kid 0) (t.kid 0) (f.kid 1) (t.kid 1)
    else if k == 4 then t.kind == 1 && f.kind == Co.tagVs ts && Co.leads1 ts f (ground f.kind)
    else if k == 5 then f.kind == 1 && Co.leads1 ts (ground (Co.tagVs ts)) t
    else f.kind == g
def Co.leads1 : List Co → Ty → Ty → Bool
  | [], _, _ => false
  | a :: _, f, t => a.leads f t
def Co.leads2 : List Co → Ty → Ty → Ty → Ty → Bool
  | [], _, _, _, _ => false
  | a :: ts, f0, t0, f1, t1 => a.leads f0 t0 && Co.leads1 ts f1 t1
end
theorem ground_kind (k : Int) : (ground k).kind = k := by unfold ground; split <;> rfl
theorem ground_ok {k : Int} (h : 1 ≤ k ∧ k ≤ 5) : (ground k).valid = true := by
  have : k = 1 ∨ k = 2 ∨ k = 3 ∨ k = 4 ∨ k = 5 := by omega
  rcases this with rfl | rfl | rfl | rfl | rfl <;> decide
end Go.Proofs.Ytohnlkkofbploaa
