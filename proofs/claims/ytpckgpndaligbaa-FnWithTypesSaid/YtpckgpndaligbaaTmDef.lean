/-
  What makes a node of a term.
-/
import Derived.Test.YtpckgpndaligbaaB8
import Derived.Test.YtpckgpndaligbaaB4
import Derived.Test.YtpckgpndaligbaaB9
namespace Go.Proofs.Ytpckgpndaligbaa
open Go.RowKit
set_option linter.unusedVariables false
set_option linter.unusedSimpArgs false
set_option maxRecDepth 100000

def ownB (k u l : Int) (nm : ByteArray) (tv n1 n2 cv : Bool) : Bool :=
  (if k == 1 || k == 5 then nameB nm else nm.toList == []) && winB u 0 (if k == 2 then 999 else 0) && (if k == 5 || k == 13 || k == 14 then tv else n1) && (if k == 14 then cv && labelB l else n2 && l == 0)
def nodeB (k u l : Int) (nm : ByteArray) (m : Nat) (tv n1 n2 cv : Bool) : Bool := (tops k == (m : Int)) && ownB k u l nm tv n1 n2 cv
def Tm.ownB (t : Tm) : Bool := Go.Proofs.Ytpckgpndaligbaa.ownB t.kind t.num t.label t.name t.type.valid t.type.noneB t.src.noneB (t.src.valid && t.type.valid && t.src.cons t.type)
def Tm.nodeB (t : Tm) : Bool := (tops t.kind == (t.kids.length : Int)) && t.ownB
theorem kinds6 (k : Int) : k = 1 ∨ k = 2 ∨ k = 5 ∨ k = 13 ∨ k = 14 ∨ ((k == 1) = false ∧ (k == 5) = false ∧ (k == 13) = false ∧ (k == 14) = false ∧ (k == 2) = false) := by
  simp only [beq_eq_false_iff_ne]
  omega
theorem win0 (u : Int) : (u == 0) = winB u 0 0 := by unfold winB; rw [Bool.eq_iff_iff]; simp; omega
end Go.Proofs.Ytpckgpndaligbaa
