/-
  A term without casts and types: what it is.
-/
import Derived.Test.YtghgjpcibdfbmaaTmMap
import Derived.Test.YtghgjpcibdfbmaaK4
import Derived.Test.YtghgjpcibdfbmaaTmOwnB
namespace Go.Proofs.Ytghgjpcibdfbmaa
open Go.RowKit
set_option linter.unusedVariables false
set_option linter.unusedSimpArgs false
set_option maxRecDepth 100000

def Ty.any1 : Ty := .mk 1 []
def Ty.no : Ty := .mk 0 []
def Tm.zero : Tm := .mk 0 { data := #[] } 0 .no .no 0 []
def bareN (k u : Int) (s : ByteArray) (ks : List Tm) : Tm := if k == 14 || k == 13 then ks.headD .zero else .mk k s u (if k == 5 then .any1 else .no) .no 0 ks
mutual
def Tm.bare : Tm → Tm
  | .mk k s u _ _ _ ts => bareN k u s (Tm.bares ts)
def Tm.bares : List Tm → List Tm
  | [] => []
  | t :: ts => t.bare :: Tm.bares ts
end
theorem Tm.bares_eq : ∀ ts : List Tm, Tm.bares ts = ts.map Tm.bare
  | [] => by unfold Tm.bares; rfl
  | t :: ts => by unfold Tm.bares; rw [Tm.bares_eq ts]; rfl
theorem Tm.bares_take_succ (ts : List Tm) (j : Nat) (h : j < ts.length) : Tm.bares (ts.take (j + 1)) = Tm.bares (ts.take j) ++ [ts[j].bare] := by
  rw [Tm.bares_eq, Tm.bares_eq, List.take_succ_eq_append_getElem h, List.map_append]; rfl
def RetTmB (t : Tm) (b : Bool) (w : World) (e : Ending) (w' : World) : Prop := ∃ v, e = .returned (.tuple #[v, .bool b]) ∧ TmNew w.heap.size w' t v ∧ Below w.heap.size w w'
/-- What spec.l4Bare returns for a term. -/
def BareC (nt : Int) (F : Nat → Prop) (t : Tm) : Prop := ∀ (d : Int) (y : Value) (w : World), t.shape nt d = true → TmRep F w t y → t.cnt ≤ 1048576 → Calls Try.prog 103 #[y] w (RetTm t.bare w)
end Go.Proofs.Ytghgjpcibdfbmaa
