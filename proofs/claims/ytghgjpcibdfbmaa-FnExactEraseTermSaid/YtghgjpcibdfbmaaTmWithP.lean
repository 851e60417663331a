/-
  A term with other types: what it is.
-/
import Derived.Test.YtghgjpcibdfbmaaK6
import Derived.Test.YtghgjpcibdfbmaaTmMap
import Derived.Test.YtghgjpcibdfbmaaK4
import Derived.Test.YtghgjpcibdfbmaaTmBareP
namespace Go.Proofs.Ytghgjpcibdfbmaa
open Go.RowKit
set_option linter.unusedVariables false
set_option linter.unusedSimpArgs false
set_option maxRecDepth 100000

mutual
def Tm.rety : Tm → List Ty → Tm
  | .mk k s u t f l ts, L => .mk k s u (if hasT k then L.headD .no else t) f l (Tm.retys ts (if hasT k then L.tail else L))
def Tm.retys : List Tm → List Ty → List Tm
  | [], _ => []
  | t :: ts, L => t.rety L :: Tm.retys ts (L.drop t.tys.length)
end
theorem Tm.retys_take_succ : ∀ (ts : List Tm) (L : List Ty) (j : Nat) (h : j < ts.length), Tm.retys (ts.take (j + 1)) L = Tm.retys (ts.take j) L ++ [ts[j].rety (L.drop (Tm.tyss (ts.take j)).length)]
  | [], _, _, h => absurd h (Nat.not_lt_zero _)
  | t :: ts, L, 0, _ => by simp [Tm.retys, Tm.tyss]
  | t :: ts, L, j + 1, h => by
    have := Tm.retys_take_succ ts (L.drop t.tys.length) j (by simpa using h)
    simp only [List.take_succ_cons, Tm.retys, List.getElem_cons_succ, this, Tm.tyss, List.length_append, List.drop_drop, List.cons_append]
/-- What spec.l2With returns for a term and a list. -/
def WithC (F G : Nat → Prop) (L : List Ty) (t : Tm) : Prop := ∀ (at0 : Nat) (y lv : Value) (w : World), TmRep F w t y → TysRep G w L lv → t.cnt ≤ 1048576 → (∀ x ∈ L, x.cnt ≤ 1048576) → at0 + t.tys.length ≤ L.length → L.length ≤ 1048576 →
    Calls Try.prog 99 #[y, lv, .int .i64 (at0 : Int)] w fun e w' => ∃ v, e = .returned (.tuple #[v, .int .i64 ((at0 + t.tys.length : Nat) : Int)]) ∧ TmNew w.heap.size w' (t.rety (L.drop at0)) v ∧ Below w.heap.size w w'
end Go.Proofs.Ytghgjpcibdfbmaa
