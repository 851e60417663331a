/-
  Functions that make types.
  How many unknown parts a type has, and how deep it is.
-/
import Derived.Test.YtikkneahhgmdjaaTyNewB
import Derived.Test.YtikkneahhgmdjaaTyValid
namespace Go.Proofs.Ytikkneahhgmdjaa
open Go.RowKit
set_option linter.unusedVariables false
set_option linter.unusedSimpArgs false
set_option maxRecDepth 100000

end Go.Proofs.Ytikkneahhgmdjaa
namespace Go.Proofs.Ytikkneahhgmdjaa
open Go.RowKit
set_option linter.unusedVariables false
set_option linter.unusedSimpArgs false
set_option maxRecDepth 100000

mutual
def Ty.any : Ty → Nat
  | .mk k ts => if k = 1 then 1 else Ty.anys ts
def Ty.anys : List Ty → Nat
  | [] => 0
  | t :: ts => t.any + Ty.anys ts
end
mutual
def Ty.depth : Ty → Nat
  | .mk _ ts => Ty.depths ts + 1
def Ty.depths : List Ty → Nat
  | [] => 0
  | t :: ts => max t.depth (Ty.depths ts)
end
mutual
theorem Ty.any_le : ∀ t : Ty, t.any ≤ t.cnt + 1
  | .mk k ts => by
    have := Ty.anys_le ts
    unfold Ty.any Ty.cnt
    split <;> omega
theorem Ty.anys_le : ∀ ts : List Ty, Ty.anys ts ≤ ts.length + Ty.cnts ts
  | [] => by simp [Ty.anys]
  | t :: ts => by
    have h1 := Ty.any_le t
    have h2 := Ty.anys_le ts
    simp only [Ty.anys, Ty.cnts, List.length_cons]
    omega
end
mutual
theorem Ty.depth_le : ∀ t : Ty, t.depth ≤ t.cnt + 1
  | .mk k ts => by
    have := Ty.depths_le ts
    unfold Ty.depth Ty.cnt
    omega
theorem Ty.depths_le : ∀ ts : List Ty, Ty.depths ts ≤ ts.length + Ty.cnts ts
  | [] => by simp [Ty.depths]
  | t :: ts => by
    have h1 := Ty.depth_le t
    have h2 := Ty.depths_le ts
    simp only [Ty.depths, Ty.cnts, List.length_cons]
    omega
end
theorem Ty.anys_take : ∀ (ts : List Ty) (j : Nat) (h : j < ts.length), Ty.anys (ts.take (j + 1)) = Ty.anys (ts.take j) + ts[j].any
  | [], _, h => absurd h (Nat.not_lt_zero _)
  | t :: ts, 0, _ => by simp [Ty.anys]
  | t :: ts, j + 1, h => by
    have := Ty.anys_take ts j (by simpa using h)
    simp only [List.take_succ_cons, Ty.anys, List.getElem_cons_succ]
    omega
theorem Ty.anys_take_le : ∀ (ts : List Ty) (j : Nat), Ty.anys (ts.take j) ≤ Ty.anys ts
  | [], _ => by simp
  | t :: ts, 0 => by simp [Ty.anys]
  | t :: ts, j + 1 => by
    have := Ty.anys_take_le ts j
    simp only [List.take_succ_cons, Ty.anys]
    omega
theorem Ty.depths_take : ∀ (ts : List Ty) (j : Nat) (h : j < ts.length), Ty.depths (ts.take (j + 1)) = max (Ty.depths (ts.take j)) ts[j].depth
  | [], _, h => absurd h (Nat.not_lt_zero _)
  | t :: ts, 0, _ => by simp [Ty.depths]
  | t :: ts, j + 1, h => by
    have := Ty.depths_take ts j (by simpa using h)
    simp only [List.take_succ_cons, Ty.depths, List.getElem_cons_succ]
    omega
theorem Ty.depths_take_le : ∀ (ts : List Ty) (j : Nat), Ty.depths (ts.take j) ≤ Ty.depths ts
  | [], _ => by simp
  | t :: ts, 0 => by simp [Ty.depths]
  | t :: ts, j + 1 => by
    have := Ty.depths_take_le ts j
    simp only [List.take_succ_cons, Ty.depths]
    omega

end Go.Proofs.Ytikkneahhgmdjaa
