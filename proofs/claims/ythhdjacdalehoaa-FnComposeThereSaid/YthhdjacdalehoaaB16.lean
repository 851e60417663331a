/-
  TypeSame of the program and of the reference: equality of trees.
  The laws' equality of types.
-/
import Derived.Test.YthhdjacdalehoaaRows
import Derived.Test.YthhdjacdalehoaaB12
import Derived.Deep.RegionHeld3
import Derived.Test.YthhdjacdalehoaaB1
namespace Go.Proofs.Ythhdjacdalehoaa
open Go.RowKit
set_option linter.unusedVariables false
set_option linter.unusedSimpArgs false
set_option maxRecDepth 100000

set_option maxHeartbeats 400000 in
theorem implTypeSame (F G : Nat → Prop) (t : Ty) : ∀ (u : Ty) (y z : Value) (w : World), TyRep F w t y → TyRep G w u z →
    Calls Try.prog 16 #[y, z] w fun e w' => e = .returned (.bool (t.same u)) ∧ Below w.heap.size w w' := by
  intro u y z w hy hz
  have IH : ∀ t' ∈ t.kids, ∀ u' ∈ u.kids, ∀ (W : World) (y z : Value), TyRep F W t' y → TyRep G W u' z → Calls Try.prog 16 #[y, z] W fun e W' => e = .returned (.bool (t'.same u')) ∧ Below W.heap.size W W' :=
    fun t' ht u' _ W y z a b => implTypeSame F G t' u' y z W a b
  obtain ⟨a, cap, rfl, h2, h3, h4⟩ := hy.open
  obtain ⟨c, cap', rfl, g2, g3, g4⟩ := hz.open
  clear hy hz
  cases t with | mk k ts => cases u with | mk l us =>
  simp only [Ty.kind, Ty.kids] at *
  have HC := fun W (h : Below w.heap.size w W) => equalFunc_Ty _ _ F G ts us _ _ W (h4.below h) (g4.below h) Try.call16 IH
  have H := Lib.hid HC
  clear HC IH
  generalize ts.length = n at *
  generalize us.length = m at *
  unfold Ty.same
  by_cases hk : k = l
  · subst hk
    go_enter Try.func16, Try.ntmps16
    go_wp2_with fail
    refine (H.out _ bal2).mono ?_
    rintro e w1 ⟨rfl, hb1⟩
    go_wp2_with fail
    go_ret
    exact ⟨ret_bool (by rw [Ty.sames_all2]; simp), bstep bal2 hb1⟩
  · have hkl : (k == l) = false := by simpa using hk
    clear hk
    go_enter Try.func16, Try.ntmps16
    go_wp2_with fail
    go_ret
    exact ⟨ret_bool (by simp [hkl]), bal2⟩
termination_by SizeOf.sizeOf t
decreasing_by exact Ty.kid_lt ht
end Go.Proofs.Ythhdjacdalehoaa
namespace Go.Proofs.Ythhdjacdalehoaa
open Go.RowKit
set_option linter.unusedVariables false
set_option linter.unusedSimpArgs false
set_option maxRecDepth 100000

end Go.Proofs.Ythhdjacdalehoaa
namespace Go.Proofs.Ythhdjacdalehoaa
open Go.RowKit
set_option linter.unusedVariables false
set_option linter.unusedSimpArgs false
set_option maxRecDepth 100000

mutual
theorem Ty.same_refl : ∀ t : Ty, t.same t = true
  | .mk k ts => by unfold Ty.same; rw [Ty.sames_refl ts]; simp
theorem Ty.sames_refl : ∀ ts : List Ty, Ty.sames ts ts = true
  | [] => by unfold Ty.sames; rfl
  | t :: ts => by unfold Ty.sames; rw [Ty.same_refl t, Ty.sames_refl ts]; rfl
end
end Go.Proofs.Ythhdjacdalehoaa
