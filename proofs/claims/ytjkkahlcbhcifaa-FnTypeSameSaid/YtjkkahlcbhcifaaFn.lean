/-
  The contracts in the words of the laws; readings of types that are built in place.
-/
import Derived.Test.YtjkkahlcbhcifaaPlain
import Derived.Test.YtjkkahlcbhcifaaRd3
import Derived.Test.YtjkkahlcbhcifaaTyTwo
import Derived.IntWalk
namespace Go.Proofs.Ytjkkahlcbhcifaa
open Go.RowKit
set_option linter.unusedVariables false
set_option linter.unusedSimpArgs false
set_option maxRecDepth 100000

section
variable (F G : Nat → Prop) (t u : Ty) (y z : Value) (w : World)
theorem implPreciseB (hy : TyRep F w t y) (hz : TyRep G w u z) :
    Calls Try.prog 53 #[y, z] w fun e w' => e = .returned (.bool (precB t u)) ∧ Below w.heap.size w w' := implPrecise F G t u y z w hy hz
theorem specPreciseB (hy : TyRep F w t y) (hz : TyRep G w u z) :
    Calls Try.prog 52 #[y, z] w fun e w' => e = .returned (.bool (precB t u)) ∧ Below w.heap.size w w' := specPrecise F G t u y z w hy hz
theorem implPreciseSelf (hy : TyRep F w t y) (hz : TyRep G w t z) :
    Calls Try.prog 53 #[y, z] w fun e w' => e = .returned (.bool t.valid) ∧ Below w.heap.size w w' := by
  rw [← precB_self]; exact implPreciseB F G t t y z w hy hz
theorem implConsistentSelf (hy : TyRep F w t y) (hz : TyRep G w t z) :
    Calls Try.prog 51 #[y, z] w fun e w' => e = .returned (.bool t.valid) ∧ Below w.heap.size w w' := by
  rw [← consB_self]; exact implConsistentB F G t t y z w hy hz
theorem implTypeSameSelf (hy : TyRep F w t y) (hz : TyRep G w t z) :
    Calls Try.prog 37 #[y, z] w fun e w' => e = .returned (.bool true) ∧ Below w.heap.size w w' := by
  rw [← Ty.same_refl t]; exact implTypeSame F G t t y z w hy hz
theorem implIsStaticB (hy : TyRep F w t y) :
    Calls Try.prog 42 #[y] w fun e w' => e = .returned (.bool (staticB t)) ∧ Below w.heap.size w w' := implIsStatic F t y w hy
theorem specIsStaticB (hy : TyRep F w t y) :
    Calls Try.prog 41 #[y] w fun e w' => e = .returned (.bool (staticB t)) ∧ Below w.heap.size w w' := specIsStatic F t y w hy
end
theorem Ty.anyV_bd (t : Ty) : 0 ≤ t.anyV ∧ t.anyV ≤ 1048577 := by
  unfold Ty.anyV
  split
  · rename_i h
    have h1 := Ty.cnt_valid h
    have h2 := Ty.any_le t
    omega
  · omega
theorem Ty.depthV_bd (t : Ty) : 0 ≤ t.depthV ∧ t.depthV ≤ 4 := by
  cases h : t.valid with
  | false => unfold Ty.depthV; rw [h]; simp
  | true =>
    obtain ⟨s, rfl, hs⟩ := Ty.valid_S h
    rw [depthV_ty hs]
    have := S.vd_dep hs
    omega
end Go.Proofs.Ytjkkahlcbhcifaa
