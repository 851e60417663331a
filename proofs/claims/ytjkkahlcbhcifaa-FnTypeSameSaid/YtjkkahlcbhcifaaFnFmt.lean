/-
  Texts of types in the laws' words.
-/
import Derived.Test.YtjkkahlcbhcifaaFn
import Derived.Test.YtjkkahlcbhcifaaFmt
import Derived.Test.YtjkkahlcbhcifaaTySame2
namespace Go.Proofs.Ytjkkahlcbhcifaa
open Go.RowKit
set_option linter.unusedVariables false
set_option linter.unusedSimpArgs false
set_option maxRecDepth 100000

theorem toList_inj {a b : ByteArray} (h : a.toList = b.toList) : a = b := by
  have h2 : a.data.toList = b.data.toList := by rw [← ByteArray.toList_eq, ← ByteArray.toList_eq]; exact h
  exact ByteArray.ext (Array.toList_inj.1 h2)
theorem fmtB_ne {t : Ty} (h : t.valid = true) : ((fmtB t).toList == (⟨#[]⟩ : ByteArray).toList) = false ∧ ((fmtB t).toList == []) = false ∧ (fmtB t).toList.isEmpty = false := by
  obtain ⟨s, rfl, hs⟩ := Ty.valid_S h
  have h0 : (fmtB s.ty).toList ≠ [] := by
    rw [fmtB_ty hs, S.bs_text, ByteArray.toList_eq]
    simpa using S.text_ne s (S.vd_ok hs)
  have e0 : (⟨#[]⟩ : ByteArray).toList = [] := by rw [ByteArray.toList_eq]
  refine ⟨by rw [e0]; simpa using h0, by simpa using h0, by simpa using h0⟩
theorem fmtB_same {t u : Ty} (ht : t.valid = true) (hu : u.valid = true) : ((fmtB t).toList == (fmtB u).toList) = t.same u := by
  obtain ⟨s, rfl, hs⟩ := Ty.valid_S ht
  obtain ⟨v, rfl, hv⟩ := Ty.valid_S hu
  rw [fmtB_ty hs, fmtB_ty hv, S.same, Bool.eq_iff_iff]
  simp only [beq_iff_eq, decide_eq_true_eq]
  exact ⟨fun h => S.bs_inj hs hv (toList_inj h), fun h => by rw [h]⟩
theorem implTypeSameSym (F G : Nat → Prop) (t u : Ty) (y z : Value) (w : World) (hy : TyRep F w t y) (hz : TyRep G w u z) :
    Calls Try.prog 37 #[y, z] w fun e w' => e = .returned (.bool (u.same t)) ∧ Below w.heap.size w w' := by
  rw [Ty.same_symm]; exact implTypeSame F G t u y z w hy hz
theorem law_FnTypeSame (a b : Ty) : a.same a = true ∧ a.same b = b.same a := ⟨Ty.same_refl a, Ty.same_symm a b⟩
end Go.Proofs.Ytjkkahlcbhcifaa
