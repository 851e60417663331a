/-
  TypeSame of the program and of the reference: equality of trees.
  ParseType as the law on texts calls it.
-/
import Derived.Test.YtikkneahhgmdjaaRows
import Derived.Test.YtikkneahhgmdjaaTyEqF
import Derived.Test.YtikkneahhgmdjaaPrsL
import Derived.Test.YtikkneahhgmdjaaPrsI4
namespace Go.Proofs.Ytikkneahhgmdjaa
open Go.RowKit
set_option linter.unusedVariables false
set_option linter.unusedSimpArgs false
set_option maxRecDepth 100000

set_option maxHeartbeats 400000 in
theorem implTypeSame (F G : Nat → Prop) (t : Ty) : ∀ (u : Ty) (y z : Value) (w : World), TyRep F w t y → TyRep G w u z →
    Calls Try.prog 15 #[y, z] w fun e w' => e = .returned (.bool (t.same u)) ∧ Below w.heap.size w w' := by
  intro u y z w hy hz
  have IH : ∀ t' ∈ t.kids, ∀ u' ∈ u.kids, ∀ (W : World) (y z : Value), TyRep F W t' y → TyRep G W u' z → Calls Try.prog 15 #[y, z] W fun e W' => e = .returned (.bool (t'.same u')) ∧ Below W.heap.size W W' :=
    fun t' ht u' _ W y z a b => implTypeSame F G t' u' y z W a b
  obtain ⟨a, cap, rfl, h2, h3, h4⟩ := hy.open
  obtain ⟨c, cap', rfl, g2, g3, g4⟩ := hz.open
  clear hy hz
  cases t with | mk k ts => cases u with | mk l us =>
  simp only [Ty.kind, Ty.kids] at *
  have HC := fun W (h : Below w.heap.size w W) => equalFunc_Ty _ _ F G ts us _ _ W (h4.below h) (g4.below h) Try.call15 IH
  have H := Lib.hid HC
  clear HC IH
  generalize ts.length = n at *
  generalize us.length = m at *
  unfold Ty.same
  by_cases hk : k = l
  · subst hk
    go_enter Try.func15, Try.ntmps15
    go_wp2_with fail
    refine (H.out _ bal2).mono ?_
    rintro e w1 ⟨rfl, hb1⟩
    go_wp2_with fail
    go_ret
    exact ⟨ret_bool (by rw [Ty.sames_all2]; simp), bstep bal2 hb1⟩
  · have hkl : (k == l) = false := by simpa using hk
    clear hk
    go_enter Try.func15, Try.ntmps15
    go_wp2_with fail
    go_ret
    exact ⟨ret_bool (by simp [hkl]), bal2⟩
termination_by SizeOf.sizeOf t
decreasing_by exact Ty.kid_lt ht
end Go.Proofs.Ytikkneahhgmdjaa
namespace Go.Proofs.Ytikkneahhgmdjaa
open Go.RowKit
set_option linter.unusedVariables false
set_option linter.unusedSimpArgs false
set_option maxRecDepth 100000

theorem fmtB_ne {t : Ty} (h : t.valid = true) : ((fmtB t).toList == (⟨#[]⟩ : ByteArray).toList) = false ∧ ((fmtB t).toList == []) = false ∧ (fmtB t).toList.isEmpty = false := by
  obtain ⟨s, rfl, hs⟩ := Ty.valid_S h
  have h0 : (fmtB s.ty).toList ≠ [] := by
    rw [fmtB_ty hs, S.bs_text, ByteArray.toList_eq]
    simpa using S.text_ne s (S.vd_ok hs)
  have e0 : (⟨#[]⟩ : ByteArray).toList = [] := by rw [ByteArray.toList_eq]
  refine ⟨by rw [e0]; simpa using h0, by simpa using h0, by simpa using h0⟩
theorem RetP.tyB {t : Ty} {b : Bool} {w w' : World} {e : Ending} (h : RetP t b w e w') : RetTyB t b w e w' := by
  obtain ⟨k, a, n, q, rfl, hn, hb⟩ := h
  exact ⟨_, rfl, hn, hb⟩
theorem implParsePrint (t : Ty) (h : t.valid = true) (w : World) : Calls Try.prog 6 #[.string (fmtB t)] w (RetTyB t true w) :=
  (implParseType (fmtB t) w).mono fun e w' k => by rw [(parse_print h).1, (parse_print h).2] at k; exact k.tyB
theorem implParseEmpty (w : World) : Calls Try.prog 6 #[.string (⟨#[]⟩ : ByteArray)] w (RetTyB Ty.none false w) :=
  (implParseType _ w).mono fun e w' k => by rw [parse_nil.1, parse_nil.2] at k; exact k.tyB
def pT (x : ByteArray) : Ty := parseT x.data.toList
def pOk (x : ByteArray) : Bool := parseOk x.data.toList
theorem implParseX (x : ByteArray) (w : World) : Calls Try.prog 6 #[.string x] w (RetTyB (pT x) (pOk x) w) :=
  (implParseType x w).mono fun e w' k => k.tyB
theorem specParseX' (x : ByteArray) (hx : x.size ≤ 100) (w : World) : Calls Try.prog 5 #[.string x] w (RetTyB (pT x) (pOk x) w) :=
  (specParseType x (by omega) w).mono fun e w' k => k.tyB
theorem implFormatX (F : Nat → Prop) (x : ByteArray) (y : Value) (w : World) (h : pOk x = true) (r : TyRep F w (pT x) y) : Calls Try.prog 11 #[y] w fun e w' => e = .returned (.string x) ∧ Below w.heap.size w w' :=
  (implFormatType F (pT x) y w r).mono fun e w' k => by rw [show fmtB (pT x) = x from (print_parse h).2] at k; exact k
theorem implTypeSameS {F G : Nat → Prop} (t : Ty) (y z : Value) (w : World) (hy : TyRep F w t y) (hz : TyRep G w t z) :
    Calls Try.prog 15 #[y, z] w fun e w' => e = .returned (.bool true) ∧ Below w.heap.size w w' := by
  rw [← Ty.same_refl t]; exact implTypeSame F G t t y z w hy hz
end Go.Proofs.Ytikkneahhgmdjaa
