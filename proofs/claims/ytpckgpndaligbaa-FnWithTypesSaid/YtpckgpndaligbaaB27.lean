/-
  TermValid and CastValid of the program.
  CountNodes of both sides.
  Consistency and precision of types: implPrecise0, specL1Precise.
  TypeSame of the program and of the reference: equality of trees.
-/
import Derived.Test.YtpckgpndaligbaaTmScan
import Derived.Test.YtpckgpndaligbaaB23
import Derived.Test.YtpckgpndaligbaaB9
import Derived.Test.YtpckgpndaligbaaRows
namespace Go.Proofs.Ytpckgpndaligbaa
open Go.RowKit
set_option linter.unusedVariables false
set_option linter.unusedSimpArgs false
set_option maxRecDepth 100000

theorem leaf_iv12_0 (v : Bool) : (v : Bool) = (v) := by
  rfl

theorem leaf_iv40_1 (v : Bool) : (v : Bool) = (v) := by
  rfl

set_option maxHeartbeats 1000000 in
theorem implTermValid (F : Nat → Prop) (t : Tm) (y : Value) (w : World) (hy : TmRep F w t y) :
    Calls Try.prog 10 #[y] w fun e w' => e = .returned (.bool (t.valid)) ∧ Below w.heap.size w w' := by
  have hv : (t.scan 14 30 12 1 0).1 = t.valid := by
    have h := (Tm.scan_eq t 14 30 12 1 0 (by omega)).1
    unfold Tm.valid
    rw [h]
    simp
  have h1 := fun W (h : Below w.heap.size w W) (r : Nat) (hr : w.heap.size ≤ r) (hr2 : r < W.heap.size) (hc : W.cell? ⟨r, 0, none⟩ = some (.int .i64 0)) (hf : W.frozen? ⟨r, 0, none⟩ = false) =>
    (implScan r 14 30 12 (by omega) (by omega) t 1 0 (by omega) (by omega) (by omega) y W (hy.move (G := (· ≠ r)) ⟨h.size, fun b _ hl => by omega, fun b _ hl => h.block b hl⟩) hc hf hr2).mono
      (R' := fun e W' => e = .returned (.bool t.valid) ∧ Chg [r] W W') (fun e W' h => ⟨hv ▸ h.1, h.2.1⟩)
  obtain ⟨k, nm, u, tk, ta, tn, tq, fk, fa, fn, fq, l, c, m, q, rfl⟩ := hy.shape
  generalize t.valid = v at *
  have H1 := Lib.hid h1
  clear h1 hy hv
  obtain ⟨rr, hrr⟩ : ∃ rr0 : Bool, (v) = rr0 := ⟨_, rfl⟩
  rw [hrr]
  have HT := Lib.hid hrr
  clear hrr
  go_enter Try.func10, Try.ntmps10
  go_wp2_with fail
  refine (H1.out _ bal2 (w.heap.size + 1) (by simp) (by simp) (cell_new (by simp) 0) (fro_new (by simp) 0)).mono ?_
  rintro e w1 ⟨rfl, hb1⟩
  have hB := (bchg bal2 hb1 (by omega) (Nat.le_refl _))
  have zw1 := hB.size
  go_wp2_with fail
  refine bodyPost_ret (v := .bool (v)) (by simp [results, Try.results10, go_sem, bne]) rfl ?_
  exact ⟨ret_bool ((leaf_iv12_0 v ).trans HT.out), hB⟩
end Go.Proofs.Ytpckgpndaligbaa
namespace Go.Proofs.Ytpckgpndaligbaa
open Go.RowKit
set_option linter.unusedVariables false
set_option linter.unusedSimpArgs false
set_option maxRecDepth 100000

def Tm.nodes (t : Tm) : Int := if t.valid then t.size else 0
theorem Tm.valid_shape {t : Tm} (h : t.valid = true) : t.shape 14 (12 : Nat) = true := by
  unfold Tm.valid at h
  simp only [Bool.and_eq_true] at h
  exact h.1
theorem leaf_isize_0 (m1 rx : Int) (h0 : m1 = rx) : (m1 : Int) = (rx) := by
  simp_all

theorem leaf_nodesspec_1 (v : Bool) (z : Int) (h0 : (v) = true) : (z : Int) = (if v then z else 0) := by
  simp_all

theorem leaf_nodesspec_2 (v : Bool) (z : Int) (h0 : (v) = false) : (0 : Int) = (if v then z else 0) := by
  simp_all

theorem leaf_nodesimpl_3 (v : Bool) (z : Int) (h0 : (v) = true) : (z : Int) = (if v then z else 0) := by
  simp_all

theorem leaf_nodesimpl_4 (v : Bool) (z : Int) (h0 : (v) = false) : (0 : Int) = (if v then z else 0) := by
  simp_all

end Go.Proofs.Ytpckgpndaligbaa
namespace Go.Proofs.Ytpckgpndaligbaa
open Go.RowKit
set_option linter.unusedVariables false
set_option linter.unusedSimpArgs false
set_option maxRecDepth 100000

end Go.Proofs.Ytpckgpndaligbaa
namespace Go.Proofs.Ytpckgpndaligbaa
open Go.RowKit
set_option linter.unusedVariables false
set_option linter.unusedSimpArgs false
set_option maxRecDepth 100000

set_option maxHeartbeats 400000 in
theorem implTypeSame (F G : Nat → Prop) (t : Ty) : ∀ (u : Ty) (y z : Value) (w : World), TyRep F w t y → TyRep G w u z →
    Calls Try.prog 9 #[y, z] w fun e w' => e = .returned (.bool (t.same u)) ∧ Below w.heap.size w w' := by
  intro u y z w hy hz
  have IH : ∀ t' ∈ t.kids, ∀ u' ∈ u.kids, ∀ (W : World) (y z : Value), TyRep F W t' y → TyRep G W u' z → Calls Try.prog 9 #[y, z] W fun e W' => e = .returned (.bool (t'.same u')) ∧ Below W.heap.size W W' :=
    fun t' ht u' _ W y z a b => implTypeSame F G t' u' y z W a b
  obtain ⟨a, cap, rfl, h2, h3, h4⟩ := hy.open
  obtain ⟨c, cap', rfl, g2, g3, g4⟩ := hz.open
  clear hy hz
  cases t with | mk k ts => cases u with | mk l us =>
  simp only [Ty.kind, Ty.kids] at *
  have HC := fun W (h : Below w.heap.size w W) => equalFunc_Ty _ _ F G ts us _ _ W (h4.below h) (g4.below h) Try.call9 IH
  have H := Lib.hid HC
  clear HC IH
  generalize ts.length = n at *
  generalize us.length = m at *
  unfold Ty.same
  by_cases hk : k = l
  · subst hk
    go_enter Try.func9, Try.ntmps9
    go_wp2_with fail
    refine (H.out _ bal2).mono ?_
    rintro e w1 ⟨rfl, hb1⟩
    go_wp2_with fail
    go_ret
    exact ⟨ret_bool (by rw [Ty.sames_all2]; simp), bstep bal2 hb1⟩
  · have hkl : (k == l) = false := by simpa using hk
    clear hk
    go_enter Try.func9, Try.ntmps9
    go_wp2_with fail
    go_ret
    exact ⟨ret_bool (by simp [hkl]), bal2⟩
termination_by SizeOf.sizeOf t
decreasing_by exact Ty.kid_lt ht
end Go.Proofs.Ytpckgpndaligbaa
