/-
  TermValid and CastValid of the program.
-/
import Derived.Test.YtghgjpcibdfbmaaTmScan
namespace Go.Proofs.Ytghgjpcibdfbmaa
open Go.RowKit
set_option linter.unusedVariables false
set_option linter.unusedSimpArgs false
set_option maxRecDepth 100000

theorem leaf_iv12_0 (v : Bool) : (v : Bool) = (v) := by
  rfl

theorem leaf_iv40_1 (v : Bool) : (v : Bool) = (v) := by
  rfl

set_option maxHeartbeats 1000000 in
theorem implTermValid (F : Nat → Prop) (t : Tm) (y : Value) (w : World) (hy : TmRep F w t y) :
    Calls Try.prog 29 #[y] w fun e w' => e = .returned (.bool (t.valid)) ∧ Below w.heap.size w w' := by
  have hv : (t.scan 14 30 12 1 0).1 = t.valid := by
    have h := (Tm.scan_eq t 14 30 12 1 0 (by omega)).1
    unfold Tm.valid
    rw [h]
    simp
  have h1 := fun W (h : Below w.heap.size w W) (r : Nat) (hr : w.heap.size ≤ r) (hr2 : r < W.heap.size) (hc : W.cell? ⟨r, 0, none⟩ = some (.int .i64 0)) (hf : W.frozen? ⟨r, 0, none⟩ = false) =>
    (implScan r 14 30 12 (by omega) (by omega) t 1 0 (by omega) (by omega) (by omega) y W (hy.move (G := (· ≠ r)) ⟨h.size, fun b _ hl => by omega, fun b _ hl => h.block b hl⟩) hc hf hr2).mono
      (R' := fun e W' => e = .returned (.bool t.valid) ∧ Chg [r] W W') (fun e W' h => ⟨hv ▸ h.1, h.2.1⟩)
  obtain ⟨k, nm, u, tk, ta, tn, tq, fk, fa, fn, fq, l, c, m, q, rfl⟩ := hy.shape
  generalize t.valid = v at *
  have H1 := Lib.hid h1
  clear h1 hy hv
  obtain ⟨rr, hrr⟩ : ∃ rr0 : Bool, (v) = rr0 := ⟨_, rfl⟩
  rw [hrr]
  have HT := Lib.hid hrr
  clear hrr
  go_enter Try.func29, Try.ntmps29
  go_wp2_with fail
  refine (H1.out _ bal2 (w.heap.size + 1) (by simp) (by simp) (cell_new (by simp) 0) (fro_new (by simp) 0)).mono ?_
  rintro e w1 ⟨rfl, hb1⟩
  have hB := (bchg bal2 hb1 (by omega) (Nat.le_refl _))
  have zw1 := hB.size
  go_wp2_with fail
  refine bodyPost_ret (v := .bool (v)) (by simp [results, Try.results29, go_sem, bne]) rfl ?_
  exact ⟨ret_bool ((leaf_iv12_0 v ).trans HT.out), hB⟩
set_option maxHeartbeats 1000000 in
theorem implCastValid (F : Nat → Prop) (t : Tm) (y : Value) (w : World) (hy : TmRep F w t y) :
    Calls Try.prog 33 #[y] w fun e w' => e = .returned (.bool (t.castValid)) ∧ Below w.heap.size w w' := by
  have hv : (t.scan 13 200 40 1 0).1 = t.castValid := by
    have h := (Tm.scan_eq t 13 200 40 1 0 (by omega)).1
    unfold Tm.castValid
    rw [h]
    simp
  have h1 := fun W (h : Below w.heap.size w W) (r : Nat) (hr : w.heap.size ≤ r) (hr2 : r < W.heap.size) (hc : W.cell? ⟨r, 0, none⟩ = some (.int .i64 0)) (hf : W.frozen? ⟨r, 0, none⟩ = false) =>
    (implScan r 13 200 40 (by omega) (by omega) t 1 0 (by omega) (by omega) (by omega) y W (hy.move (G := (· ≠ r)) ⟨h.size, fun b _ hl => by omega, fun b _ hl => h.block b hl⟩) hc hf hr2).mono
      (R' := fun e W' => e = .returned (.bool t.castValid) ∧ Chg [r] W W') (fun e W' h => ⟨hv ▸ h.1, h.2.1⟩)
  obtain ⟨k, nm, u, tk, ta, tn, tq, fk, fa, fn, fq, l, c, m, q, rfl⟩ := hy.shape
  generalize t.castValid = v at *
  have H1 := Lib.hid h1
  clear h1 hy hv
  obtain ⟨rr, hrr⟩ : ∃ rr0 : Bool, (v) = rr0 := ⟨_, rfl⟩
  rw [hrr]
  have HT := Lib.hid hrr
  clear hrr
  go_enter Try.func33, Try.ntmps33
  go_wp2_with fail
  refine (H1.out _ bal2 (w.heap.size + 1) (by simp) (by simp) (cell_new (by simp) 0) (fro_new (by simp) 0)).mono ?_
  rintro e w1 ⟨rfl, hb1⟩
  have hB := (bchg bal2 hb1 (by omega) (Nat.le_refl _))
  have zw1 := hB.size
  go_wp2_with fail
  refine bodyPost_ret (v := .bool (v)) (by simp [results, Try.results33, go_sem, bne]) rfl ?_
  exact ⟨ret_bool ((leaf_iv40_1 v ).trans HT.out), hB⟩
end Go.Proofs.Ytghgjpcibdfbmaa
