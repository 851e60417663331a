/-
  TermValid and CastValid of the reference.
  TermValid and CastValid of the program.
  CountNodes of both sides.
  Validity, the number of nodes and the free names of a term and of its operands: plain laws.
-/
import Derived.Test.YtblpdpkjgbbhkaaTmShape2
import Derived.Test.YtblpdpkjgbbhkaaTmShape4
import Derived.Test.YtblpdpkjgbbhkaaTmCount
import Derived.Test.YtblpdpkjgbbhkaaTmScan
namespace Go.Proofs.Ytblpdpkjgbbhkaa
open Go.RowKit
set_option linter.unusedVariables false
set_option linter.unusedSimpArgs false
set_option maxRecDepth 100000

theorem leaf_sv12_0 (s : Bool) (z : Int) (h0 : (s) = true) : (decide (z ≤ 30) : Bool) = (s && decide (z ≤ 30)) := by
  simp_all

theorem leaf_sv12_1 (s : Bool) (z : Int) (h0 : (s) = false) : (false : Bool) = (s && decide (z ≤ 30)) := by
  simp_all

theorem leaf_sv40_2 (s : Bool) (z : Int) (h0 : (s) = true) : (decide (z ≤ 200) : Bool) = (s && decide (z ≤ 200)) := by
  simp_all

theorem leaf_sv40_3 (s : Bool) (z : Int) (h0 : (s) = false) : (false : Bool) = (s && decide (z ≤ 200)) := by
  simp_all

set_option maxHeartbeats 1000000 in
theorem specTermValid (F : Nat → Prop) (t : Tm) (y : Value) (w : World) (hy : TmRep F w t y) :
    Calls Try.prog 12 #[y] w fun e w' => e = .returned (.bool (t.valid)) ∧ Below w.heap.size w w' := by
  have h1 := fun W (h : Below w.heap.size w W) => specL2Shape F t 12 y W (hy.below h) (by omega) (by omega)
  have h2 := fun (hs : t.shape 14 12 = true) W (h : Below w.heap.size w W) => specL2Count F t 14 12 hs 12 (by omega) (by omega) y W (hy.below h)
  obtain ⟨k, nm, u, tk, ta, tn, tq, fk, fa, fn, fq, l, c, m, q, rfl⟩ := hy.shape
  unfold Tm.valid
  generalize t.shape 14 12 = s at *
  generalize t.size = z at *
  have H1 := Lib.hid h1
  have H2 := Lib.hid h2
  clear h1 h2 hy
  obtain ⟨rr, hrr⟩ : ∃ rr0 : Bool, (s && decide (z ≤ 30)) = rr0 := ⟨_, rfl⟩
  rw [hrr]
  have HT := Lib.hid hrr
  clear hrr
  go_enter Try.func12, Try.ntmps12
  rcases Bool.eq_false_or_eq_true (s) with q1 | q1
  · have Hq1 := Lib.hid q1
    clear q1
    go_wp2_with fail
    refine (H1.out _ bal1).mono ?_
    rintro e w1 ⟨rfl, hb1⟩
    rw [Hq1.out]
    have hB := (bstep bal1 hb1)
    have zw1 := hB.size
    have c0_0 : w1.cell? ⟨w.heap.size, 0, none⟩ = some (.int .i64 k) := bcell hb1 (cell_new (by simp) 0)
    have c0_1 : w1.cell? ⟨w.heap.size, 1, none⟩ = some (.string nm) := bcell hb1 (cell_new (by simp) 1)
    have c0_2 : w1.cell? ⟨w.heap.size, 2, none⟩ = some (.int .i64 u) := bcell hb1 (cell_new (by simp) 2)
    have c0_3 : w1.cell? ⟨w.heap.size, 3, none⟩ = some (.int .i64 tk) := bcell hb1 (cell_new (by simp) 3)
    have c0_4 : w1.cell? ⟨w.heap.size, 4, none⟩ = some (.slice ta tn tq) := bcell hb1 (cell_new (by simp) 4)
    have c0_5 : w1.cell? ⟨w.heap.size, 5, none⟩ = some (.int .i64 fk) := bcell hb1 (cell_new (by simp) 5)
    have c0_6 : w1.cell? ⟨w.heap.size, 6, none⟩ = some (.slice fa fn fq) := bcell hb1 (cell_new (by simp) 6)
    have c0_7 : w1.cell? ⟨w.heap.size, 7, none⟩ = some (.int .i64 l) := bcell hb1 (cell_new (by simp) 7)
    have c0_8 : w1.cell? ⟨w.heap.size, 8, none⟩ = some (.slice c m q) := bcell hb1 (cell_new (by simp) 8)
    have d0_w1 := World.block_lt_of_cell? _ _ c0_0
    go_wp2_with fail
    refine (H2.out Hq1.out _ hB).mono ?_
    rintro e w2 ⟨rfl, hb2⟩
    replace hB := (bstep hB hb2)
    have zw2 := hB.size
    go_wp2_with fail
    refine bodyPost_ret (v := .bool (decide (z ≤ 30))) (by simp [results, Try.results12, go_sem, bne]) rfl ?_
    exact ⟨ret_bool ((leaf_sv12_0 s z Hq1.out).trans HT.out), hB⟩
  · have Hq1 := Lib.hid q1
    clear q1
    go_wp2_with fail
    refine (H1.out _ bal1).mono ?_
    rintro e w3 ⟨rfl, hb3⟩
    rw [Hq1.out]
    have hB := (bstep bal1 hb3)
    have zw3 := hB.size
    go_wp2_with fail
    refine bodyPost_ret (v := .bool (false)) (by simp [results, Try.results12, go_sem, bne]) rfl ?_
    exact ⟨ret_bool ((leaf_sv12_1 s z Hq1.out).trans HT.out), hB⟩
set_option maxHeartbeats 1000000 in
theorem specCastValid (F : Nat → Prop) (t : Tm) (y : Value) (w : World) (hy : TmRep F w t y) :
    Calls Try.prog 76 #[y] w fun e w' => e = .returned (.bool (t.castValid)) ∧ Below w.heap.size w w' := by
  have h1 := fun W (h : Below w.heap.size w W) => specL4Shape F t 40 y W (hy.below h) (by omega) (by omega)
  have h2 := fun (hs : t.shape 13 40 = true) W (h : Below w.heap.size w W) => specL2Count F t 13 40 hs 40 (by omega) (by omega) y W (hy.below h)
  obtain ⟨k, nm, u, tk, ta, tn, tq, fk, fa, fn, fq, l, c, m, q, rfl⟩ := hy.shape
  unfold Tm.castValid
  generalize t.shape 13 40 = s at *
  generalize t.size = z at *
  have H1 := Lib.hid h1
  have H2 := Lib.hid h2
  clear h1 h2 hy
  obtain ⟨rr, hrr⟩ : ∃ rr0 : Bool, (s && decide (z ≤ 200)) = rr0 := ⟨_, rfl⟩
  rw [hrr]
  have HT := Lib.hid hrr
  clear hrr
  go_enter Try.func76, Try.ntmps76
  rcases Bool.eq_false_or_eq_true (s) with q1 | q1
  · have Hq1 := Lib.hid q1
    clear q1
    go_wp2_with fail
    refine (H1.out _ bal1).mono ?_
    rintro e w1 ⟨rfl, hb1⟩
    rw [Hq1.out]
    have hB := (bstep bal1 hb1)
    have zw1 := hB.size
    have c0_0 : w1.cell? ⟨w.heap.size, 0, none⟩ = some (.int .i64 k) := bcell hb1 (cell_new (by simp) 0)
    have c0_1 : w1.cell? ⟨w.heap.size, 1, none⟩ = some (.string nm) := bcell hb1 (cell_new (by simp) 1)
    have c0_2 : w1.cell? ⟨w.heap.size, 2, none⟩ = some (.int .i64 u) := bcell hb1 (cell_new (by simp) 2)
    have c0_3 : w1.cell? ⟨w.heap.size, 3, none⟩ = some (.int .i64 tk) := bcell hb1 (cell_new (by simp) 3)
    have c0_4 : w1.cell? ⟨w.heap.size, 4, none⟩ = some (.slice ta tn tq) := bcell hb1 (cell_new (by simp) 4)
    have c0_5 : w1.cell? ⟨w.heap.size, 5, none⟩ = some (.int .i64 fk) := bcell hb1 (cell_new (by simp) 5)
    have c0_6 : w1.cell? ⟨w.heap.size, 6, none⟩ = some (.slice fa fn fq) := bcell hb1 (cell_new (by simp) 6)
    have c0_7 : w1.cell? ⟨w.heap.size, 7, none⟩ = some (.int .i64 l) := bcell hb1 (cell_new (by simp) 7)
    have c0_8 : w1.cell? ⟨w.heap.size, 8, none⟩ = some (.slice c m q) := bcell hb1 (cell_new (by simp) 8)
    have d0_w1 := World.block_lt_of_cell? _ _ c0_0
    go_wp2_with fail
    refine (H2.out Hq1.out _ hB).mono ?_
    rintro e w2 ⟨rfl, hb2⟩
    replace hB := (bstep hB hb2)
    have zw2 := hB.size
    go_wp2_with fail
    refine bodyPost_ret (v := .bool (decide (z ≤ 200))) (by simp [results, Try.results76, go_sem, bne]) rfl ?_
    exact ⟨ret_bool ((leaf_sv40_2 s z Hq1.out).trans HT.out), hB⟩
  · have Hq1 := Lib.hid q1
    clear q1
    go_wp2_with fail
    refine (H1.out _ bal1).mono ?_
    rintro e w3 ⟨rfl, hb3⟩
    rw [Hq1.out]
    have hB := (bstep bal1 hb3)
    have zw3 := hB.size
    go_wp2_with fail
    refine bodyPost_ret (v := .bool (false)) (by simp [results, Try.results76, go_sem, bne]) rfl ?_
    exact ⟨ret_bool ((leaf_sv40_3 s z Hq1.out).trans HT.out), hB⟩
end Go.Proofs.Ytblpdpkjgbbhkaa
namespace Go.Proofs.Ytblpdpkjgbbhkaa
open Go.RowKit
set_option linter.unusedVariables false
set_option linter.unusedSimpArgs false
set_option maxRecDepth 100000

theorem leaf_iv12_0 (v : Bool) : (v : Bool) = (v) := by
  rfl

theorem leaf_iv40_1 (v : Bool) : (v : Bool) = (v) := by
  rfl

set_option maxHeartbeats 1000000 in
theorem implTermValid (F : Nat → Prop) (t : Tm) (y : Value) (w : World) (hy : TmRep F w t y) :
    Calls Try.prog 11 #[y] w fun e w' => e = .returned (.bool (t.valid)) ∧ Below w.heap.size w w' := by
  have hv : (t.scan 14 30 12 1 0).1 = t.valid := by
    have h := (Tm.scan_eq t 14 30 12 1 0 (by omega)).1
    unfold Tm.valid
    rw [h]
    simp
  have h1 := fun W (h : Below w.heap.size w W) (r : Nat) (hr : w.heap.size ≤ r) (hr2 : r < W.heap.size) (hc : W.cell? ⟨r, 0, none⟩ = some (.int .i64 0)) (hf : W.frozen? ⟨r, 0, none⟩ = false) =>
    (implScan r 14 30 12 (by omega) (by omega) t 1 0 (by omega) (by omega) (by omega) y W (hy.move (G := (· ≠ r)) ⟨h.size, fun b _ hl => by omega, fun b _ hl => h.block b hl⟩) hc hf hr2).mono
      (R' := fun e W' => e = .returned (.bool t.valid) ∧ Chg [r] W W') (fun e W' h => ⟨hv ▸ h.1, h.2.1⟩)
  obtain ⟨k, nm, u, tk, ta, tn, tq, fk, fa, fn, fq, l, c, m, q, rfl⟩ := hy.shape
  generalize t.valid = v at *
  have H1 := Lib.hid h1
  clear h1 hy hv
  obtain ⟨rr, hrr⟩ : ∃ rr0 : Bool, (v) = rr0 := ⟨_, rfl⟩
  rw [hrr]
  have HT := Lib.hid hrr
  clear hrr
  go_enter Try.func11, Try.ntmps11
  go_wp2_with fail
  refine (H1.out _ bal2 (w.heap.size + 1) (by simp) (by simp) (cell_new (by simp) 0) (fro_new (by simp) 0)).mono ?_
  rintro e w1 ⟨rfl, hb1⟩
  have hB := (bchg bal2 hb1 (by omega) (Nat.le_refl _))
  have zw1 := hB.size
  go_wp2_with fail
  refine bodyPost_ret (v := .bool (v)) (by simp [results, Try.results11, go_sem, bne]) rfl ?_
  exact ⟨ret_bool ((leaf_iv12_0 v ).trans HT.out), hB⟩
set_option maxHeartbeats 1000000 in
theorem implCastValid (F : Nat → Prop) (t : Tm) (y : Value) (w : World) (hy : TmRep F w t y) :
    Calls Try.prog 40 #[y] w fun e w' => e = .returned (.bool (t.castValid)) ∧ Below w.heap.size w w' := by
  have hv : (t.scan 13 200 40 1 0).1 = t.castValid := by
    have h := (Tm.scan_eq t 13 200 40 1 0 (by omega)).1
    unfold Tm.castValid
    rw [h]
    simp
  have h1 := fun W (h : Below w.heap.size w W) (r : Nat) (hr : w.heap.size ≤ r) (hr2 : r < W.heap.size) (hc : W.cell? ⟨r, 0, none⟩ = some (.int .i64 0)) (hf : W.frozen? ⟨r, 0, none⟩ = false) =>
    (implScan r 13 200 40 (by omega) (by omega) t 1 0 (by omega) (by omega) (by omega) y W (hy.move (G := (· ≠ r)) ⟨h.size, fun b _ hl => by omega, fun b _ hl => h.block b hl⟩) hc hf hr2).mono
      (R' := fun e W' => e = .returned (.bool t.castValid) ∧ Chg [r] W W') (fun e W' h => ⟨hv ▸ h.1, h.2.1⟩)
  obtain ⟨k, nm, u, tk, ta, tn, tq, fk, fa, fn, fq, l, c, m, q, rfl⟩ := hy.shape
  generalize t.castValid = v at *
  have H1 := Lib.hid h1
  clear h1 hy hv
  obtain ⟨rr, hrr⟩ : ∃ rr0 : Bool, (v) = rr0 := ⟨_, rfl⟩
  rw [hrr]
  have HT := Lib.hid hrr
  clear hrr
  go_enter Try.func40, Try.ntmps40
  go_wp2_with fail
  refine (H1.out _ bal2 (w.heap.size + 1) (by simp) (by simp) (cell_new (by simp) 0) (fro_new (by simp) 0)).mono ?_
  rintro e w1 ⟨rfl, hb1⟩
  have hB := (bchg bal2 hb1 (by omega) (Nat.le_refl _))
  have zw1 := hB.size
  go_wp2_with fail
  refine bodyPost_ret (v := .bool (v)) (by simp [results, Try.results40, go_sem, bne]) rfl ?_
  exact ⟨ret_bool ((leaf_iv40_1 v ).trans HT.out), hB⟩
end Go.Proofs.Ytblpdpkjgbbhkaa
namespace Go.Proofs.Ytblpdpkjgbbhkaa
open Go.RowKit
set_option linter.unusedVariables false
set_option linter.unusedSimpArgs false
set_option maxRecDepth 100000

def Tm.nodes (t : Tm) : Int := if t.valid then t.size else 0
theorem Tm.valid_shape {t : Tm} (h : t.valid = true) : t.shape 14 (12 : Nat) = true := by
  unfold Tm.valid at h
  simp only [Bool.and_eq_true] at h
  exact h.1
theorem leaf_isize_0 (m1 rx : Int) (h0 : m1 = rx) : (m1 : Int) = (rx) := by
  simp_all

theorem leaf_nodesspec_1 (v : Bool) (z : Int) (h0 : (v) = true) : (z : Int) = (if v then z else 0) := by
  simp_all

theorem leaf_nodesspec_2 (v : Bool) (z : Int) (h0 : (v) = false) : (0 : Int) = (if v then z else 0) := by
  simp_all

theorem leaf_nodesimpl_3 (v : Bool) (z : Int) (h0 : (v) = true) : (z : Int) = (if v then z else 0) := by
  simp_all

theorem leaf_nodesimpl_4 (v : Bool) (z : Int) (h0 : (v) = false) : (0 : Int) = (if v then z else 0) := by
  simp_all

set_option maxHeartbeats 8000000 in
theorem implSize (F : Nat → Prop) (t : Tm) : ∀ (_ : t.size ≤ 6078832729528464400) (y : Value) (w : World), TmRep F w t y →
    Calls Try.prog 48 #[y] w fun e w' => e = .returned (.int .i64 (t.size)) ∧ Below w.heap.size w w' := by
  intro hbd y w hy
  have IH : ∀ t' ∈ t.kids, ∀ (_ : t'.size ≤ 6078832729528464400) (y : Value) (W : World), TmRep F W t' y → Calls Try.prog 48 #[y] W fun e W' => e = .returned (.int .i64 (t'.size)) ∧ Below W.heap.size W W' :=
    fun t' ht a y W e => implSize F t' a y W e
  obtain ⟨k, nm, u, tk, ta, tn, tq, fk, fa, fn, fq, l, c, m, q, rfl⟩ := hy.shape
  obtain ⟨r1, r2, r3, r4, r5, r6, r7, r8, r9, rn, rm, rq, hty, hsr, hks⟩ := hy.parts
  cases t with | mk kk nn uu tt ff ll ts =>
  simp only [Tm.kind, Tm.name, Tm.num, Tm.type, Tm.src, Tm.label, Tm.kids] at *
  subst r1 r2 r3 r8
  unfold Tm.size at hbd ⊢
  obtain ⟨rx, hr0⟩ : ∃ r, 1 + Tm.sizes ts = r := ⟨_, rfl⟩
  rw [hr0]
  have HT0 := Lib.hid hr0
  have HN := Lib.hid r9
  have HB := Lib.hid hbd
  have IHH := Lib.hid IH
  unfold maxLen at rq
  clear hr0 IH hy r9 r4 r5 r6 r7 rn hty hsr hbd
  obtain ⟨rr, hrr⟩ : ∃ rr0 : Int, (rx) = rr0 := ⟨_, rfl⟩
  rw [hrr]
  have HT := Lib.hid hrr
  clear hrr
  go_enter Try.func48, Try.ntmps48
  go_wp2_with fail
  go_loopw [9, 3] (fun i m1_ wr => ∃ j : Nat, j ≤ m ∧ i = .int .i64 j ∧ (∃ m1 : Int, m1_ = .int .i64 m1 ∧ (1 ≤ m1 ∧ m1 ≤ 6078832729528464400) ∧ Hid (m1 = 1 + Tm.sizes (ts.take j))) ∧ Below w.heap.size w wr) (fun i _ _ => m - (intOf i).toNat)
  case atStart => exact ⟨0, by omega, rfl, ⟨_, rfl, (by omega), (by unfold Hid; simp [Tm.sizes])⟩, bal1⟩
  case round =>
    obtain ⟨j, hj, rfl, ⟨m1, rfl, m1_0, m1_1⟩, hB⟩ := hrel
    by_cases hlt : j < m
    · have hjt : j < ts.length := by have := HN.out; omega
      obtain ⟨b, off, k0, nm0, u0, tk0, ta0, tn0, tq0, fk0, fa0, fn0, fq0, l0, a0, m0, q0, rfl, lb, e0, e1, e2, e3, e4, e5, e6, e7, e8, ht⟩ := hks.at hB hjt
      have lb_1 := Nat.lt_succ_of_lt lb
      have hp := Tm.size_pos ts[j]
      have hstep := Tm.sizes_take_succ ts j hjt
      have hle := Tm.sizes_take_le ts (j + 1)
      have hmr : m1 + ts[j].size ≤ 6078832729528464400 := by have := m1_1.out; have := HB.out; omega
      have hcall := IHH.out ts[j] (List.getElem_mem hjt) (by omega)
      generalize ts[j].size = r at hcall hp hstep hmr
      have HC := Lib.hid hcall
      have HS := Lib.hid hstep
      clear hcall hstep hle
      go_wp2_with fail
      refine (HC.out _ _ (ht.below bal1)).mono ?_
      rintro e w1 ⟨rfl, hb1⟩
      replace hB := (bstep (hB.alloc hB.size _) hb1)
      have zw1 := hB.size
      have hwr := IntWalk.i64_in (m1 + r) (by omega)
      have hwr := IntWalk.i64_in ((j : Int) + 1) (by omega)
      go_wp2_with fail
      go_roundw
      case rel => exact ⟨j + 1, by omega, by go_num, ⟨_, rfl, (by omega), (by have h1 := m1_1.out; have h2 := HS.out; unfold Hid; omega)⟩, hB⟩
      case measure => simp [intOf]; omega
    · skip
      have HMM : Hid (m1 = rx) := Lib.hid (by have := m1_1.out; rw [List.take_of_length_le (by have := HN.out; omega)] at this; have := HT0.out; omega)
      go_wp2_with fail
      refine bodyPost_ret (v := .int .i64 (m1)) (by simp [results, Try.results48, go_sem, bne]) rfl ?_
      exact ⟨ret_int ((leaf_isize_0 m1 rx HMM.out).trans HT.out), hB⟩
termination_by SizeOf.sizeOf t
decreasing_by exact Tm.kid_lt ht
set_option maxHeartbeats 1000000 in
theorem specCountNodes (F : Nat → Prop) (t : Tm) (y : Value) (w : World) (hy : TmRep F w t y) :
    Calls Try.prog 15 #[y] w fun e w' => e = .returned (.int .i64 (t.nodes)) ∧ Below w.heap.size w w' := by
  have h1 := fun W (h : Below w.heap.size w W) => specTermValid F t y W (hy.below h)
  have h2 := fun (hs : t.valid = true) W (h : Below w.heap.size w W) => specL2Count F t 14 12 (Tm.valid_shape hs) 12 (by omega) (by omega) y W (hy.below h)
  obtain ⟨k, nm, u, tk, ta, tn, tq, fk, fa, fn, fq, l, c, m, q, rfl⟩ := hy.shape
  unfold Tm.nodes
  generalize t.valid = v at *
  generalize t.size = z at *
  have H1 := Lib.hid h1
  have H2 := Lib.hid h2
  clear h1 h2 hy
  obtain ⟨rr, hrr⟩ : ∃ rr0 : Int, (if v then z else 0) = rr0 := ⟨_, rfl⟩
  rw [hrr]
  have HT := Lib.hid hrr
  clear hrr
  go_enter Try.func15, Try.ntmps15
  go_wp2_with fail
  refine (H1.out _ bal1).mono ?_
  rintro e w1 ⟨rfl, hb1⟩
  have hB := (bstep bal1 hb1)
  have zw1 := hB.size
  have c0_0 : w1.cell? ⟨w.heap.size, 0, none⟩ = some (.int .i64 k) := bcell hb1 (cell_new (by simp) 0)
  have c0_1 : w1.cell? ⟨w.heap.size, 1, none⟩ = some (.string nm) := bcell hb1 (cell_new (by simp) 1)
  have c0_2 : w1.cell? ⟨w.heap.size, 2, none⟩ = some (.int .i64 u) := bcell hb1 (cell_new (by simp) 2)
  have c0_3 : w1.cell? ⟨w.heap.size, 3, none⟩ = some (.int .i64 tk) := bcell hb1 (cell_new (by simp) 3)
  have c0_4 : w1.cell? ⟨w.heap.size, 4, none⟩ = some (.slice ta tn tq) := bcell hb1 (cell_new (by simp) 4)
  have c0_5 : w1.cell? ⟨w.heap.size, 5, none⟩ = some (.int .i64 fk) := bcell hb1 (cell_new (by simp) 5)
  have c0_6 : w1.cell? ⟨w.heap.size, 6, none⟩ = some (.slice fa fn fq) := bcell hb1 (cell_new (by simp) 6)
  have c0_7 : w1.cell? ⟨w.heap.size, 7, none⟩ = some (.int .i64 l) := bcell hb1 (cell_new (by simp) 7)
  have c0_8 : w1.cell? ⟨w.heap.size, 8, none⟩ = some (.slice c m q) := bcell hb1 (cell_new (by simp) 8)
  have d0_w1 := World.block_lt_of_cell? _ _ c0_0
  rcases Bool.eq_false_or_eq_true (v) with q1 | q1
  · (try rw [q1])
    have Hq1 := Lib.hid q1
    clear q1
    go_wp2_with fail
    refine (H2.out Hq1.out _ hB).mono ?_
    rintro e w2 ⟨rfl, hb2⟩
    replace hB := (bstep hB hb2)
    have zw2 := hB.size
    go_wp2_with fail
    refine bodyPost_ret (v := .int .i64 (z)) (by simp [results, Try.results15, go_sem, bne]) rfl ?_
    exact ⟨ret_int ((leaf_nodesspec_1 v z Hq1.out).trans HT.out), hB⟩
  · (try rw [q1])
    have Hq1 := Lib.hid q1
    clear q1
    go_wp2_with fail
    refine bodyPost_ret (v := .int .i64 (0)) (by simp [results, Try.results15, go_sem, bne]) rfl ?_
    exact ⟨ret_int ((leaf_nodesspec_2 v z Hq1.out).trans HT.out), hB⟩
set_option maxHeartbeats 1000000 in
theorem implCountNodes (F : Nat → Prop) (t : Tm) (y : Value) (w : World) (hy : TmRep F w t y) :
    Calls Try.prog 14 #[y] w fun e w' => e = .returned (.int .i64 (t.nodes)) ∧ Below w.heap.size w w' := by
  have h1 := fun W (h : Below w.heap.size w W) => implTermValid F t y W (hy.below h)
  have h2 := fun (hs : t.valid = true) W (h : Below w.heap.size w W) => implSize F t (by have := Tm.size_bd (n := 12) (Tm.valid_shape hs) (by omega); omega) y W (hy.below h)
  obtain ⟨k, nm, u, tk, ta, tn, tq, fk, fa, fn, fq, l, c, m, q, rfl⟩ := hy.shape
  unfold Tm.nodes
  generalize t.valid = v at *
  generalize t.size = z at *
  have H1 := Lib.hid h1
  have H2 := Lib.hid h2
  clear h1 h2 hy
  obtain ⟨rr, hrr⟩ : ∃ rr0 : Int, (if v then z else 0) = rr0 := ⟨_, rfl⟩
  rw [hrr]
  have HT := Lib.hid hrr
  clear hrr
  go_enter Try.func14, Try.ntmps14
  go_wp2_with fail
  refine (H1.out _ bal1).mono ?_
  rintro e w1 ⟨rfl, hb1⟩
  have hB := (bstep bal1 hb1)
  have zw1 := hB.size
  have c0_0 : w1.cell? ⟨w.heap.size, 0, none⟩ = some (.int .i64 k) := bcell hb1 (cell_new (by simp) 0)
  have c0_1 : w1.cell? ⟨w.heap.size, 1, none⟩ = some (.string nm) := bcell hb1 (cell_new (by simp) 1)
  have c0_2 : w1.cell? ⟨w.heap.size, 2, none⟩ = some (.int .i64 u) := bcell hb1 (cell_new (by simp) 2)
  have c0_3 : w1.cell? ⟨w.heap.size, 3, none⟩ = some (.int .i64 tk) := bcell hb1 (cell_new (by simp) 3)
  have c0_4 : w1.cell? ⟨w.heap.size, 4, none⟩ = some (.slice ta tn tq) := bcell hb1 (cell_new (by simp) 4)
  have c0_5 : w1.cell? ⟨w.heap.size, 5, none⟩ = some (.int .i64 fk) := bcell hb1 (cell_new (by simp) 5)
  have c0_6 : w1.cell? ⟨w.heap.size, 6, none⟩ = some (.slice fa fn fq) := bcell hb1 (cell_new (by simp) 6)
  have c0_7 : w1.cell? ⟨w.heap.size, 7, none⟩ = some (.int .i64 l) := bcell hb1 (cell_new (by simp) 7)
  have c0_8 : w1.cell? ⟨w.heap.size, 8, none⟩ = some (.slice c m q) := bcell hb1 (cell_new (by simp) 8)
  have d0_w1 := World.block_lt_of_cell? _ _ c0_0
  rcases Bool.eq_false_or_eq_true (v) with q1 | q1
  · (try rw [q1])
    have Hq1 := Lib.hid q1
    clear q1
    go_wp2_with fail
    refine (H2.out Hq1.out _ hB).mono ?_
    rintro e w2 ⟨rfl, hb2⟩
    replace hB := (bstep hB hb2)
    have zw2 := hB.size
    go_wp2_with fail
    refine bodyPost_ret (v := .int .i64 (z)) (by simp [results, Try.results14, go_sem, bne]) rfl ?_
    exact ⟨ret_int ((leaf_nodesimpl_3 v z Hq1.out).trans HT.out), hB⟩
  · (try rw [q1])
    have Hq1 := Lib.hid q1
    clear q1
    go_wp2_with fail
    refine bodyPost_ret (v := .int .i64 (0)) (by simp [results, Try.results14, go_sem, bne]) rfl ?_
    exact ⟨ret_int ((leaf_nodesimpl_4 v z Hq1.out).trans HT.out), hB⟩
end Go.Proofs.Ytblpdpkjgbbhkaa
namespace Go.Proofs.Ytblpdpkjgbbhkaa
open Go.RowKit
set_option linter.unusedVariables false
set_option linter.unusedSimpArgs false
set_option maxRecDepth 100000

mutual
theorem Tm.shape_mono : ∀ (t : Tm) (nt d e : Int), t.shape nt d = true → d ≤ e → t.shape nt e = true
  | .mk k s u t f l ts, nt, d, e, h, hd => by
    unfold Tm.shape at h ⊢
    simp only [Bool.and_eq_true, decide_eq_true_eq] at h ⊢
    exact ⟨⟨⟨by omega, h.1.1.2⟩, h.1.2⟩, Tm.shapes_mono ts nt _ _ h.2 (by omega)⟩
theorem Tm.shapes_mono : ∀ (ts : List Tm) (nt d e : Int), Tm.shapes ts nt d = true → d ≤ e → Tm.shapes ts nt e = true
  | [], _, _, _, _, _ => by unfold Tm.shapes; rfl
  | t :: ts, nt, d, e, h, hd => by
    unfold Tm.shapes at h ⊢
    simp only [Bool.and_eq_true] at h ⊢
    exact ⟨Tm.shape_mono t nt d e h.1 hd, Tm.shapes_mono ts nt d e h.2 hd⟩
end
theorem Tm.size_kids (t : Tm) : t.size = 1 + Tm.sizes t.kids := by cases t; rw [Tm.size]; rfl
theorem Tm.size_mem : ∀ {ts : List Tm} {t : Tm}, t ∈ ts → t.size ≤ Tm.sizes ts
  | u :: ts, t, h => by
    unfold Tm.sizes
    have h1 := Tm.sizes_pos ts
    have h2 := u.size_pos
    rcases List.mem_cons.1 h with rfl | h
    · omega
    · have := Tm.size_mem h; omega
/-- The operands of a valid term are valid. -/
theorem Tm.valid_kid {t x : Tm} (h : t.valid = true) (hx : x ∈ t.kids) : x.valid = true := by
  cases t with | mk k s u ty f l ts =>
  unfold Tm.valid at h ⊢
  simp only [Bool.and_eq_true, decide_eq_true_eq] at h ⊢
  have h1 := (Tm.shape_parts h.1).2.2.2.2
  have h2 := Tm.size_mem hx
  have h3 := (Tm.mk k s u ty f l ts).size_kids
  exact ⟨Tm.shape_mono x 14 11 12 (Tm.shapes_mem h1 hx) (by omega), by omega⟩
/-- A valid term with a label is not valid. -/
theorem Tm.valid_label {k u l : Int} {s : ByteArray} {ty f : Ty} {ts : List Tm} (h : (Tm.mk k s u ty f l ts).valid = true) (f' : Ty) (l' : Int) (hl : l' ≠ 0) : (Tm.mk k s u ty f' l' ts).valid = false := by
  unfold Tm.valid at h
  simp only [Bool.and_eq_true, decide_eq_true_eq] at h
  have hk := (Tm.shape_parts h.1).2.1
  have h0 : (Tm.mk k s u ty f' l' ts).ownB = false := by
    unfold Tm.ownB Go.Proofs.Ytblpdpkjgbbhkaa.ownB
    simp only [Tm.kind, Tm.label]
    have e1 : (k == 14) = false := by simpa using hk
    have e2 : (l' == 0) = false := by simpa using hl
    simp [e1, e2]
  unfold Tm.valid Tm.shape
  simp [h0]
theorem Tm.nodes_kids {t : Tm} (h : t.valid = true) : t.nodes = 1 + Tm.sizes t.kids ∧ t.nodes ≤ 30 := by
  have h' := h
  unfold Tm.nodes
  rw [if_pos h, Tm.size_kids]
  refine ⟨rfl, ?_⟩
  unfold Tm.valid at h'
  simp only [Bool.and_eq_true, decide_eq_true_eq] at h'
  have := Tm.size_kids t
  omega
theorem Tm.nodes_zero (t : Tm) : (t.nodes == 0) = !t.valid := by
  unfold Tm.nodes
  have := t.size_pos
  cases t.valid
  · rfl
  · simp; omega
theorem Tm.nodes_pos (t : Tm) : decide (t.nodes > 0) = t.valid := by
  unfold Tm.nodes
  have := t.size_pos
  cases t.valid
  · rfl
  · simp; omega
end Go.Proofs.Ytblpdpkjgbbhkaa
