/-
  CountNodes of both sides.
-/
import Derived.Test.YtghgjpcibdfbmaaTmValidS
import Derived.Test.YtghgjpcibdfbmaaTmValidI
namespace Go.Proofs.Ytghgjpcibdfbmaa
open Go.RowKit
set_option linter.unusedVariables false
set_option linter.unusedSimpArgs false
set_option maxRecDepth 100000

def Tm.nodes (t : Tm) : Int := if t.valid then t.size else 0
theorem Tm.valid_shape {t : Tm} (h : t.valid = true) : t.shape 14 (12 : Nat) = true := by
  unfold Tm.valid at h
  simp only [Bool.and_eq_true] at h
  exact h.1
theorem leaf_isize_0 (m1 rx : Int) (h0 : m1 = rx) : (m1 : Int) = (rx) := by
  simp_all

theorem leaf_nodesspec_1 (v : Bool) (z : Int) (h0 : (v) = true) : (z : Int) = (if v then z else 0) := by
  simp_all

theorem leaf_nodesspec_2 (v : Bool) (z : Int) (h0 : (v) = false) : (0 : Int) = (if v then z else 0) := by
  simp_all

theorem leaf_nodesimpl_3 (v : Bool) (z : Int) (h0 : (v) = true) : (z : Int) = (if v then z else 0) := by
  simp_all

theorem leaf_nodesimpl_4 (v : Bool) (z : Int) (h0 : (v) = false) : (0 : Int) = (if v then z else 0) := by
  simp_all

set_option maxHeartbeats 8000000 in
theorem implSize (F : Nat → Prop) (t : Tm) : ∀ (_ : t.size ≤ 6078832729528464400) (y : Value) (w : World), TmRep F w t y →
    Calls Try.prog 77 #[y] w fun e w' => e = .returned (.int .i64 (t.size)) ∧ Below w.heap.size w w' := by
  intro hbd y w hy
  have IH : ∀ t' ∈ t.kids, ∀ (_ : t'.size ≤ 6078832729528464400) (y : Value) (W : World), TmRep F W t' y → Calls Try.prog 77 #[y] W fun e W' => e = .returned (.int .i64 (t'.size)) ∧ Below W.heap.size W W' :=
    fun t' ht a y W e => implSize F t' a y W e
  obtain ⟨k, nm, u, tk, ta, tn, tq, fk, fa, fn, fq, l, c, m, q, rfl⟩ := hy.shape
  obtain ⟨r1, r2, r3, r4, r5, r6, r7, r8, r9, rn, rm, rq, hty, hsr, hks⟩ := hy.parts
  cases t with | mk kk nn uu tt ff ll ts =>
  simp only [Tm.kind, Tm.name, Tm.num, Tm.type, Tm.src, Tm.label, Tm.kids] at *
  subst r1 r2 r3 r8
  unfold Tm.size at hbd ⊢
  obtain ⟨rx, hr0⟩ : ∃ r, 1 + Tm.sizes ts = r := ⟨_, rfl⟩
  rw [hr0]
  have HT0 := Lib.hid hr0
  have HN := Lib.hid r9
  have HB := Lib.hid hbd
  have IHH := Lib.hid IH
  unfold maxLen at rq
  clear hr0 IH hy r9 r4 r5 r6 r7 rn hty hsr hbd
  obtain ⟨rr, hrr⟩ : ∃ rr0 : Int, (rx) = rr0 := ⟨_, rfl⟩
  rw [hrr]
  have HT := Lib.hid hrr
  clear hrr
  go_enter Try.func77, Try.ntmps77
  go_wp2_with fail
  go_loopw [9, 3] (fun i m1_ wr => ∃ j : Nat, j ≤ m ∧ i = .int .i64 j ∧ (∃ m1 : Int, m1_ = .int .i64 m1 ∧ (1 ≤ m1 ∧ m1 ≤ 6078832729528464400) ∧ Hid (m1 = 1 + Tm.sizes (ts.take j))) ∧ Below w.heap.size w wr) (fun i _ _ => m - (intOf i).toNat)
  case atStart => exact ⟨0, by omega, rfl, ⟨_, rfl, (by omega), (by unfold Hid; simp [Tm.sizes])⟩, bal1⟩
  case round =>
    obtain ⟨j, hj, rfl, ⟨m1, rfl, m1_0, m1_1⟩, hB⟩ := hrel
    by_cases hlt : j < m
    · have hjt : j < ts.length := by have := HN.out; omega
      obtain ⟨b, off, k0, nm0, u0, tk0, ta0, tn0, tq0, fk0, fa0, fn0, fq0, l0, a0, m0, q0, rfl, lb, e0, e1, e2, e3, e4, e5, e6, e7, e8, ht⟩ := hks.at hB hjt
      have lb_1 := Nat.lt_succ_of_lt lb
      have hp := Tm.size_pos ts[j]
      have hstep := Tm.sizes_take_succ ts j hjt
      have hle := Tm.sizes_take_le ts (j + 1)
      have hmr : m1 + ts[j].size ≤ 6078832729528464400 := by have := m1_1.out; have := HB.out; omega
      have hcall := IHH.out ts[j] (List.getElem_mem hjt) (by omega)
      generalize ts[j].size = r at hcall hp hstep hmr
      have HC := Lib.hid hcall
      have HS := Lib.hid hstep
      clear hcall hstep hle
      go_wp2_with fail
      refine (HC.out _ _ (ht.below bal1)).mono ?_
      rintro e w1 ⟨rfl, hb1⟩
      replace hB := (bstep (hB.alloc hB.size _) hb1)
      have zw1 := hB.size
      have hwr := IntWalk.i64_in (m1 + r) (by omega)
      have hwr := IntWalk.i64_in ((j : Int) + 1) (by omega)
      go_wp2_with fail
      go_roundw
      case rel => exact ⟨j + 1, by omega, by go_num, ⟨_, rfl, (by omega), (by have h1 := m1_1.out; have h2 := HS.out; unfold Hid; omega)⟩, hB⟩
      case measure => simp [intOf]; omega
    · skip
      have HMM : Hid (m1 = rx) := Lib.hid (by have := m1_1.out; rw [List.take_of_length_le (by have := HN.out; omega)] at this; have := HT0.out; omega)
      go_wp2_with fail
      refine bodyPost_ret (v := .int .i64 (m1)) (by simp [results, Try.results77, go_sem, bne]) rfl ?_
      exact ⟨ret_int ((leaf_isize_0 m1 rx HMM.out).trans HT.out), hB⟩
termination_by SizeOf.sizeOf t
decreasing_by exact Tm.kid_lt ht
set_option maxHeartbeats 1000000 in
theorem specCountNodes (F : Nat → Prop) (t : Tm) (y : Value) (w : World) (hy : TmRep F w t y) :
    Calls Try.prog 30 #[y] w fun e w' => e = .returned (.int .i64 (t.nodes)) ∧ Below w.heap.size w w' := by
  have h1 := fun W (h : Below w.heap.size w W) => specTermValid F t y W (hy.below h)
  have h2 := fun (hs : t.valid = true) W (h : Below w.heap.size w W) => specL2Count F t 14 12 (Tm.valid_shape hs) 12 (by omega) (by omega) y W (hy.below h)
  obtain ⟨k, nm, u, tk, ta, tn, tq, fk, fa, fn, fq, l, c, m, q, rfl⟩ := hy.shape
  unfold Tm.nodes
  generalize t.valid = v at *
  generalize t.size = z at *
  have H1 := Lib.hid h1
  have H2 := Lib.hid h2
  clear h1 h2 hy
  obtain ⟨rr, hrr⟩ : ∃ rr0 : Int, (if v then z else 0) = rr0 := ⟨_, rfl⟩
  rw [hrr]
  have HT := Lib.hid hrr
  clear hrr
  go_enter Try.func30, Try.ntmps30
  go_wp2_with fail
  refine (H1.out _ bal1).mono ?_
  rintro e w1 ⟨rfl, hb1⟩
  have hB := (bstep bal1 hb1)
  have zw1 := hB.size
  have c0_0 : w1.cell? ⟨w.heap.size, 0, none⟩ = some (.int .i64 k) := bcell hb1 (cell_new (by simp) 0)
  have c0_1 : w1.cell? ⟨w.heap.size, 1, none⟩ = some (.string nm) := bcell hb1 (cell_new (by simp) 1)
  have c0_2 : w1.cell? ⟨w.heap.size, 2, none⟩ = some (.int .i64 u) := bcell hb1 (cell_new (by simp) 2)
  have c0_3 : w1.cell? ⟨w.heap.size, 3, none⟩ = some (.int .i64 tk) := bcell hb1 (cell_new (by simp) 3)
  have c0_4 : w1.cell? ⟨w.heap.size, 4, none⟩ = some (.slice ta tn tq) := bcell hb1 (cell_new (by simp) 4)
  have c0_5 : w1.cell? ⟨w.heap.size, 5, none⟩ = some (.int .i64 fk) := bcell hb1 (cell_new (by simp) 5)
  have c0_6 : w1.cell? ⟨w.heap.size, 6, none⟩ = some (.slice fa fn fq) := bcell hb1 (cell_new (by simp) 6)
  have c0_7 : w1.cell? ⟨w.heap.size, 7, none⟩ = some (.int .i64 l) := bcell hb1 (cell_new (by simp) 7)
  have c0_8 : w1.cell? ⟨w.heap.size, 8, none⟩ = some (.slice c m q) := bcell hb1 (cell_new (by simp) 8)
  have d0_w1 := World.block_lt_of_cell? _ _ c0_0
  rcases Bool.eq_false_or_eq_true (v) with q1 | q1
  · (try rw [q1])
    have Hq1 := Lib.hid q1
    clear q1
    go_wp2_with fail
    refine (H2.out Hq1.out _ hB).mono ?_
    rintro e w2 ⟨rfl, hb2⟩
    replace hB := (bstep hB hb2)
    have zw2 := hB.size
    go_wp2_with fail
    refine bodyPost_ret (v := .int .i64 (z)) (by simp [results, Try.results30, go_sem, bne]) rfl ?_
    exact ⟨ret_int ((leaf_nodesspec_1 v z Hq1.out).trans HT.out), hB⟩
  · (try rw [q1])
    have Hq1 := Lib.hid q1
    clear q1
    go_wp2_with fail
    refine bodyPost_ret (v := .int .i64 (0)) (by simp [results, Try.results30, go_sem, bne]) rfl ?_
    exact ⟨ret_int ((leaf_nodesspec_2 v z Hq1.out).trans HT.out), hB⟩
set_option maxHeartbeats 1000000 in
theorem implCountNodes (F : Nat → Prop) (t : Tm) (y : Value) (w : World) (hy : TmRep F w t y) :
    Calls Try.prog 31 #[y] w fun e w' => e = .returned (.int .i64 (t.nodes)) ∧ Below w.heap.size w w' := by
  have h1 := fun W (h : Below w.heap.size w W) => implTermValid F t y W (hy.below h)
  have h2 := fun (hs : t.valid = true) W (h : Below w.heap.size w W) => implSize F t (by have := Tm.size_bd (n := 12) (Tm.valid_shape hs) (by omega); omega) y W (hy.below h)
  obtain ⟨k, nm, u, tk, ta, tn, tq, fk, fa, fn, fq, l, c, m, q, rfl⟩ := hy.shape
  unfold Tm.nodes
  generalize t.valid = v at *
  generalize t.size = z at *
  have H1 := Lib.hid h1
  have H2 := Lib.hid h2
  clear h1 h2 hy
  obtain ⟨rr, hrr⟩ : ∃ rr0 : Int, (if v then z else 0) = rr0 := ⟨_, rfl⟩
  rw [hrr]
  have HT := Lib.hid hrr
  clear hrr
  go_enter Try.func31, Try.ntmps31
  go_wp2_with fail
  refine (H1.out _ bal1).mono ?_
  rintro e w1 ⟨rfl, hb1⟩
  have hB := (bstep bal1 hb1)
  have zw1 := hB.size
  have c0_0 : w1.cell? ⟨w.heap.size, 0, none⟩ = some (.int .i64 k) := bcell hb1 (cell_new (by simp) 0)
  have c0_1 : w1.cell? ⟨w.heap.size, 1, none⟩ = some (.string nm) := bcell hb1 (cell_new (by simp) 1)
  have c0_2 : w1.cell? ⟨w.heap.size, 2, none⟩ = some (.int .i64 u) := bcell hb1 (cell_new (by simp) 2)
  have c0_3 : w1.cell? ⟨w.heap.size, 3, none⟩ = some (.int .i64 tk) := bcell hb1 (cell_new (by simp) 3)
  have c0_4 : w1.cell? ⟨w.heap.size, 4, none⟩ = some (.slice ta tn tq) := bcell hb1 (cell_new (by simp) 4)
  have c0_5 : w1.cell? ⟨w.heap.size, 5, none⟩ = some (.int .i64 fk) := bcell hb1 (cell_new (by simp) 5)
  have c0_6 : w1.cell? ⟨w.heap.size, 6, none⟩ = some (.slice fa fn fq) := bcell hb1 (cell_new (by simp) 6)
  have c0_7 : w1.cell? ⟨w.heap.size, 7, none⟩ = some (.int .i64 l) := bcell hb1 (cell_new (by simp) 7)
  have c0_8 : w1.cell? ⟨w.heap.size, 8, none⟩ = some (.slice c m q) := bcell hb1 (cell_new (by simp) 8)
  have d0_w1 := World.block_lt_of_cell? _ _ c0_0
  rcases Bool.eq_false_or_eq_true (v) with q1 | q1
  · (try rw [q1])
    have Hq1 := Lib.hid q1
    clear q1
    go_wp2_with fail
    refine (H2.out Hq1.out _ hB).mono ?_
    rintro e w2 ⟨rfl, hb2⟩
    replace hB := (bstep hB hb2)
    have zw2 := hB.size
    go_wp2_with fail
    refine bodyPost_ret (v := .int .i64 (z)) (by simp [results, Try.results31, go_sem, bne]) rfl ?_
    exact ⟨ret_int ((leaf_nodesimpl_3 v z Hq1.out).trans HT.out), hB⟩
  · (try rw [q1])
    have Hq1 := Lib.hid q1
    clear q1
    go_wp2_with fail
    refine bodyPost_ret (v := .int .i64 (0)) (by simp [results, Try.results31, go_sem, bne]) rfl ?_
    exact ⟨ret_int ((leaf_nodesimpl_4 v z Hq1.out).trans HT.out), hB⟩
end Go.Proofs.Ytghgjpcibdfbmaa
