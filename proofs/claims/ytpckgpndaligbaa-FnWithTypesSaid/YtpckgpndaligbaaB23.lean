/-
  The shape of a term, by the reference.
  The number of nodes of a term, by the reference.
  TermValid and CastValid of the reference.
-/
import Derived.Test.YtpckgpndaligbaaB14
import Derived.Test.YtpckgpndaligbaaTmShape2
namespace Go.Proofs.Ytpckgpndaligbaa
open Go.RowKit
set_option linter.unusedVariables false
set_option linter.unusedSimpArgs false
set_option maxRecDepth 100000


end Go.Proofs.Ytpckgpndaligbaa
namespace Go.Proofs.Ytpckgpndaligbaa
open Go.RowKit
set_option linter.unusedVariables false
set_option linter.unusedSimpArgs false
set_option maxRecDepth 100000

theorem leaf_count_0 (m1 rx : Int) (h0 : m1 = rx) : (m1 : Int) = (rx) := by
  simp_all

set_option maxHeartbeats 8000000 in
theorem specL2Count (F : Nat → Prop) (t : Tm) : ∀ (nt : Int) (n : Nat) (_ : t.shape nt n = true) (d : Int) (_ : (n : Int) ≤ d) (_ : d ≤ 40) (y : Value) (w : World), TmRep F w t y →
    Calls Try.prog 44 #[y, .int .i64 d] w fun e w' => e = .returned (.int .i64 (t.size)) ∧ Below w.heap.size w w' := by
  intro nt n hsh d hd0 hd5 y w hy
  have IH : ∀ t' ∈ t.kids, ∀ (nt : Int) (n : Nat) (_ : t'.shape nt n = true) (d : Int) (_ : (n : Int) ≤ d) (_ : d ≤ 40) (y : Value) (W : World), TmRep F W t' y → Calls Try.prog 44 #[y, .int .i64 d] W fun e W' => e = .returned (.int .i64 (t'.size)) ∧ Below W.heap.size W W' :=
    fun t' ht nt n a d b c y W e => specL2Count F t' nt n a d b c y W e
  have hbd := Tm.size_bd hsh (by omega)
  obtain ⟨k, nm, u, tk, ta, tn, tq, fk, fa, fn, fq, l, c, m, q, rfl⟩ := hy.shape
  obtain ⟨r1, r2, r3, r4, r5, r6, r7, r8, r9, rn, rm, rq, hty, hsr, hks⟩ := hy.parts
  cases t with | mk kk nn uu tt ff ll ts =>
  simp only [Tm.kind, Tm.name, Tm.num, Tm.type, Tm.src, Tm.label, Tm.kids] at *
  subst r1 r2 r3 r8
  obtain ⟨s1, -, -, -, s5⟩ := Tm.shape_parts hsh
  obtain ⟨dd, rfl⟩ : ∃ x, n = x + 1 := ⟨n - 1, by omega⟩
  rw [show ((dd + 1 : Nat) : Int) - 1 = (dd : Int) from by omega] at s5
  unfold Tm.size at hbd ⊢
  have hd1 : 0 < d := by omega
  have hdd : (dd : Int) ≤ d - 1 := by omega
  have hd : decide (d > 0) = true := by simpa using hd1
  obtain ⟨rx, hr0⟩ : ∃ r, 1 + Tm.sizes ts = r := ⟨_, rfl⟩
  rw [hr0]
  have HT0 := Lib.hid hr0
  have HN := Lib.hid r9
  have HB := Lib.hid hbd
  have HSH := Lib.hid s5
  have IHH := Lib.hid IH
  unfold maxLen at rq
  clear hr0 IH hy r9 r4 r5 r6 r7 rn hty hsr hbd s5 hsh hd0
  obtain ⟨rr, hrr⟩ : ∃ rr0 : Int, (rx) = rr0 := ⟨_, rfl⟩
  rw [hrr]
  have HT := Lib.hid hrr
  clear hrr
  go_enter Try.func44, Try.ntmps44
  go_wp2_with fail
  go_loopw [6, 5] (fun i m1_ wr => ∃ j : Nat, j ≤ m ∧ i = .int .i64 j ∧ (∃ m1 : Int, m1_ = .int .i64 m1 ∧ (1 ≤ m1 ∧ m1 ≤ 6078832729528464400) ∧ Hid (m1 = 1 + Tm.sizes (ts.take j))) ∧ Below w.heap.size w wr ∧ wr.cell? ⟨w.heap.size, 8, none⟩ = some (.slice c m q)) (fun i _ _ => m - (intOf i).toNat)
  case atStart => exact ⟨0, by omega, rfl, ⟨_, rfl, (by omega), (by unfold Hid; simp [Tm.sizes])⟩, bal1, cell_new (by simp) 8⟩
  case round =>
    obtain ⟨j, hj, rfl, ⟨m1, rfl, m1_0, m1_1⟩, hB, x0⟩ := hrel
    have lx1 := World.block_lt_of_cell? _ _ x0
    by_cases hlt : j < m
    · have hjt : j < ts.length := by have := HN.out; omega
      obtain ⟨b, off, k0, nm0, u0, tk0, ta0, tn0, tq0, fk0, fa0, fn0, fq0, l0, a0, m0, q0, rfl, lb, e0, e1, e2, e3, e4, e5, e6, e7, e8, ht⟩ := hks.at hB hjt
      have hshj : ts[j].shape nt dd = true := Tm.shapes_mem HSH.out (List.getElem_mem hjt)
      have hcall := IHH.out ts[j] (List.getElem_mem hjt) nt dd hshj (d - 1)
      have hp := Tm.size_pos ts[j]
      have hstep := Tm.sizes_take_succ ts j hjt
      have hle := Tm.sizes_take_le ts (j + 1)
      have hmr : m1 + ts[j].size ≤ 6078832729528464400 := by have := m1_1.out; have := HB.out; omega
      generalize ts[j].size = r at hcall hp hstep hmr
      have HC := Lib.hid hcall
      have HS := Lib.hid hstep
      clear hcall hstep hshj hle
      have hwr := IntWalk.i64_in (d - 1) (by omega)
      go_wp2_with fail
      refine (HC.out (by omega) (by omega) _ _ ht).mono ?_
      rintro e w1 ⟨rfl, hb1⟩
      replace hB := (bstep hB hb1)
      have zw1 := hB.size
      replace x0 : w1.cell? ⟨w.heap.size, 8, none⟩ = some (.slice (some ⟨b, off, none⟩) m q) := bcell hb1 (x0)
      have d0_w1 := World.block_lt_of_cell? _ _ x0
      have hwr := IntWalk.i64_in (m1 + r) (by omega)
      have hwr := IntWalk.i64_in ((j : Int) + 1) (by omega)
      go_wp2_with fail
      go_roundw
      case rel => exact ⟨j + 1, by omega, by go_num, ⟨_, rfl, (by omega), (by have h1 := m1_1.out; have h2 := HS.out; unfold Hid; omega)⟩, hB, x0⟩
      case measure => simp [intOf]; omega
    · skip
      have HMM : Hid (m1 = rx) := Lib.hid (by have := m1_1.out; rw [List.take_of_length_le (by have := HN.out; omega)] at this; have := HT0.out; omega)
      go_wp2_with fail
      refine bodyPost_ret (v := .int .i64 (m1)) (by simp [results, Try.results44, go_sem, bne]) rfl ?_
      exact ⟨ret_int ((leaf_count_0 m1 rx HMM.out).trans HT.out), hB⟩
termination_by SizeOf.sizeOf t
decreasing_by exact Tm.kid_lt ht
end Go.Proofs.Ytpckgpndaligbaa
namespace Go.Proofs.Ytpckgpndaligbaa
open Go.RowKit
set_option linter.unusedVariables false
set_option linter.unusedSimpArgs false
set_option maxRecDepth 100000

theorem leaf_sv12_0 (s : Bool) (z : Int) (h0 : (s) = true) : (decide (z ≤ 30) : Bool) = (s && decide (z ≤ 30)) := by
  simp_all

theorem leaf_sv12_1 (s : Bool) (z : Int) (h0 : (s) = false) : (false : Bool) = (s && decide (z ≤ 30)) := by
  simp_all

set_option maxHeartbeats 1000000 in
theorem specTermValid (F : Nat → Prop) (t : Tm) (y : Value) (w : World) (hy : TmRep F w t y) :
    Calls Try.prog 24 #[y] w fun e w' => e = .returned (.bool (t.valid)) ∧ Below w.heap.size w w' := by
  have h1 := fun W (h : Below w.heap.size w W) => specL2Shape F t 12 y W (hy.below h) (by omega) (by omega)
  have h2 := fun (hs : t.shape 14 12 = true) W (h : Below w.heap.size w W) => specL2Count F t 14 12 hs 12 (by omega) (by omega) y W (hy.below h)
  obtain ⟨k, nm, u, tk, ta, tn, tq, fk, fa, fn, fq, l, c, m, q, rfl⟩ := hy.shape
  unfold Tm.valid
  generalize t.shape 14 12 = s at *
  generalize t.size = z at *
  have H1 := Lib.hid h1
  have H2 := Lib.hid h2
  clear h1 h2 hy
  obtain ⟨rr, hrr⟩ : ∃ rr0 : Bool, (s && decide (z ≤ 30)) = rr0 := ⟨_, rfl⟩
  rw [hrr]
  have HT := Lib.hid hrr
  clear hrr
  go_enter Try.func24, Try.ntmps24
  rcases Bool.eq_false_or_eq_true (s) with q1 | q1
  · have Hq1 := Lib.hid q1
    clear q1
    go_wp2_with fail
    refine (H1.out _ bal1).mono ?_
    rintro e w1 ⟨rfl, hb1⟩
    rw [Hq1.out]
    have hB := (bstep bal1 hb1)
    have zw1 := hB.size
    have c0_0 : w1.cell? ⟨w.heap.size, 0, none⟩ = some (.int .i64 k) := bcell hb1 (cell_new (by simp) 0)
    have c0_1 : w1.cell? ⟨w.heap.size, 1, none⟩ = some (.string nm) := bcell hb1 (cell_new (by simp) 1)
    have c0_2 : w1.cell? ⟨w.heap.size, 2, none⟩ = some (.int .i64 u) := bcell hb1 (cell_new (by simp) 2)
    have c0_3 : w1.cell? ⟨w.heap.size, 3, none⟩ = some (.int .i64 tk) := bcell hb1 (cell_new (by simp) 3)
    have c0_4 : w1.cell? ⟨w.heap.size, 4, none⟩ = some (.slice ta tn tq) := bcell hb1 (cell_new (by simp) 4)
    have c0_5 : w1.cell? ⟨w.heap.size, 5, none⟩ = some (.int .i64 fk) := bcell hb1 (cell_new (by simp) 5)
    have c0_6 : w1.cell? ⟨w.heap.size, 6, none⟩ = some (.slice fa fn fq) := bcell hb1 (cell_new (by simp) 6)
    have c0_7 : w1.cell? ⟨w.heap.size, 7, none⟩ = some (.int .i64 l) := bcell hb1 (cell_new (by simp) 7)
    have c0_8 : w1.cell? ⟨w.heap.size, 8, none⟩ = some (.slice c m q) := bcell hb1 (cell_new (by simp) 8)
    have d0_w1 := World.block_lt_of_cell? _ _ c0_0
    go_wp2_with fail
    refine (H2.out Hq1.out _ hB).mono ?_
    rintro e w2 ⟨rfl, hb2⟩
    replace hB := (bstep hB hb2)
    have zw2 := hB.size
    go_wp2_with fail
    refine bodyPost_ret (v := .bool (decide (z ≤ 30))) (by simp [results, Try.results24, go_sem, bne]) rfl ?_
    exact ⟨ret_bool ((leaf_sv12_0 s z Hq1.out).trans HT.out), hB⟩
  · have Hq1 := Lib.hid q1
    clear q1
    go_wp2_with fail
    refine (H1.out _ bal1).mono ?_
    rintro e w3 ⟨rfl, hb3⟩
    rw [Hq1.out]
    have hB := (bstep bal1 hb3)
    have zw3 := hB.size
    go_wp2_with fail
    refine bodyPost_ret (v := .bool (false)) (by simp [results, Try.results24, go_sem, bne]) rfl ?_
    exact ⟨ret_bool ((leaf_sv12_1 s z Hq1.out).trans HT.out), hB⟩
end Go.Proofs.Ytpckgpndaligbaa
