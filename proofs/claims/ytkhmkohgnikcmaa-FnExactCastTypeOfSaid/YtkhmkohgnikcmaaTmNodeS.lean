/-
  The check of a node of a term: kinds 1, 2, 5, 13, k.
-/
import Derived.Test.YtkhmkohgnikcmaaB10
namespace Go.Proofs.Ytkhmkohgnikcmaa
open Go.RowKit
set_option linter.unusedVariables false
set_option linter.unusedSimpArgs false
set_option maxRecDepth 100000

theorem leaf_specL2Own1_0 (u l : Int) (nm : ByteArray) (tv n1 n2 cv : Bool) (h0 : (nameB nm) = true) (h1 : (n1) = true) (h2 : (n2) = true) (h3 : (l == 0) = true) (h4 : (nm.toList == []) = true → nameB nm = false) (h5 : (u == 0) = winB u 0 0) : (u == 0 : Bool) = (ownB 1 u l nm tv n1 n2 cv) := by
  simp only [winB] at *; first | (simp_all [ownB, winB]; done) | grind [ownB, winB]

theorem leaf_specL2Own1_1 (u l : Int) (nm : ByteArray) (tv n1 n2 cv : Bool) (h0 : (nameB nm) = true) (h1 : (n1) = true) (h2 : (n2) = true) (h3 : (l == 0) = false) (h4 : (nm.toList == []) = true → nameB nm = false) (h5 : (u == 0) = winB u 0 0) : (false : Bool) = (ownB 1 u l nm tv n1 n2 cv) := by
  simp only [winB] at *; first | (simp_all [ownB, winB]; done) | grind [ownB, winB]

theorem leaf_specL2Own1_2 (u l : Int) (nm : ByteArray) (tv n1 n2 cv : Bool) (h0 : (nameB nm) = true) (h1 : (n1) = true) (h2 : (n2) = false) (h3 : (nm.toList == []) = true → nameB nm = false) (h4 : (u == 0) = winB u 0 0) : (false : Bool) = (ownB 1 u l nm tv n1 n2 cv) := by
  simp only [winB] at *; first | (simp_all [ownB, winB]; done) | grind [ownB, winB]

theorem leaf_specL2Own1_3 (u l : Int) (nm : ByteArray) (tv n1 n2 cv : Bool) (h0 : (nameB nm) = true) (h1 : (n1) = false) (h2 : (nm.toList == []) = true → nameB nm = false) (h3 : (u == 0) = winB u 0 0) : (false : Bool) = (ownB 1 u l nm tv n1 n2 cv) := by
  simp only [winB] at *; first | (simp_all [ownB, winB]; done) | grind [ownB, winB]

theorem leaf_specL2Own1_4 (u l : Int) (nm : ByteArray) (tv n1 n2 cv : Bool) (h0 : (nameB nm) = false) (h1 : (nm.toList == []) = true → nameB nm = false) (h2 : (u == 0) = winB u 0 0) : (false : Bool) = (ownB 1 u l nm tv n1 n2 cv) := by
  simp only [winB] at *; first | (simp_all [ownB, winB]; done) | grind [ownB, winB]

theorem leaf_specL2Own2_5 (u l : Int) (nm : ByteArray) (tv n1 n2 cv : Bool) (h0 : (nameB nm) = true) (h1 : (nm.toList == []) = true → nameB nm = false) (h2 : (u == 0) = winB u 0 0) : (false : Bool) = (ownB 2 u l nm tv n1 n2 cv) := by
  simp only [winB] at *; first | (simp_all [ownB, winB]; done) | grind [ownB, winB]

theorem leaf_specL2Own2_6 (u l : Int) (nm : ByteArray) (tv n1 n2 cv : Bool) (h0 : (nameB nm) = false) (h1 : (nm.toList == []) = true) (h2 : (n1) = true) (h3 : (n2) = true) (h4 : (l == 0) = true) (h5 : (decide (u ≥ 0)) = true) (h6 : (nm.toList == []) = true → nameB nm = false) (h7 : (u == 0) = winB u 0 0) : (decide (u ≤ 999) : Bool) = (ownB 2 u l nm tv n1 n2 cv) := by
  simp only [winB] at *; first | (simp_all [ownB, winB]; done) | grind [ownB, winB]

theorem leaf_specL2Own2_7 (u l : Int) (nm : ByteArray) (tv n1 n2 cv : Bool) (h0 : (nameB nm) = false) (h1 : (nm.toList == []) = true) (h2 : (n1) = true) (h3 : (n2) = true) (h4 : (l == 0) = true) (h5 : (decide (u ≥ 0)) = false) (h6 : (nm.toList == []) = true → nameB nm = false) (h7 : (u == 0) = winB u 0 0) : (false : Bool) = (ownB 2 u l nm tv n1 n2 cv) := by
  simp only [winB] at *; first | (simp_all [ownB, winB]; done) | grind [ownB, winB]

theorem leaf_specL2Own2_8 (u l : Int) (nm : ByteArray) (tv n1 n2 cv : Bool) (h0 : (nameB nm) = false) (h1 : (nm.toList == []) = true) (h2 : (n1) = true) (h3 : (n2) = true) (h4 : (l == 0) = false) (h5 : (nm.toList == []) = true → nameB nm = false) (h6 : (u == 0) = winB u 0 0) : (false : Bool) = (ownB 2 u l nm tv n1 n2 cv) := by
  simp only [winB] at *; first | (simp_all [ownB, winB]; done) | grind [ownB, winB]

theorem leaf_specL2Own2_9 (u l : Int) (nm : ByteArray) (tv n1 n2 cv : Bool) (h0 : (nameB nm) = false) (h1 : (nm.toList == []) = true) (h2 : (n1) = true) (h3 : (n2) = false) (h4 : (nm.toList == []) = true → nameB nm = false) (h5 : (u == 0) = winB u 0 0) : (false : Bool) = (ownB 2 u l nm tv n1 n2 cv) := by
  simp only [winB] at *; first | (simp_all [ownB, winB]; done) | grind [ownB, winB]

theorem leaf_specL2Own2_10 (u l : Int) (nm : ByteArray) (tv n1 n2 cv : Bool) (h0 : (nameB nm) = false) (h1 : (nm.toList == []) = true) (h2 : (n1) = false) (h3 : (nm.toList == []) = true → nameB nm = false) (h4 : (u == 0) = winB u 0 0) : (false : Bool) = (ownB 2 u l nm tv n1 n2 cv) := by
  simp only [winB] at *; first | (simp_all [ownB, winB]; done) | grind [ownB, winB]

theorem leaf_specL2Own2_11 (u l : Int) (nm : ByteArray) (tv n1 n2 cv : Bool) (h0 : (nameB nm) = false) (h1 : (nm.toList == []) = false) (h2 : (nm.toList == []) = true → nameB nm = false) (h3 : (u == 0) = winB u 0 0) : (false : Bool) = (ownB 2 u l nm tv n1 n2 cv) := by
  simp only [winB] at *; first | (simp_all [ownB, winB]; done) | grind [ownB, winB]

theorem leaf_specL2Own5_12 (u l : Int) (nm : ByteArray) (tv n1 n2 cv : Bool) (h0 : (nameB nm) = true) (h1 : (tv) = true) (h2 : (n2) = true) (h3 : (l == 0) = true) (h4 : (nm.toList == []) = true → nameB nm = false) (h5 : (u == 0) = winB u 0 0) : (u == 0 : Bool) = (ownB 5 u l nm tv n1 n2 cv) := by
  simp only [winB] at *; first | (simp_all [ownB, winB]; done) | grind [ownB, winB]

theorem leaf_specL2Own5_13 (u l : Int) (nm : ByteArray) (tv n1 n2 cv : Bool) (h0 : (nameB nm) = true) (h1 : (tv) = true) (h2 : (n2) = true) (h3 : (l == 0) = false) (h4 : (nm.toList == []) = true → nameB nm = false) (h5 : (u == 0) = winB u 0 0) : (false : Bool) = (ownB 5 u l nm tv n1 n2 cv) := by
  simp only [winB] at *; first | (simp_all [ownB, winB]; done) | grind [ownB, winB]

theorem leaf_specL2Own5_14 (u l : Int) (nm : ByteArray) (tv n1 n2 cv : Bool) (h0 : (nameB nm) = true) (h1 : (tv) = true) (h2 : (n2) = false) (h3 : (nm.toList == []) = true → nameB nm = false) (h4 : (u == 0) = winB u 0 0) : (false : Bool) = (ownB 5 u l nm tv n1 n2 cv) := by
  simp only [winB] at *; first | (simp_all [ownB, winB]; done) | grind [ownB, winB]

theorem leaf_specL2Own5_15 (u l : Int) (nm : ByteArray) (tv n1 n2 cv : Bool) (h0 : (nameB nm) = true) (h1 : (tv) = false) (h2 : (nm.toList == []) = true → nameB nm = false) (h3 : (u == 0) = winB u 0 0) : (false : Bool) = (ownB 5 u l nm tv n1 n2 cv) := by
  simp only [winB] at *; first | (simp_all [ownB, winB]; done) | grind [ownB, winB]

theorem leaf_specL2Own5_16 (u l : Int) (nm : ByteArray) (tv n1 n2 cv : Bool) (h0 : (nameB nm) = false) (h1 : (nm.toList == []) = true → nameB nm = false) (h2 : (u == 0) = winB u 0 0) : (false : Bool) = (ownB 5 u l nm tv n1 n2 cv) := by
  simp only [winB] at *; first | (simp_all [ownB, winB]; done) | grind [ownB, winB]

theorem leaf_specL2Own13_17 (u l : Int) (nm : ByteArray) (tv n1 n2 cv : Bool) (h0 : (nameB nm) = true) (h1 : (nm.toList == []) = true → nameB nm = false) (h2 : (u == 0) = winB u 0 0) : (false : Bool) = (ownB 13 u l nm tv n1 n2 cv) := by
  simp only [winB] at *; first | (simp_all [ownB, winB]; done) | grind [ownB, winB]

theorem leaf_specL2Own13_18 (u l : Int) (nm : ByteArray) (tv n1 n2 cv : Bool) (h0 : (nameB nm) = false) (h1 : (nm.toList == []) = true) (h2 : (tv) = true) (h3 : (n2) = true) (h4 : (l == 0) = true) (h5 : (nm.toList == []) = true → nameB nm = false) (h6 : (u == 0) = winB u 0 0) : (u == 0 : Bool) = (ownB 13 u l nm tv n1 n2 cv) := by
  simp only [winB] at *; first | (simp_all [ownB, winB]; done) | grind [ownB, winB]

theorem leaf_specL2Own13_19 (u l : Int) (nm : ByteArray) (tv n1 n2 cv : Bool) (h0 : (nameB nm) = false) (h1 : (nm.toList == []) = true) (h2 : (tv) = true) (h3 : (n2) = true) (h4 : (l == 0) = false) (h5 : (nm.toList == []) = true → nameB nm = false) (h6 : (u == 0) = winB u 0 0) : (false : Bool) = (ownB 13 u l nm tv n1 n2 cv) := by
  simp only [winB] at *; first | (simp_all [ownB, winB]; done) | grind [ownB, winB]

theorem leaf_specL2Own13_20 (u l : Int) (nm : ByteArray) (tv n1 n2 cv : Bool) (h0 : (nameB nm) = false) (h1 : (nm.toList == []) = true) (h2 : (tv) = true) (h3 : (n2) = false) (h4 : (nm.toList == []) = true → nameB nm = false) (h5 : (u == 0) = winB u 0 0) : (false : Bool) = (ownB 13 u l nm tv n1 n2 cv) := by
  simp only [winB] at *; first | (simp_all [ownB, winB]; done) | grind [ownB, winB]

theorem leaf_specL2Own13_21 (u l : Int) (nm : ByteArray) (tv n1 n2 cv : Bool) (h0 : (nameB nm) = false) (h1 : (nm.toList == []) = true) (h2 : (tv) = false) (h3 : (nm.toList == []) = true → nameB nm = false) (h4 : (u == 0) = winB u 0 0) : (false : Bool) = (ownB 13 u l nm tv n1 n2 cv) := by
  simp only [winB] at *; first | (simp_all [ownB, winB]; done) | grind [ownB, winB]

theorem leaf_specL2Own13_22 (u l : Int) (nm : ByteArray) (tv n1 n2 cv : Bool) (h0 : (nameB nm) = false) (h1 : (nm.toList == []) = false) (h2 : (nm.toList == []) = true → nameB nm = false) (h3 : (u == 0) = winB u 0 0) : (false : Bool) = (ownB 13 u l nm tv n1 n2 cv) := by
  simp only [winB] at *; first | (simp_all [ownB, winB]; done) | grind [ownB, winB]

theorem leaf_specL2Ownk_23 (k u l : Int) (nm : ByteArray) (tv n1 n2 cv : Bool) (h0 : (k == 1) = false) (h1 : (k == 5) = false) (h2 : (k == 13) = false) (h3 : (k == 14) = false) (h4 : (k == 2) = false) (h5 : (nameB nm) = true) (h6 : (nm.toList == []) = true → nameB nm = false) (h7 : (u == 0) = winB u 0 0) : (false : Bool) = (ownB k u l nm tv n1 n2 cv) := by
  simp only [winB] at *; first | (simp_all [ownB, winB]; done) | grind [ownB, winB]

theorem leaf_specL2Ownk_24 (k u l : Int) (nm : ByteArray) (tv n1 n2 cv : Bool) (h0 : (k == 1) = false) (h1 : (k == 5) = false) (h2 : (k == 13) = false) (h3 : (k == 14) = false) (h4 : (k == 2) = false) (h5 : (nameB nm) = false) (h6 : (nm.toList == []) = true) (h7 : (n1) = true) (h8 : (n2) = true) (h9 : (l == 0) = true) (h10 : (nm.toList == []) = true → nameB nm = false) (h11 : (u == 0) = winB u 0 0) : (u == 0 : Bool) = (ownB k u l nm tv n1 n2 cv) := by
  simp only [winB] at *; first | (simp_all [ownB, winB]; done) | grind [ownB, winB]

theorem leaf_specL2Ownk_25 (k u l : Int) (nm : ByteArray) (tv n1 n2 cv : Bool) (h0 : (k == 1) = false) (h1 : (k == 5) = false) (h2 : (k == 13) = false) (h3 : (k == 14) = false) (h4 : (k == 2) = false) (h5 : (nameB nm) = false) (h6 : (nm.toList == []) = true) (h7 : (n1) = true) (h8 : (n2) = true) (h9 : (l == 0) = false) (h10 : (nm.toList == []) = true → nameB nm = false) (h11 : (u == 0) = winB u 0 0) : (false : Bool) = (ownB k u l nm tv n1 n2 cv) := by
  simp only [winB] at *; first | (simp_all [ownB, winB]; done) | grind [ownB, winB]

theorem leaf_specL2Ownk_26 (k u l : Int) (nm : ByteArray) (tv n1 n2 cv : Bool) (h0 : (k == 1) = false) (h1 : (k == 5) = false) (h2 : (k == 13) = false) (h3 : (k == 14) = false) (h4 : (k == 2) = false) (h5 : (nameB nm) = false) (h6 : (nm.toList == []) = true) (h7 : (n1) = true) (h8 : (n2) = false) (h9 : (nm.toList == []) = true → nameB nm = false) (h10 : (u == 0) = winB u 0 0) : (false : Bool) = (ownB k u l nm tv n1 n2 cv) := by
  simp only [winB] at *; first | (simp_all [ownB, winB]; done) | grind [ownB, winB]

theorem leaf_specL2Ownk_27 (k u l : Int) (nm : ByteArray) (tv n1 n2 cv : Bool) (h0 : (k == 1) = false) (h1 : (k == 5) = false) (h2 : (k == 13) = false) (h3 : (k == 14) = false) (h4 : (k == 2) = false) (h5 : (nameB nm) = false) (h6 : (nm.toList == []) = true) (h7 : (n1) = false) (h8 : (nm.toList == []) = true → nameB nm = false) (h9 : (u == 0) = winB u 0 0) : (false : Bool) = (ownB k u l nm tv n1 n2 cv) := by
  simp only [winB] at *; first | (simp_all [ownB, winB]; done) | grind [ownB, winB]

theorem leaf_specL2Ownk_28 (k u l : Int) (nm : ByteArray) (tv n1 n2 cv : Bool) (h0 : (k == 1) = false) (h1 : (k == 5) = false) (h2 : (k == 13) = false) (h3 : (k == 14) = false) (h4 : (k == 2) = false) (h5 : (nameB nm) = false) (h6 : (nm.toList == []) = false) (h7 : (nm.toList == []) = true → nameB nm = false) (h8 : (u == 0) = winB u 0 0) : (false : Bool) = (ownB k u l nm tv n1 n2 cv) := by
  simp only [winB] at *; first | (simp_all [ownB, winB]; done) | grind [ownB, winB]

set_option maxHeartbeats 4000000 in
theorem specL2Own_1 (u tk fk l : Int) (nm : ByteArray) (ta fa c : Option Addr) (tn tq fn fq m q : Nat) (w : World) (tv n1 n2 cv : Bool) (H1 : Hid (∀ W, Below w.heap.size w W → Calls Try.prog 50 #[.agg #[.int .i64 tk, .slice ta tn tq]] W fun e W' => e = .returned (.bool (tv)) ∧ Below W.heap.size W W')) (H2 : Hid (∀ W, Below w.heap.size w W → Calls Try.prog 64 #[.agg #[.int .i64 tk, .slice ta tn tq]] W fun e W' => e = .returned (.bool (n1)) ∧ Below W.heap.size W W')) (H4 : Hid (∀ W, Below w.heap.size w W → Calls Try.prog 64 #[.agg #[.int .i64 fk, .slice fa fn fq]] W fun e W' => e = .returned (.bool (n2)) ∧ Below W.heap.size W W')) :
    Calls Try.prog 44 #[.agg #[.int .i64 1, .string nm, .int .i64 u, .int .i64 tk, .slice ta tn tq, .int .i64 fk, .slice fa fn fq, .int .i64 l, .slice c m q]] w fun e w' => e = .returned (.bool (ownB 1 u l nm tv n1 n2 cv)) ∧ Below w.heap.size w w' := by
  obtain ⟨rr, hrr⟩ : ∃ rr0 : Bool, (ownB 1 u l nm tv n1 n2 cv) = rr0 := ⟨_, rfl⟩
  rw [hrr]
  have HT := Lib.hid hrr
  clear hrr
  go_enter Try.func44, Try.ntmps44
  rcases Bool.eq_false_or_eq_true (nameB nm) with q1 | q1
  · have Hq1 := Lib.hid q1
    clear q1
    go_wp2_with fail
    refine (specL2NameB nm _).mono ?_
    rintro e w1 ⟨rfl, hb1⟩
    rw [Hq1.out]
    have hB := (bstep bal1 hb1)
    have zw1 := hB.size
    have c0_3 : w1.cell? ⟨w.heap.size, 3, none⟩ = some (.int .i64 tk) := bcell hb1 (cell_new (by simp) 3)
    have c0_4 : w1.cell? ⟨w.heap.size, 4, none⟩ = some (.slice ta tn tq) := bcell hb1 (cell_new (by simp) 4)
    have c0_0 : w1.cell? ⟨w.heap.size, 0, none⟩ = some (.int .i64 1) := bcell hb1 (cell_new (by simp) 0)
    have c0_5 : w1.cell? ⟨w.heap.size, 5, none⟩ = some (.int .i64 fk) := bcell hb1 (cell_new (by simp) 5)
    have c0_6 : w1.cell? ⟨w.heap.size, 6, none⟩ = some (.slice fa fn fq) := bcell hb1 (cell_new (by simp) 6)
    have c0_7 : w1.cell? ⟨w.heap.size, 7, none⟩ = some (.int .i64 l) := bcell hb1 (cell_new (by simp) 7)
    have c0_2 : w1.cell? ⟨w.heap.size, 2, none⟩ = some (.int .i64 u) := bcell hb1 (cell_new (by simp) 2)
    have d0_w1 := World.block_lt_of_cell? _ _ c0_3
    go_wp2_with fail
    refine (H2.out _ hB).mono ?_
    rintro e w2 ⟨rfl, hb2⟩
    replace hB := (bstep hB hb2)
    have zw2 := hB.size
    replace c0_0 : w2.cell? ⟨w.heap.size, 0, none⟩ = some (.int .i64 1) := bcell hb2 (c0_0)
    replace c0_5 : w2.cell? ⟨w.heap.size, 5, none⟩ = some (.int .i64 fk) := bcell hb2 (c0_5)
    replace c0_6 : w2.cell? ⟨w.heap.size, 6, none⟩ = some (.slice fa fn fq) := bcell hb2 (c0_6)
    replace c0_7 : w2.cell? ⟨w.heap.size, 7, none⟩ = some (.int .i64 l) := bcell hb2 (c0_7)
    replace c0_2 : w2.cell? ⟨w.heap.size, 2, none⟩ = some (.int .i64 u) := bcell hb2 (c0_2)
    have d0_w2 := World.block_lt_of_cell? _ _ c0_0
    rcases Bool.eq_false_or_eq_true (n1) with q2 | q2
    · (try rw [q2])
      have Hq2 := Lib.hid q2
      clear q2
      rcases Bool.eq_false_or_eq_true (n2) with q3 | q3
      · have Hq3 := Lib.hid q3
        clear q3
        go_wp2_with fail
        refine (H4.out _ hB).mono ?_
        rintro e w3 ⟨rfl, hb3⟩
        rw [Hq3.out]
        replace hB := (bstep hB hb3)
        have zw3 := hB.size
        replace c0_7 : w3.cell? ⟨w.heap.size, 7, none⟩ = some (.int .i64 l) := bcell hb3 (c0_7)
        replace c0_0 : w3.cell? ⟨w.heap.size, 0, none⟩ = some (.int .i64 1) := bcell hb3 (c0_0)
        replace c0_2 : w3.cell? ⟨w.heap.size, 2, none⟩ = some (.int .i64 u) := bcell hb3 (c0_2)
        have d0_w3 := World.block_lt_of_cell? _ _ c0_7
        rcases Bool.eq_false_or_eq_true (l == 0) with q4 | q4
        · (try rw [q4])
          have nq4 : (l != 0) = false := by simp only [bne, q4]; rfl
          go_wp2_with fail
          refine bodyPost_ret (v := .bool (u == 0)) (by simp [results, Try.results44, go_sem, bne]) rfl ?_
          exact ⟨ret_bool ((leaf_specL2Own1_0 u l nm tv n1 n2 cv Hq1.out Hq2.out Hq3.out q4 nameB_nil (win0 u)).trans HT.out), hB⟩
        · (try rw [q4])
          have nq4 : (l != 0) = true := by simp only [bne, q4]; rfl
          go_wp2_with fail
          refine bodyPost_ret (v := .bool (false)) (by simp [results, Try.results44, go_sem, bne]) rfl ?_
          exact ⟨ret_bool ((leaf_specL2Own1_1 u l nm tv n1 n2 cv Hq1.out Hq2.out Hq3.out q4 nameB_nil (win0 u)).trans HT.out), hB⟩
      · have Hq3 := Lib.hid q3
        clear q3
        go_wp2_with fail
        refine (H4.out _ hB).mono ?_
        rintro e w4 ⟨rfl, hb4⟩
        rw [Hq3.out]
        replace hB := (bstep hB hb4)
        have zw4 := hB.size
        go_wp2_with fail
        refine bodyPost_ret (v := .bool (false)) (by simp [results, Try.results44, go_sem, bne]) rfl ?_
        exact ⟨ret_bool ((leaf_specL2Own1_2 u l nm tv n1 n2 cv Hq1.out Hq2.out Hq3.out nameB_nil (win0 u)).trans HT.out), hB⟩
    · (try rw [q2])
      have Hq2 := Lib.hid q2
      clear q2
      go_wp2_with fail
      refine bodyPost_ret (v := .bool (false)) (by simp [results, Try.results44, go_sem, bne]) rfl ?_
      exact ⟨ret_bool ((leaf_specL2Own1_3 u l nm tv n1 n2 cv Hq1.out Hq2.out nameB_nil (win0 u)).trans HT.out), hB⟩
  · have Hq1 := Lib.hid q1
    clear q1
    go_wp2_with fail
    refine (specL2NameB nm _).mono ?_
    rintro e w5 ⟨rfl, hb5⟩
    rw [Hq1.out]
    have hB := (bstep bal1 hb5)
    have zw5 := hB.size
    go_wp2_with fail
    refine bodyPost_ret (v := .bool (false)) (by simp [results, Try.results44, go_sem, bne]) rfl ?_
    exact ⟨ret_bool ((leaf_specL2Own1_4 u l nm tv n1 n2 cv Hq1.out nameB_nil (win0 u)).trans HT.out), hB⟩
set_option maxHeartbeats 4000000 in
theorem specL2Own_2 (u tk fk l : Int) (nm : ByteArray) (ta fa c : Option Addr) (tn tq fn fq m q : Nat) (w : World) (tv n1 n2 cv : Bool) (H1 : Hid (∀ W, Below w.heap.size w W → Calls Try.prog 50 #[.agg #[.int .i64 tk, .slice ta tn tq]] W fun e W' => e = .returned (.bool (tv)) ∧ Below W.heap.size W W')) (H2 : Hid (∀ W, Below w.heap.size w W → Calls Try.prog 64 #[.agg #[.int .i64 tk, .slice ta tn tq]] W fun e W' => e = .returned (.bool (n1)) ∧ Below W.heap.size W W')) (H4 : Hid (∀ W, Below w.heap.size w W → Calls Try.prog 64 #[.agg #[.int .i64 fk, .slice fa fn fq]] W fun e W' => e = .returned (.bool (n2)) ∧ Below W.heap.size W W')) :
    Calls Try.prog 44 #[.agg #[.int .i64 2, .string nm, .int .i64 u, .int .i64 tk, .slice ta tn tq, .int .i64 fk, .slice fa fn fq, .int .i64 l, .slice c m q]] w fun e w' => e = .returned (.bool (ownB 2 u l nm tv n1 n2 cv)) ∧ Below w.heap.size w w' := by
  obtain ⟨rr, hrr⟩ : ∃ rr0 : Bool, (ownB 2 u l nm tv n1 n2 cv) = rr0 := ⟨_, rfl⟩
  rw [hrr]
  have HT := Lib.hid hrr
  clear hrr
  go_enter Try.func44, Try.ntmps44
  rcases Bool.eq_false_or_eq_true (nameB nm) with q1 | q1
  · have Hq1 := Lib.hid q1
    clear q1
    go_wp2_with fail
    refine (specL2NameB nm _).mono ?_
    rintro e w1 ⟨rfl, hb1⟩
    rw [Hq1.out]
    have hB := (bstep bal1 hb1)
    have zw1 := hB.size
    go_wp2_with fail
    refine bodyPost_ret (v := .bool (false)) (by simp [results, Try.results44, go_sem, bne]) rfl ?_
    exact ⟨ret_bool ((leaf_specL2Own2_5 u l nm tv n1 n2 cv Hq1.out nameB_nil (win0 u)).trans HT.out), hB⟩
  · have Hq1 := Lib.hid q1
    clear q1
    rcases Bool.eq_false_or_eq_true (nm.toList == []) with q2 | q2
    · skip
      have nq2 : (nm.toList != []) = false := by simp only [bne, q2]; rfl
      go_wp2_with fail
      refine (specL2NameB nm _).mono ?_
      rintro e w2 ⟨rfl, hb2⟩
      rw [Hq1.out]
      have hB := (bstep bal1 hb2)
      have zw2 := hB.size
      have c0_1 : w2.cell? ⟨w.heap.size, 1, none⟩ = some (.string nm) := bcell hb2 (cell_new (by simp) 1)
      have c0_3 : w2.cell? ⟨w.heap.size, 3, none⟩ = some (.int .i64 tk) := bcell hb2 (cell_new (by simp) 3)
      have c0_4 : w2.cell? ⟨w.heap.size, 4, none⟩ = some (.slice ta tn tq) := bcell hb2 (cell_new (by simp) 4)
      have c0_0 : w2.cell? ⟨w.heap.size, 0, none⟩ = some (.int .i64 2) := bcell hb2 (cell_new (by simp) 0)
      have c0_5 : w2.cell? ⟨w.heap.size, 5, none⟩ = some (.int .i64 fk) := bcell hb2 (cell_new (by simp) 5)
      have c0_6 : w2.cell? ⟨w.heap.size, 6, none⟩ = some (.slice fa fn fq) := bcell hb2 (cell_new (by simp) 6)
      have c0_7 : w2.cell? ⟨w.heap.size, 7, none⟩ = some (.int .i64 l) := bcell hb2 (cell_new (by simp) 7)
      have c0_2 : w2.cell? ⟨w.heap.size, 2, none⟩ = some (.int .i64 u) := bcell hb2 (cell_new (by simp) 2)
      have d0_w2 := World.block_lt_of_cell? _ _ c0_1
      go_wp2_with fail
      refine (H2.out _ hB).mono ?_
      rintro e w3 ⟨rfl, hb3⟩
      replace hB := (bstep hB hb3)
      have zw3 := hB.size
      replace c0_0 : w3.cell? ⟨w.heap.size, 0, none⟩ = some (.int .i64 2) := bcell hb3 (c0_0)
      replace c0_5 : w3.cell? ⟨w.heap.size, 5, none⟩ = some (.int .i64 fk) := bcell hb3 (c0_5)
      replace c0_6 : w3.cell? ⟨w.heap.size, 6, none⟩ = some (.slice fa fn fq) := bcell hb3 (c0_6)
      replace c0_7 : w3.cell? ⟨w.heap.size, 7, none⟩ = some (.int .i64 l) := bcell hb3 (c0_7)
      replace c0_2 : w3.cell? ⟨w.heap.size, 2, none⟩ = some (.int .i64 u) := bcell hb3 (c0_2)
      have d0_w3 := World.block_lt_of_cell? _ _ c0_0
      rcases Bool.eq_false_or_eq_true (n1) with q3 | q3
      · (try rw [q3])
        have Hq3 := Lib.hid q3
        clear q3
        rcases Bool.eq_false_or_eq_true (n2) with q4 | q4
        · have Hq4 := Lib.hid q4
          clear q4
          go_wp2_with fail
          refine (H4.out _ hB).mono ?_
          rintro e w4 ⟨rfl, hb4⟩
          rw [Hq4.out]
          replace hB := (bstep hB hb4)
          have zw4 := hB.size
          replace c0_7 : w4.cell? ⟨w.heap.size, 7, none⟩ = some (.int .i64 l) := bcell hb4 (c0_7)
          replace c0_0 : w4.cell? ⟨w.heap.size, 0, none⟩ = some (.int .i64 2) := bcell hb4 (c0_0)
          replace c0_2 : w4.cell? ⟨w.heap.size, 2, none⟩ = some (.int .i64 u) := bcell hb4 (c0_2)
          have d0_w4 := World.block_lt_of_cell? _ _ c0_7
          rcases Bool.eq_false_or_eq_true (l == 0) with q5 | q5
          · (try rw [q5])
            have nq5 : (l != 0) = false := by simp only [bne, q5]; rfl
            rcases Bool.eq_false_or_eq_true (decide (u ≥ 0)) with q6 | q6
            · skip
              go_wp2_with fail
              refine bodyPost_ret (v := .bool (decide (u ≤ 999))) (by simp [results, Try.results44, go_sem, bne]) rfl ?_
              exact ⟨ret_bool ((leaf_specL2Own2_6 u l nm tv n1 n2 cv Hq1.out q2 Hq3.out Hq4.out q5 q6 nameB_nil (win0 u)).trans HT.out), hB⟩
            · skip
              go_wp2_with fail
              refine bodyPost_ret (v := .bool (false)) (by simp [results, Try.results44, go_sem, bne]) rfl ?_
              exact ⟨ret_bool ((leaf_specL2Own2_7 u l nm tv n1 n2 cv Hq1.out q2 Hq3.out Hq4.out q5 q6 nameB_nil (win0 u)).trans HT.out), hB⟩
          · (try rw [q5])
            have nq5 : (l != 0) = true := by simp only [bne, q5]; rfl
            go_wp2_with fail
            refine bodyPost_ret (v := .bool (false)) (by simp [results, Try.results44, go_sem, bne]) rfl ?_
            exact ⟨ret_bool ((leaf_specL2Own2_8 u l nm tv n1 n2 cv Hq1.out q2 Hq3.out Hq4.out q5 nameB_nil (win0 u)).trans HT.out), hB⟩
        · have Hq4 := Lib.hid q4
          clear q4
          go_wp2_with fail
          refine (H4.out _ hB).mono ?_
          rintro e w5 ⟨rfl, hb5⟩
          rw [Hq4.out]
          replace hB := (bstep hB hb5)
          have zw5 := hB.size
          go_wp2_with fail
          refine bodyPost_ret (v := .bool (false)) (by simp [results, Try.results44, go_sem, bne]) rfl ?_
          exact ⟨ret_bool ((leaf_specL2Own2_9 u l nm tv n1 n2 cv Hq1.out q2 Hq3.out Hq4.out nameB_nil (win0 u)).trans HT.out), hB⟩
      · (try rw [q3])
        have Hq3 := Lib.hid q3
        clear q3
        go_wp2_with fail
        refine bodyPost_ret (v := .bool (false)) (by simp [results, Try.results44, go_sem, bne]) rfl ?_
        exact ⟨ret_bool ((leaf_specL2Own2_10 u l nm tv n1 n2 cv Hq1.out q2 Hq3.out nameB_nil (win0 u)).trans HT.out), hB⟩
    · skip
      have nq2 : (nm.toList != []) = true := by simp only [bne, q2]; rfl
      go_wp2_with fail
      refine (specL2NameB nm _).mono ?_
      rintro e w6 ⟨rfl, hb6⟩
      rw [Hq1.out]
      have hB := (bstep bal1 hb6)
      have zw6 := hB.size
      have c0_1 : w6.cell? ⟨w.heap.size, 1, none⟩ = some (.string nm) := bcell hb6 (cell_new (by simp) 1)
      have d0_w6 := World.block_lt_of_cell? _ _ c0_1
      go_wp2_with fail
      refine bodyPost_ret (v := .bool (false)) (by simp [results, Try.results44, go_sem, bne]) rfl ?_
      exact ⟨ret_bool ((leaf_specL2Own2_11 u l nm tv n1 n2 cv Hq1.out q2 nameB_nil (win0 u)).trans HT.out), hB⟩
set_option maxHeartbeats 4000000 in
theorem specL2Own_5 (u tk fk l : Int) (nm : ByteArray) (ta fa c : Option Addr) (tn tq fn fq m q : Nat) (w : World) (tv n1 n2 cv : Bool) (H1 : Hid (∀ W, Below w.heap.size w W → Calls Try.prog 50 #[.agg #[.int .i64 tk, .slice ta tn tq]] W fun e W' => e = .returned (.bool (tv)) ∧ Below W.heap.size W W')) (H2 : Hid (∀ W, Below w.heap.size w W → Calls Try.prog 64 #[.agg #[.int .i64 tk, .slice ta tn tq]] W fun e W' => e = .returned (.bool (n1)) ∧ Below W.heap.size W W')) (H4 : Hid (∀ W, Below w.heap.size w W → Calls Try.prog 64 #[.agg #[.int .i64 fk, .slice fa fn fq]] W fun e W' => e = .returned (.bool (n2)) ∧ Below W.heap.size W W')) :
    Calls Try.prog 44 #[.agg #[.int .i64 5, .string nm, .int .i64 u, .int .i64 tk, .slice ta tn tq, .int .i64 fk, .slice fa fn fq, .int .i64 l, .slice c m q]] w fun e w' => e = .returned (.bool (ownB 5 u l nm tv n1 n2 cv)) ∧ Below w.heap.size w w' := by
  obtain ⟨rr, hrr⟩ : ∃ rr0 : Bool, (ownB 5 u l nm tv n1 n2 cv) = rr0 := ⟨_, rfl⟩
  rw [hrr]
  have HT := Lib.hid hrr
  clear hrr
  go_enter Try.func44, Try.ntmps44
  rcases Bool.eq_false_or_eq_true (nameB nm) with q1 | q1
  · have Hq1 := Lib.hid q1
    clear q1
    rcases Bool.eq_false_or_eq_true (tv) with q2 | q2
    · have Hq2 := Lib.hid q2
      clear q2
      go_wp2_with fail
      refine (specL2NameB nm _).mono ?_
      rintro e w1 ⟨rfl, hb1⟩
      rw [Hq1.out]
      have hB := (bstep bal1 hb1)
      have zw1 := hB.size
      have c0_3 : w1.cell? ⟨w.heap.size, 3, none⟩ = some (.int .i64 tk) := bcell hb1 (cell_new (by simp) 3)
      have c0_4 : w1.cell? ⟨w.heap.size, 4, none⟩ = some (.slice ta tn tq) := bcell hb1 (cell_new (by simp) 4)
      have c0_0 : w1.cell? ⟨w.heap.size, 0, none⟩ = some (.int .i64 5) := bcell hb1 (cell_new (by simp) 0)
      have c0_5 : w1.cell? ⟨w.heap.size, 5, none⟩ = some (.int .i64 fk) := bcell hb1 (cell_new (by simp) 5)
      have c0_6 : w1.cell? ⟨w.heap.size, 6, none⟩ = some (.slice fa fn fq) := bcell hb1 (cell_new (by simp) 6)
      have c0_7 : w1.cell? ⟨w.heap.size, 7, none⟩ = some (.int .i64 l) := bcell hb1 (cell_new (by simp) 7)
      have c0_2 : w1.cell? ⟨w.heap.size, 2, none⟩ = some (.int .i64 u) := bcell hb1 (cell_new (by simp) 2)
      have d0_w1 := World.block_lt_of_cell? _ _ c0_3
      go_wp2_with fail
      refine (H1.out _ hB).mono ?_
      rintro e w2 ⟨rfl, hb2⟩
      rw [Hq2.out]
      replace hB := (bstep hB hb2)
      have zw2 := hB.size
      replace c0_0 : w2.cell? ⟨w.heap.size, 0, none⟩ = some (.int .i64 5) := bcell hb2 (c0_0)
      replace c0_5 : w2.cell? ⟨w.heap.size, 5, none⟩ = some (.int .i64 fk) := bcell hb2 (c0_5)
      replace c0_6 : w2.cell? ⟨w.heap.size, 6, none⟩ = some (.slice fa fn fq) := bcell hb2 (c0_6)
      replace c0_7 : w2.cell? ⟨w.heap.size, 7, none⟩ = some (.int .i64 l) := bcell hb2 (c0_7)
      replace c0_2 : w2.cell? ⟨w.heap.size, 2, none⟩ = some (.int .i64 u) := bcell hb2 (c0_2)
      have d0_w2 := World.block_lt_of_cell? _ _ c0_0
      rcases Bool.eq_false_or_eq_true (n2) with q3 | q3
      · have Hq3 := Lib.hid q3
        clear q3
        go_wp2_with fail
        refine (H4.out _ hB).mono ?_
        rintro e w3 ⟨rfl, hb3⟩
        rw [Hq3.out]
        replace hB := (bstep hB hb3)
        have zw3 := hB.size
        replace c0_7 : w3.cell? ⟨w.heap.size, 7, none⟩ = some (.int .i64 l) := bcell hb3 (c0_7)
        replace c0_0 : w3.cell? ⟨w.heap.size, 0, none⟩ = some (.int .i64 5) := bcell hb3 (c0_0)
        replace c0_2 : w3.cell? ⟨w.heap.size, 2, none⟩ = some (.int .i64 u) := bcell hb3 (c0_2)
        have d0_w3 := World.block_lt_of_cell? _ _ c0_7
        rcases Bool.eq_false_or_eq_true (l == 0) with q4 | q4
        · (try rw [q4])
          have nq4 : (l != 0) = false := by simp only [bne, q4]; rfl
          go_wp2_with fail
          refine bodyPost_ret (v := .bool (u == 0)) (by simp [results, Try.results44, go_sem, bne]) rfl ?_
          exact ⟨ret_bool ((leaf_specL2Own5_12 u l nm tv n1 n2 cv Hq1.out Hq2.out Hq3.out q4 nameB_nil (win0 u)).trans HT.out), hB⟩
        · (try rw [q4])
          have nq4 : (l != 0) = true := by simp only [bne, q4]; rfl
          go_wp2_with fail
          refine bodyPost_ret (v := .bool (false)) (by simp [results, Try.results44, go_sem, bne]) rfl ?_
          exact ⟨ret_bool ((leaf_specL2Own5_13 u l nm tv n1 n2 cv Hq1.out Hq2.out Hq3.out q4 nameB_nil (win0 u)).trans HT.out), hB⟩
      · have Hq3 := Lib.hid q3
        clear q3
        go_wp2_with fail
        refine (H4.out _ hB).mono ?_
        rintro e w4 ⟨rfl, hb4⟩
        rw [Hq3.out]
        replace hB := (bstep hB hb4)
        have zw4 := hB.size
        go_wp2_with fail
        refine bodyPost_ret (v := .bool (false)) (by simp [results, Try.results44, go_sem, bne]) rfl ?_
        exact ⟨ret_bool ((leaf_specL2Own5_14 u l nm tv n1 n2 cv Hq1.out Hq2.out Hq3.out nameB_nil (win0 u)).trans HT.out), hB⟩
    · have Hq2 := Lib.hid q2
      clear q2
      go_wp2_with fail
      refine (specL2NameB nm _).mono ?_
      rintro e w5 ⟨rfl, hb5⟩
      rw [Hq1.out]
      have hB := (bstep bal1 hb5)
      have zw5 := hB.size
      have c0_3 : w5.cell? ⟨w.heap.size, 3, none⟩ = some (.int .i64 tk) := bcell hb5 (cell_new (by simp) 3)
      have c0_4 : w5.cell? ⟨w.heap.size, 4, none⟩ = some (.slice ta tn tq) := bcell hb5 (cell_new (by simp) 4)
      have d0_w5 := World.block_lt_of_cell? _ _ c0_3
      go_wp2_with fail
      refine (H1.out _ hB).mono ?_
      rintro e w6 ⟨rfl, hb6⟩
      rw [Hq2.out]
      replace hB := (bstep hB hb6)
      have zw6 := hB.size
      go_wp2_with fail
      refine bodyPost_ret (v := .bool (false)) (by simp [results, Try.results44, go_sem, bne]) rfl ?_
      exact ⟨ret_bool ((leaf_specL2Own5_15 u l nm tv n1 n2 cv Hq1.out Hq2.out nameB_nil (win0 u)).trans HT.out), hB⟩
  · have Hq1 := Lib.hid q1
    clear q1
    go_wp2_with fail
    refine (specL2NameB nm _).mono ?_
    rintro e w7 ⟨rfl, hb7⟩
    rw [Hq1.out]
    have hB := (bstep bal1 hb7)
    have zw7 := hB.size
    go_wp2_with fail
    refine bodyPost_ret (v := .bool (false)) (by simp [results, Try.results44, go_sem, bne]) rfl ?_
    exact ⟨ret_bool ((leaf_specL2Own5_16 u l nm tv n1 n2 cv Hq1.out nameB_nil (win0 u)).trans HT.out), hB⟩
set_option maxHeartbeats 4000000 in
theorem specL2Own_13 (u tk fk l : Int) (nm : ByteArray) (ta fa c : Option Addr) (tn tq fn fq m q : Nat) (w : World) (tv n1 n2 cv : Bool) (H1 : Hid (∀ W, Below w.heap.size w W → Calls Try.prog 50 #[.agg #[.int .i64 tk, .slice ta tn tq]] W fun e W' => e = .returned (.bool (tv)) ∧ Below W.heap.size W W')) (H2 : Hid (∀ W, Below w.heap.size w W → Calls Try.prog 64 #[.agg #[.int .i64 tk, .slice ta tn tq]] W fun e W' => e = .returned (.bool (n1)) ∧ Below W.heap.size W W')) (H4 : Hid (∀ W, Below w.heap.size w W → Calls Try.prog 64 #[.agg #[.int .i64 fk, .slice fa fn fq]] W fun e W' => e = .returned (.bool (n2)) ∧ Below W.heap.size W W')) :
    Calls Try.prog 44 #[.agg #[.int .i64 13, .string nm, .int .i64 u, .int .i64 tk, .slice ta tn tq, .int .i64 fk, .slice fa fn fq, .int .i64 l, .slice c m q]] w fun e w' => e = .returned (.bool (ownB 13 u l nm tv n1 n2 cv)) ∧ Below w.heap.size w w' := by
  obtain ⟨rr, hrr⟩ : ∃ rr0 : Bool, (ownB 13 u l nm tv n1 n2 cv) = rr0 := ⟨_, rfl⟩
  rw [hrr]
  have HT := Lib.hid hrr
  clear hrr
  go_enter Try.func44, Try.ntmps44
  rcases Bool.eq_false_or_eq_true (nameB nm) with q1 | q1
  · have Hq1 := Lib.hid q1
    clear q1
    go_wp2_with fail
    refine (specL2NameB nm _).mono ?_
    rintro e w1 ⟨rfl, hb1⟩
    rw [Hq1.out]
    have hB := (bstep bal1 hb1)
    have zw1 := hB.size
    go_wp2_with fail
    refine bodyPost_ret (v := .bool (false)) (by simp [results, Try.results44, go_sem, bne]) rfl ?_
    exact ⟨ret_bool ((leaf_specL2Own13_17 u l nm tv n1 n2 cv Hq1.out nameB_nil (win0 u)).trans HT.out), hB⟩
  · have Hq1 := Lib.hid q1
    clear q1
    rcases Bool.eq_false_or_eq_true (nm.toList == []) with q2 | q2
    · skip
      have nq2 : (nm.toList != []) = false := by simp only [bne, q2]; rfl
      rcases Bool.eq_false_or_eq_true (tv) with q3 | q3
      · have Hq3 := Lib.hid q3
        clear q3
        go_wp2_with fail
        refine (specL2NameB nm _).mono ?_
        rintro e w2 ⟨rfl, hb2⟩
        rw [Hq1.out]
        have hB := (bstep bal1 hb2)
        have zw2 := hB.size
        have c0_1 : w2.cell? ⟨w.heap.size, 1, none⟩ = some (.string nm) := bcell hb2 (cell_new (by simp) 1)
        have c0_3 : w2.cell? ⟨w.heap.size, 3, none⟩ = some (.int .i64 tk) := bcell hb2 (cell_new (by simp) 3)
        have c0_4 : w2.cell? ⟨w.heap.size, 4, none⟩ = some (.slice ta tn tq) := bcell hb2 (cell_new (by simp) 4)
        have c0_0 : w2.cell? ⟨w.heap.size, 0, none⟩ = some (.int .i64 13) := bcell hb2 (cell_new (by simp) 0)
        have c0_5 : w2.cell? ⟨w.heap.size, 5, none⟩ = some (.int .i64 fk) := bcell hb2 (cell_new (by simp) 5)
        have c0_6 : w2.cell? ⟨w.heap.size, 6, none⟩ = some (.slice fa fn fq) := bcell hb2 (cell_new (by simp) 6)
        have c0_7 : w2.cell? ⟨w.heap.size, 7, none⟩ = some (.int .i64 l) := bcell hb2 (cell_new (by simp) 7)
        have c0_2 : w2.cell? ⟨w.heap.size, 2, none⟩ = some (.int .i64 u) := bcell hb2 (cell_new (by simp) 2)
        have d0_w2 := World.block_lt_of_cell? _ _ c0_1
        go_wp2_with fail
        refine (H1.out _ hB).mono ?_
        rintro e w3 ⟨rfl, hb3⟩
        rw [Hq3.out]
        replace hB := (bstep hB hb3)
        have zw3 := hB.size
        replace c0_0 : w3.cell? ⟨w.heap.size, 0, none⟩ = some (.int .i64 13) := bcell hb3 (c0_0)
        replace c0_5 : w3.cell? ⟨w.heap.size, 5, none⟩ = some (.int .i64 fk) := bcell hb3 (c0_5)
        replace c0_6 : w3.cell? ⟨w.heap.size, 6, none⟩ = some (.slice fa fn fq) := bcell hb3 (c0_6)
        replace c0_7 : w3.cell? ⟨w.heap.size, 7, none⟩ = some (.int .i64 l) := bcell hb3 (c0_7)
        replace c0_2 : w3.cell? ⟨w.heap.size, 2, none⟩ = some (.int .i64 u) := bcell hb3 (c0_2)
        have d0_w3 := World.block_lt_of_cell? _ _ c0_0
        rcases Bool.eq_false_or_eq_true (n2) with q4 | q4
        · have Hq4 := Lib.hid q4
          clear q4
          go_wp2_with fail
          refine (H4.out _ hB).mono ?_
          rintro e w4 ⟨rfl, hb4⟩
          rw [Hq4.out]
          replace hB := (bstep hB hb4)
          have zw4 := hB.size
          replace c0_7 : w4.cell? ⟨w.heap.size, 7, none⟩ = some (.int .i64 l) := bcell hb4 (c0_7)
          replace c0_0 : w4.cell? ⟨w.heap.size, 0, none⟩ = some (.int .i64 13) := bcell hb4 (c0_0)
          replace c0_2 : w4.cell? ⟨w.heap.size, 2, none⟩ = some (.int .i64 u) := bcell hb4 (c0_2)
          have d0_w4 := World.block_lt_of_cell? _ _ c0_7
          rcases Bool.eq_false_or_eq_true (l == 0) with q5 | q5
          · (try rw [q5])
            have nq5 : (l != 0) = false := by simp only [bne, q5]; rfl
            go_wp2_with fail
            refine bodyPost_ret (v := .bool (u == 0)) (by simp [results, Try.results44, go_sem, bne]) rfl ?_
            exact ⟨ret_bool ((leaf_specL2Own13_18 u l nm tv n1 n2 cv Hq1.out q2 Hq3.out Hq4.out q5 nameB_nil (win0 u)).trans HT.out), hB⟩
          · (try rw [q5])
            have nq5 : (l != 0) = true := by simp only [bne, q5]; rfl
            go_wp2_with fail
            refine bodyPost_ret (v := .bool (false)) (by simp [results, Try.results44, go_sem, bne]) rfl ?_
            exact ⟨ret_bool ((leaf_specL2Own13_19 u l nm tv n1 n2 cv Hq1.out q2 Hq3.out Hq4.out q5 nameB_nil (win0 u)).trans HT.out), hB⟩
        · have Hq4 := Lib.hid q4
          clear q4
          go_wp2_with fail
          refine (H4.out _ hB).mono ?_
          rintro e w5 ⟨rfl, hb5⟩
          rw [Hq4.out]
          replace hB := (bstep hB hb5)
          have zw5 := hB.size
          go_wp2_with fail
          refine bodyPost_ret (v := .bool (false)) (by simp [results, Try.results44, go_sem, bne]) rfl ?_
          exact ⟨ret_bool ((leaf_specL2Own13_20 u l nm tv n1 n2 cv Hq1.out q2 Hq3.out Hq4.out nameB_nil (win0 u)).trans HT.out), hB⟩
      · have Hq3 := Lib.hid q3
        clear q3
        go_wp2_with fail
        refine (specL2NameB nm _).mono ?_
        rintro e w6 ⟨rfl, hb6⟩
        rw [Hq1.out]
        have hB := (bstep bal1 hb6)
        have zw6 := hB.size
        have c0_1 : w6.cell? ⟨w.heap.size, 1, none⟩ = some (.string nm) := bcell hb6 (cell_new (by simp) 1)
        have c0_3 : w6.cell? ⟨w.heap.size, 3, none⟩ = some (.int .i64 tk) := bcell hb6 (cell_new (by simp) 3)
        have c0_4 : w6.cell? ⟨w.heap.size, 4, none⟩ = some (.slice ta tn tq) := bcell hb6 (cell_new (by simp) 4)
        have d0_w6 := World.block_lt_of_cell? _ _ c0_1
        go_wp2_with fail
        refine (H1.out _ hB).mono ?_
        rintro e w7 ⟨rfl, hb7⟩
        rw [Hq3.out]
        replace hB := (bstep hB hb7)
        have zw7 := hB.size
        go_wp2_with fail
        refine bodyPost_ret (v := .bool (false)) (by simp [results, Try.results44, go_sem, bne]) rfl ?_
        exact ⟨ret_bool ((leaf_specL2Own13_21 u l nm tv n1 n2 cv Hq1.out q2 Hq3.out nameB_nil (win0 u)).trans HT.out), hB⟩
    · skip
      have nq2 : (nm.toList != []) = true := by simp only [bne, q2]; rfl
      go_wp2_with fail
      refine (specL2NameB nm _).mono ?_
      rintro e w8 ⟨rfl, hb8⟩
      rw [Hq1.out]
      have hB := (bstep bal1 hb8)
      have zw8 := hB.size
      have c0_1 : w8.cell? ⟨w.heap.size, 1, none⟩ = some (.string nm) := bcell hb8 (cell_new (by simp) 1)
      have d0_w8 := World.block_lt_of_cell? _ _ c0_1
      go_wp2_with fail
      refine bodyPost_ret (v := .bool (false)) (by simp [results, Try.results44, go_sem, bne]) rfl ?_
      exact ⟨ret_bool ((leaf_specL2Own13_22 u l nm tv n1 n2 cv Hq1.out q2 nameB_nil (win0 u)).trans HT.out), hB⟩
set_option maxHeartbeats 4000000 in
theorem specL2Own_k (k u tk fk l : Int) (nm : ByteArray) (ta fa c : Option Addr) (tn tq fn fq m q : Nat) (w : World) (tv n1 n2 cv : Bool) (z0 : (k == 1) = false) (z1 : (k == 5) = false) (z2 : (k == 13) = false) (z3 : (k == 14) = false) (z4 : (k == 2) = false) (H1 : Hid (∀ W, Below w.heap.size w W → Calls Try.prog 50 #[.agg #[.int .i64 tk, .slice ta tn tq]] W fun e W' => e = .returned (.bool (tv)) ∧ Below W.heap.size W W')) (H2 : Hid (∀ W, Below w.heap.size w W → Calls Try.prog 64 #[.agg #[.int .i64 tk, .slice ta tn tq]] W fun e W' => e = .returned (.bool (n1)) ∧ Below W.heap.size W W')) (H4 : Hid (∀ W, Below w.heap.size w W → Calls Try.prog 64 #[.agg #[.int .i64 fk, .slice fa fn fq]] W fun e W' => e = .returned (.bool (n2)) ∧ Below W.heap.size W W')) :
    Calls Try.prog 44 #[.agg #[.int .i64 k, .string nm, .int .i64 u, .int .i64 tk, .slice ta tn tq, .int .i64 fk, .slice fa fn fq, .int .i64 l, .slice c m q]] w fun e w' => e = .returned (.bool (ownB k u l nm tv n1 n2 cv)) ∧ Below w.heap.size w w' := by
  obtain ⟨rr, hrr⟩ : ∃ rr0 : Bool, (ownB k u l nm tv n1 n2 cv) = rr0 := ⟨_, rfl⟩
  rw [hrr]
  have HT := Lib.hid hrr
  clear hrr
  have nz0 : (k != 1) = true := by simp only [bne, z0]; rfl
  have nz1 : (k != 5) = true := by simp only [bne, z1]; rfl
  have nz2 : (k != 13) = true := by simp only [bne, z2]; rfl
  have nz3 : (k != 14) = true := by simp only [bne, z3]; rfl
  have nz4 : (k != 2) = true := by simp only [bne, z4]; rfl
  go_enter Try.func44, Try.ntmps44
  rcases Bool.eq_false_or_eq_true (nameB nm) with q1 | q1
  · have Hq1 := Lib.hid q1
    clear q1
    go_wp2_with fail
    refine (specL2NameB nm _).mono ?_
    rintro e w1 ⟨rfl, hb1⟩
    rw [Hq1.out]
    have hB := (bstep bal1 hb1)
    have zw1 := hB.size
    go_wp2_with fail
    refine bodyPost_ret (v := .bool (false)) (by simp [results, Try.results44, go_sem, bne]) rfl ?_
    exact ⟨ret_bool ((leaf_specL2Ownk_23 k u l nm tv n1 n2 cv z0 z1 z2 z3 z4 Hq1.out nameB_nil (win0 u)).trans HT.out), hB⟩
  · have Hq1 := Lib.hid q1
    clear q1
    rcases Bool.eq_false_or_eq_true (nm.toList == []) with q2 | q2
    · skip
      have nq2 : (nm.toList != []) = false := by simp only [bne, q2]; rfl
      go_wp2_with fail
      refine (specL2NameB nm _).mono ?_
      rintro e w2 ⟨rfl, hb2⟩
      rw [Hq1.out]
      have hB := (bstep bal1 hb2)
      have zw2 := hB.size
      have c0_1 : w2.cell? ⟨w.heap.size, 1, none⟩ = some (.string nm) := bcell hb2 (cell_new (by simp) 1)
      have c0_3 : w2.cell? ⟨w.heap.size, 3, none⟩ = some (.int .i64 tk) := bcell hb2 (cell_new (by simp) 3)
      have c0_4 : w2.cell? ⟨w.heap.size, 4, none⟩ = some (.slice ta tn tq) := bcell hb2 (cell_new (by simp) 4)
      have c0_0 : w2.cell? ⟨w.heap.size, 0, none⟩ = some (.int .i64 k) := bcell hb2 (cell_new (by simp) 0)
      have c0_5 : w2.cell? ⟨w.heap.size, 5, none⟩ = some (.int .i64 fk) := bcell hb2 (cell_new (by simp) 5)
      have c0_6 : w2.cell? ⟨w.heap.size, 6, none⟩ = some (.slice fa fn fq) := bcell hb2 (cell_new (by simp) 6)
      have c0_7 : w2.cell? ⟨w.heap.size, 7, none⟩ = some (.int .i64 l) := bcell hb2 (cell_new (by simp) 7)
      have c0_2 : w2.cell? ⟨w.heap.size, 2, none⟩ = some (.int .i64 u) := bcell hb2 (cell_new (by simp) 2)
      have d0_w2 := World.block_lt_of_cell? _ _ c0_1
      go_wp2_with fail
      refine (H2.out _ hB).mono ?_
      rintro e w3 ⟨rfl, hb3⟩
      replace hB := (bstep hB hb3)
      have zw3 := hB.size
      replace c0_0 : w3.cell? ⟨w.heap.size, 0, none⟩ = some (.int .i64 k) := bcell hb3 (c0_0)
      replace c0_5 : w3.cell? ⟨w.heap.size, 5, none⟩ = some (.int .i64 fk) := bcell hb3 (c0_5)
      replace c0_6 : w3.cell? ⟨w.heap.size, 6, none⟩ = some (.slice fa fn fq) := bcell hb3 (c0_6)
      replace c0_7 : w3.cell? ⟨w.heap.size, 7, none⟩ = some (.int .i64 l) := bcell hb3 (c0_7)
      replace c0_2 : w3.cell? ⟨w.heap.size, 2, none⟩ = some (.int .i64 u) := bcell hb3 (c0_2)
      have d0_w3 := World.block_lt_of_cell? _ _ c0_0
      rcases Bool.eq_false_or_eq_true (n1) with q3 | q3
      · (try rw [q3])
        have Hq3 := Lib.hid q3
        clear q3
        rcases Bool.eq_false_or_eq_true (n2) with q4 | q4
        · have Hq4 := Lib.hid q4
          clear q4
          go_wp2_with fail
          refine (H4.out _ hB).mono ?_
          rintro e w4 ⟨rfl, hb4⟩
          rw [Hq4.out]
          replace hB := (bstep hB hb4)
          have zw4 := hB.size
          replace c0_7 : w4.cell? ⟨w.heap.size, 7, none⟩ = some (.int .i64 l) := bcell hb4 (c0_7)
          replace c0_0 : w4.cell? ⟨w.heap.size, 0, none⟩ = some (.int .i64 k) := bcell hb4 (c0_0)
          replace c0_2 : w4.cell? ⟨w.heap.size, 2, none⟩ = some (.int .i64 u) := bcell hb4 (c0_2)
          have d0_w4 := World.block_lt_of_cell? _ _ c0_7
          rcases Bool.eq_false_or_eq_true (l == 0) with q5 | q5
          · (try rw [q5])
            have nq5 : (l != 0) = false := by simp only [bne, q5]; rfl
            go_wp2_with fail
            refine bodyPost_ret (v := .bool (u == 0)) (by simp [results, Try.results44, go_sem, bne]) rfl ?_
            exact ⟨ret_bool ((leaf_specL2Ownk_24 k u l nm tv n1 n2 cv z0 z1 z2 z3 z4 Hq1.out q2 Hq3.out Hq4.out q5 nameB_nil (win0 u)).trans HT.out), hB⟩
          · (try rw [q5])
            have nq5 : (l != 0) = true := by simp only [bne, q5]; rfl
            go_wp2_with fail
            refine bodyPost_ret (v := .bool (false)) (by simp [results, Try.results44, go_sem, bne]) rfl ?_
            exact ⟨ret_bool ((leaf_specL2Ownk_25 k u l nm tv n1 n2 cv z0 z1 z2 z3 z4 Hq1.out q2 Hq3.out Hq4.out q5 nameB_nil (win0 u)).trans HT.out), hB⟩
        · have Hq4 := Lib.hid q4
          clear q4
          go_wp2_with fail
          refine (H4.out _ hB).mono ?_
          rintro e w5 ⟨rfl, hb5⟩
          rw [Hq4.out]
          replace hB := (bstep hB hb5)
          have zw5 := hB.size
          go_wp2_with fail
          refine bodyPost_ret (v := .bool (false)) (by simp [results, Try.results44, go_sem, bne]) rfl ?_
          exact ⟨ret_bool ((leaf_specL2Ownk_26 k u l nm tv n1 n2 cv z0 z1 z2 z3 z4 Hq1.out q2 Hq3.out Hq4.out nameB_nil (win0 u)).trans HT.out), hB⟩
      · (try rw [q3])
        have Hq3 := Lib.hid q3
        clear q3
        go_wp2_with fail
        refine bodyPost_ret (v := .bool (false)) (by simp [results, Try.results44, go_sem, bne]) rfl ?_
        exact ⟨ret_bool ((leaf_specL2Ownk_27 k u l nm tv n1 n2 cv z0 z1 z2 z3 z4 Hq1.out q2 Hq3.out nameB_nil (win0 u)).trans HT.out), hB⟩
    · skip
      have nq2 : (nm.toList != []) = true := by simp only [bne, q2]; rfl
      go_wp2_with fail
      refine (specL2NameB nm _).mono ?_
      rintro e w6 ⟨rfl, hb6⟩
      rw [Hq1.out]
      have hB := (bstep bal1 hb6)
      have zw6 := hB.size
      have c0_1 : w6.cell? ⟨w.heap.size, 1, none⟩ = some (.string nm) := bcell hb6 (cell_new (by simp) 1)
      have d0_w6 := World.block_lt_of_cell? _ _ c0_1
      go_wp2_with fail
      refine bodyPost_ret (v := .bool (false)) (by simp [results, Try.results44, go_sem, bne]) rfl ?_
      exact ⟨ret_bool ((leaf_specL2Ownk_28 k u l nm tv n1 n2 cv z0 z1 z2 z3 z4 Hq1.out q2 nameB_nil (win0 u)).trans HT.out), hB⟩
end Go.Proofs.Ytkhmkohgnikcmaa
