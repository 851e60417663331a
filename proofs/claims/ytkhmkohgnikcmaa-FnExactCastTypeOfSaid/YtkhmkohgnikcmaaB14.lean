/-
  The checks of a node of a term, joined; shapes and sizes of terms.
  Functions that make types.
  The reference's ground types.
-/
import Derived.Test.YtkhmkohgnikcmaaTmNodeS
import Derived.Test.YtkhmkohgnikcmaaTmNodeI1
import Derived.Test.YtkhmkohgnikcmaaTmNodeI2
import Derived.Test.YtkhmkohgnikcmaaB10
import Derived.Test.YtkhmkohgnikcmaaB3
import Derived.Test.YtkhmkohgnikcmaaB1
import Derived.Test.YtkhmkohgnikcmaaB9
namespace Go.Proofs.Ytkhmkohgnikcmaa
open Go.RowKit
set_option linter.unusedVariables false
set_option linter.unusedSimpArgs false
set_option maxRecDepth 100000

mutual
def Tm.shape : Tm → Int → Int → Bool
  | .mk k s u t f l ts, nt, d => decide (1 ≤ d) && !(k == nt) && ((tops k == (ts.length : Int)) && (Tm.mk k s u t f l ts).ownB) && Tm.shapes ts nt (d - 1)
def Tm.shapes : List Tm → Int → Int → Bool
  | [], _, _ => true
  | t :: ts, nt, d => t.shape nt d && Tm.shapes ts nt d
end
mutual
def Tm.size : Tm → Int
  | .mk _ _ _ _ _ _ ts => 1 + Tm.sizes ts
def Tm.sizes : List Tm → Int
  | [] => 0
  | t :: ts => t.size + Tm.sizes ts
end
def Tm.valid (t : Tm) : Bool := t.shape 14 12 && decide (t.size ≤ 30)
def Tm.castValid (t : Tm) : Bool := t.shape 13 40 && decide (t.size ≤ 200)
theorem Tm.shapes_drop (ts : List Tm) (nt d : Int) (k : Nat) (h : k < ts.length) : Tm.shapes (ts.drop k) nt d = (ts[k].shape nt d && Tm.shapes (ts.drop (k + 1)) nt d) := by
  rw [List.drop_eq_getElem_cons h]
  conv => lhs; unfold Tm.shapes
theorem Tm.shape_parts {k u l : Int} {s : ByteArray} {t f : Ty} {ts : List Tm} {nt d : Int} (h : (Tm.mk k s u t f l ts).shape nt d = true) : 1 ≤ d ∧ ¬ k = nt ∧ tops k = (ts.length : Int) ∧ (Tm.mk k s u t f l ts).ownB = true ∧ Tm.shapes ts nt (d - 1) = true := by
  unfold Tm.shape at h
  simp only [Bool.and_eq_true, decide_eq_true_eq, Bool.not_eq_true', beq_eq_false_iff_ne, beq_iff_eq] at h
  exact ⟨h.1.1.1, h.1.1.2, h.1.2.1, h.1.2.2, h.2⟩
theorem Tm.shapes_mem {nt d : Int} : ∀ {ts : List Tm} {t : Tm}, Tm.shapes ts nt d = true → t ∈ ts → t.shape nt d = true
  | u :: ts, t, h, ht => by
    unfold Tm.shapes at h
    simp only [Bool.and_eq_true] at h
    rcases List.mem_cons.1 ht with rfl | ht
    · exact h.1
    · exact Tm.shapes_mem h.2 ht
theorem tops_le (k : Int) : tops k ≤ 3 := by unfold tops; (repeat' split) <;> omega
mutual
theorem Tm.size_pos : ∀ t : Tm, 1 ≤ t.size
  | .mk _ _ _ _ _ _ ts => by unfold Tm.size; have := Tm.sizes_pos ts; omega
theorem Tm.sizes_pos : ∀ ts : List Tm, 0 ≤ Tm.sizes ts
  | [] => by unfold Tm.sizes; omega
  | t :: ts => by unfold Tm.sizes; have := Tm.size_pos t; have := Tm.sizes_pos ts; omega
end
mutual
theorem Tm.size_shape : ∀ (t : Tm) (nt : Int) (n : Nat), t.shape nt n = true → 2 * t.size + 1 ≤ 3 ^ n
  | .mk k s u t f l ts, nt, n, h => by
    obtain ⟨h1, -, h3, -, h5⟩ := Tm.shape_parts h
    obtain ⟨m, rfl⟩ : ∃ m, n = m + 1 := ⟨n - 1, by omega⟩
    rw [show ((m + 1 : Nat) : Int) - 1 = (m : Int) from by omega] at h5
    have h6 := Tm.sizes_shape ts nt m h5
    have h7 := tops_le k
    have h8 : (1 : Int) ≤ 3 ^ m := by exact_mod_cast Nat.one_le_pow _ _ (by omega)
    unfold Tm.size
    have h9 : (3 : Int) ^ (m + 1) = 3 * 3 ^ m := by rw [Int.pow_succ]; omega
    rw [h3] at h7
    have h10 : (ts.length : Int) * 3 ^ m ≤ 3 * 3 ^ m := Int.mul_le_mul_of_nonneg_right h7 (by omega)
    have h11 : ts.length = 0 ∨ 1 ≤ ts.length := by omega
    rcases h11 with h11 | h11
    · have : ts = [] := List.eq_nil_of_length_eq_zero h11
      subst this
      simp only [Tm.sizes] at *
      omega
    · have h12 : ts.length = 1 ∨ ts.length = 2 ∨ ts.length = 3 := by omega
      rcases h12 with h12 | h12 | h12
      · rw [show (ts.length : Int) = 1 from by omega] at h6; omega
      · rw [show (ts.length : Int) = 2 from by omega] at h6; omega
      · rw [show (ts.length : Int) = 3 from by omega] at h6; omega
theorem Tm.sizes_shape : ∀ (ts : List Tm) (nt : Int) (n : Nat), Tm.shapes ts nt n = true → 2 * Tm.sizes ts + ts.length ≤ (ts.length : Int) * 3 ^ n
  | [], nt, n, h => by unfold Tm.sizes; simp
  | t :: ts, nt, n, h => by
    unfold Tm.shapes at h
    simp only [Bool.and_eq_true] at h
    have h1 := Tm.size_shape t nt n h.1
    have h2 := Tm.sizes_shape ts nt n h.2
    unfold Tm.sizes
    rw [List.length_cons, show ((ts.length + 1 : Nat) : Int) * 3 ^ n = (ts.length : Int) * 3 ^ n + 3 ^ n from by rw [Int.natCast_add, Int.add_mul]; simp]
    omega
end
theorem Tm.sizes_take_succ : ∀ (ts : List Tm) (j : Nat) (h : j < ts.length), Tm.sizes (ts.take (j + 1)) = Tm.sizes (ts.take j) + ts[j].size
  | [], _, h => absurd h (Nat.not_lt_zero _)
  | t :: ts, 0, _ => by simp [Tm.sizes]
  | t :: ts, j + 1, h => by
    have := Tm.sizes_take_succ ts j (by simpa using h)
    simp only [List.take_succ_cons, Tm.sizes, List.getElem_cons_succ]
    omega
theorem Tm.sizes_take_le : ∀ (ts : List Tm) (j : Nat), Tm.sizes (ts.take j) ≤ Tm.sizes ts
  | [], _ => by simp
  | t :: ts, 0 => by have := Tm.sizes_pos (t :: ts); simpa [Tm.sizes] using this
  | t :: ts, j + 1 => by
    have := Tm.sizes_take_le ts j
    simp only [List.take_succ_cons, Tm.sizes]
    omega
theorem Tm.size_bd {t : Tm} {nt : Int} {n : Nat} (h : t.shape nt n = true) (hn : n ≤ 40) : t.size ≤ 6078832729528464400 := by
  have h1 := Tm.size_shape t nt n h
  have h2 : (3 : Int) ^ n ≤ 3 ^ 40 := by exact_mod_cast Nat.pow_le_pow_right (by omega) hn
  have h3 : (3 : Int) ^ 40 = 12157665459056928801 := by decide
  omega
theorem leaf_l4own_0 (u l : Int) (nm : ByteArray) (tv n1 n2 sv cc : Bool) (h0 : (nm.toList == []) = true) (h1 : (u == 0) = true) (h2 : (decide ((absL l) ≥ 1)) = true) (h3 : (decide ((absL l) ≤ 99)) = true) (h4 : (tv) = true) (h5 : (sv) = true) (h6 : decide (absL l ≥ 1) = labelB l) (h7 : decide (absL l ≤ 99) = true) : (cc : Bool) = (ownB 14 u l nm tv n1 n2 (sv && tv && cc)) := by
  first | (simp_all [ownB, win0]; done) | grind [ownB, win0]

theorem leaf_l4own_1 (u l : Int) (nm : ByteArray) (tv n1 n2 sv cc : Bool) (h0 : (nm.toList == []) = true) (h1 : (u == 0) = true) (h2 : (decide ((absL l) ≥ 1)) = true) (h3 : (decide ((absL l) ≤ 99)) = true) (h4 : (tv) = true) (h5 : (sv) = false) (h6 : decide (absL l ≥ 1) = labelB l) (h7 : decide (absL l ≤ 99) = true) : (false : Bool) = (ownB 14 u l nm tv n1 n2 (sv && tv && cc)) := by
  first | (simp_all [ownB, win0]; done) | grind [ownB, win0]

theorem leaf_l4own_2 (u l : Int) (nm : ByteArray) (tv n1 n2 sv cc : Bool) (h0 : (nm.toList == []) = true) (h1 : (u == 0) = true) (h2 : (decide ((absL l) ≥ 1)) = true) (h3 : (decide ((absL l) ≤ 99)) = true) (h4 : (tv) = false) (h5 : decide (absL l ≥ 1) = labelB l) (h6 : decide (absL l ≤ 99) = true) : (false : Bool) = (ownB 14 u l nm tv n1 n2 (sv && tv && cc)) := by
  first | (simp_all [ownB, win0]; done) | grind [ownB, win0]

theorem leaf_l4own_3 (u l : Int) (nm : ByteArray) (tv n1 n2 sv cc : Bool) (h0 : (nm.toList == []) = true) (h1 : (u == 0) = true) (h2 : (decide ((absL l) ≥ 1)) = true) (h3 : (decide ((absL l) ≤ 99)) = false) (h4 : decide (absL l ≥ 1) = labelB l) (h5 : decide (absL l ≤ 99) = true) : (false : Bool) = (ownB 14 u l nm tv n1 n2 (sv && tv && cc)) := by
  first | (simp_all [ownB, win0]; done) | grind [ownB, win0]

theorem leaf_l4own_4 (u l : Int) (nm : ByteArray) (tv n1 n2 sv cc : Bool) (h0 : (nm.toList == []) = true) (h1 : (u == 0) = true) (h2 : (decide ((absL l) ≥ 1)) = false) (h3 : decide (absL l ≥ 1) = labelB l) (h4 : decide (absL l ≤ 99) = true) : (false : Bool) = (ownB 14 u l nm tv n1 n2 (sv && tv && cc)) := by
  first | (simp_all [ownB, win0]; done) | grind [ownB, win0]

theorem leaf_l4own_5 (u l : Int) (nm : ByteArray) (tv n1 n2 sv cc : Bool) (h0 : (nm.toList == []) = true) (h1 : (u == 0) = false) (h2 : decide (absL l ≥ 1) = labelB l) (h3 : decide (absL l ≤ 99) = true) : (false : Bool) = (ownB 14 u l nm tv n1 n2 (sv && tv && cc)) := by
  first | (simp_all [ownB, win0]; done) | grind [ownB, win0]

theorem leaf_l4own_6 (u l : Int) (nm : ByteArray) (tv n1 n2 sv cc : Bool) (h0 : (nm.toList == []) = false) (h1 : decide (absL l ≥ 1) = labelB l) (h2 : decide (absL l ≤ 99) = true) : (false : Bool) = (ownB 14 u l nm tv n1 n2 (sv && tv && cc)) := by
  first | (simp_all [ownB, win0]; done) | grind [ownB, win0]

theorem implNodeOk (F : Nat → Prop) (t : Tm) (y : Value) (w : World) (hy : TmRep F w t y) :
    Calls Try.prog 52 #[y] w fun e w' => e = .returned (.bool (t.nodeB)) ∧ Below w.heap.size w w' := by
  obtain ⟨k, nm, u, tk, ta, tn, tq, fk, fa, fn, fq, l, c, m, q, rfl⟩ := hy.shape
  obtain ⟨r1, r2, r3, r4, r5, r6, r7, r8, r9, rn, rm, rq, hty, hsr, hks⟩ := hy.parts
  have h1 := fun W (h : Below w.heap.size w W) => implTypeValid F t.type _ W (hty.below h)
  have h2 := fun W (h : Below w.heap.size w W) => implIsNoType tk ta tn tq W
  have h4 := fun W (h : Below w.heap.size w W) => implIsNoType fk fa fn fq W
  have h3 := fun W (h : Below w.heap.size w W) => implConsistent F F t.src t.type _ _ W (hsr.below h) (hty.below h)
  have e1 : t.type.noneB = noneB tk tn := by unfold Ty.noneB; rw [r4, r5]
  have e2 : t.src.noneB = noneB fk fn := by unfold Ty.noneB; rw [r6, r7]
  rw [← e1] at h2
  rw [← e2] at h4
  have e : nodeB k u l nm m t.type.valid t.type.noneB t.src.noneB (t.src.valid && t.type.valid && t.src.cons t.type) = t.nodeB := by unfold Tm.nodeB Tm.ownB nodeB; rw [r1, r2, r3, r8, r9]
  rw [← e]
  rcases kinds6 k with rfl | rfl | rfl | rfl | rfl | ⟨z0, z1, z2, z3, z4⟩
  · exact implNodeOk_1 u tk fk l nm ta fa c tn tq fn fq m q w _ _ _ (t.src.valid && t.type.valid && t.src.cons t.type) (Lib.hid h1) (Lib.hid h2) (Lib.hid h4) (Lib.hid h3)
  · exact implNodeOk_2 u tk fk l nm ta fa c tn tq fn fq m q w _ _ _ (t.src.valid && t.type.valid && t.src.cons t.type) (Lib.hid h1) (Lib.hid h2) (Lib.hid h4) (Lib.hid h3)
  · exact implNodeOk_5 u tk fk l nm ta fa c tn tq fn fq m q w _ _ _ (t.src.valid && t.type.valid && t.src.cons t.type) (Lib.hid h1) (Lib.hid h2) (Lib.hid h4) (Lib.hid h3)
  · exact implNodeOk_13 u tk fk l nm ta fa c tn tq fn fq m q w _ _ _ (t.src.valid && t.type.valid && t.src.cons t.type) (Lib.hid h1) (Lib.hid h2) (Lib.hid h4) (Lib.hid h3)
  · exact implNodeOk_14 u tk fk l nm ta fa c tn tq fn fq m q w _ _ _ (t.src.valid && t.type.valid && t.src.cons t.type) (Lib.hid h1) (Lib.hid h2) (Lib.hid h4) (Lib.hid h3)
  · exact implNodeOk_k k u tk fk l nm ta fa c tn tq fn fq m q w _ _ _ (t.src.valid && t.type.valid && t.src.cons t.type) z0 z1 z2 z3 z4 (Lib.hid h1) (Lib.hid h2) (Lib.hid h4) (Lib.hid h3)
theorem specL2Own (F : Nat → Prop) (t : Tm) (y : Value) (w : World) (hy : TmRep F w t y) (hk : (t.kind == 14) = false) :
    Calls Try.prog 44 #[y] w fun e w' => e = .returned (.bool (t.ownB)) ∧ Below w.heap.size w w' := by
  obtain ⟨k, nm, u, tk, ta, tn, tq, fk, fa, fn, fq, l, c, m, q, rfl⟩ := hy.shape
  obtain ⟨r1, r2, r3, r4, r5, r6, r7, r8, r9, rn, rm, rq, hty, hsr, hks⟩ := hy.parts
  have h1 := fun W (h : Below w.heap.size w W) => specTypeValid F t.type _ W (hty.below h)
  have h2 := fun W (h : Below w.heap.size w W) => specL2None tk ta tn tq W
  have h4 := fun W (h : Below w.heap.size w W) => specL2None fk fa fn fq W
  have e1 : t.type.noneB = noneB tk tn := by unfold Ty.noneB; rw [r4, r5]
  have e2 : t.src.noneB = noneB fk fn := by unfold Ty.noneB; rw [r6, r7]
  rw [← e1] at h2
  rw [← e2] at h4
  have e : ownB k u l nm t.type.valid t.type.noneB t.src.noneB (t.src.valid && t.type.valid && t.src.cons t.type) = t.ownB := by unfold Tm.ownB; rw [r1, r2, r3, r8]
  rw [← e]
  rw [← r1] at hk
  rcases kinds6 k with rfl | rfl | rfl | rfl | rfl | ⟨z0, z1, z2, z3, z4⟩
  · exact specL2Own_1 u tk fk l nm ta fa c tn tq fn fq m q w _ _ _ (t.src.valid && t.type.valid && t.src.cons t.type) (Lib.hid h1) (Lib.hid h2) (Lib.hid h4)
  · exact specL2Own_2 u tk fk l nm ta fa c tn tq fn fq m q w _ _ _ (t.src.valid && t.type.valid && t.src.cons t.type) (Lib.hid h1) (Lib.hid h2) (Lib.hid h4)
  · exact specL2Own_5 u tk fk l nm ta fa c tn tq fn fq m q w _ _ _ (t.src.valid && t.type.valid && t.src.cons t.type) (Lib.hid h1) (Lib.hid h2) (Lib.hid h4)
  · exact specL2Own_13 u tk fk l nm ta fa c tn tq fn fq m q w _ _ _ (t.src.valid && t.type.valid && t.src.cons t.type) (Lib.hid h1) (Lib.hid h2) (Lib.hid h4)
  · exact absurd hk (by decide)
  · exact specL2Own_k k u tk fk l nm ta fa c tn tq fn fq m q w _ _ _ (t.src.valid && t.type.valid && t.src.cons t.type) z0 z1 z2 z3 z4 (Lib.hid h1) (Lib.hid h2) (Lib.hid h4)
theorem specL1AbsB (n : Int) (w : World) : Calls Try.prog 61 #[.int .i64 n] w fun e w' => e = .returned (.int .i64 (absL n)) ∧ Below w.heap.size w w' := (specL1Abs n w).mono fun e w' h => ⟨h.1, h.2 ▸ Below.refl _ _⟩
theorem absL_le (n : Int) : decide (absL n ≤ 99) = true := by unfold absL; simp only [decide_eq_true_eq]; split <;> (try split) <;> omega
set_option maxHeartbeats 4000000 in
theorem specL4Own_14 (u tk fk l : Int) (nm : ByteArray) (ta fa c : Option Addr) (tn tq fn fq m q : Nat) (tv n1 n2 sv cc : Bool) (w : World) (H1 : Hid (∀ W, Below w.heap.size w W → Calls Try.prog 50 #[.agg #[.int .i64 tk, .slice ta tn tq]] W fun e W' => e = .returned (.bool (tv)) ∧ Below W.heap.size W W')) (H2 : Hid (∀ W, Below w.heap.size w W → Calls Try.prog 50 #[.agg #[.int .i64 fk, .slice fa fn fq]] W fun e W' => e = .returned (.bool (sv)) ∧ Below W.heap.size W W')) (H3 : Hid (tv = true → sv = true → ∀ W, Below w.heap.size w W → Calls Try.prog 62 #[.agg #[.int .i64 fk, .slice fa fn fq], .agg #[.int .i64 tk, .slice ta tn tq]] W fun e W' => e = .returned (.bool (cc)) ∧ Below W.heap.size W W')) :
    Calls Try.prog 43 #[.agg #[.int .i64 14, .string nm, .int .i64 u, .int .i64 tk, .slice ta tn tq, .int .i64 fk, .slice fa fn fq, .int .i64 l, .slice c m q]] w fun e w' => e = .returned (.bool (ownB 14 u l nm tv n1 n2 (sv && tv && cc))) ∧ Below w.heap.size w w' := by
  obtain ⟨rr, hrr⟩ : ∃ rr0 : Bool, (ownB 14 u l nm tv n1 n2 (sv && tv && cc)) = rr0 := ⟨_, rfl⟩
  rw [hrr]
  have HT := Lib.hid hrr
  clear hrr
  go_enter Try.func43, Try.ntmps43
  go_wp2_with fail
  refine (specL1AbsB l _).mono ?_
  rintro e w1 ⟨rfl, hb1⟩
  have hB := (bstep bal1 hb1)
  have zw1 := hB.size
  have c0_1 : w1.cell? ⟨w.heap.size, 1, none⟩ = some (.string nm) := bcell hb1 (cell_new (by simp) 1)
  have c0_2 : w1.cell? ⟨w.heap.size, 2, none⟩ = some (.int .i64 u) := bcell hb1 (cell_new (by simp) 2)
  have c0_3 : w1.cell? ⟨w.heap.size, 3, none⟩ = some (.int .i64 tk) := bcell hb1 (cell_new (by simp) 3)
  have c0_4 : w1.cell? ⟨w.heap.size, 4, none⟩ = some (.slice ta tn tq) := bcell hb1 (cell_new (by simp) 4)
  have c0_5 : w1.cell? ⟨w.heap.size, 5, none⟩ = some (.int .i64 fk) := bcell hb1 (cell_new (by simp) 5)
  have c0_6 : w1.cell? ⟨w.heap.size, 6, none⟩ = some (.slice fa fn fq) := bcell hb1 (cell_new (by simp) 6)
  have d0_w1 := World.block_lt_of_cell? _ _ c0_1
  rcases Bool.eq_false_or_eq_true (nm.toList == []) with q1 | q1
  · skip
    have nq1 : (nm.toList != []) = false := by simp only [bne, q1]; rfl
    rcases Bool.eq_false_or_eq_true (u == 0) with q2 | q2
    · skip
      have nq2 : (u != 0) = false := by simp only [bne, q2]; rfl
      rcases Bool.eq_false_or_eq_true (decide ((absL l) ≥ 1)) with q3 | q3
      · skip
        rcases Bool.eq_false_or_eq_true (decide ((absL l) ≤ 99)) with q4 | q4
        · skip
          rcases Bool.eq_false_or_eq_true (tv) with q5 | q5
          · have Hq5 := Lib.hid q5
            clear q5
            rcases Bool.eq_false_or_eq_true (sv) with q6 | q6
            · have Hq6 := Lib.hid q6
              clear q6
              go_wp2_with fail
              refine (H1.out _ hB).mono ?_
              rintro e w2 ⟨rfl, hb2⟩
              rw [Hq5.out]
              replace hB := (bstep hB hb2)
              have zw2 := hB.size
              replace c0_5 : w2.cell? ⟨w.heap.size, 5, none⟩ = some (.int .i64 fk) := bcell hb2 (c0_5)
              replace c0_6 : w2.cell? ⟨w.heap.size, 6, none⟩ = some (.slice fa fn fq) := bcell hb2 (c0_6)
              replace c0_3 : w2.cell? ⟨w.heap.size, 3, none⟩ = some (.int .i64 tk) := bcell hb2 (c0_3)
              replace c0_4 : w2.cell? ⟨w.heap.size, 4, none⟩ = some (.slice ta tn tq) := bcell hb2 (c0_4)
              have d0_w2 := World.block_lt_of_cell? _ _ c0_5
              go_wp2_with fail
              refine (H2.out _ hB).mono ?_
              rintro e w3 ⟨rfl, hb3⟩
              rw [Hq6.out]
              replace hB := (bstep hB hb3)
              have zw3 := hB.size
              replace c0_5 : w3.cell? ⟨w.heap.size, 5, none⟩ = some (.int .i64 fk) := bcell hb3 (c0_5)
              replace c0_6 : w3.cell? ⟨w.heap.size, 6, none⟩ = some (.slice fa fn fq) := bcell hb3 (c0_6)
              replace c0_3 : w3.cell? ⟨w.heap.size, 3, none⟩ = some (.int .i64 tk) := bcell hb3 (c0_3)
              replace c0_4 : w3.cell? ⟨w.heap.size, 4, none⟩ = some (.slice ta tn tq) := bcell hb3 (c0_4)
              have d0_w3 := World.block_lt_of_cell? _ _ c0_5
              go_wp2_with fail
              refine (H3.out Hq5.out Hq6.out _ hB).mono ?_
              rintro e w4 ⟨rfl, hb4⟩
              replace hB := (bstep hB hb4)
              have zw4 := hB.size
              go_wp2_with fail
              refine bodyPost_ret (v := .bool (cc)) (by simp [results, Try.results43, go_sem, bne]) rfl ?_
              exact ⟨ret_bool ((leaf_l4own_0 u l nm tv n1 n2 sv cc q1 q2 q3 q4 Hq5.out Hq6.out (labelB_abs l) (absL_le l)).trans HT.out), hB⟩
            · have Hq6 := Lib.hid q6
              clear q6
              go_wp2_with fail
              refine (H1.out _ hB).mono ?_
              rintro e w5 ⟨rfl, hb5⟩
              rw [Hq5.out]
              replace hB := (bstep hB hb5)
              have zw5 := hB.size
              replace c0_5 : w5.cell? ⟨w.heap.size, 5, none⟩ = some (.int .i64 fk) := bcell hb5 (c0_5)
              replace c0_6 : w5.cell? ⟨w.heap.size, 6, none⟩ = some (.slice fa fn fq) := bcell hb5 (c0_6)
              have d0_w5 := World.block_lt_of_cell? _ _ c0_5
              go_wp2_with fail
              refine (H2.out _ hB).mono ?_
              rintro e w6 ⟨rfl, hb6⟩
              rw [Hq6.out]
              replace hB := (bstep hB hb6)
              have zw6 := hB.size
              go_wp2_with fail
              refine bodyPost_ret (v := .bool (false)) (by simp [results, Try.results43, go_sem, bne]) rfl ?_
              exact ⟨ret_bool ((leaf_l4own_1 u l nm tv n1 n2 sv cc q1 q2 q3 q4 Hq5.out Hq6.out (labelB_abs l) (absL_le l)).trans HT.out), hB⟩
          · have Hq5 := Lib.hid q5
            clear q5
            go_wp2_with fail
            refine (H1.out _ hB).mono ?_
            rintro e w7 ⟨rfl, hb7⟩
            rw [Hq5.out]
            replace hB := (bstep hB hb7)
            have zw7 := hB.size
            go_wp2_with fail
            refine bodyPost_ret (v := .bool (false)) (by simp [results, Try.results43, go_sem, bne]) rfl ?_
            exact ⟨ret_bool ((leaf_l4own_2 u l nm tv n1 n2 sv cc q1 q2 q3 q4 Hq5.out (labelB_abs l) (absL_le l)).trans HT.out), hB⟩
        · skip
          go_wp2_with fail
          refine bodyPost_ret (v := .bool (false)) (by simp [results, Try.results43, go_sem, bne]) rfl ?_
          exact ⟨ret_bool ((leaf_l4own_3 u l nm tv n1 n2 sv cc q1 q2 q3 q4 (labelB_abs l) (absL_le l)).trans HT.out), hB⟩
      · skip
        go_wp2_with fail
        refine bodyPost_ret (v := .bool (false)) (by simp [results, Try.results43, go_sem, bne]) rfl ?_
        exact ⟨ret_bool ((leaf_l4own_4 u l nm tv n1 n2 sv cc q1 q2 q3 (labelB_abs l) (absL_le l)).trans HT.out), hB⟩
    · skip
      have nq2 : (u != 0) = true := by simp only [bne, q2]; rfl
      go_wp2_with fail
      refine bodyPost_ret (v := .bool (false)) (by simp [results, Try.results43, go_sem, bne]) rfl ?_
      exact ⟨ret_bool ((leaf_l4own_5 u l nm tv n1 n2 sv cc q1 q2 (labelB_abs l) (absL_le l)).trans HT.out), hB⟩
  · skip
    have nq1 : (nm.toList != []) = true := by simp only [bne, q1]; rfl
    go_wp2_with fail
    refine bodyPost_ret (v := .bool (false)) (by simp [results, Try.results43, go_sem, bne]) rfl ?_
    exact ⟨ret_bool ((leaf_l4own_6 u l nm tv n1 n2 sv cc q1 (labelB_abs l) (absL_le l)).trans HT.out), hB⟩
theorem specL4Own (F : Nat → Prop) (t : Tm) (y : Value) (w : World) (hy : TmRep F w t y) (hk : (t.kind == 14) = true) :
    Calls Try.prog 43 #[y] w fun e w' => e = .returned (.bool (t.ownB)) ∧ Below w.heap.size w w' := by
  obtain ⟨k, nm, u, tk, ta, tn, tq, fk, fa, fn, fq, l, c, m, q, rfl⟩ := hy.shape
  obtain ⟨r1, r2, r3, r4, r5, r6, r7, r8, r9, rn, rm, rq, hty, hsr, hks⟩ := hy.parts
  have h1 := fun W (h : Below w.heap.size w W) => specTypeValid F t.type _ W (hty.below h)
  have h2 := fun W (h : Below w.heap.size w W) => specTypeValid F t.src _ W (hsr.below h)
  have h3 := fun (a : t.type.valid = true) (b : t.src.valid = true) W (h : Below w.heap.size w W) => specL1Consistent F F t.src t.type _ _ _ _ W (hsr.below h) (hty.below h) b a
  have e : ownB k u l nm t.type.valid t.type.noneB t.src.noneB (t.src.valid && t.type.valid && t.src.cons t.type) = t.ownB := by unfold Tm.ownB; rw [r1, r2, r3, r8]
  rw [← e]
  rw [← r1] at hk
  obtain rfl : k = 14 := by simpa using hk
  exact specL4Own_14 u tk fk l nm ta fa c tn tq fn fq m q _ _ _ _ _ w (Lib.hid h1) (Lib.hid h2) (Lib.hid h3)
end Go.Proofs.Ytkhmkohgnikcmaa
namespace Go.Proofs.Ytkhmkohgnikcmaa
open Go.RowKit
set_option linter.unusedVariables false
set_option linter.unusedSimpArgs false
set_option maxRecDepth 100000

theorem TysNew.nil (B : Nat) (w : World) : TysNew B w [] (.slice none 0 0) := ⟨[], COwn.sl_nil (by unfold maxLen; omega), List.nodup_nil, by simp⟩
/-- Two types of one's own, in one new block. -/
theorem TysNew.two {B : Nat} {w w' : World} {t u : Ty} {k1 k2 : Int} {s1 s2 : Value} {T : TypeId} {f1 f2 : List Nat} (h1 : SOwn w t.row [.int .i64 k1, s1] f1) (h2 : SOwn w u.row [.int .i64 k2, s2] f2) (hd : (f1 ++ f2).Nodup) (hB : ∀ b ∈ f1 ++ f2, B ≤ b) (hBw : B ≤ w.heap.size)
    (hk : Below w.heap.size w w') (hh : w'.heap[w.heap.size]? = some (.cells #[.int .i64 k1, s1, .int .i64 k2, s2] T (0, 0))) : TysNew B w' [t, u] (.slice (some ⟨w.heap.size, 0, none⟩) 2 2) := by
  have hr : SRows w (Ty.rows [t, u]) [.int .i64 k1, s1, .int .i64 k2, s2] (f1 ++ f2) := by
    unfold Ty.rows
    refine ⟨[_, _], [_, _], f1, f2, rfl, rfl, h1, ?_⟩
    unfold Ty.rows
    refine ⟨[_, _], [], f2, [], rfl, by simp, h2, ?_⟩
    unfold Ty.rows
    exact ⟨rfl, rfl⟩
  have hlt := SRows.lt _ _ _ hr
  have hr' := hr.move _ _ _ fun b hb => hk.block b (hlt b hb)
  have ho : RowsOwn w' w.heap.size 0 (Ty.rows [t, u]) (f1 ++ f2) := hr'.rows _ _ _ 0 (fun i hi => by
    simp only [World.cell?, hh]
    simp)
  obtain ⟨fp, k1, k2, k3⟩ := COwn.sl_mk (n := 2) (cap := 2) hh (by rw [Ty.rows_length]; rfl) (Nat.le_refl _) (by unfold maxLen; omega) ho
  exact ⟨fp, k1, k3 hd (fun h => by have := hlt _ h; omega), fun b hb => by rcases k2 b hb with rfl | hb; exact hBw; exact hB b hb⟩

set_option maxHeartbeats 1000000 in
theorem implBoth (B : Nat) (kk : Int) (t u : Ty) (y z : Value) (w : World) (f1 f2 : List Nat) (hy : TyOwn w t y f1) (hz : TyOwn w u z f2) (hd : (f1 ++ f2).Nodup) (hB : ∀ b ∈ f1 ++ f2, B ≤ b) (hBw : B ≤ w.heap.size) :
    Calls Try.prog 56 #[.int .i64 kk, y, z] w fun e w' => ∃ v, e = .returned v ∧ TyNew B w' (.mk kk [t, u]) v ∧ Below w.heap.size w w' := by
  obtain ⟨k1, a1, n1, q1, rfl, -, -⟩ := hy.shape
  obtain ⟨k2, a2, n2, q2, rfl, -, -⟩ := hz.shape
  have h1 := TyOwn.cells (hy.below (bal3 (o := .cells #[.int .i64 k1, .slice a1 n1 q1] 31) (o' := .cells #[.int .i64 k2, .slice a2 n2 q2] 31) (o2 := .cells #[.int .i64 kk, .slice (some ⟨w.heap.size + 1 + 1 + 1, 0, none⟩) 2 2] 31)))
  have h2 := TyOwn.cells (hz.below (bal3 (o := .cells #[.int .i64 k1, .slice a1 n1 q1] 31) (o' := .cells #[.int .i64 k2, .slice a2 n2 q2] 31) (o2 := .cells #[.int .i64 kk, .slice (some ⟨w.heap.size + 1 + 1 + 1, 0, none⟩) 2 2] 31)))
  have h := TysNew.two (B := B) (T := 31) h1 h2 hd hB (by simp; omega) (bal1 (o := .cells #[.int .i64 k1, .slice a1 n1 q1, .int .i64 k2, .slice a2 n2 q2] 31)) (heap_alloc_new _ _)
  have e : ∀ o1 o2 o3, (((w.alloc o1).alloc o2).alloc o3).heap.size = w.heap.size + 1 + 1 + 1 := by intros; simp
  rw [e] at h
  have HH := Lib.hid h
  clear h h1 h2 e hy hz hd hB
  go_enter Try.func56, Try.ntmps56
  go_wp2_with fail
  refine bodyPost_ret (v := .agg #[.int .i64 kk, .slice (some ⟨w.heap.size + 1 + 1 + 1, 0, none⟩) 2 2]) (by simp [results, Try.results56, go_sem]) rfl ?_
  exact ⟨_, rfl, TysNew.ty HH.out, bstep bal3 bal1⟩

end Go.Proofs.Ytkhmkohgnikcmaa
namespace Go.Proofs.Ytkhmkohgnikcmaa
open Go.RowKit
set_option linter.unusedVariables false
set_option linter.unusedSimpArgs false
set_option maxRecDepth 100000

end Go.Proofs.Ytkhmkohgnikcmaa
