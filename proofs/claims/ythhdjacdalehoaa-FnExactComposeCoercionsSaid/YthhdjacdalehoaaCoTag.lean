/-
  The tag of a coercion, both sides.
-/
import Derived.Test.YthhdjacdalehoaaCoHgt
namespace Go.Proofs.Ythhdjacdalehoaa
open Go.RowKit
set_option linter.unusedVariables false
set_option linter.unusedSimpArgs false
set_option maxRecDepth 100000

mutual
def Co.tagV : Co → Int
  | .mk k g _ ts => if k == 2 then 4 else if k == 3 then 5 else if k == 4 then Co.tagVs ts else g
def Co.tagVs : List Co → Int
  | [] => 0
  | t :: _ => t.tagV
end
theorem Co.node_of {k g l : Int} {ts : List Co} {d : Int} (h : (Co.mk k g l ts).shape d = true) : (k = 1 ∨ k = 2 ∨ k = 3 ∨ k = 4 ∨ k = 5 ∨ k = 6) ∧ (k = 5 → g = 0) := by
  have h1 := Co.shape_parts h
  unfold Co.shape at h
  simp only [Bool.and_eq_true, Co.nodeB] at h
  have h2 := h.1.2.1.1.1.2
  constructor
  · have hk := h1.1
    unfold coOps at hk
    split at hk
    · omega
    · split at hk
      · omega
      · split at hk <;> omega
  · rintro rfl
    simpa using h2
theorem Co.kids_nil {k g l : Int} {ts : List Co} {d : Int} (h : (Co.mk k g l ts).shape d = true) (hk : ts = []) : k = 1 ∨ k = 6 := by
  have h1 := (Co.shape_parts h).1
  have h2 := (Co.node_of h).1
  subst hk
  rcases h2 with rfl | rfl | rfl | rfl | rfl | rfl <;> simp [coOps] at h1 <;> simp
theorem leaf_implTagn_0 (k g t0 : Int) (h0 : (k == 4) = false) (h1 : (k == 2) = true) (h2 : k = 1 ∨ k = 2 ∨ k = 3 ∨ k = 4 ∨ k = 5 ∨ k = 6) (h3 : k = 5 → g = 0) : (4 : Int) = (if k == 2 then 4 else if k == 3 then 5 else if k == 4 then t0 else g) := by
  first | (simp_all; done) | grind

theorem leaf_implTagn_1 (k g t0 : Int) (h0 : (k == 4) = false) (h1 : (k == 2) = false) (h2 : (k == 3) = true) (h3 : k = 1 ∨ k = 2 ∨ k = 3 ∨ k = 4 ∨ k = 5 ∨ k = 6) (h4 : k = 5 → g = 0) : (5 : Int) = (if k == 2 then 4 else if k == 3 then 5 else if k == 4 then t0 else g) := by
  first | (simp_all; done) | grind

theorem leaf_implTagn_2 (k g t0 : Int) (h0 : (k == 4) = false) (h1 : (k == 2) = false) (h2 : (k == 3) = false) (h3 : (k == 1) = true) (h4 : k = 1 ∨ k = 2 ∨ k = 3 ∨ k = 4 ∨ k = 5 ∨ k = 6) (h5 : k = 5 → g = 0) : (g : Int) = (if k == 2 then 4 else if k == 3 then 5 else if k == 4 then t0 else g) := by
  first | (simp_all; done) | grind

theorem leaf_implTagn_3 (k g t0 : Int) (h0 : (k == 4) = false) (h1 : (k == 2) = false) (h2 : (k == 3) = false) (h3 : (k == 1) = false) (h4 : (k == 6) = true) (h5 : k = 1 ∨ k = 2 ∨ k = 3 ∨ k = 4 ∨ k = 5 ∨ k = 6) (h6 : k = 5 → g = 0) : (g : Int) = (if k == 2 then 4 else if k == 3 then 5 else if k == 4 then t0 else g) := by
  first | (simp_all; done) | grind

theorem leaf_implTagn_4 (k g t0 : Int) (h0 : (k == 4) = false) (h1 : (k == 2) = false) (h2 : (k == 3) = false) (h3 : (k == 1) = false) (h4 : (k == 6) = false) (h5 : k = 1 ∨ k = 2 ∨ k = 3 ∨ k = 4 ∨ k = 5 ∨ k = 6) (h6 : k = 5 → g = 0) : (0 : Int) = (if k == 2 then 4 else if k == 3 then 5 else if k == 4 then t0 else g) := by
  first | (simp_all; done) | grind

theorem leaf_implTagc_5 (k g t0 : Int) (h0 : (k == 2) = true) (h1 : k = 1 ∨ k = 2 ∨ k = 3 ∨ k = 4 ∨ k = 5 ∨ k = 6) (h2 : k = 5 → g = 0) : (4 : Int) = (if k == 2 then 4 else if k == 3 then 5 else if k == 4 then t0 else g) := by
  first | (simp_all; done) | grind

theorem leaf_implTagc_6 (k g t0 : Int) (h0 : (k == 2) = false) (h1 : (k == 3) = true) (h2 : k = 1 ∨ k = 2 ∨ k = 3 ∨ k = 4 ∨ k = 5 ∨ k = 6) (h3 : k = 5 → g = 0) : (5 : Int) = (if k == 2 then 4 else if k == 3 then 5 else if k == 4 then t0 else g) := by
  first | (simp_all; done) | grind

theorem leaf_implTagc_7 (k g t0 : Int) (h0 : (k == 2) = false) (h1 : (k == 3) = false) (h2 : (k == 4) = true) (h3 : k = 1 ∨ k = 2 ∨ k = 3 ∨ k = 4 ∨ k = 5 ∨ k = 6) (h4 : k = 5 → g = 0) : (t0 : Int) = (if k == 2 then 4 else if k == 3 then 5 else if k == 4 then t0 else g) := by
  first | (simp_all; done) | grind

theorem leaf_implTagc_8 (k g t0 : Int) (h0 : (k == 2) = false) (h1 : (k == 3) = false) (h2 : (k == 4) = false) (h3 : (k == 1) = true) (h4 : k = 1 ∨ k = 2 ∨ k = 3 ∨ k = 4 ∨ k = 5 ∨ k = 6) (h5 : k = 5 → g = 0) : (g : Int) = (if k == 2 then 4 else if k == 3 then 5 else if k == 4 then t0 else g) := by
  first | (simp_all; done) | grind

theorem leaf_implTagc_9 (k g t0 : Int) (h0 : (k == 2) = false) (h1 : (k == 3) = false) (h2 : (k == 4) = false) (h3 : (k == 1) = false) (h4 : (k == 6) = true) (h5 : k = 1 ∨ k = 2 ∨ k = 3 ∨ k = 4 ∨ k = 5 ∨ k = 6) (h6 : k = 5 → g = 0) : (g : Int) = (if k == 2 then 4 else if k == 3 then 5 else if k == 4 then t0 else g) := by
  first | (simp_all; done) | grind

theorem leaf_implTagc_10 (k g t0 : Int) (h0 : (k == 2) = false) (h1 : (k == 3) = false) (h2 : (k == 4) = false) (h3 : (k == 1) = false) (h4 : (k == 6) = false) (h5 : k = 1 ∨ k = 2 ∨ k = 3 ∨ k = 4 ∨ k = 5 ∨ k = 6) (h6 : k = 5 → g = 0) : (0 : Int) = (if k == 2 then 4 else if k == 3 then 5 else if k == 4 then t0 else g) := by
  first | (simp_all; done) | grind

theorem leaf_specTagn_11 (k g t0 : Int) (h0 : (k == 4) = false) (h1 : (k == 2) = true) (h2 : k = 1 ∨ k = 2 ∨ k = 3 ∨ k = 4 ∨ k = 5 ∨ k = 6) (h3 : k = 5 → g = 0) : (4 : Int) = (if k == 2 then 4 else if k == 3 then 5 else if k == 4 then t0 else g) := by
  first | (simp_all; done) | grind

theorem leaf_specTagn_12 (k g t0 : Int) (h0 : (k == 4) = false) (h1 : (k == 2) = false) (h2 : (k == 3) = true) (h3 : k = 1 ∨ k = 2 ∨ k = 3 ∨ k = 4 ∨ k = 5 ∨ k = 6) (h4 : k = 5 → g = 0) : (5 : Int) = (if k == 2 then 4 else if k == 3 then 5 else if k == 4 then t0 else g) := by
  first | (simp_all; done) | grind

theorem leaf_specTagn_13 (k g t0 : Int) (h0 : (k == 4) = false) (h1 : (k == 2) = false) (h2 : (k == 3) = false) (h3 : k = 1 ∨ k = 2 ∨ k = 3 ∨ k = 4 ∨ k = 5 ∨ k = 6) (h4 : k = 5 → g = 0) : (g : Int) = (if k == 2 then 4 else if k == 3 then 5 else if k == 4 then t0 else g) := by
  first | (simp_all; done) | grind

theorem leaf_specTagc_14 (k g t0 : Int) (h0 : (k == 2) = true) (h1 : k = 1 ∨ k = 2 ∨ k = 3 ∨ k = 4 ∨ k = 5 ∨ k = 6) (h2 : k = 5 → g = 0) : (4 : Int) = (if k == 2 then 4 else if k == 3 then 5 else if k == 4 then t0 else g) := by
  first | (simp_all; done) | grind

theorem leaf_specTagc_15 (k g t0 : Int) (h0 : (k == 2) = false) (h1 : (k == 3) = true) (h2 : k = 1 ∨ k = 2 ∨ k = 3 ∨ k = 4 ∨ k = 5 ∨ k = 6) (h3 : k = 5 → g = 0) : (5 : Int) = (if k == 2 then 4 else if k == 3 then 5 else if k == 4 then t0 else g) := by
  first | (simp_all; done) | grind

theorem leaf_specTagc_16 (k g t0 : Int) (h0 : (k == 2) = false) (h1 : (k == 3) = false) (h2 : (k == 4) = true) (h3 : k = 1 ∨ k = 2 ∨ k = 3 ∨ k = 4 ∨ k = 5 ∨ k = 6) (h4 : k = 5 → g = 0) : (t0 : Int) = (if k == 2 then 4 else if k == 3 then 5 else if k == 4 then t0 else g) := by
  first | (simp_all; done) | grind

theorem leaf_specTagc_17 (k g t0 : Int) (h0 : (k == 2) = false) (h1 : (k == 3) = false) (h2 : (k == 4) = false) (h3 : k = 1 ∨ k = 2 ∨ k = 3 ∨ k = 4 ∨ k = 5 ∨ k = 6) (h4 : k = 5 → g = 0) : (g : Int) = (if k == 2 then 4 else if k == 3 then 5 else if k == 4 then t0 else g) := by
  first | (simp_all; done) | grind

set_option maxHeartbeats 2000000 in
theorem implTag_n (k g l t0 : Int) (a : Option Addr) (n q : Nat) (w : World) (z4 : (k == 4) = false) (HK : Hid (k = 1 ∨ k = 2 ∨ k = 3 ∨ k = 4 ∨ k = 5 ∨ k = 6)) (HG : Hid (k = 5 → g = 0)) :
    Calls Try.prog 48 #[.agg #[.int .i64 k, .int .i64 g, .int .i64 l, .slice a n q]] w fun e w' => e = .returned (.int .i64 (if k == 2 then 4 else if k == 3 then 5 else if k == 4 then t0 else g)) ∧ Below w.heap.size w w' := by
  obtain ⟨rr, hrr⟩ : ∃ rr0 : Int, (if k == 2 then 4 else if k == 3 then 5 else if k == 4 then t0 else g) = rr0 := ⟨_, rfl⟩
  rw [hrr]
  have HT := Lib.hid hrr
  clear hrr
  have nz4 : (k != 4) = true := by simp only [bne, z4]; rfl
  go_enter Try.func48, Try.ntmps48
  rcases Bool.eq_false_or_eq_true (k == 2) with q1 | q1
  · (try rw [q1])
    have nq1 : (k != 2) = false := by simp only [bne, q1]; rfl
    go_wp2_with fail
    refine bodyPost_ret (v := .int .i64 (4)) (by simp [results, Try.results48, go_sem, bne]) rfl ?_
    exact ⟨ret_int ((leaf_implTagn_0 k g t0 z4 q1 HK.out HG.out).trans HT.out), bal1⟩
  · (try rw [q1])
    have nq1 : (k != 2) = true := by simp only [bne, q1]; rfl
    rcases Bool.eq_false_or_eq_true (k == 3) with q2 | q2
    · (try rw [q2])
      have nq2 : (k != 3) = false := by simp only [bne, q2]; rfl
      go_wp2_with fail
      refine bodyPost_ret (v := .int .i64 (5)) (by simp [results, Try.results48, go_sem, bne]) rfl ?_
      exact ⟨ret_int ((leaf_implTagn_1 k g t0 z4 q1 q2 HK.out HG.out).trans HT.out), bal1⟩
    · (try rw [q2])
      have nq2 : (k != 3) = true := by simp only [bne, q2]; rfl
      rcases Bool.eq_false_or_eq_true (k == 1) with q3 | q3
      · (try rw [q3])
        have nq3 : (k != 1) = false := by simp only [bne, q3]; rfl
        go_wp2_with fail
        refine bodyPost_ret (v := .int .i64 (g)) (by simp [results, Try.results48, go_sem, bne]) rfl ?_
        exact ⟨ret_int ((leaf_implTagn_2 k g t0 z4 q1 q2 q3 HK.out HG.out).trans HT.out), bal1⟩
      · (try rw [q3])
        have nq3 : (k != 1) = true := by simp only [bne, q3]; rfl
        rcases Bool.eq_false_or_eq_true (k == 6) with q4 | q4
        · (try rw [q4])
          have nq4 : (k != 6) = false := by simp only [bne, q4]; rfl
          go_wp2_with fail
          refine bodyPost_ret (v := .int .i64 (g)) (by simp [results, Try.results48, go_sem, bne]) rfl ?_
          exact ⟨ret_int ((leaf_implTagn_3 k g t0 z4 q1 q2 q3 q4 HK.out HG.out).trans HT.out), bal1⟩
        · (try rw [q4])
          have nq4 : (k != 6) = true := by simp only [bne, q4]; rfl
          go_wp2_with fail
          refine bodyPost_ret (v := .int .i64 (0)) (by simp [results, Try.results48, go_sem, bne]) rfl ?_
          exact ⟨ret_int ((leaf_implTagn_4 k g t0 z4 q1 q2 q3 q4 HK.out HG.out).trans HT.out), bal1⟩
set_option maxHeartbeats 2000000 in
theorem implTag_c (k g l t0 k0 g0 l0 : Int) (b off n q : Nat) (a0 : Option Addr) (n0 q0 : Nat) (w : World) (HK : Hid (k = 1 ∨ k = 2 ∨ k = 3 ∨ k = 4 ∨ k = 5 ∨ k = 6)) (HG : Hid (k = 5 → g = 0)) (hn : 0 < n) (hq : n ≤ q) (hq2 : q ≤ 9223372036854775807) (e0 : w.cell? ⟨b, off, none⟩ = some (.int .i64 k0)) (e1 : w.cell? ⟨b, off + 1, none⟩ = some (.int .i64 g0)) (e2 : w.cell? ⟨b, off + 2, none⟩ = some (.int .i64 l0)) (e3 : w.cell? ⟨b, off + 3, none⟩ = some (.slice a0 n0 q0)) (H0 : Hid (∀ W, Below w.heap.size w W → Calls Try.prog 48 #[.agg #[.int .i64 k0, .int .i64 g0, .int .i64 l0, .slice a0 n0 q0]] W fun e W' => e = .returned (.int .i64 (t0)) ∧ Below W.heap.size W W')) :
    Calls Try.prog 48 #[.agg #[.int .i64 k, .int .i64 g, .int .i64 l, .slice (some ⟨b, off, none⟩) n q]] w fun e w' => e = .returned (.int .i64 (if k == 2 then 4 else if k == 3 then 5 else if k == 4 then t0 else g)) ∧ Below w.heap.size w w' := by
  have hn0 : (0 : Int) < (n : Int) := by omega
  obtain ⟨rr, hrr⟩ : ∃ rr0 : Int, (if k == 2 then 4 else if k == 3 then 5 else if k == 4 then t0 else g) = rr0 := ⟨_, rfl⟩
  rw [hrr]
  have HT := Lib.hid hrr
  clear hrr
  have lb : b < w.heap.size := World.block_lt_of_cell? _ _ e0
  go_enter Try.func48, Try.ntmps48
  rcases Bool.eq_false_or_eq_true (k == 2) with q1 | q1
  · (try rw [q1])
    have nq1 : (k != 2) = false := by simp only [bne, q1]; rfl
    go_wp2_with fail
    refine bodyPost_ret (v := .int .i64 (4)) (by simp [results, Try.results48, go_sem, bne]) rfl ?_
    exact ⟨ret_int ((leaf_implTagc_5 k g t0 q1 HK.out HG.out).trans HT.out), bal1⟩
  · (try rw [q1])
    have nq1 : (k != 2) = true := by simp only [bne, q1]; rfl
    rcases Bool.eq_false_or_eq_true (k == 3) with q2 | q2
    · (try rw [q2])
      have nq2 : (k != 3) = false := by simp only [bne, q2]; rfl
      go_wp2_with fail
      refine bodyPost_ret (v := .int .i64 (5)) (by simp [results, Try.results48, go_sem, bne]) rfl ?_
      exact ⟨ret_int ((leaf_implTagc_6 k g t0 q1 q2 HK.out HG.out).trans HT.out), bal1⟩
    · (try rw [q2])
      have nq2 : (k != 3) = true := by simp only [bne, q2]; rfl
      rcases Bool.eq_false_or_eq_true (k == 4) with q3 | q3
      · (try rw [q3])
        have nq3 : (k != 4) = false := by simp only [bne, q3]; rfl
        go_wp2_with fail
        refine (H0.out _ bal1).mono ?_
        rintro e w1 ⟨rfl, hb1⟩
        have hB := (bstep bal1 hb1)
        have zw1 := hB.size
        go_wp2_with fail
        refine bodyPost_ret (v := .int .i64 (t0)) (by simp [results, Try.results48, go_sem, bne]) rfl ?_
        exact ⟨ret_int ((leaf_implTagc_7 k g t0 q1 q2 q3 HK.out HG.out).trans HT.out), hB⟩
      · (try rw [q3])
        have nq3 : (k != 4) = true := by simp only [bne, q3]; rfl
        rcases Bool.eq_false_or_eq_true (k == 1) with q4 | q4
        · (try rw [q4])
          have nq4 : (k != 1) = false := by simp only [bne, q4]; rfl
          go_wp2_with fail
          refine bodyPost_ret (v := .int .i64 (g)) (by simp [results, Try.results48, go_sem, bne]) rfl ?_
          exact ⟨ret_int ((leaf_implTagc_8 k g t0 q1 q2 q3 q4 HK.out HG.out).trans HT.out), bal1⟩
        · (try rw [q4])
          have nq4 : (k != 1) = true := by simp only [bne, q4]; rfl
          rcases Bool.eq_false_or_eq_true (k == 6) with q5 | q5
          · (try rw [q5])
            have nq5 : (k != 6) = false := by simp only [bne, q5]; rfl
            go_wp2_with fail
            refine bodyPost_ret (v := .int .i64 (g)) (by simp [results, Try.results48, go_sem, bne]) rfl ?_
            exact ⟨ret_int ((leaf_implTagc_9 k g t0 q1 q2 q3 q4 q5 HK.out HG.out).trans HT.out), bal1⟩
          · (try rw [q5])
            have nq5 : (k != 6) = true := by simp only [bne, q5]; rfl
            go_wp2_with fail
            refine bodyPost_ret (v := .int .i64 (0)) (by simp [results, Try.results48, go_sem, bne]) rfl ?_
            exact ⟨ret_int ((leaf_implTagc_10 k g t0 q1 q2 q3 q4 q5 HK.out HG.out).trans HT.out), bal1⟩
theorem implTag (F : Nat → Prop) (t : Co) : ∀ (d : Int) (_ : t.shape d = true) (y : Value) (w : World), CoRep F w t y →
    Calls Try.prog 48 #[y] w fun e w' => e = .returned (.int .i64 (t.tagV)) ∧ Below w.heap.size w w' := by
  intro d hsh y w hy
  have IH : ∀ t' ∈ t.kids, ∀ (d : Int) (_ : t'.shape d = true) (y : Value) (W : World), CoRep F W t' y → Calls Try.prog 48 #[y] W fun e W' => e = .returned (.int .i64 (t'.tagV)) ∧ Below W.heap.size W W' :=
    fun t' ht d a y W c => implTag F t' d a y W c
  obtain ⟨a, q, rfl, h2, h3, hks⟩ := hy.open
  cases t with | mk k g l ts =>
  simp only [Co.kind, Co.tag, Co.label, Co.kids] at *
  obtain ⟨s1, s2⟩ := Co.shape_parts hsh
  have hno := Co.node_of hsh
  unfold maxLen at h3
  unfold Co.tagV
  cases ts with
  | nil =>
    have h4 := Co.kids_nil hsh rfl
    exact implTag_n k g l _ a _ q w (by rcases h4 with rfl | rfl <;> rfl) (Lib.hid hno.1) (Lib.hid hno.2)
  | cons t0 ts =>
    obtain ⟨b, off, k0, g0, l0, a0, n0, q0, rfl, lb, e0, e1, e2, e3, ht⟩ := hks.at (Below.refl _ _) (i := 0) (by simp)
    simp only [Nat.zero_mul, Nat.add_zero, List.getElem_cons_zero] at e0 e1 e2 e3 ht
    have h0 := fun W (h : Below w.heap.size w W) => IH t0 (List.mem_cons_self ..) (d - 1) (Co.shapes_mem s2 (List.mem_cons_self ..)) _ W (ht.below h)
    exact implTag_c k g l _ k0 g0 l0 b off _ q a0 n0 q0 w (Lib.hid hno.1) (Lib.hid hno.2) (by simp) h2 h3 e0 e1 e2 e3 (Lib.hid h0)
termination_by SizeOf.sizeOf t
decreasing_by exact Co.kid_lt ht
set_option maxHeartbeats 2000000 in
theorem specTag_n (k g l t0 : Int) (a : Option Addr) (n q : Nat) (w : World) (z4 : (k == 4) = false) (HK : Hid (k = 1 ∨ k = 2 ∨ k = 3 ∨ k = 4 ∨ k = 5 ∨ k = 6)) (HG : Hid (k = 5 → g = 0)) :
    Calls Try.prog 43 #[.agg #[.int .i64 k, .int .i64 g, .int .i64 l, .slice a n q]] w fun e w' => e = .returned (.int .i64 (if k == 2 then 4 else if k == 3 then 5 else if k == 4 then t0 else g)) ∧ Below w.heap.size w w' := by
  obtain ⟨rr, hrr⟩ : ∃ rr0 : Int, (if k == 2 then 4 else if k == 3 then 5 else if k == 4 then t0 else g) = rr0 := ⟨_, rfl⟩
  rw [hrr]
  have HT := Lib.hid hrr
  clear hrr
  have nz4 : (k != 4) = true := by simp only [bne, z4]; rfl
  go_enter Try.func43, Try.ntmps43
  rcases Bool.eq_false_or_eq_true (k == 2) with q1 | q1
  · (try rw [q1])
    have nq1 : (k != 2) = false := by simp only [bne, q1]; rfl
    go_wp2_with fail
    refine bodyPost_ret (v := .int .i64 (4)) (by simp [results, Try.results43, go_sem, bne]) rfl ?_
    exact ⟨ret_int ((leaf_specTagn_11 k g t0 z4 q1 HK.out HG.out).trans HT.out), bal1⟩
  · (try rw [q1])
    have nq1 : (k != 2) = true := by simp only [bne, q1]; rfl
    rcases Bool.eq_false_or_eq_true (k == 3) with q2 | q2
    · (try rw [q2])
      have nq2 : (k != 3) = false := by simp only [bne, q2]; rfl
      go_wp2_with fail
      refine bodyPost_ret (v := .int .i64 (5)) (by simp [results, Try.results43, go_sem, bne]) rfl ?_
      exact ⟨ret_int ((leaf_specTagn_12 k g t0 z4 q1 q2 HK.out HG.out).trans HT.out), bal1⟩
    · (try rw [q2])
      have nq2 : (k != 3) = true := by simp only [bne, q2]; rfl
      go_wp2_with fail
      refine bodyPost_ret (v := .int .i64 (g)) (by simp [results, Try.results43, go_sem, bne]) rfl ?_
      exact ⟨ret_int ((leaf_specTagn_13 k g t0 z4 q1 q2 HK.out HG.out).trans HT.out), bal1⟩
set_option maxHeartbeats 2000000 in
theorem specTag_c (k g l t0 k0 g0 l0 : Int) (b off n q : Nat) (a0 : Option Addr) (n0 q0 : Nat) (w : World) (HK : Hid (k = 1 ∨ k = 2 ∨ k = 3 ∨ k = 4 ∨ k = 5 ∨ k = 6)) (HG : Hid (k = 5 → g = 0)) (hn : 0 < n) (hq : n ≤ q) (hq2 : q ≤ 9223372036854775807) (e0 : w.cell? ⟨b, off, none⟩ = some (.int .i64 k0)) (e1 : w.cell? ⟨b, off + 1, none⟩ = some (.int .i64 g0)) (e2 : w.cell? ⟨b, off + 2, none⟩ = some (.int .i64 l0)) (e3 : w.cell? ⟨b, off + 3, none⟩ = some (.slice a0 n0 q0)) (H0 : Hid (∀ W, Below w.heap.size w W → Calls Try.prog 43 #[.agg #[.int .i64 k0, .int .i64 g0, .int .i64 l0, .slice a0 n0 q0]] W fun e W' => e = .returned (.int .i64 (t0)) ∧ Below W.heap.size W W')) :
    Calls Try.prog 43 #[.agg #[.int .i64 k, .int .i64 g, .int .i64 l, .slice (some ⟨b, off, none⟩) n q]] w fun e w' => e = .returned (.int .i64 (if k == 2 then 4 else if k == 3 then 5 else if k == 4 then t0 else g)) ∧ Below w.heap.size w w' := by
  have hn0 : (0 : Int) < (n : Int) := by omega
  obtain ⟨rr, hrr⟩ : ∃ rr0 : Int, (if k == 2 then 4 else if k == 3 then 5 else if k == 4 then t0 else g) = rr0 := ⟨_, rfl⟩
  rw [hrr]
  have HT := Lib.hid hrr
  clear hrr
  have lb : b < w.heap.size := World.block_lt_of_cell? _ _ e0
  go_enter Try.func43, Try.ntmps43
  rcases Bool.eq_false_or_eq_true (k == 2) with q1 | q1
  · (try rw [q1])
    have nq1 : (k != 2) = false := by simp only [bne, q1]; rfl
    go_wp2_with fail
    refine bodyPost_ret (v := .int .i64 (4)) (by simp [results, Try.results43, go_sem, bne]) rfl ?_
    exact ⟨ret_int ((leaf_specTagc_14 k g t0 q1 HK.out HG.out).trans HT.out), bal1⟩
  · (try rw [q1])
    have nq1 : (k != 2) = true := by simp only [bne, q1]; rfl
    rcases Bool.eq_false_or_eq_true (k == 3) with q2 | q2
    · (try rw [q2])
      have nq2 : (k != 3) = false := by simp only [bne, q2]; rfl
      go_wp2_with fail
      refine bodyPost_ret (v := .int .i64 (5)) (by simp [results, Try.results43, go_sem, bne]) rfl ?_
      exact ⟨ret_int ((leaf_specTagc_15 k g t0 q1 q2 HK.out HG.out).trans HT.out), bal1⟩
    · (try rw [q2])
      have nq2 : (k != 3) = true := by simp only [bne, q2]; rfl
      rcases Bool.eq_false_or_eq_true (k == 4) with q3 | q3
      · (try rw [q3])
        have nq3 : (k != 4) = false := by simp only [bne, q3]; rfl
        go_wp2_with fail
        refine (H0.out _ bal1).mono ?_
        rintro e w1 ⟨rfl, hb1⟩
        have hB := (bstep bal1 hb1)
        have zw1 := hB.size
        go_wp2_with fail
        refine bodyPost_ret (v := .int .i64 (t0)) (by simp [results, Try.results43, go_sem, bne]) rfl ?_
        exact ⟨ret_int ((leaf_specTagc_16 k g t0 q1 q2 q3 HK.out HG.out).trans HT.out), hB⟩
      · (try rw [q3])
        have nq3 : (k != 4) = true := by simp only [bne, q3]; rfl
        go_wp2_with fail
        refine bodyPost_ret (v := .int .i64 (g)) (by simp [results, Try.results43, go_sem, bne]) rfl ?_
        exact ⟨ret_int ((leaf_specTagc_17 k g t0 q1 q2 q3 HK.out HG.out).trans HT.out), bal1⟩
theorem specTag (F : Nat → Prop) (t : Co) : ∀ (d : Int) (_ : t.shape d = true) (y : Value) (w : World), CoRep F w t y →
    Calls Try.prog 43 #[y] w fun e w' => e = .returned (.int .i64 (t.tagV)) ∧ Below w.heap.size w w' := by
  intro d hsh y w hy
  have IH : ∀ t' ∈ t.kids, ∀ (d : Int) (_ : t'.shape d = true) (y : Value) (W : World), CoRep F W t' y → Calls Try.prog 43 #[y] W fun e W' => e = .returned (.int .i64 (t'.tagV)) ∧ Below W.heap.size W W' :=
    fun t' ht d a y W c => specTag F t' d a y W c
  obtain ⟨a, q, rfl, h2, h3, hks⟩ := hy.open
  cases t with | mk k g l ts =>
  simp only [Co.kind, Co.tag, Co.label, Co.kids] at *
  obtain ⟨s1, s2⟩ := Co.shape_parts hsh
  have hno := Co.node_of hsh
  unfold maxLen at h3
  unfold Co.tagV
  cases ts with
  | nil =>
    have h4 := Co.kids_nil hsh rfl
    exact specTag_n k g l _ a _ q w (by rcases h4 with rfl | rfl <;> rfl) (Lib.hid hno.1) (Lib.hid hno.2)
  | cons t0 ts =>
    obtain ⟨b, off, k0, g0, l0, a0, n0, q0, rfl, lb, e0, e1, e2, e3, ht⟩ := hks.at (Below.refl _ _) (i := 0) (by simp)
    simp only [Nat.zero_mul, Nat.add_zero, List.getElem_cons_zero] at e0 e1 e2 e3 ht
    have h0 := fun W (h : Below w.heap.size w W) => IH t0 (List.mem_cons_self ..) (d - 1) (Co.shapes_mem s2 (List.mem_cons_self ..)) _ W (ht.below h)
    exact specTag_c k g l _ k0 g0 l0 b off _ q a0 n0 q0 w (Lib.hid hno.1) (Lib.hid hno.2) (by simp) h2 h3 e0 e1 e2 e3 (Lib.hid h0)
termination_by SizeOf.sizeOf t
decreasing_by exact Co.kid_lt ht
end Go.Proofs.Ythhdjacdalehoaa
