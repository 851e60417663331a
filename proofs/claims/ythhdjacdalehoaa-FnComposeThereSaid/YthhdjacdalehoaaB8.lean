/-
  The tag of a coercion, both sides.
  The composition of two coercions, as a plain function.
  Compositions as readings.
-/
import Derived.Test.YthhdjacdalehoaaCoHgt
import Derived.Test.YthhdjacdalehoaaB1
namespace Go.Proofs.Ythhdjacdalehoaa
open Go.RowKit
set_option linter.unusedVariables false
set_option linter.unusedSimpArgs false
set_option maxRecDepth 100000

mutual
def Co.tagV : Co → Int
  | .mk k g _ ts => if k == 2 then 4 else if k == 3 then 5 else if k == 4 then Co.tagVs ts else g
def Co.tagVs : List Co → Int
  | [] => 0
  | t :: _ => t.tagV
end
theorem Co.node_of {k g l : Int} {ts : List Co} {d : Int} (h : (Co.mk k g l ts).shape d = true) : (k = 1 ∨ k = 2 ∨ k = 3 ∨ k = 4 ∨ k = 5 ∨ k = 6) ∧ (k = 5 → g = 0) := by
  have h1 := Co.shape_parts h
  unfold Co.shape at h
  simp only [Bool.and_eq_true, Co.nodeB] at h
  have h2 := h.1.2.1.1.1.2
  constructor
  · have hk := h1.1
    unfold coOps at hk
    split at hk
    · omega
    · split at hk
      · omega
      · split at hk <;> omega
  · rintro rfl
    simpa using h2
theorem Co.kids_nil {k g l : Int} {ts : List Co} {d : Int} (h : (Co.mk k g l ts).shape d = true) (hk : ts = []) : k = 1 ∨ k = 6 := by
  have h1 := (Co.shape_parts h).1
  have h2 := (Co.node_of h).1
  subst hk
  rcases h2 with rfl | rfl | rfl | rfl | rfl | rfl <;> simp [coOps] at h1 <;> simp
theorem leaf_implTagn_0 (k g t0 : Int) (h0 : (k == 4) = false) (h1 : (k == 2) = true) (h2 : k = 1 ∨ k = 2 ∨ k = 3 ∨ k = 4 ∨ k = 5 ∨ k = 6) (h3 : k = 5 → g = 0) : (4 : Int) = (if k == 2 then 4 else if k == 3 then 5 else if k == 4 then t0 else g) := by
  first | (simp_all; done) | grind

theorem leaf_implTagn_1 (k g t0 : Int) (h0 : (k == 4) = false) (h1 : (k == 2) = false) (h2 : (k == 3) = true) (h3 : k = 1 ∨ k = 2 ∨ k = 3 ∨ k = 4 ∨ k = 5 ∨ k = 6) (h4 : k = 5 → g = 0) : (5 : Int) = (if k == 2 then 4 else if k == 3 then 5 else if k == 4 then t0 else g) := by
  first | (simp_all; done) | grind

theorem leaf_implTagn_2 (k g t0 : Int) (h0 : (k == 4) = false) (h1 : (k == 2) = false) (h2 : (k == 3) = false) (h3 : (k == 1) = true) (h4 : k = 1 ∨ k = 2 ∨ k = 3 ∨ k = 4 ∨ k = 5 ∨ k = 6) (h5 : k = 5 → g = 0) : (g : Int) = (if k == 2 then 4 else if k == 3 then 5 else if k == 4 then t0 else g) := by
  first | (simp_all; done) | grind

theorem leaf_implTagn_3 (k g t0 : Int) (h0 : (k == 4) = false) (h1 : (k == 2) = false) (h2 : (k == 3) = false) (h3 : (k == 1) = false) (h4 : (k == 6) = true) (h5 : k = 1 ∨ k = 2 ∨ k = 3 ∨ k = 4 ∨ k = 5 ∨ k = 6) (h6 : k = 5 → g = 0) : (g : Int) = (if k == 2 then 4 else if k == 3 then 5 else if k == 4 then t0 else g) := by
  first | (simp_all; done) | grind

theorem leaf_implTagn_4 (k g t0 : Int) (h0 : (k == 4) = false) (h1 : (k == 2) = false) (h2 : (k == 3) = false) (h3 : (k == 1) = false) (h4 : (k == 6) = false) (h5 : k = 1 ∨ k = 2 ∨ k = 3 ∨ k = 4 ∨ k = 5 ∨ k = 6) (h6 : k = 5 → g = 0) : (0 : Int) = (if k == 2 then 4 else if k == 3 then 5 else if k == 4 then t0 else g) := by
  first | (simp_all; done) | grind

theorem leaf_implTagc_5 (k g t0 : Int) (h0 : (k == 2) = true) (h1 : k = 1 ∨ k = 2 ∨ k = 3 ∨ k = 4 ∨ k = 5 ∨ k = 6) (h2 : k = 5 → g = 0) : (4 : Int) = (if k == 2 then 4 else if k == 3 then 5 else if k == 4 then t0 else g) := by
  first | (simp_all; done) | grind

theorem leaf_implTagc_6 (k g t0 : Int) (h0 : (k == 2) = false) (h1 : (k == 3) = true) (h2 : k = 1 ∨ k = 2 ∨ k = 3 ∨ k = 4 ∨ k = 5 ∨ k = 6) (h3 : k = 5 → g = 0) : (5 : Int) = (if k == 2 then 4 else if k == 3 then 5 else if k == 4 then t0 else g) := by
  first | (simp_all; done) | grind

theorem leaf_implTagc_7 (k g t0 : Int) (h0 : (k == 2) = false) (h1 : (k == 3) = false) (h2 : (k == 4) = true) (h3 : k = 1 ∨ k = 2 ∨ k = 3 ∨ k = 4 ∨ k = 5 ∨ k = 6) (h4 : k = 5 → g = 0) : (t0 : Int) = (if k == 2 then 4 else if k == 3 then 5 else if k == 4 then t0 else g) := by
  first | (simp_all; done) | grind

theorem leaf_implTagc_8 (k g t0 : Int) (h0 : (k == 2) = false) (h1 : (k == 3) = false) (h2 : (k == 4) = false) (h3 : (k == 1) = true) (h4 : k = 1 ∨ k = 2 ∨ k = 3 ∨ k = 4 ∨ k = 5 ∨ k = 6) (h5 : k = 5 → g = 0) : (g : Int) = (if k == 2 then 4 else if k == 3 then 5 else if k == 4 then t0 else g) := by
  first | (simp_all; done) | grind

theorem leaf_implTagc_9 (k g t0 : Int) (h0 : (k == 2) = false) (h1 : (k == 3) = false) (h2 : (k == 4) = false) (h3 : (k == 1) = false) (h4 : (k == 6) = true) (h5 : k = 1 ∨ k = 2 ∨ k = 3 ∨ k = 4 ∨ k = 5 ∨ k = 6) (h6 : k = 5 → g = 0) : (g : Int) = (if k == 2 then 4 else if k == 3 then 5 else if k == 4 then t0 else g) := by
  first | (simp_all; done) | grind

theorem leaf_implTagc_10 (k g t0 : Int) (h0 : (k == 2) = false) (h1 : (k == 3) = false) (h2 : (k == 4) = false) (h3 : (k == 1) = false) (h4 : (k == 6) = false) (h5 : k = 1 ∨ k = 2 ∨ k = 3 ∨ k = 4 ∨ k = 5 ∨ k = 6) (h6 : k = 5 → g = 0) : (0 : Int) = (if k == 2 then 4 else if k == 3 then 5 else if k == 4 then t0 else g) := by
  first | (simp_all; done) | grind

set_option maxHeartbeats 2000000 in
theorem implTag_n (k g l t0 : Int) (a : Option Addr) (n q : Nat) (w : World) (z4 : (k == 4) = false) (HK : Hid (k = 1 ∨ k = 2 ∨ k = 3 ∨ k = 4 ∨ k = 5 ∨ k = 6)) (HG : Hid (k = 5 → g = 0)) :
    Calls Try.prog 48 #[.agg #[.int .i64 k, .int .i64 g, .int .i64 l, .slice a n q]] w fun e w' => e = .returned (.int .i64 (if k == 2 then 4 else if k == 3 then 5 else if k == 4 then t0 else g)) ∧ Below w.heap.size w w' := by
  obtain ⟨rr, hrr⟩ : ∃ rr0 : Int, (if k == 2 then 4 else if k == 3 then 5 else if k == 4 then t0 else g) = rr0 := ⟨_, rfl⟩
  rw [hrr]
  have HT := Lib.hid hrr
  clear hrr
  have nz4 : (k != 4) = true := by simp only [bne, z4]; rfl
  go_enter Try.func48, Try.ntmps48
  rcases Bool.eq_false_or_eq_true (k == 2) with q1 | q1
  · (try rw [q1])
    have nq1 : (k != 2) = false := by simp only [bne, q1]; rfl
    go_wp2_with fail
    refine bodyPost_ret (v := .int .i64 (4)) (by simp [results, Try.results48, go_sem, bne]) rfl ?_
    exact ⟨ret_int ((leaf_implTagn_0 k g t0 z4 q1 HK.out HG.out).trans HT.out), bal1⟩
  · (try rw [q1])
    have nq1 : (k != 2) = true := by simp only [bne, q1]; rfl
    rcases Bool.eq_false_or_eq_true (k == 3) with q2 | q2
    · (try rw [q2])
      have nq2 : (k != 3) = false := by simp only [bne, q2]; rfl
      go_wp2_with fail
      refine bodyPost_ret (v := .int .i64 (5)) (by simp [results, Try.results48, go_sem, bne]) rfl ?_
      exact ⟨ret_int ((leaf_implTagn_1 k g t0 z4 q1 q2 HK.out HG.out).trans HT.out), bal1⟩
    · (try rw [q2])
      have nq2 : (k != 3) = true := by simp only [bne, q2]; rfl
      rcases Bool.eq_false_or_eq_true (k == 1) with q3 | q3
      · (try rw [q3])
        have nq3 : (k != 1) = false := by simp only [bne, q3]; rfl
        go_wp2_with fail
        refine bodyPost_ret (v := .int .i64 (g)) (by simp [results, Try.results48, go_sem, bne]) rfl ?_
        exact ⟨ret_int ((leaf_implTagn_2 k g t0 z4 q1 q2 q3 HK.out HG.out).trans HT.out), bal1⟩
      · (try rw [q3])
        have nq3 : (k != 1) = true := by simp only [bne, q3]; rfl
        rcases Bool.eq_false_or_eq_true (k == 6) with q4 | q4
        · (try rw [q4])
          have nq4 : (k != 6) = false := by simp only [bne, q4]; rfl
          go_wp2_with fail
          refine bodyPost_ret (v := .int .i64 (g)) (by simp [results, Try.results48, go_sem, bne]) rfl ?_
          exact ⟨ret_int ((leaf_implTagn_3 k g t0 z4 q1 q2 q3 q4 HK.out HG.out).trans HT.out), bal1⟩
        · (try rw [q4])
          have nq4 : (k != 6) = true := by simp only [bne, q4]; rfl
          go_wp2_with fail
          refine bodyPost_ret (v := .int .i64 (0)) (by simp [results, Try.results48, go_sem, bne]) rfl ?_
          exact ⟨ret_int ((leaf_implTagn_4 k g t0 z4 q1 q2 q3 q4 HK.out HG.out).trans HT.out), bal1⟩
set_option maxHeartbeats 2000000 in
theorem implTag_c (k g l t0 k0 g0 l0 : Int) (b off n q : Nat) (a0 : Option Addr) (n0 q0 : Nat) (w : World) (HK : Hid (k = 1 ∨ k = 2 ∨ k = 3 ∨ k = 4 ∨ k = 5 ∨ k = 6)) (HG : Hid (k = 5 → g = 0)) (hn : 0 < n) (hq : n ≤ q) (hq2 : q ≤ 9223372036854775807) (e0 : w.cell? ⟨b, off, none⟩ = some (.int .i64 k0)) (e1 : w.cell? ⟨b, off + 1, none⟩ = some (.int .i64 g0)) (e2 : w.cell? ⟨b, off + 2, none⟩ = some (.int .i64 l0)) (e3 : w.cell? ⟨b, off + 3, none⟩ = some (.slice a0 n0 q0)) (H0 : Hid (∀ W, Below w.heap.size w W → Calls Try.prog 48 #[.agg #[.int .i64 k0, .int .i64 g0, .int .i64 l0, .slice a0 n0 q0]] W fun e W' => e = .returned (.int .i64 (t0)) ∧ Below W.heap.size W W')) :
    Calls Try.prog 48 #[.agg #[.int .i64 k, .int .i64 g, .int .i64 l, .slice (some ⟨b, off, none⟩) n q]] w fun e w' => e = .returned (.int .i64 (if k == 2 then 4 else if k == 3 then 5 else if k == 4 then t0 else g)) ∧ Below w.heap.size w w' := by
  have hn0 : (0 : Int) < (n : Int) := by omega
  obtain ⟨rr, hrr⟩ : ∃ rr0 : Int, (if k == 2 then 4 else if k == 3 then 5 else if k == 4 then t0 else g) = rr0 := ⟨_, rfl⟩
  rw [hrr]
  have HT := Lib.hid hrr
  clear hrr
  have lb : b < w.heap.size := World.block_lt_of_cell? _ _ e0
  go_enter Try.func48, Try.ntmps48
  rcases Bool.eq_false_or_eq_true (k == 2) with q1 | q1
  · (try rw [q1])
    have nq1 : (k != 2) = false := by simp only [bne, q1]; rfl
    go_wp2_with fail
    refine bodyPost_ret (v := .int .i64 (4)) (by simp [results, Try.results48, go_sem, bne]) rfl ?_
    exact ⟨ret_int ((leaf_implTagc_5 k g t0 q1 HK.out HG.out).trans HT.out), bal1⟩
  · (try rw [q1])
    have nq1 : (k != 2) = true := by simp only [bne, q1]; rfl
    rcases Bool.eq_false_or_eq_true (k == 3) with q2 | q2
    · (try rw [q2])
      have nq2 : (k != 3) = false := by simp only [bne, q2]; rfl
      go_wp2_with fail
      refine bodyPost_ret (v := .int .i64 (5)) (by simp [results, Try.results48, go_sem, bne]) rfl ?_
      exact ⟨ret_int ((leaf_implTagc_6 k g t0 q1 q2 HK.out HG.out).trans HT.out), bal1⟩
    · (try rw [q2])
      have nq2 : (k != 3) = true := by simp only [bne, q2]; rfl
      rcases Bool.eq_false_or_eq_true (k == 4) with q3 | q3
      · (try rw [q3])
        have nq3 : (k != 4) = false := by simp only [bne, q3]; rfl
        go_wp2_with fail
        refine (H0.out _ bal1).mono ?_
        rintro e w1 ⟨rfl, hb1⟩
        have hB := (bstep bal1 hb1)
        have zw1 := hB.size
        go_wp2_with fail
        refine bodyPost_ret (v := .int .i64 (t0)) (by simp [results, Try.results48, go_sem, bne]) rfl ?_
        exact ⟨ret_int ((leaf_implTagc_7 k g t0 q1 q2 q3 HK.out HG.out).trans HT.out), hB⟩
      · (try rw [q3])
        have nq3 : (k != 4) = true := by simp only [bne, q3]; rfl
        rcases Bool.eq_false_or_eq_true (k == 1) with q4 | q4
        · (try rw [q4])
          have nq4 : (k != 1) = false := by simp only [bne, q4]; rfl
          go_wp2_with fail
          refine bodyPost_ret (v := .int .i64 (g)) (by simp [results, Try.results48, go_sem, bne]) rfl ?_
          exact ⟨ret_int ((leaf_implTagc_8 k g t0 q1 q2 q3 q4 HK.out HG.out).trans HT.out), bal1⟩
        · (try rw [q4])
          have nq4 : (k != 1) = true := by simp only [bne, q4]; rfl
          rcases Bool.eq_false_or_eq_true (k == 6) with q5 | q5
          · (try rw [q5])
            have nq5 : (k != 6) = false := by simp only [bne, q5]; rfl
            go_wp2_with fail
            refine bodyPost_ret (v := .int .i64 (g)) (by simp [results, Try.results48, go_sem, bne]) rfl ?_
            exact ⟨ret_int ((leaf_implTagc_9 k g t0 q1 q2 q3 q4 q5 HK.out HG.out).trans HT.out), bal1⟩
          · (try rw [q5])
            have nq5 : (k != 6) = true := by simp only [bne, q5]; rfl
            go_wp2_with fail
            refine bodyPost_ret (v := .int .i64 (0)) (by simp [results, Try.results48, go_sem, bne]) rfl ?_
            exact ⟨ret_int ((leaf_implTagc_10 k g t0 q1 q2 q3 q4 q5 HK.out HG.out).trans HT.out), bal1⟩
theorem implTag (F : Nat → Prop) (t : Co) : ∀ (d : Int) (_ : t.shape d = true) (y : Value) (w : World), CoRep F w t y →
    Calls Try.prog 48 #[y] w fun e w' => e = .returned (.int .i64 (t.tagV)) ∧ Below w.heap.size w w' := by
  intro d hsh y w hy
  have IH : ∀ t' ∈ t.kids, ∀ (d : Int) (_ : t'.shape d = true) (y : Value) (W : World), CoRep F W t' y → Calls Try.prog 48 #[y] W fun e W' => e = .returned (.int .i64 (t'.tagV)) ∧ Below W.heap.size W W' :=
    fun t' ht d a y W c => implTag F t' d a y W c
  obtain ⟨a, q, rfl, h2, h3, hks⟩ := hy.open
  cases t with | mk k g l ts =>
  simp only [Co.kind, Co.tag, Co.label, Co.kids] at *
  obtain ⟨s1, s2⟩ := Co.shape_parts hsh
  have hno := Co.node_of hsh
  unfold maxLen at h3
  unfold Co.tagV
  cases ts with
  | nil =>
    have h4 := Co.kids_nil hsh rfl
    exact implTag_n k g l _ a _ q w (by rcases h4 with rfl | rfl <;> rfl) (Lib.hid hno.1) (Lib.hid hno.2)
  | cons t0 ts =>
    obtain ⟨b, off, k0, g0, l0, a0, n0, q0, rfl, lb, e0, e1, e2, e3, ht⟩ := hks.at (Below.refl _ _) (i := 0) (by simp)
    simp only [Nat.zero_mul, Nat.add_zero, List.getElem_cons_zero] at e0 e1 e2 e3 ht
    have h0 := fun W (h : Below w.heap.size w W) => IH t0 (List.mem_cons_self ..) (d - 1) (Co.shapes_mem s2 (List.mem_cons_self ..)) _ W (ht.below h)
    exact implTag_c k g l _ k0 g0 l0 b off _ q a0 n0 q0 w (Lib.hid hno.1) (Lib.hid hno.2) (by simp) h2 h3 e0 e1 e2 e3 (Lib.hid h0)
termination_by SizeOf.sizeOf t
decreasing_by exact Co.kid_lt ht
end Go.Proofs.Ythhdjacdalehoaa
namespace Go.Proofs.Ythhdjacdalehoaa
open Go.RowKit
set_option linter.unusedVariables false
set_option linter.unusedSimpArgs false
set_option maxRecDepth 100000

def Co.unkB (b : Co) : Bool := b.kind == 5 || (b.kind == 1 && b.tag == 1)
def Co.zero : Co := .mk 0 0 0 []
/-- Two plain coercions, by what composes their operands. -/
def twoF (f : Co → Co → Co × Bool) (a b : Co) : Co × Bool :=
  if a.kind ≠ b.kind then (Co.zero, false)
  else if a.kind = 1 then (.mk 1 a.tag 0 [], a.tag == b.tag)
  else match a.kids, b.kids with
    | [a0, a1], [b0, b1] =>
      let x := if a.kind = 2 then f b0 a0 else f a0 b0
      let y := f a1 b1
      (.mk a.kind 0 0 [x.1, y.1], x.2 && y.2)
    | _, _ => (Co.zero, false)
def compF : Nat → Co → Co → Co × Bool
  | 0, _, _ => (Co.zero, false)
  | n + 1, a, b =>
    if a.kind = 1 ∧ a.tag = 1 then (b, b.unkB)
    else if a.kind = 5 then match a.kids with
      | [a0] => (.mk 5 0 a.label [(compF n a0 b).1], (compF n a0 b).2)
      | _ => (Co.zero, false)
    else if a.kind = 6 then (a, true)
    else if a.kind = 4 ∧ b.kind = 5 then match a.kids, b.kids with
      | [a0], [b0] => if a0.tagV == b0.tagV then compF n a0 b0 else (.mk 6 a0.tagV b.label [], true)
      | _, _ => (Co.zero, false)
    else if a.kind = 4 then (a, b.unkB)
    else if b.kind = 6 then (b, a.tagV == b.tag)
    else if b.kind = 4 then match b.kids with
      | [b0] => (.mk 4 0 0 [(twoF (compF n) a b0).1], (twoF (compF n) a b0).2)
      | _ => (Co.zero, false)
    else twoF (compF n) a b
theorem twoF_congr {f g : Co → Co → Co × Bool} {a b : Co} (h : ∀ x y, x.cnt + y.cnt < a.cnt + b.cnt → f x y = g x y) : twoF f a b = twoF g a b := by
  cases a with | mk k t l ts =>
  cases b with | mk k' t' l' us =>
  unfold twoF
  simp only [Co.kind, Co.tag, Co.kids]
  refine ite_congr rfl (fun _ => rfl) fun _ => ite_congr rfl (fun _ => rfl) fun _ => ?_
  match ts, us with
  | [a0, a1], [b0, b1] =>
    dsimp only
    rw [h b0 a0 (by simp only [Co.cnt, Co.cnts, List.length_cons, List.length_nil]; omega), h a0 b0 (by simp only [Co.cnt, Co.cnts, List.length_cons, List.length_nil]; omega), h a1 b1 (by simp only [Co.cnt, Co.cnts, List.length_cons, List.length_nil]; omega)]
  | [], _ => rfl
  | [_], _ => rfl
  | _ :: _ :: _ :: _, _ => rfl
  | [_, _], [] => rfl
  | [_, _], [_] => rfl
  | [_, _], _ :: _ :: _ :: _ => rfl
theorem compF_mono : ∀ (n m : Nat) (a b : Co), a.cnt + b.cnt < n → a.cnt + b.cnt < m → compF n a b = compF m a b
  | 0, _, _, _, h, _ => by omega
  | _, 0, _, _, _, h => by omega
  | n + 1, m + 1, a, b, h1, h2 => by
    have IH := fun x y (h : x.cnt + y.cnt < a.cnt + b.cnt) => compF_mono n m x y (by omega) (by omega)
    have IT := fun x y (h : x.cnt + y.cnt ≤ a.cnt + b.cnt) => twoF_congr (a := x) (b := y) (f := compF n) (g := compF m) fun u v hu => IH u v (by omega)
    cases a with | mk k t l ts =>
    cases b with | mk k' t' l' us =>
    unfold compF
    simp only [Co.kind, Co.tag, Co.kids, Co.label]
    refine ite_congr rfl (fun _ => rfl) fun _ => ite_congr rfl (fun _ => ?_) fun _ => ite_congr rfl (fun _ => rfl) fun _ => ite_congr rfl (fun _ => ?_) fun _ => ite_congr rfl (fun _ => rfl) fun _ => ite_congr rfl (fun _ => rfl) fun _ => ite_congr rfl (fun _ => ?_) fun _ => ?_
    · match ts with
      | [a0] => dsimp only; rw [IH _ _ (by simp only [Co.cnt, Co.cnts, List.length_cons, List.length_nil]; omega)]
      | [] => rfl
      | _ :: _ :: _ => rfl
    · match ts, us with
      | [a0], [b0] => dsimp only; rw [IH _ _ (by simp only [Co.cnt, Co.cnts, List.length_cons, List.length_nil]; omega)]
      | [], _ => rfl
      | _ :: _ :: _, _ => rfl
      | [_], [] => rfl
      | [_], _ :: _ :: _ => rfl
    · match us with
      | [b0] => dsimp only; rw [IT _ _ (by simp only [Co.cnt, Co.cnts, List.length_cons, List.length_nil]; omega)]
      | [] => rfl
      | _ :: _ :: _ => rfl
    · rw [IT _ _ (Nat.le_refl _)]
def Co.comp (a b : Co) : Co × Bool := compF (a.cnt + b.cnt + 1) a b
theorem compF_comp {n : Nat} {a b : Co} (h : a.cnt + b.cnt < n) : compF n a b = a.comp b := compF_mono _ _ _ _ h (by omega)
def Co.two (a b : Co) : Co × Bool := twoF Co.comp a b
theorem twoF_two {n : Nat} {a b : Co} (h : a.cnt + b.cnt ≤ n) : twoF (compF n) a b = a.two b := twoF_congr fun x y hx => compF_comp (by omega)
theorem comp_any (l : Int) (ts : List Co) (b : Co) : (Co.mk 1 1 l ts).comp b = (b, b.unkB) := by
  unfold Co.comp compF
  simp [Co.kind, Co.tag]
theorem comp_proj (g l : Int) (a0 b : Co) : (Co.mk 5 g l [a0]).comp b = (.mk 5 0 l [(a0.comp b).1], (a0.comp b).2) := by
  rw [Co.comp, compF]
  simp only [Co.kind, Co.tag, Co.kids, Co.label]
  rw [if_neg (by omega), if_pos trivial, compF_comp (by simp only [Co.cnt, Co.cnts, List.length_cons, List.length_nil]; omega)]
theorem comp_fail (g l : Int) (ts : List Co) (b : Co) : (Co.mk 6 g l ts).comp b = (.mk 6 g l ts, true) := by
  rw [Co.comp, compF]
  simp [Co.kind, Co.tag, Co.kids, Co.label]
theorem comp_ip (g l g' l' : Int) (a0 b0 : Co) : (Co.mk 4 g l [a0]).comp (.mk 5 g' l' [b0]) = if a0.tagV == b0.tagV then a0.comp b0 else (.mk 6 a0.tagV l' [], true) := by
  rw [Co.comp, compF]
  simp only [Co.kind, Co.tag, Co.kids, Co.label]
  rw [if_neg (by omega), if_neg (by omega), if_neg (by omega), if_pos ⟨trivial, trivial⟩, compF_comp (by simp only [Co.cnt, Co.cnts, List.length_cons, List.length_nil]; omega)]
theorem comp_inj (g l : Int) (ts : List Co) (b : Co) (h : b.kind ≠ 5) : (Co.mk 4 g l ts).comp b = (.mk 4 g l ts, b.unkB) := by
  rw [Co.comp, compF]
  rw [if_neg (by simp [Co.kind]), if_neg (by simp [Co.kind]), if_neg (by simp [Co.kind]), if_neg (fun hh => h hh.2), if_pos (show (Co.mk 4 g l ts).kind = 4 from rfl)]
def Co.plain (a : Co) : Bool := plainB a.kind a.tag
theorem Co.plain_ne {a : Co} (h : a.plain = true) : ¬ (a.kind = 1 ∧ a.tag = 1) ∧ a.kind ≠ 5 ∧ a.kind ≠ 6 ∧ a.kind ≠ 4 := by
  unfold Co.plain plainB at h
  simp only [Bool.or_eq_true, Bool.and_eq_true, beq_iff_eq, Bool.not_eq_true', beq_eq_false_iff_ne] at h
  omega
theorem comp_pf {a : Co} (h : a.plain = true) (g' l' : Int) (us : List Co) : a.comp (.mk 6 g' l' us) = (.mk 6 g' l' us, a.tagV == g') := by
  obtain ⟨h1, h2, h3, h4⟩ := Co.plain_ne h
  rw [Co.comp, compF]
  rw [if_neg h1, if_neg h2, if_neg h3, if_neg (by omega), if_neg h4, if_pos (show (Co.mk 6 g' l' us).kind = 6 from rfl)]; rfl
theorem comp_pi {a : Co} (h : a.plain = true) (g' l' : Int) (b0 : Co) : a.comp (.mk 4 g' l' [b0]) = (.mk 4 0 0 [(a.two b0).1], (a.two b0).2) := by
  obtain ⟨h1, h2, h3, h4⟩ := Co.plain_ne h
  rw [Co.comp, compF]
  simp only [show (Co.mk 4 g' l' [b0]).kind = 4 from rfl, show (Co.mk 4 g' l' [b0]).kids = [b0] from rfl]
  rw [if_neg h1, if_neg h2, if_neg h3, if_neg (by omega), if_neg h4, if_neg (by omega), if_pos trivial, twoF_two (by simp only [Co.cnt, Co.cnts, List.length_cons, List.length_nil]; omega)]
theorem comp_pp {a b : Co} (h : a.plain = true) (hb : b.kind ≠ 6) (hb' : b.kind ≠ 4) : a.comp b = a.two b := by
  obtain ⟨h1, h2, h3, h4⟩ := Co.plain_ne h
  rw [Co.comp, compF, if_neg h1, if_neg h2, if_neg h3, if_neg (by omega), if_neg h4, if_neg hb, if_neg hb', twoF_two (by omega)]
theorem two_ne {a b : Co} (h : a.kind ≠ b.kind) : a.two b = (Co.zero, false) := by unfold Co.two twoF; rw [if_pos h]
theorem two_id (g l g' l' : Int) (ts us : List Co) : (Co.mk 1 g l ts).two (.mk 1 g' l' us) = (.mk 1 g 0 [], g == g') := by unfold Co.two twoF; simp [Co.kind, Co.tag]
theorem two_fun (g l g' l' : Int) (a0 a1 b0 b1 : Co) : (Co.mk 2 g l [a0, a1]).two (.mk 2 g' l' [b0, b1]) = (.mk 2 0 0 [(b0.comp a0).1, (a1.comp b1).1], (b0.comp a0).2 && (a1.comp b1).2) := by
  unfold Co.two twoF; simp [Co.kind, Co.tag, Co.kids]
theorem two_pair (g l g' l' : Int) (a0 a1 b0 b1 : Co) : (Co.mk 3 g l [a0, a1]).two (.mk 3 g' l' [b0, b1]) = (.mk 3 0 0 [(a0.comp b0).1, (a1.comp b1).1], (a0.comp b0).2 && (a1.comp b1).2) := by
  unfold Co.two twoF; simp [Co.kind, Co.tag, Co.kids]

/-- A valid coercion, by its kind. -/
theorem Co.kinds {t : Co} {d : Int} (h : t.shape d = true) :
    (∃ g, t = .mk 1 g 0 [] ∧ 1 ≤ g ∧ g ≤ 3) ∨ (∃ a b, t = .mk 2 0 0 [a, b] ∧ a.shape (d - 1) = true ∧ b.shape (d - 1) = true) ∨ (∃ a b, t = .mk 3 0 0 [a, b] ∧ a.shape (d - 1) = true ∧ b.shape (d - 1) = true) ∨
    (∃ a, t = .mk 4 0 0 [a] ∧ a.shape (d - 1) = true ∧ a.plain = true) ∨ (∃ l a, t = .mk 5 0 l [a] ∧ a.shape (d - 1) = true ∧ labelB l = true ∧ a.kind ≠ 5 ∧ ¬ (a.kind = 1 ∧ a.tag = 1)) ∨ (∃ g l, t = .mk 6 g l [] ∧ 2 ≤ g ∧ g ≤ 5 ∧ labelB l = true) := by
  cases t with | mk k g l ts =>
  obtain ⟨h1, h2⟩ := Co.shape_parts h
  have h3 := (Co.node_of h).1
  unfold Co.shape at h
  simp only [Bool.and_eq_true, Co.nodeB] at h
  obtain ⟨⟨-, ⟨⟨⟨-, n1⟩, n2⟩, n3⟩, n4⟩, -⟩ := h
  rcases h3 with rfl | rfl | rfl | rfl | rfl | rfl <;> simp [coOps, winB] at h1 n1 n2 n3 n4
  · have : ts = [] := List.length_eq_zero_iff.1 (by omega)
    subst this n2
    exact .inl ⟨g, rfl, n1⟩
  · obtain ⟨a, b, rfl⟩ : ∃ a b, ts = [a, b] := by
      match ts, h1 with
      | [a, b], _ => exact ⟨a, b, rfl⟩
    subst n1 n2
    exact .inr (.inl ⟨a, b, rfl, Co.shapes_mem h2 (by simp), Co.shapes_mem h2 (by simp)⟩)
  · obtain ⟨a, b, rfl⟩ : ∃ a b, ts = [a, b] := by
      match ts, h1 with
      | [a, b], _ => exact ⟨a, b, rfl⟩
    subst n1 n2
    exact .inr (.inr (.inl ⟨a, b, rfl, Co.shapes_mem h2 (by simp), Co.shapes_mem h2 (by simp)⟩))
  · obtain ⟨a, rfl⟩ : ∃ a, ts = [a] := by
      match ts, h1 with
      | [a], _ => exact ⟨a, rfl⟩
    subst n1 n2
    exact .inr (.inr (.inr (.inl ⟨a, rfl, Co.shapes_mem h2 (by simp), n3⟩)))
  · obtain ⟨a, rfl⟩ : ∃ a, ts = [a] := by
      match ts, h1 with
      | [a], _ => exact ⟨a, rfl⟩
    subst n1
    exact .inr (.inr (.inr (.inr (.inl ⟨l, a, rfl, Co.shapes_mem h2 (by simp), n2, n4.1, fun hh => n4.2.elim (fun h => h hh.1) (fun h => h hh.2)⟩))))
  · have : ts = [] := List.length_eq_zero_iff.1 (by omega)
    subst this
    exact .inr (.inr (.inr (.inr (.inr ⟨g, l, rfl, n1.1, n1.2, n2⟩))))
theorem Co.shape_pos {t : Co} {d : Int} (h : t.shape d = true) : 1 ≤ d := by
  cases t
  unfold Co.shape at h
  simp only [Bool.and_eq_true, decide_eq_true_eq] at h
  exact h.1.1
theorem Co.shape_cnt : ∀ (n : Nat) (t : Co), t.shape n = true → t.cnt + 2 ≤ 2 ^ n
  | 0, t, h => absurd (Co.shape_pos h) (by simp)
  | n + 1, t, h => by
    have e : ((n + 1 : Nat) : Int) - 1 = n := by omega
    have hp : (2 : Nat) ≤ 2 ^ (n + 1) := by rw [Nat.pow_succ]; have := Nat.one_le_two_pow (n := n); omega
    rcases Co.kinds h with ⟨g, rfl, -⟩ | ⟨a, b, rfl, ha, hb⟩ | ⟨a, b, rfl, ha, hb⟩ | ⟨a, rfl, ha, -⟩ | ⟨l, a, rfl, ha, -⟩ | ⟨g, l, rfl, -⟩
    · simpa [Co.cnt, Co.cnts] using hp
    · rw [e] at ha hb
      have h1 := Co.shape_cnt n a ha
      have h2 := Co.shape_cnt n b hb
      simp only [Co.cnt, Co.cnts, List.length_cons, List.length_nil]
      rw [Nat.pow_succ]
      omega
    · rw [e] at ha hb
      have h1 := Co.shape_cnt n a ha
      have h2 := Co.shape_cnt n b hb
      simp only [Co.cnt, Co.cnts, List.length_cons, List.length_nil]
      rw [Nat.pow_succ]
      omega
    · rw [e] at ha
      have h1 := Co.shape_cnt n a ha
      simp only [Co.cnt, Co.cnts, List.length_cons, List.length_nil]
      rw [Nat.pow_succ]
      omega
    · rw [e] at ha
      have h1 := Co.shape_cnt n a ha
      simp only [Co.cnt, Co.cnts, List.length_cons, List.length_nil]
      rw [Nat.pow_succ]
      omega
    · simpa [Co.cnt, Co.cnts] using hp
theorem Co.cnt_le {t : Co} {n : Nat} (h : t.shape n = true) (hn : n ≤ 9) : t.cnt ≤ 510 := by
  have h1 := Co.shape_cnt n t h
  have h2 : 2 ^ n ≤ 2 ^ 9 := Nat.pow_le_pow_right (by omega) hn
  omega
def compOk (a b : Co) : Bool := (a.valid && b.valid) && ((a.comp b).2 && (a.comp b).1.valid)
def compT (a b : Co) : Co := if compOk a b then (a.comp b).1 else Co.zero
end Go.Proofs.Ythhdjacdalehoaa
namespace Go.Proofs.Ythhdjacdalehoaa
open Go.RowKit
set_option linter.unusedVariables false
set_option linter.unusedSimpArgs false
set_option maxRecDepth 100000


def FB (B n : Nat) (x : Nat) : Prop := x < B ∨ n ≤ x
/-- A composition that may share memory with what came: it reads as some coercion, which is the wanted one if the answer is yes. -/
def RetCoP (B : Nat) (c : Co) (ok : Bool) (w : World) (e : Ending) (w' : World) : Prop := ∃ v c', e = .returned (.tuple #[v, .bool ok]) ∧ CoRep (FB B w.heap.size) w' c' v ∧ (ok = true → c' = c) ∧ Below w.heap.size w w'
theorem CosRep.setO {F : Nat → Prop} {w : World} {ts : List Co} {y : Value} (h : CosRep F w ts y) {p : Addr} (hp : ¬ F p.block) (v : Value) : CosRep F (w.setCell p v) ts y :=
  h.move ⟨by simp [World.setCell], fun _ h _ => h, fun b hb _ => Below.heap_setCell w p v b (fun e => hp (e ▸ hb))⟩
theorem CoRep.setO {F : Nat → Prop} {w : World} {t : Co} {y : Value} (h : CoRep F w t y) {p : Addr} (hp : ¬ F p.block) (v : Value) : CoRep F (w.setCell p v) t y :=
  h.move ⟨by simp [World.setCell], fun _ h _ => h, fun b hb _ => Below.heap_setCell w p v b (fun e => hp (e ▸ hb))⟩
theorem CoRep.fb {B n : Nat} {w : World} {t : Co} {y : Value} (h : CoRep (· < B) w t y) : CoRep (FB B n) w t y := h.move (.weaken fun _ h _ => .inl h)
theorem CoRep.fbn {B n m : Nat} {w : World} {t : Co} {y : Value} (h : CoRep (FB B n) w t y) (hm : m ≤ n) : CoRep (FB B m) w t y := h.move (.weaken fun _ h _ => h.elim .inl fun h => .inr (Nat.le_trans hm h))
theorem CoRep.leafR {F : Nat → Prop} {w : World} (k g l : Int) : CoRep F w (.mk k g l []) (.agg #[.int .i64 k, .int .i64 g, .int .i64 l, .slice none 0 0]) :=
  ⟨_, rfl, by unfold CosRep Co.kids Co.rows CRep; exact ⟨none, 0, rfl, by simp, by unfold maxLen; omega, .inl rfl⟩⟩
theorem fb_not {B n x : Nat} (h1 : B ≤ x) (h2 : x < n) : ¬ FB B n x := by unfold FB; omega
theorem CoRep.cellsR {F : Nat → Prop} {w : World} {t : Co} {k g l : Int} {s : Value} {b off : Nat} (h : CoRep F w t (.agg #[.int .i64 k, .int .i64 g, .int .i64 l, s]))
    (e0 : w.cell? ⟨b, off, none⟩ = some (.int .i64 k)) (e1 : w.cell? ⟨b, off + 1, none⟩ = some (.int .i64 g)) (e2 : w.cell? ⟨b, off + 1 + 1, none⟩ = some (.int .i64 l)) (e3 : w.cell? ⟨b, off + 1 + 1 + 1, none⟩ = some s) : CellsAt F w b off t.row := by
  cases t with | mk k' g' l' ts =>
  obtain ⟨s', he, hs⟩ := h
  simp only [Co.kind, Co.tag, Co.label, Co.kids, Value.agg.injEq, Array.mk.injEq, List.cons.injEq, Value.int.injEq, true_and, and_true] at he hs
  obtain ⟨rfl, rfl, rfl, rfl⟩ := he
  unfold Co.row CellsAt
  refine ⟨⟨_, e0, by unfold CRep; rfl⟩, ?_⟩
  unfold CellsAt
  refine ⟨⟨_, e1, by unfold CRep; rfl⟩, ?_⟩
  unfold CellsAt
  refine ⟨⟨_, e2, by unfold CRep; rfl⟩, ?_⟩
  unfold CellsAt
  exact ⟨⟨_, e3, hs⟩, by unfold CellsAt; trivial⟩
theorem CosRep.oneR {F : Nat → Prop} {w : World} {t : Co} {k g l : Int} {s : Value} {b : Nat} {T : TypeId} (h : CoRep F w t (.agg #[.int .i64 k, .int .i64 g, .int .i64 l, s])) (hF : F b)
    (e : w.heap[b]? = some (.cells #[.int .i64 k, .int .i64 g, .int .i64 l, s] T (0, 0))) : CosRep F w [t] (.slice (some ⟨b, 0, none⟩) 1 1) := by
  unfold CosRep Co.rows Co.rows CRep
  refine ⟨_, 1, rfl, by simp, by unfold maxLen; omega, .inr ⟨b, 0, rfl, hF, blk_lt e, ?_⟩⟩
  unfold RowsAt
  exact ⟨h.cellsR (blk_cell e rfl) (blk_cell e rfl) (blk_cell e rfl) (blk_cell e rfl), by unfold RowsAt; trivial⟩
theorem CosRep.twoR {F : Nat → Prop} {w : World} {t u : Co} {k g l k2 g2 l2 : Int} {s s2 : Value} {b : Nat} {T : TypeId} (h : CoRep F w t (.agg #[.int .i64 k, .int .i64 g, .int .i64 l, s])) (h2 : CoRep F w u (.agg #[.int .i64 k2, .int .i64 g2, .int .i64 l2, s2])) (hF : F b)
    (e : w.heap[b]? = some (.cells #[.int .i64 k, .int .i64 g, .int .i64 l, s, .int .i64 k2, .int .i64 g2, .int .i64 l2, s2] T (0, 0))) : CosRep F w [t, u] (.slice (some ⟨b, 0, none⟩) 2 2) := by
  unfold CosRep Co.rows Co.rows Co.rows CRep
  refine ⟨_, 2, rfl, by simp, by unfold maxLen; omega, .inr ⟨b, 0, rfl, hF, blk_lt e, ?_⟩⟩
  unfold RowsAt
  refine ⟨h.cellsR (blk_cell e rfl) (blk_cell e rfl) (blk_cell e rfl) (blk_cell e rfl), ?_⟩
  rw [t.row_length]
  unfold RowsAt
  exact ⟨h2.cellsR (blk_cell e rfl) (blk_cell e rfl) (blk_cell e rfl) (blk_cell e rfl), by unfold RowsAt; trivial⟩
theorem CosRep.coR {F : Nat → Prop} {w : World} {k g l : Int} {ts : List Co} {y : Value} (h : CosRep F w ts y) : CoRep F w (.mk k g l ts) (.agg #[.int .i64 k, .int .i64 g, .int .i64 l, y]) := ⟨y, rfl, h⟩
/-- What 'x, ok := compose(..)' leaves, in whatever order its parts come up. -/
def CutCoR (B : Nat) (c : Co) (ok : Bool) (w : World) (s s' : Value) (wx : World) : Prop := ∃ (g : Nat) (k gt lb : Int) (a : Option Addr) (n q : Nat) (c' : Co), s = .pointer (some ⟨g, 0, none⟩) ∧ s' = .bool ok ∧ w.heap.size ≤ g ∧
  wx.heap[g]? = some (.cells #[.int .i64 k, .int .i64 gt, .int .i64 lb, .slice a n q] 28 (0, 0)) ∧ CoRep (FB B w.heap.size) wx c' (.agg #[.int .i64 k, .int .i64 gt, .int .i64 lb, .slice a n q]) ∧ (ok = true → c' = c) ∧ Below w.heap.size w wx
theorem CutCoR_late {B : Nat} {w ws x : World} {c c' : Co} {ok : Bool} {k gt lb : Int} {a : Option Addr} {n q : Nat} (hb : Below w.heap.size w ws) (hx : w.heap.size ≤ x.heap.size) (hv : CoRep (FB B x.heap.size) ws c' (.agg #[.int .i64 k, .int .i64 gt, .int .i64 lb, .slice a n q])) (ho : ok = true → c' = c) :
    CutCoR B c ok w (.pointer (some ⟨ws.heap.size, 0, none⟩)) (.bool ok) (ws.alloc (.cells #[.int .i64 k, .int .i64 gt, .int .i64 lb, .slice a n q] 28)) :=
  ⟨ws.heap.size, k, gt, lb, a, n, q, c', rfl, rfl, hb.size, blk_new rfl, (hv.below bal1).fbn hx, ho, bstep hb bal1⟩
theorem CutCoR_early {B : Nat} {w ws x : World} {c c' : Co} {ok : Bool} {k gt lb : Int} {a : Option Addr} {n q g : Nat} {u0 u1 u2 u3 : Value} (hb : Below w.heap.size w ws) (h0 : ws.heap[g]? = some (.cells #[u0, u1, u2, u3] 28 (0, 0))) (hBw : B ≤ w.heap.size) (hg : w.heap.size ≤ g) (hx : g < x.heap.size)
    (hv : CoRep (FB B x.heap.size) ws c' (.agg #[.int .i64 k, .int .i64 gt, .int .i64 lb, .slice a n q])) (ho : ok = true → c' = c) : CutCoR B c ok w (.pointer (some ⟨g, 0, none⟩)) (.bool ok) ((((ws.setCell ⟨g, 0, none⟩ (.int .i64 k)).setCell ⟨g, 1, none⟩ (.int .i64 gt)).setCell ⟨g, 2, none⟩ (.int .i64 lb)).setCell ⟨g, 3, none⟩ (.slice a n q)) := by
  have hn : ¬ FB B x.heap.size g := fb_not (by omega) hx
  have h1 : (ws.setCell ⟨g, 0, none⟩ (.int .i64 k)).heap[g]? = some (.cells #[.int .i64 k, u1, u2, u3] 28 (0, 0)) := blk_set h0 rfl
  have h2 : ((ws.setCell ⟨g, 0, none⟩ (.int .i64 k)).setCell ⟨g, 1, none⟩ (.int .i64 gt)).heap[g]? = some (.cells #[.int .i64 k, .int .i64 gt, u2, u3] 28 (0, 0)) := blk_set h1 rfl
  have h3 : (((ws.setCell ⟨g, 0, none⟩ (.int .i64 k)).setCell ⟨g, 1, none⟩ (.int .i64 gt)).setCell ⟨g, 2, none⟩ (.int .i64 lb)).heap[g]? = some (.cells #[.int .i64 k, .int .i64 gt, .int .i64 lb, u3] 28 (0, 0)) := blk_set h2 rfl
  have hv4 := (((hv.setO (p := ⟨g, 0, none⟩) hn (.int .i64 k)).setO (p := ⟨g, 1, none⟩) hn (.int .i64 gt)).setO (p := ⟨g, 2, none⟩) hn (.int .i64 lb)).setO (p := ⟨g, 3, none⟩) hn (.slice a n q)
  exact ⟨g, k, gt, lb, a, n, q, c', rfl, rfl, hg, blk_set h3 rfl, hv4.fbn (by omega), ho, (((hb.setCell (p := ⟨g, 0, none⟩) hg _).setCell (p := ⟨g, 1, none⟩) hg _).setCell (p := ⟨g, 2, none⟩) hg _).setCell (p := ⟨g, 3, none⟩) hg _⟩

/-- What 'x, y := a[0], b[0]' leaves. -/
def CutVV (vs us : Array Value) (w : World) (s s' : Value) (wx : World) : Prop := ∃ (g h : Nat), s = .pointer (some ⟨g, 0, none⟩) ∧ s' = .pointer (some ⟨h, 0, none⟩) ∧ w.heap.size ≤ g ∧ w.heap.size ≤ h ∧ g ≠ h ∧
  wx.heap[g]? = some (.cells vs 28 (0, 0)) ∧ wx.heap[h]? = some (.cells us 28 (0, 0)) ∧ Below w.heap.size w wx
set_option maxHeartbeats 2000000 in
theorem implCoWith (k g l : Int) (a a' : Option Addr) (n q n' q' : Nat) (ok : Bool) (w : World) : Calls Try.prog 47 #[.agg #[.int .i64 k, .int .i64 g, .int .i64 l, .slice a n q], .bool ok, .slice a' n' q'] w fun e w' => e = .returned (.tuple #[.agg #[.int .i64 k, .int .i64 g, .int .i64 l, .slice a' n' q'], .bool ok]) ∧ Below w.heap.size w w' := by
  go_enter Try.func47, Try.ntmps47
  go_wp2_with fail
  refine bodyPost_ret (v := .tuple #[.agg #[.int .i64 k, .int .i64 g, .int .i64 l, .slice a' n' q'], .bool ok]) (by simp [results, Try.results47, go_sem]) rfl ?_
  exact ⟨rfl, bal2⟩
end Go.Proofs.Ythhdjacdalehoaa
