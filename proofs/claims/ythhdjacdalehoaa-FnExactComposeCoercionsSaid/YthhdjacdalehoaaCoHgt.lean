/-
  CoercionHeight of both sides.
-/
import Derived.Test.YthhdjacdalehoaaCoValid
import Derived.IntWalk
namespace Go.Proofs.Ythhdjacdalehoaa
open Go.RowKit
set_option linter.unusedVariables false
set_option linter.unusedSimpArgs false
set_option maxRecDepth 100000

mutual
def Co.hgt : Co → Int
  | .mk k _ _ ts => if k == 4 || k == 5 then Co.hmax ts else Co.hmax ts + 1
def Co.hmax : List Co → Int
  | [] => 0
  | t :: ts => max t.hgt (Co.hmax ts)
end
mutual
def Co.idB : Co → Bool
  | .mk k _ _ ts => (k == 1 || k == 2 || k == 3) && Co.idsB ts
def Co.idsB : List Co → Bool
  | [] => true
  | t :: ts => t.idB && Co.idsB ts
end
theorem Co.shape_parts {k g l : Int} {ts : List Co} {d : Int} (h : (Co.mk k g l ts).shape d = true) : coOps k = (ts.length : Int) ∧ Co.shapes ts (d - 1) = true := by
  unfold Co.shape at h
  simp only [Bool.and_eq_true, Co.nodeB, beq_iff_eq] at h
  exact ⟨h.1.2.1.1.1.1, h.2⟩
theorem Co.shapes_mem {d : Int} : ∀ {ts : List Co} {t : Co}, Co.shapes ts d = true → t ∈ ts → t.shape d = true
  | u :: ts, t, h, ht => by
    unfold Co.shapes at h
    simp only [Bool.and_eq_true] at h
    rcases List.mem_cons.1 ht with rfl | ht
    · exact h.1
    · exact Co.shapes_mem h.2 ht
theorem Co.hmax_take_succ : ∀ (ts : List Co) (j : Nat) (h : j < ts.length), Co.hmax (ts.take (j + 1)) = max (Co.hmax (ts.take j)) ts[j].hgt
  | [], _, h => absurd h (Nat.not_lt_zero _)
  | t :: ts, 0, _ => by simp [Co.hmax]; omega
  | t :: ts, j + 1, h => by
    have := Co.hmax_take_succ ts j (by simpa using h)
    simp only [List.take_succ_cons, Co.hmax, List.getElem_cons_succ]
    omega
mutual
theorem Co.hgt_bd : ∀ (t : Co) (d : Int), t.shape d = true → 0 ≤ t.hgt ∧ t.hgt ≤ d
  | .mk k g l ts, d, h => by
    have hd : 1 ≤ d := by unfold Co.shape at h; simp only [Bool.and_eq_true, decide_eq_true_eq] at h; exact h.1.1
    obtain ⟨-, h2⟩ := Co.shape_parts h
    have := Co.hmax_bd ts (d - 1) h2 (by omega)
    unfold Co.hgt
    split <;> omega
theorem Co.hmax_bd : ∀ (ts : List Co) (d : Int), Co.shapes ts d = true → 0 ≤ d → 0 ≤ Co.hmax ts ∧ Co.hmax ts ≤ d
  | [], d, _, h0 => by unfold Co.hmax; omega
  | t :: ts, d, h, h0 => by
    unfold Co.shapes at h
    simp only [Bool.and_eq_true] at h
    have h1 := Co.hgt_bd t d h.1
    have h2 := Co.hmax_bd ts d h.2 h0
    unfold Co.hmax
    omega
end
theorem leaf_hgtspec_0 (k mx m : Int) (n : Nat) (h0 : (k == 2) = true) (h1 : m = mx) (h2 : coOps k = (n : Int)) : (m + 1 : Int) = (if k == 4 || k == 5 then mx else mx + 1) := by
  grind [coOps]

theorem leaf_hgtspec_1 (k mx m : Int) (n : Nat) (h0 : (k == 2) = false) (h1 : (k == 3) = true) (h2 : m = mx) (h3 : coOps k = (n : Int)) : (m + 1 : Int) = (if k == 4 || k == 5 then mx else mx + 1) := by
  grind [coOps]

theorem leaf_hgtspec_2 (k mx m : Int) (n : Nat) (h0 : (k == 2) = false) (h1 : (k == 3) = false) (h2 : ((n : Int) == 0) = true) (h3 : m = mx) (h4 : coOps k = (n : Int)) : (m + 1 : Int) = (if k == 4 || k == 5 then mx else mx + 1) := by
  grind [coOps]

theorem leaf_hgtspec_3 (k mx m : Int) (n : Nat) (h0 : (k == 2) = false) (h1 : (k == 3) = false) (h2 : ((n : Int) == 0) = false) (h3 : m = mx) (h4 : coOps k = (n : Int)) : (m : Int) = (if k == 4 || k == 5 then mx else mx + 1) := by
  grind [coOps]

theorem leaf_hgtimpl_4 (k mx m : Int) (n : Nat) (h0 : (k == 4) = true) (h1 : m = mx) (h2 : coOps k = (n : Int)) : (m : Int) = (if k == 4 || k == 5 then mx else mx + 1) := by
  grind [coOps]

theorem leaf_hgtimpl_5 (k mx m : Int) (n : Nat) (h0 : (k == 4) = false) (h1 : (k == 5) = true) (h2 : m = mx) (h3 : coOps k = (n : Int)) : (m : Int) = (if k == 4 || k == 5 then mx else mx + 1) := by
  grind [coOps]

theorem leaf_hgtimpl_6 (k mx m : Int) (n : Nat) (h0 : (k == 4) = false) (h1 : (k == 5) = false) (h2 : m = mx) (h3 : coOps k = (n : Int)) : (m + 1 : Int) = (if k == 4 || k == 5 then mx else mx + 1) := by
  grind [coOps]

theorem leaf_hmainspec_7 (vv : Bool) (hg : Int) (h0 : (vv) = true) : (hg : Int) = (if vv then hg else 0) := by
  simp_all

theorem leaf_hmainspec_8 (vv : Bool) (hg : Int) (h0 : (vv) = false) : (0 : Int) = (if vv then hg else 0) := by
  simp_all

theorem leaf_hmainimpl_9 (vv : Bool) (hg : Int) (h0 : (vv) = true) : (hg : Int) = (if vv then hg else 0) := by
  simp_all

theorem leaf_hmainimpl_10 (vv : Bool) (hg : Int) (h0 : (vv) = false) : (0 : Int) = (if vv then hg else 0) := by
  simp_all

def Co.height (t : Co) : Int := if t.valid then t.hgt else 0
end Go.Proofs.Ythhdjacdalehoaa
