/-
  The composition of two coercions, as a plain function.
-/
import Derived.Test.YthhdjacdalehoaaCoTag
namespace Go.Proofs.Ythhdjacdalehoaa
open Go.RowKit
set_option linter.unusedVariables false
set_option linter.unusedSimpArgs false
set_option maxRecDepth 100000

def Co.unkB (b : Co) : Bool := b.kind == 5 || (b.kind == 1 && b.tag == 1)
def Co.zero : Co := .mk 0 0 0 []
/-- Two plain coercions, by what composes their operands. -/
def twoF (f : Co → Co → Co × Bool) (a b : Co) : Co × Bool :=
  if a.kind ≠ b.kind then (Co.zero, false)
  else if a.kind = 1 then (.mk 1 a.tag 0 [], a.tag == b.tag)
  else match a.kids, b.kids with
    | [a0, a1], [b0, b1] =>
      let x := if a.kind = 2 then f b0 a0 else f a0 b0
      let y := f a1 b1
      (.mk a.kind 0 0 [x.1, y.1], x.2 && y.2)
    | _, _ => (Co.zero, false)
def compF : Nat → Co → Co → Co × Bool
  | 0, _, _ => (Co.zero, false)
  | n + 1, a, b =>
    if a.kind = 1 ∧ a.tag = 1 then (b, b.unkB)
    else if a.kind = 5 then match a.kids with
      | [a0] => (.mk 5 0 a.label [(compF n a0 b).1], (compF n a0 b).2)
      | _ => (Co.zero, false)
    else if a.kind = 6 then (a, true)
    else if a.kind = 4 ∧ b.kind = 5 then match a.kids, b.kids with
      | [a0], [b0] => if a0.tagV == b0.tagV then compF n a0 b0 else (.mk 6 a0.tagV b.label [], true)
      | _, _ => (Co.zero, false)
    else if a.kind = 4 then (a, b.unkB)
    else if b.kind = 6 then (b, a.tagV == b.tag)
    else if b.kind = 4 then match b.kids with
      | [b0] => (.mk 4 0 0 [(twoF (compF n) a b0).1], (twoF (compF n) a b0).2)
      | _ => (Co.zero, false)
    else twoF (compF n) a b
theorem twoF_congr {f g : Co → Co → Co × Bool} {a b : Co} (h : ∀ x y, x.cnt + y.cnt < a.cnt + b.cnt → f x y = g x y) : twoF f a b = twoF g a b := by
  cases a with | mk k t l ts =>
  cases b with | mk k' t' l' us =>
  unfold twoF
  simp only [Co.kind, Co.tag, Co.kids]
  refine ite_congr rfl (fun _ => rfl) fun _ => ite_congr rfl (fun _ => rfl) fun _ => ?_
  match ts, us with
  | [a0, a1], [b0, b1] =>
    dsimp only
    rw [h b0 a0 (by simp only [Co.cnt, Co.cnts, List.length_cons, List.length_nil]; omega), h a0 b0 (by simp only [Co.cnt, Co.cnts, List.length_cons, List.length_nil]; omega), h a1 b1 (by simp only [Co.cnt, Co.cnts, List.length_cons, List.length_nil]; omega)]
  | [], _ => rfl
  | [_], _ => rfl
  | _ :: _ :: _ :: _, _ => rfl
  | [_, _], [] => rfl
  | [_, _], [_] => rfl
  | [_, _], _ :: _ :: _ :: _ => rfl
theorem compF_mono : ∀ (n m : Nat) (a b : Co), a.cnt + b.cnt < n → a.cnt + b.cnt < m → compF n a b = compF m a b
  | 0, _, _, _, h, _ => by omega
  | _, 0, _, _, _, h => by omega
  | n + 1, m + 1, a, b, h1, h2 => by
    have IH := fun x y (h : x.cnt + y.cnt < a.cnt + b.cnt) => compF_mono n m x y (by omega) (by omega)
    have IT := fun x y (h : x.cnt + y.cnt ≤ a.cnt + b.cnt) => twoF_congr (a := x) (b := y) (f := compF n) (g := compF m) fun u v hu => IH u v (by omega)
    cases a with | mk k t l ts =>
    cases b with | mk k' t' l' us =>
    unfold compF
    simp only [Co.kind, Co.tag, Co.kids, Co.label]
    refine ite_congr rfl (fun _ => rfl) fun _ => ite_congr rfl (fun _ => ?_) fun _ => ite_congr rfl (fun _ => rfl) fun _ => ite_congr rfl (fun _ => ?_) fun _ => ite_congr rfl (fun _ => rfl) fun _ => ite_congr rfl (fun _ => rfl) fun _ => ite_congr rfl (fun _ => ?_) fun _ => ?_
    · match ts with
      | [a0] => dsimp only; rw [IH _ _ (by simp only [Co.cnt, Co.cnts, List.length_cons, List.length_nil]; omega)]
      | [] => rfl
      | _ :: _ :: _ => rfl
    · match ts, us with
      | [a0], [b0] => dsimp only; rw [IH _ _ (by simp only [Co.cnt, Co.cnts, List.length_cons, List.length_nil]; omega)]
      | [], _ => rfl
      | _ :: _ :: _, _ => rfl
      | [_], [] => rfl
      | [_], _ :: _ :: _ => rfl
    · match us with
      | [b0] => dsimp only; rw [IT _ _ (by simp only [Co.cnt, Co.cnts, List.length_cons, List.length_nil]; omega)]
      | [] => rfl
      | _ :: _ :: _ => rfl
    · rw [IT _ _ (Nat.le_refl _)]
def Co.comp (a b : Co) : Co × Bool := compF (a.cnt + b.cnt + 1) a b
theorem compF_comp {n : Nat} {a b : Co} (h : a.cnt + b.cnt < n) : compF n a b = a.comp b := compF_mono _ _ _ _ h (by omega)
def Co.two (a b : Co) : Co × Bool := twoF Co.comp a b
theorem twoF_two {n : Nat} {a b : Co} (h : a.cnt + b.cnt ≤ n) : twoF (compF n) a b = a.two b := twoF_congr fun x y hx => compF_comp (by omega)
theorem comp_any (l : Int) (ts : List Co) (b : Co) : (Co.mk 1 1 l ts).comp b = (b, b.unkB) := by
  unfold Co.comp compF
  simp [Co.kind, Co.tag]
theorem comp_proj (g l : Int) (a0 b : Co) : (Co.mk 5 g l [a0]).comp b = (.mk 5 0 l [(a0.comp b).1], (a0.comp b).2) := by
  rw [Co.comp, compF]
  simp only [Co.kind, Co.tag, Co.kids, Co.label]
  rw [if_neg (by omega), if_pos trivial, compF_comp (by simp only [Co.cnt, Co.cnts, List.length_cons, List.length_nil]; omega)]
theorem comp_fail (g l : Int) (ts : List Co) (b : Co) : (Co.mk 6 g l ts).comp b = (.mk 6 g l ts, true) := by
  rw [Co.comp, compF]
  simp [Co.kind, Co.tag, Co.kids, Co.label]
theorem comp_ip (g l g' l' : Int) (a0 b0 : Co) : (Co.mk 4 g l [a0]).comp (.mk 5 g' l' [b0]) = if a0.tagV == b0.tagV then a0.comp b0 else (.mk 6 a0.tagV l' [], true) := by
  rw [Co.comp, compF]
  simp only [Co.kind, Co.tag, Co.kids, Co.label]
  rw [if_neg (by omega), if_neg (by omega), if_neg (by omega), if_pos ⟨trivial, trivial⟩, compF_comp (by simp only [Co.cnt, Co.cnts, List.length_cons, List.length_nil]; omega)]
theorem comp_inj (g l : Int) (ts : List Co) (b : Co) (h : b.kind ≠ 5) : (Co.mk 4 g l ts).comp b = (.mk 4 g l ts, b.unkB) := by
  rw [Co.comp, compF]
  rw [if_neg (by simp [Co.kind]), if_neg (by simp [Co.kind]), if_neg (by simp [Co.kind]), if_neg (fun hh => h hh.2), if_pos (show (Co.mk 4 g l ts).kind = 4 from rfl)]
def Co.plain (a : Co) : Bool := plainB a.kind a.tag
theorem Co.plain_ne {a : Co} (h : a.plain = true) : ¬ (a.kind = 1 ∧ a.tag = 1) ∧ a.kind ≠ 5 ∧ a.kind ≠ 6 ∧ a.kind ≠ 4 := by
  unfold Co.plain plainB at h
  simp only [Bool.or_eq_true, Bool.and_eq_true, beq_iff_eq, Bool.not_eq_true', beq_eq_false_iff_ne] at h
  omega
theorem comp_pf {a : Co} (h : a.plain = true) (g' l' : Int) (us : List Co) : a.comp (.mk 6 g' l' us) = (.mk 6 g' l' us, a.tagV == g') := by
  obtain ⟨h1, h2, h3, h4⟩ := Co.plain_ne h
  rw [Co.comp, compF]
  rw [if_neg h1, if_neg h2, if_neg h3, if_neg (by omega), if_neg h4, if_pos (show (Co.mk 6 g' l' us).kind = 6 from rfl)]; rfl
theorem comp_pi {a : Co} (h : a.plain = true) (g' l' : Int) (b0 : Co) : a.comp (.mk 4 g' l' [b0]) = (.mk 4 0 0 [(a.two b0).1], (a.two b0).2) := by
  obtain ⟨h1, h2, h3, h4⟩ := Co.plain_ne h
  rw [Co.comp, compF]
  simp only [show (Co.mk 4 g' l' [b0]).kind = 4 from rfl, show (Co.mk 4 g' l' [b0]).kids = [b0] from rfl]
  rw [if_neg h1, if_neg h2, if_neg h3, if_neg (by omega), if_neg h4, if_neg (by omega), if_pos trivial, twoF_two (by simp only [Co.cnt, Co.cnts, List.length_cons, List.length_nil]; omega)]
theorem comp_pp {a b : Co} (h : a.plain = true) (hb : b.kind ≠ 6) (hb' : b.kind ≠ 4) : a.comp b = a.two b := by
  obtain ⟨h1, h2, h3, h4⟩ := Co.plain_ne h
  rw [Co.comp, compF, if_neg h1, if_neg h2, if_neg h3, if_neg (by omega), if_neg h4, if_neg hb, if_neg hb', twoF_two (by omega)]
theorem two_ne {a b : Co} (h : a.kind ≠ b.kind) : a.two b = (Co.zero, false) := by unfold Co.two twoF; rw [if_pos h]
theorem two_id (g l g' l' : Int) (ts us : List Co) : (Co.mk 1 g l ts).two (.mk 1 g' l' us) = (.mk 1 g 0 [], g == g') := by unfold Co.two twoF; simp [Co.kind, Co.tag]
theorem two_fun (g l g' l' : Int) (a0 a1 b0 b1 : Co) : (Co.mk 2 g l [a0, a1]).two (.mk 2 g' l' [b0, b1]) = (.mk 2 0 0 [(b0.comp a0).1, (a1.comp b1).1], (b0.comp a0).2 && (a1.comp b1).2) := by
  unfold Co.two twoF; simp [Co.kind, Co.tag, Co.kids]
theorem two_pair (g l g' l' : Int) (a0 a1 b0 b1 : Co) : (Co.mk 3 g l [a0, a1]).two (.mk 3 g' l' [b0, b1]) = (.mk 3 0 0 [(a0.comp b0).1, (a1.comp b1).1], (a0.comp b0).2 && (a1.comp b1).2) := by
  unfold Co.two twoF; simp [Co.kind, Co.tag, Co.kids]

/-- A valid coercion, by its kind. -/
theorem Co.kinds {t : Co} {d : Int} (h : t.shape d = true) :
    (∃ g, t = .mk 1 g 0 [] ∧ 1 ≤ g ∧ g ≤ 3) ∨ (∃ a b, t = .mk 2 0 0 [a, b] ∧ a.shape (d - 1) = true ∧ b.shape (d - 1) = true) ∨ (∃ a b, t = .mk 3 0 0 [a, b] ∧ a.shape (d - 1) = true ∧ b.shape (d - 1) = true) ∨
    (∃ a, t = .mk 4 0 0 [a] ∧ a.shape (d - 1) = true ∧ a.plain = true) ∨ (∃ l a, t = .mk 5 0 l [a] ∧ a.shape (d - 1) = true ∧ labelB l = true ∧ a.kind ≠ 5 ∧ ¬ (a.kind = 1 ∧ a.tag = 1)) ∨ (∃ g l, t = .mk 6 g l [] ∧ 2 ≤ g ∧ g ≤ 5 ∧ labelB l = true) := by
  cases t with | mk k g l ts =>
  obtain ⟨h1, h2⟩ := Co.shape_parts h
  have h3 := (Co.node_of h).1
  unfold Co.shape at h
  simp only [Bool.and_eq_true, Co.nodeB] at h
  obtain ⟨⟨-, ⟨⟨⟨-, n1⟩, n2⟩, n3⟩, n4⟩, -⟩ := h
  rcases h3 with rfl | rfl | rfl | rfl | rfl | rfl <;> simp [coOps, winB] at h1 n1 n2 n3 n4
  · have : ts = [] := List.length_eq_zero_iff.1 (by omega)
    subst this n2
    exact .inl ⟨g, rfl, n1⟩
  · obtain ⟨a, b, rfl⟩ : ∃ a b, ts = [a, b] := by
      match ts, h1 with
      | [a, b], _ => exact ⟨a, b, rfl⟩
    subst n1 n2
    exact .inr (.inl ⟨a, b, rfl, Co.shapes_mem h2 (by simp), Co.shapes_mem h2 (by simp)⟩)
  · obtain ⟨a, b, rfl⟩ : ∃ a b, ts = [a, b] := by
      match ts, h1 with
      | [a, b], _ => exact ⟨a, b, rfl⟩
    subst n1 n2
    exact .inr (.inr (.inl ⟨a, b, rfl, Co.shapes_mem h2 (by simp), Co.shapes_mem h2 (by simp)⟩))
  · obtain ⟨a, rfl⟩ : ∃ a, ts = [a] := by
      match ts, h1 with
      | [a], _ => exact ⟨a, rfl⟩
    subst n1 n2
    exact .inr (.inr (.inr (.inl ⟨a, rfl, Co.shapes_mem h2 (by simp), n3⟩)))
  · obtain ⟨a, rfl⟩ : ∃ a, ts = [a] := by
      match ts, h1 with
      | [a], _ => exact ⟨a, rfl⟩
    subst n1
    exact .inr (.inr (.inr (.inr (.inl ⟨l, a, rfl, Co.shapes_mem h2 (by simp), n2, n4.1, fun hh => n4.2.elim (fun h => h hh.1) (fun h => h hh.2)⟩))))
  · have : ts = [] := List.length_eq_zero_iff.1 (by omega)
    subst this
    exact .inr (.inr (.inr (.inr (.inr ⟨g, l, rfl, n1.1, n1.2, n2⟩))))
theorem Co.shape_pos {t : Co} {d : Int} (h : t.shape d = true) : 1 ≤ d := by
  cases t
  unfold Co.shape at h
  simp only [Bool.and_eq_true, decide_eq_true_eq] at h
  exact h.1.1
theorem Co.shape_cnt : ∀ (n : Nat) (t : Co), t.shape n = true → t.cnt + 2 ≤ 2 ^ n
  | 0, t, h => absurd (Co.shape_pos h) (by simp)
  | n + 1, t, h => by
    have e : ((n + 1 : Nat) : Int) - 1 = n := by omega
    have hp : (2 : Nat) ≤ 2 ^ (n + 1) := by rw [Nat.pow_succ]; have := Nat.one_le_two_pow (n := n); omega
    rcases Co.kinds h with ⟨g, rfl, -⟩ | ⟨a, b, rfl, ha, hb⟩ | ⟨a, b, rfl, ha, hb⟩ | ⟨a, rfl, ha, -⟩ | ⟨l, a, rfl, ha, -⟩ | ⟨g, l, rfl, -⟩
    · simpa [Co.cnt, Co.cnts] using hp
    · rw [e] at ha hb
      have h1 := Co.shape_cnt n a ha
      have h2 := Co.shape_cnt n b hb
      simp only [Co.cnt, Co.cnts, List.length_cons, List.length_nil]
      rw [Nat.pow_succ]
      omega
    · rw [e] at ha hb
      have h1 := Co.shape_cnt n a ha
      have h2 := Co.shape_cnt n b hb
      simp only [Co.cnt, Co.cnts, List.length_cons, List.length_nil]
      rw [Nat.pow_succ]
      omega
    · rw [e] at ha
      have h1 := Co.shape_cnt n a ha
      simp only [Co.cnt, Co.cnts, List.length_cons, List.length_nil]
      rw [Nat.pow_succ]
      omega
    · rw [e] at ha
      have h1 := Co.shape_cnt n a ha
      simp only [Co.cnt, Co.cnts, List.length_cons, List.length_nil]
      rw [Nat.pow_succ]
      omega
    · simpa [Co.cnt, Co.cnts] using hp
theorem Co.cnt_le {t : Co} {n : Nat} (h : t.shape n = true) (hn : n ≤ 9) : t.cnt ≤ 510 := by
  have h1 := Co.shape_cnt n t h
  have h2 : 2 ^ n ≤ 2 ^ 9 := Nat.pow_le_pow_right (by omega) hn
  omega
def compOk (a b : Co) : Bool := (a.valid && b.valid) && ((a.comp b).2 && (a.comp b).1.valid)
def compT (a b : Co) : Co := if compOk a b then (a.comp b).1 else Co.zero
theorem compT_cnt (a b : Co) : 3 * (compT a b).cnt ≤ 1048576 := by
  unfold compT
  split
  · rename_i h
    unfold compOk at h
    simp only [Bool.and_eq_true] at h
    have := Co.cnt_le (n := 9) h.2.2 (Nat.le_refl _)
    omega
  · simp [Co.zero, Co.cnt, Co.cnts]
end Go.Proofs.Ythhdjacdalehoaa
