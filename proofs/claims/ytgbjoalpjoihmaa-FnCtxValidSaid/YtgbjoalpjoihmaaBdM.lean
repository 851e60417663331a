/-
  Lists of binds that are appended to one another.
-/
import Derived.Test.YtgbjoalpjoihmaaBdL
import Derived.Test.YtgbjoalpjoihmaaCtx
namespace Go.Proofs.Ytgbjoalpjoihmaa
open Go.RowKit
set_option linter.unusedVariables false
set_option linter.unusedSimpArgs false

def BdM (B : Nat) (w : World) (v : Value) (bs : List Bd) : Prop := ∃ xs, w.ownsRow B 44 3 v bs.length xs ∧ BdVals (fun b => v.ownBlock ≠ some b) w bs xs
theorem BdM.nil {B : Nat} {w : World} {g : Nat} {cs : Array Value} (hB : B ≤ g) (h : w.heap[g]? = some (.cells cs 44 (0, 0))) (h0 : cs.size = 0) : BdM B w (.slice (some ⟨g, 0, none⟩) 0 0) [] :=
  ⟨[], ⟨rfl, .inr ⟨g, 0, cs, rfl, hB, h, Nat.le_refl _, by unfold maxLen; omega, by simpa using h0, by simp⟩⟩, rfl⟩
theorem BdM.push {B : Nat} {W w2 : World} {v v' : Value} {bs cs : List Bd} {xs ys : List Value} (hv : BdVals (fun b => v.ownBlock ≠ some b) W bs xs) (hc : BdVals (fun b => v.ownBlock ≠ some b) W cs ys)
    (hown : w2.ownsRow B 44 3 v' (bs.length + cs.length) (xs ++ ys)) (hgrow : W.grownBy w2 v.ownBlock) (hat : v'.ownBlock = v.ownBlock ∨ v'.ownBlock = some W.heap.size) :
    BdM B w2 v' (bs ++ cs) := by
  have kk : Keeps (fun b => v.ownBlock ≠ some b) (fun b => v'.ownBlock ≠ some b) W w2 := by
    refine ⟨hgrow.size, fun b hb hl e => ?_, fun b hb hl => hgrow.block b hl (fun e => hb e.symm)⟩
    rcases hat with h | h
    · exact hb (h ▸ e)
    · rw [h] at e
      simp only [Option.some.injEq] at e
      omega
  exact ⟨xs ++ ys, by simpa using hown, BdVals.append bs cs xs ys (hv.move kk _ _) (hc.move kk _ _)⟩
theorem BdM.shape {B : Nat} {w : World} {v : Value} {bs : List Bd} (h : BdM B w v bs) : ∃ a q, v = .slice a bs.length q := by
  obtain ⟨xs, ⟨h1, h2 | ⟨g, cap, cur, h2, hB, hg, hn, hc, hs, ht⟩⟩, -⟩ := h
  · exact ⟨none, 0, by rw [h2.1, h2.2]⟩
  · exact ⟨_, cap, h2⟩
theorem BdM.rep {B : Nat} {w : World} {v : Value} {bs : List Bd} (h : BdM B w v bs) : BdsRep (fun _ => True) w bs v := by
  obtain ⟨a, q, rfl⟩ := h.shape
  obtain ⟨xs, h1, h2⟩ := h
  have h1' := h1
  obtain ⟨hx, h3 | ⟨g, cap, cur, h3, hB, hg, hn, hc, hs, ht⟩⟩ := h1
  · obtain ⟨h3, h4⟩ := h3
    simp only [Value.slice.injEq] at h3
    obtain ⟨rfl, -, rfl⟩ := h3
    have : bs = [] := List.length_eq_zero_iff.1 h4
    subst this
    unfold BdsRep CRep
    exact ⟨none, 0, rfl, Nat.le_refl _, by unfold maxLen; omega, .inl rfl⟩
  · simp only [Value.slice.injEq] at h3
    obtain ⟨rfl, -, rfl⟩ := h3
    have hcl := ownsRow_cells' h1'
    unfold BdsRep CRep
    refine ⟨_, q, by rw [Bd.rows_length], by rw [Bd.rows_length]; exact hn, hc, .inr ⟨g, 0, rfl, trivial, (Array.getElem?_eq_some_iff.1 hg).1, ?_⟩⟩
    exact BdVals.rows bs xs 0 (h2.move (.weaken fun _ _ _ => trivial) _ _) (fun j u hj => by simpa using hcl j u hj)
theorem BdVals.of_rows {F : Nat → Prop} {w : World} {b : Nat} : ∀ (bs : List Bd) (off : Nat), RowsAt F w b off (Bd.rows bs) → ∃ xs, BdVals F w bs xs ∧ (∀ j u, xs[j]? = some u → w.cell? ⟨b, off + j, none⟩ = some u) ∧ ∀ u ∈ xs, u.oneCell' = true
  | [], _, _ => ⟨[], rfl, by simp, by simp⟩
  | d :: bs, off, h => by
    have h' : RowsAt F w b off (d.row :: Bd.rows bs) := h
    unfold RowsAt at h'
    obtain ⟨h1, h2⟩ := h'
    obtain ⟨rest, r1, r2, r3⟩ := BdVals.of_rows bs _ h2
    rw [Bd.row_length] at r2
    unfold Bd.row CellsAt at h1
    obtain ⟨⟨y0, e0, c0⟩, h1⟩ := h1
    unfold CellsAt at h1
    obtain ⟨⟨y1, e1, c1⟩, h1⟩ := h1
    unfold CellsAt at h1
    obtain ⟨⟨y2, e2, c2⟩, -⟩ := h1
    unfold CRep at c0
    obtain ⟨rfl, hz⟩ := c0
    obtain rfl := CRep.int_eq c1
    obtain ⟨a, q, hs, -⟩ := CRep.rows c2
    subst hs
    refine ⟨_ :: _ :: _ :: rest, ⟨_, _, rest, rfl, hz, ⟨_, rfl, c2⟩, r1⟩, fun j u hj => ?_, fun u hu => ?_⟩
    · match j with
      | 0 => simp at hj; subst hj; exact e0
      | 1 => simp at hj; subst hj; exact e1
      | 2 => simp at hj; subst hj; exact e2
      | j + 3 =>
        have := r2 j u (by simpa using hj)
        rw [show off + (j + 3) = off + 3 + j from by omega]; exact this
    · simp only [List.mem_cons] at hu
      rcases hu with rfl | rfl | rfl | hu
      · rfl
      · rfl
      · rfl
      · exact r3 u hu
theorem BdsRep.cells {F : Nat → Prop} {w : World} {bs : List Bd} {a : Option Addr} {n q : Nat} (h : BdsRep F w bs (.slice a n q)) (hn : 0 < n) : ∃ ad xs, a = some ad ∧ BdVals F w bs xs ∧ (∀ j u, xs[j]? = some u → w.cell? (ad.add j) = some u) ∧ ∀ u ∈ xs, u.oneCell' = true := by
  unfold BdsRep CRep at h
  obtain ⟨a', q', he, h1, h2, h3⟩ := h
  simp only [Value.slice.injEq] at he
  obtain ⟨rfl, rfl, rfl⟩ := he
  rcases h3 with h3 | ⟨b, off, rfl, -, -, h3⟩
  · rw [h3] at hn; exact absurd hn (by simp)
  · obtain ⟨xs, r1, r2, r3⟩ := BdVals.of_rows bs off h3
    exact ⟨_, xs, rfl, r1, fun j u hj => by have := r2 j u hj; cases j <;> simpa [Addr.add] using this, r3⟩
theorem BdsRep.n_eq {F : Nat → Prop} {w : World} {bs : List Bd} {a : Option Addr} {n q : Nat} (h : BdsRep F w bs (.slice a n q)) : n = bs.length := by
  unfold BdsRep CRep at h
  obtain ⟨a', q', he, -⟩ := h
  simp only [Value.slice.injEq] at he
  rw [he.2.1, Bd.rows_length]
theorem BdsRep.cellsAny {F : Nat → Prop} {w : World} {bs : List Bd} {ad : Addr} {n q : Nat} (h : BdsRep F w bs (.slice (some ad) n q)) : ∃ ad' xs, some ad = some ad' ∧ BdVals F w bs xs ∧ (∀ j u, xs[j]? = some u → w.cell? (ad'.add j) = some u) ∧ ∀ u ∈ xs, u.oneCell' = true := by
  by_cases hn : 0 < n
  · exact h.cells hn
  · have := h.n_eq
    have : bs = [] := List.length_eq_zero_iff.1 (by omega)
    subst this
    exact ⟨ad, [], rfl, rfl, by simp, by simp⟩
theorem BdsRep.old {F : Nat → Prop} {w : World} {bs : List Bd} {y : Value} (r : BdsRep F w bs y) : BdsRep (· < w.heap.size) w bs y := r.move (.weaken fun _ _ h => h)
theorem ctxB_append {cs bs : List Bd} (h : (cs ++ bs).length ≤ 12) : ctxB (cs ++ bs) = (ctxB cs && ctxB bs) := by
  rw [ctxB_short h, ctxB_short (by simp at h; omega), ctxB_short (by simp at h; omega), List.all_append]
end Go.Proofs.Ytgbjoalpjoihmaa
