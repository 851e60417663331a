/-
  A list of binds that grows by append: the rows lie in a block of one's own, the types are readings.
-/
import Derived.Test.YtgbjoalpjoihmaaBd
import Derived.Test.YtgbjoalpjoihmaaChg
import Derived.Test.YtgbjoalpjoihmaaAcc
import Derived.Test.YtgbjoalpjoihmaaRd2
namespace Go.Proofs.Ytgbjoalpjoihmaa
open Go.RowKit
set_option linter.unusedVariables false
set_option linter.unusedSimpArgs false

def BdVals (F : Nat → Prop) (w : World) : List Bd → List Value → Prop
  | [], xs => xs = []
  | b :: bs, xs => ∃ k sl rest, xs = .string b.name :: .int .i64 k :: sl :: rest ∧ b.name.size ≤ maxLen ∧ TyRep F w b.ty (.agg #[.int .i64 k, sl]) ∧ BdVals F w bs rest
theorem BdVals.move {F G : Nat → Prop} {w w' : World} (k : Keeps F G w w') : ∀ (bs : List Bd) (xs : List Value), BdVals F w bs xs → BdVals G w' bs xs
  | [], _, h => h
  | b :: bs, _, ⟨kk, sl, rest, h1, h2, h3, h4⟩ => ⟨kk, sl, rest, h1, h2, h3.move k, BdVals.move k bs rest h4⟩
theorem BdVals.append {F : Nat → Prop} {w : World} : ∀ (bs cs : List Bd) (xs ys : List Value), BdVals F w bs xs → BdVals F w cs ys → BdVals F w (bs ++ cs) (xs ++ ys)
  | [], cs, xs, ys, h, h' => by
    have h0 : xs = [] := h
    subst h0; simpa using h'
  | b :: bs, cs, _, ys, ⟨kk, sl, rest, h1, h2, h3, h4⟩, h' => by
    subst h1
    exact ⟨kk, sl, rest ++ ys, rfl, h2, h3, BdVals.append bs cs rest ys h4 h'⟩
theorem BdVals.len {F : Nat → Prop} {w : World} : ∀ (bs : List Bd) (xs : List Value), BdVals F w bs xs → xs.length = bs.length * 3
  | [], xs, h => by
    have h0 : xs = [] := h
    subst h0; rfl
  | b :: bs, _, ⟨kk, sl, rest, h1, h2, h3, h4⟩ => by
    subst h1
    have := BdVals.len bs rest h4
    simp only [List.length_cons]; omega
/-- The rows as the cells of a block hold them. -/
theorem BdVals.rows {F : Nat → Prop} {w : World} {g : Nat} : ∀ (bs : List Bd) (xs : List Value) (off : Nat), BdVals F w bs xs → (∀ j u, xs[j]? = some u → w.cell? ⟨g, off + j, none⟩ = some u) → RowsAt F w g off (Bd.rows bs)
  | [], _, _, _, _ => by unfold Bd.rows RowsAt; trivial
  | b :: bs, _, off, ⟨kk, sl, rest, h1, h2, h3, h4⟩, hc => by
    subst h1
    obtain ⟨s, he, hs⟩ := h3
    simp only [Value.agg.injEq, Array.mk.injEq, List.cons.injEq, Value.int.injEq, true_and, and_true] at he
    obtain ⟨rfl, rfl⟩ := he
    have e0 := hc 0 _ rfl
    have e1 := hc 1 _ rfl
    have e2 := hc 2 _ rfl
    show RowsAt F w g off (b.row :: Bd.rows bs)
    unfold RowsAt
    refine ⟨?_, BdVals.rows bs rest _ h4 fun j u hj => ?_⟩
    · unfold Bd.row CellsAt
      refine ⟨⟨_, e0, by unfold CRep; exact ⟨rfl, h2⟩⟩, ?_⟩
      unfold CellsAt
      refine ⟨⟨_, e1, by unfold CRep; rfl⟩, ?_⟩
      unfold CellsAt
      exact ⟨⟨_, e2, hs⟩, by unfold CellsAt; trivial⟩
    · have := hc (j + 3) u (by simpa using hj)
      rw [Bd.row_length, Nat.add_assoc, Nat.add_comm 3 j]; exact this

theorem ownsRow_cells' {w : World} {B : Nat} {e : TypeId} {size n q g : Nat} {xs : List Value} (h : w.ownsRow B e size (.slice (some ⟨g, 0, none⟩) n q) n xs) : ∀ j u, xs[j]? = some u → w.cell? ⟨g, j, none⟩ = some u := by
  obtain ⟨h1, h2 | ⟨g', cap, cur, h2, hB, hg, hn, hc, hs, ht⟩⟩ := h
  · exact absurd h2.1 (by simp)
  · simp only [Value.slice.injEq, Option.some.injEq, Addr.mk.injEq, and_true] at h2
    obtain ⟨rfl, -, rfl⟩ := h2
    intro j u hj
    subst ht
    simp only [World.cell?, hg]
    rw [List.getElem?_take] at hj
    split at hj
    · simpa using hj
    · cases hj

def BdL (r B : Nat) (w : World) (v : Value) (bs : List Bd) : Prop := r < B ∧ (∃ g, v.ownBlock = some g) ∧ ∃ xs, w.ownsRow B 44 3 v bs.length xs ∧ BdVals (fun b => b ≠ r ∧ v.ownBlock ≠ some b) w bs xs

theorem BdL.nil {r B : Nat} {w : World} {g : Nat} {cs : Array Value} (hr : r < B) (hB : B ≤ g) (h : w.heap[g]? = some (.cells cs 44 (0, 0))) (h0 : cs.size = 0) : BdL r B w (.slice (some ⟨g, 0, none⟩) 0 0) [] :=
  ⟨hr, ⟨g, rfl⟩, [], ⟨rfl, .inr ⟨g, 0, cs, rfl, hB, h, Nat.le_refl _, by unfold maxLen; omega, by simpa using h0, by simp⟩⟩, rfl⟩
theorem BdL.chg {r B : Nat} {w w' : World} {v : Value} {bs : List Bd} (h : BdL r B w v bs) (k : Chg [r] w w') : BdL r B w' v bs := by
  obtain ⟨hr, hso, xs, h1, h2⟩ := h
  exact ⟨hr, hso, xs, ownsRow_chg h1 k hr, h2.move (k.keeps fun b hb => by simpa using hb.1) _ _⟩
theorem BdL.below {r B : Nat} {w w' : World} {v : Value} {bs : List Bd} (h : BdL r B w v bs) (k : Below w.heap.size w w') : BdL r B w' v bs := by
  obtain ⟨hr, hso, xs, h1, h2⟩ := h
  exact ⟨hr, hso, xs, ownsRow_below h1 k, h2.move (.below k) _ _⟩
theorem BdL.shape {r B : Nat} {w : World} {v : Value} {bs : List Bd} (h : BdL r B w v bs) : ∃ a q, v = .slice a bs.length q := by
  obtain ⟨hr, hso, xs, ⟨h1, h2 | ⟨g, cap, cur, h2, hB, hg, hn, hc, hs, ht⟩⟩, -⟩ := h
  · exact ⟨none, 0, by rw [h2.1, h2.2]⟩
  · exact ⟨_, cap, h2⟩
/-- Behind an append of one row. -/
theorem BdL.push {r B g cap : Nat} {W w2 : World} {v : Value} {bs : List Bd} {xs : List Value} {nm : ByteArray} {k : Int} {sl : Value} {t : Ty} (hr : r < B) (hv : BdVals (fun b => b ≠ r ∧ v.ownBlock ≠ some b) W bs xs) (hn : nm.size ≤ maxLen)
    (ht : TyRep (fun b => b ≠ r ∧ v.ownBlock ≠ some b) W t (.agg #[.int .i64 k, sl])) (hown : w2.ownsRow B 44 3 (.slice (some ⟨g, 0, none⟩) (bs.length + 1) cap) (bs.length + 1) (xs ++ [.string nm, .int .i64 k, sl])) (hgrow : W.grownBy w2 v.ownBlock) (hat : v.ownBlock = some g ∨ g = W.heap.size) :
    BdL r B w2 (.slice (some ⟨g, 0, none⟩) (bs.length + 1) cap) (bs ++ [⟨nm, t⟩]) := by
  have kk : Keeps (fun b => b ≠ r ∧ v.ownBlock ≠ some b) (fun b => b ≠ r ∧ (Value.slice (some ⟨g, 0, none⟩) (bs.length + 1) cap).ownBlock ≠ some b) W w2 := by
    refine ⟨hgrow.size, fun b hb hl => ⟨hb.1, fun e => ?_⟩, fun b hb hl => hgrow.block b hl (fun e => hb.2 e.symm)⟩
    simp only [Value.ownBlock, Option.some.injEq] at e
    subst e
    rcases hat with h | h
    · exact hb.2 h
    · omega
  refine ⟨hr, ⟨g, rfl⟩, xs ++ [.string nm, .int .i64 k, sl], by simpa using hown, BdVals.append bs [⟨nm, t⟩] xs _ (hv.move kk _ _) ⟨k, sl, [], rfl, hn, ht.move kk, rfl⟩⟩
theorem BdL.rep {r B : Nat} {w : World} {v : Value} {bs : List Bd} (h : BdL r B w v bs) : BdsRep (fun _ => True) w bs v := by
  obtain ⟨a, q, rfl⟩ := h.shape
  obtain ⟨hr, hso, xs, h1, h2⟩ := h
  have h1' := h1
  obtain ⟨hx, h3 | ⟨g, cap, cur, h3, hB, hg, hn, hc, hs, ht⟩⟩ := h1
  · obtain ⟨h3, h4⟩ := h3
    simp only [Value.slice.injEq] at h3
    obtain ⟨rfl, -, rfl⟩ := h3
    have : bs = [] := List.length_eq_zero_iff.1 h4
    subst this
    unfold BdsRep CRep
    exact ⟨none, 0, rfl, Nat.le_refl _, by unfold maxLen; omega, .inl rfl⟩
  · simp only [Value.slice.injEq] at h3
    obtain ⟨rfl, -, rfl⟩ := h3
    have hcl := ownsRow_cells' h1'
    unfold BdsRep CRep
    refine ⟨_, q, by rw [Bd.rows_length], by rw [Bd.rows_length]; exact hn, hc, .inr ⟨g, 0, rfl, trivial, (Array.getElem?_eq_some_iff.1 hg).1, ?_⟩⟩
    exact BdVals.rows bs xs 0 (h2.move (.weaken fun _ _ _ => trivial) _ _) (fun j u hj => by simpa using hcl j u hj)
theorem ownsRow_set {w : World} {B : Nat} {e : TypeId} {size n q g i : Nat} {xs : List Value} {u : Value} (h : w.ownsRow B e size (.slice (some ⟨g, 0, none⟩) n q) n xs) (hi : i < n * size) : (w.setCell ⟨g, i, none⟩ u).ownsRow B e size (.slice (some ⟨g, 0, none⟩) n q) n (xs.set i u) := by
  obtain ⟨h1, h2 | ⟨g', cap, cur, h2, hB, hg, hn, hc, hs, ht⟩⟩ := h
  · exact absurd h2.1 (by simp)
  · simp only [Value.slice.injEq, Option.some.injEq, Addr.mk.injEq, and_true] at h2
    obtain ⟨rfl, -, rfl⟩ := h2
    refine ⟨by rw [List.length_set]; exact h1, .inr ⟨g, q, _, rfl, hB, heap_setCell_same hg, hn, hc, by simpa using hs, ?_⟩⟩
    subst ht
    simp [List.take_set]
/-- The first row written anew. -/
theorem BdL.set0 {r B g n q : Nat} {w : World} {b : Bd} {bs : List Bd} {nm : ByteArray} {k : Int} {sl : Value} {t : Ty} (h : BdL r B w (.slice (some ⟨g, 0, none⟩) n q) (b :: bs)) (hn : nm.size ≤ maxLen) (ht : TyRep (fun x => x ≠ r ∧ x ≠ g) w t (.agg #[.int .i64 k, sl])) :
    BdL r B (((w.setCell ⟨g, 0, none⟩ (.string nm)).setCell ⟨g, 1, none⟩ (.int .i64 k)).setCell ⟨g, 2, none⟩ sl) (.slice (some ⟨g, 0, none⟩) n q) (⟨nm, t⟩ :: bs) := by
  obtain ⟨a, q', he⟩ := h.shape
  simp only [Value.slice.injEq] at he
  obtain ⟨-, rfl, -⟩ := he
  obtain ⟨hr, hso, xs, h1, kk, sl', rest, rfl, h2, h3, h4⟩ := h
  have o1 := ownsRow_set (i := 0) (u := .string nm) h1 (by simp)
  have o2 := ownsRow_set (i := 1) (u := .int .i64 k) o1 (by simp; omega)
  have o3 := ownsRow_set (i := 2) (u := sl) o2 (by simp; omega)
  have K : ∀ (F : Nat → Prop), (∀ b, F b → b ≠ r ∧ b ≠ g) → Keeps F (fun x => x ≠ r ∧ (Value.slice (some ⟨g, 0, none⟩) (b :: bs).length q).ownBlock ≠ some x) w (((w.setCell ⟨g, 0, none⟩ (.string nm)).setCell ⟨g, 1, none⟩ (.int .i64 k)).setCell ⟨g, 2, none⟩ sl) := fun F hF =>
    ⟨by simp [World.setCell], fun x hx _ => ⟨(hF x hx).1, fun e => (hF x hx).2 (by simpa [Value.ownBlock] using e.symm)⟩, fun x hx _ => by
      have hne := (hF x hx).2
      rw [Below.heap_setCell _ ⟨g, _, none⟩ _ x hne, Below.heap_setCell _ ⟨g, _, none⟩ _ x hne, Below.heap_setCell _ ⟨g, _, none⟩ _ x hne]⟩
  refine ⟨hr, ⟨g, rfl⟩, _, o3, k, sl, rest, rfl, hn, ht.move (K _ fun _ h => h), h4.move (K _ fun x hx => ⟨hx.1, fun e => hx.2 (by rw [e]; rfl)⟩) _ _⟩
end Go.Proofs.Ytgbjoalpjoihmaa
