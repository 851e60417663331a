/-
  A slice of rows that grows by append: the rows lie in a block of one's own, what they hold are readings.
-/
import Derived.Test.YtblpdpkjgbbhkaaAcc
import Derived.Test.YtblpdpkjgbbhkaaRd2
namespace Go.Proofs.Ytblpdpkjgbbhkaa
open Go.RowKit
set_option linter.unusedVariables false
set_option linter.unusedSimpArgs false

def RVals (F : Nat → Prop) (w : World) : List (List C) → List Value → Prop
  | [], xs => xs = []
  | r :: rs, xs => ∃ ys rest, xs = ys ++ rest ∧ SRep F w r ys ∧ RVals F w rs rest
theorem RVals.move {F G : Nat → Prop} {w w' : World} (k : Keeps F G w w') : ∀ (rs : List (List C)) (xs : List Value), RVals F w rs xs → RVals G w' rs xs
  | [], _, h => h
  | r :: rs, _, ⟨ys, rest, h1, h2, h3⟩ => ⟨ys, rest, h1, h2.move k, RVals.move k rs rest h3⟩
theorem RVals.append {F : Nat → Prop} {w : World} : ∀ (rs us : List (List C)) (xs ys : List Value), RVals F w rs xs → RVals F w us ys → RVals F w (rs ++ us) (xs ++ ys)
  | [], us, xs, ys, h, h' => by
    have h0 : xs = [] := h
    subst h0; simpa using h'
  | r :: rs, us, _, zs, ⟨ys, rest, h1, h2, h3⟩, h' => by
    subst h1
    exact ⟨ys, rest ++ zs, by simp, h2, RVals.append rs us rest zs h3 h'⟩
theorem RVals.one {F : Nat → Prop} {w : World} {r : List C} {ys : List Value} (h : SRep F w r ys) : RVals F w [r] ys := ⟨ys, [], by simp, h, rfl⟩
theorem SRep.len {F : Nat → Prop} {w : World} : ∀ {r : List C} {ys : List Value}, SRep F w r ys → ys.length = r.length
  | [], _, h => by
    have h0 : _ = [] := h
    rw [h0]; rfl
  | c :: cs, _, ⟨z, zs, h1, h2, h3⟩ => by rw [h1, List.length_cons, List.length_cons, SRep.len h3]
theorem SRep.cellsAt {F : Nat → Prop} {w : World} {g : Nat} : ∀ {r : List C} {ys : List Value} {off : Nat}, SRep F w r ys → (∀ j u, ys[j]? = some u → w.cell? ⟨g, off + j, none⟩ = some u) → CellsAt F w g off r
  | [], _, off, _, _ => by unfold CellsAt; trivial
  | c :: cs, _, off, ⟨z, zs, h1, h2, h3⟩, hc => by
    subst h1
    unfold CellsAt
    refine ⟨⟨z, hc 0 z rfl, h2⟩, SRep.cellsAt h3 fun j u hj => ?_⟩
    have := hc (j + 1) u (by simpa using hj)
    rw [show off + 1 + j = off + (j + 1) from by omega]; exact this
theorem RVals.rows {F : Nat → Prop} {w : World} {g : Nat} : ∀ (rs : List (List C)) (xs : List Value) (off : Nat), RVals F w rs xs → (∀ j u, xs[j]? = some u → w.cell? ⟨g, off + j, none⟩ = some u) → RowsAt F w g off rs
  | [], _, off, _, _ => by unfold RowsAt; trivial
  | r :: rs, _, off, ⟨ys, rest, h1, h2, h3⟩, hc => by
    subst h1
    have hl := h2.len
    unfold RowsAt
    refine ⟨SRep.cellsAt h2 fun j u hj => hc j u ?_, RVals.rows rs rest _ h3 fun j u hj => ?_⟩
    · have hlt := (List.getElem?_eq_some_iff.1 hj).1
      rw [List.getElem?_append_left hlt]; exact hj
    · have := hc (ys.length + j) u (by rw [List.getElem?_append_right (by omega)]; simpa using hj)
      rw [← hl, show off + ys.length + j = off + (ys.length + j) from by omega]; exact this
theorem SRep.one' {F : Nat → Prop} {w : World} : ∀ {r : List C} {ys : List Value}, SRep F w r ys → ∀ y ∈ ys, y.oneCell' = true
  | [], _, h, y, hy => by
    have h0 : _ = [] := h
    rw [h0] at hy; cases hy
  | c :: cs, _, ⟨z, zs, h1, h2, h3⟩, y, hy => by
    subst h1
    rcases List.mem_cons.1 hy with rfl | hy
    · cases c with
      | int n => rw [h2.int_eq]; rfl
      | str s => rw [h2.str_eq.1]; rfl
      | sl rows => obtain ⟨a, q, h, -⟩ := h2.rows; rw [h]; rfl
    · exact SRep.one' h3 y hy

/-- The slice v has grown to these rows: its block is one's own and lies from B on, what the rows read lies from B on, too. -/
def RowL (B : Nat) (e : TypeId) (sz : Nat) (w : World) (v : Value) (n : Nat) (rows : List (List C)) : Prop :=
  rows.length = n ∧ ∃ xs, w.ownsRow B e sz v n xs ∧ RVals (fun b => B ≤ b ∧ v.ownBlock ≠ some b) w rows xs
theorem RowL.nil {B : Nat} {e : TypeId} {sz : Nat} {w : World} : RowL B e sz w (.slice none 0 0) 0 [] := ⟨rfl, [], World.ownsRow_nil w B e sz, rfl⟩
theorem RowL.chg {r B : Nat} {e : TypeId} {sz n : Nat} {w w' : World} {v : Value} {rows : List (List C)} (h : RowL B e sz w v n rows) (k : Chg [r] w w') (hr : r < B) : RowL B e sz w' v n rows := by
  obtain ⟨hl, xs, h1, h2⟩ := h
  exact ⟨hl, xs, ownsRow_chg h1 k hr, h2.move (k.keeps fun b hb => by have := hb.1; simp; omega) _ _⟩
theorem RowL.below {B : Nat} {e : TypeId} {sz n : Nat} {w w' : World} {v : Value} {rows : List (List C)} (h : RowL B e sz w v n rows) (k : Below w.heap.size w w') : RowL B e sz w' v n rows := by
  obtain ⟨hl, xs, h1, h2⟩ := h
  exact ⟨hl, xs, ownsRow_below h1 k, h2.move (.below k) _ _⟩
theorem RowL.setCell {B : Nat} {e : TypeId} {sz n : Nat} {w : World} {v : Value} {rows : List (List C)} (h : RowL B e sz w v n rows) {p : Addr} (hp : p.block < B) (u : Value) : RowL B e sz (w.setCell p u) v n rows := by
  obtain ⟨hl, xs, h1, h2⟩ := h
  exact ⟨hl, xs, ownsRow_setCell_below h1 hp u, h2.move ⟨by simp [World.setCell], fun _ h _ => h, fun b hb _ => Below.heap_setCell w p u b (by have := hb.1; omega)⟩ _ _⟩
theorem RowL.shape {B : Nat} {e : TypeId} {sz n : Nat} {w : World} {v : Value} {rows : List (List C)} (h : RowL B e sz w v n rows) : ∃ a q, v = .slice a n q := by
  obtain ⟨hl, xs, ⟨h1, h2 | ⟨g, cap, cur, h2, hB, hg, hn, hc, hs, ht⟩⟩, -⟩ := h
  · exact ⟨none, 0, by rw [h2.1, h2.2]⟩
  · exact ⟨_, cap, h2⟩
/-- Behind an append of one row, in a world W; the slice was whole in wr. -/
theorem RowL.push {r B g cap n sz : Nat} {e : TypeId} {wr W w2 : World} {v : Value} {rows : List (List C)} {xs ys : List Value} {rw' : List C} (hl : rows.length = n) (ho : wr.ownsRow B e sz v n xs) (hv : RVals (fun b => B ≤ b ∧ v.ownBlock ≠ some b) wr rows xs)
    (hrB : r < B) (hb : Chg [r] wr W) (hr : SRep (fun b => wr.heap.size ≤ b) W rw' ys) (hB : B ≤ wr.heap.size)
    (hown : w2.ownsRow B e sz (.slice (some ⟨g, 0, none⟩) (n + 1) cap) (n + 1) (xs ++ ys)) (hgrow : W.grownBy w2 v.ownBlock) (hat : v.ownBlock = some g ∨ g = W.heap.size) :
    RowL B e sz w2 (.slice (some ⟨g, 0, none⟩) (n + 1) cap) (n + 1) (rows ++ [rw']) := by
  have hlt : ∀ b, v.ownBlock = some b → b < wr.heap.size := fun b hb => (ho.lt b hb).2
  have kk : Keeps (fun b => B ≤ b ∧ v.ownBlock ≠ some b) (fun b => B ≤ b ∧ (Value.slice (some ⟨g, 0, none⟩) (n + 1) cap).ownBlock ≠ some b) W w2 := by
    refine ⟨hgrow.size, fun b hb hl => ⟨hb.1, fun e => ?_⟩, fun b hb hl => hgrow.block b hl (fun e => hb.2 e.symm)⟩
    simp only [Value.ownBlock, Option.some.injEq] at e
    subst e
    rcases hat with h | h
    · exact hb.2 h
    · omega
  have k0 : Keeps (fun b => B ≤ b ∧ v.ownBlock ≠ some b) (fun b => B ≤ b ∧ v.ownBlock ≠ some b) wr W := hb.keeps fun b hb => by have := hb.1; simp; omega
  have k1 : Keeps (fun b => wr.heap.size ≤ b) (fun b => B ≤ b ∧ v.ownBlock ≠ some b) W W := .weaken fun b hb _ => ⟨by omega, fun e => by have := hlt b e; omega⟩
  exact ⟨by simp [hl], xs ++ ys, hown, RVals.append rows [rw'] xs ys ((hv.move k0 _ _).move kk _ _) (RVals.one ((hr.move k1).move kk))⟩
theorem RowL.rep {B : Nat} {e : TypeId} {sz n : Nat} {w : World} {v : Value} {rows : List (List C)} (h : RowL B e sz w v n rows) : CRep (B ≤ ·) w (.sl rows) v := by
  obtain ⟨hl, xs, h1, h2⟩ := h
  subst hl
  have h1' := h1
  obtain ⟨hx, h3 | ⟨g, cap, cur, h3, hB, hg, hn, hc, hs, ht⟩⟩ := h1
  · obtain ⟨rfl, h4⟩ := h3
    have : rows = [] := List.length_eq_zero_iff.1 h4
    subst this
    unfold CRep
    exact ⟨none, 0, rfl, Nat.le_refl _, by unfold maxLen; omega, .inl rfl⟩
  · subst h3
    have hcl : ∀ j u, xs[j]? = some u → w.cell? ⟨g, j, none⟩ = some u := by
      intro j u hj
      subst ht
      simp only [World.cell?, hg]
      rw [List.getElem?_take] at hj
      split at hj
      · simpa using hj
      · cases hj
    unfold CRep
    exact ⟨_, cap, rfl, hn, hc, .inr ⟨g, 0, rfl, hB, (Array.getElem?_eq_some_iff.1 hg).1, RVals.rows rows xs 0 (h2.move (.weaken fun _ hb _ => hb.1) _ _) (fun j u hj => by simpa using hcl j u hj)⟩⟩
end Go.Proofs.Ytblpdpkjgbbhkaa
