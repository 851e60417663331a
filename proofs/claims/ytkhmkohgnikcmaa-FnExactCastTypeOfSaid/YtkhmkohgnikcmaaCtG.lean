/-
  Rows and contexts that grow by append, what they hold are readings in named blocks; slices.Clone of a context in these words.
-/
import Derived.Test.YtkhmkohgnikcmaaB27
import Derived.Test.YtkhmkohgnikcmaaB28
import Derived.Test.YtkhmkohgnikcmaaB20
namespace Go.Proofs.Ytkhmkohgnikcmaa
open Go.RowKit
set_option linter.unusedVariables false
set_option linter.unusedSimpArgs false
set_option maxRecDepth 100000

/-- As RowL: one's own row lies from B on; what the rows read lies in blocks of F, none of them the row's own. -/
def RowG (F : Nat → Prop) (B : Nat) (e : TypeId) (sz : Nat) (w : World) (v : Value) (n : Nat) (rows : List (List C)) : Prop :=
  rows.length = n ∧ ∃ xs, w.ownsRow B e sz v n xs ∧ RVals (fun b => F b ∧ v.ownBlock ≠ some b) w rows xs
theorem RowG.nil {F : Nat → Prop} {B : Nat} {e : TypeId} {sz : Nat} {w : World} : RowG F B e sz w (.slice none 0 0) 0 [] := ⟨rfl, [], World.ownsRow_nil w B e sz, rfl⟩
theorem RowG.below {F : Nat → Prop} {B : Nat} {e : TypeId} {sz n : Nat} {w w' : World} {v : Value} {rows : List (List C)} (h : RowG F B e sz w v n rows) (k : Below w.heap.size w w') : RowG F B e sz w' v n rows := by
  obtain ⟨hl, xs, h1, h2⟩ := h
  exact ⟨hl, xs, ownsRow_below h1 k, h2.move (.below k) _ _⟩
theorem RowG.shape {F : Nat → Prop} {B : Nat} {e : TypeId} {sz n : Nat} {w : World} {v : Value} {rows : List (List C)} (h : RowG F B e sz w v n rows) : ∃ a q, v = .slice a n q := by
  obtain ⟨hl, xs, ⟨h1, h2 | ⟨g, cap, cur, h2, hB, hg, hn, hc, hs, ht⟩⟩, -⟩ := h
  · exact ⟨none, 0, by rw [h2.1, h2.2]⟩
  · exact ⟨_, cap, h2⟩
/-- Behind an append of one row, in a world W; the slice was whole in wr. -/
theorem RowG.push {F : Nat → Prop} {B g cap n sz : Nat} {e : TypeId} {wr W w2 : World} {v : Value} {rows : List (List C)} {xs ys : List Value} {rw' : List C} (hl : rows.length = n) (hv : RVals (fun b => F b ∧ v.ownBlock ≠ some b) wr rows xs)
    (hb : Below wr.heap.size wr W) (hr : SRep (fun b => F b ∧ v.ownBlock ≠ some b) W rw' ys)
    (hown : w2.ownsRow B e sz (.slice (some ⟨g, 0, none⟩) (n + 1) cap) (n + 1) (xs ++ ys)) (hgrow : W.grownBy w2 v.ownBlock) (hat : v.ownBlock = some g ∨ g = W.heap.size) :
    RowG F B e sz w2 (.slice (some ⟨g, 0, none⟩) (n + 1) cap) (n + 1) (rows ++ [rw']) := by
  have kk : Keeps (fun b => F b ∧ v.ownBlock ≠ some b) (fun b => F b ∧ (Value.slice (some ⟨g, 0, none⟩) (n + 1) cap).ownBlock ≠ some b) W w2 := by
    refine ⟨hgrow.size, fun b hb hl => ⟨hb.1, fun e => ?_⟩, fun b hb hl => hgrow.block b hl (fun e => hb.2 e.symm)⟩
    simp only [Value.ownBlock, Option.some.injEq] at e
    subst e
    rcases hat with h | h
    · exact hb.2 h
    · omega
  exact ⟨by simp [hl], xs ++ ys, hown, RVals.append rows [rw'] xs ys ((hv.move (.below hb) _ _).move kk _ _) (RVals.one (hr.move kk))⟩
theorem RowG.rep {F : Nat → Prop} {B : Nat} {e : TypeId} {sz n : Nat} {w : World} {v : Value} {rows : List (List C)} (h : RowG F B e sz w v n rows) (hF : ∀ b, B ≤ b → F b) : CRep F w (.sl rows) v := by
  obtain ⟨hl, xs, h1, h2⟩ := h
  subst hl
  obtain ⟨hx, h3 | ⟨g, cap, cur, h3, hB, hg, hn, hc, hs, ht⟩⟩ := h1
  · obtain ⟨rfl, h4⟩ := h3
    have : rows = [] := List.length_eq_zero_iff.1 h4
    subst this
    unfold CRep
    exact ⟨none, 0, rfl, Nat.le_refl _, by unfold maxLen; omega, .inl rfl⟩
  · subst h3
    have hcl : ∀ j u, xs[j]? = some u → w.cell? ⟨g, j, none⟩ = some u := by
      intro j u hj
      subst ht
      simp only [World.cell?, hg]
      rw [List.getElem?_take] at hj
      split at hj
      · simpa using hj
      · cases hj
    unfold CRep
    exact ⟨_, cap, rfl, hn, hc, .inr ⟨g, 0, rfl, hF g hB, (Array.getElem?_eq_some_iff.1 hg).1, RVals.rows rows xs 0 (h2.move (.weaken fun _ hb _ => hb.1) _ _) (fun j u hj => by simpa using hcl j u hj)⟩⟩

/-- As BdM: the types' blocks are of F. -/
def BdG (F : Nat → Prop) (B : Nat) (w : World) (v : Value) (bs : List Bd) : Prop := ∃ xs, w.ownsRow B 66 3 v bs.length xs ∧ BdVals (fun b => F b ∧ v.ownBlock ≠ some b) w bs xs
theorem BdG.none {F : Nat → Prop} {B : Nat} {w : World} : BdG F B w (.slice none 0 0) [] := ⟨[], World.ownsRow_nil w B _ _, rfl⟩
theorem BdG.below {F : Nat → Prop} {B : Nat} {w w' : World} {v : Value} {bs : List Bd} (h : BdG F B w v bs) (k : Below w.heap.size w w') : BdG F B w' v bs := by
  obtain ⟨xs, h1, h2⟩ := h
  exact ⟨xs, ownsRow_below h1 k, h2.move (.below k) _ _⟩
theorem BdG.push {F : Nat → Prop} {B : Nat} {W w2 : World} {v v' : Value} {bs cs : List Bd} {xs ys : List Value} (hv : BdVals (fun b => F b ∧ v.ownBlock ≠ some b) W bs xs) (hc : BdVals (fun b => F b ∧ v.ownBlock ≠ some b) W cs ys)
    (hown : w2.ownsRow B 66 3 v' (bs.length + cs.length) (xs ++ ys)) (hgrow : W.grownBy w2 v.ownBlock) (hat : v'.ownBlock = v.ownBlock ∨ v'.ownBlock = some W.heap.size) :
    BdG F B w2 v' (bs ++ cs) := by
  have kk : Keeps (fun b => F b ∧ v.ownBlock ≠ some b) (fun b => F b ∧ v'.ownBlock ≠ some b) W w2 := by
    refine ⟨hgrow.size, fun b hb hl => ⟨hb.1, fun e => ?_⟩, fun b hb hl => hgrow.block b hl (fun e => hb.2 e.symm)⟩
    rcases hat with h | h
    · exact hb.2 (h ▸ e)
    · rw [h] at e
      simp only [Option.some.injEq] at e
      omega
  exact ⟨xs ++ ys, by simpa using hown, BdVals.append bs cs xs ys (hv.move kk _ _) (hc.move kk _ _)⟩
theorem BdG.shape {F : Nat → Prop} {B : Nat} {w : World} {v : Value} {bs : List Bd} (h : BdG F B w v bs) : ∃ a q, v = .slice a bs.length q := by
  obtain ⟨xs, ⟨h1, h2 | ⟨g, cap, cur, h2, hB, hg, hn, hc, hs, ht⟩⟩, -⟩ := h
  · exact ⟨Option.none, 0, by rw [h2.1, h2.2]⟩
  · exact ⟨_, cap, h2⟩
theorem BdG.rep {F : Nat → Prop} {B : Nat} {w : World} {v : Value} {bs : List Bd} (h : BdG F B w v bs) : BdsRep (fun b => F b ∨ B ≤ b) w bs v := by
  obtain ⟨a, q, rfl⟩ := h.shape
  obtain ⟨xs, h1, h2⟩ := h
  have h1' := h1
  obtain ⟨hx, h3 | ⟨g, cap, cur, h3, hB, hg, hn, hc, hs, ht⟩⟩ := h1
  · obtain ⟨h3, h4⟩ := h3
    simp only [Value.slice.injEq] at h3
    obtain ⟨rfl, -, rfl⟩ := h3
    have : bs = [] := List.length_eq_zero_iff.1 h4
    subst this
    unfold BdsRep CRep
    exact ⟨Option.none, 0, rfl, Nat.le_refl _, by unfold maxLen; omega, .inl rfl⟩
  · simp only [Value.slice.injEq] at h3
    obtain ⟨rfl, -, rfl⟩ := h3
    have hcl := ownsRow_cells' h1'
    unfold BdsRep CRep
    refine ⟨_, q, by rw [Bd.rows_length], by rw [Bd.rows_length]; exact hn, hc, .inr ⟨g, 0, rfl, .inr hB, (Array.getElem?_eq_some_iff.1 hg).1, ?_⟩⟩
    exact BdVals.rows bs xs 0 (h2.move (.weaken fun _ hb _ => .inl hb.1) _ _) (fun j u hj => by simpa using hcl j u hj)
/-- A context of one's own row; the types' blocks are old ones of F. -/
def RetMG (F : Nat → Prop) (l : List Bd) (w : World) (e : Ending) (w' : World) : Prop := ∃ a q, e = .returned (.slice a l.length q) ∧ BdG (fun x => F x ∧ x < w.heap.size) w.heap.size w' (.slice a l.length q) l ∧ Below w.heap.size w w'
set_option maxHeartbeats 1000000 in
theorem implCloneNilG (F : Nat → Prop) (w : World) : Calls Try.prog 37 #[.slice none 0 0] w (RetMG F [] w) := by
  have hE := fun (w : World) (a : Option Addr) (n c : Nat) => Lib.run_eql_slice_nil (P := Try.prog) w 57 66 a n c 0 0 Try.underlying57
  go_enter Try.func37, Try.ntmps37
  go_wp2_with fail
  go_ret
  exact ⟨_, _, rfl, BdG.none, Below.refl _ _⟩
set_option maxHeartbeats 2000000 in
theorem implCloneG (F : Nat → Prop) (l : List Bd) (ad : Addr) (n q : Nat) (w : World) (hy : BdsRep F w l (.slice (some ad) n q)) (hl : l.length ≤ 1000000) : Calls Try.prog 37 #[.slice (some ad) n q] w (RetMG F l w) := by
  obtain ⟨i0, hi, hz0, hz1, hz2⟩ := info_parts Try.infoBdC
  have Z0 := Lib.hid hz0
  have Z1 := Lib.hid hz1
  have Z2 := Lib.hid hz2
  have HI := Lib.hid hi
  have hn := hy.n_eq
  obtain ⟨a', q', he, hq1, hq2, -⟩ := hy.open
  simp only [Value.slice.injEq] at he
  obtain ⟨rfl, -, rfl⟩ := he
  unfold maxLen at hq2
  have HN := Lib.hid hn
  have hl' : n ≤ 1000000 := by omega
  rw [← hn] at hq1
  obtain ⟨ad1', xs, ha1, X1, X2, X3⟩ : ∃ ad' xs, some ad = some ad' ∧ BdVals (fun b => (F b ∧ b < w.heap.size) ∧ (Value.slice (some ⟨w.heap.size, 0, none⟩) 0 0).ownBlock ≠ some b) (w.alloc (.cells #[] 66)) l xs ∧ (∀ j u, xs[j]? = some u → (w.alloc (.cells #[] 66)).cell? (ad'.add j) = some u) ∧ ∀ u ∈ xs, u.oneCell' = true := by
    have h0 := ((hy.move (.weaken (G := fun b => F b ∧ b < w.heap.size) fun b hb hl => ⟨hb, hl⟩)).below bal1 (w' := w.alloc (.cells #[] 66))).move (.weaken (G := fun b => (F b ∧ b < w.heap.size) ∧ (Value.slice (some ⟨w.heap.size, 0, none⟩) 0 0).ownBlock ≠ some b) fun b hb _ => ⟨hb, fun e => by simp [Value.ownBlock] at e; have := hb.2; omega⟩)
    exact h0.cellsAny
  obtain rfl : ad = ad1' := by simpa using ha1
  have HX1 := Lib.hid X1
  have HX2 := Lib.hid X2
  have HX3 := Lib.hid X3
  have HXL := Lib.hid (show xs.length = n * 3 by rw [X1.len, hn])
  have hnil : BdM w.heap.size (w.alloc (.cells #[] 66)) (.slice (some ⟨w.heap.size, 0, none⟩) 0 0) [] := BdM.nil (Nat.le_refl _) (heap_alloc_new w _) rfl
  obtain ⟨xs0, ho0, hv0⟩ := hnil
  obtain rfl : xs0 = [] := hv0
  have HO0 := Lib.hid ho0
  clear X1 X2 X3 ha1 ho0 hi hz0 hz1 hz2 hn hy
  have hE := fun (w : World) (a : Option Addr) (n c : Nat) => Lib.run_eql_slice_nil (P := Try.prog) w 57 66 a n c 0 0 Try.underlying57
  go_enter Try.func37, Try.ntmps37
  go_wp2_with (first | (at_builtin; refine wpList_append_own_at _ rfl (.tmp 5) (.tmp 6) 57 rfl w.heap.size 66 i0 _ 3 48 Try.underlying57 HI.out Z0.out Z1.out Z2.out rfl (by omega) (.slice (some ⟨w.heap.size, 0, none⟩) 0 0) 0 [] rfl HO0.out ad n q xs rfl HXL.out HX2.out HX3.out (by unfold maxLen; omega) (by omega) (by simp) ?_) | fail)
  intro v5 w5 hown hgrow _ hat
  have hM5 : BdG (fun x => F x ∧ x < w.heap.size) w.heap.size w5 v5 l := by
    have := BdG.push (F := fun x => F x ∧ x < w.heap.size) (B := w.heap.size) (W := w.alloc (.cells #[] 66)) (w2 := w5) (v := .slice (some ⟨w.heap.size, 0, none⟩) 0 0) (v' := v5) (bs := []) (cs := l) (xs := []) (ys := xs) rfl HX1.out (by simpa [HN.out] using hown) hgrow (by simpa using hat)
    simpa using this
  have hb45 : Below w.heap.size w w5 := Below.grown bal1 hgrow (by simp) (fun k hk => by simp [Value.ownBlock] at hk; omega)
  obtain ⟨c5, q5, rfl⟩ := hM5.shape
  have HM5 := Lib.hid hM5
  have HB := Lib.hid hb45
  clear hown hgrow hat hM5 hb45
  go_wp2_with fail
  go_ret
  exact ⟨_, _, rfl, HM5.out, HB.out⟩
end Go.Proofs.Ytkhmkohgnikcmaa
