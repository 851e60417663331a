/-
  What is left of a law's purse.
  Equality of the program and of the reference: equality of trees.
  What a function that makes a type leaves.
  The laws' helpers that write into a type of their own and look whether it is as written.
  A slice that grows by append, row by row, in memory of one's own.
  A block of cells as one fact.
-/
import Derived.Test.YthhdjacdalehoaaB0
import Derived.Test.YthhdjacdalehoaaRows
import Derived.Handy
import Derived.Deep.RegionHeld3
import Derived.Deep.AppendLies
import Derived.Deep.RegionLaw
namespace Go.Proofs.Ythhdjacdalehoaa
open Go.RowKit

end Go.Proofs.Ythhdjacdalehoaa
namespace Go.Proofs.Ythhdjacdalehoaa
open Go.RowKit
set_option linter.unusedVariables false
set_option linter.unusedSimpArgs false
set_option maxRecDepth 100000

mutual
def Ty.same : Ty → Ty → Bool
  | .mk k ts, .mk l us => k == l && Ty.sames ts us
def Ty.sames : List Ty → List Ty → Bool
  | [], [] => true
  | t :: ts, u :: us => t.same u && Ty.sames ts us
  | _, _ => false
end

/-- slices.EqualFunc at types: whatever the function compares. -/
def all2 (R : Ty → Ty → Bool) : List Ty → List Ty → Bool
  | [], [] => true
  | t :: ts, u :: us => R t u && all2 R ts us
  | _, _ => false

theorem all2_drop (R : Ty → Ty → Bool) (ts us : List Ty) (k : Nat) (h : k < ts.length) (h' : k < us.length) : all2 R (ts.drop k) (us.drop k) = (R ts[k] us[k] && all2 R (ts.drop (k + 1)) (us.drop (k + 1))) := by
  rw [List.drop_eq_getElem_cons h, List.drop_eq_getElem_cons h']; rfl
theorem all2_len (R : Ty → Ty → Bool) : ∀ (ts us : List Ty), ts.length ≠ us.length → all2 R ts us = false
  | [], [], h => absurd rfl h
  | [], _ :: _, _ => rfl
  | _ :: _, [], _ => rfl
  | t :: ts, u :: us, h => by
    have := all2_len R ts us (fun e => h (by simp [e]))
    simp [all2, this]
theorem all2_end (R : Ty → Ty → Bool) (ts us : List Ty) (k : Nat) (h : ts.length ≤ k) (h' : us.length ≤ k) : all2 R (ts.drop k) (us.drop k) = true := by
  rw [List.drop_eq_nil_of_le h, List.drop_eq_nil_of_le h']; rfl

theorem Ty.sames_all2 : ∀ ts us : List Ty, all2 Ty.same ts us = Ty.sames ts us
  | [], [] => by unfold Ty.sames; rfl
  | [], _ :: _ => by unfold Ty.sames; rfl
  | _ :: _, [] => by unfold Ty.sames; rfl
  | t :: ts, u :: us => by unfold Ty.sames all2; rw [Ty.sames_all2 ts us]

end Go.Proofs.Ythhdjacdalehoaa
namespace Go.Proofs.Ythhdjacdalehoaa
open Go.RowKit
set_option linter.unusedVariables false
set_option linter.unusedSimpArgs false
set_option maxRecDepth 100000

def RetTy (t : Ty) (w : World) (e : Ending) (w' : World) : Prop := ∃ v, e = .returned v ∧ TyNew w.heap.size w' t v ∧ Below w.heap.size w w'
theorem Try.infoTy : (Try.prog.info? 38).map (fun i => (i.zero, i.size, i.bytes)) = some (some (.agg #[.int .i64 0, .slice none 0 0]), 2, 32) := by kernel_rfl

end Go.Proofs.Ythhdjacdalehoaa
namespace Go.Proofs.Ythhdjacdalehoaa
open Go.RowKit
set_option linter.unusedVariables false
set_option linter.unusedSimpArgs false
set_option maxRecDepth 100000

theorem RowsOwn.split {w : World} {b : Nat} : ∀ {off : Nat} {r1 r2 : List (List C)} {r : List C} {fp : List Nat}, RowsOwn w b off (r1 ++ r :: r2) fp →
    ∃ f1 f f2, fp = f1 ++ (f ++ f2) ∧ RowsOwn w b off r1 f1 ∧ CellsOwn w b (off + r1.flatten.length) r f ∧ RowsOwn w b (off + r1.flatten.length + r.length) r2 f2
  | off, [], r2, r, fp, h => by
    simp only [List.nil_append] at h
    unfold RowsOwn at h
    obtain ⟨f1, f2, rfl, h1, h2⟩ := h
    exact ⟨[], f1, f2, rfl, by unfold RowsOwn; rfl, by simpa using h1, by simpa using h2⟩
  | off, x :: r1, r2, r, fp, h => by
    simp only [List.cons_append] at h
    unfold RowsOwn at h
    obtain ⟨g1, g2, rfl, h1, h2⟩ := h
    obtain ⟨f1, f, f2, rfl, k1, k2, k3⟩ := RowsOwn.split h2
    refine ⟨g1 ++ f1, f, f2, by simp, ?_, ?_, ?_⟩
    · unfold RowsOwn; exact ⟨g1, f1, rfl, h1, k1⟩
    · rw [List.flatten_cons, List.length_append, ← Nat.add_assoc]; exact k2
    · rw [List.flatten_cons, List.length_append, ← Nat.add_assoc]; exact k3
theorem RowsOwn.join {w : World} {b : Nat} : ∀ {off : Nat} {r1 r2 : List (List C)} {r : List C} {f1 f f2 : List Nat}, RowsOwn w b off r1 f1 → CellsOwn w b (off + r1.flatten.length) r f → RowsOwn w b (off + r1.flatten.length + r.length) r2 f2 →
    RowsOwn w b off (r1 ++ r :: r2) (f1 ++ (f ++ f2))
  | off, [], r2, r, f1, f, f2, h, h1, h2 => by
    unfold RowsOwn at h; subst h
    simp only [List.nil_append]
    unfold RowsOwn
    exact ⟨f, f2, rfl, by simpa using h1, by simpa using h2⟩
  | off, x :: r1, r2, r, f1, f, f2, h, h1, h2 => by
    unfold RowsOwn at h
    obtain ⟨g1, g2, rfl, k1, k2⟩ := h
    rw [List.flatten_cons, List.length_append, ← Nat.add_assoc] at h1 h2
    simp only [List.cons_append]
    unfold RowsOwn
    exact ⟨g1, g2 ++ (f ++ f2), by simp, k1, RowsOwn.join k2 h1 h2⟩

/-- What the round does to the j-th row: its kind is written, then what its operands hold is turned within their own blocks. -/
theorem Ty.rows_append (a b : List Ty) : Ty.rows (a ++ b) = Ty.rows a ++ Ty.rows b := by simp [Ty.rows_eq]
theorem Ty.rows_cons (t : Ty) (b : List Ty) : Ty.rows (t :: b) = t.row :: Ty.rows b := by conv => lhs; unfold Ty.rows

/-- A block of one's own, whole: the slice over it and its rows. -/
def TysIn (w : World) (b : Nat) (ts : List Ty) (fps : List Nat) : Prop := (∃ cs T, w.heap[b]? = some (.cells cs T (0, 0))) ∧ RowsOwn w b 0 (Ty.rows ts) fps ∧ fps.Nodup ∧ b ∉ fps

theorem TysIn.row {w : World} {b : Nat} {ts1 ts2 : List Ty} {t : Ty} {fps : List Nat} (h : TysIn w b (ts1 ++ t :: ts2) fps) :
    ∃ f1 f f2 s, fps = f1 ++ (f ++ f2) ∧ RowsOwn w b 0 (Ty.rows ts1) f1 ∧ RowsOwn w b (ts1.length * 2 + 2) (Ty.rows ts2) f2 ∧ w.cell? ⟨b, ts1.length * 2, none⟩ = some (.int .i64 t.kind) ∧ w.cell? ⟨b, ts1.length * 2 + 1, none⟩ = some s ∧ TysOwn w t.kids s f := by
  obtain ⟨_, hr, _, _⟩ := h
  rw [Ty.rows_append, Ty.rows_cons] at hr
  obtain ⟨f1, f, f2, rfl, h1, h2, h3⟩ := RowsOwn.split hr
  rw [Ty.flatten_length, Nat.zero_add] at h2 h3
  rw [Ty.row_length] at h3
  cases t with | mk k us =>
  unfold Ty.row CellsOwn at h2
  obtain ⟨y, g1, g2, rfl, hy, k1, k2⟩ := h2
  unfold COwn at k1
  obtain ⟨rfl, rfl⟩ := k1
  unfold CellsOwn at k2
  obtain ⟨y', g3, g4, rfl, hy', k3, k4⟩ := k2
  unfold CellsOwn at k4
  subst k4
  exact ⟨f1, g3, f2, y', by simp, h1, h3, hy, hy', k3⟩

theorem TysIn.step {w w' : World} {b : Nat} {ts1 ts2 us' : List Ty} {t : Ty} {k : Int} {f1 f f2 : List Nat} {s : Value} (h : TysIn w b (ts1 ++ t :: ts2) (f1 ++ (f ++ f2))) (h1 : RowsOwn w b 0 (Ty.rows ts1) f1) (h2 : RowsOwn w b (ts1.length * 2 + 2) (Ty.rows ts2) f2)
    (hs0 : w.cell? ⟨b, ts1.length * 2, none⟩ = some (.int .i64 t.kind)) (hs : w.cell? ⟨b, ts1.length * 2 + 1, none⟩ = some s) (hc : Chg f (w.setCell ⟨b, ts1.length * 2, none⟩ (.int .i64 k)) w') (hk : TysOwn w' us' s f) : TysIn w' b (ts1 ++ Ty.mk k us' :: ts2) (f1 ++ (f ++ f2)) := by
  obtain ⟨⟨cs, T, hb⟩, _, hd, hn⟩ := h
  simp only [List.mem_append, not_or] at hn
  have hbl := (Array.getElem?_eq_some_iff.1 hb).1
  have hsz : (w.setCell ⟨b, ts1.length * 2, none⟩ (.int .i64 k)).heap.size = w.heap.size := by simp [World.setCell]
  have hb1 : w'.heap[b]? = some (.cells (cs.setIfInBounds (ts1.length * 2) (.int .i64 k)) T (0, 0)) := (hc.block b (by omega) hn.2.1).trans (heap_setCell_same hb)
  rw [List.nodup_append, List.nodup_append] at hd
  obtain ⟨d1, ⟨d2, d3, d23⟩, d123⟩ := hd
  have old : ∀ x, x < w.heap.size → x ≠ b → x ∉ f → w'.heap[x]? = w.heap[x]? := fun x hx hxb hxf =>
    (hc.block x (by omega) hxf).trans (Below.heap_setCell w ⟨b, _, none⟩ _ x hxb)
  have cell : ∀ o, o ≠ ts1.length * 2 → w'.cell? ⟨b, o, none⟩ = w.cell? ⟨b, o, none⟩ := fun o ho => by
    simp only [World.cell?, hb1, hb]
    simp
    rw [Array.getElem?_setIfInBounds_ne (by omega)]
  have hl' : ts1.length * 2 < cs.size := by
    simp only [World.cell?, hb] at hs0
    simp at hs0
    exact (Array.getElem?_eq_some_iff.1 hs0).1
  refine ⟨⟨_, T, hb1⟩, ?_, ?_, ?_⟩
  · rw [Ty.rows_append, Ty.rows_cons]
    refine RowsOwn.join ?_ ?_ ?_
    · exact h1.move _ _ _ (fun x hx => old x (h1.lt _ _ _ x hx) (fun e => hn.1 (e ▸ hx)) (fun hf => d123 x hx x (List.mem_append_left _ hf) rfl)) (fun o _ ho => cell o (by rw [Ty.flatten_length] at ho; omega))
    · rw [Ty.flatten_length, Nat.zero_add]
      unfold Ty.row CellsOwn
      refine ⟨_, [], f, by simp, ?_, by unfold COwn; exact ⟨rfl, rfl⟩, ?_⟩
      · simp only [World.cell?, hb1]
        simp
        rw [Array.getElem?_setIfInBounds_self]
        simp; omega
      · unfold CellsOwn
        exact ⟨s, f, [], by simp, (cell _ (by omega)).trans hs, hk, by unfold CellsOwn; rfl⟩
    · rw [Ty.flatten_length, Ty.row_length, Nat.zero_add]
      exact h2.move _ _ _ (fun x hx => old x (h2.lt _ _ _ x hx) (fun e => hn.2.2 (e ▸ hx)) (fun hf => d23 x hf x hx rfl)) (fun o ho _ => cell o (by omega))
  · rw [List.nodup_append, List.nodup_append]; exact ⟨d1, ⟨d2, d3, d23⟩, d123⟩
  · simp only [List.mem_append, not_or]; exact hn

end Go.Proofs.Ythhdjacdalehoaa
namespace Go.Proofs.Ythhdjacdalehoaa
open Go.RowKit
set_option linter.unusedVariables false
set_option linter.unusedSimpArgs false

theorem sc_far {w : World} {p a : Addr} {v u : Value} (h : w.cell? a = some u) (hne : p ≠ a) : (w.setCell p v).cell? a = some u := (World.cell?_setCell_other w p a v hne).trans h
theorem sc_self {w : World} {b o : Nat} {v u : Value} (h : w.cell? ⟨b, o, none⟩ = some u) : (w.setCell ⟨b, o, none⟩ v).cell? ⟨b, o, none⟩ = some v := by
  simp only [World.cell?] at h
  split at h
  · rename_i cs T fr hb
    simp at h
    have hlt := (Array.getElem?_eq_some_iff.1 h).1
    simp only [World.cell?, heap_setCell_same hb]
    simp
    rw [Array.getElem?_setIfInBounds_self]
    simp [hlt]
  · cases h
theorem sc_fro (w : World) (p : Addr) (v : Value) (a : Addr) : (w.setCell p v).frozen? a = w.frozen? a := by simp

/-- Values that lie one behind the other read as rows. -/
def SRows (w : World) : List (List C) → List Value → List Nat → Prop
  | [], xs, fps => xs = [] ∧ fps = []
  | r :: rs, xs, fps => ∃ ys xs' f1 f2, xs = ys ++ xs' ∧ fps = f1 ++ f2 ∧ SOwn w r ys f1 ∧ SRows w rs xs' f2
theorem SRows.move {w w' : World} : ∀ (rs : List (List C)) (xs : List Value) (fps : List Nat), (∀ b ∈ fps, w'.heap[b]? = w.heap[b]?) → SRows w rs xs fps → SRows w' rs xs fps
  | [], _, _, _, h => h
  | r :: rs, _, _, k, ⟨ys, xs', f1, f2, e, h, h1, h2⟩ => by
    subst h
    exact ⟨ys, xs', f1, f2, e, rfl, h1.move _ _ _ (fun b hb => k b (List.mem_append_left _ hb)), SRows.move rs xs' f2 (fun b hb => k b (List.mem_append_right _ hb)) h2⟩
theorem SRows.lt {w : World} : ∀ (rs : List (List C)) (xs : List Value) (fps : List Nat), SRows w rs xs fps → ∀ b ∈ fps, b < w.heap.size
  | [], _, _, ⟨_, h⟩ => by subst h; simp
  | r :: rs, _, _, ⟨ys, xs', f1, f2, _, h, h1, h2⟩ => by
    subst h
    intro b hb
    rcases List.mem_append.1 hb with hb | hb
    · exact SOwn.lt _ _ _ h1 b hb
    · exact SRows.lt rs xs' f2 h2 b hb
theorem SRows.snoc {w : World} : ∀ {rs : List (List C)} {xs : List Value} {fps : List Nat} {r : List C} {ys : List Value} {f : List Nat}, SRows w rs xs fps → SOwn w r ys f → SRows w (rs ++ [r]) (xs ++ ys) (fps ++ f)
  | [], _, _, r, ys, f, ⟨hx, hf⟩, h => by
    subst hx hf
    exact ⟨ys, [], f, [], by simp, by simp, h, rfl, rfl⟩
  | r' :: rs, _, _, r, ys, f, ⟨ys', xs', f1, f2, e, e2, h1, h2⟩, h => by
    subst e e2
    exact ⟨ys', xs' ++ ys, f1, f2 ++ f, by simp, by simp, h1, SRows.snoc h2 h⟩
theorem SRows.rows {w : World} {b : Nat} : ∀ (rs : List (List C)) (xs : List Value) (fps : List Nat) (off : Nat), SRows w rs xs fps → (∀ i, i < xs.length → w.cell? ⟨b, off + i, none⟩ = xs[i]?) → RowsOwn w b off rs fps
  | [], _, _, _, ⟨_, h⟩, _ => by subst h; unfold RowsOwn; rfl
  | r :: rs, _, _, off, ⟨ys, xs', f1, f2, e, h, h1, h2⟩, k => by
    subst e h
    have hl := SOwn.len _ _ _ h1
    unfold RowsOwn
    refine ⟨f1, f2, rfl, SOwn.cells r ys f1 off h1 (fun i hi => ?_), SRows.rows rs xs' f2 _ h2 fun i hi => ?_⟩
    · rw [k i (by rw [List.length_append]; omega), List.getElem?_append_left hi]
    · rw [← hl, Nat.add_assoc, k (ys.length + i) (by rw [List.length_append]; omega), List.getElem?_append_right (by omega)]
      congr 1
      omega

/-- The slice v has grown to these rows, in memory from block B on. -/
def AccNew (B : Nat) (e : TypeId) (size : Nat) (w : World) (v : Value) (n : Nat) (rows : List (List C)) : Prop :=
  ∃ xs fps, w.ownsRow B e size v n xs ∧ rows.length = n ∧ SRows w rows xs fps ∧ fps.Nodup ∧ ∀ x ∈ fps, B ≤ x ∧ v.ownBlock ≠ some x
theorem AccNew.nil (B : Nat) (e : TypeId) (size : Nat) (w : World) : AccNew B e size w (.slice none 0 0) 0 [] :=
  ⟨[], [], World.ownsRow_nil w B e size, rfl, ⟨rfl, rfl⟩, List.nodup_nil, by simp⟩
theorem AccNew.grown {B : Nat} {e : TypeId} {size n : Nat} {w w' : World} {v : Value} {rows : List (List C)} (h : AccNew B e size w v n rows) (hb : Below w.heap.size w w') : AccNew B e size w' v n rows := by
  obtain ⟨xs, fps, h1, h2, h3, h4, h5⟩ := h
  refine ⟨xs, fps, h1.kept (row := none) ⟨hb.os, hb.tape, hb.output, hb.size, fun k hk _ => hb.block k hk⟩ ?_, h2, h3.move _ _ _ (fun b hx => hb.block b (h3.lt _ _ _ b hx)), h4, h5⟩
  cases v.ownBlock with
  | none => exact .inl rfl
  | some g => exact .inr (by simp)
theorem AccNew.setCell {B : Nat} {e : TypeId} {size n : Nat} {w : World} {v : Value} {rows : List (List C)} (h : AccNew B e size w v n rows) {p : Addr} (hp : p.block < B) (u : Value) : AccNew B e size (w.setCell p u) v n rows := by
  obtain ⟨xs, fps, h1, h2, h3, h4, h5⟩ := h
  refine ⟨xs, fps, ?_, h2, h3.move _ _ _ (fun b hx => Below.heap_setCell w p u b (by have := (h5 b hx).1; omega)), h4, h5⟩
  exact ownsRow_setCell_below h1 hp u

theorem AccNew.shape {B : Nat} {e : TypeId} {size n : Nat} {w : World} {v : Value} {rows : List (List C)} (h : AccNew B e size w v n rows) : ∃ c q, v = .slice c n q := by
  obtain ⟨xs, fps, ⟨_, h1⟩, _⟩ := h
  rcases h1 with ⟨rfl, rfl⟩ | ⟨g, cap, cur, rfl, _⟩
  · exact ⟨none, 0, rfl⟩
  · exact ⟨_, cap, rfl⟩
/-- Behind an append of one row. -/
theorem AccNew.append {B H g cap : Nat} {e : TypeId} {size n : Nat} {w w1 : World} {v : Value} {xs ys : List Value} {fps f : List Nat} {rows : List (List C)} {r : List C}
    (h2 : rows.length = n) (h3 : SRows w rows xs fps) (h4 : fps.Nodup) (h5 : ∀ x ∈ fps, B ≤ x ∧ v.ownBlock ≠ some x)
    (hr : SOwn w r ys f) (hd : f.Nodup) (hf : ∀ x ∈ f, B ≤ x ∧ v.ownBlock ≠ some x ∧ x ∉ fps)
    (hown : w1.ownsRow B e size (.slice (some ⟨g, 0, none⟩) (n + 1) cap) (n + 1) (xs ++ ys)) (hgrow : w.grownBy w1 v.ownBlock) (hat : v.ownBlock = some g ∨ g = H) (hH : w.heap.size = H) :
    AccNew B e size w1 (.slice (some ⟨g, 0, none⟩) (n + 1) cap) (n + 1) (rows ++ [r]) := by
  have l3 : ∀ b ∈ fps, b < w.heap.size := fun b hb => SRows.lt _ _ _ h3 b hb
  have lr : ∀ b ∈ f, b < w.heap.size := fun b hb => SOwn.lt _ _ _ hr b hb
  have keep : ∀ x, x < w.heap.size → v.ownBlock ≠ some x → w1.heap[x]? = w.heap[x]? := fun x hx hn => hgrow.block x hx (fun e => hn e.symm)
  refine ⟨xs ++ ys, fps ++ f, hown, by simp [h2], SRows.snoc (h3.move _ _ _ fun b hb => keep b (l3 b hb) (h5 b hb).2) (hr.move _ _ _ fun b hb => keep b (lr b hb) (hf b hb).2.1), ?_, ?_⟩
  · exact List.nodup_append.2 ⟨h4, hd, fun x hx y hy e => (hf y hy).2.2 (e ▸ hx)⟩
  · intro x hx
    have hlt : x < w.heap.size ∧ B ≤ x ∧ v.ownBlock ≠ some x := by
      rcases List.mem_append.1 hx with hx | hx
      · exact ⟨l3 x hx, h5 x hx⟩
      · exact ⟨lr x hx, (hf x hx).1, (hf x hx).2.1⟩
    refine ⟨hlt.2.1, fun e => ?_⟩
    simp only [Value.ownBlock, Option.some.injEq] at e
    rcases hat with hat | hat
    · exact hlt.2.2 (by rw [hat, e])
    · omega

theorem ownsRow_below {B : Nat} {e : TypeId} {size n : Nat} {w w' : World} {v : Value} {xs : List Value} (h : w.ownsRow B e size v n xs) (hb : Below w.heap.size w w') : w'.ownsRow B e size v n xs :=
  h.kept (row := none) ⟨hb.os, hb.tape, hb.output, hb.size, fun k hk _ => hb.block k hk⟩ (by cases v.ownBlock with | none => exact .inl rfl | some g => exact .inr (by simp))
/-- What lies below the row that was appended to is as it was. -/
theorem grown_far {wr W w2 : World} {B : Nat} {e : TypeId} {size n : Nat} {v : Value} {xs : List Value} (hb : Below wr.heap.size wr W) (ho : wr.ownsRow B e size v n xs) (hg : W.grownBy w2 v.ownBlock) (b : Nat) (hl : b < wr.heap.size) (hB : b < B) : w2.heap[b]? = wr.heap[b]? :=
  (hg.block b (Nat.lt_of_lt_of_le hl hb.size) (fun e => by have := (ho.lt b e.symm).1; omega)).trans (hb.block b hl)
theorem grown_below {w0 wr W w2 : World} {B : Nat} {e : TypeId} {size n : Nat} {v : Value} {xs : List Value} (h0 : Below w0.heap.size w0 wr) (hb : Below wr.heap.size wr W) (ho : wr.ownsRow B e size v n xs) (hB : w0.heap.size ≤ B) (hg : W.grownBy w2 v.ownBlock) : Below w0.heap.size w0 w2 :=
  (bstep h0 hb).grown hg (bstep h0 hb).size (fun k hk => Nat.le_trans hB (ho.lt k hk).1)
/-- The rows behind the append of what a call has made. -/
theorem AccNew.push {B g cap : Nat} {e : TypeId} {size n : Nat} {wr W0 W w2 : World} {v : Value} {xs ys : List Value} {fps f : List Nat} {rows : List (List C)} {r : List C} (hl : rows.length = n) (ho : wr.ownsRow B e size v n xs) (hs : SRows wr rows xs fps) (hd : fps.Nodup)
    (hfp : ∀ x ∈ fps, B ≤ x ∧ v.ownBlock ≠ some x) (hB : B ≤ wr.heap.size) (hb : Below wr.heap.size wr W) (h0 : wr.heap.size ≤ W0.heap.size) (hr : SOwn W r ys f) (hdf : f.Nodup) (hxf : ∀ x ∈ f, W0.heap.size ≤ x)
    (hown : w2.ownsRow B e size (.slice (some ⟨g, 0, none⟩) (n + 1) cap) (n + 1) (xs ++ ys)) (hgrow : W.grownBy w2 v.ownBlock) (hat : v.ownBlock = some g ∨ g = W.heap.size) : AccNew B e size w2 (.slice (some ⟨g, 0, none⟩) (n + 1) cap) (n + 1) (rows ++ [r]) := by
  have hlt : ∀ x ∈ fps, x < wr.heap.size := fun x hx => SRows.lt _ _ _ hs x hx
  refine AccNew.append (w := W) hl (hs.move _ _ _ fun b hx => hb.block b (hlt b hx)) hd hfp hr hdf (fun x hx => ?_) hown hgrow hat rfl
  have h1 := hxf x hx
  refine ⟨by omega, fun e => by have := (ho.lt x e).2; omega, fun e => by have := hlt x e; omega⟩
/-- The slice as it is. -/
theorem AccNew.own {B : Nat} {e : TypeId} {size n : Nat} {w : World} {v : Value} {rows : List (List C)} (h : AccNew B e size w v n rows) : ∃ fp, COwn w (.sl rows) v fp ∧ fp.Nodup ∧ ∀ x ∈ fp, B ≤ x := by
  obtain ⟨xs, fps, ⟨hl, h1⟩, h2, h3, h4, h5⟩ := h
  rcases h1 with ⟨rfl, rfl⟩ | ⟨g, cap, cur, rfl, hb, hg, hn, hc, hs, ht⟩
  · obtain rfl : rows = [] := List.eq_nil_of_length_eq_zero h2
    exact ⟨[], COwn.sl_nil (by unfold maxLen; omega), List.nodup_nil, by simp⟩
  · have hr : RowsOwn w g 0 rows fps := h3.rows _ _ _ 0 (fun i hi => by
      rw [← ht] at hi ⊢
      simp only [World.cell?, hg]
      simp only [List.length_take] at hi
      simp
      rw [List.getElem?_take_of_lt (by omega), Array.getElem?_toList])
    obtain ⟨fp, k1, k2, k3⟩ := COwn.sl_mk hg h2 hn hc hr
    exact ⟨fp, k1, k3 h4 (fun hx => (h5 g hx).2 rfl), fun x hx => by rcases k2 x hx with rfl | hx; exact hb; exact (h5 x hx).1⟩
theorem AccNew.tys {B n : Nat} {e : TypeId} {w : World} {v : Value} {ts : List Ty} (h : AccNew B e 2 w v n (Ty.rows ts)) : TysNew B w ts v := h.own
end Go.Proofs.Ythhdjacdalehoaa
namespace Go.Proofs.Ythhdjacdalehoaa
open Go.RowKit
set_option linter.unusedVariables false
set_option linter.unusedSimpArgs false

theorem blk_cell {w : World} {b o : Nat} {cs : Array Value} {T : TypeId} {fr : Nat × Nat} {v : Value} (h : w.heap[b]? = some (.cells cs T fr)) (hv : cs[o]? = some v) : w.cell? ⟨b, o, none⟩ = some v := by
  simp only [World.cell?, h]
  simpa using hv
theorem blk_fro {w : World} {b : Nat} {cs : Array Value} {T : TypeId} (h : w.heap[b]? = some (.cells cs T (0, 0))) (o : Nat) : w.frozen? ⟨b, o, none⟩ = false := by
  simp [World.frozen?, h]
theorem blk_lt {w : World} {b : Nat} {x : Obj} (h : w.heap[b]? = some x) : b < w.heap.size := (Array.getElem?_eq_some_iff.1 h).1
theorem blk_new {w : World} {b : Nat} {o : Obj} (hb : w.heap.size = b) : (w.alloc o).heap[b]? = some o := by subst hb; exact heap_alloc_new w o
theorem blk_n2 {w : World} {o o' x : Obj} : (((w.alloc o).alloc o').alloc x).heap[w.heap.size + 1 + 1]? = some x := blk_new (by simp)
theorem blk_below {w w' : World} {b : Nat} {x : Obj} (h : w.heap[b]? = some x) (k : Below w.heap.size w w') : w'.heap[b]? = some x := (k.block b (blk_lt h)).trans h
theorem blk_ne {w : World} {b : Nat} {x : Obj} {p : Addr} {v : Value} (h : w.heap[b]? = some x) (hn : b ≠ p.block) : (w.setCell p v).heap[b]? = some x := (Below.heap_setCell w p v b hn).trans h
theorem blk_set {w : World} {b o : Nat} {cs cs' : Array Value} {T : TypeId} {fr : Nat × Nat} {v : Value} (h : w.heap[b]? = some (.cells cs T fr)) (e : cs.setIfInBounds o v = cs') : (w.setCell ⟨b, o, none⟩ v).heap[b]? = some (.cells cs' T fr) := by
  subst e; exact heap_setCell_same h
end Go.Proofs.Ythhdjacdalehoaa
