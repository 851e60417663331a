/-
  Coercions in memory of one's own.
  What is left of a law's purse.
-/
import Derived.Test.YthhdjacdalehoaaB2
import Derived.Test.YthhdjacdalehoaaB1
import Derived.Test.YthhdjacdalehoaaB0
namespace Go.Proofs.Ythhdjacdalehoaa
open Go.RowKit
set_option linter.unusedVariables false
set_option linter.unusedSimpArgs false

def CoOwn (w : World) (t : Co) (y : Value) (fp : List Nat) : Prop := ∃ s, y = .agg #[.int .i64 t.kind, .int .i64 t.tag, .int .i64 t.label, s] ∧ COwn w (.sl (Co.rows t.kids)) s fp
def CosOwn (w : World) (ts : List Co) (y : Value) (fp : List Nat) : Prop := COwn w (.sl (Co.rows ts)) y fp
def CoNew (B : Nat) (w : World) (t : Co) (y : Value) : Prop := ∃ fp, CoOwn w t y fp ∧ fp.Nodup ∧ ∀ b ∈ fp, B ≤ b
def CosNew (B : Nat) (w : World) (ts : List Co) (y : Value) : Prop := ∃ fp, CosOwn w ts y fp ∧ fp.Nodup ∧ ∀ b ∈ fp, B ≤ b
theorem CoOwn.shape {w : World} {t : Co} {y : Value} {fp : List Nat} (h : CoOwn w t y fp) : ∃ k g l a n q, y = .agg #[.int .i64 k, .int .i64 g, .int .i64 l, .slice a n q] ∧ k = t.kind ∧ g = t.tag ∧ l = t.label ∧ CosOwn w t.kids (.slice a n q) fp := by
  obtain ⟨s, rfl, h⟩ := h
  have h' := h
  unfold COwn at h'
  obtain ⟨a, q, rfl, _⟩ := h'
  exact ⟨_, _, _, a, _, q, rfl, rfl, rfl, rfl, h⟩
theorem CoOwn.below {w w' : World} {t : Co} {y : Value} {fp : List Nat} (h : CoOwn w t y fp) (k : Below w.heap.size w w') : CoOwn w' t y fp :=
  let ⟨s, h1, h2⟩ := h; ⟨s, h1, h2.move _ _ _ fun b hb => k.block b (h2.lt _ _ _ b hb)⟩
theorem CoOwn.rep {w : World} {t : Co} {y : Value} {fp : List Nat} (h : CoOwn w t y fp) : CoRep (· ∈ fp) w t y :=
  let ⟨s, h1, h2⟩ := h; ⟨s, h1, h2.rep _ _ _ fun _ hb => hb⟩
theorem CoOwn.lt {w : World} {t : Co} {y : Value} {fp : List Nat} (r : CoOwn w t y fp) : ∀ b ∈ fp, b < w.heap.size := by
  obtain ⟨s, rfl, ho⟩ := r
  exact COwn.lt _ _ _ ho
theorem CoNew.below {B : Nat} {w w' : World} {t : Co} {y : Value} (h : CoNew B w t y) (k : Below w.heap.size w w') : CoNew B w' t y :=
  let ⟨fp, h1, h2, h3⟩ := h; ⟨fp, h1.below k, h2, h3⟩
theorem CoNew.rep {B : Nat} {w : World} {t : Co} {y : Value} (h : CoNew B w t y) : CoRep (B ≤ ·) w t y :=
  let ⟨fp, h1, _, h3⟩ := h; h1.rep.move (.weaken fun b hb _ => h3 b hb)
theorem CosNew.rep {B : Nat} {w : World} {ts : List Co} {y : Value} (h : CosNew B w ts y) : CosRep (B ≤ ·) w ts y :=
  let ⟨_, h1, _, h3⟩ := h; COwn.rep _ _ _ (fun b hb => h3 b hb) h1
theorem CosNew.below {B : Nat} {w w' : World} {ts : List Co} {y : Value} (h : CosNew B w ts y) (k : Below w.heap.size w w') : CosNew B w' ts y :=
  let ⟨fp, h1, h2, h3⟩ := h; ⟨fp, COwn.move _ _ _ (fun b hb => k.block b (COwn.lt _ _ _ h1 b hb)) h1, h2, h3⟩
theorem CoNew.shape {B : Nat} {w : World} {t : Co} {y : Value} (h : CoNew B w t y) : ∃ k g l a n q, y = .agg #[.int .i64 k, .int .i64 g, .int .i64 l, .slice a n q] := by
  obtain ⟨fp, h, _⟩ := h
  obtain ⟨k, g, l, a, n, q, rfl, _⟩ := h.shape
  exact ⟨k, g, l, a, n, q, rfl⟩
theorem CosNew.open_slice {B : Nat} {w : World} {ts : List Co} {y : Value} (h : CosNew B w ts y) : ∃ a q, y = .slice a ts.length q := by
  obtain ⟨fp, h, _⟩ := h
  unfold CosOwn COwn at h
  obtain ⟨a, q, h, _⟩ := h
  rw [Co.rows_length] at h
  exact ⟨a, q, h⟩
theorem CosNew.setCell {B : Nat} {w : World} {ts : List Co} {y : Value} (h : CosNew B w ts y) {p : Addr} (hp : p.block < B) (v : Value) : CosNew B (w.setCell p v) ts y := by
  obtain ⟨fp, h1, h2, h3⟩ := h
  exact ⟨fp, COwn.move _ _ _ (fun b hb => Below.heap_setCell w p v b (by have := h3 b hb; omega)) h1, h2, h3⟩
theorem CosNew.co {B : Nat} {w : World} {k g l : Int} {ts : List Co} {y : Value} (h : CosNew B w ts y) : CoNew B w (.mk k g l ts) (.agg #[.int .i64 k, .int .i64 g, .int .i64 l, y]) := by
  obtain ⟨fp, h1, h2, h3⟩ := h
  exact ⟨fp, ⟨y, rfl, h1⟩, h2, h3⟩
theorem CoNew.setCell {B : Nat} {w : World} {t : Co} {y : Value} (h : CoNew B w t y) {p : Addr} (hp : p.block < B) (v : Value) : CoNew B (w.setCell p v) t y := by
  obtain ⟨fp, ⟨s, hs, h1⟩, h2, h3⟩ := h
  exact ⟨fp, ⟨s, hs, COwn.move _ _ _ (fun b hb => Below.heap_setCell w p v b (by have := h3 b hb; omega)) h1⟩, h2, h3⟩
theorem CoNew.mono {B B' : Nat} {w : World} {t : Co} {y : Value} (h : CoNew B w t y) (hB : B' ≤ B) : CoNew B' w t y :=
  let ⟨fp, h1, h2, h3⟩ := h; ⟨fp, h1, h2, fun b hb => Nat.le_trans hB (h3 b hb)⟩
theorem CosNew.mono {B B' : Nat} {w : World} {t : List Co} {y : Value} (h : CosNew B w t y) (hB : B' ≤ B) : CosNew B' w t y :=
  let ⟨fp, h1, h2, h3⟩ := h; ⟨fp, h1, h2, fun b hb => Nat.le_trans hB (h3 b hb)⟩
theorem Co.flatten_length (ts : List Co) : (Co.rows ts).flatten.length = ts.length * 4 := by
  induction ts with
  | nil => unfold Co.rows; rfl
  | cons t ts ih => unfold Co.rows; rw [List.flatten_cons, List.length_append, ih, t.row_length, List.length_cons]; omega
theorem CoOwn.cells {w : World} {t : Co} {s : Value} {fp : List Nat} {k g l : Int} (h : CoOwn w t (.agg #[.int .i64 k, .int .i64 g, .int .i64 l, s]) fp) : SOwn w t.row [.int .i64 k, .int .i64 g, .int .i64 l, s] fp := by
  obtain ⟨s', he, h⟩ := h
  cases t with | mk k' g' l' ts =>
  simp only [Value.agg.injEq, Array.mk.injEq, List.cons.injEq, Value.int.injEq, true_and, and_true] at he
  obtain ⟨rfl, rfl, rfl, rfl⟩ := he
  unfold Co.row
  have i1 : ∀ n : Int, COwn w (.int n) (.int .i64 n) [] := fun n => by unfold COwn; exact ⟨rfl, rfl⟩
  exact ⟨_, _, [], fp, rfl, rfl, i1 _, _, _, [], fp, rfl, rfl, i1 _, _, _, [], fp, rfl, rfl, i1 _, _, _, fp, [], rfl, by simp, h, rfl, rfl⟩
theorem CoNew.open {B : Nat} {w : World} {t : Co} {y : Value} (h : CoNew B w t y) : ∃ k g l c m q fp, y = .agg #[.int .i64 k, .int .i64 g, .int .i64 l, .slice c m q] ∧ k = t.kind ∧ m = t.kids.length ∧ SOwn w t.row [.int .i64 k, .int .i64 g, .int .i64 l, .slice c m q] fp ∧ fp.Nodup ∧ ∀ b ∈ fp, B ≤ b := by
  obtain ⟨fp, h1, h2, h3⟩ := h
  obtain ⟨s, rfl, h⟩ := h1
  have h' := h
  unfold COwn at h'
  obtain ⟨a, cap, rfl, _⟩ := h'
  exact ⟨_, _, _, a, _, cap, fp, rfl, rfl, Co.rows_length _, CoOwn.cells ⟨_, rfl, h⟩, h2, h3⟩
end Go.Proofs.Ythhdjacdalehoaa
namespace Go.Proofs.Ythhdjacdalehoaa
open Go.RowKit

/-- What is left of a purse when c things are taken from it; -1: too little. -/
def szr (l : Int) (c : Nat) : Int := if (c : Int) ≤ l then l - c else -1

theorem szr_pos {l : Int} {c : Nat} (h : (c : Int) ≤ l) : szr l c = l - c := by unfold szr; rw [if_pos h]
theorem szr_neg {l : Int} {c : Nat} (h : ¬ (c : Int) ≤ l) : szr l c = -1 := by unfold szr; rw [if_neg h]
end Go.Proofs.Ythhdjacdalehoaa
