/-
  Types as trees.
  Worlds that differ in few blocks.
-/
import Derived.Test.YtikkneahhgmdjaaB0
namespace Go.Proofs.Ytikkneahhgmdjaa
open Go.RowKit
set_option linter.unusedVariables false
set_option linter.unusedSimpArgs false

inductive Ty where
  | mk (kind : Int) (kids : List Ty)

def Ty.kind : Ty → Int | .mk k _ => k
def Ty.kids : Ty → List Ty | .mk _ ts => ts

mutual
def Ty.row : Ty → List C
  | .mk k ts => [.int k, .sl (Ty.rows ts)]
def Ty.rows : List Ty → List (List C)
  | [] => []
  | t :: ts => t.row :: Ty.rows ts
end
theorem Ty.rows_eq (ts : List Ty) : Ty.rows ts = ts.map Ty.row := by
  induction ts with
  | nil => rfl
  | cons t ts ih => unfold Ty.rows; rw [ih]; rfl
theorem Ty.rows_length (ts : List Ty) : (Ty.rows ts).length = ts.length := by rw [Ty.rows_eq]; simp
theorem Ty.row_length : ∀ t : Ty, t.row.length = 2 | .mk _ _ => by unfold Ty.row; rfl

/-- A slice of types. -/
def TysRep (F : Nat → Prop) (w : World) (ts : List Ty) (y : Value) : Prop := CRep F w (.sl (Ty.rows ts)) y
/-- A type by value. -/
def TyRep (F : Nat → Prop) (w : World) (t : Ty) (y : Value) : Prop := ∃ s, y = .agg #[.int .i64 t.kind, s] ∧ TysRep F w t.kids s

theorem TysRep.move {F G : Nat → Prop} {w w' : World} {ts : List Ty} {y : Value} (h : TysRep F w ts y) (k : Keeps F G w w') : TysRep G w' ts y := CRep.move k _ _ h
theorem TyRep.move {F G : Nat → Prop} {w w' : World} {t : Ty} {y : Value} (h : TyRep F w t y) (k : Keeps F G w w') : TyRep G w' t y :=
  let ⟨s, h1, h2⟩ := h; ⟨s, h1, h2.move k⟩
theorem TyRep.below {F : Nat → Prop} {w w' : World} {t : Ty} {y : Value} (h : TyRep F w t y) (k : Below w.heap.size w w') : TyRep F w' t y := h.move (.below k)
theorem TysRep.below {F : Nat → Prop} {w w' : World} {t : List Ty} {y : Value} (h : TysRep F w t y) (k : Below w.heap.size w w') : TysRep F w' t y := h.move (.below k)

theorem TysRep.open {F : Nat → Prop} {w : World} {ts : List Ty} {y : Value} (h : TysRep F w ts y) :
    ∃ (a : Option Addr) (cap : Nat), y = .slice a ts.length cap ∧ ts.length ≤ cap ∧ cap ≤ maxLen ∧
      ∀ i (h : i < ts.length), ∃ b off k c m q, a = some ⟨b, off, none⟩ ∧ w.cell? ⟨b, off + i * 2, none⟩ = some (.int .i64 k) ∧ w.cell? ⟨b, off + i * 2 + 1, none⟩ = some (.slice c m q) ∧ TyRep F w ts[i] (.agg #[.int .i64 k, .slice c m q]) := by
  obtain ⟨a, cap, h1, h2, h3, h4⟩ := CRep.rows h
  rw [Ty.rows_length] at h1 h2
  refine ⟨a, cap, h1, h2, h3, fun i hi => ?_⟩
  rcases h4 with h4 | ⟨b, off, ha, hF, hl, hr⟩
  · rw [← Ty.rows_length, h4] at hi; exact absurd hi (Nat.not_lt_zero _)
  · have hc := hr.get (m := 2) (fun r hr => by rw [Ty.rows_eq] at hr; obtain ⟨t, _, rfl⟩ := List.mem_map.1 hr; exact t.row_length) i (by rw [Ty.rows_length]; exact hi)
    have he : (Ty.rows ts)[i]'(by rw [Ty.rows_length]; exact hi) = ts[i].row := by simp [Ty.rows_eq]
    rw [he] at hc
    obtain ⟨k, ks, ht⟩ : ∃ k ks, ts[i] = Ty.mk k ks := ⟨ts[i].kind, ts[i].kids, by cases ts[i]; rfl⟩
    rw [ht] at hc ⊢
    unfold Ty.row CellsAt at hc
    obtain ⟨⟨y0, hy0, hc0⟩, hc⟩ := hc
    unfold CellsAt at hc
    obtain ⟨⟨y1, hy1, hc1⟩, _⟩ := hc
    rw [CRep.int_eq hc0] at hy0
    obtain ⟨c, q, rfl, _⟩ := CRep.rows hc1
    exact ⟨b, off, k, c, _, q, ha, hy0, hy1, _, rfl, hc1⟩
theorem TyRep.open {F : Nat → Prop} {w : World} {t : Ty} {y : Value} (h : TyRep F w t y) :
    ∃ (a : Option Addr) (cap : Nat), y = .agg #[.int .i64 t.kind, .slice a t.kids.length cap] ∧ t.kids.length ≤ cap ∧ cap ≤ maxLen ∧ TysRep F w t.kids (.slice a t.kids.length cap) := by
  obtain ⟨s, rfl, hs⟩ := h
  obtain ⟨a, cap, rfl, h2, h3, _⟩ := hs.open
  exact ⟨a, cap, rfl, h2, h3, hs⟩
theorem TyRep.shape {F : Nat → Prop} {w : World} {t : Ty} {y : Value} (h : TyRep F w t y) : ∃ k a n q, y = .agg #[.int .i64 k, .slice a n q] := by
  obtain ⟨a, q, rfl, _⟩ := h.open
  exact ⟨_, a, _, q, rfl⟩
theorem TysRep.shape {F : Nat → Prop} {w : World} {t : List Ty} {y : Value} (h : TysRep F w t y) : ∃ a n q, y = .slice a n q := by
  obtain ⟨a, q, rfl, _⟩ := h.open
  exact ⟨a, _, q, rfl⟩
theorem Ty.kid_lt {t : Ty} {x : Ty} (h : x ∈ t.kids) : SizeOf.sizeOf x < SizeOf.sizeOf t := by
  cases t with
  | mk k ts => have := List.sizeOf_lt_of_mem h; simp only [Ty.kids] at h this; simp; omega

mutual
/-- How many types lie below a type. -/
def Ty.cnt : Ty → Nat
  | .mk _ ts => ts.length + Ty.cnts ts
def Ty.cnts : List Ty → Nat
  | [] => 0
  | t :: ts => t.cnt + Ty.cnts ts
end
theorem Ty.cnts_take_succ : ∀ (ts : List Ty) (j : Nat) (h : j < ts.length), Ty.cnts (ts.take (j + 1)) = Ty.cnts (ts.take j) + ts[j].cnt
  | [], _, h => absurd h (Nat.not_lt_zero _)
  | t :: ts, 0, _ => by simp [Ty.cnts]
  | t :: ts, j + 1, h => by
    have := Ty.cnts_take_succ ts j (by simpa using h)
    simp only [List.take_succ_cons, Ty.cnts, List.getElem_cons_succ]
    omega
theorem Ty.cnts_take_le : ∀ (ts : List Ty) (j : Nat), Ty.cnts (ts.take j) ≤ Ty.cnts ts
  | [], _ => by simp
  | t :: ts, 0 => by simp [Ty.cnts]
  | t :: ts, j + 1 => by
    have := Ty.cnts_take_le ts j
    simp only [List.take_succ_cons, Ty.cnts]
    omega
theorem Ty.cnt_mem : ∀ {ts : List Ty} {t : Ty}, t ∈ ts → t.cnt ≤ Ty.cnts ts
  | u :: ts, t, h => by
    rcases List.mem_cons.1 h with rfl | h
    · simp only [Ty.cnts]; omega
    · have := Ty.cnt_mem h; simp only [Ty.cnts]; omega
theorem Ty.cnt_kid {t x : Ty} (h : x ∈ t.kids) : x.cnt + t.kids.length ≤ t.cnt := by
  cases t with
  | mk k ts => have h2 : x ∈ ts := h; have := Ty.cnt_mem h2; simp only [Ty.kids, Ty.cnt]; omega
theorem TysRep.at {F : Nat → Prop} {w wr : World} {ts : List Ty} {a : Option Addr} {n cap : Nat} (h : TysRep F w ts (.slice a n cap)) (hb : Below w.heap.size w wr) {i : Nat} (hi : i < ts.length) :
    ∃ b off k c m q, a = some ⟨b, off, none⟩ ∧ b < wr.heap.size ∧ wr.cell? ⟨b, off + i * 2, none⟩ = some (.int .i64 k) ∧ wr.cell? ⟨b, off + i * 2 + 1, none⟩ = some (.slice c m q) ∧ TyRep F wr ts[i] (.agg #[.int .i64 k, .slice c m q]) := by
  obtain ⟨a', cap', he, _, _, hg⟩ := h.open
  simp only [Value.slice.injEq] at he
  obtain ⟨rfl, _, rfl⟩ := he
  obtain ⟨b, off, k, c, m, q, ha, h0, h1, ht⟩ := hg i hi
  have e0 := (hb.cell (p := ⟨b, off + i * 2, none⟩) (World.block_lt_of_cell? w _ h0)).trans h0
  exact ⟨b, off, k, c, m, q, ha, World.block_lt_of_cell? wr _ e0, e0, (hb.cell (p := ⟨b, off + i * 2 + 1, none⟩) (World.block_lt_of_cell? w _ h1)).trans h1, ht.below hb⟩
end Go.Proofs.Ytikkneahhgmdjaa
namespace Go.Proofs.Ytikkneahhgmdjaa
open Go.RowKit
set_option linter.unusedVariables false
set_option linter.unusedSimpArgs false

/-- Only the blocks of a list, and what is new, have turned. -/
structure Chg (fp : List Nat) (w w' : World) : Prop where
  os : w'.os = w.os
  tape : w'.tape = w.tape
  output : w'.output = w.output
  size : w.heap.size ≤ w'.heap.size
  block : ∀ k, k < w.heap.size → k ∉ fp → w'.heap[k]? = w.heap[k]?
theorem Chg.of_below {fp : List Nat} {w w' : World} (h : Below w.heap.size w w') : Chg fp w w' := ⟨h.os, h.tape, h.output, h.size, fun k hk _ => h.block k hk⟩
theorem Chg.refl (fp : List Nat) (w : World) : Chg fp w w := .of_below (Below.refl _ _)
theorem Chg.trans {fp : List Nat} {w w1 w2 : World} (h : Chg fp w w1) (k : Chg fp w1 w2) : Chg fp w w2 :=
  ⟨k.os.trans h.os, k.tape.trans h.tape, k.output.trans h.output, Nat.le_trans h.size k.size, fun b hb hn => (k.block b (Nat.lt_of_lt_of_le hb h.size) hn).trans (h.block b hb hn)⟩
theorem Chg.mono {fp fp' : List Nat} {w w' : World} (h : Chg fp w w') (hs : ∀ x ∈ fp, x ∈ fp') : Chg fp' w w' :=
  ⟨h.os, h.tape, h.output, h.size, fun b hb hn => h.block b hb (fun hx => hn (hs b hx))⟩
theorem Chg.setCell {fp : List Nat} {w w' : World} (h : Chg fp w w') {p : Addr} (hp : p.block ∈ fp) (v : Value) : Chg fp w (w'.setCell p v) :=
  ⟨h.os, h.tape, h.output, by simpa [World.setCell] using h.size, fun b hb hn => (Below.heap_setCell w' p v b (fun e => hn (e ▸ hp))).trans (h.block b hb hn)⟩
theorem Chg.below {fp : List Nat} {w w' : World} {B : Nat} (h : Chg fp w w') (hB : ∀ x ∈ fp, B ≤ x) (hs : B ≤ w.heap.size) : Below B w w' :=
  ⟨h.os, h.tape, h.output, h.size, fun k hk => h.block k (by omega) (fun hx => by have := hB k hx; omega)⟩
theorem Chg.cell {fp : List Nat} {w w' : World} {a : Addr} {v : Value} (h : Chg fp w w') (hn : a.block ∉ fp) (hc : w.cell? a = some v) : w'.cell? a = some v :=
  (World.cell?_of_block (h.block a.block (World.block_lt_of_cell? _ _ hc) hn)).trans hc
theorem Chg.keeps {fp : List Nat} {w w' : World} {F : Nat → Prop} (h : Chg fp w w') (hn : ∀ b, F b → b ∉ fp) : Keeps F F w w' :=
  ⟨h.size, fun _ h _ => h, fun b hF hl => h.block b hl (hn b hF)⟩
theorem TyRep.chg {fp : List Nat} {w w' : World} {F : Nat → Prop} {t : Ty} {y : Value} (h : Chg fp w w') (hn : ∀ b, F b → b ∉ fp) (r : TyRep F w t y) : TyRep F w' t y := r.move (h.keeps hn)
theorem Chg.cellne {r : Nat} {w w' : World} {a : Addr} {v : Value} (h : Chg [r] w w') (hn : a.block ≠ r) (hc : w.cell? a = some v) : w'.cell? a = some v := h.cell (by simpa using hn) hc
theorem Chg.frone {r b o : Nat} {w w' : World} (h : Chg [r] w w') (hn : b ≠ r) (hl : b < w.heap.size) : w'.frozen? ⟨b, o, none⟩ = w.frozen? ⟨b, o, none⟩ := World.frozen?_of_block (a := ⟨b, o, none⟩) (h.block b hl (by simpa using hn))
theorem ccell {r b o : Nat} {w w1 : World} {v : Value} (h : Chg [r] w w1) (hn : b ≠ r) (hc : w.cell? ⟨b, o, none⟩ = some v) : w1.cell? ⟨b, o, none⟩ = some v := h.cellne hn hc
theorem cfroc {r b o : Nat} {w w1 : World} {v : Value} (h : Chg [r] w w1) (hn : b ≠ r) (hc : w.cell? ⟨b, o, none⟩ = some v) (hf : w.frozen? ⟨b, o, none⟩ = false) : w1.frozen? ⟨b, o, none⟩ = false :=
  (h.frone hn (World.block_lt_of_cell? _ _ hc)).trans hf
theorem bchg {B r : Nat} {w w1 w2 : World} (h : Below B w w1) (k : Chg [r] w1 w2) (hr : B ≤ r) (hw : B ≤ w.heap.size) : Below B w w2 :=
  ⟨k.os.trans h.os, k.tape.trans h.tape, k.output.trans h.output, Nat.le_trans h.size k.size, fun b hb => (k.block b (Nat.lt_of_lt_of_le (Nat.lt_of_lt_of_le hb hw) h.size) (by simp; omega)).trans (h.block b hb)⟩
theorem Chg.trans' {r : Nat} {w w' : World} (h : Chg [r] w w') {p : Addr} (hp : w.heap.size ≤ p.block) (v : Value) : Chg [r] w (w'.setCell p v) :=
  ⟨h.os, h.tape, h.output, by simpa [World.setCell] using h.size, fun b hb hn => (Below.heap_setCell w' p v b (by omega)).trans (h.block b hb hn)⟩
theorem TyRep.chgB {B r : Nat} {w w' : World} {t : Ty} {y : Value} (h : TyRep (B ≤ ·) w t y) (k : Chg [r] w w') (hr : r < B) : TyRep (B ≤ ·) w' t y :=
  TyRep.chg k (fun b hb => by simp; omega) h
theorem TyRep.chgA {r : Nat} {w w' : World} {t : Ty} {y : Value} (h : TyRep (· ≠ r) w t y) (k : Chg [r] w w') : TyRep (· ≠ r) w' t y := TyRep.chg k (fun b hb => by simpa using hb) h
theorem TysRep.chgA {r : Nat} {w w' : World} {t : List Ty} {y : Value} (h : TysRep (· ≠ r) w t y) (k : Chg [r] w w') : TysRep (· ≠ r) w' t y := h.move (k.keeps (fun b hb => by simpa using hb))
end Go.Proofs.Ytikkneahhgmdjaa
