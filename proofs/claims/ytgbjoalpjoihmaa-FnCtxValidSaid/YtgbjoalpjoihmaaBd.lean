/-
  Bindings: a name and a type.
-/
import Derived.Test.YtgbjoalpjoihmaaTyValid
import Derived.Test.YtgbjoalpjoihmaaName
import Derived.Test.YtgbjoalpjoihmaaLaTyD
namespace Go.Proofs.Ytgbjoalpjoihmaa
open Go.RowKit
set_option linter.unusedVariables false
set_option linter.unusedSimpArgs false

structure Bd where
  name : ByteArray
  ty : Ty
def Bd.row (b : Bd) : List C := [.str b.name, .int b.ty.kind, .sl (Ty.rows b.ty.kids)]
def Bd.rows (l : List Bd) : List (List C) := l.map Bd.row
theorem Bd.row_length (b : Bd) : b.row.length = 3 := rfl
theorem Bd.rows_length (l : List Bd) : (Bd.rows l).length = l.length := by simp [Bd.rows]
def BdsRep (F : Nat → Prop) (w : World) (l : List Bd) (y : Value) : Prop := CRep F w (.sl (Bd.rows l)) y
def BdRep (F : Nat → Prop) (w : World) (b : Bd) (y : Value) : Prop := ∃ k c m q, y = .agg #[.string b.name, .int .i64 k, .slice c m q] ∧ b.name.size ≤ maxLen ∧ TyRep F w b.ty (.agg #[.int .i64 k, .slice c m q])
theorem BdsRep.move {F G : Nat → Prop} {w w' : World} {l : List Bd} {y : Value} (h : BdsRep F w l y) (k : Keeps F G w w') : BdsRep G w' l y := CRep.move k _ _ h
theorem BdsRep.below {F : Nat → Prop} {w w' : World} {l : List Bd} {y : Value} (h : BdsRep F w l y) (k : Below w.heap.size w w') : BdsRep F w' l y := h.move (.below k)
theorem BdRep.below {F : Nat → Prop} {w w' : World} {b : Bd} {y : Value} (h : BdRep F w b y) (k : Below w.heap.size w w') : BdRep F w' b y :=
  let ⟨a, c, m, q, h1, h2, h3⟩ := h; ⟨a, c, m, q, h1, h2, h3.below k⟩
theorem BdsRep.open {F : Nat → Prop} {w : World} {l : List Bd} {y : Value} (h : BdsRep F w l y) :
    ∃ (a : Option Addr) (cap : Nat), y = .slice a l.length cap ∧ l.length ≤ cap ∧ cap ≤ maxLen ∧
      ∀ i (h : i < l.length), ∃ b off k c m q, a = some ⟨b, off, none⟩ ∧ w.cell? ⟨b, off + i * 3, none⟩ = some (.string l[i].name) ∧ l[i].name.size ≤ maxLen ∧ w.cell? ⟨b, off + i * 3 + 1, none⟩ = some (.int .i64 k) ∧ w.cell? ⟨b, off + i * 3 + 2, none⟩ = some (.slice c m q) ∧ TyRep F w l[i].ty (.agg #[.int .i64 k, .slice c m q]) := by
  obtain ⟨a, cap, h1, h2, h3, h4⟩ := CRep.rows h
  rw [Bd.rows_length] at h1 h2
  refine ⟨a, cap, h1, h2, h3, fun i hi => ?_⟩
  rcases h4 with h4 | ⟨b, off, ha, hF, hl, hr⟩
  · rw [← Bd.rows_length, h4] at hi; exact absurd hi (Nat.not_lt_zero _)
  · have hc := hr.get (m := 3) (fun r hr => by obtain ⟨t, _, rfl⟩ := List.mem_map.1 hr; rfl) i (by rw [Bd.rows_length]; exact hi)
    have he : (Bd.rows l)[i]'(by rw [Bd.rows_length]; exact hi) = l[i].row := by simp [Bd.rows]
    rw [he] at hc
    unfold Bd.row CellsAt at hc
    obtain ⟨⟨y0, hy0, hc0⟩, hc⟩ := hc
    unfold CellsAt at hc
    obtain ⟨⟨y1, hy1, hc1⟩, hc⟩ := hc
    unfold CellsAt at hc
    obtain ⟨⟨y2, hy2, hc2⟩, _⟩ := hc
    obtain ⟨e0, z0⟩ := CRep.str_eq hc0
    rw [e0] at hy0
    rw [CRep.int_eq hc1] at hy1
    obtain ⟨c, q, rfl, _⟩ := CRep.rows hc2
    exact ⟨b, off, _, c, _, q, ha, hy0, z0, hy1, hy2, _, rfl, hc2⟩
theorem BdsRep.shape {F : Nat → Prop} {w : World} {l : List Bd} {y : Value} (h : BdsRep F w l y) : ∃ a n q, y = .slice a n q := by
  obtain ⟨a, q, rfl, _⟩ := h.open
  exact ⟨a, _, q, rfl⟩
theorem BdRep.shape {F : Nat → Prop} {w : World} {b : Bd} {y : Value} (h : BdRep F w b y) : ∃ s k a n q, y = .agg #[.string s, .int .i64 k, .slice a n q] := by
  obtain ⟨k, c, m, q, rfl, _⟩ := h
  exact ⟨_, k, c, m, q, rfl⟩
theorem BdsRep.at {F : Nat → Prop} {w wr : World} {l : List Bd} {a : Option Addr} {n cap : Nat} (h : BdsRep F w l (.slice a n cap)) (hb : Below w.heap.size w wr) {i : Nat} (hi : i < l.length) :
    ∃ b off k c m q, a = some ⟨b, off, none⟩ ∧ b < wr.heap.size ∧ wr.cell? ⟨b, off + i * 3, none⟩ = some (.string l[i].name) ∧ l[i].name.size ≤ maxLen ∧ wr.cell? ⟨b, off + i * 3 + 1, none⟩ = some (.int .i64 k) ∧ wr.cell? ⟨b, off + i * 3 + 2, none⟩ = some (.slice c m q) ∧ TyRep F wr l[i].ty (.agg #[.int .i64 k, .slice c m q]) := by
  obtain ⟨a', cap', he, _, _, hg⟩ := h.open
  simp only [Value.slice.injEq] at he
  obtain ⟨rfl, _, rfl⟩ := he
  obtain ⟨b, off, k, c, m, q, ha, h0, hz, h1, h2, ht⟩ := hg i hi
  have e0 := bcell hb h0
  exact ⟨b, off, k, c, m, q, ha, World.block_lt_of_cell? wr _ e0, e0, hz, bcell hb h1, bcell hb h2, ht.below hb⟩
/-- How much a law's purse counts for bindings. -/
def Bd.cnt (b : Bd) : Nat := b.name.size + b.ty.cnt
def Bd.cs : List Bd → Nat
  | [] => 0
  | b :: l => b.cnt + Bd.cs l
def Bd.cnts (l : List Bd) : Nat := l.length + Bd.cs l
theorem Bd.cs_take_succ : ∀ (ts : List Bd) (j : Nat) (h : j < ts.length), Bd.cs (ts.take (j + 1)) = Bd.cs (ts.take j) + ts[j].cnt
  | [], _, h => absurd h (Nat.not_lt_zero _)
  | t :: ts, 0, _ => by simp [Bd.cs]
  | t :: ts, j + 1, h => by
    have := Bd.cs_take_succ ts j (by simpa using h)
    simp only [List.take_succ_cons, Bd.cs, List.getElem_cons_succ]
    omega
theorem Bd.cs_take_le : ∀ (ts : List Bd) (j : Nat), Bd.cs (ts.take j) ≤ Bd.cs ts
  | [], _ => by simp
  | t :: ts, 0 => by simp [Bd.cs]
  | t :: ts, j + 1 => by
    have := Bd.cs_take_le ts j
    simp only [List.take_succ_cons, Bd.cs]
    omega
theorem Bd.cnt_mem : ∀ {l : List Bd} {b : Bd}, b ∈ l → b.cnt ≤ Bd.cs l
  | u :: l, b, h => by
    rcases List.mem_cons.1 h with rfl | h
    · simp only [Bd.cs]; omega
    · have := Bd.cnt_mem h; simp only [Bd.cs]; omega
/-- Bindings in memory of one's own. -/
def BdNew (B : Nat) (w : World) (b : Bd) (y : Value) : Prop := ∃ k c m q fp, y = .agg #[.string b.name, .int .i64 k, .slice c m q] ∧ SOwn w b.row [.string b.name, .int .i64 k, .slice c m q] fp ∧ fp.Nodup ∧ ∀ x ∈ fp, B ≤ x
def BdsNew (B : Nat) (w : World) (l : List Bd) (y : Value) : Prop := ∃ fp, COwn w (.sl (Bd.rows l)) y fp ∧ fp.Nodup ∧ ∀ b ∈ fp, B ≤ b
theorem BdsNew.rep {B : Nat} {w : World} {l : List Bd} {y : Value} (h : BdsNew B w l y) : BdsRep (B ≤ ·) w l y :=
  let ⟨_, h1, _, h3⟩ := h; COwn.rep _ _ _ (fun b hb => h3 b hb) h1
theorem BdsNew.below {B : Nat} {w w' : World} {l : List Bd} {y : Value} (h : BdsNew B w l y) (k : Below w.heap.size w w') : BdsNew B w' l y :=
  let ⟨fp, h1, h2, h3⟩ := h; ⟨fp, COwn.move _ _ _ (fun b hb => k.block b (COwn.lt _ _ _ h1 b hb)) h1, h2, h3⟩
theorem BdsNew.shape {B : Nat} {w : World} {l : List Bd} {y : Value} (h : BdsNew B w l y) : ∃ a n q, y = .slice a n q := h.rep.shape
theorem TyOwn.bd {w : World} {t : Ty} {k : Int} {m q : Nat} {a : Option Addr} {fp : List Nat} {s : ByteArray} (hs : s.size ≤ maxLen) (h : SOwn w t.row [.int .i64 k, .slice a m q] fp) :
    SOwn w (Bd.mk s t).row [.string s, .int .i64 k, .slice a m q] fp := by
  cases t with | mk k' ts =>
  unfold Ty.row at h
  exact ⟨_, _, [], fp, rfl, rfl, by unfold COwn; exact ⟨rfl, hs, rfl⟩, h⟩
theorem Bd.flatten_length (l : List Bd) : (Bd.rows l).flatten.length = l.length * 3 := by
  induction l with
  | nil => rfl
  | cons t ts ih => unfold Bd.rows at ih ⊢; rw [List.map_cons, List.flatten_cons, List.length_append, ih, t.row_length, List.length_cons]; omega
theorem BdNew.setCell {B : Nat} {w : World} {b : Bd} {y : Value} (h : BdNew B w b y) {p : Addr} (hp : p.block < B) (v : Value) : BdNew B (w.setCell p v) b y := by
  obtain ⟨k, c, m, q, fp, rfl, h1, h2, h3⟩ := h
  exact ⟨k, c, m, q, fp, rfl, h1.move _ _ _ (fun b hb => Below.heap_setCell w p v b (by have := h3 b hb; omega)), h2, h3⟩
theorem BdNew.mono {B B' : Nat} {w : World} {b : Bd} {y : Value} (h : BdNew B w b y) (hB : B' ≤ B) : BdNew B' w b y := by
  obtain ⟨k, c, m, q, fp, rfl, h1, h2, h3⟩ := h
  exact ⟨k, c, m, q, fp, rfl, h1, h2, fun b hb => Nat.le_trans hB (h3 b hb)⟩
def RetBd (b : Bd) (w : World) (e : Ending) (w' : World) : Prop := ∃ v, e = .returned v ∧ BdNew w.heap.size w' b v ∧ Below w.heap.size w w'
def RetBds (l : List Bd) (w : World) (e : Ending) (w' : World) : Prop := ∃ v, e = .returned v ∧ BdsNew w.heap.size w' l v ∧ Below w.heap.size w w'
/-- Equality of bindings. -/
def Bd.same (a b : Bd) : Bool := (a.name.toList == b.name.toList) && a.ty.same b.ty
def Bd.ok (b : Bd) : Bool := nameB b.name && b.ty.valid
def ctxB (l : List Bd) : Bool := decide (l.length ≤ 12) && l.all Bd.ok
end Go.Proofs.Ytgbjoalpjoihmaa
