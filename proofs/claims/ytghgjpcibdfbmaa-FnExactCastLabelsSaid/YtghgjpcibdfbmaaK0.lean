/-
  Data of the language, whatever the type: a cell holds a number, a string or a slice of rows of cells; what it means that a value of the model reads as such data in a world; that this is kept while the blocks concerned are kept.
  Types as trees.
  Data in memory of one's own: every slice starts at the head of a block that nothing else uses. 'fp': the blocks, in the order in which they are met.
  What is left of a law's purse.
  Worlds that differ in few blocks.
  A slice that grows by append, row by row, in memory of one's own.
  Small laws for walks that a program prints: what is known of a cell behind an alloc, a draw, a store, a call.
  Terms as trees.
  Terms in memory of one's own.
  Equality of the program and of the reference: equality of trees.
  Names: one small letter.
  Bounds of numbers, labels.
  The marks of texts: some string.
  The marks of texts: which string.
-/
import Derived.WalkKit
import Derived.WalkSpells
import Derived.WalkLawsBesides
import Derived.Lib.Hide
import Derived.Deep.Draws
import Derived.Deep.AppendLies
import Derived.Deep.RegionLaw
import Derived.Test.YtghgjpcibdfbmaaRows
import Derived.IntWalk
namespace Go.Proofs.Ytghgjpcibdfbmaa
open Go.RowKit
set_option linter.unusedVariables false
set_option linter.unusedSimpArgs false

inductive C where
  | int (n : Int)
  | str (s : ByteArray)
  | sl (rows : List (List C))

mutual
def CRep (F : Nat → Prop) (w : World) : C → Value → Prop
  | .int n, y => y = .int .i64 n
  | .str s, y => y = .string s ∧ s.size ≤ maxLen
  | .sl rows, y => ∃ (a : Option Addr) (cap : Nat), y = .slice a rows.length cap ∧ rows.length ≤ cap ∧ cap ≤ maxLen ∧
      (rows = [] ∨ ∃ b off, a = some ⟨b, off, none⟩ ∧ F b ∧ b < w.heap.size ∧ RowsAt F w b off rows)
def RowsAt (F : Nat → Prop) (w : World) (b : Nat) : Nat → List (List C) → Prop
  | _, [] => True
  | off, r :: rs => CellsAt F w b off r ∧ RowsAt F w b (off + r.length) rs
def CellsAt (F : Nat → Prop) (w : World) (b : Nat) : Nat → List C → Prop
  | _, [] => True
  | off, c :: cs => (∃ y, w.cell? ⟨b, off, none⟩ = some y ∧ CRep F w c y) ∧ CellsAt F w b (off + 1) cs
end

/-- The same data in another world, where the blocks that it reads are the same. -/
structure Keeps (F G : Nat → Prop) (w w' : World) : Prop where
  size : w.heap.size ≤ w'.heap.size
  sub : ∀ b, F b → b < w.heap.size → G b
  same : ∀ b, F b → b < w.heap.size → w'.heap[b]? = w.heap[b]?

mutual
theorem CRep.move {F G : Nat → Prop} {w w' : World} (k : Keeps F G w w') : ∀ (c : C) (y : Value), CRep F w c y → CRep G w' c y
  | .int n, y, h => by unfold CRep at h ⊢; exact h
  | .str s, y, h => by unfold CRep at h ⊢; exact h
  | .sl rows, y, h => by
    unfold CRep at h ⊢
    obtain ⟨a, cap, h1, h2, h3, h4⟩ := h
    refine ⟨a, cap, h1, h2, h3, ?_⟩
    rcases h4 with h4 | ⟨b, off, ha, hb, hl, hr⟩
    · exact .inl h4
    · exact .inr ⟨b, off, ha, k.sub b hb hl, Nat.lt_of_lt_of_le hl k.size, RowsAt.move k b hb hl off rows hr⟩
theorem RowsAt.move {F G : Nat → Prop} {w w' : World} (k : Keeps F G w w') (b : Nat) (hb : F b) (hl : b < w.heap.size) :
    ∀ (off : Nat) (rows : List (List C)), RowsAt F w b off rows → RowsAt G w' b off rows
  | _, [], _ => by unfold RowsAt; trivial
  | off, r :: rs, h => by
    unfold RowsAt at h ⊢
    exact ⟨CellsAt.move k b hb hl off r h.1, RowsAt.move k b hb hl _ rs h.2⟩
theorem CellsAt.move {F G : Nat → Prop} {w w' : World} (k : Keeps F G w w') (b : Nat) (hb : F b) (hl : b < w.heap.size) :
    ∀ (off : Nat) (r : List C), CellsAt F w b off r → CellsAt G w' b off r
  | _, [], _ => by unfold CellsAt; trivial
  | off, c :: cs, h => by
    unfold CellsAt at h ⊢
    obtain ⟨⟨y, hy, hc⟩, h2⟩ := h
    exact ⟨⟨y, (World.cell?_of_block (a := ⟨b, off, none⟩) (k.same b hb hl)).trans hy, CRep.move k c y hc⟩, CellsAt.move k b hb hl _ cs h2⟩
end

theorem Keeps.below {F : Nat → Prop} {w w' : World} (h : Below w.heap.size w w') : Keeps F F w w' := ⟨h.size, fun _ h _ => h, fun b _ hl => h.block b hl⟩
theorem Keeps.weaken {F G : Nat → Prop} {w : World} (h : ∀ b, F b → b < w.heap.size → G b) : Keeps F G w w := ⟨Nat.le_refl _, h, fun _ _ _ => rfl⟩

/-- A struct by value reads as a row. -/
def SRep (F : Nat → Prop) (w : World) : List C → List Value → Prop
  | [], ys => ys = []
  | c :: cs, ys => ∃ z zs, ys = z :: zs ∧ CRep F w c z ∧ SRep F w cs zs
theorem SRep.move {F G : Nat → Prop} {w w' : World} (k : Keeps F G w w') : ∀ (r : List C) (ys : List Value), SRep F w r ys → SRep G w' r ys
  | [], _, h => h
  | _ :: cs, _, ⟨z, zs, h, hc, hs⟩ => ⟨z, zs, h, hc.move k _ _, hs.move k cs zs⟩

theorem CellsAt.get {F : Nat → Prop} {w : World} {b : Nat} : ∀ {off : Nat} {r : List C}, CellsAt F w b off r → ∃ ys, SRep F w r ys ∧ ys.length = r.length ∧ ∀ j (h : j < ys.length), w.cell? ⟨b, off + j, none⟩ = some ys[j]
  | _, [], _ => ⟨[], rfl, rfl, fun _ h => absurd h (Nat.not_lt_zero _)⟩
  | off, c :: cs, h => by
    unfold CellsAt at h
    obtain ⟨⟨y, hy, hc⟩, h2⟩ := h
    obtain ⟨ys, hs, hlen, hg⟩ := CellsAt.get h2
    refine ⟨y :: ys, ⟨y, ys, rfl, hc, hs⟩, by simp [hlen], fun j hj => ?_⟩
    cases j with
    | zero => exact hy
    | succ j =>
      have := hg j (by simpa using hj)
      rw [show off + (j + 1) = off + 1 + j from by omega]
      simpa using this

theorem RowsAt.get {F : Nat → Prop} {w : World} {b m : Nat} : ∀ {off : Nat} {rows : List (List C)}, RowsAt F w b off rows → (∀ r ∈ rows, r.length = m) → ∀ i (h : i < rows.length), CellsAt F w b (off + i * m) rows[i]
  | _, [], _, _, _, h => absurd h (Nat.not_lt_zero _)
  | off, r :: rs, h, hm, i, hi => by
    unfold RowsAt at h
    cases i with
    | zero => simpa using h.1
    | succ i =>
      have := RowsAt.get h.2 (fun r hr => hm r (List.mem_cons_of_mem _ hr)) i (by simpa using hi)
      rw [hm r (List.mem_cons_self ..)] at this
      rw [show off + (i + 1) * m = off + m + i * m from by rw [Nat.add_mul]; omega]
      simpa using this

/-- The rows behind a slice that reads as data. -/
theorem CRep.rows {F : Nat → Prop} {w : World} {rows : List (List C)} {y : Value} (h : CRep F w (.sl rows) y) :
    ∃ (a : Option Addr) (cap : Nat), y = .slice a rows.length cap ∧ rows.length ≤ cap ∧ cap ≤ maxLen ∧ (rows = [] ∨ ∃ b off, a = some ⟨b, off, none⟩ ∧ F b ∧ b < w.heap.size ∧ RowsAt F w b off rows) := by
  unfold CRep at h; exact h
theorem CRep.int_eq {F : Nat → Prop} {w : World} {n : Int} {y : Value} (h : CRep F w (.int n) y) : y = .int .i64 n := by unfold CRep at h; exact h
theorem CRep.str_eq {F : Nat → Prop} {w : World} {s : ByteArray} {y : Value} (h : CRep F w (.str s) y) : y = .string s ∧ s.size ≤ maxLen := by unfold CRep at h; exact h

/-- What a call leaves alone that came behind what was left alone. -/
theorem bstep {w W w1 : World} (h : Below w.heap.size w W) (h1 : Below W.heap.size W w1) : Below w.heap.size w w1 := h.trans (h1.mono h.size)
theorem bal1 {w : World} {o : Obj} : Below w.heap.size w (w.alloc o) := (Below.refl _ _).alloc (Nat.le_refl _) _
theorem bal2 {w : World} {o o' : Obj} : Below w.heap.size w ((w.alloc o).alloc o') := bstep bal1 bal1
theorem bal3 {w : World} {o o' o2 : Obj} : Below w.heap.size w (((w.alloc o).alloc o').alloc o2) := bstep bal2 bal1

theorem bcell {w w1 : World} {a : Addr} {v : Value} (h : Below w.heap.size w w1) (hc : w.cell? a = some v) : w1.cell? a = some v :=
  (h.cell (World.block_lt_of_cell? w a hc)).trans hc
/-- What the walk takes as rules behind a call: what was there reads as it did. -/
theorem brules {W w1 : World} (hb : Below W.heap.size W w1) : (∀ b o, b < W.heap.size → w1.cell? ⟨b, o, none⟩ = W.cell? ⟨b, o, none⟩) ∧ (∀ b o, b < W.heap.size → w1.frozen? ⟨b, o, none⟩ = W.frozen? ⟨b, o, none⟩) :=
  ⟨fun b o h => hb.cell (p := ⟨b, o, none⟩) h, fun b o h => hb.frozen (p := ⟨b, o, none⟩) h⟩
theorem bcelld {w w1 : World} {a : Addr} {v : Value} (h : Below w.drew.heap.size w.drew w1) (hc : w.cell? a = some v) : w1.cell? a = some v := bcell (w := w.drew) h hc
theorem below_drewN {B : Nat} {a w : World} (h : Below B a w) (n : Nat) : Below B a (w.drewN n) := ⟨h.os, h.tape, h.output, h.size, h.block⟩
theorem bdr {w : World} : Below w.heap.size w w.drew := (Below.refl _ _).drew
theorem bdrew {w w1 W : World} (h : Below w.heap.size w W) (h1 : Below W.drew.heap.size W.drew w1) : Below w.heap.size w w1 := bstep h.drew h1

theorem cell_n0 {w : World} {cs : Array Value} {T : TypeId} (j : Nat) : (w.alloc (.cells cs T)).cell? ⟨w.heap.size, j, none⟩ = cs[j]? := by
  unfold World.cell?; rw [heap_alloc_new w _]; rfl
theorem cell_n1 {w : World} {o : Obj} {cs : Array Value} {T : TypeId} (j : Nat) : ((w.alloc o).alloc (.cells cs T)).cell? ⟨w.heap.size + 1, j, none⟩ = cs[j]? := by
  have h := cell_n0 (w := w.alloc o) (cs := cs) (T := T) j
  rw [show (w.alloc o).heap.size = w.heap.size + 1 from by simp] at h
  exact h
theorem cell_n2 {w : World} {o o' : Obj} {cs : Array Value} {T : TypeId} (j : Nat) : (((w.alloc o).alloc o').alloc (.cells cs T)).cell? ⟨w.heap.size + 1 + 1, j, none⟩ = cs[j]? := by
  have h := cell_n1 (w := w.alloc o) (o := o') (cs := cs) (T := T) j
  rw [show (w.alloc o).heap.size = w.heap.size + 1 from by simp] at h
  exact h
theorem fro_n0 {w : World} {cs : Array Value} {T : TypeId} (j : Nat) : (w.alloc (.cells cs T)).frozen? ⟨w.heap.size, j, none⟩ = false := by
  unfold World.frozen?; rw [heap_alloc_new w _]; simp
theorem fro_n1 {w : World} {o : Obj} {cs : Array Value} {T : TypeId} (j : Nat) : ((w.alloc o).alloc (.cells cs T)).frozen? ⟨w.heap.size + 1, j, none⟩ = false := by
  have h := fro_n0 (w := w.alloc o) (cs := cs) (T := T) j
  rw [show (w.alloc o).heap.size = w.heap.size + 1 from by simp] at h
  exact h
theorem fro_n2 {w : World} {o o' : Obj} {cs : Array Value} {T : TypeId} (j : Nat) : (((w.alloc o).alloc o').alloc (.cells cs T)).frozen? ⟨w.heap.size + 1 + 1, j, none⟩ = false := by
  have h := fro_n1 (w := w.alloc o) (o := o') (cs := cs) (T := T) j
  rw [show (w.alloc o).heap.size = w.heap.size + 1 from by simp] at h
  exact h
theorem bfro {w w1 : World} {b j : Nat} (h : Below w.heap.size w w1) (hb : b < w.heap.size) (hf : w.frozen? ⟨b, j, none⟩ = false) : w1.frozen? ⟨b, j, none⟩ = false :=
  (h.frozen (p := ⟨b, j, none⟩) hb).trans hf
theorem ret_bool {a b : Bool} (h : a = b) : Ending.returned (.bool a) = .returned (.bool b) := by rw [h]
theorem ret_int {k : IntKind} {a b : Int} (h : a = b) : Ending.returned (.int k a) = .returned (.int k b) := by rw [h]
theorem ret_str {a b : ByteArray} (h : a = b) : Ending.returned (.string a) = .returned (.string b) := by rw [h]

theorem run_make_rowN {P : Program} (t e : TypeId) (i : TypeInfo) (z : Value) (ht : P.underlying t = some (.slice e)) (hi : P.info? e = some i) (hz : i.zero = some z)
    (kl kc : IntKind) (n c : Nat) (hnc : n ≤ c) (hbytes : i.bytes * c ≤ 281474976710656) (h63 : c ≤ 9223372036854775807) (w : World) :
    (Instr.makeSlice t (.int kl (n : Int)) (.int kc (c : Int))).run P w = .ok (.slice (some ⟨w.heap.size, 0, none⟩) n c) (w.alloc (.cells (madeCells z.cells (c * i.size)) e)) := by
  have hb : (i.bytes : Int) * (c : Int) ≤ 281474976710656 := by
    have h : ((i.bytes * c : Nat) : Int) ≤ 281474976710656 := by omega
    rwa [Int.natCast_mul] at h
  have hr := run_make (P := P) w t e i z ht hi hz kl kc n c (by omega) (by omega) hb (by omega)
  simp only [Int.toNat_natCast] at hr
  exact hr
end Go.Proofs.Ytghgjpcibdfbmaa
namespace Go.Proofs.Ytghgjpcibdfbmaa
open Go.RowKit
set_option linter.unusedVariables false
set_option linter.unusedSimpArgs false

inductive Ty where
  | mk (kind : Int) (kids : List Ty)

def Ty.kind : Ty → Int | .mk k _ => k
def Ty.kids : Ty → List Ty | .mk _ ts => ts

mutual
def Ty.row : Ty → List C
  | .mk k ts => [.int k, .sl (Ty.rows ts)]
def Ty.rows : List Ty → List (List C)
  | [] => []
  | t :: ts => t.row :: Ty.rows ts
end
theorem Ty.rows_eq (ts : List Ty) : Ty.rows ts = ts.map Ty.row := by
  induction ts with
  | nil => rfl
  | cons t ts ih => unfold Ty.rows; rw [ih]; rfl
theorem Ty.rows_length (ts : List Ty) : (Ty.rows ts).length = ts.length := by rw [Ty.rows_eq]; simp
theorem Ty.row_length : ∀ t : Ty, t.row.length = 2 | .mk _ _ => by unfold Ty.row; rfl

/-- A slice of types. -/
def TysRep (F : Nat → Prop) (w : World) (ts : List Ty) (y : Value) : Prop := CRep F w (.sl (Ty.rows ts)) y
/-- A type by value. -/
def TyRep (F : Nat → Prop) (w : World) (t : Ty) (y : Value) : Prop := ∃ s, y = .agg #[.int .i64 t.kind, s] ∧ TysRep F w t.kids s

theorem TysRep.move {F G : Nat → Prop} {w w' : World} {ts : List Ty} {y : Value} (h : TysRep F w ts y) (k : Keeps F G w w') : TysRep G w' ts y := CRep.move k _ _ h
theorem TyRep.move {F G : Nat → Prop} {w w' : World} {t : Ty} {y : Value} (h : TyRep F w t y) (k : Keeps F G w w') : TyRep G w' t y :=
  let ⟨s, h1, h2⟩ := h; ⟨s, h1, h2.move k⟩
theorem TyRep.below {F : Nat → Prop} {w w' : World} {t : Ty} {y : Value} (h : TyRep F w t y) (k : Below w.heap.size w w') : TyRep F w' t y := h.move (.below k)
theorem TysRep.below {F : Nat → Prop} {w w' : World} {t : List Ty} {y : Value} (h : TysRep F w t y) (k : Below w.heap.size w w') : TysRep F w' t y := h.move (.below k)

theorem TysRep.open {F : Nat → Prop} {w : World} {ts : List Ty} {y : Value} (h : TysRep F w ts y) :
    ∃ (a : Option Addr) (cap : Nat), y = .slice a ts.length cap ∧ ts.length ≤ cap ∧ cap ≤ maxLen ∧
      ∀ i (h : i < ts.length), ∃ b off k c m q, a = some ⟨b, off, none⟩ ∧ w.cell? ⟨b, off + i * 2, none⟩ = some (.int .i64 k) ∧ w.cell? ⟨b, off + i * 2 + 1, none⟩ = some (.slice c m q) ∧ TyRep F w ts[i] (.agg #[.int .i64 k, .slice c m q]) := by
  obtain ⟨a, cap, h1, h2, h3, h4⟩ := CRep.rows h
  rw [Ty.rows_length] at h1 h2
  refine ⟨a, cap, h1, h2, h3, fun i hi => ?_⟩
  rcases h4 with h4 | ⟨b, off, ha, hF, hl, hr⟩
  · rw [← Ty.rows_length, h4] at hi; exact absurd hi (Nat.not_lt_zero _)
  · have hc := hr.get (m := 2) (fun r hr => by rw [Ty.rows_eq] at hr; obtain ⟨t, _, rfl⟩ := List.mem_map.1 hr; exact t.row_length) i (by rw [Ty.rows_length]; exact hi)
    have he : (Ty.rows ts)[i]'(by rw [Ty.rows_length]; exact hi) = ts[i].row := by simp [Ty.rows_eq]
    rw [he] at hc
    obtain ⟨k, ks, ht⟩ : ∃ k ks, ts[i] = Ty.mk k ks := ⟨ts[i].kind, ts[i].kids, by cases ts[i]; rfl⟩
    rw [ht] at hc ⊢
    unfold Ty.row CellsAt at hc
    obtain ⟨⟨y0, hy0, hc0⟩, hc⟩ := hc
    unfold CellsAt at hc
    obtain ⟨⟨y1, hy1, hc1⟩, _⟩ := hc
    rw [CRep.int_eq hc0] at hy0
    obtain ⟨c, q, rfl, _⟩ := CRep.rows hc1
    exact ⟨b, off, k, c, _, q, ha, hy0, hy1, _, rfl, hc1⟩
theorem TyRep.open {F : Nat → Prop} {w : World} {t : Ty} {y : Value} (h : TyRep F w t y) :
    ∃ (a : Option Addr) (cap : Nat), y = .agg #[.int .i64 t.kind, .slice a t.kids.length cap] ∧ t.kids.length ≤ cap ∧ cap ≤ maxLen ∧ TysRep F w t.kids (.slice a t.kids.length cap) := by
  obtain ⟨s, rfl, hs⟩ := h
  obtain ⟨a, cap, rfl, h2, h3, _⟩ := hs.open
  exact ⟨a, cap, rfl, h2, h3, hs⟩
theorem TyRep.shape {F : Nat → Prop} {w : World} {t : Ty} {y : Value} (h : TyRep F w t y) : ∃ k a n q, y = .agg #[.int .i64 k, .slice a n q] := by
  obtain ⟨a, q, rfl, _⟩ := h.open
  exact ⟨_, a, _, q, rfl⟩
theorem TysRep.shape {F : Nat → Prop} {w : World} {t : List Ty} {y : Value} (h : TysRep F w t y) : ∃ a n q, y = .slice a n q := by
  obtain ⟨a, q, rfl, _⟩ := h.open
  exact ⟨a, _, q, rfl⟩
theorem Ty.kid_lt {t : Ty} {x : Ty} (h : x ∈ t.kids) : SizeOf.sizeOf x < SizeOf.sizeOf t := by
  cases t with
  | mk k ts => have := List.sizeOf_lt_of_mem h; simp only [Ty.kids] at h this; simp; omega

mutual
/-- How many types lie below a type. -/
def Ty.cnt : Ty → Nat
  | .mk _ ts => ts.length + Ty.cnts ts
def Ty.cnts : List Ty → Nat
  | [] => 0
  | t :: ts => t.cnt + Ty.cnts ts
end
theorem Ty.cnts_take_succ : ∀ (ts : List Ty) (j : Nat) (h : j < ts.length), Ty.cnts (ts.take (j + 1)) = Ty.cnts (ts.take j) + ts[j].cnt
  | [], _, h => absurd h (Nat.not_lt_zero _)
  | t :: ts, 0, _ => by simp [Ty.cnts]
  | t :: ts, j + 1, h => by
    have := Ty.cnts_take_succ ts j (by simpa using h)
    simp only [List.take_succ_cons, Ty.cnts, List.getElem_cons_succ]
    omega
theorem Ty.cnts_take_le : ∀ (ts : List Ty) (j : Nat), Ty.cnts (ts.take j) ≤ Ty.cnts ts
  | [], _ => by simp
  | t :: ts, 0 => by simp [Ty.cnts]
  | t :: ts, j + 1 => by
    have := Ty.cnts_take_le ts j
    simp only [List.take_succ_cons, Ty.cnts]
    omega
theorem Ty.cnt_mem : ∀ {ts : List Ty} {t : Ty}, t ∈ ts → t.cnt ≤ Ty.cnts ts
  | u :: ts, t, h => by
    rcases List.mem_cons.1 h with rfl | h
    · simp only [Ty.cnts]; omega
    · have := Ty.cnt_mem h; simp only [Ty.cnts]; omega
theorem Ty.cnt_kid {t x : Ty} (h : x ∈ t.kids) : x.cnt + t.kids.length ≤ t.cnt := by
  cases t with
  | mk k ts => have h2 : x ∈ ts := h; have := Ty.cnt_mem h2; simp only [Ty.kids, Ty.cnt]; omega
theorem TysRep.at {F : Nat → Prop} {w wr : World} {ts : List Ty} {a : Option Addr} {n cap : Nat} (h : TysRep F w ts (.slice a n cap)) (hb : Below w.heap.size w wr) {i : Nat} (hi : i < ts.length) :
    ∃ b off k c m q, a = some ⟨b, off, none⟩ ∧ b < wr.heap.size ∧ wr.cell? ⟨b, off + i * 2, none⟩ = some (.int .i64 k) ∧ wr.cell? ⟨b, off + i * 2 + 1, none⟩ = some (.slice c m q) ∧ TyRep F wr ts[i] (.agg #[.int .i64 k, .slice c m q]) := by
  obtain ⟨a', cap', he, _, _, hg⟩ := h.open
  simp only [Value.slice.injEq] at he
  obtain ⟨rfl, _, rfl⟩ := he
  obtain ⟨b, off, k, c, m, q, ha, h0, h1, ht⟩ := hg i hi
  have e0 := (hb.cell (p := ⟨b, off + i * 2, none⟩) (World.block_lt_of_cell? w _ h0)).trans h0
  exact ⟨b, off, k, c, m, q, ha, World.block_lt_of_cell? wr _ e0, e0, (hb.cell (p := ⟨b, off + i * 2 + 1, none⟩) (World.block_lt_of_cell? w _ h1)).trans h1, ht.below hb⟩
end Go.Proofs.Ytghgjpcibdfbmaa
namespace Go.Proofs.Ytghgjpcibdfbmaa
open Go.RowKit
set_option linter.unusedVariables false
set_option linter.unusedSimpArgs false

mutual
def COwn (w : World) : C → Value → List Nat → Prop
  | .int n, y, fp => y = .int .i64 n ∧ fp = []
  | .str s, y, fp => y = .string s ∧ s.size ≤ maxLen ∧ fp = []
  | .sl rows, y, fp => ∃ (a : Option Addr) (cap : Nat), y = .slice a rows.length cap ∧ rows.length ≤ cap ∧ cap ≤ maxLen ∧
      ((rows = [] ∧ fp = []) ∨ ∃ b fps cs T, a = some ⟨b, 0, none⟩ ∧ fp = b :: fps ∧ w.heap[b]? = some (.cells cs T (0, 0)) ∧ RowsOwn w b 0 rows fps)
def RowsOwn (w : World) (b : Nat) : Nat → List (List C) → List Nat → Prop
  | _, [], fp => fp = []
  | off, r :: rs, fp => ∃ f1 f2, fp = f1 ++ f2 ∧ CellsOwn w b off r f1 ∧ RowsOwn w b (off + r.length) rs f2
def CellsOwn (w : World) (b : Nat) : Nat → List C → List Nat → Prop
  | _, [], fp => fp = []
  | off, c :: cs, fp => ∃ y f1 f2, fp = f1 ++ f2 ∧ w.cell? ⟨b, off, none⟩ = some y ∧ COwn w c y f1 ∧ CellsOwn w b (off + 1) cs f2
end

mutual
theorem COwn.move {w w' : World} : ∀ (c : C) (y : Value) (fp : List Nat), (∀ b ∈ fp, w'.heap[b]? = w.heap[b]?) → COwn w c y fp → COwn w' c y fp
  | .int n, y, fp, _, h => by unfold COwn at h ⊢; exact h
  | .str s, y, fp, _, h => by unfold COwn at h ⊢; exact h
  | .sl rows, y, fp, k, h => by
    unfold COwn at h ⊢
    obtain ⟨a, cap, h1, h2, h3, h4⟩ := h
    refine ⟨a, cap, h1, h2, h3, ?_⟩
    rcases h4 with h4 | ⟨b, fps, cs, T, ha, rfl, hb, hr⟩
    · exact .inl h4
    · refine .inr ⟨b, fps, cs, T, ha, rfl, (k b (List.mem_cons_self ..)).trans hb, RowsOwn.move 0 rows fps (fun x hx => k x (List.mem_cons_of_mem _ hx)) (fun o => ?_) hr⟩
      intro _ _
      exact World.cell?_of_block (a := ⟨b, o, none⟩) (k b (List.mem_cons_self ..))
theorem RowsOwn.move {w w' : World} {b : Nat} : ∀ (off : Nat) (rows : List (List C)) (fp : List Nat), (∀ x ∈ fp, w'.heap[x]? = w.heap[x]?) →
    (∀ o, off ≤ o → o < off + rows.flatten.length → w'.cell? ⟨b, o, none⟩ = w.cell? ⟨b, o, none⟩) → RowsOwn w b off rows fp → RowsOwn w' b off rows fp
  | _, [], _, _, _, h => by unfold RowsOwn at h ⊢; exact h
  | off, r :: rs, fp, k, kc, h => by
    unfold RowsOwn at h ⊢
    obtain ⟨f1, f2, rfl, h1, h2⟩ := h
    simp only [List.flatten_cons, List.length_append] at kc
    exact ⟨f1, f2, rfl, CellsOwn.move off r f1 (fun x hx => k x (List.mem_append_left _ hx)) (fun o a c => kc o a (by omega)) h1,
      RowsOwn.move _ rs f2 (fun x hx => k x (List.mem_append_right _ hx)) (fun o a c => kc o (by omega) (by omega)) h2⟩
theorem CellsOwn.move {w w' : World} {b : Nat} : ∀ (off : Nat) (r : List C) (fp : List Nat), (∀ x ∈ fp, w'.heap[x]? = w.heap[x]?) →
    (∀ o, off ≤ o → o < off + r.length → w'.cell? ⟨b, o, none⟩ = w.cell? ⟨b, o, none⟩) → CellsOwn w b off r fp → CellsOwn w' b off r fp
  | _, [], _, _, _, h => by unfold CellsOwn at h ⊢; exact h
  | off, c :: cs, fp, k, kc, h => by
    unfold CellsOwn at h ⊢
    obtain ⟨y, f1, f2, rfl, hy, h1, h2⟩ := h
    simp only [List.length_cons] at kc
    exact ⟨y, f1, f2, rfl, (kc off (by omega) (by omega)).trans hy, COwn.move c y f1 (fun x hx => k x (List.mem_append_left _ hx)) h1,
      CellsOwn.move _ cs f2 (fun x hx => k x (List.mem_append_right _ hx)) (fun o a c => kc o (by omega) (by omega)) h2⟩
end

mutual
theorem COwn.lt {w : World} : ∀ (c : C) (y : Value) (fp : List Nat), COwn w c y fp → ∀ b ∈ fp, b < w.heap.size
  | .int n, y, fp, h => by unfold COwn at h; obtain ⟨_, rfl⟩ := h; simp
  | .str s, y, fp, h => by unfold COwn at h; obtain ⟨_, _, rfl⟩ := h; simp
  | .sl rows, y, fp, h => by
    unfold COwn at h
    obtain ⟨a, cap, _, _, _, ⟨_, rfl⟩ | ⟨b, fps, cs, T, _, rfl, hb, hr⟩⟩ := h
    · simp
    · intro x hx
      rcases List.mem_cons.1 hx with rfl | hx
      · exact (Array.getElem?_eq_some_iff.1 hb).1
      · exact RowsOwn.lt 0 rows fps hr x hx
theorem RowsOwn.lt {w : World} {b : Nat} : ∀ (off : Nat) (rows : List (List C)) (fp : List Nat), RowsOwn w b off rows fp → ∀ x ∈ fp, x < w.heap.size
  | _, [], _, h => by unfold RowsOwn at h; subst h; simp
  | off, r :: rs, fp, h => by
    unfold RowsOwn at h
    obtain ⟨f1, f2, rfl, h1, h2⟩ := h
    intro x hx
    rcases List.mem_append.1 hx with hx | hx
    · exact CellsOwn.lt off r f1 h1 x hx
    · exact RowsOwn.lt _ rs f2 h2 x hx
theorem CellsOwn.lt {w : World} {b : Nat} : ∀ (off : Nat) (r : List C) (fp : List Nat), CellsOwn w b off r fp → ∀ x ∈ fp, x < w.heap.size
  | _, [], _, h => by unfold CellsOwn at h; subst h; simp
  | off, c :: cs, fp, h => by
    unfold CellsOwn at h
    obtain ⟨y, f1, f2, rfl, hy, h1, h2⟩ := h
    intro x hx
    rcases List.mem_append.1 hx with hx | hx
    · exact COwn.lt c y f1 h1 x hx
    · exact CellsOwn.lt _ cs f2 h2 x hx
end

mutual
theorem COwn.rep {w : World} {F : Nat → Prop} : ∀ (c : C) (y : Value) (fp : List Nat), (∀ b ∈ fp, F b) → COwn w c y fp → CRep F w c y
  | .int n, y, fp, _, h => by unfold COwn at h; unfold CRep; exact h.1
  | .str s, y, fp, _, h => by unfold COwn at h; unfold CRep; exact ⟨h.1, h.2.1⟩
  | .sl rows, y, fp, k, h => by
    unfold COwn at h; unfold CRep
    obtain ⟨a, cap, h1, h2, h3, h4⟩ := h
    refine ⟨a, cap, h1, h2, h3, ?_⟩
    rcases h4 with ⟨h4, _⟩ | ⟨b, fps, cs, T, ha, rfl, hb, hr⟩
    · exact .inl h4
    · exact .inr ⟨b, 0, ha, k b (List.mem_cons_self ..), (Array.getElem?_eq_some_iff.1 hb).1, RowsOwn.rep 0 rows fps (fun x hx => k x (List.mem_cons_of_mem _ hx)) hr⟩
theorem RowsOwn.rep {w : World} {F : Nat → Prop} {b : Nat} : ∀ (off : Nat) (rows : List (List C)) (fp : List Nat), (∀ x ∈ fp, F x) → RowsOwn w b off rows fp → RowsAt F w b off rows
  | _, [], _, _, _ => by unfold RowsAt; trivial
  | off, r :: rs, fp, k, h => by
    unfold RowsOwn at h; unfold RowsAt
    obtain ⟨f1, f2, rfl, h1, h2⟩ := h
    exact ⟨CellsOwn.rep off r f1 (fun x hx => k x (List.mem_append_left _ hx)) h1, RowsOwn.rep _ rs f2 (fun x hx => k x (List.mem_append_right _ hx)) h2⟩
theorem CellsOwn.rep {w : World} {F : Nat → Prop} {b : Nat} : ∀ (off : Nat) (r : List C) (fp : List Nat), (∀ x ∈ fp, F x) → CellsOwn w b off r fp → CellsAt F w b off r
  | _, [], _, _, _ => by unfold CellsAt; trivial
  | off, c :: cs, fp, k, h => by
    unfold CellsOwn at h; unfold CellsAt
    obtain ⟨y, f1, f2, rfl, hy, h1, h2⟩ := h
    exact ⟨⟨y, hy, COwn.rep c y f1 (fun x hx => k x (List.mem_append_left _ hx)) h1⟩, CellsOwn.rep _ cs f2 (fun x hx => k x (List.mem_append_right _ hx)) h2⟩
end

theorem RowsOwn.snoc {w : World} {b : Nat} : ∀ {off : Nat} {rows : List (List C)} {fp f : List Nat} {r : List C}, RowsOwn w b off rows fp → CellsOwn w b (off + rows.flatten.length) r f → RowsOwn w b off (rows ++ [r]) (fp ++ f)
  | off, [], fp, f, r, h, hr => by
    unfold RowsOwn at h; subst h
    simp only [List.nil_append]
    unfold RowsOwn
    exact ⟨f, [], by simp, by simpa using hr, by unfold RowsOwn; rfl⟩
  | off, r' :: rs, fp, f, r, h, hr => by
    unfold RowsOwn at h
    obtain ⟨f1, f2, rfl, h1, h2⟩ := h
    have := RowsOwn.snoc (f := f) (r := r) h2 (by rw [List.flatten_cons, List.length_append] at hr; rw [Nat.add_assoc]; exact hr)
    simp only [List.cons_append]
    unfold RowsOwn
    exact ⟨f1, f2 ++ f, by simp, h1, this⟩

/-- A slice of rows of one's own in a block that was made for it: from its rows. -/
theorem COwn.sl_mk {w : World} {b n cap : Nat} {rows : List (List C)} {fps : List Nat} {cs : Array Value} {T : TypeId} (hb : w.heap[b]? = some (.cells cs T (0, 0))) (hn : rows.length = n) (hc : n ≤ cap) (hm : cap ≤ maxLen)
    (h : RowsOwn w b 0 rows fps) : ∃ fp, COwn w (.sl rows) (.slice (some ⟨b, 0, none⟩) n cap) fp ∧ (∀ x ∈ fp, x = b ∨ x ∈ fps) ∧ (fps.Nodup → b ∉ fps → fp.Nodup) := by
  subst hn
  refine ⟨b :: fps, ?_, fun x hx => List.mem_cons.1 hx, fun h1 h2 => List.nodup_cons.2 ⟨h2, h1⟩⟩
  unfold COwn
  exact ⟨_, cap, rfl, hc, hm, .inr ⟨b, fps, cs, T, rfl, rfl, hb, h⟩⟩
theorem COwn.sl_nil {w : World} {a : Option Addr} {cap : Nat} (hm : cap ≤ maxLen) : COwn w (.sl []) (.slice a 0 cap) [] := by
  unfold COwn
  exact ⟨a, cap, rfl, Nat.zero_le _, hm, .inl ⟨rfl, rfl⟩⟩

/-- A row of values stored into a block from an offset on. -/
def setRow (w : World) (b : Nat) : Nat → List Value → World
  | _, [] => w
  | off, v :: vs => setRow (w.setCell ⟨b, off, none⟩ v) b (off + 1) vs
theorem setRow_heap_other : ∀ (vs : List Value) (w : World) (b off k : Nat), k ≠ b → (setRow w b off vs).heap[k]? = w.heap[k]?
  | [], _, _, _, _, _ => rfl
  | v :: vs, w, b, off, k, h => (setRow_heap_other vs _ b _ k h).trans (Below.heap_setCell w ⟨b, off, none⟩ v k h)
theorem heap_setCell_same {w : World} {b off : Nat} {v : Value} {cs : Array Value} {T : TypeId} {fr : Nat × Nat} (h : w.heap[b]? = some (.cells cs T fr)) :
    (w.setCell ⟨b, off, none⟩ v).heap[b]? = some (.cells (cs.setIfInBounds off v) T fr) := by
  simp [World.setCell, Array.getElem?_modify, h]
theorem setRow_block : ∀ (vs : List Value) (w : World) (b off : Nat) (cs : Array Value) (T : TypeId) (fr : Nat × Nat), w.heap[b]? = some (.cells cs T fr) →
    ∃ cs', (setRow w b off vs).heap[b]? = some (.cells cs' T fr) ∧ cs'.size = cs.size ∧ (∀ o, o < off ∨ off + vs.length ≤ o → cs'[o]? = cs[o]?) ∧ (∀ i, i < vs.length → off + i < cs.size → cs'[off + i]? = vs[i]?)
  | [], w, b, off, cs, T, fr, h => ⟨cs, h, rfl, fun _ _ => rfl, fun _ hi => absurd hi (Nat.not_lt_zero _)⟩
  | v :: vs, w, b, off, cs, T, fr, h => by
    obtain ⟨cs', h1, h2, h3, h4⟩ := setRow_block vs (w.setCell ⟨b, off, none⟩ v) b (off + 1) _ T fr (heap_setCell_same h)
    rw [Array.size_setIfInBounds] at h2 h4
    refine ⟨cs', h1, h2, fun o ho => ?_, fun i hi hl => ?_⟩
    · rw [h3 o (by rcases ho with ho | ho; exact .inl (by omega); exact .inr (by simp only [List.length_cons] at ho; omega))]
      rw [Array.getElem?_setIfInBounds_ne (by rcases ho with ho | ho; omega; simp only [List.length_cons] at ho; omega)]
    · cases i with
      | zero =>
        rw [h3 _ (.inl (by omega))]
        simp only [Nat.add_zero, List.getElem?_cons_zero]
        rw [Array.getElem?_setIfInBounds_self]
        simp at hl
        simp [hl]
      | succ i =>
        have := h4 i (by simpa using hi) (by omega)
        rw [show off + (i + 1) = off + 1 + i from by omega, this]
        simp
theorem setRow_size : ∀ (vs : List Value) (w : World) (b off : Nat), (setRow w b off vs).heap.size = w.heap.size
  | [], _, _, _ => rfl
  | v :: vs, w, b, off => by
    unfold setRow
    rw [setRow_size vs]
    simp [World.setCell]
theorem setRow_below : ∀ (vs : List Value) (w w0 : World) (B b off : Nat), B ≤ b → Below B w0 w → Below B w0 (setRow w b off vs)
  | [], _, _, _, _, _, _, h => h
  | v :: vs, w, w0, B, b, off, hb, h => setRow_below vs _ w0 B b _ hb (h.setCell (p := ⟨b, off, none⟩) hb v)

/-- A struct by value whose slices are one's own. -/
def SOwn (w : World) : List C → List Value → List Nat → Prop
  | [], ys, fp => ys = [] ∧ fp = []
  | c :: cs, ys, fp => ∃ z zs f1 f2, ys = z :: zs ∧ fp = f1 ++ f2 ∧ COwn w c z f1 ∧ SOwn w cs zs f2
theorem SOwn.len {w : World} : ∀ (r : List C) (ys : List Value) (fp : List Nat), SOwn w r ys fp → ys.length = r.length
  | [], _, _, ⟨h, _⟩ => by rw [h]; rfl
  | c :: cs, _, _, ⟨z, zs, f1, f2, h, _, _, h2⟩ => by rw [h, List.length_cons, List.length_cons, SOwn.len cs zs f2 h2]
theorem SOwn.lt {w : World} : ∀ (r : List C) (ys : List Value) (fp : List Nat), SOwn w r ys fp → ∀ b ∈ fp, b < w.heap.size
  | [], _, _, ⟨_, h⟩ => by subst h; simp
  | c :: cs, _, _, ⟨z, zs, f1, f2, _, h, h1, h2⟩ => by
    subst h
    intro b hb
    rcases List.mem_append.1 hb with hb | hb
    · exact COwn.lt _ _ _ h1 b hb
    · exact SOwn.lt cs zs f2 h2 b hb
theorem SOwn.move {w w' : World} : ∀ (r : List C) (ys : List Value) (fp : List Nat), (∀ b ∈ fp, w'.heap[b]? = w.heap[b]?) → SOwn w r ys fp → SOwn w' r ys fp
  | [], _, _, _, h => h
  | c :: cs, _, _, k, ⟨z, zs, f1, f2, e, h, h1, h2⟩ => by
    subst h
    exact ⟨z, zs, f1, f2, e, rfl, COwn.move _ _ _ (fun b hb => k b (List.mem_append_left _ hb)) h1, SOwn.move cs zs f2 (fun b hb => k b (List.mem_append_right _ hb)) h2⟩
theorem SOwn.cells {w : World} {b : Nat} : ∀ (r : List C) (ys : List Value) (fp : List Nat) (off : Nat), SOwn w r ys fp → (∀ i, i < ys.length → w.cell? ⟨b, off + i, none⟩ = ys[i]?) → CellsOwn w b off r fp
  | [], _, _, _, ⟨_, h⟩, _ => by subst h; unfold CellsOwn; rfl
  | c :: cs, _, _, off, ⟨z, zs, f1, f2, e, h, h1, h2⟩, k => by
    subst h e
    unfold CellsOwn
    refine ⟨z, f1, f2, rfl, by simpa using k 0 (by simp), h1, SOwn.cells cs zs f2 _ h2 fun i hi => ?_⟩
    have := k (i + 1) (by simpa using hi)
    rw [show off + 1 + i = off + (i + 1) from by omega]
    simpa using this

/-- A block of one's own that is being filled, row by row; N: its cells. -/
def RowsNew (B g N : Nat) (T : TypeId) (w : World) (rows : List (List C)) : Prop :=
  ∃ fps cs, w.heap[g]? = some (.cells cs T (0, 0)) ∧ cs.size = N ∧ RowsOwn w g 0 rows fps ∧ fps.Nodup ∧ g ∉ fps ∧ B ≤ g ∧ ∀ x ∈ fps, B ≤ x
theorem RowsNew.lt {B g N : Nat} {T : TypeId} {w : World} {rows : List (List C)} (h : RowsNew B g N T w rows) : g < w.heap.size := by
  obtain ⟨fps, cs, hg, _⟩ := h
  exact (Array.getElem?_eq_some_iff.1 hg).1
theorem RowsNew.below {B g N : Nat} {T : TypeId} {w w' : World} {rows : List (List C)} (h : RowsNew B g N T w rows) (k : Below w.heap.size w w') : RowsNew B g N T w' rows := by
  obtain ⟨fps, cs, hg, hN, hr, hd, hn, hB, hx⟩ := h
  exact ⟨fps, cs, (k.block g (Array.getElem?_eq_some_iff.1 hg).1).trans hg, hN,
    hr.move _ _ _ (fun x hx => k.block x (hr.lt _ _ _ x hx)) (fun o _ _ => World.cell?_of_block (a := ⟨g, o, none⟩) (k.block g (Array.getElem?_eq_some_iff.1 hg).1)), hd, hn, hB, hx⟩
theorem RowsNew.made {N : Nat} {T : TypeId} {w : World} {cs : Array Value} (h : cs.size = N) : RowsNew w.heap.size w.heap.size N T (w.alloc (.cells cs T)) [] :=
  ⟨[], cs, heap_alloc_new w _, h, by unfold RowsOwn; rfl, List.nodup_nil, by simp, Nat.le_refl _, by simp⟩
theorem RowsNew.cell {B g N : Nat} {T : TypeId} {w : World} {rows : List (List C)} (h : RowsNew B g N T w rows) (o : Nat) (ho : o < N) : (∃ v, w.cell? ⟨g, o, none⟩ = some v) ∧ w.frozen? ⟨g, o, none⟩ = false := by
  obtain ⟨fps, cs, hg, hN, _⟩ := h
  refine ⟨⟨cs[o]'(by omega), by simp [World.cell?, hg, hN, ho]⟩, by simp [World.frozen?, hg]⟩
/-- What a call has made is stored behind the rows that are there. -/
theorem RowsNew.store {B g N o : Nat} {T : TypeId} {w w1 : World} {rows : List (List C)} {r : List C} {vs : List Value} {fpv : List Nat} (h : RowsNew B g N T w rows) (hb : Below w.heap.size w w1)
    (hv : SOwn w1 r vs fpv) (hd : fpv.Nodup) (hx : ∀ x ∈ fpv, w.heap.size ≤ x) (hBw : B ≤ w.heap.size) (ho : rows.flatten.length = o) (room : o + r.length ≤ N) : RowsNew B g N T (setRow w1 g o vs) (rows ++ [r]) := by
  have hlt := h.lt
  obtain ⟨fps, cs, hg0, hN, hr0, hd1, hn, hB, hx1⟩ := h
  have hg := (hb.block g hlt).trans hg0
  have hr := hr0.move _ _ _ (fun x hx => hb.block x (RowsOwn.lt _ _ _ hr0 x hx)) (fun o _ _ => World.cell?_of_block (a := ⟨g, o, none⟩) (hb.block g hlt))
  have hfl : ∀ x ∈ fps, x < w.heap.size := fun x hx => RowsOwn.lt _ _ _ hr0 x hx
  obtain ⟨cs', h1, h2, h3, h4⟩ := setRow_block vs w1 g o cs T (0, 0) hg
  have hlen := SOwn.len _ _ _ hv
  have hgn : ∀ x ∈ fpv, x ≠ g := fun x hx' e => by have := hx x hx'; omega
  refine ⟨fps ++ fpv, cs', h1, by omega, ?_, ?_, ?_, hB, ?_⟩
  · refine RowsOwn.snoc (hr.move _ _ _ (fun x hx' => setRow_heap_other vs w1 g o x (fun e => hn (e ▸ hx'))) (fun o' _ ho' => ?_)) ?_
    · rw [ho] at ho'
      simp only [World.cell?, h1, hg]
      simp
      exact h3 o' (.inl (by omega))
    · rw [ho]
      refine SOwn.cells _ _ _ _ (hv.move _ _ _ fun x hx' => setRow_heap_other vs w1 g o x (hgn x hx')) fun i hi => ?_
      simp only [World.cell?, h1]
      simp
      exact h4 i hi (by omega)
  · exact List.nodup_append.2 ⟨hd1, hd, fun x hx1 y hy e => by have := hfl x hx1; have := hx y hy; omega⟩
  · intro hm
    rcases List.mem_append.1 hm with hm | hm
    · exact hn hm
    · exact hgn g hm rfl
  · intro x hm
    rcases List.mem_append.1 hm with hm | hm
    · exact hx1 x hm
    · exact Nat.le_trans hBw (hx x hm)

/-- The slice over a block that has been filled. -/
theorem RowsNew.slice {B g N n cap : Nat} {T : TypeId} {w : World} {rows : List (List C)} (h : RowsNew B g N T w rows) (hn : rows.length = n) (hc : n ≤ cap) (hm : cap ≤ maxLen) :
    ∃ fp, COwn w (.sl rows) (.slice (some ⟨g, 0, none⟩) n cap) fp ∧ fp.Nodup ∧ ∀ b ∈ fp, B ≤ b := by
  obtain ⟨fps, cs, hg, hN, hr, hd, hnn, hB, hx⟩ := h
  obtain ⟨fp, h1, h2, h3⟩ := COwn.sl_mk hg hn hc hm hr
  exact ⟨fp, h1, h3 hd hnn, fun b hb => by rcases h2 b hb with rfl | h; exact hB; exact hx b h⟩

/-- A type in memory of one's own, from block B on. -/
def TyOwn (w : World) (t : Ty) (y : Value) (fp : List Nat) : Prop := ∃ s, y = .agg #[.int .i64 t.kind, s] ∧ COwn w (.sl (Ty.rows t.kids)) s fp
def TysOwn (w : World) (ts : List Ty) (y : Value) (fp : List Nat) : Prop := COwn w (.sl (Ty.rows ts)) y fp
/-- New: of one's own, from block B on, no block twice. -/
def TyNew (B : Nat) (w : World) (t : Ty) (y : Value) : Prop := ∃ fp, TyOwn w t y fp ∧ fp.Nodup ∧ ∀ b ∈ fp, B ≤ b
def TysNew (B : Nat) (w : World) (ts : List Ty) (y : Value) : Prop := ∃ fp, TysOwn w ts y fp ∧ fp.Nodup ∧ ∀ b ∈ fp, B ≤ b

theorem TyOwn.shape {w : World} {t : Ty} {y : Value} {fp : List Nat} (h : TyOwn w t y fp) : ∃ k a n q, y = .agg #[.int .i64 k, .slice a n q] ∧ k = t.kind ∧ TysOwn w t.kids (.slice a n q) fp := by
  obtain ⟨s, rfl, h⟩ := h
  have h' := h
  unfold COwn at h'
  obtain ⟨a, q, rfl, _⟩ := h'
  exact ⟨_, a, _, q, rfl, rfl, h⟩

theorem TyOwn.below {w w' : World} {t : Ty} {y : Value} {fp : List Nat} (h : TyOwn w t y fp) (k : Below w.heap.size w w') : TyOwn w' t y fp :=
  let ⟨s, h1, h2⟩ := h; ⟨s, h1, h2.move _ _ _ fun b hb => k.block b (h2.lt _ _ _ b hb)⟩
theorem TyOwn.rep {w : World} {t : Ty} {y : Value} {fp : List Nat} (h : TyOwn w t y fp) : TyRep (· ∈ fp) w t y :=
  let ⟨s, h1, h2⟩ := h; ⟨s, h1, h2.rep _ _ _ fun _ hb => hb⟩
theorem TyNew.below {B : Nat} {w w' : World} {t : Ty} {y : Value} (h : TyNew B w t y) (k : Below w.heap.size w w') : TyNew B w' t y :=
  let ⟨fp, h1, h2, h3⟩ := h; ⟨fp, h1.below k, h2, h3⟩
theorem TyNew.rep {B : Nat} {w : World} {t : Ty} {y : Value} (h : TyNew B w t y) : TyRep (B ≤ ·) w t y :=
  let ⟨fp, h1, _, h3⟩ := h; h1.rep.move (.weaken fun b hb _ => h3 b hb)
theorem TysNew.rep {B : Nat} {w : World} {ts : List Ty} {y : Value} (h : TysNew B w ts y) : TysRep (B ≤ ·) w ts y :=
  let ⟨_, h1, _, h3⟩ := h; COwn.rep _ _ _ (fun b hb => h3 b hb) h1
theorem TysNew.below {B : Nat} {w w' : World} {ts : List Ty} {y : Value} (h : TysNew B w ts y) (k : Below w.heap.size w w') : TysNew B w' ts y :=
  let ⟨fp, h1, h2, h3⟩ := h; ⟨fp, COwn.move _ _ _ (fun b hb => k.block b (COwn.lt _ _ _ h1 b hb)) h1, h2, h3⟩
theorem TyNew.shape {B : Nat} {w : World} {t : Ty} {y : Value} (h : TyNew B w t y) : ∃ k a n q, y = .agg #[.int .i64 k, .slice a n q] := by
  obtain ⟨fp, ⟨s, rfl, h⟩, _⟩ := h
  unfold COwn at h
  obtain ⟨a, q, rfl, _⟩ := h
  exact ⟨_, a, _, q, rfl⟩
theorem TysNew.open_slice {B : Nat} {w : World} {ts : List Ty} {y : Value} (h : TysNew B w ts y) : ∃ a q, y = .slice a ts.length q := by
  obtain ⟨fp, h, _⟩ := h
  unfold TysOwn COwn at h
  obtain ⟨a, q, h, _⟩ := h
  rw [Ty.rows_length] at h
  exact ⟨a, q, h⟩
theorem TysNew.setCell {B : Nat} {w : World} {ts : List Ty} {y : Value} (h : TysNew B w ts y) {p : Addr} (hp : p.block < B) (v : Value) : TysNew B (w.setCell p v) ts y := by
  obtain ⟨fp, h1, h2, h3⟩ := h
  exact ⟨fp, COwn.move _ _ _ (fun b hb => Below.heap_setCell w p v b (by have := h3 b hb; omega)) h1, h2, h3⟩
theorem TysNew.ty {B : Nat} {w : World} {k : Int} {ts : List Ty} {y : Value} (h : TysNew B w ts y) : TyNew B w (.mk k ts) (.agg #[.int .i64 k, y]) := by
  obtain ⟨fp, h1, h2, h3⟩ := h
  exact ⟨fp, ⟨y, rfl, h1⟩, h2, h3⟩
theorem TyNew.setCell {B : Nat} {w : World} {t : Ty} {y : Value} (h : TyNew B w t y) {p : Addr} (hp : p.block < B) (v : Value) : TyNew B (w.setCell p v) t y := by
  obtain ⟨fp, ⟨s, hs, h1⟩, h2, h3⟩ := h
  exact ⟨fp, ⟨s, hs, COwn.move _ _ _ (fun b hb => Below.heap_setCell w p v b (by have := h3 b hb; omega)) h1⟩, h2, h3⟩
theorem TyNew.mono {B B' : Nat} {w : World} {t : Ty} {y : Value} (h : TyNew B w t y) (hB : B' ≤ B) : TyNew B' w t y :=
  let ⟨fp, h1, h2, h3⟩ := h; ⟨fp, h1, h2, fun b hb => Nat.le_trans hB (h3 b hb)⟩
theorem TysNew.mono {B B' : Nat} {w : World} {t : List Ty} {y : Value} (h : TysNew B w t y) (hB : B' ≤ B) : TysNew B' w t y :=
  let ⟨fp, h1, h2, h3⟩ := h; ⟨fp, h1, h2, fun b hb => Nat.le_trans hB (h3 b hb)⟩
theorem Ty.flatten_length (ts : List Ty) : (Ty.rows ts).flatten.length = ts.length * 2 := by
  induction ts with
  | nil => unfold Ty.rows; rfl
  | cons t ts ih => unfold Ty.rows; rw [List.flatten_cons, List.length_append, ih, t.row_length, List.length_cons]; omega
theorem TyOwn.cells {w : World} {t : Ty} {s : Value} {fp : List Nat} {k : Int} (h : TyOwn w t (.agg #[.int .i64 k, s]) fp) : SOwn w t.row [.int .i64 k, s] fp := by
  obtain ⟨s', he, h⟩ := h
  cases t with | mk k' ts =>
  simp only [Value.agg.injEq, Array.mk.injEq, List.cons.injEq, Value.int.injEq, true_and, and_true] at he
  obtain ⟨rfl, rfl⟩ := he
  unfold Ty.row
  exact ⟨_, _, [], fp, rfl, rfl, by unfold COwn; exact ⟨rfl, rfl⟩, _, _, fp, [], rfl, by simp, h, rfl, rfl⟩
theorem TyNew.open {B : Nat} {w : World} {t : Ty} {y : Value} (h : TyNew B w t y) : ∃ k c m q fp, y = .agg #[.int .i64 k, .slice c m q] ∧ k = t.kind ∧ m = t.kids.length ∧ SOwn w t.row [.int .i64 k, .slice c m q] fp ∧ fp.Nodup ∧ ∀ b ∈ fp, B ≤ b := by
  obtain ⟨fp, h1, h2, h3⟩ := h
  obtain ⟨s, rfl, h⟩ := h1
  have h' := h
  unfold COwn at h'
  obtain ⟨a, cap, rfl, _⟩ := h'
  exact ⟨_, a, _, cap, fp, rfl, rfl, Ty.rows_length _, TyOwn.cells ⟨_, rfl, h⟩, h2, h3⟩
end Go.Proofs.Ytghgjpcibdfbmaa
namespace Go.Proofs.Ytghgjpcibdfbmaa
open Go.RowKit

/-- What is left of a purse when c things are taken from it; -1: too little. -/
def szr (l : Int) (c : Nat) : Int := if (c : Int) ≤ l then l - c else -1

theorem szr_pos {l : Int} {c : Nat} (h : (c : Int) ≤ l) : szr l c = l - c := by unfold szr; rw [if_pos h]
theorem szr_neg {l : Int} {c : Nat} (h : ¬ (c : Int) ≤ l) : szr l c = -1 := by unfold szr; rw [if_neg h]
end Go.Proofs.Ytghgjpcibdfbmaa
namespace Go.Proofs.Ytghgjpcibdfbmaa
open Go.RowKit
set_option linter.unusedVariables false
set_option linter.unusedSimpArgs false

/-- Only the blocks of a list, and what is new, have turned. -/
structure Chg (fp : List Nat) (w w' : World) : Prop where
  os : w'.os = w.os
  tape : w'.tape = w.tape
  output : w'.output = w.output
  size : w.heap.size ≤ w'.heap.size
  block : ∀ k, k < w.heap.size → k ∉ fp → w'.heap[k]? = w.heap[k]?
theorem Chg.of_below {fp : List Nat} {w w' : World} (h : Below w.heap.size w w') : Chg fp w w' := ⟨h.os, h.tape, h.output, h.size, fun k hk _ => h.block k hk⟩
theorem Chg.refl (fp : List Nat) (w : World) : Chg fp w w := .of_below (Below.refl _ _)
theorem Chg.trans {fp : List Nat} {w w1 w2 : World} (h : Chg fp w w1) (k : Chg fp w1 w2) : Chg fp w w2 :=
  ⟨k.os.trans h.os, k.tape.trans h.tape, k.output.trans h.output, Nat.le_trans h.size k.size, fun b hb hn => (k.block b (Nat.lt_of_lt_of_le hb h.size) hn).trans (h.block b hb hn)⟩
theorem Chg.mono {fp fp' : List Nat} {w w' : World} (h : Chg fp w w') (hs : ∀ x ∈ fp, x ∈ fp') : Chg fp' w w' :=
  ⟨h.os, h.tape, h.output, h.size, fun b hb hn => h.block b hb (fun hx => hn (hs b hx))⟩
theorem Chg.setCell {fp : List Nat} {w w' : World} (h : Chg fp w w') {p : Addr} (hp : p.block ∈ fp) (v : Value) : Chg fp w (w'.setCell p v) :=
  ⟨h.os, h.tape, h.output, by simpa [World.setCell] using h.size, fun b hb hn => (Below.heap_setCell w' p v b (fun e => hn (e ▸ hp))).trans (h.block b hb hn)⟩
theorem Chg.below {fp : List Nat} {w w' : World} {B : Nat} (h : Chg fp w w') (hB : ∀ x ∈ fp, B ≤ x) (hs : B ≤ w.heap.size) : Below B w w' :=
  ⟨h.os, h.tape, h.output, h.size, fun k hk => h.block k (by omega) (fun hx => by have := hB k hx; omega)⟩
theorem Chg.cell {fp : List Nat} {w w' : World} {a : Addr} {v : Value} (h : Chg fp w w') (hn : a.block ∉ fp) (hc : w.cell? a = some v) : w'.cell? a = some v :=
  (World.cell?_of_block (h.block a.block (World.block_lt_of_cell? _ _ hc) hn)).trans hc
theorem Chg.keeps {fp : List Nat} {w w' : World} {F : Nat → Prop} (h : Chg fp w w') (hn : ∀ b, F b → b ∉ fp) : Keeps F F w w' :=
  ⟨h.size, fun _ h _ => h, fun b hF hl => h.block b hl (hn b hF)⟩
theorem TyRep.chg {fp : List Nat} {w w' : World} {F : Nat → Prop} {t : Ty} {y : Value} (h : Chg fp w w') (hn : ∀ b, F b → b ∉ fp) (r : TyRep F w t y) : TyRep F w' t y := r.move (h.keeps hn)
theorem Chg.cellne {r : Nat} {w w' : World} {a : Addr} {v : Value} (h : Chg [r] w w') (hn : a.block ≠ r) (hc : w.cell? a = some v) : w'.cell? a = some v := h.cell (by simpa using hn) hc
theorem Chg.frone {r b o : Nat} {w w' : World} (h : Chg [r] w w') (hn : b ≠ r) (hl : b < w.heap.size) : w'.frozen? ⟨b, o, none⟩ = w.frozen? ⟨b, o, none⟩ := World.frozen?_of_block (a := ⟨b, o, none⟩) (h.block b hl (by simpa using hn))
theorem ccell {r b o : Nat} {w w1 : World} {v : Value} (h : Chg [r] w w1) (hn : b ≠ r) (hc : w.cell? ⟨b, o, none⟩ = some v) : w1.cell? ⟨b, o, none⟩ = some v := h.cellne hn hc
theorem cfroc {r b o : Nat} {w w1 : World} {v : Value} (h : Chg [r] w w1) (hn : b ≠ r) (hc : w.cell? ⟨b, o, none⟩ = some v) (hf : w.frozen? ⟨b, o, none⟩ = false) : w1.frozen? ⟨b, o, none⟩ = false :=
  (h.frone hn (World.block_lt_of_cell? _ _ hc)).trans hf
theorem bchg {B r : Nat} {w w1 w2 : World} (h : Below B w w1) (k : Chg [r] w1 w2) (hr : B ≤ r) (hw : B ≤ w.heap.size) : Below B w w2 :=
  ⟨k.os.trans h.os, k.tape.trans h.tape, k.output.trans h.output, Nat.le_trans h.size k.size, fun b hb => (k.block b (Nat.lt_of_lt_of_le (Nat.lt_of_lt_of_le hb hw) h.size) (by simp; omega)).trans (h.block b hb)⟩
theorem Chg.trans' {r : Nat} {w w' : World} (h : Chg [r] w w') {p : Addr} (hp : w.heap.size ≤ p.block) (v : Value) : Chg [r] w (w'.setCell p v) :=
  ⟨h.os, h.tape, h.output, by simpa [World.setCell] using h.size, fun b hb hn => (Below.heap_setCell w' p v b (by omega)).trans (h.block b hb hn)⟩
theorem TyRep.chgB {B r : Nat} {w w' : World} {t : Ty} {y : Value} (h : TyRep (B ≤ ·) w t y) (k : Chg [r] w w') (hr : r < B) : TyRep (B ≤ ·) w' t y :=
  TyRep.chg k (fun b hb => by simp; omega) h
theorem TyRep.chgA {r : Nat} {w w' : World} {t : Ty} {y : Value} (h : TyRep (· ≠ r) w t y) (k : Chg [r] w w') : TyRep (· ≠ r) w' t y := TyRep.chg k (fun b hb => by simpa using hb) h
theorem TysRep.chgA {r : Nat} {w w' : World} {t : List Ty} {y : Value} (h : TysRep (· ≠ r) w t y) (k : Chg [r] w w') : TysRep (· ≠ r) w' t y := h.move (k.keeps (fun b hb => by simpa using hb))
end Go.Proofs.Ytghgjpcibdfbmaa
namespace Go.Proofs.Ytghgjpcibdfbmaa
open Go.RowKit
set_option linter.unusedVariables false
set_option linter.unusedSimpArgs false

theorem sc_far {w : World} {p a : Addr} {v u : Value} (h : w.cell? a = some u) (hne : p ≠ a) : (w.setCell p v).cell? a = some u := (World.cell?_setCell_other w p a v hne).trans h
theorem sc_self {w : World} {b o : Nat} {v u : Value} (h : w.cell? ⟨b, o, none⟩ = some u) : (w.setCell ⟨b, o, none⟩ v).cell? ⟨b, o, none⟩ = some v := by
  simp only [World.cell?] at h
  split at h
  · rename_i cs T fr hb
    simp at h
    have hlt := (Array.getElem?_eq_some_iff.1 h).1
    simp only [World.cell?, heap_setCell_same hb]
    simp
    rw [Array.getElem?_setIfInBounds_self]
    simp [hlt]
  · cases h
theorem sc_fro (w : World) (p : Addr) (v : Value) (a : Addr) : (w.setCell p v).frozen? a = w.frozen? a := by simp

/-- Values that lie one behind the other read as rows. -/
def SRows (w : World) : List (List C) → List Value → List Nat → Prop
  | [], xs, fps => xs = [] ∧ fps = []
  | r :: rs, xs, fps => ∃ ys xs' f1 f2, xs = ys ++ xs' ∧ fps = f1 ++ f2 ∧ SOwn w r ys f1 ∧ SRows w rs xs' f2
theorem SRows.move {w w' : World} : ∀ (rs : List (List C)) (xs : List Value) (fps : List Nat), (∀ b ∈ fps, w'.heap[b]? = w.heap[b]?) → SRows w rs xs fps → SRows w' rs xs fps
  | [], _, _, _, h => h
  | r :: rs, _, _, k, ⟨ys, xs', f1, f2, e, h, h1, h2⟩ => by
    subst h
    exact ⟨ys, xs', f1, f2, e, rfl, h1.move _ _ _ (fun b hb => k b (List.mem_append_left _ hb)), SRows.move rs xs' f2 (fun b hb => k b (List.mem_append_right _ hb)) h2⟩
theorem SRows.lt {w : World} : ∀ (rs : List (List C)) (xs : List Value) (fps : List Nat), SRows w rs xs fps → ∀ b ∈ fps, b < w.heap.size
  | [], _, _, ⟨_, h⟩ => by subst h; simp
  | r :: rs, _, _, ⟨ys, xs', f1, f2, _, h, h1, h2⟩ => by
    subst h
    intro b hb
    rcases List.mem_append.1 hb with hb | hb
    · exact SOwn.lt _ _ _ h1 b hb
    · exact SRows.lt rs xs' f2 h2 b hb
theorem SRows.snoc {w : World} : ∀ {rs : List (List C)} {xs : List Value} {fps : List Nat} {r : List C} {ys : List Value} {f : List Nat}, SRows w rs xs fps → SOwn w r ys f → SRows w (rs ++ [r]) (xs ++ ys) (fps ++ f)
  | [], _, _, r, ys, f, ⟨hx, hf⟩, h => by
    subst hx hf
    exact ⟨ys, [], f, [], by simp, by simp, h, rfl, rfl⟩
  | r' :: rs, _, _, r, ys, f, ⟨ys', xs', f1, f2, e, e2, h1, h2⟩, h => by
    subst e e2
    exact ⟨ys', xs' ++ ys, f1, f2 ++ f, by simp, by simp, h1, SRows.snoc h2 h⟩
theorem SRows.rows {w : World} {b : Nat} : ∀ (rs : List (List C)) (xs : List Value) (fps : List Nat) (off : Nat), SRows w rs xs fps → (∀ i, i < xs.length → w.cell? ⟨b, off + i, none⟩ = xs[i]?) → RowsOwn w b off rs fps
  | [], _, _, _, ⟨_, h⟩, _ => by subst h; unfold RowsOwn; rfl
  | r :: rs, _, _, off, ⟨ys, xs', f1, f2, e, h, h1, h2⟩, k => by
    subst e h
    have hl := SOwn.len _ _ _ h1
    unfold RowsOwn
    refine ⟨f1, f2, rfl, SOwn.cells r ys f1 off h1 (fun i hi => ?_), SRows.rows rs xs' f2 _ h2 fun i hi => ?_⟩
    · rw [k i (by rw [List.length_append]; omega), List.getElem?_append_left hi]
    · rw [← hl, Nat.add_assoc, k (ys.length + i) (by rw [List.length_append]; omega), List.getElem?_append_right (by omega)]
      congr 1
      omega

/-- The slice v has grown to these rows, in memory from block B on. -/
def AccNew (B : Nat) (e : TypeId) (size : Nat) (w : World) (v : Value) (n : Nat) (rows : List (List C)) : Prop :=
  ∃ xs fps, w.ownsRow B e size v n xs ∧ rows.length = n ∧ SRows w rows xs fps ∧ fps.Nodup ∧ ∀ x ∈ fps, B ≤ x ∧ v.ownBlock ≠ some x
theorem AccNew.nil (B : Nat) (e : TypeId) (size : Nat) (w : World) : AccNew B e size w (.slice none 0 0) 0 [] :=
  ⟨[], [], World.ownsRow_nil w B e size, rfl, ⟨rfl, rfl⟩, List.nodup_nil, by simp⟩
theorem AccNew.grown {B : Nat} {e : TypeId} {size n : Nat} {w w' : World} {v : Value} {rows : List (List C)} (h : AccNew B e size w v n rows) (hb : Below w.heap.size w w') : AccNew B e size w' v n rows := by
  obtain ⟨xs, fps, h1, h2, h3, h4, h5⟩ := h
  refine ⟨xs, fps, h1.kept (row := none) ⟨hb.os, hb.tape, hb.output, hb.size, fun k hk _ => hb.block k hk⟩ ?_, h2, h3.move _ _ _ (fun b hx => hb.block b (h3.lt _ _ _ b hx)), h4, h5⟩
  cases v.ownBlock with
  | none => exact .inl rfl
  | some g => exact .inr (by simp)
theorem AccNew.setCell {B : Nat} {e : TypeId} {size n : Nat} {w : World} {v : Value} {rows : List (List C)} (h : AccNew B e size w v n rows) {p : Addr} (hp : p.block < B) (u : Value) : AccNew B e size (w.setCell p u) v n rows := by
  obtain ⟨xs, fps, h1, h2, h3, h4, h5⟩ := h
  refine ⟨xs, fps, ?_, h2, h3.move _ _ _ (fun b hx => Below.heap_setCell w p u b (by have := (h5 b hx).1; omega)), h4, h5⟩
  exact ownsRow_setCell_below h1 hp u

theorem AccNew.shape {B : Nat} {e : TypeId} {size n : Nat} {w : World} {v : Value} {rows : List (List C)} (h : AccNew B e size w v n rows) : ∃ c q, v = .slice c n q := by
  obtain ⟨xs, fps, ⟨_, h1⟩, _⟩ := h
  rcases h1 with ⟨rfl, rfl⟩ | ⟨g, cap, cur, rfl, _⟩
  · exact ⟨none, 0, rfl⟩
  · exact ⟨_, cap, rfl⟩
/-- Behind an append of one row. -/
theorem AccNew.append {B H g cap : Nat} {e : TypeId} {size n : Nat} {w w1 : World} {v : Value} {xs ys : List Value} {fps f : List Nat} {rows : List (List C)} {r : List C}
    (h2 : rows.length = n) (h3 : SRows w rows xs fps) (h4 : fps.Nodup) (h5 : ∀ x ∈ fps, B ≤ x ∧ v.ownBlock ≠ some x)
    (hr : SOwn w r ys f) (hd : f.Nodup) (hf : ∀ x ∈ f, B ≤ x ∧ v.ownBlock ≠ some x ∧ x ∉ fps)
    (hown : w1.ownsRow B e size (.slice (some ⟨g, 0, none⟩) (n + 1) cap) (n + 1) (xs ++ ys)) (hgrow : w.grownBy w1 v.ownBlock) (hat : v.ownBlock = some g ∨ g = H) (hH : w.heap.size = H) :
    AccNew B e size w1 (.slice (some ⟨g, 0, none⟩) (n + 1) cap) (n + 1) (rows ++ [r]) := by
  have l3 : ∀ b ∈ fps, b < w.heap.size := fun b hb => SRows.lt _ _ _ h3 b hb
  have lr : ∀ b ∈ f, b < w.heap.size := fun b hb => SOwn.lt _ _ _ hr b hb
  have keep : ∀ x, x < w.heap.size → v.ownBlock ≠ some x → w1.heap[x]? = w.heap[x]? := fun x hx hn => hgrow.block x hx (fun e => hn e.symm)
  refine ⟨xs ++ ys, fps ++ f, hown, by simp [h2], SRows.snoc (h3.move _ _ _ fun b hb => keep b (l3 b hb) (h5 b hb).2) (hr.move _ _ _ fun b hb => keep b (lr b hb) (hf b hb).2.1), ?_, ?_⟩
  · exact List.nodup_append.2 ⟨h4, hd, fun x hx y hy e => (hf y hy).2.2 (e ▸ hx)⟩
  · intro x hx
    have hlt : x < w.heap.size ∧ B ≤ x ∧ v.ownBlock ≠ some x := by
      rcases List.mem_append.1 hx with hx | hx
      · exact ⟨l3 x hx, h5 x hx⟩
      · exact ⟨lr x hx, (hf x hx).1, (hf x hx).2.1⟩
    refine ⟨hlt.2.1, fun e => ?_⟩
    simp only [Value.ownBlock, Option.some.injEq] at e
    rcases hat with hat | hat
    · exact hlt.2.2 (by rw [hat, e])
    · omega

theorem ownsRow_below {B : Nat} {e : TypeId} {size n : Nat} {w w' : World} {v : Value} {xs : List Value} (h : w.ownsRow B e size v n xs) (hb : Below w.heap.size w w') : w'.ownsRow B e size v n xs :=
  h.kept (row := none) ⟨hb.os, hb.tape, hb.output, hb.size, fun k hk _ => hb.block k hk⟩ (by cases v.ownBlock with | none => exact .inl rfl | some g => exact .inr (by simp))
/-- What lies below the row that was appended to is as it was. -/
theorem grown_far {wr W w2 : World} {B : Nat} {e : TypeId} {size n : Nat} {v : Value} {xs : List Value} (hb : Below wr.heap.size wr W) (ho : wr.ownsRow B e size v n xs) (hg : W.grownBy w2 v.ownBlock) (b : Nat) (hl : b < wr.heap.size) (hB : b < B) : w2.heap[b]? = wr.heap[b]? :=
  (hg.block b (Nat.lt_of_lt_of_le hl hb.size) (fun e => by have := (ho.lt b e.symm).1; omega)).trans (hb.block b hl)
theorem grown_below {w0 wr W w2 : World} {B : Nat} {e : TypeId} {size n : Nat} {v : Value} {xs : List Value} (h0 : Below w0.heap.size w0 wr) (hb : Below wr.heap.size wr W) (ho : wr.ownsRow B e size v n xs) (hB : w0.heap.size ≤ B) (hg : W.grownBy w2 v.ownBlock) : Below w0.heap.size w0 w2 :=
  (bstep h0 hb).grown hg (bstep h0 hb).size (fun k hk => Nat.le_trans hB (ho.lt k hk).1)
/-- The rows behind the append of what a call has made. -/
theorem AccNew.push {B g cap : Nat} {e : TypeId} {size n : Nat} {wr W0 W w2 : World} {v : Value} {xs ys : List Value} {fps f : List Nat} {rows : List (List C)} {r : List C} (hl : rows.length = n) (ho : wr.ownsRow B e size v n xs) (hs : SRows wr rows xs fps) (hd : fps.Nodup)
    (hfp : ∀ x ∈ fps, B ≤ x ∧ v.ownBlock ≠ some x) (hB : B ≤ wr.heap.size) (hb : Below wr.heap.size wr W) (h0 : wr.heap.size ≤ W0.heap.size) (hr : SOwn W r ys f) (hdf : f.Nodup) (hxf : ∀ x ∈ f, W0.heap.size ≤ x)
    (hown : w2.ownsRow B e size (.slice (some ⟨g, 0, none⟩) (n + 1) cap) (n + 1) (xs ++ ys)) (hgrow : W.grownBy w2 v.ownBlock) (hat : v.ownBlock = some g ∨ g = W.heap.size) : AccNew B e size w2 (.slice (some ⟨g, 0, none⟩) (n + 1) cap) (n + 1) (rows ++ [r]) := by
  have hlt : ∀ x ∈ fps, x < wr.heap.size := fun x hx => SRows.lt _ _ _ hs x hx
  refine AccNew.append (w := W) hl (hs.move _ _ _ fun b hx => hb.block b (hlt b hx)) hd hfp hr hdf (fun x hx => ?_) hown hgrow hat rfl
  have h1 := hxf x hx
  refine ⟨by omega, fun e => by have := (ho.lt x e).2; omega, fun e => by have := hlt x e; omega⟩
/-- The slice as it is. -/
theorem AccNew.own {B : Nat} {e : TypeId} {size n : Nat} {w : World} {v : Value} {rows : List (List C)} (h : AccNew B e size w v n rows) : ∃ fp, COwn w (.sl rows) v fp ∧ fp.Nodup ∧ ∀ x ∈ fp, B ≤ x := by
  obtain ⟨xs, fps, ⟨hl, h1⟩, h2, h3, h4, h5⟩ := h
  rcases h1 with ⟨rfl, rfl⟩ | ⟨g, cap, cur, rfl, hb, hg, hn, hc, hs, ht⟩
  · obtain rfl : rows = [] := List.eq_nil_of_length_eq_zero h2
    exact ⟨[], COwn.sl_nil (by unfold maxLen; omega), List.nodup_nil, by simp⟩
  · have hr : RowsOwn w g 0 rows fps := h3.rows _ _ _ 0 (fun i hi => by
      rw [← ht] at hi ⊢
      simp only [World.cell?, hg]
      simp only [List.length_take] at hi
      simp
      rw [List.getElem?_take_of_lt (by omega), Array.getElem?_toList])
    obtain ⟨fp, k1, k2, k3⟩ := COwn.sl_mk hg h2 hn hc hr
    exact ⟨fp, k1, k3 h4 (fun hx => (h5 g hx).2 rfl), fun x hx => by rcases k2 x hx with rfl | hx; exact hb; exact (h5 x hx).1⟩
theorem AccNew.tys {B n : Nat} {e : TypeId} {w : World} {v : Value} {ts : List Ty} (h : AccNew B e 2 w v n (Ty.rows ts)) : TysNew B w ts v := h.own
end Go.Proofs.Ytghgjpcibdfbmaa
namespace Go.Proofs.Ytghgjpcibdfbmaa
open Go.RowKit

theorem cell_new {X : World} {n : Nat} {cs : Array Value} {T : TypeId} (h : X.heap.size = n) (j : Nat) : (X.alloc (.cells cs T)).cell? ⟨n, j, none⟩ = cs[j]? := by subst h; exact cell_n0 j
theorem fro_new {X : World} {n : Nat} {cs : Array Value} {T : TypeId} (h : X.heap.size = n) (j : Nat) : (X.alloc (.cells cs T)).frozen? ⟨n, j, none⟩ = false := by subst h; exact fro_n0 j
theorem bfroc {w w1 : World} {a : Addr} {v : Value} (h : Below w.heap.size w w1) (hc : w.cell? a = some v) (hf : w.frozen? a = false) : w1.frozen? a = false := (h.frozen (World.block_lt_of_cell? w a hc)).trans hf
theorem dcell {w : World} {a : Addr} {v : Value} (hc : w.cell? a = some v) : w.drew.cell? a = some v := hc
theorem dfro {w : World} {a : Addr} (hc : w.frozen? a = false) : w.drew.frozen? a = false := hc
theorem sfro {w : World} {a p : Addr} {v : Value} (hf : w.frozen? a = false) : (w.setCell p v).frozen? a = false := (sc_fro w p v a).trans hf
theorem sc_blk {w : World} {p a : Addr} {v u : Value} (h : w.cell? a = some u) (hne : a.block ≠ p.block) : (w.setCell p v).cell? a = some u := sc_far h (fun e => by subst e; exact hne rfl)
end Go.Proofs.Ytghgjpcibdfbmaa
namespace Go.Proofs.Ytghgjpcibdfbmaa
open Go.RowKit
set_option linter.unusedVariables false
set_option linter.unusedSimpArgs false
set_option maxRecDepth 100000


inductive Tm where
  | mk (kind : Int) (name : ByteArray) (num : Int) (type src : Ty) (label : Int) (kids : List Tm)

def Tm.kind : Tm → Int | .mk k _ _ _ _ _ _ => k
def Tm.name : Tm → ByteArray | .mk _ s _ _ _ _ _ => s
def Tm.num : Tm → Int | .mk _ _ u _ _ _ _ => u
def Tm.type : Tm → Ty | .mk _ _ _ t _ _ _ => t
def Tm.src : Tm → Ty | .mk _ _ _ _ t _ _ => t
def Tm.label : Tm → Int | .mk _ _ _ _ _ l _ => l
def Tm.kids : Tm → List Tm | .mk _ _ _ _ _ _ ts => ts

mutual
def Tm.row : Tm → List C
  | .mk k s u t f l ts => [.int k, .str s, .int u, .int t.kind, .sl (Ty.rows t.kids), .int f.kind, .sl (Ty.rows f.kids), .int l, .sl (Tm.rows ts)]
def Tm.rows : List Tm → List (List C)
  | [] => []
  | t :: ts => t.row :: Tm.rows ts
end
theorem Tm.rows_eq (ts : List Tm) : Tm.rows ts = ts.map Tm.row := by
  induction ts with
  | nil => rfl
  | cons t ts ih => unfold Tm.rows; rw [ih]; rfl
theorem Tm.rows_length (ts : List Tm) : (Tm.rows ts).length = ts.length := by rw [Tm.rows_eq]; simp
theorem Tm.row_length : ∀ t : Tm, t.row.length = 9 | .mk _ _ _ _ _ _ _ => by unfold Tm.row; rfl

/-- A slice of terms. -/
def TmsRep (F : Nat → Prop) (w : World) (ts : List Tm) (y : Value) : Prop := CRep F w (.sl (Tm.rows ts)) y
/-- A term by value. -/
def TmRep (F : Nat → Prop) (w : World) (t : Tm) (y : Value) : Prop := ∃ s1 s2 s, y = .agg #[.int .i64 t.kind, .string t.name, .int .i64 t.num, .int .i64 t.type.kind, s1, .int .i64 t.src.kind, s2, .int .i64 t.label, s] ∧ t.name.size ≤ maxLen ∧ TysRep F w t.type.kids s1 ∧ TysRep F w t.src.kids s2 ∧ TmsRep F w t.kids s

theorem TmsRep.move {F G : Nat → Prop} {w w' : World} {ts : List Tm} {y : Value} (h : TmsRep F w ts y) (k : Keeps F G w w') : TmsRep G w' ts y := CRep.move k _ _ h
theorem TmRep.move {F G : Nat → Prop} {w w' : World} {t : Tm} {y : Value} (h : TmRep F w t y) (k : Keeps F G w w') : TmRep G w' t y :=
  let ⟨s1, s2, s, h1, h2, h3, h4, h5⟩ := h; ⟨s1, s2, s, h1, h2, h3.move k, h4.move k, h5.move k⟩
theorem TmRep.below {F : Nat → Prop} {w w' : World} {t : Tm} {y : Value} (h : TmRep F w t y) (k : Below w.heap.size w w') : TmRep F w' t y := h.move (.below k)
theorem TmsRep.below {F : Nat → Prop} {w w' : World} {t : List Tm} {y : Value} (h : TmsRep F w t y) (k : Below w.heap.size w w') : TmsRep F w' t y := h.move (.below k)

/-- The parts of a term. -/
theorem TmRep.open {F : Nat → Prop} {w : World} {t : Tm} {y : Value} (h : TmRep F w t y) :
    ∃ ta tq fa fq c q, y = .agg #[.int .i64 t.kind, .string t.name, .int .i64 t.num, .int .i64 t.type.kind, .slice ta t.type.kids.length tq, .int .i64 t.src.kind, .slice fa t.src.kids.length fq, .int .i64 t.label, .slice c t.kids.length q] ∧ t.name.size ≤ maxLen ∧
      t.kids.length ≤ q ∧ q ≤ maxLen ∧ TyRep F w t.type (.agg #[.int .i64 t.type.kind, .slice ta t.type.kids.length tq]) ∧ TyRep F w t.src (.agg #[.int .i64 t.src.kind, .slice fa t.src.kids.length fq]) ∧ TmsRep F w t.kids (.slice c t.kids.length q) := by
  obtain ⟨s1, s2, s, rfl, hn, h1, h2, h3⟩ := h
  obtain ⟨ta, tq, rfl, -, -, -⟩ := h1.open
  obtain ⟨fa, fq, rfl, -, -, -⟩ := h2.open
  obtain ⟨c, q, rfl, h4, h5, -⟩ := CRep.rows h3
  rw [Tm.rows_length] at h4 h3 ⊢
  exact ⟨ta, tq, fa, fq, c, q, rfl, hn, h4, h5, ⟨_, rfl, h1⟩, ⟨_, rfl, h2⟩, h3⟩
theorem TmRep.shape {F : Nat → Prop} {w : World} {t : Tm} {y : Value} (h : TmRep F w t y) : ∃ k nm u tk ta tn tq fk fa fn fq l c m q, y = .agg #[.int .i64 k, .string nm, .int .i64 u, .int .i64 tk, .slice ta tn tq, .int .i64 fk, .slice fa fn fq, .int .i64 l, .slice c m q] := by
  obtain ⟨ta, tq, fa, fq, c, q, rfl, _⟩ := h.open
  exact ⟨_, _, _, _, ta, _, tq, _, fa, _, fq, _, c, _, q, rfl⟩
theorem TmsRep.shape {F : Nat → Prop} {w : World} {t : List Tm} {y : Value} (h : TmsRep F w t y) : ∃ a n q, y = .slice a n q := by
  obtain ⟨a, q, rfl, _⟩ := CRep.rows h
  exact ⟨a, _, q, rfl⟩
theorem TmsRep.open {F : Nat → Prop} {w : World} {ts : List Tm} {y : Value} (h : TmsRep F w ts y) :
    ∃ (a : Option Addr) (cap : Nat), y = .slice a ts.length cap ∧ ts.length ≤ cap ∧ cap ≤ maxLen ∧
      ∀ i (h : i < ts.length), ∃ b off k nm u tk ta tn tq fk fa fn fq l c m q, a = some ⟨b, off, none⟩ ∧ w.cell? ⟨b, off + i * 9, none⟩ = some (.int .i64 k) ∧ w.cell? ⟨b, off + i * 9 + 1, none⟩ = some (.string nm) ∧ w.cell? ⟨b, off + i * 9 + 2, none⟩ = some (.int .i64 u) ∧ w.cell? ⟨b, off + i * 9 + 3, none⟩ = some (.int .i64 tk) ∧ w.cell? ⟨b, off + i * 9 + 4, none⟩ = some (.slice ta tn tq) ∧ w.cell? ⟨b, off + i * 9 + 5, none⟩ = some (.int .i64 fk) ∧ w.cell? ⟨b, off + i * 9 + 6, none⟩ = some (.slice fa fn fq) ∧ w.cell? ⟨b, off + i * 9 + 7, none⟩ = some (.int .i64 l) ∧ w.cell? ⟨b, off + i * 9 + 8, none⟩ = some (.slice c m q) ∧ TmRep F w ts[i] (.agg #[.int .i64 k, .string nm, .int .i64 u, .int .i64 tk, .slice ta tn tq, .int .i64 fk, .slice fa fn fq, .int .i64 l, .slice c m q]) := by
  obtain ⟨a, cap, h1, h2, h3, h4⟩ := CRep.rows h
  rw [Tm.rows_length] at h1 h2
  refine ⟨a, cap, h1, h2, h3, fun i hi => ?_⟩
  rcases h4 with h4 | ⟨b, off, ha, hF, hl, hr⟩
  · rw [← Tm.rows_length, h4] at hi; exact absurd hi (Nat.not_lt_zero _)
  · have hc := hr.get (m := 9) (fun r hr => by rw [Tm.rows_eq] at hr; obtain ⟨t, _, rfl⟩ := List.mem_map.1 hr; exact t.row_length) i (by rw [Tm.rows_length]; exact hi)
    have he : (Tm.rows ts)[i]'(by rw [Tm.rows_length]; exact hi) = ts[i].row := by simp [Tm.rows_eq]
    rw [he] at hc
    obtain ⟨k, s, u, t, f, l, ks, ht⟩ : ∃ k s u t f l ks, ts[i] = Tm.mk k s u t f l ks := by cases ts[i]; exact ⟨_, _, _, _, _, _, _, rfl⟩
    rw [ht] at hc ⊢
    unfold Tm.row at hc
    unfold CellsAt at hc
    obtain ⟨⟨y0, hy0, hc0⟩, hc⟩ := hc
    unfold CellsAt at hc
    obtain ⟨⟨y1, hy1, hc1⟩, hc⟩ := hc
    unfold CellsAt at hc
    obtain ⟨⟨y2, hy2, hc2⟩, hc⟩ := hc
    unfold CellsAt at hc
    obtain ⟨⟨y3, hy3, hc3⟩, hc⟩ := hc
    unfold CellsAt at hc
    obtain ⟨⟨y4, hy4, hc4⟩, hc⟩ := hc
    unfold CellsAt at hc
    obtain ⟨⟨y5, hy5, hc5⟩, hc⟩ := hc
    unfold CellsAt at hc
    obtain ⟨⟨y6, hy6, hc6⟩, hc⟩ := hc
    unfold CellsAt at hc
    obtain ⟨⟨y7, hy7, hc7⟩, hc⟩ := hc
    unfold CellsAt at hc
    obtain ⟨⟨y8, hy8, hc8⟩, -⟩ := hc
    rw [CRep.int_eq hc0] at hy0
    obtain ⟨rfl, hsz⟩ := CRep.str_eq hc1
    rw [CRep.int_eq hc2] at hy2
    rw [CRep.int_eq hc3] at hy3
    obtain ⟨ta, tq, rfl, -⟩ := CRep.rows hc4
    rw [CRep.int_eq hc5] at hy5
    obtain ⟨fa, fq, rfl, -⟩ := CRep.rows hc6
    rw [CRep.int_eq hc7] at hy7
    obtain ⟨c, q, rfl, -⟩ := CRep.rows hc8
    exact ⟨b, off, k, s, u, t.kind, ta, _, tq, f.kind, fa, _, fq, l, c, _, q, ha, hy0, hy1, hy2, hy3, hy4, hy5, hy6, hy7, hy8, _, _, _, rfl, hsz, hc4, hc6, hc8⟩
theorem TmsRep.at {F : Nat → Prop} {w wr : World} {ts : List Tm} {a : Option Addr} {n cap : Nat} (h : TmsRep F w ts (.slice a n cap)) (hb : Below w.heap.size w wr) {i : Nat} (hi : i < ts.length) :
    ∃ b off k nm u tk ta tn tq fk fa fn fq l c m q, a = some ⟨b, off, none⟩ ∧ b < wr.heap.size ∧ wr.cell? ⟨b, off + i * 9, none⟩ = some (.int .i64 k) ∧ wr.cell? ⟨b, off + i * 9 + 1, none⟩ = some (.string nm) ∧ wr.cell? ⟨b, off + i * 9 + 2, none⟩ = some (.int .i64 u) ∧ wr.cell? ⟨b, off + i * 9 + 3, none⟩ = some (.int .i64 tk) ∧ wr.cell? ⟨b, off + i * 9 + 4, none⟩ = some (.slice ta tn tq) ∧ wr.cell? ⟨b, off + i * 9 + 5, none⟩ = some (.int .i64 fk) ∧ wr.cell? ⟨b, off + i * 9 + 6, none⟩ = some (.slice fa fn fq) ∧ wr.cell? ⟨b, off + i * 9 + 7, none⟩ = some (.int .i64 l) ∧ wr.cell? ⟨b, off + i * 9 + 8, none⟩ = some (.slice c m q) ∧ TmRep F wr ts[i] (.agg #[.int .i64 k, .string nm, .int .i64 u, .int .i64 tk, .slice ta tn tq, .int .i64 fk, .slice fa fn fq, .int .i64 l, .slice c m q]) := by
  obtain ⟨a', cap', he, _, _, hg⟩ := h.open
  simp only [Value.slice.injEq] at he
  obtain ⟨rfl, _, rfl⟩ := he
  obtain ⟨b, off, k, nm, u, tk, ta, tn, tq, fk, fa, fn, fq, l, c, m, q, ha, h0, h1, h2, h3, h4, h5, h6, h7, h8, ht⟩ := hg i hi
  have e0 := bcell hb h0
  exact ⟨b, off, k, nm, u, tk, ta, tn, tq, fk, fa, fn, fq, l, c, m, q, ha, World.block_lt_of_cell? wr _ e0, e0, bcell hb h1, bcell hb h2, bcell hb h3, bcell hb h4, bcell hb h5, bcell hb h6, bcell hb h7, bcell hb h8, ht.below hb⟩
/-- What is known of the parts of a term that is laid open. -/
theorem TmRep.parts {F : Nat → Prop} {w : World} {t : Tm} {k u tk fk l : Int} {nm : ByteArray} {ta fa c : Option Addr} {tn tq fn fq m q : Nat} (h : TmRep F w t (.agg #[.int .i64 k, .string nm, .int .i64 u, .int .i64 tk, .slice ta tn tq, .int .i64 fk, .slice fa fn fq, .int .i64 l, .slice c m q])) :
    k = t.kind ∧ nm = t.name ∧ u = t.num ∧ tk = t.type.kind ∧ tn = t.type.kids.length ∧ fk = t.src.kind ∧ fn = t.src.kids.length ∧ l = t.label ∧ m = t.kids.length ∧ nm.size ≤ maxLen ∧ m ≤ q ∧ q ≤ maxLen ∧
      TyRep F w t.type (.agg #[.int .i64 tk, .slice ta tn tq]) ∧ TyRep F w t.src (.agg #[.int .i64 fk, .slice fa fn fq]) ∧ TmsRep F w t.kids (.slice c m q) := by
  obtain ⟨ta', tq', fa', fq', c', q', he, hn, h4, h5, h6, h7, h8⟩ := h.open
  simp only [Value.agg.injEq, Array.mk.injEq, List.cons.injEq, Value.int.injEq, Value.string.injEq, Value.slice.injEq, true_and, and_true] at he
  obtain ⟨rfl, rfl, rfl, rfl, ⟨rfl, rfl, rfl⟩, rfl, ⟨rfl, rfl, rfl⟩, rfl, ⟨rfl, rfl, rfl⟩⟩ := he
  exact ⟨rfl, rfl, rfl, rfl, rfl, rfl, rfl, rfl, rfl, hn, h4, h5, h6, h7, h8⟩
theorem Tm.kid_lt {t : Tm} {x : Tm} (h : x ∈ t.kids) : SizeOf.sizeOf x < SizeOf.sizeOf t := by
  cases t with
  | mk k s u t f l ts => have := List.sizeOf_lt_of_mem h; simp only [Tm.kids] at h this; simp; omega

mutual
/-- How much a term takes from a purse. -/
def Tm.cnt : Tm → Nat
  | .mk _ s _ t f _ ts => s.size + t.cnt + f.cnt + (ts.length + Tm.cnts ts)
def Tm.cnts : List Tm → Nat
  | [] => 0
  | t :: ts => t.cnt + Tm.cnts ts
end
theorem Tm.cnts_take_succ : ∀ (ts : List Tm) (j : Nat) (h : j < ts.length), Tm.cnts (ts.take (j + 1)) = Tm.cnts (ts.take j) + ts[j].cnt
  | [], _, h => absurd h (Nat.not_lt_zero _)
  | t :: ts, 0, _ => by simp [Tm.cnts]
  | t :: ts, j + 1, h => by
    have := Tm.cnts_take_succ ts j (by simpa using h)
    simp only [List.take_succ_cons, Tm.cnts, List.getElem_cons_succ]
    omega
theorem Tm.cnts_take_le : ∀ (ts : List Tm) (j : Nat), Tm.cnts (ts.take j) ≤ Tm.cnts ts
  | [], _ => by simp
  | t :: ts, 0 => by simp [Tm.cnts]
  | t :: ts, j + 1 => by
    have := Tm.cnts_take_le ts j
    simp only [List.take_succ_cons, Tm.cnts]
    omega
theorem Tm.cnt_mem : ∀ {ts : List Tm} {t : Tm}, t ∈ ts → t.cnt ≤ Tm.cnts ts
  | u :: ts, t, h => by
    rcases List.mem_cons.1 h with rfl | h
    · simp only [Tm.cnts]; omega
    · have := Tm.cnt_mem h; simp only [Tm.cnts]; omega
theorem Tm.cnt_parts (t : Tm) : t.cnt = t.name.size + t.type.cnt + t.src.cnt + (t.kids.length + Tm.cnts t.kids) := by
  cases t with | mk k s u t f l ts => simp only [Tm.cnt, Tm.name, Tm.type, Tm.src, Tm.kids]
theorem Tm.cnt_kid {t x : Tm} (h : x ∈ t.kids) : x.cnt + t.kids.length ≤ t.cnt := by
  have h1 := Tm.cnt_mem h
  have h2 := t.cnt_parts
  omega
end Go.Proofs.Ytghgjpcibdfbmaa
namespace Go.Proofs.Ytghgjpcibdfbmaa
open Go.RowKit
set_option linter.unusedVariables false
set_option linter.unusedSimpArgs false
set_option maxRecDepth 100000


def TmOwn (w : World) (t : Tm) (y : Value) (fp : List Nat) : Prop := ∃ s1 s2 s f1 f2 f3, y = .agg #[.int .i64 t.kind, .string t.name, .int .i64 t.num, .int .i64 t.type.kind, s1, .int .i64 t.src.kind, s2, .int .i64 t.label, s] ∧ fp = f1 ++ (f2 ++ f3) ∧ t.name.size ≤ maxLen ∧
  COwn w (.sl (Ty.rows t.type.kids)) s1 f1 ∧ COwn w (.sl (Ty.rows t.src.kids)) s2 f2 ∧ COwn w (.sl (Tm.rows t.kids)) s f3
def TmsOwn (w : World) (ts : List Tm) (y : Value) (fp : List Nat) : Prop := COwn w (.sl (Tm.rows ts)) y fp
def TmNew (B : Nat) (w : World) (t : Tm) (y : Value) : Prop := ∃ fp, TmOwn w t y fp ∧ fp.Nodup ∧ ∀ b ∈ fp, B ≤ b
def TmsNew (B : Nat) (w : World) (ts : List Tm) (y : Value) : Prop := ∃ fp, TmsOwn w ts y fp ∧ fp.Nodup ∧ ∀ b ∈ fp, B ≤ b
theorem TmOwn.below {w w' : World} {t : Tm} {y : Value} {fp : List Nat} (h : TmOwn w t y fp) (k : Below w.heap.size w w') : TmOwn w' t y fp := by
  obtain ⟨s1, s2, s, f1, f2, f3, rfl, rfl, hn, h1, h2, h3⟩ := h
  exact ⟨s1, s2, s, f1, f2, f3, rfl, rfl, hn, h1.move _ _ _ fun b hb => k.block b (h1.lt _ _ _ b hb), h2.move _ _ _ fun b hb => k.block b (h2.lt _ _ _ b hb), h3.move _ _ _ fun b hb => k.block b (h3.lt _ _ _ b hb)⟩
theorem TmOwn.rep {w : World} {t : Tm} {y : Value} {fp : List Nat} (h : TmOwn w t y fp) : TmRep (· ∈ fp) w t y := by
  obtain ⟨s1, s2, s, f1, f2, f3, rfl, rfl, hn, h1, h2, h3⟩ := h
  exact ⟨s1, s2, s, rfl, hn, h1.rep _ _ _ (fun b hb => by simp [hb]), h2.rep _ _ _ (fun b hb => by simp [hb]), h3.rep _ _ _ (fun b hb => by simp [hb])⟩
theorem TmNew.below {B : Nat} {w w' : World} {t : Tm} {y : Value} (h : TmNew B w t y) (k : Below w.heap.size w w') : TmNew B w' t y :=
  let ⟨fp, h1, h2, h3⟩ := h; ⟨fp, h1.below k, h2, h3⟩
theorem TmNew.rep {B : Nat} {w : World} {t : Tm} {y : Value} (h : TmNew B w t y) : TmRep (B ≤ ·) w t y :=
  let ⟨fp, h1, _, h3⟩ := h; h1.rep.move (.weaken fun b hb _ => h3 b hb)
theorem TmsNew.rep {B : Nat} {w : World} {ts : List Tm} {y : Value} (h : TmsNew B w ts y) : TmsRep (B ≤ ·) w ts y :=
  let ⟨_, h1, _, h3⟩ := h; COwn.rep _ _ _ (fun b hb => h3 b hb) h1
theorem TmsNew.below {B : Nat} {w w' : World} {ts : List Tm} {y : Value} (h : TmsNew B w ts y) (k : Below w.heap.size w w') : TmsNew B w' ts y :=
  let ⟨fp, h1, h2, h3⟩ := h; ⟨fp, COwn.move _ _ _ (fun b hb => k.block b (COwn.lt _ _ _ h1 b hb)) h1, h2, h3⟩
theorem TmNew.shape {B : Nat} {w : World} {t : Tm} {y : Value} (h : TmNew B w t y) : ∃ k nm u tk ta tn tq fk fa fn fq l c m q, y = .agg #[.int .i64 k, .string nm, .int .i64 u, .int .i64 tk, .slice ta tn tq, .int .i64 fk, .slice fa fn fq, .int .i64 l, .slice c m q] := h.rep.shape
theorem TmNew.mono {B B' : Nat} {w : World} {t : Tm} {y : Value} (h : TmNew B w t y) (hB : B' ≤ B) : TmNew B' w t y :=
  let ⟨fp, h1, h2, h3⟩ := h; ⟨fp, h1, h2, fun b hb => Nat.le_trans hB (h3 b hb)⟩
theorem TmsNew.mono {B B' : Nat} {w : World} {t : List Tm} {y : Value} (h : TmsNew B w t y) (hB : B' ≤ B) : TmsNew B' w t y :=
  let ⟨fp, h1, h2, h3⟩ := h; ⟨fp, h1, h2, fun b hb => Nat.le_trans hB (h3 b hb)⟩
theorem TmsNew.open_slice {B : Nat} {w : World} {ts : List Tm} {y : Value} (h : TmsNew B w ts y) : ∃ a q, y = .slice a ts.length q := by
  obtain ⟨fp, h, _⟩ := h
  unfold TmsOwn COwn at h
  obtain ⟨a, q, h, _⟩ := h
  rw [Tm.rows_length] at h
  exact ⟨a, q, h⟩
theorem TmsNew.setCell {B : Nat} {w : World} {ts : List Tm} {y : Value} (h : TmsNew B w ts y) {p : Addr} (hp : p.block < B) (v : Value) : TmsNew B (w.setCell p v) ts y := by
  obtain ⟨fp, h1, h2, h3⟩ := h
  exact ⟨fp, COwn.move _ _ _ (fun b hb => Below.heap_setCell w p v b (by have := h3 b hb; omega)) h1, h2, h3⟩
theorem TmNew.setCell {B : Nat} {w : World} {t : Tm} {y : Value} (h : TmNew B w t y) {p : Addr} (hp : p.block < B) (v : Value) : TmNew B (w.setCell p v) t y := by
  obtain ⟨fp, ⟨s1, s2, s, f1, f2, f3, rfl, rfl, hn, h1, h2, h3⟩, hd, hx⟩ := h
  have hk : ∀ b ∈ f1 ++ (f2 ++ f3), (w.setCell p v).heap[b]? = w.heap[b]? := fun b hb => Below.heap_setCell w p v b (by have := hx b hb; omega)
  exact ⟨_, ⟨s1, s2, s, f1, f2, f3, rfl, rfl, hn, COwn.move _ _ _ (fun b hb => hk b (by simp [hb])) h1, COwn.move _ _ _ (fun b hb => hk b (by simp [hb])) h2, COwn.move _ _ _ (fun b hb => hk b (by simp [hb])) h3⟩, hd, hx⟩
theorem TmNew.nil {B : Nat} {w : World} {k u l : Int} {nm : ByteArray} (hn : nm.size ≤ maxLen) : TmNew B w (.mk k nm u (.mk 0 []) (.mk 0 []) l []) (.agg #[.int .i64 k, .string nm, .int .i64 u, .int .i64 0, .slice none 0 0, .int .i64 0, .slice none 0 0, .int .i64 l, .slice none 0 0]) := by
  have z : COwn w (.sl []) (.slice none 0 0) [] := by unfold COwn; exact ⟨none, 0, rfl, Nat.le_refl _, by unfold maxLen; omega, .inl ⟨rfl, rfl⟩⟩
  refine ⟨[], ⟨_, _, _, [], [], [], rfl, rfl, hn, ?_, ?_, ?_⟩, by simp, by simp⟩
  · simp only [Tm.type, Ty.kids, Ty.rows]; exact z
  · simp only [Tm.src, Ty.kids, Ty.rows]; exact z
  · simp only [Tm.kids, Tm.rows]; exact z
theorem Tm.flatten_length (ts : List Tm) : (Tm.rows ts).flatten.length = ts.length * 9 := by
  induction ts with
  | nil => unfold Tm.rows; rfl
  | cons t ts ih => unfold Tm.rows; rw [List.flatten_cons, List.length_append, ih, t.row_length, List.length_cons]; omega
theorem TmNew.open {B : Nat} {w : World} {t : Tm} {y : Value} (h : TmNew B w t y) : ∃ k nm u tk ta tn tq fk fa fn fq l c m q fp, y = .agg #[.int .i64 k, .string nm, .int .i64 u, .int .i64 tk, .slice ta tn tq, .int .i64 fk, .slice fa fn fq, .int .i64 l, .slice c m q] ∧ SOwn w t.row [.int .i64 k, .string nm, .int .i64 u, .int .i64 tk, .slice ta tn tq, .int .i64 fk, .slice fa fn fq, .int .i64 l, .slice c m q] fp ∧ fp.Nodup ∧ ∀ b ∈ fp, B ≤ b := by
  obtain ⟨fp, ⟨s1, s2, s, f1, f2, f3, rfl, rfl, hn, h1, h2, h3⟩, hd, hx⟩ := h
  obtain ⟨ta, tq, rfl, -⟩ := CRep.rows (COwn.rep _ _ _ (F := fun _ => True) (fun _ _ => trivial) h1)
  obtain ⟨fa, fq, rfl, -⟩ := CRep.rows (COwn.rep _ _ _ (F := fun _ => True) (fun _ _ => trivial) h2)
  obtain ⟨c, q, rfl, -⟩ := CRep.rows (COwn.rep _ _ _ (F := fun _ => True) (fun _ _ => trivial) h3)
  refine ⟨_, _, _, _, ta, _, tq, _, fa, _, fq, _, c, _, q, _, rfl, ?_, hd, hx⟩
  cases t with | mk k nm u t f l ts =>
  simp only [Tm.kind, Tm.name, Tm.num, Tm.type, Tm.src, Tm.label, Tm.kids] at *
  unfold Tm.row
  have i1 : ∀ n : Int, COwn w (.int n) (.int .i64 n) [] := fun n => by unfold COwn; exact ⟨rfl, rfl⟩
  have i2 : COwn w (.str nm) (.string nm) [] := by unfold COwn; exact ⟨rfl, hn, rfl⟩
  exact ⟨_, _, [], _, rfl, rfl, i1 _, _, _, [], _, rfl, rfl, i2, _, _, [], _, rfl, rfl, i1 _, _, _, [], _, rfl, rfl, i1 _, _, _, f1, _, rfl, rfl, h1, _, _, [], _, rfl, rfl, i1 _, _, _, f2, _, rfl, rfl, h2, _, _, [], _, rfl, rfl, i1 _, _, _, f3, [], rfl, by simp, h3, rfl, rfl⟩
end Go.Proofs.Ytghgjpcibdfbmaa
namespace Go.Proofs.Ytghgjpcibdfbmaa
open Go.RowKit
set_option linter.unusedVariables false
set_option linter.unusedSimpArgs false
set_option maxRecDepth 100000

mutual
def Ty.same : Ty → Ty → Bool
  | .mk k ts, .mk l us => k == l && Ty.sames ts us
def Ty.sames : List Ty → List Ty → Bool
  | [], [] => true
  | t :: ts, u :: us => t.same u && Ty.sames ts us
  | _, _ => false
end

/-- slices.EqualFunc at types: whatever the function compares. -/
def all2 (R : Ty → Ty → Bool) : List Ty → List Ty → Bool
  | [], [] => true
  | t :: ts, u :: us => R t u && all2 R ts us
  | _, _ => false

theorem all2_drop (R : Ty → Ty → Bool) (ts us : List Ty) (k : Nat) (h : k < ts.length) (h' : k < us.length) : all2 R (ts.drop k) (us.drop k) = (R ts[k] us[k] && all2 R (ts.drop (k + 1)) (us.drop (k + 1))) := by
  rw [List.drop_eq_getElem_cons h, List.drop_eq_getElem_cons h']; rfl
theorem all2_len (R : Ty → Ty → Bool) : ∀ (ts us : List Ty), ts.length ≠ us.length → all2 R ts us = false
  | [], [], h => absurd rfl h
  | [], _ :: _, _ => rfl
  | _ :: _, [], _ => rfl
  | t :: ts, u :: us, h => by
    have := all2_len R ts us (fun e => h (by simp [e]))
    simp [all2, this]
theorem all2_end (R : Ty → Ty → Bool) (ts us : List Ty) (k : Nat) (h : ts.length ≤ k) (h' : us.length ≤ k) : all2 R (ts.drop k) (us.drop k) = true := by
  rw [List.drop_eq_nil_of_le h, List.drop_eq_nil_of_le h']; rfl

theorem Ty.sames_all2 : ∀ ts us : List Ty, all2 Ty.same ts us = Ty.sames ts us
  | [], [] => by unfold Ty.sames; rfl
  | [], _ :: _ => by unfold Ty.sames; rfl
  | _ :: _, [] => by unfold Ty.sames; rfl
  | t :: ts, u :: us => by unfold Ty.sames all2; rw [Ty.sames_all2 ts us]

end Go.Proofs.Ytghgjpcibdfbmaa
namespace Go.Proofs.Ytghgjpcibdfbmaa
open Go.RowKit
set_option linter.unusedVariables false
set_option linter.unusedSimpArgs false
set_option maxRecDepth 100000

/-- What makes a name. -/
def nameB (s : ByteArray) : Bool := if h : s.size = 1 then decide ((97 : Int) ≤ ((s[0]'(by omega)).toNat : Int)) && decide (((s[0]'(by omega)).toNat : Int) ≤ 122) else false
theorem nameB_no {s : ByteArray} (h : ¬ s.size = 1) : nameB s = false := by unfold nameB; rw [dif_neg h]
theorem nameB_yes {s : ByteArray} (h : s.size = 1) (hp : 0 < s.size) : nameB s = (decide ((97 : Int) ≤ ((s[0]'hp).toNat : Int)) && decide (((s[0]'hp).toNat : Int) ≤ 122)) := by unfold nameB; rw [dif_pos h]
set_option maxHeartbeats 1000000 in
theorem implIsName (s : ByteArray) (w : World) : Calls Try.prog 147 #[.string s] w fun e w' => e = .returned (.bool (nameB s)) ∧ w = w' := by
  by_cases h1 : s.size = 1
  · have hp : 0 < s.size := by omega
    have HN := Lib.hid (nameB_yes h1 hp)
    have hi : ((s.size : Int) == 1) = true := by simp [h1]
    have hp' : (0 : Int) < (s.size : Int) := by omega
    by_cases hA : (97 : Int) ≤ ((s[0]'hp).toNat : Int)
    · have hA' : decide ((97 : Int) ≤ ((s[0]'hp).toNat : Int)) = true := decide_eq_true hA
      go_enter Try.func147, Try.ntmps147
      go_wp2_with fail
      go_ret
      exact ⟨ret_bool (by rw [HN.out, hA']; rfl), rfl⟩
    · have hA' : decide ((97 : Int) ≤ ((s[0]'hp).toNat : Int)) = false := decide_eq_false hA
      go_enter Try.func147, Try.ntmps147
      go_wp2_with fail
      go_ret
      exact ⟨ret_bool (by rw [HN.out, hA']; rfl), rfl⟩
  · have HN := Lib.hid (nameB_no h1)
    have hi : ((s.size : Int) == 1) = false := by simp; omega
    clear h1
    go_enter Try.func147, Try.ntmps147
    go_wp2_with fail
    go_ret
    exact ⟨ret_bool HN.out.symm, rfl⟩
set_option maxHeartbeats 1000000 in
theorem specL2Name (s : ByteArray) (w : World) : Calls Try.prog 144 #[.string s] w fun e w' => e = .returned (.bool (nameB s)) ∧ w = w' := by
  by_cases h1 : s.size = 1
  · have hp : 0 < s.size := by omega
    have HN := Lib.hid (nameB_yes h1 hp)
    have hi : ((s.size : Int) == 1) = true := by simp [h1]
    have hp' : (0 : Int) < (s.size : Int) := by omega
    by_cases hA : (97 : Int) ≤ ((s[0]'hp).toNat : Int)
    · have hA' : decide ((97 : Int) ≤ ((s[0]'hp).toNat : Int)) = true := decide_eq_true hA
      go_enter Try.func144, Try.ntmps144
      go_wp2_with fail
      go_ret
      exact ⟨ret_bool (by rw [HN.out, hA']; rfl), rfl⟩
    · have hA' : decide ((97 : Int) ≤ ((s[0]'hp).toNat : Int)) = false := decide_eq_false hA
      go_enter Try.func144, Try.ntmps144
      go_wp2_with fail
      go_ret
      exact ⟨ret_bool (by rw [HN.out, hA']; rfl), rfl⟩
  · have HN := Lib.hid (nameB_no h1)
    have hi : ((s.size : Int) == 1) = false := by simp; omega
    clear h1
    go_enter Try.func144, Try.ntmps144
    go_wp2_with fail
    go_ret
    exact ⟨ret_bool HN.out.symm, rfl⟩

end Go.Proofs.Ytghgjpcibdfbmaa
namespace Go.Proofs.Ytghgjpcibdfbmaa
open Go.RowKit
set_option linter.unusedVariables false
set_option linter.unusedSimpArgs false
set_option maxRecDepth 100000

def winB (n a b : Int) : Bool := decide (a ≤ n) && decide (n ≤ b)
def labelB (n : Int) : Bool := winB n 1 99 || winB n (-99) (-1)
theorem implWithin (n a b : Int) (w : World) : Calls Try.prog 148 #[.int .i64 n, .int .i64 a, .int .i64 b] w fun e w' => e = .returned (.bool (winB n a b)) ∧ Below w.heap.size w w' := by
  unfold winB
  by_cases h1 : a ≤ n
  · by_cases h2 : n ≤ b
    · go_enter Try.func148, Try.ntmps148
      go_wp2_with fail
      go_ret
      exact ⟨ret_bool (by simp [h1, h2]), Below.refl _ _⟩
    · have h2' : decide (n ≤ b) = false := decide_eq_false h2
      go_enter Try.func148, Try.ntmps148
      go_wp2_with fail
      go_ret
      exact ⟨ret_bool (by simp [h1, h2']), Below.refl _ _⟩
  · have h1' : decide (a ≤ n) = false := decide_eq_false h1
    go_enter Try.func148, Try.ntmps148
    go_wp2_with fail
    go_ret
    exact ⟨ret_bool (by simp [h1']), Below.refl _ _⟩

def absL (n : Int) : Int := if n < -99 ∨ 99 < n then 0 else if n < 0 then -n else n
theorem specL1Abs (n : Int) (w : World) : Calls Try.prog 152 #[.int .i64 n] w fun e w' => e = .returned (.int .i64 (absL n)) ∧ w = w' := by
  by_cases h1 : n < -99
  · have ha : absL n = 0 := by unfold absL; rw [if_pos (.inl h1)]
    have HA := Lib.hid ha
    clear ha
    go_enter Try.func152, Try.ntmps152
    go_wp2_with fail
    go_ret
    exact ⟨ret_int HA.out.symm, rfl⟩
  · have d1 : decide (n < -99) = false := decide_eq_false h1
    by_cases h2 : n > 99
    · have ha : absL n = 0 := by unfold absL; rw [if_pos (.inr h2)]
      have HA := Lib.hid ha
      clear ha
      go_enter Try.func152, Try.ntmps152
      go_wp2_with fail
      go_ret
      exact ⟨ret_int HA.out.symm, rfl⟩
    · have d2 : decide (n > 99) = false := decide_eq_false h2
      by_cases h3 : n < 0
      · have ha : absL n = -n := by unfold absL; rw [if_neg (by omega), if_pos h3]
        have HA := Lib.hid ha
        have hw : IntKind.i64.wrap (-n) = -n := IntWalk.i64_in _ (by omega)
        clear ha
        go_enter Try.func152, Try.ntmps152
        go_wp2_with fail
        go_ret
        exact ⟨ret_int HA.out.symm, rfl⟩
      · have ha : absL n = n := by unfold absL; rw [if_neg (by omega), if_neg h3]
        have HA := Lib.hid ha
        clear ha
        go_enter Try.func152, Try.ntmps152
        go_wp2_with fail
        go_ret
        exact ⟨ret_int HA.out.symm, rfl⟩
theorem labelB_abs (n : Int) : decide (absL n ≥ 1) = labelB n := by
  unfold absL labelB winB
  rw [Bool.eq_iff_iff]
  simp
  split
  · omega
  · split <;> omega
theorem leaf_isLabel_0 (n : Int) (h0 : (winB n 1 99) = true) : (true : Bool) = (labelB n) := by
  simp_all [labelB]

theorem leaf_isLabel_1 (n : Int) (h0 : (winB n 1 99) = false) : (winB n (-99) (-1) : Bool) = (labelB n) := by
  simp_all [labelB]

set_option maxHeartbeats 1000000 in
theorem implIsLabel (n : Int) (w : World) : Calls Try.prog 151 #[.int .i64 n] w fun e w' => e = .returned (.bool (labelB n)) ∧ Below w.heap.size w w' := by
  obtain ⟨rr, hrr⟩ : ∃ rr0 : Bool, (labelB n) = rr0 := ⟨_, rfl⟩
  rw [hrr]
  have HT := Lib.hid hrr
  clear hrr
  go_enter Try.func151, Try.ntmps151
  rcases Bool.eq_false_or_eq_true (winB n 1 99) with q1 | q1
  · have Hq1 := Lib.hid q1
    clear q1
    go_wp2_with fail
    refine (implWithin n 1 99 _).mono ?_
    rintro e w1 ⟨rfl, hb1⟩
    rw [Hq1.out]
    have hB := (bstep (Below.refl _ _) hb1)
    have zw1 := hB.size
    go_wp2_with fail
    refine bodyPost_ret (v := .bool (true)) (by simp [results, Try.results151, go_sem, bne]) rfl ?_
    exact ⟨ret_bool ((leaf_isLabel_0 n Hq1.out).trans HT.out), hB⟩
  · have Hq1 := Lib.hid q1
    clear q1
    go_wp2_with fail
    refine (implWithin n 1 99 _).mono ?_
    rintro e w2 ⟨rfl, hb2⟩
    rw [Hq1.out]
    have hB := (bstep (Below.refl _ _) hb2)
    have zw2 := hB.size
    go_wp2_with fail
    refine (implWithin n (-99) (-1) _).mono ?_
    rintro e w3 ⟨rfl, hb3⟩
    replace hB := (bstep hB hb3)
    have zw3 := hB.size
    go_wp2_with fail
    refine bodyPost_ret (v := .bool (winB n (-99) (-1))) (by simp [results, Try.results151, go_sem, bne]) rfl ?_
    exact ⟨ret_bool ((leaf_isLabel_1 n Hq1.out).trans HT.out), hB⟩
end Go.Proofs.Ytghgjpcibdfbmaa
namespace Go.Proofs.Ytghgjpcibdfbmaa
open Go.RowKit
set_option linter.unusedVariables false
set_option linter.unusedSimpArgs false
set_option maxRecDepth 100000

set_option maxHeartbeats 2000000 in
theorem markText_any (k : Int) (h0 : 0 ≤ k) (h1 : k ≤ 1099511627776) (w : World) :
    Calls Try.prog 111 #[.int .i64 k] w fun e w' => (∃ s, e = .returned (.string s)) ∧ Below w.heap.size w w' := by
  by_cases hk : k ≤ 0
  · have hd : decide (k ≤ 0) = true := decide_eq_true hk
    go_enter Try.func111, Try.ntmps111
    go_wp2_with fail
    go_ret
    exact ⟨⟨_, rfl⟩, Below.refl _ _⟩
  · have hd : decide (k ≤ 0) = false := decide_eq_false hk
    go_enter Try.func111, Try.ntmps111
    go_wp2_with fail
    go_loopw [0, 3] (fun p q wr => (∃ n : Int, p = .int .i64 n ∧ 0 ≤ n ∧ n ≤ 1099511627776 ∧ ∃ s : ByteArray, q = .string s ∧ ∃ d : Nat, s.size + d = 13 ∧ Hid (n < 10 ^ d)) ∧ Below w.heap.size w wr) (fun p _ _ => (intOf p).toNat)
    case atStart =>
      have h13 : (10 : Int) ^ 13 = 10000000000000 := by decide
      exact ⟨⟨k, rfl, h0, h1, ⟨#[]⟩, rfl, 13, rfl, by unfold Hid; omega⟩, Below.refl _ _⟩
    case round =>
      obtain ⟨⟨n, rfl, hn0, hn1, s, rfl, d, hsd, hnd⟩, hbw⟩ := hrel
      by_cases hn : n > 0
      · have hdn : decide (n > 0) = true := decide_eq_true hn
        obtain ⟨b, hb⟩ : ∃ b : UInt8, (48 + n % 10 : Int) = (b.toNat : Int) := ⟨UInt8.ofNat (48 + n % 10).toNat, by simp; omega⟩
        have hcb := run_convert_bytes_back (P := Try.prog) (wr.alloc (.cells #[.int .u8 (b.toNat : Int)] 5)) 107 9 5 ⟨wr.heap.size, 0, none⟩ 1 [b] Try.underlying107 Try.underlying5 Try.underlying9 (fun j hj => by
          have : j = 0 := by simpa using hj
          subst this
          simp [Addr.add])
        have hd0 : 0 < d := by
          rcases Nat.eq_zero_or_pos d with h | h
          · subst h
            have := hnd.out
            simp at this
            omega
          · exact h
        obtain ⟨d', rfl⟩ : ∃ x, d = x + 1 := ⟨d - 1, by omega⟩
        have hst : ¬ (9223372036854775807 < 1 + s.size) := by omega
        have hq : n / 10 < 10 ^ d' := by
          have h1 := hnd.out
          have : (10 : Int) ^ (d' + 1) = 10 ^ d' * 10 := Int.pow_succ ..
          exact Int.ediv_lt_of_lt_mul (by omega) (by omega)
        have HQ := Lib.hid hq
        clear hq hnd
        simp only [List.length_singleton] at hcb
        go_wp2_with fail
        go_roundw
        case rel => exact ⟨⟨n / 10, rfl, by omega, by omega, _, rfl, d', by rw [ByteArray.size_append]; show 1 + s.size + d' = 13; omega, HQ.out⟩, bstep hbw bal1⟩
        case measure => simp [intOf]; omega
      · have hdn : decide (n > 0) = false := decide_eq_false hn
        have hst : ¬ (9223372036854775807 < 1 + s.size) := by omega
        go_wp2_with fail
        go_ret
        exact ⟨⟨_, rfl⟩, hbw⟩
end Go.Proofs.Ytghgjpcibdfbmaa
namespace Go.Proofs.Ytghgjpcibdfbmaa
open Go.RowKit
set_option linter.unusedVariables false
set_option linter.unusedSimpArgs false
set_option maxRecDepth 100000

def mdig (n : Nat) (s : ByteArray) : ByteArray := if h : 0 < n then mdig (n / 10) ({ data := #[UInt8.ofNat (48 + n % 10)] } ++ s) else s
termination_by n
decreasing_by omega
theorem mdig_zero (s : ByteArray) : mdig 0 s = s := by rw [mdig]; simp
theorem mdig_pos {n : Int} (hn : 0 < n) {b : UInt8} (hb : (48 + n % 10 : Int) = (b.toNat : Int)) (s : ByteArray) : mdig n.toNat s = mdig (n / 10).toNat ({ data := #[b] } ++ s) := by
  rw [mdig]
  have h0 : 0 < n.toNat := by omega
  rw [dif_pos h0]
  have e1 : n.toNat / 10 = (n / 10).toNat := by omega
  have e2 : UInt8.ofNat (48 + n.toNat % 10) = b := by
    have : 48 + n.toNat % 10 = b.toNat := by omega
    rw [this]; simp
  rw [e1, e2]
def mtext (k : Int) : ByteArray := if k ≤ 0 then { data := #[109, 48] } else { data := #[109] } ++ mdig k.toNat { data := #[] }
set_option maxHeartbeats 2000000 in
theorem markText_val (k : Int) (h0 : 0 ≤ k) (h1 : k ≤ 1099511627776) (w : World) :
    Calls Try.prog 111 #[.int .i64 k] w fun e w' => e = .returned (.string (mtext k)) ∧ (mtext k).size ≤ maxLen ∧ Below w.heap.size w w' := by
  by_cases hk : k ≤ 0
  · have hd : decide (k ≤ 0) = true := decide_eq_true hk
    have hm : mtext k = { data := #[109, 48] } := by unfold mtext; rw [if_pos hk]
    rw [hm]
    go_enter Try.func111, Try.ntmps111
    go_wp2_with fail
    go_ret
    exact ⟨rfl, by show 2 ≤ _; unfold maxLen; omega, Below.refl _ _⟩
  · have hd : decide (k ≤ 0) = false := decide_eq_false hk
    have hm : mtext k = { data := #[109] } ++ mdig k.toNat { data := #[] } := by unfold mtext; rw [if_neg hk]
    rw [hm]
    obtain ⟨R, hR⟩ : ∃ x, mdig k.toNat { data := #[] } = x := ⟨_, rfl⟩
    rw [hR]
    have HR := Lib.hid hR
    clear hR hm
    go_enter Try.func111, Try.ntmps111
    go_wp2_with fail
    go_loopw [0, 3] (fun p q wr => (∃ n : Int, p = .int .i64 n ∧ 0 ≤ n ∧ n ≤ 1099511627776 ∧ ∃ s : ByteArray, q = .string s ∧ ∃ d : Nat, s.size + d = 13 ∧ Hid (n < 10 ^ d) ∧ Hid (mdig n.toNat s = R)) ∧ Below w.heap.size w wr) (fun p _ _ => (intOf p).toNat)
    case atStart =>
      have h13 : (10 : Int) ^ 13 = 10000000000000 := by decide
      exact ⟨⟨k, rfl, h0, h1, ⟨#[]⟩, rfl, 13, rfl, by unfold Hid; omega, HR.out⟩, Below.refl _ _⟩
    case round =>
      obtain ⟨⟨n, rfl, hn0, hn1, s, rfl, d, hsd, hnd, hmd⟩, hbw⟩ := hrel
      by_cases hn : n > 0
      · have hdn : decide (n > 0) = true := decide_eq_true hn
        obtain ⟨b, hb⟩ : ∃ b : UInt8, (48 + n % 10 : Int) = (b.toNat : Int) := ⟨UInt8.ofNat (48 + n % 10).toNat, by simp; omega⟩
        have hcb := run_convert_bytes_back (P := Try.prog) (wr.alloc (.cells #[.int .u8 (b.toNat : Int)] 5)) 107 9 5 ⟨wr.heap.size, 0, none⟩ 1 [b] Try.underlying107 Try.underlying5 Try.underlying9 (fun j hj => by
          have : j = 0 := by simpa using hj
          subst this
          simp [Addr.add])
        have hd0 : 0 < d := by
          rcases Nat.eq_zero_or_pos d with h | h
          · subst h
            have := hnd.out
            simp at this
            omega
          · exact h
        obtain ⟨d', rfl⟩ : ∃ x, d = x + 1 := ⟨d - 1, by omega⟩
        have hst : ¬ (9223372036854775807 < 1 + s.size) := by omega
        have hq : n / 10 < 10 ^ d' := by
          have h1 := hnd.out
          have : (10 : Int) ^ (d' + 1) = 10 ^ d' * 10 := Int.pow_succ ..
          exact Int.ediv_lt_of_lt_mul (by omega) (by omega)
        have HQ := Lib.hid hq
        have hmd2 := hmd.out
        rw [mdig_pos hn hb] at hmd2
        have HMD := Lib.hid hmd2
        clear hq hnd hmd hmd2
        simp only [List.length_singleton] at hcb
        go_wp2_with fail
        go_roundw
        case rel => exact ⟨⟨n / 10, rfl, by omega, by omega, _, rfl, d', by rw [ByteArray.size_append]; show 1 + s.size + d' = 13; omega, HQ.out, HMD.out⟩, bstep hbw bal1⟩
        case measure => simp [intOf]; omega
      · have hdn : decide (n > 0) = false := decide_eq_false hn
        have hst : ¬ (9223372036854775807 < 1 + s.size) := by omega
        have hn0' : n = 0 := by omega
        have hmd2 := hmd.out
        rw [hn0'] at hmd2
        have hRs : R = s := by rw [← hmd2]; exact mdig_zero s
        have HRS := Lib.hid hRs
        clear hmd hmd2 hRs hn0'
        go_wp2_with fail
        go_ret
        rw [HRS.out]
        exact ⟨rfl, by first | (unfold maxLen; omega) | (rw [ByteArray.size_append]; show 1 + s.size ≤ _; unfold maxLen; omega), hbw⟩
end Go.Proofs.Ytghgjpcibdfbmaa
