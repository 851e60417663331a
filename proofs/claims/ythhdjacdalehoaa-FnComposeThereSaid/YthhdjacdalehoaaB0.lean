/-
  Data of the language, whatever the type: a cell holds a number, a string or a slice of rows of cells; what it means that a value of the model reads as such data in a world; that this is kept while the blocks concerned are kept.
  Arguments read as data: slices of rows.
  Types as trees.
  Worlds that differ in few blocks.
  Data in memory of one's own: every slice starts at the head of a block that nothing else uses. 'fp': the blocks, in the order in which they are met.
-/
import Derived.WalkKit
import Derived.WalkSpells
import Derived.WalkLawsBesides
import Derived.Lib.Hide
import Derived.Deep.Draws
import Derived.Test.YthhdjacdalehoaaRows
import Derived.ProofKit
import Derived.OpenShut
import Derived.ShutString
import Derived.ChangeOld
namespace Go.Proofs.Ythhdjacdalehoaa
open Go.RowKit
set_option linter.unusedVariables false
set_option linter.unusedSimpArgs false

inductive C where
  | int (n : Int)
  | str (s : ByteArray)
  | sl (rows : List (List C))

mutual
def CRep (F : Nat → Prop) (w : World) : C → Value → Prop
  | .int n, y => y = .int .i64 n
  | .str s, y => y = .string s ∧ s.size ≤ maxLen
  | .sl rows, y => ∃ (a : Option Addr) (cap : Nat), y = .slice a rows.length cap ∧ rows.length ≤ cap ∧ cap ≤ maxLen ∧
      (rows = [] ∨ ∃ b off, a = some ⟨b, off, none⟩ ∧ F b ∧ b < w.heap.size ∧ RowsAt F w b off rows)
def RowsAt (F : Nat → Prop) (w : World) (b : Nat) : Nat → List (List C) → Prop
  | _, [] => True
  | off, r :: rs => CellsAt F w b off r ∧ RowsAt F w b (off + r.length) rs
def CellsAt (F : Nat → Prop) (w : World) (b : Nat) : Nat → List C → Prop
  | _, [] => True
  | off, c :: cs => (∃ y, w.cell? ⟨b, off, none⟩ = some y ∧ CRep F w c y) ∧ CellsAt F w b (off + 1) cs
end

/-- The same data in another world, where the blocks that it reads are the same. -/
structure Keeps (F G : Nat → Prop) (w w' : World) : Prop where
  size : w.heap.size ≤ w'.heap.size
  sub : ∀ b, F b → b < w.heap.size → G b
  same : ∀ b, F b → b < w.heap.size → w'.heap[b]? = w.heap[b]?

mutual
theorem CRep.move {F G : Nat → Prop} {w w' : World} (k : Keeps F G w w') : ∀ (c : C) (y : Value), CRep F w c y → CRep G w' c y
  | .int n, y, h => by unfold CRep at h ⊢; exact h
  | .str s, y, h => by unfold CRep at h ⊢; exact h
  | .sl rows, y, h => by
    unfold CRep at h ⊢
    obtain ⟨a, cap, h1, h2, h3, h4⟩ := h
    refine ⟨a, cap, h1, h2, h3, ?_⟩
    rcases h4 with h4 | ⟨b, off, ha, hb, hl, hr⟩
    · exact .inl h4
    · exact .inr ⟨b, off, ha, k.sub b hb hl, Nat.lt_of_lt_of_le hl k.size, RowsAt.move k b hb hl off rows hr⟩
theorem RowsAt.move {F G : Nat → Prop} {w w' : World} (k : Keeps F G w w') (b : Nat) (hb : F b) (hl : b < w.heap.size) :
    ∀ (off : Nat) (rows : List (List C)), RowsAt F w b off rows → RowsAt G w' b off rows
  | _, [], _ => by unfold RowsAt; trivial
  | off, r :: rs, h => by
    unfold RowsAt at h ⊢
    exact ⟨CellsAt.move k b hb hl off r h.1, RowsAt.move k b hb hl _ rs h.2⟩
theorem CellsAt.move {F G : Nat → Prop} {w w' : World} (k : Keeps F G w w') (b : Nat) (hb : F b) (hl : b < w.heap.size) :
    ∀ (off : Nat) (r : List C), CellsAt F w b off r → CellsAt G w' b off r
  | _, [], _ => by unfold CellsAt; trivial
  | off, c :: cs, h => by
    unfold CellsAt at h ⊢
    obtain ⟨⟨y, hy, hc⟩, h2⟩ := h
    exact ⟨⟨y, (World.cell?_of_block (a := ⟨b, off, none⟩) (k.same b hb hl)).trans hy, CRep.move k c y hc⟩, CellsAt.move k b hb hl _ cs h2⟩
end

theorem Keeps.below {F : Nat → Prop} {w w' : World} (h : Below w.heap.size w w') : Keeps F F w w' := ⟨h.size, fun _ h _ => h, fun b _ hl => h.block b hl⟩
theorem Keeps.weaken {F G : Nat → Prop} {w : World} (h : ∀ b, F b → b < w.heap.size → G b) : Keeps F G w w := ⟨Nat.le_refl _, h, fun _ _ _ => rfl⟩

/-- A struct by value reads as a row. -/
def SRep (F : Nat → Prop) (w : World) : List C → List Value → Prop
  | [], ys => ys = []
  | c :: cs, ys => ∃ z zs, ys = z :: zs ∧ CRep F w c z ∧ SRep F w cs zs
theorem SRep.move {F G : Nat → Prop} {w w' : World} (k : Keeps F G w w') : ∀ (r : List C) (ys : List Value), SRep F w r ys → SRep G w' r ys
  | [], _, h => h
  | _ :: cs, _, ⟨z, zs, h, hc, hs⟩ => ⟨z, zs, h, hc.move k _ _, hs.move k cs zs⟩

theorem CellsAt.get {F : Nat → Prop} {w : World} {b : Nat} : ∀ {off : Nat} {r : List C}, CellsAt F w b off r → ∃ ys, SRep F w r ys ∧ ys.length = r.length ∧ ∀ j (h : j < ys.length), w.cell? ⟨b, off + j, none⟩ = some ys[j]
  | _, [], _ => ⟨[], rfl, rfl, fun _ h => absurd h (Nat.not_lt_zero _)⟩
  | off, c :: cs, h => by
    unfold CellsAt at h
    obtain ⟨⟨y, hy, hc⟩, h2⟩ := h
    obtain ⟨ys, hs, hlen, hg⟩ := CellsAt.get h2
    refine ⟨y :: ys, ⟨y, ys, rfl, hc, hs⟩, by simp [hlen], fun j hj => ?_⟩
    cases j with
    | zero => exact hy
    | succ j =>
      have := hg j (by simpa using hj)
      rw [show off + (j + 1) = off + 1 + j from by omega]
      simpa using this

theorem RowsAt.get {F : Nat → Prop} {w : World} {b m : Nat} : ∀ {off : Nat} {rows : List (List C)}, RowsAt F w b off rows → (∀ r ∈ rows, r.length = m) → ∀ i (h : i < rows.length), CellsAt F w b (off + i * m) rows[i]
  | _, [], _, _, _, h => absurd h (Nat.not_lt_zero _)
  | off, r :: rs, h, hm, i, hi => by
    unfold RowsAt at h
    cases i with
    | zero => simpa using h.1
    | succ i =>
      have := RowsAt.get h.2 (fun r hr => hm r (List.mem_cons_of_mem _ hr)) i (by simpa using hi)
      rw [hm r (List.mem_cons_self ..)] at this
      rw [show off + (i + 1) * m = off + m + i * m from by rw [Nat.add_mul]; omega]
      simpa using this

/-- The rows behind a slice that reads as data. -/
theorem CRep.rows {F : Nat → Prop} {w : World} {rows : List (List C)} {y : Value} (h : CRep F w (.sl rows) y) :
    ∃ (a : Option Addr) (cap : Nat), y = .slice a rows.length cap ∧ rows.length ≤ cap ∧ cap ≤ maxLen ∧ (rows = [] ∨ ∃ b off, a = some ⟨b, off, none⟩ ∧ F b ∧ b < w.heap.size ∧ RowsAt F w b off rows) := by
  unfold CRep at h; exact h
theorem CRep.int_eq {F : Nat → Prop} {w : World} {n : Int} {y : Value} (h : CRep F w (.int n) y) : y = .int .i64 n := by unfold CRep at h; exact h
/-- What a call leaves alone that came behind what was left alone. -/
theorem bstep {w W w1 : World} (h : Below w.heap.size w W) (h1 : Below W.heap.size W w1) : Below w.heap.size w w1 := h.trans (h1.mono h.size)
theorem bal1 {w : World} {o : Obj} : Below w.heap.size w (w.alloc o) := (Below.refl _ _).alloc (Nat.le_refl _) _
theorem bal2 {w : World} {o o' : Obj} : Below w.heap.size w ((w.alloc o).alloc o') := bstep bal1 bal1
theorem bal3 {w : World} {o o' o2 : Obj} : Below w.heap.size w (((w.alloc o).alloc o').alloc o2) := bstep bal2 bal1

theorem bcell {w w1 : World} {a : Addr} {v : Value} (h : Below w.heap.size w w1) (hc : w.cell? a = some v) : w1.cell? a = some v :=
  (h.cell (World.block_lt_of_cell? w a hc)).trans hc
/-- What the walk takes as rules behind a call: what was there reads as it did. -/
theorem brules {W w1 : World} (hb : Below W.heap.size W w1) : (∀ b o, b < W.heap.size → w1.cell? ⟨b, o, none⟩ = W.cell? ⟨b, o, none⟩) ∧ (∀ b o, b < W.heap.size → w1.frozen? ⟨b, o, none⟩ = W.frozen? ⟨b, o, none⟩) :=
  ⟨fun b o h => hb.cell (p := ⟨b, o, none⟩) h, fun b o h => hb.frozen (p := ⟨b, o, none⟩) h⟩
theorem bcelld {w w1 : World} {a : Addr} {v : Value} (h : Below w.drew.heap.size w.drew w1) (hc : w.cell? a = some v) : w1.cell? a = some v := bcell (w := w.drew) h hc
theorem below_drewN {B : Nat} {a w : World} (h : Below B a w) (n : Nat) : Below B a (w.drewN n) := ⟨h.os, h.tape, h.output, h.size, h.block⟩
theorem bdr {w : World} : Below w.heap.size w w.drew := (Below.refl _ _).drew
theorem bdrew {w w1 W : World} (h : Below w.heap.size w W) (h1 : Below W.drew.heap.size W.drew w1) : Below w.heap.size w w1 := bstep h.drew h1

theorem cell_n0 {w : World} {cs : Array Value} {T : TypeId} (j : Nat) : (w.alloc (.cells cs T)).cell? ⟨w.heap.size, j, none⟩ = cs[j]? := by
  unfold World.cell?; rw [heap_alloc_new w _]; rfl
theorem cell_n1 {w : World} {o : Obj} {cs : Array Value} {T : TypeId} (j : Nat) : ((w.alloc o).alloc (.cells cs T)).cell? ⟨w.heap.size + 1, j, none⟩ = cs[j]? := by
  have h := cell_n0 (w := w.alloc o) (cs := cs) (T := T) j
  rw [show (w.alloc o).heap.size = w.heap.size + 1 from by simp] at h
  exact h
theorem cell_n2 {w : World} {o o' : Obj} {cs : Array Value} {T : TypeId} (j : Nat) : (((w.alloc o).alloc o').alloc (.cells cs T)).cell? ⟨w.heap.size + 1 + 1, j, none⟩ = cs[j]? := by
  have h := cell_n1 (w := w.alloc o) (o := o') (cs := cs) (T := T) j
  rw [show (w.alloc o).heap.size = w.heap.size + 1 from by simp] at h
  exact h
theorem fro_n0 {w : World} {cs : Array Value} {T : TypeId} (j : Nat) : (w.alloc (.cells cs T)).frozen? ⟨w.heap.size, j, none⟩ = false := by
  unfold World.frozen?; rw [heap_alloc_new w _]; simp
theorem fro_n1 {w : World} {o : Obj} {cs : Array Value} {T : TypeId} (j : Nat) : ((w.alloc o).alloc (.cells cs T)).frozen? ⟨w.heap.size + 1, j, none⟩ = false := by
  have h := fro_n0 (w := w.alloc o) (cs := cs) (T := T) j
  rw [show (w.alloc o).heap.size = w.heap.size + 1 from by simp] at h
  exact h
theorem fro_n2 {w : World} {o o' : Obj} {cs : Array Value} {T : TypeId} (j : Nat) : (((w.alloc o).alloc o').alloc (.cells cs T)).frozen? ⟨w.heap.size + 1 + 1, j, none⟩ = false := by
  have h := fro_n1 (w := w.alloc o) (o := o') (cs := cs) (T := T) j
  rw [show (w.alloc o).heap.size = w.heap.size + 1 from by simp] at h
  exact h
theorem bfro {w w1 : World} {b j : Nat} (h : Below w.heap.size w w1) (hb : b < w.heap.size) (hf : w.frozen? ⟨b, j, none⟩ = false) : w1.frozen? ⟨b, j, none⟩ = false :=
  (h.frozen (p := ⟨b, j, none⟩) hb).trans hf
theorem ret_bool {a b : Bool} (h : a = b) : Ending.returned (.bool a) = .returned (.bool b) := by rw [h]
theorem ret_int {k : IntKind} {a b : Int} (h : a = b) : Ending.returned (.int k a) = .returned (.int k b) := by rw [h]
end Go.Proofs.Ythhdjacdalehoaa
namespace Go.Proofs.Ythhdjacdalehoaa
open Go.RowKit Go.ChangeShapes Go.WideShapes
set_option linter.unusedVariables false
set_option linter.unusedSimpArgs false
set_option maxRecDepth 100000

theorem Addr_add_off {a : Addr} (n : Nat) (h : a.spot = none) : a.add n = ⟨a.block, a.off + n, none⟩ := by
  unfold Addr.add
  split
  · rename_i h0; subst h0; cases a; simp at h; subst h; rfl
  · rfl
theorem spot_of_cell {w : World} {a : Addr} {v : Value} (h : w.cell? a = some v) : a.spot = none := by
  unfold World.cell? at h
  split at h
  · split at h
    · cases h
    · rename_i hs; simpa using hs
  · cases h

theorem SRep.cells {F : Nat → Prop} {w : World} {b : Nat} : ∀ (r : List C) (ys : List Value) (off : Nat), SRep F w r ys → (∀ i, i < ys.length → w.cell? ⟨b, off + i, none⟩ = ys[i]?) → CellsAt F w b off r
  | [], _, _, _, _ => by unfold CellsAt; trivial
  | c :: cs, _, off, ⟨z, zs, e, h1, h2⟩, k => by
    subst e
    unfold CellsAt
    refine ⟨⟨z, by simpa using k 0 (by simp), h1⟩, SRep.cells cs zs _ h2 fun i hi => ?_⟩
    have := k (i + 1) (by simpa using hi)
    rw [show off + 1 + i = off + (i + 1) from by omega]
    simpa using this
section
variable {H : Type} {enc : TypeId × Value → H} {w : World} {base : Nat} {held : Bool} {spare : Nat → Bool}

end

section
variable {H : Type} {enc : TypeId × Value → H} {P : Program}
/-- The row's last step where of the world behind the call 'Below' alone is known. -/
theorem below_trod {t : TypeId} (hl : laidOutB P = true) (hr : P.readableRec t = true) (hrow : t < P.types.size) {W W' : World} {v : Value} {d : DataW H} {ps : List MemPlace}
    (h : DataW.Trod enc P W 0 (fun _ => true) true t v d ps) (hb : Below W.heap.size W W') :
    DataW.Trod enc P W' 0 (fun b => decide (b < W.heap.size)) true t v d ps :=
  Below.trod hl hr hrow h hb (by obtain ⟨m, hm⟩ := h; exact DataW.trod_lt m _ _ _ hm)
end
end Go.Proofs.Ythhdjacdalehoaa
namespace Go.Proofs.Ythhdjacdalehoaa
open Go.RowKit
set_option linter.unusedVariables false
set_option linter.unusedSimpArgs false

inductive Ty where
  | mk (kind : Int) (kids : List Ty)

def Ty.kind : Ty → Int | .mk k _ => k
def Ty.kids : Ty → List Ty | .mk _ ts => ts

mutual
def Ty.row : Ty → List C
  | .mk k ts => [.int k, .sl (Ty.rows ts)]
def Ty.rows : List Ty → List (List C)
  | [] => []
  | t :: ts => t.row :: Ty.rows ts
end
theorem Ty.rows_eq (ts : List Ty) : Ty.rows ts = ts.map Ty.row := by
  induction ts with
  | nil => rfl
  | cons t ts ih => unfold Ty.rows; rw [ih]; rfl
theorem Ty.rows_length (ts : List Ty) : (Ty.rows ts).length = ts.length := by rw [Ty.rows_eq]; simp
theorem Ty.row_length : ∀ t : Ty, t.row.length = 2 | .mk _ _ => by unfold Ty.row; rfl

/-- A slice of types. -/
def TysRep (F : Nat → Prop) (w : World) (ts : List Ty) (y : Value) : Prop := CRep F w (.sl (Ty.rows ts)) y
/-- A type by value. -/
def TyRep (F : Nat → Prop) (w : World) (t : Ty) (y : Value) : Prop := ∃ s, y = .agg #[.int .i64 t.kind, s] ∧ TysRep F w t.kids s

theorem TysRep.move {F G : Nat → Prop} {w w' : World} {ts : List Ty} {y : Value} (h : TysRep F w ts y) (k : Keeps F G w w') : TysRep G w' ts y := CRep.move k _ _ h
theorem TyRep.move {F G : Nat → Prop} {w w' : World} {t : Ty} {y : Value} (h : TyRep F w t y) (k : Keeps F G w w') : TyRep G w' t y :=
  let ⟨s, h1, h2⟩ := h; ⟨s, h1, h2.move k⟩
theorem TyRep.below {F : Nat → Prop} {w w' : World} {t : Ty} {y : Value} (h : TyRep F w t y) (k : Below w.heap.size w w') : TyRep F w' t y := h.move (.below k)
theorem TysRep.below {F : Nat → Prop} {w w' : World} {t : List Ty} {y : Value} (h : TysRep F w t y) (k : Below w.heap.size w w') : TysRep F w' t y := h.move (.below k)

theorem TysRep.open {F : Nat → Prop} {w : World} {ts : List Ty} {y : Value} (h : TysRep F w ts y) :
    ∃ (a : Option Addr) (cap : Nat), y = .slice a ts.length cap ∧ ts.length ≤ cap ∧ cap ≤ maxLen ∧
      ∀ i (h : i < ts.length), ∃ b off k c m q, a = some ⟨b, off, none⟩ ∧ w.cell? ⟨b, off + i * 2, none⟩ = some (.int .i64 k) ∧ w.cell? ⟨b, off + i * 2 + 1, none⟩ = some (.slice c m q) ∧ TyRep F w ts[i] (.agg #[.int .i64 k, .slice c m q]) := by
  obtain ⟨a, cap, h1, h2, h3, h4⟩ := CRep.rows h
  rw [Ty.rows_length] at h1 h2
  refine ⟨a, cap, h1, h2, h3, fun i hi => ?_⟩
  rcases h4 with h4 | ⟨b, off, ha, hF, hl, hr⟩
  · rw [← Ty.rows_length, h4] at hi; exact absurd hi (Nat.not_lt_zero _)
  · have hc := hr.get (m := 2) (fun r hr => by rw [Ty.rows_eq] at hr; obtain ⟨t, _, rfl⟩ := List.mem_map.1 hr; exact t.row_length) i (by rw [Ty.rows_length]; exact hi)
    have he : (Ty.rows ts)[i]'(by rw [Ty.rows_length]; exact hi) = ts[i].row := by simp [Ty.rows_eq]
    rw [he] at hc
    obtain ⟨k, ks, ht⟩ : ∃ k ks, ts[i] = Ty.mk k ks := ⟨ts[i].kind, ts[i].kids, by cases ts[i]; rfl⟩
    rw [ht] at hc ⊢
    unfold Ty.row CellsAt at hc
    obtain ⟨⟨y0, hy0, hc0⟩, hc⟩ := hc
    unfold CellsAt at hc
    obtain ⟨⟨y1, hy1, hc1⟩, _⟩ := hc
    rw [CRep.int_eq hc0] at hy0
    obtain ⟨c, q, rfl, _⟩ := CRep.rows hc1
    exact ⟨b, off, k, c, _, q, ha, hy0, hy1, _, rfl, hc1⟩
theorem TyRep.open {F : Nat → Prop} {w : World} {t : Ty} {y : Value} (h : TyRep F w t y) :
    ∃ (a : Option Addr) (cap : Nat), y = .agg #[.int .i64 t.kind, .slice a t.kids.length cap] ∧ t.kids.length ≤ cap ∧ cap ≤ maxLen ∧ TysRep F w t.kids (.slice a t.kids.length cap) := by
  obtain ⟨s, rfl, hs⟩ := h
  obtain ⟨a, cap, rfl, h2, h3, _⟩ := hs.open
  exact ⟨a, cap, rfl, h2, h3, hs⟩
theorem TyRep.shape {F : Nat → Prop} {w : World} {t : Ty} {y : Value} (h : TyRep F w t y) : ∃ k a n q, y = .agg #[.int .i64 k, .slice a n q] := by
  obtain ⟨a, q, rfl, _⟩ := h.open
  exact ⟨_, a, _, q, rfl⟩
theorem TysRep.shape {F : Nat → Prop} {w : World} {t : List Ty} {y : Value} (h : TysRep F w t y) : ∃ a n q, y = .slice a n q := by
  obtain ⟨a, q, rfl, _⟩ := h.open
  exact ⟨a, _, q, rfl⟩
theorem Ty.kid_lt {t : Ty} {x : Ty} (h : x ∈ t.kids) : SizeOf.sizeOf x < SizeOf.sizeOf t := by
  cases t with
  | mk k ts => have := List.sizeOf_lt_of_mem h; simp only [Ty.kids] at h this; simp; omega

mutual
/-- How many types lie below a type. -/
def Ty.cnt : Ty → Nat
  | .mk _ ts => ts.length + Ty.cnts ts
def Ty.cnts : List Ty → Nat
  | [] => 0
  | t :: ts => t.cnt + Ty.cnts ts
end
theorem Ty.cnts_take_succ : ∀ (ts : List Ty) (j : Nat) (h : j < ts.length), Ty.cnts (ts.take (j + 1)) = Ty.cnts (ts.take j) + ts[j].cnt
  | [], _, h => absurd h (Nat.not_lt_zero _)
  | t :: ts, 0, _ => by simp [Ty.cnts]
  | t :: ts, j + 1, h => by
    have := Ty.cnts_take_succ ts j (by simpa using h)
    simp only [List.take_succ_cons, Ty.cnts, List.getElem_cons_succ]
    omega
theorem Ty.cnts_take_le : ∀ (ts : List Ty) (j : Nat), Ty.cnts (ts.take j) ≤ Ty.cnts ts
  | [], _ => by simp
  | t :: ts, 0 => by simp [Ty.cnts]
  | t :: ts, j + 1 => by
    have := Ty.cnts_take_le ts j
    simp only [List.take_succ_cons, Ty.cnts]
    omega
theorem Ty.cnt_mem : ∀ {ts : List Ty} {t : Ty}, t ∈ ts → t.cnt ≤ Ty.cnts ts
  | u :: ts, t, h => by
    rcases List.mem_cons.1 h with rfl | h
    · simp only [Ty.cnts]; omega
    · have := Ty.cnt_mem h; simp only [Ty.cnts]; omega
theorem Ty.cnt_kid {t x : Ty} (h : x ∈ t.kids) : x.cnt + t.kids.length ≤ t.cnt := by
  cases t with
  | mk k ts => have h2 : x ∈ ts := h; have := Ty.cnt_mem h2; simp only [Ty.kids, Ty.cnt]; omega
theorem TysRep.at {F : Nat → Prop} {w wr : World} {ts : List Ty} {a : Option Addr} {n cap : Nat} (h : TysRep F w ts (.slice a n cap)) (hb : Below w.heap.size w wr) {i : Nat} (hi : i < ts.length) :
    ∃ b off k c m q, a = some ⟨b, off, none⟩ ∧ b < wr.heap.size ∧ wr.cell? ⟨b, off + i * 2, none⟩ = some (.int .i64 k) ∧ wr.cell? ⟨b, off + i * 2 + 1, none⟩ = some (.slice c m q) ∧ TyRep F wr ts[i] (.agg #[.int .i64 k, .slice c m q]) := by
  obtain ⟨a', cap', he, _, _, hg⟩ := h.open
  simp only [Value.slice.injEq] at he
  obtain ⟨rfl, _, rfl⟩ := he
  obtain ⟨b, off, k, c, m, q, ha, h0, h1, ht⟩ := hg i hi
  have e0 := (hb.cell (p := ⟨b, off + i * 2, none⟩) (World.block_lt_of_cell? w _ h0)).trans h0
  exact ⟨b, off, k, c, m, q, ha, World.block_lt_of_cell? wr _ e0, e0, (hb.cell (p := ⟨b, off + i * 2 + 1, none⟩) (World.block_lt_of_cell? w _ h1)).trans h1, ht.below hb⟩
end Go.Proofs.Ythhdjacdalehoaa
namespace Go.Proofs.Ythhdjacdalehoaa
open Go.RowKit
set_option linter.unusedVariables false
set_option linter.unusedSimpArgs false

/-- Only the blocks of a list, and what is new, have turned. -/
structure Chg (fp : List Nat) (w w' : World) : Prop where
  os : w'.os = w.os
  tape : w'.tape = w.tape
  output : w'.output = w.output
  size : w.heap.size ≤ w'.heap.size
  block : ∀ k, k < w.heap.size → k ∉ fp → w'.heap[k]? = w.heap[k]?
theorem Chg.of_below {fp : List Nat} {w w' : World} (h : Below w.heap.size w w') : Chg fp w w' := ⟨h.os, h.tape, h.output, h.size, fun k hk _ => h.block k hk⟩
theorem Chg.refl (fp : List Nat) (w : World) : Chg fp w w := .of_below (Below.refl _ _)
theorem Chg.trans {fp : List Nat} {w w1 w2 : World} (h : Chg fp w w1) (k : Chg fp w1 w2) : Chg fp w w2 :=
  ⟨k.os.trans h.os, k.tape.trans h.tape, k.output.trans h.output, Nat.le_trans h.size k.size, fun b hb hn => (k.block b (Nat.lt_of_lt_of_le hb h.size) hn).trans (h.block b hb hn)⟩
theorem Chg.mono {fp fp' : List Nat} {w w' : World} (h : Chg fp w w') (hs : ∀ x ∈ fp, x ∈ fp') : Chg fp' w w' :=
  ⟨h.os, h.tape, h.output, h.size, fun b hb hn => h.block b hb (fun hx => hn (hs b hx))⟩
theorem Chg.setCell {fp : List Nat} {w w' : World} (h : Chg fp w w') {p : Addr} (hp : p.block ∈ fp) (v : Value) : Chg fp w (w'.setCell p v) :=
  ⟨h.os, h.tape, h.output, by simpa [World.setCell] using h.size, fun b hb hn => (Below.heap_setCell w' p v b (fun e => hn (e ▸ hp))).trans (h.block b hb hn)⟩
theorem Chg.below {fp : List Nat} {w w' : World} {B : Nat} (h : Chg fp w w') (hB : ∀ x ∈ fp, B ≤ x) (hs : B ≤ w.heap.size) : Below B w w' :=
  ⟨h.os, h.tape, h.output, h.size, fun k hk => h.block k (by omega) (fun hx => by have := hB k hx; omega)⟩
theorem Chg.cell {fp : List Nat} {w w' : World} {a : Addr} {v : Value} (h : Chg fp w w') (hn : a.block ∉ fp) (hc : w.cell? a = some v) : w'.cell? a = some v :=
  (World.cell?_of_block (h.block a.block (World.block_lt_of_cell? _ _ hc) hn)).trans hc
theorem Chg.keeps {fp : List Nat} {w w' : World} {F : Nat → Prop} (h : Chg fp w w') (hn : ∀ b, F b → b ∉ fp) : Keeps F F w w' :=
  ⟨h.size, fun _ h _ => h, fun b hF hl => h.block b hl (hn b hF)⟩
theorem TyRep.chg {fp : List Nat} {w w' : World} {F : Nat → Prop} {t : Ty} {y : Value} (h : Chg fp w w') (hn : ∀ b, F b → b ∉ fp) (r : TyRep F w t y) : TyRep F w' t y := r.move (h.keeps hn)
theorem Chg.cellne {r : Nat} {w w' : World} {a : Addr} {v : Value} (h : Chg [r] w w') (hn : a.block ≠ r) (hc : w.cell? a = some v) : w'.cell? a = some v := h.cell (by simpa using hn) hc
theorem Chg.frone {r b o : Nat} {w w' : World} (h : Chg [r] w w') (hn : b ≠ r) (hl : b < w.heap.size) : w'.frozen? ⟨b, o, none⟩ = w.frozen? ⟨b, o, none⟩ := World.frozen?_of_block (a := ⟨b, o, none⟩) (h.block b hl (by simpa using hn))
theorem ccell {r b o : Nat} {w w1 : World} {v : Value} (h : Chg [r] w w1) (hn : b ≠ r) (hc : w.cell? ⟨b, o, none⟩ = some v) : w1.cell? ⟨b, o, none⟩ = some v := h.cellne hn hc
theorem cfroc {r b o : Nat} {w w1 : World} {v : Value} (h : Chg [r] w w1) (hn : b ≠ r) (hc : w.cell? ⟨b, o, none⟩ = some v) (hf : w.frozen? ⟨b, o, none⟩ = false) : w1.frozen? ⟨b, o, none⟩ = false :=
  (h.frone hn (World.block_lt_of_cell? _ _ hc)).trans hf
theorem bchg {B r : Nat} {w w1 w2 : World} (h : Below B w w1) (k : Chg [r] w1 w2) (hr : B ≤ r) (hw : B ≤ w.heap.size) : Below B w w2 :=
  ⟨k.os.trans h.os, k.tape.trans h.tape, k.output.trans h.output, Nat.le_trans h.size k.size, fun b hb => (k.block b (Nat.lt_of_lt_of_le (Nat.lt_of_lt_of_le hb hw) h.size) (by simp; omega)).trans (h.block b hb)⟩
theorem Chg.trans' {r : Nat} {w w' : World} (h : Chg [r] w w') {p : Addr} (hp : w.heap.size ≤ p.block) (v : Value) : Chg [r] w (w'.setCell p v) :=
  ⟨h.os, h.tape, h.output, by simpa [World.setCell] using h.size, fun b hb hn => (Below.heap_setCell w' p v b (by omega)).trans (h.block b hb hn)⟩
theorem TyRep.chgB {B r : Nat} {w w' : World} {t : Ty} {y : Value} (h : TyRep (B ≤ ·) w t y) (k : Chg [r] w w') (hr : r < B) : TyRep (B ≤ ·) w' t y :=
  TyRep.chg k (fun b hb => by simp; omega) h
theorem TyRep.chgA {r : Nat} {w w' : World} {t : Ty} {y : Value} (h : TyRep (· ≠ r) w t y) (k : Chg [r] w w') : TyRep (· ≠ r) w' t y := TyRep.chg k (fun b hb => by simpa using hb) h
theorem TysRep.chgA {r : Nat} {w w' : World} {t : List Ty} {y : Value} (h : TysRep (· ≠ r) w t y) (k : Chg [r] w w') : TysRep (· ≠ r) w' t y := h.move (k.keeps (fun b hb => by simpa using hb))
end Go.Proofs.Ythhdjacdalehoaa
namespace Go.Proofs.Ythhdjacdalehoaa
open Go.RowKit
set_option linter.unusedVariables false
set_option linter.unusedSimpArgs false

mutual
def COwn (w : World) : C → Value → List Nat → Prop
  | .int n, y, fp => y = .int .i64 n ∧ fp = []
  | .str s, y, fp => y = .string s ∧ s.size ≤ maxLen ∧ fp = []
  | .sl rows, y, fp => ∃ (a : Option Addr) (cap : Nat), y = .slice a rows.length cap ∧ rows.length ≤ cap ∧ cap ≤ maxLen ∧
      ((rows = [] ∧ fp = []) ∨ ∃ b fps cs T, a = some ⟨b, 0, none⟩ ∧ fp = b :: fps ∧ w.heap[b]? = some (.cells cs T (0, 0)) ∧ RowsOwn w b 0 rows fps)
def RowsOwn (w : World) (b : Nat) : Nat → List (List C) → List Nat → Prop
  | _, [], fp => fp = []
  | off, r :: rs, fp => ∃ f1 f2, fp = f1 ++ f2 ∧ CellsOwn w b off r f1 ∧ RowsOwn w b (off + r.length) rs f2
def CellsOwn (w : World) (b : Nat) : Nat → List C → List Nat → Prop
  | _, [], fp => fp = []
  | off, c :: cs, fp => ∃ y f1 f2, fp = f1 ++ f2 ∧ w.cell? ⟨b, off, none⟩ = some y ∧ COwn w c y f1 ∧ CellsOwn w b (off + 1) cs f2
end

mutual
theorem COwn.move {w w' : World} : ∀ (c : C) (y : Value) (fp : List Nat), (∀ b ∈ fp, w'.heap[b]? = w.heap[b]?) → COwn w c y fp → COwn w' c y fp
  | .int n, y, fp, _, h => by unfold COwn at h ⊢; exact h
  | .str s, y, fp, _, h => by unfold COwn at h ⊢; exact h
  | .sl rows, y, fp, k, h => by
    unfold COwn at h ⊢
    obtain ⟨a, cap, h1, h2, h3, h4⟩ := h
    refine ⟨a, cap, h1, h2, h3, ?_⟩
    rcases h4 with h4 | ⟨b, fps, cs, T, ha, rfl, hb, hr⟩
    · exact .inl h4
    · refine .inr ⟨b, fps, cs, T, ha, rfl, (k b (List.mem_cons_self ..)).trans hb, RowsOwn.move 0 rows fps (fun x hx => k x (List.mem_cons_of_mem _ hx)) (fun o => ?_) hr⟩
      intro _ _
      exact World.cell?_of_block (a := ⟨b, o, none⟩) (k b (List.mem_cons_self ..))
theorem RowsOwn.move {w w' : World} {b : Nat} : ∀ (off : Nat) (rows : List (List C)) (fp : List Nat), (∀ x ∈ fp, w'.heap[x]? = w.heap[x]?) →
    (∀ o, off ≤ o → o < off + rows.flatten.length → w'.cell? ⟨b, o, none⟩ = w.cell? ⟨b, o, none⟩) → RowsOwn w b off rows fp → RowsOwn w' b off rows fp
  | _, [], _, _, _, h => by unfold RowsOwn at h ⊢; exact h
  | off, r :: rs, fp, k, kc, h => by
    unfold RowsOwn at h ⊢
    obtain ⟨f1, f2, rfl, h1, h2⟩ := h
    simp only [List.flatten_cons, List.length_append] at kc
    exact ⟨f1, f2, rfl, CellsOwn.move off r f1 (fun x hx => k x (List.mem_append_left _ hx)) (fun o a c => kc o a (by omega)) h1,
      RowsOwn.move _ rs f2 (fun x hx => k x (List.mem_append_right _ hx)) (fun o a c => kc o (by omega) (by omega)) h2⟩
theorem CellsOwn.move {w w' : World} {b : Nat} : ∀ (off : Nat) (r : List C) (fp : List Nat), (∀ x ∈ fp, w'.heap[x]? = w.heap[x]?) →
    (∀ o, off ≤ o → o < off + r.length → w'.cell? ⟨b, o, none⟩ = w.cell? ⟨b, o, none⟩) → CellsOwn w b off r fp → CellsOwn w' b off r fp
  | _, [], _, _, _, h => by unfold CellsOwn at h ⊢; exact h
  | off, c :: cs, fp, k, kc, h => by
    unfold CellsOwn at h ⊢
    obtain ⟨y, f1, f2, rfl, hy, h1, h2⟩ := h
    simp only [List.length_cons] at kc
    exact ⟨y, f1, f2, rfl, (kc off (by omega) (by omega)).trans hy, COwn.move c y f1 (fun x hx => k x (List.mem_append_left _ hx)) h1,
      CellsOwn.move _ cs f2 (fun x hx => k x (List.mem_append_right _ hx)) (fun o a c => kc o (by omega) (by omega)) h2⟩
end

mutual
theorem COwn.lt {w : World} : ∀ (c : C) (y : Value) (fp : List Nat), COwn w c y fp → ∀ b ∈ fp, b < w.heap.size
  | .int n, y, fp, h => by unfold COwn at h; obtain ⟨_, rfl⟩ := h; simp
  | .str s, y, fp, h => by unfold COwn at h; obtain ⟨_, _, rfl⟩ := h; simp
  | .sl rows, y, fp, h => by
    unfold COwn at h
    obtain ⟨a, cap, _, _, _, ⟨_, rfl⟩ | ⟨b, fps, cs, T, _, rfl, hb, hr⟩⟩ := h
    · simp
    · intro x hx
      rcases List.mem_cons.1 hx with rfl | hx
      · exact (Array.getElem?_eq_some_iff.1 hb).1
      · exact RowsOwn.lt 0 rows fps hr x hx
theorem RowsOwn.lt {w : World} {b : Nat} : ∀ (off : Nat) (rows : List (List C)) (fp : List Nat), RowsOwn w b off rows fp → ∀ x ∈ fp, x < w.heap.size
  | _, [], _, h => by unfold RowsOwn at h; subst h; simp
  | off, r :: rs, fp, h => by
    unfold RowsOwn at h
    obtain ⟨f1, f2, rfl, h1, h2⟩ := h
    intro x hx
    rcases List.mem_append.1 hx with hx | hx
    · exact CellsOwn.lt off r f1 h1 x hx
    · exact RowsOwn.lt _ rs f2 h2 x hx
theorem CellsOwn.lt {w : World} {b : Nat} : ∀ (off : Nat) (r : List C) (fp : List Nat), CellsOwn w b off r fp → ∀ x ∈ fp, x < w.heap.size
  | _, [], _, h => by unfold CellsOwn at h; subst h; simp
  | off, c :: cs, fp, h => by
    unfold CellsOwn at h
    obtain ⟨y, f1, f2, rfl, hy, h1, h2⟩ := h
    intro x hx
    rcases List.mem_append.1 hx with hx | hx
    · exact COwn.lt c y f1 h1 x hx
    · exact CellsOwn.lt _ cs f2 h2 x hx
end

mutual
theorem COwn.rep {w : World} {F : Nat → Prop} : ∀ (c : C) (y : Value) (fp : List Nat), (∀ b ∈ fp, F b) → COwn w c y fp → CRep F w c y
  | .int n, y, fp, _, h => by unfold COwn at h; unfold CRep; exact h.1
  | .str s, y, fp, _, h => by unfold COwn at h; unfold CRep; exact ⟨h.1, h.2.1⟩
  | .sl rows, y, fp, k, h => by
    unfold COwn at h; unfold CRep
    obtain ⟨a, cap, h1, h2, h3, h4⟩ := h
    refine ⟨a, cap, h1, h2, h3, ?_⟩
    rcases h4 with ⟨h4, _⟩ | ⟨b, fps, cs, T, ha, rfl, hb, hr⟩
    · exact .inl h4
    · exact .inr ⟨b, 0, ha, k b (List.mem_cons_self ..), (Array.getElem?_eq_some_iff.1 hb).1, RowsOwn.rep 0 rows fps (fun x hx => k x (List.mem_cons_of_mem _ hx)) hr⟩
theorem RowsOwn.rep {w : World} {F : Nat → Prop} {b : Nat} : ∀ (off : Nat) (rows : List (List C)) (fp : List Nat), (∀ x ∈ fp, F x) → RowsOwn w b off rows fp → RowsAt F w b off rows
  | _, [], _, _, _ => by unfold RowsAt; trivial
  | off, r :: rs, fp, k, h => by
    unfold RowsOwn at h; unfold RowsAt
    obtain ⟨f1, f2, rfl, h1, h2⟩ := h
    exact ⟨CellsOwn.rep off r f1 (fun x hx => k x (List.mem_append_left _ hx)) h1, RowsOwn.rep _ rs f2 (fun x hx => k x (List.mem_append_right _ hx)) h2⟩
theorem CellsOwn.rep {w : World} {F : Nat → Prop} {b : Nat} : ∀ (off : Nat) (r : List C) (fp : List Nat), (∀ x ∈ fp, F x) → CellsOwn w b off r fp → CellsAt F w b off r
  | _, [], _, _, _ => by unfold CellsAt; trivial
  | off, c :: cs, fp, k, h => by
    unfold CellsOwn at h; unfold CellsAt
    obtain ⟨y, f1, f2, rfl, hy, h1, h2⟩ := h
    exact ⟨⟨y, hy, COwn.rep c y f1 (fun x hx => k x (List.mem_append_left _ hx)) h1⟩, CellsOwn.rep _ cs f2 (fun x hx => k x (List.mem_append_right _ hx)) h2⟩
end

theorem RowsOwn.snoc {w : World} {b : Nat} : ∀ {off : Nat} {rows : List (List C)} {fp f : List Nat} {r : List C}, RowsOwn w b off rows fp → CellsOwn w b (off + rows.flatten.length) r f → RowsOwn w b off (rows ++ [r]) (fp ++ f)
  | off, [], fp, f, r, h, hr => by
    unfold RowsOwn at h; subst h
    simp only [List.nil_append]
    unfold RowsOwn
    exact ⟨f, [], by simp, by simpa using hr, by unfold RowsOwn; rfl⟩
  | off, r' :: rs, fp, f, r, h, hr => by
    unfold RowsOwn at h
    obtain ⟨f1, f2, rfl, h1, h2⟩ := h
    have := RowsOwn.snoc (f := f) (r := r) h2 (by rw [List.flatten_cons, List.length_append] at hr; rw [Nat.add_assoc]; exact hr)
    simp only [List.cons_append]
    unfold RowsOwn
    exact ⟨f1, f2 ++ f, by simp, h1, this⟩

/-- A slice of rows of one's own in a block that was made for it: from its rows. -/
theorem COwn.sl_mk {w : World} {b n cap : Nat} {rows : List (List C)} {fps : List Nat} {cs : Array Value} {T : TypeId} (hb : w.heap[b]? = some (.cells cs T (0, 0))) (hn : rows.length = n) (hc : n ≤ cap) (hm : cap ≤ maxLen)
    (h : RowsOwn w b 0 rows fps) : ∃ fp, COwn w (.sl rows) (.slice (some ⟨b, 0, none⟩) n cap) fp ∧ (∀ x ∈ fp, x = b ∨ x ∈ fps) ∧ (fps.Nodup → b ∉ fps → fp.Nodup) := by
  subst hn
  refine ⟨b :: fps, ?_, fun x hx => List.mem_cons.1 hx, fun h1 h2 => List.nodup_cons.2 ⟨h2, h1⟩⟩
  unfold COwn
  exact ⟨_, cap, rfl, hc, hm, .inr ⟨b, fps, cs, T, rfl, rfl, hb, h⟩⟩
theorem COwn.sl_nil {w : World} {a : Option Addr} {cap : Nat} (hm : cap ≤ maxLen) : COwn w (.sl []) (.slice a 0 cap) [] := by
  unfold COwn
  exact ⟨a, cap, rfl, Nat.zero_le _, hm, .inl ⟨rfl, rfl⟩⟩

/-- A row of values stored into a block from an offset on. -/
def setRow (w : World) (b : Nat) : Nat → List Value → World
  | _, [] => w
  | off, v :: vs => setRow (w.setCell ⟨b, off, none⟩ v) b (off + 1) vs
theorem setRow_heap_other : ∀ (vs : List Value) (w : World) (b off k : Nat), k ≠ b → (setRow w b off vs).heap[k]? = w.heap[k]?
  | [], _, _, _, _, _ => rfl
  | v :: vs, w, b, off, k, h => (setRow_heap_other vs _ b _ k h).trans (Below.heap_setCell w ⟨b, off, none⟩ v k h)
theorem heap_setCell_same {w : World} {b off : Nat} {v : Value} {cs : Array Value} {T : TypeId} {fr : Nat × Nat} (h : w.heap[b]? = some (.cells cs T fr)) :
    (w.setCell ⟨b, off, none⟩ v).heap[b]? = some (.cells (cs.setIfInBounds off v) T fr) := by
  simp [World.setCell, Array.getElem?_modify, h]
theorem setRow_block : ∀ (vs : List Value) (w : World) (b off : Nat) (cs : Array Value) (T : TypeId) (fr : Nat × Nat), w.heap[b]? = some (.cells cs T fr) →
    ∃ cs', (setRow w b off vs).heap[b]? = some (.cells cs' T fr) ∧ cs'.size = cs.size ∧ (∀ o, o < off ∨ off + vs.length ≤ o → cs'[o]? = cs[o]?) ∧ (∀ i, i < vs.length → off + i < cs.size → cs'[off + i]? = vs[i]?)
  | [], w, b, off, cs, T, fr, h => ⟨cs, h, rfl, fun _ _ => rfl, fun _ hi => absurd hi (Nat.not_lt_zero _)⟩
  | v :: vs, w, b, off, cs, T, fr, h => by
    obtain ⟨cs', h1, h2, h3, h4⟩ := setRow_block vs (w.setCell ⟨b, off, none⟩ v) b (off + 1) _ T fr (heap_setCell_same h)
    rw [Array.size_setIfInBounds] at h2 h4
    refine ⟨cs', h1, h2, fun o ho => ?_, fun i hi hl => ?_⟩
    · rw [h3 o (by rcases ho with ho | ho; exact .inl (by omega); exact .inr (by simp only [List.length_cons] at ho; omega))]
      rw [Array.getElem?_setIfInBounds_ne (by rcases ho with ho | ho; omega; simp only [List.length_cons] at ho; omega)]
    · cases i with
      | zero =>
        rw [h3 _ (.inl (by omega))]
        simp only [Nat.add_zero, List.getElem?_cons_zero]
        rw [Array.getElem?_setIfInBounds_self]
        simp at hl
        simp [hl]
      | succ i =>
        have := h4 i (by simpa using hi) (by omega)
        rw [show off + (i + 1) = off + 1 + i from by omega, this]
        simp
/-- A struct by value whose slices are one's own. -/
def SOwn (w : World) : List C → List Value → List Nat → Prop
  | [], ys, fp => ys = [] ∧ fp = []
  | c :: cs, ys, fp => ∃ z zs f1 f2, ys = z :: zs ∧ fp = f1 ++ f2 ∧ COwn w c z f1 ∧ SOwn w cs zs f2
theorem SOwn.len {w : World} : ∀ (r : List C) (ys : List Value) (fp : List Nat), SOwn w r ys fp → ys.length = r.length
  | [], _, _, ⟨h, _⟩ => by rw [h]; rfl
  | c :: cs, _, _, ⟨z, zs, f1, f2, h, _, _, h2⟩ => by rw [h, List.length_cons, List.length_cons, SOwn.len cs zs f2 h2]
theorem SOwn.lt {w : World} : ∀ (r : List C) (ys : List Value) (fp : List Nat), SOwn w r ys fp → ∀ b ∈ fp, b < w.heap.size
  | [], _, _, ⟨_, h⟩ => by subst h; simp
  | c :: cs, _, _, ⟨z, zs, f1, f2, _, h, h1, h2⟩ => by
    subst h
    intro b hb
    rcases List.mem_append.1 hb with hb | hb
    · exact COwn.lt _ _ _ h1 b hb
    · exact SOwn.lt cs zs f2 h2 b hb
theorem SOwn.move {w w' : World} : ∀ (r : List C) (ys : List Value) (fp : List Nat), (∀ b ∈ fp, w'.heap[b]? = w.heap[b]?) → SOwn w r ys fp → SOwn w' r ys fp
  | [], _, _, _, h => h
  | c :: cs, _, _, k, ⟨z, zs, f1, f2, e, h, h1, h2⟩ => by
    subst h
    exact ⟨z, zs, f1, f2, e, rfl, COwn.move _ _ _ (fun b hb => k b (List.mem_append_left _ hb)) h1, SOwn.move cs zs f2 (fun b hb => k b (List.mem_append_right _ hb)) h2⟩
theorem SOwn.cells {w : World} {b : Nat} : ∀ (r : List C) (ys : List Value) (fp : List Nat) (off : Nat), SOwn w r ys fp → (∀ i, i < ys.length → w.cell? ⟨b, off + i, none⟩ = ys[i]?) → CellsOwn w b off r fp
  | [], _, _, _, ⟨_, h⟩, _ => by subst h; unfold CellsOwn; rfl
  | c :: cs, _, _, off, ⟨z, zs, f1, f2, e, h, h1, h2⟩, k => by
    subst h e
    unfold CellsOwn
    refine ⟨z, f1, f2, rfl, by simpa using k 0 (by simp), h1, SOwn.cells cs zs f2 _ h2 fun i hi => ?_⟩
    have := k (i + 1) (by simpa using hi)
    rw [show off + 1 + i = off + (i + 1) from by omega]
    simpa using this

/-- A block of one's own that is being filled, row by row; N: its cells. -/
def RowsNew (B g N : Nat) (T : TypeId) (w : World) (rows : List (List C)) : Prop :=
  ∃ fps cs, w.heap[g]? = some (.cells cs T (0, 0)) ∧ cs.size = N ∧ RowsOwn w g 0 rows fps ∧ fps.Nodup ∧ g ∉ fps ∧ B ≤ g ∧ ∀ x ∈ fps, B ≤ x
theorem RowsNew.lt {B g N : Nat} {T : TypeId} {w : World} {rows : List (List C)} (h : RowsNew B g N T w rows) : g < w.heap.size := by
  obtain ⟨fps, cs, hg, _⟩ := h
  exact (Array.getElem?_eq_some_iff.1 hg).1
theorem RowsNew.below {B g N : Nat} {T : TypeId} {w w' : World} {rows : List (List C)} (h : RowsNew B g N T w rows) (k : Below w.heap.size w w') : RowsNew B g N T w' rows := by
  obtain ⟨fps, cs, hg, hN, hr, hd, hn, hB, hx⟩ := h
  exact ⟨fps, cs, (k.block g (Array.getElem?_eq_some_iff.1 hg).1).trans hg, hN,
    hr.move _ _ _ (fun x hx => k.block x (hr.lt _ _ _ x hx)) (fun o _ _ => World.cell?_of_block (a := ⟨g, o, none⟩) (k.block g (Array.getElem?_eq_some_iff.1 hg).1)), hd, hn, hB, hx⟩
theorem RowsNew.made {N : Nat} {T : TypeId} {w : World} {cs : Array Value} (h : cs.size = N) : RowsNew w.heap.size w.heap.size N T (w.alloc (.cells cs T)) [] :=
  ⟨[], cs, heap_alloc_new w _, h, by unfold RowsOwn; rfl, List.nodup_nil, by simp, Nat.le_refl _, by simp⟩
theorem RowsNew.cell {B g N : Nat} {T : TypeId} {w : World} {rows : List (List C)} (h : RowsNew B g N T w rows) (o : Nat) (ho : o < N) : (∃ v, w.cell? ⟨g, o, none⟩ = some v) ∧ w.frozen? ⟨g, o, none⟩ = false := by
  obtain ⟨fps, cs, hg, hN, _⟩ := h
  refine ⟨⟨cs[o]'(by omega), by simp [World.cell?, hg, hN, ho]⟩, by simp [World.frozen?, hg]⟩
/-- What a call has made is stored behind the rows that are there. -/
theorem RowsNew.store {B g N o : Nat} {T : TypeId} {w w1 : World} {rows : List (List C)} {r : List C} {vs : List Value} {fpv : List Nat} (h : RowsNew B g N T w rows) (hb : Below w.heap.size w w1)
    (hv : SOwn w1 r vs fpv) (hd : fpv.Nodup) (hx : ∀ x ∈ fpv, w.heap.size ≤ x) (hBw : B ≤ w.heap.size) (ho : rows.flatten.length = o) (room : o + r.length ≤ N) : RowsNew B g N T (setRow w1 g o vs) (rows ++ [r]) := by
  have hlt := h.lt
  obtain ⟨fps, cs, hg0, hN, hr0, hd1, hn, hB, hx1⟩ := h
  have hg := (hb.block g hlt).trans hg0
  have hr := hr0.move _ _ _ (fun x hx => hb.block x (RowsOwn.lt _ _ _ hr0 x hx)) (fun o _ _ => World.cell?_of_block (a := ⟨g, o, none⟩) (hb.block g hlt))
  have hfl : ∀ x ∈ fps, x < w.heap.size := fun x hx => RowsOwn.lt _ _ _ hr0 x hx
  obtain ⟨cs', h1, h2, h3, h4⟩ := setRow_block vs w1 g o cs T (0, 0) hg
  have hlen := SOwn.len _ _ _ hv
  have hgn : ∀ x ∈ fpv, x ≠ g := fun x hx' e => by have := hx x hx'; omega
  refine ⟨fps ++ fpv, cs', h1, by omega, ?_, ?_, ?_, hB, ?_⟩
  · refine RowsOwn.snoc (hr.move _ _ _ (fun x hx' => setRow_heap_other vs w1 g o x (fun e => hn (e ▸ hx'))) (fun o' _ ho' => ?_)) ?_
    · rw [ho] at ho'
      simp only [World.cell?, h1, hg]
      simp
      exact h3 o' (.inl (by omega))
    · rw [ho]
      refine SOwn.cells _ _ _ _ (hv.move _ _ _ fun x hx' => setRow_heap_other vs w1 g o x (hgn x hx')) fun i hi => ?_
      simp only [World.cell?, h1]
      simp
      exact h4 i hi (by omega)
  · exact List.nodup_append.2 ⟨hd1, hd, fun x hx1 y hy e => by have := hfl x hx1; have := hx y hy; omega⟩
  · intro hm
    rcases List.mem_append.1 hm with hm | hm
    · exact hn hm
    · exact hgn g hm rfl
  · intro x hm
    rcases List.mem_append.1 hm with hm | hm
    · exact hx1 x hm
    · exact Nat.le_trans hBw (hx x hm)

/-- The slice over a block that has been filled. -/
theorem RowsNew.slice {B g N n cap : Nat} {T : TypeId} {w : World} {rows : List (List C)} (h : RowsNew B g N T w rows) (hn : rows.length = n) (hc : n ≤ cap) (hm : cap ≤ maxLen) :
    ∃ fp, COwn w (.sl rows) (.slice (some ⟨g, 0, none⟩) n cap) fp ∧ fp.Nodup ∧ ∀ b ∈ fp, B ≤ b := by
  obtain ⟨fps, cs, hg, hN, hr, hd, hnn, hB, hx⟩ := h
  obtain ⟨fp, h1, h2, h3⟩ := COwn.sl_mk hg hn hc hm hr
  exact ⟨fp, h1, h3 hd hnn, fun b hb => by rcases h2 b hb with rfl | h; exact hB; exact hx b h⟩

/-- A type in memory of one's own, from block B on. -/
def TyOwn (w : World) (t : Ty) (y : Value) (fp : List Nat) : Prop := ∃ s, y = .agg #[.int .i64 t.kind, s] ∧ COwn w (.sl (Ty.rows t.kids)) s fp
def TysOwn (w : World) (ts : List Ty) (y : Value) (fp : List Nat) : Prop := COwn w (.sl (Ty.rows ts)) y fp
/-- New: of one's own, from block B on, no block twice. -/
def TyNew (B : Nat) (w : World) (t : Ty) (y : Value) : Prop := ∃ fp, TyOwn w t y fp ∧ fp.Nodup ∧ ∀ b ∈ fp, B ≤ b
def TysNew (B : Nat) (w : World) (ts : List Ty) (y : Value) : Prop := ∃ fp, TysOwn w ts y fp ∧ fp.Nodup ∧ ∀ b ∈ fp, B ≤ b

theorem TyOwn.shape {w : World} {t : Ty} {y : Value} {fp : List Nat} (h : TyOwn w t y fp) : ∃ k a n q, y = .agg #[.int .i64 k, .slice a n q] ∧ k = t.kind ∧ TysOwn w t.kids (.slice a n q) fp := by
  obtain ⟨s, rfl, h⟩ := h
  have h' := h
  unfold COwn at h'
  obtain ⟨a, q, rfl, _⟩ := h'
  exact ⟨_, a, _, q, rfl, rfl, h⟩

theorem TyOwn.below {w w' : World} {t : Ty} {y : Value} {fp : List Nat} (h : TyOwn w t y fp) (k : Below w.heap.size w w') : TyOwn w' t y fp :=
  let ⟨s, h1, h2⟩ := h; ⟨s, h1, h2.move _ _ _ fun b hb => k.block b (h2.lt _ _ _ b hb)⟩
theorem TyOwn.rep {w : World} {t : Ty} {y : Value} {fp : List Nat} (h : TyOwn w t y fp) : TyRep (· ∈ fp) w t y :=
  let ⟨s, h1, h2⟩ := h; ⟨s, h1, h2.rep _ _ _ fun _ hb => hb⟩
theorem TyNew.below {B : Nat} {w w' : World} {t : Ty} {y : Value} (h : TyNew B w t y) (k : Below w.heap.size w w') : TyNew B w' t y :=
  let ⟨fp, h1, h2, h3⟩ := h; ⟨fp, h1.below k, h2, h3⟩
theorem TyNew.rep {B : Nat} {w : World} {t : Ty} {y : Value} (h : TyNew B w t y) : TyRep (B ≤ ·) w t y :=
  let ⟨fp, h1, _, h3⟩ := h; h1.rep.move (.weaken fun b hb _ => h3 b hb)
theorem TysNew.rep {B : Nat} {w : World} {ts : List Ty} {y : Value} (h : TysNew B w ts y) : TysRep (B ≤ ·) w ts y :=
  let ⟨_, h1, _, h3⟩ := h; COwn.rep _ _ _ (fun b hb => h3 b hb) h1
theorem TysNew.below {B : Nat} {w w' : World} {ts : List Ty} {y : Value} (h : TysNew B w ts y) (k : Below w.heap.size w w') : TysNew B w' ts y :=
  let ⟨fp, h1, h2, h3⟩ := h; ⟨fp, COwn.move _ _ _ (fun b hb => k.block b (COwn.lt _ _ _ h1 b hb)) h1, h2, h3⟩
theorem TyNew.shape {B : Nat} {w : World} {t : Ty} {y : Value} (h : TyNew B w t y) : ∃ k a n q, y = .agg #[.int .i64 k, .slice a n q] := by
  obtain ⟨fp, ⟨s, rfl, h⟩, _⟩ := h
  unfold COwn at h
  obtain ⟨a, q, rfl, _⟩ := h
  exact ⟨_, a, _, q, rfl⟩
theorem TysNew.setCell {B : Nat} {w : World} {ts : List Ty} {y : Value} (h : TysNew B w ts y) {p : Addr} (hp : p.block < B) (v : Value) : TysNew B (w.setCell p v) ts y := by
  obtain ⟨fp, h1, h2, h3⟩ := h
  exact ⟨fp, COwn.move _ _ _ (fun b hb => Below.heap_setCell w p v b (by have := h3 b hb; omega)) h1, h2, h3⟩
theorem TysNew.ty {B : Nat} {w : World} {k : Int} {ts : List Ty} {y : Value} (h : TysNew B w ts y) : TyNew B w (.mk k ts) (.agg #[.int .i64 k, y]) := by
  obtain ⟨fp, h1, h2, h3⟩ := h
  exact ⟨fp, ⟨y, rfl, h1⟩, h2, h3⟩
theorem TyNew.setCell {B : Nat} {w : World} {t : Ty} {y : Value} (h : TyNew B w t y) {p : Addr} (hp : p.block < B) (v : Value) : TyNew B (w.setCell p v) t y := by
  obtain ⟨fp, ⟨s, hs, h1⟩, h2, h3⟩ := h
  exact ⟨fp, ⟨s, hs, COwn.move _ _ _ (fun b hb => Below.heap_setCell w p v b (by have := h3 b hb; omega)) h1⟩, h2, h3⟩
theorem TyNew.mono {B B' : Nat} {w : World} {t : Ty} {y : Value} (h : TyNew B w t y) (hB : B' ≤ B) : TyNew B' w t y :=
  let ⟨fp, h1, h2, h3⟩ := h; ⟨fp, h1, h2, fun b hb => Nat.le_trans hB (h3 b hb)⟩
theorem TysNew.mono {B B' : Nat} {w : World} {t : List Ty} {y : Value} (h : TysNew B w t y) (hB : B' ≤ B) : TysNew B' w t y :=
  let ⟨fp, h1, h2, h3⟩ := h; ⟨fp, h1, h2, fun b hb => Nat.le_trans hB (h3 b hb)⟩
theorem Ty.flatten_length (ts : List Ty) : (Ty.rows ts).flatten.length = ts.length * 2 := by
  induction ts with
  | nil => unfold Ty.rows; rfl
  | cons t ts ih => unfold Ty.rows; rw [List.flatten_cons, List.length_append, ih, t.row_length, List.length_cons]; omega
theorem TyOwn.cells {w : World} {t : Ty} {s : Value} {fp : List Nat} {k : Int} (h : TyOwn w t (.agg #[.int .i64 k, s]) fp) : SOwn w t.row [.int .i64 k, s] fp := by
  obtain ⟨s', he, h⟩ := h
  cases t with | mk k' ts =>
  simp only [Value.agg.injEq, Array.mk.injEq, List.cons.injEq, Value.int.injEq, true_and, and_true] at he
  obtain ⟨rfl, rfl⟩ := he
  unfold Ty.row
  exact ⟨_, _, [], fp, rfl, rfl, by unfold COwn; exact ⟨rfl, rfl⟩, _, _, fp, [], rfl, by simp, h, rfl, rfl⟩
theorem TyNew.open {B : Nat} {w : World} {t : Ty} {y : Value} (h : TyNew B w t y) : ∃ k c m q fp, y = .agg #[.int .i64 k, .slice c m q] ∧ k = t.kind ∧ m = t.kids.length ∧ SOwn w t.row [.int .i64 k, .slice c m q] fp ∧ fp.Nodup ∧ ∀ b ∈ fp, B ≤ b := by
  obtain ⟨fp, h1, h2, h3⟩ := h
  obtain ⟨s, rfl, h⟩ := h1
  have h' := h
  unfold COwn at h'
  obtain ⟨a, cap, rfl, _⟩ := h'
  exact ⟨_, a, _, cap, fp, rfl, rfl, Ty.rows_length _, TyOwn.cells ⟨_, rfl, h⟩, h2, h3⟩
end Go.Proofs.Ythhdjacdalehoaa
