/-
  Data of the language, whatever the type: a cell holds a number, a string or a slice of rows of cells; what it means that a value of the model reads as such data in a world; that this is kept while the blocks concerned are kept.
  Arguments read as data: slices of rows.
  Types as trees.
  An argument of the laws' type 'Type' reads as a tree.
  Terms as trees.
  An argument of the laws' type 'Term' reads as a tree.
-/
import Derived.WalkKit
import Derived.WalkSpells
import Derived.WalkLawsBesides
import Derived.Lib.Hide
import Derived.Deep.Draws
import Derived.Test.YtkhmkohgnikcmaaRows
import Derived.ProofKit
import Derived.OpenShut
import Derived.ShutString
import Derived.ChangeOld
namespace Go.Proofs.Ytkhmkohgnikcmaa
open Go.RowKit
set_option linter.unusedVariables false
set_option linter.unusedSimpArgs false

inductive C where
  | int (n : Int)
  | str (s : ByteArray)
  | sl (rows : List (List C))

mutual
def CRep (F : Nat → Prop) (w : World) : C → Value → Prop
  | .int n, y => y = .int .i64 n
  | .str s, y => y = .string s ∧ s.size ≤ maxLen
  | .sl rows, y => ∃ (a : Option Addr) (cap : Nat), y = .slice a rows.length cap ∧ rows.length ≤ cap ∧ cap ≤ maxLen ∧
      (rows = [] ∨ ∃ b off, a = some ⟨b, off, none⟩ ∧ F b ∧ b < w.heap.size ∧ RowsAt F w b off rows)
def RowsAt (F : Nat → Prop) (w : World) (b : Nat) : Nat → List (List C) → Prop
  | _, [] => True
  | off, r :: rs => CellsAt F w b off r ∧ RowsAt F w b (off + r.length) rs
def CellsAt (F : Nat → Prop) (w : World) (b : Nat) : Nat → List C → Prop
  | _, [] => True
  | off, c :: cs => (∃ y, w.cell? ⟨b, off, none⟩ = some y ∧ CRep F w c y) ∧ CellsAt F w b (off + 1) cs
end

/-- The same data in another world, where the blocks that it reads are the same. -/
structure Keeps (F G : Nat → Prop) (w w' : World) : Prop where
  size : w.heap.size ≤ w'.heap.size
  sub : ∀ b, F b → b < w.heap.size → G b
  same : ∀ b, F b → b < w.heap.size → w'.heap[b]? = w.heap[b]?

mutual
theorem CRep.move {F G : Nat → Prop} {w w' : World} (k : Keeps F G w w') : ∀ (c : C) (y : Value), CRep F w c y → CRep G w' c y
  | .int n, y, h => by unfold CRep at h ⊢; exact h
  | .str s, y, h => by unfold CRep at h ⊢; exact h
  | .sl rows, y, h => by
    unfold CRep at h ⊢
    obtain ⟨a, cap, h1, h2, h3, h4⟩ := h
    refine ⟨a, cap, h1, h2, h3, ?_⟩
    rcases h4 with h4 | ⟨b, off, ha, hb, hl, hr⟩
    · exact .inl h4
    · exact .inr ⟨b, off, ha, k.sub b hb hl, Nat.lt_of_lt_of_le hl k.size, RowsAt.move k b hb hl off rows hr⟩
theorem RowsAt.move {F G : Nat → Prop} {w w' : World} (k : Keeps F G w w') (b : Nat) (hb : F b) (hl : b < w.heap.size) :
    ∀ (off : Nat) (rows : List (List C)), RowsAt F w b off rows → RowsAt G w' b off rows
  | _, [], _ => by unfold RowsAt; trivial
  | off, r :: rs, h => by
    unfold RowsAt at h ⊢
    exact ⟨CellsAt.move k b hb hl off r h.1, RowsAt.move k b hb hl _ rs h.2⟩
theorem CellsAt.move {F G : Nat → Prop} {w w' : World} (k : Keeps F G w w') (b : Nat) (hb : F b) (hl : b < w.heap.size) :
    ∀ (off : Nat) (r : List C), CellsAt F w b off r → CellsAt G w' b off r
  | _, [], _ => by unfold CellsAt; trivial
  | off, c :: cs, h => by
    unfold CellsAt at h ⊢
    obtain ⟨⟨y, hy, hc⟩, h2⟩ := h
    exact ⟨⟨y, (World.cell?_of_block (a := ⟨b, off, none⟩) (k.same b hb hl)).trans hy, CRep.move k c y hc⟩, CellsAt.move k b hb hl _ cs h2⟩
end

theorem Keeps.below {F : Nat → Prop} {w w' : World} (h : Below w.heap.size w w') : Keeps F F w w' := ⟨h.size, fun _ h _ => h, fun b _ hl => h.block b hl⟩
theorem Keeps.weaken {F G : Nat → Prop} {w : World} (h : ∀ b, F b → b < w.heap.size → G b) : Keeps F G w w := ⟨Nat.le_refl _, h, fun _ _ _ => rfl⟩

/-- A struct by value reads as a row. -/
def SRep (F : Nat → Prop) (w : World) : List C → List Value → Prop
  | [], ys => ys = []
  | c :: cs, ys => ∃ z zs, ys = z :: zs ∧ CRep F w c z ∧ SRep F w cs zs
theorem SRep.move {F G : Nat → Prop} {w w' : World} (k : Keeps F G w w') : ∀ (r : List C) (ys : List Value), SRep F w r ys → SRep G w' r ys
  | [], _, h => h
  | _ :: cs, _, ⟨z, zs, h, hc, hs⟩ => ⟨z, zs, h, hc.move k _ _, hs.move k cs zs⟩

theorem CellsAt.get {F : Nat → Prop} {w : World} {b : Nat} : ∀ {off : Nat} {r : List C}, CellsAt F w b off r → ∃ ys, SRep F w r ys ∧ ys.length = r.length ∧ ∀ j (h : j < ys.length), w.cell? ⟨b, off + j, none⟩ = some ys[j]
  | _, [], _ => ⟨[], rfl, rfl, fun _ h => absurd h (Nat.not_lt_zero _)⟩
  | off, c :: cs, h => by
    unfold CellsAt at h
    obtain ⟨⟨y, hy, hc⟩, h2⟩ := h
    obtain ⟨ys, hs, hlen, hg⟩ := CellsAt.get h2
    refine ⟨y :: ys, ⟨y, ys, rfl, hc, hs⟩, by simp [hlen], fun j hj => ?_⟩
    cases j with
    | zero => exact hy
    | succ j =>
      have := hg j (by simpa using hj)
      rw [show off + (j + 1) = off + 1 + j from by omega]
      simpa using this

theorem RowsAt.get {F : Nat → Prop} {w : World} {b m : Nat} : ∀ {off : Nat} {rows : List (List C)}, RowsAt F w b off rows → (∀ r ∈ rows, r.length = m) → ∀ i (h : i < rows.length), CellsAt F w b (off + i * m) rows[i]
  | _, [], _, _, _, h => absurd h (Nat.not_lt_zero _)
  | off, r :: rs, h, hm, i, hi => by
    unfold RowsAt at h
    cases i with
    | zero => simpa using h.1
    | succ i =>
      have := RowsAt.get h.2 (fun r hr => hm r (List.mem_cons_of_mem _ hr)) i (by simpa using hi)
      rw [hm r (List.mem_cons_self ..)] at this
      rw [show off + (i + 1) * m = off + m + i * m from by rw [Nat.add_mul]; omega]
      simpa using this

/-- The rows behind a slice that reads as data. -/
theorem CRep.rows {F : Nat → Prop} {w : World} {rows : List (List C)} {y : Value} (h : CRep F w (.sl rows) y) :
    ∃ (a : Option Addr) (cap : Nat), y = .slice a rows.length cap ∧ rows.length ≤ cap ∧ cap ≤ maxLen ∧ (rows = [] ∨ ∃ b off, a = some ⟨b, off, none⟩ ∧ F b ∧ b < w.heap.size ∧ RowsAt F w b off rows) := by
  unfold CRep at h; exact h
theorem CRep.int_eq {F : Nat → Prop} {w : World} {n : Int} {y : Value} (h : CRep F w (.int n) y) : y = .int .i64 n := by unfold CRep at h; exact h
theorem CRep.str_eq {F : Nat → Prop} {w : World} {s : ByteArray} {y : Value} (h : CRep F w (.str s) y) : y = .string s ∧ s.size ≤ maxLen := by unfold CRep at h; exact h

/-- What a call leaves alone that came behind what was left alone. -/
theorem bstep {w W w1 : World} (h : Below w.heap.size w W) (h1 : Below W.heap.size W w1) : Below w.heap.size w w1 := h.trans (h1.mono h.size)
theorem bal1 {w : World} {o : Obj} : Below w.heap.size w (w.alloc o) := (Below.refl _ _).alloc (Nat.le_refl _) _
theorem bal2 {w : World} {o o' : Obj} : Below w.heap.size w ((w.alloc o).alloc o') := bstep bal1 bal1
theorem bal3 {w : World} {o o' o2 : Obj} : Below w.heap.size w (((w.alloc o).alloc o').alloc o2) := bstep bal2 bal1

theorem bcell {w w1 : World} {a : Addr} {v : Value} (h : Below w.heap.size w w1) (hc : w.cell? a = some v) : w1.cell? a = some v :=
  (h.cell (World.block_lt_of_cell? w a hc)).trans hc
/-- What the walk takes as rules behind a call: what was there reads as it did. -/
theorem brules {W w1 : World} (hb : Below W.heap.size W w1) : (∀ b o, b < W.heap.size → w1.cell? ⟨b, o, none⟩ = W.cell? ⟨b, o, none⟩) ∧ (∀ b o, b < W.heap.size → w1.frozen? ⟨b, o, none⟩ = W.frozen? ⟨b, o, none⟩) :=
  ⟨fun b o h => hb.cell (p := ⟨b, o, none⟩) h, fun b o h => hb.frozen (p := ⟨b, o, none⟩) h⟩
theorem bcelld {w w1 : World} {a : Addr} {v : Value} (h : Below w.drew.heap.size w.drew w1) (hc : w.cell? a = some v) : w1.cell? a = some v := bcell (w := w.drew) h hc
theorem below_drewN {B : Nat} {a w : World} (h : Below B a w) (n : Nat) : Below B a (w.drewN n) := ⟨h.os, h.tape, h.output, h.size, h.block⟩
theorem bdr {w : World} : Below w.heap.size w w.drew := (Below.refl _ _).drew
theorem bdrew {w w1 W : World} (h : Below w.heap.size w W) (h1 : Below W.drew.heap.size W.drew w1) : Below w.heap.size w w1 := bstep h.drew h1

theorem cell_n0 {w : World} {cs : Array Value} {T : TypeId} (j : Nat) : (w.alloc (.cells cs T)).cell? ⟨w.heap.size, j, none⟩ = cs[j]? := by
  unfold World.cell?; rw [heap_alloc_new w _]; rfl
theorem cell_n1 {w : World} {o : Obj} {cs : Array Value} {T : TypeId} (j : Nat) : ((w.alloc o).alloc (.cells cs T)).cell? ⟨w.heap.size + 1, j, none⟩ = cs[j]? := by
  have h := cell_n0 (w := w.alloc o) (cs := cs) (T := T) j
  rw [show (w.alloc o).heap.size = w.heap.size + 1 from by simp] at h
  exact h
theorem cell_n2 {w : World} {o o' : Obj} {cs : Array Value} {T : TypeId} (j : Nat) : (((w.alloc o).alloc o').alloc (.cells cs T)).cell? ⟨w.heap.size + 1 + 1, j, none⟩ = cs[j]? := by
  have h := cell_n1 (w := w.alloc o) (o := o') (cs := cs) (T := T) j
  rw [show (w.alloc o).heap.size = w.heap.size + 1 from by simp] at h
  exact h
theorem fro_n0 {w : World} {cs : Array Value} {T : TypeId} (j : Nat) : (w.alloc (.cells cs T)).frozen? ⟨w.heap.size, j, none⟩ = false := by
  unfold World.frozen?; rw [heap_alloc_new w _]; simp
theorem fro_n1 {w : World} {o : Obj} {cs : Array Value} {T : TypeId} (j : Nat) : ((w.alloc o).alloc (.cells cs T)).frozen? ⟨w.heap.size + 1, j, none⟩ = false := by
  have h := fro_n0 (w := w.alloc o) (cs := cs) (T := T) j
  rw [show (w.alloc o).heap.size = w.heap.size + 1 from by simp] at h
  exact h
theorem fro_n2 {w : World} {o o' : Obj} {cs : Array Value} {T : TypeId} (j : Nat) : (((w.alloc o).alloc o').alloc (.cells cs T)).frozen? ⟨w.heap.size + 1 + 1, j, none⟩ = false := by
  have h := fro_n1 (w := w.alloc o) (o := o') (cs := cs) (T := T) j
  rw [show (w.alloc o).heap.size = w.heap.size + 1 from by simp] at h
  exact h
theorem bfro {w w1 : World} {b j : Nat} (h : Below w.heap.size w w1) (hb : b < w.heap.size) (hf : w.frozen? ⟨b, j, none⟩ = false) : w1.frozen? ⟨b, j, none⟩ = false :=
  (h.frozen (p := ⟨b, j, none⟩) hb).trans hf
theorem ret_bool {a b : Bool} (h : a = b) : Ending.returned (.bool a) = .returned (.bool b) := by rw [h]
theorem ret_int {k : IntKind} {a b : Int} (h : a = b) : Ending.returned (.int k a) = .returned (.int k b) := by rw [h]
theorem run_make_rowN {P : Program} (t e : TypeId) (i : TypeInfo) (z : Value) (ht : P.underlying t = some (.slice e)) (hi : P.info? e = some i) (hz : i.zero = some z)
    (kl kc : IntKind) (n c : Nat) (hnc : n ≤ c) (hbytes : i.bytes * c ≤ 281474976710656) (h63 : c ≤ 9223372036854775807) (w : World) :
    (Instr.makeSlice t (.int kl (n : Int)) (.int kc (c : Int))).run P w = .ok (.slice (some ⟨w.heap.size, 0, none⟩) n c) (w.alloc (.cells (madeCells z.cells (c * i.size)) e)) := by
  have hb : (i.bytes : Int) * (c : Int) ≤ 281474976710656 := by
    have h : ((i.bytes * c : Nat) : Int) ≤ 281474976710656 := by omega
    rwa [Int.natCast_mul] at h
  have hr := run_make (P := P) w t e i z ht hi hz kl kc n c (by omega) (by omega) hb (by omega)
  simp only [Int.toNat_natCast] at hr
  exact hr
end Go.Proofs.Ytkhmkohgnikcmaa
namespace Go.Proofs.Ytkhmkohgnikcmaa
open Go.RowKit Go.ChangeShapes Go.WideShapes
set_option linter.unusedVariables false
set_option linter.unusedSimpArgs false
set_option maxRecDepth 100000

theorem Addr_add_off {a : Addr} (n : Nat) (h : a.spot = none) : a.add n = ⟨a.block, a.off + n, none⟩ := by
  unfold Addr.add
  split
  · rename_i h0; subst h0; cases a; simp at h; subst h; rfl
  · rfl
theorem spot_of_cell {w : World} {a : Addr} {v : Value} (h : w.cell? a = some v) : a.spot = none := by
  unfold World.cell? at h
  split at h
  · split at h
    · cases h
    · rename_i hs; simpa using hs
  · cases h

theorem SRep.cells {F : Nat → Prop} {w : World} {b : Nat} : ∀ (r : List C) (ys : List Value) (off : Nat), SRep F w r ys → (∀ i, i < ys.length → w.cell? ⟨b, off + i, none⟩ = ys[i]?) → CellsAt F w b off r
  | [], _, _, _, _ => by unfold CellsAt; trivial
  | c :: cs, _, off, ⟨z, zs, e, h1, h2⟩, k => by
    subst e
    unfold CellsAt
    refine ⟨⟨z, by simpa using k 0 (by simp), h1⟩, SRep.cells cs zs _ h2 fun i hi => ?_⟩
    have := k (i + 1) (by simpa using hi)
    rw [show off + 1 + i = off + (i + 1) from by omega]
    simpa using this
theorem rows_list {F : Nat → Prop} {w : World} {b m : Nat} {Q : List C → Prop} : ∀ (len off : Nat), (∀ i, i < len → ∃ r, Q r ∧ r.length = m ∧ CellsAt F w b (off + i * m) r) →
    ∃ rows : List (List C), rows.length = len ∧ (∀ r ∈ rows, Q r) ∧ RowsAt F w b off rows
  | 0, _, _ => ⟨[], rfl, by simp, by unfold RowsAt; trivial⟩
  | len + 1, off, h => by
    obtain ⟨r, hq, hm, hc⟩ := h 0 (by omega)
    obtain ⟨rows, h1, h2, h3⟩ := rows_list (F := F) (w := w) (b := b) (m := m) (Q := Q) len (off + m) (fun i hi => by
      have := h (i + 1) (by omega)
      rw [show off + m + i * m = off + (i + 1) * m from by rw [Nat.add_mul]; omega]
      exact this)
    refine ⟨r :: rows, by simp [h1], fun x hx => ?_, ?_⟩
    · rcases List.mem_cons.1 hx with rfl | hx
      · exact hq
      · exact h2 x hx
    · unfold RowsAt
      rw [hm]
      exact ⟨by simpa using hc, h3⟩

section
variable {H : Type} {enc : TypeId × Value → H} {w : World} {base : Nat} {held : Bool} {spare : Nat → Bool}

theorem rows_of_trod {E T n m : Nat} (hT : Try.prog.underlying T = some (.slice E)) (hm : Try.prog.cellsOf E = m) (hm0 : 0 < m) (Q : List C → Prop)
    (IH : ∀ (cs : List Value) (x : DataW H × List MemPlace), DataW.trod enc Try.prog w base spare held n E cs = some x → ∃ r, Q r ∧ r.length = m ∧ SRep (fun _ => True) w r cs)
    (cs : List Value) (x : DataW H × List MemPlace) (h : DataW.trod enc Try.prog w base spare held (n + 1) T cs = some x) :
    ∃ rows s, cs = [s] ∧ (∀ r ∈ rows, Q r) ∧ CRep (fun _ => True) w (.sl rows) s := by
  rcases DataW.trod_slice hT h with ⟨rfl, _⟩ | ⟨a, len, cap, elems, rest, n', hn, rfl, _, _, hlc, hcm, hel, he, _⟩
  · exact ⟨[], _, rfl, by simp, by unfold CRep; exact ⟨none, 0, rfl, Nat.le_refl _, by unfold maxLen; omega, .inl rfl⟩⟩
  · obtain rfl : n = n' := by omega
    rw [hm] at he
    by_cases h0 : len = 0
    · exact ⟨[], _, rfl, by simp, by unfold CRep; exact ⟨some a, cap, by rw [h0]; rfl, Nat.zero_le _, hcm, .inl rfl⟩⟩
    · have get : ∀ i, i < len → ∃ cs', w.cells? base (a.add (i * m)) m = some cs' ∧ ∃ r, Q r ∧ r.length = m ∧ SRep (fun _ => True) w r cs' := by
        intro i hi
        have hk := he i hi
        rw [List.getElem?_eq_getElem (by omega)] at hk
        obtain ⟨cs', hc, ht⟩ := Option.bind_eq_some_iff.1 hk
        exact ⟨cs', hc, IH _ _ ht⟩
      obtain ⟨cs0, hc0, _⟩ := get 0 (by omega)
      obtain ⟨_, hl0, g0⟩ := World.cells?_some hc0
      have g00 := g0 0 hm0
      rw [Nat.zero_mul, show (a.add 0).add 0 = a from by simp [Addr.add], List.getElem?_eq_getElem (by omega)] at g00
      have hs := spot_of_cell g00
      have hb := World.block_lt_of_cell? w _ g00
      obtain ⟨rows, hr1, hr2, hr3⟩ := rows_list (F := fun _ => True) (w := w) (b := a.block) (m := m) (Q := Q) len a.off (fun i hi => by
        obtain ⟨cs', hc, r, hq, hlr, hr⟩ := get i hi
        obtain ⟨_, hl, g⟩ := World.cells?_some hc
        refine ⟨r, hq, hlr, SRep.cells r cs' _ hr fun j hj => ?_⟩
        have := g j (by omega)
        rw [Addr_add_off (i * m) hs, Addr_add_off j rfl] at this
        exact this)
      refine ⟨rows, _, rfl, hr2, ?_⟩
      unfold CRep
      refine ⟨some a, cap, by rw [hr1], by omega, hcm, .inr ⟨a.block, a.off, ?_, trivial, hb, hr3⟩⟩
      cases a; simp at hs; subst hs; rfl

theorem int_of_trod {T n : Nat} (hT : Try.prog.underlying T = some (.int .i64)) {cs : List Value} {x : DataW H × List MemPlace} (h : DataW.trod enc Try.prog w base spare held n T cs = some x) : ∃ k, cs = [.int .i64 k] := by
  obtain ⟨k, h, _⟩ := DataW.trod_int hT h
  exact ⟨k, h⟩
end

section
variable {H : Type} {enc : TypeId × Value → H} {P : Program}
/-- The row's last step where of the world behind the call 'Below' alone is known. -/
theorem below_trod {t : TypeId} (hl : laidOutB P = true) (hr : P.readableRec t = true) (hrow : t < P.types.size) {W W' : World} {v : Value} {d : DataW H} {ps : List MemPlace}
    (h : DataW.Trod enc P W 0 (fun _ => true) true t v d ps) (hb : Below W.heap.size W W') :
    DataW.Trod enc P W' 0 (fun b => decide (b < W.heap.size)) true t v d ps :=
  Below.trod hl hr hrow h hb (by obtain ⟨m, hm⟩ := h; exact DataW.trod_lt m _ _ _ hm)
end
end Go.Proofs.Ytkhmkohgnikcmaa
namespace Go.Proofs.Ytkhmkohgnikcmaa
open Go.RowKit
set_option linter.unusedVariables false
set_option linter.unusedSimpArgs false

inductive Ty where
  | mk (kind : Int) (kids : List Ty)

def Ty.kind : Ty → Int | .mk k _ => k
def Ty.kids : Ty → List Ty | .mk _ ts => ts

mutual
def Ty.row : Ty → List C
  | .mk k ts => [.int k, .sl (Ty.rows ts)]
def Ty.rows : List Ty → List (List C)
  | [] => []
  | t :: ts => t.row :: Ty.rows ts
end
theorem Ty.rows_eq (ts : List Ty) : Ty.rows ts = ts.map Ty.row := by
  induction ts with
  | nil => rfl
  | cons t ts ih => unfold Ty.rows; rw [ih]; rfl
theorem Ty.rows_length (ts : List Ty) : (Ty.rows ts).length = ts.length := by rw [Ty.rows_eq]; simp
theorem Ty.row_length : ∀ t : Ty, t.row.length = 2 | .mk _ _ => by unfold Ty.row; rfl

/-- A slice of types. -/
def TysRep (F : Nat → Prop) (w : World) (ts : List Ty) (y : Value) : Prop := CRep F w (.sl (Ty.rows ts)) y
/-- A type by value. -/
def TyRep (F : Nat → Prop) (w : World) (t : Ty) (y : Value) : Prop := ∃ s, y = .agg #[.int .i64 t.kind, s] ∧ TysRep F w t.kids s

theorem TysRep.move {F G : Nat → Prop} {w w' : World} {ts : List Ty} {y : Value} (h : TysRep F w ts y) (k : Keeps F G w w') : TysRep G w' ts y := CRep.move k _ _ h
theorem TyRep.move {F G : Nat → Prop} {w w' : World} {t : Ty} {y : Value} (h : TyRep F w t y) (k : Keeps F G w w') : TyRep G w' t y :=
  let ⟨s, h1, h2⟩ := h; ⟨s, h1, h2.move k⟩
theorem TyRep.below {F : Nat → Prop} {w w' : World} {t : Ty} {y : Value} (h : TyRep F w t y) (k : Below w.heap.size w w') : TyRep F w' t y := h.move (.below k)
theorem TysRep.below {F : Nat → Prop} {w w' : World} {t : List Ty} {y : Value} (h : TysRep F w t y) (k : Below w.heap.size w w') : TysRep F w' t y := h.move (.below k)

theorem TysRep.open {F : Nat → Prop} {w : World} {ts : List Ty} {y : Value} (h : TysRep F w ts y) :
    ∃ (a : Option Addr) (cap : Nat), y = .slice a ts.length cap ∧ ts.length ≤ cap ∧ cap ≤ maxLen ∧
      ∀ i (h : i < ts.length), ∃ b off k c m q, a = some ⟨b, off, none⟩ ∧ w.cell? ⟨b, off + i * 2, none⟩ = some (.int .i64 k) ∧ w.cell? ⟨b, off + i * 2 + 1, none⟩ = some (.slice c m q) ∧ TyRep F w ts[i] (.agg #[.int .i64 k, .slice c m q]) := by
  obtain ⟨a, cap, h1, h2, h3, h4⟩ := CRep.rows h
  rw [Ty.rows_length] at h1 h2
  refine ⟨a, cap, h1, h2, h3, fun i hi => ?_⟩
  rcases h4 with h4 | ⟨b, off, ha, hF, hl, hr⟩
  · rw [← Ty.rows_length, h4] at hi; exact absurd hi (Nat.not_lt_zero _)
  · have hc := hr.get (m := 2) (fun r hr => by rw [Ty.rows_eq] at hr; obtain ⟨t, _, rfl⟩ := List.mem_map.1 hr; exact t.row_length) i (by rw [Ty.rows_length]; exact hi)
    have he : (Ty.rows ts)[i]'(by rw [Ty.rows_length]; exact hi) = ts[i].row := by simp [Ty.rows_eq]
    rw [he] at hc
    obtain ⟨k, ks, ht⟩ : ∃ k ks, ts[i] = Ty.mk k ks := ⟨ts[i].kind, ts[i].kids, by cases ts[i]; rfl⟩
    rw [ht] at hc ⊢
    unfold Ty.row CellsAt at hc
    obtain ⟨⟨y0, hy0, hc0⟩, hc⟩ := hc
    unfold CellsAt at hc
    obtain ⟨⟨y1, hy1, hc1⟩, _⟩ := hc
    rw [CRep.int_eq hc0] at hy0
    obtain ⟨c, q, rfl, _⟩ := CRep.rows hc1
    exact ⟨b, off, k, c, _, q, ha, hy0, hy1, _, rfl, hc1⟩
theorem TyRep.open {F : Nat → Prop} {w : World} {t : Ty} {y : Value} (h : TyRep F w t y) :
    ∃ (a : Option Addr) (cap : Nat), y = .agg #[.int .i64 t.kind, .slice a t.kids.length cap] ∧ t.kids.length ≤ cap ∧ cap ≤ maxLen ∧ TysRep F w t.kids (.slice a t.kids.length cap) := by
  obtain ⟨s, rfl, hs⟩ := h
  obtain ⟨a, cap, rfl, h2, h3, _⟩ := hs.open
  exact ⟨a, cap, rfl, h2, h3, hs⟩
theorem TyRep.shape {F : Nat → Prop} {w : World} {t : Ty} {y : Value} (h : TyRep F w t y) : ∃ k a n q, y = .agg #[.int .i64 k, .slice a n q] := by
  obtain ⟨a, q, rfl, _⟩ := h.open
  exact ⟨_, a, _, q, rfl⟩
theorem TysRep.shape {F : Nat → Prop} {w : World} {t : List Ty} {y : Value} (h : TysRep F w t y) : ∃ a n q, y = .slice a n q := by
  obtain ⟨a, q, rfl, _⟩ := h.open
  exact ⟨a, _, q, rfl⟩
theorem Ty.kid_lt {t : Ty} {x : Ty} (h : x ∈ t.kids) : SizeOf.sizeOf x < SizeOf.sizeOf t := by
  cases t with
  | mk k ts => have := List.sizeOf_lt_of_mem h; simp only [Ty.kids] at h this; simp; omega

mutual
/-- How many types lie below a type. -/
def Ty.cnt : Ty → Nat
  | .mk _ ts => ts.length + Ty.cnts ts
def Ty.cnts : List Ty → Nat
  | [] => 0
  | t :: ts => t.cnt + Ty.cnts ts
end
theorem Ty.cnts_take_succ : ∀ (ts : List Ty) (j : Nat) (h : j < ts.length), Ty.cnts (ts.take (j + 1)) = Ty.cnts (ts.take j) + ts[j].cnt
  | [], _, h => absurd h (Nat.not_lt_zero _)
  | t :: ts, 0, _ => by simp [Ty.cnts]
  | t :: ts, j + 1, h => by
    have := Ty.cnts_take_succ ts j (by simpa using h)
    simp only [List.take_succ_cons, Ty.cnts, List.getElem_cons_succ]
    omega
theorem Ty.cnts_take_le : ∀ (ts : List Ty) (j : Nat), Ty.cnts (ts.take j) ≤ Ty.cnts ts
  | [], _ => by simp
  | t :: ts, 0 => by simp [Ty.cnts]
  | t :: ts, j + 1 => by
    have := Ty.cnts_take_le ts j
    simp only [List.take_succ_cons, Ty.cnts]
    omega
theorem Ty.cnt_mem : ∀ {ts : List Ty} {t : Ty}, t ∈ ts → t.cnt ≤ Ty.cnts ts
  | u :: ts, t, h => by
    rcases List.mem_cons.1 h with rfl | h
    · simp only [Ty.cnts]; omega
    · have := Ty.cnt_mem h; simp only [Ty.cnts]; omega
theorem Ty.cnt_kid {t x : Ty} (h : x ∈ t.kids) : x.cnt + t.kids.length ≤ t.cnt := by
  cases t with
  | mk k ts => have h2 : x ∈ ts := h; have := Ty.cnt_mem h2; simp only [Ty.kids, Ty.cnt]; omega
theorem TysRep.at {F : Nat → Prop} {w wr : World} {ts : List Ty} {a : Option Addr} {n cap : Nat} (h : TysRep F w ts (.slice a n cap)) (hb : Below w.heap.size w wr) {i : Nat} (hi : i < ts.length) :
    ∃ b off k c m q, a = some ⟨b, off, none⟩ ∧ b < wr.heap.size ∧ wr.cell? ⟨b, off + i * 2, none⟩ = some (.int .i64 k) ∧ wr.cell? ⟨b, off + i * 2 + 1, none⟩ = some (.slice c m q) ∧ TyRep F wr ts[i] (.agg #[.int .i64 k, .slice c m q]) := by
  obtain ⟨a', cap', he, _, _, hg⟩ := h.open
  simp only [Value.slice.injEq] at he
  obtain ⟨rfl, _, rfl⟩ := he
  obtain ⟨b, off, k, c, m, q, ha, h0, h1, ht⟩ := hg i hi
  have e0 := (hb.cell (p := ⟨b, off + i * 2, none⟩) (World.block_lt_of_cell? w _ h0)).trans h0
  exact ⟨b, off, k, c, m, q, ha, World.block_lt_of_cell? wr _ e0, e0, (hb.cell (p := ⟨b, off + i * 2 + 1, none⟩) (World.block_lt_of_cell? w _ h1)).trans h1, ht.below hb⟩
end Go.Proofs.Ytkhmkohgnikcmaa
namespace Go.Proofs.Ytkhmkohgnikcmaa
open Go.RowKit Go.ChangeShapes Go.WideShapes
set_option linter.unusedVariables false
set_option linter.unusedSimpArgs false
set_option maxRecDepth 100000

theorem Try.cellsLTy : Try.prog.cellsOf 24 = 2 := by kernel_rfl
theorem Try.cellsInt : Try.prog.cellsOf 3 = 1 := by kernel_rfl
theorem Try.cellsLTys : Try.prog.cellsOf 22 = 1 := by kernel_rfl

theorem Ty.of_rows : ∀ rows : List (List C), (∀ r ∈ rows, ∃ t : Ty, r = t.row) → ∃ ts, rows = Ty.rows ts
  | [], _ => ⟨[], by unfold Ty.rows; rfl⟩
  | r :: rows, h => by
    obtain ⟨t, rfl⟩ := h r (List.mem_cons_self ..)
    obtain ⟨ts, rfl⟩ := Ty.of_rows rows (fun r hr => h r (List.mem_cons_of_mem _ hr))
    exact ⟨t :: ts, by conv => rhs; unfold Ty.rows⟩

section
variable {H : Type} {enc : TypeId × Value → H} {w : World} {base : Nat} {held : Bool} {spare : Nat → Bool}

theorem ty_of_trod : ∀ (n : Nat) (cs : List Value) (x : DataW H × List MemPlace), DataW.trod enc Try.prog w base spare held n 24 cs = some x →
    ∃ (t : Ty), t.row.length = 2 ∧ SRep (fun _ => True) w t.row cs := by
  intro n
  induction n using Nat.strongRecOn with
  | _ n IH =>
    intro cs x h
    obtain ⟨xs, m, rfl, _, hlen, hlx, hf⟩ := DataW.trod_struct Try.underlying24 h
    have hx2 : xs.length = 2 := hlx
    have f0 : DataW.trod enc Try.prog w base spare held m 3 ((cs.drop 0).take (Try.prog.cellsOf 3)) = xs[0]? := hf 0 _ rfl
    have f1 : DataW.trod enc Try.prog w base spare held m 22 ((cs.drop 1).take (Try.prog.cellsOf 22)) = xs[1]? := hf 1 _ rfl
    rw [Try.cellsLTy] at hlen
    match cs, hlen with
    | [c0, c1], _ =>
      rw [List.getElem?_eq_getElem (by omega)] at f0 f1
      rw [Try.cellsInt] at f0
      rw [Try.cellsLTys] at f1
      simp only [List.drop_zero, List.drop_succ_cons, List.take_succ_cons, List.take_zero] at f0 f1
      obtain ⟨k, hk⟩ := int_of_trod Try.underlying3 f0
      simp at hk
      subst hk
      cases m with
      | zero => simp [DataW.trod] at f1
      | succ m =>
        obtain ⟨rows, s, hs, hq, hr⟩ := rows_of_trod (m := 2) Try.underlying22 Try.cellsLTy (by omega) (fun r => ∃ t : Ty, r = t.row) (fun cs x h => by
          obtain ⟨t, h1, h2⟩ := IH m (by omega) cs x h
          exact ⟨t.row, ⟨t, rfl⟩, h1, h2⟩) _ _ f1
        simp at hs
        subst hs
        obtain ⟨ts, rfl⟩ := Ty.of_rows rows hq
        refine ⟨.mk k ts, Ty.row_length _, ?_⟩
        unfold Ty.row
        exact ⟨_, _, rfl, by unfold CRep; rfl, _, _, rfl, hr, rfl⟩

end
end Go.Proofs.Ytkhmkohgnikcmaa
namespace Go.Proofs.Ytkhmkohgnikcmaa
open Go.RowKit
set_option linter.unusedVariables false
set_option linter.unusedSimpArgs false
set_option maxRecDepth 100000


inductive Tm where
  | mk (kind : Int) (name : ByteArray) (num : Int) (type src : Ty) (label : Int) (kids : List Tm)

def Tm.kind : Tm → Int | .mk k _ _ _ _ _ _ => k
def Tm.name : Tm → ByteArray | .mk _ s _ _ _ _ _ => s
def Tm.num : Tm → Int | .mk _ _ u _ _ _ _ => u
def Tm.type : Tm → Ty | .mk _ _ _ t _ _ _ => t
def Tm.src : Tm → Ty | .mk _ _ _ _ t _ _ => t
def Tm.label : Tm → Int | .mk _ _ _ _ _ l _ => l
def Tm.kids : Tm → List Tm | .mk _ _ _ _ _ _ ts => ts

mutual
def Tm.row : Tm → List C
  | .mk k s u t f l ts => [.int k, .str s, .int u, .int t.kind, .sl (Ty.rows t.kids), .int f.kind, .sl (Ty.rows f.kids), .int l, .sl (Tm.rows ts)]
def Tm.rows : List Tm → List (List C)
  | [] => []
  | t :: ts => t.row :: Tm.rows ts
end
theorem Tm.rows_eq (ts : List Tm) : Tm.rows ts = ts.map Tm.row := by
  induction ts with
  | nil => rfl
  | cons t ts ih => unfold Tm.rows; rw [ih]; rfl
theorem Tm.rows_length (ts : List Tm) : (Tm.rows ts).length = ts.length := by rw [Tm.rows_eq]; simp
theorem Tm.row_length : ∀ t : Tm, t.row.length = 9 | .mk _ _ _ _ _ _ _ => by unfold Tm.row; rfl

/-- A slice of terms. -/
def TmsRep (F : Nat → Prop) (w : World) (ts : List Tm) (y : Value) : Prop := CRep F w (.sl (Tm.rows ts)) y
/-- A term by value. -/
def TmRep (F : Nat → Prop) (w : World) (t : Tm) (y : Value) : Prop := ∃ s1 s2 s, y = .agg #[.int .i64 t.kind, .string t.name, .int .i64 t.num, .int .i64 t.type.kind, s1, .int .i64 t.src.kind, s2, .int .i64 t.label, s] ∧ t.name.size ≤ maxLen ∧ TysRep F w t.type.kids s1 ∧ TysRep F w t.src.kids s2 ∧ TmsRep F w t.kids s

theorem TmsRep.move {F G : Nat → Prop} {w w' : World} {ts : List Tm} {y : Value} (h : TmsRep F w ts y) (k : Keeps F G w w') : TmsRep G w' ts y := CRep.move k _ _ h
theorem TmRep.move {F G : Nat → Prop} {w w' : World} {t : Tm} {y : Value} (h : TmRep F w t y) (k : Keeps F G w w') : TmRep G w' t y :=
  let ⟨s1, s2, s, h1, h2, h3, h4, h5⟩ := h; ⟨s1, s2, s, h1, h2, h3.move k, h4.move k, h5.move k⟩
theorem TmRep.below {F : Nat → Prop} {w w' : World} {t : Tm} {y : Value} (h : TmRep F w t y) (k : Below w.heap.size w w') : TmRep F w' t y := h.move (.below k)
theorem TmsRep.below {F : Nat → Prop} {w w' : World} {t : List Tm} {y : Value} (h : TmsRep F w t y) (k : Below w.heap.size w w') : TmsRep F w' t y := h.move (.below k)

/-- The parts of a term. -/
theorem TmRep.open {F : Nat → Prop} {w : World} {t : Tm} {y : Value} (h : TmRep F w t y) :
    ∃ ta tq fa fq c q, y = .agg #[.int .i64 t.kind, .string t.name, .int .i64 t.num, .int .i64 t.type.kind, .slice ta t.type.kids.length tq, .int .i64 t.src.kind, .slice fa t.src.kids.length fq, .int .i64 t.label, .slice c t.kids.length q] ∧ t.name.size ≤ maxLen ∧
      t.kids.length ≤ q ∧ q ≤ maxLen ∧ TyRep F w t.type (.agg #[.int .i64 t.type.kind, .slice ta t.type.kids.length tq]) ∧ TyRep F w t.src (.agg #[.int .i64 t.src.kind, .slice fa t.src.kids.length fq]) ∧ TmsRep F w t.kids (.slice c t.kids.length q) := by
  obtain ⟨s1, s2, s, rfl, hn, h1, h2, h3⟩ := h
  obtain ⟨ta, tq, rfl, -, -, -⟩ := h1.open
  obtain ⟨fa, fq, rfl, -, -, -⟩ := h2.open
  obtain ⟨c, q, rfl, h4, h5, -⟩ := CRep.rows h3
  rw [Tm.rows_length] at h4 h3 ⊢
  exact ⟨ta, tq, fa, fq, c, q, rfl, hn, h4, h5, ⟨_, rfl, h1⟩, ⟨_, rfl, h2⟩, h3⟩
theorem TmRep.shape {F : Nat → Prop} {w : World} {t : Tm} {y : Value} (h : TmRep F w t y) : ∃ k nm u tk ta tn tq fk fa fn fq l c m q, y = .agg #[.int .i64 k, .string nm, .int .i64 u, .int .i64 tk, .slice ta tn tq, .int .i64 fk, .slice fa fn fq, .int .i64 l, .slice c m q] := by
  obtain ⟨ta, tq, fa, fq, c, q, rfl, _⟩ := h.open
  exact ⟨_, _, _, _, ta, _, tq, _, fa, _, fq, _, c, _, q, rfl⟩
theorem TmsRep.shape {F : Nat → Prop} {w : World} {t : List Tm} {y : Value} (h : TmsRep F w t y) : ∃ a n q, y = .slice a n q := by
  obtain ⟨a, q, rfl, _⟩ := CRep.rows h
  exact ⟨a, _, q, rfl⟩
theorem TmsRep.open {F : Nat → Prop} {w : World} {ts : List Tm} {y : Value} (h : TmsRep F w ts y) :
    ∃ (a : Option Addr) (cap : Nat), y = .slice a ts.length cap ∧ ts.length ≤ cap ∧ cap ≤ maxLen ∧
      ∀ i (h : i < ts.length), ∃ b off k nm u tk ta tn tq fk fa fn fq l c m q, a = some ⟨b, off, none⟩ ∧ w.cell? ⟨b, off + i * 9, none⟩ = some (.int .i64 k) ∧ w.cell? ⟨b, off + i * 9 + 1, none⟩ = some (.string nm) ∧ w.cell? ⟨b, off + i * 9 + 2, none⟩ = some (.int .i64 u) ∧ w.cell? ⟨b, off + i * 9 + 3, none⟩ = some (.int .i64 tk) ∧ w.cell? ⟨b, off + i * 9 + 4, none⟩ = some (.slice ta tn tq) ∧ w.cell? ⟨b, off + i * 9 + 5, none⟩ = some (.int .i64 fk) ∧ w.cell? ⟨b, off + i * 9 + 6, none⟩ = some (.slice fa fn fq) ∧ w.cell? ⟨b, off + i * 9 + 7, none⟩ = some (.int .i64 l) ∧ w.cell? ⟨b, off + i * 9 + 8, none⟩ = some (.slice c m q) ∧ TmRep F w ts[i] (.agg #[.int .i64 k, .string nm, .int .i64 u, .int .i64 tk, .slice ta tn tq, .int .i64 fk, .slice fa fn fq, .int .i64 l, .slice c m q]) := by
  obtain ⟨a, cap, h1, h2, h3, h4⟩ := CRep.rows h
  rw [Tm.rows_length] at h1 h2
  refine ⟨a, cap, h1, h2, h3, fun i hi => ?_⟩
  rcases h4 with h4 | ⟨b, off, ha, hF, hl, hr⟩
  · rw [← Tm.rows_length, h4] at hi; exact absurd hi (Nat.not_lt_zero _)
  · have hc := hr.get (m := 9) (fun r hr => by rw [Tm.rows_eq] at hr; obtain ⟨t, _, rfl⟩ := List.mem_map.1 hr; exact t.row_length) i (by rw [Tm.rows_length]; exact hi)
    have he : (Tm.rows ts)[i]'(by rw [Tm.rows_length]; exact hi) = ts[i].row := by simp [Tm.rows_eq]
    rw [he] at hc
    obtain ⟨k, s, u, t, f, l, ks, ht⟩ : ∃ k s u t f l ks, ts[i] = Tm.mk k s u t f l ks := by cases ts[i]; exact ⟨_, _, _, _, _, _, _, rfl⟩
    rw [ht] at hc ⊢
    unfold Tm.row at hc
    unfold CellsAt at hc
    obtain ⟨⟨y0, hy0, hc0⟩, hc⟩ := hc
    unfold CellsAt at hc
    obtain ⟨⟨y1, hy1, hc1⟩, hc⟩ := hc
    unfold CellsAt at hc
    obtain ⟨⟨y2, hy2, hc2⟩, hc⟩ := hc
    unfold CellsAt at hc
    obtain ⟨⟨y3, hy3, hc3⟩, hc⟩ := hc
    unfold CellsAt at hc
    obtain ⟨⟨y4, hy4, hc4⟩, hc⟩ := hc
    unfold CellsAt at hc
    obtain ⟨⟨y5, hy5, hc5⟩, hc⟩ := hc
    unfold CellsAt at hc
    obtain ⟨⟨y6, hy6, hc6⟩, hc⟩ := hc
    unfold CellsAt at hc
    obtain ⟨⟨y7, hy7, hc7⟩, hc⟩ := hc
    unfold CellsAt at hc
    obtain ⟨⟨y8, hy8, hc8⟩, -⟩ := hc
    rw [CRep.int_eq hc0] at hy0
    obtain ⟨rfl, hsz⟩ := CRep.str_eq hc1
    rw [CRep.int_eq hc2] at hy2
    rw [CRep.int_eq hc3] at hy3
    obtain ⟨ta, tq, rfl, -⟩ := CRep.rows hc4
    rw [CRep.int_eq hc5] at hy5
    obtain ⟨fa, fq, rfl, -⟩ := CRep.rows hc6
    rw [CRep.int_eq hc7] at hy7
    obtain ⟨c, q, rfl, -⟩ := CRep.rows hc8
    exact ⟨b, off, k, s, u, t.kind, ta, _, tq, f.kind, fa, _, fq, l, c, _, q, ha, hy0, hy1, hy2, hy3, hy4, hy5, hy6, hy7, hy8, _, _, _, rfl, hsz, hc4, hc6, hc8⟩
theorem TmsRep.at {F : Nat → Prop} {w wr : World} {ts : List Tm} {a : Option Addr} {n cap : Nat} (h : TmsRep F w ts (.slice a n cap)) (hb : Below w.heap.size w wr) {i : Nat} (hi : i < ts.length) :
    ∃ b off k nm u tk ta tn tq fk fa fn fq l c m q, a = some ⟨b, off, none⟩ ∧ b < wr.heap.size ∧ wr.cell? ⟨b, off + i * 9, none⟩ = some (.int .i64 k) ∧ wr.cell? ⟨b, off + i * 9 + 1, none⟩ = some (.string nm) ∧ wr.cell? ⟨b, off + i * 9 + 2, none⟩ = some (.int .i64 u) ∧ wr.cell? ⟨b, off + i * 9 + 3, none⟩ = some (.int .i64 tk) ∧ wr.cell? ⟨b, off + i * 9 + 4, none⟩ = some (.slice ta tn tq) ∧ wr.cell? ⟨b, off + i * 9 + 5, none⟩ = some (.int .i64 fk) ∧ wr.cell? ⟨b, off + i * 9 + 6, none⟩ = some (.slice fa fn fq) ∧ wr.cell? ⟨b, off + i * 9 + 7, none⟩ = some (.int .i64 l) ∧ wr.cell? ⟨b, off + i * 9 + 8, none⟩ = some (.slice c m q) ∧ TmRep F wr ts[i] (.agg #[.int .i64 k, .string nm, .int .i64 u, .int .i64 tk, .slice ta tn tq, .int .i64 fk, .slice fa fn fq, .int .i64 l, .slice c m q]) := by
  obtain ⟨a', cap', he, _, _, hg⟩ := h.open
  simp only [Value.slice.injEq] at he
  obtain ⟨rfl, _, rfl⟩ := he
  obtain ⟨b, off, k, nm, u, tk, ta, tn, tq, fk, fa, fn, fq, l, c, m, q, ha, h0, h1, h2, h3, h4, h5, h6, h7, h8, ht⟩ := hg i hi
  have e0 := bcell hb h0
  exact ⟨b, off, k, nm, u, tk, ta, tn, tq, fk, fa, fn, fq, l, c, m, q, ha, World.block_lt_of_cell? wr _ e0, e0, bcell hb h1, bcell hb h2, bcell hb h3, bcell hb h4, bcell hb h5, bcell hb h6, bcell hb h7, bcell hb h8, ht.below hb⟩
/-- What is known of the parts of a term that is laid open. -/
theorem TmRep.parts {F : Nat → Prop} {w : World} {t : Tm} {k u tk fk l : Int} {nm : ByteArray} {ta fa c : Option Addr} {tn tq fn fq m q : Nat} (h : TmRep F w t (.agg #[.int .i64 k, .string nm, .int .i64 u, .int .i64 tk, .slice ta tn tq, .int .i64 fk, .slice fa fn fq, .int .i64 l, .slice c m q])) :
    k = t.kind ∧ nm = t.name ∧ u = t.num ∧ tk = t.type.kind ∧ tn = t.type.kids.length ∧ fk = t.src.kind ∧ fn = t.src.kids.length ∧ l = t.label ∧ m = t.kids.length ∧ nm.size ≤ maxLen ∧ m ≤ q ∧ q ≤ maxLen ∧
      TyRep F w t.type (.agg #[.int .i64 tk, .slice ta tn tq]) ∧ TyRep F w t.src (.agg #[.int .i64 fk, .slice fa fn fq]) ∧ TmsRep F w t.kids (.slice c m q) := by
  obtain ⟨ta', tq', fa', fq', c', q', he, hn, h4, h5, h6, h7, h8⟩ := h.open
  simp only [Value.agg.injEq, Array.mk.injEq, List.cons.injEq, Value.int.injEq, Value.string.injEq, Value.slice.injEq, true_and, and_true] at he
  obtain ⟨rfl, rfl, rfl, rfl, ⟨rfl, rfl, rfl⟩, rfl, ⟨rfl, rfl, rfl⟩, rfl, ⟨rfl, rfl, rfl⟩⟩ := he
  exact ⟨rfl, rfl, rfl, rfl, rfl, rfl, rfl, rfl, rfl, hn, h4, h5, h6, h7, h8⟩
theorem Tm.kid_lt {t : Tm} {x : Tm} (h : x ∈ t.kids) : SizeOf.sizeOf x < SizeOf.sizeOf t := by
  cases t with
  | mk k s u t f l ts => have := List.sizeOf_lt_of_mem h; simp only [Tm.kids] at h this; simp; omega

mutual
/-- How much a term takes from a purse. -/
def Tm.cnt : Tm → Nat
  | .mk _ s _ t f _ ts => s.size + t.cnt + f.cnt + (ts.length + Tm.cnts ts)
def Tm.cnts : List Tm → Nat
  | [] => 0
  | t :: ts => t.cnt + Tm.cnts ts
end
theorem Tm.cnts_take_succ : ∀ (ts : List Tm) (j : Nat) (h : j < ts.length), Tm.cnts (ts.take (j + 1)) = Tm.cnts (ts.take j) + ts[j].cnt
  | [], _, h => absurd h (Nat.not_lt_zero _)
  | t :: ts, 0, _ => by simp [Tm.cnts]
  | t :: ts, j + 1, h => by
    have := Tm.cnts_take_succ ts j (by simpa using h)
    simp only [List.take_succ_cons, Tm.cnts, List.getElem_cons_succ]
    omega
theorem Tm.cnts_take_le : ∀ (ts : List Tm) (j : Nat), Tm.cnts (ts.take j) ≤ Tm.cnts ts
  | [], _ => by simp
  | t :: ts, 0 => by simp [Tm.cnts]
  | t :: ts, j + 1 => by
    have := Tm.cnts_take_le ts j
    simp only [List.take_succ_cons, Tm.cnts]
    omega
theorem Tm.cnt_mem : ∀ {ts : List Tm} {t : Tm}, t ∈ ts → t.cnt ≤ Tm.cnts ts
  | u :: ts, t, h => by
    rcases List.mem_cons.1 h with rfl | h
    · simp only [Tm.cnts]; omega
    · have := Tm.cnt_mem h; simp only [Tm.cnts]; omega
theorem Tm.cnt_parts (t : Tm) : t.cnt = t.name.size + t.type.cnt + t.src.cnt + (t.kids.length + Tm.cnts t.kids) := by
  cases t with | mk k s u t f l ts => simp only [Tm.cnt, Tm.name, Tm.type, Tm.src, Tm.kids]
theorem Tm.cnt_kid {t x : Tm} (h : x ∈ t.kids) : x.cnt + t.kids.length ≤ t.cnt := by
  have h1 := Tm.cnt_mem h
  have h2 := t.cnt_parts
  omega
end Go.Proofs.Ytkhmkohgnikcmaa
namespace Go.Proofs.Ytkhmkohgnikcmaa
open Go.RowKit Go.ChangeShapes Go.WideShapes
set_option linter.unusedVariables false
set_option linter.unusedSimpArgs false
set_option maxRecDepth 100000


theorem Try.cellsLTm : Try.prog.cellsOf 27 = 9 := by kernel_rfl
theorem Try.cellsStr : Try.prog.cellsOf 9 = 1 := by kernel_rfl
theorem Try.cellsLTms : Try.prog.cellsOf 25 = 1 := by kernel_rfl

theorem Tm.of_rows : ∀ rows : List (List C), (∀ r ∈ rows, ∃ t : Tm, r = t.row) → ∃ ts, rows = Tm.rows ts
  | [], _ => ⟨[], by unfold Tm.rows; rfl⟩
  | r :: rows, h => by
    obtain ⟨t, rfl⟩ := h r (List.mem_cons_self ..)
    obtain ⟨ts, rfl⟩ := Tm.of_rows rows (fun r hr => h r (List.mem_cons_of_mem _ hr))
    exact ⟨t :: ts, by conv => rhs; unfold Tm.rows⟩

section
variable {H : Type} {enc : TypeId × Value → H} {w : World} {base : Nat} {held : Bool} {spare : Nat → Bool}

theorem ty_parts {t : Ty} {c0 c1 : Value} (h : SRep (fun _ => True) w t.row [c0, c1]) : c0 = .int .i64 t.kind ∧ CRep (fun _ => True) w (.sl (Ty.rows t.kids)) c1 := by
  cases t with | mk k ts =>
  unfold Ty.row at h
  obtain ⟨z, zs, h1, h2, z', zs', rfl, h4, rfl⟩ := h
  simp at h1
  obtain ⟨rfl, rfl⟩ := h1
  exact ⟨CRep.int_eq h2, h4⟩
theorem tm_of_trod : ∀ (n : Nat) (cs : List Value) (x : DataW H × List MemPlace), DataW.trod enc Try.prog w base spare held n 27 cs = some x →
    ∃ (t : Tm), t.row.length = 9 ∧ SRep (fun _ => True) w t.row cs := by
  intro n
  induction n using Nat.strongRecOn with
  | _ n IH =>
    intro cs x h
    obtain ⟨xs, m, rfl, _, hlen, hlx, hf⟩ := DataW.trod_struct Try.underlying27 h
    have hx2 : xs.length = 7 := hlx
    have f0 : DataW.trod enc Try.prog w base spare held m 3 ((cs.drop 0).take (Try.prog.cellsOf 3)) = xs[0]? := hf 0 _ rfl
    have f1 : DataW.trod enc Try.prog w base spare held m 9 ((cs.drop 1).take (Try.prog.cellsOf 9)) = xs[1]? := hf 1 _ rfl
    have f2 : DataW.trod enc Try.prog w base spare held m 3 ((cs.drop 2).take (Try.prog.cellsOf 3)) = xs[2]? := hf 2 _ rfl
    have f3 : DataW.trod enc Try.prog w base spare held m 24 ((cs.drop 3).take (Try.prog.cellsOf 24)) = xs[3]? := hf 3 _ rfl
    have f4 : DataW.trod enc Try.prog w base spare held m 24 ((cs.drop 5).take (Try.prog.cellsOf 24)) = xs[4]? := hf 4 _ rfl
    have f5 : DataW.trod enc Try.prog w base spare held m 3 ((cs.drop 7).take (Try.prog.cellsOf 3)) = xs[5]? := hf 5 _ rfl
    have f6 : DataW.trod enc Try.prog w base spare held m 25 ((cs.drop 8).take (Try.prog.cellsOf 25)) = xs[6]? := hf 6 _ rfl
    rw [Try.cellsLTm] at hlen
    match cs, hlen with
    | [c0, c1, c2, c3, c4, c5, c6, c7, c8], _ =>
      rw [List.getElem?_eq_getElem (by omega)] at f0 f1 f2 f3 f4 f5 f6
      rw [Try.cellsInt] at f0 f2 f5
      rw [Try.cellsStr] at f1
      rw [Try.cellsLTy] at f3 f4
      rw [Try.cellsLTms] at f6
      simp only [List.drop_zero, List.drop_succ_cons, List.take_succ_cons, List.take_zero] at f0 f1 f2 f3 f4 f5 f6
      obtain ⟨k, hk⟩ := int_of_trod Try.underlying3 f0
      obtain ⟨s, hs, -, hz⟩ := DataW.trod_string Try.underlying9 f1
      obtain ⟨u, hu⟩ := int_of_trod Try.underlying3 f2
      obtain ⟨t, -, ht⟩ := ty_of_trod m _ _ f3
      obtain ⟨f, -, hff⟩ := ty_of_trod m _ _ f4
      obtain ⟨l, hl⟩ := int_of_trod Try.underlying3 f5
      simp at hk hs hu hl
      subst hk hs hu hl
      obtain ⟨rfl, htt⟩ := ty_parts ht
      obtain ⟨rfl, hfff⟩ := ty_parts hff
      cases m with
      | zero => simp [DataW.trod] at f6
      | succ m =>
        obtain ⟨rows, s', hs, hq, hr⟩ := rows_of_trod (m := 9) Try.underlying25 Try.cellsLTm (by omega) (fun r => ∃ t : Tm, r = t.row) (fun cs x h => by
          obtain ⟨t, h1, h2⟩ := IH m (by omega) cs x h
          exact ⟨t.row, ⟨t, rfl⟩, h1, h2⟩) _ _ f6
        simp at hs
        subst hs
        obtain ⟨ts, rfl⟩ := Tm.of_rows rows hq
        refine ⟨.mk k s u t f l ts, Tm.row_length _, ?_⟩
        unfold Tm.row
        have i1 : ∀ n : Int, CRep (fun _ => True) w (.int n) (.int .i64 n) := fun n => by unfold CRep; rfl
        exact ⟨_, _, rfl, i1 _, _, _, rfl, by unfold CRep; exact ⟨rfl, hz⟩, _, _, rfl, i1 _, _, _, rfl, i1 _, _, _, rfl, htt, _, _, rfl, i1 _, _, _, rfl, hfff, _, _, rfl, i1 _, _, _, rfl, hr, rfl⟩

theorem tm_of_arg {v : Value} {d : DataW H} {ps : List MemPlace} {r : Reach} {b : Nat} (hv : Value.okWide Try.prog w r b 27 v) (h : DataW.Trod enc Try.prog w base spare held 27 v d ps) :
    ∃ t : Tm, TmRep (fun _ => True) w t v := by
  obtain ⟨cs, rfl, hsz⟩ := okWide_struct Try.underlying27 hv
  obtain ⟨fuel, hf⟩ := h
  obtain ⟨t, _, ht⟩ := tm_of_trod fuel _ _ hf
  cases t with | mk k s u t f l ts =>
  unfold Tm.row at ht
  obtain ⟨z0, zs, h1, e0, z1, zs, rfl, e1, z2, zs, rfl, e2, z3, zs, rfl, e3, z4, zs, rfl, e4, z5, zs, rfl, e5, z6, zs, rfl, e6, z7, zs, rfl, e7, z8, zs, rfl, e8, rfl⟩ := ht
  obtain ⟨rfl, hz⟩ := CRep.str_eq e1
  rw [CRep.int_eq e0, CRep.int_eq e2, CRep.int_eq e3, CRep.int_eq e5, CRep.int_eq e7] at h1
  refine ⟨.mk k s u t f l ts, z4, z6, z8, ?_, hz, e4, e6, e8⟩
  obtain ⟨xs⟩ := cs
  simp only [Value.cells] at h1
  rw [show xs = [.int .i64 k, .string s, .int .i64 u, .int .i64 t.kind, z4, .int .i64 f.kind, z6, .int .i64 l, z8] from by simpa using h1]
  rfl
end
end Go.Proofs.Ytkhmkohgnikcmaa
