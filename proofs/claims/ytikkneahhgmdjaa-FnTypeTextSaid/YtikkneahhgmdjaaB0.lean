/-
  Data of the language, whatever the type: a cell holds a number, a string or a slice of rows of cells; what it means that a value of the model reads as such data in a world; that this is kept while the blocks concerned are kept.
  Arguments read as data: slices of rows.
-/
import Derived.WalkKit
import Derived.WalkSpells
import Derived.WalkLawsBesides
import Derived.Lib.Hide
import Derived.Deep.Draws
import Derived.Test.YtikkneahhgmdjaaRows
import Derived.ProofKit
import Derived.OpenShut
import Derived.ShutString
import Derived.ChangeOld
namespace Go.Proofs.Ytikkneahhgmdjaa
open Go.RowKit
set_option linter.unusedVariables false
set_option linter.unusedSimpArgs false

inductive C where
  | int (n : Int)
  | str (s : ByteArray)
  | sl (rows : List (List C))

mutual
def CRep (F : Nat → Prop) (w : World) : C → Value → Prop
  | .int n, y => y = .int .i64 n
  | .str s, y => y = .string s ∧ s.size ≤ maxLen
  | .sl rows, y => ∃ (a : Option Addr) (cap : Nat), y = .slice a rows.length cap ∧ rows.length ≤ cap ∧ cap ≤ maxLen ∧
      (rows = [] ∨ ∃ b off, a = some ⟨b, off, none⟩ ∧ F b ∧ b < w.heap.size ∧ RowsAt F w b off rows)
def RowsAt (F : Nat → Prop) (w : World) (b : Nat) : Nat → List (List C) → Prop
  | _, [] => True
  | off, r :: rs => CellsAt F w b off r ∧ RowsAt F w b (off + r.length) rs
def CellsAt (F : Nat → Prop) (w : World) (b : Nat) : Nat → List C → Prop
  | _, [] => True
  | off, c :: cs => (∃ y, w.cell? ⟨b, off, none⟩ = some y ∧ CRep F w c y) ∧ CellsAt F w b (off + 1) cs
end

/-- The same data in another world, where the blocks that it reads are the same. -/
structure Keeps (F G : Nat → Prop) (w w' : World) : Prop where
  size : w.heap.size ≤ w'.heap.size
  sub : ∀ b, F b → b < w.heap.size → G b
  same : ∀ b, F b → b < w.heap.size → w'.heap[b]? = w.heap[b]?

mutual
theorem CRep.move {F G : Nat → Prop} {w w' : World} (k : Keeps F G w w') : ∀ (c : C) (y : Value), CRep F w c y → CRep G w' c y
  | .int n, y, h => by unfold CRep at h ⊢; exact h
  | .str s, y, h => by unfold CRep at h ⊢; exact h
  | .sl rows, y, h => by
    unfold CRep at h ⊢
    obtain ⟨a, cap, h1, h2, h3, h4⟩ := h
    refine ⟨a, cap, h1, h2, h3, ?_⟩
    rcases h4 with h4 | ⟨b, off, ha, hb, hl, hr⟩
    · exact .inl h4
    · exact .inr ⟨b, off, ha, k.sub b hb hl, Nat.lt_of_lt_of_le hl k.size, RowsAt.move k b hb hl off rows hr⟩
theorem RowsAt.move {F G : Nat → Prop} {w w' : World} (k : Keeps F G w w') (b : Nat) (hb : F b) (hl : b < w.heap.size) :
    ∀ (off : Nat) (rows : List (List C)), RowsAt F w b off rows → RowsAt G w' b off rows
  | _, [], _ => by unfold RowsAt; trivial
  | off, r :: rs, h => by
    unfold RowsAt at h ⊢
    exact ⟨CellsAt.move k b hb hl off r h.1, RowsAt.move k b hb hl _ rs h.2⟩
theorem CellsAt.move {F G : Nat → Prop} {w w' : World} (k : Keeps F G w w') (b : Nat) (hb : F b) (hl : b < w.heap.size) :
    ∀ (off : Nat) (r : List C), CellsAt F w b off r → CellsAt G w' b off r
  | _, [], _ => by unfold CellsAt; trivial
  | off, c :: cs, h => by
    unfold CellsAt at h ⊢
    obtain ⟨⟨y, hy, hc⟩, h2⟩ := h
    exact ⟨⟨y, (World.cell?_of_block (a := ⟨b, off, none⟩) (k.same b hb hl)).trans hy, CRep.move k c y hc⟩, CellsAt.move k b hb hl _ cs h2⟩
end

theorem Keeps.below {F : Nat → Prop} {w w' : World} (h : Below w.heap.size w w') : Keeps F F w w' := ⟨h.size, fun _ h _ => h, fun b _ hl => h.block b hl⟩
theorem Keeps.weaken {F G : Nat → Prop} {w : World} (h : ∀ b, F b → b < w.heap.size → G b) : Keeps F G w w := ⟨Nat.le_refl _, h, fun _ _ _ => rfl⟩

/-- A struct by value reads as a row. -/
def SRep (F : Nat → Prop) (w : World) : List C → List Value → Prop
  | [], ys => ys = []
  | c :: cs, ys => ∃ z zs, ys = z :: zs ∧ CRep F w c z ∧ SRep F w cs zs
theorem SRep.move {F G : Nat → Prop} {w w' : World} (k : Keeps F G w w') : ∀ (r : List C) (ys : List Value), SRep F w r ys → SRep G w' r ys
  | [], _, h => h
  | _ :: cs, _, ⟨z, zs, h, hc, hs⟩ => ⟨z, zs, h, hc.move k _ _, hs.move k cs zs⟩

theorem CellsAt.get {F : Nat → Prop} {w : World} {b : Nat} : ∀ {off : Nat} {r : List C}, CellsAt F w b off r → ∃ ys, SRep F w r ys ∧ ys.length = r.length ∧ ∀ j (h : j < ys.length), w.cell? ⟨b, off + j, none⟩ = some ys[j]
  | _, [], _ => ⟨[], rfl, rfl, fun _ h => absurd h (Nat.not_lt_zero _)⟩
  | off, c :: cs, h => by
    unfold CellsAt at h
    obtain ⟨⟨y, hy, hc⟩, h2⟩ := h
    obtain ⟨ys, hs, hlen, hg⟩ := CellsAt.get h2
    refine ⟨y :: ys, ⟨y, ys, rfl, hc, hs⟩, by simp [hlen], fun j hj => ?_⟩
    cases j with
    | zero => exact hy
    | succ j =>
      have := hg j (by simpa using hj)
      rw [show off + (j + 1) = off + 1 + j from by omega]
      simpa using this

theorem RowsAt.get {F : Nat → Prop} {w : World} {b m : Nat} : ∀ {off : Nat} {rows : List (List C)}, RowsAt F w b off rows → (∀ r ∈ rows, r.length = m) → ∀ i (h : i < rows.length), CellsAt F w b (off + i * m) rows[i]
  | _, [], _, _, _, h => absurd h (Nat.not_lt_zero _)
  | off, r :: rs, h, hm, i, hi => by
    unfold RowsAt at h
    cases i with
    | zero => simpa using h.1
    | succ i =>
      have := RowsAt.get h.2 (fun r hr => hm r (List.mem_cons_of_mem _ hr)) i (by simpa using hi)
      rw [hm r (List.mem_cons_self ..)] at this
      rw [show off + (i + 1) * m = off + m + i * m from by rw [Nat.add_mul]; omega]
      simpa using this

/-- The rows behind a slice that reads as data. -/
theorem CRep.rows {F : Nat → Prop} {w : World} {rows : List (List C)} {y : Value} (h : CRep F w (.sl rows) y) :
    ∃ (a : Option Addr) (cap : Nat), y = .slice a rows.length cap ∧ rows.length ≤ cap ∧ cap ≤ maxLen ∧ (rows = [] ∨ ∃ b off, a = some ⟨b, off, none⟩ ∧ F b ∧ b < w.heap.size ∧ RowsAt F w b off rows) := by
  unfold CRep at h; exact h
theorem CRep.int_eq {F : Nat → Prop} {w : World} {n : Int} {y : Value} (h : CRep F w (.int n) y) : y = .int .i64 n := by unfold CRep at h; exact h
theorem CRep.str_eq {F : Nat → Prop} {w : World} {s : ByteArray} {y : Value} (h : CRep F w (.str s) y) : y = .string s ∧ s.size ≤ maxLen := by unfold CRep at h; exact h

/-- What a call leaves alone that came behind what was left alone. -/
theorem bstep {w W w1 : World} (h : Below w.heap.size w W) (h1 : Below W.heap.size W w1) : Below w.heap.size w w1 := h.trans (h1.mono h.size)
theorem bal1 {w : World} {o : Obj} : Below w.heap.size w (w.alloc o) := (Below.refl _ _).alloc (Nat.le_refl _) _
theorem bal2 {w : World} {o o' : Obj} : Below w.heap.size w ((w.alloc o).alloc o') := bstep bal1 bal1
theorem bal3 {w : World} {o o' o2 : Obj} : Below w.heap.size w (((w.alloc o).alloc o').alloc o2) := bstep bal2 bal1

theorem bcell {w w1 : World} {a : Addr} {v : Value} (h : Below w.heap.size w w1) (hc : w.cell? a = some v) : w1.cell? a = some v :=
  (h.cell (World.block_lt_of_cell? w a hc)).trans hc
/-- What the walk takes as rules behind a call: what was there reads as it did. -/
theorem brules {W w1 : World} (hb : Below W.heap.size W w1) : (∀ b o, b < W.heap.size → w1.cell? ⟨b, o, none⟩ = W.cell? ⟨b, o, none⟩) ∧ (∀ b o, b < W.heap.size → w1.frozen? ⟨b, o, none⟩ = W.frozen? ⟨b, o, none⟩) :=
  ⟨fun b o h => hb.cell (p := ⟨b, o, none⟩) h, fun b o h => hb.frozen (p := ⟨b, o, none⟩) h⟩
theorem bcelld {w w1 : World} {a : Addr} {v : Value} (h : Below w.drew.heap.size w.drew w1) (hc : w.cell? a = some v) : w1.cell? a = some v := bcell (w := w.drew) h hc
theorem below_drewN {B : Nat} {a w : World} (h : Below B a w) (n : Nat) : Below B a (w.drewN n) := ⟨h.os, h.tape, h.output, h.size, h.block⟩
theorem bdr {w : World} : Below w.heap.size w w.drew := (Below.refl _ _).drew
theorem bdrew {w w1 W : World} (h : Below w.heap.size w W) (h1 : Below W.drew.heap.size W.drew w1) : Below w.heap.size w w1 := bstep h.drew h1

theorem cell_n0 {w : World} {cs : Array Value} {T : TypeId} (j : Nat) : (w.alloc (.cells cs T)).cell? ⟨w.heap.size, j, none⟩ = cs[j]? := by
  unfold World.cell?; rw [heap_alloc_new w _]; rfl
theorem cell_n1 {w : World} {o : Obj} {cs : Array Value} {T : TypeId} (j : Nat) : ((w.alloc o).alloc (.cells cs T)).cell? ⟨w.heap.size + 1, j, none⟩ = cs[j]? := by
  have h := cell_n0 (w := w.alloc o) (cs := cs) (T := T) j
  rw [show (w.alloc o).heap.size = w.heap.size + 1 from by simp] at h
  exact h
theorem cell_n2 {w : World} {o o' : Obj} {cs : Array Value} {T : TypeId} (j : Nat) : (((w.alloc o).alloc o').alloc (.cells cs T)).cell? ⟨w.heap.size + 1 + 1, j, none⟩ = cs[j]? := by
  have h := cell_n1 (w := w.alloc o) (o := o') (cs := cs) (T := T) j
  rw [show (w.alloc o).heap.size = w.heap.size + 1 from by simp] at h
  exact h
theorem fro_n0 {w : World} {cs : Array Value} {T : TypeId} (j : Nat) : (w.alloc (.cells cs T)).frozen? ⟨w.heap.size, j, none⟩ = false := by
  unfold World.frozen?; rw [heap_alloc_new w _]; simp
theorem fro_n1 {w : World} {o : Obj} {cs : Array Value} {T : TypeId} (j : Nat) : ((w.alloc o).alloc (.cells cs T)).frozen? ⟨w.heap.size + 1, j, none⟩ = false := by
  have h := fro_n0 (w := w.alloc o) (cs := cs) (T := T) j
  rw [show (w.alloc o).heap.size = w.heap.size + 1 from by simp] at h
  exact h
theorem fro_n2 {w : World} {o o' : Obj} {cs : Array Value} {T : TypeId} (j : Nat) : (((w.alloc o).alloc o').alloc (.cells cs T)).frozen? ⟨w.heap.size + 1 + 1, j, none⟩ = false := by
  have h := fro_n1 (w := w.alloc o) (o := o') (cs := cs) (T := T) j
  rw [show (w.alloc o).heap.size = w.heap.size + 1 from by simp] at h
  exact h
theorem bfro {w w1 : World} {b j : Nat} (h : Below w.heap.size w w1) (hb : b < w.heap.size) (hf : w.frozen? ⟨b, j, none⟩ = false) : w1.frozen? ⟨b, j, none⟩ = false :=
  (h.frozen (p := ⟨b, j, none⟩) hb).trans hf
theorem ret_bool {a b : Bool} (h : a = b) : Ending.returned (.bool a) = .returned (.bool b) := by rw [h]
theorem ret_int {k : IntKind} {a b : Int} (h : a = b) : Ending.returned (.int k a) = .returned (.int k b) := by rw [h]
theorem ret_str {a b : ByteArray} (h : a = b) : Ending.returned (.string a) = .returned (.string b) := by rw [h]

theorem run_make_rowN {P : Program} (t e : TypeId) (i : TypeInfo) (z : Value) (ht : P.underlying t = some (.slice e)) (hi : P.info? e = some i) (hz : i.zero = some z)
    (kl kc : IntKind) (n c : Nat) (hnc : n ≤ c) (hbytes : i.bytes * c ≤ 281474976710656) (h63 : c ≤ 9223372036854775807) (w : World) :
    (Instr.makeSlice t (.int kl (n : Int)) (.int kc (c : Int))).run P w = .ok (.slice (some ⟨w.heap.size, 0, none⟩) n c) (w.alloc (.cells (madeCells z.cells (c * i.size)) e)) := by
  have hb : (i.bytes : Int) * (c : Int) ≤ 281474976710656 := by
    have h : ((i.bytes * c : Nat) : Int) ≤ 281474976710656 := by omega
    rwa [Int.natCast_mul] at h
  have hr := run_make (P := P) w t e i z ht hi hz kl kc n c (by omega) (by omega) hb (by omega)
  simp only [Int.toNat_natCast] at hr
  exact hr
end Go.Proofs.Ytikkneahhgmdjaa
namespace Go.Proofs.Ytikkneahhgmdjaa
open Go.RowKit Go.ChangeShapes Go.WideShapes
set_option linter.unusedVariables false
set_option linter.unusedSimpArgs false
set_option maxRecDepth 100000

theorem Addr_add_off {a : Addr} (n : Nat) (h : a.spot = none) : a.add n = ⟨a.block, a.off + n, none⟩ := by
  unfold Addr.add
  split
  · rename_i h0; subst h0; cases a; simp at h; subst h; rfl
  · rfl
theorem spot_of_cell {w : World} {a : Addr} {v : Value} (h : w.cell? a = some v) : a.spot = none := by
  unfold World.cell? at h
  split at h
  · split at h
    · cases h
    · rename_i hs; simpa using hs
  · cases h

theorem SRep.cells {F : Nat → Prop} {w : World} {b : Nat} : ∀ (r : List C) (ys : List Value) (off : Nat), SRep F w r ys → (∀ i, i < ys.length → w.cell? ⟨b, off + i, none⟩ = ys[i]?) → CellsAt F w b off r
  | [], _, _, _, _ => by unfold CellsAt; trivial
  | c :: cs, _, off, ⟨z, zs, e, h1, h2⟩, k => by
    subst e
    unfold CellsAt
    refine ⟨⟨z, by simpa using k 0 (by simp), h1⟩, SRep.cells cs zs _ h2 fun i hi => ?_⟩
    have := k (i + 1) (by simpa using hi)
    rw [show off + 1 + i = off + (i + 1) from by omega]
    simpa using this
theorem rows_list {F : Nat → Prop} {w : World} {b m : Nat} {Q : List C → Prop} : ∀ (len off : Nat), (∀ i, i < len → ∃ r, Q r ∧ r.length = m ∧ CellsAt F w b (off + i * m) r) →
    ∃ rows : List (List C), rows.length = len ∧ (∀ r ∈ rows, Q r) ∧ RowsAt F w b off rows
  | 0, _, _ => ⟨[], rfl, by simp, by unfold RowsAt; trivial⟩
  | len + 1, off, h => by
    obtain ⟨r, hq, hm, hc⟩ := h 0 (by omega)
    obtain ⟨rows, h1, h2, h3⟩ := rows_list (F := F) (w := w) (b := b) (m := m) (Q := Q) len (off + m) (fun i hi => by
      have := h (i + 1) (by omega)
      rw [show off + m + i * m = off + (i + 1) * m from by rw [Nat.add_mul]; omega]
      exact this)
    refine ⟨r :: rows, by simp [h1], fun x hx => ?_, ?_⟩
    · rcases List.mem_cons.1 hx with rfl | hx
      · exact hq
      · exact h2 x hx
    · unfold RowsAt
      rw [hm]
      exact ⟨by simpa using hc, h3⟩

section
variable {H : Type} {enc : TypeId × Value → H} {w : World} {base : Nat} {held : Bool} {spare : Nat → Bool}

theorem rows_of_trod {E T n m : Nat} (hT : Try.prog.underlying T = some (.slice E)) (hm : Try.prog.cellsOf E = m) (hm0 : 0 < m) (Q : List C → Prop)
    (IH : ∀ (cs : List Value) (x : DataW H × List MemPlace), DataW.trod enc Try.prog w base spare held n E cs = some x → ∃ r, Q r ∧ r.length = m ∧ SRep (fun _ => True) w r cs)
    (cs : List Value) (x : DataW H × List MemPlace) (h : DataW.trod enc Try.prog w base spare held (n + 1) T cs = some x) :
    ∃ rows s, cs = [s] ∧ (∀ r ∈ rows, Q r) ∧ CRep (fun _ => True) w (.sl rows) s := by
  rcases DataW.trod_slice hT h with ⟨rfl, _⟩ | ⟨a, len, cap, elems, rest, n', hn, rfl, _, _, hlc, hcm, hel, he, _⟩
  · exact ⟨[], _, rfl, by simp, by unfold CRep; exact ⟨none, 0, rfl, Nat.le_refl _, by unfold maxLen; omega, .inl rfl⟩⟩
  · obtain rfl : n = n' := by omega
    rw [hm] at he
    by_cases h0 : len = 0
    · exact ⟨[], _, rfl, by simp, by unfold CRep; exact ⟨some a, cap, by rw [h0]; rfl, Nat.zero_le _, hcm, .inl rfl⟩⟩
    · have get : ∀ i, i < len → ∃ cs', w.cells? base (a.add (i * m)) m = some cs' ∧ ∃ r, Q r ∧ r.length = m ∧ SRep (fun _ => True) w r cs' := by
        intro i hi
        have hk := he i hi
        rw [List.getElem?_eq_getElem (by omega)] at hk
        obtain ⟨cs', hc, ht⟩ := Option.bind_eq_some_iff.1 hk
        exact ⟨cs', hc, IH _ _ ht⟩
      obtain ⟨cs0, hc0, _⟩ := get 0 (by omega)
      obtain ⟨_, hl0, g0⟩ := World.cells?_some hc0
      have g00 := g0 0 hm0
      rw [Nat.zero_mul, show (a.add 0).add 0 = a from by simp [Addr.add], List.getElem?_eq_getElem (by omega)] at g00
      have hs := spot_of_cell g00
      have hb := World.block_lt_of_cell? w _ g00
      obtain ⟨rows, hr1, hr2, hr3⟩ := rows_list (F := fun _ => True) (w := w) (b := a.block) (m := m) (Q := Q) len a.off (fun i hi => by
        obtain ⟨cs', hc, r, hq, hlr, hr⟩ := get i hi
        obtain ⟨_, hl, g⟩ := World.cells?_some hc
        refine ⟨r, hq, hlr, SRep.cells r cs' _ hr fun j hj => ?_⟩
        have := g j (by omega)
        rw [Addr_add_off (i * m) hs, Addr_add_off j rfl] at this
        exact this)
      refine ⟨rows, _, rfl, hr2, ?_⟩
      unfold CRep
      refine ⟨some a, cap, by rw [hr1], by omega, hcm, .inr ⟨a.block, a.off, ?_, trivial, hb, hr3⟩⟩
      cases a; simp at hs; subst hs; rfl

theorem int_of_trod {T n : Nat} (hT : Try.prog.underlying T = some (.int .i64)) {cs : List Value} {x : DataW H × List MemPlace} (h : DataW.trod enc Try.prog w base spare held n T cs = some x) : ∃ k, cs = [.int .i64 k] := by
  obtain ⟨k, h, _⟩ := DataW.trod_int hT h
  exact ⟨k, h⟩
end

section
variable {H : Type} {enc : TypeId × Value → H} {P : Program}
/-- The row's last step where of the world behind the call 'Below' alone is known. -/
theorem below_trod {t : TypeId} (hl : laidOutB P = true) (hr : P.readableRec t = true) (hrow : t < P.types.size) {W W' : World} {v : Value} {d : DataW H} {ps : List MemPlace}
    (h : DataW.Trod enc P W 0 (fun _ => true) true t v d ps) (hb : Below W.heap.size W W') :
    DataW.Trod enc P W' 0 (fun b => decide (b < W.heap.size)) true t v d ps :=
  Below.trod hl hr hrow h hb (by obtain ⟨m, hm⟩ := h; exact DataW.trod_lt m _ _ _ hm)
end
end Go.Proofs.Ytikkneahhgmdjaa
