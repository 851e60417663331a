/-
  Data in memory of one's own: every slice starts at the head of a block that nothing else uses. 'fp': the blocks, in the order in which they are met.
  Terms in memory of one's own.
  What is left of a law's purse.
  Equality of the program and of the reference: equality of trees.
  What a function that makes a type leaves.
-/
import Derived.Test.YtkhmkohgnikcmaaB0
import Derived.Test.YtkhmkohgnikcmaaRows
import Derived.Handy
import Derived.Deep.RegionHeld3
namespace Go.Proofs.Ytkhmkohgnikcmaa
open Go.RowKit
set_option linter.unusedVariables false
set_option linter.unusedSimpArgs false

mutual
def COwn (w : World) : C → Value → List Nat → Prop
  | .int n, y, fp => y = .int .i64 n ∧ fp = []
  | .str s, y, fp => y = .string s ∧ s.size ≤ maxLen ∧ fp = []
  | .sl rows, y, fp => ∃ (a : Option Addr) (cap : Nat), y = .slice a rows.length cap ∧ rows.length ≤ cap ∧ cap ≤ maxLen ∧
      ((rows = [] ∧ fp = []) ∨ ∃ b fps cs T, a = some ⟨b, 0, none⟩ ∧ fp = b :: fps ∧ w.heap[b]? = some (.cells cs T (0, 0)) ∧ RowsOwn w b 0 rows fps)
def RowsOwn (w : World) (b : Nat) : Nat → List (List C) → List Nat → Prop
  | _, [], fp => fp = []
  | off, r :: rs, fp => ∃ f1 f2, fp = f1 ++ f2 ∧ CellsOwn w b off r f1 ∧ RowsOwn w b (off + r.length) rs f2
def CellsOwn (w : World) (b : Nat) : Nat → List C → List Nat → Prop
  | _, [], fp => fp = []
  | off, c :: cs, fp => ∃ y f1 f2, fp = f1 ++ f2 ∧ w.cell? ⟨b, off, none⟩ = some y ∧ COwn w c y f1 ∧ CellsOwn w b (off + 1) cs f2
end

mutual
theorem COwn.move {w w' : World} : ∀ (c : C) (y : Value) (fp : List Nat), (∀ b ∈ fp, w'.heap[b]? = w.heap[b]?) → COwn w c y fp → COwn w' c y fp
  | .int n, y, fp, _, h => by unfold COwn at h ⊢; exact h
  | .str s, y, fp, _, h => by unfold COwn at h ⊢; exact h
  | .sl rows, y, fp, k, h => by
    unfold COwn at h ⊢
    obtain ⟨a, cap, h1, h2, h3, h4⟩ := h
    refine ⟨a, cap, h1, h2, h3, ?_⟩
    rcases h4 with h4 | ⟨b, fps, cs, T, ha, rfl, hb, hr⟩
    · exact .inl h4
    · refine .inr ⟨b, fps, cs, T, ha, rfl, (k b (List.mem_cons_self ..)).trans hb, RowsOwn.move 0 rows fps (fun x hx => k x (List.mem_cons_of_mem _ hx)) (fun o => ?_) hr⟩
      intro _ _
      exact World.cell?_of_block (a := ⟨b, o, none⟩) (k b (List.mem_cons_self ..))
theorem RowsOwn.move {w w' : World} {b : Nat} : ∀ (off : Nat) (rows : List (List C)) (fp : List Nat), (∀ x ∈ fp, w'.heap[x]? = w.heap[x]?) →
    (∀ o, off ≤ o → o < off + rows.flatten.length → w'.cell? ⟨b, o, none⟩ = w.cell? ⟨b, o, none⟩) → RowsOwn w b off rows fp → RowsOwn w' b off rows fp
  | _, [], _, _, _, h => by unfold RowsOwn at h ⊢; exact h
  | off, r :: rs, fp, k, kc, h => by
    unfold RowsOwn at h ⊢
    obtain ⟨f1, f2, rfl, h1, h2⟩ := h
    simp only [List.flatten_cons, List.length_append] at kc
    exact ⟨f1, f2, rfl, CellsOwn.move off r f1 (fun x hx => k x (List.mem_append_left _ hx)) (fun o a c => kc o a (by omega)) h1,
      RowsOwn.move _ rs f2 (fun x hx => k x (List.mem_append_right _ hx)) (fun o a c => kc o (by omega) (by omega)) h2⟩
theorem CellsOwn.move {w w' : World} {b : Nat} : ∀ (off : Nat) (r : List C) (fp : List Nat), (∀ x ∈ fp, w'.heap[x]? = w.heap[x]?) →
    (∀ o, off ≤ o → o < off + r.length → w'.cell? ⟨b, o, none⟩ = w.cell? ⟨b, o, none⟩) → CellsOwn w b off r fp → CellsOwn w' b off r fp
  | _, [], _, _, _, h => by unfold CellsOwn at h ⊢; exact h
  | off, c :: cs, fp, k, kc, h => by
    unfold CellsOwn at h ⊢
    obtain ⟨y, f1, f2, rfl, hy, h1, h2⟩ := h
    simp only [List.length_cons] at kc
    exact ⟨y, f1, f2, rfl, (kc off (by omega) (by omega)).trans hy, COwn.move c y f1 (fun x hx => k x (List.mem_append_left _ hx)) h1,
      CellsOwn.move _ cs f2 (fun x hx => k x (List.mem_append_right _ hx)) (fun o a c => kc o (by omega) (by omega)) h2⟩
end

mutual
theorem COwn.lt {w : World} : ∀ (c : C) (y : Value) (fp : List Nat), COwn w c y fp → ∀ b ∈ fp, b < w.heap.size
  | .int n, y, fp, h => by unfold COwn at h; obtain ⟨_, rfl⟩ := h; simp
  | .str s, y, fp, h => by unfold COwn at h; obtain ⟨_, _, rfl⟩ := h; simp
  | .sl rows, y, fp, h => by
    unfold COwn at h
    obtain ⟨a, cap, _, _, _, ⟨_, rfl⟩ | ⟨b, fps, cs, T, _, rfl, hb, hr⟩⟩ := h
    · simp
    · intro x hx
      rcases List.mem_cons.1 hx with rfl | hx
      · exact (Array.getElem?_eq_some_iff.1 hb).1
      · exact RowsOwn.lt 0 rows fps hr x hx
theorem RowsOwn.lt {w : World} {b : Nat} : ∀ (off : Nat) (rows : List (List C)) (fp : List Nat), RowsOwn w b off rows fp → ∀ x ∈ fp, x < w.heap.size
  | _, [], _, h => by unfold RowsOwn at h; subst h; simp
  | off, r :: rs, fp, h => by
    unfold RowsOwn at h
    obtain ⟨f1, f2, rfl, h1, h2⟩ := h
    intro x hx
    rcases List.mem_append.1 hx with hx | hx
    · exact CellsOwn.lt off r f1 h1 x hx
    · exact RowsOwn.lt _ rs f2 h2 x hx
theorem CellsOwn.lt {w : World} {b : Nat} : ∀ (off : Nat) (r : List C) (fp : List Nat), CellsOwn w b off r fp → ∀ x ∈ fp, x < w.heap.size
  | _, [], _, h => by unfold CellsOwn at h; subst h; simp
  | off, c :: cs, fp, h => by
    unfold CellsOwn at h
    obtain ⟨y, f1, f2, rfl, hy, h1, h2⟩ := h
    intro x hx
    rcases List.mem_append.1 hx with hx | hx
    · exact COwn.lt c y f1 h1 x hx
    · exact CellsOwn.lt _ cs f2 h2 x hx
end

mutual
theorem COwn.rep {w : World} {F : Nat → Prop} : ∀ (c : C) (y : Value) (fp : List Nat), (∀ b ∈ fp, F b) → COwn w c y fp → CRep F w c y
  | .int n, y, fp, _, h => by unfold COwn at h; unfold CRep; exact h.1
  | .str s, y, fp, _, h => by unfold COwn at h; unfold CRep; exact ⟨h.1, h.2.1⟩
  | .sl rows, y, fp, k, h => by
    unfold COwn at h; unfold CRep
    obtain ⟨a, cap, h1, h2, h3, h4⟩ := h
    refine ⟨a, cap, h1, h2, h3, ?_⟩
    rcases h4 with ⟨h4, _⟩ | ⟨b, fps, cs, T, ha, rfl, hb, hr⟩
    · exact .inl h4
    · exact .inr ⟨b, 0, ha, k b (List.mem_cons_self ..), (Array.getElem?_eq_some_iff.1 hb).1, RowsOwn.rep 0 rows fps (fun x hx => k x (List.mem_cons_of_mem _ hx)) hr⟩
theorem RowsOwn.rep {w : World} {F : Nat → Prop} {b : Nat} : ∀ (off : Nat) (rows : List (List C)) (fp : List Nat), (∀ x ∈ fp, F x) → RowsOwn w b off rows fp → RowsAt F w b off rows
  | _, [], _, _, _ => by unfold RowsAt; trivial
  | off, r :: rs, fp, k, h => by
    unfold RowsOwn at h; unfold RowsAt
    obtain ⟨f1, f2, rfl, h1, h2⟩ := h
    exact ⟨CellsOwn.rep off r f1 (fun x hx => k x (List.mem_append_left _ hx)) h1, RowsOwn.rep _ rs f2 (fun x hx => k x (List.mem_append_right _ hx)) h2⟩
theorem CellsOwn.rep {w : World} {F : Nat → Prop} {b : Nat} : ∀ (off : Nat) (r : List C) (fp : List Nat), (∀ x ∈ fp, F x) → CellsOwn w b off r fp → CellsAt F w b off r
  | _, [], _, _, _ => by unfold CellsAt; trivial
  | off, c :: cs, fp, k, h => by
    unfold CellsOwn at h; unfold CellsAt
    obtain ⟨y, f1, f2, rfl, hy, h1, h2⟩ := h
    exact ⟨⟨y, hy, COwn.rep c y f1 (fun x hx => k x (List.mem_append_left _ hx)) h1⟩, CellsOwn.rep _ cs f2 (fun x hx => k x (List.mem_append_right _ hx)) h2⟩
end

theorem RowsOwn.snoc {w : World} {b : Nat} : ∀ {off : Nat} {rows : List (List C)} {fp f : List Nat} {r : List C}, RowsOwn w b off rows fp → CellsOwn w b (off + rows.flatten.length) r f → RowsOwn w b off (rows ++ [r]) (fp ++ f)
  | off, [], fp, f, r, h, hr => by
    unfold RowsOwn at h; subst h
    simp only [List.nil_append]
    unfold RowsOwn
    exact ⟨f, [], by simp, by simpa using hr, by unfold RowsOwn; rfl⟩
  | off, r' :: rs, fp, f, r, h, hr => by
    unfold RowsOwn at h
    obtain ⟨f1, f2, rfl, h1, h2⟩ := h
    have := RowsOwn.snoc (f := f) (r := r) h2 (by rw [List.flatten_cons, List.length_append] at hr; rw [Nat.add_assoc]; exact hr)
    simp only [List.cons_append]
    unfold RowsOwn
    exact ⟨f1, f2 ++ f, by simp, h1, this⟩

/-- A slice of rows of one's own in a block that was made for it: from its rows. -/
theorem COwn.sl_mk {w : World} {b n cap : Nat} {rows : List (List C)} {fps : List Nat} {cs : Array Value} {T : TypeId} (hb : w.heap[b]? = some (.cells cs T (0, 0))) (hn : rows.length = n) (hc : n ≤ cap) (hm : cap ≤ maxLen)
    (h : RowsOwn w b 0 rows fps) : ∃ fp, COwn w (.sl rows) (.slice (some ⟨b, 0, none⟩) n cap) fp ∧ (∀ x ∈ fp, x = b ∨ x ∈ fps) ∧ (fps.Nodup → b ∉ fps → fp.Nodup) := by
  subst hn
  refine ⟨b :: fps, ?_, fun x hx => List.mem_cons.1 hx, fun h1 h2 => List.nodup_cons.2 ⟨h2, h1⟩⟩
  unfold COwn
  exact ⟨_, cap, rfl, hc, hm, .inr ⟨b, fps, cs, T, rfl, rfl, hb, h⟩⟩
theorem COwn.sl_nil {w : World} {a : Option Addr} {cap : Nat} (hm : cap ≤ maxLen) : COwn w (.sl []) (.slice a 0 cap) [] := by
  unfold COwn
  exact ⟨a, cap, rfl, Nat.zero_le _, hm, .inl ⟨rfl, rfl⟩⟩

/-- A row of values stored into a block from an offset on. -/
def setRow (w : World) (b : Nat) : Nat → List Value → World
  | _, [] => w
  | off, v :: vs => setRow (w.setCell ⟨b, off, none⟩ v) b (off + 1) vs
theorem setRow_heap_other : ∀ (vs : List Value) (w : World) (b off k : Nat), k ≠ b → (setRow w b off vs).heap[k]? = w.heap[k]?
  | [], _, _, _, _, _ => rfl
  | v :: vs, w, b, off, k, h => (setRow_heap_other vs _ b _ k h).trans (Below.heap_setCell w ⟨b, off, none⟩ v k h)
theorem heap_setCell_same {w : World} {b off : Nat} {v : Value} {cs : Array Value} {T : TypeId} {fr : Nat × Nat} (h : w.heap[b]? = some (.cells cs T fr)) :
    (w.setCell ⟨b, off, none⟩ v).heap[b]? = some (.cells (cs.setIfInBounds off v) T fr) := by
  simp [World.setCell, Array.getElem?_modify, h]
theorem setRow_block : ∀ (vs : List Value) (w : World) (b off : Nat) (cs : Array Value) (T : TypeId) (fr : Nat × Nat), w.heap[b]? = some (.cells cs T fr) →
    ∃ cs', (setRow w b off vs).heap[b]? = some (.cells cs' T fr) ∧ cs'.size = cs.size ∧ (∀ o, o < off ∨ off + vs.length ≤ o → cs'[o]? = cs[o]?) ∧ (∀ i, i < vs.length → off + i < cs.size → cs'[off + i]? = vs[i]?)
  | [], w, b, off, cs, T, fr, h => ⟨cs, h, rfl, fun _ _ => rfl, fun _ hi => absurd hi (Nat.not_lt_zero _)⟩
  | v :: vs, w, b, off, cs, T, fr, h => by
    obtain ⟨cs', h1, h2, h3, h4⟩ := setRow_block vs (w.setCell ⟨b, off, none⟩ v) b (off + 1) _ T fr (heap_setCell_same h)
    rw [Array.size_setIfInBounds] at h2 h4
    refine ⟨cs', h1, h2, fun o ho => ?_, fun i hi hl => ?_⟩
    · rw [h3 o (by rcases ho with ho | ho; exact .inl (by omega); exact .inr (by simp only [List.length_cons] at ho; omega))]
      rw [Array.getElem?_setIfInBounds_ne (by rcases ho with ho | ho; omega; simp only [List.length_cons] at ho; omega)]
    · cases i with
      | zero =>
        rw [h3 _ (.inl (by omega))]
        simp only [Nat.add_zero, List.getElem?_cons_zero]
        rw [Array.getElem?_setIfInBounds_self]
        simp at hl
        simp [hl]
      | succ i =>
        have := h4 i (by simpa using hi) (by omega)
        rw [show off + (i + 1) = off + 1 + i from by omega, this]
        simp
theorem setRow_below : ∀ (vs : List Value) (w w0 : World) (B b off : Nat), B ≤ b → Below B w0 w → Below B w0 (setRow w b off vs)
  | [], _, _, _, _, _, _, h => h
  | v :: vs, w, w0, B, b, off, hb, h => setRow_below vs _ w0 B b _ hb (h.setCell (p := ⟨b, off, none⟩) hb v)

/-- A struct by value whose slices are one's own. -/
def SOwn (w : World) : List C → List Value → List Nat → Prop
  | [], ys, fp => ys = [] ∧ fp = []
  | c :: cs, ys, fp => ∃ z zs f1 f2, ys = z :: zs ∧ fp = f1 ++ f2 ∧ COwn w c z f1 ∧ SOwn w cs zs f2
theorem SOwn.len {w : World} : ∀ (r : List C) (ys : List Value) (fp : List Nat), SOwn w r ys fp → ys.length = r.length
  | [], _, _, ⟨h, _⟩ => by rw [h]; rfl
  | c :: cs, _, _, ⟨z, zs, f1, f2, h, _, _, h2⟩ => by rw [h, List.length_cons, List.length_cons, SOwn.len cs zs f2 h2]
theorem SOwn.lt {w : World} : ∀ (r : List C) (ys : List Value) (fp : List Nat), SOwn w r ys fp → ∀ b ∈ fp, b < w.heap.size
  | [], _, _, ⟨_, h⟩ => by subst h; simp
  | c :: cs, _, _, ⟨z, zs, f1, f2, _, h, h1, h2⟩ => by
    subst h
    intro b hb
    rcases List.mem_append.1 hb with hb | hb
    · exact COwn.lt _ _ _ h1 b hb
    · exact SOwn.lt cs zs f2 h2 b hb
theorem SOwn.move {w w' : World} : ∀ (r : List C) (ys : List Value) (fp : List Nat), (∀ b ∈ fp, w'.heap[b]? = w.heap[b]?) → SOwn w r ys fp → SOwn w' r ys fp
  | [], _, _, _, h => h
  | c :: cs, _, _, k, ⟨z, zs, f1, f2, e, h, h1, h2⟩ => by
    subst h
    exact ⟨z, zs, f1, f2, e, rfl, COwn.move _ _ _ (fun b hb => k b (List.mem_append_left _ hb)) h1, SOwn.move cs zs f2 (fun b hb => k b (List.mem_append_right _ hb)) h2⟩
theorem SOwn.cells {w : World} {b : Nat} : ∀ (r : List C) (ys : List Value) (fp : List Nat) (off : Nat), SOwn w r ys fp → (∀ i, i < ys.length → w.cell? ⟨b, off + i, none⟩ = ys[i]?) → CellsOwn w b off r fp
  | [], _, _, _, ⟨_, h⟩, _ => by subst h; unfold CellsOwn; rfl
  | c :: cs, _, _, off, ⟨z, zs, f1, f2, e, h, h1, h2⟩, k => by
    subst h e
    unfold CellsOwn
    refine ⟨z, f1, f2, rfl, by simpa using k 0 (by simp), h1, SOwn.cells cs zs f2 _ h2 fun i hi => ?_⟩
    have := k (i + 1) (by simpa using hi)
    rw [show off + 1 + i = off + (i + 1) from by omega]
    simpa using this

/-- A block of one's own that is being filled, row by row; N: its cells. -/
def RowsNew (B g N : Nat) (T : TypeId) (w : World) (rows : List (List C)) : Prop :=
  ∃ fps cs, w.heap[g]? = some (.cells cs T (0, 0)) ∧ cs.size = N ∧ RowsOwn w g 0 rows fps ∧ fps.Nodup ∧ g ∉ fps ∧ B ≤ g ∧ ∀ x ∈ fps, B ≤ x
theorem RowsNew.lt {B g N : Nat} {T : TypeId} {w : World} {rows : List (List C)} (h : RowsNew B g N T w rows) : g < w.heap.size := by
  obtain ⟨fps, cs, hg, _⟩ := h
  exact (Array.getElem?_eq_some_iff.1 hg).1
theorem RowsNew.below {B g N : Nat} {T : TypeId} {w w' : World} {rows : List (List C)} (h : RowsNew B g N T w rows) (k : Below w.heap.size w w') : RowsNew B g N T w' rows := by
  obtain ⟨fps, cs, hg, hN, hr, hd, hn, hB, hx⟩ := h
  exact ⟨fps, cs, (k.block g (Array.getElem?_eq_some_iff.1 hg).1).trans hg, hN,
    hr.move _ _ _ (fun x hx => k.block x (hr.lt _ _ _ x hx)) (fun o _ _ => World.cell?_of_block (a := ⟨g, o, none⟩) (k.block g (Array.getElem?_eq_some_iff.1 hg).1)), hd, hn, hB, hx⟩
theorem RowsNew.made {N : Nat} {T : TypeId} {w : World} {cs : Array Value} (h : cs.size = N) : RowsNew w.heap.size w.heap.size N T (w.alloc (.cells cs T)) [] :=
  ⟨[], cs, heap_alloc_new w _, h, by unfold RowsOwn; rfl, List.nodup_nil, by simp, Nat.le_refl _, by simp⟩
theorem RowsNew.cell {B g N : Nat} {T : TypeId} {w : World} {rows : List (List C)} (h : RowsNew B g N T w rows) (o : Nat) (ho : o < N) : (∃ v, w.cell? ⟨g, o, none⟩ = some v) ∧ w.frozen? ⟨g, o, none⟩ = false := by
  obtain ⟨fps, cs, hg, hN, _⟩ := h
  refine ⟨⟨cs[o]'(by omega), by simp [World.cell?, hg, hN, ho]⟩, by simp [World.frozen?, hg]⟩
/-- What a call has made is stored behind the rows that are there. -/
theorem RowsNew.store {B g N o : Nat} {T : TypeId} {w w1 : World} {rows : List (List C)} {r : List C} {vs : List Value} {fpv : List Nat} (h : RowsNew B g N T w rows) (hb : Below w.heap.size w w1)
    (hv : SOwn w1 r vs fpv) (hd : fpv.Nodup) (hx : ∀ x ∈ fpv, w.heap.size ≤ x) (hBw : B ≤ w.heap.size) (ho : rows.flatten.length = o) (room : o + r.length ≤ N) : RowsNew B g N T (setRow w1 g o vs) (rows ++ [r]) := by
  have hlt := h.lt
  obtain ⟨fps, cs, hg0, hN, hr0, hd1, hn, hB, hx1⟩ := h
  have hg := (hb.block g hlt).trans hg0
  have hr := hr0.move _ _ _ (fun x hx => hb.block x (RowsOwn.lt _ _ _ hr0 x hx)) (fun o _ _ => World.cell?_of_block (a := ⟨g, o, none⟩) (hb.block g hlt))
  have hfl : ∀ x ∈ fps, x < w.heap.size := fun x hx => RowsOwn.lt _ _ _ hr0 x hx
  obtain ⟨cs', h1, h2, h3, h4⟩ := setRow_block vs w1 g o cs T (0, 0) hg
  have hlen := SOwn.len _ _ _ hv
  have hgn : ∀ x ∈ fpv, x ≠ g := fun x hx' e => by have := hx x hx'; omega
  refine ⟨fps ++ fpv, cs', h1, by omega, ?_, ?_, ?_, hB, ?_⟩
  · refine RowsOwn.snoc (hr.move _ _ _ (fun x hx' => setRow_heap_other vs w1 g o x (fun e => hn (e ▸ hx'))) (fun o' _ ho' => ?_)) ?_
    · rw [ho] at ho'
      simp only [World.cell?, h1, hg]
      simp
      exact h3 o' (.inl (by omega))
    · rw [ho]
      refine SOwn.cells _ _ _ _ (hv.move _ _ _ fun x hx' => setRow_heap_other vs w1 g o x (hgn x hx')) fun i hi => ?_
      simp only [World.cell?, h1]
      simp
      exact h4 i hi (by omega)
  · exact List.nodup_append.2 ⟨hd1, hd, fun x hx1 y hy e => by have := hfl x hx1; have := hx y hy; omega⟩
  · intro hm
    rcases List.mem_append.1 hm with hm | hm
    · exact hn hm
    · exact hgn g hm rfl
  · intro x hm
    rcases List.mem_append.1 hm with hm | hm
    · exact hx1 x hm
    · exact Nat.le_trans hBw (hx x hm)

/-- The slice over a block that has been filled. -/
theorem RowsNew.slice {B g N n cap : Nat} {T : TypeId} {w : World} {rows : List (List C)} (h : RowsNew B g N T w rows) (hn : rows.length = n) (hc : n ≤ cap) (hm : cap ≤ maxLen) :
    ∃ fp, COwn w (.sl rows) (.slice (some ⟨g, 0, none⟩) n cap) fp ∧ fp.Nodup ∧ ∀ b ∈ fp, B ≤ b := by
  obtain ⟨fps, cs, hg, hN, hr, hd, hnn, hB, hx⟩ := h
  obtain ⟨fp, h1, h2, h3⟩ := COwn.sl_mk hg hn hc hm hr
  exact ⟨fp, h1, h3 hd hnn, fun b hb => by rcases h2 b hb with rfl | h; exact hB; exact hx b h⟩

/-- A type in memory of one's own, from block B on. -/
def TyOwn (w : World) (t : Ty) (y : Value) (fp : List Nat) : Prop := ∃ s, y = .agg #[.int .i64 t.kind, s] ∧ COwn w (.sl (Ty.rows t.kids)) s fp
def TysOwn (w : World) (ts : List Ty) (y : Value) (fp : List Nat) : Prop := COwn w (.sl (Ty.rows ts)) y fp
/-- New: of one's own, from block B on, no block twice. -/
def TyNew (B : Nat) (w : World) (t : Ty) (y : Value) : Prop := ∃ fp, TyOwn w t y fp ∧ fp.Nodup ∧ ∀ b ∈ fp, B ≤ b
def TysNew (B : Nat) (w : World) (ts : List Ty) (y : Value) : Prop := ∃ fp, TysOwn w ts y fp ∧ fp.Nodup ∧ ∀ b ∈ fp, B ≤ b

theorem TyOwn.shape {w : World} {t : Ty} {y : Value} {fp : List Nat} (h : TyOwn w t y fp) : ∃ k a n q, y = .agg #[.int .i64 k, .slice a n q] ∧ k = t.kind ∧ TysOwn w t.kids (.slice a n q) fp := by
  obtain ⟨s, rfl, h⟩ := h
  have h' := h
  unfold COwn at h'
  obtain ⟨a, q, rfl, _⟩ := h'
  exact ⟨_, a, _, q, rfl, rfl, h⟩

theorem TyOwn.below {w w' : World} {t : Ty} {y : Value} {fp : List Nat} (h : TyOwn w t y fp) (k : Below w.heap.size w w') : TyOwn w' t y fp :=
  let ⟨s, h1, h2⟩ := h; ⟨s, h1, h2.move _ _ _ fun b hb => k.block b (h2.lt _ _ _ b hb)⟩
theorem TyOwn.rep {w : World} {t : Ty} {y : Value} {fp : List Nat} (h : TyOwn w t y fp) : TyRep (· ∈ fp) w t y :=
  let ⟨s, h1, h2⟩ := h; ⟨s, h1, h2.rep _ _ _ fun _ hb => hb⟩
theorem TyNew.below {B : Nat} {w w' : World} {t : Ty} {y : Value} (h : TyNew B w t y) (k : Below w.heap.size w w') : TyNew B w' t y :=
  let ⟨fp, h1, h2, h3⟩ := h; ⟨fp, h1.below k, h2, h3⟩
theorem TyNew.rep {B : Nat} {w : World} {t : Ty} {y : Value} (h : TyNew B w t y) : TyRep (B ≤ ·) w t y :=
  let ⟨fp, h1, _, h3⟩ := h; h1.rep.move (.weaken fun b hb _ => h3 b hb)
theorem TysNew.rep {B : Nat} {w : World} {ts : List Ty} {y : Value} (h : TysNew B w ts y) : TysRep (B ≤ ·) w ts y :=
  let ⟨_, h1, _, h3⟩ := h; COwn.rep _ _ _ (fun b hb => h3 b hb) h1
theorem TysNew.below {B : Nat} {w w' : World} {ts : List Ty} {y : Value} (h : TysNew B w ts y) (k : Below w.heap.size w w') : TysNew B w' ts y :=
  let ⟨fp, h1, h2, h3⟩ := h; ⟨fp, COwn.move _ _ _ (fun b hb => k.block b (COwn.lt _ _ _ h1 b hb)) h1, h2, h3⟩
theorem TyNew.shape {B : Nat} {w : World} {t : Ty} {y : Value} (h : TyNew B w t y) : ∃ k a n q, y = .agg #[.int .i64 k, .slice a n q] := by
  obtain ⟨fp, ⟨s, rfl, h⟩, _⟩ := h
  unfold COwn at h
  obtain ⟨a, q, rfl, _⟩ := h
  exact ⟨_, a, _, q, rfl⟩
theorem TysNew.open_slice {B : Nat} {w : World} {ts : List Ty} {y : Value} (h : TysNew B w ts y) : ∃ a q, y = .slice a ts.length q := by
  obtain ⟨fp, h, _⟩ := h
  unfold TysOwn COwn at h
  obtain ⟨a, q, h, _⟩ := h
  rw [Ty.rows_length] at h
  exact ⟨a, q, h⟩
theorem TysNew.setCell {B : Nat} {w : World} {ts : List Ty} {y : Value} (h : TysNew B w ts y) {p : Addr} (hp : p.block < B) (v : Value) : TysNew B (w.setCell p v) ts y := by
  obtain ⟨fp, h1, h2, h3⟩ := h
  exact ⟨fp, COwn.move _ _ _ (fun b hb => Below.heap_setCell w p v b (by have := h3 b hb; omega)) h1, h2, h3⟩
theorem TysNew.ty {B : Nat} {w : World} {k : Int} {ts : List Ty} {y : Value} (h : TysNew B w ts y) : TyNew B w (.mk k ts) (.agg #[.int .i64 k, y]) := by
  obtain ⟨fp, h1, h2, h3⟩ := h
  exact ⟨fp, ⟨y, rfl, h1⟩, h2, h3⟩
theorem TyNew.setCell {B : Nat} {w : World} {t : Ty} {y : Value} (h : TyNew B w t y) {p : Addr} (hp : p.block < B) (v : Value) : TyNew B (w.setCell p v) t y := by
  obtain ⟨fp, ⟨s, hs, h1⟩, h2, h3⟩ := h
  exact ⟨fp, ⟨s, hs, COwn.move _ _ _ (fun b hb => Below.heap_setCell w p v b (by have := h3 b hb; omega)) h1⟩, h2, h3⟩
theorem TyNew.mono {B B' : Nat} {w : World} {t : Ty} {y : Value} (h : TyNew B w t y) (hB : B' ≤ B) : TyNew B' w t y :=
  let ⟨fp, h1, h2, h3⟩ := h; ⟨fp, h1, h2, fun b hb => Nat.le_trans hB (h3 b hb)⟩
theorem TysNew.mono {B B' : Nat} {w : World} {t : List Ty} {y : Value} (h : TysNew B w t y) (hB : B' ≤ B) : TysNew B' w t y :=
  let ⟨fp, h1, h2, h3⟩ := h; ⟨fp, h1, h2, fun b hb => Nat.le_trans hB (h3 b hb)⟩
theorem Ty.flatten_length (ts : List Ty) : (Ty.rows ts).flatten.length = ts.length * 2 := by
  induction ts with
  | nil => unfold Ty.rows; rfl
  | cons t ts ih => unfold Ty.rows; rw [List.flatten_cons, List.length_append, ih, t.row_length, List.length_cons]; omega
theorem TyOwn.cells {w : World} {t : Ty} {s : Value} {fp : List Nat} {k : Int} (h : TyOwn w t (.agg #[.int .i64 k, s]) fp) : SOwn w t.row [.int .i64 k, s] fp := by
  obtain ⟨s', he, h⟩ := h
  cases t with | mk k' ts =>
  simp only [Value.agg.injEq, Array.mk.injEq, List.cons.injEq, Value.int.injEq, true_and, and_true] at he
  obtain ⟨rfl, rfl⟩ := he
  unfold Ty.row
  exact ⟨_, _, [], fp, rfl, rfl, by unfold COwn; exact ⟨rfl, rfl⟩, _, _, fp, [], rfl, by simp, h, rfl, rfl⟩
theorem TyNew.open {B : Nat} {w : World} {t : Ty} {y : Value} (h : TyNew B w t y) : ∃ k c m q fp, y = .agg #[.int .i64 k, .slice c m q] ∧ k = t.kind ∧ m = t.kids.length ∧ SOwn w t.row [.int .i64 k, .slice c m q] fp ∧ fp.Nodup ∧ ∀ b ∈ fp, B ≤ b := by
  obtain ⟨fp, h1, h2, h3⟩ := h
  obtain ⟨s, rfl, h⟩ := h1
  have h' := h
  unfold COwn at h'
  obtain ⟨a, cap, rfl, _⟩ := h'
  exact ⟨_, a, _, cap, fp, rfl, rfl, Ty.rows_length _, TyOwn.cells ⟨_, rfl, h⟩, h2, h3⟩
end Go.Proofs.Ytkhmkohgnikcmaa
namespace Go.Proofs.Ytkhmkohgnikcmaa
open Go.RowKit
set_option linter.unusedVariables false
set_option linter.unusedSimpArgs false
set_option maxRecDepth 100000


def TmOwn (w : World) (t : Tm) (y : Value) (fp : List Nat) : Prop := ∃ s1 s2 s f1 f2 f3, y = .agg #[.int .i64 t.kind, .string t.name, .int .i64 t.num, .int .i64 t.type.kind, s1, .int .i64 t.src.kind, s2, .int .i64 t.label, s] ∧ fp = f1 ++ (f2 ++ f3) ∧ t.name.size ≤ maxLen ∧
  COwn w (.sl (Ty.rows t.type.kids)) s1 f1 ∧ COwn w (.sl (Ty.rows t.src.kids)) s2 f2 ∧ COwn w (.sl (Tm.rows t.kids)) s f3
def TmsOwn (w : World) (ts : List Tm) (y : Value) (fp : List Nat) : Prop := COwn w (.sl (Tm.rows ts)) y fp
def TmNew (B : Nat) (w : World) (t : Tm) (y : Value) : Prop := ∃ fp, TmOwn w t y fp ∧ fp.Nodup ∧ ∀ b ∈ fp, B ≤ b
def TmsNew (B : Nat) (w : World) (ts : List Tm) (y : Value) : Prop := ∃ fp, TmsOwn w ts y fp ∧ fp.Nodup ∧ ∀ b ∈ fp, B ≤ b
theorem TmOwn.below {w w' : World} {t : Tm} {y : Value} {fp : List Nat} (h : TmOwn w t y fp) (k : Below w.heap.size w w') : TmOwn w' t y fp := by
  obtain ⟨s1, s2, s, f1, f2, f3, rfl, rfl, hn, h1, h2, h3⟩ := h
  exact ⟨s1, s2, s, f1, f2, f3, rfl, rfl, hn, h1.move _ _ _ fun b hb => k.block b (h1.lt _ _ _ b hb), h2.move _ _ _ fun b hb => k.block b (h2.lt _ _ _ b hb), h3.move _ _ _ fun b hb => k.block b (h3.lt _ _ _ b hb)⟩
theorem TmOwn.rep {w : World} {t : Tm} {y : Value} {fp : List Nat} (h : TmOwn w t y fp) : TmRep (· ∈ fp) w t y := by
  obtain ⟨s1, s2, s, f1, f2, f3, rfl, rfl, hn, h1, h2, h3⟩ := h
  exact ⟨s1, s2, s, rfl, hn, h1.rep _ _ _ (fun b hb => by simp [hb]), h2.rep _ _ _ (fun b hb => by simp [hb]), h3.rep _ _ _ (fun b hb => by simp [hb])⟩
theorem TmNew.below {B : Nat} {w w' : World} {t : Tm} {y : Value} (h : TmNew B w t y) (k : Below w.heap.size w w') : TmNew B w' t y :=
  let ⟨fp, h1, h2, h3⟩ := h; ⟨fp, h1.below k, h2, h3⟩
theorem TmNew.rep {B : Nat} {w : World} {t : Tm} {y : Value} (h : TmNew B w t y) : TmRep (B ≤ ·) w t y :=
  let ⟨fp, h1, _, h3⟩ := h; h1.rep.move (.weaken fun b hb _ => h3 b hb)
theorem TmsNew.rep {B : Nat} {w : World} {ts : List Tm} {y : Value} (h : TmsNew B w ts y) : TmsRep (B ≤ ·) w ts y :=
  let ⟨_, h1, _, h3⟩ := h; COwn.rep _ _ _ (fun b hb => h3 b hb) h1
theorem TmsNew.below {B : Nat} {w w' : World} {ts : List Tm} {y : Value} (h : TmsNew B w ts y) (k : Below w.heap.size w w') : TmsNew B w' ts y :=
  let ⟨fp, h1, h2, h3⟩ := h; ⟨fp, COwn.move _ _ _ (fun b hb => k.block b (COwn.lt _ _ _ h1 b hb)) h1, h2, h3⟩
theorem TmNew.shape {B : Nat} {w : World} {t : Tm} {y : Value} (h : TmNew B w t y) : ∃ k nm u tk ta tn tq fk fa fn fq l c m q, y = .agg #[.int .i64 k, .string nm, .int .i64 u, .int .i64 tk, .slice ta tn tq, .int .i64 fk, .slice fa fn fq, .int .i64 l, .slice c m q] := h.rep.shape
theorem TmNew.mono {B B' : Nat} {w : World} {t : Tm} {y : Value} (h : TmNew B w t y) (hB : B' ≤ B) : TmNew B' w t y :=
  let ⟨fp, h1, h2, h3⟩ := h; ⟨fp, h1, h2, fun b hb => Nat.le_trans hB (h3 b hb)⟩
theorem TmsNew.mono {B B' : Nat} {w : World} {t : List Tm} {y : Value} (h : TmsNew B w t y) (hB : B' ≤ B) : TmsNew B' w t y :=
  let ⟨fp, h1, h2, h3⟩ := h; ⟨fp, h1, h2, fun b hb => Nat.le_trans hB (h3 b hb)⟩
theorem TmsNew.open_slice {B : Nat} {w : World} {ts : List Tm} {y : Value} (h : TmsNew B w ts y) : ∃ a q, y = .slice a ts.length q := by
  obtain ⟨fp, h, _⟩ := h
  unfold TmsOwn COwn at h
  obtain ⟨a, q, h, _⟩ := h
  rw [Tm.rows_length] at h
  exact ⟨a, q, h⟩
theorem TmsNew.setCell {B : Nat} {w : World} {ts : List Tm} {y : Value} (h : TmsNew B w ts y) {p : Addr} (hp : p.block < B) (v : Value) : TmsNew B (w.setCell p v) ts y := by
  obtain ⟨fp, h1, h2, h3⟩ := h
  exact ⟨fp, COwn.move _ _ _ (fun b hb => Below.heap_setCell w p v b (by have := h3 b hb; omega)) h1, h2, h3⟩
theorem TmNew.setCell {B : Nat} {w : World} {t : Tm} {y : Value} (h : TmNew B w t y) {p : Addr} (hp : p.block < B) (v : Value) : TmNew B (w.setCell p v) t y := by
  obtain ⟨fp, ⟨s1, s2, s, f1, f2, f3, rfl, rfl, hn, h1, h2, h3⟩, hd, hx⟩ := h
  have hk : ∀ b ∈ f1 ++ (f2 ++ f3), (w.setCell p v).heap[b]? = w.heap[b]? := fun b hb => Below.heap_setCell w p v b (by have := hx b hb; omega)
  exact ⟨_, ⟨s1, s2, s, f1, f2, f3, rfl, rfl, hn, COwn.move _ _ _ (fun b hb => hk b (by simp [hb])) h1, COwn.move _ _ _ (fun b hb => hk b (by simp [hb])) h2, COwn.move _ _ _ (fun b hb => hk b (by simp [hb])) h3⟩, hd, hx⟩
theorem TmNew.nil {B : Nat} {w : World} {k u l : Int} {nm : ByteArray} (hn : nm.size ≤ maxLen) : TmNew B w (.mk k nm u (.mk 0 []) (.mk 0 []) l []) (.agg #[.int .i64 k, .string nm, .int .i64 u, .int .i64 0, .slice none 0 0, .int .i64 0, .slice none 0 0, .int .i64 l, .slice none 0 0]) := by
  have z : COwn w (.sl []) (.slice none 0 0) [] := by unfold COwn; exact ⟨none, 0, rfl, Nat.le_refl _, by unfold maxLen; omega, .inl ⟨rfl, rfl⟩⟩
  refine ⟨[], ⟨_, _, _, [], [], [], rfl, rfl, hn, ?_, ?_, ?_⟩, by simp, by simp⟩
  · simp only [Tm.type, Ty.kids, Ty.rows]; exact z
  · simp only [Tm.src, Ty.kids, Ty.rows]; exact z
  · simp only [Tm.kids, Tm.rows]; exact z
theorem Tm.flatten_length (ts : List Tm) : (Tm.rows ts).flatten.length = ts.length * 9 := by
  induction ts with
  | nil => unfold Tm.rows; rfl
  | cons t ts ih => unfold Tm.rows; rw [List.flatten_cons, List.length_append, ih, t.row_length, List.length_cons]; omega
theorem TmNew.open {B : Nat} {w : World} {t : Tm} {y : Value} (h : TmNew B w t y) : ∃ k nm u tk ta tn tq fk fa fn fq l c m q fp, y = .agg #[.int .i64 k, .string nm, .int .i64 u, .int .i64 tk, .slice ta tn tq, .int .i64 fk, .slice fa fn fq, .int .i64 l, .slice c m q] ∧ SOwn w t.row [.int .i64 k, .string nm, .int .i64 u, .int .i64 tk, .slice ta tn tq, .int .i64 fk, .slice fa fn fq, .int .i64 l, .slice c m q] fp ∧ fp.Nodup ∧ ∀ b ∈ fp, B ≤ b := by
  obtain ⟨fp, ⟨s1, s2, s, f1, f2, f3, rfl, rfl, hn, h1, h2, h3⟩, hd, hx⟩ := h
  obtain ⟨ta, tq, rfl, -⟩ := CRep.rows (COwn.rep _ _ _ (F := fun _ => True) (fun _ _ => trivial) h1)
  obtain ⟨fa, fq, rfl, -⟩ := CRep.rows (COwn.rep _ _ _ (F := fun _ => True) (fun _ _ => trivial) h2)
  obtain ⟨c, q, rfl, -⟩ := CRep.rows (COwn.rep _ _ _ (F := fun _ => True) (fun _ _ => trivial) h3)
  refine ⟨_, _, _, _, ta, _, tq, _, fa, _, fq, _, c, _, q, _, rfl, ?_, hd, hx⟩
  cases t with | mk k nm u t f l ts =>
  simp only [Tm.kind, Tm.name, Tm.num, Tm.type, Tm.src, Tm.label, Tm.kids] at *
  unfold Tm.row
  have i1 : ∀ n : Int, COwn w (.int n) (.int .i64 n) [] := fun n => by unfold COwn; exact ⟨rfl, rfl⟩
  have i2 : COwn w (.str nm) (.string nm) [] := by unfold COwn; exact ⟨rfl, hn, rfl⟩
  exact ⟨_, _, [], _, rfl, rfl, i1 _, _, _, [], _, rfl, rfl, i2, _, _, [], _, rfl, rfl, i1 _, _, _, [], _, rfl, rfl, i1 _, _, _, f1, _, rfl, rfl, h1, _, _, [], _, rfl, rfl, i1 _, _, _, f2, _, rfl, rfl, h2, _, _, [], _, rfl, rfl, i1 _, _, _, f3, [], rfl, by simp, h3, rfl, rfl⟩
end Go.Proofs.Ytkhmkohgnikcmaa
namespace Go.Proofs.Ytkhmkohgnikcmaa
open Go.RowKit

/-- What is left of a purse when c things are taken from it; -1: too little. -/
def szr (l : Int) (c : Nat) : Int := if (c : Int) ≤ l then l - c else -1

theorem szr_pos {l : Int} {c : Nat} (h : (c : Int) ≤ l) : szr l c = l - c := by unfold szr; rw [if_pos h]
theorem szr_neg {l : Int} {c : Nat} (h : ¬ (c : Int) ≤ l) : szr l c = -1 := by unfold szr; rw [if_neg h]
end Go.Proofs.Ytkhmkohgnikcmaa
namespace Go.Proofs.Ytkhmkohgnikcmaa
open Go.RowKit
set_option linter.unusedVariables false
set_option linter.unusedSimpArgs false
set_option maxRecDepth 100000

mutual
def Ty.same : Ty → Ty → Bool
  | .mk k ts, .mk l us => k == l && Ty.sames ts us
def Ty.sames : List Ty → List Ty → Bool
  | [], [] => true
  | t :: ts, u :: us => t.same u && Ty.sames ts us
  | _, _ => false
end

/-- slices.EqualFunc at types: whatever the function compares. -/
def all2 (R : Ty → Ty → Bool) : List Ty → List Ty → Bool
  | [], [] => true
  | t :: ts, u :: us => R t u && all2 R ts us
  | _, _ => false

theorem all2_drop (R : Ty → Ty → Bool) (ts us : List Ty) (k : Nat) (h : k < ts.length) (h' : k < us.length) : all2 R (ts.drop k) (us.drop k) = (R ts[k] us[k] && all2 R (ts.drop (k + 1)) (us.drop (k + 1))) := by
  rw [List.drop_eq_getElem_cons h, List.drop_eq_getElem_cons h']; rfl
theorem all2_len (R : Ty → Ty → Bool) : ∀ (ts us : List Ty), ts.length ≠ us.length → all2 R ts us = false
  | [], [], h => absurd rfl h
  | [], _ :: _, _ => rfl
  | _ :: _, [], _ => rfl
  | t :: ts, u :: us, h => by
    have := all2_len R ts us (fun e => h (by simp [e]))
    simp [all2, this]
theorem all2_end (R : Ty → Ty → Bool) (ts us : List Ty) (k : Nat) (h : ts.length ≤ k) (h' : us.length ≤ k) : all2 R (ts.drop k) (us.drop k) = true := by
  rw [List.drop_eq_nil_of_le h, List.drop_eq_nil_of_le h']; rfl

theorem Ty.sames_all2 : ∀ ts us : List Ty, all2 Ty.same ts us = Ty.sames ts us
  | [], [] => by unfold Ty.sames; rfl
  | [], _ :: _ => by unfold Ty.sames; rfl
  | _ :: _, [] => by unfold Ty.sames; rfl
  | t :: ts, u :: us => by unfold Ty.sames all2; rw [Ty.sames_all2 ts us]

end Go.Proofs.Ytkhmkohgnikcmaa
namespace Go.Proofs.Ytkhmkohgnikcmaa
open Go.RowKit
set_option linter.unusedVariables false
set_option linter.unusedSimpArgs false
set_option maxRecDepth 100000

def RetTy (t : Ty) (w : World) (e : Ending) (w' : World) : Prop := ∃ v, e = .returned v ∧ TyNew w.heap.size w' t v ∧ Below w.heap.size w w'
def RetTys (ts : List Ty) (w : World) (e : Ending) (w' : World) : Prop := ∃ v, e = .returned v ∧ TysNew w.heap.size w' ts v ∧ Below w.heap.size w w'

theorem Try.infoTy : (Try.prog.info? 31).map (fun i => (i.zero, i.size, i.bytes)) = some (some (.agg #[.int .i64 0, .slice none 0 0]), 2, 32) := by kernel_rfl

end Go.Proofs.Ytkhmkohgnikcmaa
