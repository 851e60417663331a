/-
  A block of cells as one fact.
  Compositions as readings.
-/
import Derived.Test.YthhdjacdalehoaaB8
import Derived.Test.YthhdjacdalehoaaB6
import Derived.Test.YthhdjacdalehoaaCoTag
namespace Go.Proofs.Ythhdjacdalehoaa
open Go.RowKit
set_option linter.unusedVariables false
set_option linter.unusedSimpArgs false

theorem blk_cell {w : World} {b o : Nat} {cs : Array Value} {T : TypeId} {fr : Nat × Nat} {v : Value} (h : w.heap[b]? = some (.cells cs T fr)) (hv : cs[o]? = some v) : w.cell? ⟨b, o, none⟩ = some v := by
  simp only [World.cell?, h]
  simpa using hv
theorem blk_fro {w : World} {b : Nat} {cs : Array Value} {T : TypeId} (h : w.heap[b]? = some (.cells cs T (0, 0))) (o : Nat) : w.frozen? ⟨b, o, none⟩ = false := by
  simp [World.frozen?, h]
theorem blk_lt {w : World} {b : Nat} {x : Obj} (h : w.heap[b]? = some x) : b < w.heap.size := (Array.getElem?_eq_some_iff.1 h).1
theorem blk_new {w : World} {b : Nat} {o : Obj} (hb : w.heap.size = b) : (w.alloc o).heap[b]? = some o := by subst hb; exact heap_alloc_new w o
theorem blk_n2 {w : World} {o o' x : Obj} : (((w.alloc o).alloc o').alloc x).heap[w.heap.size + 1 + 1]? = some x := blk_new (by simp)
theorem blk_below {w w' : World} {b : Nat} {x : Obj} (h : w.heap[b]? = some x) (k : Below w.heap.size w w') : w'.heap[b]? = some x := (k.block b (blk_lt h)).trans h
theorem blk_chg {r : Nat} {w w' : World} {b : Nat} {x : Obj} (h : w.heap[b]? = some x) (k : Chg [r] w w') (hn : b ≠ r) : w'.heap[b]? = some x := (k.block b (blk_lt h) (by simpa using hn)).trans h
theorem blk_ne {w : World} {b : Nat} {x : Obj} {p : Addr} {v : Value} (h : w.heap[b]? = some x) (hn : b ≠ p.block) : (w.setCell p v).heap[b]? = some x := (Below.heap_setCell w p v b hn).trans h
theorem blk_set {w : World} {b o : Nat} {cs cs' : Array Value} {T : TypeId} {fr : Nat × Nat} {v : Value} (h : w.heap[b]? = some (.cells cs T fr)) (e : cs.setIfInBounds o v = cs') : (w.setCell ⟨b, o, none⟩ v).heap[b]? = some (.cells cs' T fr) := by
  subst e; exact heap_setCell_same h
end Go.Proofs.Ythhdjacdalehoaa
namespace Go.Proofs.Ythhdjacdalehoaa
open Go.RowKit
set_option linter.unusedVariables false
set_option linter.unusedSimpArgs false
set_option maxRecDepth 100000


def FB (B n : Nat) (x : Nat) : Prop := x < B ∨ n ≤ x
/-- A composition that may share memory with what came: it reads as some coercion, which is the wanted one if the answer is yes. -/
def RetCoP (B : Nat) (c : Co) (ok : Bool) (w : World) (e : Ending) (w' : World) : Prop := ∃ v c', e = .returned (.tuple #[v, .bool ok]) ∧ CoRep (FB B w.heap.size) w' c' v ∧ (ok = true → c' = c) ∧ Below w.heap.size w w'
theorem CosRep.setO {F : Nat → Prop} {w : World} {ts : List Co} {y : Value} (h : CosRep F w ts y) {p : Addr} (hp : ¬ F p.block) (v : Value) : CosRep F (w.setCell p v) ts y :=
  h.move ⟨by simp [World.setCell], fun _ h _ => h, fun b hb _ => Below.heap_setCell w p v b (fun e => hp (e ▸ hb))⟩
theorem CoRep.setO {F : Nat → Prop} {w : World} {t : Co} {y : Value} (h : CoRep F w t y) {p : Addr} (hp : ¬ F p.block) (v : Value) : CoRep F (w.setCell p v) t y :=
  h.move ⟨by simp [World.setCell], fun _ h _ => h, fun b hb _ => Below.heap_setCell w p v b (fun e => hp (e ▸ hb))⟩
theorem CoRep.fb {B n : Nat} {w : World} {t : Co} {y : Value} (h : CoRep (· < B) w t y) : CoRep (FB B n) w t y := h.move (.weaken fun _ h _ => .inl h)
theorem CoRep.fbn {B n m : Nat} {w : World} {t : Co} {y : Value} (h : CoRep (FB B n) w t y) (hm : m ≤ n) : CoRep (FB B m) w t y := h.move (.weaken fun _ h _ => h.elim .inl fun h => .inr (Nat.le_trans hm h))
theorem CoRep.leafR {F : Nat → Prop} {w : World} (k g l : Int) : CoRep F w (.mk k g l []) (.agg #[.int .i64 k, .int .i64 g, .int .i64 l, .slice none 0 0]) :=
  ⟨_, rfl, by unfold CosRep Co.kids Co.rows CRep; exact ⟨none, 0, rfl, by simp, by unfold maxLen; omega, .inl rfl⟩⟩
theorem fb_not {B n x : Nat} (h1 : B ≤ x) (h2 : x < n) : ¬ FB B n x := by unfold FB; omega
theorem CoRep.cellsR {F : Nat → Prop} {w : World} {t : Co} {k g l : Int} {s : Value} {b off : Nat} (h : CoRep F w t (.agg #[.int .i64 k, .int .i64 g, .int .i64 l, s]))
    (e0 : w.cell? ⟨b, off, none⟩ = some (.int .i64 k)) (e1 : w.cell? ⟨b, off + 1, none⟩ = some (.int .i64 g)) (e2 : w.cell? ⟨b, off + 1 + 1, none⟩ = some (.int .i64 l)) (e3 : w.cell? ⟨b, off + 1 + 1 + 1, none⟩ = some s) : CellsAt F w b off t.row := by
  cases t with | mk k' g' l' ts =>
  obtain ⟨s', he, hs⟩ := h
  simp only [Co.kind, Co.tag, Co.label, Co.kids, Value.agg.injEq, Array.mk.injEq, List.cons.injEq, Value.int.injEq, true_and, and_true] at he hs
  obtain ⟨rfl, rfl, rfl, rfl⟩ := he
  unfold Co.row CellsAt
  refine ⟨⟨_, e0, by unfold CRep; rfl⟩, ?_⟩
  unfold CellsAt
  refine ⟨⟨_, e1, by unfold CRep; rfl⟩, ?_⟩
  unfold CellsAt
  refine ⟨⟨_, e2, by unfold CRep; rfl⟩, ?_⟩
  unfold CellsAt
  exact ⟨⟨_, e3, hs⟩, by unfold CellsAt; trivial⟩
theorem CosRep.oneR {F : Nat → Prop} {w : World} {t : Co} {k g l : Int} {s : Value} {b : Nat} {T : TypeId} (h : CoRep F w t (.agg #[.int .i64 k, .int .i64 g, .int .i64 l, s])) (hF : F b)
    (e : w.heap[b]? = some (.cells #[.int .i64 k, .int .i64 g, .int .i64 l, s] T (0, 0))) : CosRep F w [t] (.slice (some ⟨b, 0, none⟩) 1 1) := by
  unfold CosRep Co.rows Co.rows CRep
  refine ⟨_, 1, rfl, by simp, by unfold maxLen; omega, .inr ⟨b, 0, rfl, hF, blk_lt e, ?_⟩⟩
  unfold RowsAt
  exact ⟨h.cellsR (blk_cell e rfl) (blk_cell e rfl) (blk_cell e rfl) (blk_cell e rfl), by unfold RowsAt; trivial⟩
theorem CosRep.twoR {F : Nat → Prop} {w : World} {t u : Co} {k g l k2 g2 l2 : Int} {s s2 : Value} {b : Nat} {T : TypeId} (h : CoRep F w t (.agg #[.int .i64 k, .int .i64 g, .int .i64 l, s])) (h2 : CoRep F w u (.agg #[.int .i64 k2, .int .i64 g2, .int .i64 l2, s2])) (hF : F b)
    (e : w.heap[b]? = some (.cells #[.int .i64 k, .int .i64 g, .int .i64 l, s, .int .i64 k2, .int .i64 g2, .int .i64 l2, s2] T (0, 0))) : CosRep F w [t, u] (.slice (some ⟨b, 0, none⟩) 2 2) := by
  unfold CosRep Co.rows Co.rows Co.rows CRep
  refine ⟨_, 2, rfl, by simp, by unfold maxLen; omega, .inr ⟨b, 0, rfl, hF, blk_lt e, ?_⟩⟩
  unfold RowsAt
  refine ⟨h.cellsR (blk_cell e rfl) (blk_cell e rfl) (blk_cell e rfl) (blk_cell e rfl), ?_⟩
  rw [t.row_length]
  unfold RowsAt
  exact ⟨h2.cellsR (blk_cell e rfl) (blk_cell e rfl) (blk_cell e rfl) (blk_cell e rfl), by unfold RowsAt; trivial⟩
theorem CosRep.coR {F : Nat → Prop} {w : World} {k g l : Int} {ts : List Co} {y : Value} (h : CosRep F w ts y) : CoRep F w (.mk k g l ts) (.agg #[.int .i64 k, .int .i64 g, .int .i64 l, y]) := ⟨y, rfl, h⟩
/-- What 'x, ok := compose(..)' leaves, in whatever order its parts come up. -/
def CutCoR (B : Nat) (c : Co) (ok : Bool) (w : World) (s s' : Value) (wx : World) : Prop := ∃ (g : Nat) (k gt lb : Int) (a : Option Addr) (n q : Nat) (c' : Co), s = .pointer (some ⟨g, 0, none⟩) ∧ s' = .bool ok ∧ w.heap.size ≤ g ∧
  wx.heap[g]? = some (.cells #[.int .i64 k, .int .i64 gt, .int .i64 lb, .slice a n q] 28 (0, 0)) ∧ CoRep (FB B w.heap.size) wx c' (.agg #[.int .i64 k, .int .i64 gt, .int .i64 lb, .slice a n q]) ∧ (ok = true → c' = c) ∧ Below w.heap.size w wx
theorem CutCoR_late {B : Nat} {w ws x : World} {c c' : Co} {ok : Bool} {k gt lb : Int} {a : Option Addr} {n q : Nat} (hb : Below w.heap.size w ws) (hx : w.heap.size ≤ x.heap.size) (hv : CoRep (FB B x.heap.size) ws c' (.agg #[.int .i64 k, .int .i64 gt, .int .i64 lb, .slice a n q])) (ho : ok = true → c' = c) :
    CutCoR B c ok w (.pointer (some ⟨ws.heap.size, 0, none⟩)) (.bool ok) (ws.alloc (.cells #[.int .i64 k, .int .i64 gt, .int .i64 lb, .slice a n q] 28)) :=
  ⟨ws.heap.size, k, gt, lb, a, n, q, c', rfl, rfl, hb.size, blk_new rfl, (hv.below bal1).fbn hx, ho, bstep hb bal1⟩
theorem CutCoR_early {B : Nat} {w ws x : World} {c c' : Co} {ok : Bool} {k gt lb : Int} {a : Option Addr} {n q g : Nat} {u0 u1 u2 u3 : Value} (hb : Below w.heap.size w ws) (h0 : ws.heap[g]? = some (.cells #[u0, u1, u2, u3] 28 (0, 0))) (hBw : B ≤ w.heap.size) (hg : w.heap.size ≤ g) (hx : g < x.heap.size)
    (hv : CoRep (FB B x.heap.size) ws c' (.agg #[.int .i64 k, .int .i64 gt, .int .i64 lb, .slice a n q])) (ho : ok = true → c' = c) : CutCoR B c ok w (.pointer (some ⟨g, 0, none⟩)) (.bool ok) ((((ws.setCell ⟨g, 0, none⟩ (.int .i64 k)).setCell ⟨g, 1, none⟩ (.int .i64 gt)).setCell ⟨g, 2, none⟩ (.int .i64 lb)).setCell ⟨g, 3, none⟩ (.slice a n q)) := by
  have hn : ¬ FB B x.heap.size g := fb_not (by omega) hx
  have h1 : (ws.setCell ⟨g, 0, none⟩ (.int .i64 k)).heap[g]? = some (.cells #[.int .i64 k, u1, u2, u3] 28 (0, 0)) := blk_set h0 rfl
  have h2 : ((ws.setCell ⟨g, 0, none⟩ (.int .i64 k)).setCell ⟨g, 1, none⟩ (.int .i64 gt)).heap[g]? = some (.cells #[.int .i64 k, .int .i64 gt, u2, u3] 28 (0, 0)) := blk_set h1 rfl
  have h3 : (((ws.setCell ⟨g, 0, none⟩ (.int .i64 k)).setCell ⟨g, 1, none⟩ (.int .i64 gt)).setCell ⟨g, 2, none⟩ (.int .i64 lb)).heap[g]? = some (.cells #[.int .i64 k, .int .i64 gt, .int .i64 lb, u3] 28 (0, 0)) := blk_set h2 rfl
  have hv4 := (((hv.setO (p := ⟨g, 0, none⟩) hn (.int .i64 k)).setO (p := ⟨g, 1, none⟩) hn (.int .i64 gt)).setO (p := ⟨g, 2, none⟩) hn (.int .i64 lb)).setO (p := ⟨g, 3, none⟩) hn (.slice a n q)
  exact ⟨g, k, gt, lb, a, n, q, c', rfl, rfl, hg, blk_set h3 rfl, hv4.fbn (by omega), ho, (((hb.setCell (p := ⟨g, 0, none⟩) hg _).setCell (p := ⟨g, 1, none⟩) hg _).setCell (p := ⟨g, 2, none⟩) hg _).setCell (p := ⟨g, 3, none⟩) hg _⟩

/-- What 'x, y := a[0], b[0]' leaves. -/
def CutVV (vs us : Array Value) (w : World) (s s' : Value) (wx : World) : Prop := ∃ (g h : Nat), s = .pointer (some ⟨g, 0, none⟩) ∧ s' = .pointer (some ⟨h, 0, none⟩) ∧ w.heap.size ≤ g ∧ w.heap.size ≤ h ∧ g ≠ h ∧
  wx.heap[g]? = some (.cells vs 28 (0, 0)) ∧ wx.heap[h]? = some (.cells us 28 (0, 0)) ∧ Below w.heap.size w wx
set_option maxHeartbeats 2000000 in
theorem implCoWith (k g l : Int) (a a' : Option Addr) (n q n' q' : Nat) (ok : Bool) (w : World) : Calls Try.prog 47 #[.agg #[.int .i64 k, .int .i64 g, .int .i64 l, .slice a n q], .bool ok, .slice a' n' q'] w fun e w' => e = .returned (.tuple #[.agg #[.int .i64 k, .int .i64 g, .int .i64 l, .slice a' n' q'], .bool ok]) ∧ Below w.heap.size w w' := by
  go_enter Try.func47, Try.ntmps47
  go_wp2_with fail
  refine bodyPost_ret (v := .tuple #[.agg #[.int .i64 k, .int .i64 g, .int .i64 l, .slice a' n' q'], .bool ok]) (by simp [results, Try.results47, go_sem]) rfl ?_
  exact ⟨rfl, bal2⟩
end Go.Proofs.Ythhdjacdalehoaa
