/-
  A block of cells as one fact.
-/
import Derived.Test.YtikkneahhgmdjaaAcc
import Derived.Test.YtikkneahhgmdjaaChg
namespace Go.Proofs.Ytikkneahhgmdjaa
open Go.RowKit
set_option linter.unusedVariables false
set_option linter.unusedSimpArgs false

theorem blk_cell {w : World} {b o : Nat} {cs : Array Value} {T : TypeId} {fr : Nat × Nat} {v : Value} (h : w.heap[b]? = some (.cells cs T fr)) (hv : cs[o]? = some v) : w.cell? ⟨b, o, none⟩ = some v := by
  simp only [World.cell?, h]
  simpa using hv
theorem blk_fro {w : World} {b : Nat} {cs : Array Value} {T : TypeId} (h : w.heap[b]? = some (.cells cs T (0, 0))) (o : Nat) : w.frozen? ⟨b, o, none⟩ = false := by
  simp [World.frozen?, h]
theorem blk_lt {w : World} {b : Nat} {x : Obj} (h : w.heap[b]? = some x) : b < w.heap.size := (Array.getElem?_eq_some_iff.1 h).1
theorem blk_new {w : World} {b : Nat} {o : Obj} (hb : w.heap.size = b) : (w.alloc o).heap[b]? = some o := by subst hb; exact heap_alloc_new w o
theorem blk_n2 {w : World} {o o' x : Obj} : (((w.alloc o).alloc o').alloc x).heap[w.heap.size + 1 + 1]? = some x := blk_new (by simp)
theorem blk_below {w w' : World} {b : Nat} {x : Obj} (h : w.heap[b]? = some x) (k : Below w.heap.size w w') : w'.heap[b]? = some x := (k.block b (blk_lt h)).trans h
theorem blk_chg {r : Nat} {w w' : World} {b : Nat} {x : Obj} (h : w.heap[b]? = some x) (k : Chg [r] w w') (hn : b ≠ r) : w'.heap[b]? = some x := (k.block b (blk_lt h) (by simpa using hn)).trans h
theorem blk_ne {w : World} {b : Nat} {x : Obj} {p : Addr} {v : Value} (h : w.heap[b]? = some x) (hn : b ≠ p.block) : (w.setCell p v).heap[b]? = some x := (Below.heap_setCell w p v b hn).trans h
theorem blk_set {w : World} {b o : Nat} {cs cs' : Array Value} {T : TypeId} {fr : Nat × Nat} {v : Value} (h : w.heap[b]? = some (.cells cs T fr)) (e : cs.setIfInBounds o v = cs') : (w.setCell ⟨b, o, none⟩ v).heap[b]? = some (.cells cs' T fr) := by
  subst e; exact heap_setCell_same h
end Go.Proofs.Ytikkneahhgmdjaa
