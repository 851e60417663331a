/-
  Small laws for walks that a program prints: what is known of a cell behind an alloc, a draw, a store, a call.
-/
import Derived.Test.YtikkneahhgmdjaaAcc
namespace Go.Proofs.Ytikkneahhgmdjaa
open Go.RowKit

theorem cell_new {X : World} {n : Nat} {cs : Array Value} {T : TypeId} (h : X.heap.size = n) (j : Nat) : (X.alloc (.cells cs T)).cell? ⟨n, j, none⟩ = cs[j]? := by subst h; exact cell_n0 j
theorem fro_new {X : World} {n : Nat} {cs : Array Value} {T : TypeId} (h : X.heap.size = n) (j : Nat) : (X.alloc (.cells cs T)).frozen? ⟨n, j, none⟩ = false := by subst h; exact fro_n0 j
theorem bfroc {w w1 : World} {a : Addr} {v : Value} (h : Below w.heap.size w w1) (hc : w.cell? a = some v) (hf : w.frozen? a = false) : w1.frozen? a = false := (h.frozen (World.block_lt_of_cell? w a hc)).trans hf
theorem dcell {w : World} {a : Addr} {v : Value} (hc : w.cell? a = some v) : w.drew.cell? a = some v := hc
theorem dfro {w : World} {a : Addr} (hc : w.frozen? a = false) : w.drew.frozen? a = false := hc
theorem sfro {w : World} {a p : Addr} {v : Value} (hf : w.frozen? a = false) : (w.setCell p v).frozen? a = false := (sc_fro w p v a).trans hf
theorem sc_blk {w : World} {p a : Addr} {v u : Value} (h : w.cell? a = some u) (hne : a.block ≠ p.block) : (w.setCell p v).cell? a = some u := sc_far h (fun e => by subst e; exact hne rfl)
end Go.Proofs.Ytikkneahhgmdjaa
