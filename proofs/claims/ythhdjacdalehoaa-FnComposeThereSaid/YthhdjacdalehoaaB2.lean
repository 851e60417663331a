/-
  Small laws for walks that a program prints: what is known of a cell behind an alloc, a draw, a store, a call.
  What a law about a result that is a tree needs: what a mark leaves as it was.
-/
import Derived.Test.YthhdjacdalehoaaB1
namespace Go.Proofs.Ythhdjacdalehoaa
open Go.RowKit

theorem cell_new {X : World} {n : Nat} {cs : Array Value} {T : TypeId} (h : X.heap.size = n) (j : Nat) : (X.alloc (.cells cs T)).cell? ⟨n, j, none⟩ = cs[j]? := by subst h; exact cell_n0 j
theorem fro_new {X : World} {n : Nat} {cs : Array Value} {T : TypeId} (h : X.heap.size = n) (j : Nat) : (X.alloc (.cells cs T)).frozen? ⟨n, j, none⟩ = false := by subst h; exact fro_n0 j
theorem bfroc {w w1 : World} {a : Addr} {v : Value} (h : Below w.heap.size w w1) (hc : w.cell? a = some v) (hf : w.frozen? a = false) : w1.frozen? a = false := (h.frozen (World.block_lt_of_cell? w a hc)).trans hf
theorem dcell {w : World} {a : Addr} {v : Value} (hc : w.cell? a = some v) : w.drew.cell? a = some v := hc
theorem dfro {w : World} {a : Addr} (hc : w.frozen? a = false) : w.drew.frozen? a = false := hc
theorem sfro {w : World} {a p : Addr} {v : Value} (hf : w.frozen? a = false) : (w.setCell p v).frozen? a = false := (sc_fro w p v a).trans hf
theorem sc_blk {w : World} {p a : Addr} {v u : Value} (h : w.cell? a = some u) (hne : a.block ≠ p.block) : (w.setCell p v).cell? a = some u := sc_far h (fun e => by subst e; exact hne rfl)
end Go.Proofs.Ythhdjacdalehoaa
namespace Go.Proofs.Ythhdjacdalehoaa
open Go.RowKit
set_option linter.unusedVariables false
set_option linter.unusedSimpArgs false
set_option maxRecDepth 100000

theorem TyOwn.chg {fp fp' : List Nat} {w w' : World} {t : Ty} {y : Value} (h : Chg fp w w') (hn : ∀ b ∈ fp', b ∉ fp) (r : TyOwn w t y fp') : TyOwn w' t y fp' := by
  obtain ⟨s, rfl, ho⟩ := r
  exact ⟨s, rfl, COwn.move _ _ _ (fun b hb => h.block b (COwn.lt _ _ _ ho b hb) (hn b hb)) ho⟩
theorem TyOwn.lt {w : World} {t : Ty} {y : Value} {fp : List Nat} (r : TyOwn w t y fp) : ∀ b ∈ fp, b < w.heap.size := by
  obtain ⟨s, rfl, ho⟩ := r
  exact COwn.lt _ _ _ ho
theorem TyRep.old {F : Nat → Prop} {w : World} {t : Ty} {y : Value} (r : TyRep F w t y) : TyRep (· < w.heap.size) w t y := r.move (.weaken fun _ _ h => h)
theorem TyOwn.ks {w : World} {t : Ty} {y : Value} {fp : List Nat} (r : TyOwn w t y fp) : ∃ k a n q, y = .agg #[.int .i64 k, .slice a n q] := by
  obtain ⟨k, a, n, q, rfl, -⟩ := r.shape
  exact ⟨k, a, n, q, rfl⟩

end Go.Proofs.Ythhdjacdalehoaa
