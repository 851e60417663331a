/-
  Coercions as results beside a truth value; slices of two coercions.
-/
import Derived.Test.YthhdjacdalehoaaB10
import Derived.Test.YthhdjacdalehoaaB10
namespace Go.Proofs.Ythhdjacdalehoaa
open Go.RowKit
set_option linter.unusedVariables false
set_option linter.unusedSimpArgs false
set_option maxRecDepth 100000

def RetCoB (t : Co) (b : Bool) (w : World) (e : Ending) (w' : World) : Prop := ∃ v, e = .returned (.tuple #[v, .bool b]) ∧ CoNew w.heap.size w' t v ∧ Below w.heap.size w w'
theorem specId (k : Int) (w : World) : Calls Try.prog 60 #[.int .i64 k] w (RetCo (.mk 1 k 0 []) w) := by
  go_enter Try.func60, Try.ntmps60
  go_wp2_with fail
  refine bodyPost_ret (v := .agg #[.int .i64 1, .int .i64 k, .int .i64 0, .slice none 0 0]) (by simp [results, Try.results60, go_sem]) rfl ?_
  exact ⟨_, rfl, CoNew.mono (CoNew.zero _ _ _) (Nat.le_refl _), bal1⟩
theorem CosRep.two {F : Nat → Prop} {w : World} {c0 c1 : Co} {a : Option Addr} {n q : Nat} (h : CosRep F w [c0, c1] (.slice a n q)) :
    ∃ b off k0 g0 l0 a0 n0 q0 k1 g1 l1 a1 n1 q1, a = some ⟨b, off, none⟩ ∧ n = 2 ∧ w.cell? ⟨b, off, none⟩ = some (.int .i64 k0) ∧ w.cell? ⟨b, off + 1, none⟩ = some (.int .i64 g0) ∧ w.cell? ⟨b, off + 2, none⟩ = some (.int .i64 l0) ∧ w.cell? ⟨b, off + 3, none⟩ = some (.slice a0 n0 q0) ∧ w.cell? ⟨b, off + 4, none⟩ = some (.int .i64 k1) ∧ w.cell? ⟨b, off + 5, none⟩ = some (.int .i64 g1) ∧ w.cell? ⟨b, off + 6, none⟩ = some (.int .i64 l1) ∧ w.cell? ⟨b, off + 7, none⟩ = some (.slice a1 n1 q1) ∧ CoRep F w c0 (.agg #[.int .i64 k0, .int .i64 g0, .int .i64 l0, .slice a0 n0 q0]) ∧ CoRep F w c1 (.agg #[.int .i64 k1, .int .i64 g1, .int .i64 l1, .slice a1 n1 q1]) := by
  obtain ⟨a', q', he, -, -, -⟩ := h.open
  simp only [Value.slice.injEq] at he
  obtain ⟨-, rfl, -⟩ := he
  obtain ⟨b, off, k0, g0, l0, a0, n0, q0, rfl, lb, e0, e1, e2, e3, h0⟩ := h.at (Below.refl _ _) (i := 0) (by simp)
  obtain ⟨b', off', k1, g1, l1, a1, n1, q1, he, lb', d0, d1, d2, d3, h1⟩ := h.at (Below.refl _ _) (i := 1) (by simp)
  simp only [Option.some.injEq, Addr.mk.injEq, and_true] at he
  obtain ⟨rfl, rfl⟩ := he
  simp only [Nat.zero_mul, Nat.add_zero] at e0 e1 e2 e3
  exact ⟨b, off, k0, g0, l0, a0, n0, q0, k1, g1, l1, a1, n1, q1, rfl, rfl, e0, e1, e2, e3, by simpa [Nat.add_assoc] using d0, by simpa [Nat.add_assoc] using d1, by simpa [Nat.add_assoc] using d2, by simpa [Nat.add_assoc] using d3, h0, h1⟩
theorem cell_n3 {w : World} {o o' o2 : Obj} {cs : Array Value} {T : TypeId} (j : Nat) : ((((w.alloc o).alloc o').alloc o2).alloc (.cells cs T)).cell? ⟨w.heap.size + 1 + 1 + 1, j, none⟩ = cs[j]? := by
  have h := cell_n2 (w := w.alloc o) (o := o') (o' := o2) (cs := cs) (T := T) j
  rw [show (w.alloc o).heap.size = w.heap.size + 1 from by simp] at h
  exact h
theorem fro_n3 {w : World} {o o' o2 : Obj} {cs : Array Value} {T : TypeId} (j : Nat) : ((((w.alloc o).alloc o').alloc o2).alloc (.cells cs T)).frozen? ⟨w.heap.size + 1 + 1 + 1, j, none⟩ = false := by
  have h := fro_n2 (w := w.alloc o) (o := o') (o' := o2) (cs := cs) (T := T) j
  rw [show (w.alloc o).heap.size = w.heap.size + 1 from by simp] at h
  exact h
end Go.Proofs.Ythhdjacdalehoaa
