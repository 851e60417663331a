/-
  An argument of type []byte reads as a slice of bytes.
  A block of cells as one fact.
-/
import Derived.Test.YtikkneahhgmdjaaB0
import Derived.Test.YtikkneahhgmdjaaRd
import Derived.Test.YtikkneahhgmdjaaB5
import Derived.Test.YtikkneahhgmdjaaB1
namespace Go.Proofs.Ytikkneahhgmdjaa
open Go.RowKit Go.ChangeShapes Go.WideShapes
set_option linter.unusedVariables false
set_option linter.unusedSimpArgs false
set_option maxRecDepth 100000

theorem Try.cellsU8 : Try.prog.cellsOf 5 = 1 := by kernel_rfl
section
variable {H : Type} {enc : TypeId × Value → H} {w : World} {base : Nat} {held : Bool} {spare : Nat → Bool}
theorem by_of_trod (n : Nat) (cs : List Value) (x : DataW H × List MemPlace) (h : DataW.trod enc Try.prog w base spare held (n + 1) 30 cs = some x) :
    ∃ s, cs = [s] ∧ ByRep w w.heap.size s := by
  rcases DataW.trod_slice Try.underlying30 h with ⟨rfl, _⟩ | ⟨a, len, cap, elems, rest, n', hn, rfl, _, _, hlc, hcm, hel, he, _⟩
  · exact ⟨_, rfl, none, 0, 0, rfl, Nat.le_refl _, by unfold maxLen; omega, fun i hi => absurd hi (Nat.not_lt_zero _)⟩
  · obtain rfl : n = n' := by omega
    rw [Try.cellsU8] at he
    have get : ∀ i, i < len → ∃ k, w.cell? (a.add i) = some (.int .u8 k) ∧ 0 ≤ k ∧ k < 256 := by
      intro i hi
      have hk := he i hi
      rw [List.getElem?_eq_getElem (by omega)] at hk
      obtain ⟨cs', hc, ht⟩ := Option.bind_eq_some_iff.1 hk
      obtain ⟨k, rfl, -, hwf⟩ := DataW.trod_int Try.underlying5 ht
      obtain ⟨_, hl, g⟩ := World.cells?_some hc
      have g0 := g 0 (by omega)
      rw [Nat.mul_one, show (a.add i).add 0 = a.add i from by simp [Addr.add]] at g0
      refine ⟨k, by simpa using g0, ?_⟩
      simp [Lit.wf, IntKind.min, IntKind.max, IntKind.signed, IntKind.bits] at hwf
      omega
    refine ⟨_, rfl, some a, len, cap, rfl, hlc, hcm, fun i hi => ?_⟩
    obtain ⟨k0, h0, -, -⟩ := get 0 (by omega)
    have hs := spot_of_cell (show w.cell? a = some (.int .u8 k0) from by simpa [Addr.add] using h0)
    obtain ⟨k, h1, h2, h3⟩ := get i hi
    rw [Addr_add_off i hs] at h1
    have hb := World.block_lt_of_cell? w _ h1
    refine ⟨a.block, a.off, k, ?_, hb, hb, h1, h2, h3⟩
    cases a; simp at hs; subst hs; rfl
theorem by_of_arg {v : Value} {d : DataW H} {ps : List MemPlace} {r : Reach} {b : Nat} (hv : Value.okWide Try.prog w r b 30 v) (h : DataW.Trod enc Try.prog w base spare held 30 v d ps) : ByRep w w.heap.size v := by
  obtain ⟨fuel, hf⟩ := h
  cases fuel with
  | zero => simp [DataW.trod] at hf
  | succ n =>
    obtain ⟨s, hs, hr⟩ := by_of_trod n _ _ hf
    obtain ⟨a, m, c, rfl⟩ := okWide_slice Try.underlying30 hv
    have hvs : Value.slice a m c = s := by simpa [Value.cells] using hs
    rw [hvs]; exact hr
end
end Go.Proofs.Ytikkneahhgmdjaa
namespace Go.Proofs.Ytikkneahhgmdjaa
open Go.RowKit
set_option linter.unusedVariables false
set_option linter.unusedSimpArgs false

theorem blk_cell {w : World} {b o : Nat} {cs : Array Value} {T : TypeId} {fr : Nat × Nat} {v : Value} (h : w.heap[b]? = some (.cells cs T fr)) (hv : cs[o]? = some v) : w.cell? ⟨b, o, none⟩ = some v := by
  simp only [World.cell?, h]
  simpa using hv
theorem blk_fro {w : World} {b : Nat} {cs : Array Value} {T : TypeId} (h : w.heap[b]? = some (.cells cs T (0, 0))) (o : Nat) : w.frozen? ⟨b, o, none⟩ = false := by
  simp [World.frozen?, h]
theorem blk_lt {w : World} {b : Nat} {x : Obj} (h : w.heap[b]? = some x) : b < w.heap.size := (Array.getElem?_eq_some_iff.1 h).1
theorem blk_new {w : World} {b : Nat} {o : Obj} (hb : w.heap.size = b) : (w.alloc o).heap[b]? = some o := by subst hb; exact heap_alloc_new w o
theorem blk_n2 {w : World} {o o' x : Obj} : (((w.alloc o).alloc o').alloc x).heap[w.heap.size + 1 + 1]? = some x := blk_new (by simp)
theorem blk_below {w w' : World} {b : Nat} {x : Obj} (h : w.heap[b]? = some x) (k : Below w.heap.size w w') : w'.heap[b]? = some x := (k.block b (blk_lt h)).trans h
theorem blk_chg {r : Nat} {w w' : World} {b : Nat} {x : Obj} (h : w.heap[b]? = some x) (k : Chg [r] w w') (hn : b ≠ r) : w'.heap[b]? = some x := (k.block b (blk_lt h) (by simpa using hn)).trans h
theorem blk_ne {w : World} {b : Nat} {x : Obj} {p : Addr} {v : Value} (h : w.heap[b]? = some x) (hn : b ≠ p.block) : (w.setCell p v).heap[b]? = some x := (Below.heap_setCell w p v b hn).trans h
theorem blk_set {w : World} {b o : Nat} {cs cs' : Array Value} {T : TypeId} {fr : Nat × Nat} {v : Value} (h : w.heap[b]? = some (.cells cs T fr)) (e : cs.setIfInBounds o v = cs') : (w.setCell ⟨b, o, none⟩ v).heap[b]? = some (.cells cs' T fr) := by
  subst e; exact heap_setCell_same h
end Go.Proofs.Ytikkneahhgmdjaa
