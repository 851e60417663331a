/-
  An argument of type []byte reads as a slice of bytes.
-/
import Derived.Test.YthhdjacdalehoaaB0
import Derived.Test.YthhdjacdalehoaaRd
namespace Go.Proofs.Ythhdjacdalehoaa
open Go.RowKit Go.ChangeShapes Go.WideShapes
set_option linter.unusedVariables false
set_option linter.unusedSimpArgs false
set_option maxRecDepth 100000

theorem Try.cellsU8 : Try.prog.cellsOf 5 = 1 := by kernel_rfl
section
variable {H : Type} {enc : TypeId × Value → H} {w : World} {base : Nat} {held : Bool} {spare : Nat → Bool}
theorem by_of_trod (n : Nat) (cs : List Value) (x : DataW H × List MemPlace) (h : DataW.trod enc Try.prog w base spare held (n + 1) 35 cs = some x) :
    ∃ s, cs = [s] ∧ ByRep w w.heap.size s := by
  rcases DataW.trod_slice Try.underlying35 h with ⟨rfl, _⟩ | ⟨a, len, cap, elems, rest, n', hn, rfl, _, _, hlc, hcm, hel, he, _⟩
  · exact ⟨_, rfl, none, 0, 0, rfl, Nat.le_refl _, by unfold maxLen; omega, fun i hi => absurd hi (Nat.not_lt_zero _)⟩
  · obtain rfl : n = n' := by omega
    rw [Try.cellsU8] at he
    have get : ∀ i, i < len → ∃ k, w.cell? (a.add i) = some (.int .u8 k) ∧ 0 ≤ k ∧ k < 256 := by
      intro i hi
      have hk := he i hi
      rw [List.getElem?_eq_getElem (by omega)] at hk
      obtain ⟨cs', hc, ht⟩ := Option.bind_eq_some_iff.1 hk
      obtain ⟨k, rfl, -, hwf⟩ := DataW.trod_int Try.underlying5 ht
      obtain ⟨_, hl, g⟩ := World.cells?_some hc
      have g0 := g 0 (by omega)
      rw [Nat.mul_one, show (a.add i).add 0 = a.add i from by simp [Addr.add]] at g0
      refine ⟨k, by simpa using g0, ?_⟩
      simp [Lit.wf, IntKind.min, IntKind.max, IntKind.signed, IntKind.bits] at hwf
      omega
    refine ⟨_, rfl, some a, len, cap, rfl, hlc, hcm, fun i hi => ?_⟩
    obtain ⟨k0, h0, -, -⟩ := get 0 (by omega)
    have hs := spot_of_cell (show w.cell? a = some (.int .u8 k0) from by simpa [Addr.add] using h0)
    obtain ⟨k, h1, h2, h3⟩ := get i hi
    rw [Addr_add_off i hs] at h1
    have hb := World.block_lt_of_cell? w _ h1
    refine ⟨a.block, a.off, k, ?_, hb, hb, h1, h2, h3⟩
    cases a; simp at hs; subst hs; rfl
theorem by_of_arg {v : Value} {d : DataW H} {ps : List MemPlace} {r : Reach} {b : Nat} (hv : Value.okWide Try.prog w r b 35 v) (h : DataW.Trod enc Try.prog w base spare held 35 v d ps) : ByRep w w.heap.size v := by
  obtain ⟨fuel, hf⟩ := h
  cases fuel with
  | zero => simp [DataW.trod] at hf
  | succ n =>
    obtain ⟨s, hs, hr⟩ := by_of_trod n _ _ hf
    obtain ⟨a, m, c, rfl⟩ := okWide_slice Try.underlying35 hv
    have hvs : Value.slice a m c = s := by simpa [Value.cells] using hs
    rw [hvs]; exact hr
end
end Go.Proofs.Ythhdjacdalehoaa
