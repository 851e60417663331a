/-
  The check of a coercion by the reference.
-/
import Derived.Test.YthhdjacdalehoaaCoTailA
import Derived.Test.YthhdjacdalehoaaCoTailB
import Derived.Test.YthhdjacdalehoaaCoTailC
namespace Go.Proofs.Ythhdjacdalehoaa
open Go.RowKit
set_option linter.unusedVariables false
set_option linter.unusedSimpArgs false
set_option maxRecDepth 100000

set_option maxHeartbeats 8000000 in
theorem specL6Shape (F : Nat → Prop) (t : Co) : ∀ (d : Int) (y : Value) (w : World), CoRep F w t y → 0 ≤ d → d ≤ 100 →
    Calls Try.prog 41 #[y, .int .i64 d] w fun e w' => e = .returned (.bool (t.shape d)) ∧ Below w.heap.size w w' := by
  intro d y w hy hd0 hd5
  have IH : ∀ t' ∈ t.kids, ∀ (d : Int) (y : Value) (W : World), CoRep F W t' y → 0 ≤ d → d ≤ 100 → Calls Try.prog 41 #[y, .int .i64 d] W fun e W' => e = .returned (.bool (t'.shape d)) ∧ Below W.heap.size W W' :=
    fun t' ht d y W a b c => specL6Shape F t' d y W a b c
  obtain ⟨a, cap, rfl, h2, h3, hr⟩ := hy.open
  cases t with | mk k g l ts =>
  simp only [Co.kind, Co.tag, Co.label, Co.kids] at *
  unfold maxLen at h3
  unfold Co.shape
  by_cases h : k = 1 ∨ k = 2 ∨ k = 3 ∨ k = 4 ∨ k = 5 ∨ k = 6
  · rcases h with rfl | rfl | rfl | rfl | rfl | rfl
    · exact specShapeK1 F g l d ts w a _ cap h2 h3 hr (Lib.hid rfl) hd0 hd5 (Lib.hid IH)
    · exact specShapeK2 F g l d ts w a _ cap h2 h3 hr (Lib.hid rfl) hd0 hd5 (Lib.hid IH)
    · exact specShapeK3 F g l d ts w a _ cap h2 h3 hr (Lib.hid rfl) hd0 hd5 (Lib.hid IH)
    · exact specShapeK4 F g l d ts w a _ cap h2 h3 hr (Lib.hid rfl) hd0 hd5 (Lib.hid IH)
    · exact specShapeK5 F g l d ts w a _ cap h2 h3 hr (Lib.hid rfl) hd0 hd5 (Lib.hid IH)
    · exact specShapeK6 F g l d ts w a _ cap h2 h3 hr (Lib.hid rfl) hd0 hd5 (Lib.hid IH)
  · have z : ∀ i : Int, i = 1 ∨ i = 2 ∨ i = 3 ∨ i = 4 ∨ i = 5 ∨ i = 6 → (k == i) = false := by
      intro i hi
      simp only [beq_eq_false_iff_ne]
      rintro rfl
      exact h hi
    exact specShapeKk F k g l d ts w a _ cap (z 1 (by simp)) (z 2 (by simp)) (z 3 (by simp)) (z 4 (by simp)) (z 5 (by simp)) (z 6 (by simp)) h2 h3 hr (Lib.hid rfl) hd0 hd5 (Lib.hid IH)
termination_by SizeOf.sizeOf t
decreasing_by exact Co.kid_lt ht
theorem specCoercionValid (F : Nat → Prop) (t : Co) (y : Value) (w : World) (hy : CoRep F w t y) :
    Calls Try.prog 20 #[y] w fun e w' => e = .returned (.bool t.valid) ∧ Below w.heap.size w w' := by
  have H := Lib.hid fun W (h : Below w.heap.size w W) => specL6Shape F t 9 y W (hy.below h) (by omega) (by omega)
  obtain ⟨k, g, l, a, n, q, rfl⟩ := hy.shape
  clear hy
  go_enter Try.func20, Try.ntmps20
  go_wp2_with fail
  refine (H.out _ bal1).mono ?_
  rintro e w1 ⟨rfl, hb1⟩
  go_wp2_with fail
  go_ret
  exact ⟨ret_bool rfl, bstep bal1 hb1⟩
end Go.Proofs.Ythhdjacdalehoaa
