/-
  Shapes of types: plain facts.
-/
import Derived.Test.YtikkneahhgmdjaaTyValid
namespace Go.Proofs.Ytikkneahhgmdjaa
open Go.RowKit
set_option linter.unusedVariables false
set_option linter.unusedSimpArgs false

theorem Ty.shapes_mem : ∀ {ts : List Ty} {d : Int} {t : Ty}, Ty.shapes ts d = true → t ∈ ts → t.shape d = true
  | u :: ts, d, t, h, ht => by
    unfold Ty.shapes at h
    simp only [Bool.and_eq_true] at h
    rcases List.mem_cons.1 ht with rfl | ht
    · exact h.1
    · exact Ty.shapes_mem h.2 ht
theorem tkids_le (k : Int) : tkids k ≤ 2 := by unfold tkids; split; omega; split <;> omega
mutual
theorem Ty.cnt_shape : ∀ (t : Ty) (n : Nat), t.shape n = true → t.cnt + 2 ≤ 2 ^ n
  | .mk k ts, n, h => by
    obtain ⟨h1, h2, h3⟩ := Ty.shape_mk h
    obtain ⟨m, rfl⟩ : ∃ m, n = m + 1 := ⟨n - 1, by omega⟩
    rw [show ((m + 1 : Nat) : Int) - 1 = (m : Int) from by omega] at h3
    have h4 := Ty.cnts_shape ts m h3
    have h5 := tkids_le k
    unfold Ty.cnt
    have : 2 ^ (m + 1) = 2 * 2 ^ m := by rw [Nat.pow_succ]; omega
    have h6 : ts.length = 0 ∨ ts.length = 1 ∨ ts.length = 2 := by omega
    have h7 : 1 ≤ 2 ^ m := Nat.one_le_two_pow
    rcases h6 with h6 | h6 | h6 <;> rw [h6] at h4 ⊢ <;> omega
theorem Ty.cnts_shape : ∀ (ts : List Ty) (n : Nat), Ty.shapes ts n = true → Ty.cnts ts + 2 * ts.length ≤ ts.length * 2 ^ n
  | [], _, _ => by simp [Ty.cnts]
  | t :: ts, n, h => by
    unfold Ty.shapes at h
    simp only [Bool.and_eq_true] at h
    have h1 := Ty.cnt_shape t n h.1
    have h2 := Ty.cnts_shape ts n h.2
    simp only [Ty.cnts, List.length_cons, Nat.add_mul]
    omega
end
theorem Ty.cnt_valid {t : Ty} (h : t.valid = true) : t.cnt ≤ 1048576 := by
  have := Ty.cnt_shape t 4 h
  omega

end Go.Proofs.Ytikkneahhgmdjaa
