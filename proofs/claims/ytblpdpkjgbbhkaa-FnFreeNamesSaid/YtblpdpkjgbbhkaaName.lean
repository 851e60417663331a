/-
  Names: one small letter.
-/
import Derived.Test.YtblpdpkjgbbhkaaRows
import Derived.Test.YtblpdpkjgbbhkaaBase
namespace Go.Proofs.Ytblpdpkjgbbhkaa
open Go.RowKit
set_option linter.unusedVariables false
set_option linter.unusedSimpArgs false
set_option maxRecDepth 100000

/-- What makes a name. -/
def nameB (s : ByteArray) : Bool := if h : s.size = 1 then decide ((97 : Int) ≤ ((s[0]'(by omega)).toNat : Int)) && decide (((s[0]'(by omega)).toNat : Int) ≤ 122) else false
theorem nameB_no {s : ByteArray} (h : ¬ s.size = 1) : nameB s = false := by unfold nameB; rw [dif_neg h]
theorem nameB_yes {s : ByteArray} (h : s.size = 1) (hp : 0 < s.size) : nameB s = (decide ((97 : Int) ≤ ((s[0]'hp).toNat : Int)) && decide (((s[0]'hp).toNat : Int) ≤ 122)) := by unfold nameB; rw [dif_pos h]
set_option maxHeartbeats 1000000 in
theorem implIsName (s : ByteArray) (w : World) : Calls Try.prog 128 #[.string s] w fun e w' => e = .returned (.bool (nameB s)) ∧ w = w' := by
  by_cases h1 : s.size = 1
  · have hp : 0 < s.size := by omega
    have HN := Lib.hid (nameB_yes h1 hp)
    have hi : ((s.size : Int) == 1) = true := by simp [h1]
    have hp' : (0 : Int) < (s.size : Int) := by omega
    by_cases hA : (97 : Int) ≤ ((s[0]'hp).toNat : Int)
    · have hA' : decide ((97 : Int) ≤ ((s[0]'hp).toNat : Int)) = true := decide_eq_true hA
      go_enter Try.func128, Try.ntmps128
      go_wp2_with fail
      go_ret
      exact ⟨ret_bool (by rw [HN.out, hA']; rfl), rfl⟩
    · have hA' : decide ((97 : Int) ≤ ((s[0]'hp).toNat : Int)) = false := decide_eq_false hA
      go_enter Try.func128, Try.ntmps128
      go_wp2_with fail
      go_ret
      exact ⟨ret_bool (by rw [HN.out, hA']; rfl), rfl⟩
  · have HN := Lib.hid (nameB_no h1)
    have hi : ((s.size : Int) == 1) = false := by simp; omega
    clear h1
    go_enter Try.func128, Try.ntmps128
    go_wp2_with fail
    go_ret
    exact ⟨ret_bool HN.out.symm, rfl⟩
set_option maxHeartbeats 1000000 in
theorem specL2Name (s : ByteArray) (w : World) : Calls Try.prog 132 #[.string s] w fun e w' => e = .returned (.bool (nameB s)) ∧ w = w' := by
  by_cases h1 : s.size = 1
  · have hp : 0 < s.size := by omega
    have HN := Lib.hid (nameB_yes h1 hp)
    have hi : ((s.size : Int) == 1) = true := by simp [h1]
    have hp' : (0 : Int) < (s.size : Int) := by omega
    by_cases hA : (97 : Int) ≤ ((s[0]'hp).toNat : Int)
    · have hA' : decide ((97 : Int) ≤ ((s[0]'hp).toNat : Int)) = true := decide_eq_true hA
      go_enter Try.func132, Try.ntmps132
      go_wp2_with fail
      go_ret
      exact ⟨ret_bool (by rw [HN.out, hA']; rfl), rfl⟩
    · have hA' : decide ((97 : Int) ≤ ((s[0]'hp).toNat : Int)) = false := decide_eq_false hA
      go_enter Try.func132, Try.ntmps132
      go_wp2_with fail
      go_ret
      exact ⟨ret_bool (by rw [HN.out, hA']; rfl), rfl⟩
  · have HN := Lib.hid (nameB_no h1)
    have hi : ((s.size : Int) == 1) = false := by simp; omega
    clear h1
    go_enter Try.func132, Try.ntmps132
    go_wp2_with fail
    go_ret
    exact ⟨ret_bool HN.out.symm, rfl⟩

end Go.Proofs.Ytblpdpkjgbbhkaa
