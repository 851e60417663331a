/-
  The marks of texts: some string.
-/
import Derived.Test.YtghgjpcibdfbmaaRows
import Derived.Test.YtghgjpcibdfbmaaBase
import Derived.IntWalk
namespace Go.Proofs.Ytghgjpcibdfbmaa
open Go.RowKit
set_option linter.unusedVariables false
set_option linter.unusedSimpArgs false
set_option maxRecDepth 100000

set_option maxHeartbeats 2000000 in
theorem markText_any (k : Int) (h0 : 0 ≤ k) (h1 : k ≤ 1099511627776) (w : World) :
    Calls Try.prog 111 #[.int .i64 k] w fun e w' => (∃ s, e = .returned (.string s)) ∧ Below w.heap.size w w' := by
  by_cases hk : k ≤ 0
  · have hd : decide (k ≤ 0) = true := decide_eq_true hk
    go_enter Try.func111, Try.ntmps111
    go_wp2_with fail
    go_ret
    exact ⟨⟨_, rfl⟩, Below.refl _ _⟩
  · have hd : decide (k ≤ 0) = false := decide_eq_false hk
    go_enter Try.func111, Try.ntmps111
    go_wp2_with fail
    go_loopw [0, 3] (fun p q wr => (∃ n : Int, p = .int .i64 n ∧ 0 ≤ n ∧ n ≤ 1099511627776 ∧ ∃ s : ByteArray, q = .string s ∧ ∃ d : Nat, s.size + d = 13 ∧ Hid (n < 10 ^ d)) ∧ Below w.heap.size w wr) (fun p _ _ => (intOf p).toNat)
    case atStart =>
      have h13 : (10 : Int) ^ 13 = 10000000000000 := by decide
      exact ⟨⟨k, rfl, h0, h1, ⟨#[]⟩, rfl, 13, rfl, by unfold Hid; omega⟩, Below.refl _ _⟩
    case round =>
      obtain ⟨⟨n, rfl, hn0, hn1, s, rfl, d, hsd, hnd⟩, hbw⟩ := hrel
      by_cases hn : n > 0
      · have hdn : decide (n > 0) = true := decide_eq_true hn
        obtain ⟨b, hb⟩ : ∃ b : UInt8, (48 + n % 10 : Int) = (b.toNat : Int) := ⟨UInt8.ofNat (48 + n % 10).toNat, by simp; omega⟩
        have hcb := run_convert_bytes_back (P := Try.prog) (wr.alloc (.cells #[.int .u8 (b.toNat : Int)] 5)) 107 9 5 ⟨wr.heap.size, 0, none⟩ 1 [b] Try.underlying107 Try.underlying5 Try.underlying9 (fun j hj => by
          have : j = 0 := by simpa using hj
          subst this
          simp [Addr.add])
        have hd0 : 0 < d := by
          rcases Nat.eq_zero_or_pos d with h | h
          · subst h
            have := hnd.out
            simp at this
            omega
          · exact h
        obtain ⟨d', rfl⟩ : ∃ x, d = x + 1 := ⟨d - 1, by omega⟩
        have hst : ¬ (9223372036854775807 < 1 + s.size) := by omega
        have hq : n / 10 < 10 ^ d' := by
          have h1 := hnd.out
          have : (10 : Int) ^ (d' + 1) = 10 ^ d' * 10 := Int.pow_succ ..
          exact Int.ediv_lt_of_lt_mul (by omega) (by omega)
        have HQ := Lib.hid hq
        clear hq hnd
        simp only [List.length_singleton] at hcb
        go_wp2_with fail
        go_roundw
        case rel => exact ⟨⟨n / 10, rfl, by omega, by omega, _, rfl, d', by rw [ByteArray.size_append]; show 1 + s.size + d' = 13; omega, HQ.out⟩, bstep hbw bal1⟩
        case measure => simp [intOf]; omega
      · have hdn : decide (n > 0) = false := decide_eq_false hn
        have hst : ¬ (9223372036854775807 < 1 + s.size) := by omega
        go_wp2_with fail
        go_ret
        exact ⟨⟨_, rfl⟩, hbw⟩
end Go.Proofs.Ytghgjpcibdfbmaa
