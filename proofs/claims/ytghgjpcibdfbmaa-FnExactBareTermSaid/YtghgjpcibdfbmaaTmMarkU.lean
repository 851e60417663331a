/-
  The marks of texts: which string.
-/
import Derived.Test.YtghgjpcibdfbmaaTmMarkT
namespace Go.Proofs.Ytghgjpcibdfbmaa
open Go.RowKit
set_option linter.unusedVariables false
set_option linter.unusedSimpArgs false
set_option maxRecDepth 100000

def mdig (n : Nat) (s : ByteArray) : ByteArray := if h : 0 < n then mdig (n / 10) ({ data := #[UInt8.ofNat (48 + n % 10)] } ++ s) else s
termination_by n
decreasing_by omega
theorem mdig_zero (s : ByteArray) : mdig 0 s = s := by rw [mdig]; simp
theorem mdig_pos {n : Int} (hn : 0 < n) {b : UInt8} (hb : (48 + n % 10 : Int) = (b.toNat : Int)) (s : ByteArray) : mdig n.toNat s = mdig (n / 10).toNat ({ data := #[b] } ++ s) := by
  rw [mdig]
  have h0 : 0 < n.toNat := by omega
  rw [dif_pos h0]
  have e1 : n.toNat / 10 = (n / 10).toNat := by omega
  have e2 : UInt8.ofNat (48 + n.toNat % 10) = b := by
    have : 48 + n.toNat % 10 = b.toNat := by omega
    rw [this]; simp
  rw [e1, e2]
def mtext (k : Int) : ByteArray := if k ≤ 0 then { data := #[109, 48] } else { data := #[109] } ++ mdig k.toNat { data := #[] }
set_option maxHeartbeats 2000000 in
theorem markText_val (k : Int) (h0 : 0 ≤ k) (h1 : k ≤ 1099511627776) (w : World) :
    Calls Try.prog 111 #[.int .i64 k] w fun e w' => e = .returned (.string (mtext k)) ∧ (mtext k).size ≤ maxLen ∧ Below w.heap.size w w' := by
  by_cases hk : k ≤ 0
  · have hd : decide (k ≤ 0) = true := decide_eq_true hk
    have hm : mtext k = { data := #[109, 48] } := by unfold mtext; rw [if_pos hk]
    rw [hm]
    go_enter Try.func111, Try.ntmps111
    go_wp2_with fail
    go_ret
    exact ⟨rfl, by show 2 ≤ _; unfold maxLen; omega, Below.refl _ _⟩
  · have hd : decide (k ≤ 0) = false := decide_eq_false hk
    have hm : mtext k = { data := #[109] } ++ mdig k.toNat { data := #[] } := by unfold mtext; rw [if_neg hk]
    rw [hm]
    obtain ⟨R, hR⟩ : ∃ x, mdig k.toNat { data := #[] } = x := ⟨_, rfl⟩
    rw [hR]
    have HR := Lib.hid hR
    clear hR hm
    go_enter Try.func111, Try.ntmps111
    go_wp2_with fail
    go_loopw [0, 3] (fun p q wr => (∃ n : Int, p = .int .i64 n ∧ 0 ≤ n ∧ n ≤ 1099511627776 ∧ ∃ s : ByteArray, q = .string s ∧ ∃ d : Nat, s.size + d = 13 ∧ Hid (n < 10 ^ d) ∧ Hid (mdig n.toNat s = R)) ∧ Below w.heap.size w wr) (fun p _ _ => (intOf p).toNat)
    case atStart =>
      have h13 : (10 : Int) ^ 13 = 10000000000000 := by decide
      exact ⟨⟨k, rfl, h0, h1, ⟨#[]⟩, rfl, 13, rfl, by unfold Hid; omega, HR.out⟩, Below.refl _ _⟩
    case round =>
      obtain ⟨⟨n, rfl, hn0, hn1, s, rfl, d, hsd, hnd, hmd⟩, hbw⟩ := hrel
      by_cases hn : n > 0
      · have hdn : decide (n > 0) = true := decide_eq_true hn
        obtain ⟨b, hb⟩ : ∃ b : UInt8, (48 + n % 10 : Int) = (b.toNat : Int) := ⟨UInt8.ofNat (48 + n % 10).toNat, by simp; omega⟩
        have hcb := run_convert_bytes_back (P := Try.prog) (wr.alloc (.cells #[.int .u8 (b.toNat : Int)] 5)) 107 9 5 ⟨wr.heap.size, 0, none⟩ 1 [b] Try.underlying107 Try.underlying5 Try.underlying9 (fun j hj => by
          have : j = 0 := by simpa using hj
          subst this
          simp [Addr.add])
        have hd0 : 0 < d := by
          rcases Nat.eq_zero_or_pos d with h | h
          · subst h
            have := hnd.out
            simp at this
            omega
          · exact h
        obtain ⟨d', rfl⟩ : ∃ x, d = x + 1 := ⟨d - 1, by omega⟩
        have hst : ¬ (9223372036854775807 < 1 + s.size) := by omega
        have hq : n / 10 < 10 ^ d' := by
          have h1 := hnd.out
          have : (10 : Int) ^ (d' + 1) = 10 ^ d' * 10 := Int.pow_succ ..
          exact Int.ediv_lt_of_lt_mul (by omega) (by omega)
        have HQ := Lib.hid hq
        have hmd2 := hmd.out
        rw [mdig_pos hn hb] at hmd2
        have HMD := Lib.hid hmd2
        clear hq hnd hmd hmd2
        simp only [List.length_singleton] at hcb
        go_wp2_with fail
        go_roundw
        case rel => exact ⟨⟨n / 10, rfl, by omega, by omega, _, rfl, d', by rw [ByteArray.size_append]; show 1 + s.size + d' = 13; omega, HQ.out, HMD.out⟩, bstep hbw bal1⟩
        case measure => simp [intOf]; omega
      · have hdn : decide (n > 0) = false := decide_eq_false hn
        have hst : ¬ (9223372036854775807 < 1 + s.size) := by omega
        have hn0' : n = 0 := by omega
        have hmd2 := hmd.out
        rw [hn0'] at hmd2
        have hRs : R = s := by rw [← hmd2]; exact mdig_zero s
        have HRS := Lib.hid hRs
        clear hmd hmd2 hRs hn0'
        go_wp2_with fail
        go_ret
        rw [HRS.out]
        exact ⟨rfl, by first | (unfold maxLen; omega) | (rw [ByteArray.size_append]; show 1 + s.size ≤ _; unfold maxLen; omega), hbw⟩
end Go.Proofs.Ytghgjpcibdfbmaa
