/-
  A text is drawn: the text of a valid type, sometimes changed in one place.
-/
import Derived.Test.YtikkneahhgmdjaaDrawV
import Derived.Test.YtikkneahhgmdjaaFmt
namespace Go.Proofs.Ytikkneahhgmdjaa
open Go.RowKit
set_option linter.unusedVariables false
set_option linter.unusedSimpArgs false
set_option maxRecDepth 100000

def BendPost (r n : Nat) (w : World) (e : Ending) (w' : World) : Prop := ∃ x : ByteArray, e = .returned (.string x) ∧ x.size ≤ n ∧ Chg [r] w w'

set_option maxHeartbeats 4000000 in
theorem specL1Bend (r p b n cap : Nat) (s : ByteArray) (w : World) (h : RdAt w r p) (hp : p ≤ 1000000) (hn0 : 0 < n) (hn : n ≤ 1000) (hcap : n ≤ cap) (hbr : r < b) (hs : s.size ≤ 1000)
    (hc : ∀ i, i < n → ∃ x, w.cell? ⟨b, i, none⟩ = some (.string x) ∧ x.size ≤ 1) (hbl : b < w.heap.size) :
    Calls Try.prog 30 #[.pointer (some ⟨r, 0, none⟩), .string s, .slice (some ⟨b, 0, none⟩) n cap] w (BendPost r (s.size + 1) w) := by
  by_cases hz : s.size = 0
  · have he : ((s.size : Int) == 0) = true := by rw [beq_iff_eq]; omega
    have HZ := Lib.hid hz
    clear hz hc
    go_enter Try.func30, Try.ntmps30
    go_wp2_with fail
    go_ret
    exact ⟨s, rfl, by omega, Chg.refl _ _⟩
  · have he : ((s.size : Int) == 0) = false := by rw [beq_eq_false_iff_ne]; omega
    have HC := Lib.hid hc
    have HP := Lib.hid (specPick r p 2 w h (by omega) (by omega))
    clear hc
    go_enter Try.func30, Try.ntmps30
    go_wp2_with fail
    refine HP.out.mono ?_
    rintro e w1 ⟨k, rfl, k0, hk, hrd1, hch1⟩
    have HCH1 := Lib.hid hch1
    have HRD1 := Lib.hid hrd1
    have hz1 := hch1.size
    clear hch1 hrd1 HP
    rcases (show k = 0 ∨ k = 1 by omega) with rfl | rfl
    · clear k0 hk
      go_wp2_with fail
      go_ret
      exact ⟨s, rfl, by omega, HCH1.out⟩
    · clear k0 hk
      have HP2 := Lib.hid (specPick r (p + 1) (s.size : Int) w1 HRD1.out (by omega) (by omega))
      go_wp2_with fail
      refine HP2.out.mono ?_
      rintro e w2 ⟨k, rfl, k0, hk, hrd2, hch2⟩
      obtain ⟨i, rfl⟩ := Int.eq_ofNat_of_zero_le k0
      have hi : i < s.size := by omega
      have hi0 : (0 : Int) ≤ (i : Int) := by omega
      have hi1 : (i : Int) ≤ (s.size : Int) := by omega
      have HCH2 := Lib.hid hch2
      have HRD2 := Lib.hid hrd2
      have hz2 := hch2.size
      have HC2 := Lib.hid (show ∀ j, j < n → ∃ x, w2.cell? ⟨b, j, none⟩ = some (.string x) ∧ x.size ≤ 1 from fun j hj => by
        obtain ⟨x, hx, hxs⟩ := HC.out j hj
        exact ⟨x, hch2.cellne (by show b ≠ r; omega) (HCH1.out.cellne (by show b ≠ r; omega) hx), hxs⟩)
      clear hch2 hrd2 HP2 k0 hk
      go_wp2_with fail
      go_region_law (first
        | (go_simp; go_at_call 43; (with_reducible refine (specOf (fun x => x.size ≤ 1) r (p + 2) b n cap _ (show RdAt _ r (p + 2) from HRD2.out.below bdr) (by omega) hn0 (by omega) hcap hbr (fun j hj => by obtain ⟨x, hx, hxs⟩ := HC2.out j hj; exact ⟨x, dcell hx, hxs⟩)).mono ?_); rintro e w3 ⟨x, rfl, hx, hrd3, hch3⟩; have hst1 : ¬ (9223372036854775807 < min i s.size + x.size) := by omega)
        | (go_simp; go_at_call 42; (with_reducible refine (specPick r (p + 2 + 1) 2 _ hrd3 (by omega) (by omega)).mono ?_); rintro e w4 ⟨k4, rfl, k40, hk4, hrd4, hch4⟩; obtain ⟨j, rfl⟩ := Int.eq_ofNat_of_zero_le k40; have hj : j < 2 := (by omega); have hwj : IntKind.i64.wrap ((i : Int) + (j : Int)) = (i : Int) + (j : Int) := IntWalk.i64_in _ (by omega); have hij : (i : Int) + (j : Int) ≤ (s.size : Int) := (by omega); have hij0 : (0 : Int) ≤ (i : Int) + (j : Int) := (by omega); have hst2 : ¬ (9223372036854775807 < min i s.size + x.size + (s.size - ((i : Int) + (j : Int)).toNat)) := (by omega)))
      all_goals
        have HF := Lib.hid (show Chg [r] w w4 from ((HCH1.out.trans HCH2.out).trans (Chg.of_below bdr)).trans (hch3.trans hch4))
        have HSZ := Lib.hid (show (s.extract 0 i ++ x ++ s.extract ((i : Int) + (j : Int)).toNat s.size).size ≤ s.size + 1 by
          simp only [ByteArray.size_append, ByteArray.size_extract]; omega)
        clear hch3 hch4 hrd3 hrd4
        go_wp2_with fail
        go_ret
        exact ⟨_, rfl, HSZ.out, HF.out⟩
end Go.Proofs.Ytikkneahhgmdjaa
