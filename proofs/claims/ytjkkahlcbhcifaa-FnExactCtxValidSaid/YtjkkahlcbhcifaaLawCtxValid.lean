/-
  FnExactCtxValid returns true: the walk.
-/
import Derived.Test.YtjkkahlcbhcifaaLaBd
import Derived.Test.YtjkkahlcbhcifaaCtx
namespace Go.Proofs.Ytjkkahlcbhcifaa
open Go.RowKit
set_option maxRecDepth 100000
set_option linter.unusedVariables false
set_option linter.unusedSimpArgs false

set_option maxHeartbeats 4000000 in
theorem walk_FnExactCtxValid (F0 : Nat → Prop) (t0 : List Bd) (y0 : Value) (w : World) (r0 : BdsRep F0 w t0 y0) :
    Calls Try.prog 20 #[y0] w fun e w' => e = .returned (.bool true) ∧ Below w.heap.size w w' := by
  obtain ⟨a0, n0, q0, rfl⟩ := r0.shape
  by_cases h0 : ((Bd.cnts t0) : Int) ≤ 1048576
  · have s0 := szr_pos h0
    have l0 : 0 ≤ (1048576 - ((Bd.cnts t0) : Int)) := by omega
    have m0 : (1048576 - ((Bd.cnts t0) : Int)) ≤ 1048576 := by omega
    have b0 : (Bd.cnts t0) ≤ 1048576 := by omega
    have S0 := Lib.hid s0
    have B0 := Lib.hid b0
    clear s0 h0 b0
    go_enter Try.func20, Try.ntmps20
    go_wp2_with fail
    refine (szBindS_any F0 t0 _ _ _ (r0.below (Below.refl _ _)) (by omega) (by omega)).mono ?_
    rintro e w1 ⟨rfl, hb1⟩
    rw [S0.out]
    have hB := bstep (Below.refl _ _) hb1
    replace r0 := r0.below hB
    go_wp2_with fail
    refine (toBindS_any F0 t0 _ _ (r0) B0.out).mono ?_
    rintro e w2 ⟨v2, rfl, hv2, hb2⟩
    obtain ⟨a2, n2, q2, rfl⟩ := hv2.shape
    go_wp2_with fail
    refine (specCtxValid _ t0 _ _ hv2.rep).mono ?_
    rintro e w3 ⟨rfl, hb3⟩
    have hst := bstep (hb2) hb3
    replace r0 := r0.below (hst)
    replace hB := bstep hB (hst)
    clear hst hb2 hb3 hv2
    go_wp2_with fail
    refine (toBindS_any F0 t0 _ _ (r0) B0.out).mono ?_
    rintro e w4 ⟨v4, rfl, hv4, hb4⟩
    obtain ⟨a4, n4, q4, rfl⟩ := hv4.shape
    replace r0 := r0.below (hb4)
    replace hB := bstep hB (hb4)
    go_wp2_with fail
    refine (implCtxValid _ t0 _ _ (hv4.rep)).mono ?_
    rintro e w5 ⟨rfl, hb5⟩
    replace r0 := r0.below (hb5)
    replace hv4 := hv4.below (hb5)
    replace hB := bstep hB (hb5)
    go_wp2_with fail
    refine (toBindS_any F0 t0 _ _ r0 B0.out).mono ?_
    rintro e w6 ⟨v6, rfl, hv6, hb6⟩
    obtain ⟨a6, n6, q6, rfl⟩ := hv6.shape
    go_wp2_with fail
    refine (eqBindS_refl _ _ t0 _ _ _ (hv4.rep.below hb6) hv6.rep).mono ?_
    rintro e w7 ⟨rfl, hb7⟩
    have hst := bstep hb6 hb7
    replace r0 := r0.below (hst)
    replace hv4 := hv4.below (hst)
    replace hB := bstep hB (hst)
    clear hst hb6 hb7 hv6
    go_wp2_with fail
    go_ret
    exact ⟨rfl, hB⟩
  · have s0 := szr_neg h0
    have S0 := Lib.hid s0
    clear s0 h0
    go_enter Try.func20, Try.ntmps20
    go_wp2_with fail
    refine (szBindS_any F0 t0 _ _ _ (r0.below (Below.refl _ _)) (by omega) (by omega)).mono ?_
    rintro e w1 ⟨rfl, hb1⟩
    rw [S0.out]
    have hB := bstep (Below.refl _ _) hb1
    replace r0 := r0.below hB
    go_wp2_with fail
    go_ret
    exact ⟨rfl, hB⟩
end Go.Proofs.Ytjkkahlcbhcifaa
