/-
  FnExactCastTypeOf returns true: the walk.
-/
import Derived.Test.YtkhmkohgnikcmaaLaTm
import Derived.Test.YtkhmkohgnikcmaaB2
import Derived.Test.YtkhmkohgnikcmaaB7
import Derived.Test.YtkhmkohgnikcmaaB48
namespace Go.Proofs.Ytkhmkohgnikcmaa
open Go.RowKit
set_option maxRecDepth 100000
set_option linter.unusedVariables false
set_option linter.unusedSimpArgs false

set_option maxHeartbeats 8000000 in
theorem walk_FnExactCastTypeOf (F0 : Nat → Prop) (t0 : Tm) (y0 : Value) (w : World) (r0 : TmRep F0 w t0 y0) :
    Calls Try.prog 3 #[y0] w fun e w' => e = .returned (.bool true) ∧ Below w.heap.size w w' := by
  replace r0 := r0.old
  obtain ⟨k0, sn0, u0, kt0, at0, nt0, qt0, kf0, af0, nf0, qf0, lb0, a0, n0, q0, rfl⟩ := r0.shape
  by_cases h0 : (t0.cnt : Int) ≤ 1048576
  · have s0 := szr_pos h0
    have l0 : 0 ≤ (1048576 - (t0.cnt : Int)) := by omega
    have m0 : (1048576 - (t0.cnt : Int)) ≤ 1048576 := by omega
    have b0 : t0.cnt ≤ 1048576 := by omega
    have qm0 := Tm.mk9_le t0
    obtain ⟨K0, hK0⟩ : ∃ x : Int, 1 + (Tm.mk9 t0 : Int) = x := ⟨_, rfl⟩
    have gK0 : 0 ≤ K0 := by omega
    have uK0 : 1 + (Tm.mk9 t0 : Int) ≤ 1099511627776 := by omega
    have vK0 : K0 ≤ 1099511627776 := by omega
    have T0 := castOfT_cnt t0
    obtain ⟨M0, hM0⟩ : ∃ x : Int, 1 + ((castOfT t0).cnt : Int) = x := ⟨_, rfl⟩
    have gM0 : 0 ≤ M0 := by omega
    have uM0 : 1 + ((castOfT t0).cnt : Int) ≤ 1099511627776 := by omega
    have Hqm0 := Lib.hid qm0
    have Hs0 := Lib.hid s0
    have Hb0 := Lib.hid b0
    have HhK0 := Lib.hid hK0
    have HuK0 := Lib.hid uK0
    have HvK0 := Lib.hid vK0
    have HT0 := Lib.hid T0
    have HhM0 := Lib.hid hM0
    have HuM0 := Lib.hid uM0
    have S0 := Hs0
    clear qm0 s0 b0 hK0 uK0 vK0 T0 hM0 uM0 h0
    go_enter Try.func3, Try.ntmps3
    go_wp2_with fail
    refine (szTerm_any _ t0 _ _ _ (r0.below bal1) (by omega) (by omega)).mono ?_
    rintro e w1 ⟨rfl, hb1⟩
    rw [S0.out]
    have hB := bstep bal1 hb1
    have zw1 := hB.size
    have zpw1 : w.heap.size + 1 ≤ w1.heap.size := by have := hb1.size; simp at this; omega
    have c0_0 : w1.cell? ⟨w.heap.size, 0, none⟩ = some (.int .i64 k0) := bcell hb1 (cell_n0 0)
    have c0_1 : w1.cell? ⟨w.heap.size, 1, none⟩ = some (.string sn0) := bcell hb1 (cell_n0 1)
    have c0_2 : w1.cell? ⟨w.heap.size, 2, none⟩ = some (.int .i64 u0) := bcell hb1 (cell_n0 2)
    have c0_3 : w1.cell? ⟨w.heap.size, 3, none⟩ = some (.int .i64 kt0) := bcell hb1 (cell_n0 3)
    have c0_4 : w1.cell? ⟨w.heap.size, 4, none⟩ = some (.slice at0 nt0 qt0) := bcell hb1 (cell_n0 4)
    have c0_5 : w1.cell? ⟨w.heap.size, 5, none⟩ = some (.int .i64 kf0) := bcell hb1 (cell_n0 5)
    have c0_6 : w1.cell? ⟨w.heap.size, 6, none⟩ = some (.slice af0 nf0 qf0) := bcell hb1 (cell_n0 6)
    have c0_7 : w1.cell? ⟨w.heap.size, 7, none⟩ = some (.int .i64 lb0) := bcell hb1 (cell_n0 7)
    have c0_8 : w1.cell? ⟨w.heap.size, 8, none⟩ = some (.slice a0 n0 q0) := bcell hb1 (cell_n0 8)
    replace r0 := r0.below hB
    have dc0_0 := World.block_lt_of_cell? _ _ c0_0
    go_wp2_with fail
    refine (toTerm_any _ t0 _ _ r0 Hb0.out).mono ?_
    rintro e w2 ⟨va0, rfl, ⟨fa0, oa0, nda0, loa0⟩, hb2⟩
    obtain ⟨ka0, sna0, ua0, kta0, ata0, nta0, qta0, kfa0, afa0, nfa0, qfa0, lba0, aa0, na0, qa0, rfl⟩ := oa0.ks
    have hst := hb2
    clear dc0_0
    replace c0_0 := bcell hst c0_0
    replace c0_1 := bcell hst c0_1
    replace c0_2 := bcell hst c0_2
    replace c0_3 := bcell hst c0_3
    replace c0_4 := bcell hst c0_4
    replace c0_5 := bcell hst c0_5
    replace c0_6 := bcell hst c0_6
    replace c0_7 := bcell hst c0_7
    replace c0_8 := bcell hst c0_8
    replace r0 := r0.below hst
    replace hB := bstep hB hst
    have zw2 : w1.heap.size ≤ w2.heap.size := hst.size
    have dc0_0 := World.block_lt_of_cell? _ _ c0_0
    clear hst
    have looa0 : ∀ b ∈ fa0, w1.heap.size + 0 ≤ b := fun b hb => by have := loa0 b hb; skip; omega
    have hioa0 : ∀ b ∈ fa0, b < w2.heap.size := oa0.lt
    clear loa0
    go_wp2_with fail
    refine (specCastTypeOf' _ t0 _ _ oa0.rep).mono ?_
    rintro e w3 ⟨vw0, rfl, ⟨fw0, ow0, ndw0, low0⟩, hb3⟩
    obtain ⟨kw0, aw0, nw0, qw0, rfl⟩ := ow0.ks
    have hst := hb3
    clear dc0_0
    replace c0_0 := bcell hst c0_0
    replace c0_1 := bcell hst c0_1
    replace c0_2 := bcell hst c0_2
    replace c0_3 := bcell hst c0_3
    replace c0_4 := bcell hst c0_4
    replace c0_5 := bcell hst c0_5
    replace c0_6 := bcell hst c0_6
    replace c0_7 := bcell hst c0_7
    replace c0_8 := bcell hst c0_8
    replace r0 := r0.below hst
    replace oa0 := oa0.below hst
    replace hB := bstep hB hst
    have zw3 : w2.heap.size ≤ w3.heap.size := hst.size
    have dc0_0 := World.block_lt_of_cell? _ _ c0_0
    clear hst
    have loow0 : ∀ b ∈ fw0, w2.heap.size + 0 ≤ b := fun b hb => by have := low0 b hb; skip; omega
    have hiow0 : ∀ b ∈ fw0, b < w3.heap.size := ow0.lt
    clear low0
    clear oa0 nda0
    go_wp2_with fail
    refine (toTerm_any _ t0 _ _ (r0.below bal1) Hb0.out).mono ?_
    rintro e w4 ⟨vx0, rfl, ⟨fx0, ox0, ndx0, lox0⟩, hb4⟩
    obtain ⟨kx0, snx0, ux0, ktx0, atx0, ntx0, qtx0, kfx0, afx0, nfx0, qfx0, lbx0, ax0, nx0, qx0, rfl⟩ := ox0.ks
    have hst := bstep bal1 hb4
    clear dc0_0
    replace c0_0 := bcell hst c0_0
    replace c0_1 := bcell hst c0_1
    replace c0_2 := bcell hst c0_2
    replace c0_3 := bcell hst c0_3
    replace c0_4 := bcell hst c0_4
    replace c0_5 := bcell hst c0_5
    replace c0_6 := bcell hst c0_6
    replace c0_7 := bcell hst c0_7
    replace c0_8 := bcell hst c0_8
    replace r0 := r0.below hst
    replace ow0 := ow0.below hst
    replace hB := bstep hB hst
    have zw4 : w3.heap.size ≤ w4.heap.size := hst.size
    have dc0_0 := World.block_lt_of_cell? _ _ c0_0
    clear hst
    have zw4p : w3.heap.size + 1 ≤ w4.heap.size := by have := hb4.size; simp at this; omega
    have xw0_0 : w4.cell? ⟨w3.heap.size, 0, none⟩ = some (.int .i64 kw0) := bcell hb4 (cell_n0 0)
    have dxw0_0 := World.block_lt_of_cell? _ _ xw0_0
    have xw0_1 : w4.cell? ⟨w3.heap.size, 1, none⟩ = some (.slice aw0 nw0 qw0) := bcell hb4 (cell_n0 1)
    have loox0 : ∀ b ∈ fx0, w3.heap.size + 1 ≤ b := fun b hb => by have := lox0 b hb; simp at this; omega
    have hiox0 : ∀ b ∈ fx0, b < w4.heap.size := ox0.lt
    clear lox0
    go_wp2_with fail
    refine (implCastTypeOf _ t0 _ _ (ox0.rep.below bal1)).mono ?_
    rintro e w5 ⟨vg0, rfl, ⟨fg0, og0, ndg0, log0⟩, hb5⟩
    obtain ⟨kg0, ag0, ng0, qg0, rfl⟩ := og0.ks
    have hst := bstep bal1 hb5
    clear dc0_0 dxw0_0
    replace c0_0 := bcell hst c0_0
    replace c0_1 := bcell hst c0_1
    replace c0_2 := bcell hst c0_2
    replace c0_3 := bcell hst c0_3
    replace c0_4 := bcell hst c0_4
    replace c0_5 := bcell hst c0_5
    replace c0_6 := bcell hst c0_6
    replace c0_7 := bcell hst c0_7
    replace c0_8 := bcell hst c0_8
    replace xw0_0 := bcell hst xw0_0
    replace xw0_1 := bcell hst xw0_1
    replace r0 := r0.below hst
    replace ow0 := ow0.below hst
    replace ox0 := ox0.below hst
    replace hB := bstep hB hst
    have zw5 : w4.heap.size ≤ w5.heap.size := hst.size
    have dc0_0 := World.block_lt_of_cell? _ _ c0_0
    have dxw0_0 := World.block_lt_of_cell? _ _ xw0_0
    clear hst
    have zw5p : w4.heap.size + 1 ≤ w5.heap.size := by have := hb5.size; simp at this; omega
    have xx0_0 : w5.cell? ⟨w4.heap.size, 0, none⟩ = some (.int .i64 kx0) := bcell hb5 (cell_n0 0)
    have dxx0_0 := World.block_lt_of_cell? _ _ xx0_0
    have xx0_1 : w5.cell? ⟨w4.heap.size, 1, none⟩ = some (.string snx0) := bcell hb5 (cell_n0 1)
    have xx0_2 : w5.cell? ⟨w4.heap.size, 2, none⟩ = some (.int .i64 ux0) := bcell hb5 (cell_n0 2)
    have xx0_3 : w5.cell? ⟨w4.heap.size, 3, none⟩ = some (.int .i64 ktx0) := bcell hb5 (cell_n0 3)
    have xx0_4 : w5.cell? ⟨w4.heap.size, 4, none⟩ = some (.slice atx0 ntx0 qtx0) := bcell hb5 (cell_n0 4)
    have xx0_5 : w5.cell? ⟨w4.heap.size, 5, none⟩ = some (.int .i64 kfx0) := bcell hb5 (cell_n0 5)
    have xx0_6 : w5.cell? ⟨w4.heap.size, 6, none⟩ = some (.slice afx0 nfx0 qfx0) := bcell hb5 (cell_n0 6)
    have xx0_7 : w5.cell? ⟨w4.heap.size, 7, none⟩ = some (.int .i64 lbx0) := bcell hb5 (cell_n0 7)
    have xx0_8 : w5.cell? ⟨w4.heap.size, 8, none⟩ = some (.slice ax0 nx0 qx0) := bcell hb5 (cell_n0 8)
    have loog0 : ∀ b ∈ fg0, w4.heap.size + 1 ≤ b := fun b hb => by have := log0 b hb; simp at this; omega
    have hiog0 : ∀ b ∈ fg0, b < w5.heap.size := og0.lt
    clear log0
    go_wp2_with fail
    refine (eqType_refl _ _ (castOfT t0) _ _ _ (og0.rep.below bal1) (ow0.rep.below bal1)).mono ?_
    rintro e w6 ⟨rfl, hb6⟩
    have hst := bstep bal1 hb6
    clear dc0_0 dxw0_0 dxx0_0
    replace c0_0 := bcell hst c0_0
    replace c0_1 := bcell hst c0_1
    replace c0_2 := bcell hst c0_2
    replace c0_3 := bcell hst c0_3
    replace c0_4 := bcell hst c0_4
    replace c0_5 := bcell hst c0_5
    replace c0_6 := bcell hst c0_6
    replace c0_7 := bcell hst c0_7
    replace c0_8 := bcell hst c0_8
    replace xw0_0 := bcell hst xw0_0
    replace xw0_1 := bcell hst xw0_1
    replace xx0_0 := bcell hst xx0_0
    replace xx0_1 := bcell hst xx0_1
    replace xx0_2 := bcell hst xx0_2
    replace xx0_3 := bcell hst xx0_3
    replace xx0_4 := bcell hst xx0_4
    replace xx0_5 := bcell hst xx0_5
    replace xx0_6 := bcell hst xx0_6
    replace xx0_7 := bcell hst xx0_7
    replace xx0_8 := bcell hst xx0_8
    replace r0 := r0.below hst
    replace ow0 := ow0.below hst
    replace ox0 := ox0.below hst
    replace og0 := og0.below hst
    replace hB := bstep hB hst
    have zw6 : w5.heap.size ≤ w6.heap.size := hst.size
    have dc0_0 := World.block_lt_of_cell? _ _ c0_0
    have dxw0_0 := World.block_lt_of_cell? _ _ xw0_0
    have dxx0_0 := World.block_lt_of_cell? _ _ xx0_0
    clear hst
    have zw6p : w5.heap.size + 1 ≤ w6.heap.size := by have := hb6.size; simp at this; omega
    have xg0_0 : w6.cell? ⟨w5.heap.size, 0, none⟩ = some (.int .i64 kg0) := bcell hb6 (cell_n0 0)
    have dxg0_0 := World.block_lt_of_cell? _ _ xg0_0
    have xg0_1 : w6.cell? ⟨w5.heap.size, 1, none⟩ = some (.slice ag0 ng0 qg0) := bcell hb6 (cell_n0 1)
    go_wp2_with fail
    go_region_held3 (fun w' => w'.cell? ⟨w4.heap.size, 0, none⟩ = some (.int .i64 kx0) ∧ w'.cell? ⟨w4.heap.size, 1, none⟩ = some (.string snx0) ∧ w'.cell? ⟨w4.heap.size, 2, none⟩ = some (.int .i64 ux0) ∧ w'.cell? ⟨w4.heap.size, 3, none⟩ = some (.int .i64 ktx0) ∧ w'.cell? ⟨w4.heap.size, 4, none⟩ = some (.slice atx0 ntx0 qtx0) ∧ w'.cell? ⟨w4.heap.size, 5, none⟩ = some (.int .i64 kfx0) ∧ w'.cell? ⟨w4.heap.size, 6, none⟩ = some (.slice afx0 nfx0 qfx0) ∧ w'.cell? ⟨w4.heap.size, 7, none⟩ = some (.int .i64 lbx0) ∧ w'.cell? ⟨w4.heap.size, 8, none⟩ = some (.slice ax0 nx0 qx0) ∧ w'.cell? ⟨w.heap.size, 0, none⟩ = some (.int .i64 k0) ∧ w'.cell? ⟨w.heap.size, 1, none⟩ = some (.string sn0) ∧ w'.cell? ⟨w.heap.size, 2, none⟩ = some (.int .i64 u0) ∧ w'.cell? ⟨w.heap.size, 3, none⟩ = some (.int .i64 kt0) ∧ w'.cell? ⟨w.heap.size, 4, none⟩ = some (.slice at0 nt0 qt0) ∧ w'.cell? ⟨w.heap.size, 5, none⟩ = some (.int .i64 kf0) ∧ w'.cell? ⟨w.heap.size, 6, none⟩ = some (.slice af0 nf0 qf0) ∧ w'.cell? ⟨w.heap.size, 7, none⟩ = some (.int .i64 lb0) ∧ w'.cell? ⟨w.heap.size, 8, none⟩ = some (.slice a0 n0 q0))
      (first | go_keep | exact ⟨bcelld hb7 xx0_0, bcelld hb7 xx0_1, bcelld hb7 xx0_2, bcelld hb7 xx0_3, bcelld hb7 xx0_4, bcelld hb7 xx0_5, bcelld hb7 xx0_6, bcelld hb7 xx0_7, bcelld hb7 xx0_8, bcelld hb7 c0_0, bcelld hb7 c0_1, bcelld hb7 c0_2, bcelld hb7 c0_3, bcelld hb7 c0_4, bcelld hb7 c0_5, bcelld hb7 c0_6, bcelld hb7 c0_7, bcelld hb7 c0_8⟩ | exact ⟨bcell hb8 (bcelld hb7 xx0_0), bcell hb8 (bcelld hb7 xx0_1), bcell hb8 (bcelld hb7 xx0_2), bcell hb8 (bcelld hb7 xx0_3), bcell hb8 (bcelld hb7 xx0_4), bcell hb8 (bcelld hb7 xx0_5), bcell hb8 (bcelld hb7 xx0_6), bcell hb8 (bcelld hb7 xx0_7), bcell hb8 (bcelld hb7 xx0_8), bcell hb8 (bcelld hb7 c0_0), bcell hb8 (bcelld hb7 c0_1), bcell hb8 (bcelld hb7 c0_2), bcell hb8 (bcelld hb7 c0_3), bcell hb8 (bcelld hb7 c0_4), bcell hb8 (bcelld hb7 c0_5), bcell hb8 (bcelld hb7 c0_6), bcell hb8 (bcelld hb7 c0_7), bcell hb8 (bcelld hb7 c0_8)⟩)
      (first | (go_at_call 6; refine (toTerm_any _ t0 _ _ (r0.below bdr) Hb0.out).mono ?_; rintro e w7 ⟨v7, rfl, hv7, hb7⟩; obtain ⟨k7, sn7, u7, kt7, at7, nt7, qt7, kf7, af7, nf7, qf7, lb7, a7, n7, q7, rfl⟩ := hv7.shape) | (go_at_call 9; refine (eqTerm_refl _ _ t0 _ _ _ (ox0.rep.below (bstep bdr hb7)) hv7.rep).mono ?_; rintro e w8 ⟨rfl, hb8⟩))
    have hst := bstep (bstep bdr hb7) hb8
    clear dc0_0 dxw0_0 dxx0_0 dxg0_0
    replace c0_0 := bcell hst c0_0
    replace c0_1 := bcell hst c0_1
    replace c0_2 := bcell hst c0_2
    replace c0_3 := bcell hst c0_3
    replace c0_4 := bcell hst c0_4
    replace c0_5 := bcell hst c0_5
    replace c0_6 := bcell hst c0_6
    replace c0_7 := bcell hst c0_7
    replace c0_8 := bcell hst c0_8
    replace xw0_0 := bcell hst xw0_0
    replace xw0_1 := bcell hst xw0_1
    replace xx0_0 := bcell hst xx0_0
    replace xx0_1 := bcell hst xx0_1
    replace xx0_2 := bcell hst xx0_2
    replace xx0_3 := bcell hst xx0_3
    replace xx0_4 := bcell hst xx0_4
    replace xx0_5 := bcell hst xx0_5
    replace xx0_6 := bcell hst xx0_6
    replace xx0_7 := bcell hst xx0_7
    replace xx0_8 := bcell hst xx0_8
    replace xg0_0 := bcell hst xg0_0
    replace xg0_1 := bcell hst xg0_1
    replace r0 := r0.below hst
    replace ow0 := ow0.below hst
    replace ox0 := ox0.below hst
    replace og0 := og0.below hst
    replace hB := bstep hB hst
    have zw8 : w6.heap.size ≤ w8.heap.size := hst.size
    have dc0_0 := World.block_lt_of_cell? _ _ c0_0
    have dxw0_0 := World.block_lt_of_cell? _ _ xw0_0
    have dxx0_0 := World.block_lt_of_cell? _ _ xx0_0
    have dxg0_0 := World.block_lt_of_cell? _ _ xg0_0
    clear hst
    clear hb7 hb8 hv7
    go_wp2_with fail
    refine (markTerm_any t0 1 _ _ _ ox0 ndx0 (by omega) HuK0.out).mono ?_
    rintro e w9 ⟨rfl, hc9⟩
    rw [HhK0.out]
    clear dxx0_0
    clear xx0_0
    clear xx0_1
    clear xx0_2
    clear xx0_3
    clear xx0_4
    clear xx0_5
    clear xx0_6
    clear xx0_7
    clear xx0_8
    have hch := hc9
    replace c0_0 := hch.cell (fun hm => by have h1 := loox0 _ hm; have h2 := hiox0 _ hm; change _ ≤ w.heap.size at h1; change w.heap.size < _ at h2; omega) c0_0
    replace c0_1 := hch.cell (fun hm => by have h1 := loox0 _ hm; have h2 := hiox0 _ hm; change _ ≤ w.heap.size at h1; change w.heap.size < _ at h2; omega) c0_1
    replace c0_2 := hch.cell (fun hm => by have h1 := loox0 _ hm; have h2 := hiox0 _ hm; change _ ≤ w.heap.size at h1; change w.heap.size < _ at h2; omega) c0_2
    replace c0_3 := hch.cell (fun hm => by have h1 := loox0 _ hm; have h2 := hiox0 _ hm; change _ ≤ w.heap.size at h1; change w.heap.size < _ at h2; omega) c0_3
    replace c0_4 := hch.cell (fun hm => by have h1 := loox0 _ hm; have h2 := hiox0 _ hm; change _ ≤ w.heap.size at h1; change w.heap.size < _ at h2; omega) c0_4
    replace c0_5 := hch.cell (fun hm => by have h1 := loox0 _ hm; have h2 := hiox0 _ hm; change _ ≤ w.heap.size at h1; change w.heap.size < _ at h2; omega) c0_5
    replace c0_6 := hch.cell (fun hm => by have h1 := loox0 _ hm; have h2 := hiox0 _ hm; change _ ≤ w.heap.size at h1; change w.heap.size < _ at h2; omega) c0_6
    replace c0_7 := hch.cell (fun hm => by have h1 := loox0 _ hm; have h2 := hiox0 _ hm; change _ ≤ w.heap.size at h1; change w.heap.size < _ at h2; omega) c0_7
    replace c0_8 := hch.cell (fun hm => by have h1 := loox0 _ hm; have h2 := hiox0 _ hm; change _ ≤ w.heap.size at h1; change w.heap.size < _ at h2; omega) c0_8
    replace xw0_0 := hch.cell (fun hm => by have h1 := loox0 _ hm; have h2 := hiox0 _ hm; change _ ≤ w3.heap.size at h1; change w3.heap.size < _ at h2; omega) xw0_0
    replace xw0_1 := hch.cell (fun hm => by have h1 := loox0 _ hm; have h2 := hiox0 _ hm; change _ ≤ w3.heap.size at h1; change w3.heap.size < _ at h2; omega) xw0_1
    replace xg0_0 := hch.cell (fun hm => by have h1 := loox0 _ hm; have h2 := hiox0 _ hm; change _ ≤ w5.heap.size at h1; change w5.heap.size < _ at h2; omega) xg0_0
    replace xg0_1 := hch.cell (fun hm => by have h1 := loox0 _ hm; have h2 := hiox0 _ hm; change _ ≤ w5.heap.size at h1; change w5.heap.size < _ at h2; omega) xg0_1
    clear dc0_0 dxw0_0 dxg0_0
    replace r0 := TmRep.chg hch (fun b hb hm => by have h1 := loox0 _ hm; have h2 := hB.size; have h3 : b < w.heap.size := hb; omega) r0
    replace ow0 := TyRd.chg hch (fun b hb hm => by have h1 := loox0 _ hm; have h2 := hiox0 _ hm; have h3 := loow0 _ hb; have h4 := hiow0 _ hb; omega) ow0
    replace og0 := TyOwn.chg hch (fun b hb hm => by have h1 := loox0 _ hm; have h2 := hiox0 _ hm; have h3 := loog0 _ hb; have h4 := hiog0 _ hb; omega) og0
    replace hB := hB.trans (hch.below (fun b hm => by have h1 := loox0 _ hm; have h2 := hB.size; omega) hB.size)
    have zw9 : w8.heap.size ≤ w9.heap.size := hch.size
    have dc0_0 := World.block_lt_of_cell? _ _ c0_0
    have dxw0_0 := World.block_lt_of_cell? _ _ xw0_0
    have dxg0_0 := World.block_lt_of_cell? _ _ xg0_0
    clear hch
    clear ox0 ndx0
    go_wp2_with fail
    refine (eqType_refl _ _ (castOfT t0) _ _ _ og0.rep ow0.rep).mono ?_
    rintro e w10 ⟨rfl, hb10⟩
    have hst := hb10
    clear dc0_0 dxw0_0 dxg0_0
    replace c0_0 := bcell hst c0_0
    replace c0_1 := bcell hst c0_1
    replace c0_2 := bcell hst c0_2
    replace c0_3 := bcell hst c0_3
    replace c0_4 := bcell hst c0_4
    replace c0_5 := bcell hst c0_5
    replace c0_6 := bcell hst c0_6
    replace c0_7 := bcell hst c0_7
    replace c0_8 := bcell hst c0_8
    replace xw0_0 := bcell hst xw0_0
    replace xw0_1 := bcell hst xw0_1
    replace xg0_0 := bcell hst xg0_0
    replace xg0_1 := bcell hst xg0_1
    replace r0 := r0.below hst
    replace ow0 := ow0.below hst
    replace og0 := og0.below hst
    replace hB := bstep hB hst
    have zw10 : w9.heap.size ≤ w10.heap.size := hst.size
    have dc0_0 := World.block_lt_of_cell? _ _ c0_0
    have dxw0_0 := World.block_lt_of_cell? _ _ xw0_0
    have dxg0_0 := World.block_lt_of_cell? _ _ xg0_0
    clear hst
    go_wp2_with fail
    refine (markType_any (castOfT t0) 1 _ _ _ og0 ndg0 (by omega) HuM0.out).mono ?_
    rintro e w11 ⟨rfl, og0, hc11⟩
    rw [HhM0.out]
    have hch := hc11
    replace c0_0 := hch.cell (fun hm => by have h1 := loog0 _ hm; have h2 := hiog0 _ hm; change _ ≤ w.heap.size at h1; change w.heap.size < _ at h2; omega) c0_0
    replace c0_1 := hch.cell (fun hm => by have h1 := loog0 _ hm; have h2 := hiog0 _ hm; change _ ≤ w.heap.size at h1; change w.heap.size < _ at h2; omega) c0_1
    replace c0_2 := hch.cell (fun hm => by have h1 := loog0 _ hm; have h2 := hiog0 _ hm; change _ ≤ w.heap.size at h1; change w.heap.size < _ at h2; omega) c0_2
    replace c0_3 := hch.cell (fun hm => by have h1 := loog0 _ hm; have h2 := hiog0 _ hm; change _ ≤ w.heap.size at h1; change w.heap.size < _ at h2; omega) c0_3
    replace c0_4 := hch.cell (fun hm => by have h1 := loog0 _ hm; have h2 := hiog0 _ hm; change _ ≤ w.heap.size at h1; change w.heap.size < _ at h2; omega) c0_4
    replace c0_5 := hch.cell (fun hm => by have h1 := loog0 _ hm; have h2 := hiog0 _ hm; change _ ≤ w.heap.size at h1; change w.heap.size < _ at h2; omega) c0_5
    replace c0_6 := hch.cell (fun hm => by have h1 := loog0 _ hm; have h2 := hiog0 _ hm; change _ ≤ w.heap.size at h1; change w.heap.size < _ at h2; omega) c0_6
    replace c0_7 := hch.cell (fun hm => by have h1 := loog0 _ hm; have h2 := hiog0 _ hm; change _ ≤ w.heap.size at h1; change w.heap.size < _ at h2; omega) c0_7
    replace c0_8 := hch.cell (fun hm => by have h1 := loog0 _ hm; have h2 := hiog0 _ hm; change _ ≤ w.heap.size at h1; change w.heap.size < _ at h2; omega) c0_8
    replace xw0_0 := hch.cell (fun hm => by have h1 := loog0 _ hm; have h2 := hiog0 _ hm; change _ ≤ w3.heap.size at h1; change w3.heap.size < _ at h2; omega) xw0_0
    replace xw0_1 := hch.cell (fun hm => by have h1 := loog0 _ hm; have h2 := hiog0 _ hm; change _ ≤ w3.heap.size at h1; change w3.heap.size < _ at h2; omega) xw0_1
    replace xg0_0 := hch.cell (fun hm => by have h1 := loog0 _ hm; have h2 := hiog0 _ hm; change _ ≤ w5.heap.size at h1; change w5.heap.size < _ at h2; omega) xg0_0
    replace xg0_1 := hch.cell (fun hm => by have h1 := loog0 _ hm; have h2 := hiog0 _ hm; change _ ≤ w5.heap.size at h1; change w5.heap.size < _ at h2; omega) xg0_1
    clear dc0_0 dxw0_0 dxg0_0
    replace r0 := TmRep.chg hch (fun b hb hm => by have h1 := loog0 _ hm; have h2 := hB.size; have h3 : b < w.heap.size := hb; omega) r0
    replace ow0 := TyRd.chg hch (fun b hb hm => by have h1 := loog0 _ hm; have h2 := hiog0 _ hm; have h3 := loow0 _ hb; have h4 := hiow0 _ hb; omega) ow0
    replace hB := hB.trans (hch.below (fun b hm => by have h1 := loog0 _ hm; have h2 := hB.size; omega) hB.size)
    have zw11 : w10.heap.size ≤ w11.heap.size := hch.size
    have dc0_0 := World.block_lt_of_cell? _ _ c0_0
    have dxw0_0 := World.block_lt_of_cell? _ _ xw0_0
    have dxg0_0 := World.block_lt_of_cell? _ _ xg0_0
    clear hch
    go_wp2_with fail
    refine (heldType_any _ (castOfT t0) 1 _ _ og0.rep (by omega) HuM0.out).mono ?_
    rintro e w12 ⟨rfl, hb12⟩
    rw [HhM0.out]
    have hst := hb12
    clear dc0_0 dxw0_0 dxg0_0
    replace c0_0 := bcell hst c0_0
    replace c0_1 := bcell hst c0_1
    replace c0_2 := bcell hst c0_2
    replace c0_3 := bcell hst c0_3
    replace c0_4 := bcell hst c0_4
    replace c0_5 := bcell hst c0_5
    replace c0_6 := bcell hst c0_6
    replace c0_7 := bcell hst c0_7
    replace c0_8 := bcell hst c0_8
    replace xw0_0 := bcell hst xw0_0
    replace xw0_1 := bcell hst xw0_1
    replace xg0_0 := bcell hst xg0_0
    replace xg0_1 := bcell hst xg0_1
    replace r0 := r0.below hst
    replace ow0 := ow0.below hst
    replace og0 := og0.below hst
    replace hB := bstep hB hst
    have zw12 : w11.heap.size ≤ w12.heap.size := hst.size
    have dc0_0 := World.block_lt_of_cell? _ _ c0_0
    have dxw0_0 := World.block_lt_of_cell? _ _ xw0_0
    have dxg0_0 := World.block_lt_of_cell? _ _ xg0_0
    clear hst
    go_wp2_with fail
    refine (toTerm_any _ t0 _ _ r0 Hb0.out).mono ?_
    rintro e w13 ⟨vb0, rfl, ⟨fb0, ob0, ndb0, lob0⟩, hb13⟩
    obtain ⟨kb0, snb0, ub0, ktb0, atb0, ntb0, qtb0, kfb0, afb0, nfb0, qfb0, lbb0, ab0, nb0, qb0, rfl⟩ := ob0.ks
    have hst := hb13
    clear dc0_0 dxw0_0 dxg0_0
    replace c0_0 := bcell hst c0_0
    replace c0_1 := bcell hst c0_1
    replace c0_2 := bcell hst c0_2
    replace c0_3 := bcell hst c0_3
    replace c0_4 := bcell hst c0_4
    replace c0_5 := bcell hst c0_5
    replace c0_6 := bcell hst c0_6
    replace c0_7 := bcell hst c0_7
    replace c0_8 := bcell hst c0_8
    replace xw0_0 := bcell hst xw0_0
    replace xw0_1 := bcell hst xw0_1
    replace xg0_0 := bcell hst xg0_0
    replace xg0_1 := bcell hst xg0_1
    replace r0 := r0.below hst
    replace ow0 := ow0.below hst
    replace og0 := og0.below hst
    replace hB := bstep hB hst
    have zw13 : w12.heap.size ≤ w13.heap.size := hst.size
    have dc0_0 := World.block_lt_of_cell? _ _ c0_0
    have dxw0_0 := World.block_lt_of_cell? _ _ xw0_0
    have dxg0_0 := World.block_lt_of_cell? _ _ xg0_0
    clear hst
    have loob0 : ∀ b ∈ fb0, w12.heap.size + 0 ≤ b := fun b hb => by have := lob0 b hb; skip; omega
    have hiob0 : ∀ b ∈ fb0, b < w13.heap.size := ob0.lt
    clear lob0
    go_wp2_with fail
    refine (implCastTypeOf _ t0 _ _ ob0.rep).mono ?_
    rintro e w14 ⟨vh0, rfl, ⟨fh0, oh0, ndh0, loh0⟩, hb14⟩
    obtain ⟨kh0, ah0, nh0, qh0, rfl⟩ := oh0.ks
    have hst := hb14
    clear dc0_0 dxw0_0 dxg0_0
    replace c0_0 := bcell hst c0_0
    replace c0_1 := bcell hst c0_1
    replace c0_2 := bcell hst c0_2
    replace c0_3 := bcell hst c0_3
    replace c0_4 := bcell hst c0_4
    replace c0_5 := bcell hst c0_5
    replace c0_6 := bcell hst c0_6
    replace c0_7 := bcell hst c0_7
    replace c0_8 := bcell hst c0_8
    replace xw0_0 := bcell hst xw0_0
    replace xw0_1 := bcell hst xw0_1
    replace xg0_0 := bcell hst xg0_0
    replace xg0_1 := bcell hst xg0_1
    replace r0 := r0.below hst
    replace ow0 := ow0.below hst
    replace og0 := og0.below hst
    replace ob0 := ob0.below hst
    replace hB := bstep hB hst
    have zw14 : w13.heap.size ≤ w14.heap.size := hst.size
    have dc0_0 := World.block_lt_of_cell? _ _ c0_0
    have dxw0_0 := World.block_lt_of_cell? _ _ xw0_0
    have dxg0_0 := World.block_lt_of_cell? _ _ xg0_0
    clear hst
    have looh0 : ∀ b ∈ fh0, w13.heap.size + 0 ≤ b := fun b hb => by have := loh0 b hb; skip; omega
    have hioh0 : ∀ b ∈ fh0, b < w14.heap.size := oh0.lt
    clear loh0
    clear ob0 ndb0
    go_wp2_with fail
    refine (eqType_refl _ _ (castOfT t0) _ _ _ (oh0.rep.below bal1) (ow0.rep.below bal1)).mono ?_
    rintro e w15 ⟨rfl, hb15⟩
    have hst := bstep bal1 hb15
    clear dc0_0 dxw0_0 dxg0_0
    replace c0_0 := bcell hst c0_0
    replace c0_1 := bcell hst c0_1
    replace c0_2 := bcell hst c0_2
    replace c0_3 := bcell hst c0_3
    replace c0_4 := bcell hst c0_4
    replace c0_5 := bcell hst c0_5
    replace c0_6 := bcell hst c0_6
    replace c0_7 := bcell hst c0_7
    replace c0_8 := bcell hst c0_8
    replace xw0_0 := bcell hst xw0_0
    replace xw0_1 := bcell hst xw0_1
    replace xg0_0 := bcell hst xg0_0
    replace xg0_1 := bcell hst xg0_1
    replace r0 := r0.below hst
    replace ow0 := ow0.below hst
    replace og0 := og0.below hst
    replace oh0 := oh0.below hst
    replace hB := bstep hB hst
    have zw15 : w14.heap.size ≤ w15.heap.size := hst.size
    have dc0_0 := World.block_lt_of_cell? _ _ c0_0
    have dxw0_0 := World.block_lt_of_cell? _ _ xw0_0
    have dxg0_0 := World.block_lt_of_cell? _ _ xg0_0
    clear hst
    have zw15p : w14.heap.size + 1 ≤ w15.heap.size := by have := hb15.size; simp at this; omega
    have xh0_0 : w15.cell? ⟨w14.heap.size, 0, none⟩ = some (.int .i64 kh0) := bcell hb15 (cell_n0 0)
    have dxh0_0 := World.block_lt_of_cell? _ _ xh0_0
    have xh0_1 : w15.cell? ⟨w14.heap.size, 1, none⟩ = some (.slice ah0 nh0 qh0) := bcell hb15 (cell_n0 1)
    go_wp2_with fail
    refine (heldType_any _ (castOfT t0) 1 _ _ og0.rep (by omega) HuM0.out).mono ?_
    rintro e w16 ⟨rfl, hb16⟩
    rw [HhM0.out]
    have hst := hb16
    clear dc0_0 dxw0_0 dxg0_0 dxh0_0
    replace c0_0 := bcell hst c0_0
    replace c0_1 := bcell hst c0_1
    replace c0_2 := bcell hst c0_2
    replace c0_3 := bcell hst c0_3
    replace c0_4 := bcell hst c0_4
    replace c0_5 := bcell hst c0_5
    replace c0_6 := bcell hst c0_6
    replace c0_7 := bcell hst c0_7
    replace c0_8 := bcell hst c0_8
    replace xw0_0 := bcell hst xw0_0
    replace xw0_1 := bcell hst xw0_1
    replace xg0_0 := bcell hst xg0_0
    replace xg0_1 := bcell hst xg0_1
    replace xh0_0 := bcell hst xh0_0
    replace xh0_1 := bcell hst xh0_1
    replace r0 := r0.below hst
    replace ow0 := ow0.below hst
    replace og0 := og0.below hst
    replace oh0 := oh0.below hst
    replace hB := bstep hB hst
    have zw16 : w15.heap.size ≤ w16.heap.size := hst.size
    have dc0_0 := World.block_lt_of_cell? _ _ c0_0
    have dxw0_0 := World.block_lt_of_cell? _ _ xw0_0
    have dxg0_0 := World.block_lt_of_cell? _ _ xg0_0
    have dxh0_0 := World.block_lt_of_cell? _ _ xh0_0
    clear hst
    go_wp2_with fail
    go_ret
    exact ⟨rfl, hB⟩
  · have s0 := szr_neg h0
    have S0 := Lib.hid s0
    clear s0 h0
    go_enter Try.func3, Try.ntmps3
    go_wp2_with fail
    refine (szTerm_any _ t0 _ _ _ (r0.below bal1) (by omega) (by omega)).mono ?_
    rintro e w17 ⟨rfl, hb17⟩
    rw [S0.out]
    have hB := bstep bal1 hb17
    have zw17 := hB.size
    have zpw17 : w.heap.size + 1 ≤ w17.heap.size := by have := hb17.size; simp at this; omega
    have c0_0 : w17.cell? ⟨w.heap.size, 0, none⟩ = some (.int .i64 k0) := bcell hb17 (cell_n0 0)
    have c0_1 : w17.cell? ⟨w.heap.size, 1, none⟩ = some (.string sn0) := bcell hb17 (cell_n0 1)
    have c0_2 : w17.cell? ⟨w.heap.size, 2, none⟩ = some (.int .i64 u0) := bcell hb17 (cell_n0 2)
    have c0_3 : w17.cell? ⟨w.heap.size, 3, none⟩ = some (.int .i64 kt0) := bcell hb17 (cell_n0 3)
    have c0_4 : w17.cell? ⟨w.heap.size, 4, none⟩ = some (.slice at0 nt0 qt0) := bcell hb17 (cell_n0 4)
    have c0_5 : w17.cell? ⟨w.heap.size, 5, none⟩ = some (.int .i64 kf0) := bcell hb17 (cell_n0 5)
    have c0_6 : w17.cell? ⟨w.heap.size, 6, none⟩ = some (.slice af0 nf0 qf0) := bcell hb17 (cell_n0 6)
    have c0_7 : w17.cell? ⟨w.heap.size, 7, none⟩ = some (.int .i64 lb0) := bcell hb17 (cell_n0 7)
    have c0_8 : w17.cell? ⟨w.heap.size, 8, none⟩ = some (.slice a0 n0 q0) := bcell hb17 (cell_n0 8)
    replace r0 := r0.below hB
    have dc0_0 := World.block_lt_of_cell? _ _ c0_0
    go_wp2_with fail
    go_ret
    exact ⟨rfl, hB⟩
end Go.Proofs.Ytkhmkohgnikcmaa
