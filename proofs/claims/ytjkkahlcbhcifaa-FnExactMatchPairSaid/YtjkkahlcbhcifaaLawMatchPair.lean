/-
  FnExactMatchPair returns true: the walk.
-/
import Derived.Test.YtjkkahlcbhcifaaLaTy
import Derived.Test.YtjkkahlcbhcifaaRes
import Derived.Test.YtjkkahlcbhcifaaTyMatch2
namespace Go.Proofs.Ytjkkahlcbhcifaa
open Go.RowKit
set_option maxRecDepth 100000
set_option linter.unusedVariables false
set_option linter.unusedSimpArgs false

set_option maxHeartbeats 8000000 in
theorem walk_FnExactMatchPair (F0 : Nat → Prop) (t0 : Ty) (y0 : Value) (w : World) (r0 : TyRep F0 w t0 y0) :
    Calls Try.prog 25 #[y0] w fun e w' => e = .returned (.bool true) ∧ Below w.heap.size w w' := by
  replace r0 := r0.old
  obtain ⟨k0, a0, n0, q0, rfl⟩ := r0.shape
  by_cases h0 : (t0.cnt : Int) ≤ 1048576
  · have s0 := szr_pos h0
    have l0 : 0 ≤ (1048576 - (t0.cnt : Int)) := by omega
    have m0 : (1048576 - (t0.cnt : Int)) ≤ 1048576 := by omega
    have b0 : t0.cnt ≤ 1048576 := by omega
    obtain ⟨K0, hK0⟩ : ∃ x : Int, 1 + (t0.cnt : Int) = x := ⟨_, rfl⟩
    have gK0 : 0 ≤ K0 := by omega
    have uK0 : 1 + (t0.cnt : Int) ≤ 1099511627776 := by omega
    have vK0 : K0 ≤ 1099511627776 := by omega
    have T0 := matT_cnt 5 0 t0
    obtain ⟨M0, hM0⟩ : ∃ x : Int, 1 + ((matT 5 0 t0).cnt : Int) = x := ⟨_, rfl⟩
    have gM0 : 0 ≤ M0 := by omega
    have uM0 : 1 + ((matT 5 0 t0).cnt : Int) ≤ 1099511627776 := by omega
    have T1 := matT_cnt 5 1 t0
    obtain ⟨M1, hM1⟩ : ∃ x : Int, M0 + ((matT 5 1 t0).cnt : Int) = x := ⟨_, rfl⟩
    have gM1 : 0 ≤ M1 := by omega
    have uM1 : M0 + ((matT 5 1 t0).cnt : Int) ≤ 1099511627776 := by omega
    have Hs0 := Lib.hid s0
    have Hb0 := Lib.hid b0
    have HhK0 := Lib.hid hK0
    have HuK0 := Lib.hid uK0
    have HvK0 := Lib.hid vK0
    have HT0 := Lib.hid T0
    have HT1 := Lib.hid T1
    have HhM0 := Lib.hid hM0
    have HhM1 := Lib.hid hM1
    have HuM0 := Lib.hid uM0
    have HuM1 := Lib.hid uM1
    have S0 := Hs0
    clear s0 b0 hK0 uK0 vK0 T0 T1 hM0 hM1 uM0 uM1 h0
    go_enter Try.func25, Try.ntmps25
    go_wp2_with fail
    refine (szType_any _ t0 _ _ _ (r0.below bal1) (by omega) (by omega)).mono ?_
    rintro e w1 ⟨rfl, hb1⟩
    rw [S0.out]
    have hB := bstep bal1 hb1
    have zw1 := hB.size
    have c0_0 : w1.cell? ⟨w.heap.size, 0, none⟩ = some (.int .i64 k0) := bcell hb1 (cell_n0 0)
    have c0_1 : w1.cell? ⟨w.heap.size, 1, none⟩ = some (.slice a0 n0 q0) := bcell hb1 (cell_n0 1)
    replace r0 := r0.below hB
    have dc0_0 := World.block_lt_of_cell? _ _ c0_0
    go_wp2_with fail
    refine (toType_any _ t0 _ _ r0 Hb0.out).mono ?_
    rintro e w2 ⟨va0, rfl, ⟨fa0, oa0, nda0, loa0⟩, hb2⟩
    obtain ⟨ka0, aa0, na0, qa0, rfl⟩ := oa0.ks
    have hst := hb2
    clear dc0_0
    replace c0_0 := bcell hst c0_0
    replace c0_1 := bcell hst c0_1
    replace r0 := r0.below hst
    replace hB := bstep hB hst
    have zw2 : w1.heap.size ≤ w2.heap.size := hst.size
    have dc0_0 := World.block_lt_of_cell? _ _ c0_0
    clear hst
    have looa0 : ∀ b ∈ fa0, w1.heap.size + 0 ≤ b := fun b hb => by have := loa0 b hb; skip; omega
    have hioa0 : ∀ b ∈ fa0, b < w2.heap.size := oa0.lt
    clear loa0
    go_wp2_with fail
    refine (specMatchPair _ t0 _ _ oa0.rep).mono ?_
    rintro e w3 ⟨vw0, vw1, rfl, ⟨fw0, fw1, ow0, ow1, hndw, low⟩, hb3⟩
    obtain ⟨ndw0, ndw1, hdjw⟩ := List.nodup_append.mp hndw
    have djow0 : ∀ b ∈ fw0, b ∉ fw1 := fun b h1 h2 => hdjw b h1 b h2 rfl
    have low0 : ∀ b ∈ fw0, _ ≤ b := fun b hb => low b (by simp [hb])
    have low1 : ∀ b ∈ fw1, _ ≤ b := fun b hb => low b (by simp [hb])
    clear hndw hdjw low
    obtain ⟨kw0, aw0, nw0, qw0, rfl⟩ := ow0.ks
    obtain ⟨kw1, aw1, nw1, qw1, rfl⟩ := ow1.ks
    have hst := hb3
    clear dc0_0
    replace c0_0 := bcell hst c0_0
    replace c0_1 := bcell hst c0_1
    replace r0 := r0.below hst
    replace oa0 := oa0.below hst
    replace hB := bstep hB hst
    have zw3 : w2.heap.size ≤ w3.heap.size := hst.size
    have dc0_0 := World.block_lt_of_cell? _ _ c0_0
    clear hst
    have loow0 : ∀ b ∈ fw0, w2.heap.size + 0 ≤ b := fun b hb => by have := low0 b hb; skip; omega
    have hiow0 : ∀ b ∈ fw0, b < w3.heap.size := ow0.lt
    clear low0
    have loow1 : ∀ b ∈ fw1, w2.heap.size + 0 ≤ b := fun b hb => by have := low1 b hb; skip; omega
    have hiow1 : ∀ b ∈ fw1, b < w3.heap.size := ow1.lt
    clear low1
    clear oa0 nda0
    go_wp2_with fail
    refine (toType_any _ t0 _ _ (r0.below bal2) Hb0.out).mono ?_
    rintro e w4 ⟨vx0, rfl, ⟨fx0, ox0, ndx0, lox0⟩, hb4⟩
    obtain ⟨kx0, ax0, nx0, qx0, rfl⟩ := ox0.ks
    have hst := bstep bal2 hb4
    clear dc0_0
    replace c0_0 := bcell hst c0_0
    replace c0_1 := bcell hst c0_1
    replace r0 := r0.below hst
    replace ow0 := ow0.below hst
    replace ow1 := ow1.below hst
    replace hB := bstep hB hst
    have zw4 : w3.heap.size ≤ w4.heap.size := hst.size
    have dc0_0 := World.block_lt_of_cell? _ _ c0_0
    clear hst
    have zw4p : w3.heap.size + 2 ≤ w4.heap.size := by have := hb4.size; simp at this; omega
    have xw0_0 : w4.cell? ⟨w3.heap.size, 0, none⟩ = some (.int .i64 kw0) := bcell hb4 (bcell bal1 (cell_n0 0))
    have dxw0_0 := World.block_lt_of_cell? _ _ xw0_0
    have xw0_1 : w4.cell? ⟨w3.heap.size, 1, none⟩ = some (.slice aw0 nw0 qw0) := bcell hb4 (bcell bal1 (cell_n0 1))
    have xw1_0 : w4.cell? ⟨w3.heap.size + 1, 0, none⟩ = some (.int .i64 kw1) := bcell hb4 (cell_n1 0)
    have dxw1_0 := World.block_lt_of_cell? _ _ xw1_0
    have xw1_1 : w4.cell? ⟨w3.heap.size + 1, 1, none⟩ = some (.slice aw1 nw1 qw1) := bcell hb4 (cell_n1 1)
    have loox0 : ∀ b ∈ fx0, w3.heap.size + 2 ≤ b := fun b hb => by have := lox0 b hb; simp at this; omega
    have hiox0 : ∀ b ∈ fx0, b < w4.heap.size := ox0.lt
    clear lox0
    go_wp2_with fail
    refine (implMatchPair _ t0 _ _ (ox0.rep.below bal1)).mono ?_
    rintro e w5 ⟨vg0, vg1, rfl, ⟨fg0, fg1, og0, og1, hndg, log⟩, hb5⟩
    obtain ⟨ndg0, ndg1, hdjg⟩ := List.nodup_append.mp hndg
    have djog0 : ∀ b ∈ fg0, b ∉ fg1 := fun b h1 h2 => hdjg b h1 b h2 rfl
    have log0 : ∀ b ∈ fg0, _ ≤ b := fun b hb => log b (by simp [hb])
    have log1 : ∀ b ∈ fg1, _ ≤ b := fun b hb => log b (by simp [hb])
    clear hndg hdjg log
    obtain ⟨kg0, ag0, ng0, qg0, rfl⟩ := og0.ks
    obtain ⟨kg1, ag1, ng1, qg1, rfl⟩ := og1.ks
    have hst := bstep bal1 hb5
    clear dc0_0 dxw0_0 dxw1_0
    replace c0_0 := bcell hst c0_0
    replace c0_1 := bcell hst c0_1
    replace xw0_0 := bcell hst xw0_0
    replace xw0_1 := bcell hst xw0_1
    replace xw1_0 := bcell hst xw1_0
    replace xw1_1 := bcell hst xw1_1
    replace r0 := r0.below hst
    replace ow0 := ow0.below hst
    replace ow1 := ow1.below hst
    replace ox0 := ox0.below hst
    replace hB := bstep hB hst
    have zw5 : w4.heap.size ≤ w5.heap.size := hst.size
    have dc0_0 := World.block_lt_of_cell? _ _ c0_0
    have dxw0_0 := World.block_lt_of_cell? _ _ xw0_0
    have dxw1_0 := World.block_lt_of_cell? _ _ xw1_0
    clear hst
    have zw5p : w4.heap.size + 1 ≤ w5.heap.size := by have := hb5.size; simp at this; omega
    have xx0_0 : w5.cell? ⟨w4.heap.size, 0, none⟩ = some (.int .i64 kx0) := bcell hb5 (cell_n0 0)
    have dxx0_0 := World.block_lt_of_cell? _ _ xx0_0
    have xx0_1 : w5.cell? ⟨w4.heap.size, 1, none⟩ = some (.slice ax0 nx0 qx0) := bcell hb5 (cell_n0 1)
    have loog0 : ∀ b ∈ fg0, w4.heap.size + 1 ≤ b := fun b hb => by have := log0 b hb; simp at this; omega
    have hiog0 : ∀ b ∈ fg0, b < w5.heap.size := og0.lt
    clear log0
    have loog1 : ∀ b ∈ fg1, w4.heap.size + 1 ≤ b := fun b hb => by have := log1 b hb; simp at this; omega
    have hiog1 : ∀ b ∈ fg1, b < w5.heap.size := og1.lt
    clear log1
    go_wp2_with fail
    refine (eqType_refl _ _ (matT 5 0 t0) _ _ _ (og0.rep.below bal2) (ow0.rep.below bal2)).mono ?_
    rintro e w6 ⟨rfl, hb6⟩
    have hst := bstep bal2 hb6
    clear dc0_0 dxw0_0 dxw1_0 dxx0_0
    replace c0_0 := bcell hst c0_0
    replace c0_1 := bcell hst c0_1
    replace xw0_0 := bcell hst xw0_0
    replace xw0_1 := bcell hst xw0_1
    replace xw1_0 := bcell hst xw1_0
    replace xw1_1 := bcell hst xw1_1
    replace xx0_0 := bcell hst xx0_0
    replace xx0_1 := bcell hst xx0_1
    replace r0 := r0.below hst
    replace ow0 := ow0.below hst
    replace ow1 := ow1.below hst
    replace ox0 := ox0.below hst
    replace og0 := og0.below hst
    replace og1 := og1.below hst
    replace hB := bstep hB hst
    have zw6 : w5.heap.size ≤ w6.heap.size := hst.size
    have dc0_0 := World.block_lt_of_cell? _ _ c0_0
    have dxw0_0 := World.block_lt_of_cell? _ _ xw0_0
    have dxw1_0 := World.block_lt_of_cell? _ _ xw1_0
    have dxx0_0 := World.block_lt_of_cell? _ _ xx0_0
    clear hst
    have zw6p : w5.heap.size + 2 ≤ w6.heap.size := by have := hb6.size; simp at this; omega
    have xg0_0 : w6.cell? ⟨w5.heap.size, 0, none⟩ = some (.int .i64 kg0) := bcell hb6 (bcell bal1 (cell_n0 0))
    have dxg0_0 := World.block_lt_of_cell? _ _ xg0_0
    have xg0_1 : w6.cell? ⟨w5.heap.size, 1, none⟩ = some (.slice ag0 ng0 qg0) := bcell hb6 (bcell bal1 (cell_n0 1))
    have xg1_0 : w6.cell? ⟨w5.heap.size + 1, 0, none⟩ = some (.int .i64 kg1) := bcell hb6 (cell_n1 0)
    have dxg1_0 := World.block_lt_of_cell? _ _ xg1_0
    have xg1_1 : w6.cell? ⟨w5.heap.size + 1, 1, none⟩ = some (.slice ag1 ng1 qg1) := bcell hb6 (cell_n1 1)
    go_wp2_with fail
    refine (eqType_refl _ _ (matT 5 1 t0) _ _ _ og1.rep ow1.rep).mono ?_
    rintro e w7 ⟨rfl, hb7⟩
    have hst := hb7
    clear dc0_0 dxw0_0 dxw1_0 dxx0_0 dxg0_0 dxg1_0
    replace c0_0 := bcell hst c0_0
    replace c0_1 := bcell hst c0_1
    replace xw0_0 := bcell hst xw0_0
    replace xw0_1 := bcell hst xw0_1
    replace xw1_0 := bcell hst xw1_0
    replace xw1_1 := bcell hst xw1_1
    replace xx0_0 := bcell hst xx0_0
    replace xx0_1 := bcell hst xx0_1
    replace xg0_0 := bcell hst xg0_0
    replace xg0_1 := bcell hst xg0_1
    replace xg1_0 := bcell hst xg1_0
    replace xg1_1 := bcell hst xg1_1
    replace r0 := r0.below hst
    replace ow0 := ow0.below hst
    replace ow1 := ow1.below hst
    replace ox0 := ox0.below hst
    replace og0 := og0.below hst
    replace og1 := og1.below hst
    replace hB := bstep hB hst
    have zw7 : w6.heap.size ≤ w7.heap.size := hst.size
    have dc0_0 := World.block_lt_of_cell? _ _ c0_0
    have dxw0_0 := World.block_lt_of_cell? _ _ xw0_0
    have dxw1_0 := World.block_lt_of_cell? _ _ xw1_0
    have dxx0_0 := World.block_lt_of_cell? _ _ xx0_0
    have dxg0_0 := World.block_lt_of_cell? _ _ xg0_0
    have dxg1_0 := World.block_lt_of_cell? _ _ xg1_0
    clear hst
    go_wp2_with fail
    go_region_held3 (fun w' => w'.cell? ⟨w4.heap.size, 0, none⟩ = some (.int .i64 kx0) ∧ w'.cell? ⟨w4.heap.size, 1, none⟩ = some (.slice ax0 nx0 qx0) ∧ w'.cell? ⟨w.heap.size, 0, none⟩ = some (.int .i64 k0) ∧ w'.cell? ⟨w.heap.size, 1, none⟩ = some (.slice a0 n0 q0))
      (first | go_keep | exact ⟨bcelld hb8 xx0_0, bcelld hb8 xx0_1, bcelld hb8 c0_0, bcelld hb8 c0_1⟩ | exact ⟨bcell hb9 (bcelld hb8 xx0_0), bcell hb9 (bcelld hb8 xx0_1), bcell hb9 (bcelld hb8 c0_0), bcell hb9 (bcelld hb8 c0_1)⟩)
      (first | (go_at_call 36; refine (toType_any _ t0 _ _ (r0.below bdr) Hb0.out).mono ?_; rintro e w8 ⟨v8, rfl, hv8, hb8⟩; obtain ⟨k8, a8, n8, q8, rfl⟩ := hv8.shape) | (go_at_call 38; refine (eqType_refl _ _ t0 _ _ _ (ox0.rep.below (bstep bdr hb8)) hv8.rep).mono ?_; rintro e w9 ⟨rfl, hb9⟩))
    have hst := bstep (bstep bdr hb8) hb9
    clear dc0_0 dxw0_0 dxw1_0 dxx0_0 dxg0_0 dxg1_0
    replace c0_0 := bcell hst c0_0
    replace c0_1 := bcell hst c0_1
    replace xw0_0 := bcell hst xw0_0
    replace xw0_1 := bcell hst xw0_1
    replace xw1_0 := bcell hst xw1_0
    replace xw1_1 := bcell hst xw1_1
    replace xx0_0 := bcell hst xx0_0
    replace xx0_1 := bcell hst xx0_1
    replace xg0_0 := bcell hst xg0_0
    replace xg0_1 := bcell hst xg0_1
    replace xg1_0 := bcell hst xg1_0
    replace xg1_1 := bcell hst xg1_1
    replace r0 := r0.below hst
    replace ow0 := ow0.below hst
    replace ow1 := ow1.below hst
    replace ox0 := ox0.below hst
    replace og0 := og0.below hst
    replace og1 := og1.below hst
    replace hB := bstep hB hst
    have zw9 : w7.heap.size ≤ w9.heap.size := hst.size
    have dc0_0 := World.block_lt_of_cell? _ _ c0_0
    have dxw0_0 := World.block_lt_of_cell? _ _ xw0_0
    have dxw1_0 := World.block_lt_of_cell? _ _ xw1_0
    have dxx0_0 := World.block_lt_of_cell? _ _ xx0_0
    have dxg0_0 := World.block_lt_of_cell? _ _ xg0_0
    have dxg1_0 := World.block_lt_of_cell? _ _ xg1_0
    clear hst
    clear hb8 hb9 hv8
    go_wp2_with fail
    refine (markType_any t0 1 _ _ _ ox0 ndx0 (by omega) HuK0.out).mono ?_
    rintro e w10 ⟨rfl, ox0, hc10⟩
    rw [HhK0.out]
    clear dxx0_0
    clear xx0_0
    clear xx0_1
    have hch := hc10
    replace c0_0 := hch.cell (fun hm => by have h1 := loox0 _ hm; have h2 := hiox0 _ hm; change _ ≤ w.heap.size at h1; change w.heap.size < _ at h2; omega) c0_0
    replace c0_1 := hch.cell (fun hm => by have h1 := loox0 _ hm; have h2 := hiox0 _ hm; change _ ≤ w.heap.size at h1; change w.heap.size < _ at h2; omega) c0_1
    replace xw0_0 := hch.cell (fun hm => by have h1 := loox0 _ hm; have h2 := hiox0 _ hm; change _ ≤ w3.heap.size at h1; change w3.heap.size < _ at h2; omega) xw0_0
    replace xw0_1 := hch.cell (fun hm => by have h1 := loox0 _ hm; have h2 := hiox0 _ hm; change _ ≤ w3.heap.size at h1; change w3.heap.size < _ at h2; omega) xw0_1
    replace xw1_0 := hch.cell (fun hm => by have h1 := loox0 _ hm; have h2 := hiox0 _ hm; change _ ≤ w3.heap.size + 1 at h1; change w3.heap.size + 1 < _ at h2; omega) xw1_0
    replace xw1_1 := hch.cell (fun hm => by have h1 := loox0 _ hm; have h2 := hiox0 _ hm; change _ ≤ w3.heap.size + 1 at h1; change w3.heap.size + 1 < _ at h2; omega) xw1_1
    replace xg0_0 := hch.cell (fun hm => by have h1 := loox0 _ hm; have h2 := hiox0 _ hm; change _ ≤ w5.heap.size at h1; change w5.heap.size < _ at h2; omega) xg0_0
    replace xg0_1 := hch.cell (fun hm => by have h1 := loox0 _ hm; have h2 := hiox0 _ hm; change _ ≤ w5.heap.size at h1; change w5.heap.size < _ at h2; omega) xg0_1
    replace xg1_0 := hch.cell (fun hm => by have h1 := loox0 _ hm; have h2 := hiox0 _ hm; change _ ≤ w5.heap.size + 1 at h1; change w5.heap.size + 1 < _ at h2; omega) xg1_0
    replace xg1_1 := hch.cell (fun hm => by have h1 := loox0 _ hm; have h2 := hiox0 _ hm; change _ ≤ w5.heap.size + 1 at h1; change w5.heap.size + 1 < _ at h2; omega) xg1_1
    clear dc0_0 dxw0_0 dxw1_0 dxg0_0 dxg1_0
    replace r0 := TyRep.chg hch (fun b hb hm => by have h1 := loox0 _ hm; have h2 := hB.size; have h3 : b < w.heap.size := hb; omega) r0
    replace ow0 := TyOwn.chg hch (fun b hb hm => by have h1 := loox0 _ hm; have h2 := hiox0 _ hm; have h3 := loow0 _ hb; have h4 := hiow0 _ hb; omega) ow0
    replace ow1 := TyOwn.chg hch (fun b hb hm => by have h1 := loox0 _ hm; have h2 := hiox0 _ hm; have h3 := loow1 _ hb; have h4 := hiow1 _ hb; omega) ow1
    replace og0 := TyOwn.chg hch (fun b hb hm => by have h1 := loox0 _ hm; have h2 := hiox0 _ hm; have h3 := loog0 _ hb; have h4 := hiog0 _ hb; omega) og0
    replace og1 := TyOwn.chg hch (fun b hb hm => by have h1 := loox0 _ hm; have h2 := hiox0 _ hm; have h3 := loog1 _ hb; have h4 := hiog1 _ hb; omega) og1
    replace hB := hB.trans (hch.below (fun b hm => by have h1 := loox0 _ hm; have h2 := hB.size; omega) hB.size)
    have zw10 : w9.heap.size ≤ w10.heap.size := hch.size
    have dc0_0 := World.block_lt_of_cell? _ _ c0_0
    have dxw0_0 := World.block_lt_of_cell? _ _ xw0_0
    have dxw1_0 := World.block_lt_of_cell? _ _ xw1_0
    have dxg0_0 := World.block_lt_of_cell? _ _ xg0_0
    have dxg1_0 := World.block_lt_of_cell? _ _ xg1_0
    clear hch
    clear ox0 ndx0
    go_wp2_with fail
    refine (eqType_refl _ _ (matT 5 0 t0) _ _ _ og0.rep ow0.rep).mono ?_
    rintro e w11 ⟨rfl, hb11⟩
    have hst := hb11
    clear dc0_0 dxw0_0 dxw1_0 dxg0_0 dxg1_0
    replace c0_0 := bcell hst c0_0
    replace c0_1 := bcell hst c0_1
    replace xw0_0 := bcell hst xw0_0
    replace xw0_1 := bcell hst xw0_1
    replace xw1_0 := bcell hst xw1_0
    replace xw1_1 := bcell hst xw1_1
    replace xg0_0 := bcell hst xg0_0
    replace xg0_1 := bcell hst xg0_1
    replace xg1_0 := bcell hst xg1_0
    replace xg1_1 := bcell hst xg1_1
    replace r0 := r0.below hst
    replace ow0 := ow0.below hst
    replace ow1 := ow1.below hst
    replace og0 := og0.below hst
    replace og1 := og1.below hst
    replace hB := bstep hB hst
    have zw11 : w10.heap.size ≤ w11.heap.size := hst.size
    have dc0_0 := World.block_lt_of_cell? _ _ c0_0
    have dxw0_0 := World.block_lt_of_cell? _ _ xw0_0
    have dxw1_0 := World.block_lt_of_cell? _ _ xw1_0
    have dxg0_0 := World.block_lt_of_cell? _ _ xg0_0
    have dxg1_0 := World.block_lt_of_cell? _ _ xg1_0
    clear hst
    go_wp2_with fail
    refine (eqType_refl _ _ (matT 5 1 t0) _ _ _ og1.rep ow1.rep).mono ?_
    rintro e w12 ⟨rfl, hb12⟩
    have hst := hb12
    clear dc0_0 dxw0_0 dxw1_0 dxg0_0 dxg1_0
    replace c0_0 := bcell hst c0_0
    replace c0_1 := bcell hst c0_1
    replace xw0_0 := bcell hst xw0_0
    replace xw0_1 := bcell hst xw0_1
    replace xw1_0 := bcell hst xw1_0
    replace xw1_1 := bcell hst xw1_1
    replace xg0_0 := bcell hst xg0_0
    replace xg0_1 := bcell hst xg0_1
    replace xg1_0 := bcell hst xg1_0
    replace xg1_1 := bcell hst xg1_1
    replace r0 := r0.below hst
    replace ow0 := ow0.below hst
    replace ow1 := ow1.below hst
    replace og0 := og0.below hst
    replace og1 := og1.below hst
    replace hB := bstep hB hst
    have zw12 : w11.heap.size ≤ w12.heap.size := hst.size
    have dc0_0 := World.block_lt_of_cell? _ _ c0_0
    have dxw0_0 := World.block_lt_of_cell? _ _ xw0_0
    have dxw1_0 := World.block_lt_of_cell? _ _ xw1_0
    have dxg0_0 := World.block_lt_of_cell? _ _ xg0_0
    have dxg1_0 := World.block_lt_of_cell? _ _ xg1_0
    clear hst
    go_wp2_with fail
    refine (markType_any (matT 5 0 t0) 1 _ _ _ og0 ndg0 (by omega) HuM0.out).mono ?_
    rintro e w13 ⟨rfl, og0, hc13⟩
    rw [HhM0.out]
    have hch := hc13
    replace c0_0 := hch.cell (fun hm => by have h1 := loog0 _ hm; have h2 := hiog0 _ hm; change _ ≤ w.heap.size at h1; change w.heap.size < _ at h2; omega) c0_0
    replace c0_1 := hch.cell (fun hm => by have h1 := loog0 _ hm; have h2 := hiog0 _ hm; change _ ≤ w.heap.size at h1; change w.heap.size < _ at h2; omega) c0_1
    replace xw0_0 := hch.cell (fun hm => by have h1 := loog0 _ hm; have h2 := hiog0 _ hm; change _ ≤ w3.heap.size at h1; change w3.heap.size < _ at h2; omega) xw0_0
    replace xw0_1 := hch.cell (fun hm => by have h1 := loog0 _ hm; have h2 := hiog0 _ hm; change _ ≤ w3.heap.size at h1; change w3.heap.size < _ at h2; omega) xw0_1
    replace xw1_0 := hch.cell (fun hm => by have h1 := loog0 _ hm; have h2 := hiog0 _ hm; change _ ≤ w3.heap.size + 1 at h1; change w3.heap.size + 1 < _ at h2; omega) xw1_0
    replace xw1_1 := hch.cell (fun hm => by have h1 := loog0 _ hm; have h2 := hiog0 _ hm; change _ ≤ w3.heap.size + 1 at h1; change w3.heap.size + 1 < _ at h2; omega) xw1_1
    replace xg0_0 := hch.cell (fun hm => by have h1 := loog0 _ hm; have h2 := hiog0 _ hm; change _ ≤ w5.heap.size at h1; change w5.heap.size < _ at h2; omega) xg0_0
    replace xg0_1 := hch.cell (fun hm => by have h1 := loog0 _ hm; have h2 := hiog0 _ hm; change _ ≤ w5.heap.size at h1; change w5.heap.size < _ at h2; omega) xg0_1
    replace xg1_0 := hch.cell (fun hm => by have h1 := loog0 _ hm; have h2 := hiog0 _ hm; change _ ≤ w5.heap.size + 1 at h1; change w5.heap.size + 1 < _ at h2; omega) xg1_0
    replace xg1_1 := hch.cell (fun hm => by have h1 := loog0 _ hm; have h2 := hiog0 _ hm; change _ ≤ w5.heap.size + 1 at h1; change w5.heap.size + 1 < _ at h2; omega) xg1_1
    clear dc0_0 dxw0_0 dxw1_0 dxg0_0 dxg1_0
    replace r0 := TyRep.chg hch (fun b hb hm => by have h1 := loog0 _ hm; have h2 := hB.size; have h3 : b < w.heap.size := hb; omega) r0
    replace ow0 := TyOwn.chg hch (fun b hb hm => by have h1 := loog0 _ hm; have h2 := hiog0 _ hm; have h3 := loow0 _ hb; have h4 := hiow0 _ hb; omega) ow0
    replace ow1 := TyOwn.chg hch (fun b hb hm => by have h1 := loog0 _ hm; have h2 := hiog0 _ hm; have h3 := loow1 _ hb; have h4 := hiow1 _ hb; omega) ow1
    replace og1 := TyOwn.chg hch (fun b hb hm => djog0 b hm hb) og1
    replace hB := hB.trans (hch.below (fun b hm => by have h1 := loog0 _ hm; have h2 := hB.size; omega) hB.size)
    have zw13 : w12.heap.size ≤ w13.heap.size := hch.size
    have dc0_0 := World.block_lt_of_cell? _ _ c0_0
    have dxw0_0 := World.block_lt_of_cell? _ _ xw0_0
    have dxw1_0 := World.block_lt_of_cell? _ _ xw1_0
    have dxg0_0 := World.block_lt_of_cell? _ _ xg0_0
    have dxg1_0 := World.block_lt_of_cell? _ _ xg1_0
    clear hch
    go_wp2_with fail
    refine (markType_any (matT 5 1 t0) M0 _ _ _ og1 ndg1 (by omega) HuM1.out).mono ?_
    rintro e w14 ⟨rfl, og1, hc14⟩
    rw [HhM1.out]
    have hch := hc14
    replace c0_0 := hch.cell (fun hm => by have h1 := loog1 _ hm; have h2 := hiog1 _ hm; change _ ≤ w.heap.size at h1; change w.heap.size < _ at h2; omega) c0_0
    replace c0_1 := hch.cell (fun hm => by have h1 := loog1 _ hm; have h2 := hiog1 _ hm; change _ ≤ w.heap.size at h1; change w.heap.size < _ at h2; omega) c0_1
    replace xw0_0 := hch.cell (fun hm => by have h1 := loog1 _ hm; have h2 := hiog1 _ hm; change _ ≤ w3.heap.size at h1; change w3.heap.size < _ at h2; omega) xw0_0
    replace xw0_1 := hch.cell (fun hm => by have h1 := loog1 _ hm; have h2 := hiog1 _ hm; change _ ≤ w3.heap.size at h1; change w3.heap.size < _ at h2; omega) xw0_1
    replace xw1_0 := hch.cell (fun hm => by have h1 := loog1 _ hm; have h2 := hiog1 _ hm; change _ ≤ w3.heap.size + 1 at h1; change w3.heap.size + 1 < _ at h2; omega) xw1_0
    replace xw1_1 := hch.cell (fun hm => by have h1 := loog1 _ hm; have h2 := hiog1 _ hm; change _ ≤ w3.heap.size + 1 at h1; change w3.heap.size + 1 < _ at h2; omega) xw1_1
    replace xg0_0 := hch.cell (fun hm => by have h1 := loog1 _ hm; have h2 := hiog1 _ hm; change _ ≤ w5.heap.size at h1; change w5.heap.size < _ at h2; omega) xg0_0
    replace xg0_1 := hch.cell (fun hm => by have h1 := loog1 _ hm; have h2 := hiog1 _ hm; change _ ≤ w5.heap.size at h1; change w5.heap.size < _ at h2; omega) xg0_1
    replace xg1_0 := hch.cell (fun hm => by have h1 := loog1 _ hm; have h2 := hiog1 _ hm; change _ ≤ w5.heap.size + 1 at h1; change w5.heap.size + 1 < _ at h2; omega) xg1_0
    replace xg1_1 := hch.cell (fun hm => by have h1 := loog1 _ hm; have h2 := hiog1 _ hm; change _ ≤ w5.heap.size + 1 at h1; change w5.heap.size + 1 < _ at h2; omega) xg1_1
    clear dc0_0 dxw0_0 dxw1_0 dxg0_0 dxg1_0
    replace r0 := TyRep.chg hch (fun b hb hm => by have h1 := loog1 _ hm; have h2 := hB.size; have h3 : b < w.heap.size := hb; omega) r0
    replace ow0 := TyOwn.chg hch (fun b hb hm => by have h1 := loog1 _ hm; have h2 := hiog1 _ hm; have h3 := loow0 _ hb; have h4 := hiow0 _ hb; omega) ow0
    replace ow1 := TyOwn.chg hch (fun b hb hm => by have h1 := loog1 _ hm; have h2 := hiog1 _ hm; have h3 := loow1 _ hb; have h4 := hiow1 _ hb; omega) ow1
    replace og0 := TyOwn.chg hch (fun b hb hm => djog0 b hb hm) og0
    replace hB := hB.trans (hch.below (fun b hm => by have h1 := loog1 _ hm; have h2 := hB.size; omega) hB.size)
    have zw14 : w13.heap.size ≤ w14.heap.size := hch.size
    have dc0_0 := World.block_lt_of_cell? _ _ c0_0
    have dxw0_0 := World.block_lt_of_cell? _ _ xw0_0
    have dxw1_0 := World.block_lt_of_cell? _ _ xw1_0
    have dxg0_0 := World.block_lt_of_cell? _ _ xg0_0
    have dxg1_0 := World.block_lt_of_cell? _ _ xg1_0
    clear hch
    go_wp2_with fail
    refine (heldType_any _ (matT 5 0 t0) 1 _ _ og0.rep (by omega) HuM0.out).mono ?_
    rintro e w15 ⟨rfl, hb15⟩
    rw [HhM0.out]
    have hst := hb15
    clear dc0_0 dxw0_0 dxw1_0 dxg0_0 dxg1_0
    replace c0_0 := bcell hst c0_0
    replace c0_1 := bcell hst c0_1
    replace xw0_0 := bcell hst xw0_0
    replace xw0_1 := bcell hst xw0_1
    replace xw1_0 := bcell hst xw1_0
    replace xw1_1 := bcell hst xw1_1
    replace xg0_0 := bcell hst xg0_0
    replace xg0_1 := bcell hst xg0_1
    replace xg1_0 := bcell hst xg1_0
    replace xg1_1 := bcell hst xg1_1
    replace r0 := r0.below hst
    replace ow0 := ow0.below hst
    replace ow1 := ow1.below hst
    replace og0 := og0.below hst
    replace og1 := og1.below hst
    replace hB := bstep hB hst
    have zw15 : w14.heap.size ≤ w15.heap.size := hst.size
    have dc0_0 := World.block_lt_of_cell? _ _ c0_0
    have dxw0_0 := World.block_lt_of_cell? _ _ xw0_0
    have dxw1_0 := World.block_lt_of_cell? _ _ xw1_0
    have dxg0_0 := World.block_lt_of_cell? _ _ xg0_0
    have dxg1_0 := World.block_lt_of_cell? _ _ xg1_0
    clear hst
    go_wp2_with fail
    refine (heldType_any _ (matT 5 1 t0) M0 _ _ og1.rep (by omega) HuM1.out).mono ?_
    rintro e w16 ⟨rfl, hb16⟩
    rw [HhM1.out]
    have hst := hb16
    clear dc0_0 dxw0_0 dxw1_0 dxg0_0 dxg1_0
    replace c0_0 := bcell hst c0_0
    replace c0_1 := bcell hst c0_1
    replace xw0_0 := bcell hst xw0_0
    replace xw0_1 := bcell hst xw0_1
    replace xw1_0 := bcell hst xw1_0
    replace xw1_1 := bcell hst xw1_1
    replace xg0_0 := bcell hst xg0_0
    replace xg0_1 := bcell hst xg0_1
    replace xg1_0 := bcell hst xg1_0
    replace xg1_1 := bcell hst xg1_1
    replace r0 := r0.below hst
    replace ow0 := ow0.below hst
    replace ow1 := ow1.below hst
    replace og0 := og0.below hst
    replace og1 := og1.below hst
    replace hB := bstep hB hst
    have zw16 : w15.heap.size ≤ w16.heap.size := hst.size
    have dc0_0 := World.block_lt_of_cell? _ _ c0_0
    have dxw0_0 := World.block_lt_of_cell? _ _ xw0_0
    have dxw1_0 := World.block_lt_of_cell? _ _ xw1_0
    have dxg0_0 := World.block_lt_of_cell? _ _ xg0_0
    have dxg1_0 := World.block_lt_of_cell? _ _ xg1_0
    clear hst
    go_wp2_with fail
    refine (toType_any _ t0 _ _ r0 Hb0.out).mono ?_
    rintro e w17 ⟨vb0, rfl, ⟨fb0, ob0, ndb0, lob0⟩, hb17⟩
    obtain ⟨kb0, ab0, nb0, qb0, rfl⟩ := ob0.ks
    have hst := hb17
    clear dc0_0 dxw0_0 dxw1_0 dxg0_0 dxg1_0
    replace c0_0 := bcell hst c0_0
    replace c0_1 := bcell hst c0_1
    replace xw0_0 := bcell hst xw0_0
    replace xw0_1 := bcell hst xw0_1
    replace xw1_0 := bcell hst xw1_0
    replace xw1_1 := bcell hst xw1_1
    replace xg0_0 := bcell hst xg0_0
    replace xg0_1 := bcell hst xg0_1
    replace xg1_0 := bcell hst xg1_0
    replace xg1_1 := bcell hst xg1_1
    replace r0 := r0.below hst
    replace ow0 := ow0.below hst
    replace ow1 := ow1.below hst
    replace og0 := og0.below hst
    replace og1 := og1.below hst
    replace hB := bstep hB hst
    have zw17 : w16.heap.size ≤ w17.heap.size := hst.size
    have dc0_0 := World.block_lt_of_cell? _ _ c0_0
    have dxw0_0 := World.block_lt_of_cell? _ _ xw0_0
    have dxw1_0 := World.block_lt_of_cell? _ _ xw1_0
    have dxg0_0 := World.block_lt_of_cell? _ _ xg0_0
    have dxg1_0 := World.block_lt_of_cell? _ _ xg1_0
    clear hst
    have loob0 : ∀ b ∈ fb0, w16.heap.size + 0 ≤ b := fun b hb => by have := lob0 b hb; skip; omega
    have hiob0 : ∀ b ∈ fb0, b < w17.heap.size := ob0.lt
    clear lob0
    go_wp2_with fail
    refine (implMatchPair _ t0 _ _ ob0.rep).mono ?_
    rintro e w18 ⟨vh0, vh1, rfl, ⟨fh0, fh1, oh0, oh1, hndh, loh⟩, hb18⟩
    obtain ⟨ndh0, ndh1, hdjh⟩ := List.nodup_append.mp hndh
    have djoh0 : ∀ b ∈ fh0, b ∉ fh1 := fun b h1 h2 => hdjh b h1 b h2 rfl
    have loh0 : ∀ b ∈ fh0, _ ≤ b := fun b hb => loh b (by simp [hb])
    have loh1 : ∀ b ∈ fh1, _ ≤ b := fun b hb => loh b (by simp [hb])
    clear hndh hdjh loh
    obtain ⟨kh0, ah0, nh0, qh0, rfl⟩ := oh0.ks
    obtain ⟨kh1, ah1, nh1, qh1, rfl⟩ := oh1.ks
    have hst := hb18
    clear dc0_0 dxw0_0 dxw1_0 dxg0_0 dxg1_0
    replace c0_0 := bcell hst c0_0
    replace c0_1 := bcell hst c0_1
    replace xw0_0 := bcell hst xw0_0
    replace xw0_1 := bcell hst xw0_1
    replace xw1_0 := bcell hst xw1_0
    replace xw1_1 := bcell hst xw1_1
    replace xg0_0 := bcell hst xg0_0
    replace xg0_1 := bcell hst xg0_1
    replace xg1_0 := bcell hst xg1_0
    replace xg1_1 := bcell hst xg1_1
    replace r0 := r0.below hst
    replace ow0 := ow0.below hst
    replace ow1 := ow1.below hst
    replace og0 := og0.below hst
    replace og1 := og1.below hst
    replace ob0 := ob0.below hst
    replace hB := bstep hB hst
    have zw18 : w17.heap.size ≤ w18.heap.size := hst.size
    have dc0_0 := World.block_lt_of_cell? _ _ c0_0
    have dxw0_0 := World.block_lt_of_cell? _ _ xw0_0
    have dxw1_0 := World.block_lt_of_cell? _ _ xw1_0
    have dxg0_0 := World.block_lt_of_cell? _ _ xg0_0
    have dxg1_0 := World.block_lt_of_cell? _ _ xg1_0
    clear hst
    have looh0 : ∀ b ∈ fh0, w17.heap.size + 0 ≤ b := fun b hb => by have := loh0 b hb; skip; omega
    have hioh0 : ∀ b ∈ fh0, b < w18.heap.size := oh0.lt
    clear loh0
    have looh1 : ∀ b ∈ fh1, w17.heap.size + 0 ≤ b := fun b hb => by have := loh1 b hb; skip; omega
    have hioh1 : ∀ b ∈ fh1, b < w18.heap.size := oh1.lt
    clear loh1
    clear ob0 ndb0
    go_wp2_with fail
    refine (eqType_refl _ _ (matT 5 0 t0) _ _ _ (oh0.rep.below bal2) (ow0.rep.below bal2)).mono ?_
    rintro e w19 ⟨rfl, hb19⟩
    have hst := bstep bal2 hb19
    clear dc0_0 dxw0_0 dxw1_0 dxg0_0 dxg1_0
    replace c0_0 := bcell hst c0_0
    replace c0_1 := bcell hst c0_1
    replace xw0_0 := bcell hst xw0_0
    replace xw0_1 := bcell hst xw0_1
    replace xw1_0 := bcell hst xw1_0
    replace xw1_1 := bcell hst xw1_1
    replace xg0_0 := bcell hst xg0_0
    replace xg0_1 := bcell hst xg0_1
    replace xg1_0 := bcell hst xg1_0
    replace xg1_1 := bcell hst xg1_1
    replace r0 := r0.below hst
    replace ow0 := ow0.below hst
    replace ow1 := ow1.below hst
    replace og0 := og0.below hst
    replace og1 := og1.below hst
    replace oh0 := oh0.below hst
    replace oh1 := oh1.below hst
    replace hB := bstep hB hst
    have zw19 : w18.heap.size ≤ w19.heap.size := hst.size
    have dc0_0 := World.block_lt_of_cell? _ _ c0_0
    have dxw0_0 := World.block_lt_of_cell? _ _ xw0_0
    have dxw1_0 := World.block_lt_of_cell? _ _ xw1_0
    have dxg0_0 := World.block_lt_of_cell? _ _ xg0_0
    have dxg1_0 := World.block_lt_of_cell? _ _ xg1_0
    clear hst
    have zw19p : w18.heap.size + 2 ≤ w19.heap.size := by have := hb19.size; simp at this; omega
    have xh0_0 : w19.cell? ⟨w18.heap.size, 0, none⟩ = some (.int .i64 kh0) := bcell hb19 (bcell bal1 (cell_n0 0))
    have dxh0_0 := World.block_lt_of_cell? _ _ xh0_0
    have xh0_1 : w19.cell? ⟨w18.heap.size, 1, none⟩ = some (.slice ah0 nh0 qh0) := bcell hb19 (bcell bal1 (cell_n0 1))
    have xh1_0 : w19.cell? ⟨w18.heap.size + 1, 0, none⟩ = some (.int .i64 kh1) := bcell hb19 (cell_n1 0)
    have dxh1_0 := World.block_lt_of_cell? _ _ xh1_0
    have xh1_1 : w19.cell? ⟨w18.heap.size + 1, 1, none⟩ = some (.slice ah1 nh1 qh1) := bcell hb19 (cell_n1 1)
    go_wp2_with fail
    refine (eqType_refl _ _ (matT 5 1 t0) _ _ _ oh1.rep ow1.rep).mono ?_
    rintro e w20 ⟨rfl, hb20⟩
    have hst := hb20
    clear dc0_0 dxw0_0 dxw1_0 dxg0_0 dxg1_0 dxh0_0 dxh1_0
    replace c0_0 := bcell hst c0_0
    replace c0_1 := bcell hst c0_1
    replace xw0_0 := bcell hst xw0_0
    replace xw0_1 := bcell hst xw0_1
    replace xw1_0 := bcell hst xw1_0
    replace xw1_1 := bcell hst xw1_1
    replace xg0_0 := bcell hst xg0_0
    replace xg0_1 := bcell hst xg0_1
    replace xg1_0 := bcell hst xg1_0
    replace xg1_1 := bcell hst xg1_1
    replace xh0_0 := bcell hst xh0_0
    replace xh0_1 := bcell hst xh0_1
    replace xh1_0 := bcell hst xh1_0
    replace xh1_1 := bcell hst xh1_1
    replace r0 := r0.below hst
    replace ow0 := ow0.below hst
    replace ow1 := ow1.below hst
    replace og0 := og0.below hst
    replace og1 := og1.below hst
    replace oh0 := oh0.below hst
    replace oh1 := oh1.below hst
    replace hB := bstep hB hst
    have zw20 : w19.heap.size ≤ w20.heap.size := hst.size
    have dc0_0 := World.block_lt_of_cell? _ _ c0_0
    have dxw0_0 := World.block_lt_of_cell? _ _ xw0_0
    have dxw1_0 := World.block_lt_of_cell? _ _ xw1_0
    have dxg0_0 := World.block_lt_of_cell? _ _ xg0_0
    have dxg1_0 := World.block_lt_of_cell? _ _ xg1_0
    have dxh0_0 := World.block_lt_of_cell? _ _ xh0_0
    have dxh1_0 := World.block_lt_of_cell? _ _ xh1_0
    clear hst
    go_wp2_with fail
    refine (heldType_any _ (matT 5 0 t0) 1 _ _ og0.rep (by omega) HuM0.out).mono ?_
    rintro e w21 ⟨rfl, hb21⟩
    rw [HhM0.out]
    have hst := hb21
    clear dc0_0 dxw0_0 dxw1_0 dxg0_0 dxg1_0 dxh0_0 dxh1_0
    replace c0_0 := bcell hst c0_0
    replace c0_1 := bcell hst c0_1
    replace xw0_0 := bcell hst xw0_0
    replace xw0_1 := bcell hst xw0_1
    replace xw1_0 := bcell hst xw1_0
    replace xw1_1 := bcell hst xw1_1
    replace xg0_0 := bcell hst xg0_0
    replace xg0_1 := bcell hst xg0_1
    replace xg1_0 := bcell hst xg1_0
    replace xg1_1 := bcell hst xg1_1
    replace xh0_0 := bcell hst xh0_0
    replace xh0_1 := bcell hst xh0_1
    replace xh1_0 := bcell hst xh1_0
    replace xh1_1 := bcell hst xh1_1
    replace r0 := r0.below hst
    replace ow0 := ow0.below hst
    replace ow1 := ow1.below hst
    replace og0 := og0.below hst
    replace og1 := og1.below hst
    replace oh0 := oh0.below hst
    replace oh1 := oh1.below hst
    replace hB := bstep hB hst
    have zw21 : w20.heap.size ≤ w21.heap.size := hst.size
    have dc0_0 := World.block_lt_of_cell? _ _ c0_0
    have dxw0_0 := World.block_lt_of_cell? _ _ xw0_0
    have dxw1_0 := World.block_lt_of_cell? _ _ xw1_0
    have dxg0_0 := World.block_lt_of_cell? _ _ xg0_0
    have dxg1_0 := World.block_lt_of_cell? _ _ xg1_0
    have dxh0_0 := World.block_lt_of_cell? _ _ xh0_0
    have dxh1_0 := World.block_lt_of_cell? _ _ xh1_0
    clear hst
    go_wp2_with fail
    refine (heldType_any _ (matT 5 1 t0) M0 _ _ og1.rep (by omega) HuM1.out).mono ?_
    rintro e w22 ⟨rfl, hb22⟩
    rw [HhM1.out]
    have hst := hb22
    clear dc0_0 dxw0_0 dxw1_0 dxg0_0 dxg1_0 dxh0_0 dxh1_0
    replace c0_0 := bcell hst c0_0
    replace c0_1 := bcell hst c0_1
    replace xw0_0 := bcell hst xw0_0
    replace xw0_1 := bcell hst xw0_1
    replace xw1_0 := bcell hst xw1_0
    replace xw1_1 := bcell hst xw1_1
    replace xg0_0 := bcell hst xg0_0
    replace xg0_1 := bcell hst xg0_1
    replace xg1_0 := bcell hst xg1_0
    replace xg1_1 := bcell hst xg1_1
    replace xh0_0 := bcell hst xh0_0
    replace xh0_1 := bcell hst xh0_1
    replace xh1_0 := bcell hst xh1_0
    replace xh1_1 := bcell hst xh1_1
    replace r0 := r0.below hst
    replace ow0 := ow0.below hst
    replace ow1 := ow1.below hst
    replace og0 := og0.below hst
    replace og1 := og1.below hst
    replace oh0 := oh0.below hst
    replace oh1 := oh1.below hst
    replace hB := bstep hB hst
    have zw22 : w21.heap.size ≤ w22.heap.size := hst.size
    have dc0_0 := World.block_lt_of_cell? _ _ c0_0
    have dxw0_0 := World.block_lt_of_cell? _ _ xw0_0
    have dxw1_0 := World.block_lt_of_cell? _ _ xw1_0
    have dxg0_0 := World.block_lt_of_cell? _ _ xg0_0
    have dxg1_0 := World.block_lt_of_cell? _ _ xg1_0
    have dxh0_0 := World.block_lt_of_cell? _ _ xh0_0
    have dxh1_0 := World.block_lt_of_cell? _ _ xh1_0
    clear hst
    go_wp2_with fail
    go_ret
    exact ⟨rfl, hB⟩
  · have s0 := szr_neg h0
    have S0 := Lib.hid s0
    clear s0 h0
    go_enter Try.func25, Try.ntmps25
    go_wp2_with fail
    refine (szType_any _ t0 _ _ _ (r0.below bal1) (by omega) (by omega)).mono ?_
    rintro e w23 ⟨rfl, hb23⟩
    rw [S0.out]
    have hB := bstep bal1 hb23
    have zw23 := hB.size
    have c0_0 : w23.cell? ⟨w.heap.size, 0, none⟩ = some (.int .i64 k0) := bcell hb23 (cell_n0 0)
    have c0_1 : w23.cell? ⟨w.heap.size, 1, none⟩ = some (.slice a0 n0 q0) := bcell hb23 (cell_n0 1)
    replace r0 := r0.below hB
    have dc0_0 := World.block_lt_of_cell? _ _ c0_0
    go_wp2_with fail
    go_ret
    exact ⟨rfl, hB⟩
end Go.Proofs.Ytjkkahlcbhcifaa
