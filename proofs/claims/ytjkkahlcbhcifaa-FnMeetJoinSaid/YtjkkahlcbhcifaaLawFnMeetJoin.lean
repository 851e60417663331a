/-
  FnMeetJoin returns true: the walk.
-/
import Derived.Test.YtjkkahlcbhcifaaFn
import Derived.Test.YtjkkahlcbhcifaaDraws
namespace Go.Proofs.Ytjkkahlcbhcifaa
open Go.RowKit
set_option linter.unusedVariables false
set_option linter.unusedSimpArgs false
set_option maxRecDepth 100000

theorem leaf_FnMeetJoin_0 {t1 u1 : Ty} (h0 : (joinB t1 u1) = true) (h1 : (consB t1 (joinT t1 u1)) = true) (h2 : (Ty.same (meetT t1 (joinT t1 u1)) t1) = true) : (consB u1 (joinT t1 u1)) = true := by
  have l := law_FnMeetJoin t1 u1
  first | (simp_all; done) | grind

theorem leaf_FnMeetJoin_1 {t1 u1 : Ty} (h0 : (joinB t1 u1) = true) (h1 : (consB t1 (joinT t1 u1)) = true) (h2 : (Ty.same (meetT t1 (joinT t1 u1)) t1) = false) : False := by
  have l := law_FnMeetJoin t1 u1
  first | (simp_all; done) | grind

theorem leaf_FnMeetJoin_2 {t1 u1 : Ty} (h0 : (joinB t1 u1) = true) (h1 : (consB t1 (joinT t1 u1)) = false) : False := by
  have l := law_FnMeetJoin t1 u1
  first | (simp_all; done) | grind
set_option maxHeartbeats 8000000 in
theorem walk_FnMeetJoin (y0 : Value) (w : World) (r0 : ByRep w w.heap.size y0) :
    Calls Try.prog 27 #[y0] w fun e w' => e = .returned (.bool true) ∧ Below w.heap.size w w' := by
  obtain ⟨a0, n0, q0, rfl⟩ := r0.shape
  go_enter Try.func27, Try.ntmps27
  rcases Bool.eq_false_or_eq_true (decide ((n0 : Int) > 1048576)) with q1 | q1
  · (try rw [q1])
    go_wp2_with fail
    refine bodyPost_ret (v := .bool true) (by simp [results, Try.results27, go_sem]) rfl ?_
    exact ⟨rfl, (Below.refl _ _)⟩
  · (try rw [q1])
    go_wp2_with fail
    refine (specDrawJoinTypes _ _ _ (r0.below (Below.refl _ _)) (by first | omega | (simp; done) | (simp; omega))).mono ?_
    rintro e w1 ⟨t1, u1, v1, x1, rfl, hv1, hx1, hb1⟩
    obtain ⟨kv1, av1, nv1, qv1, rfl⟩ := hv1.shape
    obtain ⟨kx1, ax1, nx1, qx1, rfl⟩ := hx1.shape
    have hB := (bstep (Below.refl _ _) hb1)
    have zw1 := hB.size
    go_wp2_with fail
    refine (implJoinTypes _ _ t1 u1 _ _ _ (hv1.below bal2).all (hx1.below bal2).all).mono ?_
    rintro e w2 ⟨v2, rfl, hv2, hb2⟩
    obtain ⟨kr2, ar2, nr2, qr2, rfl⟩ := hv2.shape
    replace hB := (bstep ((hB.alloc hB.size _).alloc (hB.alloc hB.size _).size _) hb2)
    have zw2 := hB.size
    have c0_0 : w2.cell? ⟨w1.heap.size, 0, none⟩ = some (.int .i64 kv1) := bcell hb2 (bcell bal1 (cell_new (by simp) 0))
    have c0_1 : w2.cell? ⟨w1.heap.size, 1, none⟩ = some (.slice av1 nv1 qv1) := bcell hb2 (bcell bal1 (cell_new (by simp) 1))
    have c1_0 : w2.cell? ⟨w1.heap.size + 1, 0, none⟩ = some (.int .i64 kx1) := bcell hb2 (cell_new (by simp) 0)
    have c1_1 : w2.cell? ⟨w1.heap.size + 1, 1, none⟩ = some (.slice ax1 nx1 qx1) := bcell hb2 (cell_new (by simp) 1)
    replace hv1 := (hv1.below (bstep bal2 hb2))
    replace hx1 := (hx1.below (bstep bal2 hb2))
    have d0_w2 := World.block_lt_of_cell? _ _ c0_0
    have d1_w2 := World.block_lt_of_cell? _ _ c1_0
    go_wp2_with fail
    refine (specJoinTypes _ _ t1 u1 _ _ _ (hv1.below bal1).all (hx1.below bal1).all).mono ?_
    rintro e w3 ⟨v3, rfl, hv3, hb3⟩
    obtain ⟨kr3, ar3, nr3, qr3, rfl⟩ := hv3.shape
    replace hB := (bstep (hB.alloc hB.size _) hb3)
    have zw3 := hB.size
    have c2_0 : w3.cell? ⟨w2.heap.size, 0, none⟩ = some (.int .i64 kr2) := bcell hb3 (cell_new (by simp) 0)
    have c2_1 : w3.cell? ⟨w2.heap.size, 1, none⟩ = some (.slice ar2 nr2 qr2) := bcell hb3 (cell_new (by simp) 1)
    replace c0_0 : w3.cell? ⟨w1.heap.size, 0, none⟩ = some (.int .i64 kv1) := bcell hb3 (bcell bal1 (c0_0))
    replace c0_1 : w3.cell? ⟨w1.heap.size, 1, none⟩ = some (.slice av1 nv1 qv1) := bcell hb3 (bcell bal1 (c0_1))
    replace c1_0 : w3.cell? ⟨w1.heap.size + 1, 0, none⟩ = some (.int .i64 kx1) := bcell hb3 (bcell bal1 (c1_0))
    replace c1_1 : w3.cell? ⟨w1.heap.size + 1, 1, none⟩ = some (.slice ax1 nx1 qx1) := bcell hb3 (bcell bal1 (c1_1))
    replace hv2 := (hv2.below (bstep bal1 hb3))
    replace hv1 := (hv1.below (bstep bal1 hb3))
    replace hx1 := (hx1.below (bstep bal1 hb3))
    have d2_w3 := World.block_lt_of_cell? _ _ c2_0
    have d0_w3 := World.block_lt_of_cell? _ _ c0_0
    have d1_w3 := World.block_lt_of_cell? _ _ c1_0
    go_wp2_with fail
    refine (implTypeSameSelf _ _ (joinT t1 u1) _ _ _ (hv2.below bal1).rep.all (hv3.below bal1).rep.all).mono ?_
    rintro e w4 ⟨rfl, hb4⟩
    replace hB := (bstep (hB.alloc hB.size _) hb4)
    have zw4 := hB.size
    replace c0_0 : w4.cell? ⟨w1.heap.size, 0, none⟩ = some (.int .i64 kv1) := bcell hb4 (bcell bal1 (c0_0))
    replace c0_1 : w4.cell? ⟨w1.heap.size, 1, none⟩ = some (.slice av1 nv1 qv1) := bcell hb4 (bcell bal1 (c0_1))
    replace c2_0 : w4.cell? ⟨w2.heap.size, 0, none⟩ = some (.int .i64 kr2) := bcell hb4 (bcell bal1 (c2_0))
    replace c2_1 : w4.cell? ⟨w2.heap.size, 1, none⟩ = some (.slice ar2 nr2 qr2) := bcell hb4 (bcell bal1 (c2_1))
    replace c1_0 : w4.cell? ⟨w1.heap.size + 1, 0, none⟩ = some (.int .i64 kx1) := bcell hb4 (bcell bal1 (c1_0))
    replace c1_1 : w4.cell? ⟨w1.heap.size + 1, 1, none⟩ = some (.slice ax1 nx1 qx1) := bcell hb4 (bcell bal1 (c1_1))
    have c3_0 : w4.cell? ⟨w3.heap.size, 0, none⟩ = some (.int .i64 kr3) := bcell hb4 (cell_new (by simp) 0)
    have c3_1 : w4.cell? ⟨w3.heap.size, 1, none⟩ = some (.slice ar3 nr3 qr3) := bcell hb4 (cell_new (by simp) 1)
    replace hv1 := (hv1.below (bstep bal1 hb4))
    replace hv2 := (hv2.below (bstep bal1 hb4))
    replace hx1 := (hx1.below (bstep bal1 hb4))
    replace hv3 := (hv3.below (bstep bal1 hb4))
    have d0_w4 := World.block_lt_of_cell? _ _ c0_0
    have d2_w4 := World.block_lt_of_cell? _ _ c2_0
    have d1_w4 := World.block_lt_of_cell? _ _ c1_0
    have d3_w4 := World.block_lt_of_cell? _ _ c3_0
    rcases Bool.eq_false_or_eq_true (joinB t1 u1) with q2 | q2
    · (try rw [q2])
      have Hq2 := Lib.hid q2
      clear q2
      go_wp2_with fail
      refine (implMeetTypes _ _ t1 (joinT t1 u1) _ _ _ hv1.all hv2.rep.all).mono ?_
      rintro e w5 ⟨v5, rfl, hv5, hb5⟩
      obtain ⟨kr5, ar5, nr5, qr5, rfl⟩ := hv5.shape
      replace hB := (bstep hB hb5)
      have zw5 := hB.size
      replace c0_0 : w5.cell? ⟨w1.heap.size, 0, none⟩ = some (.int .i64 kv1) := bcell hb5 (c0_0)
      replace c0_1 : w5.cell? ⟨w1.heap.size, 1, none⟩ = some (.slice av1 nv1 qv1) := bcell hb5 (c0_1)
      replace c1_0 : w5.cell? ⟨w1.heap.size + 1, 0, none⟩ = some (.int .i64 kx1) := bcell hb5 (c1_0)
      replace c1_1 : w5.cell? ⟨w1.heap.size + 1, 1, none⟩ = some (.slice ax1 nx1 qx1) := bcell hb5 (c1_1)
      replace c2_0 : w5.cell? ⟨w2.heap.size, 0, none⟩ = some (.int .i64 kr2) := bcell hb5 (c2_0)
      replace c2_1 : w5.cell? ⟨w2.heap.size, 1, none⟩ = some (.slice ar2 nr2 qr2) := bcell hb5 (c2_1)
      replace hv1 := (hv1.below hb5)
      replace hx1 := (hx1.below hb5)
      replace hv2 := (hv2.below hb5)
      have d0_w5 := World.block_lt_of_cell? _ _ c0_0
      have d1_w5 := World.block_lt_of_cell? _ _ c1_0
      have d2_w5 := World.block_lt_of_cell? _ _ c2_0
      rcases Bool.eq_false_or_eq_true (consB t1 (joinT t1 u1)) with q3 | q3
      · (try rw [q3])
        have Hq3 := Lib.hid q3
        clear q3
        rcases Bool.eq_false_or_eq_true (Ty.same (meetT t1 (joinT t1 u1)) t1) with q4 | q4
        · have Hq4 := Lib.hid q4
          clear q4
          go_wp2_with fail
          refine (implTypeSame _ _ (meetT t1 (joinT t1 u1)) t1 _ _ _ (hv5.below bal1).rep.all (hv1.below bal1).all).mono ?_
          rintro e w6 ⟨rfl, hb6⟩
          rw [Hq4.out]
          replace hB := (bstep (hB.alloc hB.size _) hb6)
          have zw6 := hB.size
          replace c1_0 : w6.cell? ⟨w1.heap.size + 1, 0, none⟩ = some (.int .i64 kx1) := bcell hb6 (bcell bal1 (c1_0))
          replace c1_1 : w6.cell? ⟨w1.heap.size + 1, 1, none⟩ = some (.slice ax1 nx1 qx1) := bcell hb6 (bcell bal1 (c1_1))
          replace c2_0 : w6.cell? ⟨w2.heap.size, 0, none⟩ = some (.int .i64 kr2) := bcell hb6 (bcell bal1 (c2_0))
          replace c2_1 : w6.cell? ⟨w2.heap.size, 1, none⟩ = some (.slice ar2 nr2 qr2) := bcell hb6 (bcell bal1 (c2_1))
          replace hx1 := (hx1.below (bstep bal1 hb6))
          replace hv2 := (hv2.below (bstep bal1 hb6))
          have d1_w6 := World.block_lt_of_cell? _ _ c1_0
          have d2_w6 := World.block_lt_of_cell? _ _ c2_0
          go_wp2_with fail
          refine (implConsistentB _ _ u1 (joinT t1 u1) _ _ _ hx1.all hv2.rep.all).mono ?_
          rintro e w7 ⟨rfl, hb7⟩
          replace hB := (bstep hB hb7)
          have zw7 := hB.size
          go_wp2_with fail
          have hE := leaf_FnMeetJoin_0 Hq2.out Hq3.out Hq4.out
          refine bodyPost_ret (v := .bool (consB u1 (joinT t1 u1))) (by simp [results, Try.results27, go_sem]) rfl ?_
          exact ⟨by rw [hE], hB⟩
        · have Hq4 := Lib.hid q4
          clear q4
          go_wp2_with fail
          refine (implTypeSame _ _ (meetT t1 (joinT t1 u1)) t1 _ _ _ (hv5.below bal1).rep.all (hv1.below bal1).all).mono ?_
          rintro e w8 ⟨rfl, hb8⟩
          rw [Hq4.out]
          replace hB := (bstep (hB.alloc hB.size _) hb8)
          have zw8 := hB.size
          go_wp2_with fail
          exact (leaf_FnMeetJoin_1 Hq2.out Hq3.out Hq4.out).elim
      · (try rw [q3])
        have Hq3 := Lib.hid q3
        clear q3
        go_wp2_with fail
        exact (leaf_FnMeetJoin_2 Hq2.out Hq3.out).elim
    · (try rw [q2])
      have Hq2 := Lib.hid q2
      clear q2
      go_wp2_with fail
      refine (implTypeSameSelf _ _ (joinT t1 u1) _ _ _ hv2.rep.all hv3.rep.all).mono ?_
      rintro e w9 ⟨rfl, hb9⟩
      replace hB := (bstep hB hb9)
      have zw9 := hB.size
      go_wp2_with fail
      refine bodyPost_ret (v := .bool true) (by simp [results, Try.results27, go_sem]) rfl ?_
      exact ⟨rfl, hB⟩
end Go.Proofs.Ytjkkahlcbhcifaa
