/-
  FnIsStatic returns true: the walk.
-/
import Derived.Test.YtjkkahlcbhcifaaFn
import Derived.Test.YtjkkahlcbhcifaaDraws
import Derived.Test.YtjkkahlcbhcifaaDrawCh
namespace Go.Proofs.Ytjkkahlcbhcifaa
open Go.RowKit
set_option linter.unusedVariables false
set_option linter.unusedSimpArgs false
set_option maxRecDepth 100000

theorem leaf_FnIsStatic_0 {t1 t6 : Ty} (h0 : (Ty.valid t1) = true) (h1 : (staticB t1) = true) (h2 : ((Ty.anyV t1) == 0) = true) (h3 : (precB t6 t1) = true) : (Ty.same t6 t1) = true := by
  have l := law_FnIsStatic t6 t1
  first | (simp_all; done) | grind

theorem leaf_FnIsStatic_1 {t1 : Ty} (h0 : (Ty.valid t1) = true) (h1 : (staticB t1) = true) (h2 : ((Ty.anyV t1) == 0) = false) : False := by
  have l := law_FnIsStatic Ty.none t1
  first | (simp_all; done) | grind

theorem leaf_FnIsStatic_2 {t1 : Ty} (h0 : (Ty.valid t1) = true) (h1 : (staticB t1) = false) (h2 : ((Ty.anyV t1) == 0) = true) : False := by
  have l := law_FnIsStatic Ty.none t1
  first | (simp_all; done) | grind

theorem leaf_FnIsStatic_3 {t1 : Ty} (h0 : (Ty.valid t1) = false) (h1 : (staticB t1) = true) : False := by
  have l := law_FnIsStatic Ty.none t1
  first | (simp_all; done) | grind
set_option maxHeartbeats 8000000 in
theorem walk_FnIsStatic (y0 y1 : Value) (w : World) (r0 : ByRep w w.heap.size y0) (r1 : ByRep w w.heap.size y1) :
    Calls Try.prog 21 #[y0, y1] w fun e w' => e = .returned (.bool true) ∧ Below w.heap.size w w' := by
  obtain ⟨a0, n0, q0, rfl⟩ := r0.shape
  obtain ⟨a1, n1, q1, rfl⟩ := r1.shape
  go_enter Try.func21, Try.ntmps21
  rcases Bool.eq_false_or_eq_true (decide ((n0 : Int) > 1048576)) with q1 | q1
  · skip
    go_wp2_with fail
    refine bodyPost_ret (v := .bool true) (by simp [results, Try.results21, go_sem]) rfl ?_
    exact ⟨rfl, (Below.refl _ _)⟩
  · skip
    rcases Bool.eq_false_or_eq_true (decide ((n1 : Int) > 1048576)) with q2 | q2
    · (try rw [q2])
      go_wp2_with fail
      refine bodyPost_ret (v := .bool true) (by simp [results, Try.results21, go_sem]) rfl ?_
      exact ⟨rfl, (Below.refl _ _)⟩
    · (try rw [q2])
      go_wp2_with fail
      refine (specDrawIsStatic _ _ _ (r0.below (Below.refl _ _)) (by first | omega | (simp; done) | (simp; omega))).mono ?_
      rintro e w1 ⟨t1, v1, rfl, hv1, hb1⟩
      obtain ⟨kv1, av1, nv1, qv1, rfl⟩ := hv1.shape
      have hB := (bstep (Below.refl _ _) hb1)
      have zw1 := hB.size
      go_wp2_with fail
      refine (implIsStaticB _ t1 _ _ (hv1.below bal1).all).mono ?_
      rintro e w2 ⟨rfl, hb2⟩
      replace hB := (bstep (hB.alloc hB.size _) hb2)
      have zw2 := hB.size
      have c0_0 : w2.cell? ⟨w1.heap.size, 0, none⟩ = some (.int .i64 kv1) := bcell hb2 (cell_new (by simp) 0)
      have c0_1 : w2.cell? ⟨w1.heap.size, 1, none⟩ = some (.slice av1 nv1 qv1) := bcell hb2 (cell_new (by simp) 1)
      replace hv1 := (hv1.below (bstep bal1 hb2))
      have d0_w2 := World.block_lt_of_cell? _ _ c0_0
      rcases Bool.eq_false_or_eq_true (Ty.valid t1) with q3 | q3
      · have Hq3 := Lib.hid q3
        clear q3
        rcases Bool.eq_false_or_eq_true (staticB t1) with q4 | q4
        · (try rw [q4])
          have Hq4 := Lib.hid q4
          clear q4
          go_wp2_with fail
          refine (specIsStaticB _ t1 _ _ hv1.all).mono ?_
          rintro e w3 ⟨rfl, hb3⟩
          rw [Hq4.out]
          replace hB := (bstep hB hb3)
          have zw3 := hB.size
          replace c0_0 : w3.cell? ⟨w1.heap.size, 0, none⟩ = some (.int .i64 kv1) := bcell hb3 (c0_0)
          replace c0_1 : w3.cell? ⟨w1.heap.size, 1, none⟩ = some (.slice av1 nv1 qv1) := bcell hb3 (c0_1)
          replace hv1 := (hv1.below hb3)
          have d0_w3 := World.block_lt_of_cell? _ _ c0_0
          go_wp2_with fail
          refine (implTypeValid _ t1 _ _ hv1.all).mono ?_
          rintro e w4 ⟨rfl, hb4⟩
          rw [Hq3.out]
          replace hB := (bstep hB hb4)
          have zw4 := hB.size
          replace c0_0 : w4.cell? ⟨w1.heap.size, 0, none⟩ = some (.int .i64 kv1) := bcell hb4 (c0_0)
          replace c0_1 : w4.cell? ⟨w1.heap.size, 1, none⟩ = some (.slice av1 nv1 qv1) := bcell hb4 (c0_1)
          replace hv1 := (hv1.below hb4)
          have d0_w4 := World.block_lt_of_cell? _ _ c0_0
          go_wp2_with fail
          refine (implCountAny _ t1 _ _ hv1.all).mono ?_
          rintro e w5 ⟨rfl, hb5⟩
          have hi5 := Ty.anyV_bd t1
          replace hB := (bstep hB hb5)
          have zw5 := hB.size
          replace c0_0 : w5.cell? ⟨w1.heap.size, 0, none⟩ = some (.int .i64 kv1) := bcell hb5 (c0_0)
          replace c0_1 : w5.cell? ⟨w1.heap.size, 1, none⟩ = some (.slice av1 nv1 qv1) := bcell hb5 (c0_1)
          replace hv1 := (hv1.below hb5)
          have d0_w5 := World.block_lt_of_cell? _ _ c0_0
          rcases Bool.eq_false_or_eq_true ((Ty.anyV t1) == 0) with q5 | q5
          · (try rw [q5])
            go_wp2_with fail
            refine (specDrawChain _ _ _ (r1.below hB) (by first | omega | (simp; done) | (simp; omega))).mono ?_
            rintro e w6 ⟨t6, u6, s6, v6, x6, y6, rfl, hv6, hx6, hy6, hb6⟩
            obtain ⟨kv6, av6, nv6, qv6, rfl⟩ := hv6.shape
            obtain ⟨kx6, ax6, nx6, qx6, rfl⟩ := hx6.shape
            obtain ⟨ky6, ay6, ny6, qy6, rfl⟩ := hy6.shape
            replace hB := (bstep hB hb6)
            have zw6 := hB.size
            replace c0_0 : w6.cell? ⟨w1.heap.size, 0, none⟩ = some (.int .i64 kv1) := bcell hb6 (c0_0)
            replace c0_1 : w6.cell? ⟨w1.heap.size, 1, none⟩ = some (.slice av1 nv1 qv1) := bcell hb6 (c0_1)
            replace hv1 := (hv1.below hb6)
            have d0_w6 := World.block_lt_of_cell? _ _ c0_0
            have d0_w6_1 : w1.heap.size < w6.heap.size + 1 := Nat.lt_succ_of_lt d0_w6
            have d0_w6_2 : w1.heap.size < w6.heap.size + 1 + 1 := Nat.lt_succ_of_lt d0_w6_1
            rcases Bool.eq_false_or_eq_true (precB t6 t1) with q6 | q6
            · have Hq6 := Lib.hid q6
              clear q6
              go_wp2_with fail
              refine (implPreciseB _ _ t6 t1 _ _ _ (hv6.below bal3).all (hv1.below bal3).all).mono ?_
              rintro e w7 ⟨rfl, hb7⟩
              rw [Hq6.out]
              replace hB := (bstep (((hB.alloc hB.size _).alloc (hB.alloc hB.size _).size _).alloc ((hB.alloc hB.size _).alloc (hB.alloc hB.size _).size _).size _) hb7)
              have zw7 := hB.size
              have c1_0 : w7.cell? ⟨w6.heap.size, 0, none⟩ = some (.int .i64 kv6) := bcell hb7 (bcell bal1 (bcell bal1 (cell_new (by simp) 0)))
              have c1_1 : w7.cell? ⟨w6.heap.size, 1, none⟩ = some (.slice av6 nv6 qv6) := bcell hb7 (bcell bal1 (bcell bal1 (cell_new (by simp) 1)))
              replace c0_0 : w7.cell? ⟨w1.heap.size, 0, none⟩ = some (.int .i64 kv1) := bcell hb7 (bcell bal1 (bcell bal1 (bcell bal1 (c0_0))))
              replace c0_1 : w7.cell? ⟨w1.heap.size, 1, none⟩ = some (.slice av1 nv1 qv1) := bcell hb7 (bcell bal1 (bcell bal1 (bcell bal1 (c0_1))))
              replace hv6 := (hv6.below (bstep bal3 hb7))
              replace hv1 := (hv1.below (bstep bal3 hb7))
              have d1_w7 := World.block_lt_of_cell? _ _ c1_0
              have d0_w7 := World.block_lt_of_cell? _ _ c0_0
              go_wp2_with fail
              refine (implTypeSame _ _ t6 t1 _ _ _ hv6.all hv1.all).mono ?_
              rintro e w8 ⟨rfl, hb8⟩
              replace hB := (bstep hB hb8)
              have zw8 := hB.size
              go_wp2_with fail
              have hE := leaf_FnIsStatic_0 Hq3.out Hq4.out q5 Hq6.out
              refine bodyPost_ret (v := .bool (Ty.same t6 t1)) (by simp [results, Try.results21, go_sem]) rfl ?_
              exact ⟨by rw [hE], hB⟩
            · have Hq6 := Lib.hid q6
              clear q6
              go_wp2_with fail
              refine (implPreciseB _ _ t6 t1 _ _ _ (hv6.below bal3).all (hv1.below bal3).all).mono ?_
              rintro e w9 ⟨rfl, hb9⟩
              rw [Hq6.out]
              replace hB := (bstep (((hB.alloc hB.size _).alloc (hB.alloc hB.size _).size _).alloc ((hB.alloc hB.size _).alloc (hB.alloc hB.size _).size _).size _) hb9)
              have zw9 := hB.size
              go_wp2_with fail
              refine bodyPost_ret (v := .bool true) (by simp [results, Try.results21, go_sem]) rfl ?_
              exact ⟨rfl, hB⟩
          · (try rw [q5])
            go_wp2_with fail
            exact (leaf_FnIsStatic_1 Hq3.out Hq4.out q5).elim
        · (try rw [q4])
          have Hq4 := Lib.hid q4
          clear q4
          go_wp2_with fail
          refine (specIsStaticB _ t1 _ _ hv1.all).mono ?_
          rintro e w10 ⟨rfl, hb10⟩
          rw [Hq4.out]
          replace hB := (bstep hB hb10)
          have zw10 := hB.size
          replace c0_0 : w10.cell? ⟨w1.heap.size, 0, none⟩ = some (.int .i64 kv1) := bcell hb10 (c0_0)
          replace c0_1 : w10.cell? ⟨w1.heap.size, 1, none⟩ = some (.slice av1 nv1 qv1) := bcell hb10 (c0_1)
          replace hv1 := (hv1.below hb10)
          have d0_w10 := World.block_lt_of_cell? _ _ c0_0
          go_wp2_with fail
          refine (implTypeValid _ t1 _ _ hv1.all).mono ?_
          rintro e w11 ⟨rfl, hb11⟩
          rw [Hq3.out]
          replace hB := (bstep hB hb11)
          have zw11 := hB.size
          replace c0_0 : w11.cell? ⟨w1.heap.size, 0, none⟩ = some (.int .i64 kv1) := bcell hb11 (c0_0)
          replace c0_1 : w11.cell? ⟨w1.heap.size, 1, none⟩ = some (.slice av1 nv1 qv1) := bcell hb11 (c0_1)
          replace hv1 := (hv1.below hb11)
          have d0_w11 := World.block_lt_of_cell? _ _ c0_0
          go_wp2_with fail
          refine (implCountAny _ t1 _ _ hv1.all).mono ?_
          rintro e w12 ⟨rfl, hb12⟩
          have hi12 := Ty.anyV_bd t1
          replace hB := (bstep hB hb12)
          have zw12 := hB.size
          rcases Bool.eq_false_or_eq_true ((Ty.anyV t1) == 0) with q7 | q7
          · (try rw [q7])
            go_wp2_with fail
            exact (leaf_FnIsStatic_2 Hq3.out Hq4.out q7).elim
          · (try rw [q7])
            go_wp2_with fail
            refine (specDrawChain _ _ _ (r1.below hB) (by first | omega | (simp; done) | (simp; omega))).mono ?_
            rintro e w13 ⟨t13, u13, s13, v13, x13, y13, rfl, hv13, hx13, hy13, hb13⟩
            obtain ⟨kv13, av13, nv13, qv13, rfl⟩ := hv13.shape
            obtain ⟨kx13, ax13, nx13, qx13, rfl⟩ := hx13.shape
            obtain ⟨ky13, ay13, ny13, qy13, rfl⟩ := hy13.shape
            replace hB := (bstep hB hb13)
            have zw13 := hB.size
            go_wp2_with fail
            refine bodyPost_ret (v := .bool true) (by simp [results, Try.results21, go_sem]) rfl ?_
            exact ⟨rfl, (((hB.alloc hB.size _).alloc (hB.alloc hB.size _).size _).alloc ((hB.alloc hB.size _).alloc (hB.alloc hB.size _).size _).size _)⟩
      · have Hq3 := Lib.hid q3
        clear q3
        go_wp2_with fail
        refine (specIsStaticB _ t1 _ _ hv1.all).mono ?_
        rintro e w14 ⟨rfl, hb14⟩
        replace hB := (bstep hB hb14)
        have zw14 := hB.size
        replace c0_0 : w14.cell? ⟨w1.heap.size, 0, none⟩ = some (.int .i64 kv1) := bcell hb14 (c0_0)
        replace c0_1 : w14.cell? ⟨w1.heap.size, 1, none⟩ = some (.slice av1 nv1 qv1) := bcell hb14 (c0_1)
        replace hv1 := (hv1.below hb14)
        have d0_w14 := World.block_lt_of_cell? _ _ c0_0
        go_wp2_with fail
        refine (implTypeValid _ t1 _ _ hv1.all).mono ?_
        rintro e w15 ⟨rfl, hb15⟩
        rw [Hq3.out]
        replace hB := (bstep hB hb15)
        have zw15 := hB.size
        rcases Bool.eq_false_or_eq_true (staticB t1) with q8 | q8
        · (try rw [q8])
          have Hq8 := Lib.hid q8
          clear q8
          go_wp2_with fail
          exact (leaf_FnIsStatic_3 Hq3.out Hq8.out).elim
        · (try rw [q8])
          have Hq8 := Lib.hid q8
          clear q8
          go_wp2_with fail
          refine (specDrawChain _ _ _ (r1.below hB) (by first | omega | (simp; done) | (simp; omega))).mono ?_
          rintro e w16 ⟨t16, u16, s16, v16, x16, y16, rfl, hv16, hx16, hy16, hb16⟩
          obtain ⟨kv16, av16, nv16, qv16, rfl⟩ := hv16.shape
          obtain ⟨kx16, ax16, nx16, qx16, rfl⟩ := hx16.shape
          obtain ⟨ky16, ay16, ny16, qy16, rfl⟩ := hy16.shape
          replace hB := (bstep hB hb16)
          have zw16 := hB.size
          go_wp2_with fail
          refine bodyPost_ret (v := .bool true) (by simp [results, Try.results21, go_sem]) rfl ?_
          exact ⟨rfl, (((hB.alloc hB.size _).alloc (hB.alloc hB.size _).size _).alloc ((hB.alloc hB.size _).alloc (hB.alloc hB.size _).size _).size _)⟩
end Go.Proofs.Ytjkkahlcbhcifaa
