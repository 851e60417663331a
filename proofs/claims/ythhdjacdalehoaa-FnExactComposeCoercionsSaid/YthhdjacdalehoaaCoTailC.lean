/-
  The check of a coercion by the reference: kinds 5.
-/
import Derived.Test.YthhdjacdalehoaaCoDrop
namespace Go.Proofs.Ythhdjacdalehoaa
open Go.RowKit
set_option linter.unusedVariables false
set_option linter.unusedSimpArgs false
set_option maxRecDepth 100000

theorem leaf_tail5_nil_0 (g l : Int) : (false : Bool) = (Co.nodeB 5 g l 0 0 0) := by
  first | (simp_all [Co.nodeB, winB, plainB, coOps]; done) | grind [Co.nodeB, winB, labelB, plainB, coOps] | (simp_all [Co.nodeB, winB, labelB, plainB, coOps]; omega)

theorem leaf_tail5_cons_1 (g l k0 g0 : Int) (n : Nat) (h0 : ((n : Int) == 1) = true) (h1 : (labelB l) = true) (h2 : (g == 0) = true) (h3 : (k0 == 5) = true) : (false : Bool) = (Co.nodeB 5 g l (n : Int) k0 g0) := by
  first | (simp_all [Co.nodeB, winB, plainB, coOps]; done) | grind [Co.nodeB, winB, labelB, plainB, coOps] | (simp_all [Co.nodeB, winB, labelB, plainB, coOps]; omega)

theorem leaf_tail5_cons_2 (g l k0 g0 : Int) (n : Nat) (h0 : ((n : Int) == 1) = true) (h1 : (labelB l) = true) (h2 : (g == 0) = true) (h3 : (k0 == 5) = false) (h4 : (k0 == 1) = true) : (!(g0 == 1) : Bool) = (Co.nodeB 5 g l (n : Int) k0 g0) := by
  first | (simp_all [Co.nodeB, winB, plainB, coOps]; done) | grind [Co.nodeB, winB, labelB, plainB, coOps] | (simp_all [Co.nodeB, winB, labelB, plainB, coOps]; omega)

theorem leaf_tail5_cons_3 (g l k0 g0 : Int) (n : Nat) (h0 : ((n : Int) == 1) = true) (h1 : (labelB l) = true) (h2 : (g == 0) = true) (h3 : (k0 == 5) = false) (h4 : (k0 == 1) = false) : (true : Bool) = (Co.nodeB 5 g l (n : Int) k0 g0) := by
  first | (simp_all [Co.nodeB, winB, plainB, coOps]; done) | grind [Co.nodeB, winB, labelB, plainB, coOps] | (simp_all [Co.nodeB, winB, labelB, plainB, coOps]; omega)

theorem leaf_tail5_cons_4 (g l k0 g0 : Int) (n : Nat) (h0 : ((n : Int) == 1) = true) (h1 : (labelB l) = true) (h2 : (g == 0) = false) : (false : Bool) = (Co.nodeB 5 g l (n : Int) k0 g0) := by
  first | (simp_all [Co.nodeB, winB, plainB, coOps]; done) | grind [Co.nodeB, winB, labelB, plainB, coOps] | (simp_all [Co.nodeB, winB, labelB, plainB, coOps]; omega)

theorem leaf_tail5_cons_5 (g l k0 g0 : Int) (n : Nat) (h0 : ((n : Int) == 1) = true) (h1 : (labelB l) = false) : (false : Bool) = (Co.nodeB 5 g l (n : Int) k0 g0) := by
  first | (simp_all [Co.nodeB, winB, plainB, coOps]; done) | grind [Co.nodeB, winB, labelB, plainB, coOps] | (simp_all [Co.nodeB, winB, labelB, plainB, coOps]; omega)

theorem leaf_tail5_cons_6 (g l k0 g0 : Int) (n : Nat) (h0 : ((n : Int) == 1) = false) : (false : Bool) = (Co.nodeB 5 g l (n : Int) k0 g0) := by
  first | (simp_all [Co.nodeB, winB, plainB, coOps]; done) | grind [Co.nodeB, winB, labelB, plainB, coOps] | (simp_all [Co.nodeB, winB, labelB, plainB, coOps]; omega)

set_option maxHeartbeats 8000000 in
theorem specShapeK5 (F : Nat → Prop) (g l d : Int) (ts : List Co) (w : World) (a : Option Addr) (n cap : Nat) (h2 : n ≤ cap) (h3 : cap ≤ 9223372036854775807) (hr : CosRep F w ts (.slice a n cap)) (HN : Hid (ts.length = n)) (hd0 : 0 ≤ d) (hd5 : d ≤ 100)
    (IHH : Hid (∀ t' ∈ ts, ∀ (d : Int) (y : Value) (W : World), CoRep F W t' y → 0 ≤ d → d ≤ 100 → Calls Try.prog 41 #[y, .int .i64 d] W fun e W' => e = .returned (.bool (t'.shape d)) ∧ Below W.heap.size W W')) :
    Calls Try.prog 41 #[.agg #[.int .i64 5, .int .i64 g, .int .i64 l, .slice a n cap], .int .i64 d] w fun e w' => e = .returned (.bool (decide (1 ≤ d) && Co.nodeB 5 g l (n : Int) (Co.headK ts) (Co.headG ts) && Co.shapes ts (d - 1))) ∧ Below w.heap.size w w' := by
  by_cases hd : d < 1
  · obtain rfl : d = 0 := by omega
    go_enter Try.func41, Try.ntmps41
    go_wp2_with fail
    go_ret
    exact ⟨ret_bool (by simp), bal1⟩
  · have hd1 : 1 ≤ d := by omega
    have hdec : decide (1 ≤ d) = true := by simpa using hd1
    have hdlt : decide (d < 1) = false := by simpa using hd
    have hwr : IntKind.i64.wrap (d - 1) = d - 1 := IntWalk.i64_in _ (by omega)
    rw [hdec]
    clear hd hdec
    go_enter Try.func41, Try.ntmps41
    go_wp2_with fail
    go_loopw [5] (fun i wr => ∃ j : Nat, j ≤ n ∧ i = .int .i64 j ∧ Below w.heap.size w wr ∧ wr.cell? ⟨w.heap.size, 0, none⟩ = some (.int .i64 5) ∧ wr.cell? ⟨w.heap.size, 1, none⟩ = some (.int .i64 g) ∧ wr.cell? ⟨w.heap.size, 2, none⟩ = some (.int .i64 l) ∧ wr.cell? ⟨w.heap.size, 3, none⟩ = some (.slice a n cap) ∧ Hid (Co.shapes ts (d - 1) = Co.shapes (ts.drop j) (d - 1))) (fun i _ => n - (intOf i).toNat)
    case atStart => exact ⟨0, by omega, rfl, bal1, cell_n0 0, cell_n0 1, cell_n0 2, cell_n0 3, rfl⟩
    case round =>
      obtain ⟨j, hj, rfl, hB, x0, x1, x2, x3, hR⟩ := hrel
      by_cases hlt : j < n
      · have hjt : j < ts.length := by rw [HN.out]; exact hlt
        obtain ⟨b, off, k0, g0, l0, a0, m0, q0, rfl, lb, e0, e1, e2, e3, ht⟩ := hr.at hB hjt
        have hcall := IHH.out ts[j] (List.getElem_mem hjt) (d - 1) _ wr ht (by omega) (by omega)
        have hstep := hR.out.trans (Co.shapes_drop ts (d - 1) j hjt)
        generalize ts[j].shape (d - 1) = r at hcall hstep
        have HC := Lib.hid hcall
        have HS := Lib.hid hstep
        clear hcall hstep hR
        cases r
        all_goals
          go_wp2_with fail
          refine HC.out.mono ?_
          rintro e w1 ⟨rfl, hb1⟩
          go_wp2_with fail
        · go_ret
          exact ⟨ret_bool (by rw [HS.out]; simp), bstep hB hb1⟩
        · go_roundw
          case rel => exact ⟨j + 1, by omega, by go_num, bstep hB hb1, bcell hb1 x0, bcell hb1 x1, bcell hb1 x2, bcell hb1 x3, by rw [Hid, HS.out]; rfl⟩
          case measure => simp [intOf]; omega
      · have hall : Co.shapes ts (d - 1) = true := by rw [hR.out, List.drop_eq_nil_of_le (by rw [HN.out]; omega)]; unfold Co.shapes; rfl
        have hlb := World.block_lt_of_cell? _ _ x0
        by_cases hn0 : n = 0
        · subst hn0
          have HT := Lib.hid (show (true && Co.nodeB 5 g l ((0 : Nat) : Int) (Co.headK ts) (Co.headG ts) && Co.shapes ts (d - 1)) = Co.nodeB 5 g l 0 0 0 from by
            obtain rfl : ts = [] := List.eq_nil_of_length_eq_zero HN.out
            rw [hall]; simp [Co.headK, Co.headG])
          clear hall hR hr IHH
          go_wp2_with fail
          refine bodyPost_ret (v := .bool (false)) (by simp [results, Try.results41, go_sem, bne]) rfl ?_
          exact ⟨ret_bool (Eq.trans (leaf_tail5_nil_0 g l ) HT.out.symm), hB⟩
        · have hnp : 0 < n := by omega
          have hjt : 0 < ts.length := by rw [HN.out]; exact hnp
          obtain ⟨b, off, k0, g0, l0, a0, m0, q0, rfl, lb, e0, e1, e2, e3, ht⟩ := hr.at hB hjt
          simp only [Nat.zero_mul, Nat.add_zero] at e0 e1 e2 e3
          have hk : k0 = Co.headK ts ∧ g0 = Co.headG ts := by
            obtain ⟨s, he, -⟩ := ht
            simp at he
            cases ts with
            | nil => simp at hjt
            | cons t0 ts => exact ⟨he.1, he.2.1⟩
          have HT := Lib.hid (show (true && Co.nodeB 5 g l (n : Int) (Co.headK ts) (Co.headG ts) && Co.shapes ts (d - 1)) = Co.nodeB 5 g l (n : Int) k0 g0 from by
            rw [hall, hk.1, hk.2]; simp)
          have hn0' : (0 : Int) < (n : Int) := by omega
          clear hall hR hr hk ht hn0 IHH
          rcases Bool.eq_false_or_eq_true ((n : Int) == 1) with q1 | q1
          · skip
            have nq1 : ((n : Int) != 1) = false := by simp only [bne, q1]; rfl
            rcases Bool.eq_false_or_eq_true (labelB l) with q2 | q2
            · have Hq2 := Lib.hid q2
              clear q2
              rcases Bool.eq_false_or_eq_true (g == 0) with q3 | q3
              · skip
                have nq3 : (g != 0) = false := by simp only [bne, q3]; rfl
                rcases Bool.eq_false_or_eq_true (k0 == 5) with q4 | q4
                · skip
                  have nq4 : (k0 != 5) = false := by simp only [bne, q4]; rfl
                  go_wp2_with fail
                  refine (specL6Label l _).mono ?_
                  rintro e w1 ⟨rfl, hb1⟩
                  rw [Hq2.out]
                  replace hB := (bstep hB hb1)
                  have zw1 := hB.size
                  replace x1 : w1.cell? ⟨w.heap.size, 1, none⟩ = some (.int .i64 g) := bcell hb1 (x1)
                  replace x3 : w1.cell? ⟨w.heap.size, 3, none⟩ = some (.slice (some ⟨b, off, none⟩) n cap) := bcell hb1 (x3)
                  replace e0 : w1.cell? ⟨b, off, none⟩ = some (.int .i64 k0) := bcell hb1 (e0)
                  have dw_heap_size_w1 := World.block_lt_of_cell? _ _ x1
                  have db_w1 := World.block_lt_of_cell? _ _ e0
                  go_wp2_with fail
                  refine bodyPost_ret (v := .bool (false)) (by simp [results, Try.results41, go_sem, bne]) rfl ?_
                  exact ⟨ret_bool (Eq.trans (leaf_tail5_cons_1 g l k0 g0 n q1 Hq2.out q3 q4) HT.out.symm), hB⟩
                · skip
                  have nq4 : (k0 != 5) = true := by simp only [bne, q4]; rfl
                  rcases Bool.eq_false_or_eq_true (k0 == 1) with q5 | q5
                  · skip
                    have nq5 : (k0 != 1) = false := by simp only [bne, q5]; rfl
                    go_wp2_with fail
                    refine (specL6Label l _).mono ?_
                    rintro e w2 ⟨rfl, hb2⟩
                    rw [Hq2.out]
                    replace hB := (bstep hB hb2)
                    have zw2 := hB.size
                    replace x1 : w2.cell? ⟨w.heap.size, 1, none⟩ = some (.int .i64 g) := bcell hb2 (x1)
                    replace x3 : w2.cell? ⟨w.heap.size, 3, none⟩ = some (.slice (some ⟨b, off, none⟩) n cap) := bcell hb2 (x3)
                    replace e0 : w2.cell? ⟨b, off, none⟩ = some (.int .i64 k0) := bcell hb2 (e0)
                    replace e1 : w2.cell? ⟨b, off + 1, none⟩ = some (.int .i64 g0) := bcell hb2 (e1)
                    have dw_heap_size_w2 := World.block_lt_of_cell? _ _ x1
                    have db_w2 := World.block_lt_of_cell? _ _ e0
                    go_wp2_with fail
                    refine bodyPost_ret (v := .bool (!(g0 == 1))) (by simp [results, Try.results41, go_sem, bne]) rfl ?_
                    exact ⟨ret_bool (Eq.trans (leaf_tail5_cons_2 g l k0 g0 n q1 Hq2.out q3 q4 q5) HT.out.symm), hB⟩
                  · skip
                    have nq5 : (k0 != 1) = true := by simp only [bne, q5]; rfl
                    go_wp2_with fail
                    refine (specL6Label l _).mono ?_
                    rintro e w3 ⟨rfl, hb3⟩
                    rw [Hq2.out]
                    replace hB := (bstep hB hb3)
                    have zw3 := hB.size
                    replace x1 : w3.cell? ⟨w.heap.size, 1, none⟩ = some (.int .i64 g) := bcell hb3 (x1)
                    replace x3 : w3.cell? ⟨w.heap.size, 3, none⟩ = some (.slice (some ⟨b, off, none⟩) n cap) := bcell hb3 (x3)
                    replace e0 : w3.cell? ⟨b, off, none⟩ = some (.int .i64 k0) := bcell hb3 (e0)
                    have dw_heap_size_w3 := World.block_lt_of_cell? _ _ x1
                    have db_w3 := World.block_lt_of_cell? _ _ e0
                    go_wp2_with fail
                    refine bodyPost_ret (v := .bool (true)) (by simp [results, Try.results41, go_sem, bne]) rfl ?_
                    exact ⟨ret_bool (Eq.trans (leaf_tail5_cons_3 g l k0 g0 n q1 Hq2.out q3 q4 q5) HT.out.symm), hB⟩
              · skip
                have nq3 : (g != 0) = true := by simp only [bne, q3]; rfl
                go_wp2_with fail
                refine (specL6Label l _).mono ?_
                rintro e w4 ⟨rfl, hb4⟩
                rw [Hq2.out]
                replace hB := (bstep hB hb4)
                have zw4 := hB.size
                replace x1 : w4.cell? ⟨w.heap.size, 1, none⟩ = some (.int .i64 g) := bcell hb4 (x1)
                have dw_heap_size_w4 := World.block_lt_of_cell? _ _ x1
                go_wp2_with fail
                refine bodyPost_ret (v := .bool (false)) (by simp [results, Try.results41, go_sem, bne]) rfl ?_
                exact ⟨ret_bool (Eq.trans (leaf_tail5_cons_4 g l k0 g0 n q1 Hq2.out q3) HT.out.symm), hB⟩
            · have Hq2 := Lib.hid q2
              clear q2
              go_wp2_with fail
              refine (specL6Label l _).mono ?_
              rintro e w5 ⟨rfl, hb5⟩
              rw [Hq2.out]
              replace hB := (bstep hB hb5)
              have zw5 := hB.size
              go_wp2_with fail
              refine bodyPost_ret (v := .bool (false)) (by simp [results, Try.results41, go_sem, bne]) rfl ?_
              exact ⟨ret_bool (Eq.trans (leaf_tail5_cons_5 g l k0 g0 n q1 Hq2.out) HT.out.symm), hB⟩
          · skip
            have nq1 : ((n : Int) != 1) = true := by simp only [bne, q1]; rfl
            go_wp2_with fail
            refine bodyPost_ret (v := .bool (false)) (by simp [results, Try.results41, go_sem, bne]) rfl ?_
            exact ⟨ret_bool (Eq.trans (leaf_tail5_cons_6 g l k0 g0 n q1) HT.out.symm), hB⟩
end Go.Proofs.Ythhdjacdalehoaa
