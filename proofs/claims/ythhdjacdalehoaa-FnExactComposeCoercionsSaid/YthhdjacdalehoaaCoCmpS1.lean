/-
  l6Compose: the cases without recursion.
-/
import Derived.Test.YthhdjacdalehoaaCoRetB
import Derived.Test.YthhdjacdalehoaaCoTag
import Derived.Deep.RegionHeld3
import Derived.Deep.QuietTactic
import Derived.Deep.DeepCutAuto
namespace Go.Proofs.Ythhdjacdalehoaa
open Go.RowKit
set_option linter.unusedVariables false
set_option linter.unusedSimpArgs false
set_option maxRecDepth 100000

set_option maxHeartbeats 4000000 in
theorem specCmpAny (ak ag al bk bg bl : Int) (aa ba : Option Addr) (an aq bn bq : Nat) (c0 : Co) (w : World) (z0 : (ak == 1) = true) (z1 : (ag == 1) = true) (HC : Hid (∀ W, Below w.heap.size w W → Calls Try.prog 42 #[.agg #[.int .i64 bk, .int .i64 bg, .int .i64 bl, .slice ba bn bq]] W (RetCo (c0) W))) :
    Calls Try.prog 21 #[.agg #[.int .i64 ak, .int .i64 ag, .int .i64 al, .slice aa an aq], .agg #[.int .i64 bk, .int .i64 bg, .int .i64 bl, .slice ba bn bq]] w (RetCoB (c0) ((bk == 5 || (bk == 1 && bg == 1))) w) := by
  go_enter Try.func21, Try.ntmps21
  rcases Bool.eq_false_or_eq_true (bk == 5) with q1 | q1
  · skip
    have nq1 : (bk != 5) = false := by simp only [bne, q1]; rfl
    go_wp2_with fail
    refine (HC.out _ bal3).mono ?_
    rintro e w1 ⟨v1, rfl, hv1, hb1⟩
    obtain ⟨kr1, gr1, lr1, ar1, nr1, qr1, rfl⟩ := hv1.shape
    have zs1 := hb1.size
    (try simp at zs1)
    have hB := (bstep bal3 hb1)
    have zw1 := hB.size
    have f2_0 : w1.frozen? ⟨w.heap.size + 1 + 1, 0, none⟩ = false := bfroc hb1 (cell_new (by simp) 0) (fro_new (by simp) 0)
    have f2_1 : w1.frozen? ⟨w.heap.size + 1 + 1, 1, none⟩ = false := bfroc hb1 (cell_new (by simp) 1) (fro_new (by simp) 1)
    have f2_2 : w1.frozen? ⟨w.heap.size + 1 + 1, 2, none⟩ = false := bfroc hb1 (cell_new (by simp) 2) (fro_new (by simp) 2)
    have f2_3 : w1.frozen? ⟨w.heap.size + 1 + 1, 3, none⟩ = false := bfroc hb1 (cell_new (by simp) 3) (fro_new (by simp) 3)
    have c2_0 : w1.cell? ⟨w.heap.size + 1 + 1, 0, none⟩ = some (.int .i64 0) := bcell hb1 (cell_new (by simp) 0)
    have c2_1 : w1.cell? ⟨w.heap.size + 1 + 1, 1, none⟩ = some (.int .i64 0) := bcell hb1 (cell_new (by simp) 1)
    have c2_2 : w1.cell? ⟨w.heap.size + 1 + 1, 2, none⟩ = some (.int .i64 0) := bcell hb1 (cell_new (by simp) 2)
    have c2_3 : w1.cell? ⟨w.heap.size + 1 + 1, 3, none⟩ = some (.slice none 0 0) := bcell hb1 (cell_new (by simp) 3)
    have d2_w1 := World.block_lt_of_cell? _ _ c2_0
    go_wp2_with fail
    have rc0 : ((World.setCell (World.setCell (World.setCell (World.setCell w1 ⟨w.heap.size + 1 + 1, 0, none⟩ (.int .i64 kr1)) ⟨w.heap.size + 1 + 1, 1, none⟩ (.int .i64 gr1)) ⟨w.heap.size + 1 + 1, 2, none⟩ (.int .i64 lr1)) ⟨w.heap.size + 1 + 1, 3, none⟩ (.slice ar1 nr1 qr1))).cell? ⟨w.heap.size + 1 + 1, 0, none⟩ = some (.int .i64 kr1) := sc_far (sc_far (sc_far (sc_self (c2_0)) (by simp)) (by simp)) (by simp)
    have rc1 : ((World.setCell (World.setCell (World.setCell (World.setCell w1 ⟨w.heap.size + 1 + 1, 0, none⟩ (.int .i64 kr1)) ⟨w.heap.size + 1 + 1, 1, none⟩ (.int .i64 gr1)) ⟨w.heap.size + 1 + 1, 2, none⟩ (.int .i64 lr1)) ⟨w.heap.size + 1 + 1, 3, none⟩ (.slice ar1 nr1 qr1))).cell? ⟨w.heap.size + 1 + 1, 1, none⟩ = some (.int .i64 gr1) := sc_far (sc_far (sc_self (sc_far (c2_1) (by simp))) (by simp)) (by simp)
    have rc2 : ((World.setCell (World.setCell (World.setCell (World.setCell w1 ⟨w.heap.size + 1 + 1, 0, none⟩ (.int .i64 kr1)) ⟨w.heap.size + 1 + 1, 1, none⟩ (.int .i64 gr1)) ⟨w.heap.size + 1 + 1, 2, none⟩ (.int .i64 lr1)) ⟨w.heap.size + 1 + 1, 3, none⟩ (.slice ar1 nr1 qr1))).cell? ⟨w.heap.size + 1 + 1, 2, none⟩ = some (.int .i64 lr1) := sc_far (sc_self (sc_far (sc_far (c2_2) (by simp)) (by simp))) (by simp)
    have rc3 : ((World.setCell (World.setCell (World.setCell (World.setCell w1 ⟨w.heap.size + 1 + 1, 0, none⟩ (.int .i64 kr1)) ⟨w.heap.size + 1 + 1, 1, none⟩ (.int .i64 gr1)) ⟨w.heap.size + 1 + 1, 2, none⟩ (.int .i64 lr1)) ⟨w.heap.size + 1 + 1, 3, none⟩ (.slice ar1 nr1 qr1))).cell? ⟨w.heap.size + 1 + 1, 3, none⟩ = some (.slice ar1 nr1 qr1) := sc_self (sc_far (sc_far (sc_far (c2_3) (by simp)) (by simp)) (by simp))
    refine bodyPost_ret (v := .tuple #[.agg #[.int .i64 kr1, .int .i64 gr1, .int .i64 lr1, .slice ar1 nr1 qr1], .bool true]) (by simp [results, Try.results21, go_sem, rc0, rc1, rc2, rc3]) rfl ?_
    rw [show (bk == 5 || (bk == 1 && bg == 1)) = true from by simp [z0, z1, q1]]
    exact ⟨_, rfl, CoNew.mono ((((hv1.setCell (by first | (show w.heap.size + 1 + 1 < _; omega) | (show w.heap.size + 1 + 1 < _; simp; omega) | simp) _).setCell (by first | (show w.heap.size + 1 + 1 < _; omega) | (show w.heap.size + 1 + 1 < _; simp; omega) | simp) _).setCell (by first | (show w.heap.size + 1 + 1 < _; omega) | (show w.heap.size + 1 + 1 < _; simp; omega) | simp) _).setCell (by first | (show w.heap.size + 1 + 1 < _; omega) | (show w.heap.size + 1 + 1 < _; simp; omega) | simp) _) (by first | exact Nat.le_refl _ | omega | (simp; done) | (simp; omega)), ((((hB.setCell (by show w.heap.size ≤ w.heap.size + 1 + 1; omega) _).setCell (by show w.heap.size ≤ w.heap.size + 1 + 1; omega) _).setCell (by show w.heap.size ≤ w.heap.size + 1 + 1; omega) _).setCell (by show w.heap.size ≤ w.heap.size + 1 + 1; omega) _)⟩
  · skip
    have nq1 : (bk != 5) = true := by simp only [bne, q1]; rfl
    rcases Bool.eq_false_or_eq_true (bk == 1) with q2 | q2
    · skip
      have nq2 : (bk != 1) = false := by simp only [bne, q2]; rfl
      go_wp2_with fail
      refine (HC.out _ bal3).mono ?_
      rintro e w2 ⟨v2, rfl, hv2, hb2⟩
      obtain ⟨kr2, gr2, lr2, ar2, nr2, qr2, rfl⟩ := hv2.shape
      have zs2 := hb2.size
      (try simp at zs2)
      have hB := (bstep bal3 hb2)
      have zw2 := hB.size
      have f2_0 : w2.frozen? ⟨w.heap.size + 1 + 1, 0, none⟩ = false := bfroc hb2 (cell_new (by simp) 0) (fro_new (by simp) 0)
      have f2_1 : w2.frozen? ⟨w.heap.size + 1 + 1, 1, none⟩ = false := bfroc hb2 (cell_new (by simp) 1) (fro_new (by simp) 1)
      have f2_2 : w2.frozen? ⟨w.heap.size + 1 + 1, 2, none⟩ = false := bfroc hb2 (cell_new (by simp) 2) (fro_new (by simp) 2)
      have f2_3 : w2.frozen? ⟨w.heap.size + 1 + 1, 3, none⟩ = false := bfroc hb2 (cell_new (by simp) 3) (fro_new (by simp) 3)
      have c2_0 : w2.cell? ⟨w.heap.size + 1 + 1, 0, none⟩ = some (.int .i64 0) := bcell hb2 (cell_new (by simp) 0)
      have c2_1 : w2.cell? ⟨w.heap.size + 1 + 1, 1, none⟩ = some (.int .i64 0) := bcell hb2 (cell_new (by simp) 1)
      have c2_2 : w2.cell? ⟨w.heap.size + 1 + 1, 2, none⟩ = some (.int .i64 0) := bcell hb2 (cell_new (by simp) 2)
      have c2_3 : w2.cell? ⟨w.heap.size + 1 + 1, 3, none⟩ = some (.slice none 0 0) := bcell hb2 (cell_new (by simp) 3)
      have d2_w2 := World.block_lt_of_cell? _ _ c2_0
      go_wp2_with fail
      have rc0 : ((World.setCell (World.setCell (World.setCell (World.setCell w2 ⟨w.heap.size + 1 + 1, 0, none⟩ (.int .i64 kr2)) ⟨w.heap.size + 1 + 1, 1, none⟩ (.int .i64 gr2)) ⟨w.heap.size + 1 + 1, 2, none⟩ (.int .i64 lr2)) ⟨w.heap.size + 1 + 1, 3, none⟩ (.slice ar2 nr2 qr2))).cell? ⟨w.heap.size + 1 + 1, 0, none⟩ = some (.int .i64 kr2) := sc_far (sc_far (sc_far (sc_self (c2_0)) (by simp)) (by simp)) (by simp)
      have rc1 : ((World.setCell (World.setCell (World.setCell (World.setCell w2 ⟨w.heap.size + 1 + 1, 0, none⟩ (.int .i64 kr2)) ⟨w.heap.size + 1 + 1, 1, none⟩ (.int .i64 gr2)) ⟨w.heap.size + 1 + 1, 2, none⟩ (.int .i64 lr2)) ⟨w.heap.size + 1 + 1, 3, none⟩ (.slice ar2 nr2 qr2))).cell? ⟨w.heap.size + 1 + 1, 1, none⟩ = some (.int .i64 gr2) := sc_far (sc_far (sc_self (sc_far (c2_1) (by simp))) (by simp)) (by simp)
      have rc2 : ((World.setCell (World.setCell (World.setCell (World.setCell w2 ⟨w.heap.size + 1 + 1, 0, none⟩ (.int .i64 kr2)) ⟨w.heap.size + 1 + 1, 1, none⟩ (.int .i64 gr2)) ⟨w.heap.size + 1 + 1, 2, none⟩ (.int .i64 lr2)) ⟨w.heap.size + 1 + 1, 3, none⟩ (.slice ar2 nr2 qr2))).cell? ⟨w.heap.size + 1 + 1, 2, none⟩ = some (.int .i64 lr2) := sc_far (sc_self (sc_far (sc_far (c2_2) (by simp)) (by simp))) (by simp)
      have rc3 : ((World.setCell (World.setCell (World.setCell (World.setCell w2 ⟨w.heap.size + 1 + 1, 0, none⟩ (.int .i64 kr2)) ⟨w.heap.size + 1 + 1, 1, none⟩ (.int .i64 gr2)) ⟨w.heap.size + 1 + 1, 2, none⟩ (.int .i64 lr2)) ⟨w.heap.size + 1 + 1, 3, none⟩ (.slice ar2 nr2 qr2))).cell? ⟨w.heap.size + 1 + 1, 3, none⟩ = some (.slice ar2 nr2 qr2) := sc_self (sc_far (sc_far (sc_far (c2_3) (by simp)) (by simp)) (by simp))
      refine bodyPost_ret (v := .tuple #[.agg #[.int .i64 kr2, .int .i64 gr2, .int .i64 lr2, .slice ar2 nr2 qr2], .bool (bg == 1)]) (by simp [results, Try.results21, go_sem, rc0, rc1, rc2, rc3]) rfl ?_
      rw [show (bk == 5 || (bk == 1 && bg == 1)) = (bg == 1) from by simp [z0, z1, q1, q2]]
      exact ⟨_, rfl, CoNew.mono ((((hv2.setCell (by first | (show w.heap.size + 1 + 1 < _; omega) | (show w.heap.size + 1 + 1 < _; simp; omega) | simp) _).setCell (by first | (show w.heap.size + 1 + 1 < _; omega) | (show w.heap.size + 1 + 1 < _; simp; omega) | simp) _).setCell (by first | (show w.heap.size + 1 + 1 < _; omega) | (show w.heap.size + 1 + 1 < _; simp; omega) | simp) _).setCell (by first | (show w.heap.size + 1 + 1 < _; omega) | (show w.heap.size + 1 + 1 < _; simp; omega) | simp) _) (by first | exact Nat.le_refl _ | omega | (simp; done) | (simp; omega)), ((((hB.setCell (by show w.heap.size ≤ w.heap.size + 1 + 1; omega) _).setCell (by show w.heap.size ≤ w.heap.size + 1 + 1; omega) _).setCell (by show w.heap.size ≤ w.heap.size + 1 + 1; omega) _).setCell (by show w.heap.size ≤ w.heap.size + 1 + 1; omega) _)⟩
    · skip
      have nq2 : (bk != 1) = true := by simp only [bne, q2]; rfl
      go_wp2_with fail
      refine (HC.out _ bal3).mono ?_
      rintro e w3 ⟨v3, rfl, hv3, hb3⟩
      obtain ⟨kr3, gr3, lr3, ar3, nr3, qr3, rfl⟩ := hv3.shape
      have zs3 := hb3.size
      (try simp at zs3)
      have hB := (bstep bal3 hb3)
      have zw3 := hB.size
      have f2_0 : w3.frozen? ⟨w.heap.size + 1 + 1, 0, none⟩ = false := bfroc hb3 (cell_new (by simp) 0) (fro_new (by simp) 0)
      have f2_1 : w3.frozen? ⟨w.heap.size + 1 + 1, 1, none⟩ = false := bfroc hb3 (cell_new (by simp) 1) (fro_new (by simp) 1)
      have f2_2 : w3.frozen? ⟨w.heap.size + 1 + 1, 2, none⟩ = false := bfroc hb3 (cell_new (by simp) 2) (fro_new (by simp) 2)
      have f2_3 : w3.frozen? ⟨w.heap.size + 1 + 1, 3, none⟩ = false := bfroc hb3 (cell_new (by simp) 3) (fro_new (by simp) 3)
      have c2_0 : w3.cell? ⟨w.heap.size + 1 + 1, 0, none⟩ = some (.int .i64 0) := bcell hb3 (cell_new (by simp) 0)
      have c2_1 : w3.cell? ⟨w.heap.size + 1 + 1, 1, none⟩ = some (.int .i64 0) := bcell hb3 (cell_new (by simp) 1)
      have c2_2 : w3.cell? ⟨w.heap.size + 1 + 1, 2, none⟩ = some (.int .i64 0) := bcell hb3 (cell_new (by simp) 2)
      have c2_3 : w3.cell? ⟨w.heap.size + 1 + 1, 3, none⟩ = some (.slice none 0 0) := bcell hb3 (cell_new (by simp) 3)
      have d2_w3 := World.block_lt_of_cell? _ _ c2_0
      go_wp2_with fail
      have rc0 : ((World.setCell (World.setCell (World.setCell (World.setCell w3 ⟨w.heap.size + 1 + 1, 0, none⟩ (.int .i64 kr3)) ⟨w.heap.size + 1 + 1, 1, none⟩ (.int .i64 gr3)) ⟨w.heap.size + 1 + 1, 2, none⟩ (.int .i64 lr3)) ⟨w.heap.size + 1 + 1, 3, none⟩ (.slice ar3 nr3 qr3))).cell? ⟨w.heap.size + 1 + 1, 0, none⟩ = some (.int .i64 kr3) := sc_far (sc_far (sc_far (sc_self (c2_0)) (by simp)) (by simp)) (by simp)
      have rc1 : ((World.setCell (World.setCell (World.setCell (World.setCell w3 ⟨w.heap.size + 1 + 1, 0, none⟩ (.int .i64 kr3)) ⟨w.heap.size + 1 + 1, 1, none⟩ (.int .i64 gr3)) ⟨w.heap.size + 1 + 1, 2, none⟩ (.int .i64 lr3)) ⟨w.heap.size + 1 + 1, 3, none⟩ (.slice ar3 nr3 qr3))).cell? ⟨w.heap.size + 1 + 1, 1, none⟩ = some (.int .i64 gr3) := sc_far (sc_far (sc_self (sc_far (c2_1) (by simp))) (by simp)) (by simp)
      have rc2 : ((World.setCell (World.setCell (World.setCell (World.setCell w3 ⟨w.heap.size + 1 + 1, 0, none⟩ (.int .i64 kr3)) ⟨w.heap.size + 1 + 1, 1, none⟩ (.int .i64 gr3)) ⟨w.heap.size + 1 + 1, 2, none⟩ (.int .i64 lr3)) ⟨w.heap.size + 1 + 1, 3, none⟩ (.slice ar3 nr3 qr3))).cell? ⟨w.heap.size + 1 + 1, 2, none⟩ = some (.int .i64 lr3) := sc_far (sc_self (sc_far (sc_far (c2_2) (by simp)) (by simp))) (by simp)
      have rc3 : ((World.setCell (World.setCell (World.setCell (World.setCell w3 ⟨w.heap.size + 1 + 1, 0, none⟩ (.int .i64 kr3)) ⟨w.heap.size + 1 + 1, 1, none⟩ (.int .i64 gr3)) ⟨w.heap.size + 1 + 1, 2, none⟩ (.int .i64 lr3)) ⟨w.heap.size + 1 + 1, 3, none⟩ (.slice ar3 nr3 qr3))).cell? ⟨w.heap.size + 1 + 1, 3, none⟩ = some (.slice ar3 nr3 qr3) := sc_self (sc_far (sc_far (sc_far (c2_3) (by simp)) (by simp)) (by simp))
      refine bodyPost_ret (v := .tuple #[.agg #[.int .i64 kr3, .int .i64 gr3, .int .i64 lr3, .slice ar3 nr3 qr3], .bool false]) (by simp [results, Try.results21, go_sem, rc0, rc1, rc2, rc3]) rfl ?_
      rw [show (bk == 5 || (bk == 1 && bg == 1)) = false from by simp [z0, z1, q1, q2]]
      exact ⟨_, rfl, CoNew.mono ((((hv3.setCell (by first | (show w.heap.size + 1 + 1 < _; omega) | (show w.heap.size + 1 + 1 < _; simp; omega) | simp) _).setCell (by first | (show w.heap.size + 1 + 1 < _; omega) | (show w.heap.size + 1 + 1 < _; simp; omega) | simp) _).setCell (by first | (show w.heap.size + 1 + 1 < _; omega) | (show w.heap.size + 1 + 1 < _; simp; omega) | simp) _).setCell (by first | (show w.heap.size + 1 + 1 < _; omega) | (show w.heap.size + 1 + 1 < _; simp; omega) | simp) _) (by first | exact Nat.le_refl _ | omega | (simp; done) | (simp; omega)), ((((hB.setCell (by show w.heap.size ≤ w.heap.size + 1 + 1; omega) _).setCell (by show w.heap.size ≤ w.heap.size + 1 + 1; omega) _).setCell (by show w.heap.size ≤ w.heap.size + 1 + 1; omega) _).setCell (by show w.heap.size ≤ w.heap.size + 1 + 1; omega) _)⟩
set_option maxHeartbeats 4000000 in
theorem specCmpFail (ak ag al bk bg bl : Int) (aa ba : Option Addr) (an aq bn bq : Nat) (c0 : Co) (w : World) (z0 : (ak == 1) = false) (z1 : (ak == 5) = false) (z2 : (ak == 6) = true) (HC : Hid (∀ W, Below w.heap.size w W → Calls Try.prog 42 #[.agg #[.int .i64 ak, .int .i64 ag, .int .i64 al, .slice aa an aq]] W (RetCo (c0) W))) :
    Calls Try.prog 21 #[.agg #[.int .i64 ak, .int .i64 ag, .int .i64 al, .slice aa an aq], .agg #[.int .i64 bk, .int .i64 bg, .int .i64 bl, .slice ba bn bq]] w (RetCoB (c0) (true) w) := by
  go_enter Try.func21, Try.ntmps21
  rcases Bool.eq_false_or_eq_true (bk == 5) with q1 | q1
  · skip
    have nq1 : (bk != 5) = false := by simp only [bne, q1]; rfl
    go_wp2_with fail
    refine (HC.out _ bal3).mono ?_
    rintro e w1 ⟨v1, rfl, hv1, hb1⟩
    obtain ⟨kr1, gr1, lr1, ar1, nr1, qr1, rfl⟩ := hv1.shape
    have zs1 := hb1.size
    (try simp at zs1)
    have hB := (bstep bal3 hb1)
    have zw1 := hB.size
    have f2_0 : w1.frozen? ⟨w.heap.size + 1 + 1, 0, none⟩ = false := bfroc hb1 (cell_new (by simp) 0) (fro_new (by simp) 0)
    have f2_1 : w1.frozen? ⟨w.heap.size + 1 + 1, 1, none⟩ = false := bfroc hb1 (cell_new (by simp) 1) (fro_new (by simp) 1)
    have f2_2 : w1.frozen? ⟨w.heap.size + 1 + 1, 2, none⟩ = false := bfroc hb1 (cell_new (by simp) 2) (fro_new (by simp) 2)
    have f2_3 : w1.frozen? ⟨w.heap.size + 1 + 1, 3, none⟩ = false := bfroc hb1 (cell_new (by simp) 3) (fro_new (by simp) 3)
    have c2_0 : w1.cell? ⟨w.heap.size + 1 + 1, 0, none⟩ = some (.int .i64 0) := bcell hb1 (cell_new (by simp) 0)
    have c2_1 : w1.cell? ⟨w.heap.size + 1 + 1, 1, none⟩ = some (.int .i64 0) := bcell hb1 (cell_new (by simp) 1)
    have c2_2 : w1.cell? ⟨w.heap.size + 1 + 1, 2, none⟩ = some (.int .i64 0) := bcell hb1 (cell_new (by simp) 2)
    have c2_3 : w1.cell? ⟨w.heap.size + 1 + 1, 3, none⟩ = some (.slice none 0 0) := bcell hb1 (cell_new (by simp) 3)
    have d2_w1 := World.block_lt_of_cell? _ _ c2_0
    go_wp2_with fail
    have rc0 : ((World.setCell (World.setCell (World.setCell (World.setCell w1 ⟨w.heap.size + 1 + 1, 0, none⟩ (.int .i64 kr1)) ⟨w.heap.size + 1 + 1, 1, none⟩ (.int .i64 gr1)) ⟨w.heap.size + 1 + 1, 2, none⟩ (.int .i64 lr1)) ⟨w.heap.size + 1 + 1, 3, none⟩ (.slice ar1 nr1 qr1))).cell? ⟨w.heap.size + 1 + 1, 0, none⟩ = some (.int .i64 kr1) := sc_far (sc_far (sc_far (sc_self (c2_0)) (by simp)) (by simp)) (by simp)
    have rc1 : ((World.setCell (World.setCell (World.setCell (World.setCell w1 ⟨w.heap.size + 1 + 1, 0, none⟩ (.int .i64 kr1)) ⟨w.heap.size + 1 + 1, 1, none⟩ (.int .i64 gr1)) ⟨w.heap.size + 1 + 1, 2, none⟩ (.int .i64 lr1)) ⟨w.heap.size + 1 + 1, 3, none⟩ (.slice ar1 nr1 qr1))).cell? ⟨w.heap.size + 1 + 1, 1, none⟩ = some (.int .i64 gr1) := sc_far (sc_far (sc_self (sc_far (c2_1) (by simp))) (by simp)) (by simp)
    have rc2 : ((World.setCell (World.setCell (World.setCell (World.setCell w1 ⟨w.heap.size + 1 + 1, 0, none⟩ (.int .i64 kr1)) ⟨w.heap.size + 1 + 1, 1, none⟩ (.int .i64 gr1)) ⟨w.heap.size + 1 + 1, 2, none⟩ (.int .i64 lr1)) ⟨w.heap.size + 1 + 1, 3, none⟩ (.slice ar1 nr1 qr1))).cell? ⟨w.heap.size + 1 + 1, 2, none⟩ = some (.int .i64 lr1) := sc_far (sc_self (sc_far (sc_far (c2_2) (by simp)) (by simp))) (by simp)
    have rc3 : ((World.setCell (World.setCell (World.setCell (World.setCell w1 ⟨w.heap.size + 1 + 1, 0, none⟩ (.int .i64 kr1)) ⟨w.heap.size + 1 + 1, 1, none⟩ (.int .i64 gr1)) ⟨w.heap.size + 1 + 1, 2, none⟩ (.int .i64 lr1)) ⟨w.heap.size + 1 + 1, 3, none⟩ (.slice ar1 nr1 qr1))).cell? ⟨w.heap.size + 1 + 1, 3, none⟩ = some (.slice ar1 nr1 qr1) := sc_self (sc_far (sc_far (sc_far (c2_3) (by simp)) (by simp)) (by simp))
    refine bodyPost_ret (v := .tuple #[.agg #[.int .i64 kr1, .int .i64 gr1, .int .i64 lr1, .slice ar1 nr1 qr1], .bool true]) (by simp [results, Try.results21, go_sem, rc0, rc1, rc2, rc3]) rfl ?_
    exact ⟨_, rfl, CoNew.mono ((((hv1.setCell (by first | (show w.heap.size + 1 + 1 < _; omega) | (show w.heap.size + 1 + 1 < _; simp; omega) | simp) _).setCell (by first | (show w.heap.size + 1 + 1 < _; omega) | (show w.heap.size + 1 + 1 < _; simp; omega) | simp) _).setCell (by first | (show w.heap.size + 1 + 1 < _; omega) | (show w.heap.size + 1 + 1 < _; simp; omega) | simp) _).setCell (by first | (show w.heap.size + 1 + 1 < _; omega) | (show w.heap.size + 1 + 1 < _; simp; omega) | simp) _) (by first | exact Nat.le_refl _ | omega | (simp; done) | (simp; omega)), ((((hB.setCell (by show w.heap.size ≤ w.heap.size + 1 + 1; omega) _).setCell (by show w.heap.size ≤ w.heap.size + 1 + 1; omega) _).setCell (by show w.heap.size ≤ w.heap.size + 1 + 1; omega) _).setCell (by show w.heap.size ≤ w.heap.size + 1 + 1; omega) _)⟩
  · skip
    have nq1 : (bk != 5) = true := by simp only [bne, q1]; rfl
    rcases Bool.eq_false_or_eq_true (bk == 1) with q2 | q2
    · skip
      have nq2 : (bk != 1) = false := by simp only [bne, q2]; rfl
      go_wp2_with fail
      refine (HC.out _ bal3).mono ?_
      rintro e w2 ⟨v2, rfl, hv2, hb2⟩
      obtain ⟨kr2, gr2, lr2, ar2, nr2, qr2, rfl⟩ := hv2.shape
      have zs2 := hb2.size
      (try simp at zs2)
      have hB := (bstep bal3 hb2)
      have zw2 := hB.size
      have f2_0 : w2.frozen? ⟨w.heap.size + 1 + 1, 0, none⟩ = false := bfroc hb2 (cell_new (by simp) 0) (fro_new (by simp) 0)
      have f2_1 : w2.frozen? ⟨w.heap.size + 1 + 1, 1, none⟩ = false := bfroc hb2 (cell_new (by simp) 1) (fro_new (by simp) 1)
      have f2_2 : w2.frozen? ⟨w.heap.size + 1 + 1, 2, none⟩ = false := bfroc hb2 (cell_new (by simp) 2) (fro_new (by simp) 2)
      have f2_3 : w2.frozen? ⟨w.heap.size + 1 + 1, 3, none⟩ = false := bfroc hb2 (cell_new (by simp) 3) (fro_new (by simp) 3)
      have c2_0 : w2.cell? ⟨w.heap.size + 1 + 1, 0, none⟩ = some (.int .i64 0) := bcell hb2 (cell_new (by simp) 0)
      have c2_1 : w2.cell? ⟨w.heap.size + 1 + 1, 1, none⟩ = some (.int .i64 0) := bcell hb2 (cell_new (by simp) 1)
      have c2_2 : w2.cell? ⟨w.heap.size + 1 + 1, 2, none⟩ = some (.int .i64 0) := bcell hb2 (cell_new (by simp) 2)
      have c2_3 : w2.cell? ⟨w.heap.size + 1 + 1, 3, none⟩ = some (.slice none 0 0) := bcell hb2 (cell_new (by simp) 3)
      have d2_w2 := World.block_lt_of_cell? _ _ c2_0
      go_wp2_with fail
      have rc0 : ((World.setCell (World.setCell (World.setCell (World.setCell w2 ⟨w.heap.size + 1 + 1, 0, none⟩ (.int .i64 kr2)) ⟨w.heap.size + 1 + 1, 1, none⟩ (.int .i64 gr2)) ⟨w.heap.size + 1 + 1, 2, none⟩ (.int .i64 lr2)) ⟨w.heap.size + 1 + 1, 3, none⟩ (.slice ar2 nr2 qr2))).cell? ⟨w.heap.size + 1 + 1, 0, none⟩ = some (.int .i64 kr2) := sc_far (sc_far (sc_far (sc_self (c2_0)) (by simp)) (by simp)) (by simp)
      have rc1 : ((World.setCell (World.setCell (World.setCell (World.setCell w2 ⟨w.heap.size + 1 + 1, 0, none⟩ (.int .i64 kr2)) ⟨w.heap.size + 1 + 1, 1, none⟩ (.int .i64 gr2)) ⟨w.heap.size + 1 + 1, 2, none⟩ (.int .i64 lr2)) ⟨w.heap.size + 1 + 1, 3, none⟩ (.slice ar2 nr2 qr2))).cell? ⟨w.heap.size + 1 + 1, 1, none⟩ = some (.int .i64 gr2) := sc_far (sc_far (sc_self (sc_far (c2_1) (by simp))) (by simp)) (by simp)
      have rc2 : ((World.setCell (World.setCell (World.setCell (World.setCell w2 ⟨w.heap.size + 1 + 1, 0, none⟩ (.int .i64 kr2)) ⟨w.heap.size + 1 + 1, 1, none⟩ (.int .i64 gr2)) ⟨w.heap.size + 1 + 1, 2, none⟩ (.int .i64 lr2)) ⟨w.heap.size + 1 + 1, 3, none⟩ (.slice ar2 nr2 qr2))).cell? ⟨w.heap.size + 1 + 1, 2, none⟩ = some (.int .i64 lr2) := sc_far (sc_self (sc_far (sc_far (c2_2) (by simp)) (by simp))) (by simp)
      have rc3 : ((World.setCell (World.setCell (World.setCell (World.setCell w2 ⟨w.heap.size + 1 + 1, 0, none⟩ (.int .i64 kr2)) ⟨w.heap.size + 1 + 1, 1, none⟩ (.int .i64 gr2)) ⟨w.heap.size + 1 + 1, 2, none⟩ (.int .i64 lr2)) ⟨w.heap.size + 1 + 1, 3, none⟩ (.slice ar2 nr2 qr2))).cell? ⟨w.heap.size + 1 + 1, 3, none⟩ = some (.slice ar2 nr2 qr2) := sc_self (sc_far (sc_far (sc_far (c2_3) (by simp)) (by simp)) (by simp))
      refine bodyPost_ret (v := .tuple #[.agg #[.int .i64 kr2, .int .i64 gr2, .int .i64 lr2, .slice ar2 nr2 qr2], .bool true]) (by simp [results, Try.results21, go_sem, rc0, rc1, rc2, rc3]) rfl ?_
      exact ⟨_, rfl, CoNew.mono ((((hv2.setCell (by first | (show w.heap.size + 1 + 1 < _; omega) | (show w.heap.size + 1 + 1 < _; simp; omega) | simp) _).setCell (by first | (show w.heap.size + 1 + 1 < _; omega) | (show w.heap.size + 1 + 1 < _; simp; omega) | simp) _).setCell (by first | (show w.heap.size + 1 + 1 < _; omega) | (show w.heap.size + 1 + 1 < _; simp; omega) | simp) _).setCell (by first | (show w.heap.size + 1 + 1 < _; omega) | (show w.heap.size + 1 + 1 < _; simp; omega) | simp) _) (by first | exact Nat.le_refl _ | omega | (simp; done) | (simp; omega)), ((((hB.setCell (by show w.heap.size ≤ w.heap.size + 1 + 1; omega) _).setCell (by show w.heap.size ≤ w.heap.size + 1 + 1; omega) _).setCell (by show w.heap.size ≤ w.heap.size + 1 + 1; omega) _).setCell (by show w.heap.size ≤ w.heap.size + 1 + 1; omega) _)⟩
    · skip
      have nq2 : (bk != 1) = true := by simp only [bne, q2]; rfl
      go_wp2_with fail
      refine (HC.out _ bal3).mono ?_
      rintro e w3 ⟨v3, rfl, hv3, hb3⟩
      obtain ⟨kr3, gr3, lr3, ar3, nr3, qr3, rfl⟩ := hv3.shape
      have zs3 := hb3.size
      (try simp at zs3)
      have hB := (bstep bal3 hb3)
      have zw3 := hB.size
      have f2_0 : w3.frozen? ⟨w.heap.size + 1 + 1, 0, none⟩ = false := bfroc hb3 (cell_new (by simp) 0) (fro_new (by simp) 0)
      have f2_1 : w3.frozen? ⟨w.heap.size + 1 + 1, 1, none⟩ = false := bfroc hb3 (cell_new (by simp) 1) (fro_new (by simp) 1)
      have f2_2 : w3.frozen? ⟨w.heap.size + 1 + 1, 2, none⟩ = false := bfroc hb3 (cell_new (by simp) 2) (fro_new (by simp) 2)
      have f2_3 : w3.frozen? ⟨w.heap.size + 1 + 1, 3, none⟩ = false := bfroc hb3 (cell_new (by simp) 3) (fro_new (by simp) 3)
      have c2_0 : w3.cell? ⟨w.heap.size + 1 + 1, 0, none⟩ = some (.int .i64 0) := bcell hb3 (cell_new (by simp) 0)
      have c2_1 : w3.cell? ⟨w.heap.size + 1 + 1, 1, none⟩ = some (.int .i64 0) := bcell hb3 (cell_new (by simp) 1)
      have c2_2 : w3.cell? ⟨w.heap.size + 1 + 1, 2, none⟩ = some (.int .i64 0) := bcell hb3 (cell_new (by simp) 2)
      have c2_3 : w3.cell? ⟨w.heap.size + 1 + 1, 3, none⟩ = some (.slice none 0 0) := bcell hb3 (cell_new (by simp) 3)
      have d2_w3 := World.block_lt_of_cell? _ _ c2_0
      go_wp2_with fail
      have rc0 : ((World.setCell (World.setCell (World.setCell (World.setCell w3 ⟨w.heap.size + 1 + 1, 0, none⟩ (.int .i64 kr3)) ⟨w.heap.size + 1 + 1, 1, none⟩ (.int .i64 gr3)) ⟨w.heap.size + 1 + 1, 2, none⟩ (.int .i64 lr3)) ⟨w.heap.size + 1 + 1, 3, none⟩ (.slice ar3 nr3 qr3))).cell? ⟨w.heap.size + 1 + 1, 0, none⟩ = some (.int .i64 kr3) := sc_far (sc_far (sc_far (sc_self (c2_0)) (by simp)) (by simp)) (by simp)
      have rc1 : ((World.setCell (World.setCell (World.setCell (World.setCell w3 ⟨w.heap.size + 1 + 1, 0, none⟩ (.int .i64 kr3)) ⟨w.heap.size + 1 + 1, 1, none⟩ (.int .i64 gr3)) ⟨w.heap.size + 1 + 1, 2, none⟩ (.int .i64 lr3)) ⟨w.heap.size + 1 + 1, 3, none⟩ (.slice ar3 nr3 qr3))).cell? ⟨w.heap.size + 1 + 1, 1, none⟩ = some (.int .i64 gr3) := sc_far (sc_far (sc_self (sc_far (c2_1) (by simp))) (by simp)) (by simp)
      have rc2 : ((World.setCell (World.setCell (World.setCell (World.setCell w3 ⟨w.heap.size + 1 + 1, 0, none⟩ (.int .i64 kr3)) ⟨w.heap.size + 1 + 1, 1, none⟩ (.int .i64 gr3)) ⟨w.heap.size + 1 + 1, 2, none⟩ (.int .i64 lr3)) ⟨w.heap.size + 1 + 1, 3, none⟩ (.slice ar3 nr3 qr3))).cell? ⟨w.heap.size + 1 + 1, 2, none⟩ = some (.int .i64 lr3) := sc_far (sc_self (sc_far (sc_far (c2_2) (by simp)) (by simp))) (by simp)
      have rc3 : ((World.setCell (World.setCell (World.setCell (World.setCell w3 ⟨w.heap.size + 1 + 1, 0, none⟩ (.int .i64 kr3)) ⟨w.heap.size + 1 + 1, 1, none⟩ (.int .i64 gr3)) ⟨w.heap.size + 1 + 1, 2, none⟩ (.int .i64 lr3)) ⟨w.heap.size + 1 + 1, 3, none⟩ (.slice ar3 nr3 qr3))).cell? ⟨w.heap.size + 1 + 1, 3, none⟩ = some (.slice ar3 nr3 qr3) := sc_self (sc_far (sc_far (sc_far (c2_3) (by simp)) (by simp)) (by simp))
      refine bodyPost_ret (v := .tuple #[.agg #[.int .i64 kr3, .int .i64 gr3, .int .i64 lr3, .slice ar3 nr3 qr3], .bool true]) (by simp [results, Try.results21, go_sem, rc0, rc1, rc2, rc3]) rfl ?_
      exact ⟨_, rfl, CoNew.mono ((((hv3.setCell (by first | (show w.heap.size + 1 + 1 < _; omega) | (show w.heap.size + 1 + 1 < _; simp; omega) | simp) _).setCell (by first | (show w.heap.size + 1 + 1 < _; omega) | (show w.heap.size + 1 + 1 < _; simp; omega) | simp) _).setCell (by first | (show w.heap.size + 1 + 1 < _; omega) | (show w.heap.size + 1 + 1 < _; simp; omega) | simp) _).setCell (by first | (show w.heap.size + 1 + 1 < _; omega) | (show w.heap.size + 1 + 1 < _; simp; omega) | simp) _) (by first | exact Nat.le_refl _ | omega | (simp; done) | (simp; omega)), ((((hB.setCell (by show w.heap.size ≤ w.heap.size + 1 + 1; omega) _).setCell (by show w.heap.size ≤ w.heap.size + 1 + 1; omega) _).setCell (by show w.heap.size ≤ w.heap.size + 1 + 1; omega) _).setCell (by show w.heap.size ≤ w.heap.size + 1 + 1; omega) _)⟩
set_option maxHeartbeats 4000000 in
theorem specCmpInj (ak ag al bk bg bl : Int) (aa ba : Option Addr) (an aq bn bq : Nat) (c0 : Co) (w : World) (z0 : (ak == 1) = false) (z1 : (ak == 5) = false) (z2 : (ak == 6) = false) (z3 : (ak == 4) = true) (z4 : (bk == 5) = false) (HC : Hid (∀ W, Below w.heap.size w W → Calls Try.prog 42 #[.agg #[.int .i64 ak, .int .i64 ag, .int .i64 al, .slice aa an aq]] W (RetCo (c0) W))) :
    Calls Try.prog 21 #[.agg #[.int .i64 ak, .int .i64 ag, .int .i64 al, .slice aa an aq], .agg #[.int .i64 bk, .int .i64 bg, .int .i64 bl, .slice ba bn bq]] w (RetCoB (c0) ((bk == 5 || (bk == 1 && bg == 1))) w) := by
  go_enter Try.func21, Try.ntmps21
  rcases Bool.eq_false_or_eq_true (bk == 1) with q1 | q1
  · skip
    have nq1 : (bk != 1) = false := by simp only [bne, q1]; rfl
    go_wp2_with fail
    refine (HC.out _ bal3).mono ?_
    rintro e w1 ⟨v1, rfl, hv1, hb1⟩
    obtain ⟨kr1, gr1, lr1, ar1, nr1, qr1, rfl⟩ := hv1.shape
    have zs1 := hb1.size
    (try simp at zs1)
    have hB := (bstep bal3 hb1)
    have zw1 := hB.size
    have f2_0 : w1.frozen? ⟨w.heap.size + 1 + 1, 0, none⟩ = false := bfroc hb1 (cell_new (by simp) 0) (fro_new (by simp) 0)
    have f2_1 : w1.frozen? ⟨w.heap.size + 1 + 1, 1, none⟩ = false := bfroc hb1 (cell_new (by simp) 1) (fro_new (by simp) 1)
    have f2_2 : w1.frozen? ⟨w.heap.size + 1 + 1, 2, none⟩ = false := bfroc hb1 (cell_new (by simp) 2) (fro_new (by simp) 2)
    have f2_3 : w1.frozen? ⟨w.heap.size + 1 + 1, 3, none⟩ = false := bfroc hb1 (cell_new (by simp) 3) (fro_new (by simp) 3)
    have c2_0 : w1.cell? ⟨w.heap.size + 1 + 1, 0, none⟩ = some (.int .i64 0) := bcell hb1 (cell_new (by simp) 0)
    have c2_1 : w1.cell? ⟨w.heap.size + 1 + 1, 1, none⟩ = some (.int .i64 0) := bcell hb1 (cell_new (by simp) 1)
    have c2_2 : w1.cell? ⟨w.heap.size + 1 + 1, 2, none⟩ = some (.int .i64 0) := bcell hb1 (cell_new (by simp) 2)
    have c2_3 : w1.cell? ⟨w.heap.size + 1 + 1, 3, none⟩ = some (.slice none 0 0) := bcell hb1 (cell_new (by simp) 3)
    have d2_w1 := World.block_lt_of_cell? _ _ c2_0
    go_wp2_with fail
    have rc0 : ((World.setCell (World.setCell (World.setCell (World.setCell w1 ⟨w.heap.size + 1 + 1, 0, none⟩ (.int .i64 kr1)) ⟨w.heap.size + 1 + 1, 1, none⟩ (.int .i64 gr1)) ⟨w.heap.size + 1 + 1, 2, none⟩ (.int .i64 lr1)) ⟨w.heap.size + 1 + 1, 3, none⟩ (.slice ar1 nr1 qr1))).cell? ⟨w.heap.size + 1 + 1, 0, none⟩ = some (.int .i64 kr1) := sc_far (sc_far (sc_far (sc_self (c2_0)) (by simp)) (by simp)) (by simp)
    have rc1 : ((World.setCell (World.setCell (World.setCell (World.setCell w1 ⟨w.heap.size + 1 + 1, 0, none⟩ (.int .i64 kr1)) ⟨w.heap.size + 1 + 1, 1, none⟩ (.int .i64 gr1)) ⟨w.heap.size + 1 + 1, 2, none⟩ (.int .i64 lr1)) ⟨w.heap.size + 1 + 1, 3, none⟩ (.slice ar1 nr1 qr1))).cell? ⟨w.heap.size + 1 + 1, 1, none⟩ = some (.int .i64 gr1) := sc_far (sc_far (sc_self (sc_far (c2_1) (by simp))) (by simp)) (by simp)
    have rc2 : ((World.setCell (World.setCell (World.setCell (World.setCell w1 ⟨w.heap.size + 1 + 1, 0, none⟩ (.int .i64 kr1)) ⟨w.heap.size + 1 + 1, 1, none⟩ (.int .i64 gr1)) ⟨w.heap.size + 1 + 1, 2, none⟩ (.int .i64 lr1)) ⟨w.heap.size + 1 + 1, 3, none⟩ (.slice ar1 nr1 qr1))).cell? ⟨w.heap.size + 1 + 1, 2, none⟩ = some (.int .i64 lr1) := sc_far (sc_self (sc_far (sc_far (c2_2) (by simp)) (by simp))) (by simp)
    have rc3 : ((World.setCell (World.setCell (World.setCell (World.setCell w1 ⟨w.heap.size + 1 + 1, 0, none⟩ (.int .i64 kr1)) ⟨w.heap.size + 1 + 1, 1, none⟩ (.int .i64 gr1)) ⟨w.heap.size + 1 + 1, 2, none⟩ (.int .i64 lr1)) ⟨w.heap.size + 1 + 1, 3, none⟩ (.slice ar1 nr1 qr1))).cell? ⟨w.heap.size + 1 + 1, 3, none⟩ = some (.slice ar1 nr1 qr1) := sc_self (sc_far (sc_far (sc_far (c2_3) (by simp)) (by simp)) (by simp))
    refine bodyPost_ret (v := .tuple #[.agg #[.int .i64 kr1, .int .i64 gr1, .int .i64 lr1, .slice ar1 nr1 qr1], .bool (bg == 1)]) (by simp [results, Try.results21, go_sem, rc0, rc1, rc2, rc3]) rfl ?_
    rw [show (bk == 5 || (bk == 1 && bg == 1)) = (bg == 1) from by simp [z0, z1, z2, z3, z4, q1]]
    exact ⟨_, rfl, CoNew.mono ((((hv1.setCell (by first | (show w.heap.size + 1 + 1 < _; omega) | (show w.heap.size + 1 + 1 < _; simp; omega) | simp) _).setCell (by first | (show w.heap.size + 1 + 1 < _; omega) | (show w.heap.size + 1 + 1 < _; simp; omega) | simp) _).setCell (by first | (show w.heap.size + 1 + 1 < _; omega) | (show w.heap.size + 1 + 1 < _; simp; omega) | simp) _).setCell (by first | (show w.heap.size + 1 + 1 < _; omega) | (show w.heap.size + 1 + 1 < _; simp; omega) | simp) _) (by first | exact Nat.le_refl _ | omega | (simp; done) | (simp; omega)), ((((hB.setCell (by show w.heap.size ≤ w.heap.size + 1 + 1; omega) _).setCell (by show w.heap.size ≤ w.heap.size + 1 + 1; omega) _).setCell (by show w.heap.size ≤ w.heap.size + 1 + 1; omega) _).setCell (by show w.heap.size ≤ w.heap.size + 1 + 1; omega) _)⟩
  · skip
    have nq1 : (bk != 1) = true := by simp only [bne, q1]; rfl
    go_wp2_with fail
    refine (HC.out _ bal3).mono ?_
    rintro e w2 ⟨v2, rfl, hv2, hb2⟩
    obtain ⟨kr2, gr2, lr2, ar2, nr2, qr2, rfl⟩ := hv2.shape
    have zs2 := hb2.size
    (try simp at zs2)
    have hB := (bstep bal3 hb2)
    have zw2 := hB.size
    have f2_0 : w2.frozen? ⟨w.heap.size + 1 + 1, 0, none⟩ = false := bfroc hb2 (cell_new (by simp) 0) (fro_new (by simp) 0)
    have f2_1 : w2.frozen? ⟨w.heap.size + 1 + 1, 1, none⟩ = false := bfroc hb2 (cell_new (by simp) 1) (fro_new (by simp) 1)
    have f2_2 : w2.frozen? ⟨w.heap.size + 1 + 1, 2, none⟩ = false := bfroc hb2 (cell_new (by simp) 2) (fro_new (by simp) 2)
    have f2_3 : w2.frozen? ⟨w.heap.size + 1 + 1, 3, none⟩ = false := bfroc hb2 (cell_new (by simp) 3) (fro_new (by simp) 3)
    have c2_0 : w2.cell? ⟨w.heap.size + 1 + 1, 0, none⟩ = some (.int .i64 0) := bcell hb2 (cell_new (by simp) 0)
    have c2_1 : w2.cell? ⟨w.heap.size + 1 + 1, 1, none⟩ = some (.int .i64 0) := bcell hb2 (cell_new (by simp) 1)
    have c2_2 : w2.cell? ⟨w.heap.size + 1 + 1, 2, none⟩ = some (.int .i64 0) := bcell hb2 (cell_new (by simp) 2)
    have c2_3 : w2.cell? ⟨w.heap.size + 1 + 1, 3, none⟩ = some (.slice none 0 0) := bcell hb2 (cell_new (by simp) 3)
    have d2_w2 := World.block_lt_of_cell? _ _ c2_0
    go_wp2_with fail
    have rc0 : ((World.setCell (World.setCell (World.setCell (World.setCell w2 ⟨w.heap.size + 1 + 1, 0, none⟩ (.int .i64 kr2)) ⟨w.heap.size + 1 + 1, 1, none⟩ (.int .i64 gr2)) ⟨w.heap.size + 1 + 1, 2, none⟩ (.int .i64 lr2)) ⟨w.heap.size + 1 + 1, 3, none⟩ (.slice ar2 nr2 qr2))).cell? ⟨w.heap.size + 1 + 1, 0, none⟩ = some (.int .i64 kr2) := sc_far (sc_far (sc_far (sc_self (c2_0)) (by simp)) (by simp)) (by simp)
    have rc1 : ((World.setCell (World.setCell (World.setCell (World.setCell w2 ⟨w.heap.size + 1 + 1, 0, none⟩ (.int .i64 kr2)) ⟨w.heap.size + 1 + 1, 1, none⟩ (.int .i64 gr2)) ⟨w.heap.size + 1 + 1, 2, none⟩ (.int .i64 lr2)) ⟨w.heap.size + 1 + 1, 3, none⟩ (.slice ar2 nr2 qr2))).cell? ⟨w.heap.size + 1 + 1, 1, none⟩ = some (.int .i64 gr2) := sc_far (sc_far (sc_self (sc_far (c2_1) (by simp))) (by simp)) (by simp)
    have rc2 : ((World.setCell (World.setCell (World.setCell (World.setCell w2 ⟨w.heap.size + 1 + 1, 0, none⟩ (.int .i64 kr2)) ⟨w.heap.size + 1 + 1, 1, none⟩ (.int .i64 gr2)) ⟨w.heap.size + 1 + 1, 2, none⟩ (.int .i64 lr2)) ⟨w.heap.size + 1 + 1, 3, none⟩ (.slice ar2 nr2 qr2))).cell? ⟨w.heap.size + 1 + 1, 2, none⟩ = some (.int .i64 lr2) := sc_far (sc_self (sc_far (sc_far (c2_2) (by simp)) (by simp))) (by simp)
    have rc3 : ((World.setCell (World.setCell (World.setCell (World.setCell w2 ⟨w.heap.size + 1 + 1, 0, none⟩ (.int .i64 kr2)) ⟨w.heap.size + 1 + 1, 1, none⟩ (.int .i64 gr2)) ⟨w.heap.size + 1 + 1, 2, none⟩ (.int .i64 lr2)) ⟨w.heap.size + 1 + 1, 3, none⟩ (.slice ar2 nr2 qr2))).cell? ⟨w.heap.size + 1 + 1, 3, none⟩ = some (.slice ar2 nr2 qr2) := sc_self (sc_far (sc_far (sc_far (c2_3) (by simp)) (by simp)) (by simp))
    refine bodyPost_ret (v := .tuple #[.agg #[.int .i64 kr2, .int .i64 gr2, .int .i64 lr2, .slice ar2 nr2 qr2], .bool false]) (by simp [results, Try.results21, go_sem, rc0, rc1, rc2, rc3]) rfl ?_
    rw [show (bk == 5 || (bk == 1 && bg == 1)) = false from by simp [z0, z1, z2, z3, z4, q1]]
    exact ⟨_, rfl, CoNew.mono ((((hv2.setCell (by first | (show w.heap.size + 1 + 1 < _; omega) | (show w.heap.size + 1 + 1 < _; simp; omega) | simp) _).setCell (by first | (show w.heap.size + 1 + 1 < _; omega) | (show w.heap.size + 1 + 1 < _; simp; omega) | simp) _).setCell (by first | (show w.heap.size + 1 + 1 < _; omega) | (show w.heap.size + 1 + 1 < _; simp; omega) | simp) _).setCell (by first | (show w.heap.size + 1 + 1 < _; omega) | (show w.heap.size + 1 + 1 < _; simp; omega) | simp) _) (by first | exact Nat.le_refl _ | omega | (simp; done) | (simp; omega)), ((((hB.setCell (by show w.heap.size ≤ w.heap.size + 1 + 1; omega) _).setCell (by show w.heap.size ≤ w.heap.size + 1 + 1; omega) _).setCell (by show w.heap.size ≤ w.heap.size + 1 + 1; omega) _).setCell (by show w.heap.size ≤ w.heap.size + 1 + 1; omega) _)⟩
end Go.Proofs.Ythhdjacdalehoaa
