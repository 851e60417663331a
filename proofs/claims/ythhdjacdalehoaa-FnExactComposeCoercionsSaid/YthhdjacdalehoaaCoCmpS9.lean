/-
  l6Compose: plain ahead of a projection.
-/
import Derived.Test.YthhdjacdalehoaaCoRetB
import Derived.Test.YthhdjacdalehoaaCoTag
import Derived.Deep.RegionHeld3
import Derived.Deep.QuietTactic
import Derived.Deep.DeepCutAuto
import Derived.Test.YthhdjacdalehoaaB22
import Derived.Test.YthhdjacdalehoaaB11
namespace Go.Proofs.Ythhdjacdalehoaa
open Go.RowKit
set_option linter.unusedVariables false
set_option linter.unusedSimpArgs false
set_option maxRecDepth 100000

set_option maxHeartbeats 4000000 in
theorem specCmpTv1 (ag al bg bl : Int) (aa ba : Option Addr) (an aq bn bq : Nat) (c0 : Co) (ok0 : Bool) (w : World) (z0 : (ag == 1) = false) (HR : Hid (∀ W, Below w.heap.size w W → Calls Try.prog 44 #[.agg #[.int .i64 1, .int .i64 ag, .int .i64 al, .slice aa an aq], .agg #[.int .i64 5, .int .i64 bg, .int .i64 bl, .slice ba bn bq]] W (RetCoB (c0) (ok0) W))) :
    Calls Try.prog 21 #[.agg #[.int .i64 1, .int .i64 ag, .int .i64 al, .slice aa an aq], .agg #[.int .i64 5, .int .i64 bg, .int .i64 bl, .slice ba bn bq]] w (RetCoB (c0) (ok0) w) := by
  go_enter Try.func21, Try.ntmps21
  go_wp2_with fail
  refine (HR.out _ bal3).mono ?_
  rintro e w1 ⟨v1, rfl, hv1, hb1⟩
  obtain ⟨kr1, gr1, lr1, ar1, nr1, qr1, rfl⟩ := hv1.shape
  have zs1 := hb1.size
  (try simp at zs1)
  have hB := (bstep bal3 hb1)
  have zw1 := hB.size
  have f2_0 : w1.frozen? ⟨w.heap.size + 1 + 1, 0, none⟩ = false := bfroc hb1 (cell_new (by simp) 0) (fro_new (by simp) 0)
  have f2_1 : w1.frozen? ⟨w.heap.size + 1 + 1, 1, none⟩ = false := bfroc hb1 (cell_new (by simp) 1) (fro_new (by simp) 1)
  have f2_2 : w1.frozen? ⟨w.heap.size + 1 + 1, 2, none⟩ = false := bfroc hb1 (cell_new (by simp) 2) (fro_new (by simp) 2)
  have f2_3 : w1.frozen? ⟨w.heap.size + 1 + 1, 3, none⟩ = false := bfroc hb1 (cell_new (by simp) 3) (fro_new (by simp) 3)
  have c2_0 : w1.cell? ⟨w.heap.size + 1 + 1, 0, none⟩ = some (.int .i64 0) := bcell hb1 (cell_new (by simp) 0)
  have c2_1 : w1.cell? ⟨w.heap.size + 1 + 1, 1, none⟩ = some (.int .i64 0) := bcell hb1 (cell_new (by simp) 1)
  have c2_2 : w1.cell? ⟨w.heap.size + 1 + 1, 2, none⟩ = some (.int .i64 0) := bcell hb1 (cell_new (by simp) 2)
  have c2_3 : w1.cell? ⟨w.heap.size + 1 + 1, 3, none⟩ = some (.slice none 0 0) := bcell hb1 (cell_new (by simp) 3)
  have d2_w1 := World.block_lt_of_cell? _ _ c2_0
  go_wp2_with fail
  have rc0 : ((World.setCell (World.setCell (World.setCell (World.setCell w1 ⟨w.heap.size + 1 + 1, 0, none⟩ (.int .i64 kr1)) ⟨w.heap.size + 1 + 1, 1, none⟩ (.int .i64 gr1)) ⟨w.heap.size + 1 + 1, 2, none⟩ (.int .i64 lr1)) ⟨w.heap.size + 1 + 1, 3, none⟩ (.slice ar1 nr1 qr1))).cell? ⟨w.heap.size + 1 + 1, 0, none⟩ = some (.int .i64 kr1) := sc_far (sc_far (sc_far (sc_self (c2_0)) (by simp)) (by simp)) (by simp)
  have rc1 : ((World.setCell (World.setCell (World.setCell (World.setCell w1 ⟨w.heap.size + 1 + 1, 0, none⟩ (.int .i64 kr1)) ⟨w.heap.size + 1 + 1, 1, none⟩ (.int .i64 gr1)) ⟨w.heap.size + 1 + 1, 2, none⟩ (.int .i64 lr1)) ⟨w.heap.size + 1 + 1, 3, none⟩ (.slice ar1 nr1 qr1))).cell? ⟨w.heap.size + 1 + 1, 1, none⟩ = some (.int .i64 gr1) := sc_far (sc_far (sc_self (sc_far (c2_1) (by simp))) (by simp)) (by simp)
  have rc2 : ((World.setCell (World.setCell (World.setCell (World.setCell w1 ⟨w.heap.size + 1 + 1, 0, none⟩ (.int .i64 kr1)) ⟨w.heap.size + 1 + 1, 1, none⟩ (.int .i64 gr1)) ⟨w.heap.size + 1 + 1, 2, none⟩ (.int .i64 lr1)) ⟨w.heap.size + 1 + 1, 3, none⟩ (.slice ar1 nr1 qr1))).cell? ⟨w.heap.size + 1 + 1, 2, none⟩ = some (.int .i64 lr1) := sc_far (sc_self (sc_far (sc_far (c2_2) (by simp)) (by simp))) (by simp)
  have rc3 : ((World.setCell (World.setCell (World.setCell (World.setCell w1 ⟨w.heap.size + 1 + 1, 0, none⟩ (.int .i64 kr1)) ⟨w.heap.size + 1 + 1, 1, none⟩ (.int .i64 gr1)) ⟨w.heap.size + 1 + 1, 2, none⟩ (.int .i64 lr1)) ⟨w.heap.size + 1 + 1, 3, none⟩ (.slice ar1 nr1 qr1))).cell? ⟨w.heap.size + 1 + 1, 3, none⟩ = some (.slice ar1 nr1 qr1) := sc_self (sc_far (sc_far (sc_far (c2_3) (by simp)) (by simp)) (by simp))
  refine bodyPost_ret (v := .tuple #[.agg #[.int .i64 kr1, .int .i64 gr1, .int .i64 lr1, .slice ar1 nr1 qr1], .bool ok0]) (by simp [results, Try.results21, go_sem, rc0, rc1, rc2, rc3]) rfl ?_
  exact ⟨_, rfl, CoNew.mono ((((hv1.setCell (by first | (show w.heap.size + 1 + 1 < _; omega) | (show w.heap.size + 1 + 1 < _; simp; omega) | simp) _).setCell (by first | (show w.heap.size + 1 + 1 < _; omega) | (show w.heap.size + 1 + 1 < _; simp; omega) | simp) _).setCell (by first | (show w.heap.size + 1 + 1 < _; omega) | (show w.heap.size + 1 + 1 < _; simp; omega) | simp) _).setCell (by first | (show w.heap.size + 1 + 1 < _; omega) | (show w.heap.size + 1 + 1 < _; simp; omega) | simp) _) (by first | exact Nat.le_refl _ | omega | (simp; done) | (simp; omega)), ((((hB.setCell (by show w.heap.size ≤ w.heap.size + 1 + 1; omega) _).setCell (by show w.heap.size ≤ w.heap.size + 1 + 1; omega) _).setCell (by show w.heap.size ≤ w.heap.size + 1 + 1; omega) _).setCell (by show w.heap.size ≤ w.heap.size + 1 + 1; omega) _)⟩
set_option maxHeartbeats 4000000 in
theorem specCmpTv2 (ag al bg bl : Int) (aa ba : Option Addr) (an aq bn bq : Nat) (c0 : Co) (ok0 : Bool) (w : World) (HR : Hid (∀ W, Below w.heap.size w W → Calls Try.prog 44 #[.agg #[.int .i64 2, .int .i64 ag, .int .i64 al, .slice aa an aq], .agg #[.int .i64 5, .int .i64 bg, .int .i64 bl, .slice ba bn bq]] W (RetCoB (c0) (ok0) W))) :
    Calls Try.prog 21 #[.agg #[.int .i64 2, .int .i64 ag, .int .i64 al, .slice aa an aq], .agg #[.int .i64 5, .int .i64 bg, .int .i64 bl, .slice ba bn bq]] w (RetCoB (c0) (ok0) w) := by
  go_enter Try.func21, Try.ntmps21
  go_wp2_with fail
  refine (HR.out _ bal3).mono ?_
  rintro e w1 ⟨v1, rfl, hv1, hb1⟩
  obtain ⟨kr1, gr1, lr1, ar1, nr1, qr1, rfl⟩ := hv1.shape
  have zs1 := hb1.size
  (try simp at zs1)
  have hB := (bstep bal3 hb1)
  have zw1 := hB.size
  have f2_0 : w1.frozen? ⟨w.heap.size + 1 + 1, 0, none⟩ = false := bfroc hb1 (cell_new (by simp) 0) (fro_new (by simp) 0)
  have f2_1 : w1.frozen? ⟨w.heap.size + 1 + 1, 1, none⟩ = false := bfroc hb1 (cell_new (by simp) 1) (fro_new (by simp) 1)
  have f2_2 : w1.frozen? ⟨w.heap.size + 1 + 1, 2, none⟩ = false := bfroc hb1 (cell_new (by simp) 2) (fro_new (by simp) 2)
  have f2_3 : w1.frozen? ⟨w.heap.size + 1 + 1, 3, none⟩ = false := bfroc hb1 (cell_new (by simp) 3) (fro_new (by simp) 3)
  have c2_0 : w1.cell? ⟨w.heap.size + 1 + 1, 0, none⟩ = some (.int .i64 0) := bcell hb1 (cell_new (by simp) 0)
  have c2_1 : w1.cell? ⟨w.heap.size + 1 + 1, 1, none⟩ = some (.int .i64 0) := bcell hb1 (cell_new (by simp) 1)
  have c2_2 : w1.cell? ⟨w.heap.size + 1 + 1, 2, none⟩ = some (.int .i64 0) := bcell hb1 (cell_new (by simp) 2)
  have c2_3 : w1.cell? ⟨w.heap.size + 1 + 1, 3, none⟩ = some (.slice none 0 0) := bcell hb1 (cell_new (by simp) 3)
  have d2_w1 := World.block_lt_of_cell? _ _ c2_0
  go_wp2_with fail
  have rc0 : ((World.setCell (World.setCell (World.setCell (World.setCell w1 ⟨w.heap.size + 1 + 1, 0, none⟩ (.int .i64 kr1)) ⟨w.heap.size + 1 + 1, 1, none⟩ (.int .i64 gr1)) ⟨w.heap.size + 1 + 1, 2, none⟩ (.int .i64 lr1)) ⟨w.heap.size + 1 + 1, 3, none⟩ (.slice ar1 nr1 qr1))).cell? ⟨w.heap.size + 1 + 1, 0, none⟩ = some (.int .i64 kr1) := sc_far (sc_far (sc_far (sc_self (c2_0)) (by simp)) (by simp)) (by simp)
  have rc1 : ((World.setCell (World.setCell (World.setCell (World.setCell w1 ⟨w.heap.size + 1 + 1, 0, none⟩ (.int .i64 kr1)) ⟨w.heap.size + 1 + 1, 1, none⟩ (.int .i64 gr1)) ⟨w.heap.size + 1 + 1, 2, none⟩ (.int .i64 lr1)) ⟨w.heap.size + 1 + 1, 3, none⟩ (.slice ar1 nr1 qr1))).cell? ⟨w.heap.size + 1 + 1, 1, none⟩ = some (.int .i64 gr1) := sc_far (sc_far (sc_self (sc_far (c2_1) (by simp))) (by simp)) (by simp)
  have rc2 : ((World.setCell (World.setCell (World.setCell (World.setCell w1 ⟨w.heap.size + 1 + 1, 0, none⟩ (.int .i64 kr1)) ⟨w.heap.size + 1 + 1, 1, none⟩ (.int .i64 gr1)) ⟨w.heap.size + 1 + 1, 2, none⟩ (.int .i64 lr1)) ⟨w.heap.size + 1 + 1, 3, none⟩ (.slice ar1 nr1 qr1))).cell? ⟨w.heap.size + 1 + 1, 2, none⟩ = some (.int .i64 lr1) := sc_far (sc_self (sc_far (sc_far (c2_2) (by simp)) (by simp))) (by simp)
  have rc3 : ((World.setCell (World.setCell (World.setCell (World.setCell w1 ⟨w.heap.size + 1 + 1, 0, none⟩ (.int .i64 kr1)) ⟨w.heap.size + 1 + 1, 1, none⟩ (.int .i64 gr1)) ⟨w.heap.size + 1 + 1, 2, none⟩ (.int .i64 lr1)) ⟨w.heap.size + 1 + 1, 3, none⟩ (.slice ar1 nr1 qr1))).cell? ⟨w.heap.size + 1 + 1, 3, none⟩ = some (.slice ar1 nr1 qr1) := sc_self (sc_far (sc_far (sc_far (c2_3) (by simp)) (by simp)) (by simp))
  refine bodyPost_ret (v := .tuple #[.agg #[.int .i64 kr1, .int .i64 gr1, .int .i64 lr1, .slice ar1 nr1 qr1], .bool ok0]) (by simp [results, Try.results21, go_sem, rc0, rc1, rc2, rc3]) rfl ?_
  exact ⟨_, rfl, CoNew.mono ((((hv1.setCell (by first | (show w.heap.size + 1 + 1 < _; omega) | (show w.heap.size + 1 + 1 < _; simp; omega) | simp) _).setCell (by first | (show w.heap.size + 1 + 1 < _; omega) | (show w.heap.size + 1 + 1 < _; simp; omega) | simp) _).setCell (by first | (show w.heap.size + 1 + 1 < _; omega) | (show w.heap.size + 1 + 1 < _; simp; omega) | simp) _).setCell (by first | (show w.heap.size + 1 + 1 < _; omega) | (show w.heap.size + 1 + 1 < _; simp; omega) | simp) _) (by first | exact Nat.le_refl _ | omega | (simp; done) | (simp; omega)), ((((hB.setCell (by show w.heap.size ≤ w.heap.size + 1 + 1; omega) _).setCell (by show w.heap.size ≤ w.heap.size + 1 + 1; omega) _).setCell (by show w.heap.size ≤ w.heap.size + 1 + 1; omega) _).setCell (by show w.heap.size ≤ w.heap.size + 1 + 1; omega) _)⟩
set_option maxHeartbeats 4000000 in
theorem specCmpTv3 (ag al bg bl : Int) (aa ba : Option Addr) (an aq bn bq : Nat) (c0 : Co) (ok0 : Bool) (w : World) (HR : Hid (∀ W, Below w.heap.size w W → Calls Try.prog 44 #[.agg #[.int .i64 3, .int .i64 ag, .int .i64 al, .slice aa an aq], .agg #[.int .i64 5, .int .i64 bg, .int .i64 bl, .slice ba bn bq]] W (RetCoB (c0) (ok0) W))) :
    Calls Try.prog 21 #[.agg #[.int .i64 3, .int .i64 ag, .int .i64 al, .slice aa an aq], .agg #[.int .i64 5, .int .i64 bg, .int .i64 bl, .slice ba bn bq]] w (RetCoB (c0) (ok0) w) := by
  go_enter Try.func21, Try.ntmps21
  go_wp2_with fail
  refine (HR.out _ bal3).mono ?_
  rintro e w1 ⟨v1, rfl, hv1, hb1⟩
  obtain ⟨kr1, gr1, lr1, ar1, nr1, qr1, rfl⟩ := hv1.shape
  have zs1 := hb1.size
  (try simp at zs1)
  have hB := (bstep bal3 hb1)
  have zw1 := hB.size
  have f2_0 : w1.frozen? ⟨w.heap.size + 1 + 1, 0, none⟩ = false := bfroc hb1 (cell_new (by simp) 0) (fro_new (by simp) 0)
  have f2_1 : w1.frozen? ⟨w.heap.size + 1 + 1, 1, none⟩ = false := bfroc hb1 (cell_new (by simp) 1) (fro_new (by simp) 1)
  have f2_2 : w1.frozen? ⟨w.heap.size + 1 + 1, 2, none⟩ = false := bfroc hb1 (cell_new (by simp) 2) (fro_new (by simp) 2)
  have f2_3 : w1.frozen? ⟨w.heap.size + 1 + 1, 3, none⟩ = false := bfroc hb1 (cell_new (by simp) 3) (fro_new (by simp) 3)
  have c2_0 : w1.cell? ⟨w.heap.size + 1 + 1, 0, none⟩ = some (.int .i64 0) := bcell hb1 (cell_new (by simp) 0)
  have c2_1 : w1.cell? ⟨w.heap.size + 1 + 1, 1, none⟩ = some (.int .i64 0) := bcell hb1 (cell_new (by simp) 1)
  have c2_2 : w1.cell? ⟨w.heap.size + 1 + 1, 2, none⟩ = some (.int .i64 0) := bcell hb1 (cell_new (by simp) 2)
  have c2_3 : w1.cell? ⟨w.heap.size + 1 + 1, 3, none⟩ = some (.slice none 0 0) := bcell hb1 (cell_new (by simp) 3)
  have d2_w1 := World.block_lt_of_cell? _ _ c2_0
  go_wp2_with fail
  have rc0 : ((World.setCell (World.setCell (World.setCell (World.setCell w1 ⟨w.heap.size + 1 + 1, 0, none⟩ (.int .i64 kr1)) ⟨w.heap.size + 1 + 1, 1, none⟩ (.int .i64 gr1)) ⟨w.heap.size + 1 + 1, 2, none⟩ (.int .i64 lr1)) ⟨w.heap.size + 1 + 1, 3, none⟩ (.slice ar1 nr1 qr1))).cell? ⟨w.heap.size + 1 + 1, 0, none⟩ = some (.int .i64 kr1) := sc_far (sc_far (sc_far (sc_self (c2_0)) (by simp)) (by simp)) (by simp)
  have rc1 : ((World.setCell (World.setCell (World.setCell (World.setCell w1 ⟨w.heap.size + 1 + 1, 0, none⟩ (.int .i64 kr1)) ⟨w.heap.size + 1 + 1, 1, none⟩ (.int .i64 gr1)) ⟨w.heap.size + 1 + 1, 2, none⟩ (.int .i64 lr1)) ⟨w.heap.size + 1 + 1, 3, none⟩ (.slice ar1 nr1 qr1))).cell? ⟨w.heap.size + 1 + 1, 1, none⟩ = some (.int .i64 gr1) := sc_far (sc_far (sc_self (sc_far (c2_1) (by simp))) (by simp)) (by simp)
  have rc2 : ((World.setCell (World.setCell (World.setCell (World.setCell w1 ⟨w.heap.size + 1 + 1, 0, none⟩ (.int .i64 kr1)) ⟨w.heap.size + 1 + 1, 1, none⟩ (.int .i64 gr1)) ⟨w.heap.size + 1 + 1, 2, none⟩ (.int .i64 lr1)) ⟨w.heap.size + 1 + 1, 3, none⟩ (.slice ar1 nr1 qr1))).cell? ⟨w.heap.size + 1 + 1, 2, none⟩ = some (.int .i64 lr1) := sc_far (sc_self (sc_far (sc_far (c2_2) (by simp)) (by simp))) (by simp)
  have rc3 : ((World.setCell (World.setCell (World.setCell (World.setCell w1 ⟨w.heap.size + 1 + 1, 0, none⟩ (.int .i64 kr1)) ⟨w.heap.size + 1 + 1, 1, none⟩ (.int .i64 gr1)) ⟨w.heap.size + 1 + 1, 2, none⟩ (.int .i64 lr1)) ⟨w.heap.size + 1 + 1, 3, none⟩ (.slice ar1 nr1 qr1))).cell? ⟨w.heap.size + 1 + 1, 3, none⟩ = some (.slice ar1 nr1 qr1) := sc_self (sc_far (sc_far (sc_far (c2_3) (by simp)) (by simp)) (by simp))
  refine bodyPost_ret (v := .tuple #[.agg #[.int .i64 kr1, .int .i64 gr1, .int .i64 lr1, .slice ar1 nr1 qr1], .bool ok0]) (by simp [results, Try.results21, go_sem, rc0, rc1, rc2, rc3]) rfl ?_
  exact ⟨_, rfl, CoNew.mono ((((hv1.setCell (by first | (show w.heap.size + 1 + 1 < _; omega) | (show w.heap.size + 1 + 1 < _; simp; omega) | simp) _).setCell (by first | (show w.heap.size + 1 + 1 < _; omega) | (show w.heap.size + 1 + 1 < _; simp; omega) | simp) _).setCell (by first | (show w.heap.size + 1 + 1 < _; omega) | (show w.heap.size + 1 + 1 < _; simp; omega) | simp) _).setCell (by first | (show w.heap.size + 1 + 1 < _; omega) | (show w.heap.size + 1 + 1 < _; simp; omega) | simp) _) (by first | exact Nat.le_refl _ | omega | (simp; done) | (simp; omega)), ((((hB.setCell (by show w.heap.size ≤ w.heap.size + 1 + 1; omega) _).setCell (by show w.heap.size ≤ w.heap.size + 1 + 1; omega) _).setCell (by show w.heap.size ≤ w.heap.size + 1 + 1; omega) _).setCell (by show w.heap.size ≤ w.heap.size + 1 + 1; omega) _)⟩
end Go.Proofs.Ythhdjacdalehoaa
