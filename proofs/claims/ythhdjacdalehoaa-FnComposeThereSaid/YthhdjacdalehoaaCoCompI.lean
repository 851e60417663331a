/-
  ComposeCoercions of the program.
-/
import Derived.Test.YthhdjacdalehoaaB13
import Derived.Test.YthhdjacdalehoaaCoOwnI
import Derived.Test.YthhdjacdalehoaaB7
import Derived.Test.YthhdjacdalehoaaB7
import Derived.Test.YthhdjacdalehoaaB15
namespace Go.Proofs.Ythhdjacdalehoaa
open Go.RowKit
set_option linter.unusedVariables false
set_option linter.unusedSimpArgs false
set_option maxRecDepth 100000

theorem CoRep.chg {fp : List Nat} {w w' : World} {F : Nat → Prop} {t : Co} {y : Value} (h : Chg fp w w') (hn : ∀ b, F b → b ∉ fp) (r : CoRep F w t y) : CoRep F w' t y := r.move (h.keeps hn)
set_option maxHeartbeats 8000000 in
theorem implTopC (ak ag al bk bg bl : Int) (aa ba : Option Addr) (an aq bn bq : Nat) (c0 : Co) (va vb ok0 vc : Bool) (w : World) (HVa : Hid (∀ W, Below w.heap.size w W → Calls Try.prog 23 #[.agg #[.int .i64 ak, .int .i64 ag, .int .i64 al, .slice aa an aq]] W fun e W' => e = .returned (.bool va) ∧ Below W.heap.size W W')) (HVb : Hid (∀ W, Below w.heap.size w W → Calls Try.prog 23 #[.agg #[.int .i64 bk, .int .i64 bg, .int .i64 bl, .slice ba bn bq]] W fun e W' => e = .returned (.bool vb) ∧ Below W.heap.size W W')) (HR : Hid (va = true → vb = true → ∀ W, Below w.heap.size w W → Calls Try.prog 24 #[.agg #[.int .i64 ak, .int .i64 ag, .int .i64 al, .slice aa an aq], .agg #[.int .i64 bk, .int .i64 bg, .int .i64 bl, .slice ba bn bq]] W (RetCoP w.heap.size c0 ok0 W))) (hvc : c0.valid = vc) :
    Calls Try.prog 8 #[.agg #[.int .i64 ak, .int .i64 ag, .int .i64 al, .slice aa an aq], .agg #[.int .i64 bk, .int .i64 bg, .int .i64 bl, .slice ba bn bq]] w (RetCoB (if (va && vb) && (ok0 && vc) then c0 else Co.mk 0 0 0 []) ((va && vb) && (ok0 && vc)) w) := by
  cases va
  · simp only [Bool.false_and, Bool.and_false, Bool.true_and, Bool.false_eq_true, if_false, if_true]
    go_enter Try.func8, Try.ntmps8
    go_wp2_with fail
    refine (HVa.out _ bal3).mono ?_
    rintro e w1 ⟨rfl, hb1⟩
    have hR := blk_below (blk_n2 (w := w) (o := .cells #[.int .i64 ak, .int .i64 ag, .int .i64 al, .slice aa an aq] 28) (o' := .cells #[.int .i64 bk, .int .i64 bg, .int .i64 bl, .slice ba bn bq] 28) (x := .cells #[.int .i64 0, .int .i64 0, .int .i64 0, .slice none 0 0] 28)) hb1
    have hB1 := bstep (bal3 (w := w) (o := .cells #[.int .i64 ak, .int .i64 ag, .int .i64 al, .slice aa an aq] 28) (o' := .cells #[.int .i64 bk, .int .i64 bg, .int .i64 bl, .slice ba bn bq] 28) (o2 := .cells #[.int .i64 0, .int .i64 0, .int .i64 0, .slice none 0 0] 28)) hb1
    have hz1 := hb1.size
    simp only [World.size_alloc] at hz1
    have A0 : w1.cell? ⟨w.heap.size, 0, none⟩ = some (.int .i64 ak) := bcell hb1 (bcell bal1 (bcell bal1 (cell_n0 0)))
    have A1 : w1.cell? ⟨w.heap.size, 1, none⟩ = some (.int .i64 ag) := bcell hb1 (bcell bal1 (bcell bal1 (cell_n0 1)))
    have A2 : w1.cell? ⟨w.heap.size, 2, none⟩ = some (.int .i64 al) := bcell hb1 (bcell bal1 (bcell bal1 (cell_n0 2)))
    have A3 : w1.cell? ⟨w.heap.size, 3, none⟩ = some (.slice aa an aq) := bcell hb1 (bcell bal1 (bcell bal1 (cell_n0 3)))
    have B0 : w1.cell? ⟨w.heap.size + 1, 0, none⟩ = some (.int .i64 bk) := bcell hb1 (bcell bal1 (cell_n1 0))
    have B1 : w1.cell? ⟨w.heap.size + 1, 1, none⟩ = some (.int .i64 bg) := bcell hb1 (bcell bal1 (cell_n1 1))
    have B2 : w1.cell? ⟨w.heap.size + 1, 2, none⟩ = some (.int .i64 bl) := bcell hb1 (bcell bal1 (cell_n1 2))
    have B3 : w1.cell? ⟨w.heap.size + 1, 3, none⟩ = some (.slice ba bn bq) := bcell hb1 (bcell bal1 (cell_n1 3))
    have HB1 := Lib.hid hB1
    clear hb1 hB1
    have lA := World.block_lt_of_cell? _ _ A0
    have lB := World.block_lt_of_cell? _ _ B0
    have r0 : w1.cell? ⟨w.heap.size + 1 + 1, 0, none⟩ = some (.int .i64 0) := blk_cell hR rfl
    have r1 : w1.cell? ⟨w.heap.size + 1 + 1, 1, none⟩ = some (.int .i64 0) := blk_cell hR rfl
    have r2 : w1.cell? ⟨w.heap.size + 1 + 1, 2, none⟩ = some (.int .i64 0) := blk_cell hR rfl
    have r3 : w1.cell? ⟨w.heap.size + 1 + 1, 3, none⟩ = some (.slice none 0 0) := blk_cell hR rfl
    have rf0 : w1.frozen? ⟨w.heap.size + 1 + 1, 0, none⟩ = false := blk_fro hR 0
    have rf1 : w1.frozen? ⟨w.heap.size + 1 + 1, 1, none⟩ = false := blk_fro hR 1
    have rf2 : w1.frozen? ⟨w.heap.size + 1 + 1, 2, none⟩ = false := blk_fro hR 2
    have rf3 : w1.frozen? ⟨w.heap.size + 1 + 1, 3, none⟩ = false := blk_fro hR 3
    have lR := blk_lt hR
    go_wp2_with fail
    replace hR : (w1.setCell ⟨w.heap.size + 1 + 1, 0, none⟩ (.int .i64 0)).heap[w.heap.size + 1 + 1]? = some (.cells #[.int .i64 0, .int .i64 0, .int .i64 0, .slice none 0 0] 28 (0, 0)) := blk_set hR rfl
    replace hR : ((w1.setCell ⟨w.heap.size + 1 + 1, 0, none⟩ (.int .i64 0)).setCell ⟨w.heap.size + 1 + 1, 1, none⟩ (.int .i64 0)).heap[w.heap.size + 1 + 1]? = some (.cells #[.int .i64 0, .int .i64 0, .int .i64 0, .slice none 0 0] 28 (0, 0)) := blk_set hR rfl
    replace hR : (((w1.setCell ⟨w.heap.size + 1 + 1, 0, none⟩ (.int .i64 0)).setCell ⟨w.heap.size + 1 + 1, 1, none⟩ (.int .i64 0)).setCell ⟨w.heap.size + 1 + 1, 2, none⟩ (.int .i64 0)).heap[w.heap.size + 1 + 1]? = some (.cells #[.int .i64 0, .int .i64 0, .int .i64 0, .slice none 0 0] 28 (0, 0)) := blk_set hR rfl
    replace hR : ((((w1.setCell ⟨w.heap.size + 1 + 1, 0, none⟩ (.int .i64 0)).setCell ⟨w.heap.size + 1 + 1, 1, none⟩ (.int .i64 0)).setCell ⟨w.heap.size + 1 + 1, 2, none⟩ (.int .i64 0)).setCell ⟨w.heap.size + 1 + 1, 3, none⟩ (.slice none 0 0)).heap[w.heap.size + 1 + 1]? = some (.cells #[.int .i64 0, .int .i64 0, .int .i64 0, .slice none 0 0] 28 (0, 0)) := blk_set hR rfl
    have rc0 := blk_cell hR (o := 0) rfl
    have rc1 := blk_cell hR (o := 1) rfl
    have rc2 := blk_cell hR (o := 2) rfl
    have rc3 := blk_cell hR (o := 3) rfl
    refine bodyPost_ret (v := .tuple #[.agg #[.int .i64 0, .int .i64 0, .int .i64 0, .slice none 0 0], .bool false]) (by simp [results, Try.results8, go_sem, rc0, rc1, rc2, rc3]) rfl ?_
    exact ⟨_, rfl, CoNew.zero _ _ _, ((((HB1.out.setCell (p := ⟨w.heap.size + 1 + 1, 0, none⟩) (by show w.heap.size ≤ w.heap.size + 1 + 1; omega) _).setCell (p := ⟨w.heap.size + 1 + 1, 1, none⟩) (by show w.heap.size ≤ w.heap.size + 1 + 1; omega) _).setCell (p := ⟨w.heap.size + 1 + 1, 2, none⟩) (by show w.heap.size ≤ w.heap.size + 1 + 1; omega) _).setCell (p := ⟨w.heap.size + 1 + 1, 3, none⟩) (by show w.heap.size ≤ w.heap.size + 1 + 1; omega) _)⟩
  cases vb
  · simp only [Bool.false_and, Bool.and_false, Bool.true_and, Bool.false_eq_true, if_false, if_true]
    go_enter Try.func8, Try.ntmps8
    go_wp2_with fail
    refine (HVa.out _ bal3).mono ?_
    rintro e w1 ⟨rfl, hb1⟩
    have hR := blk_below (blk_n2 (w := w) (o := .cells #[.int .i64 ak, .int .i64 ag, .int .i64 al, .slice aa an aq] 28) (o' := .cells #[.int .i64 bk, .int .i64 bg, .int .i64 bl, .slice ba bn bq] 28) (x := .cells #[.int .i64 0, .int .i64 0, .int .i64 0, .slice none 0 0] 28)) hb1
    have hB1 := bstep (bal3 (w := w) (o := .cells #[.int .i64 ak, .int .i64 ag, .int .i64 al, .slice aa an aq] 28) (o' := .cells #[.int .i64 bk, .int .i64 bg, .int .i64 bl, .slice ba bn bq] 28) (o2 := .cells #[.int .i64 0, .int .i64 0, .int .i64 0, .slice none 0 0] 28)) hb1
    have hz1 := hb1.size
    simp only [World.size_alloc] at hz1
    have A0 : w1.cell? ⟨w.heap.size, 0, none⟩ = some (.int .i64 ak) := bcell hb1 (bcell bal1 (bcell bal1 (cell_n0 0)))
    have A1 : w1.cell? ⟨w.heap.size, 1, none⟩ = some (.int .i64 ag) := bcell hb1 (bcell bal1 (bcell bal1 (cell_n0 1)))
    have A2 : w1.cell? ⟨w.heap.size, 2, none⟩ = some (.int .i64 al) := bcell hb1 (bcell bal1 (bcell bal1 (cell_n0 2)))
    have A3 : w1.cell? ⟨w.heap.size, 3, none⟩ = some (.slice aa an aq) := bcell hb1 (bcell bal1 (bcell bal1 (cell_n0 3)))
    have B0 : w1.cell? ⟨w.heap.size + 1, 0, none⟩ = some (.int .i64 bk) := bcell hb1 (bcell bal1 (cell_n1 0))
    have B1 : w1.cell? ⟨w.heap.size + 1, 1, none⟩ = some (.int .i64 bg) := bcell hb1 (bcell bal1 (cell_n1 1))
    have B2 : w1.cell? ⟨w.heap.size + 1, 2, none⟩ = some (.int .i64 bl) := bcell hb1 (bcell bal1 (cell_n1 2))
    have B3 : w1.cell? ⟨w.heap.size + 1, 3, none⟩ = some (.slice ba bn bq) := bcell hb1 (bcell bal1 (cell_n1 3))
    have HB1 := Lib.hid hB1
    clear hb1 hB1
    have lA := World.block_lt_of_cell? _ _ A0
    have lB := World.block_lt_of_cell? _ _ B0
    go_wp2_with fail
    refine (HVb.out _ HB1.out).mono ?_
    rintro e w2 ⟨rfl, hb2⟩
    replace hR := blk_below hR hb2
    have HB2 := Lib.hid (bstep HB1.out hb2)
    have hz2 := hb2.size
    replace A0 := bcell hb2 A0
    replace A1 := bcell hb2 A1
    replace A2 := bcell hb2 A2
    replace A3 := bcell hb2 A3
    replace B0 := bcell hb2 B0
    replace B1 := bcell hb2 B1
    replace B2 := bcell hb2 B2
    replace B3 := bcell hb2 B3
    clear hb2
    have lA2 := World.block_lt_of_cell? _ _ A0
    have lB2 := World.block_lt_of_cell? _ _ B0
    have r0 : w2.cell? ⟨w.heap.size + 1 + 1, 0, none⟩ = some (.int .i64 0) := blk_cell hR rfl
    have r1 : w2.cell? ⟨w.heap.size + 1 + 1, 1, none⟩ = some (.int .i64 0) := blk_cell hR rfl
    have r2 : w2.cell? ⟨w.heap.size + 1 + 1, 2, none⟩ = some (.int .i64 0) := blk_cell hR rfl
    have r3 : w2.cell? ⟨w.heap.size + 1 + 1, 3, none⟩ = some (.slice none 0 0) := blk_cell hR rfl
    have rf0 : w2.frozen? ⟨w.heap.size + 1 + 1, 0, none⟩ = false := blk_fro hR 0
    have rf1 : w2.frozen? ⟨w.heap.size + 1 + 1, 1, none⟩ = false := blk_fro hR 1
    have rf2 : w2.frozen? ⟨w.heap.size + 1 + 1, 2, none⟩ = false := blk_fro hR 2
    have rf3 : w2.frozen? ⟨w.heap.size + 1 + 1, 3, none⟩ = false := blk_fro hR 3
    have lR := blk_lt hR
    go_wp2_with fail
    replace hR : (w2.setCell ⟨w.heap.size + 1 + 1, 0, none⟩ (.int .i64 0)).heap[w.heap.size + 1 + 1]? = some (.cells #[.int .i64 0, .int .i64 0, .int .i64 0, .slice none 0 0] 28 (0, 0)) := blk_set hR rfl
    replace hR : ((w2.setCell ⟨w.heap.size + 1 + 1, 0, none⟩ (.int .i64 0)).setCell ⟨w.heap.size + 1 + 1, 1, none⟩ (.int .i64 0)).heap[w.heap.size + 1 + 1]? = some (.cells #[.int .i64 0, .int .i64 0, .int .i64 0, .slice none 0 0] 28 (0, 0)) := blk_set hR rfl
    replace hR : (((w2.setCell ⟨w.heap.size + 1 + 1, 0, none⟩ (.int .i64 0)).setCell ⟨w.heap.size + 1 + 1, 1, none⟩ (.int .i64 0)).setCell ⟨w.heap.size + 1 + 1, 2, none⟩ (.int .i64 0)).heap[w.heap.size + 1 + 1]? = some (.cells #[.int .i64 0, .int .i64 0, .int .i64 0, .slice none 0 0] 28 (0, 0)) := blk_set hR rfl
    replace hR : ((((w2.setCell ⟨w.heap.size + 1 + 1, 0, none⟩ (.int .i64 0)).setCell ⟨w.heap.size + 1 + 1, 1, none⟩ (.int .i64 0)).setCell ⟨w.heap.size + 1 + 1, 2, none⟩ (.int .i64 0)).setCell ⟨w.heap.size + 1 + 1, 3, none⟩ (.slice none 0 0)).heap[w.heap.size + 1 + 1]? = some (.cells #[.int .i64 0, .int .i64 0, .int .i64 0, .slice none 0 0] 28 (0, 0)) := blk_set hR rfl
    have rc0 := blk_cell hR (o := 0) rfl
    have rc1 := blk_cell hR (o := 1) rfl
    have rc2 := blk_cell hR (o := 2) rfl
    have rc3 := blk_cell hR (o := 3) rfl
    refine bodyPost_ret (v := .tuple #[.agg #[.int .i64 0, .int .i64 0, .int .i64 0, .slice none 0 0], .bool false]) (by simp [results, Try.results8, go_sem, rc0, rc1, rc2, rc3]) rfl ?_
    exact ⟨_, rfl, CoNew.zero _ _ _, ((((HB2.out.setCell (p := ⟨w.heap.size + 1 + 1, 0, none⟩) (by show w.heap.size ≤ w.heap.size + 1 + 1; omega) _).setCell (p := ⟨w.heap.size + 1 + 1, 1, none⟩) (by show w.heap.size ≤ w.heap.size + 1 + 1; omega) _).setCell (p := ⟨w.heap.size + 1 + 1, 2, none⟩) (by show w.heap.size ≤ w.heap.size + 1 + 1; omega) _).setCell (p := ⟨w.heap.size + 1 + 1, 3, none⟩) (by show w.heap.size ≤ w.heap.size + 1 + 1; omega) _)⟩
  cases ok0
  · simp only [Bool.false_and, Bool.and_false, Bool.true_and, Bool.false_eq_true, if_false, if_true]
    go_enter Try.func8, Try.ntmps8
    go_wp2_with fail
    refine (HVa.out _ bal3).mono ?_
    rintro e w1 ⟨rfl, hb1⟩
    have hR := blk_below (blk_n2 (w := w) (o := .cells #[.int .i64 ak, .int .i64 ag, .int .i64 al, .slice aa an aq] 28) (o' := .cells #[.int .i64 bk, .int .i64 bg, .int .i64 bl, .slice ba bn bq] 28) (x := .cells #[.int .i64 0, .int .i64 0, .int .i64 0, .slice none 0 0] 28)) hb1
    have hB1 := bstep (bal3 (w := w) (o := .cells #[.int .i64 ak, .int .i64 ag, .int .i64 al, .slice aa an aq] 28) (o' := .cells #[.int .i64 bk, .int .i64 bg, .int .i64 bl, .slice ba bn bq] 28) (o2 := .cells #[.int .i64 0, .int .i64 0, .int .i64 0, .slice none 0 0] 28)) hb1
    have hz1 := hb1.size
    simp only [World.size_alloc] at hz1
    have A0 : w1.cell? ⟨w.heap.size, 0, none⟩ = some (.int .i64 ak) := bcell hb1 (bcell bal1 (bcell bal1 (cell_n0 0)))
    have A1 : w1.cell? ⟨w.heap.size, 1, none⟩ = some (.int .i64 ag) := bcell hb1 (bcell bal1 (bcell bal1 (cell_n0 1)))
    have A2 : w1.cell? ⟨w.heap.size, 2, none⟩ = some (.int .i64 al) := bcell hb1 (bcell bal1 (bcell bal1 (cell_n0 2)))
    have A3 : w1.cell? ⟨w.heap.size, 3, none⟩ = some (.slice aa an aq) := bcell hb1 (bcell bal1 (bcell bal1 (cell_n0 3)))
    have B0 : w1.cell? ⟨w.heap.size + 1, 0, none⟩ = some (.int .i64 bk) := bcell hb1 (bcell bal1 (cell_n1 0))
    have B1 : w1.cell? ⟨w.heap.size + 1, 1, none⟩ = some (.int .i64 bg) := bcell hb1 (bcell bal1 (cell_n1 1))
    have B2 : w1.cell? ⟨w.heap.size + 1, 2, none⟩ = some (.int .i64 bl) := bcell hb1 (bcell bal1 (cell_n1 2))
    have B3 : w1.cell? ⟨w.heap.size + 1, 3, none⟩ = some (.slice ba bn bq) := bcell hb1 (bcell bal1 (cell_n1 3))
    have HB1 := Lib.hid hB1
    clear hb1 hB1
    have lA := World.block_lt_of_cell? _ _ A0
    have lB := World.block_lt_of_cell? _ _ B0
    go_wp2_with fail
    refine (HVb.out _ HB1.out).mono ?_
    rintro e w2 ⟨rfl, hb2⟩
    replace hR := blk_below hR hb2
    have HB2 := Lib.hid (bstep HB1.out hb2)
    have hz2 := hb2.size
    replace A0 := bcell hb2 A0
    replace A1 := bcell hb2 A1
    replace A2 := bcell hb2 A2
    replace A3 := bcell hb2 A3
    replace B0 := bcell hb2 B0
    replace B1 := bcell hb2 B1
    replace B2 := bcell hb2 B2
    replace B3 := bcell hb2 B3
    clear hb2
    have lA2 := World.block_lt_of_cell? _ _ A0
    have lB2 := World.block_lt_of_cell? _ _ B0
    have HRR := Lib.hid (HR.out (by simp) (by simp))
    clear HR
    go_wp2_with fail
    refine (HRR.out _ HB2.out).mono ?_
    rintro e w3 ⟨v3, cc, rfl, hv3, hok, hb3⟩
    obtain ⟨xk, xg, xl, xa, xn, xq, rfl⟩ := hv3.shape
    replace hR := blk_below hR hb3
    have HB3 := Lib.hid (bstep HB2.out hb3)
    have hz3 := hb3.size
    clear hb3 A0 A1 A2 A3 B0 B1 B2 B3
    have r0 : w3.cell? ⟨w.heap.size + 1 + 1, 0, none⟩ = some (.int .i64 0) := blk_cell hR rfl
    have r1 : w3.cell? ⟨w.heap.size + 1 + 1, 1, none⟩ = some (.int .i64 0) := blk_cell hR rfl
    have r2 : w3.cell? ⟨w.heap.size + 1 + 1, 2, none⟩ = some (.int .i64 0) := blk_cell hR rfl
    have r3 : w3.cell? ⟨w.heap.size + 1 + 1, 3, none⟩ = some (.slice none 0 0) := blk_cell hR rfl
    have rf0 : w3.frozen? ⟨w.heap.size + 1 + 1, 0, none⟩ = false := blk_fro hR 0
    have rf1 : w3.frozen? ⟨w.heap.size + 1 + 1, 1, none⟩ = false := blk_fro hR 1
    have rf2 : w3.frozen? ⟨w.heap.size + 1 + 1, 2, none⟩ = false := blk_fro hR 2
    have rf3 : w3.frozen? ⟨w.heap.size + 1 + 1, 3, none⟩ = false := blk_fro hR 3
    have lR := blk_lt hR
    have lRR : w.heap.size + 1 + 1 < w3.heap.size + 1 := by omega
    go_wp2_with fail
    replace hR : (w3.setCell ⟨w.heap.size + 1 + 1, 0, none⟩ (.int .i64 0)).heap[w.heap.size + 1 + 1]? = some (.cells #[.int .i64 0, .int .i64 0, .int .i64 0, .slice none 0 0] 28 (0, 0)) := blk_set hR rfl
    replace hR : ((w3.setCell ⟨w.heap.size + 1 + 1, 0, none⟩ (.int .i64 0)).setCell ⟨w.heap.size + 1 + 1, 1, none⟩ (.int .i64 0)).heap[w.heap.size + 1 + 1]? = some (.cells #[.int .i64 0, .int .i64 0, .int .i64 0, .slice none 0 0] 28 (0, 0)) := blk_set hR rfl
    replace hR : (((w3.setCell ⟨w.heap.size + 1 + 1, 0, none⟩ (.int .i64 0)).setCell ⟨w.heap.size + 1 + 1, 1, none⟩ (.int .i64 0)).setCell ⟨w.heap.size + 1 + 1, 2, none⟩ (.int .i64 0)).heap[w.heap.size + 1 + 1]? = some (.cells #[.int .i64 0, .int .i64 0, .int .i64 0, .slice none 0 0] 28 (0, 0)) := blk_set hR rfl
    replace hR : ((((w3.setCell ⟨w.heap.size + 1 + 1, 0, none⟩ (.int .i64 0)).setCell ⟨w.heap.size + 1 + 1, 1, none⟩ (.int .i64 0)).setCell ⟨w.heap.size + 1 + 1, 2, none⟩ (.int .i64 0)).setCell ⟨w.heap.size + 1 + 1, 3, none⟩ (.slice none 0 0)).heap[w.heap.size + 1 + 1]? = some (.cells #[.int .i64 0, .int .i64 0, .int .i64 0, .slice none 0 0] 28 (0, 0)) := blk_set hR rfl
    replace hR : (((((w3.setCell ⟨w.heap.size + 1 + 1, 0, none⟩ (.int .i64 0)).setCell ⟨w.heap.size + 1 + 1, 1, none⟩ (.int .i64 0)).setCell ⟨w.heap.size + 1 + 1, 2, none⟩ (.int .i64 0)).setCell ⟨w.heap.size + 1 + 1, 3, none⟩ (.slice none 0 0)).alloc (.cells #[.int .i64 xk, .int .i64 xg, .int .i64 xl, .slice xa xn xq] 28)).heap[w.heap.size + 1 + 1]? = some (.cells #[.int .i64 0, .int .i64 0, .int .i64 0, .slice none 0 0] 28 (0, 0)) := blk_below hR bal1
    have rc0 := blk_cell hR (o := 0) rfl
    have rc1 := blk_cell hR (o := 1) rfl
    have rc2 := blk_cell hR (o := 2) rfl
    have rc3 := blk_cell hR (o := 3) rfl
    refine bodyPost_ret (v := .tuple #[.agg #[.int .i64 0, .int .i64 0, .int .i64 0, .slice none 0 0], .bool false]) (by simp [results, Try.results8, go_sem, rc0, rc1, rc2, rc3]) rfl ?_
    exact ⟨_, rfl, CoNew.zero _ _ _, (((((HB3.out.setCell (p := ⟨w.heap.size + 1 + 1, 0, none⟩) (by show w.heap.size ≤ w.heap.size + 1 + 1; omega) _).setCell (p := ⟨w.heap.size + 1 + 1, 1, none⟩) (by show w.heap.size ≤ w.heap.size + 1 + 1; omega) _).setCell (p := ⟨w.heap.size + 1 + 1, 2, none⟩) (by show w.heap.size ≤ w.heap.size + 1 + 1; omega) _).setCell (p := ⟨w.heap.size + 1 + 1, 3, none⟩) (by show w.heap.size ≤ w.heap.size + 1 + 1; omega) _).alloc (by simp [World.setCell]; omega) _)⟩
  cases vc
  · simp only [Bool.false_and, Bool.and_false, Bool.true_and, Bool.false_eq_true, if_false, if_true]
    go_enter Try.func8, Try.ntmps8
    go_wp2_with fail
    refine (HVa.out _ bal3).mono ?_
    rintro e w1 ⟨rfl, hb1⟩
    have hR := blk_below (blk_n2 (w := w) (o := .cells #[.int .i64 ak, .int .i64 ag, .int .i64 al, .slice aa an aq] 28) (o' := .cells #[.int .i64 bk, .int .i64 bg, .int .i64 bl, .slice ba bn bq] 28) (x := .cells #[.int .i64 0, .int .i64 0, .int .i64 0, .slice none 0 0] 28)) hb1
    have hB1 := bstep (bal3 (w := w) (o := .cells #[.int .i64 ak, .int .i64 ag, .int .i64 al, .slice aa an aq] 28) (o' := .cells #[.int .i64 bk, .int .i64 bg, .int .i64 bl, .slice ba bn bq] 28) (o2 := .cells #[.int .i64 0, .int .i64 0, .int .i64 0, .slice none 0 0] 28)) hb1
    have hz1 := hb1.size
    simp only [World.size_alloc] at hz1
    have A0 : w1.cell? ⟨w.heap.size, 0, none⟩ = some (.int .i64 ak) := bcell hb1 (bcell bal1 (bcell bal1 (cell_n0 0)))
    have A1 : w1.cell? ⟨w.heap.size, 1, none⟩ = some (.int .i64 ag) := bcell hb1 (bcell bal1 (bcell bal1 (cell_n0 1)))
    have A2 : w1.cell? ⟨w.heap.size, 2, none⟩ = some (.int .i64 al) := bcell hb1 (bcell bal1 (bcell bal1 (cell_n0 2)))
    have A3 : w1.cell? ⟨w.heap.size, 3, none⟩ = some (.slice aa an aq) := bcell hb1 (bcell bal1 (bcell bal1 (cell_n0 3)))
    have B0 : w1.cell? ⟨w.heap.size + 1, 0, none⟩ = some (.int .i64 bk) := bcell hb1 (bcell bal1 (cell_n1 0))
    have B1 : w1.cell? ⟨w.heap.size + 1, 1, none⟩ = some (.int .i64 bg) := bcell hb1 (bcell bal1 (cell_n1 1))
    have B2 : w1.cell? ⟨w.heap.size + 1, 2, none⟩ = some (.int .i64 bl) := bcell hb1 (bcell bal1 (cell_n1 2))
    have B3 : w1.cell? ⟨w.heap.size + 1, 3, none⟩ = some (.slice ba bn bq) := bcell hb1 (bcell bal1 (cell_n1 3))
    have HB1 := Lib.hid hB1
    clear hb1 hB1
    have lA := World.block_lt_of_cell? _ _ A0
    have lB := World.block_lt_of_cell? _ _ B0
    go_wp2_with fail
    refine (HVb.out _ HB1.out).mono ?_
    rintro e w2 ⟨rfl, hb2⟩
    replace hR := blk_below hR hb2
    have HB2 := Lib.hid (bstep HB1.out hb2)
    have hz2 := hb2.size
    replace A0 := bcell hb2 A0
    replace A1 := bcell hb2 A1
    replace A2 := bcell hb2 A2
    replace A3 := bcell hb2 A3
    replace B0 := bcell hb2 B0
    replace B1 := bcell hb2 B1
    replace B2 := bcell hb2 B2
    replace B3 := bcell hb2 B3
    clear hb2
    have lA2 := World.block_lt_of_cell? _ _ A0
    have lB2 := World.block_lt_of_cell? _ _ B0
    have HRR := Lib.hid (HR.out (by simp) (by simp))
    clear HR
    go_wp2_with fail
    refine (HRR.out _ HB2.out).mono ?_
    rintro e w3 ⟨v3, cc, rfl, hv3, hok, hb3⟩
    obtain ⟨xk, xg, xl, xa, xn, xq, rfl⟩ := hv3.shape
    replace hR := blk_below hR hb3
    have HB3 := Lib.hid (bstep HB2.out hb3)
    have hz3 := hb3.size
    clear hb3 A0 A1 A2 A3 B0 B1 B2 B3
    have hcc := hok (by simp)
    subst hcc
    have hvc' := hvc
    have HV := Lib.hid (hv3.below (bal1 (o := .cells #[.int .i64 xk, .int .i64 xg, .int .i64 xl, .slice xa xn xq] 28)))
    have HN := Lib.hid hv3
    have HVC := Lib.hid (implCoercionValid _ _ _ _ HV.out)
    clear hv3
    rw [show cc.valid = false from hvc] at HVC
    go_wp2_with fail
    refine HVC.out.mono ?_
    rintro e w4 ⟨rfl, hb4⟩
    have hX : w4.heap[w3.heap.size]? = some (.cells #[.int .i64 xk, .int .i64 xg, .int .i64 xl, .slice xa xn xq] 28 (0, 0)) := blk_below (blk_new rfl) hb4
    replace hR := blk_below (blk_below hR (bal1 (o := .cells #[.int .i64 xk, .int .i64 xg, .int .i64 xl, .slice xa xn xq] 28))) hb4
    have HB4 := Lib.hid (bstep HB3.out (bstep bal1 hb4))
    have hz4 := hb4.size
    simp only [World.size_alloc] at hz4
    have HC := Lib.hid (HV.out.below hb4)
    have HB34 := Lib.hid (bstep (bal1 (o := .cells #[.int .i64 xk, .int .i64 xg, .int .i64 xl, .slice xa xn xq] 28)) hb4)
    clear hb4
    have r0 : w4.cell? ⟨w.heap.size + 1 + 1, 0, none⟩ = some (.int .i64 0) := blk_cell hR rfl
    have r1 : w4.cell? ⟨w.heap.size + 1 + 1, 1, none⟩ = some (.int .i64 0) := blk_cell hR rfl
    have r2 : w4.cell? ⟨w.heap.size + 1 + 1, 2, none⟩ = some (.int .i64 0) := blk_cell hR rfl
    have r3 : w4.cell? ⟨w.heap.size + 1 + 1, 3, none⟩ = some (.slice none 0 0) := blk_cell hR rfl
    have rf0 : w4.frozen? ⟨w.heap.size + 1 + 1, 0, none⟩ = false := blk_fro hR 0
    have rf1 : w4.frozen? ⟨w.heap.size + 1 + 1, 1, none⟩ = false := blk_fro hR 1
    have rf2 : w4.frozen? ⟨w.heap.size + 1 + 1, 2, none⟩ = false := blk_fro hR 2
    have rf3 : w4.frozen? ⟨w.heap.size + 1 + 1, 3, none⟩ = false := blk_fro hR 3
    have lR := blk_lt hR
    go_wp2_with fail
    replace hR : (w4.setCell ⟨w.heap.size + 1 + 1, 0, none⟩ (.int .i64 0)).heap[w.heap.size + 1 + 1]? = some (.cells #[.int .i64 0, .int .i64 0, .int .i64 0, .slice none 0 0] 28 (0, 0)) := blk_set hR rfl
    replace hR : ((w4.setCell ⟨w.heap.size + 1 + 1, 0, none⟩ (.int .i64 0)).setCell ⟨w.heap.size + 1 + 1, 1, none⟩ (.int .i64 0)).heap[w.heap.size + 1 + 1]? = some (.cells #[.int .i64 0, .int .i64 0, .int .i64 0, .slice none 0 0] 28 (0, 0)) := blk_set hR rfl
    replace hR : (((w4.setCell ⟨w.heap.size + 1 + 1, 0, none⟩ (.int .i64 0)).setCell ⟨w.heap.size + 1 + 1, 1, none⟩ (.int .i64 0)).setCell ⟨w.heap.size + 1 + 1, 2, none⟩ (.int .i64 0)).heap[w.heap.size + 1 + 1]? = some (.cells #[.int .i64 0, .int .i64 0, .int .i64 0, .slice none 0 0] 28 (0, 0)) := blk_set hR rfl
    replace hR : ((((w4.setCell ⟨w.heap.size + 1 + 1, 0, none⟩ (.int .i64 0)).setCell ⟨w.heap.size + 1 + 1, 1, none⟩ (.int .i64 0)).setCell ⟨w.heap.size + 1 + 1, 2, none⟩ (.int .i64 0)).setCell ⟨w.heap.size + 1 + 1, 3, none⟩ (.slice none 0 0)).heap[w.heap.size + 1 + 1]? = some (.cells #[.int .i64 0, .int .i64 0, .int .i64 0, .slice none 0 0] 28 (0, 0)) := blk_set hR rfl
    have rc0 := blk_cell hR (o := 0) rfl
    have rc1 := blk_cell hR (o := 1) rfl
    have rc2 := blk_cell hR (o := 2) rfl
    have rc3 := blk_cell hR (o := 3) rfl
    refine bodyPost_ret (v := .tuple #[.agg #[.int .i64 0, .int .i64 0, .int .i64 0, .slice none 0 0], .bool false]) (by simp [results, Try.results8, go_sem, rc0, rc1, rc2, rc3]) rfl ?_
    exact ⟨_, rfl, CoNew.zero _ _ _, ((((HB4.out.setCell (p := ⟨w.heap.size + 1 + 1, 0, none⟩) (by show w.heap.size ≤ w.heap.size + 1 + 1; omega) _).setCell (p := ⟨w.heap.size + 1 + 1, 1, none⟩) (by show w.heap.size ≤ w.heap.size + 1 + 1; omega) _).setCell (p := ⟨w.heap.size + 1 + 1, 2, none⟩) (by show w.heap.size ≤ w.heap.size + 1 + 1; omega) _).setCell (p := ⟨w.heap.size + 1 + 1, 3, none⟩) (by show w.heap.size ≤ w.heap.size + 1 + 1; omega) _)⟩
  simp only [Bool.false_and, Bool.and_false, Bool.true_and, Bool.false_eq_true, if_false, if_true]
  go_enter Try.func8, Try.ntmps8
  go_wp2_with fail
  refine (HVa.out _ bal3).mono ?_
  rintro e w1 ⟨rfl, hb1⟩
  have hR := blk_below (blk_n2 (w := w) (o := .cells #[.int .i64 ak, .int .i64 ag, .int .i64 al, .slice aa an aq] 28) (o' := .cells #[.int .i64 bk, .int .i64 bg, .int .i64 bl, .slice ba bn bq] 28) (x := .cells #[.int .i64 0, .int .i64 0, .int .i64 0, .slice none 0 0] 28)) hb1
  have hB1 := bstep (bal3 (w := w) (o := .cells #[.int .i64 ak, .int .i64 ag, .int .i64 al, .slice aa an aq] 28) (o' := .cells #[.int .i64 bk, .int .i64 bg, .int .i64 bl, .slice ba bn bq] 28) (o2 := .cells #[.int .i64 0, .int .i64 0, .int .i64 0, .slice none 0 0] 28)) hb1
  have hz1 := hb1.size
  simp only [World.size_alloc] at hz1
  have A0 : w1.cell? ⟨w.heap.size, 0, none⟩ = some (.int .i64 ak) := bcell hb1 (bcell bal1 (bcell bal1 (cell_n0 0)))
  have A1 : w1.cell? ⟨w.heap.size, 1, none⟩ = some (.int .i64 ag) := bcell hb1 (bcell bal1 (bcell bal1 (cell_n0 1)))
  have A2 : w1.cell? ⟨w.heap.size, 2, none⟩ = some (.int .i64 al) := bcell hb1 (bcell bal1 (bcell bal1 (cell_n0 2)))
  have A3 : w1.cell? ⟨w.heap.size, 3, none⟩ = some (.slice aa an aq) := bcell hb1 (bcell bal1 (bcell bal1 (cell_n0 3)))
  have B0 : w1.cell? ⟨w.heap.size + 1, 0, none⟩ = some (.int .i64 bk) := bcell hb1 (bcell bal1 (cell_n1 0))
  have B1 : w1.cell? ⟨w.heap.size + 1, 1, none⟩ = some (.int .i64 bg) := bcell hb1 (bcell bal1 (cell_n1 1))
  have B2 : w1.cell? ⟨w.heap.size + 1, 2, none⟩ = some (.int .i64 bl) := bcell hb1 (bcell bal1 (cell_n1 2))
  have B3 : w1.cell? ⟨w.heap.size + 1, 3, none⟩ = some (.slice ba bn bq) := bcell hb1 (bcell bal1 (cell_n1 3))
  have HB1 := Lib.hid hB1
  clear hb1 hB1
  have lA := World.block_lt_of_cell? _ _ A0
  have lB := World.block_lt_of_cell? _ _ B0
  go_wp2_with fail
  refine (HVb.out _ HB1.out).mono ?_
  rintro e w2 ⟨rfl, hb2⟩
  replace hR := blk_below hR hb2
  have HB2 := Lib.hid (bstep HB1.out hb2)
  have hz2 := hb2.size
  replace A0 := bcell hb2 A0
  replace A1 := bcell hb2 A1
  replace A2 := bcell hb2 A2
  replace A3 := bcell hb2 A3
  replace B0 := bcell hb2 B0
  replace B1 := bcell hb2 B1
  replace B2 := bcell hb2 B2
  replace B3 := bcell hb2 B3
  clear hb2
  have lA2 := World.block_lt_of_cell? _ _ A0
  have lB2 := World.block_lt_of_cell? _ _ B0
  have HRR := Lib.hid (HR.out (by simp) (by simp))
  clear HR
  go_wp2_with fail
  refine (HRR.out _ HB2.out).mono ?_
  rintro e w3 ⟨v3, cc, rfl, hv3, hok, hb3⟩
  obtain ⟨xk, xg, xl, xa, xn, xq, rfl⟩ := hv3.shape
  replace hR := blk_below hR hb3
  have HB3 := Lib.hid (bstep HB2.out hb3)
  have hz3 := hb3.size
  clear hb3 A0 A1 A2 A3 B0 B1 B2 B3
  have hcc := hok (by simp)
  subst hcc
  have hvc' := hvc
  have HV := Lib.hid (hv3.below (bal1 (o := .cells #[.int .i64 xk, .int .i64 xg, .int .i64 xl, .slice xa xn xq] 28)))
  have HN := Lib.hid hv3
  have HVC := Lib.hid (implCoercionValid _ _ _ _ HV.out)
  clear hv3
  rw [show cc.valid = true from hvc] at HVC
  go_wp2_with fail
  refine HVC.out.mono ?_
  rintro e w4 ⟨rfl, hb4⟩
  have hX : w4.heap[w3.heap.size]? = some (.cells #[.int .i64 xk, .int .i64 xg, .int .i64 xl, .slice xa xn xq] 28 (0, 0)) := blk_below (blk_new rfl) hb4
  replace hR := blk_below (blk_below hR (bal1 (o := .cells #[.int .i64 xk, .int .i64 xg, .int .i64 xl, .slice xa xn xq] 28))) hb4
  have HB4 := Lib.hid (bstep HB3.out (bstep bal1 hb4))
  have hz4 := hb4.size
  simp only [World.size_alloc] at hz4
  have HC := Lib.hid (HV.out.below hb4)
  have HB34 := Lib.hid (bstep (bal1 (o := .cells #[.int .i64 xk, .int .i64 xg, .int .i64 xl, .slice xa xn xq] 28)) hb4)
  clear hb4
  have x0 : w4.cell? ⟨w3.heap.size, 0, none⟩ = some (.int .i64 xk) := blk_cell hX rfl
  have x1 : w4.cell? ⟨w3.heap.size, 1, none⟩ = some (.int .i64 xg) := blk_cell hX rfl
  have x2 : w4.cell? ⟨w3.heap.size, 2, none⟩ = some (.int .i64 xl) := blk_cell hX rfl
  have x3 : w4.cell? ⟨w3.heap.size, 3, none⟩ = some (.slice xa xn xq) := blk_cell hX rfl
  have lX := blk_lt hX
  have hcnt : cc.cnt ≤ 1048576 := by have := Co.cnt_le (n := 9) hvc (Nat.le_refl _); omega
  have HO := Lib.hid (implOwnCo _ cc _ _ HC.out hcnt)
  clear hcnt
  go_wp2_with fail
  refine HO.out.mono ?_
  rintro e w5 ⟨v5, rfl, hv5, hb5⟩
  obtain ⟨yk, yg, yl, ya, yn, yq, rfl⟩ := hv5.shape
  replace hR := blk_below hR hb5
  have HB5 := Lib.hid (bstep HB4.out hb5)
  have HN5 := Lib.hid hv5
  have hz5 := hb5.size
  clear hb5 hv5 x0 x1 x2 x3
  have r0 : w5.cell? ⟨w.heap.size + 1 + 1, 0, none⟩ = some (.int .i64 0) := blk_cell hR rfl
  have r1 : w5.cell? ⟨w.heap.size + 1 + 1, 1, none⟩ = some (.int .i64 0) := blk_cell hR rfl
  have r2 : w5.cell? ⟨w.heap.size + 1 + 1, 2, none⟩ = some (.int .i64 0) := blk_cell hR rfl
  have r3 : w5.cell? ⟨w.heap.size + 1 + 1, 3, none⟩ = some (.slice none 0 0) := blk_cell hR rfl
  have rf0 : w5.frozen? ⟨w.heap.size + 1 + 1, 0, none⟩ = false := blk_fro hR 0
  have rf1 : w5.frozen? ⟨w.heap.size + 1 + 1, 1, none⟩ = false := blk_fro hR 1
  have rf2 : w5.frozen? ⟨w.heap.size + 1 + 1, 2, none⟩ = false := blk_fro hR 2
  have rf3 : w5.frozen? ⟨w.heap.size + 1 + 1, 3, none⟩ = false := blk_fro hR 3
  have lR := blk_lt hR
  go_wp2_with fail
  replace hR : (w5.setCell ⟨w.heap.size + 1 + 1, 0, none⟩ (.int .i64 yk)).heap[w.heap.size + 1 + 1]? = some (.cells #[.int .i64 yk, .int .i64 0, .int .i64 0, .slice none 0 0] 28 (0, 0)) := blk_set hR rfl
  replace hR : ((w5.setCell ⟨w.heap.size + 1 + 1, 0, none⟩ (.int .i64 yk)).setCell ⟨w.heap.size + 1 + 1, 1, none⟩ (.int .i64 yg)).heap[w.heap.size + 1 + 1]? = some (.cells #[.int .i64 yk, .int .i64 yg, .int .i64 0, .slice none 0 0] 28 (0, 0)) := blk_set hR rfl
  replace hR : (((w5.setCell ⟨w.heap.size + 1 + 1, 0, none⟩ (.int .i64 yk)).setCell ⟨w.heap.size + 1 + 1, 1, none⟩ (.int .i64 yg)).setCell ⟨w.heap.size + 1 + 1, 2, none⟩ (.int .i64 yl)).heap[w.heap.size + 1 + 1]? = some (.cells #[.int .i64 yk, .int .i64 yg, .int .i64 yl, .slice none 0 0] 28 (0, 0)) := blk_set hR rfl
  replace hR : ((((w5.setCell ⟨w.heap.size + 1 + 1, 0, none⟩ (.int .i64 yk)).setCell ⟨w.heap.size + 1 + 1, 1, none⟩ (.int .i64 yg)).setCell ⟨w.heap.size + 1 + 1, 2, none⟩ (.int .i64 yl)).setCell ⟨w.heap.size + 1 + 1, 3, none⟩ (.slice ya yn yq)).heap[w.heap.size + 1 + 1]? = some (.cells #[.int .i64 yk, .int .i64 yg, .int .i64 yl, .slice ya yn yq] 28 (0, 0)) := blk_set hR rfl
  have rc0 := blk_cell hR (o := 0) rfl
  have rc1 := blk_cell hR (o := 1) rfl
  have rc2 := blk_cell hR (o := 2) rfl
  have rc3 := blk_cell hR (o := 3) rfl
  refine bodyPost_ret (v := .tuple #[.agg #[.int .i64 yk, .int .i64 yg, .int .i64 yl, .slice ya yn yq], .bool true]) (by simp [results, Try.results8, go_sem, rc0, rc1, rc2, rc3]) rfl ?_
  exact ⟨_, rfl, CoNew.mono ((((HN5.out.setCell (p := ⟨w.heap.size + 1 + 1, 0, none⟩) (by show w.heap.size + 1 + 1 < w4.heap.size; omega) _).setCell (p := ⟨w.heap.size + 1 + 1, 1, none⟩) (by show w.heap.size + 1 + 1 < w4.heap.size; omega) _).setCell (p := ⟨w.heap.size + 1 + 1, 2, none⟩) (by show w.heap.size + 1 + 1 < w4.heap.size; omega) _).setCell (p := ⟨w.heap.size + 1 + 1, 3, none⟩) (by show w.heap.size + 1 + 1 < w4.heap.size; omega) _) (by omega), ((((HB5.out.setCell (p := ⟨w.heap.size + 1 + 1, 0, none⟩) (by show w.heap.size ≤ w.heap.size + 1 + 1; omega) _).setCell (p := ⟨w.heap.size + 1 + 1, 1, none⟩) (by show w.heap.size ≤ w.heap.size + 1 + 1; omega) _).setCell (p := ⟨w.heap.size + 1 + 1, 2, none⟩) (by show w.heap.size ≤ w.heap.size + 1 + 1; omega) _).setCell (p := ⟨w.heap.size + 1 + 1, 3, none⟩) (by show w.heap.size ≤ w.heap.size + 1 + 1; omega) _)⟩
theorem implComposeCoercions (F G : Nat → Prop) (a b : Co) (y z : Value) (w : World) (hy : CoRep F w a y) (hz : CoRep G w b z) : Calls Try.prog 8 #[y, z] w (RetCoB (compT a b) (compOk a b) w) := by
  have h1 := fun W (k : Below w.heap.size w W) => implCoercionValid _ a y W (hy.below k)
  have h2 := fun W (k : Below w.heap.size w W) => implCoercionValid _ b z W (hz.below k)
  obtain ⟨aa, an, aq, rfl⟩ := hy.vals
  obtain ⟨ba, bn, bq, rfl⟩ := hz.vals
  have h3 := fun (va : a.shape (9 : Nat) = true) (vb : b.shape (9 : Nat) = true) W (k : Below w.heap.size w W) => implComp 18 w.heap.size a b 9 9 (by omega) (by omega) (by omega) va vb _ _ W k.size (hy.old.below k) (hz.old.below k)
  exact implTopC _ _ _ _ _ _ _ _ _ _ _ _ (a.comp b).1 a.valid b.valid (a.comp b).2 (a.comp b).1.valid w (Lib.hid h1) (Lib.hid h2) (Lib.hid h3) rfl
end Go.Proofs.Ythhdjacdalehoaa
