/-
  impl.compose: a projection.
-/
import Derived.Test.YthhdjacdalehoaaB8
import Derived.Deep.RegionHeld3
import Derived.Deep.QuietTactic
import Derived.Deep.DeepCutAuto
import Derived.Test.YthhdjacdalehoaaB0
namespace Go.Proofs.Ythhdjacdalehoaa
open Go.RowKit
set_option linter.unusedVariables false
set_option linter.unusedSimpArgs false
set_option maxRecDepth 100000

set_option maxHeartbeats 8000000 in
theorem implCmpPro (ag al bk bg bl : Int) (ab ao an aq : Nat) (ba : Option Addr) (bn bq : Nat) (ak0 ag0 al0 : Int) (aa0 : Option Addr) (an0 aq0 : Nat) (c0 : Co) (ok0 : Bool) (BB : Nat) (w : World) (han : 0 < an) (haq : an ≤ aq) (haq2 : aq ≤ 9223372036854775807) (ae0 : w.cell? ⟨ab, ao, none⟩ = some (.int .i64 ak0)) (ae1 : w.cell? ⟨ab, ao + 1, none⟩ = some (.int .i64 ag0)) (ae2 : w.cell? ⟨ab, ao + 2, none⟩ = some (.int .i64 al0)) (ae3 : w.cell? ⟨ab, ao + 3, none⟩ = some (.slice aa0 an0 aq0)) (HIa : Hid (∀ W, Below w.heap.size w W → Calls Try.prog 46 #[.agg #[.int .i64 5, .int .i64 ag, .int .i64 al, .slice (some ⟨ab, ao, none⟩) an aq]] W fun e W' => e = .returned (.bool (false)) ∧ Below W.heap.size W W')) (HR : Hid (∀ W, Below w.heap.size w W → Calls Try.prog 24 #[.agg #[.int .i64 ak0, .int .i64 ag0, .int .i64 al0, .slice aa0 an0 aq0], .agg #[.int .i64 bk, .int .i64 bg, .int .i64 bl, .slice ba bn bq]] W (RetCoP BB (c0) (ok0) W))) (hBB : BB ≤ w.heap.size) :
    Calls Try.prog 24 #[.agg #[.int .i64 5, .int .i64 ag, .int .i64 al, .slice (some ⟨ab, ao, none⟩) an aq], .agg #[.int .i64 bk, .int .i64 bg, .int .i64 bl, .slice ba bn bq]] w (RetCoP BB (Co.mk 5 ag al [c0]) (ok0) w) := by
  have han0 : (0 : Int) < (an : Int) := by omega
  have lk : ab < w.heap.size := World.block_lt_of_cell? _ _ ae0
  have hsz : (((w.alloc (.cells #[.int .i64 5, .int .i64 ag, .int .i64 al, .slice (some ⟨ab, ao, none⟩) an aq] 28)).alloc (.cells #[.int .i64 bk, .int .i64 bg, .int .i64 bl, .slice ba bn bq] 28)).alloc (.cells #[.int .i64 0, .int .i64 0, .int .i64 0, .slice none 0 0] 28)).heap.size = w.heap.size + 1 + 1 + 1 := by simp
  have hF : (((w.alloc (.cells #[.int .i64 5, .int .i64 ag, .int .i64 al, .slice (some ⟨ab, ao, none⟩) an aq] 28)).alloc (.cells #[.int .i64 bk, .int .i64 bg, .int .i64 bl, .slice ba bn bq] 28)).alloc (.cells #[.int .i64 0, .int .i64 0, .int .i64 0, .slice none 0 0] 28)).cell? ⟨w.heap.size, 0, none⟩ = some (Value.int IntKind.i64 5) ∧ (((w.alloc (.cells #[.int .i64 5, .int .i64 ag, .int .i64 al, .slice (some ⟨ab, ao, none⟩) an aq] 28)).alloc (.cells #[.int .i64 bk, .int .i64 bg, .int .i64 bl, .slice ba bn bq] 28)).alloc (.cells #[.int .i64 0, .int .i64 0, .int .i64 0, .slice none 0 0] 28)).cell? ⟨w.heap.size, 1, none⟩ = some (Value.int IntKind.i64 ag) ∧ (((w.alloc (.cells #[.int .i64 5, .int .i64 ag, .int .i64 al, .slice (some ⟨ab, ao, none⟩) an aq] 28)).alloc (.cells #[.int .i64 bk, .int .i64 bg, .int .i64 bl, .slice ba bn bq] 28)).alloc (.cells #[.int .i64 0, .int .i64 0, .int .i64 0, .slice none 0 0] 28)).cell? ⟨w.heap.size, 2, none⟩ = some (Value.int IntKind.i64 al) ∧ (((w.alloc (.cells #[.int .i64 5, .int .i64 ag, .int .i64 al, .slice (some ⟨ab, ao, none⟩) an aq] 28)).alloc (.cells #[.int .i64 bk, .int .i64 bg, .int .i64 bl, .slice ba bn bq] 28)).alloc (.cells #[.int .i64 0, .int .i64 0, .int .i64 0, .slice none 0 0] 28)).cell? ⟨w.heap.size, 3, none⟩ = some (Value.slice (some ⟨ab, ao, none⟩) an aq) ∧ (((w.alloc (.cells #[.int .i64 5, .int .i64 ag, .int .i64 al, .slice (some ⟨ab, ao, none⟩) an aq] 28)).alloc (.cells #[.int .i64 bk, .int .i64 bg, .int .i64 bl, .slice ba bn bq] 28)).alloc (.cells #[.int .i64 0, .int .i64 0, .int .i64 0, .slice none 0 0] 28)).cell? ⟨w.heap.size + 1, 0, none⟩ = some (Value.int IntKind.i64 bk) ∧ (((w.alloc (.cells #[.int .i64 5, .int .i64 ag, .int .i64 al, .slice (some ⟨ab, ao, none⟩) an aq] 28)).alloc (.cells #[.int .i64 bk, .int .i64 bg, .int .i64 bl, .slice ba bn bq] 28)).alloc (.cells #[.int .i64 0, .int .i64 0, .int .i64 0, .slice none 0 0] 28)).cell? ⟨w.heap.size + 1, 1, none⟩ = some (Value.int IntKind.i64 bg) ∧ (((w.alloc (.cells #[.int .i64 5, .int .i64 ag, .int .i64 al, .slice (some ⟨ab, ao, none⟩) an aq] 28)).alloc (.cells #[.int .i64 bk, .int .i64 bg, .int .i64 bl, .slice ba bn bq] 28)).alloc (.cells #[.int .i64 0, .int .i64 0, .int .i64 0, .slice none 0 0] 28)).cell? ⟨w.heap.size + 1, 2, none⟩ = some (Value.int IntKind.i64 bl) ∧ (((w.alloc (.cells #[.int .i64 5, .int .i64 ag, .int .i64 al, .slice (some ⟨ab, ao, none⟩) an aq] 28)).alloc (.cells #[.int .i64 bk, .int .i64 bg, .int .i64 bl, .slice ba bn bq] 28)).alloc (.cells #[.int .i64 0, .int .i64 0, .int .i64 0, .slice none 0 0] 28)).cell? ⟨w.heap.size + 1, 3, none⟩ = some (Value.slice ba bn bq) ∧ (((w.alloc (.cells #[.int .i64 5, .int .i64 ag, .int .i64 al, .slice (some ⟨ab, ao, none⟩) an aq] 28)).alloc (.cells #[.int .i64 bk, .int .i64 bg, .int .i64 bl, .slice ba bn bq] 28)).alloc (.cells #[.int .i64 0, .int .i64 0, .int .i64 0, .slice none 0 0] 28)).cell? ⟨ab, ao, none⟩ = some (Value.int IntKind.i64 ak0) ∧ (((w.alloc (.cells #[.int .i64 5, .int .i64 ag, .int .i64 al, .slice (some ⟨ab, ao, none⟩) an aq] 28)).alloc (.cells #[.int .i64 bk, .int .i64 bg, .int .i64 bl, .slice ba bn bq] 28)).alloc (.cells #[.int .i64 0, .int .i64 0, .int .i64 0, .slice none 0 0] 28)).cell? ⟨ab, ao + 1, none⟩ = some (Value.int IntKind.i64 ag0) ∧ (((w.alloc (.cells #[.int .i64 5, .int .i64 ag, .int .i64 al, .slice (some ⟨ab, ao, none⟩) an aq] 28)).alloc (.cells #[.int .i64 bk, .int .i64 bg, .int .i64 bl, .slice ba bn bq] 28)).alloc (.cells #[.int .i64 0, .int .i64 0, .int .i64 0, .slice none 0 0] 28)).cell? ⟨ab, ao + 2, none⟩ = some (Value.int IntKind.i64 al0) ∧ (((w.alloc (.cells #[.int .i64 5, .int .i64 ag, .int .i64 al, .slice (some ⟨ab, ao, none⟩) an aq] 28)).alloc (.cells #[.int .i64 bk, .int .i64 bg, .int .i64 bl, .slice ba bn bq] 28)).alloc (.cells #[.int .i64 0, .int .i64 0, .int .i64 0, .slice none 0 0] 28)).cell? ⟨ab, ao + 3, none⟩ = some (Value.slice aa0 an0 aq0) ∧ (((w.alloc (.cells #[.int .i64 5, .int .i64 ag, .int .i64 al, .slice (some ⟨ab, ao, none⟩) an aq] 28)).alloc (.cells #[.int .i64 bk, .int .i64 bg, .int .i64 bl, .slice ba bn bq] 28)).alloc (.cells #[.int .i64 0, .int .i64 0, .int .i64 0, .slice none 0 0] 28)).heap[w.heap.size + 1 + 1]? = some (.cells #[.int .i64 0, .int .i64 0, .int .i64 0, .slice none 0 0] 28 (0, 0)) := ⟨bcell bal1 (bcell bal1 (cell_n0 0)), bcell bal1 (bcell bal1 (cell_n0 1)), bcell bal1 (bcell bal1 (cell_n0 2)), bcell bal1 (bcell bal1 (cell_n0 3)), bcell bal1 (cell_n1 0), bcell bal1 (cell_n1 1), bcell bal1 (cell_n1 2), bcell bal1 (cell_n1 3), bcell bal3 ae0, bcell bal3 ae1, bcell bal3 ae2, bcell bal3 ae3, blk_n2⟩
  have HF := Lib.hid hF
  have HSZ := Lib.hid hsz
  clear hF hsz ae0 ae1 ae2 ae3
  go_enter Try.func24, Try.ntmps24
  go_wp2_with fail
  refine (HIa.out _ bal3).mono ?_
  rintro e W ⟨rfl, hb1⟩
  have HB := Lib.hid (bstep bal3 hb1)
  have hz := hb1.size
  rw [HSZ.out] at hz
  obtain ⟨aA0, aA1, aA2, aA3, aB0, aB1, aB2, aB3, ae0, ae1, ae2, ae3, hR⟩ := HF.out
  replace aA0 := bcell hb1 aA0
  replace aA1 := bcell hb1 aA1
  replace aA2 := bcell hb1 aA2
  replace aA3 := bcell hb1 aA3
  replace aB0 := bcell hb1 aB0
  replace aB1 := bcell hb1 aB1
  replace aB2 := bcell hb1 aB2
  replace aB3 := bcell hb1 aB3
  replace ae0 := bcell hb1 ae0
  replace ae1 := bcell hb1 ae1
  replace ae2 := bcell hb1 ae2
  replace ae3 := bcell hb1 ae3
  replace hR := blk_below hR hb1
  clear hb1 HF HSZ
  have lW : w.heap.size < W.heap.size ∧ w.heap.size + 1 < W.heap.size ∧ w.heap.size + 1 + 1 < W.heap.size ∧ ab < W.heap.size := by omega
  go_wp2_with fail
  go_cut [6, 7] (fun s6 s7 wx => CutCoR BB c0 ok0 W s6 s7 wx)
  case first =>
    have hS0 := Lib.hid (show W.cell? ⟨w.heap.size, 3, none⟩ = some (Value.slice (some ⟨ab, ao, none⟩) an aq) ∧ W.cell? ⟨w.heap.size + 1, 0, none⟩ = some (Value.int IntKind.i64 bk) ∧ W.cell? ⟨w.heap.size + 1, 1, none⟩ = some (Value.int IntKind.i64 bg) ∧ W.cell? ⟨w.heap.size + 1, 2, none⟩ = some (Value.int IntKind.i64 bl) ∧ W.cell? ⟨w.heap.size + 1, 3, none⟩ = some (Value.slice ba bn bq) ∧ W.cell? ⟨ab, ao, none⟩ = some (Value.int IntKind.i64 ak0) ∧ W.cell? ⟨ab, ao + 1, none⟩ = some (Value.int IntKind.i64 ag0) ∧ W.cell? ⟨ab, ao + 2, none⟩ = some (Value.int IntKind.i64 al0) ∧ W.cell? ⟨ab, ao + 3, none⟩ = some (Value.slice aa0 an0 aq0) from ⟨aA3, aB0, aB1, aB2, aB3, ae0, ae1, ae2, ae3⟩)
    have hSd := Lib.hid (show ∀ X : World, (X.cell? ⟨w.heap.size, 3, none⟩ = some (Value.slice (some ⟨ab, ao, none⟩) an aq) ∧ X.cell? ⟨w.heap.size + 1, 0, none⟩ = some (Value.int IntKind.i64 bk) ∧ X.cell? ⟨w.heap.size + 1, 1, none⟩ = some (Value.int IntKind.i64 bg) ∧ X.cell? ⟨w.heap.size + 1, 2, none⟩ = some (Value.int IntKind.i64 bl) ∧ X.cell? ⟨w.heap.size + 1, 3, none⟩ = some (Value.slice ba bn bq) ∧ X.cell? ⟨ab, ao, none⟩ = some (Value.int IntKind.i64 ak0) ∧ X.cell? ⟨ab, ao + 1, none⟩ = some (Value.int IntKind.i64 ag0) ∧ X.cell? ⟨ab, ao + 2, none⟩ = some (Value.int IntKind.i64 al0) ∧ X.cell? ⟨ab, ao + 3, none⟩ = some (Value.slice aa0 an0 aq0)) → ((World.drew X).cell? ⟨w.heap.size, 3, none⟩ = some (Value.slice (some ⟨ab, ao, none⟩) an aq) ∧ (World.drew X).cell? ⟨w.heap.size + 1, 0, none⟩ = some (Value.int IntKind.i64 bk) ∧ (World.drew X).cell? ⟨w.heap.size + 1, 1, none⟩ = some (Value.int IntKind.i64 bg) ∧ (World.drew X).cell? ⟨w.heap.size + 1, 2, none⟩ = some (Value.int IntKind.i64 bl) ∧ (World.drew X).cell? ⟨w.heap.size + 1, 3, none⟩ = some (Value.slice ba bn bq) ∧ (World.drew X).cell? ⟨ab, ao, none⟩ = some (Value.int IntKind.i64 ak0) ∧ (World.drew X).cell? ⟨ab, ao + 1, none⟩ = some (Value.int IntKind.i64 ag0) ∧ (World.drew X).cell? ⟨ab, ao + 2, none⟩ = some (Value.int IntKind.i64 al0) ∧ (World.drew X).cell? ⟨ab, ao + 3, none⟩ = some (Value.slice aa0 an0 aq0)) from fun X s => ⟨dcell s.1, dcell s.2.1, dcell s.2.2.1, dcell s.2.2.2.1, dcell s.2.2.2.2.1, dcell s.2.2.2.2.2.1, dcell s.2.2.2.2.2.2.1, dcell s.2.2.2.2.2.2.2.1, dcell s.2.2.2.2.2.2.2.2⟩)
    have hSb := Lib.hid (show ∀ X Y : World, Below X.heap.size X Y → (X.cell? ⟨w.heap.size, 3, none⟩ = some (Value.slice (some ⟨ab, ao, none⟩) an aq) ∧ X.cell? ⟨w.heap.size + 1, 0, none⟩ = some (Value.int IntKind.i64 bk) ∧ X.cell? ⟨w.heap.size + 1, 1, none⟩ = some (Value.int IntKind.i64 bg) ∧ X.cell? ⟨w.heap.size + 1, 2, none⟩ = some (Value.int IntKind.i64 bl) ∧ X.cell? ⟨w.heap.size + 1, 3, none⟩ = some (Value.slice ba bn bq) ∧ X.cell? ⟨ab, ao, none⟩ = some (Value.int IntKind.i64 ak0) ∧ X.cell? ⟨ab, ao + 1, none⟩ = some (Value.int IntKind.i64 ag0) ∧ X.cell? ⟨ab, ao + 2, none⟩ = some (Value.int IntKind.i64 al0) ∧ X.cell? ⟨ab, ao + 3, none⟩ = some (Value.slice aa0 an0 aq0)) → (Y.cell? ⟨w.heap.size, 3, none⟩ = some (Value.slice (some ⟨ab, ao, none⟩) an aq) ∧ Y.cell? ⟨w.heap.size + 1, 0, none⟩ = some (Value.int IntKind.i64 bk) ∧ Y.cell? ⟨w.heap.size + 1, 1, none⟩ = some (Value.int IntKind.i64 bg) ∧ Y.cell? ⟨w.heap.size + 1, 2, none⟩ = some (Value.int IntKind.i64 bl) ∧ Y.cell? ⟨w.heap.size + 1, 3, none⟩ = some (Value.slice ba bn bq) ∧ Y.cell? ⟨ab, ao, none⟩ = some (Value.int IntKind.i64 ak0) ∧ Y.cell? ⟨ab, ao + 1, none⟩ = some (Value.int IntKind.i64 ag0) ∧ Y.cell? ⟨ab, ao + 2, none⟩ = some (Value.int IntKind.i64 al0) ∧ Y.cell? ⟨ab, ao + 3, none⟩ = some (Value.slice aa0 an0 aq0)) from fun X Y h s => ⟨bcell h s.1, bcell h s.2.1, bcell h s.2.2.1, bcell h s.2.2.2.1, bcell h s.2.2.2.2.1, bcell h s.2.2.2.2.2.1, bcell h s.2.2.2.2.2.2.1, bcell h s.2.2.2.2.2.2.2.1, bcell h s.2.2.2.2.2.2.2.2⟩)
    have hSs := Lib.hid (show ∀ (X : World) (g o : Nat) (v : Value), W.heap.size ≤ g → (X.cell? ⟨w.heap.size, 3, none⟩ = some (Value.slice (some ⟨ab, ao, none⟩) an aq) ∧ X.cell? ⟨w.heap.size + 1, 0, none⟩ = some (Value.int IntKind.i64 bk) ∧ X.cell? ⟨w.heap.size + 1, 1, none⟩ = some (Value.int IntKind.i64 bg) ∧ X.cell? ⟨w.heap.size + 1, 2, none⟩ = some (Value.int IntKind.i64 bl) ∧ X.cell? ⟨w.heap.size + 1, 3, none⟩ = some (Value.slice ba bn bq) ∧ X.cell? ⟨ab, ao, none⟩ = some (Value.int IntKind.i64 ak0) ∧ X.cell? ⟨ab, ao + 1, none⟩ = some (Value.int IntKind.i64 ag0) ∧ X.cell? ⟨ab, ao + 2, none⟩ = some (Value.int IntKind.i64 al0) ∧ X.cell? ⟨ab, ao + 3, none⟩ = some (Value.slice aa0 an0 aq0)) → ((World.setCell X ⟨g, o, none⟩ v).cell? ⟨w.heap.size, 3, none⟩ = some (Value.slice (some ⟨ab, ao, none⟩) an aq) ∧ (World.setCell X ⟨g, o, none⟩ v).cell? ⟨w.heap.size + 1, 0, none⟩ = some (Value.int IntKind.i64 bk) ∧ (World.setCell X ⟨g, o, none⟩ v).cell? ⟨w.heap.size + 1, 1, none⟩ = some (Value.int IntKind.i64 bg) ∧ (World.setCell X ⟨g, o, none⟩ v).cell? ⟨w.heap.size + 1, 2, none⟩ = some (Value.int IntKind.i64 bl) ∧ (World.setCell X ⟨g, o, none⟩ v).cell? ⟨w.heap.size + 1, 3, none⟩ = some (Value.slice ba bn bq) ∧ (World.setCell X ⟨g, o, none⟩ v).cell? ⟨ab, ao, none⟩ = some (Value.int IntKind.i64 ak0) ∧ (World.setCell X ⟨g, o, none⟩ v).cell? ⟨ab, ao + 1, none⟩ = some (Value.int IntKind.i64 ag0) ∧ (World.setCell X ⟨g, o, none⟩ v).cell? ⟨ab, ao + 2, none⟩ = some (Value.int IntKind.i64 al0) ∧ (World.setCell X ⟨g, o, none⟩ v).cell? ⟨ab, ao + 3, none⟩ = some (Value.slice aa0 an0 aq0)) from fun X g o v hg s => ⟨sc_blk s.1 (by show w.heap.size ≠ g; omega), sc_blk s.2.1 (by show w.heap.size + 1 ≠ g; omega), sc_blk s.2.2.1 (by show w.heap.size + 1 ≠ g; omega), sc_blk s.2.2.2.1 (by show w.heap.size + 1 ≠ g; omega), sc_blk s.2.2.2.2.1 (by show w.heap.size + 1 ≠ g; omega), sc_blk s.2.2.2.2.2.1 (by show ab ≠ g; omega), sc_blk s.2.2.2.2.2.2.1 (by show ab ≠ g; omega), sc_blk s.2.2.2.2.2.2.2.1 (by show ab ≠ g; omega), sc_blk s.2.2.2.2.2.2.2.2 (by show ab ≠ g; omega)⟩)
    go_region_held3 (fun w' => w'.cell? ⟨w.heap.size, 3, none⟩ = some (Value.slice (some ⟨ab, ao, none⟩) an aq) ∧ w'.cell? ⟨w.heap.size + 1, 0, none⟩ = some (Value.int IntKind.i64 bk) ∧ w'.cell? ⟨w.heap.size + 1, 1, none⟩ = some (Value.int IntKind.i64 bg) ∧ w'.cell? ⟨w.heap.size + 1, 2, none⟩ = some (Value.int IntKind.i64 bl) ∧ w'.cell? ⟨w.heap.size + 1, 3, none⟩ = some (Value.slice ba bn bq) ∧ w'.cell? ⟨ab, ao, none⟩ = some (Value.int IntKind.i64 ak0) ∧ w'.cell? ⟨ab, ao + 1, none⟩ = some (Value.int IntKind.i64 ag0) ∧ w'.cell? ⟨ab, ao + 2, none⟩ = some (Value.int IntKind.i64 al0) ∧ w'.cell? ⟨ab, ao + 3, none⟩ = some (Value.slice aa0 an0 aq0))
      (repeat (first | with_reducible exact hS0.out | with_reducible refine hSs.out _ _ _ _ (by omega) ?_ | with_reducible refine hSb.out _ _ hb1 ?_ | with_reducible refine hSb.out _ _ bal1 ?_ | with_reducible refine hSd.out _ ?_))
      (first | (go_at_call 24; ((with_reducible refine (HR.out _ (by first | exact (bstep HB.out bdr) | exact (bstep HB.out bal1.drew) | exact (bstep HB.out (bstep bdr bal1)))).mono ?_); rintro e w1 ⟨v1, cc1, rfl, hv1, hok1, hb1⟩; obtain ⟨kr1, gr1, lr1, ar1, nr1, qr1, rfl⟩ := hv1.shape; have zs1 := hb1.size; (try simp at zs1); (first | (have GB : w1.heap[W.heap.size]? = some (.cells #[.int .i64 0, .int .i64 0, .int .i64 0, .slice none 0 0] 28 (0, 0)) := blk_below (x := .cells #[.int .i64 0, .int .i64 0, .int .i64 0, .slice none 0 0] 28 (0, 0)) (show (World.drew _).heap[W.heap.size]? = _ from blk_new rfl) hb1; have G0 := blk_cell GB (o := 0) rfl; have GF0 := blk_fro GB 0; have G1 := blk_cell GB (o := 1) rfl; have GF1 := blk_fro GB 1; have G2 := blk_cell GB (o := 2) rfl; have GF2 := blk_fro GB 2; have G3 := blk_cell GB (o := 3) rfl; have GF3 := blk_fro GB 3) | skip))))
    all_goals (go_wp2_with fail; go_meet; first | exact CutCoR_late (by first | exact bstep bdr hb1 | exact bstep bal1.drew hb1) (by first | exact Nat.le_refl _ | (simp; done) | (simp; omega)) hv1 hok1 | exact CutCoR_early (by first | exact bstep bdr hb1 | exact bstep bal1.drew hb1) GB (by omega) (by first | exact Nat.le_refl _ | (simp; done) | (simp; omega)) (by first | (simp; done) | (simp; omega)) hv1 hok1)
  case rest =>
    obtain ⟨g, gk, gt, gl, ga, gn, gq, cc, rfl, rfl, hg, hG, hrep, hok, hb⟩ := hcut
    clear aB0 aB1 aB2 aB3 ae0 ae1 ae2 ae3
    replace aA0 := bcell hb aA0
    replace aA1 := bcell hb aA1
    replace aA2 := bcell hb aA2
    replace aA3 := bcell hb aA3
    replace hR := blk_below hR hb
    have lz := hb.size
    have HBz := Lib.hid (bstep HB.out hb)
    have HREP := Lib.hid hrep
    have HOK := Lib.hid hok
    clear hb hrep hok
    have y0 : wc.cell? ⟨g, 0, none⟩ = some (.int .i64 gk) := blk_cell hG rfl
    have y1 : wc.cell? ⟨g, 1, none⟩ = some (.int .i64 gt) := blk_cell hG rfl
    have y2 : wc.cell? ⟨g, 2, none⟩ = some (.int .i64 gl) := blk_cell hG rfl
    have y3 : wc.cell? ⟨g, 3, none⟩ = some (.slice ga gn gq) := blk_cell hG rfl
    have lG := blk_lt hG
    have lA := World.block_lt_of_cell? _ _ aA0
    clear hG
    go_wp2_with fail
    refine (implCoWith _ _ _ _ _ _ _ _ _ _ _).mono ?_
    rintro e w5 ⟨rfl, hb5⟩
    replace hR := blk_below (blk_below hR (bal1 (o := .cells #[.int .i64 gk, .int .i64 gt, .int .i64 gl, .slice ga gn gq] 28))) hb5
    have r0 : w5.cell? ⟨w.heap.size + 1 + 1, 0, none⟩ = some (.int .i64 0) := blk_cell hR rfl
    have r1 : w5.cell? ⟨w.heap.size + 1 + 1, 1, none⟩ = some (.int .i64 0) := blk_cell hR rfl
    have r2 : w5.cell? ⟨w.heap.size + 1 + 1, 2, none⟩ = some (.int .i64 0) := blk_cell hR rfl
    have r3 : w5.cell? ⟨w.heap.size + 1 + 1, 3, none⟩ = some (.slice none 0 0) := blk_cell hR rfl
    have rf0 : w5.frozen? ⟨w.heap.size + 1 + 1, 0, none⟩ = false := blk_fro hR 0
    have rf1 : w5.frozen? ⟨w.heap.size + 1 + 1, 1, none⟩ = false := blk_fro hR 1
    have rf2 : w5.frozen? ⟨w.heap.size + 1 + 1, 2, none⟩ = false := blk_fro hR 2
    have rf3 : w5.frozen? ⟨w.heap.size + 1 + 1, 3, none⟩ = false := blk_fro hR 3
    have hE : w5.heap[wc.heap.size]? = some (.cells #[.int .i64 gk, .int .i64 gt, .int .i64 gl, .slice ga gn gq] 28 (0, 0)) := blk_below (blk_new rfl) hb5
    have h5 : CoRep (FB BB W.heap.size) w5 (.mk 5 ag al [cc]) (.agg #[.int .i64 5, .int .i64 ag, .int .i64 al, .slice (some ⟨wc.heap.size, 0, none⟩) 1 1]) := (CosRep.oneR ((HREP.out.below bal1).below hb5) (.inr lz) hE).coR
    have H5 := Lib.hid h5
    have HB5 := Lib.hid (bstep HBz.out (bstep bal1 hb5))
    have lR := blk_lt hR
    clear hb5 hE h5 aA0 aA1 aA2 aA3
    go_wp2_with fail
    replace hR : (w5.setCell ⟨w.heap.size + 1 + 1, 0, none⟩ (.int .i64 5)).heap[w.heap.size + 1 + 1]? = some (.cells #[.int .i64 5, .int .i64 0, .int .i64 0, .slice none 0 0] 28 (0, 0)) := blk_set hR rfl
    replace hR : ((w5.setCell ⟨w.heap.size + 1 + 1, 0, none⟩ (.int .i64 5)).setCell ⟨w.heap.size + 1 + 1, 1, none⟩ (.int .i64 ag)).heap[w.heap.size + 1 + 1]? = some (.cells #[.int .i64 5, .int .i64 ag, .int .i64 0, .slice none 0 0] 28 (0, 0)) := blk_set hR rfl
    replace hR : (((w5.setCell ⟨w.heap.size + 1 + 1, 0, none⟩ (.int .i64 5)).setCell ⟨w.heap.size + 1 + 1, 1, none⟩ (.int .i64 ag)).setCell ⟨w.heap.size + 1 + 1, 2, none⟩ (.int .i64 al)).heap[w.heap.size + 1 + 1]? = some (.cells #[.int .i64 5, .int .i64 ag, .int .i64 al, .slice none 0 0] 28 (0, 0)) := blk_set hR rfl
    replace hR : ((((w5.setCell ⟨w.heap.size + 1 + 1, 0, none⟩ (.int .i64 5)).setCell ⟨w.heap.size + 1 + 1, 1, none⟩ (.int .i64 ag)).setCell ⟨w.heap.size + 1 + 1, 2, none⟩ (.int .i64 al)).setCell ⟨w.heap.size + 1 + 1, 3, none⟩ (.slice (some ⟨wc.heap.size, 0, none⟩) 1 1)).heap[w.heap.size + 1 + 1]? = some (.cells #[.int .i64 5, .int .i64 ag, .int .i64 al, .slice (some ⟨wc.heap.size, 0, none⟩) 1 1] 28 (0, 0)) := blk_set hR rfl
    have rc0 := blk_cell hR (o := 0) rfl
    have rc1 := blk_cell hR (o := 1) rfl
    have rc2 := blk_cell hR (o := 2) rfl
    have rc3 := blk_cell hR (o := 3) rfl
    refine bodyPost_ret (v := .tuple #[.agg #[.int .i64 5, .int .i64 ag, .int .i64 al, .slice (some ⟨wc.heap.size, 0, none⟩) 1 1], .bool (ok0)]) (by simp [results, Try.results24, go_sem, rc0, rc1, rc2, rc3]) rfl ?_
    exact ⟨_, _, rfl, CoRep.fbn ((((H5.out.setO (p := ⟨w.heap.size + 1 + 1, 0, none⟩) (fb_not (by show BB ≤ w.heap.size + 1 + 1; omega) (by show w.heap.size + 1 + 1 < W.heap.size; omega)) _).setO (p := ⟨w.heap.size + 1 + 1, 1, none⟩) (fb_not (by show BB ≤ w.heap.size + 1 + 1; omega) (by show w.heap.size + 1 + 1 < W.heap.size; omega)) _).setO (p := ⟨w.heap.size + 1 + 1, 2, none⟩) (fb_not (by show BB ≤ w.heap.size + 1 + 1; omega) (by show w.heap.size + 1 + 1 < W.heap.size; omega)) _).setO (p := ⟨w.heap.size + 1 + 1, 3, none⟩) (fb_not (by show BB ≤ w.heap.size + 1 + 1; omega) (by show w.heap.size + 1 + 1 < W.heap.size; omega)) _) (by omega), fun h => by rw [HOK.out h], ((((HB5.out.setCell (p := ⟨w.heap.size + 1 + 1, 0, none⟩) (by show w.heap.size ≤ w.heap.size + 1 + 1; omega) _).setCell (p := ⟨w.heap.size + 1 + 1, 1, none⟩) (by show w.heap.size ≤ w.heap.size + 1 + 1; omega) _).setCell (p := ⟨w.heap.size + 1 + 1, 2, none⟩) (by show w.heap.size ≤ w.heap.size + 1 + 1; omega) _).setCell (p := ⟨w.heap.size + 1 + 1, 3, none⟩) (by show w.heap.size ≤ w.heap.size + 1 + 1; omega) _)⟩
end Go.Proofs.Ythhdjacdalehoaa
