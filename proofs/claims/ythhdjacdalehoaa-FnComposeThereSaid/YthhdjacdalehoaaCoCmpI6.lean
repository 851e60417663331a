/-
  impl.compose: pairs.
-/
import Derived.Test.YthhdjacdalehoaaB8
import Derived.Deep.RegionHeld3
import Derived.Deep.QuietTactic
import Derived.Deep.DeepCutAuto
import Derived.Test.YthhdjacdalehoaaB0
namespace Go.Proofs.Ythhdjacdalehoaa
open Go.RowKit
set_option linter.unusedVariables false
set_option linter.unusedSimpArgs false
set_option maxRecDepth 100000

set_option maxHeartbeats 8000000 in
theorem implCmpTwo3 (al bl : Int) (ab ao bb boff an aq bn bq : Nat) (ak0 ag0 al0 ak1 ag1 al1 bk0 bg0 bl0 bk1 bg1 bl1 : Int) (aa0 aa1 ba0 ba1 : Option Addr) (an0 aq0 an1 aq1 bn0 bq0 bn1 bq1 : Nat) (c1 c2 : Co) (ok1 ok2 : Bool) (BB : Nat) (w : World) (han : 1 < an) (haq : an ≤ aq) (haq2 : aq ≤ 9223372036854775807) (hbn : 1 < bn) (hbq : bn ≤ bq) (hbq2 : bq ≤ 9223372036854775807) (ae0 : w.cell? ⟨ab, ao, none⟩ = some (.int .i64 ak0)) (ae1 : w.cell? ⟨ab, ao + 1, none⟩ = some (.int .i64 ag0)) (ae2 : w.cell? ⟨ab, ao + 2, none⟩ = some (.int .i64 al0)) (ae3 : w.cell? ⟨ab, ao + 3, none⟩ = some (.slice aa0 an0 aq0)) (ae4 : w.cell? ⟨ab, ao + 4, none⟩ = some (.int .i64 ak1)) (ae5 : w.cell? ⟨ab, ao + 5, none⟩ = some (.int .i64 ag1)) (ae6 : w.cell? ⟨ab, ao + 6, none⟩ = some (.int .i64 al1)) (ae7 : w.cell? ⟨ab, ao + 7, none⟩ = some (.slice aa1 an1 aq1)) (be0 : w.cell? ⟨bb, boff, none⟩ = some (.int .i64 bk0)) (be1 : w.cell? ⟨bb, boff + 1, none⟩ = some (.int .i64 bg0)) (be2 : w.cell? ⟨bb, boff + 2, none⟩ = some (.int .i64 bl0)) (be3 : w.cell? ⟨bb, boff + 3, none⟩ = some (.slice ba0 bn0 bq0)) (be4 : w.cell? ⟨bb, boff + 4, none⟩ = some (.int .i64 bk1)) (be5 : w.cell? ⟨bb, boff + 5, none⟩ = some (.int .i64 bg1)) (be6 : w.cell? ⟨bb, boff + 6, none⟩ = some (.int .i64 bl1)) (be7 : w.cell? ⟨bb, boff + 7, none⟩ = some (.slice ba1 bn1 bq1)) (HIa : Hid (∀ W, Below w.heap.size w W → Calls Try.prog 46 #[.agg #[.int .i64 3, .int .i64 0, .int .i64 al, .slice (some ⟨ab, ao, none⟩) an aq]] W fun e W' => e = .returned (.bool (false)) ∧ Below W.heap.size W W')) (HR1 : Hid (∀ W, Below w.heap.size w W → Calls Try.prog 24 #[.agg #[.int .i64 ak0, .int .i64 ag0, .int .i64 al0, .slice aa0 an0 aq0], .agg #[.int .i64 bk0, .int .i64 bg0, .int .i64 bl0, .slice ba0 bn0 bq0]] W (RetCoP BB (c1) (ok1) W))) (HR2 : Hid (∀ W, Below w.heap.size w W → Calls Try.prog 24 #[.agg #[.int .i64 ak1, .int .i64 ag1, .int .i64 al1, .slice aa1 an1 aq1], .agg #[.int .i64 bk1, .int .i64 bg1, .int .i64 bl1, .slice ba1 bn1 bq1]] W (RetCoP BB (c2) (ok2) W))) (hBB : BB ≤ w.heap.size) :
    Calls Try.prog 24 #[.agg #[.int .i64 3, .int .i64 0, .int .i64 al, .slice (some ⟨ab, ao, none⟩) an aq], .agg #[.int .i64 3, .int .i64 0, .int .i64 bl, .slice (some ⟨bb, boff, none⟩) bn bq]] w (RetCoP BB (Co.mk 3 0 al [c1, c2]) (ok1 && ok2) w) := by
  have han00 : 0 < an := by omega
  have hbn00 : 0 < bn := by omega
  have han0 : (0 : Int) < (an : Int) := by omega
  have hbn0 : (0 : Int) < (bn : Int) := by omega
  have han1 : (1 : Int) < (an : Int) := by omega
  have hbn1 : (1 : Int) < (bn : Int) := by omega
  have lab : ab < w.heap.size := World.block_lt_of_cell? _ _ ae0
  have lbb : bb < w.heap.size := World.block_lt_of_cell? _ _ be0
  have hsz : (((w.alloc (.cells #[.int .i64 3, .int .i64 0, .int .i64 al, .slice (some ⟨ab, ao, none⟩) an aq] 28)).alloc (.cells #[.int .i64 3, .int .i64 0, .int .i64 bl, .slice (some ⟨bb, boff, none⟩) bn bq] 28)).alloc (.cells #[.int .i64 0, .int .i64 0, .int .i64 0, .slice none 0 0] 28)).heap.size = w.heap.size + 1 + 1 + 1 := by simp
  have hF : (((w.alloc (.cells #[.int .i64 3, .int .i64 0, .int .i64 al, .slice (some ⟨ab, ao, none⟩) an aq] 28)).alloc (.cells #[.int .i64 3, .int .i64 0, .int .i64 bl, .slice (some ⟨bb, boff, none⟩) bn bq] 28)).alloc (.cells #[.int .i64 0, .int .i64 0, .int .i64 0, .slice none 0 0] 28)).cell? ⟨w.heap.size, 0, none⟩ = some (Value.int IntKind.i64 3) ∧ (((w.alloc (.cells #[.int .i64 3, .int .i64 0, .int .i64 al, .slice (some ⟨ab, ao, none⟩) an aq] 28)).alloc (.cells #[.int .i64 3, .int .i64 0, .int .i64 bl, .slice (some ⟨bb, boff, none⟩) bn bq] 28)).alloc (.cells #[.int .i64 0, .int .i64 0, .int .i64 0, .slice none 0 0] 28)).cell? ⟨w.heap.size, 1, none⟩ = some (Value.int IntKind.i64 0) ∧ (((w.alloc (.cells #[.int .i64 3, .int .i64 0, .int .i64 al, .slice (some ⟨ab, ao, none⟩) an aq] 28)).alloc (.cells #[.int .i64 3, .int .i64 0, .int .i64 bl, .slice (some ⟨bb, boff, none⟩) bn bq] 28)).alloc (.cells #[.int .i64 0, .int .i64 0, .int .i64 0, .slice none 0 0] 28)).cell? ⟨w.heap.size, 2, none⟩ = some (Value.int IntKind.i64 al) ∧ (((w.alloc (.cells #[.int .i64 3, .int .i64 0, .int .i64 al, .slice (some ⟨ab, ao, none⟩) an aq] 28)).alloc (.cells #[.int .i64 3, .int .i64 0, .int .i64 bl, .slice (some ⟨bb, boff, none⟩) bn bq] 28)).alloc (.cells #[.int .i64 0, .int .i64 0, .int .i64 0, .slice none 0 0] 28)).cell? ⟨w.heap.size, 3, none⟩ = some (Value.slice (some ⟨ab, ao, none⟩) an aq) ∧ (((w.alloc (.cells #[.int .i64 3, .int .i64 0, .int .i64 al, .slice (some ⟨ab, ao, none⟩) an aq] 28)).alloc (.cells #[.int .i64 3, .int .i64 0, .int .i64 bl, .slice (some ⟨bb, boff, none⟩) bn bq] 28)).alloc (.cells #[.int .i64 0, .int .i64 0, .int .i64 0, .slice none 0 0] 28)).cell? ⟨w.heap.size + 1, 0, none⟩ = some (Value.int IntKind.i64 3) ∧ (((w.alloc (.cells #[.int .i64 3, .int .i64 0, .int .i64 al, .slice (some ⟨ab, ao, none⟩) an aq] 28)).alloc (.cells #[.int .i64 3, .int .i64 0, .int .i64 bl, .slice (some ⟨bb, boff, none⟩) bn bq] 28)).alloc (.cells #[.int .i64 0, .int .i64 0, .int .i64 0, .slice none 0 0] 28)).cell? ⟨w.heap.size + 1, 1, none⟩ = some (Value.int IntKind.i64 0) ∧ (((w.alloc (.cells #[.int .i64 3, .int .i64 0, .int .i64 al, .slice (some ⟨ab, ao, none⟩) an aq] 28)).alloc (.cells #[.int .i64 3, .int .i64 0, .int .i64 bl, .slice (some ⟨bb, boff, none⟩) bn bq] 28)).alloc (.cells #[.int .i64 0, .int .i64 0, .int .i64 0, .slice none 0 0] 28)).cell? ⟨w.heap.size + 1, 2, none⟩ = some (Value.int IntKind.i64 bl) ∧ (((w.alloc (.cells #[.int .i64 3, .int .i64 0, .int .i64 al, .slice (some ⟨ab, ao, none⟩) an aq] 28)).alloc (.cells #[.int .i64 3, .int .i64 0, .int .i64 bl, .slice (some ⟨bb, boff, none⟩) bn bq] 28)).alloc (.cells #[.int .i64 0, .int .i64 0, .int .i64 0, .slice none 0 0] 28)).cell? ⟨w.heap.size + 1, 3, none⟩ = some (Value.slice (some ⟨bb, boff, none⟩) bn bq) ∧ (((w.alloc (.cells #[.int .i64 3, .int .i64 0, .int .i64 al, .slice (some ⟨ab, ao, none⟩) an aq] 28)).alloc (.cells #[.int .i64 3, .int .i64 0, .int .i64 bl, .slice (some ⟨bb, boff, none⟩) bn bq] 28)).alloc (.cells #[.int .i64 0, .int .i64 0, .int .i64 0, .slice none 0 0] 28)).cell? ⟨ab, ao, none⟩ = some (Value.int IntKind.i64 ak0) ∧ (((w.alloc (.cells #[.int .i64 3, .int .i64 0, .int .i64 al, .slice (some ⟨ab, ao, none⟩) an aq] 28)).alloc (.cells #[.int .i64 3, .int .i64 0, .int .i64 bl, .slice (some ⟨bb, boff, none⟩) bn bq] 28)).alloc (.cells #[.int .i64 0, .int .i64 0, .int .i64 0, .slice none 0 0] 28)).cell? ⟨ab, ao + 1, none⟩ = some (Value.int IntKind.i64 ag0) ∧ (((w.alloc (.cells #[.int .i64 3, .int .i64 0, .int .i64 al, .slice (some ⟨ab, ao, none⟩) an aq] 28)).alloc (.cells #[.int .i64 3, .int .i64 0, .int .i64 bl, .slice (some ⟨bb, boff, none⟩) bn bq] 28)).alloc (.cells #[.int .i64 0, .int .i64 0, .int .i64 0, .slice none 0 0] 28)).cell? ⟨ab, ao + 2, none⟩ = some (Value.int IntKind.i64 al0) ∧ (((w.alloc (.cells #[.int .i64 3, .int .i64 0, .int .i64 al, .slice (some ⟨ab, ao, none⟩) an aq] 28)).alloc (.cells #[.int .i64 3, .int .i64 0, .int .i64 bl, .slice (some ⟨bb, boff, none⟩) bn bq] 28)).alloc (.cells #[.int .i64 0, .int .i64 0, .int .i64 0, .slice none 0 0] 28)).cell? ⟨ab, ao + 3, none⟩ = some (Value.slice aa0 an0 aq0) ∧ (((w.alloc (.cells #[.int .i64 3, .int .i64 0, .int .i64 al, .slice (some ⟨ab, ao, none⟩) an aq] 28)).alloc (.cells #[.int .i64 3, .int .i64 0, .int .i64 bl, .slice (some ⟨bb, boff, none⟩) bn bq] 28)).alloc (.cells #[.int .i64 0, .int .i64 0, .int .i64 0, .slice none 0 0] 28)).cell? ⟨ab, ao + 4, none⟩ = some (Value.int IntKind.i64 ak1) ∧ (((w.alloc (.cells #[.int .i64 3, .int .i64 0, .int .i64 al, .slice (some ⟨ab, ao, none⟩) an aq] 28)).alloc (.cells #[.int .i64 3, .int .i64 0, .int .i64 bl, .slice (some ⟨bb, boff, none⟩) bn bq] 28)).alloc (.cells #[.int .i64 0, .int .i64 0, .int .i64 0, .slice none 0 0] 28)).cell? ⟨ab, ao + 5, none⟩ = some (Value.int IntKind.i64 ag1) ∧ (((w.alloc (.cells #[.int .i64 3, .int .i64 0, .int .i64 al, .slice (some ⟨ab, ao, none⟩) an aq] 28)).alloc (.cells #[.int .i64 3, .int .i64 0, .int .i64 bl, .slice (some ⟨bb, boff, none⟩) bn bq] 28)).alloc (.cells #[.int .i64 0, .int .i64 0, .int .i64 0, .slice none 0 0] 28)).cell? ⟨ab, ao + 6, none⟩ = some (Value.int IntKind.i64 al1) ∧ (((w.alloc (.cells #[.int .i64 3, .int .i64 0, .int .i64 al, .slice (some ⟨ab, ao, none⟩) an aq] 28)).alloc (.cells #[.int .i64 3, .int .i64 0, .int .i64 bl, .slice (some ⟨bb, boff, none⟩) bn bq] 28)).alloc (.cells #[.int .i64 0, .int .i64 0, .int .i64 0, .slice none 0 0] 28)).cell? ⟨ab, ao + 7, none⟩ = some (Value.slice aa1 an1 aq1) ∧ (((w.alloc (.cells #[.int .i64 3, .int .i64 0, .int .i64 al, .slice (some ⟨ab, ao, none⟩) an aq] 28)).alloc (.cells #[.int .i64 3, .int .i64 0, .int .i64 bl, .slice (some ⟨bb, boff, none⟩) bn bq] 28)).alloc (.cells #[.int .i64 0, .int .i64 0, .int .i64 0, .slice none 0 0] 28)).cell? ⟨bb, boff, none⟩ = some (Value.int IntKind.i64 bk0) ∧ (((w.alloc (.cells #[.int .i64 3, .int .i64 0, .int .i64 al, .slice (some ⟨ab, ao, none⟩) an aq] 28)).alloc (.cells #[.int .i64 3, .int .i64 0, .int .i64 bl, .slice (some ⟨bb, boff, none⟩) bn bq] 28)).alloc (.cells #[.int .i64 0, .int .i64 0, .int .i64 0, .slice none 0 0] 28)).cell? ⟨bb, boff + 1, none⟩ = some (Value.int IntKind.i64 bg0) ∧ (((w.alloc (.cells #[.int .i64 3, .int .i64 0, .int .i64 al, .slice (some ⟨ab, ao, none⟩) an aq] 28)).alloc (.cells #[.int .i64 3, .int .i64 0, .int .i64 bl, .slice (some ⟨bb, boff, none⟩) bn bq] 28)).alloc (.cells #[.int .i64 0, .int .i64 0, .int .i64 0, .slice none 0 0] 28)).cell? ⟨bb, boff + 2, none⟩ = some (Value.int IntKind.i64 bl0) ∧ (((w.alloc (.cells #[.int .i64 3, .int .i64 0, .int .i64 al, .slice (some ⟨ab, ao, none⟩) an aq] 28)).alloc (.cells #[.int .i64 3, .int .i64 0, .int .i64 bl, .slice (some ⟨bb, boff, none⟩) bn bq] 28)).alloc (.cells #[.int .i64 0, .int .i64 0, .int .i64 0, .slice none 0 0] 28)).cell? ⟨bb, boff + 3, none⟩ = some (Value.slice ba0 bn0 bq0) ∧ (((w.alloc (.cells #[.int .i64 3, .int .i64 0, .int .i64 al, .slice (some ⟨ab, ao, none⟩) an aq] 28)).alloc (.cells #[.int .i64 3, .int .i64 0, .int .i64 bl, .slice (some ⟨bb, boff, none⟩) bn bq] 28)).alloc (.cells #[.int .i64 0, .int .i64 0, .int .i64 0, .slice none 0 0] 28)).cell? ⟨bb, boff + 4, none⟩ = some (Value.int IntKind.i64 bk1) ∧ (((w.alloc (.cells #[.int .i64 3, .int .i64 0, .int .i64 al, .slice (some ⟨ab, ao, none⟩) an aq] 28)).alloc (.cells #[.int .i64 3, .int .i64 0, .int .i64 bl, .slice (some ⟨bb, boff, none⟩) bn bq] 28)).alloc (.cells #[.int .i64 0, .int .i64 0, .int .i64 0, .slice none 0 0] 28)).cell? ⟨bb, boff + 5, none⟩ = some (Value.int IntKind.i64 bg1) ∧ (((w.alloc (.cells #[.int .i64 3, .int .i64 0, .int .i64 al, .slice (some ⟨ab, ao, none⟩) an aq] 28)).alloc (.cells #[.int .i64 3, .int .i64 0, .int .i64 bl, .slice (some ⟨bb, boff, none⟩) bn bq] 28)).alloc (.cells #[.int .i64 0, .int .i64 0, .int .i64 0, .slice none 0 0] 28)).cell? ⟨bb, boff + 6, none⟩ = some (Value.int IntKind.i64 bl1) ∧ (((w.alloc (.cells #[.int .i64 3, .int .i64 0, .int .i64 al, .slice (some ⟨ab, ao, none⟩) an aq] 28)).alloc (.cells #[.int .i64 3, .int .i64 0, .int .i64 bl, .slice (some ⟨bb, boff, none⟩) bn bq] 28)).alloc (.cells #[.int .i64 0, .int .i64 0, .int .i64 0, .slice none 0 0] 28)).cell? ⟨bb, boff + 7, none⟩ = some (Value.slice ba1 bn1 bq1) ∧ (((w.alloc (.cells #[.int .i64 3, .int .i64 0, .int .i64 al, .slice (some ⟨ab, ao, none⟩) an aq] 28)).alloc (.cells #[.int .i64 3, .int .i64 0, .int .i64 bl, .slice (some ⟨bb, boff, none⟩) bn bq] 28)).alloc (.cells #[.int .i64 0, .int .i64 0, .int .i64 0, .slice none 0 0] 28)).heap[w.heap.size + 1 + 1]? = some (.cells #[.int .i64 0, .int .i64 0, .int .i64 0, .slice none 0 0] 28 (0, 0)) := ⟨bcell bal1 (bcell bal1 (cell_n0 0)), bcell bal1 (bcell bal1 (cell_n0 1)), bcell bal1 (bcell bal1 (cell_n0 2)), bcell bal1 (bcell bal1 (cell_n0 3)), bcell bal1 (cell_n1 0), bcell bal1 (cell_n1 1), bcell bal1 (cell_n1 2), bcell bal1 (cell_n1 3), bcell bal3 ae0, bcell bal3 ae1, bcell bal3 ae2, bcell bal3 ae3, bcell bal3 ae4, bcell bal3 ae5, bcell bal3 ae6, bcell bal3 ae7, bcell bal3 be0, bcell bal3 be1, bcell bal3 be2, bcell bal3 be3, bcell bal3 be4, bcell bal3 be5, bcell bal3 be6, bcell bal3 be7, blk_n2⟩
  have HF := Lib.hid hF
  have HSZ := Lib.hid hsz
  clear hF hsz ae0 ae1 ae2 ae3 ae4 ae5 ae6 ae7 be0 be1 be2 be3 be4 be5 be6 be7
  go_enter Try.func24, Try.ntmps24
  go_wp2_with fail
  refine (HIa.out _ bal3).mono ?_
  rintro e W ⟨rfl, hb1⟩
  have HB := Lib.hid (bstep bal3 hb1)
  have hz := hb1.size
  rw [HSZ.out] at hz
  obtain ⟨aA0, aA1, aA2, aA3, aB0, aB1, aB2, aB3, ae0, ae1, ae2, ae3, ae4, ae5, ae6, ae7, be0, be1, be2, be3, be4, be5, be6, be7, hR⟩ := HF.out
  replace aA0 := bcell hb1 aA0
  replace aA1 := bcell hb1 aA1
  replace aA2 := bcell hb1 aA2
  replace aA3 := bcell hb1 aA3
  replace aB0 := bcell hb1 aB0
  replace aB1 := bcell hb1 aB1
  replace aB2 := bcell hb1 aB2
  replace aB3 := bcell hb1 aB3
  replace ae0 := bcell hb1 ae0
  replace ae1 := bcell hb1 ae1
  replace ae2 := bcell hb1 ae2
  replace ae3 := bcell hb1 ae3
  replace ae4 := bcell hb1 ae4
  replace ae5 := bcell hb1 ae5
  replace ae6 := bcell hb1 ae6
  replace ae7 := bcell hb1 ae7
  replace be0 := bcell hb1 be0
  replace be1 := bcell hb1 be1
  replace be2 := bcell hb1 be2
  replace be3 := bcell hb1 be3
  replace be4 := bcell hb1 be4
  replace be5 := bcell hb1 be5
  replace be6 := bcell hb1 be6
  replace be7 := bcell hb1 be7
  replace hR := blk_below hR hb1
  clear hb1 HF HSZ
  have lW : w.heap.size < W.heap.size ∧ w.heap.size + 1 < W.heap.size ∧ w.heap.size + 1 + 1 < W.heap.size ∧ ab < W.heap.size ∧ bb < W.heap.size := by omega
  have lab1 : ab < W.heap.size + 1 := by omega
  have lbb1 : bb < W.heap.size + 1 := by omega
  go_wp2_with fail
  go_cut [10, 11] (fun s t wx => CutVV #[.int .i64 ak0, .int .i64 ag0, .int .i64 al0, .slice aa0 an0 aq0] #[.int .i64 bk0, .int .i64 bg0, .int .i64 bl0, .slice ba0 bn0 bq0] W s t wx)
  case first =>
    have hS0 := Lib.hid (show W.cell? ⟨w.heap.size, 3, none⟩ = some (Value.slice (some ⟨ab, ao, none⟩) an aq) ∧ W.cell? ⟨w.heap.size + 1, 3, none⟩ = some (Value.slice (some ⟨bb, boff, none⟩) bn bq) ∧ W.cell? ⟨ab, ao, none⟩ = some (Value.int IntKind.i64 ak0) ∧ W.cell? ⟨ab, ao + 1, none⟩ = some (Value.int IntKind.i64 ag0) ∧ W.cell? ⟨ab, ao + 2, none⟩ = some (Value.int IntKind.i64 al0) ∧ W.cell? ⟨ab, ao + 3, none⟩ = some (Value.slice aa0 an0 aq0) ∧ W.cell? ⟨bb, boff, none⟩ = some (Value.int IntKind.i64 bk0) ∧ W.cell? ⟨bb, boff + 1, none⟩ = some (Value.int IntKind.i64 bg0) ∧ W.cell? ⟨bb, boff + 2, none⟩ = some (Value.int IntKind.i64 bl0) ∧ W.cell? ⟨bb, boff + 3, none⟩ = some (Value.slice ba0 bn0 bq0) from ⟨aA3, aB3, ae0, ae1, ae2, ae3, be0, be1, be2, be3⟩)
    have hSd := Lib.hid (show ∀ X : World, (X.cell? ⟨w.heap.size, 3, none⟩ = some (Value.slice (some ⟨ab, ao, none⟩) an aq) ∧ X.cell? ⟨w.heap.size + 1, 3, none⟩ = some (Value.slice (some ⟨bb, boff, none⟩) bn bq) ∧ X.cell? ⟨ab, ao, none⟩ = some (Value.int IntKind.i64 ak0) ∧ X.cell? ⟨ab, ao + 1, none⟩ = some (Value.int IntKind.i64 ag0) ∧ X.cell? ⟨ab, ao + 2, none⟩ = some (Value.int IntKind.i64 al0) ∧ X.cell? ⟨ab, ao + 3, none⟩ = some (Value.slice aa0 an0 aq0) ∧ X.cell? ⟨bb, boff, none⟩ = some (Value.int IntKind.i64 bk0) ∧ X.cell? ⟨bb, boff + 1, none⟩ = some (Value.int IntKind.i64 bg0) ∧ X.cell? ⟨bb, boff + 2, none⟩ = some (Value.int IntKind.i64 bl0) ∧ X.cell? ⟨bb, boff + 3, none⟩ = some (Value.slice ba0 bn0 bq0)) → ((World.drew X).cell? ⟨w.heap.size, 3, none⟩ = some (Value.slice (some ⟨ab, ao, none⟩) an aq) ∧ (World.drew X).cell? ⟨w.heap.size + 1, 3, none⟩ = some (Value.slice (some ⟨bb, boff, none⟩) bn bq) ∧ (World.drew X).cell? ⟨ab, ao, none⟩ = some (Value.int IntKind.i64 ak0) ∧ (World.drew X).cell? ⟨ab, ao + 1, none⟩ = some (Value.int IntKind.i64 ag0) ∧ (World.drew X).cell? ⟨ab, ao + 2, none⟩ = some (Value.int IntKind.i64 al0) ∧ (World.drew X).cell? ⟨ab, ao + 3, none⟩ = some (Value.slice aa0 an0 aq0) ∧ (World.drew X).cell? ⟨bb, boff, none⟩ = some (Value.int IntKind.i64 bk0) ∧ (World.drew X).cell? ⟨bb, boff + 1, none⟩ = some (Value.int IntKind.i64 bg0) ∧ (World.drew X).cell? ⟨bb, boff + 2, none⟩ = some (Value.int IntKind.i64 bl0) ∧ (World.drew X).cell? ⟨bb, boff + 3, none⟩ = some (Value.slice ba0 bn0 bq0)) from fun X s => ⟨dcell s.1, dcell s.2.1, dcell s.2.2.1, dcell s.2.2.2.1, dcell s.2.2.2.2.1, dcell s.2.2.2.2.2.1, dcell s.2.2.2.2.2.2.1, dcell s.2.2.2.2.2.2.2.1, dcell s.2.2.2.2.2.2.2.2.1, dcell s.2.2.2.2.2.2.2.2.2⟩)
    have hSb := Lib.hid (show ∀ X Y : World, Below X.heap.size X Y → (X.cell? ⟨w.heap.size, 3, none⟩ = some (Value.slice (some ⟨ab, ao, none⟩) an aq) ∧ X.cell? ⟨w.heap.size + 1, 3, none⟩ = some (Value.slice (some ⟨bb, boff, none⟩) bn bq) ∧ X.cell? ⟨ab, ao, none⟩ = some (Value.int IntKind.i64 ak0) ∧ X.cell? ⟨ab, ao + 1, none⟩ = some (Value.int IntKind.i64 ag0) ∧ X.cell? ⟨ab, ao + 2, none⟩ = some (Value.int IntKind.i64 al0) ∧ X.cell? ⟨ab, ao + 3, none⟩ = some (Value.slice aa0 an0 aq0) ∧ X.cell? ⟨bb, boff, none⟩ = some (Value.int IntKind.i64 bk0) ∧ X.cell? ⟨bb, boff + 1, none⟩ = some (Value.int IntKind.i64 bg0) ∧ X.cell? ⟨bb, boff + 2, none⟩ = some (Value.int IntKind.i64 bl0) ∧ X.cell? ⟨bb, boff + 3, none⟩ = some (Value.slice ba0 bn0 bq0)) → (Y.cell? ⟨w.heap.size, 3, none⟩ = some (Value.slice (some ⟨ab, ao, none⟩) an aq) ∧ Y.cell? ⟨w.heap.size + 1, 3, none⟩ = some (Value.slice (some ⟨bb, boff, none⟩) bn bq) ∧ Y.cell? ⟨ab, ao, none⟩ = some (Value.int IntKind.i64 ak0) ∧ Y.cell? ⟨ab, ao + 1, none⟩ = some (Value.int IntKind.i64 ag0) ∧ Y.cell? ⟨ab, ao + 2, none⟩ = some (Value.int IntKind.i64 al0) ∧ Y.cell? ⟨ab, ao + 3, none⟩ = some (Value.slice aa0 an0 aq0) ∧ Y.cell? ⟨bb, boff, none⟩ = some (Value.int IntKind.i64 bk0) ∧ Y.cell? ⟨bb, boff + 1, none⟩ = some (Value.int IntKind.i64 bg0) ∧ Y.cell? ⟨bb, boff + 2, none⟩ = some (Value.int IntKind.i64 bl0) ∧ Y.cell? ⟨bb, boff + 3, none⟩ = some (Value.slice ba0 bn0 bq0)) from fun X Y h s => ⟨bcell h s.1, bcell h s.2.1, bcell h s.2.2.1, bcell h s.2.2.2.1, bcell h s.2.2.2.2.1, bcell h s.2.2.2.2.2.1, bcell h s.2.2.2.2.2.2.1, bcell h s.2.2.2.2.2.2.2.1, bcell h s.2.2.2.2.2.2.2.2.1, bcell h s.2.2.2.2.2.2.2.2.2⟩)
    have hSs := Lib.hid (show ∀ (X : World) (g o : Nat) (v : Value), W.heap.size ≤ g → (X.cell? ⟨w.heap.size, 3, none⟩ = some (Value.slice (some ⟨ab, ao, none⟩) an aq) ∧ X.cell? ⟨w.heap.size + 1, 3, none⟩ = some (Value.slice (some ⟨bb, boff, none⟩) bn bq) ∧ X.cell? ⟨ab, ao, none⟩ = some (Value.int IntKind.i64 ak0) ∧ X.cell? ⟨ab, ao + 1, none⟩ = some (Value.int IntKind.i64 ag0) ∧ X.cell? ⟨ab, ao + 2, none⟩ = some (Value.int IntKind.i64 al0) ∧ X.cell? ⟨ab, ao + 3, none⟩ = some (Value.slice aa0 an0 aq0) ∧ X.cell? ⟨bb, boff, none⟩ = some (Value.int IntKind.i64 bk0) ∧ X.cell? ⟨bb, boff + 1, none⟩ = some (Value.int IntKind.i64 bg0) ∧ X.cell? ⟨bb, boff + 2, none⟩ = some (Value.int IntKind.i64 bl0) ∧ X.cell? ⟨bb, boff + 3, none⟩ = some (Value.slice ba0 bn0 bq0)) → ((World.setCell X ⟨g, o, none⟩ v).cell? ⟨w.heap.size, 3, none⟩ = some (Value.slice (some ⟨ab, ao, none⟩) an aq) ∧ (World.setCell X ⟨g, o, none⟩ v).cell? ⟨w.heap.size + 1, 3, none⟩ = some (Value.slice (some ⟨bb, boff, none⟩) bn bq) ∧ (World.setCell X ⟨g, o, none⟩ v).cell? ⟨ab, ao, none⟩ = some (Value.int IntKind.i64 ak0) ∧ (World.setCell X ⟨g, o, none⟩ v).cell? ⟨ab, ao + 1, none⟩ = some (Value.int IntKind.i64 ag0) ∧ (World.setCell X ⟨g, o, none⟩ v).cell? ⟨ab, ao + 2, none⟩ = some (Value.int IntKind.i64 al0) ∧ (World.setCell X ⟨g, o, none⟩ v).cell? ⟨ab, ao + 3, none⟩ = some (Value.slice aa0 an0 aq0) ∧ (World.setCell X ⟨g, o, none⟩ v).cell? ⟨bb, boff, none⟩ = some (Value.int IntKind.i64 bk0) ∧ (World.setCell X ⟨g, o, none⟩ v).cell? ⟨bb, boff + 1, none⟩ = some (Value.int IntKind.i64 bg0) ∧ (World.setCell X ⟨g, o, none⟩ v).cell? ⟨bb, boff + 2, none⟩ = some (Value.int IntKind.i64 bl0) ∧ (World.setCell X ⟨g, o, none⟩ v).cell? ⟨bb, boff + 3, none⟩ = some (Value.slice ba0 bn0 bq0)) from fun X g o v hg s => ⟨sc_blk s.1 (by show w.heap.size ≠ g; omega), sc_blk s.2.1 (by show w.heap.size + 1 ≠ g; omega), sc_blk s.2.2.1 (by show ab ≠ g; omega), sc_blk s.2.2.2.1 (by show ab ≠ g; omega), sc_blk s.2.2.2.2.1 (by show ab ≠ g; omega), sc_blk s.2.2.2.2.2.1 (by show ab ≠ g; omega), sc_blk s.2.2.2.2.2.2.1 (by show bb ≠ g; omega), sc_blk s.2.2.2.2.2.2.2.1 (by show bb ≠ g; omega), sc_blk s.2.2.2.2.2.2.2.2.1 (by show bb ≠ g; omega), sc_blk s.2.2.2.2.2.2.2.2.2 (by show bb ≠ g; omega)⟩)
    go_region_held3 (fun w' => w'.cell? ⟨w.heap.size, 3, none⟩ = some (Value.slice (some ⟨ab, ao, none⟩) an aq) ∧ w'.cell? ⟨w.heap.size + 1, 3, none⟩ = some (Value.slice (some ⟨bb, boff, none⟩) bn bq) ∧ w'.cell? ⟨ab, ao, none⟩ = some (Value.int IntKind.i64 ak0) ∧ w'.cell? ⟨ab, ao + 1, none⟩ = some (Value.int IntKind.i64 ag0) ∧ w'.cell? ⟨ab, ao + 2, none⟩ = some (Value.int IntKind.i64 al0) ∧ w'.cell? ⟨ab, ao + 3, none⟩ = some (Value.slice aa0 an0 aq0) ∧ w'.cell? ⟨bb, boff, none⟩ = some (Value.int IntKind.i64 bk0) ∧ w'.cell? ⟨bb, boff + 1, none⟩ = some (Value.int IntKind.i64 bg0) ∧ w'.cell? ⟨bb, boff + 2, none⟩ = some (Value.int IntKind.i64 bl0) ∧ w'.cell? ⟨bb, boff + 3, none⟩ = some (Value.slice ba0 bn0 bq0))
      (repeat (first | with_reducible exact hS0.out | with_reducible refine hSs.out _ _ _ _ (by first | omega | (simp; done) | (simp; omega)) ?_ | with_reducible refine hSb.out _ _ bal1 ?_ | with_reducible refine hSd.out _ ?_))
      (fail)
    all_goals (go_wp2_with fail; go_meet)
    · exact ⟨W.heap.size, W.heap.size + 1, rfl, rfl, Nat.le_refl _, by omega, by omega, blk_below (blk_new rfl) bal1.drew, (show (World.alloc (World.alloc W _) _).heap[_]? = _ from blk_new (by simp)), bal2.drew⟩
    · exact ⟨W.heap.size + 1, W.heap.size, rfl, rfl, by omega, Nat.le_refl _, by omega, (show (World.alloc (World.alloc W _) _).heap[_]? = _ from blk_new (by simp)), blk_below (blk_new rfl) bal1.drew, bal2.drew⟩
  case rest =>
    obtain ⟨g, h, rfl, rfl, hg, hh, hgh, hG, hH, hb⟩ := hcut
    replace aA0 := bcell hb aA0
    replace aA1 := bcell hb aA1
    replace aA2 := bcell hb aA2
    replace aA3 := bcell hb aA3
    replace aB0 := bcell hb aB0
    replace aB1 := bcell hb aB1
    replace aB2 := bcell hb aB2
    replace aB3 := bcell hb aB3
    replace ae0 := bcell hb ae0
    replace ae1 := bcell hb ae1
    replace ae2 := bcell hb ae2
    replace ae3 := bcell hb ae3
    replace ae4 := bcell hb ae4
    replace ae5 := bcell hb ae5
    replace ae6 := bcell hb ae6
    replace ae7 := bcell hb ae7
    replace be0 := bcell hb be0
    replace be1 := bcell hb be1
    replace be2 := bcell hb be2
    replace be3 := bcell hb be3
    replace be4 := bcell hb be4
    replace be5 := bcell hb be5
    replace be6 := bcell hb be6
    replace be7 := bcell hb be7
    replace hR := blk_below hR hb
    have lz := hb.size
    have HBz := Lib.hid (bstep HB.out hb)
    clear hb
    have lg := blk_lt hG
    have lh := blk_lt hH
    have hhg : ¬ h = g := fun e => hgh e.symm
    have p0 : wc.cell? ⟨g, 0, none⟩ = some (.int .i64 ak0) := blk_cell hG rfl
    have p1 : wc.cell? ⟨g, 1, none⟩ = some (.int .i64 ag0) := blk_cell hG rfl
    have p2 : wc.cell? ⟨g, 2, none⟩ = some (.int .i64 al0) := blk_cell hG rfl
    have p3 : wc.cell? ⟨g, 3, none⟩ = some (.slice aa0 an0 aq0) := blk_cell hG rfl
    have pf0 : wc.frozen? ⟨g, 0, none⟩ = false := blk_fro hG 0
    have pf1 : wc.frozen? ⟨g, 1, none⟩ = false := blk_fro hG 1
    have pf2 : wc.frozen? ⟨g, 2, none⟩ = false := blk_fro hG 2
    have pf3 : wc.frozen? ⟨g, 3, none⟩ = false := blk_fro hG 3
    have q0 : wc.cell? ⟨h, 0, none⟩ = some (.int .i64 bk0) := blk_cell hH rfl
    have q1 : wc.cell? ⟨h, 1, none⟩ = some (.int .i64 bg0) := blk_cell hH rfl
    have q2 : wc.cell? ⟨h, 2, none⟩ = some (.int .i64 bl0) := blk_cell hH rfl
    have q3 : wc.cell? ⟨h, 3, none⟩ = some (.slice ba0 bn0 bq0) := blk_cell hH rfl
    have qf0 : wc.frozen? ⟨h, 0, none⟩ = false := blk_fro hH 0
    have qf1 : wc.frozen? ⟨h, 1, none⟩ = false := blk_fro hH 1
    have qf2 : wc.frozen? ⟨h, 2, none⟩ = false := blk_fro hH 2
    have qf3 : wc.frozen? ⟨h, 3, none⟩ = false := blk_fro hH 3
    go_wp2_with fail
    refine (HR1.out _ HBz.out).mono ?_
    rintro e w2 ⟨v2, cc2, rfl, hv2, hok2, hb2⟩
    have HBy := Lib.hid (bstep HBz.out hb2)
    obtain ⟨xk, xg, xl, xa, xn, xq, rfl⟩ := hv2.shape
    have hz2 := hb2.size
    replace aA0 := bcell hb2 aA0
    replace aA1 := bcell hb2 aA1
    replace aA2 := bcell hb2 aA2
    replace aA3 := bcell hb2 aA3
    replace aB0 := bcell hb2 aB0
    replace aB1 := bcell hb2 aB1
    replace aB2 := bcell hb2 aB2
    replace aB3 := bcell hb2 aB3
    replace ae0 := bcell hb2 ae0
    replace ae1 := bcell hb2 ae1
    replace ae2 := bcell hb2 ae2
    replace ae3 := bcell hb2 ae3
    replace ae4 := bcell hb2 ae4
    replace ae5 := bcell hb2 ae5
    replace ae6 := bcell hb2 ae6
    replace ae7 := bcell hb2 ae7
    replace be0 := bcell hb2 be0
    replace be1 := bcell hb2 be1
    replace be2 := bcell hb2 be2
    replace be3 := bcell hb2 be3
    replace be4 := bcell hb2 be4
    replace be5 := bcell hb2 be5
    replace be6 := bcell hb2 be6
    replace be7 := bcell hb2 be7
    replace hR := blk_below hR hb2
    clear hb2 p0 pf0 q0 qf0 p1 pf1 q1 qf1 p2 pf2 q2 qf2 p3 pf3 q3 qf3 hG hH
    go_wp2_with fail
    have hV : ((w2.alloc (.cells #[.int .i64 xk, .int .i64 xg, .int .i64 xl, .slice xa xn xq] 28)).cell? ⟨w.heap.size, 0, none⟩ = some (Value.int IntKind.i64 3) ∧ (w2.alloc (.cells #[.int .i64 xk, .int .i64 xg, .int .i64 xl, .slice xa xn xq] 28)).cell? ⟨w.heap.size, 1, none⟩ = some (Value.int IntKind.i64 0) ∧ (w2.alloc (.cells #[.int .i64 xk, .int .i64 xg, .int .i64 xl, .slice xa xn xq] 28)).cell? ⟨w.heap.size, 2, none⟩ = some (Value.int IntKind.i64 al) ∧ (w2.alloc (.cells #[.int .i64 xk, .int .i64 xg, .int .i64 xl, .slice xa xn xq] 28)).cell? ⟨w.heap.size, 3, none⟩ = some (Value.slice (some ⟨ab, ao, none⟩) an aq) ∧ (w2.alloc (.cells #[.int .i64 xk, .int .i64 xg, .int .i64 xl, .slice xa xn xq] 28)).cell? ⟨w.heap.size + 1, 0, none⟩ = some (Value.int IntKind.i64 3) ∧ (w2.alloc (.cells #[.int .i64 xk, .int .i64 xg, .int .i64 xl, .slice xa xn xq] 28)).cell? ⟨w.heap.size + 1, 1, none⟩ = some (Value.int IntKind.i64 0) ∧ (w2.alloc (.cells #[.int .i64 xk, .int .i64 xg, .int .i64 xl, .slice xa xn xq] 28)).cell? ⟨w.heap.size + 1, 2, none⟩ = some (Value.int IntKind.i64 bl) ∧ (w2.alloc (.cells #[.int .i64 xk, .int .i64 xg, .int .i64 xl, .slice xa xn xq] 28)).cell? ⟨w.heap.size + 1, 3, none⟩ = some (Value.slice (some ⟨bb, boff, none⟩) bn bq) ∧ (w2.alloc (.cells #[.int .i64 xk, .int .i64 xg, .int .i64 xl, .slice xa xn xq] 28)).cell? ⟨ab, ao, none⟩ = some (Value.int IntKind.i64 ak0) ∧ (w2.alloc (.cells #[.int .i64 xk, .int .i64 xg, .int .i64 xl, .slice xa xn xq] 28)).cell? ⟨ab, ao + 1, none⟩ = some (Value.int IntKind.i64 ag0) ∧ (w2.alloc (.cells #[.int .i64 xk, .int .i64 xg, .int .i64 xl, .slice xa xn xq] 28)).cell? ⟨ab, ao + 2, none⟩ = some (Value.int IntKind.i64 al0) ∧ (w2.alloc (.cells #[.int .i64 xk, .int .i64 xg, .int .i64 xl, .slice xa xn xq] 28)).cell? ⟨ab, ao + 3, none⟩ = some (Value.slice aa0 an0 aq0) ∧ (w2.alloc (.cells #[.int .i64 xk, .int .i64 xg, .int .i64 xl, .slice xa xn xq] 28)).cell? ⟨ab, ao + 4, none⟩ = some (Value.int IntKind.i64 ak1) ∧ (w2.alloc (.cells #[.int .i64 xk, .int .i64 xg, .int .i64 xl, .slice xa xn xq] 28)).cell? ⟨ab, ao + 5, none⟩ = some (Value.int IntKind.i64 ag1) ∧ (w2.alloc (.cells #[.int .i64 xk, .int .i64 xg, .int .i64 xl, .slice xa xn xq] 28)).cell? ⟨ab, ao + 6, none⟩ = some (Value.int IntKind.i64 al1) ∧ (w2.alloc (.cells #[.int .i64 xk, .int .i64 xg, .int .i64 xl, .slice xa xn xq] 28)).cell? ⟨ab, ao + 7, none⟩ = some (Value.slice aa1 an1 aq1) ∧ (w2.alloc (.cells #[.int .i64 xk, .int .i64 xg, .int .i64 xl, .slice xa xn xq] 28)).cell? ⟨bb, boff, none⟩ = some (Value.int IntKind.i64 bk0) ∧ (w2.alloc (.cells #[.int .i64 xk, .int .i64 xg, .int .i64 xl, .slice xa xn xq] 28)).cell? ⟨bb, boff + 1, none⟩ = some (Value.int IntKind.i64 bg0) ∧ (w2.alloc (.cells #[.int .i64 xk, .int .i64 xg, .int .i64 xl, .slice xa xn xq] 28)).cell? ⟨bb, boff + 2, none⟩ = some (Value.int IntKind.i64 bl0) ∧ (w2.alloc (.cells #[.int .i64 xk, .int .i64 xg, .int .i64 xl, .slice xa xn xq] 28)).cell? ⟨bb, boff + 3, none⟩ = some (Value.slice ba0 bn0 bq0) ∧ (w2.alloc (.cells #[.int .i64 xk, .int .i64 xg, .int .i64 xl, .slice xa xn xq] 28)).cell? ⟨bb, boff + 4, none⟩ = some (Value.int IntKind.i64 bk1) ∧ (w2.alloc (.cells #[.int .i64 xk, .int .i64 xg, .int .i64 xl, .slice xa xn xq] 28)).cell? ⟨bb, boff + 5, none⟩ = some (Value.int IntKind.i64 bg1) ∧ (w2.alloc (.cells #[.int .i64 xk, .int .i64 xg, .int .i64 xl, .slice xa xn xq] 28)).cell? ⟨bb, boff + 6, none⟩ = some (Value.int IntKind.i64 bl1) ∧ (w2.alloc (.cells #[.int .i64 xk, .int .i64 xg, .int .i64 xl, .slice xa xn xq] 28)).cell? ⟨bb, boff + 7, none⟩ = some (Value.slice ba1 bn1 bq1)) ∧ (w2.alloc (.cells #[.int .i64 xk, .int .i64 xg, .int .i64 xl, .slice xa xn xq] 28)).heap[w.heap.size + 1 + 1]? = some (.cells #[.int .i64 0, .int .i64 0, .int .i64 0, .slice none 0 0] 28 (0, 0)) ∧ (w2.alloc (.cells #[.int .i64 xk, .int .i64 xg, .int .i64 xl, .slice xa xn xq] 28)).heap[w2.heap.size]? = some (.cells #[.int .i64 xk, .int .i64 xg, .int .i64 xl, .slice xa xn xq] 28 (0, 0)) ∧ CoRep (FB BB W.heap.size) (w2.alloc (.cells #[.int .i64 xk, .int .i64 xg, .int .i64 xl, .slice xa xn xq] 28)) cc2 (.agg #[.int .i64 xk, .int .i64 xg, .int .i64 xl, .slice xa xn xq]) ∧ Below w.heap.size w (w2.alloc (.cells #[.int .i64 xk, .int .i64 xg, .int .i64 xl, .slice xa xn xq] 28)) ∧ (w2.alloc (.cells #[.int .i64 xk, .int .i64 xg, .int .i64 xl, .slice xa xn xq] 28)).heap.size = w2.heap.size + 1 := ⟨⟨bcell bal1 aA0, bcell bal1 aA1, bcell bal1 aA2, bcell bal1 aA3, bcell bal1 aB0, bcell bal1 aB1, bcell bal1 aB2, bcell bal1 aB3, bcell bal1 ae0, bcell bal1 ae1, bcell bal1 ae2, bcell bal1 ae3, bcell bal1 ae4, bcell bal1 ae5, bcell bal1 ae6, bcell bal1 ae7, bcell bal1 be0, bcell bal1 be1, bcell bal1 be2, bcell bal1 be3, bcell bal1 be4, bcell bal1 be5, bcell bal1 be6, bcell bal1 be7⟩, blk_below hR bal1, blk_new rfl, (hv2.below bal1).fbn (by omega), bstep HBy.out bal1, by simp⟩
    clear aA0 aA1 aA2 aA3 aB0 aB1 aB2 aB3 ae0 ae1 ae2 ae3 ae4 ae5 ae6 ae7 be0 be1 be2 be3 be4 be5 be6 be7 hR hv2
    generalize (w2.alloc (.cells #[.int .i64 xk, .int .i64 xg, .int .i64 xl, .slice xa xn xq] 28)) = W2 at hV ⊢
    obtain ⟨⟨aA0, aA1, aA2, aA3, aB0, aB1, aB2, aB3, ae0, ae1, ae2, ae3, ae4, ae5, ae6, ae7, be0, be1, be2, be3, be4, be5, be6, be7⟩, hR, hX, hv2, hB2, hz3⟩ := hV
    have HX2 := Lib.hid hv2
    have HB2 := Lib.hid hB2
    have HOK1 := Lib.hid hok2
    have lX : W.heap.size ≤ w2.heap.size ∧ w2.heap.size < W2.heap.size ∧ W.heap.size ≤ W2.heap.size := by omega
    clear hB2 hok2 hv2 hz3
    have lW2 : w.heap.size < W2.heap.size ∧ w.heap.size + 1 < W2.heap.size ∧ w.heap.size + 1 + 1 < W2.heap.size ∧ ab < W2.heap.size ∧ bb < W2.heap.size := by omega
    go_cut [14, 15] (fun s t wx => CutCoR BB c2 ok2 W2 s t wx)
    case first =>
      have hS0 := Lib.hid (show W2.cell? ⟨w.heap.size, 3, none⟩ = some (Value.slice (some ⟨ab, ao, none⟩) an aq) ∧ W2.cell? ⟨w.heap.size + 1, 3, none⟩ = some (Value.slice (some ⟨bb, boff, none⟩) bn bq) ∧ W2.cell? ⟨ab, ao + 4, none⟩ = some (Value.int IntKind.i64 ak1) ∧ W2.cell? ⟨ab, ao + 5, none⟩ = some (Value.int IntKind.i64 ag1) ∧ W2.cell? ⟨ab, ao + 6, none⟩ = some (Value.int IntKind.i64 al1) ∧ W2.cell? ⟨ab, ao + 7, none⟩ = some (Value.slice aa1 an1 aq1) ∧ W2.cell? ⟨bb, boff + 4, none⟩ = some (Value.int IntKind.i64 bk1) ∧ W2.cell? ⟨bb, boff + 5, none⟩ = some (Value.int IntKind.i64 bg1) ∧ W2.cell? ⟨bb, boff + 6, none⟩ = some (Value.int IntKind.i64 bl1) ∧ W2.cell? ⟨bb, boff + 7, none⟩ = some (Value.slice ba1 bn1 bq1) from ⟨aA3, aB3, ae4, ae5, ae6, ae7, be4, be5, be6, be7⟩)
      have hSd := Lib.hid (show ∀ X : World, (X.cell? ⟨w.heap.size, 3, none⟩ = some (Value.slice (some ⟨ab, ao, none⟩) an aq) ∧ X.cell? ⟨w.heap.size + 1, 3, none⟩ = some (Value.slice (some ⟨bb, boff, none⟩) bn bq) ∧ X.cell? ⟨ab, ao + 4, none⟩ = some (Value.int IntKind.i64 ak1) ∧ X.cell? ⟨ab, ao + 5, none⟩ = some (Value.int IntKind.i64 ag1) ∧ X.cell? ⟨ab, ao + 6, none⟩ = some (Value.int IntKind.i64 al1) ∧ X.cell? ⟨ab, ao + 7, none⟩ = some (Value.slice aa1 an1 aq1) ∧ X.cell? ⟨bb, boff + 4, none⟩ = some (Value.int IntKind.i64 bk1) ∧ X.cell? ⟨bb, boff + 5, none⟩ = some (Value.int IntKind.i64 bg1) ∧ X.cell? ⟨bb, boff + 6, none⟩ = some (Value.int IntKind.i64 bl1) ∧ X.cell? ⟨bb, boff + 7, none⟩ = some (Value.slice ba1 bn1 bq1)) → ((World.drew X).cell? ⟨w.heap.size, 3, none⟩ = some (Value.slice (some ⟨ab, ao, none⟩) an aq) ∧ (World.drew X).cell? ⟨w.heap.size + 1, 3, none⟩ = some (Value.slice (some ⟨bb, boff, none⟩) bn bq) ∧ (World.drew X).cell? ⟨ab, ao + 4, none⟩ = some (Value.int IntKind.i64 ak1) ∧ (World.drew X).cell? ⟨ab, ao + 5, none⟩ = some (Value.int IntKind.i64 ag1) ∧ (World.drew X).cell? ⟨ab, ao + 6, none⟩ = some (Value.int IntKind.i64 al1) ∧ (World.drew X).cell? ⟨ab, ao + 7, none⟩ = some (Value.slice aa1 an1 aq1) ∧ (World.drew X).cell? ⟨bb, boff + 4, none⟩ = some (Value.int IntKind.i64 bk1) ∧ (World.drew X).cell? ⟨bb, boff + 5, none⟩ = some (Value.int IntKind.i64 bg1) ∧ (World.drew X).cell? ⟨bb, boff + 6, none⟩ = some (Value.int IntKind.i64 bl1) ∧ (World.drew X).cell? ⟨bb, boff + 7, none⟩ = some (Value.slice ba1 bn1 bq1)) from fun X s => ⟨dcell s.1, dcell s.2.1, dcell s.2.2.1, dcell s.2.2.2.1, dcell s.2.2.2.2.1, dcell s.2.2.2.2.2.1, dcell s.2.2.2.2.2.2.1, dcell s.2.2.2.2.2.2.2.1, dcell s.2.2.2.2.2.2.2.2.1, dcell s.2.2.2.2.2.2.2.2.2⟩)
      have hSb := Lib.hid (show ∀ X Y : World, Below X.heap.size X Y → (X.cell? ⟨w.heap.size, 3, none⟩ = some (Value.slice (some ⟨ab, ao, none⟩) an aq) ∧ X.cell? ⟨w.heap.size + 1, 3, none⟩ = some (Value.slice (some ⟨bb, boff, none⟩) bn bq) ∧ X.cell? ⟨ab, ao + 4, none⟩ = some (Value.int IntKind.i64 ak1) ∧ X.cell? ⟨ab, ao + 5, none⟩ = some (Value.int IntKind.i64 ag1) ∧ X.cell? ⟨ab, ao + 6, none⟩ = some (Value.int IntKind.i64 al1) ∧ X.cell? ⟨ab, ao + 7, none⟩ = some (Value.slice aa1 an1 aq1) ∧ X.cell? ⟨bb, boff + 4, none⟩ = some (Value.int IntKind.i64 bk1) ∧ X.cell? ⟨bb, boff + 5, none⟩ = some (Value.int IntKind.i64 bg1) ∧ X.cell? ⟨bb, boff + 6, none⟩ = some (Value.int IntKind.i64 bl1) ∧ X.cell? ⟨bb, boff + 7, none⟩ = some (Value.slice ba1 bn1 bq1)) → (Y.cell? ⟨w.heap.size, 3, none⟩ = some (Value.slice (some ⟨ab, ao, none⟩) an aq) ∧ Y.cell? ⟨w.heap.size + 1, 3, none⟩ = some (Value.slice (some ⟨bb, boff, none⟩) bn bq) ∧ Y.cell? ⟨ab, ao + 4, none⟩ = some (Value.int IntKind.i64 ak1) ∧ Y.cell? ⟨ab, ao + 5, none⟩ = some (Value.int IntKind.i64 ag1) ∧ Y.cell? ⟨ab, ao + 6, none⟩ = some (Value.int IntKind.i64 al1) ∧ Y.cell? ⟨ab, ao + 7, none⟩ = some (Value.slice aa1 an1 aq1) ∧ Y.cell? ⟨bb, boff + 4, none⟩ = some (Value.int IntKind.i64 bk1) ∧ Y.cell? ⟨bb, boff + 5, none⟩ = some (Value.int IntKind.i64 bg1) ∧ Y.cell? ⟨bb, boff + 6, none⟩ = some (Value.int IntKind.i64 bl1) ∧ Y.cell? ⟨bb, boff + 7, none⟩ = some (Value.slice ba1 bn1 bq1)) from fun X Y h s => ⟨bcell h s.1, bcell h s.2.1, bcell h s.2.2.1, bcell h s.2.2.2.1, bcell h s.2.2.2.2.1, bcell h s.2.2.2.2.2.1, bcell h s.2.2.2.2.2.2.1, bcell h s.2.2.2.2.2.2.2.1, bcell h s.2.2.2.2.2.2.2.2.1, bcell h s.2.2.2.2.2.2.2.2.2⟩)
      have hSs := Lib.hid (show ∀ (X : World) (g o : Nat) (v : Value), W2.heap.size ≤ g → (X.cell? ⟨w.heap.size, 3, none⟩ = some (Value.slice (some ⟨ab, ao, none⟩) an aq) ∧ X.cell? ⟨w.heap.size + 1, 3, none⟩ = some (Value.slice (some ⟨bb, boff, none⟩) bn bq) ∧ X.cell? ⟨ab, ao + 4, none⟩ = some (Value.int IntKind.i64 ak1) ∧ X.cell? ⟨ab, ao + 5, none⟩ = some (Value.int IntKind.i64 ag1) ∧ X.cell? ⟨ab, ao + 6, none⟩ = some (Value.int IntKind.i64 al1) ∧ X.cell? ⟨ab, ao + 7, none⟩ = some (Value.slice aa1 an1 aq1) ∧ X.cell? ⟨bb, boff + 4, none⟩ = some (Value.int IntKind.i64 bk1) ∧ X.cell? ⟨bb, boff + 5, none⟩ = some (Value.int IntKind.i64 bg1) ∧ X.cell? ⟨bb, boff + 6, none⟩ = some (Value.int IntKind.i64 bl1) ∧ X.cell? ⟨bb, boff + 7, none⟩ = some (Value.slice ba1 bn1 bq1)) → ((World.setCell X ⟨g, o, none⟩ v).cell? ⟨w.heap.size, 3, none⟩ = some (Value.slice (some ⟨ab, ao, none⟩) an aq) ∧ (World.setCell X ⟨g, o, none⟩ v).cell? ⟨w.heap.size + 1, 3, none⟩ = some (Value.slice (some ⟨bb, boff, none⟩) bn bq) ∧ (World.setCell X ⟨g, o, none⟩ v).cell? ⟨ab, ao + 4, none⟩ = some (Value.int IntKind.i64 ak1) ∧ (World.setCell X ⟨g, o, none⟩ v).cell? ⟨ab, ao + 5, none⟩ = some (Value.int IntKind.i64 ag1) ∧ (World.setCell X ⟨g, o, none⟩ v).cell? ⟨ab, ao + 6, none⟩ = some (Value.int IntKind.i64 al1) ∧ (World.setCell X ⟨g, o, none⟩ v).cell? ⟨ab, ao + 7, none⟩ = some (Value.slice aa1 an1 aq1) ∧ (World.setCell X ⟨g, o, none⟩ v).cell? ⟨bb, boff + 4, none⟩ = some (Value.int IntKind.i64 bk1) ∧ (World.setCell X ⟨g, o, none⟩ v).cell? ⟨bb, boff + 5, none⟩ = some (Value.int IntKind.i64 bg1) ∧ (World.setCell X ⟨g, o, none⟩ v).cell? ⟨bb, boff + 6, none⟩ = some (Value.int IntKind.i64 bl1) ∧ (World.setCell X ⟨g, o, none⟩ v).cell? ⟨bb, boff + 7, none⟩ = some (Value.slice ba1 bn1 bq1)) from fun X g o v hg s => ⟨sc_blk s.1 (by show w.heap.size ≠ g; omega), sc_blk s.2.1 (by show w.heap.size + 1 ≠ g; omega), sc_blk s.2.2.1 (by show ab ≠ g; omega), sc_blk s.2.2.2.1 (by show ab ≠ g; omega), sc_blk s.2.2.2.2.1 (by show ab ≠ g; omega), sc_blk s.2.2.2.2.2.1 (by show ab ≠ g; omega), sc_blk s.2.2.2.2.2.2.1 (by show bb ≠ g; omega), sc_blk s.2.2.2.2.2.2.2.1 (by show bb ≠ g; omega), sc_blk s.2.2.2.2.2.2.2.2.1 (by show bb ≠ g; omega), sc_blk s.2.2.2.2.2.2.2.2.2 (by show bb ≠ g; omega)⟩)
      go_region_held3 (fun w' => w'.cell? ⟨w.heap.size, 3, none⟩ = some (Value.slice (some ⟨ab, ao, none⟩) an aq) ∧ w'.cell? ⟨w.heap.size + 1, 3, none⟩ = some (Value.slice (some ⟨bb, boff, none⟩) bn bq) ∧ w'.cell? ⟨ab, ao + 4, none⟩ = some (Value.int IntKind.i64 ak1) ∧ w'.cell? ⟨ab, ao + 5, none⟩ = some (Value.int IntKind.i64 ag1) ∧ w'.cell? ⟨ab, ao + 6, none⟩ = some (Value.int IntKind.i64 al1) ∧ w'.cell? ⟨ab, ao + 7, none⟩ = some (Value.slice aa1 an1 aq1) ∧ w'.cell? ⟨bb, boff + 4, none⟩ = some (Value.int IntKind.i64 bk1) ∧ w'.cell? ⟨bb, boff + 5, none⟩ = some (Value.int IntKind.i64 bg1) ∧ w'.cell? ⟨bb, boff + 6, none⟩ = some (Value.int IntKind.i64 bl1) ∧ w'.cell? ⟨bb, boff + 7, none⟩ = some (Value.slice ba1 bn1 bq1))
        (repeat (first | with_reducible exact hS0.out | with_reducible refine hSs.out _ _ _ _ (by omega) ?_ | with_reducible refine hSb.out _ _ hb1 ?_ | with_reducible refine hSb.out _ _ bal1 ?_ | with_reducible refine hSd.out _ ?_))
        (first | (go_at_call 24; ((with_reducible refine (HR2.out _ (by first | exact (bstep HB2.out bdr) | exact (bstep HB2.out bal1.drew) | exact (bstep HB2.out (bstep bdr bal1)))).mono ?_); rintro e w1 ⟨v1, cc1, rfl, hv1, hok1, hb1⟩; obtain ⟨kr1, gr1, lr1, ar1, nr1, qr1, rfl⟩ := hv1.shape; have zs1 := hb1.size; (try simp at zs1); (first | (have GB : w1.heap[W2.heap.size]? = some (.cells #[.int .i64 0, .int .i64 0, .int .i64 0, .slice none 0 0] 28 (0, 0)) := blk_below (x := .cells #[.int .i64 0, .int .i64 0, .int .i64 0, .slice none 0 0] 28 (0, 0)) (show (World.drew _).heap[W2.heap.size]? = _ from blk_new rfl) hb1; have G0 := blk_cell GB (o := 0) rfl; have GF0 := blk_fro GB 0; have G1 := blk_cell GB (o := 1) rfl; have GF1 := blk_fro GB 1; have G2 := blk_cell GB (o := 2) rfl; have GF2 := blk_fro GB 2; have G3 := blk_cell GB (o := 3) rfl; have GF3 := blk_fro GB 3) | skip))))
      all_goals (go_wp2_with fail; go_meet; first | exact CutCoR_late (by first | exact bstep bdr hb1 | exact bstep bal1.drew hb1) (by first | exact Nat.le_refl _ | (simp; done) | (simp; omega)) hv1 hok1 | exact CutCoR_early (by first | exact bstep bdr hb1 | exact bstep bal1.drew hb1) GB (by omega) (by first | exact Nat.le_refl _ | (simp; done) | (simp; omega)) (by first | (simp; done) | (simp; omega)) hv1 hok1)
    case rest =>
      obtain ⟨d, dk, dg, dl, da, dn, dq, cc3, rfl, rfl, hd, hD, hrep, hok, hb⟩ := hcut
      clear aB0 aB1 aB2 aB3 ae0 ae1 ae2 ae3 ae4 ae5 ae6 ae7 be0 be1 be2 be3 be4 be5 be6 be7
      replace aA0 := bcell hb aA0
      replace aA1 := bcell hb aA1
      replace aA2 := bcell hb aA2
      replace aA3 := bcell hb aA3
      replace hR := blk_below hR hb
      replace hX := blk_below hX hb
      have lz3 := hb.size
      have HB3 := Lib.hid (bstep HB2.out hb)
      have hx3 := HX2.out.below hb
      have HX3 := Lib.hid hx3
      have HY3 := Lib.hid (hrep.fbn (m := W.heap.size) (by omega))
      have HOK2 := Lib.hid hok
      clear hb hrep hok hx3
      have x0 : wc.cell? ⟨w2.heap.size, 0, none⟩ = some (.int .i64 xk) := blk_cell hX rfl
      have x1 : wc.cell? ⟨w2.heap.size, 1, none⟩ = some (.int .i64 xg) := blk_cell hX rfl
      have x2 : wc.cell? ⟨w2.heap.size, 2, none⟩ = some (.int .i64 xl) := blk_cell hX rfl
      have x3 : wc.cell? ⟨w2.heap.size, 3, none⟩ = some (.slice xa xn xq) := blk_cell hX rfl
      have y0 : wc.cell? ⟨d, 0, none⟩ = some (.int .i64 dk) := blk_cell hD rfl
      have y1 : wc.cell? ⟨d, 1, none⟩ = some (.int .i64 dg) := blk_cell hD rfl
      have y2 : wc.cell? ⟨d, 2, none⟩ = some (.int .i64 dl) := blk_cell hD rfl
      have y3 : wc.cell? ⟨d, 3, none⟩ = some (.slice da dn dq) := blk_cell hD rfl
      have lD := blk_lt hD
      have lX3 := blk_lt hX
      have lA := World.block_lt_of_cell? _ _ aA0
      clear hX hD
      cases ok1
      · go_wp2_with fail
        refine (implCoWith _ _ _ _ _ _ _ _ _ _ _).mono ?_
        rintro e w5 ⟨rfl, hb5⟩
        replace hR := blk_below (blk_below hR (bal1 (o := .cells #[.int .i64 xk, .int .i64 xg, .int .i64 xl, .slice xa xn xq, .int .i64 dk, .int .i64 dg, .int .i64 dl, .slice da dn dq] 28))) hb5
        have r0 : w5.cell? ⟨w.heap.size + 1 + 1, 0, none⟩ = some (.int .i64 0) := blk_cell hR rfl
        have r1 : w5.cell? ⟨w.heap.size + 1 + 1, 1, none⟩ = some (.int .i64 0) := blk_cell hR rfl
        have r2 : w5.cell? ⟨w.heap.size + 1 + 1, 2, none⟩ = some (.int .i64 0) := blk_cell hR rfl
        have r3 : w5.cell? ⟨w.heap.size + 1 + 1, 3, none⟩ = some (.slice none 0 0) := blk_cell hR rfl
        have rf0 : w5.frozen? ⟨w.heap.size + 1 + 1, 0, none⟩ = false := blk_fro hR 0
        have rf1 : w5.frozen? ⟨w.heap.size + 1 + 1, 1, none⟩ = false := blk_fro hR 1
        have rf2 : w5.frozen? ⟨w.heap.size + 1 + 1, 2, none⟩ = false := blk_fro hR 2
        have rf3 : w5.frozen? ⟨w.heap.size + 1 + 1, 3, none⟩ = false := blk_fro hR 3
        have hE : w5.heap[wc.heap.size]? = some (.cells #[.int .i64 xk, .int .i64 xg, .int .i64 xl, .slice xa xn xq, .int .i64 dk, .int .i64 dg, .int .i64 dl, .slice da dn dq] 28 (0, 0)) := blk_below (blk_new rfl) hb5
        have h5 : CoRep (FB BB W.heap.size) w5 (.mk 3 0 al [cc2, cc3]) (.agg #[.int .i64 3, .int .i64 0, .int .i64 al, .slice (some ⟨wc.heap.size, 0, none⟩) 2 2]) := (CosRep.twoR ((HX3.out.below bal1).below hb5) ((HY3.out.below bal1).below hb5) (.inr (by omega)) hE).coR
        have H5 := Lib.hid h5
        have HB5 := Lib.hid (bstep HB3.out (bstep bal1 hb5))
        have lR := blk_lt hR
        clear hb5 hE h5 aA0 aA1 aA2 aA3
        go_wp2_with fail
        replace hR : (w5.setCell ⟨w.heap.size + 1 + 1, 0, none⟩ (.int .i64 3)).heap[w.heap.size + 1 + 1]? = some (.cells #[.int .i64 3, .int .i64 0, .int .i64 0, .slice none 0 0] 28 (0, 0)) := blk_set hR rfl
        replace hR : ((w5.setCell ⟨w.heap.size + 1 + 1, 0, none⟩ (.int .i64 3)).setCell ⟨w.heap.size + 1 + 1, 1, none⟩ (.int .i64 0)).heap[w.heap.size + 1 + 1]? = some (.cells #[.int .i64 3, .int .i64 0, .int .i64 0, .slice none 0 0] 28 (0, 0)) := blk_set hR rfl
        replace hR : (((w5.setCell ⟨w.heap.size + 1 + 1, 0, none⟩ (.int .i64 3)).setCell ⟨w.heap.size + 1 + 1, 1, none⟩ (.int .i64 0)).setCell ⟨w.heap.size + 1 + 1, 2, none⟩ (.int .i64 al)).heap[w.heap.size + 1 + 1]? = some (.cells #[.int .i64 3, .int .i64 0, .int .i64 al, .slice none 0 0] 28 (0, 0)) := blk_set hR rfl
        replace hR : ((((w5.setCell ⟨w.heap.size + 1 + 1, 0, none⟩ (.int .i64 3)).setCell ⟨w.heap.size + 1 + 1, 1, none⟩ (.int .i64 0)).setCell ⟨w.heap.size + 1 + 1, 2, none⟩ (.int .i64 al)).setCell ⟨w.heap.size + 1 + 1, 3, none⟩ (.slice (some ⟨wc.heap.size, 0, none⟩) 2 2)).heap[w.heap.size + 1 + 1]? = some (.cells #[.int .i64 3, .int .i64 0, .int .i64 al, .slice (some ⟨wc.heap.size, 0, none⟩) 2 2] 28 (0, 0)) := blk_set hR rfl
        have rc0 := blk_cell hR (o := 0) rfl
        have rc1 := blk_cell hR (o := 1) rfl
        have rc2 := blk_cell hR (o := 2) rfl
        have rc3 := blk_cell hR (o := 3) rfl
        refine bodyPost_ret (v := .tuple #[.agg #[.int .i64 3, .int .i64 0, .int .i64 al, .slice (some ⟨wc.heap.size, 0, none⟩) 2 2], .bool false]) (by simp [results, Try.results24, go_sem, rc0, rc1, rc2, rc3]) rfl ?_
        exact ⟨_, _, rfl, CoRep.fbn ((((H5.out.setO (p := ⟨w.heap.size + 1 + 1, 0, none⟩) (fb_not (by show BB ≤ w.heap.size + 1 + 1; omega) (by show w.heap.size + 1 + 1 < W.heap.size; omega)) _).setO (p := ⟨w.heap.size + 1 + 1, 1, none⟩) (fb_not (by show BB ≤ w.heap.size + 1 + 1; omega) (by show w.heap.size + 1 + 1 < W.heap.size; omega)) _).setO (p := ⟨w.heap.size + 1 + 1, 2, none⟩) (fb_not (by show BB ≤ w.heap.size + 1 + 1; omega) (by show w.heap.size + 1 + 1 < W.heap.size; omega)) _).setO (p := ⟨w.heap.size + 1 + 1, 3, none⟩) (fb_not (by show BB ≤ w.heap.size + 1 + 1; omega) (by show w.heap.size + 1 + 1 < W.heap.size; omega)) _) (by omega), fun h => Bool.noConfusion h, ((((HB5.out.setCell (p := ⟨w.heap.size + 1 + 1, 0, none⟩) (by show w.heap.size ≤ w.heap.size + 1 + 1; omega) _).setCell (p := ⟨w.heap.size + 1 + 1, 1, none⟩) (by show w.heap.size ≤ w.heap.size + 1 + 1; omega) _).setCell (p := ⟨w.heap.size + 1 + 1, 2, none⟩) (by show w.heap.size ≤ w.heap.size + 1 + 1; omega) _).setCell (p := ⟨w.heap.size + 1 + 1, 3, none⟩) (by show w.heap.size ≤ w.heap.size + 1 + 1; omega) _)⟩
      · go_wp2_with fail
        refine (implCoWith _ _ _ _ _ _ _ _ _ _ _).mono ?_
        rintro e w5 ⟨rfl, hb5⟩
        replace hR := blk_below (blk_below hR (bal1 (o := .cells #[.int .i64 xk, .int .i64 xg, .int .i64 xl, .slice xa xn xq, .int .i64 dk, .int .i64 dg, .int .i64 dl, .slice da dn dq] 28))) hb5
        have r0 : w5.cell? ⟨w.heap.size + 1 + 1, 0, none⟩ = some (.int .i64 0) := blk_cell hR rfl
        have r1 : w5.cell? ⟨w.heap.size + 1 + 1, 1, none⟩ = some (.int .i64 0) := blk_cell hR rfl
        have r2 : w5.cell? ⟨w.heap.size + 1 + 1, 2, none⟩ = some (.int .i64 0) := blk_cell hR rfl
        have r3 : w5.cell? ⟨w.heap.size + 1 + 1, 3, none⟩ = some (.slice none 0 0) := blk_cell hR rfl
        have rf0 : w5.frozen? ⟨w.heap.size + 1 + 1, 0, none⟩ = false := blk_fro hR 0
        have rf1 : w5.frozen? ⟨w.heap.size + 1 + 1, 1, none⟩ = false := blk_fro hR 1
        have rf2 : w5.frozen? ⟨w.heap.size + 1 + 1, 2, none⟩ = false := blk_fro hR 2
        have rf3 : w5.frozen? ⟨w.heap.size + 1 + 1, 3, none⟩ = false := blk_fro hR 3
        have hE : w5.heap[wc.heap.size]? = some (.cells #[.int .i64 xk, .int .i64 xg, .int .i64 xl, .slice xa xn xq, .int .i64 dk, .int .i64 dg, .int .i64 dl, .slice da dn dq] 28 (0, 0)) := blk_below (blk_new rfl) hb5
        have h5 : CoRep (FB BB W.heap.size) w5 (.mk 3 0 al [cc2, cc3]) (.agg #[.int .i64 3, .int .i64 0, .int .i64 al, .slice (some ⟨wc.heap.size, 0, none⟩) 2 2]) := (CosRep.twoR ((HX3.out.below bal1).below hb5) ((HY3.out.below bal1).below hb5) (.inr (by omega)) hE).coR
        have H5 := Lib.hid h5
        have HB5 := Lib.hid (bstep HB3.out (bstep bal1 hb5))
        have lR := blk_lt hR
        clear hb5 hE h5 aA0 aA1 aA2 aA3
        go_wp2_with fail
        replace hR : (w5.setCell ⟨w.heap.size + 1 + 1, 0, none⟩ (.int .i64 3)).heap[w.heap.size + 1 + 1]? = some (.cells #[.int .i64 3, .int .i64 0, .int .i64 0, .slice none 0 0] 28 (0, 0)) := blk_set hR rfl
        replace hR : ((w5.setCell ⟨w.heap.size + 1 + 1, 0, none⟩ (.int .i64 3)).setCell ⟨w.heap.size + 1 + 1, 1, none⟩ (.int .i64 0)).heap[w.heap.size + 1 + 1]? = some (.cells #[.int .i64 3, .int .i64 0, .int .i64 0, .slice none 0 0] 28 (0, 0)) := blk_set hR rfl
        replace hR : (((w5.setCell ⟨w.heap.size + 1 + 1, 0, none⟩ (.int .i64 3)).setCell ⟨w.heap.size + 1 + 1, 1, none⟩ (.int .i64 0)).setCell ⟨w.heap.size + 1 + 1, 2, none⟩ (.int .i64 al)).heap[w.heap.size + 1 + 1]? = some (.cells #[.int .i64 3, .int .i64 0, .int .i64 al, .slice none 0 0] 28 (0, 0)) := blk_set hR rfl
        replace hR : ((((w5.setCell ⟨w.heap.size + 1 + 1, 0, none⟩ (.int .i64 3)).setCell ⟨w.heap.size + 1 + 1, 1, none⟩ (.int .i64 0)).setCell ⟨w.heap.size + 1 + 1, 2, none⟩ (.int .i64 al)).setCell ⟨w.heap.size + 1 + 1, 3, none⟩ (.slice (some ⟨wc.heap.size, 0, none⟩) 2 2)).heap[w.heap.size + 1 + 1]? = some (.cells #[.int .i64 3, .int .i64 0, .int .i64 al, .slice (some ⟨wc.heap.size, 0, none⟩) 2 2] 28 (0, 0)) := blk_set hR rfl
        have rc0 := blk_cell hR (o := 0) rfl
        have rc1 := blk_cell hR (o := 1) rfl
        have rc2 := blk_cell hR (o := 2) rfl
        have rc3 := blk_cell hR (o := 3) rfl
        refine bodyPost_ret (v := .tuple #[.agg #[.int .i64 3, .int .i64 0, .int .i64 al, .slice (some ⟨wc.heap.size, 0, none⟩) 2 2], .bool ok2]) (by simp [results, Try.results24, go_sem, rc0, rc1, rc2, rc3]) rfl ?_
        exact ⟨_, _, rfl, CoRep.fbn ((((H5.out.setO (p := ⟨w.heap.size + 1 + 1, 0, none⟩) (fb_not (by show BB ≤ w.heap.size + 1 + 1; omega) (by show w.heap.size + 1 + 1 < W.heap.size; omega)) _).setO (p := ⟨w.heap.size + 1 + 1, 1, none⟩) (fb_not (by show BB ≤ w.heap.size + 1 + 1; omega) (by show w.heap.size + 1 + 1 < W.heap.size; omega)) _).setO (p := ⟨w.heap.size + 1 + 1, 2, none⟩) (fb_not (by show BB ≤ w.heap.size + 1 + 1; omega) (by show w.heap.size + 1 + 1 < W.heap.size; omega)) _).setO (p := ⟨w.heap.size + 1 + 1, 3, none⟩) (fb_not (by show BB ≤ w.heap.size + 1 + 1; omega) (by show w.heap.size + 1 + 1 < W.heap.size; omega)) _) (by omega), fun h => by have k1 := HOK1.out (by first | exact rfl | trivial | simp); have k2 := HOK2.out (by first | exact h | trivial | simpa using h); rw [k1, k2], ((((HB5.out.setCell (p := ⟨w.heap.size + 1 + 1, 0, none⟩) (by show w.heap.size ≤ w.heap.size + 1 + 1; omega) _).setCell (p := ⟨w.heap.size + 1 + 1, 1, none⟩) (by show w.heap.size ≤ w.heap.size + 1 + 1; omega) _).setCell (p := ⟨w.heap.size + 1 + 1, 2, none⟩) (by show w.heap.size ≤ w.heap.size + 1 + 1; omega) _).setCell (p := ⟨w.heap.size + 1 + 1, 3, none⟩) (by show w.heap.size ≤ w.heap.size + 1 + 1; omega) _)⟩
end Go.Proofs.Ythhdjacdalehoaa
