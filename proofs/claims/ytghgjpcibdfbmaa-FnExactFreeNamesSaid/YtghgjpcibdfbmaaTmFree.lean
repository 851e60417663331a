/-
  FreeNames of both sides.
-/
import Derived.Test.YtghgjpcibdfbmaaTmFreeI
import Derived.Test.YtghgjpcibdfbmaaK5
import Derived.Test.YtghgjpcibdfbmaaK5
namespace Go.Proofs.Ytghgjpcibdfbmaa
open Go.RowKit
set_option linter.unusedVariables false
set_option linter.unusedSimpArgs false
set_option maxRecDepth 100000

def Tm.freeS (t : Tm) : ByteArray := if t.valid then bs (encL fun c => t.fr (fun _ => false) c) else { data := #[] }
theorem implFreeNames (F : Nat → Prop) (t : Tm) (y : Value) (w : World) (hy : TmRep F w t y) :
    Calls Try.prog 46 #[y] w fun e w' => e = .returned (.string t.freeS) ∧ Below w.heap.size w w' := by
  have hv := fun W (h : Below w.heap.size w W) => implTermValid F t y W (hy.below h)
  have hf := fun (hok : t.valid = true) W (h : Below w.heap.size w W) => implFreeNames0 F t y W (hy.below h) (Tm.valid_shape hok)
  obtain ⟨k, nm, u, tk, ta, tn, tq, fk, fa, fn, fq, l, c, m, q, rfl⟩ := hy.shape
  unfold Tm.freeS
  generalize bs (encL fun c => t.fr (fun _ => false) c) = S at *
  generalize t.valid = va at *
  have HV := Lib.hid hv
  have HF := Lib.hid hf
  clear hv hf hy
  cases va
  · simp only [Bool.false_eq_true, if_false]
    go_enter Try.func46, Try.ntmps46
    go_wp2_with fail
    refine (HV.out _ bal1).mono ?_
    rintro e w1 ⟨rfl, hb1⟩
    go_wp2_with fail
    go_ret
    exact ⟨rfl, bstep bal1 hb1⟩
  · simp only [if_true]
    go_enter Try.func46, Try.ntmps46
    go_wp2_with fail
    refine (HV.out _ bal1).mono ?_
    rintro e w1 ⟨rfl, hb1⟩
    have g0 : w1.cell? ⟨w.heap.size, 0, none⟩ = some (.int .i64 k) := bcell hb1 (cell_n0 0)
    have g1 : w1.cell? ⟨w.heap.size, 1, none⟩ = some (.string nm) := bcell hb1 (cell_n0 1)
    have g2 : w1.cell? ⟨w.heap.size, 2, none⟩ = some (.int .i64 u) := bcell hb1 (cell_n0 2)
    have g3 : w1.cell? ⟨w.heap.size, 3, none⟩ = some (.int .i64 tk) := bcell hb1 (cell_n0 3)
    have g4 : w1.cell? ⟨w.heap.size, 4, none⟩ = some (.slice ta tn tq) := bcell hb1 (cell_n0 4)
    have g5 : w1.cell? ⟨w.heap.size, 5, none⟩ = some (.int .i64 fk) := bcell hb1 (cell_n0 5)
    have g6 : w1.cell? ⟨w.heap.size, 6, none⟩ = some (.slice fa fn fq) := bcell hb1 (cell_n0 6)
    have g7 : w1.cell? ⟨w.heap.size, 7, none⟩ = some (.int .i64 l) := bcell hb1 (cell_n0 7)
    have g8 : w1.cell? ⟨w.heap.size, 8, none⟩ = some (.slice c m q) := bcell hb1 (cell_n0 8)
    have lg := World.block_lt_of_cell? _ _ g0
    go_wp2_with fail
    refine (HF.out (by simp) _ (bstep bal1 hb1)).mono ?_
    rintro e w2 ⟨rfl, hb2⟩
    go_wp2_with fail
    go_ret
    exact ⟨rfl, bstep (bstep bal1 hb1) hb2⟩
theorem specFreeNames (F : Nat → Prop) (t : Tm) (y : Value) (w : World) (hy : TmRep F w t y) :
    Calls Try.prog 45 #[y] w fun e w' => e = .returned (.string t.freeS) ∧ Below w.heap.size w w' := by
  have hv := fun W (h : Below w.heap.size w W) => specTermValid F t y W (hy.below h)
  have hf := fun (hok : t.valid = true) W (h : Below w.heap.size w W) => specL2Free F t 12 (fun _ => false) (fun _ => false) y W (hy.below h) (Tm.valid_shape hok)
  have he : bs (encL fun _ => false) = { data := #[] } := rfl
  have he2 : (fun c => (false || t.fr (fun _ => false) c)) = fun c => t.fr (fun _ => false) c := by funext c; rfl
  rw [he] at hf
  simp only [he2] at hf
  obtain ⟨k, nm, u, tk, ta, tn, tq, fk, fa, fn, fq, l, c, m, q, rfl⟩ := hy.shape
  unfold Tm.freeS
  generalize bs (encL fun c => t.fr (fun _ => false) c) = S at *
  generalize t.valid = va at *
  have HV := Lib.hid hv
  have HF := Lib.hid hf
  clear hv hf hy he he2
  cases va
  · simp only [Bool.false_eq_true, if_false]
    go_enter Try.func45, Try.ntmps45
    go_wp2_with fail
    refine (HV.out _ bal1).mono ?_
    rintro e w1 ⟨rfl, hb1⟩
    go_wp2_with fail
    go_ret
    exact ⟨rfl, bstep bal1 hb1⟩
  · simp only [if_true]
    go_enter Try.func45, Try.ntmps45
    go_wp2_with fail
    refine (HV.out _ bal1).mono ?_
    rintro e w1 ⟨rfl, hb1⟩
    have g0 : w1.cell? ⟨w.heap.size, 0, none⟩ = some (.int .i64 k) := bcell hb1 (cell_n0 0)
    have g1 : w1.cell? ⟨w.heap.size, 1, none⟩ = some (.string nm) := bcell hb1 (cell_n0 1)
    have g2 : w1.cell? ⟨w.heap.size, 2, none⟩ = some (.int .i64 u) := bcell hb1 (cell_n0 2)
    have g3 : w1.cell? ⟨w.heap.size, 3, none⟩ = some (.int .i64 tk) := bcell hb1 (cell_n0 3)
    have g4 : w1.cell? ⟨w.heap.size, 4, none⟩ = some (.slice ta tn tq) := bcell hb1 (cell_n0 4)
    have g5 : w1.cell? ⟨w.heap.size, 5, none⟩ = some (.int .i64 fk) := bcell hb1 (cell_n0 5)
    have g6 : w1.cell? ⟨w.heap.size, 6, none⟩ = some (.slice fa fn fq) := bcell hb1 (cell_n0 6)
    have g7 : w1.cell? ⟨w.heap.size, 7, none⟩ = some (.int .i64 l) := bcell hb1 (cell_n0 7)
    have g8 : w1.cell? ⟨w.heap.size, 8, none⟩ = some (.slice c m q) := bcell hb1 (cell_n0 8)
    have lg := World.block_lt_of_cell? _ _ g0
    go_wp2_with fail
    refine (HF.out (by simp) _ (bstep bal1 hb1)).mono ?_
    rintro e w2 ⟨rfl, hb2⟩
    go_wp2_with fail
    go_ret
    exact ⟨rfl, bstep (bstep bal1 hb1) hb2⟩
end Go.Proofs.Ytghgjpcibdfbmaa
