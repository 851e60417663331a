/-
  TermTypes of the reference: a row of one's own that may grow.
-/
import Derived.Test.YtpckgpndaligbaaB33
namespace Go.Proofs.Ytpckgpndaligbaa
open Go.RowKit
set_option linter.unusedVariables false
set_option linter.unusedSimpArgs false
set_option maxRecDepth 100000

/-- A list of types in a row of one's own, from block B on. -/
def RetTysA (ts : List Ty) (w : World) (e : Ending) (w' : World) : Prop := ∃ (v : Value) (B : Nat), e = .returned v ∧ w.heap.size ≤ B ∧ B ≤ w'.heap.size ∧ RowL B 25 2 w' v ts.length (Ty.rows ts) ∧ Below w.heap.size w w'
set_option maxHeartbeats 4000000 in
theorem specTermTypesA (F : Nat → Prop) (t : Tm) (y : Value) (w : World) (hy : TmRep F w t y) :
    Calls Try.prog 14 #[y] w (RetTysA t.types w) := by
  have hv := fun W (h : Below w.heap.size w W) => specTermValid F t y W (hy.below h)
  have hyB : TmRep (· < w.heap.size) w t y := hy.move (.weaken fun _ _ h => h)
  have hT := fun (hok : t.valid = true) (B : Nat) (hB : w.heap.size ≤ B) W (h : Below w.heap.size w W) (hBW : B ≤ W.heap.size) v (ha : AccNew B 25 2 W v 0 (Ty.rows [])) =>
    specL2Types (· < w.heap.size) B (fun b hb => by omega) t (Tm.tys_ok hok).2 [] 0 rfl (by have := (Tm.tys_ok hok).1; omega) v y W (hyB.below h) hBW ha
  simp only [List.nil_append, Nat.zero_add] at hT
  unfold Tm.types
  obtain ⟨k, nm, u, tk, ta, tn, tq, fk, fa, fn, fq, l, c, m, q, rfl⟩ := hy.shape
  generalize t.tys = us at *
  generalize t.valid = v at *
  have HV := Lib.hid hv
  have HT := Lib.hid hT
  clear hv hT hy hyB
  cases v
  · go_enter Try.func14, Try.ntmps14
    go_wp2_with fail
    refine (HV.out _ bal1).mono ?_
    rintro e w1 ⟨rfl, hb1⟩
    go_wp2_with fail
    go_ret
    have hbz := hb1.size
    simp only [World.size_alloc] at hbz
    exact ⟨_, w1.heap.size, rfl, by omega, by simp, by rw [Ty.rows]; exact (AccNew.empty (Nat.le_refl _) (heap_alloc_new w1 _)).rowL, bstep (bstep bal1 hb1) bal1⟩
  · go_enter Try.func14, Try.ntmps14
    go_wp2_with fail
    refine (HV.out _ bal1).mono ?_
    rintro e w1 ⟨rfl, hb1⟩
    have c0 : w1.cell? ⟨w.heap.size, 0, none⟩ = some (.int .i64 k) := bcell hb1 (cell_n0 0)
    have c1 : w1.cell? ⟨w.heap.size, 1, none⟩ = some (.string nm) := bcell hb1 (cell_n0 1)
    have c2 : w1.cell? ⟨w.heap.size, 2, none⟩ = some (.int .i64 u) := bcell hb1 (cell_n0 2)
    have c3 : w1.cell? ⟨w.heap.size, 3, none⟩ = some (.int .i64 tk) := bcell hb1 (cell_n0 3)
    have c4 : w1.cell? ⟨w.heap.size, 4, none⟩ = some (.slice ta tn tq) := bcell hb1 (cell_n0 4)
    have c5 : w1.cell? ⟨w.heap.size, 5, none⟩ = some (.int .i64 fk) := bcell hb1 (cell_n0 5)
    have c6 : w1.cell? ⟨w.heap.size, 6, none⟩ = some (.slice fa fn fq) := bcell hb1 (cell_n0 6)
    have c7 : w1.cell? ⟨w.heap.size, 7, none⟩ = some (.int .i64 l) := bcell hb1 (cell_n0 7)
    have c8 : w1.cell? ⟨w.heap.size, 8, none⟩ = some (.slice c m q) := bcell hb1 (cell_n0 8)
    have lw := World.block_lt_of_cell? _ _ c0
    have hB1 := bstep bal1 hb1
    have hbz := hB1.size
    go_wp2_with fail
    refine (HT.out (by simp) w1.heap.size hbz _ (bstep hB1 bal1) (by simp) _ (AccNew.empty (Nat.le_refl _) (heap_alloc_new w1 _))).mono ?_
    rintro e w2 ⟨v2, rfl, hv2, hg2, -⟩
    have hbel : Below w.heap.size w w2 := (bstep hB1 bal1).grown hg2 (bstep hB1 bal1).size (fun k hk => by simp [Value.ownBlock] at hk; omega)
    have HV2 := Lib.hid hv2
    have HSZ := Lib.hid (show w1.heap.size ≤ w2.heap.size by have := hg2.size; simp at this; omega)
    have HBEL := Lib.hid hbel
    clear hv2 hg2 hbel
    go_wp2_with fail
    go_ret
    exact ⟨_, w1.heap.size, rfl, hbz, HSZ.out, HV2.out.rowL, HBEL.out⟩
end Go.Proofs.Ytpckgpndaligbaa
