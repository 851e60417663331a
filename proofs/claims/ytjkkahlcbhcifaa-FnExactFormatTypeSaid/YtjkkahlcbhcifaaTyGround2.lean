/-
  The reference's ground of a type.
-/
import Derived.Test.YtjkkahlcbhcifaaTyGround
namespace Go.Proofs.Ytjkkahlcbhcifaa
open Go.RowKit
set_option linter.unusedVariables false
set_option linter.unusedSimpArgs false
set_option maxRecDepth 100000

theorem ground_valid {t : Ty} (h : t.valid = true) : Ty.mk t.kind (List.replicate t.kids.length (.mk 1 [])) = ground t.kind := by
  cases t with | mk k ts =>
  unfold Ty.valid Ty.shape at h
  simp only [Bool.and_eq_true, decide_eq_true_eq] at h
  have h2 := h.2.1
  simp only [Ty.kind, Ty.kids]
  unfold tkids at h2
  unfold ground
  split at h2
  · have h0 : ts.length = 0 := by omega
    rw [h0, if_neg (by omega)]
    rfl
  · split at h2
    · rename_i hh
      have h0 : ts.length = 2 := by omega
      rw [h0, if_pos hh]
      rfl
    · omega

set_option maxHeartbeats 1000000 in
theorem specGroundOf (F : Nat → Prop) (t : Ty) (y : Value) (w : World) (hy : TyRep F w t y) :
    Calls Try.prog 61 #[y] w (RetTyB (groundOfT t) (t.valid && t.kind != 1) w) := by
  have HV := fun W (h : Below w.heap.size w W) => specTypeValid F t y W (hy.below h)
  have HI := fun (hv : t.valid = true) W (h : Below w.heap.size w W) => ground_valid hv ▸ specL1Ground F t _ W (hy.below h) (Ty.cnt_valid hv)
  obtain ⟨a, q, rfl, -, -, -⟩ := hy.open
  clear hy
  unfold groundOfT
  generalize t.kids.length = n at *
  cases hv : t.valid
  · rw [hv] at HV
    have HH := Lib.hid HV
    clear HV HI hv
    simp only [Bool.false_and, Bool.false_eq_true, if_false]
    generalize t.kind = k at *
    go_enter Try.func61, Try.ntmps61
    go_wp2_with fail
    refine (HH.out _ bal2).mono ?_
    rintro e w1 ⟨rfl, hb1⟩
    have c0 : w1.cell? ⟨w.heap.size + 1, 0, none⟩ = some (.int .i64 0) := bcell hb1 (cell_n1 0)
    have c1 : w1.cell? ⟨w.heap.size + 1, 1, none⟩ = some (.slice none 0 0) := bcell hb1 (cell_n1 1)
    have f0 := bfro (j := 0) hb1 (by simp) (fro_n1 0)
    have f3 := bfro (j := 1) hb1 (by simp) (fro_n1 1)
    go_wp2_with fail
    refine bodyPost_ret (v := .tuple #[.agg #[.int .i64 0, .slice none 0 0], .bool false]) (by simp [results, Try.results61, go_sem, c0, c1]) rfl ?_
    exact ⟨_, rfl, TyNew.mono (TysNew.ty (TysNew.nil _ _)) (Nat.le_refl _), ((bstep bal2 hb1).setCell (by show w.heap.size ≤ w.heap.size + 1; omega) _).setCell (by show w.heap.size ≤ w.heap.size + 1; omega) _⟩
  · have HI := HI hv
    rw [hv] at HV
    have HH := Lib.hid HV
    have HJ := Lib.hid HI
    clear HV HI hv
    generalize t.kind = k at *
    by_cases hk : k = 1
    · subst hk
      clear HJ
      go_enter Try.func61, Try.ntmps61
      go_wp2_with fail
      refine (HH.out _ bal2).mono ?_
      rintro e w1 ⟨rfl, hb1⟩
      have c0 : w1.cell? ⟨w.heap.size + 1, 0, none⟩ = some (.int .i64 0) := bcell hb1 (cell_n1 0)
      have c1 : w1.cell? ⟨w.heap.size + 1, 1, none⟩ = some (.slice none 0 0) := bcell hb1 (cell_n1 1)
      have d0 : w1.cell? ⟨w.heap.size, 0, none⟩ = some (.int .i64 1) := bcell hb1 (bcell bal1 (cell_n0 0))
      have f0 := bfro (j := 0) hb1 (by simp) (fro_n1 0)
      have f3 := bfro (j := 1) hb1 (by simp) (fro_n1 1)
      go_wp2_with fail
      refine bodyPost_ret (v := .tuple #[.agg #[.int .i64 0, .slice none 0 0], .bool false]) (by simp [results, Try.results61, go_sem, c0, c1]) rfl ?_
      exact ⟨_, rfl, TyNew.mono (TysNew.ty (TysNew.nil _ _)) (Nat.le_refl _), ((bstep bal2 hb1).setCell (by show w.heap.size ≤ w.heap.size + 1; omega) _).setCell (by show w.heap.size ≤ w.heap.size + 1; omega) _⟩
    · have g1 : (k == 1) = false := by simpa using hk
      have g2 : (k != 1) = true := by simpa using hk
      clear hk
      rw [g2]
      simp only [Bool.and_self, if_true]
      go_enter Try.func61, Try.ntmps61
      go_wp2_with fail
      refine (HH.out _ bal2).mono ?_
      rintro e w1 ⟨rfl, hb1⟩
      have c0 : w1.cell? ⟨w.heap.size + 1, 0, none⟩ = some (.int .i64 0) := bcell hb1 (cell_n1 0)
      have c1 : w1.cell? ⟨w.heap.size + 1, 1, none⟩ = some (.slice none 0 0) := bcell hb1 (cell_n1 1)
      have d0 : w1.cell? ⟨w.heap.size, 0, none⟩ = some (.int .i64 k) := bcell hb1 (bcell bal1 (cell_n0 0))
      have d1 : w1.cell? ⟨w.heap.size, 1, none⟩ = some (.slice a n q) := bcell hb1 (bcell bal1 (cell_n0 1))
      have f0 := bfro (j := 0) hb1 (by simp) (fro_n1 0)
      have f3 := bfro (j := 1) hb1 (by simp) (fro_n1 1)
      have hl1 := World.block_lt_of_cell? _ _ c0
      go_wp2_with fail
      refine (HJ.out _ (bstep bal2 hb1)).mono ?_
      rintro e w2 ⟨v, rfl, hvn, hb2⟩
      obtain ⟨k3, a3, n3, q3, rfl⟩ := hvn.shape
      replace c0 := bcell hb2 c0
      replace c1 := bcell hb2 c1
      replace f0 := bfro hb2 hl1 f0
      replace f3 := bfro hb2 hl1 f3
      go_wp2_with fail
      refine bodyPost_ret (v := .tuple #[.agg #[.int .i64 k3, .slice a3 n3 q3], .bool true]) (by simp [results, Try.results61, go_sem, c0, c1]) rfl ?_
      refine ⟨_, rfl, TyNew.mono ((hvn.setCell hl1 _).setCell hl1 _) (bstep bal2 hb1).size, ?_⟩
      exact ((bstep (bstep bal2 hb1) hb2).setCell (by show w.heap.size ≤ w.heap.size + 1; omega) _).setCell (by show w.heap.size ≤ w.heap.size + 1; omega) _
end Go.Proofs.Ytjkkahlcbhcifaa
