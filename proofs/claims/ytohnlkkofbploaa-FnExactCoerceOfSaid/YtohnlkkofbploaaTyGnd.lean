/-
  Functions that make types.
-/
import Derived.Test.YtohnlkkofbploaaTyNewB
namespace Go.Proofs.Ytohnlkkofbploaa
open Go.RowKit
set_option linter.unusedVariables false
set_option linter.unusedSimpArgs false
set_option maxRecDepth 100000

set_option maxHeartbeats 1000000 in
theorem implGround (k : Int) (w : World) : Calls Try.prog 77 #[.int .i64 k] w (RetTy (ground k) w) := by
  by_cases h : k = 4 ∨ k = 5
  · have hg : ground k = .mk k [.mk 1 [], .mk 1 []] := by unfold ground; rw [if_pos h]
    rw [hg]
    clear hg
    rcases h with rfl | rfl
    all_goals
      go_enter Try.func77, Try.ntmps77
      go_wp2_with fail
      refine (implBase 1 _).mono ?_
      rintro e w1 ⟨v1, rfl, ⟨f1, ho1, hd1, hx1⟩, hb1⟩
      obtain ⟨k1, a1, n1, q1, rfl, -, -⟩ := ho1.shape
      go_wp2_with fail
      refine (implBase 1 _).mono ?_
      rintro e w2 ⟨v2, rfl, ⟨f2, ho2, hd2, hx2⟩, hb2⟩
      obtain ⟨k2, a2, n2, q2, rfl, -, -⟩ := ho2.shape
      have hlt := (ho1.cells).lt
      have HD := Lib.hid (List.nodup_append.2 ⟨hd1, hd2, fun x hx y hy e => by have h1 := (ho1.cells).lt _ _ _ x hx; have h2 := hx2 y hy; omega⟩)
      have HO1 := Lib.hid (ho1.below hb2)
      have HO2 := Lib.hid ho2
      have HB := Lib.hid (fun b (hb : b ∈ f1 ++ f2) => show (w.alloc (.cells #[.int .i64 0, .slice none 0 0] 42)).heap.size ≤ b by
        rcases List.mem_append.1 hb with hb | hb
        · exact hx1 b hb
        · have := hx2 b hb; have := hb1.size; omega)
      have HS := Lib.hid (Nat.le_trans hb1.size hb2.size)
      have hW := bstep hb1 hb2
      have c0 : w2.cell? ⟨w.heap.size, 0, none⟩ = some (.int .i64 0) := bcell hW (cell_n0 0)
      have c1 : w2.cell? ⟨w.heap.size, 1, none⟩ = some (.slice none 0 0) := bcell hW (cell_n0 1)
      have f0 := bfro (j := 0) hW (by simp) (fro_n0 0)
      have f3 := bfro (j := 1) hW (by simp) (fro_n0 1)
      have hW0 := bstep bal1 hW
      have HBOTH := Lib.hid (fun kk => implBoth _ kk _ _ _ _ w2 f1 f2 HO1.out HO2.out HD.out HB.out HS.out)
      clear hlt ho1 ho2 hd1 hd2 hx1 hx2
      go_wp2_with fail
      refine (HBOTH.out _).mono ?_
      rintro e w3 ⟨v3, rfl, hv3, hb3⟩
      obtain ⟨k3, a3, n3, q3, rfl⟩ := hv3.shape
      replace c0 := bcell hb3 c0
      replace c1 := bcell hb3 c1
      have hl2 : w.heap.size < w2.heap.size := by have := HS.out; simp at this; omega
      replace f0 := bfro hb3 hl2 f0
      replace f3 := bfro hb3 hl2 f3
      go_wp2_with fail
      refine bodyPost_ret (v := .agg #[.int .i64 k3, .slice a3 n3 q3]) (by simp [results, Try.results77, go_sem, c0, c1]) rfl ?_
      refine ⟨_, rfl, TyNew.mono ((hv3.setCell (by simp) _).setCell (by simp) _) (by simp), ?_⟩
      exact ((bstep hW0 hb3).setCell (by show w.heap.size ≤ w.heap.size; omega) _).setCell (by show w.heap.size ≤ w.heap.size; omega) _
  · have hg : ground k = .mk k [] := by unfold ground; rw [if_neg h]
    have g4 : (k == 4) = false := by simp; omega
    have g5 : (k == 5) = false := by simp; omega
    rw [hg]
    clear h hg
    go_enter Try.func77, Try.ntmps77
    go_wp2_with fail
    refine (implBase k _).mono ?_
    rintro e w1 ⟨v1, rfl, hv1, hb1⟩
    obtain ⟨k3, a3, n3, q3, rfl⟩ := hv1.shape
    have c0 : w1.cell? ⟨w.heap.size, 0, none⟩ = some (.int .i64 0) := bcell hb1 (cell_n0 0)
    have c1 : w1.cell? ⟨w.heap.size, 1, none⟩ = some (.slice none 0 0) := bcell hb1 (cell_n0 1)
    have f0 := bfro (j := 0) hb1 (by simp) (fro_n0 0)
    have f3 := bfro (j := 1) hb1 (by simp) (fro_n0 1)
    go_wp2_with fail
    refine bodyPost_ret (v := .agg #[.int .i64 k3, .slice a3 n3 q3]) (by simp [results, Try.results77, go_sem, c0, c1]) rfl ?_
    refine ⟨_, rfl, TyNew.mono ((hv1.setCell (by simp) _).setCell (by simp) _) (by simp), ?_⟩
    exact ((bstep bal1 hb1).setCell (by show w.heap.size ≤ w.heap.size; omega) _).setCell (by show w.heap.size ≤ w.heap.size; omega) _

end Go.Proofs.Ytohnlkkofbploaa
