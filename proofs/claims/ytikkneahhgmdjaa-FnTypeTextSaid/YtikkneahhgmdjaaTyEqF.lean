/-
  TypeSame of the program and of the reference: equality of trees.
-/
import Derived.Test.YtikkneahhgmdjaaRows
import Derived.Test.YtikkneahhgmdjaaB3
namespace Go.Proofs.Ytikkneahhgmdjaa
open Go.RowKit
set_option linter.unusedVariables false
set_option linter.unusedSimpArgs false
set_option maxRecDepth 100000

set_option maxHeartbeats 400000 in
theorem equalFunc_Ty (g : FuncId) (R : Ty → Ty → Bool) (F G : Nat → Prop) (ts us : List Ty) (ys zs : Value) (w : World) (hy : TysRep F w ts ys) (hz : TysRep G w us zs)
    (hcf : ∀ xs W, (callFunc g xs).run Try.prog W = .ok (.enter g xs) W)
    (hg : ∀ t ∈ ts, ∀ u ∈ us, ∀ (W : World) (y z : Value), TyRep F W t y → TyRep G W u z → Calls Try.prog g #[y, z] W fun e W' => e = .returned (.bool (R t u)) ∧ Below W.heap.size W W') :
    Calls Try.prog 28 #[ys, zs, .func (.func g) #[] #[]] w fun e w' => e = .returned (.bool (all2 R ts us)) ∧ Below w.heap.size w w' := by
  have HG := Lib.hid hg
  clear hg
  obtain ⟨a, cap, rfl, h2, h3, h4⟩ := hy.open
  obtain ⟨c, cap', rfl, g2, g3, g4⟩ := hz.open
  have H4 := Lib.hid h4
  have G4 := Lib.hid g4
  clear h4 g4 hy hz
  unfold maxLen at h3 g3
  by_cases hl : ts.length = us.length
  · obtain ⟨n, hn⟩ : ∃ n, ts.length = n := ⟨_, rfl⟩
    rw [hn] at hl h2
    rw [← hl] at g2
    have HN := Lib.hid hn
    have HL := Lib.hid hl
    rw [hn, ← hl]
    clear hn hl
    go_enter Try.func28, Try.ntmps28
    go_wp2_with fail
    go_loopw [17] (fun i wr => ∃ k : Nat, k ≤ n ∧ i = .int .i64 k ∧ Below w.heap.size w wr ∧ Hid (all2 R ts us = all2 R (ts.drop k) (us.drop k))) (fun i _ => n - (intOf i).toNat)
    case atStart => exact ⟨0, by omega, rfl, Below.refl _ _, rfl⟩
    case round =>
      obtain ⟨k, hk, rfl, hbw, hR⟩ := hrel
      by_cases hlt : k < n
      · obtain ⟨b, off, k0, a0, m0, q0, rfl, c0, c1, ht⟩ := H4.out k (by rw [HN.out]; exact hlt)
        obtain ⟨b', off', k0', a0', m0', q0', rfl, c0', c1', hu⟩ := G4.out k (by rw [← HL.out]; exact hlt)
        have e0 := (hbw.cell (p := ⟨b, off + k * 2, none⟩) (World.block_lt_of_cell? w _ c0)).trans c0
        have e1 := (hbw.cell (p := ⟨b, off + k * 2 + 1, none⟩) (World.block_lt_of_cell? w _ c1)).trans c1
        have e0' := (hbw.cell (p := ⟨b', off' + k * 2, none⟩) (World.block_lt_of_cell? w _ c0')).trans c0'
        have e1' := (hbw.cell (p := ⟨b', off' + k * 2 + 1, none⟩) (World.block_lt_of_cell? w _ c1')).trans c1'
        clear c0 c1 c0' c1'
        have l0 := World.block_lt_of_cell? wr _ e0
        have l0' := World.block_lt_of_cell? wr _ e0'
        have hkt : k < ts.length := by rw [HN.out]; exact hlt
        have hku : k < us.length := by rw [← HL.out]; exact hlt
        have hcall := HG.out ts[k] (List.getElem_mem hkt) us[k] (List.getElem_mem hku)
        have hstep := hR.out.trans (all2_drop R ts us k hkt hku)
        generalize R ts[k] us[k] = r at hcall hstep
        have HC := Lib.hid hcall
        have HS := Lib.hid hstep
        clear hcall hstep hR
        cases r
        all_goals
          go_wp2_with fail
          refine (HC.out _ _ _ (ht.below (bstep hbw bal2)) (hu.below (bstep hbw bal2))).mono ?_
          rintro e w1 ⟨rfl, hb1⟩
          go_wp2_with fail
        · go_ret
          exact ⟨ret_bool (by rw [HS.out]; rfl), bstep (bstep hbw bal2) hb1⟩
        · go_roundw
          case rel => exact ⟨k + 1, by omega, by go_num, bstep (bstep hbw bal2) hb1, by rw [Hid, HS.out]; rfl⟩
          case measure => simp [intOf]; omega
      · go_wp2_with fail
        go_ret
        exact ⟨ret_bool (by rw [hR.out, all2_end _ _ _ _ (by rw [HN.out]; omega) (by rw [← HL.out]; omega)]), hbw⟩
  · have HL := Lib.hid hl
    go_enter Try.func28, Try.ntmps28
    go_wp2_with fail
    go_ret
    exact ⟨ret_bool (all2_len R ts us HL.out).symm, Below.refl _ _⟩

end Go.Proofs.Ytikkneahhgmdjaa
