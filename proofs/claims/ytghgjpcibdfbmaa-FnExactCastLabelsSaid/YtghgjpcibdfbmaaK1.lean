/-
  TypeSame of the program and of the reference: equality of trees.
  TypeSame of the program and of the reference: equality of trees.
-/
import Derived.Test.YtghgjpcibdfbmaaRows
import Derived.Test.YtghgjpcibdfbmaaK0
import Derived.Deep.RegionHeld3
namespace Go.Proofs.Ytghgjpcibdfbmaa
open Go.RowKit
set_option linter.unusedVariables false
set_option linter.unusedSimpArgs false
set_option maxRecDepth 100000

set_option maxHeartbeats 400000 in
theorem equalFunc_Ty (g : FuncId) (R : Ty → Ty → Bool) (F G : Nat → Prop) (ts us : List Ty) (ys zs : Value) (w : World) (hy : TysRep F w ts ys) (hz : TysRep G w us zs)
    (hcf : ∀ xs W, (callFunc g xs).run Try.prog W = .ok (.enter g xs) W)
    (hg : ∀ t ∈ ts, ∀ u ∈ us, ∀ (W : World) (y z : Value), TyRep F W t y → TyRep G W u z → Calls Try.prog g #[y, z] W fun e W' => e = .returned (.bool (R t u)) ∧ Below W.heap.size W W') :
    Calls Try.prog 112 #[ys, zs, .func (.func g) #[] #[]] w fun e w' => e = .returned (.bool (all2 R ts us)) ∧ Below w.heap.size w w' := by
  have HG := Lib.hid hg
  clear hg
  obtain ⟨a, cap, rfl, h2, h3, h4⟩ := hy.open
  obtain ⟨c, cap', rfl, g2, g3, g4⟩ := hz.open
  have H4 := Lib.hid h4
  have G4 := Lib.hid g4
  clear h4 g4 hy hz
  unfold maxLen at h3 g3
  by_cases hl : ts.length = us.length
  · obtain ⟨n, hn⟩ : ∃ n, ts.length = n := ⟨_, rfl⟩
    rw [hn] at hl h2
    rw [← hl] at g2
    have HN := Lib.hid hn
    have HL := Lib.hid hl
    rw [hn, ← hl]
    clear hn hl
    go_enter Try.func112, Try.ntmps112
    go_wp2_with fail
    go_loopw [17] (fun i wr => ∃ k : Nat, k ≤ n ∧ i = .int .i64 k ∧ Below w.heap.size w wr ∧ Hid (all2 R ts us = all2 R (ts.drop k) (us.drop k))) (fun i _ => n - (intOf i).toNat)
    case atStart => exact ⟨0, by omega, rfl, Below.refl _ _, rfl⟩
    case round =>
      obtain ⟨k, hk, rfl, hbw, hR⟩ := hrel
      by_cases hlt : k < n
      · obtain ⟨b, off, k0, a0, m0, q0, rfl, c0, c1, ht⟩ := H4.out k (by rw [HN.out]; exact hlt)
        obtain ⟨b', off', k0', a0', m0', q0', rfl, c0', c1', hu⟩ := G4.out k (by rw [← HL.out]; exact hlt)
        have e0 := (hbw.cell (p := ⟨b, off + k * 2, none⟩) (World.block_lt_of_cell? w _ c0)).trans c0
        have e1 := (hbw.cell (p := ⟨b, off + k * 2 + 1, none⟩) (World.block_lt_of_cell? w _ c1)).trans c1
        have e0' := (hbw.cell (p := ⟨b', off' + k * 2, none⟩) (World.block_lt_of_cell? w _ c0')).trans c0'
        have e1' := (hbw.cell (p := ⟨b', off' + k * 2 + 1, none⟩) (World.block_lt_of_cell? w _ c1')).trans c1'
        clear c0 c1 c0' c1'
        have l0 := World.block_lt_of_cell? wr _ e0
        have l0' := World.block_lt_of_cell? wr _ e0'
        have hkt : k < ts.length := by rw [HN.out]; exact hlt
        have hku : k < us.length := by rw [← HL.out]; exact hlt
        have hcall := HG.out ts[k] (List.getElem_mem hkt) us[k] (List.getElem_mem hku)
        have hstep := hR.out.trans (all2_drop R ts us k hkt hku)
        generalize R ts[k] us[k] = r at hcall hstep
        have HC := Lib.hid hcall
        have HS := Lib.hid hstep
        clear hcall hstep hR
        cases r
        all_goals
          go_wp2_with fail
          refine (HC.out _ _ _ (ht.below (bstep hbw bal2)) (hu.below (bstep hbw bal2))).mono ?_
          rintro e w1 ⟨rfl, hb1⟩
          go_wp2_with fail
        · go_ret
          exact ⟨ret_bool (by rw [HS.out]; rfl), bstep (bstep hbw bal2) hb1⟩
        · go_roundw
          case rel => exact ⟨k + 1, by omega, by go_num, bstep (bstep hbw bal2) hb1, by rw [Hid, HS.out]; rfl⟩
          case measure => simp [intOf]; omega
      · go_wp2_with fail
        go_ret
        exact ⟨ret_bool (by rw [hR.out, all2_end _ _ _ _ (by rw [HN.out]; omega) (by rw [← HL.out]; omega)]), hbw⟩
  · have HL := Lib.hid hl
    go_enter Try.func112, Try.ntmps112
    go_wp2_with fail
    go_ret
    exact ⟨ret_bool (all2_len R ts us HL.out).symm, Below.refl _ _⟩

end Go.Proofs.Ytghgjpcibdfbmaa
namespace Go.Proofs.Ytghgjpcibdfbmaa
open Go.RowKit
set_option linter.unusedVariables false
set_option linter.unusedSimpArgs false
set_option maxRecDepth 100000

set_option maxHeartbeats 400000 in
theorem implTypeSame (F G : Nat → Prop) (t : Ty) : ∀ (u : Ty) (y z : Value) (w : World), TyRep F w t y → TyRep G w u z →
    Calls Try.prog 72 #[y, z] w fun e w' => e = .returned (.bool (t.same u)) ∧ Below w.heap.size w w' := by
  intro u y z w hy hz
  have IH : ∀ t' ∈ t.kids, ∀ u' ∈ u.kids, ∀ (W : World) (y z : Value), TyRep F W t' y → TyRep G W u' z → Calls Try.prog 72 #[y, z] W fun e W' => e = .returned (.bool (t'.same u')) ∧ Below W.heap.size W W' :=
    fun t' ht u' _ W y z a b => implTypeSame F G t' u' y z W a b
  obtain ⟨a, cap, rfl, h2, h3, h4⟩ := hy.open
  obtain ⟨c, cap', rfl, g2, g3, g4⟩ := hz.open
  clear hy hz
  cases t with | mk k ts => cases u with | mk l us =>
  simp only [Ty.kind, Ty.kids] at *
  have HC := fun W (h : Below w.heap.size w W) => equalFunc_Ty _ _ F G ts us _ _ W (h4.below h) (g4.below h) Try.call72 IH
  have H := Lib.hid HC
  clear HC IH
  generalize ts.length = n at *
  generalize us.length = m at *
  unfold Ty.same
  by_cases hk : k = l
  · subst hk
    go_enter Try.func72, Try.ntmps72
    go_wp2_with fail
    refine (H.out _ bal2).mono ?_
    rintro e w1 ⟨rfl, hb1⟩
    go_wp2_with fail
    go_ret
    exact ⟨ret_bool (by rw [Ty.sames_all2]; simp), bstep bal2 hb1⟩
  · have hkl : (k == l) = false := by simpa using hk
    clear hk
    go_enter Try.func72, Try.ntmps72
    go_wp2_with fail
    go_ret
    exact ⟨ret_bool (by simp [hkl]), bal2⟩
termination_by SizeOf.sizeOf t
decreasing_by exact Ty.kid_lt ht
end Go.Proofs.Ytghgjpcibdfbmaa
namespace Go.Proofs.Ytghgjpcibdfbmaa
open Go.RowKit
set_option linter.unusedVariables false
set_option linter.unusedSimpArgs false
set_option maxRecDepth 100000

set_option maxHeartbeats 1000000 in
theorem specTypeSame (F G : Nat → Prop) (t : Ty) : ∀ (u : Ty) (y z : Value) (w : World), TyRep F w t y → TyRep G w u z →
    Calls Try.prog 71 #[y, z] w fun e w' => e = .returned (.bool (t.same u)) ∧ Below w.heap.size w w' := by
  intro u y z w hy hz
  have IH : ∀ t' ∈ t.kids, ∀ u' ∈ u.kids, ∀ (W : World) (y z : Value), TyRep F W t' y → TyRep G W u' z → Calls Try.prog 71 #[y, z] W fun e W' => e = .returned (.bool (t'.same u')) ∧ Below W.heap.size W W' :=
    fun t' ht u' _ W y z a b => specTypeSame F G t' u' y z W a b
  obtain ⟨a, cap, rfl, h2, h3, hy'⟩ := hy.open
  obtain ⟨c, cap', rfl, g2, g3, hz'⟩ := hz.open
  obtain ⟨_, _, e1, _, _, h4⟩ := hy'.open
  obtain ⟨_, _, e2, _, _, g4⟩ := hz'.open
  simp only [Value.slice.injEq, true_and] at e1 e2
  obtain ⟨rfl, rfl⟩ := e1
  obtain ⟨rfl, rfl⟩ := e2
  have H4 := Lib.hid h4
  have G4 := Lib.hid g4
  clear hy hz hy' hz' h4 g4
  have IHH := Lib.hid IH
  clear IH
  cases t with | mk k ts => cases u with | mk l us =>
  simp only [Ty.kind, Ty.kids] at *
  unfold maxLen at h3 g3
  unfold Ty.same
  rw [← Ty.sames_all2]
  by_cases hk : k = l
  · subst hk
    by_cases hl : ts.length = us.length
    · obtain ⟨n, hn⟩ : ∃ n, ts.length = n := ⟨_, rfl⟩
      rw [hn] at hl h2
      rw [← hl] at g2
      have HN := Lib.hid hn
      have HL := Lib.hid hl
      rw [hn, ← hl]
      clear hn hl
      go_enter Try.func71, Try.ntmps71
      go_wp2_with fail
      have hW : ∀ w', Below w.heap.size w w' → True := fun _ _ => trivial
      go_loopw [5] (fun i wr => ∃ j : Nat, j ≤ n ∧ i = .int .i64 j ∧ Below w.heap.size w wr ∧ wr.cell? ⟨w.heap.size, 1, none⟩ = some (.slice a n cap) ∧ wr.cell? ⟨w.heap.size + 1, 1, none⟩ = some (.slice c n cap') ∧ w.heap.size + 1 < wr.heap.size ∧ Hid (all2 Ty.same ts us = all2 Ty.same (ts.drop j) (us.drop j))) (fun i _ => n - (intOf i).toNat)
      case atStart => exact ⟨0, by omega, rfl, bal2, by simp, by simp, by simp, rfl⟩
      case round =>
        obtain ⟨j, hj, rfl, hbw, hc1, hc2, hsz, hR⟩ := hrel
        by_cases hlt : j < n
        · obtain ⟨b, off, k0, a0, m0, q0, rfl, c0, c1, ht⟩ := H4.out j (by rw [HN.out]; exact hlt)
          obtain ⟨b', off', k0', a0', m0', q0', rfl, c0', c1', hu⟩ := G4.out j (by rw [← HL.out]; exact hlt)
          have e0 := (hbw.cell (p := ⟨b, off + j * 2, none⟩) (World.block_lt_of_cell? w _ c0)).trans c0
          have e1 := (hbw.cell (p := ⟨b, off + j * 2 + 1, none⟩) (World.block_lt_of_cell? w _ c1)).trans c1
          have e0' := (hbw.cell (p := ⟨b', off' + j * 2, none⟩) (World.block_lt_of_cell? w _ c0')).trans c0'
          have e1' := (hbw.cell (p := ⟨b', off' + j * 2 + 1, none⟩) (World.block_lt_of_cell? w _ c1')).trans c1'
          have l0 := World.block_lt_of_cell? wr _ e0
          have l0' := World.block_lt_of_cell? wr _ e0'
          clear c0 c1 c0' c1'
          have hkt : j < ts.length := by rw [HN.out]; exact hlt
          have hku : j < us.length := by rw [← HL.out]; exact hlt
          have hcall := IHH.out ts[j] (List.getElem_mem hkt) us[j] (List.getElem_mem hku)
          have hstep := hR.out.trans (all2_drop Ty.same ts us j hkt hku)
          generalize ts[j].same us[j] = r at hcall hstep
          have HC := Lib.hid hcall
          have HS := Lib.hid hstep
          clear hcall hstep hR
          cases r
          all_goals
            go_wp2_with fail
            go_region_held3 (fun w' => w'.cell? ⟨w.heap.size, 1, none⟩ = some (.slice (some ⟨b, off, none⟩) n cap) ∧ w'.cell? ⟨w.heap.size + 1, 1, none⟩ = some (.slice (some ⟨b', off', none⟩) n cap') ∧ w'.cell? ⟨b, off + j * 2, none⟩ = some (.int .i64 k0) ∧ w'.cell? ⟨b, off + j * 2 + 1, none⟩ = some (.slice a0 m0 q0) ∧ w'.cell? ⟨b', off' + j * 2, none⟩ = some (.int .i64 k0') ∧ w'.cell? ⟨b', off' + j * 2 + 1, none⟩ = some (.slice a0' m0' q0'))
              (first | go_keep | exact ⟨bcelld hb1 hc1, bcelld hb1 hc2, bcelld hb1 e0, bcelld hb1 e1, bcelld hb1 e0', bcelld hb1 e1'⟩)
              (first | (go_at_call 71; refine (HC.out _ _ _ (ht.below hbw.drew) (hu.below hbw.drew)).mono ?_; rintro e w1 ⟨rfl, hb1⟩))
            go_wp2_with fail
          · go_ret
            exact ⟨ret_bool (by rw [HS.out]; simp), bdrew hbw hb1⟩
          · go_roundw
            case rel => exact ⟨j + 1, by omega, by go_num, bdrew hbw hb1, bcelld hb1 hc1, bcelld hb1 hc2, Nat.lt_of_lt_of_le hsz hb1.size, by rw [Hid, HS.out]; rfl⟩
            case measure => simp [intOf]; omega
        · go_wp2_with fail
          go_ret
          exact ⟨ret_bool (by rw [hR.out, all2_end _ _ _ _ (by rw [HN.out]; omega) (by rw [← HL.out]; omega)]; simp), hbw⟩
    · have HL := Lib.hid hl
      go_enter Try.func71, Try.ntmps71
      go_wp2_with fail
      go_ret
      exact ⟨ret_bool (by rw [all2_len Ty.same ts us HL.out]; simp), bal2⟩
  · have hkl : (k == l) = false := by simpa using hk
    have hkl' : (k != l) = true := by simpa using hk
    clear hk
    go_enter Try.func71, Try.ntmps71
    go_wp2_with fail
    go_ret
    exact ⟨ret_bool (by simp [hkl]), bal2⟩
termination_by SizeOf.sizeOf t
decreasing_by exact Ty.kid_lt ht
end Go.Proofs.Ytghgjpcibdfbmaa
