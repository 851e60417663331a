/-
  TypeSame of the program and of the reference: equality of trees.
-/
import Derived.Test.YtghgjpcibdfbmaaRows
import Derived.Test.YtghgjpcibdfbmaaTy
namespace Go.Proofs.Ytghgjpcibdfbmaa
open Go.RowKit
set_option linter.unusedVariables false
set_option linter.unusedSimpArgs false
set_option maxRecDepth 100000

mutual
def Ty.same : Ty → Ty → Bool
  | .mk k ts, .mk l us => k == l && Ty.sames ts us
def Ty.sames : List Ty → List Ty → Bool
  | [], [] => true
  | t :: ts, u :: us => t.same u && Ty.sames ts us
  | _, _ => false
end

/-- slices.EqualFunc at types: whatever the function compares. -/
def all2 (R : Ty → Ty → Bool) : List Ty → List Ty → Bool
  | [], [] => true
  | t :: ts, u :: us => R t u && all2 R ts us
  | _, _ => false

theorem all2_drop (R : Ty → Ty → Bool) (ts us : List Ty) (k : Nat) (h : k < ts.length) (h' : k < us.length) : all2 R (ts.drop k) (us.drop k) = (R ts[k] us[k] && all2 R (ts.drop (k + 1)) (us.drop (k + 1))) := by
  rw [List.drop_eq_getElem_cons h, List.drop_eq_getElem_cons h']; rfl
theorem all2_len (R : Ty → Ty → Bool) : ∀ (ts us : List Ty), ts.length ≠ us.length → all2 R ts us = false
  | [], [], h => absurd rfl h
  | [], _ :: _, _ => rfl
  | _ :: _, [], _ => rfl
  | t :: ts, u :: us, h => by
    have := all2_len R ts us (fun e => h (by simp [e]))
    simp [all2, this]
theorem all2_end (R : Ty → Ty → Bool) (ts us : List Ty) (k : Nat) (h : ts.length ≤ k) (h' : us.length ≤ k) : all2 R (ts.drop k) (us.drop k) = true := by
  rw [List.drop_eq_nil_of_le h, List.drop_eq_nil_of_le h']; rfl

set_option maxHeartbeats 400000 in
theorem equalFunc_Ty (g : FuncId) (R : Ty → Ty → Bool) (F G : Nat → Prop) (ts us : List Ty) (ys zs : Value) (w : World) (hy : TysRep F w ts ys) (hz : TysRep G w us zs)
    (hcf : ∀ xs W, (callFunc g xs).run Try.prog W = .ok (.enter g xs) W)
    (hg : ∀ t ∈ ts, ∀ u ∈ us, ∀ (W : World) (y z : Value), TyRep F W t y → TyRep G W u z → Calls Try.prog g #[y, z] W fun e W' => e = .returned (.bool (R t u)) ∧ Below W.heap.size W W') :
    Calls Try.prog 112 #[ys, zs, .func (.func g) #[] #[]] w fun e w' => e = .returned (.bool (all2 R ts us)) ∧ Below w.heap.size w w' := by
  have HG := Lib.hid hg
  clear hg
  obtain ⟨a, cap, rfl, h2, h3, h4⟩ := hy.open
  obtain ⟨c, cap', rfl, g2, g3, g4⟩ := hz.open
  have H4 := Lib.hid h4
  have G4 := Lib.hid g4
  clear h4 g4 hy hz
  unfold maxLen at h3 g3
  by_cases hl : ts.length = us.length
  · obtain ⟨n, hn⟩ : ∃ n, ts.length = n := ⟨_, rfl⟩
    rw [hn] at hl h2
    rw [← hl] at g2
    have HN := Lib.hid hn
    have HL := Lib.hid hl
    rw [hn, ← hl]
    clear hn hl
    go_enter Try.func112, Try.ntmps112
    go_wp2_with fail
    go_loopw [17] (fun i wr => ∃ k : Nat, k ≤ n ∧ i = .int .i64 k ∧ Below w.heap.size w wr ∧ Hid (all2 R ts us = all2 R (ts.drop k) (us.drop k))) (fun i _ => n - (intOf i).toNat)
    case atStart => exact ⟨0, by omega, rfl, Below.refl _ _, rfl⟩
    case round =>
      obtain ⟨k, hk, rfl, hbw, hR⟩ := hrel
      by_cases hlt : k < n
      · obtain ⟨b, off, k0, a0, m0, q0, rfl, c0, c1, ht⟩ := H4.out k (by rw [HN.out]; exact hlt)
        obtain ⟨b', off', k0', a0', m0', q0', rfl, c0', c1', hu⟩ := G4.out k (by rw [← HL.out]; exact hlt)
        have e0 := (hbw.cell (p := ⟨b, off + k * 2, none⟩) (World.block_lt_of_cell? w _ c0)).trans c0
        have e1 := (hbw.cell (p := ⟨b, off + k * 2 + 1, none⟩) (World.block_lt_of_cell? w _ c1)).trans c1
        have e0' := (hbw.cell (p := ⟨b', off' + k * 2, none⟩) (World.block_lt_of_cell? w _ c0')).trans c0'
        have e1' := (hbw.cell (p := ⟨b', off' + k * 2 + 1, none⟩) (World.block_lt_of_cell? w _ c1')).trans c1'
        clear c0 c1 c0' c1'
        have l0 := World.block_lt_of_cell? wr _ e0
        have l0' := World.block_lt_of_cell? wr _ e0'
        have hkt : k < ts.length := by rw [HN.out]; exact hlt
        have hku : k < us.length := by rw [← HL.out]; exact hlt
        have hcall := HG.out ts[k] (List.getElem_mem hkt) us[k] (List.getElem_mem hku)
        have hstep := hR.out.trans (all2_drop R ts us k hkt hku)
        generalize R ts[k] us[k] = r at hcall hstep
        have HC := Lib.hid hcall
        have HS := Lib.hid hstep
        clear hcall hstep hR
        cases r
        all_goals
          go_wp2_with fail
          refine (HC.out _ _ _ (ht.below (bstep hbw bal2)) (hu.below (bstep hbw bal2))).mono ?_
          rintro e w1 ⟨rfl, hb1⟩
          go_wp2_with fail
        · go_ret
          exact ⟨ret_bool (by rw [HS.out]; rfl), bstep (bstep hbw bal2) hb1⟩
        · go_roundw
          case rel => exact ⟨k + 1, by omega, by go_num, bstep (bstep hbw bal2) hb1, by rw [Hid, HS.out]; rfl⟩
          case measure => simp [intOf]; omega
      · go_wp2_with fail
        go_ret
        exact ⟨ret_bool (by rw [hR.out, all2_end _ _ _ _ (by rw [HN.out]; omega) (by rw [← HL.out]; omega)]), hbw⟩
  · have HL := Lib.hid hl
    go_enter Try.func112, Try.ntmps112
    go_wp2_with fail
    go_ret
    exact ⟨ret_bool (all2_len R ts us HL.out).symm, Below.refl _ _⟩

theorem Ty.sames_all2 : ∀ ts us : List Ty, all2 Ty.same ts us = Ty.sames ts us
  | [], [] => by unfold Ty.sames; rfl
  | [], _ :: _ => by unfold Ty.sames; rfl
  | _ :: _, [] => by unfold Ty.sames; rfl
  | t :: ts, u :: us => by unfold Ty.sames all2; rw [Ty.sames_all2 ts us]

set_option maxHeartbeats 400000 in
theorem implTypeSame (F G : Nat → Prop) (t : Ty) : ∀ (u : Ty) (y z : Value) (w : World), TyRep F w t y → TyRep G w u z →
    Calls Try.prog 72 #[y, z] w fun e w' => e = .returned (.bool (t.same u)) ∧ Below w.heap.size w w' := by
  intro u y z w hy hz
  have IH : ∀ t' ∈ t.kids, ∀ u' ∈ u.kids, ∀ (W : World) (y z : Value), TyRep F W t' y → TyRep G W u' z → Calls Try.prog 72 #[y, z] W fun e W' => e = .returned (.bool (t'.same u')) ∧ Below W.heap.size W W' :=
    fun t' ht u' _ W y z a b => implTypeSame F G t' u' y z W a b
  obtain ⟨a, cap, rfl, h2, h3, h4⟩ := hy.open
  obtain ⟨c, cap', rfl, g2, g3, g4⟩ := hz.open
  clear hy hz
  cases t with | mk k ts => cases u with | mk l us =>
  simp only [Ty.kind, Ty.kids] at *
  have HC := fun W (h : Below w.heap.size w W) => equalFunc_Ty _ _ F G ts us _ _ W (h4.below h) (g4.below h) Try.call72 IH
  have H := Lib.hid HC
  clear HC IH
  generalize ts.length = n at *
  generalize us.length = m at *
  unfold Ty.same
  by_cases hk : k = l
  · subst hk
    go_enter Try.func72, Try.ntmps72
    go_wp2_with fail
    refine (H.out _ bal2).mono ?_
    rintro e w1 ⟨rfl, hb1⟩
    go_wp2_with fail
    go_ret
    exact ⟨ret_bool (by rw [Ty.sames_all2]; simp), bstep bal2 hb1⟩
  · have hkl : (k == l) = false := by simpa using hk
    clear hk
    go_enter Try.func72, Try.ntmps72
    go_wp2_with fail
    go_ret
    exact ⟨ret_bool (by simp [hkl]), bal2⟩
termination_by SizeOf.sizeOf t
decreasing_by exact Ty.kid_lt ht
end Go.Proofs.Ytghgjpcibdfbmaa
