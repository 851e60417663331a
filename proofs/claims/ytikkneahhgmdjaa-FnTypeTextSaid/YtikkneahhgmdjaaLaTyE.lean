/-
  The laws' equality of types.
-/
import Derived.Test.YtikkneahhgmdjaaB3
namespace Go.Proofs.Ytikkneahhgmdjaa
open Go.RowKit
set_option linter.unusedVariables false
set_option linter.unusedSimpArgs false
set_option maxRecDepth 100000

set_option maxHeartbeats 1000000 in
theorem eqTypeS_of (F G : Nat → Prop) (ts us : List Ty) (ys zs : Value) (w : World) (hy : TysRep F w ts ys) (hz : TysRep G w us zs)
    (hg : ∀ t ∈ ts, ∀ u ∈ us, ∀ (W : World) (y z : Value), TyRep F W t y → TyRep G W u z → Calls Try.prog 7 #[y, z] W fun e W' => e = .returned (.bool (t.same u)) ∧ Below W.heap.size W W') :
    Calls Try.prog 20 #[ys, zs] w fun e w' => e = .returned (.bool (Ty.sames ts us)) ∧ Below w.heap.size w w' := by
  have HG := Lib.hid hg
  clear hg
  obtain ⟨a, cap, rfl, h2, h3, -⟩ := hy.open
  obtain ⟨c, cap', rfl, g2, g3, -⟩ := hz.open
  unfold maxLen at h3 g3
  rw [← Ty.sames_all2]
  by_cases hl : ts.length = us.length
  · obtain ⟨n, hn⟩ : ∃ n, ts.length = n := ⟨_, rfl⟩
    rw [hn] at hl h2 hy
    rw [← hl] at g2 hz
    have HN := Lib.hid hn
    have HL := Lib.hid hl
    rw [hn, ← hl]
    clear hn hl
    go_enter Try.func20, Try.ntmps20
    go_wp2_with fail
    go_loopw [5] (fun i wr => ∃ j : Nat, j ≤ n ∧ i = .int .i64 j ∧ Below w.heap.size w wr ∧ Hid (all2 Ty.same ts us = all2 Ty.same (ts.drop j) (us.drop j))) (fun i _ => n - (intOf i).toNat)
    case atStart => exact ⟨0, by omega, rfl, Below.refl _ _, rfl⟩
    case round =>
      obtain ⟨j, hj, rfl, hbw, hR⟩ := hrel
      by_cases hlt : j < n
      · have hkt : j < ts.length := by rw [HN.out]; exact hlt
        have hku : j < us.length := by rw [← HL.out]; exact hlt
        obtain ⟨b, off, k0, a0, m0, q0, rfl, l0, e0, e1, ht⟩ := hy.at hbw hkt
        obtain ⟨b', off', k0', a0', m0', q0', rfl, l0', e0', e1', hu⟩ := hz.at hbw hku
        have hcall := HG.out ts[j] (List.getElem_mem hkt) us[j] (List.getElem_mem hku)
        have hstep := hR.out.trans (all2_drop Ty.same ts us j hkt hku)
        generalize ts[j].same us[j] = r at hcall hstep
        have HC := Lib.hid hcall
        have HS := Lib.hid hstep
        clear hcall hstep hR
        cases r
        all_goals
          go_wp2_with fail
          go_region_held3 (fun w' => w'.cell? ⟨b, off + j * 2, none⟩ = some (.int .i64 k0) ∧ w'.cell? ⟨b, off + j * 2 + 1, none⟩ = some (.slice a0 m0 q0) ∧ w'.cell? ⟨b', off' + j * 2, none⟩ = some (.int .i64 k0') ∧ w'.cell? ⟨b', off' + j * 2 + 1, none⟩ = some (.slice a0' m0' q0'))
            (first | go_keep | exact ⟨bcelld hb1 e0, bcelld hb1 e1, bcelld hb1 e0', bcelld hb1 e1'⟩)
            (first | (go_at_call 7; refine (HC.out _ _ _ (ht.below bdr) (hu.below bdr)).mono ?_; rintro e w1 ⟨rfl, hb1⟩))
          go_wp2_with fail
        · go_ret
          exact ⟨ret_bool (by rw [HS.out]; simp), bdrew hbw hb1⟩
        · go_roundw
          case rel => exact ⟨j + 1, by omega, by go_num, bdrew hbw hb1, by rw [Hid, HS.out]; rfl⟩
          case measure => simp [intOf]; omega
      · go_wp2_with fail
        go_ret
        exact ⟨ret_bool (by rw [hR.out, all2_end _ _ _ _ (by rw [HN.out]; omega) (by rw [← HL.out]; omega)]), hbw⟩
  · have HL := Lib.hid hl
    go_enter Try.func20, Try.ntmps20
    go_wp2_with fail
    go_ret
    exact ⟨ret_bool (all2_len Ty.same ts us HL.out).symm, Below.refl _ _⟩

set_option maxHeartbeats 400000 in
theorem eqType_any (F G : Nat → Prop) (t : Ty) : ∀ (u : Ty) (y z : Value) (w : World), TyRep F w t y → TyRep G w u z →
    Calls Try.prog 7 #[y, z] w fun e w' => e = .returned (.bool (t.same u)) ∧ Below w.heap.size w w' := by
  intro u y z w hy hz
  have IH : ∀ t' ∈ t.kids, ∀ u' ∈ u.kids, ∀ (W : World) (y z : Value), TyRep F W t' y → TyRep G W u' z → Calls Try.prog 7 #[y, z] W fun e W' => e = .returned (.bool (t'.same u')) ∧ Below W.heap.size W W' :=
    fun t' ht u' _ W y z a b => eqType_any F G t' u' y z W a b
  obtain ⟨a, cap, rfl, h2, h3, h4⟩ := hy.open
  obtain ⟨c, cap', rfl, g2, g3, g4⟩ := hz.open
  clear hy hz
  cases t with | mk k ts => cases u with | mk l us =>
  simp only [Ty.kind, Ty.kids] at *
  have HC := fun W (h : Below w.heap.size w W) => eqTypeS_of F G ts us _ _ W (h4.below h) (g4.below h) IH
  generalize ts.length = n at *
  generalize us.length = m at *
  unfold Ty.same
  by_cases hk : k = l
  · subst hk
    simp only [beq_self_eq_true, Bool.true_and]
    generalize Ty.sames ts us = r at *
    have H := Lib.hid HC
    clear HC IH
    cases r
    all_goals
      go_enter Try.func7, Try.ntmps7
      go_wp2_with fail
      refine (H.out _ bal2).mono ?_
      rintro e w1 ⟨rfl, hb1⟩
      go_wp2_with fail
      go_ret
      exact ⟨rfl, bstep bal2 hb1⟩
  · have hkl : (k != l) = true := by simpa using hk
    have hkl' : (k == l) = false := by simpa using hk
    clear hk HC IH
    go_enter Try.func7, Try.ntmps7
    go_wp2_with fail
    go_ret
    exact ⟨ret_bool (by simp [hkl']), bal2⟩
termination_by SizeOf.sizeOf t
decreasing_by exact Ty.kid_lt ht

mutual
theorem Ty.same_refl : ∀ t : Ty, t.same t = true
  | .mk k ts => by unfold Ty.same; rw [Ty.sames_refl ts]; simp
theorem Ty.sames_refl : ∀ ts : List Ty, Ty.sames ts ts = true
  | [] => by unfold Ty.sames; rfl
  | t :: ts => by unfold Ty.sames; rw [Ty.same_refl t, Ty.sames_refl ts]; rfl
end
theorem eqType_refl (F G : Nat → Prop) (t : Ty) (y z : Value) (w : World) (hy : TyRep F w t y) (hz : TyRep G w t z) :
    Calls Try.prog 7 #[y, z] w fun e w' => e = .returned (.bool true) ∧ Below w.heap.size w w' := by
  have h := eqType_any F G t t y z w hy hz
  rw [Ty.same_refl] at h
  exact h

end Go.Proofs.Ytikkneahhgmdjaa
