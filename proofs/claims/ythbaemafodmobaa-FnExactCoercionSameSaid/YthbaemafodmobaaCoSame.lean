/-
  CoercionSame of the program and of the reference: equality of trees.
-/
import Derived.Test.YthbaemafodmobaaRows
import Derived.Test.YthbaemafodmobaaCo
import Derived.Deep.RegionHeld3
namespace Go.Proofs.Ythbaemafodmobaa
open Go.RowKit
set_option linter.unusedVariables false
set_option linter.unusedSimpArgs false
set_option maxRecDepth 100000

mutual
def Co.same : Co → Co → Bool
  | .mk k g l ts, .mk k' g' l' us => k == k' && g == g' && l == l' && Co.sames ts us
def Co.sames : List Co → List Co → Bool
  | [], [] => true
  | t :: ts, u :: us => t.same u && Co.sames ts us
  | _, _ => false
end
def call2 (R : Co → Co → Bool) : List Co → List Co → Bool
  | [], [] => true
  | t :: ts, u :: us => R t u && call2 R ts us
  | _, _ => false
theorem call2_drop (R : Co → Co → Bool) (ts us : List Co) (k : Nat) (h : k < ts.length) (h' : k < us.length) : call2 R (ts.drop k) (us.drop k) = (R ts[k] us[k] && call2 R (ts.drop (k + 1)) (us.drop (k + 1))) := by
  rw [List.drop_eq_getElem_cons h, List.drop_eq_getElem_cons h']; rfl
theorem call2_len (R : Co → Co → Bool) : ∀ (ts us : List Co), ts.length ≠ us.length → call2 R ts us = false
  | [], [], h => absurd rfl h
  | [], _ :: _, _ => rfl
  | _ :: _, [], _ => rfl
  | t :: ts, u :: us, h => by
    have := call2_len R ts us (fun e => h (by simp [e]))
    simp [call2, this]
theorem call2_end (R : Co → Co → Bool) (ts us : List Co) (k : Nat) (h : ts.length ≤ k) (h' : us.length ≤ k) : call2 R (ts.drop k) (us.drop k) = true := by
  rw [List.drop_eq_nil_of_le h, List.drop_eq_nil_of_le h']; rfl
theorem Co.sames_all2 : ∀ ts us : List Co, call2 Co.same ts us = Co.sames ts us
  | [], [] => by unfold Co.sames; rfl
  | [], _ :: _ => by unfold Co.sames; rfl
  | _ :: _, [] => by unfold Co.sames; rfl
  | t :: ts, u :: us => by unfold Co.sames call2; rw [Co.sames_all2 ts us]
mutual
theorem Co.same_refl : ∀ t : Co, t.same t = true
  | .mk k g l ts => by unfold Co.same; rw [Co.sames_refl ts]; simp
theorem Co.sames_refl : ∀ ts : List Co, Co.sames ts ts = true
  | [] => by unfold Co.sames; rfl
  | t :: ts => by unfold Co.sames; rw [Co.same_refl t, Co.sames_refl ts]; rfl
end

set_option maxHeartbeats 1000000 in
theorem equalFunc_Co (g : FuncId) (R : Co → Co → Bool) (F G : Nat → Prop) (ts us : List Co) (ys zs : Value) (w : World) (hy : CosRep F w ts ys) (hz : CosRep G w us zs)
    (hcf : ∀ xs W, (callFunc g xs).run Try.prog W = .ok (.enter g xs) W)
    (hg : ∀ t ∈ ts, ∀ u ∈ us, ∀ (W : World) (y z : Value), CoRep F W t y → CoRep G W u z → Calls Try.prog g #[y, z] W fun e W' => e = .returned (.bool (R t u)) ∧ Below W.heap.size W W') :
    Calls Try.prog 20 #[ys, zs, .func (.func g) #[] #[]] w fun e w' => e = .returned (.bool (call2 R ts us)) ∧ Below w.heap.size w w' := by
  have HG := Lib.hid hg
  clear hg
  obtain ⟨a, cap, rfl, h2, h3, -⟩ := hy.open
  obtain ⟨c, cap', rfl, g2, g3, -⟩ := hz.open
  unfold maxLen at h3 g3
  by_cases hl : ts.length = us.length
  · obtain ⟨n, hn⟩ : ∃ n, ts.length = n := ⟨_, rfl⟩
    rw [hn] at hl h2 hy
    rw [← hl] at g2 hz
    have HN := Lib.hid hn
    have HL := Lib.hid hl
    rw [hn, ← hl]
    clear hn hl
    go_enter Try.func20, Try.ntmps20
    go_wp2_with fail
    go_loopw [17] (fun i wr => ∃ k : Nat, k ≤ n ∧ i = .int .i64 k ∧ Below w.heap.size w wr ∧ Hid (call2 R ts us = call2 R (ts.drop k) (us.drop k))) (fun i _ => n - (intOf i).toNat)
    case atStart => exact ⟨0, by omega, rfl, Below.refl _ _, rfl⟩
    case round =>
      obtain ⟨j, hk, rfl, hbw, hR⟩ := hrel
      by_cases hlt : j < n
      · have hkt : j < ts.length := by rw [HN.out]; exact hlt
        have hku : j < us.length := by rw [← HL.out]; exact hlt
        obtain ⟨b, off, k0, g0, l0, a0, m0, q0, rfl, lb, e0, e1, e2, e3, ht⟩ := hy.at hbw hkt
        obtain ⟨b', off', k0', g0', l0', a0', m0', q0', rfl, lb', e0', e1', e2', e3', hu⟩ := hz.at hbw hku
        have hcall := HG.out ts[j] (List.getElem_mem hkt) us[j] (List.getElem_mem hku)
        have hstep := hR.out.trans (call2_drop R ts us j hkt hku)
        generalize R ts[j] us[j] = r at hcall hstep
        have HC := Lib.hid hcall
        have HS := Lib.hid hstep
        clear hcall hstep hR
        cases r
        all_goals
          go_wp2_with fail
          refine (HC.out _ _ _ (ht.below bal2) (hu.below bal2)).mono ?_
          rintro e w1 ⟨rfl, hb1⟩
          go_wp2_with fail
        · go_ret
          exact ⟨ret_bool (by rw [HS.out]; rfl), bstep (bstep hbw bal2) hb1⟩
        · go_roundw
          case rel => exact ⟨j + 1, by omega, by go_num, bstep (bstep hbw bal2) hb1, by rw [Hid, HS.out]; rfl⟩
          case measure => simp [intOf]; omega
      · go_wp2_with fail
        go_ret
        exact ⟨ret_bool (by rw [hR.out, call2_end _ _ _ _ (by rw [HN.out]; omega) (by rw [← HL.out]; omega)]), hbw⟩
  · have HL := Lib.hid hl
    go_enter Try.func20, Try.ntmps20
    go_wp2_with fail
    go_ret
    exact ⟨ret_bool (call2_len R ts us HL.out).symm, Below.refl _ _⟩

set_option maxHeartbeats 1000000 in
theorem implCoercionSame (F G : Nat → Prop) (t : Co) : ∀ (u : Co) (y z : Value) (w : World), CoRep F w t y → CoRep G w u z →
    Calls Try.prog 10 #[y, z] w fun e w' => e = .returned (.bool (t.same u)) ∧ Below w.heap.size w w' := by
  intro u y z w hy hz
  have IH : ∀ t' ∈ t.kids, ∀ u' ∈ u.kids, ∀ (W : World) (y z : Value), CoRep F W t' y → CoRep G W u' z → Calls Try.prog 10 #[y, z] W fun e W' => e = .returned (.bool (t'.same u')) ∧ Below W.heap.size W W' :=
    fun t' ht u' _ W y z a b => implCoercionSame F G t' u' y z W a b
  obtain ⟨a, cap, rfl, h2, h3, h4⟩ := hy.open
  obtain ⟨c, cap', rfl, g2, g3, g4⟩ := hz.open
  clear hy hz
  cases t with | mk k g l ts => cases u with | mk k' g' l' us =>
  simp only [Co.kind, Co.tag, Co.label, Co.kids] at *
  have HC := fun W (h : Below w.heap.size w W) => equalFunc_Co _ _ F G ts us _ _ W (h4.below h) (g4.below h) Try.call10 IH
  simp only [Co.sames_all2] at HC
  have H := Lib.hid HC
  clear HC IH
  generalize ts.length = n at *
  generalize us.length = m at *
  unfold Co.same
  by_cases hk : k = k'
  · subst hk
    by_cases hg : g = g'
    · subst hg
      by_cases hl : l = l'
      · subst hl
        go_enter Try.func10, Try.ntmps10
        go_wp2_with fail
        refine (H.out _ bal2).mono ?_
        rintro e w1 ⟨rfl, hb1⟩
        go_wp2_with fail
        go_ret
        exact ⟨ret_bool (by simp), bstep bal2 hb1⟩
      · have hkl : (l == l') = false := by simpa using hl
        clear hl
        go_enter Try.func10, Try.ntmps10
        go_wp2_with fail
        go_ret
        exact ⟨ret_bool (by simp [hkl]), bal2⟩
    · have hkl : (g == g') = false := by simpa using hg
      clear hg
      go_enter Try.func10, Try.ntmps10
      go_wp2_with fail
      go_ret
      exact ⟨ret_bool (by simp [hkl]), bal2⟩
  · have hkl : (k == k') = false := by simpa using hk
    clear hk
    go_enter Try.func10, Try.ntmps10
    go_wp2_with fail
    go_ret
    exact ⟨ret_bool (by simp [hkl]), bal2⟩
termination_by SizeOf.sizeOf t
decreasing_by exact Co.kid_lt ht

set_option maxHeartbeats 2000000 in
theorem specCoercionSame (F G : Nat → Prop) (t : Co) : ∀ (u : Co) (y z : Value) (w : World), CoRep F w t y → CoRep G w u z →
    Calls Try.prog 8 #[y, z] w fun e w' => e = .returned (.bool (t.same u)) ∧ Below w.heap.size w w' := by
  intro u y z w hy hz
  have IH : ∀ t' ∈ t.kids, ∀ u' ∈ u.kids, ∀ (W : World) (y z : Value), CoRep F W t' y → CoRep G W u' z → Calls Try.prog 8 #[y, z] W fun e W' => e = .returned (.bool (t'.same u')) ∧ Below W.heap.size W W' :=
    fun t' ht u' _ W y z a b => specCoercionSame F G t' u' y z W a b
  obtain ⟨a, cap, rfl, h2, h3, hy'⟩ := hy.open
  obtain ⟨c, cap', rfl, g2, g3, hz'⟩ := hz.open
  clear hy hz
  have IHH := Lib.hid IH
  clear IH
  cases t with | mk k g l ts => cases u with | mk k' g' l' us =>
  simp only [Co.kind, Co.tag, Co.label, Co.kids] at *
  unfold maxLen at h3 g3
  unfold Co.same
  rw [← Co.sames_all2]
  by_cases hall : k = k' ∧ g = g' ∧ l = l'
  · obtain ⟨rfl, rfl, rfl⟩ := hall
    by_cases hl : ts.length = us.length
    · obtain ⟨n, hn⟩ : ∃ n, ts.length = n := ⟨_, rfl⟩
      rw [hn] at hl h2 hy'
      rw [← hl] at g2 hz'
      have HN := Lib.hid hn
      have HL := Lib.hid hl
      rw [hn, ← hl]
      clear hn hl
      go_enter Try.func8, Try.ntmps8
      go_wp2_with fail
      go_loopw [5] (fun i wr => ∃ j : Nat, j ≤ n ∧ i = .int .i64 j ∧ Below w.heap.size w wr ∧ wr.cell? ⟨w.heap.size, 3, none⟩ = some (.slice a n cap) ∧ wr.cell? ⟨w.heap.size + 1, 3, none⟩ = some (.slice c n cap') ∧ w.heap.size + 1 < wr.heap.size ∧ Hid (call2 Co.same ts us = call2 Co.same (ts.drop j) (us.drop j))) (fun i _ => n - (intOf i).toNat)
      case atStart => exact ⟨0, by omega, rfl, bal2, by simp, by simp, by simp, rfl⟩
      case round =>
        obtain ⟨j, hj, rfl, hbw, hc1, hc2, hsz, hR⟩ := hrel
        by_cases hlt : j < n
        · have hkt : j < ts.length := by rw [HN.out]; exact hlt
          have hku : j < us.length := by rw [← HL.out]; exact hlt
          obtain ⟨b, off, k0, g0, l0, a0, m0, q0, rfl, lb, e0, e1, e2, e3, ht⟩ := hy'.at hbw hkt
          obtain ⟨b', off', k0', g0', l0', a0', m0', q0', rfl, lb', e0', e1', e2', e3', hu⟩ := hz'.at hbw hku
          have hcall := IHH.out ts[j] (List.getElem_mem hkt) us[j] (List.getElem_mem hku)
          have hstep := hR.out.trans (call2_drop Co.same ts us j hkt hku)
          generalize ts[j].same us[j] = r at hcall hstep
          have HC := Lib.hid hcall
          have HS := Lib.hid hstep
          clear hcall hstep hR
          cases r
          all_goals
            go_wp2_with fail
            go_region_held3 (fun w' => w'.cell? ⟨w.heap.size, 3, none⟩ = some (.slice (some ⟨b, off, none⟩) n cap) ∧ w'.cell? ⟨w.heap.size + 1, 3, none⟩ = some (.slice (some ⟨b', off', none⟩) n cap') ∧ w'.cell? ⟨b, off + j * 4, none⟩ = some (.int .i64 k0) ∧ w'.cell? ⟨b, off + j * 4 + 1, none⟩ = some (.int .i64 g0) ∧ w'.cell? ⟨b, off + j * 4 + 2, none⟩ = some (.int .i64 l0) ∧ w'.cell? ⟨b, off + j * 4 + 3, none⟩ = some (.slice a0 m0 q0) ∧ w'.cell? ⟨b', off' + j * 4, none⟩ = some (.int .i64 k0') ∧ w'.cell? ⟨b', off' + j * 4 + 1, none⟩ = some (.int .i64 g0') ∧ w'.cell? ⟨b', off' + j * 4 + 2, none⟩ = some (.int .i64 l0') ∧ w'.cell? ⟨b', off' + j * 4 + 3, none⟩ = some (.slice a0' m0' q0'))
              (first | go_keep | exact ⟨bcelld hb1 hc1, bcelld hb1 hc2, bcelld hb1 e0, bcelld hb1 e1, bcelld hb1 e2, bcelld hb1 e3, bcelld hb1 e0', bcelld hb1 e1', bcelld hb1 e2', bcelld hb1 e3'⟩)
              (first | (go_at_call 8; refine (HC.out _ _ _ (ht.below bdr) (hu.below bdr)).mono ?_; rintro e w1 ⟨rfl, hb1⟩))
            go_wp2_with fail
          · go_ret
            exact ⟨ret_bool (by rw [HS.out]; simp), bdrew hbw hb1⟩
          · go_roundw
            case rel => exact ⟨j + 1, by omega, by go_num, bdrew hbw hb1, bcelld hb1 hc1, bcelld hb1 hc2, Nat.lt_of_lt_of_le hsz hb1.size, by rw [Hid, HS.out]; rfl⟩
            case measure => simp [intOf]; omega
        · go_wp2_with fail
          go_ret
          exact ⟨ret_bool (by rw [hR.out, call2_end _ _ _ _ (by rw [HN.out]; omega) (by rw [← HL.out]; omega)]; simp), hbw⟩
    · have HL := Lib.hid hl
      go_enter Try.func8, Try.ntmps8
      go_wp2_with fail
      go_ret
      exact ⟨ret_bool (by rw [call2_len Co.same ts us HL.out]; simp), bal2⟩
  · clear IHH hy' hz'
    by_cases hk : k = k'
    · subst hk
      by_cases hg : g = g'
      · subst hg
        have hl : ¬ l = l' := fun h => hall ⟨rfl, rfl, h⟩
        have hkl : (l == l') = false := by simpa using hl
        have hkl' : (l != l') = true := by simpa using hl
        clear hall hl
        go_enter Try.func8, Try.ntmps8
        go_wp2_with fail
        go_ret
        exact ⟨ret_bool (by simp [hkl]), bal2⟩
      · have hkl : (g == g') = false := by simpa using hg
        have hkl' : (g != g') = true := by simpa using hg
        clear hall hg
        go_enter Try.func8, Try.ntmps8
        go_wp2_with fail
        go_ret
        exact ⟨ret_bool (by simp [hkl]), bal2⟩
    · have hkl : (k == k') = false := by simpa using hk
      have hkl' : (k != k') = true := by simpa using hk
      clear hall hk
      go_enter Try.func8, Try.ntmps8
      go_wp2_with fail
      go_ret
      exact ⟨ret_bool (by simp [hkl]), bal2⟩
termination_by SizeOf.sizeOf t
decreasing_by exact Co.kid_lt ht
end Go.Proofs.Ythbaemafodmobaa
