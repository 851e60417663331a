/-
  The laws' equality of types.
  The laws' helpers at types: size, copy.
  TypeSame of the program and of the reference: equality of trees.
  TypeSame of the program and of the reference: equality of trees.
-/
import Derived.Test.YtkhmkohgnikcmaaB1
import Derived.Test.YtkhmkohgnikcmaaRows
namespace Go.Proofs.Ytkhmkohgnikcmaa
open Go.RowKit
set_option linter.unusedVariables false
set_option linter.unusedSimpArgs false
set_option maxRecDepth 100000

set_option maxHeartbeats 1000000 in
theorem eqTypeS_of (F G : Nat → Prop) (ts us : List Ty) (ys zs : Value) (w : World) (hy : TysRep F w ts ys) (hz : TysRep G w us zs)
    (hg : ∀ t ∈ ts, ∀ u ∈ us, ∀ (W : World) (y z : Value), TyRep F W t y → TyRep G W u z → Calls Try.prog 8 #[y, z] W fun e W' => e = .returned (.bool (t.same u)) ∧ Below W.heap.size W W') :
    Calls Try.prog 23 #[ys, zs] w fun e w' => e = .returned (.bool (Ty.sames ts us)) ∧ Below w.heap.size w w' := by
  have HG := Lib.hid hg
  clear hg
  obtain ⟨a, cap, rfl, h2, h3, -⟩ := hy.open
  obtain ⟨c, cap', rfl, g2, g3, -⟩ := hz.open
  unfold maxLen at h3 g3
  rw [← Ty.sames_all2]
  by_cases hl : ts.length = us.length
  · obtain ⟨n, hn⟩ : ∃ n, ts.length = n := ⟨_, rfl⟩
    rw [hn] at hl h2 hy
    rw [← hl] at g2 hz
    have HN := Lib.hid hn
    have HL := Lib.hid hl
    rw [hn, ← hl]
    clear hn hl
    go_enter Try.func23, Try.ntmps23
    go_wp2_with fail
    go_loopw [5] (fun i wr => ∃ j : Nat, j ≤ n ∧ i = .int .i64 j ∧ Below w.heap.size w wr ∧ Hid (all2 Ty.same ts us = all2 Ty.same (ts.drop j) (us.drop j))) (fun i _ => n - (intOf i).toNat)
    case atStart => exact ⟨0, by omega, rfl, Below.refl _ _, rfl⟩
    case round =>
      obtain ⟨j, hj, rfl, hbw, hR⟩ := hrel
      by_cases hlt : j < n
      · have hkt : j < ts.length := by rw [HN.out]; exact hlt
        have hku : j < us.length := by rw [← HL.out]; exact hlt
        obtain ⟨b, off, k0, a0, m0, q0, rfl, l0, e0, e1, ht⟩ := hy.at hbw hkt
        obtain ⟨b', off', k0', a0', m0', q0', rfl, l0', e0', e1', hu⟩ := hz.at hbw hku
        have hcall := HG.out ts[j] (List.getElem_mem hkt) us[j] (List.getElem_mem hku)
        have hstep := hR.out.trans (all2_drop Ty.same ts us j hkt hku)
        generalize ts[j].same us[j] = r at hcall hstep
        have HC := Lib.hid hcall
        have HS := Lib.hid hstep
        clear hcall hstep hR
        cases r
        all_goals
          go_wp2_with fail
          go_region_held3 (fun w' => w'.cell? ⟨b, off + j * 2, none⟩ = some (.int .i64 k0) ∧ w'.cell? ⟨b, off + j * 2 + 1, none⟩ = some (.slice a0 m0 q0) ∧ w'.cell? ⟨b', off' + j * 2, none⟩ = some (.int .i64 k0') ∧ w'.cell? ⟨b', off' + j * 2 + 1, none⟩ = some (.slice a0' m0' q0'))
            (first | go_keep | exact ⟨bcelld hb1 e0, bcelld hb1 e1, bcelld hb1 e0', bcelld hb1 e1'⟩)
            (first | (go_at_call 8; refine (HC.out _ _ _ (ht.below bdr) (hu.below bdr)).mono ?_; rintro e w1 ⟨rfl, hb1⟩))
          go_wp2_with fail
        · go_ret
          exact ⟨ret_bool (by rw [HS.out]; simp), bdrew hbw hb1⟩
        · go_roundw
          case rel => exact ⟨j + 1, by omega, by go_num, bdrew hbw hb1, by rw [Hid, HS.out]; rfl⟩
          case measure => simp [intOf]; omega
      · go_wp2_with fail
        go_ret
        exact ⟨ret_bool (by rw [hR.out, all2_end _ _ _ _ (by rw [HN.out]; omega) (by rw [← HL.out]; omega)]), hbw⟩
  · have HL := Lib.hid hl
    go_enter Try.func23, Try.ntmps23
    go_wp2_with fail
    go_ret
    exact ⟨ret_bool (all2_len Ty.same ts us HL.out).symm, Below.refl _ _⟩

set_option maxHeartbeats 400000 in
theorem eqType_any (F G : Nat → Prop) (t : Ty) : ∀ (u : Ty) (y z : Value) (w : World), TyRep F w t y → TyRep G w u z →
    Calls Try.prog 8 #[y, z] w fun e w' => e = .returned (.bool (t.same u)) ∧ Below w.heap.size w w' := by
  intro u y z w hy hz
  have IH : ∀ t' ∈ t.kids, ∀ u' ∈ u.kids, ∀ (W : World) (y z : Value), TyRep F W t' y → TyRep G W u' z → Calls Try.prog 8 #[y, z] W fun e W' => e = .returned (.bool (t'.same u')) ∧ Below W.heap.size W W' :=
    fun t' ht u' _ W y z a b => eqType_any F G t' u' y z W a b
  obtain ⟨a, cap, rfl, h2, h3, h4⟩ := hy.open
  obtain ⟨c, cap', rfl, g2, g3, g4⟩ := hz.open
  clear hy hz
  cases t with | mk k ts => cases u with | mk l us =>
  simp only [Ty.kind, Ty.kids] at *
  have HC := fun W (h : Below w.heap.size w W) => eqTypeS_of F G ts us _ _ W (h4.below h) (g4.below h) IH
  generalize ts.length = n at *
  generalize us.length = m at *
  unfold Ty.same
  by_cases hk : k = l
  · subst hk
    simp only [beq_self_eq_true, Bool.true_and]
    generalize Ty.sames ts us = r at *
    have H := Lib.hid HC
    clear HC IH
    cases r
    all_goals
      go_enter Try.func8, Try.ntmps8
      go_wp2_with fail
      refine (H.out _ bal2).mono ?_
      rintro e w1 ⟨rfl, hb1⟩
      go_wp2_with fail
      go_ret
      exact ⟨rfl, bstep bal2 hb1⟩
  · have hkl : (k != l) = true := by simpa using hk
    have hkl' : (k == l) = false := by simpa using hk
    clear hk HC IH
    go_enter Try.func8, Try.ntmps8
    go_wp2_with fail
    go_ret
    exact ⟨ret_bool (by simp [hkl']), bal2⟩
termination_by SizeOf.sizeOf t
decreasing_by exact Ty.kid_lt ht

mutual
theorem Ty.same_refl : ∀ t : Ty, t.same t = true
  | .mk k ts => by unfold Ty.same; rw [Ty.sames_refl ts]; simp
theorem Ty.sames_refl : ∀ ts : List Ty, Ty.sames ts ts = true
  | [] => by unfold Ty.sames; rfl
  | t :: ts => by unfold Ty.sames; rw [Ty.same_refl t, Ty.sames_refl ts]; rfl
end
theorem eqType_refl (F G : Nat → Prop) (t : Ty) (y z : Value) (w : World) (hy : TyRep F w t y) (hz : TyRep G w t z) :
    Calls Try.prog 8 #[y, z] w fun e w' => e = .returned (.bool true) ∧ Below w.heap.size w w' := by
  have h := eqType_any F G t t y z w hy hz
  rw [Ty.same_refl] at h
  exact h

end Go.Proofs.Ytkhmkohgnikcmaa
namespace Go.Proofs.Ytkhmkohgnikcmaa
open Go.RowKit
set_option linter.unusedVariables false
set_option linter.unusedSimpArgs false
set_option maxRecDepth 100000

set_option maxHeartbeats 400000 in
theorem toTypeS_of (F : Nat → Prop) (ts : List Ty) (ys : Value) (w : World) (hy : TysRep F w ts ys) (hn : ts.length ≤ 1048576)
    (IH : ∀ t ∈ ts, ∀ (y : Value) (W : World), TyRep F W t y → Calls Try.prog 18 #[y] W (RetTy t W)) :
    Calls Try.prog 35 #[ys] w (RetTys ts w) := by
  obtain ⟨i0, hi, hz0, hz1, hz2⟩ := info_parts Try.infoTy
  obtain ⟨a, cap, rfl, h2, h3, _⟩ := hy.open
  have IHH := Lib.hid IH
  clear IH
  unfold maxLen at h3
  obtain ⟨n, hnn⟩ : ∃ n, ts.length = n := ⟨_, rfl⟩
  rw [hnn] at hn h2 hy ⊢
  have HN := Lib.hid hnn
  clear hnn
  have hmk := fun W => run_make_rowN (P := Try.prog) 29 31 i0 _ Try.underlying29 hi hz0 .i64 .i64 n n (Nat.le_refl _) (by rw [hz2]; omega) (by omega) W
  rw [hz1] at hmk
  clear hz0 hz1 hz2 hi
  go_enter Try.func35, Try.ntmps35
  go_wp2_with fail
  go_loopw [4] (fun i wr => ∃ j : Nat, j ≤ n ∧ i = .int .i64 j ∧ Below w.heap.size w wr ∧ RowsNew w.heap.size w.heap.size (n * 2) 31 wr (Ty.rows (ts.take j))) (fun i _ => n - (intOf i).toNat)
  case atStart => exact ⟨0, by omega, rfl, bal1, by simpa [Ty.rows] using RowsNew.made (by simp [madeCells])⟩
  case round =>
    obtain ⟨j, hj, rfl, hbw, hown⟩ := hrel
    by_cases hlt : j < n
    · have hjt : j < ts.length := by rw [HN.out]; exact hlt
      obtain ⟨b, off, k0, a0, m0, q0, rfl, l0, e0, e1, ht⟩ := hy.at hbw hjt
      go_wp2_with fail
      refine (IHH.out _ (List.getElem_mem hjt) _ _ ht).mono ?_
      rintro e w1 ⟨v, rfl, hv, hb1⟩
      obtain ⟨k1, c1, m1, q1, fp, rfl, -, -, hs, hd, hx⟩ := hv.open
      obtain ⟨⟨x0, f0⟩, f1⟩ := (hown.below hb1).cell (j * 2) (by omega)
      obtain ⟨⟨x1, f2⟩, f3⟩ := (hown.below hb1).cell (j * 2 + 1) (by omega)
      have hnew := hown.store hb1 hs hd hx hbw.size (o := j * 2) (by rw [Ty.flatten_length]; simp; omega) (by rw [Ty.row_length]; omega)
      have HNEW := Lib.hid hnew
      clear hnew hown
      go_wp2_with fail
      go_roundw
      case rel => exact ⟨j + 1, by omega, by go_num, setRow_below [_, _] w1 w _ _ _ (Nat.le_refl _) (bstep hbw hb1), by rw [Ty.rows_eq, List.take_succ_eq_append_getElem hjt, List.map_append]; have h := HNEW.out; rw [Ty.rows_eq] at h; exact h⟩
      case measure => simp [intOf]; omega
    · go_wp2_with fail
      go_ret
      rw [List.take_of_length_le (by rw [HN.out]; omega)] at hown
      obtain ⟨fp, h4, h5, h6⟩ := hown.slice (n := n) (cap := n) (by rw [Ty.rows_length]; exact HN.out) (Nat.le_refl _) (by unfold maxLen; omega)
      exact ⟨_, rfl, ⟨fp, h4, h5, h6⟩, hbw⟩

set_option maxHeartbeats 400000 in
theorem toType_any (F : Nat → Prop) (t : Ty) : ∀ (y : Value) (w : World), TyRep F w t y → t.cnt ≤ 1048576 → Calls Try.prog 18 #[y] w (RetTy t w) := by
  intro y w hy hc
  have IH : ∀ t' ∈ t.kids, ∀ (y : Value) (W : World), TyRep F W t' y → Calls Try.prog 18 #[y] W (RetTy t' W) :=
    fun t' ht y W h => toType_any F t' y W h (by have := Ty.cnt_kid ht; omega)
  obtain ⟨a, cap, rfl, h2, h3, hr⟩ := hy.open
  cases t with | mk k ts =>
  simp only [Ty.kind, Ty.kids] at *
  have HC := fun W (h : Below w.heap.size w W) => toTypeS_of F ts _ W (hr.below h) (by simp only [Ty.cnt] at hc; omega) IH
  have H := Lib.hid HC
  clear HC IH hy hr
  generalize ts.length = n at *
  go_enter Try.func18, Try.ntmps18
  go_wp2_with fail
  refine (H.out _ (by exact bal3)).mono ?_
  rintro e w1 ⟨v, rfl, hv, hb1⟩
  obtain ⟨c1, q1, rfl⟩ := hv.open_slice
  obtain ⟨hc1, hf1⟩ := brules hb1
  go_wp2_with fail
  refine bodyPost_ret (v := .agg #[.int .i64 k, .slice c1 ts.length q1]) (by simp [results, Try.results18, go_sem, hc1, hf1]) rfl ?_
  refine ⟨_, rfl, TyNew.mono (TysNew.ty (((hv.setCell (by simp) _).setCell (by simp) _).setCell (by simp) _)) (by simp; omega), ?_⟩
  exact (((bstep bal3 hb1).setCell (by simp <;> omega) _).setCell (by simp <;> omega) _).setCell (by simp <;> omega) _
termination_by SizeOf.sizeOf t
decreasing_by exact Ty.kid_lt ht

set_option maxHeartbeats 400000 in
theorem szTypeS_of (F : Nat → Prop) (ts : List Ty) (ys : Value) (l : Int) (w : World) (hy : TysRep F w ts ys) (h0 : 0 ≤ l) (h1 : l ≤ 1048576)
    (IH : ∀ t ∈ ts, ∀ (y : Value) (l : Int) (W : World), TyRep F W t y → 0 ≤ l → l ≤ 1048576 → Calls Try.prog 13 #[y, .int .i64 l] W fun e W' => e = .returned (.int .i64 (szr l t.cnt)) ∧ Below W.heap.size W W') :
    Calls Try.prog 28 #[ys, .int .i64 l] w fun e w' => e = .returned (.int .i64 (szr l (ts.length + Ty.cnts ts))) ∧ Below w.heap.size w w' := by
  obtain ⟨a, cap, rfl, h2, h3, _⟩ := hy.open
  have IHH := Lib.hid IH
  clear IH
  unfold maxLen at h3
  obtain ⟨n, hnn⟩ : ∃ n, ts.length = n := ⟨_, rfl⟩
  rw [hnn] at h2 hy ⊢
  have HN := Lib.hid hnn
  clear hnn
  by_cases hl : l - n < 0
  · go_enter Try.func28, Try.ntmps28
    go_wp2_with fail
    go_ret
    exact ⟨ret_int (by unfold szr; rw [if_neg (by omega)]), Below.refl _ _⟩
  · have hl' : 0 ≤ l - n := by omega
    go_enter Try.func28, Try.ntmps28
    go_wp2_with fail
    go_loopw [5, 1] (fun i p wr => ∃ j : Nat, j ≤ n ∧ i = .int .i64 j ∧ (∃ m : Int, p = .int .i64 m ∧ 0 ≤ m ∧ m ≤ 1048576 ∧ Hid (m = l - n - Ty.cnts (ts.take j))) ∧ Below w.heap.size w wr) (fun i _ _ => n - (intOf i).toNat)
    case atStart => exact ⟨0, by omega, rfl, ⟨_, rfl, by omega, by omega, by simp [Hid, Ty.cnts]⟩, Below.refl _ _⟩
    case round =>
      obtain ⟨j, hj, rfl, ⟨m, rfl, hm0, hm1, hm⟩, hbw⟩ := hrel
      by_cases hlt : j < n
      · have hjt : j < ts.length := by rw [HN.out]; exact hlt
        obtain ⟨b, off, k0, a0, m0, q0, rfl, l0, e0, e1, ht⟩ := hy.at hbw hjt
        have hts := Ty.cnts_take_succ ts j hjt
        have htl := Ty.cnts_take_le ts (j + 1)
        have HC := Lib.hid (IHH.out _ (List.getElem_mem hjt) _ m _ ht hm0 hm1)
        generalize ts[j].cnt = c at hts HC
        by_cases hc : (c : Int) ≤ m
        · have hr : szr m c = m - c := by unfold szr; rw [if_pos hc]
          rw [hr] at HC
          have HT := Lib.hid hts
          clear hr hts htl
          have hlo : 0 ≤ m - (c : Int) := by omega
          go_wp2_with fail
          refine HC.out.mono ?_
          rintro e w1 ⟨rfl, hb1⟩
          go_wp2_with fail
          go_roundw
          case rel => exact ⟨j + 1, by omega, by go_num, ⟨_, rfl, by omega, by omega, by have := hm.out; have := HT.out; unfold Hid; omega⟩, bstep hbw hb1⟩
          case measure => simp [intOf]; omega
        · have hr : szr m c = -1 := by unfold szr; rw [if_neg hc]
          rw [hr] at HC
          have HT := Lib.hid hts
          clear hr hts
          go_wp2_with fail
          refine HC.out.mono ?_
          rintro e w1 ⟨rfl, hb1⟩
          go_wp2_with fail
          go_ret
          exact ⟨ret_int (by unfold szr; have := hm.out; have := HT.out; rw [if_neg (by omega)]), bstep hbw hb1⟩
      · go_wp2_with fail
        go_ret
        exact ⟨ret_int (by have := hm.out; rw [List.take_of_length_le (by rw [HN.out]; omega)] at this; unfold szr; rw [if_pos (by omega)]; omega), hbw⟩

set_option maxHeartbeats 400000 in
theorem szType_any (F : Nat → Prop) (t : Ty) : ∀ (y : Value) (l : Int) (w : World), TyRep F w t y → 0 ≤ l → l ≤ 1048576 →
    Calls Try.prog 13 #[y, .int .i64 l] w fun e w' => e = .returned (.int .i64 (szr l t.cnt)) ∧ Below w.heap.size w w' := by
  intro y l w hy h0 h1
  have IH : ∀ t' ∈ t.kids, ∀ (y : Value) (l : Int) (W : World), TyRep F W t' y → 0 ≤ l → l ≤ 1048576 → Calls Try.prog 13 #[y, .int .i64 l] W fun e W' => e = .returned (.int .i64 (szr l t'.cnt)) ∧ Below W.heap.size W W' :=
    fun t' ht y l W h => szType_any F t' y l W h
  obtain ⟨a, cap, rfl, h2, h3, hr⟩ := hy.open
  cases t with | mk k ts =>
  simp only [Ty.kind, Ty.kids] at *
  have HC := fun W (h : Below w.heap.size w W) => szTypeS_of F ts _ l W (hr.below h) h0 h1 IH
  simp only [Ty.cnt]
  generalize ts.length = n at *
  by_cases hc : ((n + Ty.cnts ts : Nat) : Int) ≤ l
  · have hs : szr l (n + Ty.cnts ts) = l - (n + Ty.cnts ts : Nat) := by unfold szr; rw [if_pos hc]
    rw [hs] at HC ⊢
    have hlo : 0 ≤ l - (n + Ty.cnts ts : Nat) := by omega
    generalize (l - (n + Ty.cnts ts : Nat)) = r at *
    have H := Lib.hid HC
    clear HC IH hy hr hs hc
    go_enter Try.func13, Try.ntmps13
    go_wp2_with fail
    refine (H.out _ (by exact bal1)).mono ?_
    rintro e w1 ⟨rfl, hb1⟩
    go_wp2_with fail
    go_ret
    exact ⟨rfl, bstep bal1 hb1⟩
  · have hs : szr l (n + Ty.cnts ts) = -1 := by unfold szr; rw [if_neg hc]
    rw [hs] at HC ⊢
    have H := Lib.hid HC
    clear HC IH hy hr hs hc
    go_enter Try.func13, Try.ntmps13
    go_wp2_with fail
    refine (H.out _ (by exact bal1)).mono ?_
    rintro e w1 ⟨rfl, hb1⟩
    go_wp2_with fail
    go_ret
    exact ⟨rfl, bstep bal1 hb1⟩
termination_by SizeOf.sizeOf t
decreasing_by exact Ty.kid_lt ht

end Go.Proofs.Ytkhmkohgnikcmaa
namespace Go.Proofs.Ytkhmkohgnikcmaa
open Go.RowKit
set_option linter.unusedVariables false
set_option linter.unusedSimpArgs false
set_option maxRecDepth 100000

set_option maxHeartbeats 400000 in
theorem equalFunc_Ty (g : FuncId) (R : Ty → Ty → Bool) (F G : Nat → Prop) (ts us : List Ty) (ys zs : Value) (w : World) (hy : TysRep F w ts ys) (hz : TysRep G w us zs)
    (hcf : ∀ xs W, (callFunc g xs).run Try.prog W = .ok (.enter g xs) W)
    (hg : ∀ t ∈ ts, ∀ u ∈ us, ∀ (W : World) (y z : Value), TyRep F W t y → TyRep G W u z → Calls Try.prog g #[y, z] W fun e W' => e = .returned (.bool (R t u)) ∧ Below W.heap.size W W') :
    Calls Try.prog 53 #[ys, zs, .func (.func g) #[] #[]] w fun e w' => e = .returned (.bool (all2 R ts us)) ∧ Below w.heap.size w w' := by
  have HG := Lib.hid hg
  clear hg
  obtain ⟨a, cap, rfl, h2, h3, h4⟩ := hy.open
  obtain ⟨c, cap', rfl, g2, g3, g4⟩ := hz.open
  have H4 := Lib.hid h4
  have G4 := Lib.hid g4
  clear h4 g4 hy hz
  unfold maxLen at h3 g3
  by_cases hl : ts.length = us.length
  · obtain ⟨n, hn⟩ : ∃ n, ts.length = n := ⟨_, rfl⟩
    rw [hn] at hl h2
    rw [← hl] at g2
    have HN := Lib.hid hn
    have HL := Lib.hid hl
    rw [hn, ← hl]
    clear hn hl
    go_enter Try.func53, Try.ntmps53
    go_wp2_with fail
    go_loopw [17] (fun i wr => ∃ k : Nat, k ≤ n ∧ i = .int .i64 k ∧ Below w.heap.size w wr ∧ Hid (all2 R ts us = all2 R (ts.drop k) (us.drop k))) (fun i _ => n - (intOf i).toNat)
    case atStart => exact ⟨0, by omega, rfl, Below.refl _ _, rfl⟩
    case round =>
      obtain ⟨k, hk, rfl, hbw, hR⟩ := hrel
      by_cases hlt : k < n
      · obtain ⟨b, off, k0, a0, m0, q0, rfl, c0, c1, ht⟩ := H4.out k (by rw [HN.out]; exact hlt)
        obtain ⟨b', off', k0', a0', m0', q0', rfl, c0', c1', hu⟩ := G4.out k (by rw [← HL.out]; exact hlt)
        have e0 := (hbw.cell (p := ⟨b, off + k * 2, none⟩) (World.block_lt_of_cell? w _ c0)).trans c0
        have e1 := (hbw.cell (p := ⟨b, off + k * 2 + 1, none⟩) (World.block_lt_of_cell? w _ c1)).trans c1
        have e0' := (hbw.cell (p := ⟨b', off' + k * 2, none⟩) (World.block_lt_of_cell? w _ c0')).trans c0'
        have e1' := (hbw.cell (p := ⟨b', off' + k * 2 + 1, none⟩) (World.block_lt_of_cell? w _ c1')).trans c1'
        clear c0 c1 c0' c1'
        have l0 := World.block_lt_of_cell? wr _ e0
        have l0' := World.block_lt_of_cell? wr _ e0'
        have hkt : k < ts.length := by rw [HN.out]; exact hlt
        have hku : k < us.length := by rw [← HL.out]; exact hlt
        have hcall := HG.out ts[k] (List.getElem_mem hkt) us[k] (List.getElem_mem hku)
        have hstep := hR.out.trans (all2_drop R ts us k hkt hku)
        generalize R ts[k] us[k] = r at hcall hstep
        have HC := Lib.hid hcall
        have HS := Lib.hid hstep
        clear hcall hstep hR
        cases r
        all_goals
          go_wp2_with fail
          refine (HC.out _ _ _ (ht.below (bstep hbw bal2)) (hu.below (bstep hbw bal2))).mono ?_
          rintro e w1 ⟨rfl, hb1⟩
          go_wp2_with fail
        · go_ret
          exact ⟨ret_bool (by rw [HS.out]; rfl), bstep (bstep hbw bal2) hb1⟩
        · go_roundw
          case rel => exact ⟨k + 1, by omega, by go_num, bstep (bstep hbw bal2) hb1, by rw [Hid, HS.out]; rfl⟩
          case measure => simp [intOf]; omega
      · go_wp2_with fail
        go_ret
        exact ⟨ret_bool (by rw [hR.out, all2_end _ _ _ _ (by rw [HN.out]; omega) (by rw [← HL.out]; omega)]), hbw⟩
  · have HL := Lib.hid hl
    go_enter Try.func53, Try.ntmps53
    go_wp2_with fail
    go_ret
    exact ⟨ret_bool (all2_len R ts us HL.out).symm, Below.refl _ _⟩

end Go.Proofs.Ytkhmkohgnikcmaa
namespace Go.Proofs.Ytkhmkohgnikcmaa
open Go.RowKit
set_option linter.unusedVariables false
set_option linter.unusedSimpArgs false
set_option maxRecDepth 100000

set_option maxHeartbeats 400000 in
theorem implTypeSame (F G : Nat → Prop) (t : Ty) : ∀ (u : Ty) (y z : Value) (w : World), TyRep F w t y → TyRep G w u z →
    Calls Try.prog 38 #[y, z] w fun e w' => e = .returned (.bool (t.same u)) ∧ Below w.heap.size w w' := by
  intro u y z w hy hz
  have IH : ∀ t' ∈ t.kids, ∀ u' ∈ u.kids, ∀ (W : World) (y z : Value), TyRep F W t' y → TyRep G W u' z → Calls Try.prog 38 #[y, z] W fun e W' => e = .returned (.bool (t'.same u')) ∧ Below W.heap.size W W' :=
    fun t' ht u' _ W y z a b => implTypeSame F G t' u' y z W a b
  obtain ⟨a, cap, rfl, h2, h3, h4⟩ := hy.open
  obtain ⟨c, cap', rfl, g2, g3, g4⟩ := hz.open
  clear hy hz
  cases t with | mk k ts => cases u with | mk l us =>
  simp only [Ty.kind, Ty.kids] at *
  have HC := fun W (h : Below w.heap.size w W) => equalFunc_Ty _ _ F G ts us _ _ W (h4.below h) (g4.below h) Try.call38 IH
  have H := Lib.hid HC
  clear HC IH
  generalize ts.length = n at *
  generalize us.length = m at *
  unfold Ty.same
  by_cases hk : k = l
  · subst hk
    go_enter Try.func38, Try.ntmps38
    go_wp2_with fail
    refine (H.out _ bal2).mono ?_
    rintro e w1 ⟨rfl, hb1⟩
    go_wp2_with fail
    go_ret
    exact ⟨ret_bool (by rw [Ty.sames_all2]; simp), bstep bal2 hb1⟩
  · have hkl : (k == l) = false := by simpa using hk
    clear hk
    go_enter Try.func38, Try.ntmps38
    go_wp2_with fail
    go_ret
    exact ⟨ret_bool (by simp [hkl]), bal2⟩
termination_by SizeOf.sizeOf t
decreasing_by exact Ty.kid_lt ht
end Go.Proofs.Ytkhmkohgnikcmaa
