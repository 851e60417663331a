/-
  The laws' helpers at coercions: size, copy, equality.
-/
import Derived.Test.YthhdjacdalehoaaRows
import Derived.Test.YthhdjacdalehoaaB3
import Derived.Test.YthhdjacdalehoaaB3
import Derived.Handy
import Derived.Deep.RegionHeld3
import Derived.Test.YthhdjacdalehoaaCoEq
namespace Go.Proofs.Ythhdjacdalehoaa
open Go.RowKit
set_option linter.unusedVariables false
set_option linter.unusedSimpArgs false
set_option maxRecDepth 100000

def RetCo (t : Co) (w : World) (e : Ending) (w' : World) : Prop := ∃ v, e = .returned v ∧ CoNew w.heap.size w' t v ∧ Below w.heap.size w w'
def RetCos (ts : List Co) (w : World) (e : Ending) (w' : World) : Prop := ∃ v, e = .returned v ∧ CosNew w.heap.size w' ts v ∧ Below w.heap.size w w'

theorem Try.infoCo : (Try.prog.info? 28).map (fun i => (i.zero, i.size, i.bytes)) = some (some (.agg #[.int .i64 0, .int .i64 0, .int .i64 0, .slice none 0 0]), 4, 48) := by kernel_rfl

set_option maxHeartbeats 400000 in
theorem toCoercionS_of (F : Nat → Prop) (ts : List Co) (ys : Value) (w : World) (hy : CosRep F w ts ys) (hn : ts.length ≤ 1048576)
    (IH : ∀ t ∈ ts, ∀ (y : Value) (W : World), CoRep F W t y → Calls Try.prog 7 #[y] W (RetCo t W)) :
    Calls Try.prog 22 #[ys] w (RetCos ts w) := by
  obtain ⟨i0, hi, hz0, hz1, hz2⟩ := info_parts Try.infoCo
  obtain ⟨a, cap, rfl, h2, h3, _⟩ := hy.open
  have IHH := Lib.hid IH
  clear IH
  unfold maxLen at h3
  obtain ⟨n, hnn⟩ : ∃ n, ts.length = n := ⟨_, rfl⟩
  rw [hnn] at hn h2 hy ⊢
  have HN := Lib.hid hnn
  clear hnn
  have hmk := fun W => run_make_rowN (P := Try.prog) 26 28 i0 _ Try.underlying26 hi hz0 .i64 .i64 n n (Nat.le_refl _) (by rw [hz2]; omega) (by omega) W
  rw [hz1] at hmk
  clear hz0 hz1 hz2 hi
  go_enter Try.func22, Try.ntmps22
  go_wp2_with fail
  go_loopw [4] (fun i wr => ∃ j : Nat, j ≤ n ∧ i = .int .i64 j ∧ Below w.heap.size w wr ∧ RowsNew w.heap.size w.heap.size (n * 4) 28 wr (Co.rows (ts.take j))) (fun i _ => n - (intOf i).toNat)
  case atStart => exact ⟨0, by omega, rfl, bal1, by simpa [Co.rows] using RowsNew.made (by simp [madeCells])⟩
  case round =>
    obtain ⟨j, hj, rfl, hbw, hown⟩ := hrel
    by_cases hlt : j < n
    · have hjt : j < ts.length := by rw [HN.out]; exact hlt
      obtain ⟨b, off, k0, g0, l0, a0, m0, q0, rfl, lb, e0, e1, e2, e3, ht⟩ := hy.at hbw hjt
      go_wp2_with fail
      refine (IHH.out _ (List.getElem_mem hjt) _ _ ht).mono ?_
      rintro e w1 ⟨v, rfl, hv, hb1⟩
      obtain ⟨k1, g1, l1, c1, m1, q1, fp, rfl, -, -, hs, hd, hx⟩ := hv.open
      obtain ⟨⟨x0, f0⟩, f1⟩ := (hown.below hb1).cell (j * 4) (by omega)
      obtain ⟨⟨x1, f2⟩, f3⟩ := (hown.below hb1).cell (j * 4 + 1) (by omega)
      obtain ⟨⟨x2, f4⟩, f5⟩ := (hown.below hb1).cell (j * 4 + 2) (by omega)
      obtain ⟨⟨x3, f6⟩, f7⟩ := (hown.below hb1).cell (j * 4 + 3) (by omega)
      have hnew := hown.store hb1 hs hd hx hbw.size (o := j * 4) (by rw [Co.flatten_length]; simp; omega) (by rw [Co.row_length]; omega)
      have HNEW := Lib.hid hnew
      clear hnew hown
      go_wp2_with fail
      go_roundw
      case rel => exact ⟨j + 1, by omega, by go_num, setRow_below [_, _, _, _] w1 w _ _ _ (Nat.le_refl _) (bstep hbw hb1), by rw [Co.rows_eq, List.take_succ_eq_append_getElem hjt, List.map_append]; have h := HNEW.out; rw [Co.rows_eq] at h; exact h⟩
      case measure => simp [intOf]; omega
    · go_wp2_with fail
      go_ret
      rw [List.take_of_length_le (by rw [HN.out]; omega)] at hown
      obtain ⟨fp, h4, h5, h6⟩ := hown.slice (n := n) (cap := n) (by rw [Co.rows_length]; exact HN.out) (Nat.le_refl _) (by unfold maxLen; omega)
      exact ⟨_, rfl, ⟨fp, h4, h5, h6⟩, hbw⟩

set_option maxHeartbeats 400000 in
theorem toCoercion_any (F : Nat → Prop) (t : Co) : ∀ (y : Value) (w : World), CoRep F w t y → t.cnt ≤ 1048576 → Calls Try.prog 7 #[y] w (RetCo t w) := by
  intro y w hy hc
  have IH : ∀ t' ∈ t.kids, ∀ (y : Value) (W : World), CoRep F W t' y → Calls Try.prog 7 #[y] W (RetCo t' W) :=
    fun t' ht y W h => toCoercion_any F t' y W h (by have := Co.cnt_kid ht; omega)
  obtain ⟨a, cap, rfl, h2, h3, hr⟩ := hy.open
  cases t with | mk k g l0 ts =>
  simp only [Co.kind, Co.tag, Co.label, Co.kids] at *
  have HC := fun W (h : Below w.heap.size w W) => toCoercionS_of F ts _ W (hr.below h) (by simp only [Co.cnt] at hc; omega) IH
  have H := Lib.hid HC
  clear HC IH hy hr
  generalize ts.length = n at *
  go_enter Try.func7, Try.ntmps7
  go_wp2_with fail
  refine (H.out _ (by exact bal3)).mono ?_
  rintro e w1 ⟨v, rfl, hv, hb1⟩
  obtain ⟨c1, q1, rfl⟩ := hv.open_slice
  obtain ⟨hc1, hf1⟩ := brules hb1
  go_wp2_with fail
  refine bodyPost_ret (v := .agg #[.int .i64 k, .int .i64 g, .int .i64 l0, .slice c1 ts.length q1]) (by simp [results, Try.results7, go_sem, hc1, hf1]) rfl ?_
  refine ⟨_, rfl, CoNew.mono (CosNew.co (((((hv.setCell (by simp) _).setCell (by simp) _).setCell (by simp) _).setCell (by simp) _).setCell (by simp) _)) (by simp; omega), ?_⟩
  exact (((((bstep bal3 hb1).setCell (by simp <;> omega) _).setCell (by simp <;> omega) _).setCell (by simp <;> omega) _).setCell (by simp <;> omega) _).setCell (by simp <;> omega) _
termination_by SizeOf.sizeOf t
decreasing_by exact Co.kid_lt ht

set_option maxHeartbeats 400000 in
theorem szCoercionS_of (F : Nat → Prop) (ts : List Co) (ys : Value) (l : Int) (w : World) (hy : CosRep F w ts ys) (h0 : 0 ≤ l) (h1 : l ≤ 1048576)
    (IH : ∀ t ∈ ts, ∀ (y : Value) (l : Int) (W : World), CoRep F W t y → 0 ≤ l → l ≤ 1048576 → Calls Try.prog 5 #[y, .int .i64 l] W fun e W' => e = .returned (.int .i64 (szr l t.cnt)) ∧ Below W.heap.size W W') :
    Calls Try.prog 19 #[ys, .int .i64 l] w fun e w' => e = .returned (.int .i64 (szr l (ts.length + Co.cnts ts))) ∧ Below w.heap.size w w' := by
  obtain ⟨a, cap, rfl, h2, h3, _⟩ := hy.open
  have IHH := Lib.hid IH
  clear IH
  unfold maxLen at h3
  obtain ⟨n, hnn⟩ : ∃ n, ts.length = n := ⟨_, rfl⟩
  rw [hnn] at h2 hy ⊢
  have HN := Lib.hid hnn
  clear hnn
  by_cases hl : l - n < 0
  · go_enter Try.func19, Try.ntmps19
    go_wp2_with fail
    go_ret
    exact ⟨ret_int (by unfold szr; rw [if_neg (by omega)]), Below.refl _ _⟩
  · have hl' : 0 ≤ l - n := by omega
    go_enter Try.func19, Try.ntmps19
    go_wp2_with fail
    go_loopw [5, 1] (fun i p wr => ∃ j : Nat, j ≤ n ∧ i = .int .i64 j ∧ (∃ m : Int, p = .int .i64 m ∧ 0 ≤ m ∧ m ≤ 1048576 ∧ Hid (m = l - n - Co.cnts (ts.take j))) ∧ Below w.heap.size w wr) (fun i _ _ => n - (intOf i).toNat)
    case atStart => exact ⟨0, by omega, rfl, ⟨_, rfl, by omega, by omega, by simp [Hid, Co.cnts]⟩, Below.refl _ _⟩
    case round =>
      obtain ⟨j, hj, rfl, ⟨m, rfl, hm0, hm1, hm⟩, hbw⟩ := hrel
      by_cases hlt : j < n
      · have hjt : j < ts.length := by rw [HN.out]; exact hlt
        obtain ⟨b, off, k0, g0, l0, a0, m0, q0, rfl, lb, e0, e1, e2, e3, ht⟩ := hy.at hbw hjt
        have hts := Co.cnts_take_succ ts j hjt
        have htl := Co.cnts_take_le ts (j + 1)
        have HC := Lib.hid (IHH.out _ (List.getElem_mem hjt) _ m _ ht hm0 hm1)
        generalize ts[j].cnt = c at hts HC
        by_cases hc : (c : Int) ≤ m
        · have hr : szr m c = m - c := by unfold szr; rw [if_pos hc]
          rw [hr] at HC
          have HT := Lib.hid hts
          clear hr hts htl
          have hlo : 0 ≤ m - (c : Int) := by omega
          go_wp2_with fail
          refine HC.out.mono ?_
          rintro e w1 ⟨rfl, hb1⟩
          go_wp2_with fail
          go_roundw
          case rel => exact ⟨j + 1, by omega, by go_num, ⟨_, rfl, by omega, by omega, by have := hm.out; have := HT.out; unfold Hid; omega⟩, bstep hbw hb1⟩
          case measure => simp [intOf]; omega
        · have hr : szr m c = -1 := by unfold szr; rw [if_neg hc]
          rw [hr] at HC
          have HT := Lib.hid hts
          clear hr hts
          go_wp2_with fail
          refine HC.out.mono ?_
          rintro e w1 ⟨rfl, hb1⟩
          go_wp2_with fail
          go_ret
          exact ⟨ret_int (by unfold szr; have := hm.out; have := HT.out; rw [if_neg (by omega)]), bstep hbw hb1⟩
      · go_wp2_with fail
        go_ret
        exact ⟨ret_int (by have := hm.out; rw [List.take_of_length_le (by rw [HN.out]; omega)] at this; unfold szr; rw [if_pos (by omega)]; omega), hbw⟩

set_option maxHeartbeats 400000 in
theorem szCoercion_any (F : Nat → Prop) (t : Co) : ∀ (y : Value) (l : Int) (w : World), CoRep F w t y → 0 ≤ l → l ≤ 1048576 →
    Calls Try.prog 5 #[y, .int .i64 l] w fun e w' => e = .returned (.int .i64 (szr l t.cnt)) ∧ Below w.heap.size w w' := by
  intro y l w hy h0 h1
  have IH : ∀ t' ∈ t.kids, ∀ (y : Value) (l : Int) (W : World), CoRep F W t' y → 0 ≤ l → l ≤ 1048576 → Calls Try.prog 5 #[y, .int .i64 l] W fun e W' => e = .returned (.int .i64 (szr l t'.cnt)) ∧ Below W.heap.size W W' :=
    fun t' ht y l W h => szCoercion_any F t' y l W h
  obtain ⟨a, cap, rfl, h2, h3, hr⟩ := hy.open
  cases t with | mk k g l0 ts =>
  simp only [Co.kind, Co.tag, Co.label, Co.kids] at *
  have HC := fun W (h : Below w.heap.size w W) => szCoercionS_of F ts _ l W (hr.below h) h0 h1 IH
  simp only [Co.cnt]
  generalize ts.length = n at *
  by_cases hc : ((n + Co.cnts ts : Nat) : Int) ≤ l
  · have hs : szr l (n + Co.cnts ts) = l - (n + Co.cnts ts : Nat) := by unfold szr; rw [if_pos hc]
    rw [hs] at HC ⊢
    have hlo : 0 ≤ l - (n + Co.cnts ts : Nat) := by omega
    generalize (l - (n + Co.cnts ts : Nat)) = r at *
    have H := Lib.hid HC
    clear HC IH hy hr hs hc
    go_enter Try.func5, Try.ntmps5
    go_wp2_with fail
    refine (H.out _ (by exact bal1)).mono ?_
    rintro e w1 ⟨rfl, hb1⟩
    go_wp2_with fail
    go_ret
    exact ⟨rfl, bstep bal1 hb1⟩
  · have hs : szr l (n + Co.cnts ts) = -1 := by unfold szr; rw [if_neg hc]
    rw [hs] at HC ⊢
    have H := Lib.hid HC
    clear HC IH hy hr hs hc
    go_enter Try.func5, Try.ntmps5
    go_wp2_with fail
    refine (H.out _ (by exact bal1)).mono ?_
    rintro e w1 ⟨rfl, hb1⟩
    go_wp2_with fail
    go_ret
    exact ⟨rfl, bstep bal1 hb1⟩
termination_by SizeOf.sizeOf t
decreasing_by exact Co.kid_lt ht

set_option maxHeartbeats 1000000 in
theorem eqCoercionS_of (F G : Nat → Prop) (ts us : List Co) (ys zs : Value) (w : World) (hy : CosRep F w ts ys) (hz : CosRep G w us zs)
    (hg : ∀ t ∈ ts, ∀ u ∈ us, ∀ (W : World) (y z : Value), CoRep F W t y → CoRep G W u z → Calls Try.prog 9 #[y, z] W fun e W' => e = .returned (.bool (t.same u)) ∧ Below W.heap.size W W') :
    Calls Try.prog 26 #[ys, zs] w fun e w' => e = .returned (.bool (Co.sames ts us)) ∧ Below w.heap.size w w' := by
  have HG := Lib.hid hg
  clear hg
  obtain ⟨a, cap, rfl, h2, h3, -⟩ := hy.open
  obtain ⟨c, cap', rfl, g2, g3, -⟩ := hz.open
  unfold maxLen at h3 g3
  rw [← Co.sames_all2]
  by_cases hl : ts.length = us.length
  · obtain ⟨n, hn⟩ : ∃ n, ts.length = n := ⟨_, rfl⟩
    rw [hn] at hl h2 hy
    rw [← hl] at g2 hz
    have HN := Lib.hid hn
    have HL := Lib.hid hl
    rw [hn, ← hl]
    clear hn hl
    go_enter Try.func26, Try.ntmps26
    go_wp2_with fail
    go_loopw [5] (fun i wr => ∃ j : Nat, j ≤ n ∧ i = .int .i64 j ∧ Below w.heap.size w wr ∧ Hid (call2 Co.same ts us = call2 Co.same (ts.drop j) (us.drop j))) (fun i _ => n - (intOf i).toNat)
    case atStart => exact ⟨0, by omega, rfl, Below.refl _ _, rfl⟩
    case round =>
      obtain ⟨j, hj, rfl, hbw, hR⟩ := hrel
      by_cases hlt : j < n
      · have hkt : j < ts.length := by rw [HN.out]; exact hlt
        have hku : j < us.length := by rw [← HL.out]; exact hlt
        obtain ⟨b, off, k0, g0, l0, a0, m0, q0, rfl, lb, e0, e1, e2, e3, ht⟩ := hy.at hbw hkt
        obtain ⟨b', off', k0', g0', l0', a0', m0', q0', rfl, lb', e0', e1', e2', e3', hu⟩ := hz.at hbw hku
        have hcall := HG.out ts[j] (List.getElem_mem hkt) us[j] (List.getElem_mem hku)
        have hstep := hR.out.trans (call2_drop Co.same ts us j hkt hku)
        generalize ts[j].same us[j] = r at hcall hstep
        have HC := Lib.hid hcall
        have HS := Lib.hid hstep
        clear hcall hstep hR
        cases r
        all_goals
          go_wp2_with fail
          go_region_held3 (fun w' => w'.cell? ⟨b, off + j * 4, none⟩ = some (.int .i64 k0) ∧ w'.cell? ⟨b, off + j * 4 + 1, none⟩ = some (.int .i64 g0) ∧ w'.cell? ⟨b, off + j * 4 + 2, none⟩ = some (.int .i64 l0) ∧ w'.cell? ⟨b, off + j * 4 + 3, none⟩ = some (.slice a0 m0 q0) ∧ w'.cell? ⟨b', off' + j * 4, none⟩ = some (.int .i64 k0') ∧ w'.cell? ⟨b', off' + j * 4 + 1, none⟩ = some (.int .i64 g0') ∧ w'.cell? ⟨b', off' + j * 4 + 2, none⟩ = some (.int .i64 l0') ∧ w'.cell? ⟨b', off' + j * 4 + 3, none⟩ = some (.slice a0' m0' q0'))
            (first | go_keep | exact ⟨bcelld hb1 e0, bcelld hb1 e1, bcelld hb1 e2, bcelld hb1 e3, bcelld hb1 e0', bcelld hb1 e1', bcelld hb1 e2', bcelld hb1 e3'⟩)
            (first | (go_at_call 9; refine (HC.out _ _ _ (ht.below bdr) (hu.below bdr)).mono ?_; rintro e w1 ⟨rfl, hb1⟩))
          go_wp2_with fail
        · go_ret
          exact ⟨ret_bool (by rw [HS.out]; simp), bdrew hbw hb1⟩
        · go_roundw
          case rel => exact ⟨j + 1, by omega, by go_num, bdrew hbw hb1, by rw [Hid, HS.out]; rfl⟩
          case measure => simp [intOf]; omega
      · go_wp2_with fail
        go_ret
        exact ⟨ret_bool (by rw [hR.out, call2_end _ _ _ _ (by rw [HN.out]; omega) (by rw [← HL.out]; omega)]), hbw⟩
  · have HL := Lib.hid hl
    go_enter Try.func26, Try.ntmps26
    go_wp2_with fail
    go_ret
    exact ⟨ret_bool (call2_len Co.same ts us HL.out).symm, Below.refl _ _⟩

set_option maxHeartbeats 400000 in
theorem eqCoercion_any (F G : Nat → Prop) (t : Co) : ∀ (u : Co) (y z : Value) (w : World), CoRep F w t y → CoRep G w u z →
    Calls Try.prog 9 #[y, z] w fun e w' => e = .returned (.bool (t.same u)) ∧ Below w.heap.size w w' := by
  intro u y z w hy hz
  have IH : ∀ t' ∈ t.kids, ∀ u' ∈ u.kids, ∀ (W : World) (y z : Value), CoRep F W t' y → CoRep G W u' z → Calls Try.prog 9 #[y, z] W fun e W' => e = .returned (.bool (t'.same u')) ∧ Below W.heap.size W W' :=
    fun t' ht u' _ W y z a b => eqCoercion_any F G t' u' y z W a b
  obtain ⟨a, cap, rfl, h2, h3, h4⟩ := hy.open
  obtain ⟨c, cap', rfl, g2, g3, g4⟩ := hz.open
  clear hy hz
  cases t with | mk k g l0 ts => cases u with | mk k' g' l' us =>
  simp only [Co.kind, Co.tag, Co.label, Co.kids] at *
  have HC := fun W (h : Below w.heap.size w W) => eqCoercionS_of F G ts us _ _ W (h4.below h) (g4.below h) IH
  generalize ts.length = n at *
  generalize us.length = m at *
  unfold Co.same
  by_cases hk : k = k'
  · subst hk
    by_cases hg : g = g'
    · subst hg
      by_cases hl : l0 = l'
      · subst hl
        simp only [beq_self_eq_true, Bool.true_and]
        generalize Co.sames ts us = r at *
        have H := Lib.hid HC
        clear HC IH
        cases r
        all_goals
          go_enter Try.func9, Try.ntmps9
          go_wp2_with fail
          refine (H.out _ bal2).mono ?_
          rintro e w1 ⟨rfl, hb1⟩
          go_wp2_with fail
          go_ret
          exact ⟨rfl, bstep bal2 hb1⟩
      · have hkl : (l0 != l') = true := by simpa using hl
        have hkl' : (l0 == l') = false := by simpa using hl
        clear hl HC IH
        go_enter Try.func9, Try.ntmps9
        go_wp2_with fail
        go_ret
        exact ⟨ret_bool (by simp [hkl']), bal2⟩
    · have hkl : (g != g') = true := by simpa using hg
      have hkl' : (g == g') = false := by simpa using hg
      clear hg HC IH
      go_enter Try.func9, Try.ntmps9
      go_wp2_with fail
      go_ret
      exact ⟨ret_bool (by simp [hkl']), bal2⟩
  · have hkl : (k != k') = true := by simpa using hk
    have hkl' : (k == k') = false := by simpa using hk
    clear hk HC IH
    go_enter Try.func9, Try.ntmps9
    go_wp2_with fail
    go_ret
    exact ⟨ret_bool (by simp [hkl']), bal2⟩
termination_by SizeOf.sizeOf t
decreasing_by exact Co.kid_lt ht

theorem eqCoercion_refl (F G : Nat → Prop) (t : Co) (y z : Value) (w : World) (hy : CoRep F w t y) (hz : CoRep G w t z) :
    Calls Try.prog 9 #[y, z] w fun e w' => e = .returned (.bool true) ∧ Below w.heap.size w w' := by
  have h := eqCoercion_any F G t t y z w hy hz
  rw [Co.same_refl] at h
  exact h

end Go.Proofs.Ythhdjacdalehoaa
