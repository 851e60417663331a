/-
  FnCtxValid returns true: the walk.
-/
import Derived.Test.YtgbjoalpjoihmaaCtxDr
import Derived.Test.YtgbjoalpjoihmaaBdM
import Derived.Maps.AppendAt
namespace Go.Proofs.Ytgbjoalpjoihmaa
open Go.RowKit
set_option linter.unusedVariables false
set_option linter.unusedSimpArgs false
set_option maxRecDepth 100000

set_option maxHeartbeats 8000000 in
theorem walk_FnCtxValid (y0 y1 : Value) (w : World) (r0 : ByRep w w.heap.size y0) (r1 : ByRep w w.heap.size y1) :
    Calls Try.prog 3 #[y0, y1] w fun e w' => e = .returned (.bool true) ∧ Below w.heap.size w w' := by
  obtain ⟨a0, n0, q0, rfl⟩ := r0.shape
  obtain ⟨a1, n1, q1, rfl⟩ := r1.shape
  obtain ⟨i0, hi, hz0, hz1, hz2⟩ := info_parts Try.infoBdL
  have Z0 := Lib.hid hz0
  have Z1 := Lib.hid hz1
  have Z2 := Lib.hid hz2
  have HI := Lib.hid hi
  clear hz0 hz1 hz2 hi
  go_enter Try.func3, Try.ntmps3
  rcases Bool.eq_false_or_eq_true (decide ((n0 : Int) > 1048576)) with d0 | d0
  · go_wp2_with fail
    go_ret
    exact ⟨rfl, Below.refl _ _⟩
  rcases Bool.eq_false_or_eq_true (decide ((n1 : Int) > 1048576)) with d1 | d1
  · go_wp2_with fail
    go_ret
    exact ⟨rfl, Below.refl _ _⟩
  go_wp2_with fail
  refine (specDrawCtxValid _ _ _ r0 (Nat.le_refl _)).mono ?_
  rintro e w1 ⟨bs, ad, p0, rfl, hn, hv, hb1⟩
  have HV1 := Lib.hid hv
  have HN1 := Lib.hid hn
  obtain ⟨m, hm⟩ : ∃ x, bs.length = x := ⟨_, rfl⟩
  have HM := Lib.hid hm
  have hm3 : m ≤ 3 := by omega
  rw [hm]
  rw [hm] at HV1
  have z1 := hb1.size
  clear hv hn hm
  go_wp2_with fail
  refine (specDrawCtxValid _ _ _ (r1.below hb1) (by omega)).mono ?_
  rintro e w2 ⟨cs, ad2, p1, rfl, hn, hv, hb2⟩
  have HV2 := Lib.hid hv
  have HN2 := Lib.hid hn
  obtain ⟨l, hl⟩ : ∃ x, cs.length = x := ⟨_, rfl⟩
  have HL := Lib.hid hl
  have hl3 : l ≤ 3 := by omega
  rw [hl]
  rw [hl] at HV2
  have z2 := hb2.size
  have hB2 := bstep hb1 hb2
  have HP := Lib.hid (show (bs ++ cs).length ≤ 12 by rw [List.length_append]; have := HM.out; omega)
  clear hv hn hl
  replace HV1 := Lib.hid (HV1.out.below hb2)
  have HPQ := Lib.hid (ctxB_append HP.out)
  obtain ⟨P, hP⟩ : ∃ x, ctxB bs = x := ⟨_, rfl⟩
  obtain ⟨Q, hQ⟩ : ∃ x, ctxB cs = x := ⟨_, rfl⟩
  have C1 := Lib.hid (fun W (h : Below w2.heap.size w2 W) => hP ▸ implCtxValid _ bs _ W (HV1.out.below h))
  have C2 := Lib.hid (fun W (h : Below w2.heap.size w2 W) => hQ ▸ implCtxValid _ cs _ W (HV2.out.below h))
  have C3 := Lib.hid (fun W (h : Below w2.heap.size w2 W) => hP ▸ specCtxValid _ bs _ W (HV1.out.below h))
  rw [hP, hQ] at HPQ
  clear hP hQ r0 r1
  cases P <;> cases Q
  all_goals
    go_wp2_with fail
    refine (C1.out _ (Below.refl _ _)).mono ?_
    rintro e w3 ⟨rfl, hb3⟩
    go_wp2_with fail
    refine (C2.out _ hb3).mono ?_
    rintro e w4 ⟨rfl, hb4⟩
    have hb24 := bstep hb3 hb4
    have z4 := hb24.size
    have hW4 : Below w2.heap.size w2 (w4.alloc (.cells #[] 44)) := bstep hb24 bal1
    obtain ⟨ad1', xs, ha1, X1, X2, X3⟩ : ∃ ad' xs, some ad = some ad' ∧ BdVals (fun b => (Value.slice (some ⟨w4.heap.size, 0, none⟩) 0 0).ownBlock ≠ some b) (w4.alloc (.cells #[] 44)) bs xs ∧ (∀ j u, xs[j]? = some u → (w4.alloc (.cells #[] 44)).cell? (ad'.add j) = some u) ∧ ∀ u ∈ xs, u.oneCell' = true := by
      have h0 := ((HV1.out.below hb24).old.below bal1 (w' := w4.alloc (.cells #[] 44))).move (.weaken (G := fun b => (Value.slice (some ⟨w4.heap.size, 0, none⟩) 0 0).ownBlock ≠ some b) fun b hb _ e => by simp [Value.ownBlock] at e; omega)
      exact h0.cellsAny
    obtain rfl : ad = ad1' := by simpa using ha1
    have HX1 := Lib.hid X1
    have HX2 := Lib.hid X2
    have HX3 := Lib.hid X3
    have HXL := Lib.hid (show xs.length = m * 3 by rw [X1.len, HM.out])
    have hnil : BdM w4.heap.size (w4.alloc (.cells #[] 44)) (.slice (some ⟨w4.heap.size, 0, none⟩) 0 0) [] := BdM.nil (Nat.le_refl _) (heap_alloc_new w4 _) rfl
    obtain ⟨xs0, ho0, hv0⟩ := hnil
    obtain rfl : xs0 = [] := hv0
    have HO0 := Lib.hid ho0
    clear X1 X2 X3 ha1 ho0
    go_wp2_with (first | (at_builtin; refine wpList_append_own_at _ rfl (.tmp 26) (.tmp 27) 23 rfl w4.heap.size 44 i0 _ 3 48 Try.underlying23 HI.out Z0.out Z1.out Z2.out rfl (by omega) (.slice (some ⟨w4.heap.size, 0, none⟩) 0 0) 0 [] rfl HO0.out ad m p0 xs rfl HXL.out HX2.out HX3.out (by unfold maxLen; omega) (by omega) (by simp) ?_) | fail)
    intro v5 w5 hown hgrow _ hat
    have hM5 : BdM w4.heap.size w5 v5 bs := by
      have := BdM.push (B := w4.heap.size) (W := w4.alloc (.cells #[] 44)) (w2 := w5) (v := .slice (some ⟨w4.heap.size, 0, none⟩) 0 0) (v' := v5) (bs := []) (cs := bs) (xs := []) (ys := xs) rfl HX1.out (by simpa [HM.out] using hown) hgrow (by simpa using hat)
      simpa using this
    have hb45 : Below w4.heap.size w4 w5 := Below.grown bal1 hgrow (by simp) (fun k hk => by simp [Value.ownBlock] at hk; omega)
    obtain ⟨c5, q5, rfl⟩ := hM5.shape
    obtain ⟨xs5, ho5, hv5⟩ := hM5
    have hlt5 := fun k hk => (ho5.lt k hk)
    obtain ⟨ad2', ys, ha2, Y1, Y2, Y3⟩ : ∃ ad' ys, some ad2 = some ad' ∧ BdVals (fun b => (Value.slice c5 bs.length q5).ownBlock ≠ some b) w5 cs ys ∧ (∀ j u, ys[j]? = some u → w5.cell? (ad'.add j) = some u) ∧ ∀ u ∈ ys, u.oneCell' = true := by
      have h0 := ((HV2.out.below hb24).old.below hb45).move (.weaken (G := fun b => (Value.slice c5 bs.length q5).ownBlock ≠ some b) fun b hb _ e => by have := (hlt5 b e).1; omega)
      exact h0.cellsAny
    obtain rfl : ad2 = ad2' := by simpa using ha2
    have HY1 := Lib.hid Y1
    have HY2 := Lib.hid Y2
    have HY3 := Lib.hid Y3
    have HYL := Lib.hid (show ys.length = l * 3 by rw [Y1.len, HL.out])
    rw [HM.out] at ho5 hv5 hlt5 HY1 ⊢
    have HO5 := Lib.hid ho5
    have HV5 := Lib.hid hv5
    have z5 := hb45.size
    have hb25 := bstep hb24 hb45
    have HLT5 := Lib.hid hlt5
    clear Y1 Y2 Y3 ha2 ho5 hv5 hown hgrow hat hlt5
    go_wp2_with (first | (at_builtin; refine wpList_append_own_at _ rfl (.tmp 28) (.tmp 29) 23 rfl w4.heap.size 44 i0 _ 3 48 Try.underlying23 HI.out Z0.out Z1.out Z2.out rfl (by omega) (.slice c5 m q5) m xs5 rfl HO5.out ad2 l p1 ys rfl HYL.out HY2.out HY3.out (by unfold maxLen; omega) (by omega) (by omega) ?_) | fail)
    intro v6 w6 hown hgrow _ hat
    have hM6 : BdM w4.heap.size w6 v6 (bs ++ cs) := BdM.push (W := w5) (v := .slice c5 m q5) HV5.out HY1.out (by rw [HM.out, HL.out]; exact hown) hgrow hat
    have hb56 : Below w4.heap.size w4 w6 := Below.grown hb45 hgrow (by omega) (fun k hk => (HLT5.out k hk).1)
    obtain ⟨c6, q6, rfl⟩ := hM6.shape
    have HR6 := Lib.hid hM6.rep
    have hlen : (bs ++ cs).length = m + l := by rw [List.length_append, HM.out, HL.out]
    rw [hlen] at HR6 ⊢
    have hb26 := bstep hb24 hb56
    have hd6 : decide (((m + l : Nat) : Int) > 12) = false := by simp; omega
    have C4 := Lib.hid (fun W (h : Below w6.heap.size w6 W) => HPQ.out ▸ implCtxValid _ (bs ++ cs) _ W (HR6.out.below h))
    clear hM6 hown hgrow hat hlen
    go_wp2_with fail
    refine (C3.out _ hb26).mono ?_
    rintro e w7 ⟨rfl, hb7⟩
    go_wp2_with fail
    refine (C4.out _ hb7).mono ?_
    rintro e w8 ⟨rfl, hb8⟩
    go_wp2_with fail
    go_ret
    exact ⟨rfl, bstep hB2 (bstep (bstep hb26 hb7) hb8)⟩
end Go.Proofs.Ytgbjoalpjoihmaa
