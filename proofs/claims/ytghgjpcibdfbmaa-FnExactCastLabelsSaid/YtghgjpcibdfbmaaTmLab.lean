/-
  The labels of a term with casts, by the reference.
-/
import Derived.Test.YtghgjpcibdfbmaaTmLabS
import Derived.Test.YtghgjpcibdfbmaaK5
namespace Go.Proofs.Ytghgjpcibdfbmaa
open Go.RowKit
set_option linter.unusedVariables false
set_option linter.unusedSimpArgs false
set_option maxRecDepth 100000

def LabC (F : Nat → Prop) (B : Nat) (t : Tm) : Prop := ∀ (l : List Int) (n : Nat) (v y : Value) (w : World), w.ownsRow B 3 1 v n (l.map (Value.int .i64)) → TmRep F w t y → n + t.casts.length ≤ 100000 → B ≤ w.heap.size →
    Calls Try.prog 63 #[v, y] w fun e w' => ∃ v', e = .returned v' ∧ w'.ownsRow B 3 1 v' (t.labs l).length ((t.labs l).map (Value.int .i64)) ∧ Below w.heap.size w w'
set_option maxHeartbeats 8000000 in
theorem specL4LabelsStep (F : Nat → Prop) (B : Nat) (t : Tm) (IH0 : ∀ t' ∈ t.kids, LabC F B t') : LabC F B t := by
  intro l0 n v y w hown hy hln hBw
  have hl : l0.length = n := by have := hown.1; simpa using this
  obtain ⟨k, nm, u, tk, ta, tn, tq, fk, fa, fn, fq, l, c, m, q, rfl⟩ := hy.shape
  obtain ⟨r1, r2, r3, r4, r5, r6, r7, r8, r9, rn, rm, rq, hty, hsr, hks⟩ := hy.parts
  obtain ⟨lv, lq, rfl⟩ := ownsRow_shape hown
  cases t with | mk kk n' uu tt ff ll ts =>
  simp only [Tm.kind, Tm.name, Tm.num, Tm.type, Tm.src, Tm.label, Tm.kids] at *
  subst r1 r2 r3 r8
  obtain ⟨R, hR⟩ : ∃ R, (Tm.mk k nm u tt ff l ts).labs l0 = R := ⟨_, rfl⟩
  rw [hR]
  unfold Tm.labs at hR
  unfold Tm.casts at hln
  rw [List.length_append] at hln
  have HN := Lib.hid r9
  have IHH := Lib.hid IH0
  have HOWN := Lib.hid hown
  unfold maxLen at rq
  clear IH0 hy r9 r4 r5 r6 r7 rn hty hsr hown
  by_cases hk : k = 14
  · subst hk
    have hR2 : Tm.labss ts (sins l l0) = R := hR
    have hln2 : n + 1 + (Tm.castss ts).length ≤ 100000 := by simpa [Nat.add_assoc] using hln
    have HR := Lib.hid hR2
    have HLN := Lib.hid hln2
    have hsl := sins_len l l0
    rw [hl] at hsl
    have HSL := Lib.hid hsl
    have hS := fun W (h : Below w.heap.size w W) => specL4Sorted B l0 n l (.slice lv n lq) W (ownsRow_below HOWN.out h) (by omega) (by have := h.size; omega)
    have HS := Lib.hid hS
    clear hR hR2 hln hln2 hsl hS
    go_enter Try.func63, Try.ntmps63
    go_wp2_with fail
    refine (HS.out _ bal1).mono ?_
    rintro e w1 ⟨v1, rfl, ho1, hb1⟩
    have HO1 := Lib.hid ho1
    have g8 : w1.cell? ⟨w.heap.size, 8, none⟩ = some (.slice c m q) := bcell hb1 (cell_n0 8)
    have HB := Lib.hid (bstep bal1 hb1)
    clear ho1 hb1
    go_wp2_with fail
    go_loopw [5, 0] (fun i o wr => ∃ j : Nat, j ≤ m ∧ i = .int .i64 j ∧ (∃ ov, ov = o ∧ Hid (wr.ownsRow B 3 1 ov (Tm.labss (ts.take j) (sins l l0)).length ((Tm.labss (ts.take j) (sins l l0)).map (Value.int .i64)))) ∧ wr.cell? ⟨w.heap.size, 8, none⟩ = some (.slice c m q) ∧ Hid (Below w.heap.size w wr)) (fun i _ _ => m - (intOf i).toNat)
    case atStart => exact ⟨0, by omega, rfl, ⟨_, rfl, by simpa [Hid, Tm.labss] using (HO1.out)⟩, g8, HB.out⟩
    case round =>
      obtain ⟨j, hj, rfl, ⟨ov, rfl, hown⟩, x8, hbw⟩ := hrel
      obtain ⟨cv, qv, rfl⟩ := ownsRow_shape hown.out
      have lx8 := World.block_lt_of_cell? _ _ x8
      by_cases hlt : j < m
      · have hjt : j < ts.length := by rw [← HN.out]; exact hlt
        obtain ⟨b, off, k0, nm0, u0, tk0, ta0, tn0, tq0, fk0, fa0, fn0, fq0, l0', a0, m0, q0, rfl, lb9, e0, e1, e2, e3, e4, e5, e6, e7, e8, ht⟩ := hks.at hbw.out hjt
        have hlen : (Tm.labss (ts.take j) (sins l l0)).length + ts[j].casts.length ≤ 100000 := by
          have h1 := Tm.labss_len (ts.take j) (sins l l0)
          have h2 := Tm.castss_take_le ts (j + 1)
          rw [Tm.castss_take_succ ts j hjt, List.length_append] at h2
          have h3 := HLN.out
          have h4 : (sins l l0).length ≤ (n + 1) := by have := HSL.out; omega
          omega
        have HC := Lib.hid (IHH.out ts[j] (List.getElem_mem hjt) (Tm.labss (ts.take j) (sins l l0)) _ _ _ wr hown.out ht hlen (by have := hbw.out.size; omega))
        have hts := Tm.labss_take_succ ts (sins l l0) j hjt
        generalize ts[j].labs (Tm.labss (ts.take j) (sins l l0)) = gl at HC hts
        have HTS := Lib.hid hts
        obtain ⟨NN, hNN⟩ : ∃ x, (Tm.labss (ts.take j) (sins l l0)).length = x := ⟨_, rfl⟩
        rw [hNN] at HC ⊢
        clear ht hts hown hlen hNN
        go_wp2_with fail
        refine HC.out.mono ?_
        rintro e w4 ⟨v4, rfl, ho4, hb4⟩
        have HO4 := Lib.hid ho4
        clear ho4
        go_wp2_with fail
        go_roundw
        case rel => exact ⟨j + 1, by omega, by go_num, ⟨_, rfl, by unfold Hid; rw [HTS.out]; exact HO4.out⟩, bcell hb4 x8, bstep hbw.out hb4⟩
        case measure => simp [intOf]; omega
      · have hje : ts.take j = ts := List.take_of_length_le (by have := HN.out; omega)
        have ho := hown.out
        rw [hje, HR.out] at ho
        have HO := Lib.hid ho
        obtain ⟨NN, hNN⟩ : ∃ x, (Tm.labss (ts.take j) (sins l l0)).length = x := ⟨_, rfl⟩
        rw [hje, HR.out] at hNN
        have hNN2 : (Tm.labss (ts.take j) (sins l l0)).length = NN := by rw [hje, HR.out]; exact hNN
        rw [hNN] at HO
        have HNN := Lib.hid hNN
        rw [hNN2]
        clear ho hown hje hNN hNN2
        go_wp2_with fail
        go_ret
        exact ⟨_, rfl, by rw [HNN.out]; exact (show wr.ownsRow B 3 1 _ NN (R.map (Value.int .i64)) from by first | exact HO.out | (rw [← HNN.out]; exact HO.out)), hbw.out⟩
  · have hk' : (k == 14) = false := by simpa using hk
    have hR2 : Tm.labss ts l0 = R := by rw [← hR, hk']; rfl
    have hln2 : n + (Tm.castss ts).length ≤ 100000 := by rw [hk'] at hln; simpa using hln
    have HR := Lib.hid hR2
    have HLN := Lib.hid hln2
    clear hR hR2 hln hln2 hk
    go_enter Try.func63, Try.ntmps63
    go_wp2_with fail
    obtain ⟨w1, hw1⟩ : ∃ x, w.alloc (.cells #[.int .i64 k, .string nm, .int .i64 u, .int .i64 tk, .slice ta tn tq, .int .i64 fk, .slice fa fn fq, .int .i64 l, .slice c m q] 36) = x := ⟨_, rfl⟩
    have HB := Lib.hid (show Below w.heap.size w w1 from hw1 ▸ bal1)
    have g8 : w1.cell? ⟨w.heap.size, 8, none⟩ = some (.slice c m q) := hw1 ▸ cell_n0 8
    have HO1 := Lib.hid (ownsRow_below HOWN.out HB.out)
    rw [hw1]
    clear hw1
    go_loopw [5, 0] (fun i o wr => ∃ j : Nat, j ≤ m ∧ i = .int .i64 j ∧ (∃ ov, ov = o ∧ Hid (wr.ownsRow B 3 1 ov (Tm.labss (ts.take j) l0).length ((Tm.labss (ts.take j) l0).map (Value.int .i64)))) ∧ wr.cell? ⟨w.heap.size, 8, none⟩ = some (.slice c m q) ∧ Hid (Below w.heap.size w wr)) (fun i _ _ => m - (intOf i).toNat)
    case atStart => exact ⟨0, by omega, rfl, ⟨_, rfl, by simpa [Hid, Tm.labss] using (by rw [hl]; exact HO1.out)⟩, g8, HB.out⟩
    case round =>
      obtain ⟨j, hj, rfl, ⟨ov, rfl, hown⟩, x8, hbw⟩ := hrel
      obtain ⟨cv, qv, rfl⟩ := ownsRow_shape hown.out
      have lx8 := World.block_lt_of_cell? _ _ x8
      by_cases hlt : j < m
      · have hjt : j < ts.length := by rw [← HN.out]; exact hlt
        obtain ⟨b, off, k0, nm0, u0, tk0, ta0, tn0, tq0, fk0, fa0, fn0, fq0, l0', a0, m0, q0, rfl, lb9, e0, e1, e2, e3, e4, e5, e6, e7, e8, ht⟩ := hks.at hbw.out hjt
        have hlen : (Tm.labss (ts.take j) l0).length + ts[j].casts.length ≤ 100000 := by
          have h1 := Tm.labss_len (ts.take j) l0
          have h2 := Tm.castss_take_le ts (j + 1)
          rw [Tm.castss_take_succ ts j hjt, List.length_append] at h2
          have h3 := HLN.out
          have h4 : l0.length ≤ n := by omega
          omega
        have HC := Lib.hid (IHH.out ts[j] (List.getElem_mem hjt) (Tm.labss (ts.take j) l0) _ _ _ wr hown.out ht hlen (by have := hbw.out.size; omega))
        have hts := Tm.labss_take_succ ts l0 j hjt
        generalize ts[j].labs (Tm.labss (ts.take j) l0) = gl at HC hts
        have HTS := Lib.hid hts
        obtain ⟨NN, hNN⟩ : ∃ x, (Tm.labss (ts.take j) l0).length = x := ⟨_, rfl⟩
        rw [hNN] at HC ⊢
        clear ht hts hown hlen hNN
        go_wp2_with fail
        refine HC.out.mono ?_
        rintro e w4 ⟨v4, rfl, ho4, hb4⟩
        have HO4 := Lib.hid ho4
        clear ho4
        go_wp2_with fail
        go_roundw
        case rel => exact ⟨j + 1, by omega, by go_num, ⟨_, rfl, by unfold Hid; rw [HTS.out]; exact HO4.out⟩, bcell hb4 x8, bstep hbw.out hb4⟩
        case measure => simp [intOf]; omega
      · have hje : ts.take j = ts := List.take_of_length_le (by have := HN.out; omega)
        have ho := hown.out
        rw [hje, HR.out] at ho
        have HO := Lib.hid ho
        obtain ⟨NN, hNN⟩ : ∃ x, (Tm.labss (ts.take j) l0).length = x := ⟨_, rfl⟩
        rw [hje, HR.out] at hNN
        have hNN2 : (Tm.labss (ts.take j) l0).length = NN := by rw [hje, HR.out]; exact hNN
        rw [hNN] at HO
        have HNN := Lib.hid hNN
        rw [hNN2]
        clear ho hown hje hNN hNN2
        go_wp2_with fail
        go_ret
        exact ⟨_, rfl, by rw [HNN.out]; exact (show wr.ownsRow B 3 1 _ NN (R.map (Value.int .i64)) from by first | exact HO.out | (rw [← HNN.out]; exact HO.out)), hbw.out⟩
theorem specL4Labels (F : Nat → Prop) (B : Nat) (t : Tm) : LabC F B t :=
  specL4LabelsStep F B t (fun t' ht => specL4Labels F B t')
termination_by SizeOf.sizeOf t
decreasing_by exact Tm.kid_lt ht
set_option maxHeartbeats 4000000 in
theorem specCastLabels (F : Nat → Prop) (t : Tm) (y : Value) (w : World) (hy : TmRep F w t y) :
    Calls Try.prog 18 #[y] w (RetInts t.labels w) := by
  have hv := fun W (h : Below w.heap.size w W) => specCastValid F t y W (hy.below h)
  have hL := fun (hok : t.castValid = true) W (h : Below w.heap.size w W) v (ho : W.ownsRow w.heap.size 3 1 v 0 (([] : List Int).map (Value.int .i64))) => specL4Labels F w.heap.size t [] 0 v y W ho (hy.below h) (by have := Tm.casts_ok hok; omega) h.size
  unfold Tm.labels
  obtain ⟨k, nm, u, tk, ta, tn, tq, fk, fa, fn, fq, l, c, m, q, rfl⟩ := hy.shape
  generalize t.labs [] = us at *
  generalize t.castValid = v at *
  have HV := Lib.hid hv
  have HL := Lib.hid hL
  clear hv hL hy
  cases v
  · simp only [Bool.false_eq_true, if_false]
    go_enter Try.func18, Try.ntmps18
    go_wp2_with fail
    refine (HV.out _ bal1).mono ?_
    rintro e w1 ⟨rfl, hb1⟩
    go_wp2_with fail
    go_ret
    exact ⟨_, rfl, ⟨[], IntsOwn.nilv (by unfold maxLen; omega), List.nodup_nil, by simp⟩, bstep (bstep bal1 hb1) bal1⟩
  · simp only [if_true]
    go_enter Try.func18, Try.ntmps18
    go_wp2_with fail
    refine (HV.out _ bal1).mono ?_
    rintro e w1 ⟨rfl, hb1⟩
    have c0 : w1.cell? ⟨w.heap.size, 0, none⟩ = some (.int .i64 k) := bcell hb1 (cell_n0 0)
    have c1 : w1.cell? ⟨w.heap.size, 1, none⟩ = some (.string nm) := bcell hb1 (cell_n0 1)
    have c2 : w1.cell? ⟨w.heap.size, 2, none⟩ = some (.int .i64 u) := bcell hb1 (cell_n0 2)
    have c3 : w1.cell? ⟨w.heap.size, 3, none⟩ = some (.int .i64 tk) := bcell hb1 (cell_n0 3)
    have c4 : w1.cell? ⟨w.heap.size, 4, none⟩ = some (.slice ta tn tq) := bcell hb1 (cell_n0 4)
    have c5 : w1.cell? ⟨w.heap.size, 5, none⟩ = some (.int .i64 fk) := bcell hb1 (cell_n0 5)
    have c6 : w1.cell? ⟨w.heap.size, 6, none⟩ = some (.slice fa fn fq) := bcell hb1 (cell_n0 6)
    have c7 : w1.cell? ⟨w.heap.size, 7, none⟩ = some (.int .i64 l) := bcell hb1 (cell_n0 7)
    have c8 : w1.cell? ⟨w.heap.size, 8, none⟩ = some (.slice c m q) := bcell hb1 (cell_n0 8)
    have lg := World.block_lt_of_cell? _ _ c0
    have HB1 := Lib.hid (bstep (bstep bal1 hb1) (bal1 (o := .cells #[] 3)))
    have hz1 : w.heap.size + 1 ≤ w1.heap.size := by have := hb1.size; simp at this; omega
    go_wp2_with fail
    refine (HL.out (by simp) _ HB1.out _ (ownsRow_empty (by omega) (heap_alloc_new w1 _))).mono ?_
    rintro e w2 ⟨v2, rfl, ho2, hb2⟩
    have HO2 := Lib.hid ho2
    have HB2 := Lib.hid (bstep HB1.out hb2)
    obtain ⟨c2', q2', rfl⟩ := ownsRow_shape ho2
    clear ho2 hb2
    go_wp2_with fail
    go_ret
    obtain ⟨fp, h1, h2, h3⟩ := IntsOwn.of_row HO2.out
    exact ⟨_, rfl, ⟨fp, h1, h2, h3⟩, HB2.out⟩
theorem Tm.labels_len (t : Tm) : t.labels.length ≤ 1048576 := by
  unfold Tm.labels
  split
  · rename_i h
    have h1 := t.labs_len []
    have h2 := Tm.casts_ok h
    simp at h1
    omega
  · simp
end Go.Proofs.Ytghgjpcibdfbmaa
