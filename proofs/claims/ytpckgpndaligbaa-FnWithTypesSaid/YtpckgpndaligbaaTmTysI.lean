/-
  The types of a term as a list, by the program.
-/
import Derived.Test.YtpckgpndaligbaaTmTys
namespace Go.Proofs.Ytpckgpndaligbaa
open Go.RowKit
set_option linter.unusedVariables false
set_option linter.unusedSimpArgs false
set_option maxRecDepth 100000

set_option maxHeartbeats 8000000 in
theorem implTypes (F : Nat → Prop) (t : Tm) : ∀ (_ : t.tys.length ≤ 1000000) (_ : ∀ x ∈ t.tys, x.cnt ≤ 1048576) (y : Value) (w : World), TmRep F w t y →
    Calls Try.prog 19 #[y] w (fun e w' => ∃ v, e = .returned v ∧ AccNew w.heap.size 25 2 w' v t.tys.length (Ty.rows t.tys) ∧ (t.tys.length = 0 → v = .slice none 0 0) ∧ Below w.heap.size w w') := by
  intro hlen hcnt y w hy
  have IH : ∀ t' ∈ t.kids, ∀ (_ : t'.tys.length ≤ 1000000) (_ : ∀ x ∈ t'.tys, x.cnt ≤ 1048576) (y : Value) (W : World), TmRep F W t' y → Calls Try.prog 19 #[y] W (fun e W' => ∃ v, e = .returned v ∧ AccNew W.heap.size 25 2 W' v t'.tys.length (Ty.rows t'.tys) ∧ (t'.tys.length = 0 → v = .slice none 0 0) ∧ Below W.heap.size W W') :=
    fun t' ht a b y W c => implTypes F t' a b y W c
  obtain ⟨k, nm, u, tk, ta, tn, tq, fk, fa, fn, fq, l, c, m, q, rfl⟩ := hy.shape
  obtain ⟨r1, r2, r3, r4, r5, r6, r7, r8, r9, rn, rm, rq, hty, hsr, hks⟩ := hy.parts
  obtain ⟨i0, hi, hz0, hz1, hz2⟩ := info_parts Try.infoTy
  cases t with | mk kk nn uu tt ff ll ts =>
  simp only [Tm.kind, Tm.name, Tm.num, Tm.type, Tm.src, Tm.label, Tm.kids] at *
  subst r1 r2 r3 r8
  have hl2 : (Tm.tyss ts).length ≤ 1000000 := by unfold Tm.tys at hlen; rw [List.length_append] at hlen; omega
  have hc2 : ∀ x ∈ Tm.tyss ts, x.cnt ≤ 1048576 := fun x hx => hcnt x (by unfold Tm.tys; exact List.mem_append_right _ hx)
  have hct : hasT k = true → tt.cnt ≤ 1048576 := fun h => hcnt tt (by unfold Tm.tys; rw [if_pos h]; simp)
  have HLEN := Lib.hid hl2
  have HCNT := Lib.hid hc2
  have HCT := Lib.hid hct
  have HN := Lib.hid r9
  have IHH := Lib.hid IH
  have Z0 := Lib.hid hz0
  have Z1 := Lib.hid hz1
  have Z2 := Lib.hid hz2
  have HI := Lib.hid hi
  unfold maxLen at rq
  unfold Tm.tys
  clear hl2 hc2 hct IH hy r9 r4 r5 r6 r7 rn hsr hlen hcnt hz0 hz1 hz2 hi
  by_cases hk : hasT k = true
  · rw [if_pos hk]
    obtain ⟨TL, hTL⟩ : ∃ x, [tt] ++ Tm.tyss ts = x := ⟨_, rfl⟩
    rw [hTL]
    have HTL := Lib.hid hTL
    clear hTL
    have HK := Lib.hid hk
    clear hk
    go_enter Try.func19, Try.ntmps19
    go_wp2_with fail
    refine (implHasType k nm u tk ta tn tq fk fa fn fq l c m q _).mono ?_
    rintro e w1 ⟨rfl, hb1⟩
    rw [HK.out]
    have c3 : w1.cell? ⟨w.heap.size, 3, none⟩ = some (.int .i64 tk) := bcell hb1 (cell_n0 3)
    have c4 : w1.cell? ⟨w.heap.size, 4, none⟩ = some (.slice ta tn tq) := bcell hb1 (cell_n0 4)
    have c8 : w1.cell? ⟨w.heap.size, 8, none⟩ = some (.slice c m q) := bcell hb1 (cell_n0 8)
    have hB1 := bstep bal1 hb1
    go_wp2_with fail
    refine (implOwnType F tt _ _ (hty.below hB1) (HCT.out HK.out)).mono ?_
    rintro e w2 ⟨v2, rfl, hv2, hb2⟩
    obtain ⟨k2, c2, m2, q2, fp2, rfl, -, -, hs2, hd2, hx2⟩ := hv2.open
    have c8b : w2.cell? ⟨w.heap.size, 8, none⟩ = some (.slice c m q) := bcell hb2 c8
    have hbz1 := hb1.size
    have hbz2 := hb2.size
    simp at hbz1
    have lw2 : w.heap.size < w2.heap.size := by omega
    have hB2 := bstep hB1 hb2
    have HB2 := Lib.hid hB2
    have HS2 := Lib.hid hs2
    have HD2 := Lib.hid hd2
    have HX2 := Lib.hid hx2
    clear hs2 hd2 hx2 hv2 c3 c4 c8 hB1 hB2
    go_wp2_with (first | (at_builtin; refine wpList_append_lies _ rfl (.tmp 8) (.tmp 12) 23 rfl (w.heap.size + 1) 25 i0 _ 2 32 Try.underlying23 HI.out Z0.out Z1.out Z2.out rfl (by omega) (.slice none 0 0) 0 [] rfl (World.ownsRow_nil _ _ _ _) ⟨w2.heap.size, 0, none⟩ 1 1 [.int .i64 k2, .slice c2 m2 q2] rfl rfl (World.news_of_block (cs := #[.int .i64 k2, .slice c2 m2 q2]) (t := 25) (fr := (0, 0)) (heap_alloc_new w2 _)) (by simp [Value.oneCell']) (by omega) (by unfold maxLen; omega) (by omega) (by simp; omega) _ rfl ?_) | fail)
    intro gg cap2 w3 hown3 hgrow hat hlt3
    have hacc0 := AccNew.pushS (W := w2.alloc (.cells #[.int .i64 k2, .slice c2 m2 q2] 25)) (rows := []) (xs := []) (fps := []) (rs := [tt.row]) rfl ⟨rfl, rfl⟩ List.nodup_nil (by simp) rfl (SRows.single (HS2.out.move _ _ _ fun b hb => heap_alloc_old w2 _ (SOwn.lt _ _ _ HS2.out b hb))) HD2.out
      (fun x hx => by have := HX2.out x hx; exact ⟨by omega, by simp [Value.ownBlock], by simp⟩) hown3 hgrow (hat.elim .inl (fun h => .inr (by rw [h]; simp)))
    have hB : Below w.heap.size w w3 := (bstep HB2.out bal1).grown hgrow (bstep HB2.out bal1).size (fun k hk => by simp [Value.ownBlock] at hk)
    have c8c : w3.cell? ⟨w.heap.size, 8, none⟩ = some (.slice c m q) := (World.cell?_of_block (a := ⟨w.heap.size, 8, none⟩) (hgrow.block _ (by simp; omega) (by simp [Value.ownBlock]))).trans (bcell bal1 c8b)
    have HACC0 := Lib.hid hacc0
    clear hacc0 hown3 hgrow hat c8b
    go_wp2_with fail
    go_loopw [17, 3] (fun i p wr => ∃ j : Nat, j ≤ m ∧ i = .int .i64 j ∧ (∃ nn : Nat, nn = ([tt] ++ Tm.tyss (ts.take j)).length ∧ (nn = 0 → p = .slice none 0 0) ∧ AccNew (w.heap.size + 1) 25 2 wr p nn (Ty.rows ([tt] ++ Tm.tyss (ts.take j)))) ∧ Below w.heap.size w wr) (fun i _ _ => m - (intOf i).toNat)
    case atStart => exact ⟨0, by omega, rfl, ⟨1, by simp [Tm.tyss], by simp, by simpa [Tm.tyss, Ty.rows] using HACC0.out⟩, hB⟩
    case round =>
      obtain ⟨j, hj, rfl, ⟨nn, hnn, hnil, hacc⟩, hbw⟩ := hrel
      have hbz0 := hbw.size
      by_cases hlt : j < m
      · have hjt : j < ts.length := by have := HN.out; omega
        obtain ⟨b, off, k0, nm0, u0, tk0, ta0, tn0, tq0, fk0, fa0, fn0, fq0, l0, a0, m0, q0, rfl, lb, e0, e1, e2, e3, e4, e5, e6, e7, e8, ht⟩ := hks.at hbw hjt
        have hcall := fun (W : World) (y : Value) (h : TmRep F W ts[j] y) => IHH.out ts[j] (List.getElem_mem hjt) (by have := Tm.tyss_take_le ts (j + 1); rw [Tm.tyss_take_succ ts j hjt, List.length_append] at this; have := HLEN.out; omega) (fun x hx => HCNT.out x (Tm.tys_mem (List.getElem_mem hjt) x hx)) y W h
        have htl : nn + ts[j].tys.length ≤ 1000001 := by
          have h1 := Tm.tyss_take_le ts (j + 1)
          rw [Tm.tyss_take_succ ts j hjt, List.length_append] at h1
          rw [hnn, List.length_append]
          have := HLEN.out
          have : ([tt] : List Ty).length ≤ 1 := by simp
          omega
        have hts := Tm.tyss_take_succ ts j hjt
        generalize ts[j].tys = us at hcall htl hts
        have HC := Lib.hid hcall
        have HTS := Lib.hid hts
        have HNN := Lib.hid hnn
        have HNIL := Lib.hid hnil
        clear hcall hts hnn hnil
        obtain ⟨cv, qv, rfl⟩ := hacc.shape
        have HACC := Lib.hid hacc
        clear hacc
        go_wp2_with fail
        refine (HC.out _ _ (ht.below bal1)).mono ?_
        rintro e w1 ⟨v1, rfl, hv1, hv1n, hb1⟩
        have hbz := hb1.size
        simp at hbz
        obtain ⟨xs, fps, ho, hl, hs, hd, hfp⟩ := HACC.out
        obtain ⟨xs1, fps1, ho1, hl1, hs1, hd1, hfp1⟩ := hv1
        have hxl := ho1.1
        obtain ⟨ml, hml⟩ : ∃ x, us.length = x := ⟨_, rfl⟩
        rw [hml] at htl ho1 hl1 hxl hv1n
        have hlt1 : ∀ x ∈ fps, x < wr.heap.size := fun x hx => SRows.lt _ _ _ hs x hx
        have hlt2 : ∀ x, (Value.slice cv nn qv).ownBlock = some x → x < wr.heap.size := fun x e => (ho.lt x e).2
        have ho' := ownsRow_below ho (bstep bal1 hb1)
        have hs' := hs.move _ _ _ fun b hb => (bstep bal1 hb1).block b (hlt1 b hb)
        have hbel := fun w2 => grown_below (w2 := w2) hbw (bstep bal1 hb1) ho (by omega)
        have HML := Lib.hid hml
        have HBEL := Lib.hid hbel
        have HO := Lib.hid ho'
        have HS := Lib.hid hs'
        have HD := Lib.hid hd
        have HL := Lib.hid hl
        have HFP := Lib.hid hfp
        have HLT1 := Lib.hid hlt1
        have HLT2 := Lib.hid hlt2
        have HO1 := Lib.hid ho1
        have HS1 := Lib.hid hs1
        have HD1 := Lib.hid hd1
        have HL1 := Lib.hid hl1
        have HFP1 := Lib.hid hfp1
        have HXL := Lib.hid hxl
        have hsl := ho1.2
        clear ho hl hs hd hfp ho1 hl1 hs1 hd1 hfp1 hlt1 hlt2 ho' hs' hbel hxl hml
        by_cases hm0 : ml = 0
        · obtain rfl := hv1n hm0
          have hus : us = [] := List.eq_nil_of_length_eq_zero (HML.out.trans hm0)
          have HUS := Lib.hid hus
          clear hsl hus hv1n
          go_wp2_with (first | (at_builtin; refine wpList_append_own_none rfl (.tmp 21) (.tmp 23) 23 rfl (w.heap.size + 1) 25 i0 2 Try.underlying23 HI.out (.slice cv nn qv) nn xs rfl HO.out rfl ?_) | fail)
          go_roundw
          case rel => exact ⟨j + 1, by omega, by go_num, ⟨nn, by rw [HTS.out, HUS.out, List.append_nil]; exact HNN.out, HNIL.out, by rw [HTS.out, HUS.out, List.append_nil]; exact ⟨xs, fps, HO.out, HL.out, HS.out, HD.out, HFP.out⟩⟩, bstep (bstep hbw bal1) hb1⟩
          case measure => simp [intOf]; omega
        · have hpos : 0 < ml := by omega
          rcases hsl with ⟨rfl, h0⟩ | ⟨g1, q1, cur, rfl, hg1, -⟩
          · exact absurd h0 hm0
          have hcells := ownsRow_cells HO1.out
          have HCE := Lib.hid hcells
          have hsz1 : w.heap.size + 1 ≤ w1.heap.size := by omega
          clear hcells hv1n
          go_wp2_with (first | (at_builtin; refine wpList_append_lies _ rfl (.tmp 21) (.tmp 23) 23 rfl (w.heap.size + 1) 25 i0 _ 2 32 Try.underlying23 HI.out Z0.out Z1.out Z2.out rfl (by omega) (.slice cv nn qv) nn xs rfl HO.out ⟨g1, 0, none⟩ ml q1 xs1 rfl HXL.out HCE.out HS1.out.one hpos (by unfold maxLen; omega) (by omega) hsz1 _ rfl ?_) | fail)
          intro gg cap2 w2 hown2 hgrow hat hlt3
          have hacc2 := AccNew.pushS HL.out HS.out HD.out HFP.out HL1.out HS1.out HD1.out (fun x hx => by
            have h1 := (HFP1.out x hx).1
            simp at h1
            exact ⟨by omega, fun e => by have := HLT2.out x e; omega, fun hm => by have := HLT1.out x hm; omega⟩) hown2 hgrow hat
          have HACC2 := Lib.hid hacc2
          have hbel2 := HBEL.out w2 hgrow
          clear hacc2 hown2 hgrow hat
          go_wp2_with fail
          go_roundw
          case rel => exact ⟨j + 1, by omega, by go_num, ⟨nn + ml, by rw [HTS.out, ← List.append_assoc, List.length_append, ← HNN.out, HML.out], by omega, by rw [HTS.out, ← List.append_assoc, Ty.rows_eq, List.map_append, ← Ty.rows_eq, ← Ty.rows_eq]; exact HACC2.out⟩, hbel2⟩
          case measure => simp [intOf]; omega
      · have HNN := Lib.hid hnn
        have HNIL := Lib.hid hnil
        have HACC := Lib.hid hacc
        clear hnn hnil hacc
        go_wp2_with fail
        go_ret
        have e : TL = [tt] ++ Tm.tyss (ts.take j) := HTL.out.symm.trans (by rw [List.take_of_length_le (by have := HN.out; omega)])
        refine ⟨_, rfl, ?_, ?_, hbw⟩
        · rw [e, ← HNN.out]; exact HACC.out.mono (by omega)
        · rw [e, ← HNN.out]; exact HNIL.out
  · rw [if_neg hk]
    obtain ⟨TL, hTL⟩ : ∃ x, ([] : List Ty) ++ Tm.tyss ts = x := ⟨_, rfl⟩
    rw [hTL]
    have HTL := Lib.hid hTL
    clear hTL
    have hkf : hasT k = false := by simpa using hk
    have HK := Lib.hid hkf
    clear hk hkf
    go_enter Try.func19, Try.ntmps19
    go_wp2_with fail
    refine (implHasType k nm u tk ta tn tq fk fa fn fq l c m q _).mono ?_
    rintro e w1 ⟨rfl, hb1⟩
    rw [HK.out]
    have c8 : w1.cell? ⟨w.heap.size, 8, none⟩ = some (.slice c m q) := bcell hb1 (cell_n0 8)
    have hB := bstep bal1 hb1
    go_wp2_with fail
    go_loopw [17, 3] (fun i p wr => ∃ j : Nat, j ≤ m ∧ i = .int .i64 j ∧ (∃ nn : Nat, nn = (([] : List Ty) ++ Tm.tyss (ts.take j)).length ∧ (nn = 0 → p = .slice none 0 0) ∧ AccNew (w.heap.size + 1) 25 2 wr p nn (Ty.rows (([] : List Ty) ++ Tm.tyss (ts.take j)))) ∧ Below w.heap.size w wr) (fun i _ _ => m - (intOf i).toNat)
    case atStart => exact ⟨0, by omega, rfl, ⟨0, by simp [Tm.tyss], fun _ => rfl, by simpa [Tm.tyss, Ty.rows] using AccNew.nil _ _ _ _⟩, hB⟩
    case round =>
      obtain ⟨j, hj, rfl, ⟨nn, hnn, hnil, hacc⟩, hbw⟩ := hrel
      have hbz0 := hbw.size
      by_cases hlt : j < m
      · have hjt : j < ts.length := by have := HN.out; omega
        obtain ⟨b, off, k0, nm0, u0, tk0, ta0, tn0, tq0, fk0, fa0, fn0, fq0, l0, a0, m0, q0, rfl, lb, e0, e1, e2, e3, e4, e5, e6, e7, e8, ht⟩ := hks.at hbw hjt
        have hcall := fun (W : World) (y : Value) (h : TmRep F W ts[j] y) => IHH.out ts[j] (List.getElem_mem hjt) (by have := Tm.tyss_take_le ts (j + 1); rw [Tm.tyss_take_succ ts j hjt, List.length_append] at this; have := HLEN.out; omega) (fun x hx => HCNT.out x (Tm.tys_mem (List.getElem_mem hjt) x hx)) y W h
        have htl : nn + ts[j].tys.length ≤ 1000001 := by
          have h1 := Tm.tyss_take_le ts (j + 1)
          rw [Tm.tyss_take_succ ts j hjt, List.length_append] at h1
          rw [hnn, List.length_append]
          have := HLEN.out
          have : (([] : List Ty) : List Ty).length ≤ 1 := by simp
          omega
        have hts := Tm.tyss_take_succ ts j hjt
        generalize ts[j].tys = us at hcall htl hts
        have HC := Lib.hid hcall
        have HTS := Lib.hid hts
        have HNN := Lib.hid hnn
        have HNIL := Lib.hid hnil
        clear hcall hts hnn hnil
        obtain ⟨cv, qv, rfl⟩ := hacc.shape
        have HACC := Lib.hid hacc
        clear hacc
        go_wp2_with fail
        refine (HC.out _ _ (ht.below bal1)).mono ?_
        rintro e w1 ⟨v1, rfl, hv1, hv1n, hb1⟩
        have hbz := hb1.size
        simp at hbz
        obtain ⟨xs, fps, ho, hl, hs, hd, hfp⟩ := HACC.out
        obtain ⟨xs1, fps1, ho1, hl1, hs1, hd1, hfp1⟩ := hv1
        have hxl := ho1.1
        obtain ⟨ml, hml⟩ : ∃ x, us.length = x := ⟨_, rfl⟩
        rw [hml] at htl ho1 hl1 hxl hv1n
        have hlt1 : ∀ x ∈ fps, x < wr.heap.size := fun x hx => SRows.lt _ _ _ hs x hx
        have hlt2 : ∀ x, (Value.slice cv nn qv).ownBlock = some x → x < wr.heap.size := fun x e => (ho.lt x e).2
        have ho' := ownsRow_below ho (bstep bal1 hb1)
        have hs' := hs.move _ _ _ fun b hb => (bstep bal1 hb1).block b (hlt1 b hb)
        have hbel := fun w2 => grown_below (w2 := w2) hbw (bstep bal1 hb1) ho (by omega)
        have HML := Lib.hid hml
        have HBEL := Lib.hid hbel
        have HO := Lib.hid ho'
        have HS := Lib.hid hs'
        have HD := Lib.hid hd
        have HL := Lib.hid hl
        have HFP := Lib.hid hfp
        have HLT1 := Lib.hid hlt1
        have HLT2 := Lib.hid hlt2
        have HO1 := Lib.hid ho1
        have HS1 := Lib.hid hs1
        have HD1 := Lib.hid hd1
        have HL1 := Lib.hid hl1
        have HFP1 := Lib.hid hfp1
        have HXL := Lib.hid hxl
        have hsl := ho1.2
        clear ho hl hs hd hfp ho1 hl1 hs1 hd1 hfp1 hlt1 hlt2 ho' hs' hbel hxl hml
        by_cases hm0 : ml = 0
        · obtain rfl := hv1n hm0
          have hus : us = [] := List.eq_nil_of_length_eq_zero (HML.out.trans hm0)
          have HUS := Lib.hid hus
          clear hsl hus hv1n
          go_wp2_with (first | (at_builtin; refine wpList_append_own_none rfl (.tmp 21) (.tmp 23) 23 rfl (w.heap.size + 1) 25 i0 2 Try.underlying23 HI.out (.slice cv nn qv) nn xs rfl HO.out rfl ?_) | fail)
          go_roundw
          case rel => exact ⟨j + 1, by omega, by go_num, ⟨nn, by rw [HTS.out, HUS.out, List.append_nil]; exact HNN.out, HNIL.out, by rw [HTS.out, HUS.out, List.append_nil]; exact ⟨xs, fps, HO.out, HL.out, HS.out, HD.out, HFP.out⟩⟩, bstep (bstep hbw bal1) hb1⟩
          case measure => simp [intOf]; omega
        · have hpos : 0 < ml := by omega
          rcases hsl with ⟨rfl, h0⟩ | ⟨g1, q1, cur, rfl, hg1, -⟩
          · exact absurd h0 hm0
          have hcells := ownsRow_cells HO1.out
          have HCE := Lib.hid hcells
          have hsz1 : w.heap.size + 1 ≤ w1.heap.size := by omega
          clear hcells hv1n
          go_wp2_with (first | (at_builtin; refine wpList_append_lies _ rfl (.tmp 21) (.tmp 23) 23 rfl (w.heap.size + 1) 25 i0 _ 2 32 Try.underlying23 HI.out Z0.out Z1.out Z2.out rfl (by omega) (.slice cv nn qv) nn xs rfl HO.out ⟨g1, 0, none⟩ ml q1 xs1 rfl HXL.out HCE.out HS1.out.one hpos (by unfold maxLen; omega) (by omega) hsz1 _ rfl ?_) | fail)
          intro gg cap2 w2 hown2 hgrow hat hlt3
          have hacc2 := AccNew.pushS HL.out HS.out HD.out HFP.out HL1.out HS1.out HD1.out (fun x hx => by
            have h1 := (HFP1.out x hx).1
            simp at h1
            exact ⟨by omega, fun e => by have := HLT2.out x e; omega, fun hm => by have := HLT1.out x hm; omega⟩) hown2 hgrow hat
          have HACC2 := Lib.hid hacc2
          have hbel2 := HBEL.out w2 hgrow
          clear hacc2 hown2 hgrow hat
          go_wp2_with fail
          go_roundw
          case rel => exact ⟨j + 1, by omega, by go_num, ⟨nn + ml, by rw [HTS.out, ← List.append_assoc, List.length_append, ← HNN.out, HML.out], by omega, by rw [HTS.out, ← List.append_assoc, Ty.rows_eq, List.map_append, ← Ty.rows_eq, ← Ty.rows_eq]; exact HACC2.out⟩, hbel2⟩
          case measure => simp [intOf]; omega
      · have HNN := Lib.hid hnn
        have HNIL := Lib.hid hnil
        have HACC := Lib.hid hacc
        clear hnn hnil hacc
        go_wp2_with fail
        go_ret
        have e : TL = ([] : List Ty) ++ Tm.tyss (ts.take j) := HTL.out.symm.trans (by rw [List.take_of_length_le (by have := HN.out; omega)])
        refine ⟨_, rfl, ?_, ?_, hbw⟩
        · rw [e, ← HNN.out]; exact HACC.out.mono (by omega)
        · rw [e, ← HNN.out]; exact HNIL.out
termination_by SizeOf.sizeOf t
decreasing_by exact Tm.kid_lt ht
end Go.Proofs.Ytpckgpndaligbaa
