/-
  The types of a term as a list, by the reference.
-/
import Derived.Test.YtpckgpndaligbaaTmTys
namespace Go.Proofs.Ytpckgpndaligbaa
open Go.RowKit
set_option linter.unusedVariables false
set_option linter.unusedSimpArgs false
set_option maxRecDepth 100000

theorem AccNew.ownlt {B n size : Nat} {e : TypeId} {w : World} {v : Value} {rows : List (List C)} (h : AccNew B e size w v n rows) : ∀ g, v.ownBlock = some g → B ≤ g ∧ g < w.heap.size := by
  obtain ⟨xs, fps, h1, -⟩ := h
  exact fun g e => h1.lt g e
theorem gtrans {w W w3 : World} {o : Option Nat} (hb : Below w.heap.size w W) (hg : W.grownBy w3 o) : w.grownBy w3 o :=
  ⟨hg.os.trans hb.os, hg.tape.trans hb.tape, hg.output.trans hb.output, Nat.le_trans hb.size hg.size, fun k hk hn => (hg.block k (Nat.lt_of_lt_of_le hk hb.size) hn).trans (hb.block k hk)⟩
theorem gbelow {w W : World} {o : Option Nat} (hb : Below w.heap.size w W) : w.grownBy W o := ⟨hb.os, hb.tape, hb.output, hb.size, fun k hk _ => hb.block k hk⟩
theorem gthen {w wr w1 : World} {o p : Option Nat} (h : w.grownBy wr o) (hg : wr.grownBy w1 p) (hp : ∀ g, p = some g → o = some g ∨ w.heap.size + 1 ≤ g) : w.grownBy w1 o :=
  ⟨hg.os.trans h.os, hg.tape.trans h.tape, hg.output.trans h.output, Nat.le_trans h.size hg.size, fun k hk hn => (hg.block k (Nat.lt_of_lt_of_le hk h.size) (fun e => by
    rcases hp k e.symm with h1 | h1
    · exact hn h1.symm
    · omega)).trans (h.block k hk hn)⟩
set_option maxHeartbeats 8000000 in
theorem specL2Types (F : Nat → Prop) (B : Nat) (hF : ∀ b, F b → b < B) (t : Tm) : ∀ (_ : ∀ x ∈ t.tys, x.cnt ≤ 1048576) (os : List Ty) (n : Nat) (_ : os.length = n) (_ : n + t.tys.length ≤ 1000001) (v y : Value) (w : World), TmRep F w t y → B ≤ w.heap.size → AccNew B 25 2 w v n (Ty.rows os) →
    Calls Try.prog 36 #[v, y] w (fun e w' => ∃ v', e = .returned v' ∧ AccNew B 25 2 w' v' (n + t.tys.length) (Ty.rows (os ++ t.tys)) ∧ w.grownBy w' v.ownBlock ∧ (∀ g, v'.ownBlock = some g → v.ownBlock = some g ∨ w.heap.size ≤ g)) := by
  intro hcnt os n hos hlen v y w hy hBw hacc
  have IH : ∀ t' ∈ t.kids, ∀ (_ : ∀ x ∈ t'.tys, x.cnt ≤ 1048576) (os : List Ty) (n : Nat) (_ : os.length = n) (_ : n + t'.tys.length ≤ 1000001) (v y : Value) (W : World), TmRep F W t' y → B ≤ W.heap.size → AccNew B 25 2 W v n (Ty.rows os) → Calls Try.prog 36 #[v, y] W (fun e W' => ∃ v', e = .returned v' ∧ AccNew B 25 2 W' v' (n + t'.tys.length) (Ty.rows (os ++ t'.tys)) ∧ W.grownBy W' v.ownBlock ∧ (∀ g, v'.ownBlock = some g → v.ownBlock = some g ∨ W.heap.size ≤ g)) :=
    fun t' ht a os n b c v y W d e f => specL2Types F B hF t' a os n b c v y W d e f
  have hv0 := hacc.ownlt
  obtain ⟨cv, qv, rfl⟩ := hacc.shape
  obtain ⟨k, nm, u, tk, ta, tn, tq, fk, fa, fn, fq, l, c, m, q, rfl⟩ := hy.shape
  obtain ⟨r1, r2, r3, r4, r5, r6, r7, r8, r9, rn, rm, rq, hty, hsr, hks⟩ := hy.parts
  obtain ⟨i0, hi, hz0, hz1, hz2⟩ := info_parts Try.infoTy
  cases t with | mk kk nn uu tt ff ll ts =>
  simp only [Tm.kind, Tm.name, Tm.num, Tm.type, Tm.src, Tm.label, Tm.kids] at *
  subst r1 r2 r3 r8
  have hl2 : n + (if hasT k then 1 else 0) + (Tm.tyss ts).length ≤ 1000001 := by unfold Tm.tys at hlen; rw [List.length_append] at hlen; split at hlen <;> simp_all <;> omega
  have hc2 : ∀ x ∈ Tm.tyss ts, x.cnt ≤ 1048576 := fun x hx => hcnt x (by unfold Tm.tys; exact List.mem_append_right _ hx)
  have hct : hasT k = true → tt.cnt ≤ 1048576 := fun h => hcnt tt (by unfold Tm.tys; rw [if_pos h]; simp)
  have hnl : n ≤ 1000001 := by omega
  have HNL0 := Lib.hid hl2
  have HCNT := Lib.hid hc2
  have HCT := Lib.hid hct
  have HN := Lib.hid r9
  have IHH := Lib.hid IH
  have Z0 := Lib.hid hz0
  have Z1 := Lib.hid hz1
  have Z2 := Lib.hid hz2
  have HI := Lib.hid hi
  have HF := Lib.hid hF
  have HV0 := Lib.hid hv0
  have HACC00 := Lib.hid hacc
  have HOS := Lib.hid hos
  have HNL := Lib.hid hnl
  unfold maxLen at rq
  unfold Tm.tys
  clear hl2 hc2 hct IH hy r9 r4 r5 r6 r7 rn hsr hlen hcnt hz0 hz1 hz2 hi hv0 hacc hos hnl hF
  by_cases hk : hasT k = true
  · rw [if_pos hk]
    have HLEN : Hid (n + 1 + (Tm.tyss ts).length ≤ 1000001) := Lib.hid (by have := HNL0.out; rw [if_pos hk] at this; exact this)
    obtain ⟨TL, hTL⟩ : ∃ x, [tt] ++ Tm.tyss ts = x := ⟨_, rfl⟩
    rw [hTL]
    have HTL := Lib.hid hTL
    clear hTL
    have HK := Lib.hid hk
    have hk5 : k = 5 ∨ k = 13 := by unfold hasT at hk; simpa using hk
    clear hk
    rcases hk5 with rfl | rfl
    · skip
      go_enter Try.func36, Try.ntmps36
      go_wp2_with fail
      refine (specL1Copy F tt _ _ (hty.below bal1) (HCT.out HK.out)).mono ?_
      rintro e w2 ⟨v2, rfl, hv2, hb2⟩
      obtain ⟨k2, c2, m2, q2, fp2, rfl, -, -, hs2, hd2, hx2⟩ := hv2.open
      have c8b : w2.cell? ⟨w.heap.size, 8, none⟩ = some (.slice c m q) := bcell hb2 (cell_n0 8)
      have hbz2 := hb2.size
      simp at hbz2
      have lw2 : w.heap.size < w2.heap.size := by omega
      have hB2 := bstep bal1 hb2
      obtain ⟨xs, fps, ho, hl, hs, hd, hfp⟩ := HACC00.out
      have hlt1 : ∀ x ∈ fps, x < w.heap.size := fun x hx => SRows.lt _ _ _ hs x hx
      have hlt2 := HV0.out
      have ho' := ownsRow_below ho (bstep hB2 bal1) (w' := w2.alloc (.cells #[.int .i64 k2, .slice c2 m2 q2] 25))
      have hs' := hs.move _ _ _ fun b hb => (bstep hB2 (bal1 (o := .cells #[.int .i64 k2, .slice c2 m2 q2] 25))).block b (hlt1 b hb)
      have HB2 := Lib.hid hB2
      have HS2 := Lib.hid hs2
      have HD2 := Lib.hid hd2
      have HX2 := Lib.hid hx2
      have HO := Lib.hid ho'
      have HS := Lib.hid hs'
      have HD := Lib.hid hd
      have HL := Lib.hid hl
      have HFP := Lib.hid hfp
      have HLT1 := Lib.hid hlt1
      clear hs2 hd2 hx2 hv2 hB2 ho ho' hs hs' hd hl hfp hlt1 hlt2
      go_wp2_with (first | (at_builtin; refine wpList_append_lies _ rfl (.tmp 14) (.tmp 18) 23 rfl B 25 i0 _ 2 32 Try.underlying23 HI.out Z0.out Z1.out Z2.out rfl (by omega) (.slice cv n qv) n xs rfl HO.out ⟨w2.heap.size, 0, none⟩ 1 1 [.int .i64 k2, .slice c2 m2 q2] rfl rfl (World.news_of_block (cs := #[.int .i64 k2, .slice c2 m2 q2]) (t := 25) (fr := (0, 0)) (heap_alloc_new w2 _)) (by simp [Value.oneCell']) (by omega) (by have := HNL.out; unfold maxLen; omega) (by have := HNL.out; omega) (by simp; omega) _ rfl ?_) | fail)
      intro gg cap2 w3 hown3 hgrow hat hlt3
      have hacc0 := AccNew.pushS (W := w2.alloc (.cells #[.int .i64 k2, .slice c2 m2 q2] 25)) (rs := [tt.row]) HL.out HS.out HD.out HFP.out rfl (SRows.single (HS2.out.move _ _ _ fun b hb => heap_alloc_old w2 _ (SOwn.lt _ _ _ HS2.out b hb))) HD2.out
        (fun x hx => by
          have h1 := HX2.out x hx
          simp at h1
          exact ⟨by omega, fun e => by have := HV0.out x e; omega, fun hm => by have := HLT1.out x hm; omega⟩) hown3 hgrow (hat.elim .inl (fun h => .inr (by rw [h]; simp)))
      have hg0 : w.grownBy w3 (Value.slice cv n qv).ownBlock := gtrans (bstep HB2.out bal1) hgrow
      have c8 : w3.cell? ⟨w.heap.size, 8, none⟩ = some (.slice c m q) := (World.cell?_of_block (a := ⟨w.heap.size, 8, none⟩) (hgrow.block _ (by simp; omega) (fun e => by have := HV0.out w.heap.size e.symm; omega))).trans (bcell bal1 c8b)
      have HOWN0 := Lib.hid (show ∀ g, (Value.slice (some ⟨gg, 0, none⟩) (n + 1) cap2).ownBlock = some g → (Value.slice cv n qv).ownBlock = some g ∨ w.heap.size + 1 ≤ g from fun g e => by
        simp only [Value.ownBlock, Option.some.injEq] at e
        subst e
        rcases hat with h | h
        · exact .inl h
        · exact .inr (by omega))
      have HACC0 := Lib.hid (show AccNew B 25 2 w3 (.slice (some ⟨gg, 0, none⟩) (n + 1) cap2) (n + 1) (Ty.rows (os ++ [tt])) from by rw [Ty.rows_eq, List.map_append, ← Ty.rows_eq]; exact hacc0)
      have HG0 := Lib.hid hg0
      clear hacc0 hown3 hgrow hat c8b hg0
      go_wp2_with fail
      go_loopw [5, 0] (fun i p wr => ∃ j : Nat, j ≤ m ∧ i = .int .i64 j ∧ (∃ nn : Nat, nn = (os ++ ([tt] ++ Tm.tyss (ts.take j))).length ∧ AccNew B 25 2 wr p nn (Ty.rows (os ++ ([tt] ++ Tm.tyss (ts.take j)))) ∧ (∀ g, p.ownBlock = some g → (Value.slice cv n qv).ownBlock = some g ∨ w.heap.size + 1 ≤ g)) ∧ w.grownBy wr (Value.slice cv n qv).ownBlock ∧ wr.cell? ⟨w.heap.size, 8, none⟩ = some (.slice c m q)) (fun i _ _ => m - (intOf i).toNat)
      case atStart => exact ⟨0, by omega, rfl, ⟨n + 1, by simp [Tm.tyss, HOS.out], by simpa [Tm.tyss] using HACC0.out, HOWN0.out⟩, HG0.out, c8⟩
      case round =>
        obtain ⟨j, hj, rfl, ⟨nn, hnn, hacc, hown⟩, hgw, x8⟩ := hrel
        have hbz0 := hgw.size
        have lx := World.block_lt_of_cell? _ _ x8
        have HACC := Lib.hid hacc
        have HOWN := Lib.hid hown
        have HGW := Lib.hid hgw
        have HNN := Lib.hid hnn
        obtain ⟨cp, qp, rfl⟩ := hacc.shape
        clear hacc hown hgw hnn
        by_cases hlt : j < m
        · have hjt : j < ts.length := by have := HN.out; omega
          have hkw : TmsRep F wr ts (.slice c m q) := hks.move ⟨hbz0, fun _ h _ => h, fun b hFb hl => HGW.out.block b hl (fun e => by have h1 := HF.out b hFb; have h2 := HV0.out b e.symm; omega)⟩
          obtain ⟨b, off, k0, nm0, u0, tk0, ta0, tn0, tq0, fk0, fa0, fn0, fq0, l0, a0, m0, q0, rfl, lb, e0, e1, e2, e3, e4, e5, e6, e7, e8, ht⟩ := hkw.at (Below.refl _ _) hjt
          have hts := Tm.tyss_take_succ ts j hjt
          have htl : nn + ts[j].tys.length ≤ 1000001 := by
            have h1 := Tm.tyss_take_le ts (j + 1)
            rw [hts, List.length_append] at h1
            have := HLEN.out
            have := HNN.out
            simp only [List.length_append] at this
            have := HOS.out
            have : ([tt] : List Ty).length = 1 := rfl
            omega
          have hcall := IHH.out ts[j] (List.getElem_mem hjt) (fun x hx => HCNT.out x (Tm.tys_mem (List.getElem_mem hjt) x hx)) _ nn HNN.out.symm htl _ _ wr ht (by omega) HACC.out
          generalize ts[j].tys = us at hcall htl hts
          have HC := Lib.hid hcall
          have HTS := Lib.hid hts
          clear hcall hts hkw ht
          go_wp2_with fail
          refine HC.out.mono ?_
          rintro e w1 ⟨v1, rfl, hv1, hg1, ho1⟩
          have HV1 := Lib.hid hv1
          have HG1 := Lib.hid (gthen HGW.out hg1 HOWN.out)
          have HO1 := Lib.hid ho1
          have x8b : w1.cell? ⟨w.heap.size, 8, none⟩ = some (.slice (some ⟨b, off, none⟩) m q) := (World.cell?_of_block (a := ⟨w.heap.size, 8, none⟩) (hg1.block _ lx (fun e => by
            rcases HOWN.out w.heap.size e.symm with h1 | h1
            · have := HV0.out w.heap.size h1; omega
            · omega))).trans x8
          clear hv1 hg1 ho1
          go_wp2_with fail
          go_roundw
          case rel => exact ⟨j + 1, by omega, by go_num, ⟨nn + us.length, by rw [HTS.out, HNN.out]; simp only [List.length_append]; omega, by have h := HV1.out; rw [HTS.out]; rw [List.append_assoc, List.append_assoc] at h; exact h, fun g e => by
            rcases HO1.out g e with h1 | h1
            · exact HOWN.out g h1
            · exact .inr (by omega)⟩, HG1.out, x8b⟩
          case measure => simp [intOf]; omega
        · go_wp2_with fail
          go_ret
          have e : TL = [tt] ++ Tm.tyss (ts.take j) := HTL.out.symm.trans (by rw [List.take_of_length_le (by have := HN.out; omega)])
          have hl : n + TL.length = nn := by rw [e, HNN.out]; simp only [List.length_append]; have := HOS.out; omega
          refine ⟨_, rfl, by rw [hl, e]; exact HACC.out, HGW.out, fun g eg => (HOWN.out g eg).imp id (fun h => by omega)⟩
    · skip
      go_enter Try.func36, Try.ntmps36
      go_wp2_with fail
      refine (specL1Copy F tt _ _ (hty.below bal1) (HCT.out HK.out)).mono ?_
      rintro e w2 ⟨v2, rfl, hv2, hb2⟩
      obtain ⟨k2, c2, m2, q2, fp2, rfl, -, -, hs2, hd2, hx2⟩ := hv2.open
      have c8b : w2.cell? ⟨w.heap.size, 8, none⟩ = some (.slice c m q) := bcell hb2 (cell_n0 8)
      have hbz2 := hb2.size
      simp at hbz2
      have lw2 : w.heap.size < w2.heap.size := by omega
      have hB2 := bstep bal1 hb2
      obtain ⟨xs, fps, ho, hl, hs, hd, hfp⟩ := HACC00.out
      have hlt1 : ∀ x ∈ fps, x < w.heap.size := fun x hx => SRows.lt _ _ _ hs x hx
      have hlt2 := HV0.out
      have ho' := ownsRow_below ho (bstep hB2 bal1) (w' := w2.alloc (.cells #[.int .i64 k2, .slice c2 m2 q2] 25))
      have hs' := hs.move _ _ _ fun b hb => (bstep hB2 (bal1 (o := .cells #[.int .i64 k2, .slice c2 m2 q2] 25))).block b (hlt1 b hb)
      have HB2 := Lib.hid hB2
      have HS2 := Lib.hid hs2
      have HD2 := Lib.hid hd2
      have HX2 := Lib.hid hx2
      have HO := Lib.hid ho'
      have HS := Lib.hid hs'
      have HD := Lib.hid hd
      have HL := Lib.hid hl
      have HFP := Lib.hid hfp
      have HLT1 := Lib.hid hlt1
      clear hs2 hd2 hx2 hv2 hB2 ho ho' hs hs' hd hl hfp hlt1 hlt2
      go_wp2_with (first | (at_builtin; refine wpList_append_lies _ rfl (.tmp 14) (.tmp 18) 23 rfl B 25 i0 _ 2 32 Try.underlying23 HI.out Z0.out Z1.out Z2.out rfl (by omega) (.slice cv n qv) n xs rfl HO.out ⟨w2.heap.size, 0, none⟩ 1 1 [.int .i64 k2, .slice c2 m2 q2] rfl rfl (World.news_of_block (cs := #[.int .i64 k2, .slice c2 m2 q2]) (t := 25) (fr := (0, 0)) (heap_alloc_new w2 _)) (by simp [Value.oneCell']) (by omega) (by have := HNL.out; unfold maxLen; omega) (by have := HNL.out; omega) (by simp; omega) _ rfl ?_) | fail)
      intro gg cap2 w3 hown3 hgrow hat hlt3
      have hacc0 := AccNew.pushS (W := w2.alloc (.cells #[.int .i64 k2, .slice c2 m2 q2] 25)) (rs := [tt.row]) HL.out HS.out HD.out HFP.out rfl (SRows.single (HS2.out.move _ _ _ fun b hb => heap_alloc_old w2 _ (SOwn.lt _ _ _ HS2.out b hb))) HD2.out
        (fun x hx => by
          have h1 := HX2.out x hx
          simp at h1
          exact ⟨by omega, fun e => by have := HV0.out x e; omega, fun hm => by have := HLT1.out x hm; omega⟩) hown3 hgrow (hat.elim .inl (fun h => .inr (by rw [h]; simp)))
      have hg0 : w.grownBy w3 (Value.slice cv n qv).ownBlock := gtrans (bstep HB2.out bal1) hgrow
      have c8 : w3.cell? ⟨w.heap.size, 8, none⟩ = some (.slice c m q) := (World.cell?_of_block (a := ⟨w.heap.size, 8, none⟩) (hgrow.block _ (by simp; omega) (fun e => by have := HV0.out w.heap.size e.symm; omega))).trans (bcell bal1 c8b)
      have HOWN0 := Lib.hid (show ∀ g, (Value.slice (some ⟨gg, 0, none⟩) (n + 1) cap2).ownBlock = some g → (Value.slice cv n qv).ownBlock = some g ∨ w.heap.size + 1 ≤ g from fun g e => by
        simp only [Value.ownBlock, Option.some.injEq] at e
        subst e
        rcases hat with h | h
        · exact .inl h
        · exact .inr (by omega))
      have HACC0 := Lib.hid (show AccNew B 25 2 w3 (.slice (some ⟨gg, 0, none⟩) (n + 1) cap2) (n + 1) (Ty.rows (os ++ [tt])) from by rw [Ty.rows_eq, List.map_append, ← Ty.rows_eq]; exact hacc0)
      have HG0 := Lib.hid hg0
      clear hacc0 hown3 hgrow hat c8b hg0
      go_wp2_with fail
      go_loopw [5, 0] (fun i p wr => ∃ j : Nat, j ≤ m ∧ i = .int .i64 j ∧ (∃ nn : Nat, nn = (os ++ ([tt] ++ Tm.tyss (ts.take j))).length ∧ AccNew B 25 2 wr p nn (Ty.rows (os ++ ([tt] ++ Tm.tyss (ts.take j)))) ∧ (∀ g, p.ownBlock = some g → (Value.slice cv n qv).ownBlock = some g ∨ w.heap.size + 1 ≤ g)) ∧ w.grownBy wr (Value.slice cv n qv).ownBlock ∧ wr.cell? ⟨w.heap.size, 8, none⟩ = some (.slice c m q)) (fun i _ _ => m - (intOf i).toNat)
      case atStart => exact ⟨0, by omega, rfl, ⟨n + 1, by simp [Tm.tyss, HOS.out], by simpa [Tm.tyss] using HACC0.out, HOWN0.out⟩, HG0.out, c8⟩
      case round =>
        obtain ⟨j, hj, rfl, ⟨nn, hnn, hacc, hown⟩, hgw, x8⟩ := hrel
        have hbz0 := hgw.size
        have lx := World.block_lt_of_cell? _ _ x8
        have HACC := Lib.hid hacc
        have HOWN := Lib.hid hown
        have HGW := Lib.hid hgw
        have HNN := Lib.hid hnn
        obtain ⟨cp, qp, rfl⟩ := hacc.shape
        clear hacc hown hgw hnn
        by_cases hlt : j < m
        · have hjt : j < ts.length := by have := HN.out; omega
          have hkw : TmsRep F wr ts (.slice c m q) := hks.move ⟨hbz0, fun _ h _ => h, fun b hFb hl => HGW.out.block b hl (fun e => by have h1 := HF.out b hFb; have h2 := HV0.out b e.symm; omega)⟩
          obtain ⟨b, off, k0, nm0, u0, tk0, ta0, tn0, tq0, fk0, fa0, fn0, fq0, l0, a0, m0, q0, rfl, lb, e0, e1, e2, e3, e4, e5, e6, e7, e8, ht⟩ := hkw.at (Below.refl _ _) hjt
          have hts := Tm.tyss_take_succ ts j hjt
          have htl : nn + ts[j].tys.length ≤ 1000001 := by
            have h1 := Tm.tyss_take_le ts (j + 1)
            rw [hts, List.length_append] at h1
            have := HLEN.out
            have := HNN.out
            simp only [List.length_append] at this
            have := HOS.out
            have : ([tt] : List Ty).length = 1 := rfl
            omega
          have hcall := IHH.out ts[j] (List.getElem_mem hjt) (fun x hx => HCNT.out x (Tm.tys_mem (List.getElem_mem hjt) x hx)) _ nn HNN.out.symm htl _ _ wr ht (by omega) HACC.out
          generalize ts[j].tys = us at hcall htl hts
          have HC := Lib.hid hcall
          have HTS := Lib.hid hts
          clear hcall hts hkw ht
          go_wp2_with fail
          refine HC.out.mono ?_
          rintro e w1 ⟨v1, rfl, hv1, hg1, ho1⟩
          have HV1 := Lib.hid hv1
          have HG1 := Lib.hid (gthen HGW.out hg1 HOWN.out)
          have HO1 := Lib.hid ho1
          have x8b : w1.cell? ⟨w.heap.size, 8, none⟩ = some (.slice (some ⟨b, off, none⟩) m q) := (World.cell?_of_block (a := ⟨w.heap.size, 8, none⟩) (hg1.block _ lx (fun e => by
            rcases HOWN.out w.heap.size e.symm with h1 | h1
            · have := HV0.out w.heap.size h1; omega
            · omega))).trans x8
          clear hv1 hg1 ho1
          go_wp2_with fail
          go_roundw
          case rel => exact ⟨j + 1, by omega, by go_num, ⟨nn + us.length, by rw [HTS.out, HNN.out]; simp only [List.length_append]; omega, by have h := HV1.out; rw [HTS.out]; rw [List.append_assoc, List.append_assoc] at h; exact h, fun g e => by
            rcases HO1.out g e with h1 | h1
            · exact HOWN.out g h1
            · exact .inr (by omega)⟩, HG1.out, x8b⟩
          case measure => simp [intOf]; omega
        · go_wp2_with fail
          go_ret
          have e : TL = [tt] ++ Tm.tyss (ts.take j) := HTL.out.symm.trans (by rw [List.take_of_length_le (by have := HN.out; omega)])
          have hl : n + TL.length = nn := by rw [e, HNN.out]; simp only [List.length_append]; have := HOS.out; omega
          refine ⟨_, rfl, by rw [hl, e]; exact HACC.out, HGW.out, fun g eg => (HOWN.out g eg).imp id (fun h => by omega)⟩
  · rw [if_neg hk]
    have HLEN : Hid (n + 0 + (Tm.tyss ts).length ≤ 1000001) := Lib.hid (by have := HNL0.out; rw [if_neg hk] at this; exact this)
    obtain ⟨TL, hTL⟩ : ∃ x, ([] : List Ty) ++ Tm.tyss ts = x := ⟨_, rfl⟩
    rw [hTL]
    have HTL := Lib.hid hTL
    clear hTL
    have z5 : (k == 5) = false := by unfold hasT at hk; simp at hk; simpa using hk.1
    have z13 : (k == 13) = false := by unfold hasT at hk; simp at hk; simpa using hk.2
    clear hk
    go_enter Try.func36, Try.ntmps36
    go_wp2_with fail
    have c8 : (w.alloc (.cells #[.int .i64 k, .string nm, .int .i64 u, .int .i64 tk, .slice ta tn tq, .int .i64 fk, .slice fa fn fq, .int .i64 l, .slice c m q] 28)).cell? ⟨w.heap.size, 8, none⟩ = some (.slice c m q) := cell_n0 8
    have HACC0 := Lib.hid (show AccNew B 25 2 (w.alloc (.cells #[.int .i64 k, .string nm, .int .i64 u, .int .i64 tk, .slice ta tn tq, .int .i64 fk, .slice fa fn fq, .int .i64 l, .slice c m q] 28)) (.slice cv n qv) n (Ty.rows os) from HACC00.out.grown bal1)
    have HOWN0 := Lib.hid (show ∀ g, (Value.slice cv n qv).ownBlock = some g → (Value.slice cv n qv).ownBlock = some g ∨ w.heap.size + 1 ≤ g from fun g e => .inl e)
    have HG0 := Lib.hid (show w.grownBy (w.alloc (.cells #[.int .i64 k, .string nm, .int .i64 u, .int .i64 tk, .slice ta tn tq, .int .i64 fk, .slice fa fn fq, .int .i64 l, .slice c m q] 28)) (Value.slice cv n qv).ownBlock from gbelow bal1)
    go_loopw [5, 0] (fun i p wr => ∃ j : Nat, j ≤ m ∧ i = .int .i64 j ∧ (∃ nn : Nat, nn = (os ++ (([] : List Ty) ++ Tm.tyss (ts.take j))).length ∧ AccNew B 25 2 wr p nn (Ty.rows (os ++ (([] : List Ty) ++ Tm.tyss (ts.take j)))) ∧ (∀ g, p.ownBlock = some g → (Value.slice cv n qv).ownBlock = some g ∨ w.heap.size + 1 ≤ g)) ∧ w.grownBy wr (Value.slice cv n qv).ownBlock ∧ wr.cell? ⟨w.heap.size, 8, none⟩ = some (.slice c m q)) (fun i _ _ => m - (intOf i).toNat)
    case atStart => exact ⟨0, by omega, rfl, ⟨n, by simp [Tm.tyss, HOS.out], by simpa [Tm.tyss] using HACC0.out, HOWN0.out⟩, HG0.out, c8⟩
    case round =>
      obtain ⟨j, hj, rfl, ⟨nn, hnn, hacc, hown⟩, hgw, x8⟩ := hrel
      have hbz0 := hgw.size
      have lx := World.block_lt_of_cell? _ _ x8
      have HACC := Lib.hid hacc
      have HOWN := Lib.hid hown
      have HGW := Lib.hid hgw
      have HNN := Lib.hid hnn
      obtain ⟨cp, qp, rfl⟩ := hacc.shape
      clear hacc hown hgw hnn
      by_cases hlt : j < m
      · have hjt : j < ts.length := by have := HN.out; omega
        have hkw : TmsRep F wr ts (.slice c m q) := hks.move ⟨hbz0, fun _ h _ => h, fun b hFb hl => HGW.out.block b hl (fun e => by have h1 := HF.out b hFb; have h2 := HV0.out b e.symm; omega)⟩
        obtain ⟨b, off, k0, nm0, u0, tk0, ta0, tn0, tq0, fk0, fa0, fn0, fq0, l0, a0, m0, q0, rfl, lb, e0, e1, e2, e3, e4, e5, e6, e7, e8, ht⟩ := hkw.at (Below.refl _ _) hjt
        have hts := Tm.tyss_take_succ ts j hjt
        have htl : nn + ts[j].tys.length ≤ 1000001 := by
          have h1 := Tm.tyss_take_le ts (j + 1)
          rw [hts, List.length_append] at h1
          have := HLEN.out
          have := HNN.out
          simp only [List.length_append] at this
          have := HOS.out
          have : (([] : List Ty) : List Ty).length = 0 := rfl
          omega
        have hcall := IHH.out ts[j] (List.getElem_mem hjt) (fun x hx => HCNT.out x (Tm.tys_mem (List.getElem_mem hjt) x hx)) _ nn HNN.out.symm htl _ _ wr ht (by omega) HACC.out
        generalize ts[j].tys = us at hcall htl hts
        have HC := Lib.hid hcall
        have HTS := Lib.hid hts
        clear hcall hts hkw ht
        go_wp2_with fail
        refine HC.out.mono ?_
        rintro e w1 ⟨v1, rfl, hv1, hg1, ho1⟩
        have HV1 := Lib.hid hv1
        have HG1 := Lib.hid (gthen HGW.out hg1 HOWN.out)
        have HO1 := Lib.hid ho1
        have x8b : w1.cell? ⟨w.heap.size, 8, none⟩ = some (.slice (some ⟨b, off, none⟩) m q) := (World.cell?_of_block (a := ⟨w.heap.size, 8, none⟩) (hg1.block _ lx (fun e => by
          rcases HOWN.out w.heap.size e.symm with h1 | h1
          · have := HV0.out w.heap.size h1; omega
          · omega))).trans x8
        clear hv1 hg1 ho1
        go_wp2_with fail
        go_roundw
        case rel => exact ⟨j + 1, by omega, by go_num, ⟨nn + us.length, by rw [HTS.out, HNN.out]; simp only [List.length_append]; omega, by have h := HV1.out; rw [HTS.out]; rw [List.append_assoc, List.append_assoc] at h; exact h, fun g e => by
          rcases HO1.out g e with h1 | h1
          · exact HOWN.out g h1
          · exact .inr (by omega)⟩, HG1.out, x8b⟩
        case measure => simp [intOf]; omega
      · go_wp2_with fail
        go_ret
        have e : TL = ([] : List Ty) ++ Tm.tyss (ts.take j) := HTL.out.symm.trans (by rw [List.take_of_length_le (by have := HN.out; omega)])
        have hl : n + TL.length = nn := by rw [e, HNN.out]; simp only [List.length_append]; have := HOS.out; omega
        refine ⟨_, rfl, by rw [hl, e]; exact HACC.out, HGW.out, fun g eg => (HOWN.out g eg).imp id (fun h => by omega)⟩
termination_by SizeOf.sizeOf t
decreasing_by exact Tm.kid_lt ht
end Go.Proofs.Ytpckgpndaligbaa
