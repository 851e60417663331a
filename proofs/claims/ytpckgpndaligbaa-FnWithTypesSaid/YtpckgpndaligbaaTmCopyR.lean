/-
  Copies of terms, by the reference.
-/
import Derived.Test.YtpckgpndaligbaaTmDrL
import Derived.Test.YtpckgpndaligbaaB6
import Derived.Deep.DeepCutAuto
namespace Go.Proofs.Ytpckgpndaligbaa
open Go.RowKit
set_option linter.unusedVariables false
set_option linter.unusedSimpArgs false
set_option maxRecDepth 100000


/-- A reading of one's own, from a mark on. -/
def RepTm (t : Tm) (w : World) (e : Ending) (w' : World) : Prop := ∃ v, e = .returned v ∧ TmRep (w.heap.size ≤ ·) w' t v ∧ Below w.heap.size w w'
theorem RepTm.stored {w w1 : World} {t : Tm} {v : Value} {B R : Nat} {v0 v1 v2 v3 v4 v5 v6 v7 v8 : Value} (hv : TmRep (B ≤ ·) w1 t v) (hB : w.heap.size ≤ B) (hb : Below w.heap.size w w1) (hR : w.heap.size ≤ R) (hRB : R < B) : RepTm t w (.returned v) (set9 w1 R v0 v1 v2 v3 v4 v5 v6 v7 v8) := by
  unfold set9
  exact ⟨v, rfl, ((((((((((hv.setB (by show R < B; omega) _).setB (by show R < B; omega) _).setB (by show R < B; omega) _).setB (by show R < B; omega) _).setB (by show R < B; omega) _).setB (by show R < B; omega) _).setB (by show R < B; omega) _).setB (by show R < B; omega) _).setB (by show R < B; omega) _)).lower hB, (((((((((hb.setCell (by show w.heap.size ≤ R; omega) _).setCell (by show w.heap.size ≤ R; omega) _).setCell (by show w.heap.size ≤ R; omega) _).setCell (by show w.heap.size ≤ R; omega) _).setCell (by show w.heap.size ≤ R; omega) _).setCell (by show w.heap.size ≤ R; omega) _).setCell (by show w.heap.size ≤ R; omega) _).setCell (by show w.heap.size ≤ R; omega) _).setCell (by show w.heap.size ≤ R; omega) _)⟩

set_option maxHeartbeats 8000000 in
theorem specL2CopyStep (F : Nat → Prop) (t : Tm) (y : Value) (w : World) (hy : TmRep F w t y) (hcnt : t.cnt ≤ 1048576) (IH : ∀ t' ∈ t.kids, ∀ (y : Value) (W : World), TmRep F W t' y → Calls Try.prog 30 #[y] W (RepTm t' W)) : Calls Try.prog 30 #[y] w (RepTm t w) := by
  obtain ⟨k, nm, u, tk, ta, tn, tq, fk, fa, fn, fq, l, c, m, q, rfl⟩ := hy.shape
  obtain ⟨r1, r2, r3, r4, r5, r6, r7, r8, r9, rn, rm, rq, hty, hsr, hks⟩ := hy.parts
  obtain ⟨i0, hi, hz0, hz1, hz2⟩ := info_parts Try.infoTm2
  cases t with | mk kk nn uu tt ff ll ts =>
  simp only [Tm.kind, Tm.name, Tm.num, Tm.type, Tm.src, Tm.label, Tm.kids] at *
  subst r1 r2 r3 r8
  have hparts := (Tm.mk k nm u tt ff l ts).cnt_parts
  simp only [Tm.name, Tm.type, Tm.src, Tm.kids] at hparts
  have HT := Lib.hid (fun W (h : Below w.heap.size w W) => specL1Copy F tt _ W (hty.below h) (by omega))
  have HF := Lib.hid (fun W (h : Below w.heap.size w W) => specL1Copy F ff _ W (hsr.below h) (by omega))
  have HN := Lib.hid r9
  have HRN := Lib.hid rn
  have HCL := Lib.hid (show m ≤ 1048576 by omega)
  have IHH := Lib.hid IH
  have Z0 := Lib.hid hz0
  have Z1 := Lib.hid hz1
  have Z2 := Lib.hid hz2
  have HI := Lib.hid hi
  have HKS := Lib.hid hks
  unfold maxLen at rq
  have hmq := rm
  clear IH hy r9 r4 r5 r6 r7 rn hz0 hz1 hz2 hi hty hsr hparts hcnt hks
  go_enter Try.func30, Try.ntmps30
  go_wp2_with fail
  refine (HT.out _ bal3).mono ?_
  rintro e w1 ⟨v1, rfl, hv1, hb1⟩
  obtain ⟨k1, a1, n1, q1, rfl⟩ := hv1.shape
  have hw1 := hb1.size
  simp only [World.size_alloc] at hw1
  have hX1 : w1.heap[w.heap.size]? = some (.cells #[.int .i64 k, .string nm, .int .i64 u, .int .i64 tk, .slice ta tn tq, .int .i64 fk, .slice fa fn fq, .int .i64 l, .slice c m q] 28 (0, 0)) := blk_below (blk_below (blk_below (blk_new rfl) bal1) bal1) hb1
  have hR1 : w1.heap[w.heap.size + 1]? = some (.cells #[.int .i64 0, .string { data := #[] }, .int .i64 0, .int .i64 0, .slice none 0 0, .int .i64 0, .slice none 0 0, .int .i64 0, .slice none 0 0] 28 (0, 0)) := blk_below (blk_below (blk_new (by simp)) bal1) hb1
  have hO1 : w1.heap[w.heap.size + 1 + 1]? = some (.cells #[.int .i64 k, .string nm, .int .i64 u, .int .i64 tk, .slice ta tn tq, .int .i64 fk, .slice fa fn fq, .int .i64 l, .slice c m q] 28 (0, 0)) := blk_below (blk_new (by simp)) hb1
  have hB1 := bstep bal3 hb1
  have hr1 : TyRep (w.heap.size + 1 + 1 + 1 ≤ ·) w1 tt _ := hv1.rep.lower (by simp)
  clear hv1 hb1
  have x5 : w1.cell? ⟨w.heap.size, 5, none⟩ = some (.int .i64 fk) := blk_cell hX1 rfl
  have x6 : w1.cell? ⟨w.heap.size, 6, none⟩ = some (.slice fa fn fq) := blk_cell hX1 rfl
  have o3 : w1.cell? ⟨w.heap.size + 1 + 1, 3, none⟩ = some (.int .i64 tk) := blk_cell hO1 rfl
  have o4 : w1.cell? ⟨w.heap.size + 1 + 1, 4, none⟩ = some (.slice ta tn tq) := blk_cell hO1 rfl
  have p3 : w1.frozen? ⟨w.heap.size + 1 + 1, 3, none⟩ = false := blk_fro hO1 3
  have p4 : w1.frozen? ⟨w.heap.size + 1 + 1, 4, none⟩ = false := blk_fro hO1 4
  have HB1 := Lib.hid hB1
  have HX1 := Lib.hid hX1
  have HR1 := Lib.hid hR1
  have HO1 := Lib.hid hO1
  have HTY1 := Lib.hid hr1
  clear hB1 hX1 hR1 hO1 hr1
  go_wp2_with fail
  refine (HF.out _ ((HB1.out.setCell (by show w.heap.size ≤ w.heap.size + 1 + 1; omega) _).setCell (by show w.heap.size ≤ w.heap.size + 1 + 1; omega) _)).mono ?_
  rintro e w2 ⟨v2, rfl, hv2, hb2⟩
  obtain ⟨k2, a2, n2, q2, rfl⟩ := hv2.shape
  have hw2 := hb2.size
  have hX2 : w2.heap[w.heap.size]? = some (.cells #[.int .i64 k, .string nm, .int .i64 u, .int .i64 tk, .slice ta tn tq, .int .i64 fk, .slice fa fn fq, .int .i64 l, .slice c m q] 28 (0, 0)) := blk_below (blk_ne (blk_ne HX1.out (by show w.heap.size ≠ w.heap.size + 1 + 1; omega)) (by show w.heap.size ≠ w.heap.size + 1 + 1; omega)) hb2
  have hR2 : w2.heap[w.heap.size + 1]? = some (.cells #[.int .i64 0, .string { data := #[] }, .int .i64 0, .int .i64 0, .slice none 0 0, .int .i64 0, .slice none 0 0, .int .i64 0, .slice none 0 0] 28 (0, 0)) := blk_below (blk_ne (blk_ne HR1.out (by show w.heap.size + 1 ≠ w.heap.size + 1 + 1; omega)) (by show w.heap.size + 1 ≠ w.heap.size + 1 + 1; omega)) hb2
  have hO2 : w2.heap[w.heap.size + 1 + 1]? = some (.cells #[.int .i64 k, .string nm, .int .i64 u, .int .i64 k1, .slice a1 n1 q1, .int .i64 fk, .slice fa fn fq, .int .i64 l, .slice c m q] 28 (0, 0)) := blk_below (blk_set (blk_set HO1.out rfl) rfl) hb2
  have hB2 := bstep ((HB1.out.setCell (p := ⟨w.heap.size + 1 + 1, 3, none⟩) (by show w.heap.size ≤ w.heap.size + 1 + 1; omega) (.int .i64 k1)).setCell (p := ⟨w.heap.size + 1 + 1, 4, none⟩) (by show w.heap.size ≤ w.heap.size + 1 + 1; omega) (.slice a1 n1 q1)) hb2
  have hty2 := ((HTY1.out.setB (p := ⟨w.heap.size + 1 + 1, 3, none⟩) (by show w.heap.size + 1 + 1 < _; omega) (.int .i64 k1)).setB (p := ⟨w.heap.size + 1 + 1, 4, none⟩) (by show w.heap.size + 1 + 1 < _; omega) (.slice a1 n1 q1)).below hb2
  have hsr2 : TyRep (w.heap.size + 1 + 1 + 1 ≤ ·) w2 ff _ := hv2.rep.lower (by simp [World.setCell]; omega)
  have hs2 : w.heap.size + 1 + 1 + 1 ≤ w2.heap.size := by simp [World.setCell] at hw2; omega
  clear hv2 hb2 x5 x6 o3 o4 p3 p4 HB1 HX1 HR1 HO1 HTY1 hw1 hw2
  have o5 : w2.cell? ⟨w.heap.size + 1 + 1, 5, none⟩ = some (.int .i64 fk) := blk_cell hO2 rfl
  have o6 : w2.cell? ⟨w.heap.size + 1 + 1, 6, none⟩ = some (.slice fa fn fq) := blk_cell hO2 rfl
  have o8 : w2.cell? ⟨w.heap.size + 1 + 1, 8, none⟩ = some (.slice c m q) := blk_cell hO2 rfl
  have p5 : w2.frozen? ⟨w.heap.size + 1 + 1, 5, none⟩ = false := blk_fro hO2 5
  have p6 : w2.frozen? ⟨w.heap.size + 1 + 1, 6, none⟩ = false := blk_fro hO2 6
  have p8 : w2.frozen? ⟨w.heap.size + 1 + 1, 8, none⟩ = false := blk_fro hO2 8
  have HX2 := Lib.hid hX2
  have HR2 := Lib.hid hR2
  have HO2 := Lib.hid hO2
  have HB2 := Lib.hid hB2
  have HTY2 := Lib.hid hty2
  have HSR2 := Lib.hid hsr2
  clear hX2 hR2 hO2 hB2 hty2 hsr2
  go_wp2_with fail
  obtain ⟨B2, hB2⟩ : ∃ x, w2.heap.size = x := ⟨_, rfl⟩
  rw [hB2] at hs2
  have K0 : ∀ (t : Ty) (v : Value), TyRep (w.heap.size + 1 + 1 + 1 ≤ ·) w2 t v → TyRep (fun b => w.heap.size + 1 + 1 + 1 ≤ b ∧ b < B2) (((w2.setCell ⟨w.heap.size + 1 + 1, 5, none⟩ (.int .i64 k2)).setCell ⟨w.heap.size + 1 + 1, 6, none⟩ (.slice a2 n2 q2)).setCell ⟨w.heap.size + 1 + 1, 8, none⟩ (.slice none 0 0)) t v := fun t v h =>
    (((h.setB (by show w.heap.size + 1 + 1 < _; omega) _).setB (by show w.heap.size + 1 + 1 < _; omega) _).setB (by show w.heap.size + 1 + 1 < _; omega) _).move (.weaken fun b hb hl => ⟨hb, by simp [World.setCell] at hl; omega⟩)
  have HK0 := Lib.hid K0
  have hBle : B2 ≤ w2.heap.size := by omega
  clear K0 hB2
  go_loopw [4] (fun i wr => ∃ j : Nat, j ≤ m ∧ i = .int .i64 j ∧ Hid (Below w.heap.size w wr) ∧ B2 ≤ wr.heap.size ∧ Hid (wr.heap[w.heap.size]? = some (.cells #[.int .i64 k, .string nm, .int .i64 u, .int .i64 tk, .slice ta tn tq, .int .i64 fk, .slice fa fn fq, .int .i64 l, .slice c m q] 28 (0, 0))) ∧ Hid (wr.heap[w.heap.size + 1]? = some (.cells #[.int .i64 0, .string { data := #[] }, .int .i64 0, .int .i64 0, .slice none 0 0, .int .i64 0, .slice none 0 0, .int .i64 0, .slice none 0 0] 28 (0, 0))) ∧ Hid (TyRep (fun b => w.heap.size + 1 + 1 + 1 ≤ b ∧ b < B2) wr tt (.agg #[.int .i64 k1, .slice a1 n1 q1])) ∧ Hid (TyRep (fun b => w.heap.size + 1 + 1 + 1 ≤ b ∧ b < B2) wr ff (.agg #[.int .i64 k2, .slice a2 n2 q2])) ∧
      ∃ (cv : Option Addr) (qv : Nat), Hid (wr.heap[w.heap.size + 1 + 1]? = some (.cells #[.int .i64 k, .string nm, .int .i64 u, .int .i64 k1, .slice a1 n1 q1, .int .i64 k2, .slice a2 n2 q2, .int .i64 l, .slice cv j qv] 28 (0, 0))) ∧ Hid (RowL B2 28 9 wr (.slice cv j qv) j (Tm.rows (ts.take j)))) (fun i _ => m - (intOf i).toNat)
  case atStart => exact ⟨0, by omega, rfl, ((HB2.out.setCell (by show w.heap.size ≤ w.heap.size + 1 + 1; omega) _).setCell (by show w.heap.size ≤ w.heap.size + 1 + 1; omega) _).setCell (by show w.heap.size ≤ w.heap.size + 1 + 1; omega) _, by simp [World.setCell]; omega,
      blk_ne (blk_ne (blk_ne HX2.out (by show w.heap.size ≠ w.heap.size + 1 + 1; omega)) (by show w.heap.size ≠ w.heap.size + 1 + 1; omega)) (by show w.heap.size ≠ w.heap.size + 1 + 1; omega), blk_ne (blk_ne (blk_ne HR2.out (by show w.heap.size + 1 ≠ w.heap.size + 1 + 1; omega)) (by show w.heap.size + 1 ≠ w.heap.size + 1 + 1; omega)) (by show w.heap.size + 1 ≠ w.heap.size + 1 + 1; omega),
      HK0.out _ _ HTY2.out, HK0.out _ _ HSR2.out, none, 0, blk_set (blk_set (blk_set HO2.out rfl) rfl) rfl, by unfold Hid; rw [List.take_zero, Tm.rows]; exact RowL.nil⟩
  case round =>
    obtain ⟨j, hj, rfl, hbw, hsz, hX, hR, hTY, hSR, cv, qv, hO, hrow⟩ := hrel
    clear HB2 HX2 HR2 HO2 HTY2 HSR2 o5 o6 o8 p5 p6 p8 HK0
    have x8 : wr.cell? ⟨w.heap.size, 8, none⟩ = some (.slice c m q) := blk_cell hX.out rfl
    have v8 : wr.cell? ⟨w.heap.size + 1 + 1, 8, none⟩ = some (.slice cv j qv) := blk_cell hO.out rfl
    have f8 : wr.frozen? ⟨w.heap.size + 1 + 1, 8, none⟩ = false := blk_fro hO.out 8
    have lx8 : w.heap.size < wr.heap.size := by omega
    have lv8 : w.heap.size + 1 + 1 < wr.heap.size := by omega
    by_cases hlt : j < m
    · have hjt : j < ts.length := by rw [← HN.out]; exact hlt
      obtain ⟨b, off, kk0, nn0, uu0, tk0, ta0, tn0, tq0, fk0, fa0, fn0, fq0, ll0, a0, m0, q0, rfl, lb, e0, e1, e2, e3, e4, e5, e6, e7, e8, ht⟩ := HKS.out.at hbw.out hjt
      have HC := Lib.hid (fun W (h : Below wr.heap.size wr W) => IHH.out ts[j] (List.getElem_mem hjt) _ W (ht.below h))
      have hts : Tm.rows (ts.take (j + 1)) = Tm.rows (ts.take j) ++ [ts[j].row] := by rw [List.take_succ_eq_append_getElem hjt, Tm.rows_eq, List.map_append, ← Tm.rows_eq]; rfl
      generalize ts[j] = gt at HC hts
      have HTS := Lib.hid hts
      obtain ⟨hlen, xs, ho, hvals⟩ := hrow.out
      have HLEN := Lib.hid hlen
      have HOW := Lib.hid ho
      have HV := Lib.hid hvals
      clear hlen ho hvals ht hrow hts
      have hdum : True := trivial
      go_upto_region 8 with fail
      clear hdum
      go_region_law (first
        | (go_simp; go_at_call 30; (with_reducible refine (HC.out _ bdr).mono ?_); rintro e wc1 ⟨vk, rfl, hvk, hbk⟩; obtain ⟨kt, nm0, ut, tkt, tat, tnt, tqt, fkt, fat, fnt, fqt, lt, ct, mt, qt, rfl⟩ := hvk.shape; have hq1 : wc1.cell? ⟨w.heap.size + 1 + 1, 8, none⟩ = some (.slice cv j qv) := bcell (bstep bdr hbk) v8; have hbz : wr.heap.size ≤ wc1.heap.size := hbk.size; have hl1 : w.heap.size + 1 + 1 < wc1.heap.size := World.block_lt_of_cell? _ _ hq1)
        | (refine step_append_lies _ (by rfl) (.tmp 23) (.tmp 30) 26 (by rfl) B2 28 i0 _ 9 128 Try.underlying26 HI.out Z0.out Z1.out Z2.out rfl (by omega) (.slice cv j qv) j xs (by rfl) (ownsRow_below HOW.out (bstep (bstep bdr hbk) bal1))
            ⟨wc1.heap.size, 0, none⟩ 1 1 [.int .i64 kt, .string nm0, .int .i64 ut, .int .i64 tkt, .slice tat tnt tqt, .int .i64 fkt, .slice fat fnt fqt, .int .i64 lt, .slice ct mt qt] (by rfl) (by rfl) (World.news_of_block (cs := #[.int .i64 kt, .string nm0, .int .i64 ut, .int .i64 tkt, .slice tat tnt tqt, .int .i64 fkt, .slice fat fnt fqt, .int .i64 lt, .slice ct mt qt]) (t := 28) (fr := (0, 0)) (heap_alloc_new wc1 _)) (by simp [Value.oneCell'])
            (by omega) (by have := HCL.out; unfold maxLen; omega) (by have := HCL.out; omega) (by simp; omega) _ rfl ?_
           intro gg cap2 w6 hown2 hgrow hat hlt2
           have hW := bstep (bstep bdr hbk) (bal1 (o := .cells #[.int .i64 kt, .string nm0, .int .i64 ut, .int .i64 tkt, .slice tat tnt tqt, .int .i64 fkt, .slice fat fnt fqt, .int .i64 lt, .slice ct mt qt] 28))
           have hfar := grown_far hW HOW.out hgrow
           have hq : w6.cell? ⟨w.heap.size + 1 + 1, 8, none⟩ = some (.slice cv j qv) := (World.cell?_of_block (a := ⟨w.heap.size + 1 + 1, 8, none⟩) (hfar (w.heap.size + 1 + 1) (by omega) (by omega))).trans v8
           have hqf : w6.frozen? ⟨w.heap.size + 1 + 1, 8, none⟩ = false := (World.frozen?_of_block (a := ⟨w.heap.size + 1 + 1, 8, none⟩) (hfar (w.heap.size + 1 + 1) (by omega) (by omega))).trans f8
           have HFAR := Lib.hid hfar
           have HROW := Lib.hid (RowL.push (r := w.heap.size) HLEN.out HOW.out HV.out (by omega) (Chg.of_below hW) (TmRep.srep ((hvk.lower (by simp)).below (bal1 (o := .cells #[.int .i64 kt, .string nm0, .int .i64 ut, .int .i64 tkt, .slice tat tnt tqt, .int .i64 fkt, .slice fat fnt fqt, .int .i64 lt, .slice ct mt qt] 28)))) hsz hown2 hgrow (by simpa using hat))
           have HBEL := Lib.hid (grown_below hbw.out hW HOW.out (by omega) hgrow)
           have hsz6 : wr.heap.size ≤ w6.heap.size := Nat.le_trans hW.size hgrow.size
           clear hfar hown2 hgrow hat hq1 hvk hbk hW))
      all_goals
        go_wp2_with fail
        go_roundw
        case rel =>
          have K : Keeps (fun b => w.heap.size + 1 + 1 + 1 ≤ b ∧ b < B2) (fun b => w.heap.size + 1 + 1 + 1 ≤ b ∧ b < B2) wr (w6.setCell ⟨w.heap.size + 1 + 1, 8, none⟩ (.slice (some ⟨gg, 0, none⟩) (j + 1) cap2)) :=
            ⟨by simp [World.setCell]; exact hsz6, fun _ h _ => h, fun b hb hl => (Below.heap_setCell w6 ⟨w.heap.size + 1 + 1, 8, none⟩ _ b (by show b ≠ w.heap.size + 1 + 1; omega)).trans (HFAR.out b hl hb.2)⟩
          exact ⟨j + 1, by omega, by go_num, HBEL.out.setCell (by show w.heap.size ≤ w.heap.size + 1 + 1; omega) _, by simp [World.setCell]; omega, blk_ne ((HFAR.out w.heap.size (by omega) (by omega)).trans hX.out) (by show w.heap.size ≠ w.heap.size + 1 + 1; omega), blk_ne ((HFAR.out (w.heap.size + 1) (by omega) (by omega)).trans hR.out) (by show w.heap.size + 1 ≠ w.heap.size + 1 + 1; omega),
            hTY.out.move K, hSR.out.move K, some ⟨gg, 0, none⟩, cap2, blk_set ((HFAR.out (w.heap.size + 1 + 1) (by omega) (by omega)).trans hO.out) rfl, by
              unfold Hid
              rw [HTS.out]
              exact HROW.out.setCell (p := ⟨w.heap.size + 1 + 1, 8, none⟩) (by show w.heap.size + 1 + 1 < B2; omega) (.slice (some ⟨gg, 0, none⟩) (j + 1) cap2)⟩
        case measure => simp [intOf]; omega
    · have hje : ts.take j = ts := by rw [List.take_of_length_le (by have := HN.out; omega)]
      have e0 : wr.cell? ⟨w.heap.size + 1 + 1, 0, none⟩ = some (.int .i64 k) := blk_cell hO.out rfl
      have e1 : wr.cell? ⟨w.heap.size + 1 + 1, 1, none⟩ = some (.string nm) := blk_cell hO.out rfl
      have e2 : wr.cell? ⟨w.heap.size + 1 + 1, 2, none⟩ = some (.int .i64 u) := blk_cell hO.out rfl
      have e3 : wr.cell? ⟨w.heap.size + 1 + 1, 3, none⟩ = some (.int .i64 k1) := blk_cell hO.out rfl
      have e4 : wr.cell? ⟨w.heap.size + 1 + 1, 4, none⟩ = some (.slice a1 n1 q1) := blk_cell hO.out rfl
      have e5 : wr.cell? ⟨w.heap.size + 1 + 1, 5, none⟩ = some (.int .i64 k2) := blk_cell hO.out rfl
      have e6 : wr.cell? ⟨w.heap.size + 1 + 1, 6, none⟩ = some (.slice a2 n2 q2) := blk_cell hO.out rfl
      have e7 : wr.cell? ⟨w.heap.size + 1 + 1, 7, none⟩ = some (.int .i64 l) := blk_cell hO.out rfl
      have x0 : wr.cell? ⟨w.heap.size + 1, 0, none⟩ = some (.int .i64 0) := blk_cell hR.out rfl
      have f0 : wr.frozen? ⟨w.heap.size + 1, 0, none⟩ = false := blk_fro hR.out 0
      have x1 : wr.cell? ⟨w.heap.size + 1, 1, none⟩ = some (.string { data := #[] }) := blk_cell hR.out rfl
      have f1 : wr.frozen? ⟨w.heap.size + 1, 1, none⟩ = false := blk_fro hR.out 1
      have x2 : wr.cell? ⟨w.heap.size + 1, 2, none⟩ = some (.int .i64 0) := blk_cell hR.out rfl
      have f2 : wr.frozen? ⟨w.heap.size + 1, 2, none⟩ = false := blk_fro hR.out 2
      have x3 : wr.cell? ⟨w.heap.size + 1, 3, none⟩ = some (.int .i64 0) := blk_cell hR.out rfl
      have f3 : wr.frozen? ⟨w.heap.size + 1, 3, none⟩ = false := blk_fro hR.out 3
      have x4 : wr.cell? ⟨w.heap.size + 1, 4, none⟩ = some (.slice none 0 0) := blk_cell hR.out rfl
      have f4 : wr.frozen? ⟨w.heap.size + 1, 4, none⟩ = false := blk_fro hR.out 4
      have x5 : wr.cell? ⟨w.heap.size + 1, 5, none⟩ = some (.int .i64 0) := blk_cell hR.out rfl
      have f5 : wr.frozen? ⟨w.heap.size + 1, 5, none⟩ = false := blk_fro hR.out 5
      have x6 : wr.cell? ⟨w.heap.size + 1, 6, none⟩ = some (.slice none 0 0) := blk_cell hR.out rfl
      have f6 : wr.frozen? ⟨w.heap.size + 1, 6, none⟩ = false := blk_fro hR.out 6
      have x7 : wr.cell? ⟨w.heap.size + 1, 7, none⟩ = some (.int .i64 0) := blk_cell hR.out rfl
      have f7 : wr.frozen? ⟨w.heap.size + 1, 7, none⟩ = false := blk_fro hR.out 7
      have y8 : wr.cell? ⟨w.heap.size + 1, 8, none⟩ = some (.slice none 0 0) := blk_cell hR.out rfl
      have f8 : wr.frozen? ⟨w.heap.size + 1, 8, none⟩ = false := blk_fro hR.out 8
      have hrow' := hrow.out
      rw [hje] at hrow'
      have hrep := TmRep.mk (k := k) (u := u) (l := l) (nm := nm) (F := (w.heap.size + 1 + 1 + 1 ≤ ·)) HRN.out (hTY.out.move (.weaken fun b hb _ => hb.1)) (hSR.out.move (.weaken fun b hb _ => hb.1)) (show TmsRep (w.heap.size + 1 + 1 + 1 ≤ ·) wr ts (.slice cv j qv) from CRep.move (.weaken fun b hb _ => by have : B2 ≤ b := hb; omega) _ _ hrow'.rep)
      have HEND := Lib.hid (RepTm.stored (w := w) (R := w.heap.size + 1) (v0 := .int .i64 k) (v1 := .string nm) (v2 := .int .i64 u) (v3 := .int .i64 k1) (v4 := .slice a1 n1 q1) (v5 := .int .i64 k2) (v6 := .slice a2 n2 q2) (v7 := .int .i64 l) (v8 := .slice cv j qv) hrep (by omega) hbw.out (by omega) (by omega))
      clear hrep hrow' hrow hTY hSR hje
      go_upto_region 9 with fail
      clear x8 hbw hX hR hO
      go_wp2_with fail
      refine bodyPost_ret (v := .agg #[.int .i64 k, .string nm, .int .i64 u, .int .i64 k1, .slice a1 n1 q1, .int .i64 k2, .slice a2 n2 q2, .int .i64 l, .slice cv j qv]) (by simp [results, Try.results30, go_sem, x0, x1, x2, x3, x4, x5, x6, x7, y8]) rfl ?_
      exact HEND.out
theorem specL2Copy (F : Nat → Prop) (t : Tm) : ∀ (y : Value) (w : World), TmRep F w t y → t.cnt ≤ 1048576 → Calls Try.prog 30 #[y] w (RepTm t w) :=
  fun y w hy hcnt => specL2CopyStep F t y w hy hcnt fun t' ht y W h => specL2Copy F t' y W h (by have := Tm.cnt_kid ht; omega)
termination_by SizeOf.sizeOf t
decreasing_by exact Tm.kid_lt ht
end Go.Proofs.Ytpckgpndaligbaa
