/-
  A term and a list of types are drawn.
-/
import Derived.Test.YtpckgpndaligbaaTmDraws
import Derived.Test.YtpckgpndaligbaaTmTypesA
import Derived.Deep.DeepCutAuto
namespace Go.Proofs.Ytpckgpndaligbaa
open Go.RowKit
set_option linter.unusedVariables false
set_option linter.unusedSimpArgs false
set_option maxRecDepth 100000


/-- What a function that draws a term and a list of types leaves. -/
def DrTL (w : World) (e : Ending) (w' : World) : Prop := ∃ (t : Tm) (L : List Ty) (v lv : Value), e = .returned (.tuple #[v, lv]) ∧ t.cnt ≤ 100000 ∧ TmRep (w.heap.size ≤ ·) w' t v ∧ TysRep (w.heap.size ≤ ·) w' L lv ∧ Below w.heap.size w w'
theorem DrTL.stored {w w1 : World} {t : Tm} {L : List Ty} {v lv : Value} {F : Nat → Prop} {BL R : Nat} {v0 v1 v2 v3 v4 v5 v6 v7 v8 : Value} (hv : TmRep F w1 t v) (hl : TysRep (BL ≤ ·) w1 L lv) (hc : t.cnt ≤ 100000) (hF : ∀ b, F b → w.heap.size ≤ b ∧ b ≠ R) (hB : R < BL) (hb : Below w.heap.size w w1) (hR : w.heap.size ≤ R) : DrTL w (.returned (.tuple #[v, lv])) (set9 w1 R v0 v1 v2 v3 v4 v5 v6 v7 v8) := by
  have hn : ¬ F R := fun h => (hF R h).2 rfl
  have hm : ∀ (X : World) (o : Nat) (u : Value), TysRep (BL ≤ ·) X L lv → TysRep (BL ≤ ·) (X.setCell ⟨R, o, none⟩ u) L lv := fun X o u h => h.move ⟨by simp [World.setCell], fun _ h _ => h, fun b hb _ => Below.heap_setCell X ⟨R, o, none⟩ u b (by have : BL ≤ b := hb; show b ≠ R; omega)⟩
  unfold set9
  exact ⟨t, L, v, lv, rfl, hc, ((((((((((hv.setF (p := ⟨R, 0, none⟩) hn _).setF (p := ⟨R, 1, none⟩) hn _).setF (p := ⟨R, 2, none⟩) hn _).setF (p := ⟨R, 3, none⟩) hn _).setF (p := ⟨R, 4, none⟩) hn _).setF (p := ⟨R, 5, none⟩) hn _).setF (p := ⟨R, 6, none⟩) hn _).setF (p := ⟨R, 7, none⟩) hn _).setF (p := ⟨R, 8, none⟩) hn _)).move (.weaken fun b hb _ => (hF b hb).1), (hm _ 8 _ (hm _ 7 _ (hm _ 6 _ (hm _ 5 _ (hm _ 4 _ (hm _ 3 _ (hm _ 2 _ (hm _ 1 _ (hm _ 0 _ (hl)))))))))).move (.weaken fun b hb _ => by have : BL ≤ b := hb; omega), (((((((((hb.setCell (by show w.heap.size ≤ R; omega) _).setCell (by show w.heap.size ≤ R; omega) _).setCell (by show w.heap.size ≤ R; omega) _).setCell (by show w.heap.size ≤ R; omega) _).setCell (by show w.heap.size ≤ R; omega) _).setCell (by show w.heap.size ≤ R; omega) _).setCell (by show w.heap.size ≤ R; omega) _).setCell (by show w.heap.size ≤ R; omega) _).setCell (by show w.heap.size ≤ R; omega) _)⟩
theorem TyRep.srep {F : Nat → Prop} {w : World} {t : Ty} {k : Int} {s : Value} (h : TyRep F w t (.agg #[.int .i64 k, s])) : SRep F w t.row [.int .i64 k, s] := by
  obtain ⟨z, he, hz⟩ := h
  simp only [Value.agg.injEq, Array.mk.injEq, List.cons.injEq, Value.int.injEq, true_and, and_true] at he
  obtain ⟨rfl, rfl⟩ := he
  cases t with | mk k ts =>
  unfold Ty.row
  exact ⟨_, _, rfl, by unfold CRep; rfl, _, _, rfl, hz, rfl⟩
theorem RowL.tys {B n : Nat} {e : TypeId} {w : World} {v : Value} {L : List Ty} (h : RowL B e 2 w v n (Ty.rows L)) : TysRep (B ≤ ·) w L v := h.rep

set_option maxHeartbeats 8000000 in
theorem specDrawWithTypes (y : Value) (w : World) (r0 : ByRep w w.heap.size y) : Calls Try.prog 4 #[y] w (DrTL w) := by
  obtain ⟨a0, n0, q0, rfl⟩ := r0.shape
  obtain ⟨i0, hi, hz0, hz1, hz2⟩ := info_parts Try.infoTy
  have Z0 := Lib.hid hz0
  have Z1 := Lib.hid hz1
  have Z2 := Lib.hid hz2
  have HI := Lib.hid hi
  clear hz0 hz1 hz2 hi
  go_enter Try.func4, Try.ntmps4
  go_wp2_with fail
  refine (specOpen _ _ _ (r0.below bal1) (by simp)).mono ?_
  rintro e w1 ⟨rb, rfl, hro, hrd1, hb1⟩
  have hrl := hrd1.1
  simp only [World.size_alloc] at hro
  have hw1 := hb1.size
  simp only [World.size_alloc] at hw1
  have hB1 := bstep bal1 hb1
  have hR1 : w1.heap[w.heap.size]? = some (.cells #[.int .i64 0, .string { data := #[] }, .int .i64 0, .int .i64 0, .slice none 0 0, .int .i64 0, .slice none 0 0, .int .i64 0, .slice none 0 0] 28 (0, 0)) := blk_below (blk_new rfl) hb1
  clear hb1
  go_wp2_with fail
  refine (specL2Term rb 0 _ hrd1 (by omega)).mono ?_
  rintro e w2 ⟨t2, v2, q2, rfl, hn2, hv2, hq2, hrd2, hc2⟩
  obtain ⟨kt, nm0, ut, tkt, tat, tnt, tqt, fkt, fat, fnt, fqt, lt, ct, mt, qt, rfl⟩ := hv2.shape
  have hw2 := hc2.size
  have hB2 := bchg hB1 hc2 (by omega) (Nat.le_refl _)
  have hR2 := blk_chg hR1 hc2 (by omega)
  clear hc2 hB1 hR1 hrd1
  go_wp2_with fail
  refine (specL2Mutate rb q2 5120 t2 _ _ hrd2 (hv2.ne (by omega)) hn2 (by omega) (by omega)).mono ?_
  rintro e w3 ⟨t3, v3, q3, rfl, hn3, hv3, hq3, hrd3, hc3⟩
  obtain ⟨k3, nm3, u3, tk3, ta3, tn3, tq3, fk3, fa3, fn3, fq3, l3, c3, m3, qq3, rfl⟩ := hv3.shape
  have hw3 := hc3.size
  have hB3 := bchg hB2 hc3 (by omega) (Nat.le_refl _)
  have hR3 := blk_chg hR2 hc3 (by omega)
  clear hc3 hB2 hR2 hrd2 hv2
  go_wp2_with fail
  refine (specTermTypesA _ t3 _ _ (hv3.below bal1)).mono ?_
  rintro e w4 ⟨lv, BL, rfl, hBL1, hBL2, hrow, hb4⟩
  simp only [World.size_alloc] at hBL1
  have hw4 := hb4.size
  simp only [World.size_alloc] at hw4
  obtain ⟨n, hn⟩ : ∃ n, t3.types.length = n := ⟨_, rfl⟩
  have hn30 : n ≤ 30 := by
    rw [← hn]
    unfold Tm.types
    split
    · rename_i hok; exact (Tm.tys_ok hok).1
    · simp
  rw [hn] at hrow
  clear hn
  obtain ⟨la, lq, rfl⟩ := hrow.shape
  have HB4 := Lib.hid (bstep (bstep hB3 bal1) hb4)
  have HR4 := Lib.hid (blk_below (blk_below hR3 bal1) hb4)
  have HE4 : Hid (w4.heap[w3.heap.size]? = some (.cells #[.int .i64 k3, .string nm3, .int .i64 u3, .int .i64 tk3, .slice ta3 tn3 tq3, .int .i64 fk3, .slice fa3 fn3 fq3, .int .i64 l3, .slice c3 m3 qq3] 28 (0, 0))) := Lib.hid (blk_below (blk_new rfl) hb4)
  have HT4 : Hid (TmRep (fun b => w.heap.size + 1 ≤ b ∧ b ≠ rb ∧ b < BL) w4 t3 (.agg #[.int .i64 k3, .string nm3, .int .i64 u3, .int .i64 tk3, .slice ta3 tn3 tq3, .int .i64 fk3, .slice fa3 fn3 fq3, .int .i64 l3, .slice c3 m3 qq3])) := Lib.hid (((hv3.move (G := (fun b => w.heap.size + 1 ≤ b ∧ b ≠ rb ∧ b < BL)) (.weaken fun b hb hl => by have : w2.heap.size ≤ b := hb; exact ⟨by omega, by omega, by omega⟩)).below bal1).below hb4)
  have HROW := Lib.hid hrow
  have hrd4 := (hrd3.below (bal1 (o := .cells #[.int .i64 k3, .string nm3, .int .i64 u3, .int .i64 tk3, .slice ta3 tn3 tq3, .int .i64 fk3, .slice fa3 fn3 fq3, .int .i64 l3, .slice c3 m3 qq3] 28))).below hb4
  have HCN := Lib.hid (show t3.cnt ≤ 100000 by omega)
  have hq3' : q3 ≤ 6000 := by omega
  have hrb1 : w.heap.size < rb := by omega
  have hrb3 : rb < w3.heap.size := by omega
  have hEB : w3.heap.size < BL := by omega
  have hBB : BL ≤ w4.heap.size := hBL2
  clear hB3 hR3 hrd3 hv3 hb4 hrow hBL1 hBL2 hn3 hq3 hn2 hq2 hw1 hw2 hw3 hw4 hro hrl
  go_wp2_with fail
  go_loopw [7] (fun i wr => ∃ j : Nat, j ≤ n ∧ i = .int .i64 j ∧ Hid (Below w.heap.size w wr) ∧ BL ≤ wr.heap.size ∧ Hid (wr.heap[w.heap.size]? = some (.cells #[.int .i64 0, .string { data := #[] }, .int .i64 0, .int .i64 0, .slice none 0 0, .int .i64 0, .slice none 0 0, .int .i64 0, .slice none 0 0] 28 (0, 0))) ∧ Hid (wr.heap[w3.heap.size]? = some (.cells #[.int .i64 k3, .string nm3, .int .i64 u3, .int .i64 tk3, .slice ta3 tn3 tq3, .int .i64 fk3, .slice fa3 fn3 fq3, .int .i64 l3, .slice c3 m3 qq3] 28 (0, 0))) ∧ Hid (TmRep (fun b => w.heap.size + 1 ≤ b ∧ b ≠ rb ∧ b < BL) wr t3 (.agg #[.int .i64 k3, .string nm3, .int .i64 u3, .int .i64 tk3, .slice ta3 tn3 tq3, .int .i64 fk3, .slice fa3 fn3 fq3, .int .i64 l3, .slice c3 m3 qq3])) ∧ (∃ q, q ≤ q3 + j * 700 ∧ RdAt wr rb q) ∧ (∃ L : List Ty, Hid (RowL BL 25 2 wr (.slice la n lq) n (Ty.rows L)))) (fun i _ => n - (intOf i).toNat)
  case atStart => exact ⟨0, by omega, rfl, HB4.out, hBB, HR4.out, HE4.out, HT4.out, ⟨q3, by omega, hrd4⟩, ⟨_, HROW.out⟩⟩
  case round =>
    obtain ⟨j, hj, rfl, hbw, hsz, hRr, hEr, hTr, ⟨q, hq, hrd⟩, ⟨L, hLr⟩⟩ := hrel
    clear HB4 HR4 HE4 HT4 hrd4 HROW hBB
    by_cases hlt : j < n
    · obtain ⟨g, lq', he, hg1, hg2, hnq, hlq⟩ := hLr.out.form (by omega)
      simp only [Value.slice.injEq, true_and] at he
      obtain ⟨rfl, rfl⟩ := he
      unfold maxLen at hlq
      have hjn : (j : Int) < (n : Int) := by omega
      go_wp2_with fail
      refine (specPick rb q 2 _ hrd (by omega) (by omega)).mono ?_
      rintro e w5 ⟨pk, rfl, -, -, hrd5, hc5⟩
      have hs5 := hc5.size
      have HB5 := Lib.hid (bchg hbw.out hc5 (by omega) (Nat.le_refl _))
      have HR5 := Lib.hid (blk_chg hRr.out hc5 (by omega))
      have HE5 := Lib.hid (blk_chg hEr.out hc5 (by omega))
      have HT5 := Lib.hid (TmRep.chg hc5 (fun b hb => by have := hb.2.1; simpa using this) hTr.out)
      have HL5 := Lib.hid (hLr.out.chg hc5 (by omega))
      clear hbw hRr hEr hTr hLr hrd hc5
      rcases Bool.eq_false_or_eq_true (pk == 0) with q0 | q0
      · go_wp2_with fail
        refine (specL1Type rb (q + 1) _ hrd5 (by omega)).mono ?_
        rintro e w6 ⟨t6, v6, q6, rfl, hn6, hv6, hq6, hrd6, hc6⟩
        obtain ⟨k6, a6, n6, c6, rfl⟩ := hv6.shape
        have hs6 := hc6.size
        have hv6' : TyRep (· ≠ rb) w6 t6 _ := hv6.move (.weaken fun b hb _ => by have : w5.heap.size ≤ b := hb; omega)
        go_wp2_with fail
        refine (specL1Mutate rb q6 14 t6 _ _ hrd6 hv6' (by omega) (by omega) (by omega)).mono ?_
        rintro e w7 ⟨t7, v7, q7, rfl, hn7, hv7, hq7, hrd7, hc7⟩
        obtain ⟨k7, a7, n7, c7, rfl⟩ := hv7.shape
        have hs7 := hc7.size
        have hL7 := (HL5.out.chg hc6 (by omega)).chg hc7 (by omega)
        obtain ⟨⟨u0, x0⟩, f0⟩ := hL7.cell (o := j * 2) (by omega)
        obtain ⟨⟨u1, x1⟩, f1⟩ := hL7.cell (o := j * 2 + 1) (by omega)
        have hv7' : TyRep (fun b => BL ≤ b ∧ b ≠ g) w7 t7 _ := hv7.move (.weaken fun b hb _ => by have : w6.heap.size ≤ b := hb; exact ⟨by omega, by omega⟩)
        have HL7 := Lib.hid (hL7.setTy hlt hv7')
        have HB7 := Lib.hid (bchg (bchg HB5.out hc6 (by omega) (Nat.le_refl _)) hc7 (by omega) (Nat.le_refl _))
        have HR7 := Lib.hid (blk_chg (blk_chg HR5.out hc6 (by omega)) hc7 (by omega))
        have HE7 := Lib.hid (blk_chg (blk_chg HE5.out hc6 (by omega)) hc7 (by omega))
        have HT7 := Lib.hid (TmRep.chg hc7 (fun b hb => by have := hb.2.1; simpa using this) (TmRep.chg hc6 (fun b hb => by have := hb.2.1; simpa using this) HT5.out))
        have lg7 : g < w7.heap.size := by omega
        clear hL7 hv7 hv7' hv6 hv6' hc6 hc7 HB5 HR5 HE5 HT5 HL5 hrd5 hrd6 q0
        go_wp2_with fail
        go_roundw
        case rel =>
          exact ⟨j + 1, by omega, by go_num, (HB7.out.setCell (by show w.heap.size ≤ g; omega) _).setCell (by show w.heap.size ≤ g; omega) _, by simp [World.setCell]; omega, blk_ne (blk_ne HR7.out (by show w.heap.size ≠ g; omega)) (by show w.heap.size ≠ g; omega), blk_ne (blk_ne HE7.out (by show w3.heap.size ≠ g; omega)) (by show w3.heap.size ≠ g; omega),
            (HT7.out.setF (p := ⟨g, j * 2, none⟩) (fun h => by have := h.2.2; simp at this; omega) _).setF (p := ⟨g, j * 2 + 1, none⟩) (fun h => by have := h.2.2; simp at this; omega) _, ⟨q7, by omega, (hrd7.setCell (a := ⟨g, j * 2, none⟩) (by show rb < g; omega) _).setCell (a := ⟨g, j * 2 + 1, none⟩) (by show rb < g; omega) _⟩, ⟨_, HL7.out⟩⟩
        case measure => simp [intOf]; omega
      · go_wp2_with fail
        go_roundw
        case rel => exact ⟨j + 1, by omega, by go_num, HB5.out, by omega, HR5.out, HE5.out, HT5.out, ⟨q + 1, by omega, hrd5⟩, ⟨_, HL5.out⟩⟩
        case measure => simp [intOf]; omega
    · go_upto_region 9 with fail
      go_wp2_with fail
      refine (specPick rb q 20 _ hrd (by omega) (by omega)).mono ?_
      rintro e w5 ⟨pk, rfl, -, -, hrd5, hc5⟩
      have hs5 := hc5.size
      have HB5 := Lib.hid (bchg hbw.out hc5 (by omega) (Nat.le_refl _))
      have HR5 := Lib.hid (blk_chg hRr.out hc5 (by omega))
      have HE5 := Lib.hid (blk_chg hEr.out hc5 (by omega))
      have HT5 := Lib.hid (TmRep.chg hc5 (fun b hb => by have := hb.2.1; simpa using this) hTr.out)
      have HL5 := Lib.hid (hLr.out.chg hc5 (by omega))
      clear hbw hRr hEr hTr hLr hrd hc5 hrd5
      rcases Bool.eq_false_or_eq_true (pk == 0) with q0 | q0
      · obtain ⟨hlen, xs, ho, hvals⟩ := HL5.out
        have HLEN := Lib.hid hlen
        have HO := Lib.hid ho
        have HV := Lib.hid hvals
        clear hlen ho hvals
        go_wp2_with fail
        refine (specL1Any _).mono ?_
        rintro e w6 ⟨v6, rfl, hv6, hb6⟩
        obtain ⟨k6, a6, n6, c6, rfl⟩ := hv6.shape
        have hs6 := hb6.size
        have HB6 := Lib.hid hb6
        have HV6 := Lib.hid hv6
        clear hb6 hv6 q0
        go_wp2_with (first | (at_builtin; refine wpList_append_lies _ rfl (.tmp 35) (.tmp 37) 23 rfl BL 25 i0 _ 2 32 Try.underlying23 HI.out Z0.out Z1.out Z2.out rfl (by omega) (.slice la n lq) n xs rfl (ownsRow_below HO.out (bstep HB6.out bal1)) ⟨w6.heap.size, 0, none⟩ 1 1 [.int .i64 k6, .slice a6 n6 c6] rfl rfl (World.news_of_block (cs := #[.int .i64 k6, .slice a6 n6 c6]) (t := 25) (fr := (0, 0)) (heap_alloc_new w6 _)) (by simp [Value.oneCell']) (by omega) (by unfold maxLen; omega) (by omega) (by simp; omega) _ rfl ?_) | fail)
        intro gg cap2 w7 hown hgrow hat hlt2
        have hW := bstep HB6.out (bal1 (o := .cells #[.int .i64 k6, .slice a6 n6 c6] 25))
        have hfar := grown_far hW HO.out hgrow
        have hpush := RowL.push (r := rb) HLEN.out HO.out HV.out (by omega) (Chg.of_below hW) (TyRep.srep (HV6.out.rep.below (bal1 (o := .cells #[.int .i64 k6, .slice a6 n6 c6] 25)))) (by omega) hown hgrow (by simpa using hat)
        have HP := Lib.hid (show TysRep (BL ≤ ·) w7 (L ++ [.mk 1 []]) (.slice (some ⟨gg, 0, none⟩) (n + 1) cap2) from by
          have h := hpush.rep
          unfold TysRep
          rw [Ty.rows_eq, List.map_append, ← Ty.rows_eq]
          exact h)
        have HB7 := Lib.hid (grown_below HB5.out hW HO.out (by omega) hgrow)
        have hR7 : w7.heap[w.heap.size]? = some (.cells #[.int .i64 0, .string { data := #[] }, .int .i64 0, .int .i64 0, .slice none 0 0, .int .i64 0, .slice none 0 0, .int .i64 0, .slice none 0 0] 28 (0, 0)) := (hfar w.heap.size (by omega) (by omega)).trans HR5.out
        have hE7 : w7.heap[w3.heap.size]? = some (.cells #[.int .i64 k3, .string nm3, .int .i64 u3, .int .i64 tk3, .slice ta3 tn3 tq3, .int .i64 fk3, .slice fa3 fn3 fq3, .int .i64 l3, .slice c3 m3 qq3] 28 (0, 0)) := (hfar w3.heap.size (by omega) (by omega)).trans HE5.out
        have HT7 := Lib.hid (HT5.out.move (w' := w7) (G := (fun b => w.heap.size + 1 ≤ b ∧ b ≠ rb ∧ b < BL)) ⟨Nat.le_trans hW.size hgrow.size, fun _ h _ => h, fun b hb hl => hfar b hl hb.2.2⟩)
        clear hpush hown hgrow hat hfar hW HB6 HV6 HLEN HO HV HL5
        have e0 : w7.cell? ⟨w3.heap.size, 0, none⟩ = some (.int .i64 k3) := blk_cell hE7 rfl
        have e1 : w7.cell? ⟨w3.heap.size, 1, none⟩ = some (.string nm3) := blk_cell hE7 rfl
        have e2 : w7.cell? ⟨w3.heap.size, 2, none⟩ = some (.int .i64 u3) := blk_cell hE7 rfl
        have e3 : w7.cell? ⟨w3.heap.size, 3, none⟩ = some (.int .i64 tk3) := blk_cell hE7 rfl
        have e4 : w7.cell? ⟨w3.heap.size, 4, none⟩ = some (.slice ta3 tn3 tq3) := blk_cell hE7 rfl
        have e5 : w7.cell? ⟨w3.heap.size, 5, none⟩ = some (.int .i64 fk3) := blk_cell hE7 rfl
        have e6 : w7.cell? ⟨w3.heap.size, 6, none⟩ = some (.slice fa3 fn3 fq3) := blk_cell hE7 rfl
        have e7 : w7.cell? ⟨w3.heap.size, 7, none⟩ = some (.int .i64 l3) := blk_cell hE7 rfl
        have e8 : w7.cell? ⟨w3.heap.size, 8, none⟩ = some (.slice c3 m3 qq3) := blk_cell hE7 rfl
        have x0 : w7.cell? ⟨w.heap.size, 0, none⟩ = some (.int .i64 0) := blk_cell hR7 rfl
        have f0 : w7.frozen? ⟨w.heap.size, 0, none⟩ = false := blk_fro hR7 0
        have x1 : w7.cell? ⟨w.heap.size, 1, none⟩ = some (.string { data := #[] }) := blk_cell hR7 rfl
        have f1 : w7.frozen? ⟨w.heap.size, 1, none⟩ = false := blk_fro hR7 1
        have x2 : w7.cell? ⟨w.heap.size, 2, none⟩ = some (.int .i64 0) := blk_cell hR7 rfl
        have f2 : w7.frozen? ⟨w.heap.size, 2, none⟩ = false := blk_fro hR7 2
        have x3 : w7.cell? ⟨w.heap.size, 3, none⟩ = some (.int .i64 0) := blk_cell hR7 rfl
        have f3 : w7.frozen? ⟨w.heap.size, 3, none⟩ = false := blk_fro hR7 3
        have x4 : w7.cell? ⟨w.heap.size, 4, none⟩ = some (.slice none 0 0) := blk_cell hR7 rfl
        have f4 : w7.frozen? ⟨w.heap.size, 4, none⟩ = false := blk_fro hR7 4
        have x5 : w7.cell? ⟨w.heap.size, 5, none⟩ = some (.int .i64 0) := blk_cell hR7 rfl
        have f5 : w7.frozen? ⟨w.heap.size, 5, none⟩ = false := blk_fro hR7 5
        have x6 : w7.cell? ⟨w.heap.size, 6, none⟩ = some (.slice none 0 0) := blk_cell hR7 rfl
        have f6 : w7.frozen? ⟨w.heap.size, 6, none⟩ = false := blk_fro hR7 6
        have x7 : w7.cell? ⟨w.heap.size, 7, none⟩ = some (.int .i64 0) := blk_cell hR7 rfl
        have f7 : w7.frozen? ⟨w.heap.size, 7, none⟩ = false := blk_fro hR7 7
        have x8 : w7.cell? ⟨w.heap.size, 8, none⟩ = some (.slice none 0 0) := blk_cell hR7 rfl
        have f8 : w7.frozen? ⟨w.heap.size, 8, none⟩ = false := blk_fro hR7 8
        have lxR := blk_lt hR7
        have lxE := blk_lt hE7
        have HEND := Lib.hid (DrTL.stored (w := w) (R := w.heap.size) (v0 := .int .i64 k3) (v1 := .string nm3) (v2 := .int .i64 u3) (v3 := .int .i64 tk3) (v4 := .slice ta3 tn3 tq3) (v5 := .int .i64 fk3) (v6 := .slice fa3 fn3 fq3) (v7 := .int .i64 l3) (v8 := .slice c3 m3 qq3) HT7.out HP.out HCN.out (fun b hb => ⟨by have := hb.1; omega, by have := hb.1; omega⟩) (by omega) HB7.out (Nat.le_refl _))
        clear HP
        go_wp2_with fail
        refine bodyPost_ret (v := .tuple #[.agg #[.int .i64 k3, .string nm3, .int .i64 u3, .int .i64 tk3, .slice ta3 tn3 tq3, .int .i64 fk3, .slice fa3 fn3 fq3, .int .i64 l3, .slice c3 m3 qq3], .slice (some ⟨gg, 0, none⟩) (n + 1) cap2]) (by simp [results, Try.results4, go_sem, x0, x1, x2, x3, x4, x5, x6, x7, x8]) rfl ?_
        exact HEND.out
      · have hR5 := HR5.out
        have hE5 := HE5.out
        have HP := Lib.hid HL5.out.tys
        have e0 : w5.cell? ⟨w3.heap.size, 0, none⟩ = some (.int .i64 k3) := blk_cell hE5 rfl
        have e1 : w5.cell? ⟨w3.heap.size, 1, none⟩ = some (.string nm3) := blk_cell hE5 rfl
        have e2 : w5.cell? ⟨w3.heap.size, 2, none⟩ = some (.int .i64 u3) := blk_cell hE5 rfl
        have e3 : w5.cell? ⟨w3.heap.size, 3, none⟩ = some (.int .i64 tk3) := blk_cell hE5 rfl
        have e4 : w5.cell? ⟨w3.heap.size, 4, none⟩ = some (.slice ta3 tn3 tq3) := blk_cell hE5 rfl
        have e5 : w5.cell? ⟨w3.heap.size, 5, none⟩ = some (.int .i64 fk3) := blk_cell hE5 rfl
        have e6 : w5.cell? ⟨w3.heap.size, 6, none⟩ = some (.slice fa3 fn3 fq3) := blk_cell hE5 rfl
        have e7 : w5.cell? ⟨w3.heap.size, 7, none⟩ = some (.int .i64 l3) := blk_cell hE5 rfl
        have e8 : w5.cell? ⟨w3.heap.size, 8, none⟩ = some (.slice c3 m3 qq3) := blk_cell hE5 rfl
        have x0 : w5.cell? ⟨w.heap.size, 0, none⟩ = some (.int .i64 0) := blk_cell hR5 rfl
        have f0 : w5.frozen? ⟨w.heap.size, 0, none⟩ = false := blk_fro hR5 0
        have x1 : w5.cell? ⟨w.heap.size, 1, none⟩ = some (.string { data := #[] }) := blk_cell hR5 rfl
        have f1 : w5.frozen? ⟨w.heap.size, 1, none⟩ = false := blk_fro hR5 1
        have x2 : w5.cell? ⟨w.heap.size, 2, none⟩ = some (.int .i64 0) := blk_cell hR5 rfl
        have f2 : w5.frozen? ⟨w.heap.size, 2, none⟩ = false := blk_fro hR5 2
        have x3 : w5.cell? ⟨w.heap.size, 3, none⟩ = some (.int .i64 0) := blk_cell hR5 rfl
        have f3 : w5.frozen? ⟨w.heap.size, 3, none⟩ = false := blk_fro hR5 3
        have x4 : w5.cell? ⟨w.heap.size, 4, none⟩ = some (.slice none 0 0) := blk_cell hR5 rfl
        have f4 : w5.frozen? ⟨w.heap.size, 4, none⟩ = false := blk_fro hR5 4
        have x5 : w5.cell? ⟨w.heap.size, 5, none⟩ = some (.int .i64 0) := blk_cell hR5 rfl
        have f5 : w5.frozen? ⟨w.heap.size, 5, none⟩ = false := blk_fro hR5 5
        have x6 : w5.cell? ⟨w.heap.size, 6, none⟩ = some (.slice none 0 0) := blk_cell hR5 rfl
        have f6 : w5.frozen? ⟨w.heap.size, 6, none⟩ = false := blk_fro hR5 6
        have x7 : w5.cell? ⟨w.heap.size, 7, none⟩ = some (.int .i64 0) := blk_cell hR5 rfl
        have f7 : w5.frozen? ⟨w.heap.size, 7, none⟩ = false := blk_fro hR5 7
        have x8 : w5.cell? ⟨w.heap.size, 8, none⟩ = some (.slice none 0 0) := blk_cell hR5 rfl
        have f8 : w5.frozen? ⟨w.heap.size, 8, none⟩ = false := blk_fro hR5 8
        have lxR := blk_lt hR5
        have lxE := blk_lt hE5
        have HEND := Lib.hid (DrTL.stored (w := w) (R := w.heap.size) (v0 := .int .i64 k3) (v1 := .string nm3) (v2 := .int .i64 u3) (v3 := .int .i64 tk3) (v4 := .slice ta3 tn3 tq3) (v5 := .int .i64 fk3) (v6 := .slice fa3 fn3 fq3) (v7 := .int .i64 l3) (v8 := .slice c3 m3 qq3) HT5.out HP.out HCN.out (fun b hb => ⟨by have := hb.1; omega, by have := hb.1; omega⟩) (by omega) HB5.out (Nat.le_refl _))
        clear HP
        go_wp2_with fail
        refine bodyPost_ret (v := .tuple #[.agg #[.int .i64 k3, .string nm3, .int .i64 u3, .int .i64 tk3, .slice ta3 tn3 tq3, .int .i64 fk3, .slice fa3 fn3 fq3, .int .i64 l3, .slice c3 m3 qq3], .slice la n lq]) (by simp [results, Try.results4, go_sem, x0, x1, x2, x3, x4, x5, x6, x7, x8]) rfl ?_
        exact HEND.out
end Go.Proofs.Ytpckgpndaligbaa
