/-
  The reader's types: a bracket ahead.
-/
import Derived.Test.YtikkneahhgmdjaaPrsI2
namespace Go.Proofs.Ytikkneahhgmdjaa
open Go.RowKit
set_option linter.unusedVariables false
set_option linter.unusedSimpArgs false
set_option maxRecDepth 100000

set_option maxHeartbeats 2000000 in
theorem implBothR (kk k1 k2 : Int) (a1 a2 : Option Addr) (n1 q1 n2 q2 : Nat) (w : World) :
    Calls Try.prog 36 #[.int .i64 kk, .agg #[.int .i64 k1, .slice a1 n1 q1], .agg #[.int .i64 k2, .slice a2 n2 q2]] w fun e w' => ∃ a n q, e = .returned (.agg #[.int .i64 kk, .slice a n q]) ∧ Below w.heap.size w w' ∧
      ∀ (B : Nat) (t u : Ty) (f1 f2 : List Nat), TyOwn w t (.agg #[.int .i64 k1, .slice a1 n1 q1]) f1 → TyOwn w u (.agg #[.int .i64 k2, .slice a2 n2 q2]) f2 → (f1 ++ f2).Nodup → (∀ b ∈ f1 ++ f2, B ≤ b) → B ≤ w.heap.size → TyNew B w' (.mk kk [t, u]) (.agg #[.int .i64 kk, .slice a n q]) := by
  go_enter Try.func36, Try.ntmps36
  go_wp2_with fail
  refine bodyPost_ret (v := .agg #[.int .i64 kk, .slice (some ⟨w.heap.size + 1 + 1 + 1, 0, none⟩) 2 2]) (by simp [results, Try.results36, go_sem]) rfl ?_
  refine ⟨_, _, _, rfl, bstep bal3 bal1, fun B t u f1 f2 hy hz hd hB hBw => ?_⟩
  have h1 := TyOwn.cells (hy.below (bal3 (o := .cells #[.int .i64 k1, .slice a1 n1 q1] 24) (o' := .cells #[.int .i64 k2, .slice a2 n2 q2] 24) (o2 := .cells #[.int .i64 kk, .slice (some ⟨w.heap.size + 1 + 1 + 1, 0, none⟩) 2 2] 24)))
  have h2 := TyOwn.cells (hz.below (bal3 (o := .cells #[.int .i64 k1, .slice a1 n1 q1] 24) (o' := .cells #[.int .i64 k2, .slice a2 n2 q2] 24) (o2 := .cells #[.int .i64 kk, .slice (some ⟨w.heap.size + 1 + 1 + 1, 0, none⟩) 2 2] 24)))
  have h := TysNew.two (B := B) (T := 24) h1 h2 hd hB (by simp; omega) (bal1 (o := .cells #[.int .i64 k1, .slice a1 n1 q1, .int .i64 k2, .slice a2 n2 q2] 24)) (heap_alloc_new _ _)
  have e : ∀ o1 o2 o3, (((w.alloc o1).alloc o2).alloc o3).heap.size = w.heap.size + 1 + 1 + 1 := by intros; simp
  rw [e] at h
  exact h.ty
set_option maxHeartbeats 4000000 in
theorem implTypP (d : Nat) (deep : Int) (IH : ∀ (r : Nat) (s : ByteArray) (bad : Bool) (w : World), rdB w r s bad → Calls Try.prog 18 #[.pointer (some ⟨r, 0, none⟩), .int .i64 (deep + 1)] w (TypP r d s bad w)) (hd : decide (deep > 4) = false) (h1 : 1 ≤ deep ∧ deep ≤ 4)
    (r : Nat) (s : ByteArray) (cs : List UInt8) (hl : s.data.toList = 40 :: cs) (w : World) (hr : rdB w r s false) : Calls Try.prog 18 #[.pointer (some ⟨r, 0, none⟩), .int .i64 deep] w (TypP r (d + 1) s false w) := by
  have hrl := hr.lt
  have hw : wrap64 (deep + 1) = deep + 1 := by unfold wrap64; omega
  have hn := implNext r s false _ (hr.al (o := .cells #[.int .i64 0, .slice none 0 0] 24))
  have hs := implSkip r s false 40 _ (hr.al (o := .cells #[.int .i64 0, .slice none 0 0] 24))
  rw [hl] at hn hs
  have HN := Lib.hid (show Calls Try.prog _ _ _ fun e w' => e = .returned (.int .u8 40) ∧ w' = _ from hn)
  have HS := Lib.hid (show Calls Try.prog _ _ _ fun e w' => ∃ s', e = .returned (.tuple #[]) ∧ rdB w' r s' false ∧ s'.data.toList = cs ∧ Chg [r] (w.alloc (.cells #[.int .i64 0, .slice none 0 0] 24)) w' from hs)
  have HIH := Lib.hid IH
  have hZ : (w.alloc (.cells #[.int .i64 0, .slice none 0 0] 24)).heap[w.heap.size]? = some (.cells #[.int .i64 0, .slice none 0 0] 24 (0, 0)) := blk_new rfl
  have HL := Lib.hid hl
  clear hn hs hr hl IH h1
  go_enter Try.func18, Try.ntmps18
  go_wp2_with fail
  refine HN.out.mono ?_
  rintro e w0 ⟨rfl, rfl⟩
  go_wp2_with fail
  refine HS.out.mono ?_
  rintro e w1 ⟨s1, rfl, hr1, hl1, hc1⟩
  replace hZ := blk_chg hZ hc1 (by omega)
  have HC := Lib.hid ((Chg.of_below (fp := [r]) (bal1 (w := w) (o := .cells #[.int .i64 0, .slice none 0 0] 24))).trans hc1)
  have hz1 := hc1.size
  simp only [World.size_alloc] at hz1
  have H2 := Lib.hid (HIH.out r s1 false w1 hr1)
  have HL1 := Lib.hid hl1
  clear hr1 hc1 HN HS hl1
  go_wp2_with fail
  refine H2.out.mono ?_
  rintro e w2 ⟨k2, a2, n2, q2, s2, b2, rfl, hr2, hc2, hm2⟩
  replace hZ := blk_chg hZ hc2 (by omega)
  replace HC := Lib.hid (HC.out.trans hc2)
  have hz2 := hc2.size
  have HM2 := Lib.hid hm2
  have HK := Lib.hid (implKind r s2 b2 4 5 _ (hr2.al (o := .cells #[.int .i64 k2, .slice a2 n2 q2] 24)))
  clear hr2 hc2 hm2 H2
  go_wp2_with fail
  refine HK.out.mono ?_
  rintro e w3 ⟨s3, rfl, hr3, hl3, hc3⟩
  replace hZ := blk_chg (blk_below hZ (bal1 (o := .cells #[.int .i64 k2, .slice a2 n2 q2] 24))) hc3 (by omega)
  have hV := blk_chg (blk_new (w := w2) (o := .cells #[.int .i64 k2, .slice a2 n2 q2] 24) rfl) hc3 (by omega)
  have hz3 := hc3.size
  simp only [World.size_alloc] at hz3
  have HC23 := Lib.hid ((Chg.of_below (fp := [r]) (bal1 (w := w2) (o := .cells #[.int .i64 k2, .slice a2 n2 q2] 24))).trans hc3)
  replace HC := Lib.hid (HC.out.trans HC23.out)
  have HL3 := Lib.hid hl3
  have H4 := Lib.hid (HIH.out r s3 _ w3 hr3)
  clear hr3 hc3 hl3 HK
  generalize hkv : kindV (hdC b2 s2.data.toList) = kv at *
  have HKV := Lib.hid hkv
  clear hkv
  generalize hb3 : ((b2 || s2.data.toList.isEmpty) || !(decide (4 ≤ kv) && decide (kv ≤ 5))) = b3 at *
  have HB3 := Lib.hid hb3
  clear hb3
  go_wp2_with fail
  refine H4.out.mono ?_
  rintro e w4 ⟨k4, a4, n4, q4, s4, b4, rfl, hr4, hc4, hm4⟩
  replace hZ := blk_chg hZ hc4 (by omega)
  replace hV := blk_chg hV hc4 (by omega)
  have hz4 := hc4.size
  have HM4 := Lib.hid hm4
  have HC34 := Lib.hid hc4
  replace HC := Lib.hid (HC.out.trans hc4)
  have HS2 := Lib.hid (implSkip r s4 b4 41 _ (hr4.al (o := .cells #[.int .i64 k4, .slice a4 n4 q4] 24)))
  clear hr4 hc4 hm4 H4
  go_wp2_with fail
  refine HS2.out.mono ?_
  rintro e w5 ⟨s5, rfl, hr5, hl5, hc5⟩
  replace hZ := blk_chg (blk_below hZ (bal1 (o := .cells #[.int .i64 k4, .slice a4 n4 q4] 24))) hc5 (by omega)
  replace hV := blk_chg (blk_below hV (bal1 (o := .cells #[.int .i64 k4, .slice a4 n4 q4] 24))) hc5 (by omega)
  have hX := blk_chg (blk_new (w := w4) (o := .cells #[.int .i64 k4, .slice a4 n4 q4] 24) rfl) hc5 (by omega)
  have hz5 := hc5.size
  simp only [World.size_alloc] at hz5
  have HC45 := Lib.hid ((Chg.of_below (fp := [r]) (bal1 (w := w4) (o := .cells #[.int .i64 k4, .slice a4 n4 q4] 24))).trans hc5)
  replace HC := Lib.hid (HC.out.trans HC45.out)
  have HL5 := Lib.hid hl5
  have HR5 := Lib.hid hr5
  clear hr5 hc5 hl5 HS2
  have v0 : w5.cell? ⟨w2.heap.size, 0, none⟩ = some (.int .i64 k2) := blk_cell hV rfl
  have v1 : w5.cell? ⟨w2.heap.size, 1, none⟩ = some (.slice a2 n2 q2) := blk_cell hV rfl
  have x0 : w5.cell? ⟨w4.heap.size, 0, none⟩ = some (.int .i64 k4) := blk_cell hX rfl
  have x1 : w5.cell? ⟨w4.heap.size, 1, none⟩ = some (.slice a4 n4 q4) := blk_cell hX rfl
  have lv := blk_lt hV
  have lx := blk_lt hX
  have lz5 := blk_lt hZ
  go_wp2_with fail
  refine (implBothR _ _ _ _ _ _ _ _ _ _).mono ?_
  rintro e w6 ⟨a6, n6, q6, rfl, hb6, hown⟩
  have HOW := Lib.hid hown
  replace hZ := blk_below hZ hb6
  have HB6 := Lib.hid hb6
  have hz6 := hb6.size
  have lz := blk_lt hZ
  clear hown hb6 v0 v1 x0 x1
  have z0 : w6.cell? ⟨w.heap.size, 0, none⟩ = some (.int .i64 0) := blk_cell hZ rfl
  have z1 : w6.cell? ⟨w.heap.size, 1, none⟩ = some (.slice none 0 0) := blk_cell hZ rfl
  have zf0 : w6.frozen? ⟨w.heap.size, 0, none⟩ = false := blk_fro hZ 0
  have zf1 : w6.frozen? ⟨w.heap.size, 1, none⟩ = false := blk_fro hZ 1
  go_wp2_with fail
  have hY1 := blk_set (v := .int .i64 kv) hZ (rfl : (#[Value.int .i64 0, .slice none 0 0] : Array Value).setIfInBounds 0 (.int .i64 kv) = #[.int .i64 kv, .slice none 0 0])
  have hY2 := blk_set (v := .slice a6 n6 q6) hY1 (rfl : (#[Value.int .i64 kv, .slice none 0 0] : Array Value).setIfInBounds 1 (.slice a6 n6 q6) = #[.int .i64 kv, .slice a6 n6 q6])
  have rc0 := blk_cell hY2 (o := 0) rfl
  have rc1 := blk_cell hY2 (o := 1) rfl
  refine bodyPost_ret (v := .agg #[.int .i64 kv, .slice a6 n6 q6]) (by simp [results, Try.results18, go_sem, rc0, rc1]) rfl ?_
  have hch := HC.out.trans (Chg.of_below (fp := [r]) HB6.out)
  refine ⟨kv, a6, n6, q6, s5, _, rfl, ((HR5.out.chg HB6.out).set (by omega)).set (by omega), ⟨hch.os, hch.tape, hch.output, by simpa [World.setCell] using hch.size, fun b hb hn => ?_⟩, ?_⟩
  · rw [Below.heap_setCell _ _ _ _ (by show b ≠ w.heap.size; omega), Below.heap_setCell _ _ _ _ (by show b ≠ w.heap.size; omega)]
    exact hch.block b hb hn
  rintro o rfl
  have m2 := HM2.out _ rfl
  have m4 := HM4.out _ rfl
  have l1 := HL1.out; have l3 := HL3.out; have l5 := HL5.out; have kve := HKV.out; have b3e := HB3.out
  rw [HL.out]
  rw [l1] at m2
  unfold gP ps
  rw [if_neg (by simp), if_pos rfl]
  cases h2 : ps d cs with
  | none =>
    simp only [gP, h2] at m2
    subst m2
    simp at b3e
    subst b3e
    simp [gP] at m4
    subst m4
    simp
  | some p =>
    obtain ⟨ta, l2⟩ := p
    simp only [gP, h2] at m2
    obtain ⟨rfl, e2, n2w⟩ := m2
    rw [e2] at kve b3e l3
    cases l2 with
    | nil =>
      simp at b3e
      subst b3e
      simp [gP] at m4
      subst m4
      simp
    | cons m r1 =>
      simp only [hdC, rest1] at kve l3
      simp only [Bool.false_eq_true, if_false, List.tail_cons] at kve l3
      dsimp only
      rw [kve]
      by_cases hk : 4 ≤ kv ∧ kv ≤ 5
      · rw [if_pos hk]
        have : b3 = false := by rw [← b3e]; simp [hk.1, hk.2]
        subst this
        rw [l3] at m4
        cases h4 : ps d r1 with
        | none =>
          simp only [gP, h4] at m4
          simp at m4
          subst m4
          simp
        | some p4 =>
          obtain ⟨tb, l4⟩ := p4
          simp only [gP, h4] at m4
          simp at m4
          obtain ⟨rfl, e4, n4w⟩ := m4
          rw [e4] at l5 ⊢
          cases l4 with
          | nil => simp
          | cons c5 r2 =>
            simp only [rest1, Bool.false_eq_true, if_false, List.tail_cons] at l5
            dsimp only
            by_cases hc : c5 = 41
            · rw [if_pos hc]
              subst hc
              refine ⟨by simp [hdC], l5, ?_⟩
              obtain ⟨f1, o1, d1, g1⟩ := n2w
              obtain ⟨f2, o2, d2, g2⟩ := n4w
              have lt1 := o1.lt
              have p1 := TyOwn.chg HC45.out (fun b hb => by have := g1 b hb; simp; omega) (TyOwn.chg HC34.out (fun b hb => by have := g1 b hb; simp; omega) (TyOwn.chg HC23.out (fun b hb => by have := g1 b hb; simp; omega) o1))
              have p2 := TyOwn.chg HC45.out (fun b hb => by have := g2 b hb; simp; omega) o2
              have hnew := HOW.out (w.heap.size + 1) ta tb f1 f2 p1 p2 (List.nodup_append.2 ⟨d1, d2, fun x hx y hy hxy => by have h1 := lt1 x hx; have h2 := g2 y hy; omega⟩) (fun b hb => (List.mem_append.1 hb).elim (fun h => by have := g1 b h; omega) (fun h => by have := g2 b h; omega)) (by omega)
              exact ((hnew.setCell (p := ⟨w.heap.size, 0, none⟩) (by show w.heap.size < w.heap.size + 1; omega) (.int .i64 kv)).setCell (p := ⟨w.heap.size, 1, none⟩) (by show w.heap.size < w.heap.size + 1; omega) (.slice a6 n6 q6)).mono (by omega)
            · rw [if_neg hc]
              have hc' : ((c5.toNat : Int) == 41) = false := by
                rcases Bool.eq_false_or_eq_true ((c5.toNat : Int) == 41) with q | q
                · exfalso
                  apply hc
                  have h : (c5.toNat : Int) = 41 := by simpa using q
                  have h' : c5.toNat = 41 := by omega
                  exact UInt8.toNat_inj.1 (by rw [h']; rfl)
                · exact q
              simp only [hdC, Bool.false_eq_true, if_false, hc']
              simp
      · rw [if_neg hk]
        have : b3 = true := by
          rw [← b3e]
          simp
          omega
        subst this
        simp [gP] at m4
        subst m4
        simp
theorem implTyp : ∀ (d : Nat), d ≤ 4 → ∀ (r : Nat) (s : ByteArray) (bad : Bool) (w : World), rdB w r s bad → Calls Try.prog 18 #[.pointer (some ⟨r, 0, none⟩), .int .i64 (5 - (d : Int))] w (TypP r d s bad w)
  | 0, _, r, s, bad, w, hr => implTyp0 r s bad w hr
  | d + 1, hd, r, s, bad, w, hr => by
    have e1 : (5 : Int) - ((d + 1 : Nat) : Int) + 1 = 5 - (d : Int) := by omega
    have h4 : decide ((5 : Int) - ((d + 1 : Nat) : Int) > 4) = false := by simp; omega
    rcases Bool.eq_false_or_eq_true (hdC bad s.data.toList == 40) with q | q
    · have hb : bad = false ∧ ∃ cs, s.data.toList = 40 :: cs := by
        cases bad
        · cases hl : s.data.toList with
          | nil => rw [hl] at q; simp [hdC] at q
          | cons c cs =>
            rw [hl] at q
            simp only [hdC, Bool.false_eq_true, if_false, beq_iff_eq] at q
            have h' : c.toNat = 40 := by omega
            have : c = 40 := UInt8.toNat_inj.1 (by rw [h']; rfl)
            exact ⟨rfl, cs, by rw [this]⟩
        · cases hl : s.data.toList with
          | nil => rw [hl] at q; simp [hdC] at q
          | cons c cs => rw [hl] at q; simp [hdC] at q
      obtain ⟨rfl, cs, hl⟩ := hb
      exact implTypP d _ (fun r s bad w h => by rw [e1]; exact implTyp d (by omega) r s bad w h) h4 (by omega) r s cs hl w hr
    · exact implTypL r s bad w hr d _ h4 q
end Go.Proofs.Ytikkneahhgmdjaa
