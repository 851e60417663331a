/-
  The labels of a term with casts, by the program.
-/
import Derived.Test.YtghgjpcibdfbmaaTmLabP
import Derived.Test.YtghgjpcibdfbmaaInts
import Derived.Test.YtghgjpcibdfbmaaShelfC
import Derived.Test.YtghgjpcibdfbmaaTmCastsJ
import Derived.Test.YtghgjpcibdfbmaaK5
import Derived.Sort.OwnSortedInts
namespace Go.Proofs.Ytghgjpcibdfbmaa
open Go.RowKit Go.Sort
set_option linter.unusedVariables false
set_option linter.unusedSimpArgs false
set_option maxRecDepth 100000

theorem Try.infoInt : (Try.prog.info? 3).map (fun i => (i.zero, i.size, i.bytes)) = some (some (.int .i64 0), 1, 8) := by kernel_rfl
theorem ownsRow_shape {w : World} {B n : Nat} {e : TypeId} {size : Nat} {v : Value} {xs : List Value} (h : w.ownsRow B e size v n xs) : ∃ c q, v = .slice c n q := by
  rcases h.2 with ⟨rfl, rfl⟩ | ⟨g, cap, cur, rfl, -⟩
  · exact ⟨none, 0, rfl⟩
  · exact ⟨_, cap, rfl⟩
theorem ownsRow_prefix {w : World} {B n m cap g : Nat} {e : TypeId} {xs : List Value} (h : w.ownsRow B e 1 (.slice (some ⟨g, 0, none⟩) n cap) n xs) (hm : m ≤ n) : w.ownsRow B e 1 (.slice (some ⟨g, 0, none⟩) m cap) m (xs.take m) := by
  obtain ⟨hl, h⟩ := h
  rcases h with ⟨h, -⟩ | ⟨g', cap', cur, he, hb, hg, h1, h2, h3, h4⟩
  · cases h
  · simp only [Value.slice.injEq, Option.some.injEq, Addr.mk.injEq, and_true, true_and] at he
    obtain ⟨rfl, rfl⟩ := he
    refine ⟨by rw [List.length_take]; omega, .inr ⟨g, cap, cur, rfl, hb, hg, by omega, h2, h3, ?_⟩⟩
    rw [← h4, List.take_take]
    congr 1
    omega
theorem sortOwn {B n : Nat} {l : List Int} {v : Value} (w : World) (h : w.ownsRow B 3 1 v n (l.map (Value.int .i64))) (hn : n ≤ 1000000) :
    Calls Try.prog 67 #[v] w fun e w' => e = .returned (.tuple #[]) ∧ w'.ownsRow B 3 1 v n ((sorted l).map (Value.int .i64)) ∧ w.grownBy w' v.ownBlock := by
  have hl : l.length = n := by have := h.1; simpa using this
  rcases h.2 with ⟨rfl, rfl⟩ | ⟨g, cap, cur, rfl, hb, hg, h1, h2, h3, h4⟩
  · refine (Try.slices_Sort_int_none none 0 w).mono ?_
    rintro e w' ⟨rfl, rfl⟩
    have : l = [] := List.eq_nil_of_length_eq_zero hl
    subst this
    exact ⟨rfl, by simpa [sorted] using h, rfl, rfl, rfl, Nat.le_refl _, fun _ _ _ => rfl⟩
  · subst hl
    rw [Nat.mul_one] at h4
    refine (Try.slices_Sort_int g 0 cap l w (holds_of_blockI hg h4) (Array.getElem?_eq_some_iff.1 hg).1 (by omega)).mono ?_
    rintro e w' ⟨rfl, q, os, rfl⟩
    exact ⟨rfl, ownsRow_sortedI (List.length_mergeSort _) hb hg h1 h2 h3, grownBy_sortedI _⟩
theorem compactOwn {B n : Nat} {l : List Int} {v : Value} (w : World) (h : w.ownsRow B 3 1 v n (l.map (Value.int .i64))) (hn : n ≤ 1000000) :
    Calls Try.prog 68 #[v] w fun e w' => ∃ v', e = .returned v' ∧ w'.ownsRow B 3 1 v' (Lib.compact l).length ((Lib.compact l).map (Value.int .i64)) ∧ w.grownBy w' v.ownBlock := by
  have hl : l.length = n := by have := h.1; simpa using this
  rcases h.2 with ⟨rfl, rfl⟩ | ⟨g, cap, cur, rfl, hb, hg, h1, h2, h3, h4⟩
  · refine (Try.slices_Compact_int_empty none 0 w).mono ?_
    rintro e w' ⟨rfl, rfl⟩
    have : l = [] := List.eq_nil_of_length_eq_zero hl
    subst this
    exact ⟨_, rfl, by simpa [Lib.compact, Lib.compactUpTo] using h, rfl, rfl, rfl, Nat.le_refl _, fun _ _ _ => rfl⟩
  · subst hl
    rw [Nat.mul_one] at h4
    refine (Try.slices_Compact_int g 0 cap l w (holds_of_blockI hg h4) (by omega) h1).mono ?_
    rintro e w' ⟨rfl, q, rfl⟩
    have hc : (Lib.compact l).length ≤ l.length := by
      unfold Lib.compact Lib.compactUpTo
      have := List.length_filter_le (Lib.keeps l.toArray) (List.range l.length)
      simpa using this
    have h5 := ownsRow_sortedI (w := w) (base := B) (n := q) (os := #[]) (ss := l) (ts := Lib.compact l ++ List.replicate (l.length - (Lib.compact l).length) 0) (by rw [List.length_append, List.length_replicate]; omega) hb hg h1 h2 h3
    rw [Sort.grow_empty] at h5
    have h6 := ownsRow_prefix h5 hc
    rw [List.map_append, List.take_append_of_le_length (by simp), List.take_of_length_le (by simp)] at h6
    have h7 := grownBy_sortedI (w := w) (g := g) (n := q) (os := #[]) (Lib.compact l ++ List.replicate (l.length - (Lib.compact l).length) 0).toArray
    rw [Sort.grow_empty] at h7
    exact ⟨_, rfl, h6, h7⟩
set_option maxHeartbeats 8000000 in
theorem implCastLabels (F : Nat → Prop) (t : Tm) (y : Value) (w : World) (hy : TmRep F w t y) :
    Calls Try.prog 20 #[y] w (RetInts t.labels w) := by
  have hyB : TmRep (· < w.heap.size) w t y := hy.move (.weaken fun _ _ h => h)
  have hv := fun W (h : Below w.heap.size w W) => implCastValid F t y W (hy.below h)
  have hc := fun (hok : t.castValid = true) W (h : Below w.heap.size w W) => implCasts (· < w.heap.size) w.heap.size (fun _ h => h) t (by have := Tm.casts_ok hok; omega) y W (hyB.below h) h.size
  have hlen := fun (hok : t.castValid = true) => Tm.casts_ok hok
  unfold Tm.labels
  rw [← Tm.labs_eq]
  obtain ⟨k, nm, u, tk, ta, tn, tq, fk, fa, fn, fq, l, c, m, q, rfl⟩ := hy.shape
  obtain ⟨i0, hi, hz0, hz1, hz2⟩ := info_parts Try.infoInt
  generalize t.casts = us at *
  generalize t.castValid = v at *
  have HV := Lib.hid hv
  have HC := Lib.hid hc
  have HLEN := Lib.hid hlen
  have Z0 := Lib.hid hz0
  have Z1 := Lib.hid hz1
  have Z2 := Lib.hid hz2
  have HI := Lib.hid hi
  clear hv hc hlen hy hyB hz0 hz1 hz2 hi
  cases v
  · simp only [Bool.false_eq_true, if_false]
    go_enter Try.func20, Try.ntmps20
    go_wp2_with fail
    refine (HV.out _ bal1).mono ?_
    rintro e w1 ⟨rfl, hb1⟩
    go_wp2_with fail
    go_ret
    exact ⟨_, rfl, ⟨[], IntsOwn.nilv (by unfold maxLen; omega), List.nodup_nil, by simp⟩, bstep bal1 hb1⟩
  · simp only [if_true]
    have hlen := HLEN.out rfl
    have HLEN' := Lib.hid hlen
    clear hlen HLEN
    go_enter Try.func20, Try.ntmps20
    go_wp2_with fail
    refine (HV.out _ bal1).mono ?_
    rintro e w1 ⟨rfl, hb1⟩
    have c0 : w1.cell? ⟨w.heap.size, 0, none⟩ = some (.int .i64 k) := bcell hb1 (cell_n0 0)
    have c1 : w1.cell? ⟨w.heap.size, 1, none⟩ = some (.string nm) := bcell hb1 (cell_n0 1)
    have c2 : w1.cell? ⟨w.heap.size, 2, none⟩ = some (.int .i64 u) := bcell hb1 (cell_n0 2)
    have c3 : w1.cell? ⟨w.heap.size, 3, none⟩ = some (.int .i64 tk) := bcell hb1 (cell_n0 3)
    have c4 : w1.cell? ⟨w.heap.size, 4, none⟩ = some (.slice ta tn tq) := bcell hb1 (cell_n0 4)
    have c5 : w1.cell? ⟨w.heap.size, 5, none⟩ = some (.int .i64 fk) := bcell hb1 (cell_n0 5)
    have c6 : w1.cell? ⟨w.heap.size, 6, none⟩ = some (.slice fa fn fq) := bcell hb1 (cell_n0 6)
    have c7 : w1.cell? ⟨w.heap.size, 7, none⟩ = some (.int .i64 l) := bcell hb1 (cell_n0 7)
    have c8 : w1.cell? ⟨w.heap.size, 8, none⟩ = some (.slice c m q) := bcell hb1 (cell_n0 8)
    have hB1 := bstep bal1 hb1
    have hbz := hB1.size
    go_wp2_with fail
    refine (HC.out (by simp) _ hB1).mono ?_
    rintro e w2 ⟨v2, rfl, hacc2, -, hb2⟩
    have hts := hacc2.tms
    obtain ⟨a2, q2, rfl, hq1, hq2, -⟩ := hts.open
    have hB2 := bstep hB1 hb2
    have hbz2 := hB2.size
    have HB2 := Lib.hid hB2
    have HTS0 := Lib.hid hts
    clear hts hacc2 c0 c1 c2 c3 c4 c5 c6 c7 c8 hb1 hb2 hB1 hB2 HV HC
    obtain ⟨n, hn⟩ : ∃ n, us.length = n := ⟨_, rfl⟩
    have hts := HTS0.out
    rw [hn] at hq1 hts ⊢
    have HN := Lib.hid hn
    have HTS := Lib.hid hts
    have hn2 : n ≤ 200 := by have := HLEN'.out; omega
    unfold maxLen at hq2
    clear hn HTS0 hts
    go_wp2_with fail
    go_loopw [12, 3] (fun i p wr => ∃ j : Nat, j ≤ n ∧ i = .int .i64 j ∧ (∃ pv, pv = p ∧ Hid (wr.ownsRow w2.heap.size 3 1 pv j (((us.take j).map Tm.label).map (Value.int .i64)))) ∧ Hid (Below w2.heap.size w2 wr) ∧ w2.heap.size ≤ wr.heap.size) (fun i _ _ => n - (intOf i).toNat)
    case atStart => exact ⟨0, by omega, rfl, ⟨_, rfl, by simpa [Hid] using World.ownsRow_nil _ _ _ _⟩, Below.refl _ _, Nat.le_refl _⟩
    case round =>
      obtain ⟨j, hj, rfl, ⟨pv, rfl, hown⟩, hbw, hsz⟩ := hrel
      obtain ⟨cv, qv, rfl⟩ := ownsRow_shape hown.out
      by_cases hlt : j < n
      · have hjt : j < us.length := by rw [HN.out]; exact hlt
        obtain ⟨b, off, k0, nm0, u0, tk0, ta0, tn0, tq0, fk0, fa0, fn0, fq0, l0, a0, m0, q0, rfl, lb0, e0, e1, e2, e3, e4, e5, e6, e7, e8, ht⟩ := HTS.out.at hbw.out hjt
        obtain ⟨-, -, -, -, -, -, -, r8, -⟩ := ht.parts
        have hmap : (((us.take (j + 1)).map Tm.label).map (Value.int .i64)) = ((us.take j).map Tm.label).map (Value.int .i64) ++ [.int .i64 l0] := by rw [List.take_succ_eq_append_getElem hjt, List.map_append, List.map_append, r8]; rfl
        obtain ⟨xs, hxs⟩ : ∃ x, ((us.take j).map Tm.label).map (Value.int .i64) = x := ⟨_, rfl⟩
        rw [hxs] at hown hmap
        have HMAP := Lib.hid hmap
        have HO' := Lib.hid (ownsRow_below hown.out (bal2 (o := .cells #[.int .i64 k0, .string nm0, .int .i64 u0, .int .i64 tk0, .slice ta0 tn0 tq0, .int .i64 fk0, .slice fa0 fn0 fq0, .int .i64 l0, .slice a0 m0 q0] 36) (o' := .cells #[.int .i64 l0] 3)))
        clear ht r8 hmap hxs
        go_wp2_with (first | (at_builtin; refine wpList_append_lies _ rfl (.tmp 16) (.tmp 19) 29 rfl w2.heap.size 3 i0 _ 1 8 Try.underlying29 HI.out Z0.out Z1.out Z2.out rfl (by omega) (.slice cv j qv) j xs rfl HO'.out ⟨wr.heap.size + 1, 0, none⟩ 1 1 [.int .i64 l0] rfl rfl (World.news_of_block (cs := #[.int .i64 l0]) (t := 3) (fr := (0, 0)) (by rw [show wr.heap.size + 1 = (wr.alloc (.cells #[.int .i64 k0, .string nm0, .int .i64 u0, .int .i64 tk0, .slice ta0 tn0 tq0, .int .i64 fk0, .slice fa0 fn0 fq0, .int .i64 l0, .slice a0 m0 q0] 36)).heap.size by simp]; exact heap_alloc_new _ _)) (by simp [Value.oneCell']) (by omega) (by unfold maxLen; omega) (by omega) (by simp; omega) _ rfl ?_) | fail)
        intro gg cap2 w5 hown2 hgrow hat hlt2
        have HOWN2 := Lib.hid hown2
        have HBEL := Lib.hid (grown_below hbw.out bal2 hown.out (Nat.le_refl _) hgrow)
        have hsz5 := HBEL.out.size
        clear hown2 hgrow hat
        go_wp2_with fail
        go_roundw
        case rel => exact ⟨j + 1, by omega, by go_num, ⟨_, rfl, by unfold Hid; rw [HMAP.out]; exact HOWN2.out⟩, HBEL.out, hsz5⟩
        case measure => simp [intOf]; omega
      · have hje : us.take j = us := List.take_of_length_le (by have := HN.out; omega)
        have hjn : j = n := by omega
        subst hjn
        have ho := hown.out
        rw [hje] at ho
        have HO := Lib.hid ho
        clear ho hje hown
        go_wp2_with fail
        refine (sortOwn wr HO.out (by omega)).mono ?_
        rintro e w6 ⟨rfl, ho6, hg6⟩
        have HO6 := Lib.hid ho6
        have HB6 := Lib.hid ((HB2.out.trans (hbw.out.mono hbz2)).grown hg6 (Nat.le_trans hbz2 hsz) (fun k hk => by have := (HO.out.lt k hk).1; omega))
        clear ho6 hg6
        go_wp2_with fail
        refine (compactOwn w6 HO6.out (by omega)).mono ?_
        rintro e w7 ⟨v7, rfl, ho7, hg7⟩
        have HO7 := Lib.hid ho7
        have HB7 := Lib.hid (HB6.out.grown hg7 HB6.out.size (fun k hk => by have := (HO.out.lt k hk).1; omega))
        obtain ⟨c7', q7, rfl⟩ := ownsRow_shape ho7
        clear ho7 hg7
        go_wp2_with fail
        go_ret
        obtain ⟨fp, h1, h2, h3⟩ := IntsOwn.of_row HO7.out
        exact ⟨_, rfl, ⟨fp, h1, h2, fun x hx => by have := h3 x hx; omega⟩, HB7.out⟩
end Go.Proofs.Ytghgjpcibdfbmaa
