/-
  Closed terms, terms: drawn.
-/
import Derived.Test.YtpckgpndaligbaaTmDraw
import Derived.Test.YtpckgpndaligbaaB23
namespace Go.Proofs.Ytpckgpndaligbaa
open Go.RowKit
set_option linter.unusedVariables false
set_option linter.unusedSimpArgs false
set_option maxRecDepth 100000


set_option maxHeartbeats 8000000 in
theorem specL2Closed (r p : Nat) (w : World) (h : RdAt w r p) (hp : p ≤ 1000000000) : Calls Try.prog 33 #[.pointer (some ⟨r, 0, none⟩)] w (DTm r p 5121 5120 w) := by
  have hrl := h.1
  go_enter Try.func33, Try.ntmps33
  go_wp2_with fail
  refine (specNum (fun k => 2 ≤ k ∧ k ≤ 5) r (p) _ 5 5 _ (h.below bal2) (by omega) (by omega) (by omega) (Nat.le_refl _) (by omega) (ints_cell [4, 3, 5, 4, 2] (by simp) _ (by decide))).mono ?_
  rintro e w2 ⟨kz, rfl, ⟨z1, z2⟩, hrd2, hc2⟩
  have hw2 := hc2.size
  simp only [World.size_alloc] at hw2
  have hch2 := (Chg.of_below (bal2 (w := w))).trans hc2
  have hR2 : w2.heap[w.heap.size]? = some (.cells #[.int .i64 0, .string { data := #[] }, .int .i64 0, .int .i64 0, .slice none 0 0, .int .i64 0, .slice none 0 0, .int .i64 0, .slice none 0 0] 28 (0, 0)) := blk_chg (blk_below (blk_new rfl) bal1) hc2 (by omega)
  clear hc2
  obtain ⟨d, rfl⟩ := Int.eq_ofNat_of_zero_le (show 0 ≤ kz by omega)
  have hd4 : 4 ^ d ≤ 4 ^ 5 := Nat.pow_le_pow_right (by omega) (by omega)
  have HD4 := Lib.hid (show 4 ^ d ≤ 1024 by simpa using hd4)
  clear hd4
  go_wp2_with fail
  refine (specL2Draw d r (p + 1) [] _ (by omega) (by omega) (by simp; omega) hrd2 (by have := HD4.out; omega)).mono ?_
  rintro e w3 ⟨t, v, q, rfl, hcn, hv, hq, hrd3, hc3⟩
  obtain ⟨kt, nm0, ut, tkt, tat, tnt, tqt, fkt, fat, fnt, fqt, lt, ct, mt, qt, rfl⟩ := hv.shape
  have hw3 := hc3.size
  have hch3 := hch2.trans hc3
  have hR3 := blk_chg hR2 hc3 (by omega)
  clear hc3 hch2 hR2 hrd2
  have hval := fun W (h : Below w3.heap.size w3 W) => specTermValid _ t _ W (hv.below h)
  generalize t.valid = vv at hval
  have HVAL := Lib.hid hval
  have HCN := Lib.hid (show t.cnt ≤ 5120 by have := HD4.out; omega)
  have HQ := Lib.hid (show q ≤ p + 5121 by have := HD4.out; omega)
  clear hval hcn hq
  go_wp2_with fail
  refine (HVAL.out _ bal1).mono ?_
  rintro e w4 ⟨rfl, hb4⟩
  have hw4 := hb4.size
  simp only [World.size_alloc] at hw4
  have hrd4 := (hrd3.below (bal1 (o := (.cells #[.int .i64 kt, .string nm0, .int .i64 ut, .int .i64 tkt, .slice tat tnt tqt, .int .i64 fkt, .slice fat fnt fqt, .int .i64 lt, .slice ct mt qt] 28)))).below hb4
  have hv4 := (hv.below (bal1 (o := (.cells #[.int .i64 kt, .string nm0, .int .i64 ut, .int .i64 tkt, .slice tat tnt tqt, .int .i64 fkt, .slice fat fnt fqt, .int .i64 lt, .slice ct mt qt] 28)))).below hb4
  have hch4 := (hch3.trans (Chg.of_below (bal1 (o := (.cells #[.int .i64 kt, .string nm0, .int .i64 ut, .int .i64 tkt, .slice tat tnt tqt, .int .i64 fkt, .slice fat fnt fqt, .int .i64 lt, .slice ct mt qt] 28))))).trans (Chg.of_below hb4)
  have hR4 := blk_below (blk_below hR3 (bal1 (o := (.cells #[.int .i64 kt, .string nm0, .int .i64 ut, .int .i64 tkt, .slice tat tnt tqt, .int .i64 fkt, .slice fat fnt fqt, .int .i64 lt, .slice ct mt qt] 28)))) hb4
  have hE4 : w4.heap[w3.heap.size]? = some (.cells #[.int .i64 kt, .string nm0, .int .i64 ut, .int .i64 tkt, .slice tat tnt tqt, .int .i64 fkt, .slice fat fnt fqt, .int .i64 lt, .slice ct mt qt] 28 (0, 0)) := blk_below (blk_new rfl) hb4
  clear HVAL hrd3 hv hch3 hR3 hb4
  have x0 : w4.cell? ⟨w.heap.size, 0, none⟩ = some (.int .i64 0) := blk_cell hR4 rfl
  have f0 : w4.frozen? ⟨w.heap.size, 0, none⟩ = false := blk_fro hR4 0
  have x1 : w4.cell? ⟨w.heap.size, 1, none⟩ = some (.string { data := #[] }) := blk_cell hR4 rfl
  have f1 : w4.frozen? ⟨w.heap.size, 1, none⟩ = false := blk_fro hR4 1
  have x2 : w4.cell? ⟨w.heap.size, 2, none⟩ = some (.int .i64 0) := blk_cell hR4 rfl
  have f2 : w4.frozen? ⟨w.heap.size, 2, none⟩ = false := blk_fro hR4 2
  have x3 : w4.cell? ⟨w.heap.size, 3, none⟩ = some (.int .i64 0) := blk_cell hR4 rfl
  have f3 : w4.frozen? ⟨w.heap.size, 3, none⟩ = false := blk_fro hR4 3
  have x4 : w4.cell? ⟨w.heap.size, 4, none⟩ = some (.slice none 0 0) := blk_cell hR4 rfl
  have f4 : w4.frozen? ⟨w.heap.size, 4, none⟩ = false := blk_fro hR4 4
  have x5 : w4.cell? ⟨w.heap.size, 5, none⟩ = some (.int .i64 0) := blk_cell hR4 rfl
  have f5 : w4.frozen? ⟨w.heap.size, 5, none⟩ = false := blk_fro hR4 5
  have x6 : w4.cell? ⟨w.heap.size, 6, none⟩ = some (.slice none 0 0) := blk_cell hR4 rfl
  have f6 : w4.frozen? ⟨w.heap.size, 6, none⟩ = false := blk_fro hR4 6
  have x7 : w4.cell? ⟨w.heap.size, 7, none⟩ = some (.int .i64 0) := blk_cell hR4 rfl
  have f7 : w4.frozen? ⟨w.heap.size, 7, none⟩ = false := blk_fro hR4 7
  have x8 : w4.cell? ⟨w.heap.size, 8, none⟩ = some (.slice none 0 0) := blk_cell hR4 rfl
  have f8 : w4.frozen? ⟨w.heap.size, 8, none⟩ = false := blk_fro hR4 8
  have e0 : w4.cell? ⟨w3.heap.size, 0, none⟩ = some (.int .i64 kt) := blk_cell hE4 rfl
  have e1 : w4.cell? ⟨w3.heap.size, 1, none⟩ = some (.string nm0) := blk_cell hE4 rfl
  have e2 : w4.cell? ⟨w3.heap.size, 2, none⟩ = some (.int .i64 ut) := blk_cell hE4 rfl
  have e3 : w4.cell? ⟨w3.heap.size, 3, none⟩ = some (.int .i64 tkt) := blk_cell hE4 rfl
  have e4 : w4.cell? ⟨w3.heap.size, 4, none⟩ = some (.slice tat tnt tqt) := blk_cell hE4 rfl
  have e5 : w4.cell? ⟨w3.heap.size, 5, none⟩ = some (.int .i64 fkt) := blk_cell hE4 rfl
  have e6 : w4.cell? ⟨w3.heap.size, 6, none⟩ = some (.slice fat fnt fqt) := blk_cell hE4 rfl
  have e7 : w4.cell? ⟨w3.heap.size, 7, none⟩ = some (.int .i64 lt) := blk_cell hE4 rfl
  have e8 : w4.cell? ⟨w3.heap.size, 8, none⟩ = some (.slice ct mt qt) := blk_cell hE4 rfl
  have lx := blk_lt hR4
  have lE := blk_lt hE4
  cases vv
  · go_wp2_with fail
    refine (specL2Num 3 _).mono ?_
    rintro e w5 ⟨rfl, hb5⟩
    have hw5 := hb5.size
    have hrd5 := hrd4.below hb5
    have hch5 := hch4.trans (Chg.of_below hb5)
    have hR5 := blk_below hR4 hb5
    clear x0 f0 e0 x1 f1 e1 x2 f2 e2 x3 f3 e3 x4 f4 e4 x5 f5 e5 x6 f6 e6 x7 f7 e7 x8 f8 e8
    have x0 : w5.cell? ⟨w.heap.size, 0, none⟩ = some (.int .i64 0) := blk_cell hR5 rfl
    have f0 : w5.frozen? ⟨w.heap.size, 0, none⟩ = false := blk_fro hR5 0
    have x1 : w5.cell? ⟨w.heap.size, 1, none⟩ = some (.string { data := #[] }) := blk_cell hR5 rfl
    have f1 : w5.frozen? ⟨w.heap.size, 1, none⟩ = false := blk_fro hR5 1
    have x2 : w5.cell? ⟨w.heap.size, 2, none⟩ = some (.int .i64 0) := blk_cell hR5 rfl
    have f2 : w5.frozen? ⟨w.heap.size, 2, none⟩ = false := blk_fro hR5 2
    have x3 : w5.cell? ⟨w.heap.size, 3, none⟩ = some (.int .i64 0) := blk_cell hR5 rfl
    have f3 : w5.frozen? ⟨w.heap.size, 3, none⟩ = false := blk_fro hR5 3
    have x4 : w5.cell? ⟨w.heap.size, 4, none⟩ = some (.slice none 0 0) := blk_cell hR5 rfl
    have f4 : w5.frozen? ⟨w.heap.size, 4, none⟩ = false := blk_fro hR5 4
    have x5 : w5.cell? ⟨w.heap.size, 5, none⟩ = some (.int .i64 0) := blk_cell hR5 rfl
    have f5 : w5.frozen? ⟨w.heap.size, 5, none⟩ = false := blk_fro hR5 5
    have x6 : w5.cell? ⟨w.heap.size, 6, none⟩ = some (.slice none 0 0) := blk_cell hR5 rfl
    have f6 : w5.frozen? ⟨w.heap.size, 6, none⟩ = false := blk_fro hR5 6
    have x7 : w5.cell? ⟨w.heap.size, 7, none⟩ = some (.int .i64 0) := blk_cell hR5 rfl
    have f7 : w5.frozen? ⟨w.heap.size, 7, none⟩ = false := blk_fro hR5 7
    have x8 : w5.cell? ⟨w.heap.size, 8, none⟩ = some (.slice none 0 0) := blk_cell hR5 rfl
    have f8 : w5.frozen? ⟨w.heap.size, 8, none⟩ = false := blk_fro hR5 8
    have HEND := Lib.hid (DTm.stored (r := r) (p := p) (c := 5121) (m := 5120) (w := w) (q := q) (R := w.heap.size) (B := w.heap.size + 1) (v0 := .int .i64 2) (v1 := .string { data := #[] }) (v2 := .int .i64 3) (v3 := .int .i64 0) (v4 := .slice none 0 0) (v5 := .int .i64 0) (v6 := .slice none 0 0) (v7 := .int .i64 0) (v8 := .slice none 0 0) (TmRep.leaf0 (nm := { data := #[] }) 2 3 (by unfold maxLen; decide)) (by simp [Tm.cnt, Tm.cnts, Ty.cnt, Ty.cnts, ByteArray.size]) (by omega) HQ.out hrd5 hch5 (Nat.le_refl _) (by omega) hrl)
    go_wp2_with fail
    refine bodyPost_ret (v := .agg #[.int .i64 2, .string { data := #[] }, .int .i64 3, .int .i64 0, .slice none 0 0, .int .i64 0, .slice none 0 0, .int .i64 0, .slice none 0 0]) (by simp [results, Try.results33, go_sem, x0, x1, x2, x3, x4, x5, x6, x7, x8]) rfl ?_
    exact HEND.out
  · have HEND := Lib.hid (DTm.stored (r := r) (p := p) (c := 5121) (m := 5120) (w := w) (q := q) (R := w.heap.size) (B := w2.heap.size) (v0 := .int .i64 kt) (v1 := .string nm0) (v2 := .int .i64 ut) (v3 := .int .i64 tkt) (v4 := .slice tat tnt tqt) (v5 := .int .i64 fkt) (v6 := .slice fat fnt fqt) (v7 := .int .i64 lt) (v8 := .slice ct mt qt) hv4 HCN.out (by omega) HQ.out hrd4 hch4 (Nat.le_refl _) (by omega) hrl)
    go_wp2_with fail
    refine bodyPost_ret (v := .agg #[.int .i64 kt, .string nm0, .int .i64 ut, .int .i64 tkt, .slice tat tnt tqt, .int .i64 fkt, .slice fat fnt fqt, .int .i64 lt, .slice ct mt qt]) (by simp [results, Try.results33, go_sem, x0, x1, x2, x3, x4, x5, x6, x7, x8]) rfl ?_
    exact HEND.out

set_option maxHeartbeats 8000000 in
theorem specL2Term (r p : Nat) (w : World) (h : RdAt w r p) (hp : p ≤ 100000000) : Calls Try.prog 13 #[.pointer (some ⟨r, 0, none⟩)] w (DTm r p 5122 5120 w) := by
  have hrl := h.1
  go_enter Try.func13, Try.ntmps13
  go_wp2_with fail
  refine (specPick r p 4 _ (h.below bal1) (by omega) (by omega)).mono ?_
  rintro e w1 ⟨j1, rfl, j10, j11, hrd1, hc1⟩
  have hw1 := hc1.size
  simp only [World.size_alloc] at hw1
  have hch1 := (Chg.of_below (bal1 (w := w))).trans hc1
  have hR1 : w1.heap[w.heap.size]? = some (.cells #[.int .i64 0, .string { data := #[] }, .int .i64 0, .int .i64 0, .slice none 0 0, .int .i64 0, .slice none 0 0, .int .i64 0, .slice none 0 0] 28 (0, 0)) := blk_chg (blk_new rfl) hc1 (by omega)
  clear hc1
  rcases Bool.eq_false_or_eq_true (decide (j1 > 0)) with q0 | q0
  · go_wp2_with fail
    refine (specL2Closed r (p + 1) _ hrd1 (by omega)).mono ?_
    rintro e w2 ⟨t, v, q, rfl, hcn, hv, hq, hrd2, hc2⟩
    obtain ⟨kt, nm0, ut, tkt, tat, tnt, tqt, fkt, fat, fnt, fqt, lt, ct, mt, qt, rfl⟩ := hv.shape
    have hR2 := blk_chg hR1 hc2 (by omega)
    have x0 : w2.cell? ⟨w.heap.size, 0, none⟩ = some (.int .i64 0) := blk_cell hR2 rfl
    have f0 : w2.frozen? ⟨w.heap.size, 0, none⟩ = false := blk_fro hR2 0
    have x1 : w2.cell? ⟨w.heap.size, 1, none⟩ = some (.string { data := #[] }) := blk_cell hR2 rfl
    have f1 : w2.frozen? ⟨w.heap.size, 1, none⟩ = false := blk_fro hR2 1
    have x2 : w2.cell? ⟨w.heap.size, 2, none⟩ = some (.int .i64 0) := blk_cell hR2 rfl
    have f2 : w2.frozen? ⟨w.heap.size, 2, none⟩ = false := blk_fro hR2 2
    have x3 : w2.cell? ⟨w.heap.size, 3, none⟩ = some (.int .i64 0) := blk_cell hR2 rfl
    have f3 : w2.frozen? ⟨w.heap.size, 3, none⟩ = false := blk_fro hR2 3
    have x4 : w2.cell? ⟨w.heap.size, 4, none⟩ = some (.slice none 0 0) := blk_cell hR2 rfl
    have f4 : w2.frozen? ⟨w.heap.size, 4, none⟩ = false := blk_fro hR2 4
    have x5 : w2.cell? ⟨w.heap.size, 5, none⟩ = some (.int .i64 0) := blk_cell hR2 rfl
    have f5 : w2.frozen? ⟨w.heap.size, 5, none⟩ = false := blk_fro hR2 5
    have x6 : w2.cell? ⟨w.heap.size, 6, none⟩ = some (.slice none 0 0) := blk_cell hR2 rfl
    have f6 : w2.frozen? ⟨w.heap.size, 6, none⟩ = false := blk_fro hR2 6
    have x7 : w2.cell? ⟨w.heap.size, 7, none⟩ = some (.int .i64 0) := blk_cell hR2 rfl
    have f7 : w2.frozen? ⟨w.heap.size, 7, none⟩ = false := blk_fro hR2 7
    have x8 : w2.cell? ⟨w.heap.size, 8, none⟩ = some (.slice none 0 0) := blk_cell hR2 rfl
    have f8 : w2.frozen? ⟨w.heap.size, 8, none⟩ = false := blk_fro hR2 8
    have lx := blk_lt hR2
    have HEND := Lib.hid (DTm.stored (r := r) (p := p) (c := 5122) (m := 5120) (w := w) (q := q) (R := w.heap.size) (B := w1.heap.size) (v0 := .int .i64 kt) (v1 := .string nm0) (v2 := .int .i64 ut) (v3 := .int .i64 tkt) (v4 := .slice tat tnt tqt) (v5 := .int .i64 fkt) (v6 := .slice fat fnt fqt) (v7 := .int .i64 lt) (v8 := .slice ct mt qt) hv hcn (by omega) (by omega) hrd2 (hch1.trans hc2) (Nat.le_refl _) (by omega) hrl)
    clear hv hrd2 hc2 hch1 hrd1
    go_wp2_with fail
    refine bodyPost_ret (v := .agg #[.int .i64 kt, .string nm0, .int .i64 ut, .int .i64 tkt, .slice tat tnt tqt, .int .i64 fkt, .slice fat fnt fqt, .int .i64 lt, .slice ct mt qt]) (by simp [results, Try.results13, go_sem, x0, x1, x2, x3, x4, x5, x6, x7, x8]) rfl ?_
    exact HEND.out
  go_wp2_with fail
  refine (specNum (fun k => 2 ≤ k ∧ k ≤ 4) r (p + 1) _ 3 3 _ (hrd1.below bal1) (by omega) (by omega) (by omega) (Nat.le_refl _) (by omega) (ints_cell [3, 2, 4] (by simp) _ (by decide))).mono ?_
  rintro e w2 ⟨kz, rfl, ⟨z1, z2⟩, hrd2, hc2⟩
  have hw2 := hc2.size
  simp only [World.size_alloc] at hw2
  have hch2 := (hch1.trans (Chg.of_below (bal1 (w := w1)))).trans hc2
  have hR2 : w2.heap[w.heap.size]? = some (.cells #[.int .i64 0, .string { data := #[] }, .int .i64 0, .int .i64 0, .slice none 0 0, .int .i64 0, .slice none 0 0, .int .i64 0, .slice none 0 0] 28 (0, 0)) := blk_chg (blk_below hR1 bal1) hc2 (by omega)
  clear hc2
  obtain ⟨d, rfl⟩ := Int.eq_ofNat_of_zero_le (show 0 ≤ kz by omega)
  have hd4 : 4 ^ d ≤ 4 ^ 4 := Nat.pow_le_pow_right (by omega) (by omega)
  have HD4 := Lib.hid (show 4 ^ d ≤ 256 by simpa using hd4)
  clear hd4
  go_wp2_with fail
  refine (specL2Draw d r (p + 1 + 1) [120, 122] _ (by omega) (by omega) (by simp; omega) hrd2 (by have := HD4.out; omega)).mono ?_
  rintro e w3 ⟨t, v, q, rfl, hcn, hv, hq, hrd3, hc3⟩
  obtain ⟨kt, nm0, ut, tkt, tat, tnt, tqt, fkt, fat, fnt, fqt, lt, ct, mt, qt, rfl⟩ := hv.shape
  have hw3 := hc3.size
  have hch3 := hch2.trans hc3
  have hR3 := blk_chg hR2 hc3 (by omega)
  clear hc3 hch2 hR2 hrd2
  have hval := fun W (h : Below w3.heap.size w3 W) => specTermValid _ t _ W (hv.below h)
  generalize t.valid = vv at hval
  have HVAL := Lib.hid hval
  have HCN := Lib.hid (show t.cnt ≤ 5120 by have := HD4.out; omega)
  have HQ := Lib.hid (show q ≤ p + 5122 by have := HD4.out; omega)
  clear hval hcn hq
  go_wp2_with fail
  refine (HVAL.out _ bal1).mono ?_
  rintro e w4 ⟨rfl, hb4⟩
  have hw4 := hb4.size
  simp only [World.size_alloc] at hw4
  have hrd4 := (hrd3.below (bal1 (o := (.cells #[.int .i64 kt, .string nm0, .int .i64 ut, .int .i64 tkt, .slice tat tnt tqt, .int .i64 fkt, .slice fat fnt fqt, .int .i64 lt, .slice ct mt qt] 28)))).below hb4
  have hv4 := (hv.below (bal1 (o := (.cells #[.int .i64 kt, .string nm0, .int .i64 ut, .int .i64 tkt, .slice tat tnt tqt, .int .i64 fkt, .slice fat fnt fqt, .int .i64 lt, .slice ct mt qt] 28)))).below hb4
  have hch4 := (hch3.trans (Chg.of_below (bal1 (o := (.cells #[.int .i64 kt, .string nm0, .int .i64 ut, .int .i64 tkt, .slice tat tnt tqt, .int .i64 fkt, .slice fat fnt fqt, .int .i64 lt, .slice ct mt qt] 28))))).trans (Chg.of_below hb4)
  have hR4 := blk_below (blk_below hR3 (bal1 (o := (.cells #[.int .i64 kt, .string nm0, .int .i64 ut, .int .i64 tkt, .slice tat tnt tqt, .int .i64 fkt, .slice fat fnt fqt, .int .i64 lt, .slice ct mt qt] 28)))) hb4
  have hE4 : w4.heap[w3.heap.size]? = some (.cells #[.int .i64 kt, .string nm0, .int .i64 ut, .int .i64 tkt, .slice tat tnt tqt, .int .i64 fkt, .slice fat fnt fqt, .int .i64 lt, .slice ct mt qt] 28 (0, 0)) := blk_below (blk_new rfl) hb4
  clear HVAL hrd3 hv hch3 hR3 hb4
  have x0 : w4.cell? ⟨w.heap.size, 0, none⟩ = some (.int .i64 0) := blk_cell hR4 rfl
  have f0 : w4.frozen? ⟨w.heap.size, 0, none⟩ = false := blk_fro hR4 0
  have x1 : w4.cell? ⟨w.heap.size, 1, none⟩ = some (.string { data := #[] }) := blk_cell hR4 rfl
  have f1 : w4.frozen? ⟨w.heap.size, 1, none⟩ = false := blk_fro hR4 1
  have x2 : w4.cell? ⟨w.heap.size, 2, none⟩ = some (.int .i64 0) := blk_cell hR4 rfl
  have f2 : w4.frozen? ⟨w.heap.size, 2, none⟩ = false := blk_fro hR4 2
  have x3 : w4.cell? ⟨w.heap.size, 3, none⟩ = some (.int .i64 0) := blk_cell hR4 rfl
  have f3 : w4.frozen? ⟨w.heap.size, 3, none⟩ = false := blk_fro hR4 3
  have x4 : w4.cell? ⟨w.heap.size, 4, none⟩ = some (.slice none 0 0) := blk_cell hR4 rfl
  have f4 : w4.frozen? ⟨w.heap.size, 4, none⟩ = false := blk_fro hR4 4
  have x5 : w4.cell? ⟨w.heap.size, 5, none⟩ = some (.int .i64 0) := blk_cell hR4 rfl
  have f5 : w4.frozen? ⟨w.heap.size, 5, none⟩ = false := blk_fro hR4 5
  have x6 : w4.cell? ⟨w.heap.size, 6, none⟩ = some (.slice none 0 0) := blk_cell hR4 rfl
  have f6 : w4.frozen? ⟨w.heap.size, 6, none⟩ = false := blk_fro hR4 6
  have x7 : w4.cell? ⟨w.heap.size, 7, none⟩ = some (.int .i64 0) := blk_cell hR4 rfl
  have f7 : w4.frozen? ⟨w.heap.size, 7, none⟩ = false := blk_fro hR4 7
  have x8 : w4.cell? ⟨w.heap.size, 8, none⟩ = some (.slice none 0 0) := blk_cell hR4 rfl
  have f8 : w4.frozen? ⟨w.heap.size, 8, none⟩ = false := blk_fro hR4 8
  have e0 : w4.cell? ⟨w3.heap.size, 0, none⟩ = some (.int .i64 kt) := blk_cell hE4 rfl
  have e1 : w4.cell? ⟨w3.heap.size, 1, none⟩ = some (.string nm0) := blk_cell hE4 rfl
  have e2 : w4.cell? ⟨w3.heap.size, 2, none⟩ = some (.int .i64 ut) := blk_cell hE4 rfl
  have e3 : w4.cell? ⟨w3.heap.size, 3, none⟩ = some (.int .i64 tkt) := blk_cell hE4 rfl
  have e4 : w4.cell? ⟨w3.heap.size, 4, none⟩ = some (.slice tat tnt tqt) := blk_cell hE4 rfl
  have e5 : w4.cell? ⟨w3.heap.size, 5, none⟩ = some (.int .i64 fkt) := blk_cell hE4 rfl
  have e6 : w4.cell? ⟨w3.heap.size, 6, none⟩ = some (.slice fat fnt fqt) := blk_cell hE4 rfl
  have e7 : w4.cell? ⟨w3.heap.size, 7, none⟩ = some (.int .i64 lt) := blk_cell hE4 rfl
  have e8 : w4.cell? ⟨w3.heap.size, 8, none⟩ = some (.slice ct mt qt) := blk_cell hE4 rfl
  have lx := blk_lt hR4
  have lE := blk_lt hE4
  cases vv
  · go_wp2_with fail
    refine (specL2Num 4 _).mono ?_
    rintro e w5 ⟨rfl, hb5⟩
    have hw5 := hb5.size
    have hrd5 := hrd4.below hb5
    have hch5 := hch4.trans (Chg.of_below hb5)
    have hR5 := blk_below hR4 hb5
    clear x0 f0 e0 x1 f1 e1 x2 f2 e2 x3 f3 e3 x4 f4 e4 x5 f5 e5 x6 f6 e6 x7 f7 e7 x8 f8 e8
    have x0 : w5.cell? ⟨w.heap.size, 0, none⟩ = some (.int .i64 0) := blk_cell hR5 rfl
    have f0 : w5.frozen? ⟨w.heap.size, 0, none⟩ = false := blk_fro hR5 0
    have x1 : w5.cell? ⟨w.heap.size, 1, none⟩ = some (.string { data := #[] }) := blk_cell hR5 rfl
    have f1 : w5.frozen? ⟨w.heap.size, 1, none⟩ = false := blk_fro hR5 1
    have x2 : w5.cell? ⟨w.heap.size, 2, none⟩ = some (.int .i64 0) := blk_cell hR5 rfl
    have f2 : w5.frozen? ⟨w.heap.size, 2, none⟩ = false := blk_fro hR5 2
    have x3 : w5.cell? ⟨w.heap.size, 3, none⟩ = some (.int .i64 0) := blk_cell hR5 rfl
    have f3 : w5.frozen? ⟨w.heap.size, 3, none⟩ = false := blk_fro hR5 3
    have x4 : w5.cell? ⟨w.heap.size, 4, none⟩ = some (.slice none 0 0) := blk_cell hR5 rfl
    have f4 : w5.frozen? ⟨w.heap.size, 4, none⟩ = false := blk_fro hR5 4
    have x5 : w5.cell? ⟨w.heap.size, 5, none⟩ = some (.int .i64 0) := blk_cell hR5 rfl
    have f5 : w5.frozen? ⟨w.heap.size, 5, none⟩ = false := blk_fro hR5 5
    have x6 : w5.cell? ⟨w.heap.size, 6, none⟩ = some (.slice none 0 0) := blk_cell hR5 rfl
    have f6 : w5.frozen? ⟨w.heap.size, 6, none⟩ = false := blk_fro hR5 6
    have x7 : w5.cell? ⟨w.heap.size, 7, none⟩ = some (.int .i64 0) := blk_cell hR5 rfl
    have f7 : w5.frozen? ⟨w.heap.size, 7, none⟩ = false := blk_fro hR5 7
    have x8 : w5.cell? ⟨w.heap.size, 8, none⟩ = some (.slice none 0 0) := blk_cell hR5 rfl
    have f8 : w5.frozen? ⟨w.heap.size, 8, none⟩ = false := blk_fro hR5 8
    have HEND := Lib.hid (DTm.stored (r := r) (p := p) (c := 5122) (m := 5120) (w := w) (q := q) (R := w.heap.size) (B := w.heap.size + 1) (v0 := .int .i64 2) (v1 := .string { data := #[] }) (v2 := .int .i64 4) (v3 := .int .i64 0) (v4 := .slice none 0 0) (v5 := .int .i64 0) (v6 := .slice none 0 0) (v7 := .int .i64 0) (v8 := .slice none 0 0) (TmRep.leaf0 (nm := { data := #[] }) 2 4 (by unfold maxLen; decide)) (by simp [Tm.cnt, Tm.cnts, Ty.cnt, Ty.cnts, ByteArray.size]) (by omega) HQ.out hrd5 hch5 (Nat.le_refl _) (by omega) hrl)
    go_wp2_with fail
    refine bodyPost_ret (v := .agg #[.int .i64 2, .string { data := #[] }, .int .i64 4, .int .i64 0, .slice none 0 0, .int .i64 0, .slice none 0 0, .int .i64 0, .slice none 0 0]) (by simp [results, Try.results13, go_sem, x0, x1, x2, x3, x4, x5, x6, x7, x8]) rfl ?_
    exact HEND.out
  · have HEND := Lib.hid (DTm.stored (r := r) (p := p) (c := 5122) (m := 5120) (w := w) (q := q) (R := w.heap.size) (B := w2.heap.size) (v0 := .int .i64 kt) (v1 := .string nm0) (v2 := .int .i64 ut) (v3 := .int .i64 tkt) (v4 := .slice tat tnt tqt) (v5 := .int .i64 fkt) (v6 := .slice fat fnt fqt) (v7 := .int .i64 lt) (v8 := .slice ct mt qt) hv4 HCN.out (by omega) HQ.out hrd4 hch4 (Nat.le_refl _) (by omega) hrl)
    go_wp2_with fail
    refine bodyPost_ret (v := .agg #[.int .i64 kt, .string nm0, .int .i64 ut, .int .i64 tkt, .slice tat tnt tqt, .int .i64 fkt, .slice fat fnt fqt, .int .i64 lt, .slice ct mt qt]) (by simp [results, Try.results13, go_sem, x0, x1, x2, x3, x4, x5, x6, x7, x8]) rfl ?_
    exact HEND.out
end Go.Proofs.Ytpckgpndaligbaa
