/-
  Terms are changed.
-/
import Derived.Test.YtpckgpndaligbaaTmCopyR
import Derived.Test.YtpckgpndaligbaaMut
import Derived.Test.YtpckgpndaligbaaTmDr
namespace Go.Proofs.Ytpckgpndaligbaa
open Go.RowKit
set_option linter.unusedVariables false
set_option linter.unusedSimpArgs false
set_option maxRecDepth 100000


theorem TmRep.setF {F : Nat → Prop} {w : World} {t : Tm} {y : Value} (h : TmRep F w t y) {p : Addr} (hp : ¬ F p.block) (v : Value) : TmRep F (w.setCell p v) t y :=
  h.move ⟨by simp [World.setCell], fun _ h _ => h, fun b hb _ => Below.heap_setCell w p v b (fun e => hp (e ▸ hb))⟩
theorem DTm.storedF {r p q c m R : Nat} {F : Nat → Prop} {w w1 : World} {t : Tm} {v : Value} {v0 v1 v2 v3 v4 v5 v6 v7 v8 : Value} (hv : TmRep F w1 t v) (hF : ∀ b, F b → w.heap.size ≤ b ∧ b ≠ R) (hm : t.cnt ≤ m) (hq : q ≤ p + c) (hrd : RdAt w1 r q) (hch : Chg [r] w w1) (hR : w.heap.size ≤ R) (hr : r < R) :
    DTm r p c m w (.returned v) (set9 w1 R v0 v1 v2 v3 v4 v5 v6 v7 v8) := by
  have hn : ¬ F R := fun h => (hF R h).2 rfl
  unfold set9
  exact ⟨t, v, q, rfl, hm, ((((((((((hv.setF (p := ⟨R, 0, none⟩) hn _).setF (p := ⟨R, 1, none⟩) hn _).setF (p := ⟨R, 2, none⟩) hn _).setF (p := ⟨R, 3, none⟩) hn _).setF (p := ⟨R, 4, none⟩) hn _).setF (p := ⟨R, 5, none⟩) hn _).setF (p := ⟨R, 6, none⟩) hn _).setF (p := ⟨R, 7, none⟩) hn _).setF (p := ⟨R, 8, none⟩) hn _)).move (.weaken fun b hb _ => (hF b hb).1), hq, (((((((((hrd.setCell (by show r < R; omega) _).setCell (by show r < R; omega) _).setCell (by show r < R; omega) _).setCell (by show r < R; omega) _).setCell (by show r < R; omega) _).setCell (by show r < R; omega) _).setCell (by show r < R; omega) _).setCell (by show r < R; omega) _).setCell (by show r < R; omega) _), (((((((((hch.trans' (by show w.heap.size ≤ R; omega) _).trans' (by show w.heap.size ≤ R; omega) _).trans' (by show w.heap.size ≤ R; omega) _).trans' (by show w.heap.size ≤ R; omega) _).trans' (by show w.heap.size ≤ R; omega) _).trans' (by show w.heap.size ≤ R; omega) _).trans' (by show w.heap.size ≤ R; omega) _).trans' (by show w.heap.size ≤ R; omega) _).trans' (by show w.heap.size ≤ R; omega) _)⟩
theorem TyRep.setF {F : Nat → Prop} {w : World} {t : Ty} {y : Value} (h : TyRep F w t y) {p : Addr} (hp : ¬ F p.block) (v : Value) : TyRep F (w.setCell p v) t y :=
  h.move ⟨by simp [World.setCell], fun _ h _ => h, fun b hb _ => Below.heap_setCell w p v b (fun e => hp (e ▸ hb))⟩
theorem TmsRep.setF {F : Nat → Prop} {w : World} {t : List Tm} {y : Value} (h : TmsRep F w t y) {p : Addr} (hp : ¬ F p.block) (v : Value) : TmsRep F (w.setCell p v) t y :=
  h.move ⟨by simp [World.setCell], fun _ h _ => h, fun b hb _ => Below.heap_setCell w p v b (fun e => hp (e ▸ hb))⟩

set_option maxHeartbeats 16000000 in
theorem specL2Mutate (r p m : Nat) (t : Tm) (y : Value) (w : World) (h : RdAt w r p) (ht : TmRep (· ≠ r) w t y) (hm : t.cnt ≤ m) (hm2 : m ≤ 500000) (hp : p ≤ 900000) : Calls Try.prog 12 #[.pointer (some ⟨r, 0, none⟩), y] w (DTm r p 500 (m + 30) w) := by
  have hrl := h.1
  have hcp := fun W (k : Below w.heap.size w W) => specL2Copy _ t y W (ht.below k) (by omega)
  obtain ⟨z0, z1, z2, z3, z4, z5, z6, z7, z8, z9, za, zb, zc, zd, ze, rfl⟩ := ht.shape
  have HCP := Lib.hid hcp
  clear hcp ht
  go_enter Try.func12, Try.ntmps12
  go_wp2_with fail
  refine (HCP.out _ bal2).mono ?_
  rintro e w1 ⟨v, rfl, hv, hb1⟩
  obtain ⟨kt, nm0, ut, tkt, tat, tnt, tqt, fkt, fat, fnt, fqt, lt, ct, mt, qt, rfl⟩ := hv.shape
  have hw1 := hb1.size
  simp only [World.size_alloc] at hw1
  have hR1 : w1.heap[w.heap.size + 1]? = some (.cells #[.int .i64 0, .string { data := #[] }, .int .i64 0, .int .i64 0, .slice none 0 0, .int .i64 0, .slice none 0 0, .int .i64 0, .slice none 0 0] 28 (0, 0)) := blk_below (blk_new (by simp)) hb1
  have hch1 : Chg [r] w w1 := Chg.of_below (bstep bal2 hb1)
  have hrd1 := h.below (bstep bal2 hb1)
  have hv1 : TmRep (fun b => w.heap.size + 1 + 1 ≤ b ∧ b ≠ w1.heap.size) w1 t _ := hv.move (.weaken fun b hb hl => ⟨by simpa using hb, by omega⟩)
  clear hv hb1 h HCP
  go_wp2_with fail
  refine (specPick r p 50 _ (hrd1.below bal1) (by omega) (by omega)).mono ?_
  rintro e w2 ⟨pk, rfl, pk0, pk4, hrd2, hc2⟩
  have hw2 := hc2.size
  simp only [World.size_alloc] at hw2
  have hch2 := (hch1.trans (Chg.of_below (bal1 (o := (.cells #[.int .i64 kt, .string nm0, .int .i64 ut, .int .i64 tkt, .slice tat tnt tqt, .int .i64 fkt, .slice fat fnt fqt, .int .i64 lt, .slice ct mt qt] 28))))).trans hc2
  have hR2 := blk_chg (blk_below hR1 (bal1 (o := (.cells #[.int .i64 kt, .string nm0, .int .i64 ut, .int .i64 tkt, .slice tat tnt tqt, .int .i64 fkt, .slice fat fnt fqt, .int .i64 lt, .slice ct mt qt] 28)))) hc2 (by omega)
  have hO2 : w2.heap[w1.heap.size]? = some (.cells #[.int .i64 kt, .string nm0, .int .i64 ut, .int .i64 tkt, .slice tat tnt tqt, .int .i64 fkt, .slice fat fnt fqt, .int .i64 lt, .slice ct mt qt] 28 (0, 0)) := blk_chg (blk_new rfl) hc2 (by omega)
  have hv2 : TmRep (fun b => w.heap.size + 1 + 1 ≤ b ∧ b ≠ w1.heap.size) w2 t _ := TmRep.chg hc2 (fun b hb => by have := hb.1; simp; omega) (hv1.below (bal1 (o := (.cells #[.int .i64 kt, .string nm0, .int .i64 ut, .int .i64 tkt, .slice tat tnt tqt, .int .i64 fkt, .slice fat fnt fqt, .int .i64 lt, .slice ct mt qt] 28))))
  obtain ⟨s1, s2, s3, s4, s5, s6, s7, s8, s9, sn, -, -, hty, hsr, hks⟩ := hv2.parts
  cases t with | mk kk nn uu tt ff ll ts =>
  simp only [Tm.kind, Tm.name, Tm.num, Tm.type, Tm.src, Tm.label, Tm.kids] at *
  subst s1 s2 s3 s8
  have HNM := Lib.hid sn
  have HCN := Lib.hid hm
  have hne : w1.heap.size ≠ w.heap.size + 1 := by omega
  have hne' : w.heap.size + 1 ≠ w1.heap.size := by omega
  clear hch1 hR1 hrd1 hv1 hc2 hv2 s4 s5 s6 s7 s9 sn pk0 pk4 hm
  rcases Bool.eq_false_or_eq_true (pk == 0) with q0 | q0
  · go_wp2_with fail
    refine (specNum (fun _ => True) r (p + 1) _ 6 6 _ (hrd2.below bal1) (by omega) (by omega) (by omega) (Nat.le_refl _) (by omega) (ints_cell [0, 15, 1, 6, 14, -1] rfl _ (fun _ _ => trivial))).mono ?_
    rintro e w3 ⟨kn, rfl, -, hrd3, hc3⟩
    have hw3 := hc3.size
    simp only [World.size_alloc] at hw3
    have hch3 := (hch2.trans (Chg.of_below (bal1 (o := .cells #[.int .i64 0, .int .i64 15, .int .i64 1, .int .i64 6, .int .i64 14, .int .i64 (-1)] 3)))).trans hc3
    have hR3 := blk_chg (blk_below hR2 (bal1 (o := .cells #[.int .i64 0, .int .i64 15, .int .i64 1, .int .i64 6, .int .i64 14, .int .i64 (-1)] 3))) hc3 (by omega)
    have hO3 := blk_chg (blk_below hO2 (bal1 (o := .cells #[.int .i64 0, .int .i64 15, .int .i64 1, .int .i64 6, .int .i64 14, .int .i64 (-1)] 3))) hc3 (by omega)
    have hty3 := (hty.move (.below (bal1 (o := .cells #[.int .i64 0, .int .i64 15, .int .i64 1, .int .i64 6, .int .i64 14, .int .i64 (-1)] 3)))).move (hc3.keeps fun b hb => by have := hb.1; simp; omega)
    have hsr3 := (hsr.move (.below (bal1 (o := .cells #[.int .i64 0, .int .i64 15, .int .i64 1, .int .i64 6, .int .i64 14, .int .i64 (-1)] 3)))).move (hc3.keeps fun b hb => by have := hb.1; simp; omega)
    have hks3 := (hks.move (.below (bal1 (o := .cells #[.int .i64 0, .int .i64 15, .int .i64 1, .int .i64 6, .int .i64 14, .int .i64 (-1)] 3)))).move (hc3.keeps fun b hb => by have := hb.1; simp; omega)
    clear hch2 hR2 hO2 hty hsr hks hrd2 hc3
    have e0 : w3.cell? ⟨w1.heap.size, 0, none⟩ = some (.int .i64 kt) := blk_cell hO3 rfl
    have e1 : w3.cell? ⟨w1.heap.size, 1, none⟩ = some (.string nm0) := blk_cell hO3 rfl
    have e2 : w3.cell? ⟨w1.heap.size, 2, none⟩ = some (.int .i64 ut) := blk_cell hO3 rfl
    have e3 : w3.cell? ⟨w1.heap.size, 3, none⟩ = some (.int .i64 tkt) := blk_cell hO3 rfl
    have e4 : w3.cell? ⟨w1.heap.size, 4, none⟩ = some (.slice tat tnt tqt) := blk_cell hO3 rfl
    have e5 : w3.cell? ⟨w1.heap.size, 5, none⟩ = some (.int .i64 fkt) := blk_cell hO3 rfl
    have e6 : w3.cell? ⟨w1.heap.size, 6, none⟩ = some (.slice fat fnt fqt) := blk_cell hO3 rfl
    have e7 : w3.cell? ⟨w1.heap.size, 7, none⟩ = some (.int .i64 lt) := blk_cell hO3 rfl
    have e8 : w3.cell? ⟨w1.heap.size, 8, none⟩ = some (.slice ct mt qt) := blk_cell hO3 rfl
    have g0 : w3.frozen? ⟨w1.heap.size, 0, none⟩ = false := blk_fro hO3 0
    have x0 : w3.cell? ⟨w.heap.size + 1, 0, none⟩ = some (.int .i64 0) := blk_cell hR3 rfl
    have f0 : w3.frozen? ⟨w.heap.size + 1, 0, none⟩ = false := blk_fro hR3 0
    have x1 : w3.cell? ⟨w.heap.size + 1, 1, none⟩ = some (.string { data := #[] }) := blk_cell hR3 rfl
    have f1 : w3.frozen? ⟨w.heap.size + 1, 1, none⟩ = false := blk_fro hR3 1
    have x2 : w3.cell? ⟨w.heap.size + 1, 2, none⟩ = some (.int .i64 0) := blk_cell hR3 rfl
    have f2 : w3.frozen? ⟨w.heap.size + 1, 2, none⟩ = false := blk_fro hR3 2
    have x3 : w3.cell? ⟨w.heap.size + 1, 3, none⟩ = some (.int .i64 0) := blk_cell hR3 rfl
    have f3 : w3.frozen? ⟨w.heap.size + 1, 3, none⟩ = false := blk_fro hR3 3
    have x4 : w3.cell? ⟨w.heap.size + 1, 4, none⟩ = some (.slice none 0 0) := blk_cell hR3 rfl
    have f4 : w3.frozen? ⟨w.heap.size + 1, 4, none⟩ = false := blk_fro hR3 4
    have x5 : w3.cell? ⟨w.heap.size + 1, 5, none⟩ = some (.int .i64 0) := blk_cell hR3 rfl
    have f5 : w3.frozen? ⟨w.heap.size + 1, 5, none⟩ = false := blk_fro hR3 5
    have x6 : w3.cell? ⟨w.heap.size + 1, 6, none⟩ = some (.slice none 0 0) := blk_cell hR3 rfl
    have f6 : w3.frozen? ⟨w.heap.size + 1, 6, none⟩ = false := blk_fro hR3 6
    have x7 : w3.cell? ⟨w.heap.size + 1, 7, none⟩ = some (.int .i64 0) := blk_cell hR3 rfl
    have f7 : w3.frozen? ⟨w.heap.size + 1, 7, none⟩ = false := blk_fro hR3 7
    have x8 : w3.cell? ⟨w.heap.size + 1, 8, none⟩ = some (.slice none 0 0) := blk_cell hR3 rfl
    have f8 : w3.frozen? ⟨w.heap.size + 1, 8, none⟩ = false := blk_fro hR3 8
    have lxR := blk_lt hR3
    have lxO := blk_lt hO3
    have HEND := Lib.hid (DTm.storedF (r := r) (p := p) (c := 500) (m := m + 30) (w := w) (q := p + 1 + 1) (R := w.heap.size + 1) (v0 := .int .i64 kn) (v1 := .string nm0) (v2 := .int .i64 ut) (v3 := .int .i64 tkt) (v4 := .slice tat tnt tqt) (v5 := .int .i64 fkt) (v6 := .slice fat fnt fqt) (v7 := .int .i64 lt) (v8 := .slice ct mt qt) (TmRep.mk (k := kn) (nm := nm0) (u := ut) (l := lt) (F := (fun b => w.heap.size + 1 + 1 ≤ b ∧ b ≠ w1.heap.size)) HNM.out (hty3.setF (p := ⟨w1.heap.size, 0, none⟩) (fun h => h.2 rfl) (.int .i64 kn)) (hsr3.setF (p := ⟨w1.heap.size, 0, none⟩) (fun h => h.2 rfl) (.int .i64 kn)) (hks3.setF (p := ⟨w1.heap.size, 0, none⟩) (fun h => h.2 rfl) (.int .i64 kn))) (fun b hb => ⟨by have := hb.1; omega, by have := hb.1; omega⟩) (by have := HCN.out; simp only [Tm.cnt] at this ⊢; omega) (by omega) (hrd3.setCell (a := ⟨w1.heap.size, 0, none⟩) (by show r < w1.heap.size; omega) (.int .i64 kn)) (hch3.trans' (p := ⟨w1.heap.size, 0, none⟩) (by show w.heap.size ≤ w1.heap.size; omega) (.int .i64 kn)) (by omega) (by omega))
    clear hrd3 hch3
    go_wp2_with fail
    refine bodyPost_ret (v := .agg #[.int .i64 kn, .string nm0, .int .i64 ut, .int .i64 tkt, .slice tat tnt tqt, .int .i64 fkt, .slice fat fnt fqt, .int .i64 lt, .slice ct mt qt]) (by simp [results, Try.results12, go_sem, x0, x1, x2, x3, x4, x5, x6, x7, x8]) rfl ?_
    exact HEND.out
  rcases Bool.eq_false_or_eq_true (pk == 1) with q1 | q1
  · go_wp2_with fail
    refine (specOf (fun s => s.size ≤ 2) r (p + 1) _ 4 4 _ (hrd2.below bal1) (by omega) (by omega) (by omega) (Nat.le_refl _) (by omega) (strs_cell [⟨#[88]⟩, ⟨#[120, 121]⟩, ⟨#[]⟩, ⟨#[120]⟩] rfl _ (by decide))).mono ?_
    rintro e w3 ⟨sn, rfl, hsn, hrd3, hc3⟩
    have hw3 := hc3.size
    simp only [World.size_alloc] at hw3
    have hch3 := (hch2.trans (Chg.of_below (bal1 (o := .cells #[.string { data := #[88] }, .string { data := #[120, 121] }, .string { data := #[] }, .string { data := #[120] }] 9)))).trans hc3
    have hR3 := blk_chg (blk_below hR2 (bal1 (o := .cells #[.string { data := #[88] }, .string { data := #[120, 121] }, .string { data := #[] }, .string { data := #[120] }] 9))) hc3 (by omega)
    have hO3 := blk_chg (blk_below hO2 (bal1 (o := .cells #[.string { data := #[88] }, .string { data := #[120, 121] }, .string { data := #[] }, .string { data := #[120] }] 9))) hc3 (by omega)
    have hty3 := (hty.move (.below (bal1 (o := .cells #[.string { data := #[88] }, .string { data := #[120, 121] }, .string { data := #[] }, .string { data := #[120] }] 9)))).move (hc3.keeps fun b hb => by have := hb.1; simp; omega)
    have hsr3 := (hsr.move (.below (bal1 (o := .cells #[.string { data := #[88] }, .string { data := #[120, 121] }, .string { data := #[] }, .string { data := #[120] }] 9)))).move (hc3.keeps fun b hb => by have := hb.1; simp; omega)
    have hks3 := (hks.move (.below (bal1 (o := .cells #[.string { data := #[88] }, .string { data := #[120, 121] }, .string { data := #[] }, .string { data := #[120] }] 9)))).move (hc3.keeps fun b hb => by have := hb.1; simp; omega)
    clear hch2 hR2 hO2 hty hsr hks hrd2 hc3
    replace HNM := Lib.hid (show sn.size ≤ maxLen by unfold maxLen; omega)
    have e0 : w3.cell? ⟨w1.heap.size, 0, none⟩ = some (.int .i64 kt) := blk_cell hO3 rfl
    have e1 : w3.cell? ⟨w1.heap.size, 1, none⟩ = some (.string nm0) := blk_cell hO3 rfl
    have e2 : w3.cell? ⟨w1.heap.size, 2, none⟩ = some (.int .i64 ut) := blk_cell hO3 rfl
    have e3 : w3.cell? ⟨w1.heap.size, 3, none⟩ = some (.int .i64 tkt) := blk_cell hO3 rfl
    have e4 : w3.cell? ⟨w1.heap.size, 4, none⟩ = some (.slice tat tnt tqt) := blk_cell hO3 rfl
    have e5 : w3.cell? ⟨w1.heap.size, 5, none⟩ = some (.int .i64 fkt) := blk_cell hO3 rfl
    have e6 : w3.cell? ⟨w1.heap.size, 6, none⟩ = some (.slice fat fnt fqt) := blk_cell hO3 rfl
    have e7 : w3.cell? ⟨w1.heap.size, 7, none⟩ = some (.int .i64 lt) := blk_cell hO3 rfl
    have e8 : w3.cell? ⟨w1.heap.size, 8, none⟩ = some (.slice ct mt qt) := blk_cell hO3 rfl
    have g1 : w3.frozen? ⟨w1.heap.size, 1, none⟩ = false := blk_fro hO3 1
    have x0 : w3.cell? ⟨w.heap.size + 1, 0, none⟩ = some (.int .i64 0) := blk_cell hR3 rfl
    have f0 : w3.frozen? ⟨w.heap.size + 1, 0, none⟩ = false := blk_fro hR3 0
    have x1 : w3.cell? ⟨w.heap.size + 1, 1, none⟩ = some (.string { data := #[] }) := blk_cell hR3 rfl
    have f1 : w3.frozen? ⟨w.heap.size + 1, 1, none⟩ = false := blk_fro hR3 1
    have x2 : w3.cell? ⟨w.heap.size + 1, 2, none⟩ = some (.int .i64 0) := blk_cell hR3 rfl
    have f2 : w3.frozen? ⟨w.heap.size + 1, 2, none⟩ = false := blk_fro hR3 2
    have x3 : w3.cell? ⟨w.heap.size + 1, 3, none⟩ = some (.int .i64 0) := blk_cell hR3 rfl
    have f3 : w3.frozen? ⟨w.heap.size + 1, 3, none⟩ = false := blk_fro hR3 3
    have x4 : w3.cell? ⟨w.heap.size + 1, 4, none⟩ = some (.slice none 0 0) := blk_cell hR3 rfl
    have f4 : w3.frozen? ⟨w.heap.size + 1, 4, none⟩ = false := blk_fro hR3 4
    have x5 : w3.cell? ⟨w.heap.size + 1, 5, none⟩ = some (.int .i64 0) := blk_cell hR3 rfl
    have f5 : w3.frozen? ⟨w.heap.size + 1, 5, none⟩ = false := blk_fro hR3 5
    have x6 : w3.cell? ⟨w.heap.size + 1, 6, none⟩ = some (.slice none 0 0) := blk_cell hR3 rfl
    have f6 : w3.frozen? ⟨w.heap.size + 1, 6, none⟩ = false := blk_fro hR3 6
    have x7 : w3.cell? ⟨w.heap.size + 1, 7, none⟩ = some (.int .i64 0) := blk_cell hR3 rfl
    have f7 : w3.frozen? ⟨w.heap.size + 1, 7, none⟩ = false := blk_fro hR3 7
    have x8 : w3.cell? ⟨w.heap.size + 1, 8, none⟩ = some (.slice none 0 0) := blk_cell hR3 rfl
    have f8 : w3.frozen? ⟨w.heap.size + 1, 8, none⟩ = false := blk_fro hR3 8
    have lxR := blk_lt hR3
    have lxO := blk_lt hO3
    have HEND := Lib.hid (DTm.storedF (r := r) (p := p) (c := 500) (m := m + 30) (w := w) (q := p + 1 + 1) (R := w.heap.size + 1) (v0 := .int .i64 kt) (v1 := .string sn) (v2 := .int .i64 ut) (v3 := .int .i64 tkt) (v4 := .slice tat tnt tqt) (v5 := .int .i64 fkt) (v6 := .slice fat fnt fqt) (v7 := .int .i64 lt) (v8 := .slice ct mt qt) (TmRep.mk (k := kt) (nm := sn) (u := ut) (l := lt) (F := (fun b => w.heap.size + 1 + 1 ≤ b ∧ b ≠ w1.heap.size)) HNM.out (hty3.setF (p := ⟨w1.heap.size, 1, none⟩) (fun h => h.2 rfl) (.string sn)) (hsr3.setF (p := ⟨w1.heap.size, 1, none⟩) (fun h => h.2 rfl) (.string sn)) (hks3.setF (p := ⟨w1.heap.size, 1, none⟩) (fun h => h.2 rfl) (.string sn))) (fun b hb => ⟨by have := hb.1; omega, by have := hb.1; omega⟩) (by have := HCN.out; simp only [Tm.cnt] at this ⊢; omega) (by omega) (hrd3.setCell (a := ⟨w1.heap.size, 1, none⟩) (by show r < w1.heap.size; omega) (.string sn)) (hch3.trans' (p := ⟨w1.heap.size, 1, none⟩) (by show w.heap.size ≤ w1.heap.size; omega) (.string sn)) (by omega) (by omega))
    clear hrd3 hch3
    go_wp2_with fail
    refine bodyPost_ret (v := .agg #[.int .i64 kt, .string sn, .int .i64 ut, .int .i64 tkt, .slice tat tnt tqt, .int .i64 fkt, .slice fat fnt fqt, .int .i64 lt, .slice ct mt qt]) (by simp [results, Try.results12, go_sem, x0, x1, x2, x3, x4, x5, x6, x7, x8]) rfl ?_
    exact HEND.out
  rcases Bool.eq_false_or_eq_true (pk == 2) with q2 | q2
  · go_wp2_with fail
    refine (specNum (fun _ => True) r (p + 1) _ 4 4 _ (hrd2.below bal1) (by omega) (by omega) (by omega) (Nat.le_refl _) (by omega) (ints_cell [1000, -1, 9223372036854775807, 5] rfl _ (fun _ _ => trivial))).mono ?_
    rintro e w3 ⟨kn, rfl, -, hrd3, hc3⟩
    have hw3 := hc3.size
    simp only [World.size_alloc] at hw3
    have hch3 := (hch2.trans (Chg.of_below (bal1 (o := .cells #[.int .i64 1000, .int .i64 (-1), .int .i64 9223372036854775807, .int .i64 5] 3)))).trans hc3
    have hR3 := blk_chg (blk_below hR2 (bal1 (o := .cells #[.int .i64 1000, .int .i64 (-1), .int .i64 9223372036854775807, .int .i64 5] 3))) hc3 (by omega)
    have hO3 := blk_chg (blk_below hO2 (bal1 (o := .cells #[.int .i64 1000, .int .i64 (-1), .int .i64 9223372036854775807, .int .i64 5] 3))) hc3 (by omega)
    have hty3 := (hty.move (.below (bal1 (o := .cells #[.int .i64 1000, .int .i64 (-1), .int .i64 9223372036854775807, .int .i64 5] 3)))).move (hc3.keeps fun b hb => by have := hb.1; simp; omega)
    have hsr3 := (hsr.move (.below (bal1 (o := .cells #[.int .i64 1000, .int .i64 (-1), .int .i64 9223372036854775807, .int .i64 5] 3)))).move (hc3.keeps fun b hb => by have := hb.1; simp; omega)
    have hks3 := (hks.move (.below (bal1 (o := .cells #[.int .i64 1000, .int .i64 (-1), .int .i64 9223372036854775807, .int .i64 5] 3)))).move (hc3.keeps fun b hb => by have := hb.1; simp; omega)
    clear hch2 hR2 hO2 hty hsr hks hrd2 hc3
    have e0 : w3.cell? ⟨w1.heap.size, 0, none⟩ = some (.int .i64 kt) := blk_cell hO3 rfl
    have e1 : w3.cell? ⟨w1.heap.size, 1, none⟩ = some (.string nm0) := blk_cell hO3 rfl
    have e2 : w3.cell? ⟨w1.heap.size, 2, none⟩ = some (.int .i64 ut) := blk_cell hO3 rfl
    have e3 : w3.cell? ⟨w1.heap.size, 3, none⟩ = some (.int .i64 tkt) := blk_cell hO3 rfl
    have e4 : w3.cell? ⟨w1.heap.size, 4, none⟩ = some (.slice tat tnt tqt) := blk_cell hO3 rfl
    have e5 : w3.cell? ⟨w1.heap.size, 5, none⟩ = some (.int .i64 fkt) := blk_cell hO3 rfl
    have e6 : w3.cell? ⟨w1.heap.size, 6, none⟩ = some (.slice fat fnt fqt) := blk_cell hO3 rfl
    have e7 : w3.cell? ⟨w1.heap.size, 7, none⟩ = some (.int .i64 lt) := blk_cell hO3 rfl
    have e8 : w3.cell? ⟨w1.heap.size, 8, none⟩ = some (.slice ct mt qt) := blk_cell hO3 rfl
    have g2 : w3.frozen? ⟨w1.heap.size, 2, none⟩ = false := blk_fro hO3 2
    have x0 : w3.cell? ⟨w.heap.size + 1, 0, none⟩ = some (.int .i64 0) := blk_cell hR3 rfl
    have f0 : w3.frozen? ⟨w.heap.size + 1, 0, none⟩ = false := blk_fro hR3 0
    have x1 : w3.cell? ⟨w.heap.size + 1, 1, none⟩ = some (.string { data := #[] }) := blk_cell hR3 rfl
    have f1 : w3.frozen? ⟨w.heap.size + 1, 1, none⟩ = false := blk_fro hR3 1
    have x2 : w3.cell? ⟨w.heap.size + 1, 2, none⟩ = some (.int .i64 0) := blk_cell hR3 rfl
    have f2 : w3.frozen? ⟨w.heap.size + 1, 2, none⟩ = false := blk_fro hR3 2
    have x3 : w3.cell? ⟨w.heap.size + 1, 3, none⟩ = some (.int .i64 0) := blk_cell hR3 rfl
    have f3 : w3.frozen? ⟨w.heap.size + 1, 3, none⟩ = false := blk_fro hR3 3
    have x4 : w3.cell? ⟨w.heap.size + 1, 4, none⟩ = some (.slice none 0 0) := blk_cell hR3 rfl
    have f4 : w3.frozen? ⟨w.heap.size + 1, 4, none⟩ = false := blk_fro hR3 4
    have x5 : w3.cell? ⟨w.heap.size + 1, 5, none⟩ = some (.int .i64 0) := blk_cell hR3 rfl
    have f5 : w3.frozen? ⟨w.heap.size + 1, 5, none⟩ = false := blk_fro hR3 5
    have x6 : w3.cell? ⟨w.heap.size + 1, 6, none⟩ = some (.slice none 0 0) := blk_cell hR3 rfl
    have f6 : w3.frozen? ⟨w.heap.size + 1, 6, none⟩ = false := blk_fro hR3 6
    have x7 : w3.cell? ⟨w.heap.size + 1, 7, none⟩ = some (.int .i64 0) := blk_cell hR3 rfl
    have f7 : w3.frozen? ⟨w.heap.size + 1, 7, none⟩ = false := blk_fro hR3 7
    have x8 : w3.cell? ⟨w.heap.size + 1, 8, none⟩ = some (.slice none 0 0) := blk_cell hR3 rfl
    have f8 : w3.frozen? ⟨w.heap.size + 1, 8, none⟩ = false := blk_fro hR3 8
    have lxR := blk_lt hR3
    have lxO := blk_lt hO3
    have HEND := Lib.hid (DTm.storedF (r := r) (p := p) (c := 500) (m := m + 30) (w := w) (q := p + 1 + 1) (R := w.heap.size + 1) (v0 := .int .i64 kt) (v1 := .string nm0) (v2 := .int .i64 kn) (v3 := .int .i64 tkt) (v4 := .slice tat tnt tqt) (v5 := .int .i64 fkt) (v6 := .slice fat fnt fqt) (v7 := .int .i64 lt) (v8 := .slice ct mt qt) (TmRep.mk (k := kt) (nm := nm0) (u := kn) (l := lt) (F := (fun b => w.heap.size + 1 + 1 ≤ b ∧ b ≠ w1.heap.size)) HNM.out (hty3.setF (p := ⟨w1.heap.size, 2, none⟩) (fun h => h.2 rfl) (.int .i64 kn)) (hsr3.setF (p := ⟨w1.heap.size, 2, none⟩) (fun h => h.2 rfl) (.int .i64 kn)) (hks3.setF (p := ⟨w1.heap.size, 2, none⟩) (fun h => h.2 rfl) (.int .i64 kn))) (fun b hb => ⟨by have := hb.1; omega, by have := hb.1; omega⟩) (by have := HCN.out; simp only [Tm.cnt] at this ⊢; omega) (by omega) (hrd3.setCell (a := ⟨w1.heap.size, 2, none⟩) (by show r < w1.heap.size; omega) (.int .i64 kn)) (hch3.trans' (p := ⟨w1.heap.size, 2, none⟩) (by show w.heap.size ≤ w1.heap.size; omega) (.int .i64 kn)) (by omega) (by omega))
    clear hrd3 hch3
    go_wp2_with fail
    refine bodyPost_ret (v := .agg #[.int .i64 kt, .string nm0, .int .i64 kn, .int .i64 tkt, .slice tat tnt tqt, .int .i64 fkt, .slice fat fnt fqt, .int .i64 lt, .slice ct mt qt]) (by simp [results, Try.results12, go_sem, x0, x1, x2, x3, x4, x5, x6, x7, x8]) rfl ?_
    exact HEND.out
  rcases Bool.eq_false_or_eq_true (pk == 3) with q3 | q3
  · go_wp2_with fail
    refine (specL1Type r (p + 1) _ hrd2 (by omega)).mono ?_
    rintro e w3 ⟨t3, v3, q3, rfl, hn3, hv3, hq3, hrd3, hc3⟩
    obtain ⟨k3, a3, n3, c3, rfl⟩ := hv3.shape
    have hw3 := hc3.size
    have hch3 := hch2.trans hc3
    have hR3 := blk_chg hR2 hc3 (by omega)
    have hO3 := blk_chg hO2 hc3 (by omega)
    have hty3 := hty.move (hc3.keeps fun b hb => by have := hb.1; simp; omega)
    have hsr3 := hsr.move (hc3.keeps fun b hb => by have := hb.1; simp; omega)
    have hks3 := hks.move (hc3.keeps fun b hb => by have := hb.1; simp; omega)
    have hv3' : TyRep (· ≠ r) w3 t3 _ := hv3.move (.weaken fun b hb _ => by have : w2.heap.size ≤ b := hb; omega)
    clear hch2 hR2 hO2 hty hsr hks hrd2 hc3
    go_wp2_with fail
    refine (specL1Mutate r q3 14 t3 _ _ hrd3 hv3' (by omega) (by omega) (by omega)).mono ?_
    rintro e w4 ⟨t4, v4, q4, rfl, hn4, hv4, hq4, hrd4, hc4⟩
    obtain ⟨k4, a4, n4, c4, rfl⟩ := hv4.shape
    have hw4 := hc4.size
    have hch4 := hch3.trans hc4
    have hR4 := blk_chg hR3 hc4 (by omega)
    have hO4 := blk_chg hO3 hc4 (by omega)
    have hsr4 := hsr3.move (hc4.keeps fun b hb => by have := hb.1; simp; omega)
    have hks4 := hks3.move (hc4.keeps fun b hb => by have := hb.1; simp; omega)
    have hty4 : TyRep (fun b => w.heap.size + 1 + 1 ≤ b ∧ b ≠ w1.heap.size) w4 t4 _ := hv4.move (.weaken fun b hb _ => ⟨by have : w3.heap.size ≤ b := hb; omega, by have : w3.heap.size ≤ b := hb; show b ≠ w1.heap.size; omega⟩)
    clear hch3 hR3 hO3 hty3 hsr3 hks3 hrd3 hc4 hv3' hv3 hv4
    have e0 : w4.cell? ⟨w1.heap.size, 0, none⟩ = some (.int .i64 kt) := blk_cell hO4 rfl
    have e1 : w4.cell? ⟨w1.heap.size, 1, none⟩ = some (.string nm0) := blk_cell hO4 rfl
    have e2 : w4.cell? ⟨w1.heap.size, 2, none⟩ = some (.int .i64 ut) := blk_cell hO4 rfl
    have e3 : w4.cell? ⟨w1.heap.size, 3, none⟩ = some (.int .i64 tkt) := blk_cell hO4 rfl
    have e4 : w4.cell? ⟨w1.heap.size, 4, none⟩ = some (.slice tat tnt tqt) := blk_cell hO4 rfl
    have e5 : w4.cell? ⟨w1.heap.size, 5, none⟩ = some (.int .i64 fkt) := blk_cell hO4 rfl
    have e6 : w4.cell? ⟨w1.heap.size, 6, none⟩ = some (.slice fat fnt fqt) := blk_cell hO4 rfl
    have e7 : w4.cell? ⟨w1.heap.size, 7, none⟩ = some (.int .i64 lt) := blk_cell hO4 rfl
    have e8 : w4.cell? ⟨w1.heap.size, 8, none⟩ = some (.slice ct mt qt) := blk_cell hO4 rfl
    have g3 : w4.frozen? ⟨w1.heap.size, 3, none⟩ = false := blk_fro hO4 3
    have g4 : w4.frozen? ⟨w1.heap.size, 4, none⟩ = false := blk_fro hO4 4
    have x0 : w4.cell? ⟨w.heap.size + 1, 0, none⟩ = some (.int .i64 0) := blk_cell hR4 rfl
    have f0 : w4.frozen? ⟨w.heap.size + 1, 0, none⟩ = false := blk_fro hR4 0
    have x1 : w4.cell? ⟨w.heap.size + 1, 1, none⟩ = some (.string { data := #[] }) := blk_cell hR4 rfl
    have f1 : w4.frozen? ⟨w.heap.size + 1, 1, none⟩ = false := blk_fro hR4 1
    have x2 : w4.cell? ⟨w.heap.size + 1, 2, none⟩ = some (.int .i64 0) := blk_cell hR4 rfl
    have f2 : w4.frozen? ⟨w.heap.size + 1, 2, none⟩ = false := blk_fro hR4 2
    have x3 : w4.cell? ⟨w.heap.size + 1, 3, none⟩ = some (.int .i64 0) := blk_cell hR4 rfl
    have f3 : w4.frozen? ⟨w.heap.size + 1, 3, none⟩ = false := blk_fro hR4 3
    have x4 : w4.cell? ⟨w.heap.size + 1, 4, none⟩ = some (.slice none 0 0) := blk_cell hR4 rfl
    have f4 : w4.frozen? ⟨w.heap.size + 1, 4, none⟩ = false := blk_fro hR4 4
    have x5 : w4.cell? ⟨w.heap.size + 1, 5, none⟩ = some (.int .i64 0) := blk_cell hR4 rfl
    have f5 : w4.frozen? ⟨w.heap.size + 1, 5, none⟩ = false := blk_fro hR4 5
    have x6 : w4.cell? ⟨w.heap.size + 1, 6, none⟩ = some (.slice none 0 0) := blk_cell hR4 rfl
    have f6 : w4.frozen? ⟨w.heap.size + 1, 6, none⟩ = false := blk_fro hR4 6
    have x7 : w4.cell? ⟨w.heap.size + 1, 7, none⟩ = some (.int .i64 0) := blk_cell hR4 rfl
    have f7 : w4.frozen? ⟨w.heap.size + 1, 7, none⟩ = false := blk_fro hR4 7
    have x8 : w4.cell? ⟨w.heap.size + 1, 8, none⟩ = some (.slice none 0 0) := blk_cell hR4 rfl
    have f8 : w4.frozen? ⟨w.heap.size + 1, 8, none⟩ = false := blk_fro hR4 8
    have lxR := blk_lt hR4
    have lxO := blk_lt hO4
    have HEND := Lib.hid (DTm.storedF (r := r) (p := p) (c := 500) (m := m + 30) (w := w) (q := q4) (R := w.heap.size + 1) (v0 := .int .i64 kt) (v1 := .string nm0) (v2 := .int .i64 ut) (v3 := .int .i64 k4) (v4 := .slice a4 n4 c4) (v5 := .int .i64 fkt) (v6 := .slice fat fnt fqt) (v7 := .int .i64 lt) (v8 := .slice ct mt qt) (TmRep.mk (k := kt) (nm := nm0) (u := ut) (l := lt) (F := (fun b => w.heap.size + 1 + 1 ≤ b ∧ b ≠ w1.heap.size)) HNM.out ((hty4.setF (p := ⟨w1.heap.size, 3, none⟩) (fun h => h.2 rfl) (.int .i64 k4)).setF (p := ⟨w1.heap.size, 4, none⟩) (fun h => h.2 rfl) (.slice a4 n4 c4)) ((hsr4.setF (p := ⟨w1.heap.size, 3, none⟩) (fun h => h.2 rfl) (.int .i64 k4)).setF (p := ⟨w1.heap.size, 4, none⟩) (fun h => h.2 rfl) (.slice a4 n4 c4)) ((hks4.setF (p := ⟨w1.heap.size, 3, none⟩) (fun h => h.2 rfl) (.int .i64 k4)).setF (p := ⟨w1.heap.size, 4, none⟩) (fun h => h.2 rfl) (.slice a4 n4 c4))) (fun b hb => ⟨by have := hb.1; omega, by have := hb.1; omega⟩) (by have := HCN.out; simp only [Tm.cnt] at this ⊢; omega) (by omega) ((hrd4.setCell (a := ⟨w1.heap.size, 3, none⟩) (by show r < w1.heap.size; omega) (.int .i64 k4)).setCell (a := ⟨w1.heap.size, 4, none⟩) (by show r < w1.heap.size; omega) (.slice a4 n4 c4)) ((hch4.trans' (p := ⟨w1.heap.size, 3, none⟩) (by show w.heap.size ≤ w1.heap.size; omega) (.int .i64 k4)).trans' (p := ⟨w1.heap.size, 4, none⟩) (by show w.heap.size ≤ w1.heap.size; omega) (.slice a4 n4 c4)) (by omega) (by omega))
    clear hrd4 hch4
    go_wp2_with fail
    refine bodyPost_ret (v := .agg #[.int .i64 kt, .string nm0, .int .i64 ut, .int .i64 k4, .slice a4 n4 c4, .int .i64 fkt, .slice fat fnt fqt, .int .i64 lt, .slice ct mt qt]) (by simp [results, Try.results12, go_sem, x0, x1, x2, x3, x4, x5, x6, x7, x8]) rfl ?_
    exact HEND.out
  rcases Bool.eq_false_or_eq_true (pk == 4) with q4 | q4
  · have e0 : w2.cell? ⟨w1.heap.size, 0, none⟩ = some (.int .i64 kt) := blk_cell hO2 rfl
    have e1 : w2.cell? ⟨w1.heap.size, 1, none⟩ = some (.string nm0) := blk_cell hO2 rfl
    have e2 : w2.cell? ⟨w1.heap.size, 2, none⟩ = some (.int .i64 ut) := blk_cell hO2 rfl
    have e3 : w2.cell? ⟨w1.heap.size, 3, none⟩ = some (.int .i64 tkt) := blk_cell hO2 rfl
    have e4 : w2.cell? ⟨w1.heap.size, 4, none⟩ = some (.slice tat tnt tqt) := blk_cell hO2 rfl
    have e5 : w2.cell? ⟨w1.heap.size, 5, none⟩ = some (.int .i64 fkt) := blk_cell hO2 rfl
    have e6 : w2.cell? ⟨w1.heap.size, 6, none⟩ = some (.slice fat fnt fqt) := blk_cell hO2 rfl
    have e7 : w2.cell? ⟨w1.heap.size, 7, none⟩ = some (.int .i64 lt) := blk_cell hO2 rfl
    have e8 : w2.cell? ⟨w1.heap.size, 8, none⟩ = some (.slice ct mt qt) := blk_cell hO2 rfl
    have g7 : w2.frozen? ⟨w1.heap.size, 7, none⟩ = false := blk_fro hO2 7
    have x0 : w2.cell? ⟨w.heap.size + 1, 0, none⟩ = some (.int .i64 0) := blk_cell hR2 rfl
    have f0 : w2.frozen? ⟨w.heap.size + 1, 0, none⟩ = false := blk_fro hR2 0
    have x1 : w2.cell? ⟨w.heap.size + 1, 1, none⟩ = some (.string { data := #[] }) := blk_cell hR2 rfl
    have f1 : w2.frozen? ⟨w.heap.size + 1, 1, none⟩ = false := blk_fro hR2 1
    have x2 : w2.cell? ⟨w.heap.size + 1, 2, none⟩ = some (.int .i64 0) := blk_cell hR2 rfl
    have f2 : w2.frozen? ⟨w.heap.size + 1, 2, none⟩ = false := blk_fro hR2 2
    have x3 : w2.cell? ⟨w.heap.size + 1, 3, none⟩ = some (.int .i64 0) := blk_cell hR2 rfl
    have f3 : w2.frozen? ⟨w.heap.size + 1, 3, none⟩ = false := blk_fro hR2 3
    have x4 : w2.cell? ⟨w.heap.size + 1, 4, none⟩ = some (.slice none 0 0) := blk_cell hR2 rfl
    have f4 : w2.frozen? ⟨w.heap.size + 1, 4, none⟩ = false := blk_fro hR2 4
    have x5 : w2.cell? ⟨w.heap.size + 1, 5, none⟩ = some (.int .i64 0) := blk_cell hR2 rfl
    have f5 : w2.frozen? ⟨w.heap.size + 1, 5, none⟩ = false := blk_fro hR2 5
    have x6 : w2.cell? ⟨w.heap.size + 1, 6, none⟩ = some (.slice none 0 0) := blk_cell hR2 rfl
    have f6 : w2.frozen? ⟨w.heap.size + 1, 6, none⟩ = false := blk_fro hR2 6
    have x7 : w2.cell? ⟨w.heap.size + 1, 7, none⟩ = some (.int .i64 0) := blk_cell hR2 rfl
    have f7 : w2.frozen? ⟨w.heap.size + 1, 7, none⟩ = false := blk_fro hR2 7
    have x8 : w2.cell? ⟨w.heap.size + 1, 8, none⟩ = some (.slice none 0 0) := blk_cell hR2 rfl
    have f8 : w2.frozen? ⟨w.heap.size + 1, 8, none⟩ = false := blk_fro hR2 8
    have lxR := blk_lt hR2
    have lxO := blk_lt hO2
    have HEND := Lib.hid (DTm.storedF (r := r) (p := p) (c := 500) (m := m + 30) (w := w) (q := p + 1) (R := w.heap.size + 1) (v0 := .int .i64 kt) (v1 := .string nm0) (v2 := .int .i64 ut) (v3 := .int .i64 tkt) (v4 := .slice tat tnt tqt) (v5 := .int .i64 fkt) (v6 := .slice fat fnt fqt) (v7 := .int .i64 1) (v8 := .slice ct mt qt) (TmRep.mk (k := kt) (nm := nm0) (u := ut) (l := 1) (F := (fun b => w.heap.size + 1 + 1 ≤ b ∧ b ≠ w1.heap.size)) HNM.out (hty.setF (p := ⟨w1.heap.size, 7, none⟩) (fun h => h.2 rfl) (.int .i64 1)) (hsr.setF (p := ⟨w1.heap.size, 7, none⟩) (fun h => h.2 rfl) (.int .i64 1)) (hks.setF (p := ⟨w1.heap.size, 7, none⟩) (fun h => h.2 rfl) (.int .i64 1))) (fun b hb => ⟨by have := hb.1; omega, by have := hb.1; omega⟩) (by have := HCN.out; simp only [Tm.cnt] at this ⊢; omega) (by omega) (hrd2.setCell (a := ⟨w1.heap.size, 7, none⟩) (by show r < w1.heap.size; omega) (.int .i64 1)) (hch2.trans' (p := ⟨w1.heap.size, 7, none⟩) (by show w.heap.size ≤ w1.heap.size; omega) (.int .i64 1)) (by omega) (by omega))
    clear hrd2 hch2
    go_wp2_with fail
    refine bodyPost_ret (v := .agg #[.int .i64 kt, .string nm0, .int .i64 ut, .int .i64 tkt, .slice tat tnt tqt, .int .i64 fkt, .slice fat fnt fqt, .int .i64 1, .slice ct mt qt]) (by simp [results, Try.results12, go_sem, x0, x1, x2, x3, x4, x5, x6, x7, x8]) rfl ?_
    exact HEND.out
  rcases Bool.eq_false_or_eq_true (pk == 5) with q5 | q5
  · go_wp2_with fail
    refine (specL1Any _).mono ?_
    rintro e w3 ⟨v3, rfl, hv3, hb3⟩
    obtain ⟨k3, a3, n3, c3, rfl⟩ := hv3.shape
    have hw3 := hb3.size
    have hrd3 := hrd2.below hb3
    have hch3 := hch2.trans (Chg.of_below hb3)
    have hR3 := blk_below hR2 hb3
    have hO3 := blk_below hO2 hb3
    have hty3 := hty.below hb3
    have hks3 := hks.below hb3
    have hsr3 : TyRep (fun b => w.heap.size + 1 + 1 ≤ b ∧ b ≠ w1.heap.size) w3 (.mk 1 []) _ := hv3.rep.move (.weaken fun b hb _ => ⟨by have : w2.heap.size ≤ b := hb; omega, by have : w2.heap.size ≤ b := hb; show b ≠ w1.heap.size; omega⟩)
    clear hch2 hR2 hO2 hty hsr hks hrd2 hb3 hv3
    have e0 : w3.cell? ⟨w1.heap.size, 0, none⟩ = some (.int .i64 kt) := blk_cell hO3 rfl
    have e1 : w3.cell? ⟨w1.heap.size, 1, none⟩ = some (.string nm0) := blk_cell hO3 rfl
    have e2 : w3.cell? ⟨w1.heap.size, 2, none⟩ = some (.int .i64 ut) := blk_cell hO3 rfl
    have e3 : w3.cell? ⟨w1.heap.size, 3, none⟩ = some (.int .i64 tkt) := blk_cell hO3 rfl
    have e4 : w3.cell? ⟨w1.heap.size, 4, none⟩ = some (.slice tat tnt tqt) := blk_cell hO3 rfl
    have e5 : w3.cell? ⟨w1.heap.size, 5, none⟩ = some (.int .i64 fkt) := blk_cell hO3 rfl
    have e6 : w3.cell? ⟨w1.heap.size, 6, none⟩ = some (.slice fat fnt fqt) := blk_cell hO3 rfl
    have e7 : w3.cell? ⟨w1.heap.size, 7, none⟩ = some (.int .i64 lt) := blk_cell hO3 rfl
    have e8 : w3.cell? ⟨w1.heap.size, 8, none⟩ = some (.slice ct mt qt) := blk_cell hO3 rfl
    have g5 : w3.frozen? ⟨w1.heap.size, 5, none⟩ = false := blk_fro hO3 5
    have g6 : w3.frozen? ⟨w1.heap.size, 6, none⟩ = false := blk_fro hO3 6
    have x0 : w3.cell? ⟨w.heap.size + 1, 0, none⟩ = some (.int .i64 0) := blk_cell hR3 rfl
    have f0 : w3.frozen? ⟨w.heap.size + 1, 0, none⟩ = false := blk_fro hR3 0
    have x1 : w3.cell? ⟨w.heap.size + 1, 1, none⟩ = some (.string { data := #[] }) := blk_cell hR3 rfl
    have f1 : w3.frozen? ⟨w.heap.size + 1, 1, none⟩ = false := blk_fro hR3 1
    have x2 : w3.cell? ⟨w.heap.size + 1, 2, none⟩ = some (.int .i64 0) := blk_cell hR3 rfl
    have f2 : w3.frozen? ⟨w.heap.size + 1, 2, none⟩ = false := blk_fro hR3 2
    have x3 : w3.cell? ⟨w.heap.size + 1, 3, none⟩ = some (.int .i64 0) := blk_cell hR3 rfl
    have f3 : w3.frozen? ⟨w.heap.size + 1, 3, none⟩ = false := blk_fro hR3 3
    have x4 : w3.cell? ⟨w.heap.size + 1, 4, none⟩ = some (.slice none 0 0) := blk_cell hR3 rfl
    have f4 : w3.frozen? ⟨w.heap.size + 1, 4, none⟩ = false := blk_fro hR3 4
    have x5 : w3.cell? ⟨w.heap.size + 1, 5, none⟩ = some (.int .i64 0) := blk_cell hR3 rfl
    have f5 : w3.frozen? ⟨w.heap.size + 1, 5, none⟩ = false := blk_fro hR3 5
    have x6 : w3.cell? ⟨w.heap.size + 1, 6, none⟩ = some (.slice none 0 0) := blk_cell hR3 rfl
    have f6 : w3.frozen? ⟨w.heap.size + 1, 6, none⟩ = false := blk_fro hR3 6
    have x7 : w3.cell? ⟨w.heap.size + 1, 7, none⟩ = some (.int .i64 0) := blk_cell hR3 rfl
    have f7 : w3.frozen? ⟨w.heap.size + 1, 7, none⟩ = false := blk_fro hR3 7
    have x8 : w3.cell? ⟨w.heap.size + 1, 8, none⟩ = some (.slice none 0 0) := blk_cell hR3 rfl
    have f8 : w3.frozen? ⟨w.heap.size + 1, 8, none⟩ = false := blk_fro hR3 8
    have lxR := blk_lt hR3
    have lxO := blk_lt hO3
    have HEND := Lib.hid (DTm.storedF (r := r) (p := p) (c := 500) (m := m + 30) (w := w) (q := p + 1) (R := w.heap.size + 1) (v0 := .int .i64 kt) (v1 := .string nm0) (v2 := .int .i64 ut) (v3 := .int .i64 tkt) (v4 := .slice tat tnt tqt) (v5 := .int .i64 k3) (v6 := .slice a3 n3 c3) (v7 := .int .i64 lt) (v8 := .slice ct mt qt) (TmRep.mk (k := kt) (nm := nm0) (u := ut) (l := lt) (F := (fun b => w.heap.size + 1 + 1 ≤ b ∧ b ≠ w1.heap.size)) HNM.out ((hty3.setF (p := ⟨w1.heap.size, 5, none⟩) (fun h => h.2 rfl) (.int .i64 k3)).setF (p := ⟨w1.heap.size, 6, none⟩) (fun h => h.2 rfl) (.slice a3 n3 c3)) ((hsr3.setF (p := ⟨w1.heap.size, 5, none⟩) (fun h => h.2 rfl) (.int .i64 k3)).setF (p := ⟨w1.heap.size, 6, none⟩) (fun h => h.2 rfl) (.slice a3 n3 c3)) ((hks3.setF (p := ⟨w1.heap.size, 5, none⟩) (fun h => h.2 rfl) (.int .i64 k3)).setF (p := ⟨w1.heap.size, 6, none⟩) (fun h => h.2 rfl) (.slice a3 n3 c3))) (fun b hb => ⟨by have := hb.1; omega, by have := hb.1; omega⟩) (by have := HCN.out; simp only [Tm.cnt, Ty.cnt, Ty.cnts, List.length_nil] at this ⊢; omega) (by omega) ((hrd3.setCell (a := ⟨w1.heap.size, 5, none⟩) (by show r < w1.heap.size; omega) (.int .i64 k3)).setCell (a := ⟨w1.heap.size, 6, none⟩) (by show r < w1.heap.size; omega) (.slice a3 n3 c3)) ((hch3.trans' (p := ⟨w1.heap.size, 5, none⟩) (by show w.heap.size ≤ w1.heap.size; omega) (.int .i64 k3)).trans' (p := ⟨w1.heap.size, 6, none⟩) (by show w.heap.size ≤ w1.heap.size; omega) (.slice a3 n3 c3)) (by omega) (by omega))
    clear hrd3 hch3
    go_wp2_with fail
    refine bodyPost_ret (v := .agg #[.int .i64 kt, .string nm0, .int .i64 ut, .int .i64 tkt, .slice tat tnt tqt, .int .i64 k3, .slice a3 n3 c3, .int .i64 lt, .slice ct mt qt]) (by simp [results, Try.results12, go_sem, x0, x1, x2, x3, x4, x5, x6, x7, x8]) rfl ?_
    exact HEND.out
  have e0 : w2.cell? ⟨w1.heap.size, 0, none⟩ = some (.int .i64 kt) := blk_cell hO2 rfl
  have e1 : w2.cell? ⟨w1.heap.size, 1, none⟩ = some (.string nm0) := blk_cell hO2 rfl
  have e2 : w2.cell? ⟨w1.heap.size, 2, none⟩ = some (.int .i64 ut) := blk_cell hO2 rfl
  have e3 : w2.cell? ⟨w1.heap.size, 3, none⟩ = some (.int .i64 tkt) := blk_cell hO2 rfl
  have e4 : w2.cell? ⟨w1.heap.size, 4, none⟩ = some (.slice tat tnt tqt) := blk_cell hO2 rfl
  have e5 : w2.cell? ⟨w1.heap.size, 5, none⟩ = some (.int .i64 fkt) := blk_cell hO2 rfl
  have e6 : w2.cell? ⟨w1.heap.size, 6, none⟩ = some (.slice fat fnt fqt) := blk_cell hO2 rfl
  have e7 : w2.cell? ⟨w1.heap.size, 7, none⟩ = some (.int .i64 lt) := blk_cell hO2 rfl
  have e8 : w2.cell? ⟨w1.heap.size, 8, none⟩ = some (.slice ct mt qt) := blk_cell hO2 rfl
  have x0 : w2.cell? ⟨w.heap.size + 1, 0, none⟩ = some (.int .i64 0) := blk_cell hR2 rfl
  have f0 : w2.frozen? ⟨w.heap.size + 1, 0, none⟩ = false := blk_fro hR2 0
  have x1 : w2.cell? ⟨w.heap.size + 1, 1, none⟩ = some (.string { data := #[] }) := blk_cell hR2 rfl
  have f1 : w2.frozen? ⟨w.heap.size + 1, 1, none⟩ = false := blk_fro hR2 1
  have x2 : w2.cell? ⟨w.heap.size + 1, 2, none⟩ = some (.int .i64 0) := blk_cell hR2 rfl
  have f2 : w2.frozen? ⟨w.heap.size + 1, 2, none⟩ = false := blk_fro hR2 2
  have x3 : w2.cell? ⟨w.heap.size + 1, 3, none⟩ = some (.int .i64 0) := blk_cell hR2 rfl
  have f3 : w2.frozen? ⟨w.heap.size + 1, 3, none⟩ = false := blk_fro hR2 3
  have x4 : w2.cell? ⟨w.heap.size + 1, 4, none⟩ = some (.slice none 0 0) := blk_cell hR2 rfl
  have f4 : w2.frozen? ⟨w.heap.size + 1, 4, none⟩ = false := blk_fro hR2 4
  have x5 : w2.cell? ⟨w.heap.size + 1, 5, none⟩ = some (.int .i64 0) := blk_cell hR2 rfl
  have f5 : w2.frozen? ⟨w.heap.size + 1, 5, none⟩ = false := blk_fro hR2 5
  have x6 : w2.cell? ⟨w.heap.size + 1, 6, none⟩ = some (.slice none 0 0) := blk_cell hR2 rfl
  have f6 : w2.frozen? ⟨w.heap.size + 1, 6, none⟩ = false := blk_fro hR2 6
  have x7 : w2.cell? ⟨w.heap.size + 1, 7, none⟩ = some (.int .i64 0) := blk_cell hR2 rfl
  have f7 : w2.frozen? ⟨w.heap.size + 1, 7, none⟩ = false := blk_fro hR2 7
  have x8 : w2.cell? ⟨w.heap.size + 1, 8, none⟩ = some (.slice none 0 0) := blk_cell hR2 rfl
  have f8 : w2.frozen? ⟨w.heap.size + 1, 8, none⟩ = false := blk_fro hR2 8
  have lxR := blk_lt hR2
  have lxO := blk_lt hO2
  have HEND := Lib.hid (DTm.storedF (r := r) (p := p) (c := 500) (m := m + 30) (w := w) (q := p + 1) (R := w.heap.size + 1) (v0 := .int .i64 kt) (v1 := .string nm0) (v2 := .int .i64 ut) (v3 := .int .i64 tkt) (v4 := .slice tat tnt tqt) (v5 := .int .i64 fkt) (v6 := .slice fat fnt fqt) (v7 := .int .i64 lt) (v8 := .slice ct mt qt) (TmRep.mk (k := kt) (nm := nm0) (u := ut) (l := lt) (F := (fun b => w.heap.size + 1 + 1 ≤ b ∧ b ≠ w1.heap.size)) HNM.out hty hsr hks) (fun b hb => ⟨by have := hb.1; omega, by have := hb.1; omega⟩) (by have := HCN.out; simp only [Tm.cnt] at this ⊢; omega) (by omega) hrd2 hch2 (by omega) (by omega))
  clear hrd2 hch2
  go_wp2_with fail
  refine bodyPost_ret (v := .agg #[.int .i64 kt, .string nm0, .int .i64 ut, .int .i64 tkt, .slice tat tnt tqt, .int .i64 fkt, .slice fat fnt fqt, .int .i64 lt, .slice ct mt qt]) (by simp [results, Try.results12, go_sem, x0, x1, x2, x3, x4, x5, x6, x7, x8]) rfl ?_
  exact HEND.out
end Go.Proofs.Ytpckgpndaligbaa
