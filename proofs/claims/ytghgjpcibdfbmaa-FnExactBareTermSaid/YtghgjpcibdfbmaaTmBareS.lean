/-
  A term without casts and types, by the reference: casts; joined.
-/
import Derived.Test.YtghgjpcibdfbmaaTmBareSk
import Derived.Test.YtghgjpcibdfbmaaTmBareS5
namespace Go.Proofs.Ytghgjpcibdfbmaa
open Go.RowKit
set_option linter.unusedVariables false
set_option linter.unusedSimpArgs false
set_option maxRecDepth 100000

set_option maxHeartbeats 8000000 in
theorem bareSc (nt : Int) (F : Nat → Prop) (t : Tm) (hc : t.kind = 13 ∨ t.kind = 14) (IH0 : ∀ t' ∈ t.kids, BareC nt F t') : BareC nt F t := by
  intro d y w hsh hy hcnt
  have IH : ∀ t' ∈ t.kids, ∀ (y : Value) (W : World), TmRep F W t' y → Calls Try.prog 103 #[y] W (RetTm t'.bare W) :=
    fun t' ht y W h => IH0 t' ht (d - 1) y W (by cases t with | mk k s u ty f l ts => exact Tm.shapes_mem (Tm.shape_parts hsh).2.2.2.2 ht) h (by have := Tm.cnt_kid ht; omega)
  clear IH0
  obtain ⟨k, nm, u, tk, ta, tn, tq, fk, fa, fn, fq, l, c, m, q, rfl⟩ := hy.shape
  obtain ⟨r1, r2, r3, r4, r5, r6, r7, r8, r9, rn, rm, rq, hty, hsr, hks⟩ := hy.parts
  obtain ⟨i0, hi, hz0, hz1, hz2⟩ := info_parts Try.infoTm
  cases t with | mk kk nn uu tt ff ll ts =>
  obtain ⟨-, -, htop, -, -⟩ := Tm.shape_parts hsh
  simp only [Tm.kind, Tm.name, Tm.num, Tm.type, Tm.src, Tm.label, Tm.kids] at *
  subst r1 r2 r3 r8
  unfold Tm.cnt at hcnt
  have hcl : m ≤ 1048576 := by omega
  have HN := Lib.hid r9
  have HRN := Lib.hid rn
  have IHH := Lib.hid IH
  have Z0 := Lib.hid hz0
  have Z1 := Lib.hid hz1
  have Z2 := Lib.hid hz2
  have HI := Lib.hid hi
  unfold maxLen at rq
  have hlen : 0 < ts.length := by
    have h : tops k = 1 := by rcases hc with rfl | rfl <;> rfl
    omega
  obtain ⟨kid, rest, rfl⟩ : ∃ a b, ts = a :: b := by cases ts with | nil => simp at hlen | cons a b => exact ⟨a, b, rfl⟩
  have hbare : (Tm.mk k nm u tt ff l (kid :: rest)).bare = kid.bare := by rw [Tm.bare, Tm.bares]; rcases hc with rfl | rfl <;> rfl
  rw [hbare]
  have hm0 : 0 < m := by omega
  have hn1 := r9
  clear hy r9 r4 r5 r6 r7 rn hsh hz0 hz1 hz2 hi hcnt htop hbare hty hsr hlen
  obtain ⟨b, off, k0, nm0, u0, tk0, ta0, tn0, tq0, fk0, fa0, fn0, fq0, l0, a0, m0, q0, rfl, lb, e0, e1, e2, e3, e4, e5, e6, e7, e8, ht⟩ := hks.at (i := 0) (Below.refl _ _) (by simp)
  simp only [Nat.zero_mul, Nat.add_zero, List.getElem_cons_zero] at e0 e1 e2 e3 e4 e5 e6 e7 e8 ht
  have HC := Lib.hid (fun W (h : Below w.heap.size w W) => IH kid (by simp) _ W (ht.below h))
  clear IH ht hks hn1 HN IHH
  have g0 := bcell (bal2 (w := w) (o := .cells #[.int .i64 k, .string nm, .int .i64 u, .int .i64 tk, .slice ta tn tq, .int .i64 fk, .slice fa fn fq, .int .i64 l, .slice (some ⟨b, off, none⟩) m q] 36) (o' := .cells #[.int .i64 0, .string { data := #[] }, .int .i64 0, .int .i64 0, .slice none 0 0, .int .i64 0, .slice none 0 0, .int .i64 0, .slice none 0 0] 36)) e0
  have g1 := bcell (bal2 (w := w) (o := .cells #[.int .i64 k, .string nm, .int .i64 u, .int .i64 tk, .slice ta tn tq, .int .i64 fk, .slice fa fn fq, .int .i64 l, .slice (some ⟨b, off, none⟩) m q] 36) (o' := .cells #[.int .i64 0, .string { data := #[] }, .int .i64 0, .int .i64 0, .slice none 0 0, .int .i64 0, .slice none 0 0, .int .i64 0, .slice none 0 0] 36)) e1
  have g2 := bcell (bal2 (w := w) (o := .cells #[.int .i64 k, .string nm, .int .i64 u, .int .i64 tk, .slice ta tn tq, .int .i64 fk, .slice fa fn fq, .int .i64 l, .slice (some ⟨b, off, none⟩) m q] 36) (o' := .cells #[.int .i64 0, .string { data := #[] }, .int .i64 0, .int .i64 0, .slice none 0 0, .int .i64 0, .slice none 0 0, .int .i64 0, .slice none 0 0] 36)) e2
  have g3 := bcell (bal2 (w := w) (o := .cells #[.int .i64 k, .string nm, .int .i64 u, .int .i64 tk, .slice ta tn tq, .int .i64 fk, .slice fa fn fq, .int .i64 l, .slice (some ⟨b, off, none⟩) m q] 36) (o' := .cells #[.int .i64 0, .string { data := #[] }, .int .i64 0, .int .i64 0, .slice none 0 0, .int .i64 0, .slice none 0 0, .int .i64 0, .slice none 0 0] 36)) e3
  have g4 := bcell (bal2 (w := w) (o := .cells #[.int .i64 k, .string nm, .int .i64 u, .int .i64 tk, .slice ta tn tq, .int .i64 fk, .slice fa fn fq, .int .i64 l, .slice (some ⟨b, off, none⟩) m q] 36) (o' := .cells #[.int .i64 0, .string { data := #[] }, .int .i64 0, .int .i64 0, .slice none 0 0, .int .i64 0, .slice none 0 0, .int .i64 0, .slice none 0 0] 36)) e4
  have g5 := bcell (bal2 (w := w) (o := .cells #[.int .i64 k, .string nm, .int .i64 u, .int .i64 tk, .slice ta tn tq, .int .i64 fk, .slice fa fn fq, .int .i64 l, .slice (some ⟨b, off, none⟩) m q] 36) (o' := .cells #[.int .i64 0, .string { data := #[] }, .int .i64 0, .int .i64 0, .slice none 0 0, .int .i64 0, .slice none 0 0, .int .i64 0, .slice none 0 0] 36)) e5
  have g6 := bcell (bal2 (w := w) (o := .cells #[.int .i64 k, .string nm, .int .i64 u, .int .i64 tk, .slice ta tn tq, .int .i64 fk, .slice fa fn fq, .int .i64 l, .slice (some ⟨b, off, none⟩) m q] 36) (o' := .cells #[.int .i64 0, .string { data := #[] }, .int .i64 0, .int .i64 0, .slice none 0 0, .int .i64 0, .slice none 0 0, .int .i64 0, .slice none 0 0] 36)) e6
  have g7 := bcell (bal2 (w := w) (o := .cells #[.int .i64 k, .string nm, .int .i64 u, .int .i64 tk, .slice ta tn tq, .int .i64 fk, .slice fa fn fq, .int .i64 l, .slice (some ⟨b, off, none⟩) m q] 36) (o' := .cells #[.int .i64 0, .string { data := #[] }, .int .i64 0, .int .i64 0, .slice none 0 0, .int .i64 0, .slice none 0 0, .int .i64 0, .slice none 0 0] 36)) e7
  have g8 := bcell (bal2 (w := w) (o := .cells #[.int .i64 k, .string nm, .int .i64 u, .int .i64 tk, .slice ta tn tq, .int .i64 fk, .slice fa fn fq, .int .i64 l, .slice (some ⟨b, off, none⟩) m q] 36) (o' := .cells #[.int .i64 0, .string { data := #[] }, .int .i64 0, .int .i64 0, .slice none 0 0, .int .i64 0, .slice none 0 0, .int .i64 0, .slice none 0 0] 36)) e8
  clear e0 e1 e2 e3 e4 e5 e6 e7 e8
  rcases hc with rfl | rfl
  · skip
    go_enter Try.func103, Try.ntmps103
    go_wp2_with fail
    refine (HC.out _ bal2).mono ?_
    rintro e w1 ⟨v1, rfl, hv1, hb1⟩
    obtain ⟨k5, nm5, u5', tk5, ta5, tn5, tq5, fk5, fa5, fn5, fq5, l5, c5', m5, q5, rfl⟩ := hv1.shape
    have z0 : w1.cell? ⟨w.heap.size + 1, 0, none⟩ = some (.int .i64 0) := bcell hb1 (cell_n1 0)
    have y0 : w1.frozen? ⟨w.heap.size + 1, 0, none⟩ = false := bfroc hb1 (cell_n1 0) (fro_n1 0)
    have z1 : w1.cell? ⟨w.heap.size + 1, 1, none⟩ = some (.string { data := #[] }) := bcell hb1 (cell_n1 1)
    have y1 : w1.frozen? ⟨w.heap.size + 1, 1, none⟩ = false := bfroc hb1 (cell_n1 1) (fro_n1 1)
    have z2 : w1.cell? ⟨w.heap.size + 1, 2, none⟩ = some (.int .i64 0) := bcell hb1 (cell_n1 2)
    have y2 : w1.frozen? ⟨w.heap.size + 1, 2, none⟩ = false := bfroc hb1 (cell_n1 2) (fro_n1 2)
    have z3 : w1.cell? ⟨w.heap.size + 1, 3, none⟩ = some (.int .i64 0) := bcell hb1 (cell_n1 3)
    have y3 : w1.frozen? ⟨w.heap.size + 1, 3, none⟩ = false := bfroc hb1 (cell_n1 3) (fro_n1 3)
    have z4 : w1.cell? ⟨w.heap.size + 1, 4, none⟩ = some (.slice none 0 0) := bcell hb1 (cell_n1 4)
    have y4 : w1.frozen? ⟨w.heap.size + 1, 4, none⟩ = false := bfroc hb1 (cell_n1 4) (fro_n1 4)
    have z5 : w1.cell? ⟨w.heap.size + 1, 5, none⟩ = some (.int .i64 0) := bcell hb1 (cell_n1 5)
    have y5 : w1.frozen? ⟨w.heap.size + 1, 5, none⟩ = false := bfroc hb1 (cell_n1 5) (fro_n1 5)
    have z6 : w1.cell? ⟨w.heap.size + 1, 6, none⟩ = some (.slice none 0 0) := bcell hb1 (cell_n1 6)
    have y6 : w1.frozen? ⟨w.heap.size + 1, 6, none⟩ = false := bfroc hb1 (cell_n1 6) (fro_n1 6)
    have z7 : w1.cell? ⟨w.heap.size + 1, 7, none⟩ = some (.int .i64 0) := bcell hb1 (cell_n1 7)
    have y7 : w1.frozen? ⟨w.heap.size + 1, 7, none⟩ = false := bfroc hb1 (cell_n1 7) (fro_n1 7)
    have z8 : w1.cell? ⟨w.heap.size + 1, 8, none⟩ = some (.slice none 0 0) := bcell hb1 (cell_n1 8)
    have y8 : w1.frozen? ⟨w.heap.size + 1, 8, none⟩ = false := bfroc hb1 (cell_n1 8) (fro_n1 8)
    have lz0 := World.block_lt_of_cell? _ _ z0
    have HV5 := Lib.hid (show TmNew (w.heap.size + 1 + 1) w1 kid.bare _ from hv1.mono (by simp))
    have HB6 := Lib.hid (bstep bal2 hb1)
    clear hv1 hb1
    go_wp2_with fail
    refine bodyPost_ret (v := .agg #[.int .i64 k5, .string nm5, .int .i64 u5', .int .i64 tk5, .slice ta5 tn5 tq5, .int .i64 fk5, .slice fa5 fn5 fq5, .int .i64 l5, .slice c5' m5 q5]) (by simp [results, Try.results103, go_sem, z0, z1, z2, z3, z4, z5, z6, z7, z8]) rfl ?_
    exact ⟨_, rfl, TmNew.mono ((((((((((HV5.out).setCell (by show w.heap.size + 1 < w.heap.size + 1 + 1; omega) _).setCell (by show w.heap.size + 1 < w.heap.size + 1 + 1; omega) _).setCell (by show w.heap.size + 1 < w.heap.size + 1 + 1; omega) _).setCell (by show w.heap.size + 1 < w.heap.size + 1 + 1; omega) _).setCell (by show w.heap.size + 1 < w.heap.size + 1 + 1; omega) _).setCell (by show w.heap.size + 1 < w.heap.size + 1 + 1; omega) _).setCell (by show w.heap.size + 1 < w.heap.size + 1 + 1; omega) _).setCell (by show w.heap.size + 1 < w.heap.size + 1 + 1; omega) _).setCell (by show w.heap.size + 1 < w.heap.size + 1 + 1; omega) _) (by omega), (((((((((HB6.out).setCell (by show w.heap.size ≤ w.heap.size + 1; omega) _).setCell (by show w.heap.size ≤ w.heap.size + 1; omega) _).setCell (by show w.heap.size ≤ w.heap.size + 1; omega) _).setCell (by show w.heap.size ≤ w.heap.size + 1; omega) _).setCell (by show w.heap.size ≤ w.heap.size + 1; omega) _).setCell (by show w.heap.size ≤ w.heap.size + 1; omega) _).setCell (by show w.heap.size ≤ w.heap.size + 1; omega) _).setCell (by show w.heap.size ≤ w.heap.size + 1; omega) _).setCell (by show w.heap.size ≤ w.heap.size + 1; omega) _⟩
  · skip
    go_enter Try.func103, Try.ntmps103
    go_wp2_with fail
    refine (HC.out _ bal2).mono ?_
    rintro e w1 ⟨v1, rfl, hv1, hb1⟩
    obtain ⟨k5, nm5, u5', tk5, ta5, tn5, tq5, fk5, fa5, fn5, fq5, l5, c5', m5, q5, rfl⟩ := hv1.shape
    have z0 : w1.cell? ⟨w.heap.size + 1, 0, none⟩ = some (.int .i64 0) := bcell hb1 (cell_n1 0)
    have y0 : w1.frozen? ⟨w.heap.size + 1, 0, none⟩ = false := bfroc hb1 (cell_n1 0) (fro_n1 0)
    have z1 : w1.cell? ⟨w.heap.size + 1, 1, none⟩ = some (.string { data := #[] }) := bcell hb1 (cell_n1 1)
    have y1 : w1.frozen? ⟨w.heap.size + 1, 1, none⟩ = false := bfroc hb1 (cell_n1 1) (fro_n1 1)
    have z2 : w1.cell? ⟨w.heap.size + 1, 2, none⟩ = some (.int .i64 0) := bcell hb1 (cell_n1 2)
    have y2 : w1.frozen? ⟨w.heap.size + 1, 2, none⟩ = false := bfroc hb1 (cell_n1 2) (fro_n1 2)
    have z3 : w1.cell? ⟨w.heap.size + 1, 3, none⟩ = some (.int .i64 0) := bcell hb1 (cell_n1 3)
    have y3 : w1.frozen? ⟨w.heap.size + 1, 3, none⟩ = false := bfroc hb1 (cell_n1 3) (fro_n1 3)
    have z4 : w1.cell? ⟨w.heap.size + 1, 4, none⟩ = some (.slice none 0 0) := bcell hb1 (cell_n1 4)
    have y4 : w1.frozen? ⟨w.heap.size + 1, 4, none⟩ = false := bfroc hb1 (cell_n1 4) (fro_n1 4)
    have z5 : w1.cell? ⟨w.heap.size + 1, 5, none⟩ = some (.int .i64 0) := bcell hb1 (cell_n1 5)
    have y5 : w1.frozen? ⟨w.heap.size + 1, 5, none⟩ = false := bfroc hb1 (cell_n1 5) (fro_n1 5)
    have z6 : w1.cell? ⟨w.heap.size + 1, 6, none⟩ = some (.slice none 0 0) := bcell hb1 (cell_n1 6)
    have y6 : w1.frozen? ⟨w.heap.size + 1, 6, none⟩ = false := bfroc hb1 (cell_n1 6) (fro_n1 6)
    have z7 : w1.cell? ⟨w.heap.size + 1, 7, none⟩ = some (.int .i64 0) := bcell hb1 (cell_n1 7)
    have y7 : w1.frozen? ⟨w.heap.size + 1, 7, none⟩ = false := bfroc hb1 (cell_n1 7) (fro_n1 7)
    have z8 : w1.cell? ⟨w.heap.size + 1, 8, none⟩ = some (.slice none 0 0) := bcell hb1 (cell_n1 8)
    have y8 : w1.frozen? ⟨w.heap.size + 1, 8, none⟩ = false := bfroc hb1 (cell_n1 8) (fro_n1 8)
    have lz0 := World.block_lt_of_cell? _ _ z0
    have HV5 := Lib.hid (show TmNew (w.heap.size + 1 + 1) w1 kid.bare _ from hv1.mono (by simp))
    have HB6 := Lib.hid (bstep bal2 hb1)
    clear hv1 hb1
    go_wp2_with fail
    refine bodyPost_ret (v := .agg #[.int .i64 k5, .string nm5, .int .i64 u5', .int .i64 tk5, .slice ta5 tn5 tq5, .int .i64 fk5, .slice fa5 fn5 fq5, .int .i64 l5, .slice c5' m5 q5]) (by simp [results, Try.results103, go_sem, z0, z1, z2, z3, z4, z5, z6, z7, z8]) rfl ?_
    exact ⟨_, rfl, TmNew.mono ((((((((((HV5.out).setCell (by show w.heap.size + 1 < w.heap.size + 1 + 1; omega) _).setCell (by show w.heap.size + 1 < w.heap.size + 1 + 1; omega) _).setCell (by show w.heap.size + 1 < w.heap.size + 1 + 1; omega) _).setCell (by show w.heap.size + 1 < w.heap.size + 1 + 1; omega) _).setCell (by show w.heap.size + 1 < w.heap.size + 1 + 1; omega) _).setCell (by show w.heap.size + 1 < w.heap.size + 1 + 1; omega) _).setCell (by show w.heap.size + 1 < w.heap.size + 1 + 1; omega) _).setCell (by show w.heap.size + 1 < w.heap.size + 1 + 1; omega) _).setCell (by show w.heap.size + 1 < w.heap.size + 1 + 1; omega) _) (by omega), (((((((((HB6.out).setCell (by show w.heap.size ≤ w.heap.size + 1; omega) _).setCell (by show w.heap.size ≤ w.heap.size + 1; omega) _).setCell (by show w.heap.size ≤ w.heap.size + 1; omega) _).setCell (by show w.heap.size ≤ w.heap.size + 1; omega) _).setCell (by show w.heap.size ≤ w.heap.size + 1; omega) _).setCell (by show w.heap.size ≤ w.heap.size + 1; omega) _).setCell (by show w.heap.size ≤ w.heap.size + 1; omega) _).setCell (by show w.heap.size ≤ w.heap.size + 1; omega) _).setCell (by show w.heap.size ≤ w.heap.size + 1; omega) _⟩
theorem specL4Bare (nt : Int) (F : Nat → Prop) (t : Tm) : BareC nt F t := by
  have IH : ∀ t' ∈ t.kids, BareC nt F t' := fun t' ht => specL4Bare nt F t'
  by_cases hc : t.kind = 13 ∨ t.kind = 14
  · exact bareSc nt F t hc IH
  · by_cases h5 : t.kind = 5
    · exact bareS5 nt F t h5 IH
    · exact bareSk nt F t (by simp; omega) (by simp; omega) (by simpa using h5) IH
termination_by SizeOf.sizeOf t
decreasing_by exact Tm.kid_lt ht
end Go.Proofs.Ytghgjpcibdfbmaa
