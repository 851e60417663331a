/-
  CoercionTyped of both sides.
-/
import Derived.Test.YthhdjacdalehoaaB11
import Derived.Test.YthhdjacdalehoaaCoLdI1
import Derived.Test.YthhdjacdalehoaaCoLdI2
namespace Go.Proofs.Ythhdjacdalehoaa
open Go.RowKit
set_option linter.unusedVariables false
set_option linter.unusedSimpArgs false
set_option maxRecDepth 100000

theorem len_two {α : Type} {l : List α} (h : l.length = 2) : ∃ a b, l = [a, b] :=
  match l, h with
  | [a, b], _ => ⟨a, b, rfl⟩
theorem Co.tags_pos {k g l : Int} {ts : List Co} {d : Int} (h : (Co.mk k g l ts).shape d = true) (hk : k = 4 ∨ k = 5) : 1 ≤ Co.tagVs ts ∧ Co.tagVs ts ≤ 5 := by
  obtain ⟨s1, s2⟩ := Co.shape_parts h
  have hl : ts.length = 1 := by rcases hk with rfl | rfl <;> simp [coOps] at s1 <;> omega
  obtain ⟨c0, rfl⟩ := List.length_eq_one_iff.1 hl
  have plain : ∀ (c : Co) (e : Int), c.shape e = true → plainB c.kind c.tag = true → 1 ≤ c.tagV ∧ c.tagV ≤ 5 := by
    intro c e hc hp
    cases c with | mk k1 g1 l1 t1 =>
    have n1 := Co.node_of hc
    unfold Co.shape at hc
    simp only [Bool.and_eq_true, Co.nodeB] at hc
    have h3 := hc.1.2.1.1.1.2
    unfold Co.tagV
    simp only [Co.kind, Co.tag] at hp
    rcases n1.1 with rfl | rfl | rfl | rfl | rfl | rfl
    · simp [winB] at h3 ⊢; omega
    · simp
    · simp
    · simp [plainB] at hp
    · simp [plainB] at hp
    · simp [plainB] at hp
  have hc0 := Co.shapes_mem s2 (List.mem_cons_self ..)
  unfold Co.shape at h
  simp only [Bool.and_eq_true, Co.nodeB] at h
  have h4 := h.1.2.1.2
  have h5 := h.1.2.2
  unfold Co.tagVs
  rcases hk with rfl | rfl
  · exact plain c0 _ hc0 (by cases c0; simpa [Co.headK, Co.headG, Co.kind, Co.tag] using h4)
  · cases c0 with | mk k1 g1 l1 t1 =>
    have n1 := Co.node_of hc0
    simp [Co.headK, Co.headG, Co.kind, Co.tag] at h5
    have hc1 := hc0
    unfold Co.shape at hc0
    simp only [Bool.and_eq_true, Co.nodeB] at hc0
    have h3 := hc0.1.2.1.1.1.2
    rcases n1.1 with rfl | rfl | rfl | rfl | rfl | rfl
    · unfold Co.tagV; simp [winB] at h3 ⊢; omega
    · unfold Co.tagV; simp
    · unfold Co.tagV; simp
    · obtain ⟨p1, p2⟩ := Co.shape_parts hc1
      have hl1 : t1.length = 1 := by simp [coOps] at p1; omega
      obtain ⟨c2, rfl⟩ := List.length_eq_one_iff.1 hl1
      have h6 := hc0.1.2.1.2
      have := plain c2 _ (Co.shapes_mem p2 (List.mem_cons_self ..)) (by cases c2; simpa [Co.headK, Co.headG, Co.kind, Co.tag] using h6)
      unfold Co.tagV
      simpa [Co.tagVs] using this
    · exact absurd rfl h5.1
    · unfold Co.tagV; simp [winB] at h3 ⊢; omega
def Co.typedB (t : Co) (f u : Ty) : Bool := t.valid && f.valid && u.valid && t.leads f u
theorem implLeads (t : Co) : ∀ (d : Int) (_ : t.shape d = true) (F G H : Nat → Prop) (f u : Ty) (_ : f.valid = true) (_ : u.valid = true) (x y z : Value) (w : World), CoRep F w t x → TyRep G w f y → TyRep H w u z →
    Calls Try.prog 40 #[x, y, z] w fun e w' => e = .returned (.bool (t.leads f u)) ∧ Below w.heap.size w w' := by
  intro d hsh F G H f u hf hu x y z w hx hy hz
  have IH : ∀ t' ∈ t.kids, ∀ (d : Int) (_ : t'.shape d = true) (F G H : Nat → Prop) (f u : Ty) (_ : f.valid = true) (_ : u.valid = true) (x y z : Value) (w : World), CoRep F w t' x → TyRep G w f y → TyRep H w u z → Calls Try.prog 40 #[x, y, z] w fun e w' => e = .returned (.bool (t'.leads f u)) ∧ Below w.heap.size w w' :=
    fun t' ht d a F G H f u b c x y z w e g h => implLeads t' d a F G H f u b c x y z w e g h
  have htag := fun W (h : Below w.heap.size w W) => implTag F t d hsh x W (hx.below h)
  obtain ⟨a, q, rfl, h2, h3, hks⟩ := hx.open
  obtain ⟨fa, fq, rfl, hf2, hf3, hfs⟩ := hy.open
  obtain ⟨ta, tq, rfl, ht2, ht3, hts⟩ := hz.open
  cases t with | mk k g l ts =>
  simp only [Co.kind, Co.tag, Co.label, Co.kids] at *
  obtain ⟨s1, s2⟩ := Co.shape_parts hsh
  have hno := Co.node_of hsh
  have hpos := Co.tags_pos hsh
  unfold maxLen at h3 hf3 ht3
  rcases hno.1 with rfl | rfl | rfl | rfl | rfl | rfl
  · rw [show (Co.mk 1 g l ts).leads f u = (f.kind == g && u.kind == g) from by simp [Co.leads]]
    exact implLd1 g l _ _ fa ta _ fq _ tq a _ q w
  · obtain ⟨c0, c1, rfl⟩ : ∃ c0 c1, ts = [c0, c1] := len_two (by simp [coOps] at s1; omega)
    rw [show (Co.mk 2 g l [c0, c1]).leads f u = (f.kind == 4 && u.kind == 4 && (c0.leads (u.kid 0) (f.kid 0) && c1.leads (f.kid 1) (u.kid 1))) from by simp [Co.leads, Co.leads1, Co.leads2]]
    by_cases hfk : f.kind = 4
    · by_cases htk : u.kind = 4
      · cases f with | mk fk fts => cases u with | mk tk tts =>
        simp only [Ty.kind] at hfk htk
        subst hfk htk
        obtain ⟨f0, f1, rfl, sf0, sf1⟩ := Ty.two_of hf (by simp)
        obtain ⟨t0, t1, rfl, st0, st1⟩ := Ty.two_of hu (by simp)
        obtain ⟨b, off, k0, g0, l0, a0, n0, q0, k1, g1, l1, a1, n1, q1, rfl, -, e0, e1, e2, e3, d0, d1, d2, d3, hc0, hc1⟩ := hks.two
        obtain ⟨fb, fo, fk0, fa0, fn0, fq0, fk1, fa1, fn1, fq1, rfl, -, fe0, fe1, fe2, fe3, hf0, hf1⟩ := hfs.twoK
        obtain ⟨tb, to, tk0, ta0, tn0, tq0, tk1, ta1, tn1, tq1, rfl, -, te0, te1, te2, te3, ht0, ht1⟩ := hts.twoK
        rw [show ((Ty.mk 4 [f0, f1]).kind == 4 && (Ty.mk 4 [t0, t1]).kind == 4 && (c0.leads ((Ty.mk 4 [t0, t1]).kid 0) ((Ty.mk 4 [f0, f1]).kid 0) && c1.leads ((Ty.mk 4 [f0, f1]).kid 1) ((Ty.mk 4 [t0, t1]).kid 1))) = (c0.leads t0 f0 && c1.leads f1 t1) from by simp [Ty.kind, Ty.kid, Ty.kids]]
        exact implLd2k g l k0 g0 l0 k1 g1 l1 fk0 fk1 tk0 tk1 b off fb fo tb to q fq tq a0 a1 fa0 fa1 ta0 ta1 n0 q0 n1 q1 fn0 fq0 fn1 fq1 tn0 tq0 tn1 tq1 _ _ w (by simpa using h2) h3 (by simpa [Ty.kids] using hf2) hf3 (by simpa [Ty.kids] using ht2) ht3 e0 e1 e2 e3 d0 d1 d2 d3 fe0 fe1 fe2 fe3 te0 te1 te2 te3
          (Lib.hid fun W h => IH c0 (by simp) (d - 1) (Co.shapes_mem s2 (by simp)) F H G t0 f0 (Ty.shape_mono _ _ _ st0 (by omega)) (Ty.shape_mono _ _ _ sf0 (by omega)) _ _ _ W (hc0.below h) (ht0.below h) (hf0.below h))
          (Lib.hid fun W h => IH c1 (by simp) (d - 1) (Co.shapes_mem s2 (by simp)) F G H f1 t1 (Ty.shape_mono _ _ _ sf1 (by omega)) (Ty.shape_mono _ _ _ st1 (by omega)) _ _ _ W (hc1.below h) (hf1.below h) (ht1.below h))
      · exact implLd2j g l _ _ fa ta _ fq _ tq a _ q _ w (by simp [hfk]) (by simp [htk])
    · exact implLd2i g l _ _ fa ta _ fq _ tq a _ q _ w (by simp [hfk])
  · obtain ⟨c0, c1, rfl⟩ : ∃ c0 c1, ts = [c0, c1] := len_two (by simp [coOps] at s1; omega)
    rw [show (Co.mk 3 g l [c0, c1]).leads f u = (f.kind == 5 && u.kind == 5 && (c0.leads (f.kid 0) (u.kid 0) && c1.leads (f.kid 1) (u.kid 1))) from by simp [Co.leads, Co.leads1, Co.leads2]]
    by_cases hfk : f.kind = 5
    · by_cases htk : u.kind = 5
      · cases f with | mk fk fts => cases u with | mk tk tts =>
        simp only [Ty.kind] at hfk htk
        subst hfk htk
        obtain ⟨f0, f1, rfl, sf0, sf1⟩ := Ty.two_of hf (by simp)
        obtain ⟨t0, t1, rfl, st0, st1⟩ := Ty.two_of hu (by simp)
        obtain ⟨b, off, k0, g0, l0, a0, n0, q0, k1, g1, l1, a1, n1, q1, rfl, -, e0, e1, e2, e3, d0, d1, d2, d3, hc0, hc1⟩ := hks.two
        obtain ⟨fb, fo, fk0, fa0, fn0, fq0, fk1, fa1, fn1, fq1, rfl, -, fe0, fe1, fe2, fe3, hf0, hf1⟩ := hfs.twoK
        obtain ⟨tb, to, tk0, ta0, tn0, tq0, tk1, ta1, tn1, tq1, rfl, -, te0, te1, te2, te3, ht0, ht1⟩ := hts.twoK
        rw [show ((Ty.mk 5 [f0, f1]).kind == 5 && (Ty.mk 5 [t0, t1]).kind == 5 && (c0.leads ((Ty.mk 5 [f0, f1]).kid 0) ((Ty.mk 5 [t0, t1]).kid 0) && c1.leads ((Ty.mk 5 [f0, f1]).kid 1) ((Ty.mk 5 [t0, t1]).kid 1))) = (c0.leads f0 t0 && c1.leads f1 t1) from by simp [Ty.kind, Ty.kid, Ty.kids]]
        exact implLd3k g l k0 g0 l0 k1 g1 l1 fk0 fk1 tk0 tk1 b off fb fo tb to q fq tq a0 a1 fa0 fa1 ta0 ta1 n0 q0 n1 q1 fn0 fq0 fn1 fq1 tn0 tq0 tn1 tq1 _ _ w (by simpa using h2) h3 (by simpa [Ty.kids] using hf2) hf3 (by simpa [Ty.kids] using ht2) ht3 e0 e1 e2 e3 d0 d1 d2 d3 fe0 fe1 fe2 fe3 te0 te1 te2 te3
          (Lib.hid fun W h => IH c0 (by simp) (d - 1) (Co.shapes_mem s2 (by simp)) F G H f0 t0 (Ty.shape_mono _ _ _ sf0 (by omega)) (Ty.shape_mono _ _ _ st0 (by omega)) _ _ _ W (hc0.below h) (hf0.below h) (ht0.below h))
          (Lib.hid fun W h => IH c1 (by simp) (d - 1) (Co.shapes_mem s2 (by simp)) F G H f1 t1 (Ty.shape_mono _ _ _ sf1 (by omega)) (Ty.shape_mono _ _ _ st1 (by omega)) _ _ _ W (hc1.below h) (hf1.below h) (ht1.below h))
      · exact implLd3j g l _ _ fa ta _ fq _ tq a _ q _ w (by simp [hfk]) (by simp [htk])
    · exact implLd3i g l _ _ fa ta _ fq _ tq a _ q _ w (by simp [hfk])
  · obtain ⟨c0, rfl⟩ : ∃ c0, ts = [c0] := List.length_eq_one_iff.1 (by simp [coOps] at s1; omega)
    obtain ⟨b, off, k0, g0, l0, a0, n0, q0, rfl, lb, e0, e1, e2, e3, h0⟩ := hks.at (Below.refl _ _) (i := 0) (by simp)
    simp only [Nat.zero_mul, Nat.add_zero, List.getElem_cons_zero] at e0 e1 e2 e3 h0
    rw [show (Co.mk 4 g l [c0]).leads f u = (u.kind == 1 && f.kind == (Co.mk 4 g l [c0]).tagV && c0.leads f (ground f.kind)) from by simp [Co.leads, Co.leads1, Co.tagV]]
    exact implLd4 g l _ _ fa ta _ fq _ tq _ k0 g0 l0 b off _ q a0 n0 q0 _ w (by simp) h2 h3 e0 e1 e2 e3 (Lib.hid htag) (Lib.hid fun W h G' y' hy' => IH c0 (by simp) (d - 1) (Co.shapes_mem s2 (by simp)) F G G' f (ground f.kind) hf (ground_ok (Ty.kind_bd hf)) _ _ _ W (h0.below h) (hy.below h) hy')
  · obtain ⟨c0, rfl⟩ : ∃ c0, ts = [c0] := List.length_eq_one_iff.1 (by simp [coOps] at s1; omega)
    obtain ⟨b, off, k0, g0, l0, a0, n0, q0, rfl, lb, e0, e1, e2, e3, h0⟩ := hks.at (Below.refl _ _) (i := 0) (by simp)
    simp only [Nat.zero_mul, Nat.add_zero, List.getElem_cons_zero] at e0 e1 e2 e3 h0
    have htg : 1 ≤ c0.tagV ∧ c0.tagV ≤ 5 := by simpa [Co.tagVs] using hpos (.inr rfl)
    rw [show (Co.mk 5 g l [c0]).leads f u = (f.kind == 1 && c0.leads (ground c0.tagV) u) from by simp [Co.leads, Co.leads1, Co.tagVs]]
    have ht0 := fun W (h : Below w.heap.size w W) => implTag F c0 (d - 1) (Co.shapes_mem s2 (by simp)) _ W (h0.below h)
    exact implLd5 g l _ _ fa ta _ fq _ tq _ k0 g0 l0 b off _ q a0 n0 q0 _ w (by simp) h2 h3 e0 e1 e2 e3 (Lib.hid ht0) (Lib.hid fun W h G' y' hy' => IH c0 (by simp) (d - 1) (Co.shapes_mem s2 (by simp)) F G' H (ground c0.tagV) u (ground_ok htg) hu _ _ _ W (h0.below h) hy' (hz.below h))
  · rw [show (Co.mk 6 g l ts).leads f u = (f.kind == g) from by simp [Co.leads]]
    exact implLd6 g l _ _ fa ta _ fq _ tq a _ q w
termination_by SizeOf.sizeOf t
decreasing_by exact Co.kid_lt ht
theorem leaf_tmainimpl_0 (v1 v2 v3 r : Bool) (h0 : (v1) = true) (h1 : (v2) = true) (h2 : (v3) = true) : (r : Bool) = (v1 && v2 && v3 && r) := by
  simp_all

theorem leaf_tmainimpl_1 (v1 v2 v3 r : Bool) (h0 : (v1) = true) (h1 : (v2) = true) (h2 : (v3) = false) : (false : Bool) = (v1 && v2 && v3 && r) := by
  simp_all

theorem leaf_tmainimpl_2 (v1 v2 v3 r : Bool) (h0 : (v1) = true) (h1 : (v2) = false) : (false : Bool) = (v1 && v2 && v3 && r) := by
  simp_all

theorem leaf_tmainimpl_3 (v1 v2 v3 r : Bool) (h0 : (v1) = false) : (false : Bool) = (v1 && v2 && v3 && r) := by
  simp_all

set_option maxHeartbeats 2000000 in
theorem implCoercionTyped (F G H : Nat → Prop) (t : Co) (f u : Ty) (x y z : Value) (w : World) (hx : CoRep F w t x) (hy : TyRep G w f y) (hz : TyRep H w u z) :
    Calls Try.prog 18 #[x, y, z] w fun e w' => e = .returned (.bool (t.typedB f u)) ∧ Below w.heap.size w w' := by
  have h1 := fun W (h : Below w.heap.size w W) => implCoercionValid F t x W (hx.below h)
  have h2 := fun W (h : Below w.heap.size w W) => implTypeValid G f y W (hy.below h)
  have h3 := fun W (h : Below w.heap.size w W) => implTypeValid H u z W (hz.below h)
  have h4 := fun (a : t.valid = true) (b : f.valid = true) (c : u.valid = true) W (h : Below w.heap.size w W) => implLeads t 9 a F G H f u b c x y z W (hx.below h) (hy.below h) (hz.below h)
  obtain ⟨k, g, l, a, n, q, rfl⟩ := hx.shape
  obtain ⟨fk, fa, fn, fq, rfl⟩ := hy.shape
  obtain ⟨tk, ta, tn, tq, rfl⟩ := hz.shape
  unfold Co.typedB
  generalize t.leads f u = r at *
  generalize t.valid = v1 at *
  generalize f.valid = v2 at *
  generalize u.valid = v3 at *
  have H1 := Lib.hid h1
  have H2 := Lib.hid h2
  have H3 := Lib.hid h3
  have H4 := Lib.hid h4
  clear h1 h2 h3 h4 hx hy hz
  obtain ⟨rr, hrr⟩ : ∃ rr0 : Bool, (v1 && v2 && v3 && r) = rr0 := ⟨_, rfl⟩
  rw [hrr]
  have HT := Lib.hid hrr
  clear hrr
  go_enter Try.func18, Try.ntmps18
  rcases Bool.eq_false_or_eq_true (v1) with q1 | q1
  · have Hq1 := Lib.hid q1
    clear q1
    rcases Bool.eq_false_or_eq_true (v2) with q2 | q2
    · have Hq2 := Lib.hid q2
      clear q2
      rcases Bool.eq_false_or_eq_true (v3) with q3 | q3
      · have Hq3 := Lib.hid q3
        clear q3
        go_wp2_with fail
        refine (H1.out _ bal3).mono ?_
        rintro e w1 ⟨rfl, hb1⟩
        rw [Hq1.out]
        have hB := (bstep bal3 hb1)
        have zw1 := hB.size
        have c1_0 : w1.cell? ⟨w.heap.size + 1, 0, none⟩ = some (.int .i64 fk) := bcell hb1 (bcell bal1 (cell_new (by simp) 0))
        have c1_1 : w1.cell? ⟨w.heap.size + 1, 1, none⟩ = some (.slice fa fn fq) := bcell hb1 (bcell bal1 (cell_new (by simp) 1))
        have c2_0 : w1.cell? ⟨w.heap.size + 1 + 1, 0, none⟩ = some (.int .i64 tk) := bcell hb1 (cell_new (by simp) 0)
        have c2_1 : w1.cell? ⟨w.heap.size + 1 + 1, 1, none⟩ = some (.slice ta tn tq) := bcell hb1 (cell_new (by simp) 1)
        have c0_0 : w1.cell? ⟨w.heap.size, 0, none⟩ = some (.int .i64 k) := bcell hb1 (bcell bal1 (bcell bal1 (cell_new (by simp) 0)))
        have c0_1 : w1.cell? ⟨w.heap.size, 1, none⟩ = some (.int .i64 g) := bcell hb1 (bcell bal1 (bcell bal1 (cell_new (by simp) 1)))
        have c0_2 : w1.cell? ⟨w.heap.size, 2, none⟩ = some (.int .i64 l) := bcell hb1 (bcell bal1 (bcell bal1 (cell_new (by simp) 2)))
        have c0_3 : w1.cell? ⟨w.heap.size, 3, none⟩ = some (.slice a n q) := bcell hb1 (bcell bal1 (bcell bal1 (cell_new (by simp) 3)))
        have d1_w1 := World.block_lt_of_cell? _ _ c1_0
        have d2_w1 := World.block_lt_of_cell? _ _ c2_0
        have d0_w1 := World.block_lt_of_cell? _ _ c0_0
        go_wp2_with fail
        refine (H2.out _ hB).mono ?_
        rintro e w2 ⟨rfl, hb2⟩
        rw [Hq2.out]
        replace hB := (bstep hB hb2)
        have zw2 := hB.size
        replace c2_0 : w2.cell? ⟨w.heap.size + 1 + 1, 0, none⟩ = some (.int .i64 tk) := bcell hb2 (c2_0)
        replace c2_1 : w2.cell? ⟨w.heap.size + 1 + 1, 1, none⟩ = some (.slice ta tn tq) := bcell hb2 (c2_1)
        replace c0_0 : w2.cell? ⟨w.heap.size, 0, none⟩ = some (.int .i64 k) := bcell hb2 (c0_0)
        replace c0_1 : w2.cell? ⟨w.heap.size, 1, none⟩ = some (.int .i64 g) := bcell hb2 (c0_1)
        replace c0_2 : w2.cell? ⟨w.heap.size, 2, none⟩ = some (.int .i64 l) := bcell hb2 (c0_2)
        replace c0_3 : w2.cell? ⟨w.heap.size, 3, none⟩ = some (.slice a n q) := bcell hb2 (c0_3)
        replace c1_0 : w2.cell? ⟨w.heap.size + 1, 0, none⟩ = some (.int .i64 fk) := bcell hb2 (c1_0)
        replace c1_1 : w2.cell? ⟨w.heap.size + 1, 1, none⟩ = some (.slice fa fn fq) := bcell hb2 (c1_1)
        have d2_w2 := World.block_lt_of_cell? _ _ c2_0
        have d0_w2 := World.block_lt_of_cell? _ _ c0_0
        have d1_w2 := World.block_lt_of_cell? _ _ c1_0
        go_wp2_with fail
        refine (H3.out _ hB).mono ?_
        rintro e w3 ⟨rfl, hb3⟩
        rw [Hq3.out]
        replace hB := (bstep hB hb3)
        have zw3 := hB.size
        replace c0_0 : w3.cell? ⟨w.heap.size, 0, none⟩ = some (.int .i64 k) := bcell hb3 (c0_0)
        replace c0_1 : w3.cell? ⟨w.heap.size, 1, none⟩ = some (.int .i64 g) := bcell hb3 (c0_1)
        replace c0_2 : w3.cell? ⟨w.heap.size, 2, none⟩ = some (.int .i64 l) := bcell hb3 (c0_2)
        replace c0_3 : w3.cell? ⟨w.heap.size, 3, none⟩ = some (.slice a n q) := bcell hb3 (c0_3)
        replace c1_0 : w3.cell? ⟨w.heap.size + 1, 0, none⟩ = some (.int .i64 fk) := bcell hb3 (c1_0)
        replace c1_1 : w3.cell? ⟨w.heap.size + 1, 1, none⟩ = some (.slice fa fn fq) := bcell hb3 (c1_1)
        replace c2_0 : w3.cell? ⟨w.heap.size + 1 + 1, 0, none⟩ = some (.int .i64 tk) := bcell hb3 (c2_0)
        replace c2_1 : w3.cell? ⟨w.heap.size + 1 + 1, 1, none⟩ = some (.slice ta tn tq) := bcell hb3 (c2_1)
        have d0_w3 := World.block_lt_of_cell? _ _ c0_0
        have d1_w3 := World.block_lt_of_cell? _ _ c1_0
        have d2_w3 := World.block_lt_of_cell? _ _ c2_0
        go_wp2_with fail
        refine (H4.out Hq1.out Hq2.out Hq3.out _ hB).mono ?_
        rintro e w4 ⟨rfl, hb4⟩
        replace hB := (bstep hB hb4)
        have zw4 := hB.size
        go_wp2_with fail
        refine bodyPost_ret (v := .bool (r)) (by simp [results, Try.results18, go_sem, bne]) rfl ?_
        exact ⟨ret_bool ((leaf_tmainimpl_0 v1 v2 v3 r Hq1.out Hq2.out Hq3.out).trans HT.out), hB⟩
      · have Hq3 := Lib.hid q3
        clear q3
        go_wp2_with fail
        refine (H1.out _ bal3).mono ?_
        rintro e w5 ⟨rfl, hb5⟩
        rw [Hq1.out]
        have hB := (bstep bal3 hb5)
        have zw5 := hB.size
        have c1_0 : w5.cell? ⟨w.heap.size + 1, 0, none⟩ = some (.int .i64 fk) := bcell hb5 (bcell bal1 (cell_new (by simp) 0))
        have c1_1 : w5.cell? ⟨w.heap.size + 1, 1, none⟩ = some (.slice fa fn fq) := bcell hb5 (bcell bal1 (cell_new (by simp) 1))
        have c2_0 : w5.cell? ⟨w.heap.size + 1 + 1, 0, none⟩ = some (.int .i64 tk) := bcell hb5 (cell_new (by simp) 0)
        have c2_1 : w5.cell? ⟨w.heap.size + 1 + 1, 1, none⟩ = some (.slice ta tn tq) := bcell hb5 (cell_new (by simp) 1)
        have d1_w5 := World.block_lt_of_cell? _ _ c1_0
        have d2_w5 := World.block_lt_of_cell? _ _ c2_0
        go_wp2_with fail
        refine (H2.out _ hB).mono ?_
        rintro e w6 ⟨rfl, hb6⟩
        rw [Hq2.out]
        replace hB := (bstep hB hb6)
        have zw6 := hB.size
        replace c2_0 : w6.cell? ⟨w.heap.size + 1 + 1, 0, none⟩ = some (.int .i64 tk) := bcell hb6 (c2_0)
        replace c2_1 : w6.cell? ⟨w.heap.size + 1 + 1, 1, none⟩ = some (.slice ta tn tq) := bcell hb6 (c2_1)
        have d2_w6 := World.block_lt_of_cell? _ _ c2_0
        go_wp2_with fail
        refine (H3.out _ hB).mono ?_
        rintro e w7 ⟨rfl, hb7⟩
        rw [Hq3.out]
        replace hB := (bstep hB hb7)
        have zw7 := hB.size
        go_wp2_with fail
        refine bodyPost_ret (v := .bool (false)) (by simp [results, Try.results18, go_sem, bne]) rfl ?_
        exact ⟨ret_bool ((leaf_tmainimpl_1 v1 v2 v3 r Hq1.out Hq2.out Hq3.out).trans HT.out), hB⟩
    · have Hq2 := Lib.hid q2
      clear q2
      go_wp2_with fail
      refine (H1.out _ bal3).mono ?_
      rintro e w8 ⟨rfl, hb8⟩
      rw [Hq1.out]
      have hB := (bstep bal3 hb8)
      have zw8 := hB.size
      have c1_0 : w8.cell? ⟨w.heap.size + 1, 0, none⟩ = some (.int .i64 fk) := bcell hb8 (bcell bal1 (cell_new (by simp) 0))
      have c1_1 : w8.cell? ⟨w.heap.size + 1, 1, none⟩ = some (.slice fa fn fq) := bcell hb8 (bcell bal1 (cell_new (by simp) 1))
      have d1_w8 := World.block_lt_of_cell? _ _ c1_0
      go_wp2_with fail
      refine (H2.out _ hB).mono ?_
      rintro e w9 ⟨rfl, hb9⟩
      rw [Hq2.out]
      replace hB := (bstep hB hb9)
      have zw9 := hB.size
      go_wp2_with fail
      refine bodyPost_ret (v := .bool (false)) (by simp [results, Try.results18, go_sem, bne]) rfl ?_
      exact ⟨ret_bool ((leaf_tmainimpl_2 v1 v2 v3 r Hq1.out Hq2.out).trans HT.out), hB⟩
  · have Hq1 := Lib.hid q1
    clear q1
    go_wp2_with fail
    refine (H1.out _ bal3).mono ?_
    rintro e w10 ⟨rfl, hb10⟩
    rw [Hq1.out]
    have hB := (bstep bal3 hb10)
    have zw10 := hB.size
    go_wp2_with fail
    refine bodyPost_ret (v := .bool (false)) (by simp [results, Try.results18, go_sem, bne]) rfl ?_
    exact ⟨ret_bool ((leaf_tmainimpl_3 v1 v2 v3 r Hq1.out).trans HT.out), hB⟩
end Go.Proofs.Ythhdjacdalehoaa
