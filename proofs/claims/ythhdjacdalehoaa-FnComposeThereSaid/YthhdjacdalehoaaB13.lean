/-
  Coercions opened: plain facts for the compositions.
  impl.compose: its cases joined.
-/
import Derived.Test.YthhdjacdalehoaaB8
import Derived.Test.YthhdjacdalehoaaB9
import Derived.Test.YthhdjacdalehoaaCoCmpI1
import Derived.Test.YthhdjacdalehoaaCoCmpI2
import Derived.Test.YthhdjacdalehoaaCoCmpI3
import Derived.Test.YthhdjacdalehoaaCoCmpI4
import Derived.Test.YthhdjacdalehoaaCoCmpI5
import Derived.Test.YthhdjacdalehoaaCoCmpI6
namespace Go.Proofs.Ythhdjacdalehoaa
open Go.RowKit
set_option linter.unusedVariables false
set_option linter.unusedSimpArgs false
set_option maxRecDepth 100000

theorem CoRep.flat {F : Nat → Prop} {w : World} {k g l : Int} {ts : List Co} {y : Value} (h : CoRep F w (.mk k g l ts) y) : ∃ a n q, y = .agg #[.int .i64 k, .int .i64 g, .int .i64 l, .slice a n q] := by
  obtain ⟨a, q, rfl, -⟩ := h.open
  exact ⟨a, _, q, rfl⟩
theorem CoRep.vals {F : Nat → Prop} {w : World} {t : Co} {y : Value} (h : CoRep F w t y) : ∃ a n q, y = .agg #[.int .i64 t.kind, .int .i64 t.tag, .int .i64 t.label, .slice a n q] := by
  obtain ⟨a, q, rfl, -⟩ := h.open
  exact ⟨a, _, q, rfl⟩
theorem CoRep.kid1 {F : Nat → Prop} {w : World} {k g l : Int} {x : Co} {y : Value} (h : CoRep F w (.mk k g l [x]) y) :
    ∃ b off q k0 g0 l0 a0 n0 q0, y = .agg #[.int .i64 k, .int .i64 g, .int .i64 l, .slice (some ⟨b, off, none⟩) 1 q] ∧ 1 ≤ q ∧ q ≤ 9223372036854775807 ∧ w.cell? ⟨b, off, none⟩ = some (.int .i64 k0) ∧ w.cell? ⟨b, off + 1, none⟩ = some (.int .i64 g0) ∧ w.cell? ⟨b, off + 2, none⟩ = some (.int .i64 l0) ∧ w.cell? ⟨b, off + 3, none⟩ = some (.slice a0 n0 q0) ∧ CoRep F w x (.agg #[.int .i64 k0, .int .i64 g0, .int .i64 l0, .slice a0 n0 q0]) := by
  obtain ⟨a, q, rfl, h1, h2, hs⟩ := h.open
  simp only [Co.kind, Co.tag, Co.label, Co.kids, List.length_cons, List.length_nil, Nat.zero_add] at *
  obtain ⟨b, off, k0, g0, l0, a0, n0, q0, rfl, -, e0, e1, e2, e3, hx⟩ := hs.at (Below.refl _ _) (i := 0) (by simp)
  simp only [Nat.zero_mul, Nat.add_zero] at e0 e1 e2 e3
  unfold maxLen at h2
  exact ⟨b, off, q, k0, g0, l0, a0, n0, q0, rfl, h1, h2, e0, e1, e2, e3, hx⟩
theorem CoRep.kid2 {F : Nat → Prop} {w : World} {k g l : Int} {x z : Co} {y : Value} (h : CoRep F w (.mk k g l [x, z]) y) :
    ∃ b off q k0 g0 l0 a0 n0 q0 k1 g1 l1 a1 n1 q1, y = .agg #[.int .i64 k, .int .i64 g, .int .i64 l, .slice (some ⟨b, off, none⟩) 2 q] ∧ 2 ≤ q ∧ q ≤ 9223372036854775807 ∧ w.cell? ⟨b, off, none⟩ = some (.int .i64 k0) ∧ w.cell? ⟨b, off + 1, none⟩ = some (.int .i64 g0) ∧ w.cell? ⟨b, off + 2, none⟩ = some (.int .i64 l0) ∧ w.cell? ⟨b, off + 3, none⟩ = some (.slice a0 n0 q0) ∧ w.cell? ⟨b, off + 4, none⟩ = some (.int .i64 k1) ∧ w.cell? ⟨b, off + 5, none⟩ = some (.int .i64 g1) ∧ w.cell? ⟨b, off + 6, none⟩ = some (.int .i64 l1) ∧ w.cell? ⟨b, off + 7, none⟩ = some (.slice a1 n1 q1) ∧
      CoRep F w x (.agg #[.int .i64 k0, .int .i64 g0, .int .i64 l0, .slice a0 n0 q0]) ∧ CoRep F w z (.agg #[.int .i64 k1, .int .i64 g1, .int .i64 l1, .slice a1 n1 q1]) := by
  obtain ⟨a, q, rfl, h1, h2, hs⟩ := h.open
  simp only [Co.kind, Co.tag, Co.label, Co.kids, List.length_cons, List.length_nil, Nat.zero_add] at *
  obtain ⟨b, off, k0, g0, l0, a0, n0, q0, k1, g1, l1, a1, n1, q1, rfl, -, e0, e1, e2, e3, e4, e5, e6, e7, hx, hz⟩ := hs.two
  unfold maxLen at h2
  exact ⟨b, off, q, k0, g0, l0, a0, n0, q0, k1, g1, l1, a1, n1, q1, rfl, h1, h2, e0, e1, e2, e3, e4, e5, e6, e7, hx, hz⟩
theorem isAnyV {k g l : Int} {a : Option Addr} {n q : Nat} {r : Bool} (h : (k == 1 && g == 1) = r) (w : World) : Calls Try.prog 46 #[.agg #[.int .i64 k, .int .i64 g, .int .i64 l, .slice a n q]] w fun e w' => e = .returned (.bool r) ∧ Below w.heap.size w w' := h ▸ implIsAny k g l a n q w
theorem Co.kind_lt {t : Co} {d : Nat} (h : t.shape d = true) : ((d : Int) - 1 = ((d - 1 : Nat) : Int)) ∧ 1 ≤ d := by have := Co.shape_pos h; omega
theorem Co.tag4 (g l : Int) (x : Co) : (Co.mk 4 g l [x]).tagV = x.tagV := by simp [Co.tagV, Co.tagVs]
theorem Co.tag6 (g l : Int) (ts : List Co) : (Co.mk 6 g l ts).tagV = g := by simp [Co.tagV]

end Go.Proofs.Ythhdjacdalehoaa
namespace Go.Proofs.Ythhdjacdalehoaa
open Go.RowKit
set_option linter.unusedVariables false
set_option linter.unusedSimpArgs false
set_option maxRecDepth 100000


def ImplC (n : Nat) : Prop := ∀ (B : Nat) (a b : Co) (d e : Nat), d + e ≤ n → d ≤ 9 → e ≤ 9 → a.shape d = true → b.shape e = true → ∀ (y z : Value) (w : World), B ≤ w.heap.size → CoRep (· < B) w a y → CoRep (· < B) w b z → Calls Try.prog 24 #[y, z] w (RetCoP B (a.comp b).1 (a.comp b).2 w)
theorem RetCoP.cast {B : Nat} {c c' : Co} {ok ok' : Bool} {w w' : World} {e : Ending} (h : RetCoP B c ok w e w') (ho : ok' = ok) (hc : ok' = true → c = c') : RetCoP B c' ok' w e w' := by
  subst ho
  obtain ⟨v, x, h1, h2, h3, h4⟩ := h
  exact ⟨v, x, h1, h2, fun k => (h3 k).trans (hc k), h4⟩
theorem any_plain {a : Co} (hp : a.plain = true) : (a.kind == 1 && a.tag == 1) = false := by
  have h := (Co.plain_ne hp).1
  rcases Bool.eq_false_or_eq_true (a.kind == 1 && a.tag == 1) with q | q
  · simp only [Bool.and_eq_true, beq_iff_eq] at q; exact absurd q h
  · exact q
theorem implPlain (n : Nat) (IH : ImplC n) (B : Nat) (a b : Co) (d e : Nat) (hn : d + e ≤ n + 1) (hd : d ≤ 9) (he : e ≤ 9) (sa : a.shape d = true) (sb : b.shape e = true) (hp : a.plain = true) (y z : Value) (w : World) (hB : B ≤ w.heap.size) (hy : CoRep (· < B) w a y) (hz : CoRep (· < B) w b z) : Calls Try.prog 24 #[y, z] w (RetCoP B (a.comp b).1 (a.comp b).2 w) := by
  have hd1 := Co.kind_lt sa
  have he1 := Co.kind_lt sb
  have hpn := Co.plain_ne hp
  have hap := any_plain hp
  by_cases k6 : b.kind = 6
  · rcases Co.kinds sb with ⟨g', rfl, -⟩ | ⟨b0, b1, rfl, t0, t1⟩ | ⟨b0, b1, rfl, t0, t1⟩ | ⟨b0, rfl, t0, q0⟩ | ⟨lb, b0, rfl, t0, -⟩ | ⟨g', lb, rfl, -⟩ <;> try (simp [Co.kind] at k6; done)
    rw [comp_pf hp]; dsimp only
    have HT := Lib.hid fun W (k : Below w.heap.size w W) => implTag _ a d sa y W (hy.below k)
    have HU := Lib.hid fun W (k : Below w.heap.size w W) => implTag _ _ e sb z W (hz.below k)
    rw [Co.tag6] at HU
    generalize a.tagV = ta at HT ⊢
    have HZ := Lib.hid hz
    obtain ⟨ba, bn, bq, rfl⟩ := hz.flat
    rcases Co.kinds sa with ⟨g, rfl, -⟩ | ⟨a0, a1, rfl, s0, s1⟩ | ⟨a0, a1, rfl, s0, s1⟩ | ⟨a0, rfl, s0, p0⟩ | ⟨la, a0, rfl, s0, -⟩ | ⟨g, la, rfl, -⟩
    · obtain ⟨aa, an, aq, rfl⟩ := hy.flat
      exact implCmpBF1 _ _ _ _ _ _ _ _ _ _ _ _ _ _ _ (Lib.hid fun W k => isAnyV (hap) W) (HT) (HU) (HZ)
    · obtain ⟨aa, an, aq, rfl⟩ := hy.flat
      exact implCmpBF2 _ _ _ _ _ _ _ _ _ _ _ _ _ _ _ (Lib.hid fun W k => isAnyV (hap) W) (HT) (HU) (HZ)
    · obtain ⟨aa, an, aq, rfl⟩ := hy.flat
      exact implCmpBF3 _ _ _ _ _ _ _ _ _ _ _ _ _ _ _ (Lib.hid fun W k => isAnyV (hap) W) (HT) (HU) (HZ)
    · exact absurd rfl hpn.2.2.2
    · exact absurd rfl hpn.2.1
    · exact absurd rfl hpn.2.2.1
  by_cases k4 : b.kind = 4
  · rcases Co.kinds sb with ⟨g', rfl, -⟩ | ⟨b0, b1, rfl, t0, t1⟩ | ⟨b0, b1, rfl, t0, t1⟩ | ⟨b0, rfl, t0, q0⟩ | ⟨lb, b0, rfl, t0, -⟩ | ⟨g', lb, rfl, -⟩ <;> try (simp [Co.kind] at k4; done)
    have q0n := Co.plain_ne q0
    rw [comp_pi hp, ← comp_pp hp q0n.2.2.1 q0n.2.2.2]
    rw [he1.1] at t0
    obtain ⟨bb, boff, bq, bk0, bg0, bl0, ba0, bn0, bq0, rfl, hb1, hb2, be0, be1, be2, be3, hz0⟩ := hz.kid1
    have HR := Lib.hid fun W (k : Below w.heap.size w W) => IH B a b0 d (e - 1) (by omega) hd (by omega) sa t0 y _ W (by have := k.size; omega) (hy.below k) (hz0.below k)
    generalize a.comp b0 = r at HR ⊢
    rcases Co.kinds sa with ⟨g, rfl, -⟩ | ⟨a0, a1, rfl, s0, s1⟩ | ⟨a0, a1, rfl, s0, s1⟩ | ⟨a0, rfl, s0, p0⟩ | ⟨la, a0, rfl, s0, -⟩ | ⟨g, la, rfl, -⟩
    · obtain ⟨aa, an, aq, rfl⟩ := hy.flat
      exact implCmpBI1 _ _ _ _ _ _ _ _ _ _ _ _ _ _ _ _ _ _ _ _ _ (by omega) (hb1) (hb2) (be0) (be1) (be2) (be3) (Lib.hid fun W k => isAnyV (hap) W) (HR) (hB)
    · obtain ⟨aa, an, aq, rfl⟩ := hy.flat
      exact implCmpBI2 _ _ _ _ _ _ _ _ _ _ _ _ _ _ _ _ _ _ _ _ _ (by omega) (hb1) (hb2) (be0) (be1) (be2) (be3) (Lib.hid fun W k => isAnyV (hap) W) (HR) (hB)
    · obtain ⟨aa, an, aq, rfl⟩ := hy.flat
      exact implCmpBI3 _ _ _ _ _ _ _ _ _ _ _ _ _ _ _ _ _ _ _ _ _ (by omega) (hb1) (hb2) (be0) (be1) (be2) (be3) (Lib.hid fun W k => isAnyV (hap) W) (HR) (hB)
    · exact absurd rfl hpn.2.2.2
    · exact absurd rfl hpn.2.1
    · exact absurd rfl hpn.2.2.1
  rw [comp_pp hp k6 k4]
  by_cases hk : a.kind = b.kind
  · rcases Co.kinds sa with ⟨g, rfl, -⟩ | ⟨a0, a1, rfl, s0, s1⟩ | ⟨a0, a1, rfl, s0, s1⟩ | ⟨a0, rfl, s0, p0⟩ | ⟨la, a0, rfl, s0, -⟩ | ⟨g, la, rfl, -⟩
    · rcases Co.kinds sb with ⟨g', rfl, -⟩ | ⟨b0, b1, rfl, t0, t1⟩ | ⟨b0, b1, rfl, t0, t1⟩ | ⟨b0, rfl, t0, q0⟩ | ⟨lb, b0, rfl, t0, -⟩ | ⟨g', lb, rfl, -⟩ <;> try (simp [Co.kind] at hk; done)
      rw [two_id]; dsimp only
      have HY := Lib.hid hy
      obtain ⟨aa, an, aq, rfl⟩ := hy.flat
      obtain ⟨ba, bn, bq, rfl⟩ := hz.flat
      rcases Bool.eq_false_or_eq_true (g == g') with q | q
      · rw [q]
        exact implCmpId _ _ _ _ _ _ _ _ _ _ _ _ _ (q) (Lib.hid fun W k => isAnyV (hap) W) (HY)
      · rw [q]
        exact (implCmpIdne _ _ _ _ _ _ _ _ _ _ _ _ (q) (Lib.hid fun W k => isAnyV (hap) W)).mono fun e w' h => h.cast rfl fun h => Bool.noConfusion h
    · rcases Co.kinds sb with ⟨g', rfl, -⟩ | ⟨b0, b1, rfl, t0, t1⟩ | ⟨b0, b1, rfl, t0, t1⟩ | ⟨b0, rfl, t0, q0⟩ | ⟨lb, b0, rfl, t0, -⟩ | ⟨g', lb, rfl, -⟩ <;> try (simp [Co.kind] at hk; done)
      rw [two_fun]; dsimp only
      rw [hd1.1] at s0 s1
      rw [he1.1] at t0 t1
      obtain ⟨ab, ao, aq, ak0, ag0, al0, aa0, an0, aq0, ak1, ag1, al1, aa1, an1, aq1, rfl, ha1, ha2, ae0, ae1, ae2, ae3, ae4, ae5, ae6, ae7, hx0, hx1⟩ := hy.kid2
      obtain ⟨bb, boff, bq, bk0, bg0, bl0, ba0, bn0, bq0, bk1, bg1, bl1, ba1, bn1, bq1, rfl, hb1, hb2, be0, be1, be2, be3, be4, be5, be6, be7, hz0, hz1⟩ := hz.kid2
      exact implCmpTwo2 _ _ _ _ _ _ _ _ _ _ _ _ _ _ _ _ _ _ _ _ _ _ _ _ _ _ _ _ _ _ _ _ _ _ _ _ _ _ _ _ (by omega) (ha1) (ha2) (by omega) (hb1) (hb2) (ae0) (ae1) (ae2) (ae3) (ae4) (ae5) (ae6) (ae7) (be0) (be1) (be2) (be3) (be4) (be5) (be6) (be7) (Lib.hid fun W k => isAnyV (hap) W) (Lib.hid fun W k => IH _ b0 a0 _ _ (by omega) (by omega) (by omega) t0 s0 _ _ W (by have := k.size; omega) (hz0.below k) (hx0.below k)) (Lib.hid fun W k => IH _ a1 b1 _ _ (by omega) (by omega) (by omega) s1 t1 _ _ W (by have := k.size; omega) (hx1.below k) (hz1.below k)) (hB)
    · rcases Co.kinds sb with ⟨g', rfl, -⟩ | ⟨b0, b1, rfl, t0, t1⟩ | ⟨b0, b1, rfl, t0, t1⟩ | ⟨b0, rfl, t0, q0⟩ | ⟨lb, b0, rfl, t0, -⟩ | ⟨g', lb, rfl, -⟩ <;> try (simp [Co.kind] at hk; done)
      rw [two_pair]; dsimp only
      rw [hd1.1] at s0 s1
      rw [he1.1] at t0 t1
      obtain ⟨ab, ao, aq, ak0, ag0, al0, aa0, an0, aq0, ak1, ag1, al1, aa1, an1, aq1, rfl, ha1, ha2, ae0, ae1, ae2, ae3, ae4, ae5, ae6, ae7, hx0, hx1⟩ := hy.kid2
      obtain ⟨bb, boff, bq, bk0, bg0, bl0, ba0, bn0, bq0, bk1, bg1, bl1, ba1, bn1, bq1, rfl, hb1, hb2, be0, be1, be2, be3, be4, be5, be6, be7, hz0, hz1⟩ := hz.kid2
      exact implCmpTwo3 _ _ _ _ _ _ _ _ _ _ _ _ _ _ _ _ _ _ _ _ _ _ _ _ _ _ _ _ _ _ _ _ _ _ _ _ _ _ _ _ (by omega) (ha1) (ha2) (by omega) (hb1) (hb2) (ae0) (ae1) (ae2) (ae3) (ae4) (ae5) (ae6) (ae7) (be0) (be1) (be2) (be3) (be4) (be5) (be6) (be7) (Lib.hid fun W k => isAnyV (hap) W) (Lib.hid fun W k => IH _ a0 b0 _ _ (by omega) (by omega) (by omega) s0 t0 _ _ W (by have := k.size; omega) (hx0.below k) (hz0.below k)) (Lib.hid fun W k => IH _ a1 b1 _ _ (by omega) (by omega) (by omega) s1 t1 _ _ W (by have := k.size; omega) (hx1.below k) (hz1.below k)) (hB)
    · exact absurd rfl hpn.2.2.2
    · exact absurd rfl hpn.2.1
    · exact absurd rfl hpn.2.2.1
  · rw [two_ne hk]; dsimp only
    obtain ⟨aa, an, aq, rfl⟩ := hy.vals
    obtain ⟨ba, bn, bq, rfl⟩ := hz.vals
    exact implCmpNe _ _ _ _ _ _ _ _ _ _ _ _ _ _ (by simpa using hpn.2.1) (by simpa using hpn.2.2.1) (by simpa using hpn.2.2.2) (by simpa using k6) (by simpa using k4) (by simpa using hk) (Lib.hid fun W k => isAnyV (hap) W)

theorem implCompStep (n : Nat) (IH : ImplC n) : ImplC (n + 1) := by
  intro B a b d e hn hd he sa sb y z w hB hy hz
  have hd1 := Co.kind_lt sa
  have he1 := Co.kind_lt sb
  by_cases hp : a.plain = true
  · exact implPlain n IH B a b d e hn hd he sa sb hp y z w hB hy hz
  have HY := Lib.hid hy
  have HZ := Lib.hid hz
  have HT := Lib.hid fun W (k : Below w.heap.size w W) => implTag _ a d sa y W (hy.below k)
  have HIb := fun W (k : Below w.heap.size w W) => hz.below k
  rcases Co.kinds sa with ⟨g, rfl, -⟩ | ⟨a0, a1, rfl, s0, s1⟩ | ⟨a0, a1, rfl, s0, s1⟩ | ⟨a0, rfl, s0, p0⟩ | ⟨la, a0, rfl, s0, -⟩ | ⟨g, la, rfl, -⟩
  · have hg : g = 1 := by
      unfold Co.plain plainB at hp
      simpa [Co.kind, Co.tag] using hp
    subst hg
    rw [comp_any]; dsimp only
    obtain ⟨aa, an, aq, rfl⟩ := hy.flat
    obtain ⟨ba, bn, bq, rfl⟩ := hz.vals
    exact implCmpAny (0) _ _ _ _ _ _ _ _ _ _ _ _ _ _ (Lib.hid fun W k => isAnyV (by decide) W) (Lib.hid fun W k => isAnyV (rfl) W) (HZ)
  · exact absurd rfl hp
  · exact absurd rfl hp
  · rw [hd1.1] at s0
    by_cases k5 : b.kind = 5
    · rcases Co.kinds sb with ⟨g', rfl, -⟩ | ⟨b0, b1, rfl, t0, t1⟩ | ⟨b0, b1, rfl, t0, t1⟩ | ⟨b0, rfl, t0, q0⟩ | ⟨lb, b0, rfl, t0, -⟩ | ⟨g', lb, rfl, -⟩ <;> try (simp [Co.kind] at k5; done)
      rw [comp_ip]
      rw [he1.1] at t0
      rw [Co.tag4] at HT
      obtain ⟨ab, ao, aq, ak0, ag0, al0, aa0, an0, aq0, rfl, ha1, ha2, ae0, ae1, ae2, ae3, hx0⟩ := hy.kid1
      obtain ⟨bb, boff, bq, bk0, bg0, bl0, ba0, bn0, bq0, rfl, hb1, hb2, be0, be1, be2, be3, hz0⟩ := hz.kid1
      have HTb := Lib.hid fun W (k : Below w.heap.size w W) => implTag _ b0 _ t0 _ W (hz0.below k)
      rcases Bool.eq_false_or_eq_true (a0.tagV == b0.tagV) with q | q
      · rw [q, if_pos rfl]
        exact implCmpIPeq _ _ _ _ _ _ _ _ _ _ _ _ _ _ _ _ _ _ _ _ _ _ _ _ _ _ _ _ _ _ (q) (Lib.hid fun W k => isAnyV (rfl) W) (HT) (HTb) (by omega) (ha1) (ha2) (by omega) (hb1) (hb2) (ae0) (ae1) (ae2) (ae3) (be0) (be1) (be2) (be3) (Lib.hid fun W k => IH _ a0 b0 _ _ (by omega) (by omega) (by omega) s0 t0 _ _ W (by have := k.size; omega) (hx0.below k) (hz0.below k)) (hB)
      · rw [q, if_neg (by simp)]; dsimp only
        exact implCmpIPne _ _ _ _ _ _ _ _ _ _ _ _ _ _ _ _ _ _ _ _ _ (q) (Lib.hid fun W k => isAnyV (rfl) W) (HT) (HTb) (by omega) (hb1) (hb2) (be0) (be1) (be2) (be3)
    · rw [comp_inj _ _ _ _ k5]; dsimp only
      obtain ⟨aa, an, aq, rfl⟩ := hy.flat
      obtain ⟨ba, bn, bq, rfl⟩ := hz.vals
      have k5' : (b.kind == 5) = false := by simpa using k5
      have hu : b.unkB = (b.kind == 1 && b.tag == 1) := by unfold Co.unkB; rw [k5']; rfl
      rw [hu]
      exact implCmpInj _ _ _ _ _ _ _ _ _ _ _ _ _ _ _ (k5') (Lib.hid fun W k => isAnyV (rfl) W) (Lib.hid fun W k => isAnyV (rfl) W) (HY)
  · rw [hd1.1] at s0
    rw [comp_proj]
    obtain ⟨ab, ao, aq, ak0, ag0, al0, aa0, an0, aq0, rfl, ha1, ha2, ae0, ae1, ae2, ae3, hx0⟩ := hy.kid1
    have HR := Lib.hid fun W (k : Below w.heap.size w W) => IH B a0 b _ _ (by omega) (by omega) he s0 sb _ _ W (by have := k.size; omega) (hx0.below k) (hz.below k)
    generalize a0.comp b = r at HR ⊢
    obtain ⟨ba, bn, bq, rfl⟩ := hz.vals
    exact implCmpPro _ _ _ _ _ _ _ _ _ _ _ _ _ _ _ _ _ _ _ _ _ _ (by omega) (ha1) (ha2) (ae0) (ae1) (ae2) (ae3) (Lib.hid fun W k => isAnyV (rfl) W) (HR) (hB)
  · rw [comp_fail]; dsimp only
    obtain ⟨aa, an, aq, rfl⟩ := hy.flat
    obtain ⟨ba, bn, bq, rfl⟩ := hz.vals
    exact implCmpFail _ _ _ _ _ _ _ _ _ _ _ _ _ _ (Lib.hid fun W k => isAnyV (rfl) W) (HY)
theorem implComp : ∀ n : Nat, ImplC n
  | 0 => fun B a b d e hn _ _ sa sb => absurd (Co.shape_pos sa) (by have := Co.shape_pos sa; omega)
  | n + 1 => implCompStep n (implComp n)
end Go.Proofs.Ythhdjacdalehoaa
