/-
  CoerceOf of both sides.
-/
import Derived.Test.YthhdjacdalehoaaB9
import Derived.Test.YthhdjacdalehoaaCoCastI1
import Derived.Test.YthhdjacdalehoaaCoCastI2
import Derived.Test.YthhdjacdalehoaaCoCastS1
import Derived.Test.YthhdjacdalehoaaCoCastS2
import Derived.Test.YthhdjacdalehoaaB12
import Derived.Test.YthhdjacdalehoaaB12
import Derived.Test.YthhdjacdalehoaaCoScan
namespace Go.Proofs.Ythhdjacdalehoaa
open Go.RowKit
set_option linter.unusedVariables false
set_option linter.unusedSimpArgs false
set_option maxRecDepth 100000

/-- The coercion of a cast between consistent types, down to a depth. -/
def coT : Nat → Ty → Ty → Int → Co
  | 0, _, _, _ => .mk 0 0 0 []
  | n + 1, f, t, l =>
    if f.kind = t.kind ∧ f.kids.length = 0 then .mk 1 f.kind 0 []
    else if t.kind = 1 then .mk 4 0 0 [coT n f (ground f.kind) l]
    else if f.kind = 1 then .mk 5 0 l [coT n (ground t.kind) t l]
    else if f.kind = 4 then .mk 2 0 0 [coT n (t.kid 0) (f.kid 0) (-l), coT n (f.kid 1) (t.kid 1) l]
    else .mk 3 0 0 [coT n (f.kid 0) (t.kid 0) l, coT n (f.kid 1) (t.kid 1) l]
theorem coT_succ (n : Nat) (f t : Ty) (l : Int) : coT (n + 1) f t l = (if f.kind = t.kind ∧ f.kids.length = 0 then .mk 1 f.kind 0 []
    else if t.kind = 1 then .mk 4 0 0 [coT n f (ground f.kind) l]
    else if f.kind = 1 then .mk 5 0 l [coT n (ground t.kind) t l]
    else if f.kind = 4 then .mk 2 0 0 [coT n (t.kid 0) (f.kid 0) (-l), coT n (f.kid 1) (t.kid 1) l]
    else .mk 3 0 0 [coT n (f.kid 0) (t.kid 0) l, coT n (f.kid 1) (t.kid 1) l]) := rfl
def castOk (f t : Ty) (l : Int) : Bool := (f.valid && t.valid && f.cons t) && labelB l
def castT (f t : Ty) (l : Int) : Co := if castOk f t l then coT 9 f t l else .mk 0 0 0 []
theorem labelB_bd {l : Int} (h : labelB l = true) : -99 ≤ l ∧ l ≤ 99 := by
  unfold labelB winB at h
  simp only [Bool.or_eq_true, Bool.and_eq_true, decide_eq_true_eq] at h
  omega
mutual
theorem Ty.cons_symm : ∀ t u : Ty, t.cons u = u.cons t
  | .mk k ts, .mk l us => by
    unfold Ty.cons
    rw [Ty.conss_symm ts us, show (k == l) = (l == k) from by rw [Bool.beq_comm]]
    cases (k == 1) <;> cases (l == 1) <;> rfl
theorem Ty.conss_symm : ∀ ts us : List Ty, Ty.conss ts us = Ty.conss us ts
  | [], [] => rfl
  | [], _ :: _ => by unfold Ty.conss; rfl
  | _ :: _, [] => by unfold Ty.conss; rfl
  | t :: ts, u :: us => by unfold Ty.conss; rw [Ty.cons_symm t u, Ty.conss_symm ts us]
end
theorem cons_symm_any (t : Ty) : (Ty.mk 1 []).cons t = true := by cases t; unfold Ty.cons; simp
theorem cons_any (t : Ty) : t.cons (Ty.mk 1 []) = true := by cases t; unfold Ty.cons; simp
theorem Ty.kind_cases {t : Ty} {d : Int} (h : t.shape d = true) : (t.kind = 1 ∨ t.kind = 2 ∨ t.kind = 3) ∧ t.kids = [] ∨ (t.kind = 4 ∨ t.kind = 5) ∧ t.kids.length = 2 := by
  cases t with | mk k ts =>
  obtain ⟨-, h2, -⟩ := Ty.shape_mk h
  simp only [Ty.kind, Ty.kids]
  unfold tkids at h2
  split at h2
  · exact .inl ⟨by assumption, List.length_eq_zero_iff.1 (by omega)⟩
  · split at h2
    · exact .inr ⟨by assumption, by omega⟩
    · omega
theorem ground_shape {t : Ty} {d : Int} (h : t.shape d = true) : (ground t.kind).shape d = true ∧ t.cons (ground t.kind) = true ∧ (ground t.kind).cons t = true := by
  cases t with | mk k ts =>
  obtain ⟨h1, h2, h3⟩ := Ty.shape_mk h
  have hc := Ty.kind_cases h
  simp only [Ty.kind, Ty.kids] at hc ⊢
  have any : ∀ e : Int, 1 ≤ e → (Ty.mk 1 []).shape e = true := fun e he => by unfold Ty.shape Ty.shapes; simp [tkids]; omega
  rcases hc with ⟨hk, rfl⟩ | ⟨hk, hl⟩
  · have hg : ground k = .mk k [] := by unfold ground; rw [if_neg (by omega)]
    rw [hg]
    refine ⟨h, ?_, ?_⟩ <;> unfold Ty.cons Ty.conss <;> simp
  · match ts, hl with
    | [a, b], _ =>
      have hg : ground k = .mk k [.mk 1 [], .mk 1 []] := by unfold ground; rw [if_pos hk]
      rw [hg]
      have ha : a.shape (d - 1) = true := Ty.shapes_mem h3 (by simp)
      have hd : 1 ≤ d - 1 := by cases a; exact (Ty.shape_mk ha).1
      refine ⟨?_, ?_, ?_⟩
      · unfold Ty.shape Ty.shapes Ty.shapes Ty.shapes
        simp [any (d - 1) hd, h1]
        exact h2
      · unfold Ty.cons Ty.conss Ty.conss Ty.conss; simp [cons_any]
      · unfold Ty.cons Ty.conss Ty.conss Ty.conss; simp [cons_symm_any]
theorem ground_valid' {t : Ty} {d : Int} (h : t.shape d = true) : Ty.mk t.kind (List.replicate t.kids.length (.mk 1 [])) = ground t.kind := by
  have hc := Ty.kind_cases h
  rcases hc with ⟨hk, hl⟩ | ⟨hk, hl⟩
  · rw [hl]; unfold ground; rw [if_neg (by omega)]; rfl
  · rw [hl]; unfold ground; rw [if_pos hk]; rfl
theorem beq_t {a b : Int} (h : a = b) : (a == b) = true := by simpa using h
theorem beq_f {a b : Int} (h : a ≠ b) : (a == b) = false := by simpa using h
def anyB (f t : Ty) : Nat := if f.kind = 1 ∨ t.kind = 1 then 1 else 0
set_option maxHeartbeats 2000000 in
theorem implCoerce : ∀ (n d : Nat) (F G : Nat → Prop) (f t : Ty) (l : Int) (y z : Value) (w : World), TyRep F w f y → TyRep G w t z → f.shape d = true → t.shape d = true → d ≤ 4 → f.cons t = true → -99 ≤ l → l ≤ 99 → 2 * d + anyB f t ≤ n →
    Calls Try.prog 32 #[y, z, .int .i64 l] w (RetCo (coT n f t l) w)
  | 0, d, F, G, f, t, l, y, z, w, hy, hz, sf, st, hd4, hc, hl1, hl2, hm => by
    have : 1 ≤ (d : Int) := by cases f; exact (Ty.shape_mk sf).1
    omega
  | n + 1, d, F, G, f, t, l, y, z, w, hy, hz, sf, st, hd4, hc, hl1, hl2, hm => by
    have IH := implCoerce n
    have hd1 : 1 ≤ (d : Int) := by cases f; exact (Ty.shape_mk sf).1
    obtain ⟨gf1, gf2, gf3⟩ := ground_shape sf
    obtain ⟨gt1, gt2, gt3⟩ := ground_shape st
    have kf := Ty.kind_cases sf
    have kt := Ty.kind_cases st
    have hcp : f.kind = 1 ∨ t.kind = 1 ∨ (f.kind = t.kind ∧ Ty.conss f.kids t.kids = true) := by
      cases f; cases t; unfold Ty.cons at hc; simp only [Bool.or_eq_true, beq_iff_eq, Bool.and_eq_true] at hc; simpa [Ty.kind, Ty.kids, or_assoc] using hc
    have vf : f.valid = true := Ty.shape_mono _ _ _ sf (by omega)
    have vt : t.valid = true := Ty.shape_mono _ _ _ st (by omega)
    have hGF := fun W (h : Below w.heap.size w W) => ground_valid' sf ▸ specL1Ground F f _ W (hy.below h) (Ty.cnt_valid vf)
    have hGT := fun W (h : Below w.heap.size w W) => ground_valid' st ▸ specL1Ground G t _ W (hz.below h) (Ty.cnt_valid vt)
    have hI := fun (hf1 : f.kind ≠ 1) (ht1 : t.kind = 1) W (h : Below w.heap.size w W) (G' : Nat → Prop) (y' : Value) (hy' : TyRep G' W (ground f.kind) y') =>
      IH d F G' f (ground f.kind) l _ _ W (hy.below h) hy' sf gf1 hd4 gf2 hl1 hl2 (by unfold anyB at hm ⊢; rw [if_neg (by rw [ground_kind]; omega)]; rw [if_pos (by omega)] at hm; omega)
    have hP := fun (hf1 : f.kind = 1) (ht1 : t.kind ≠ 1) W (h : Below w.heap.size w W) (G' : Nat → Prop) (y' : Value) (hy' : TyRep G' W (ground t.kind) y') =>
      IH d G' G (ground t.kind) t l _ _ W hy' (hz.below h) gt1 st hd4 gt3 hl1 hl2 (by unfold anyB at hm ⊢; rw [if_neg (by rw [ground_kind]; omega)]; rw [if_pos (by omega)] at hm; omega)
    obtain ⟨fa, fq, rfl, hf2, hf3, hfs⟩ := hy.open
    obtain ⟨ta, tq, rfl, ht2, ht3, hts⟩ := hz.open
    unfold maxLen at hf3 ht3
    by_cases hf1 : f.kind = 1
    · by_cases ht1 : t.kind = 1
      · have hn : f.kids.length = 0 := by rcases kf with ⟨-, h⟩ | ⟨h, -⟩; rw [h]; rfl; omega
        rw [show coT (n + 1) f t l = .mk 1 f.kind 0 [] from by rw [coT_succ, if_pos ⟨by omega, hn⟩]]
        exact implCastId f.kind t.kind l fa ta f.kids.length fq t.kids.length tq w (beq_t (hf1.trans ht1.symm)) (by rw [hn]; rfl)
      · rw [show coT (n + 1) f t l = .mk 5 0 l [coT n (ground t.kind) t l] from by rw [coT_succ, if_neg (by omega), if_neg ht1, if_pos hf1]]
        exact implCastPro f.kind t.kind l fa ta f.kids.length fq t.kids.length tq _ w (beq_f (by omega)) (beq_f ht1) (beq_t hf1) (Lib.hid (hP hf1 ht1))
    · by_cases ht1 : t.kind = 1
      · rw [show coT (n + 1) f t l = .mk 4 0 0 [coT n f (ground f.kind) l] from by rw [coT_succ, if_neg (by omega), if_pos ht1]]
        exact implCastInj f.kind t.kind l fa ta f.kids.length fq t.kids.length tq _ w (beq_f (by omega)) (beq_t ht1) (Lib.hid (hI hf1 ht1))
      · obtain ⟨hk, hcs⟩ : f.kind = t.kind ∧ Ty.conss f.kids t.kids = true := by rcases hcp with h | h | h; exact absurd h hf1; exact absurd h ht1; exact h
        rcases kf with ⟨hkf, hkn⟩ | ⟨hkf, hkl⟩
        · rw [show coT (n + 1) f t l = .mk 1 f.kind 0 [] from by rw [coT_succ, if_pos ⟨hk, by rw [hkn]; rfl⟩]]
          exact implCastId f.kind t.kind l fa ta f.kids.length fq t.kids.length tq w (beq_t hk) (by rw [hkn]; rfl)
        · cases f with | mk fk fts => cases t with | mk tk tts =>
          simp only [Ty.kind, Ty.kids] at *
          subst hk
          obtain ⟨f0, f1, rfl, sf0, sf1⟩ := Ty.two_of sf hkf
          obtain ⟨t0, t1, rfl, st0, st1⟩ := Ty.two_of st hkf
          obtain ⟨fb, fo, fk0, fa0, fn0, fq0, fk1, fa1, fn1, fq1, rfl, -, fe0, fe1, fe2, fe3, hf0, hf1'⟩ := hfs.twoK
          obtain ⟨tb, to, tk0, ta0, tn0, tq0, tk1, ta1, tn1, tq1, rfl, -, te0, te1, te2, te3, ht0, ht1'⟩ := hts.twoK
          simp only [Ty.conss, Bool.and_eq_true, Bool.and_true] at hcs
          rw [show ((d : Int) - 1) = ((d - 1 : Nat) : Int) from by omega] at sf0 sf1 st0 st1
          have hab : ∀ a b : Ty, anyB a b ≤ 1 := fun a b => by unfold anyB; split <;> omega
          have hm' : 2 * d ≤ n + 1 := by omega
          have hd1' : 1 ≤ d := by omega
          rcases hkf with rfl | rfl
          · rw [show coT (n + 1) (.mk 4 [f0, f1]) (.mk 4 [t0, t1]) l = .mk 2 0 0 [coT n t0 f0 (-l), coT n f1 t1 l] from by rw [coT_succ]; simp [Ty.kind, Ty.kids, Ty.kid]]
            exact implCastFun l fk0 fk1 tk0 tk1 fb fo tb to fq tq fa0 fa1 ta0 ta1 fn0 fq0 fn1 fq1 tn0 tq0 tn1 tq1 _ _ w hl1 hl2 (by simpa using hf2) hf3 (by simpa using ht2) ht3 fe0 fe1 fe2 fe3 te0 te1 te2 te3
              (Lib.hid fun W h => IH (d - 1) G F t0 f0 (-l) _ _ W (ht0.below h) (hf0.below h) st0 sf0 (by omega) (by rw [Ty.cons_symm]; exact hcs.1) (by omega) (by omega) (by have := hab t0 f0; omega))
              (Lib.hid fun W h => IH (d - 1) F G f1 t1 l _ _ W (hf1'.below h) (ht1'.below h) sf1 st1 (by omega) hcs.2 hl1 hl2 (by have := hab f1 t1; omega))
          · rw [show coT (n + 1) (.mk 5 [f0, f1]) (.mk 5 [t0, t1]) l = .mk 3 0 0 [coT n f0 t0 l, coT n f1 t1 l] from by rw [coT_succ]; simp [Ty.kind, Ty.kids, Ty.kid]]
            exact implCastPair l fk0 fk1 tk0 tk1 fb fo tb to fq tq fa0 fa1 ta0 ta1 fn0 fq0 fn1 fq1 tn0 tq0 tn1 tq1 _ _ w hl1 hl2 (by simpa using hf2) hf3 (by simpa using ht2) ht3 fe0 fe1 fe2 fe3 te0 te1 te2 te3
              (Lib.hid fun W h => IH (d - 1) F G f0 t0 l _ _ W (hf0.below h) (ht0.below h) sf0 st0 (by omega) hcs.1 hl1 hl2 (by have := hab f0 t0; omega))
              (Lib.hid fun W h => IH (d - 1) F G f1 t1 l _ _ W (hf1'.below h) (ht1'.below h) sf1 st1 (by omega) hcs.2 hl1 hl2 (by have := hab f1 t1; omega))
set_option maxHeartbeats 2000000 in
theorem specCast : ∀ (n d : Nat) (F G : Nat → Prop) (f t : Ty) (l : Int) (y z : Value) (w : World), TyRep F w f y → TyRep G w t z → f.shape d = true → t.shape d = true → d ≤ 4 → f.cons t = true → -99 ≤ l → l ≤ 99 → 2 * d + anyB f t ≤ n →
    Calls Try.prog 35 #[y, z, .int .i64 l] w (RetCo (coT n f t l) w)
  | 0, d, F, G, f, t, l, y, z, w, hy, hz, sf, st, hd4, hc, hl1, hl2, hm => by
    have : 1 ≤ (d : Int) := by cases f; exact (Ty.shape_mk sf).1
    omega
  | n + 1, d, F, G, f, t, l, y, z, w, hy, hz, sf, st, hd4, hc, hl1, hl2, hm => by
    have IH := specCast n
    have hd1 : 1 ≤ (d : Int) := by cases f; exact (Ty.shape_mk sf).1
    obtain ⟨gf1, gf2, gf3⟩ := ground_shape sf
    obtain ⟨gt1, gt2, gt3⟩ := ground_shape st
    have kf := Ty.kind_cases sf
    have kt := Ty.kind_cases st
    have hcp : f.kind = 1 ∨ t.kind = 1 ∨ (f.kind = t.kind ∧ Ty.conss f.kids t.kids = true) := by
      cases f; cases t; unfold Ty.cons at hc; simp only [Bool.or_eq_true, beq_iff_eq, Bool.and_eq_true] at hc; simpa [Ty.kind, Ty.kids, or_assoc] using hc
    have vf : f.valid = true := Ty.shape_mono _ _ _ sf (by omega)
    have vt : t.valid = true := Ty.shape_mono _ _ _ st (by omega)
    have hGF := fun W (h : Below w.heap.size w W) => ground_valid' sf ▸ specL1Ground F f _ W (hy.below h) (Ty.cnt_valid vf)
    have hGT := fun W (h : Below w.heap.size w W) => ground_valid' st ▸ specL1Ground G t _ W (hz.below h) (Ty.cnt_valid vt)
    have hI := fun (hf1 : f.kind ≠ 1) (ht1 : t.kind = 1) W (h : Below w.heap.size w W) (G' : Nat → Prop) (y' : Value) (hy' : TyRep G' W (ground f.kind) y') =>
      IH d F G' f (ground f.kind) l _ _ W (hy.below h) hy' sf gf1 hd4 gf2 hl1 hl2 (by unfold anyB at hm ⊢; rw [if_neg (by rw [ground_kind]; omega)]; rw [if_pos (by omega)] at hm; omega)
    have hP := fun (hf1 : f.kind = 1) (ht1 : t.kind ≠ 1) W (h : Below w.heap.size w W) (G' : Nat → Prop) (y' : Value) (hy' : TyRep G' W (ground t.kind) y') =>
      IH d G' G (ground t.kind) t l _ _ W hy' (hz.below h) gt1 st hd4 gt3 hl1 hl2 (by unfold anyB at hm ⊢; rw [if_neg (by rw [ground_kind]; omega)]; rw [if_pos (by omega)] at hm; omega)
    obtain ⟨fa, fq, rfl, hf2, hf3, hfs⟩ := hy.open
    obtain ⟨ta, tq, rfl, ht2, ht3, hts⟩ := hz.open
    unfold maxLen at hf3 ht3
    by_cases hf1 : f.kind = 1
    · by_cases ht1 : t.kind = 1
      · have hn : f.kids.length = 0 := by rcases kf with ⟨-, h⟩ | ⟨h, -⟩; rw [h]; rfl; omega
        rw [show coT (n + 1) f t l = .mk 1 f.kind 0 [] from by rw [coT_succ, if_pos ⟨by omega, hn⟩]]
        rw [show Co.mk 1 f.kind 0 [] = Co.mk 1 1 0 [] from by rw [hf1]]
        exact specCastId1 f.kind t.kind l fa ta f.kids.length fq t.kids.length tq w (beq_t hf1) (beq_t ht1)
      · rw [show coT (n + 1) f t l = .mk 5 0 l [coT n (ground t.kind) t l] from by rw [coT_succ, if_neg (by omega), if_neg ht1, if_pos hf1]]
        exact specCastPro f.kind t.kind l fa ta f.kids.length fq t.kids.length tq _ w (beq_t hf1) (beq_f ht1) (Lib.hid (hP hf1 ht1)) (Lib.hid hGT)
    · by_cases ht1 : t.kind = 1
      · rw [show coT (n + 1) f t l = .mk 4 0 0 [coT n f (ground f.kind) l] from by rw [coT_succ, if_neg (by omega), if_pos ht1]]
        exact specCastInj f.kind t.kind l fa ta f.kids.length fq t.kids.length tq _ w (beq_f hf1) (beq_t ht1) (Lib.hid (hI hf1 ht1)) (Lib.hid hGF)
      · obtain ⟨hk, hcs⟩ : f.kind = t.kind ∧ Ty.conss f.kids t.kids = true := by rcases hcp with h | h | h; exact absurd h hf1; exact absurd h ht1; exact h
        rcases kf with ⟨hkf, hkn⟩ | ⟨hkf, hkl⟩
        · rw [show coT (n + 1) f t l = .mk 1 f.kind 0 [] from by rw [coT_succ, if_pos ⟨hk, by rw [hkn]; rfl⟩]]
          exact specCastId2 f.kind t.kind l fa ta f.kids.length fq t.kids.length tq w (beq_f hf1) (beq_f ht1) (beq_f (by omega)) (beq_f (by omega))
        · cases f with | mk fk fts => cases t with | mk tk tts =>
          simp only [Ty.kind, Ty.kids] at *
          subst hk
          obtain ⟨f0, f1, rfl, sf0, sf1⟩ := Ty.two_of sf hkf
          obtain ⟨t0, t1, rfl, st0, st1⟩ := Ty.two_of st hkf
          obtain ⟨fb, fo, fk0, fa0, fn0, fq0, fk1, fa1, fn1, fq1, rfl, -, fe0, fe1, fe2, fe3, hf0, hf1'⟩ := hfs.twoK
          obtain ⟨tb, to, tk0, ta0, tn0, tq0, tk1, ta1, tn1, tq1, rfl, -, te0, te1, te2, te3, ht0, ht1'⟩ := hts.twoK
          simp only [Ty.conss, Bool.and_eq_true, Bool.and_true] at hcs
          rw [show ((d : Int) - 1) = ((d - 1 : Nat) : Int) from by omega] at sf0 sf1 st0 st1
          have hab : ∀ a b : Ty, anyB a b ≤ 1 := fun a b => by unfold anyB; split <;> omega
          have hm' : 2 * d ≤ n + 1 := by omega
          have hd1' : 1 ≤ d := by omega
          rcases hkf with rfl | rfl
          · rw [show coT (n + 1) (.mk 4 [f0, f1]) (.mk 4 [t0, t1]) l = .mk 2 0 0 [coT n t0 f0 (-l), coT n f1 t1 l] from by rw [coT_succ]; simp [Ty.kind, Ty.kids, Ty.kid]]
            exact specCastFun l fk0 fk1 tk0 tk1 fb fo tb to fq tq fa0 fa1 ta0 ta1 fn0 fq0 fn1 fq1 tn0 tq0 tn1 tq1 _ _ w hl1 hl2 (by simpa using hf2) hf3 (by simpa using ht2) ht3 fe0 fe1 fe2 fe3 te0 te1 te2 te3
              (Lib.hid fun W h => IH (d - 1) G F t0 f0 (-l) _ _ W (ht0.below h) (hf0.below h) st0 sf0 (by omega) (by rw [Ty.cons_symm]; exact hcs.1) (by omega) (by omega) (by have := hab t0 f0; omega))
              (Lib.hid fun W h => IH (d - 1) F G f1 t1 l _ _ W (hf1'.below h) (ht1'.below h) sf1 st1 (by omega) hcs.2 hl1 hl2 (by have := hab f1 t1; omega))
          · rw [show coT (n + 1) (.mk 5 [f0, f1]) (.mk 5 [t0, t1]) l = .mk 3 0 0 [coT n f0 t0 l, coT n f1 t1 l] from by rw [coT_succ]; simp [Ty.kind, Ty.kids, Ty.kid]]
            exact specCastPair l fk0 fk1 tk0 tk1 fb fo tb to fq tq fa0 fa1 ta0 ta1 fn0 fq0 fn1 fq1 tn0 tq0 tn1 tq1 _ _ w hl1 hl2 (by simpa using hf2) hf3 (by simpa using ht2) ht3 fe0 fe1 fe2 fe3 te0 te1 te2 te3
              (Lib.hid fun W h => IH (d - 1) F G f0 t0 l _ _ W (hf0.below h) (ht0.below h) sf0 st0 (by omega) hcs.1 hl1 hl2 (by have := hab f0 t0; omega))
              (Lib.hid fun W h => IH (d - 1) F G f1 t1 l _ _ W (hf1'.below h) (ht1'.below h) sf1 st1 (by omega) hcs.2 hl1 hl2 (by have := hab f1 t1; omega))
set_option maxHeartbeats 2000000 in
theorem implTopa (fk tk lb : Int) (fa ta : Option Addr) (fn fq tn tq : Nat) (c0 : Co) (w : World) (H1 : Hid (∀ W, Below w.heap.size w W → Calls Try.prog 30 #[.agg #[.int .i64 fk, .slice fa fn fq], .agg #[.int .i64 tk, .slice ta tn tq]] W fun e W' => e = .returned (.bool (false)) ∧ Below W.heap.size W W')) :
    Calls Try.prog 13 #[.agg #[.int .i64 fk, .slice fa fn fq], .agg #[.int .i64 tk, .slice ta tn tq], .int .i64 lb] w (RetCoB (.mk 0 0 0 []) false w) := by
  go_enter Try.func13, Try.ntmps13
  go_wp2_with fail
  refine (H1.out _ bal3).mono ?_
  rintro e w1 ⟨rfl, hb1⟩
  have hB := (bstep bal3 hb1)
  have zw1 := hB.size
  have f2_0 : w1.frozen? ⟨w.heap.size + 1 + 1, 0, none⟩ = false := bfroc hb1 (cell_new (by simp) 0) (fro_new (by simp) 0)
  have f2_1 : w1.frozen? ⟨w.heap.size + 1 + 1, 1, none⟩ = false := bfroc hb1 (cell_new (by simp) 1) (fro_new (by simp) 1)
  have f2_2 : w1.frozen? ⟨w.heap.size + 1 + 1, 2, none⟩ = false := bfroc hb1 (cell_new (by simp) 2) (fro_new (by simp) 2)
  have f2_3 : w1.frozen? ⟨w.heap.size + 1 + 1, 3, none⟩ = false := bfroc hb1 (cell_new (by simp) 3) (fro_new (by simp) 3)
  have c2_0 : w1.cell? ⟨w.heap.size + 1 + 1, 0, none⟩ = some (.int .i64 0) := bcell hb1 (cell_new (by simp) 0)
  have c2_1 : w1.cell? ⟨w.heap.size + 1 + 1, 1, none⟩ = some (.int .i64 0) := bcell hb1 (cell_new (by simp) 1)
  have c2_2 : w1.cell? ⟨w.heap.size + 1 + 1, 2, none⟩ = some (.int .i64 0) := bcell hb1 (cell_new (by simp) 2)
  have c2_3 : w1.cell? ⟨w.heap.size + 1 + 1, 3, none⟩ = some (.slice none 0 0) := bcell hb1 (cell_new (by simp) 3)
  have d2_w1 := World.block_lt_of_cell? _ _ c2_0
  go_wp2_with fail
  refine bodyPost_ret (v := .tuple #[.agg #[.int .i64 0, .int .i64 0, .int .i64 0, .slice none 0 0], .bool false]) (by simp [results, Try.results13, go_sem, c2_0, c2_1, c2_2, c2_3]) rfl ?_
  exact ⟨_, rfl, CoNew.mono (CoNew.zero _ _ _) (by first | exact Nat.le_refl _ | omega | (simp; done) | (simp; omega)), ((((hB.setCell (by show w.heap.size ≤ w.heap.size + 1 + 1; omega) _).setCell (by show w.heap.size ≤ w.heap.size + 1 + 1; omega) _).setCell (by show w.heap.size ≤ w.heap.size + 1 + 1; omega) _).setCell (by show w.heap.size ≤ w.heap.size + 1 + 1; omega) _)⟩
set_option maxHeartbeats 2000000 in
theorem implTopb (fk tk lb : Int) (fa ta : Option Addr) (fn fq tn tq : Nat) (c0 : Co) (w : World) (H1 : Hid (∀ W, Below w.heap.size w W → Calls Try.prog 30 #[.agg #[.int .i64 fk, .slice fa fn fq], .agg #[.int .i64 tk, .slice ta tn tq]] W fun e W' => e = .returned (.bool (true)) ∧ Below W.heap.size W W')) (H2 : Hid (∀ W, Below w.heap.size w W → Calls Try.prog 31 #[.int .i64 lb] W fun e W' => e = .returned (.bool (false)) ∧ Below W.heap.size W W')) :
    Calls Try.prog 13 #[.agg #[.int .i64 fk, .slice fa fn fq], .agg #[.int .i64 tk, .slice ta tn tq], .int .i64 lb] w (RetCoB (.mk 0 0 0 []) false w) := by
  go_enter Try.func13, Try.ntmps13
  go_wp2_with fail
  refine (H1.out _ bal3).mono ?_
  rintro e w1 ⟨rfl, hb1⟩
  have hB := (bstep bal3 hb1)
  have zw1 := hB.size
  have f2_0 : w1.frozen? ⟨w.heap.size + 1 + 1, 0, none⟩ = false := bfroc hb1 (cell_new (by simp) 0) (fro_new (by simp) 0)
  have f2_1 : w1.frozen? ⟨w.heap.size + 1 + 1, 1, none⟩ = false := bfroc hb1 (cell_new (by simp) 1) (fro_new (by simp) 1)
  have f2_2 : w1.frozen? ⟨w.heap.size + 1 + 1, 2, none⟩ = false := bfroc hb1 (cell_new (by simp) 2) (fro_new (by simp) 2)
  have f2_3 : w1.frozen? ⟨w.heap.size + 1 + 1, 3, none⟩ = false := bfroc hb1 (cell_new (by simp) 3) (fro_new (by simp) 3)
  have c2_0 : w1.cell? ⟨w.heap.size + 1 + 1, 0, none⟩ = some (.int .i64 0) := bcell hb1 (cell_new (by simp) 0)
  have c2_1 : w1.cell? ⟨w.heap.size + 1 + 1, 1, none⟩ = some (.int .i64 0) := bcell hb1 (cell_new (by simp) 1)
  have c2_2 : w1.cell? ⟨w.heap.size + 1 + 1, 2, none⟩ = some (.int .i64 0) := bcell hb1 (cell_new (by simp) 2)
  have c2_3 : w1.cell? ⟨w.heap.size + 1 + 1, 3, none⟩ = some (.slice none 0 0) := bcell hb1 (cell_new (by simp) 3)
  have d2_w1 := World.block_lt_of_cell? _ _ c2_0
  go_wp2_with fail
  refine (H2.out _ hB).mono ?_
  rintro e w2 ⟨rfl, hb2⟩
  replace hB := (bstep hB hb2)
  have zw2 := hB.size
  replace f2_0 : w2.frozen? ⟨w.heap.size + 1 + 1, 0, none⟩ = false := bfroc hb2 (c2_0) (f2_0)
  replace f2_1 : w2.frozen? ⟨w.heap.size + 1 + 1, 1, none⟩ = false := bfroc hb2 (c2_1) (f2_1)
  replace f2_2 : w2.frozen? ⟨w.heap.size + 1 + 1, 2, none⟩ = false := bfroc hb2 (c2_2) (f2_2)
  replace f2_3 : w2.frozen? ⟨w.heap.size + 1 + 1, 3, none⟩ = false := bfroc hb2 (c2_3) (f2_3)
  replace c2_0 : w2.cell? ⟨w.heap.size + 1 + 1, 0, none⟩ = some (.int .i64 0) := bcell hb2 (c2_0)
  replace c2_1 : w2.cell? ⟨w.heap.size + 1 + 1, 1, none⟩ = some (.int .i64 0) := bcell hb2 (c2_1)
  replace c2_2 : w2.cell? ⟨w.heap.size + 1 + 1, 2, none⟩ = some (.int .i64 0) := bcell hb2 (c2_2)
  replace c2_3 : w2.cell? ⟨w.heap.size + 1 + 1, 3, none⟩ = some (.slice none 0 0) := bcell hb2 (c2_3)
  have d2_w2 := World.block_lt_of_cell? _ _ c2_0
  go_wp2_with fail
  refine bodyPost_ret (v := .tuple #[.agg #[.int .i64 0, .int .i64 0, .int .i64 0, .slice none 0 0], .bool false]) (by simp [results, Try.results13, go_sem, c2_0, c2_1, c2_2, c2_3]) rfl ?_
  exact ⟨_, rfl, CoNew.mono (CoNew.zero _ _ _) (by first | exact Nat.le_refl _ | omega | (simp; done) | (simp; omega)), ((((hB.setCell (by show w.heap.size ≤ w.heap.size + 1 + 1; omega) _).setCell (by show w.heap.size ≤ w.heap.size + 1 + 1; omega) _).setCell (by show w.heap.size ≤ w.heap.size + 1 + 1; omega) _).setCell (by show w.heap.size ≤ w.heap.size + 1 + 1; omega) _)⟩
set_option maxHeartbeats 2000000 in
theorem implTopc (fk tk lb : Int) (fa ta : Option Addr) (fn fq tn tq : Nat) (c0 : Co) (w : World) (H1 : Hid (∀ W, Below w.heap.size w W → Calls Try.prog 30 #[.agg #[.int .i64 fk, .slice fa fn fq], .agg #[.int .i64 tk, .slice ta tn tq]] W fun e W' => e = .returned (.bool (true)) ∧ Below W.heap.size W W')) (H2 : Hid (∀ W, Below w.heap.size w W → Calls Try.prog 31 #[.int .i64 lb] W fun e W' => e = .returned (.bool (true)) ∧ Below W.heap.size W W')) (H3 : Hid (∀ W, Below w.heap.size w W → Calls Try.prog 32 #[.agg #[.int .i64 fk, .slice fa fn fq], .agg #[.int .i64 tk, .slice ta tn tq], .int .i64 lb] W (RetCo (c0) W))) :
    Calls Try.prog 13 #[.agg #[.int .i64 fk, .slice fa fn fq], .agg #[.int .i64 tk, .slice ta tn tq], .int .i64 lb] w (RetCoB c0 true w) := by
  go_enter Try.func13, Try.ntmps13
  go_wp2_with fail
  refine (H1.out _ bal3).mono ?_
  rintro e w1 ⟨rfl, hb1⟩
  have hB := (bstep bal3 hb1)
  have zw1 := hB.size
  have f2_0 : w1.frozen? ⟨w.heap.size + 1 + 1, 0, none⟩ = false := bfroc hb1 (cell_new (by simp) 0) (fro_new (by simp) 0)
  have f2_1 : w1.frozen? ⟨w.heap.size + 1 + 1, 1, none⟩ = false := bfroc hb1 (cell_new (by simp) 1) (fro_new (by simp) 1)
  have f2_2 : w1.frozen? ⟨w.heap.size + 1 + 1, 2, none⟩ = false := bfroc hb1 (cell_new (by simp) 2) (fro_new (by simp) 2)
  have f2_3 : w1.frozen? ⟨w.heap.size + 1 + 1, 3, none⟩ = false := bfroc hb1 (cell_new (by simp) 3) (fro_new (by simp) 3)
  have c0_0 : w1.cell? ⟨w.heap.size, 0, none⟩ = some (.int .i64 fk) := bcell hb1 (bcell bal1 (bcell bal1 (cell_new (by simp) 0)))
  have c0_1 : w1.cell? ⟨w.heap.size, 1, none⟩ = some (.slice fa fn fq) := bcell hb1 (bcell bal1 (bcell bal1 (cell_new (by simp) 1)))
  have c1_0 : w1.cell? ⟨w.heap.size + 1, 0, none⟩ = some (.int .i64 tk) := bcell hb1 (bcell bal1 (cell_new (by simp) 0))
  have c1_1 : w1.cell? ⟨w.heap.size + 1, 1, none⟩ = some (.slice ta tn tq) := bcell hb1 (bcell bal1 (cell_new (by simp) 1))
  have c2_0 : w1.cell? ⟨w.heap.size + 1 + 1, 0, none⟩ = some (.int .i64 0) := bcell hb1 (cell_new (by simp) 0)
  have c2_1 : w1.cell? ⟨w.heap.size + 1 + 1, 1, none⟩ = some (.int .i64 0) := bcell hb1 (cell_new (by simp) 1)
  have c2_2 : w1.cell? ⟨w.heap.size + 1 + 1, 2, none⟩ = some (.int .i64 0) := bcell hb1 (cell_new (by simp) 2)
  have c2_3 : w1.cell? ⟨w.heap.size + 1 + 1, 3, none⟩ = some (.slice none 0 0) := bcell hb1 (cell_new (by simp) 3)
  have d0_w1 := World.block_lt_of_cell? _ _ c0_0
  have d1_w1 := World.block_lt_of_cell? _ _ c1_0
  have d2_w1 := World.block_lt_of_cell? _ _ c2_0
  go_wp2_with fail
  refine (H2.out _ hB).mono ?_
  rintro e w2 ⟨rfl, hb2⟩
  replace hB := (bstep hB hb2)
  have zw2 := hB.size
  replace f2_0 : w2.frozen? ⟨w.heap.size + 1 + 1, 0, none⟩ = false := bfroc hb2 (c2_0) (f2_0)
  replace f2_1 : w2.frozen? ⟨w.heap.size + 1 + 1, 1, none⟩ = false := bfroc hb2 (c2_1) (f2_1)
  replace f2_2 : w2.frozen? ⟨w.heap.size + 1 + 1, 2, none⟩ = false := bfroc hb2 (c2_2) (f2_2)
  replace f2_3 : w2.frozen? ⟨w.heap.size + 1 + 1, 3, none⟩ = false := bfroc hb2 (c2_3) (f2_3)
  replace c0_0 : w2.cell? ⟨w.heap.size, 0, none⟩ = some (.int .i64 fk) := bcell hb2 (c0_0)
  replace c0_1 : w2.cell? ⟨w.heap.size, 1, none⟩ = some (.slice fa fn fq) := bcell hb2 (c0_1)
  replace c1_0 : w2.cell? ⟨w.heap.size + 1, 0, none⟩ = some (.int .i64 tk) := bcell hb2 (c1_0)
  replace c1_1 : w2.cell? ⟨w.heap.size + 1, 1, none⟩ = some (.slice ta tn tq) := bcell hb2 (c1_1)
  replace c2_0 : w2.cell? ⟨w.heap.size + 1 + 1, 0, none⟩ = some (.int .i64 0) := bcell hb2 (c2_0)
  replace c2_1 : w2.cell? ⟨w.heap.size + 1 + 1, 1, none⟩ = some (.int .i64 0) := bcell hb2 (c2_1)
  replace c2_2 : w2.cell? ⟨w.heap.size + 1 + 1, 2, none⟩ = some (.int .i64 0) := bcell hb2 (c2_2)
  replace c2_3 : w2.cell? ⟨w.heap.size + 1 + 1, 3, none⟩ = some (.slice none 0 0) := bcell hb2 (c2_3)
  have d0_w2 := World.block_lt_of_cell? _ _ c0_0
  have d1_w2 := World.block_lt_of_cell? _ _ c1_0
  have d2_w2 := World.block_lt_of_cell? _ _ c2_0
  go_wp2_with fail
  refine (H3.out _ hB).mono ?_
  rintro e w3 ⟨v3, rfl, hv3, hb3⟩
  obtain ⟨kr3, gr3, lr3, ar3, nr3, qr3, rfl⟩ := hv3.shape
  have zs3 := hb3.size
  (try simp at zs3)
  replace hB := (bstep hB hb3)
  have zw3 := hB.size
  replace f2_0 : w3.frozen? ⟨w.heap.size + 1 + 1, 0, none⟩ = false := bfroc hb3 (c2_0) (f2_0)
  replace f2_1 : w3.frozen? ⟨w.heap.size + 1 + 1, 1, none⟩ = false := bfroc hb3 (c2_1) (f2_1)
  replace f2_2 : w3.frozen? ⟨w.heap.size + 1 + 1, 2, none⟩ = false := bfroc hb3 (c2_2) (f2_2)
  replace f2_3 : w3.frozen? ⟨w.heap.size + 1 + 1, 3, none⟩ = false := bfroc hb3 (c2_3) (f2_3)
  replace c2_0 : w3.cell? ⟨w.heap.size + 1 + 1, 0, none⟩ = some (.int .i64 0) := bcell hb3 (c2_0)
  replace c2_1 : w3.cell? ⟨w.heap.size + 1 + 1, 1, none⟩ = some (.int .i64 0) := bcell hb3 (c2_1)
  replace c2_2 : w3.cell? ⟨w.heap.size + 1 + 1, 2, none⟩ = some (.int .i64 0) := bcell hb3 (c2_2)
  replace c2_3 : w3.cell? ⟨w.heap.size + 1 + 1, 3, none⟩ = some (.slice none 0 0) := bcell hb3 (c2_3)
  have d2_w3 := World.block_lt_of_cell? _ _ c2_0
  go_wp2_with fail
  refine bodyPost_ret (v := .tuple #[.agg #[.int .i64 kr3, .int .i64 gr3, .int .i64 lr3, .slice ar3 nr3 qr3], .bool true]) (by simp [results, Try.results13, go_sem, c2_0, c2_1, c2_2, c2_3]) rfl ?_
  exact ⟨_, rfl, CoNew.mono ((((hv3.setCell (by first | (show w.heap.size + 1 + 1 < _; omega) | (show w.heap.size + 1 + 1 < _; simp; omega) | simp) _).setCell (by first | (show w.heap.size + 1 + 1 < _; omega) | (show w.heap.size + 1 + 1 < _; simp; omega) | simp) _).setCell (by first | (show w.heap.size + 1 + 1 < _; omega) | (show w.heap.size + 1 + 1 < _; simp; omega) | simp) _).setCell (by first | (show w.heap.size + 1 + 1 < _; omega) | (show w.heap.size + 1 + 1 < _; simp; omega) | simp) _) (by first | exact Nat.le_refl _ | omega | (simp; done) | (simp; omega)), ((((hB.setCell (by show w.heap.size ≤ w.heap.size + 1 + 1; omega) _).setCell (by show w.heap.size ≤ w.heap.size + 1 + 1; omega) _).setCell (by show w.heap.size ≤ w.heap.size + 1 + 1; omega) _).setCell (by show w.heap.size ≤ w.heap.size + 1 + 1; omega) _)⟩
theorem implCoerceOf (F G : Nat → Prop) (f t : Ty) (l : Int) (y z : Value) (w : World) (hy : TyRep F w f y) (hz : TyRep G w t z) :
    Calls Try.prog 13 #[y, z, .int .i64 l] w (RetCoB (castT f t l) (castOk f t l) w) := by
  have h1 := fun W (h : Below w.heap.size w W) => implConsistent F G f t y z W (hy.below h) (hz.below h)
  have h2 := fun W (h : Below w.heap.size w W) => implIsLabel l W
  have h3 := fun (hv : (f.valid && t.valid && f.cons t) = true) (hl : labelB l = true) W (h : Below w.heap.size w W) => by
    simp only [Bool.and_eq_true] at hv
    exact implCoerce 9 4 F G f t l y z W (hy.below h) (hz.below h) hv.1.1 hv.1.2 (Nat.le_refl _) hv.2 (labelB_bd hl).1 (labelB_bd hl).2 (by unfold anyB; split <;> omega)
  obtain ⟨fk, fa, fn, fq, rfl⟩ := hy.shape
  obtain ⟨tk, ta, tn, tq, rfl⟩ := hz.shape
  unfold castT castOk
  cases hv : (f.valid && t.valid && f.cons t)
  · rw [hv] at h1
    exact implTopa fk tk l fa ta fn fq tn tq (.mk 0 0 0 []) w (Lib.hid h1)
  · rw [hv] at h1
    cases hl : labelB l
    · rw [hl] at h2
      exact implTopb fk tk l fa ta fn fq tn tq (.mk 0 0 0 []) w (Lib.hid h1) (Lib.hid h2)
    · rw [hl] at h2
      exact implTopc fk tk l fa ta fn fq tn tq _ w (Lib.hid h1) (Lib.hid h2) (Lib.hid (h3 hv hl))
set_option maxHeartbeats 2000000 in
theorem specTopa (fk tk lb : Int) (fa ta : Option Addr) (fn fq tn tq : Nat) (c0 : Co) (w : World) (H1 : Hid (∀ W, Below w.heap.size w W → Calls Try.prog 33 #[.agg #[.int .i64 fk, .slice fa fn fq], .agg #[.int .i64 tk, .slice ta tn tq]] W fun e W' => e = .returned (.bool (false)) ∧ Below W.heap.size W W')) :
    Calls Try.prog 14 #[.agg #[.int .i64 fk, .slice fa fn fq], .agg #[.int .i64 tk, .slice ta tn tq], .int .i64 lb] w (RetCoB (.mk 0 0 0 []) false w) := by
  go_enter Try.func14, Try.ntmps14
  go_wp2_with fail
  refine (H1.out _ bal3).mono ?_
  rintro e w1 ⟨rfl, hb1⟩
  have hB := (bstep bal3 hb1)
  have zw1 := hB.size
  have f2_0 : w1.frozen? ⟨w.heap.size + 1 + 1, 0, none⟩ = false := bfroc hb1 (cell_new (by simp) 0) (fro_new (by simp) 0)
  have f2_1 : w1.frozen? ⟨w.heap.size + 1 + 1, 1, none⟩ = false := bfroc hb1 (cell_new (by simp) 1) (fro_new (by simp) 1)
  have f2_2 : w1.frozen? ⟨w.heap.size + 1 + 1, 2, none⟩ = false := bfroc hb1 (cell_new (by simp) 2) (fro_new (by simp) 2)
  have f2_3 : w1.frozen? ⟨w.heap.size + 1 + 1, 3, none⟩ = false := bfroc hb1 (cell_new (by simp) 3) (fro_new (by simp) 3)
  have c2_0 : w1.cell? ⟨w.heap.size + 1 + 1, 0, none⟩ = some (.int .i64 0) := bcell hb1 (cell_new (by simp) 0)
  have c2_1 : w1.cell? ⟨w.heap.size + 1 + 1, 1, none⟩ = some (.int .i64 0) := bcell hb1 (cell_new (by simp) 1)
  have c2_2 : w1.cell? ⟨w.heap.size + 1 + 1, 2, none⟩ = some (.int .i64 0) := bcell hb1 (cell_new (by simp) 2)
  have c2_3 : w1.cell? ⟨w.heap.size + 1 + 1, 3, none⟩ = some (.slice none 0 0) := bcell hb1 (cell_new (by simp) 3)
  have d2_w1 := World.block_lt_of_cell? _ _ c2_0
  go_wp2_with fail
  refine bodyPost_ret (v := .tuple #[.agg #[.int .i64 0, .int .i64 0, .int .i64 0, .slice none 0 0], .bool false]) (by simp [results, Try.results14, go_sem, c2_0, c2_1, c2_2, c2_3]) rfl ?_
  exact ⟨_, rfl, CoNew.mono (CoNew.zero _ _ _) (by first | exact Nat.le_refl _ | omega | (simp; done) | (simp; omega)), ((((hB.setCell (by show w.heap.size ≤ w.heap.size + 1 + 1; omega) _).setCell (by show w.heap.size ≤ w.heap.size + 1 + 1; omega) _).setCell (by show w.heap.size ≤ w.heap.size + 1 + 1; omega) _).setCell (by show w.heap.size ≤ w.heap.size + 1 + 1; omega) _)⟩
set_option maxHeartbeats 2000000 in
theorem specTopb (fk tk lb : Int) (fa ta : Option Addr) (fn fq tn tq : Nat) (c0 : Co) (w : World) (H1 : Hid (∀ W, Below w.heap.size w W → Calls Try.prog 33 #[.agg #[.int .i64 fk, .slice fa fn fq], .agg #[.int .i64 tk, .slice ta tn tq]] W fun e W' => e = .returned (.bool (true)) ∧ Below W.heap.size W W')) (H2 : Hid (∀ W, Below w.heap.size w W → Calls Try.prog 34 #[.int .i64 lb] W fun e W' => e = .returned (.bool (false)) ∧ Below W.heap.size W W')) :
    Calls Try.prog 14 #[.agg #[.int .i64 fk, .slice fa fn fq], .agg #[.int .i64 tk, .slice ta tn tq], .int .i64 lb] w (RetCoB (.mk 0 0 0 []) false w) := by
  go_enter Try.func14, Try.ntmps14
  go_wp2_with fail
  refine (H1.out _ bal3).mono ?_
  rintro e w1 ⟨rfl, hb1⟩
  have hB := (bstep bal3 hb1)
  have zw1 := hB.size
  have f2_0 : w1.frozen? ⟨w.heap.size + 1 + 1, 0, none⟩ = false := bfroc hb1 (cell_new (by simp) 0) (fro_new (by simp) 0)
  have f2_1 : w1.frozen? ⟨w.heap.size + 1 + 1, 1, none⟩ = false := bfroc hb1 (cell_new (by simp) 1) (fro_new (by simp) 1)
  have f2_2 : w1.frozen? ⟨w.heap.size + 1 + 1, 2, none⟩ = false := bfroc hb1 (cell_new (by simp) 2) (fro_new (by simp) 2)
  have f2_3 : w1.frozen? ⟨w.heap.size + 1 + 1, 3, none⟩ = false := bfroc hb1 (cell_new (by simp) 3) (fro_new (by simp) 3)
  have c2_0 : w1.cell? ⟨w.heap.size + 1 + 1, 0, none⟩ = some (.int .i64 0) := bcell hb1 (cell_new (by simp) 0)
  have c2_1 : w1.cell? ⟨w.heap.size + 1 + 1, 1, none⟩ = some (.int .i64 0) := bcell hb1 (cell_new (by simp) 1)
  have c2_2 : w1.cell? ⟨w.heap.size + 1 + 1, 2, none⟩ = some (.int .i64 0) := bcell hb1 (cell_new (by simp) 2)
  have c2_3 : w1.cell? ⟨w.heap.size + 1 + 1, 3, none⟩ = some (.slice none 0 0) := bcell hb1 (cell_new (by simp) 3)
  have d2_w1 := World.block_lt_of_cell? _ _ c2_0
  go_wp2_with fail
  refine (H2.out _ hB).mono ?_
  rintro e w2 ⟨rfl, hb2⟩
  replace hB := (bstep hB hb2)
  have zw2 := hB.size
  replace f2_0 : w2.frozen? ⟨w.heap.size + 1 + 1, 0, none⟩ = false := bfroc hb2 (c2_0) (f2_0)
  replace f2_1 : w2.frozen? ⟨w.heap.size + 1 + 1, 1, none⟩ = false := bfroc hb2 (c2_1) (f2_1)
  replace f2_2 : w2.frozen? ⟨w.heap.size + 1 + 1, 2, none⟩ = false := bfroc hb2 (c2_2) (f2_2)
  replace f2_3 : w2.frozen? ⟨w.heap.size + 1 + 1, 3, none⟩ = false := bfroc hb2 (c2_3) (f2_3)
  replace c2_0 : w2.cell? ⟨w.heap.size + 1 + 1, 0, none⟩ = some (.int .i64 0) := bcell hb2 (c2_0)
  replace c2_1 : w2.cell? ⟨w.heap.size + 1 + 1, 1, none⟩ = some (.int .i64 0) := bcell hb2 (c2_1)
  replace c2_2 : w2.cell? ⟨w.heap.size + 1 + 1, 2, none⟩ = some (.int .i64 0) := bcell hb2 (c2_2)
  replace c2_3 : w2.cell? ⟨w.heap.size + 1 + 1, 3, none⟩ = some (.slice none 0 0) := bcell hb2 (c2_3)
  have d2_w2 := World.block_lt_of_cell? _ _ c2_0
  go_wp2_with fail
  refine bodyPost_ret (v := .tuple #[.agg #[.int .i64 0, .int .i64 0, .int .i64 0, .slice none 0 0], .bool false]) (by simp [results, Try.results14, go_sem, c2_0, c2_1, c2_2, c2_3]) rfl ?_
  exact ⟨_, rfl, CoNew.mono (CoNew.zero _ _ _) (by first | exact Nat.le_refl _ | omega | (simp; done) | (simp; omega)), ((((hB.setCell (by show w.heap.size ≤ w.heap.size + 1 + 1; omega) _).setCell (by show w.heap.size ≤ w.heap.size + 1 + 1; omega) _).setCell (by show w.heap.size ≤ w.heap.size + 1 + 1; omega) _).setCell (by show w.heap.size ≤ w.heap.size + 1 + 1; omega) _)⟩
set_option maxHeartbeats 2000000 in
theorem specTopc (fk tk lb : Int) (fa ta : Option Addr) (fn fq tn tq : Nat) (c0 : Co) (w : World) (H1 : Hid (∀ W, Below w.heap.size w W → Calls Try.prog 33 #[.agg #[.int .i64 fk, .slice fa fn fq], .agg #[.int .i64 tk, .slice ta tn tq]] W fun e W' => e = .returned (.bool (true)) ∧ Below W.heap.size W W')) (H2 : Hid (∀ W, Below w.heap.size w W → Calls Try.prog 34 #[.int .i64 lb] W fun e W' => e = .returned (.bool (true)) ∧ Below W.heap.size W W')) (H3 : Hid (∀ W, Below w.heap.size w W → Calls Try.prog 35 #[.agg #[.int .i64 fk, .slice fa fn fq], .agg #[.int .i64 tk, .slice ta tn tq], .int .i64 lb] W (RetCo (c0) W))) :
    Calls Try.prog 14 #[.agg #[.int .i64 fk, .slice fa fn fq], .agg #[.int .i64 tk, .slice ta tn tq], .int .i64 lb] w (RetCoB c0 true w) := by
  go_enter Try.func14, Try.ntmps14
  go_wp2_with fail
  refine (H1.out _ bal3).mono ?_
  rintro e w1 ⟨rfl, hb1⟩
  have hB := (bstep bal3 hb1)
  have zw1 := hB.size
  have f2_0 : w1.frozen? ⟨w.heap.size + 1 + 1, 0, none⟩ = false := bfroc hb1 (cell_new (by simp) 0) (fro_new (by simp) 0)
  have f2_1 : w1.frozen? ⟨w.heap.size + 1 + 1, 1, none⟩ = false := bfroc hb1 (cell_new (by simp) 1) (fro_new (by simp) 1)
  have f2_2 : w1.frozen? ⟨w.heap.size + 1 + 1, 2, none⟩ = false := bfroc hb1 (cell_new (by simp) 2) (fro_new (by simp) 2)
  have f2_3 : w1.frozen? ⟨w.heap.size + 1 + 1, 3, none⟩ = false := bfroc hb1 (cell_new (by simp) 3) (fro_new (by simp) 3)
  have c0_0 : w1.cell? ⟨w.heap.size, 0, none⟩ = some (.int .i64 fk) := bcell hb1 (bcell bal1 (bcell bal1 (cell_new (by simp) 0)))
  have c0_1 : w1.cell? ⟨w.heap.size, 1, none⟩ = some (.slice fa fn fq) := bcell hb1 (bcell bal1 (bcell bal1 (cell_new (by simp) 1)))
  have c1_0 : w1.cell? ⟨w.heap.size + 1, 0, none⟩ = some (.int .i64 tk) := bcell hb1 (bcell bal1 (cell_new (by simp) 0))
  have c1_1 : w1.cell? ⟨w.heap.size + 1, 1, none⟩ = some (.slice ta tn tq) := bcell hb1 (bcell bal1 (cell_new (by simp) 1))
  have c2_0 : w1.cell? ⟨w.heap.size + 1 + 1, 0, none⟩ = some (.int .i64 0) := bcell hb1 (cell_new (by simp) 0)
  have c2_1 : w1.cell? ⟨w.heap.size + 1 + 1, 1, none⟩ = some (.int .i64 0) := bcell hb1 (cell_new (by simp) 1)
  have c2_2 : w1.cell? ⟨w.heap.size + 1 + 1, 2, none⟩ = some (.int .i64 0) := bcell hb1 (cell_new (by simp) 2)
  have c2_3 : w1.cell? ⟨w.heap.size + 1 + 1, 3, none⟩ = some (.slice none 0 0) := bcell hb1 (cell_new (by simp) 3)
  have d0_w1 := World.block_lt_of_cell? _ _ c0_0
  have d1_w1 := World.block_lt_of_cell? _ _ c1_0
  have d2_w1 := World.block_lt_of_cell? _ _ c2_0
  go_wp2_with fail
  refine (H2.out _ hB).mono ?_
  rintro e w2 ⟨rfl, hb2⟩
  replace hB := (bstep hB hb2)
  have zw2 := hB.size
  replace f2_0 : w2.frozen? ⟨w.heap.size + 1 + 1, 0, none⟩ = false := bfroc hb2 (c2_0) (f2_0)
  replace f2_1 : w2.frozen? ⟨w.heap.size + 1 + 1, 1, none⟩ = false := bfroc hb2 (c2_1) (f2_1)
  replace f2_2 : w2.frozen? ⟨w.heap.size + 1 + 1, 2, none⟩ = false := bfroc hb2 (c2_2) (f2_2)
  replace f2_3 : w2.frozen? ⟨w.heap.size + 1 + 1, 3, none⟩ = false := bfroc hb2 (c2_3) (f2_3)
  replace c0_0 : w2.cell? ⟨w.heap.size, 0, none⟩ = some (.int .i64 fk) := bcell hb2 (c0_0)
  replace c0_1 : w2.cell? ⟨w.heap.size, 1, none⟩ = some (.slice fa fn fq) := bcell hb2 (c0_1)
  replace c1_0 : w2.cell? ⟨w.heap.size + 1, 0, none⟩ = some (.int .i64 tk) := bcell hb2 (c1_0)
  replace c1_1 : w2.cell? ⟨w.heap.size + 1, 1, none⟩ = some (.slice ta tn tq) := bcell hb2 (c1_1)
  replace c2_0 : w2.cell? ⟨w.heap.size + 1 + 1, 0, none⟩ = some (.int .i64 0) := bcell hb2 (c2_0)
  replace c2_1 : w2.cell? ⟨w.heap.size + 1 + 1, 1, none⟩ = some (.int .i64 0) := bcell hb2 (c2_1)
  replace c2_2 : w2.cell? ⟨w.heap.size + 1 + 1, 2, none⟩ = some (.int .i64 0) := bcell hb2 (c2_2)
  replace c2_3 : w2.cell? ⟨w.heap.size + 1 + 1, 3, none⟩ = some (.slice none 0 0) := bcell hb2 (c2_3)
  have d0_w2 := World.block_lt_of_cell? _ _ c0_0
  have d1_w2 := World.block_lt_of_cell? _ _ c1_0
  have d2_w2 := World.block_lt_of_cell? _ _ c2_0
  go_wp2_with fail
  refine (H3.out _ hB).mono ?_
  rintro e w3 ⟨v3, rfl, hv3, hb3⟩
  obtain ⟨kr3, gr3, lr3, ar3, nr3, qr3, rfl⟩ := hv3.shape
  have zs3 := hb3.size
  (try simp at zs3)
  replace hB := (bstep hB hb3)
  have zw3 := hB.size
  replace f2_0 : w3.frozen? ⟨w.heap.size + 1 + 1, 0, none⟩ = false := bfroc hb3 (c2_0) (f2_0)
  replace f2_1 : w3.frozen? ⟨w.heap.size + 1 + 1, 1, none⟩ = false := bfroc hb3 (c2_1) (f2_1)
  replace f2_2 : w3.frozen? ⟨w.heap.size + 1 + 1, 2, none⟩ = false := bfroc hb3 (c2_2) (f2_2)
  replace f2_3 : w3.frozen? ⟨w.heap.size + 1 + 1, 3, none⟩ = false := bfroc hb3 (c2_3) (f2_3)
  replace c2_0 : w3.cell? ⟨w.heap.size + 1 + 1, 0, none⟩ = some (.int .i64 0) := bcell hb3 (c2_0)
  replace c2_1 : w3.cell? ⟨w.heap.size + 1 + 1, 1, none⟩ = some (.int .i64 0) := bcell hb3 (c2_1)
  replace c2_2 : w3.cell? ⟨w.heap.size + 1 + 1, 2, none⟩ = some (.int .i64 0) := bcell hb3 (c2_2)
  replace c2_3 : w3.cell? ⟨w.heap.size + 1 + 1, 3, none⟩ = some (.slice none 0 0) := bcell hb3 (c2_3)
  have d2_w3 := World.block_lt_of_cell? _ _ c2_0
  go_wp2_with fail
  refine bodyPost_ret (v := .tuple #[.agg #[.int .i64 kr3, .int .i64 gr3, .int .i64 lr3, .slice ar3 nr3 qr3], .bool true]) (by simp [results, Try.results14, go_sem, c2_0, c2_1, c2_2, c2_3]) rfl ?_
  exact ⟨_, rfl, CoNew.mono ((((hv3.setCell (by first | (show w.heap.size + 1 + 1 < _; omega) | (show w.heap.size + 1 + 1 < _; simp; omega) | simp) _).setCell (by first | (show w.heap.size + 1 + 1 < _; omega) | (show w.heap.size + 1 + 1 < _; simp; omega) | simp) _).setCell (by first | (show w.heap.size + 1 + 1 < _; omega) | (show w.heap.size + 1 + 1 < _; simp; omega) | simp) _).setCell (by first | (show w.heap.size + 1 + 1 < _; omega) | (show w.heap.size + 1 + 1 < _; simp; omega) | simp) _) (by first | exact Nat.le_refl _ | omega | (simp; done) | (simp; omega)), ((((hB.setCell (by show w.heap.size ≤ w.heap.size + 1 + 1; omega) _).setCell (by show w.heap.size ≤ w.heap.size + 1 + 1; omega) _).setCell (by show w.heap.size ≤ w.heap.size + 1 + 1; omega) _).setCell (by show w.heap.size ≤ w.heap.size + 1 + 1; omega) _)⟩
theorem specCoerceOf (F G : Nat → Prop) (f t : Ty) (l : Int) (y z : Value) (w : World) (hy : TyRep F w f y) (hz : TyRep G w t z) :
    Calls Try.prog 14 #[y, z, .int .i64 l] w (RetCoB (castT f t l) (castOk f t l) w) := by
  have h1 := fun W (h : Below w.heap.size w W) => specConsistent F G f t y z W (hy.below h) (hz.below h)
  have h2 := fun W (h : Below w.heap.size w W) => specL6Label l W
  have h3 := fun (hv : (f.valid && t.valid && f.cons t) = true) (hl : labelB l = true) W (h : Below w.heap.size w W) => by
    simp only [Bool.and_eq_true] at hv
    exact specCast 9 4 F G f t l y z W (hy.below h) (hz.below h) hv.1.1 hv.1.2 (Nat.le_refl _) hv.2 (labelB_bd hl).1 (labelB_bd hl).2 (by unfold anyB; split <;> omega)
  obtain ⟨fk, fa, fn, fq, rfl⟩ := hy.shape
  obtain ⟨tk, ta, tn, tq, rfl⟩ := hz.shape
  unfold castT castOk
  cases hv : (f.valid && t.valid && f.cons t)
  · rw [hv] at h1
    exact specTopa fk tk l fa ta fn fq tn tq (.mk 0 0 0 []) w (Lib.hid h1)
  · rw [hv] at h1
    cases hl : labelB l
    · rw [hl] at h2
      exact specTopb fk tk l fa ta fn fq tn tq (.mk 0 0 0 []) w (Lib.hid h1) (Lib.hid h2)
    · rw [hl] at h2
      exact specTopc fk tk l fa ta fn fq tn tq _ w (Lib.hid h1) (Lib.hid h2) (Lib.hid (h3 hv hl))
end Go.Proofs.Ythhdjacdalehoaa
