/-
  FnComposeThere returns true: the walk.
-/
import Derived.Test.YthhdjacdalehoaaCoDrawOf
import Derived.Test.YthhdjacdalehoaaCoThere
import Derived.Test.YthhdjacdalehoaaCoCompI
import Derived.Test.YthhdjacdalehoaaB6
import Derived.Test.YthhdjacdalehoaaCoTypedI
import Derived.Test.YthhdjacdalehoaaB11
import Derived.Test.YthhdjacdalehoaaB16
import Derived.Test.YthhdjacdalehoaaB16
import Derived.Test.YthhdjacdalehoaaB16
import Derived.Test.YthhdjacdalehoaaCoCast
namespace Go.Proofs.Ythhdjacdalehoaa
open Go.RowKit
set_option linter.unusedVariables false
set_option linter.unusedSimpArgs false
set_option maxRecDepth 100000

mutual
theorem Ty.same_eqT : ∀ {t u : Ty}, t.same u = true → t = u
  | .mk k ts, .mk l us, h => by
    unfold Ty.same at h
    simp at h
    rw [h.1, Ty.sames_eqT h.2]
theorem Ty.sames_eqT : ∀ {ts us : List Ty}, Ty.sames ts us = true → ts = us
  | [], [], _ => rfl
  | [], _ :: _, h => by unfold Ty.sames at h; cases h
  | _ :: _, [], h => by unfold Ty.sames at h; cases h
  | t :: ts, u :: us, h => by
    unfold Ty.sames at h
    simp at h
    rw [Ty.same_eqT h.1, Ty.sames_eqT h.2]
end
set_option maxHeartbeats 16000000 in
theorem walk_FnComposeThere (y0 : Value) (w : World) (r0 : ByRep w w.heap.size y0) : Calls Try.prog 4 #[y0] w fun e w' => e = .returned (.bool true) ∧ Below w.heap.size w w' := by
  have HD := Lib.hid (specDrawCoerceOf w.heap.size y0 w r0 (Nat.le_refl _))
  obtain ⟨a0, n0, q0, rfl⟩ := r0.shape
  clear r0
  rcases Bool.eq_false_or_eq_true (decide ((n0 : Int) > 1048576)) with hq | hq
  · go_enter Try.func4, Try.ntmps4
    go_wp2_with fail
    go_ret
    exact ⟨rfl, Below.refl _ _⟩
  go_enter Try.func4, Try.ntmps4
  go_wp2_with fail
  refine HD.out.mono ?_
  rintro e w1 ⟨t, u, v, x, l, rfl, hv, hx, hb1⟩
  obtain ⟨ka, aa, na, qa, rfl⟩ := hv.shape
  obtain ⟨kb, ab, nb, qb, rfl⟩ := hx.shape
  have HB1 := Lib.hid hb1
  have hF : (((w1.alloc (.cells #[.int .i64 ka, .slice aa na qa] 38)).alloc (.cells #[.int .i64 kb, .slice ab nb qb] 38)).alloc (.cells #[.int .i64 1, .slice none 0 0] 38)).heap[w1.heap.size]? = some (.cells #[.int .i64 ka, .slice aa na qa] 38 (0, 0)) ∧ (((w1.alloc (.cells #[.int .i64 ka, .slice aa na qa] 38)).alloc (.cells #[.int .i64 kb, .slice ab nb qb] 38)).alloc (.cells #[.int .i64 1, .slice none 0 0] 38)).heap[w1.heap.size + 1]? = some (.cells #[.int .i64 kb, .slice ab nb qb] 38 (0, 0)) ∧ (((w1.alloc (.cells #[.int .i64 ka, .slice aa na qa] 38)).alloc (.cells #[.int .i64 kb, .slice ab nb qb] 38)).alloc (.cells #[.int .i64 1, .slice none 0 0] 38)).heap[w1.heap.size + 1 + 1]? = some (.cells #[.int .i64 1, .slice none 0 0] 38 (0, 0)) ∧ TyRep (fun _ => True) (((w1.alloc (.cells #[.int .i64 ka, .slice aa na qa] 38)).alloc (.cells #[.int .i64 kb, .slice ab nb qb] 38)).alloc (.cells #[.int .i64 1, .slice none 0 0] 38)) t (.agg #[.int .i64 ka, .slice aa na qa]) ∧ TyRep (fun _ => True) (((w1.alloc (.cells #[.int .i64 ka, .slice aa na qa] 38)).alloc (.cells #[.int .i64 kb, .slice ab nb qb] 38)).alloc (.cells #[.int .i64 1, .slice none 0 0] 38)) u (.agg #[.int .i64 kb, .slice ab nb qb]) ∧ Below w1.heap.size w1 (((w1.alloc (.cells #[.int .i64 ka, .slice aa na qa] 38)).alloc (.cells #[.int .i64 kb, .slice ab nb qb] 38)).alloc (.cells #[.int .i64 1, .slice none 0 0] 38)) :=
    ⟨blk_below (blk_below (blk_new rfl) bal1) bal1, blk_below (blk_new (by simp)) bal1, blk_n2, (hv.move (.weaken fun _ _ _ => trivial)).below bal3, (hx.move (.weaken fun _ _ _ => trivial)).below bal3, bal3⟩
  clear hb1 hv hx hq HD
  have HF := Lib.hid hF
  clear hF
  go_wp2_with fail
  generalize (((w1.alloc (.cells #[.int .i64 ka, .slice aa na qa] 38)).alloc (.cells #[.int .i64 kb, .slice ab nb qb] 38)).alloc (.cells #[.int .i64 1, .slice none 0 0] 38)) = V at HF ⊢
  obtain ⟨bA, bB, bU, rv, rx, hb0⟩ := HF.out
  have h1 := fun W (k : Below V.heap.size V W) => implCoerceOf _ _ t anyTy l _ _ W (rv.below k) (TyRep.leaf (w := W) 1)
  have h2 := fun W (k : Below V.heap.size V W) => specCoerceOf _ _ t anyTy l _ _ W (rv.below k) (TyRep.leaf (w := W) 1)
  have h3 := fun W (k : Below V.heap.size V W) => implCoerceOf _ _ anyTy u l _ _ W (TyRep.leaf (w := W) 1) (rx.below k)
  have h4 := fun W (k : Below V.heap.size V W) => implCoerceOf _ _ t u l _ _ W (rv.below k) (rx.below k)
  have hts := fun W (k : Below V.heap.size V W) => implTypeSame _ _ t u _ _ W (rv.below k) (rx.below k)
  have HV0 := Lib.hid hb0
  have RV := Lib.hid rv
  have RX := Lib.hid rx
  have kk := fun (p : castOk t anyTy l = true) (q : castOk anyTy u l = true) => there_ok p q
  have ks := fun (p : castOk t anyTy l = true) (q : castOk anyTy u l = true) (r : t.same u = true) => show castOk t u l = true ∧ compT (castT t anyTy l) (castT anyTy u l) = castT t u l ∧ ((compT (castT t anyTy l) (castT anyTy u l)).valid && (compT (castT t anyTy l) (castT anyTy u l)).idB) = true from by
    have e := Ty.same_eqT r
    subst e
    obtain ⟨e1, e2, e3⟩ := there_same p q
    refine ⟨e1, e2, ?_⟩
    rw [(there_ok p q).2.1, e2, e3]
    rfl
  clear rv rx hb0 HF
  rcases Bool.eq_false_or_eq_true (castOk t anyTy l) with o1 | o1
  · rcases Bool.eq_false_or_eq_true (castOk anyTy u l) with o2 | o2
    · obtain ⟨k1, kv, kt, ku, kl⟩ := kk o1 o2
      have k2 : (compT (castT t anyTy l) (castT anyTy u l)).typedB t u = true := by
        unfold Co.typedB
        rw [kv, kt, ku, kl]
        rfl
      have ks' := ks o1 o2
      clear kv kt ku kl kk ks
      rw [o1] at h1 h2
      rw [o2] at h3
      generalize t.same u = sm at hts ks'
      have KS := Lib.hid ks'
      have H1 := Lib.hid h1
      have H2 := Lib.hid h2
      have H3 := Lib.hid h3
      have H4 := Lib.hid h4
      have HTS := Lib.hid hts
      have K1 := Lib.hid k1
      have K2 := Lib.hid k2
      clear h1 h2 h3 h4 hts ks' o1 o2 k1 k2
      refine (H1.out _ (Below.refl _ _)).mono ?_
      rintro e w2 ⟨v2, rfl, hc2, hb2⟩
      obtain ⟨kc, gc, lc, ac, nc, qc, rfl⟩ := hc2.shape
      have Rc := Lib.hid hc2.rep
      clear hc2
      have HB := Lib.hid (Below.refl V.heap.size V)
      replace bA := blk_below bA hb2
      replace bB := blk_below bB hb2
      replace bU := blk_below bU hb2
      replace RV := Lib.hid (RV.out.below hb2)
      replace RX := Lib.hid (RX.out.below hb2)
      replace HB := Lib.hid (bstep HB.out hb2)
      clear hb2
      have zbA0 : w2.cell? ⟨w1.heap.size, 0, none⟩ = some (.int .i64 ka) := blk_cell bA rfl
      have zbA1 : w2.cell? ⟨w1.heap.size, 1, none⟩ = some (.slice aa na qa) := blk_cell bA rfl
      have ybA := blk_lt bA
      have zbU0 : w2.cell? ⟨w1.heap.size + 1 + 1, 0, none⟩ = some (.int .i64 1) := blk_cell bU rfl
      have zbU1 : w2.cell? ⟨w1.heap.size + 1 + 1, 1, none⟩ = some (.slice none 0 0) := blk_cell bU rfl
      have ybU := blk_lt bU
      go_wp2_with fail
      refine (H2.out _ (bstep HB.out bal1)).mono ?_
      rintro e w3 ⟨v3, rfl, hc3, hb3⟩
      obtain ⟨kd, gd, ld, ad, nd, qd, rfl⟩ := hc3.shape
      have Rd := Lib.hid hc3.rep
      clear hc3
      clear zbA0 zbA1 ybA zbU0 zbU1 ybU
      replace bA := blk_below (blk_below bA (bal1 (o := .cells #[.int .i64 kc, .int .i64 gc, .int .i64 lc, .slice ac nc qc] 28))) hb3
      replace bB := blk_below (blk_below bB (bal1 (o := .cells #[.int .i64 kc, .int .i64 gc, .int .i64 lc, .slice ac nc qc] 28))) hb3
      replace bU := blk_below (blk_below bU (bal1 (o := .cells #[.int .i64 kc, .int .i64 gc, .int .i64 lc, .slice ac nc qc] 28))) hb3
      replace RV := Lib.hid ((RV.out.below (bal1 (o := .cells #[.int .i64 kc, .int .i64 gc, .int .i64 lc, .slice ac nc qc] 28))).below hb3)
      replace RX := Lib.hid ((RX.out.below (bal1 (o := .cells #[.int .i64 kc, .int .i64 gc, .int .i64 lc, .slice ac nc qc] 28))).below hb3)
      replace Rc := Lib.hid ((Rc.out.below (bal1 (o := .cells #[.int .i64 kc, .int .i64 gc, .int .i64 lc, .slice ac nc qc] 28))).below hb3)
      replace HB := Lib.hid (bstep (bstep HB.out (bal1 (o := .cells #[.int .i64 kc, .int .i64 gc, .int .i64 lc, .slice ac nc qc] 28))) hb3)
      have bC : w3.heap[w2.heap.size]? = some (.cells #[.int .i64 kc, .int .i64 gc, .int .i64 lc, .slice ac nc qc] 28 (0, 0)) := blk_below (blk_new rfl) hb3
      clear hb3
      have zbB0 : w3.cell? ⟨w1.heap.size + 1, 0, none⟩ = some (.int .i64 kb) := blk_cell bB rfl
      have zbB1 : w3.cell? ⟨w1.heap.size + 1, 1, none⟩ = some (.slice ab nb qb) := blk_cell bB rfl
      have ybB := blk_lt bB
      have zbU0 : w3.cell? ⟨w1.heap.size + 1 + 1, 0, none⟩ = some (.int .i64 1) := blk_cell bU rfl
      have zbU1 : w3.cell? ⟨w1.heap.size + 1 + 1, 1, none⟩ = some (.slice none 0 0) := blk_cell bU rfl
      have ybU := blk_lt bU
      go_wp2_with fail
      refine (H3.out _ (bstep HB.out bal1)).mono ?_
      rintro e w4 ⟨v4, rfl, hc4, hb4⟩
      obtain ⟨kf, gf, lf, af, nf, qf, rfl⟩ := hc4.shape
      have Rf := Lib.hid hc4.rep
      clear hc4
      clear zbB0 zbB1 ybB zbU0 zbU1 ybU
      replace bA := blk_below (blk_below bA (bal1 (o := .cells #[.int .i64 kd, .int .i64 gd, .int .i64 ld, .slice ad nd qd] 28))) hb4
      replace bB := blk_below (blk_below bB (bal1 (o := .cells #[.int .i64 kd, .int .i64 gd, .int .i64 ld, .slice ad nd qd] 28))) hb4
      replace bU := blk_below (blk_below bU (bal1 (o := .cells #[.int .i64 kd, .int .i64 gd, .int .i64 ld, .slice ad nd qd] 28))) hb4
      replace bC := blk_below (blk_below bC (bal1 (o := .cells #[.int .i64 kd, .int .i64 gd, .int .i64 ld, .slice ad nd qd] 28))) hb4
      replace RV := Lib.hid ((RV.out.below (bal1 (o := .cells #[.int .i64 kd, .int .i64 gd, .int .i64 ld, .slice ad nd qd] 28))).below hb4)
      replace RX := Lib.hid ((RX.out.below (bal1 (o := .cells #[.int .i64 kd, .int .i64 gd, .int .i64 ld, .slice ad nd qd] 28))).below hb4)
      replace Rc := Lib.hid ((Rc.out.below (bal1 (o := .cells #[.int .i64 kd, .int .i64 gd, .int .i64 ld, .slice ad nd qd] 28))).below hb4)
      replace Rd := Lib.hid ((Rd.out.below (bal1 (o := .cells #[.int .i64 kd, .int .i64 gd, .int .i64 ld, .slice ad nd qd] 28))).below hb4)
      replace HB := Lib.hid (bstep (bstep HB.out (bal1 (o := .cells #[.int .i64 kd, .int .i64 gd, .int .i64 ld, .slice ad nd qd] 28))) hb4)
      have bD : w4.heap[w3.heap.size]? = some (.cells #[.int .i64 kd, .int .i64 gd, .int .i64 ld, .slice ad nd qd] 28 (0, 0)) := blk_below (blk_new rfl) hb4
      clear hb4
      have HSM := implCoercionSame _ _ _ _ _ _ _ (Rc.out.below (bal1 (o := .cells #[.int .i64 kf, .int .i64 gf, .int .i64 lf, .slice af nf qf] 28))) (Rd.out.below (bal1 (o := .cells #[.int .i64 kf, .int .i64 gf, .int .i64 lf, .slice af nf qf] 28)))
      rw [Co.same_refl] at HSM
      replace HSM := Lib.hid HSM
      have zbC0 : w4.cell? ⟨w2.heap.size, 0, none⟩ = some (.int .i64 kc) := blk_cell bC rfl
      have zbC1 : w4.cell? ⟨w2.heap.size, 1, none⟩ = some (.int .i64 gc) := blk_cell bC rfl
      have zbC2 : w4.cell? ⟨w2.heap.size, 2, none⟩ = some (.int .i64 lc) := blk_cell bC rfl
      have zbC3 : w4.cell? ⟨w2.heap.size, 3, none⟩ = some (.slice ac nc qc) := blk_cell bC rfl
      have ybC := blk_lt bC
      have zbD0 : w4.cell? ⟨w3.heap.size, 0, none⟩ = some (.int .i64 kd) := blk_cell bD rfl
      have zbD1 : w4.cell? ⟨w3.heap.size, 1, none⟩ = some (.int .i64 gd) := blk_cell bD rfl
      have zbD2 : w4.cell? ⟨w3.heap.size, 2, none⟩ = some (.int .i64 ld) := blk_cell bD rfl
      have zbD3 : w4.cell? ⟨w3.heap.size, 3, none⟩ = some (.slice ad nd qd) := blk_cell bD rfl
      have ybD := blk_lt bD
      go_wp2_with fail
      refine (HSM.out).mono ?_
      rintro e w5 ⟨rfl, hb5⟩
      clear zbC0 zbC1 zbC2 zbC3 ybC zbD0 zbD1 zbD2 zbD3 ybD
      replace bA := blk_below (blk_below bA (bal1 (o := .cells #[.int .i64 kf, .int .i64 gf, .int .i64 lf, .slice af nf qf] 28))) hb5
      replace bB := blk_below (blk_below bB (bal1 (o := .cells #[.int .i64 kf, .int .i64 gf, .int .i64 lf, .slice af nf qf] 28))) hb5
      replace bU := blk_below (blk_below bU (bal1 (o := .cells #[.int .i64 kf, .int .i64 gf, .int .i64 lf, .slice af nf qf] 28))) hb5
      replace bC := blk_below (blk_below bC (bal1 (o := .cells #[.int .i64 kf, .int .i64 gf, .int .i64 lf, .slice af nf qf] 28))) hb5
      replace bD := blk_below (blk_below bD (bal1 (o := .cells #[.int .i64 kf, .int .i64 gf, .int .i64 lf, .slice af nf qf] 28))) hb5
      replace RV := Lib.hid ((RV.out.below (bal1 (o := .cells #[.int .i64 kf, .int .i64 gf, .int .i64 lf, .slice af nf qf] 28))).below hb5)
      replace RX := Lib.hid ((RX.out.below (bal1 (o := .cells #[.int .i64 kf, .int .i64 gf, .int .i64 lf, .slice af nf qf] 28))).below hb5)
      replace Rc := Lib.hid ((Rc.out.below (bal1 (o := .cells #[.int .i64 kf, .int .i64 gf, .int .i64 lf, .slice af nf qf] 28))).below hb5)
      replace Rd := Lib.hid ((Rd.out.below (bal1 (o := .cells #[.int .i64 kf, .int .i64 gf, .int .i64 lf, .slice af nf qf] 28))).below hb5)
      replace Rf := Lib.hid ((Rf.out.below (bal1 (o := .cells #[.int .i64 kf, .int .i64 gf, .int .i64 lf, .slice af nf qf] 28))).below hb5)
      replace HB := Lib.hid (bstep (bstep HB.out (bal1 (o := .cells #[.int .i64 kf, .int .i64 gf, .int .i64 lf, .slice af nf qf] 28))) hb5)
      have bF : w5.heap[w4.heap.size]? = some (.cells #[.int .i64 kf, .int .i64 gf, .int .i64 lf, .slice af nf qf] 28 (0, 0)) := blk_below (blk_new rfl) hb5
      clear hb5
      clear HSM
      have HCP := implComposeCoercions _ _ _ _ _ _ _ Rc.out Rf.out
      rw [K1.out] at HCP
      replace HCP := Lib.hid HCP
      have zbC0 : w5.cell? ⟨w2.heap.size, 0, none⟩ = some (.int .i64 kc) := blk_cell bC rfl
      have zbC1 : w5.cell? ⟨w2.heap.size, 1, none⟩ = some (.int .i64 gc) := blk_cell bC rfl
      have zbC2 : w5.cell? ⟨w2.heap.size, 2, none⟩ = some (.int .i64 lc) := blk_cell bC rfl
      have zbC3 : w5.cell? ⟨w2.heap.size, 3, none⟩ = some (.slice ac nc qc) := blk_cell bC rfl
      have ybC := blk_lt bC
      have zbF0 : w5.cell? ⟨w4.heap.size, 0, none⟩ = some (.int .i64 kf) := blk_cell bF rfl
      have zbF1 : w5.cell? ⟨w4.heap.size, 1, none⟩ = some (.int .i64 gf) := blk_cell bF rfl
      have zbF2 : w5.cell? ⟨w4.heap.size, 2, none⟩ = some (.int .i64 lf) := blk_cell bF rfl
      have zbF3 : w5.cell? ⟨w4.heap.size, 3, none⟩ = some (.slice af nf qf) := blk_cell bF rfl
      have ybF := blk_lt bF
      go_wp2_with fail
      refine (HCP.out).mono ?_
      rintro e w6 ⟨v6, rfl, hc6, hb6⟩
      obtain ⟨kg, gg, lg, ag, ng, qg, rfl⟩ := hc6.shape
      have Rg := Lib.hid hc6.rep
      clear hc6
      clear zbC0 zbC1 zbC2 zbC3 ybC zbF0 zbF1 zbF2 zbF3 ybF
      replace bA := blk_below bA hb6
      replace bB := blk_below bB hb6
      replace bU := blk_below bU hb6
      replace bC := blk_below bC hb6
      replace bD := blk_below bD hb6
      replace bF := blk_below bF hb6
      replace RV := Lib.hid (RV.out.below hb6)
      replace RX := Lib.hid (RX.out.below hb6)
      replace Rc := Lib.hid (Rc.out.below hb6)
      replace Rd := Lib.hid (Rd.out.below hb6)
      replace Rf := Lib.hid (Rf.out.below hb6)
      replace HB := Lib.hid (bstep HB.out hb6)
      clear hb6
      have zbA0 : w6.cell? ⟨w1.heap.size, 0, none⟩ = some (.int .i64 ka) := blk_cell bA rfl
      have zbA1 : w6.cell? ⟨w1.heap.size, 1, none⟩ = some (.slice aa na qa) := blk_cell bA rfl
      have ybA := blk_lt bA
      have zbB0 : w6.cell? ⟨w1.heap.size + 1, 0, none⟩ = some (.int .i64 kb) := blk_cell bB rfl
      have zbB1 : w6.cell? ⟨w1.heap.size + 1, 1, none⟩ = some (.slice ab nb qb) := blk_cell bB rfl
      have ybB := blk_lt bB
      go_wp2_with fail
      refine (H4.out _ (bstep HB.out bal1)).mono ?_
      rintro e w7 ⟨v7, rfl, hc7, hb7⟩
      obtain ⟨kh, gh, lh, ah, nh, qh, rfl⟩ := hc7.shape
      have Rh := Lib.hid hc7.rep
      clear hc7
      clear zbA0 zbA1 ybA zbB0 zbB1 ybB
      replace bA := blk_below (blk_below bA (bal1 (o := .cells #[.int .i64 kg, .int .i64 gg, .int .i64 lg, .slice ag ng qg] 28))) hb7
      replace bB := blk_below (blk_below bB (bal1 (o := .cells #[.int .i64 kg, .int .i64 gg, .int .i64 lg, .slice ag ng qg] 28))) hb7
      replace bU := blk_below (blk_below bU (bal1 (o := .cells #[.int .i64 kg, .int .i64 gg, .int .i64 lg, .slice ag ng qg] 28))) hb7
      replace bC := blk_below (blk_below bC (bal1 (o := .cells #[.int .i64 kg, .int .i64 gg, .int .i64 lg, .slice ag ng qg] 28))) hb7
      replace bD := blk_below (blk_below bD (bal1 (o := .cells #[.int .i64 kg, .int .i64 gg, .int .i64 lg, .slice ag ng qg] 28))) hb7
      replace bF := blk_below (blk_below bF (bal1 (o := .cells #[.int .i64 kg, .int .i64 gg, .int .i64 lg, .slice ag ng qg] 28))) hb7
      replace RV := Lib.hid ((RV.out.below (bal1 (o := .cells #[.int .i64 kg, .int .i64 gg, .int .i64 lg, .slice ag ng qg] 28))).below hb7)
      replace RX := Lib.hid ((RX.out.below (bal1 (o := .cells #[.int .i64 kg, .int .i64 gg, .int .i64 lg, .slice ag ng qg] 28))).below hb7)
      replace Rc := Lib.hid ((Rc.out.below (bal1 (o := .cells #[.int .i64 kg, .int .i64 gg, .int .i64 lg, .slice ag ng qg] 28))).below hb7)
      replace Rd := Lib.hid ((Rd.out.below (bal1 (o := .cells #[.int .i64 kg, .int .i64 gg, .int .i64 lg, .slice ag ng qg] 28))).below hb7)
      replace Rf := Lib.hid ((Rf.out.below (bal1 (o := .cells #[.int .i64 kg, .int .i64 gg, .int .i64 lg, .slice ag ng qg] 28))).below hb7)
      replace Rg := Lib.hid ((Rg.out.below (bal1 (o := .cells #[.int .i64 kg, .int .i64 gg, .int .i64 lg, .slice ag ng qg] 28))).below hb7)
      replace HB := Lib.hid (bstep (bstep HB.out (bal1 (o := .cells #[.int .i64 kg, .int .i64 gg, .int .i64 lg, .slice ag ng qg] 28))) hb7)
      have bG : w7.heap[w6.heap.size]? = some (.cells #[.int .i64 kg, .int .i64 gg, .int .i64 lg, .slice ag ng qg] 28 (0, 0)) := blk_below (blk_new rfl) hb7
      clear hb7
      have zbA0 : w7.cell? ⟨w1.heap.size, 0, none⟩ = some (.int .i64 ka) := blk_cell bA rfl
      have zbA1 : w7.cell? ⟨w1.heap.size, 1, none⟩ = some (.slice aa na qa) := blk_cell bA rfl
      have ybA := blk_lt bA
      have zbB0 : w7.cell? ⟨w1.heap.size + 1, 0, none⟩ = some (.int .i64 kb) := blk_cell bB rfl
      have zbB1 : w7.cell? ⟨w1.heap.size + 1, 1, none⟩ = some (.slice ab nb qb) := blk_cell bB rfl
      have ybB := blk_lt bB
      go_wp2_with fail
      refine (HTS.out _ (bstep HB.out bal1)).mono ?_
      rintro e w8 ⟨rfl, hb8⟩
      clear zbA0 zbA1 ybA zbB0 zbB1 ybB
      replace bA := blk_below (blk_below bA (bal1 (o := .cells #[.int .i64 kh, .int .i64 gh, .int .i64 lh, .slice ah nh qh] 28))) hb8
      replace bB := blk_below (blk_below bB (bal1 (o := .cells #[.int .i64 kh, .int .i64 gh, .int .i64 lh, .slice ah nh qh] 28))) hb8
      replace bU := blk_below (blk_below bU (bal1 (o := .cells #[.int .i64 kh, .int .i64 gh, .int .i64 lh, .slice ah nh qh] 28))) hb8
      replace bC := blk_below (blk_below bC (bal1 (o := .cells #[.int .i64 kh, .int .i64 gh, .int .i64 lh, .slice ah nh qh] 28))) hb8
      replace bD := blk_below (blk_below bD (bal1 (o := .cells #[.int .i64 kh, .int .i64 gh, .int .i64 lh, .slice ah nh qh] 28))) hb8
      replace bF := blk_below (blk_below bF (bal1 (o := .cells #[.int .i64 kh, .int .i64 gh, .int .i64 lh, .slice ah nh qh] 28))) hb8
      replace bG := blk_below (blk_below bG (bal1 (o := .cells #[.int .i64 kh, .int .i64 gh, .int .i64 lh, .slice ah nh qh] 28))) hb8
      replace RV := Lib.hid ((RV.out.below (bal1 (o := .cells #[.int .i64 kh, .int .i64 gh, .int .i64 lh, .slice ah nh qh] 28))).below hb8)
      replace RX := Lib.hid ((RX.out.below (bal1 (o := .cells #[.int .i64 kh, .int .i64 gh, .int .i64 lh, .slice ah nh qh] 28))).below hb8)
      replace Rc := Lib.hid ((Rc.out.below (bal1 (o := .cells #[.int .i64 kh, .int .i64 gh, .int .i64 lh, .slice ah nh qh] 28))).below hb8)
      replace Rd := Lib.hid ((Rd.out.below (bal1 (o := .cells #[.int .i64 kh, .int .i64 gh, .int .i64 lh, .slice ah nh qh] 28))).below hb8)
      replace Rf := Lib.hid ((Rf.out.below (bal1 (o := .cells #[.int .i64 kh, .int .i64 gh, .int .i64 lh, .slice ah nh qh] 28))).below hb8)
      replace Rg := Lib.hid ((Rg.out.below (bal1 (o := .cells #[.int .i64 kh, .int .i64 gh, .int .i64 lh, .slice ah nh qh] 28))).below hb8)
      replace Rh := Lib.hid ((Rh.out.below (bal1 (o := .cells #[.int .i64 kh, .int .i64 gh, .int .i64 lh, .slice ah nh qh] 28))).below hb8)
      replace HB := Lib.hid (bstep (bstep HB.out (bal1 (o := .cells #[.int .i64 kh, .int .i64 gh, .int .i64 lh, .slice ah nh qh] 28))) hb8)
      have bH : w8.heap[w7.heap.size]? = some (.cells #[.int .i64 kh, .int .i64 gh, .int .i64 lh, .slice ah nh qh] 28 (0, 0)) := blk_below (blk_new rfl) hb8
      clear hb8
      cases sm
      · have HTY := implCoercionTyped _ _ _ _ t u _ _ _ _ Rg.out RV.out RX.out
        rw [show Co.typedB _ t u = true from K2.out] at HTY
        replace HTY := Lib.hid HTY
        have zbA0 : w8.cell? ⟨w1.heap.size, 0, none⟩ = some (.int .i64 ka) := blk_cell bA rfl
        have zbA1 : w8.cell? ⟨w1.heap.size, 1, none⟩ = some (.slice aa na qa) := blk_cell bA rfl
        have ybA := blk_lt bA
        have zbB0 : w8.cell? ⟨w1.heap.size + 1, 0, none⟩ = some (.int .i64 kb) := blk_cell bB rfl
        have zbB1 : w8.cell? ⟨w1.heap.size + 1, 1, none⟩ = some (.slice ab nb qb) := blk_cell bB rfl
        have ybB := blk_lt bB
        have zbG0 : w8.cell? ⟨w6.heap.size, 0, none⟩ = some (.int .i64 kg) := blk_cell bG rfl
        have zbG1 : w8.cell? ⟨w6.heap.size, 1, none⟩ = some (.int .i64 gg) := blk_cell bG rfl
        have zbG2 : w8.cell? ⟨w6.heap.size, 2, none⟩ = some (.int .i64 lg) := blk_cell bG rfl
        have zbG3 : w8.cell? ⟨w6.heap.size, 3, none⟩ = some (.slice ag ng qg) := blk_cell bG rfl
        have ybG := blk_lt bG
        go_wp2_with fail
        refine (HTY.out).mono ?_
        rintro e w9 ⟨rfl, hb9⟩
        clear zbA0 zbA1 ybA zbB0 zbB1 ybB zbG0 zbG1 zbG2 zbG3 ybG
        replace bA := blk_below bA hb9
        replace bB := blk_below bB hb9
        replace bU := blk_below bU hb9
        replace bC := blk_below bC hb9
        replace bD := blk_below bD hb9
        replace bF := blk_below bF hb9
        replace bG := blk_below bG hb9
        replace bH := blk_below bH hb9
        replace RV := Lib.hid (RV.out.below hb9)
        replace RX := Lib.hid (RX.out.below hb9)
        replace Rc := Lib.hid (Rc.out.below hb9)
        replace Rd := Lib.hid (Rd.out.below hb9)
        replace Rf := Lib.hid (Rf.out.below hb9)
        replace Rg := Lib.hid (Rg.out.below hb9)
        replace Rh := Lib.hid (Rh.out.below hb9)
        replace HB := Lib.hid (bstep HB.out hb9)
        clear hb9
        go_wp2_with fail
        go_ret
        exact ⟨rfl, bstep HB1.out (bstep HV0.out HB.out)⟩
      · obtain ⟨k3, k4, k5⟩ := KS.out rfl
        have HSM := implCoercionSame _ _ _ _ _ _ _ Rg.out Rh.out
        rw [k4, Co.same_refl] at HSM
        replace HSM := Lib.hid HSM
        have K5 := Lib.hid k5
        rw [k3]
        clear k3 k4 k5
        have zbG0 : w8.cell? ⟨w6.heap.size, 0, none⟩ = some (.int .i64 kg) := blk_cell bG rfl
        have zbG1 : w8.cell? ⟨w6.heap.size, 1, none⟩ = some (.int .i64 gg) := blk_cell bG rfl
        have zbG2 : w8.cell? ⟨w6.heap.size, 2, none⟩ = some (.int .i64 lg) := blk_cell bG rfl
        have zbG3 : w8.cell? ⟨w6.heap.size, 3, none⟩ = some (.slice ag ng qg) := blk_cell bG rfl
        have ybG := blk_lt bG
        have zbH0 : w8.cell? ⟨w7.heap.size, 0, none⟩ = some (.int .i64 kh) := blk_cell bH rfl
        have zbH1 : w8.cell? ⟨w7.heap.size, 1, none⟩ = some (.int .i64 gh) := blk_cell bH rfl
        have zbH2 : w8.cell? ⟨w7.heap.size, 2, none⟩ = some (.int .i64 lh) := blk_cell bH rfl
        have zbH3 : w8.cell? ⟨w7.heap.size, 3, none⟩ = some (.slice ah nh qh) := blk_cell bH rfl
        have ybH := blk_lt bH
        go_wp2_with fail
        refine (HSM.out).mono ?_
        rintro e w9 ⟨rfl, hb9⟩
        clear zbG0 zbG1 zbG2 zbG3 ybG zbH0 zbH1 zbH2 zbH3 ybH
        replace bA := blk_below bA hb9
        replace bB := blk_below bB hb9
        replace bU := blk_below bU hb9
        replace bC := blk_below bC hb9
        replace bD := blk_below bD hb9
        replace bF := blk_below bF hb9
        replace bG := blk_below bG hb9
        replace bH := blk_below bH hb9
        replace RV := Lib.hid (RV.out.below hb9)
        replace RX := Lib.hid (RX.out.below hb9)
        replace Rc := Lib.hid (Rc.out.below hb9)
        replace Rd := Lib.hid (Rd.out.below hb9)
        replace Rf := Lib.hid (Rf.out.below hb9)
        replace Rg := Lib.hid (Rg.out.below hb9)
        replace Rh := Lib.hid (Rh.out.below hb9)
        replace HB := Lib.hid (bstep HB.out hb9)
        clear hb9
        have HID := implCoercionIdentity _ _ _ _ Rg.out
        rw [K5.out] at HID
        replace HID := Lib.hid HID
        have zbG0 : w9.cell? ⟨w6.heap.size, 0, none⟩ = some (.int .i64 kg) := blk_cell bG rfl
        have zbG1 : w9.cell? ⟨w6.heap.size, 1, none⟩ = some (.int .i64 gg) := blk_cell bG rfl
        have zbG2 : w9.cell? ⟨w6.heap.size, 2, none⟩ = some (.int .i64 lg) := blk_cell bG rfl
        have zbG3 : w9.cell? ⟨w6.heap.size, 3, none⟩ = some (.slice ag ng qg) := blk_cell bG rfl
        have ybG := blk_lt bG
        go_wp2_with fail
        refine (HID.out).mono ?_
        rintro e w10 ⟨rfl, hb10⟩
        clear zbG0 zbG1 zbG2 zbG3 ybG
        replace bA := blk_below bA hb10
        replace bB := blk_below bB hb10
        replace bU := blk_below bU hb10
        replace bC := blk_below bC hb10
        replace bD := blk_below bD hb10
        replace bF := blk_below bF hb10
        replace bG := blk_below bG hb10
        replace bH := blk_below bH hb10
        replace RV := Lib.hid (RV.out.below hb10)
        replace RX := Lib.hid (RX.out.below hb10)
        replace Rc := Lib.hid (Rc.out.below hb10)
        replace Rd := Lib.hid (Rd.out.below hb10)
        replace Rf := Lib.hid (Rf.out.below hb10)
        replace Rg := Lib.hid (Rg.out.below hb10)
        replace Rh := Lib.hid (Rh.out.below hb10)
        replace HB := Lib.hid (bstep HB.out hb10)
        clear hb10
        go_wp2_with fail
        go_ret
        exact ⟨rfl, bstep HB1.out (bstep HV0.out HB.out)⟩
    · clear kk ks h4 hts
      rw [o1] at h1 h2
      rw [o2] at h3
      have H1 := Lib.hid h1
      have H2 := Lib.hid h2
      have H3 := Lib.hid h3
      clear h1 h2 h3 o1 o2
      refine (H1.out _ (Below.refl _ _)).mono ?_
      rintro e w2 ⟨v2, rfl, hc2, hb2⟩
      obtain ⟨kc, gc, lc, ac, nc, qc, rfl⟩ := hc2.shape
      have Rc := Lib.hid hc2.rep
      clear hc2
      have HB := Lib.hid (Below.refl V.heap.size V)
      replace bA := blk_below bA hb2
      replace bB := blk_below bB hb2
      replace bU := blk_below bU hb2
      replace RV := Lib.hid (RV.out.below hb2)
      replace RX := Lib.hid (RX.out.below hb2)
      replace HB := Lib.hid (bstep HB.out hb2)
      clear hb2
      have zbA0 : w2.cell? ⟨w1.heap.size, 0, none⟩ = some (.int .i64 ka) := blk_cell bA rfl
      have zbA1 : w2.cell? ⟨w1.heap.size, 1, none⟩ = some (.slice aa na qa) := blk_cell bA rfl
      have ybA := blk_lt bA
      have zbU0 : w2.cell? ⟨w1.heap.size + 1 + 1, 0, none⟩ = some (.int .i64 1) := blk_cell bU rfl
      have zbU1 : w2.cell? ⟨w1.heap.size + 1 + 1, 1, none⟩ = some (.slice none 0 0) := blk_cell bU rfl
      have ybU := blk_lt bU
      go_wp2_with fail
      refine (H2.out _ (bstep HB.out bal1)).mono ?_
      rintro e w3 ⟨v3, rfl, hc3, hb3⟩
      obtain ⟨kd, gd, ld, ad, nd, qd, rfl⟩ := hc3.shape
      have Rd := Lib.hid hc3.rep
      clear hc3
      clear zbA0 zbA1 ybA zbU0 zbU1 ybU
      replace bA := blk_below (blk_below bA (bal1 (o := .cells #[.int .i64 kc, .int .i64 gc, .int .i64 lc, .slice ac nc qc] 28))) hb3
      replace bB := blk_below (blk_below bB (bal1 (o := .cells #[.int .i64 kc, .int .i64 gc, .int .i64 lc, .slice ac nc qc] 28))) hb3
      replace bU := blk_below (blk_below bU (bal1 (o := .cells #[.int .i64 kc, .int .i64 gc, .int .i64 lc, .slice ac nc qc] 28))) hb3
      replace RV := Lib.hid ((RV.out.below (bal1 (o := .cells #[.int .i64 kc, .int .i64 gc, .int .i64 lc, .slice ac nc qc] 28))).below hb3)
      replace RX := Lib.hid ((RX.out.below (bal1 (o := .cells #[.int .i64 kc, .int .i64 gc, .int .i64 lc, .slice ac nc qc] 28))).below hb3)
      replace Rc := Lib.hid ((Rc.out.below (bal1 (o := .cells #[.int .i64 kc, .int .i64 gc, .int .i64 lc, .slice ac nc qc] 28))).below hb3)
      replace HB := Lib.hid (bstep (bstep HB.out (bal1 (o := .cells #[.int .i64 kc, .int .i64 gc, .int .i64 lc, .slice ac nc qc] 28))) hb3)
      have bC : w3.heap[w2.heap.size]? = some (.cells #[.int .i64 kc, .int .i64 gc, .int .i64 lc, .slice ac nc qc] 28 (0, 0)) := blk_below (blk_new rfl) hb3
      clear hb3
      have zbB0 : w3.cell? ⟨w1.heap.size + 1, 0, none⟩ = some (.int .i64 kb) := blk_cell bB rfl
      have zbB1 : w3.cell? ⟨w1.heap.size + 1, 1, none⟩ = some (.slice ab nb qb) := blk_cell bB rfl
      have ybB := blk_lt bB
      have zbU0 : w3.cell? ⟨w1.heap.size + 1 + 1, 0, none⟩ = some (.int .i64 1) := blk_cell bU rfl
      have zbU1 : w3.cell? ⟨w1.heap.size + 1 + 1, 1, none⟩ = some (.slice none 0 0) := blk_cell bU rfl
      have ybU := blk_lt bU
      go_wp2_with fail
      refine (H3.out _ (bstep HB.out bal1)).mono ?_
      rintro e w4 ⟨v4, rfl, hc4, hb4⟩
      obtain ⟨kf, gf, lf, af, nf, qf, rfl⟩ := hc4.shape
      have Rf := Lib.hid hc4.rep
      clear hc4
      clear zbB0 zbB1 ybB zbU0 zbU1 ybU
      replace bA := blk_below (blk_below bA (bal1 (o := .cells #[.int .i64 kd, .int .i64 gd, .int .i64 ld, .slice ad nd qd] 28))) hb4
      replace bB := blk_below (blk_below bB (bal1 (o := .cells #[.int .i64 kd, .int .i64 gd, .int .i64 ld, .slice ad nd qd] 28))) hb4
      replace bU := blk_below (blk_below bU (bal1 (o := .cells #[.int .i64 kd, .int .i64 gd, .int .i64 ld, .slice ad nd qd] 28))) hb4
      replace bC := blk_below (blk_below bC (bal1 (o := .cells #[.int .i64 kd, .int .i64 gd, .int .i64 ld, .slice ad nd qd] 28))) hb4
      replace RV := Lib.hid ((RV.out.below (bal1 (o := .cells #[.int .i64 kd, .int .i64 gd, .int .i64 ld, .slice ad nd qd] 28))).below hb4)
      replace RX := Lib.hid ((RX.out.below (bal1 (o := .cells #[.int .i64 kd, .int .i64 gd, .int .i64 ld, .slice ad nd qd] 28))).below hb4)
      replace Rc := Lib.hid ((Rc.out.below (bal1 (o := .cells #[.int .i64 kd, .int .i64 gd, .int .i64 ld, .slice ad nd qd] 28))).below hb4)
      replace Rd := Lib.hid ((Rd.out.below (bal1 (o := .cells #[.int .i64 kd, .int .i64 gd, .int .i64 ld, .slice ad nd qd] 28))).below hb4)
      replace HB := Lib.hid (bstep (bstep HB.out (bal1 (o := .cells #[.int .i64 kd, .int .i64 gd, .int .i64 ld, .slice ad nd qd] 28))) hb4)
      have bD : w4.heap[w3.heap.size]? = some (.cells #[.int .i64 kd, .int .i64 gd, .int .i64 ld, .slice ad nd qd] 28 (0, 0)) := blk_below (blk_new rfl) hb4
      clear hb4
      have HSM := implCoercionSame _ _ _ _ _ _ _ (Rc.out.below (bal1 (o := .cells #[.int .i64 kf, .int .i64 gf, .int .i64 lf, .slice af nf qf] 28))) (Rd.out.below (bal1 (o := .cells #[.int .i64 kf, .int .i64 gf, .int .i64 lf, .slice af nf qf] 28)))
      rw [Co.same_refl] at HSM
      replace HSM := Lib.hid HSM
      have zbC0 : w4.cell? ⟨w2.heap.size, 0, none⟩ = some (.int .i64 kc) := blk_cell bC rfl
      have zbC1 : w4.cell? ⟨w2.heap.size, 1, none⟩ = some (.int .i64 gc) := blk_cell bC rfl
      have zbC2 : w4.cell? ⟨w2.heap.size, 2, none⟩ = some (.int .i64 lc) := blk_cell bC rfl
      have zbC3 : w4.cell? ⟨w2.heap.size, 3, none⟩ = some (.slice ac nc qc) := blk_cell bC rfl
      have ybC := blk_lt bC
      have zbD0 : w4.cell? ⟨w3.heap.size, 0, none⟩ = some (.int .i64 kd) := blk_cell bD rfl
      have zbD1 : w4.cell? ⟨w3.heap.size, 1, none⟩ = some (.int .i64 gd) := blk_cell bD rfl
      have zbD2 : w4.cell? ⟨w3.heap.size, 2, none⟩ = some (.int .i64 ld) := blk_cell bD rfl
      have zbD3 : w4.cell? ⟨w3.heap.size, 3, none⟩ = some (.slice ad nd qd) := blk_cell bD rfl
      have ybD := blk_lt bD
      go_wp2_with fail
      refine (HSM.out).mono ?_
      rintro e w5 ⟨rfl, hb5⟩
      clear zbC0 zbC1 zbC2 zbC3 ybC zbD0 zbD1 zbD2 zbD3 ybD
      replace bA := blk_below (blk_below bA (bal1 (o := .cells #[.int .i64 kf, .int .i64 gf, .int .i64 lf, .slice af nf qf] 28))) hb5
      replace bB := blk_below (blk_below bB (bal1 (o := .cells #[.int .i64 kf, .int .i64 gf, .int .i64 lf, .slice af nf qf] 28))) hb5
      replace bU := blk_below (blk_below bU (bal1 (o := .cells #[.int .i64 kf, .int .i64 gf, .int .i64 lf, .slice af nf qf] 28))) hb5
      replace bC := blk_below (blk_below bC (bal1 (o := .cells #[.int .i64 kf, .int .i64 gf, .int .i64 lf, .slice af nf qf] 28))) hb5
      replace bD := blk_below (blk_below bD (bal1 (o := .cells #[.int .i64 kf, .int .i64 gf, .int .i64 lf, .slice af nf qf] 28))) hb5
      replace RV := Lib.hid ((RV.out.below (bal1 (o := .cells #[.int .i64 kf, .int .i64 gf, .int .i64 lf, .slice af nf qf] 28))).below hb5)
      replace RX := Lib.hid ((RX.out.below (bal1 (o := .cells #[.int .i64 kf, .int .i64 gf, .int .i64 lf, .slice af nf qf] 28))).below hb5)
      replace Rc := Lib.hid ((Rc.out.below (bal1 (o := .cells #[.int .i64 kf, .int .i64 gf, .int .i64 lf, .slice af nf qf] 28))).below hb5)
      replace Rd := Lib.hid ((Rd.out.below (bal1 (o := .cells #[.int .i64 kf, .int .i64 gf, .int .i64 lf, .slice af nf qf] 28))).below hb5)
      replace Rf := Lib.hid ((Rf.out.below (bal1 (o := .cells #[.int .i64 kf, .int .i64 gf, .int .i64 lf, .slice af nf qf] 28))).below hb5)
      replace HB := Lib.hid (bstep (bstep HB.out (bal1 (o := .cells #[.int .i64 kf, .int .i64 gf, .int .i64 lf, .slice af nf qf] 28))) hb5)
      have bF : w5.heap[w4.heap.size]? = some (.cells #[.int .i64 kf, .int .i64 gf, .int .i64 lf, .slice af nf qf] 28 (0, 0)) := blk_below (blk_new rfl) hb5
      clear hb5
      clear HSM
      have HSM := implCoercionSame _ _ _ _ _ _ _ (Rc.out) (Rd.out)
      rw [Co.same_refl] at HSM
      replace HSM := Lib.hid HSM
      have zbC0 : w5.cell? ⟨w2.heap.size, 0, none⟩ = some (.int .i64 kc) := blk_cell bC rfl
      have zbC1 : w5.cell? ⟨w2.heap.size, 1, none⟩ = some (.int .i64 gc) := blk_cell bC rfl
      have zbC2 : w5.cell? ⟨w2.heap.size, 2, none⟩ = some (.int .i64 lc) := blk_cell bC rfl
      have zbC3 : w5.cell? ⟨w2.heap.size, 3, none⟩ = some (.slice ac nc qc) := blk_cell bC rfl
      have ybC := blk_lt bC
      have zbD0 : w5.cell? ⟨w3.heap.size, 0, none⟩ = some (.int .i64 kd) := blk_cell bD rfl
      have zbD1 : w5.cell? ⟨w3.heap.size, 1, none⟩ = some (.int .i64 gd) := blk_cell bD rfl
      have zbD2 : w5.cell? ⟨w3.heap.size, 2, none⟩ = some (.int .i64 ld) := blk_cell bD rfl
      have zbD3 : w5.cell? ⟨w3.heap.size, 3, none⟩ = some (.slice ad nd qd) := blk_cell bD rfl
      have ybD := blk_lt bD
      go_wp2_with fail
      refine (HSM.out).mono ?_
      rintro e w6 ⟨rfl, hb6⟩
      clear zbC0 zbC1 zbC2 zbC3 ybC zbD0 zbD1 zbD2 zbD3 ybD
      replace bA := blk_below bA hb6
      replace bB := blk_below bB hb6
      replace bU := blk_below bU hb6
      replace bC := blk_below bC hb6
      replace bD := blk_below bD hb6
      replace bF := blk_below bF hb6
      replace RV := Lib.hid (RV.out.below hb6)
      replace RX := Lib.hid (RX.out.below hb6)
      replace Rc := Lib.hid (Rc.out.below hb6)
      replace Rd := Lib.hid (Rd.out.below hb6)
      replace Rf := Lib.hid (Rf.out.below hb6)
      replace HB := Lib.hid (bstep HB.out hb6)
      clear hb6
      go_wp2_with fail
      go_ret
      exact ⟨rfl, bstep HB1.out (bstep HV0.out HB.out)⟩
  · clear kk ks h4 hts
    rw [o1] at h1 h2
    generalize castOk anyTy u l = o2 at h3
    have H1 := Lib.hid h1
    have H2 := Lib.hid h2
    have H3 := Lib.hid h3
    clear h1 h2 h3 o1
    refine (H1.out _ (Below.refl _ _)).mono ?_
    rintro e w2 ⟨v2, rfl, hc2, hb2⟩
    obtain ⟨kc, gc, lc, ac, nc, qc, rfl⟩ := hc2.shape
    have Rc := Lib.hid hc2.rep
    clear hc2
    have HB := Lib.hid (Below.refl V.heap.size V)
    replace bA := blk_below bA hb2
    replace bB := blk_below bB hb2
    replace bU := blk_below bU hb2
    replace RV := Lib.hid (RV.out.below hb2)
    replace RX := Lib.hid (RX.out.below hb2)
    replace HB := Lib.hid (bstep HB.out hb2)
    clear hb2
    have zbA0 : w2.cell? ⟨w1.heap.size, 0, none⟩ = some (.int .i64 ka) := blk_cell bA rfl
    have zbA1 : w2.cell? ⟨w1.heap.size, 1, none⟩ = some (.slice aa na qa) := blk_cell bA rfl
    have ybA := blk_lt bA
    have zbU0 : w2.cell? ⟨w1.heap.size + 1 + 1, 0, none⟩ = some (.int .i64 1) := blk_cell bU rfl
    have zbU1 : w2.cell? ⟨w1.heap.size + 1 + 1, 1, none⟩ = some (.slice none 0 0) := blk_cell bU rfl
    have ybU := blk_lt bU
    go_wp2_with fail
    refine (H2.out _ (bstep HB.out bal1)).mono ?_
    rintro e w3 ⟨v3, rfl, hc3, hb3⟩
    obtain ⟨kd, gd, ld, ad, nd, qd, rfl⟩ := hc3.shape
    have Rd := Lib.hid hc3.rep
    clear hc3
    clear zbA0 zbA1 ybA zbU0 zbU1 ybU
    replace bA := blk_below (blk_below bA (bal1 (o := .cells #[.int .i64 kc, .int .i64 gc, .int .i64 lc, .slice ac nc qc] 28))) hb3
    replace bB := blk_below (blk_below bB (bal1 (o := .cells #[.int .i64 kc, .int .i64 gc, .int .i64 lc, .slice ac nc qc] 28))) hb3
    replace bU := blk_below (blk_below bU (bal1 (o := .cells #[.int .i64 kc, .int .i64 gc, .int .i64 lc, .slice ac nc qc] 28))) hb3
    replace RV := Lib.hid ((RV.out.below (bal1 (o := .cells #[.int .i64 kc, .int .i64 gc, .int .i64 lc, .slice ac nc qc] 28))).below hb3)
    replace RX := Lib.hid ((RX.out.below (bal1 (o := .cells #[.int .i64 kc, .int .i64 gc, .int .i64 lc, .slice ac nc qc] 28))).below hb3)
    replace Rc := Lib.hid ((Rc.out.below (bal1 (o := .cells #[.int .i64 kc, .int .i64 gc, .int .i64 lc, .slice ac nc qc] 28))).below hb3)
    replace HB := Lib.hid (bstep (bstep HB.out (bal1 (o := .cells #[.int .i64 kc, .int .i64 gc, .int .i64 lc, .slice ac nc qc] 28))) hb3)
    have bC : w3.heap[w2.heap.size]? = some (.cells #[.int .i64 kc, .int .i64 gc, .int .i64 lc, .slice ac nc qc] 28 (0, 0)) := blk_below (blk_new rfl) hb3
    clear hb3
    have zbB0 : w3.cell? ⟨w1.heap.size + 1, 0, none⟩ = some (.int .i64 kb) := blk_cell bB rfl
    have zbB1 : w3.cell? ⟨w1.heap.size + 1, 1, none⟩ = some (.slice ab nb qb) := blk_cell bB rfl
    have ybB := blk_lt bB
    have zbU0 : w3.cell? ⟨w1.heap.size + 1 + 1, 0, none⟩ = some (.int .i64 1) := blk_cell bU rfl
    have zbU1 : w3.cell? ⟨w1.heap.size + 1 + 1, 1, none⟩ = some (.slice none 0 0) := blk_cell bU rfl
    have ybU := blk_lt bU
    go_wp2_with fail
    refine (H3.out _ (bstep HB.out bal1)).mono ?_
    rintro e w4 ⟨v4, rfl, hc4, hb4⟩
    obtain ⟨kf, gf, lf, af, nf, qf, rfl⟩ := hc4.shape
    have Rf := Lib.hid hc4.rep
    clear hc4
    clear zbB0 zbB1 ybB zbU0 zbU1 ybU
    replace bA := blk_below (blk_below bA (bal1 (o := .cells #[.int .i64 kd, .int .i64 gd, .int .i64 ld, .slice ad nd qd] 28))) hb4
    replace bB := blk_below (blk_below bB (bal1 (o := .cells #[.int .i64 kd, .int .i64 gd, .int .i64 ld, .slice ad nd qd] 28))) hb4
    replace bU := blk_below (blk_below bU (bal1 (o := .cells #[.int .i64 kd, .int .i64 gd, .int .i64 ld, .slice ad nd qd] 28))) hb4
    replace bC := blk_below (blk_below bC (bal1 (o := .cells #[.int .i64 kd, .int .i64 gd, .int .i64 ld, .slice ad nd qd] 28))) hb4
    replace RV := Lib.hid ((RV.out.below (bal1 (o := .cells #[.int .i64 kd, .int .i64 gd, .int .i64 ld, .slice ad nd qd] 28))).below hb4)
    replace RX := Lib.hid ((RX.out.below (bal1 (o := .cells #[.int .i64 kd, .int .i64 gd, .int .i64 ld, .slice ad nd qd] 28))).below hb4)
    replace Rc := Lib.hid ((Rc.out.below (bal1 (o := .cells #[.int .i64 kd, .int .i64 gd, .int .i64 ld, .slice ad nd qd] 28))).below hb4)
    replace Rd := Lib.hid ((Rd.out.below (bal1 (o := .cells #[.int .i64 kd, .int .i64 gd, .int .i64 ld, .slice ad nd qd] 28))).below hb4)
    replace HB := Lib.hid (bstep (bstep HB.out (bal1 (o := .cells #[.int .i64 kd, .int .i64 gd, .int .i64 ld, .slice ad nd qd] 28))) hb4)
    have bD : w4.heap[w3.heap.size]? = some (.cells #[.int .i64 kd, .int .i64 gd, .int .i64 ld, .slice ad nd qd] 28 (0, 0)) := blk_below (blk_new rfl) hb4
    clear hb4
    have HSM := implCoercionSame _ _ _ _ _ _ _ (Rc.out.below (bal1 (o := .cells #[.int .i64 kf, .int .i64 gf, .int .i64 lf, .slice af nf qf] 28))) (Rd.out.below (bal1 (o := .cells #[.int .i64 kf, .int .i64 gf, .int .i64 lf, .slice af nf qf] 28)))
    rw [Co.same_refl] at HSM
    replace HSM := Lib.hid HSM
    have zbC0 : w4.cell? ⟨w2.heap.size, 0, none⟩ = some (.int .i64 kc) := blk_cell bC rfl
    have zbC1 : w4.cell? ⟨w2.heap.size, 1, none⟩ = some (.int .i64 gc) := blk_cell bC rfl
    have zbC2 : w4.cell? ⟨w2.heap.size, 2, none⟩ = some (.int .i64 lc) := blk_cell bC rfl
    have zbC3 : w4.cell? ⟨w2.heap.size, 3, none⟩ = some (.slice ac nc qc) := blk_cell bC rfl
    have ybC := blk_lt bC
    have zbD0 : w4.cell? ⟨w3.heap.size, 0, none⟩ = some (.int .i64 kd) := blk_cell bD rfl
    have zbD1 : w4.cell? ⟨w3.heap.size, 1, none⟩ = some (.int .i64 gd) := blk_cell bD rfl
    have zbD2 : w4.cell? ⟨w3.heap.size, 2, none⟩ = some (.int .i64 ld) := blk_cell bD rfl
    have zbD3 : w4.cell? ⟨w3.heap.size, 3, none⟩ = some (.slice ad nd qd) := blk_cell bD rfl
    have ybD := blk_lt bD
    go_wp2_with fail
    refine (HSM.out).mono ?_
    rintro e w5 ⟨rfl, hb5⟩
    clear zbC0 zbC1 zbC2 zbC3 ybC zbD0 zbD1 zbD2 zbD3 ybD
    replace bA := blk_below (blk_below bA (bal1 (o := .cells #[.int .i64 kf, .int .i64 gf, .int .i64 lf, .slice af nf qf] 28))) hb5
    replace bB := blk_below (blk_below bB (bal1 (o := .cells #[.int .i64 kf, .int .i64 gf, .int .i64 lf, .slice af nf qf] 28))) hb5
    replace bU := blk_below (blk_below bU (bal1 (o := .cells #[.int .i64 kf, .int .i64 gf, .int .i64 lf, .slice af nf qf] 28))) hb5
    replace bC := blk_below (blk_below bC (bal1 (o := .cells #[.int .i64 kf, .int .i64 gf, .int .i64 lf, .slice af nf qf] 28))) hb5
    replace bD := blk_below (blk_below bD (bal1 (o := .cells #[.int .i64 kf, .int .i64 gf, .int .i64 lf, .slice af nf qf] 28))) hb5
    replace RV := Lib.hid ((RV.out.below (bal1 (o := .cells #[.int .i64 kf, .int .i64 gf, .int .i64 lf, .slice af nf qf] 28))).below hb5)
    replace RX := Lib.hid ((RX.out.below (bal1 (o := .cells #[.int .i64 kf, .int .i64 gf, .int .i64 lf, .slice af nf qf] 28))).below hb5)
    replace Rc := Lib.hid ((Rc.out.below (bal1 (o := .cells #[.int .i64 kf, .int .i64 gf, .int .i64 lf, .slice af nf qf] 28))).below hb5)
    replace Rd := Lib.hid ((Rd.out.below (bal1 (o := .cells #[.int .i64 kf, .int .i64 gf, .int .i64 lf, .slice af nf qf] 28))).below hb5)
    replace Rf := Lib.hid ((Rf.out.below (bal1 (o := .cells #[.int .i64 kf, .int .i64 gf, .int .i64 lf, .slice af nf qf] 28))).below hb5)
    replace HB := Lib.hid (bstep (bstep HB.out (bal1 (o := .cells #[.int .i64 kf, .int .i64 gf, .int .i64 lf, .slice af nf qf] 28))) hb5)
    have bF : w5.heap[w4.heap.size]? = some (.cells #[.int .i64 kf, .int .i64 gf, .int .i64 lf, .slice af nf qf] 28 (0, 0)) := blk_below (blk_new rfl) hb5
    clear hb5
    clear HSM
    have HSM := implCoercionSame _ _ _ _ _ _ _ (Rc.out) (Rd.out)
    rw [Co.same_refl] at HSM
    replace HSM := Lib.hid HSM
    have zbC0 : w5.cell? ⟨w2.heap.size, 0, none⟩ = some (.int .i64 kc) := blk_cell bC rfl
    have zbC1 : w5.cell? ⟨w2.heap.size, 1, none⟩ = some (.int .i64 gc) := blk_cell bC rfl
    have zbC2 : w5.cell? ⟨w2.heap.size, 2, none⟩ = some (.int .i64 lc) := blk_cell bC rfl
    have zbC3 : w5.cell? ⟨w2.heap.size, 3, none⟩ = some (.slice ac nc qc) := blk_cell bC rfl
    have ybC := blk_lt bC
    have zbD0 : w5.cell? ⟨w3.heap.size, 0, none⟩ = some (.int .i64 kd) := blk_cell bD rfl
    have zbD1 : w5.cell? ⟨w3.heap.size, 1, none⟩ = some (.int .i64 gd) := blk_cell bD rfl
    have zbD2 : w5.cell? ⟨w3.heap.size, 2, none⟩ = some (.int .i64 ld) := blk_cell bD rfl
    have zbD3 : w5.cell? ⟨w3.heap.size, 3, none⟩ = some (.slice ad nd qd) := blk_cell bD rfl
    have ybD := blk_lt bD
    go_wp2_with fail
    refine (HSM.out).mono ?_
    rintro e w6 ⟨rfl, hb6⟩
    clear zbC0 zbC1 zbC2 zbC3 ybC zbD0 zbD1 zbD2 zbD3 ybD
    replace bA := blk_below bA hb6
    replace bB := blk_below bB hb6
    replace bU := blk_below bU hb6
    replace bC := blk_below bC hb6
    replace bD := blk_below bD hb6
    replace bF := blk_below bF hb6
    replace RV := Lib.hid (RV.out.below hb6)
    replace RX := Lib.hid (RX.out.below hb6)
    replace Rc := Lib.hid (Rc.out.below hb6)
    replace Rd := Lib.hid (Rd.out.below hb6)
    replace Rf := Lib.hid (Rf.out.below hb6)
    replace HB := Lib.hid (bstep HB.out hb6)
    clear hb6
    go_wp2_with fail
    go_ret
    exact ⟨rfl, bstep HB1.out (bstep HV0.out HB.out)⟩
end Go.Proofs.Ythhdjacdalehoaa
