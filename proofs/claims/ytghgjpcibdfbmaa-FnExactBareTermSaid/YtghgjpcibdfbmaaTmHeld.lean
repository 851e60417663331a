/-
  A look whether the marks of a term stand; the marks of one term.
-/
import Derived.Test.YtghgjpcibdfbmaaTmMarkV
namespace Go.Proofs.Ytghgjpcibdfbmaa
open Go.RowKit
set_option linter.unusedVariables false
set_option linter.unusedSimpArgs false
set_option maxRecDepth 100000

set_option maxHeartbeats 8000000 in
theorem heldTermS_any (F : Nat → Prop) (ts : List Tm) : ∀ (m : Int) (s : Value) (w : World), TmsRep F w (Tm.marks ts m) s → 0 ≤ m → m + Tm.mcnts ts ≤ 1099511627776 →
    Calls Try.prog 97 #[s, .int .i64 m] w fun e w' => e = .returned (.int .i64 (m + Tm.mcnts ts)) ∧ Below w.heap.size w w' := by
  intro m s w hy hm0 hmb
  have IH : ∀ t ∈ ts, ∀ (m : Int) (s : Value) (w : World), TmsRep F w (Tm.marks t.kids m) s → 0 ≤ m → m + Tm.mcnts t.kids ≤ 1099511627776 →
    Calls Try.prog 97 #[s, .int .i64 m] w fun e w' => e = .returned (.int .i64 (m + Tm.mcnts t.kids)) ∧ Below w.heap.size w w' := fun t ht m s w a b c => heldTermS_any F t.kids m s w a b c
  have IHH := Lib.hid IH
  clear IH
  obtain ⟨a, cap, rfl, h2, h3, -⟩ := hy.open
  rw [Tm.marks_length] at h2 hy ⊢
  unfold maxLen at h3
  obtain ⟨n, hn⟩ : ∃ n, ts.length = n := ⟨_, rfl⟩
  rw [hn] at h2 hy ⊢
  have HN := Lib.hid hn
  have HMB := Lib.hid hmb
  clear hn hmb
  go_enter Try.func97, Try.ntmps97
  go_wp2_with fail
  go_loopw [5, 1] (fun i p wr => ∃ j : Nat, j ≤ n ∧ i = .int .i64 j ∧ (∃ q : Int, p = .int .i64 q ∧ 0 ≤ q ∧ q ≤ 1099511627776 ∧ Hid (q = m + Tm.mcnts (ts.take j))) ∧ Below w.heap.size w wr) (fun i _ _ => n - (intOf i).toNat)
  case atStart => exact ⟨0, by omega, rfl, ⟨m, rfl, hm0, by have := HMB.out; omega, by simp [Hid, Tm.mcnts]⟩, Below.refl _ _⟩
  case round =>
    obtain ⟨j, hj, rfl, ⟨q, rfl, hq0, hq1, hq⟩, hbw⟩ := hrel
    by_cases hlt : j < n
    · have hjt : j < ts.length := by rw [HN.out]; exact hlt
      obtain ⟨b, off, k0, nm0, u0, tk0, ta0, tn0, tq0, fk0, fa0, fn0, fq0, l0, a0, m0, q0, rfl, l0', e0, e1, e2, e3, e4, e5, e6, e7, e8, ht⟩ := hy.at hbw (i := j) (by rw [Tm.marks_length]; exact hjt)
      rw [Tm.marks_get ts m j hjt, ← hq.out, Tm.marked_eq] at ht
      have htk := Tm.mcnts_take_succ ts j hjt
      have htd := Tm.mcnts_take_drop ts (j + 1)
      have hmc := ts[j].mcnt_eq
      have hIH := IHH.out ts[j] (List.getElem_mem hjt)
      generalize ts[j].type.kids = K1 at ht hmc
      generalize ts[j].src.kids = K2 at ht hmc
      generalize ts[j].kids = K3 at ht hmc hIH
      generalize ts[j].mcnt = mj at htk hmc
      obtain ⟨r1, r2, r3, r4, -, r6, -, r8, -, -, -, -, hty, hsr, hks⟩ := ht.parts
      obtain ⟨s1, x1, hs1⟩ := hty
      obtain ⟨s2, x2, hs2⟩ := hsr
      simp only [Tm.kind, Tm.name, Tm.num, Tm.type, Tm.src, Tm.label, Tm.kids, Ty.kind, Ty.kids] at r1 r2 r3 r4 r6 r8 x1 x2 hs1 hs2 hks
      simp only [Value.agg.injEq, Array.mk.injEq, List.cons.injEq, and_true, true_and] at x1 x2
      obtain ⟨-, rfl⟩ := x1
      obtain ⟨-, rfl⟩ := x2
      have hmb := HMB.out
      have hqq := hq.out
      have B3 : q + 6 + Ty.scnt K1 + Ty.scnt K2 + Tm.mcnts K3 ≤ 1099511627776 := by omega
      have hfin : q + 1 + 1 + 1 + 1 + (Ty.scnt K1 : Int) + 1 + (Ty.scnt K2 : Int) + 1 + (Tm.mcnts K3 : Int) = m + Tm.mcnts (ts.take (j + 1)) := by omega
      have g1 : q + 1 + 1 = q + 2 := by omega
      have g2 : q + 1 + 1 + 1 = q + 3 := by omega
      have g3 : q + 1 + 1 + 1 + 1 = q + 4 := by omega
      have g4 : q + 4 + (Ty.scnt K1 : Int) = q + 1 + 1 + 1 + 1 + (Ty.scnt K1 : Int) := by omega
      have g5 : q + 5 + (Ty.scnt K1 : Int) = q + 1 + 1 + 1 + 1 + (Ty.scnt K1 : Int) + 1 := by omega
      have g6 : q + 5 + (Ty.scnt K1 : Int) + Ty.scnt K2 = q + 1 + 1 + 1 + 1 + (Ty.scnt K1 : Int) + 1 + (Ty.scnt K2 : Int) := by omega
      have g7 : q + 6 + (Ty.scnt K1 : Int) + Ty.scnt K2 = q + 1 + 1 + 1 + 1 + (Ty.scnt K1 : Int) + 1 + (Ty.scnt K2 : Int) + 1 := by omega
      rw [g6] at r8
      rw [g5] at hs2
      rw [g4] at r6
      rw [g7] at hks
      rw [← g3] at hs1
      rw [← g2] at r4
      rw [← g1] at r3
      subst r1 r3 r4 r6 r8
      have HFIN := Lib.hid hfin
      have HS1 := Lib.hid hs1
      have HS2 := Lib.hid hs2
      have HKS := Lib.hid hks
      have HIH := Lib.hid hIH
      have HR2 := Lib.hid r2
      clear htk htd hmc hIH hqq hfin hs1 hs2 hks ht hq hmb g1 g2 g3 g4 g5 g6 g7 r2
      have i1 := IntWalk.i64_in (k0 + 1) (by omega)
      have i2 := IntWalk.i64_in (k0 + 1 + 1) (by omega)
      have i3 := IntWalk.i64_in (k0 + 1 + 1 + 1) (by omega)
      have i4 := IntWalk.i64_in (k0 + 1 + 1 + 1 + 1) (by omega)
      have i5 := IntWalk.i64_in (k0 + 1 + 1 + 1 + 1 + (Ty.scnt K1 : Int) + 1) (by omega)
      have i6 := IntWalk.i64_in (k0 + 1 + 1 + 1 + 1 + (Ty.scnt K1 : Int) + 1 + (Ty.scnt K2 : Int) + 1) (by omega)
      have j1 : decide (k0 + 1 + 1 + 1 + 1 + (Ty.scnt K1 : Int) < 0) = false := by simp; omega
      have j2 : decide (k0 + 1 + 1 + 1 + 1 + (Ty.scnt K1 : Int) + 1 + (Ty.scnt K2 : Int) < 0) = false := by simp; omega
      have j3 : decide (k0 + 1 + 1 + 1 + 1 + (Ty.scnt K1 : Int) + 1 + (Ty.scnt K2 : Int) + 1 + (Tm.mcnts K3 : Int) < 0) = false := by simp; omega
      go_wp2_with fail
      go_region_held3 (fun w' => w'.cell? ⟨b, off + j * 9 + 1, none⟩ = some (.string nm0))
        (first | go_keep | exact bcelld hb1 e1)
        ((go_at_call 111; refine (markText_val (k0 + 1) (by omega) (by omega) _).mono ?_; rintro e w1 ⟨rfl, -, hb1⟩; rw [← HR2.out]))
      have d1 := bcelld hb1 e1
      have d2 := bcelld hb1 e2
      have d3 := bcelld hb1 e3
      have d4 := bcelld hb1 e4
      have d5 := bcelld hb1 e5
      have d6 := bcelld hb1 e6
      have d7 := bcelld hb1 e7
      have d8 := bcelld hb1 e8
      replace hb1 := bstep bdr hb1
      have lb1 := World.block_lt_of_cell? _ _ d1
      clear e0 e1 e2 e3 e4 e5 e6 e7 e8 l0'
      have HB1 := Lib.hid hb1
      clear hb1
      go_wp2_with fail
      refine (heldTypeS_any F K1 (k0 + 1 + 1 + 1 + 1) _ _ (HS1.out.move (.below HB1.out)) (by omega) (by omega)).mono ?_
      rintro e w2 ⟨rfl, hb2⟩
      have e5 := bcell hb2 d5
      have e6 := bcell hb2 d6
      have e7 := bcell hb2 d7
      have e8 := bcell hb2 d8
      have lb2 := World.block_lt_of_cell? _ _ e5
      have HB2 := Lib.hid (bstep HB1.out hb2)
      clear d1 d2 d3 d4 d5 d6 d7 d8 lb1 hb2
      go_wp2_with fail
      refine (heldTypeS_any F K2 (k0 + 1 + 1 + 1 + 1 + (Ty.scnt K1 : Int) + 1) _ _ (HS2.out.move (.below HB2.out)) (by omega) (by omega)).mono ?_
      rintro e w3 ⟨rfl, hb3⟩
      have d7 := bcell hb3 e7
      have d8 := bcell hb3 e8
      have lb3 := World.block_lt_of_cell? _ _ d7
      have HB3 := Lib.hid (bstep HB2.out hb3)
      clear e5 e6 e7 e8 lb2 hb3
      go_wp2_with fail
      refine (HIH.out (k0 + 1 + 1 + 1 + 1 + (Ty.scnt K1 : Int) + 1 + (Ty.scnt K2 : Int) + 1) _ _ (HKS.out.below HB3.out) (by omega) (by omega)).mono ?_
      rintro e w4 ⟨rfl, hb4⟩
      have HB4 := Lib.hid (bstep HB3.out hb4)
      clear d7 d8 lb3 hb4
      go_wp2_with fail
      go_roundw
      case rel => exact ⟨j + 1, by omega, by go_num, ⟨_, rfl, by omega, by omega, HFIN.out⟩, bstep hbw HB4.out⟩
      case measure => simp [intOf]; omega
    · have hlast : q = m + Tm.mcnts ts := by
        have h := hq.out
        rw [List.take_of_length_le (by have := HN.out; omega)] at h
        exact h
      have HL := Lib.hid hlast
      clear hlast hq
      go_wp2_with fail
      go_ret
      exact ⟨ret_int HL.out, hbw⟩
termination_by SizeOf.sizeOf ts
decreasing_by exact Tm.kids_lt_list ht

/-- A term whose parts are marked from m on. -/
def Tm.markP (t : Tm) (m : Int) : Tm := .mk t.kind t.name t.num (.mk t.type.kind (Ty.marks t.type.kids m)) (.mk t.src.kind (Ty.marks t.src.kids (m + t.type.cnt))) t.label (Tm.marks t.kids (m + t.type.cnt + t.src.cnt))
set_option maxHeartbeats 2000000 in
theorem markTerm_val (t : Tm) (m : Int) (y : Value) (fp : List Nat) (w : World) (hown : TmOwn w t y fp) (hnd : fp.Nodup) (hm0 : 0 ≤ m) (hmb : m + t.mk9 ≤ 1099511627776) :
    Calls Try.prog 23 #[y, .int .i64 m] w fun e w' => e = .returned (.int .i64 (m + t.mk9)) ∧ TmOwn w' (t.markP m) y fp ∧ Chg fp w w' := by
  have hsh := hown.ks
  obtain ⟨s1, s2, s, f1, f2, f3, rfl, rfl, hn, h1, h2, h3⟩ := hown
  obtain ⟨k, nm, u, tk, ta, tn, tq, fk, fa, fn, fq, l, c, n, q, he⟩ := hsh
  simp only [Value.agg.injEq, Array.mk.injEq, List.cons.injEq, Value.int.injEq, Value.string.injEq, true_and, and_true] at he
  obtain ⟨rfl, rfl, rfl, rfl, rfl, rfl, rfl, rfl, rfl⟩ := he
  obtain ⟨nd1, nd23, hd1⟩ := List.nodup_append.1 hnd
  obtain ⟨nd2, nd3, hd2⟩ := List.nodup_append.1 nd23
  unfold Tm.mk9 at hmb ⊢
  unfold Tm.markP
  have l1 : ∀ x ∈ f1, x < w.heap.size := COwn.lt _ _ _ h1
  have l2 : ∀ x ∈ f2, x < w.heap.size := COwn.lt _ _ _ h2
  have l3 : ∀ x ∈ f3, x < w.heap.size := COwn.lt _ _ _ h3
  have o1 : TyOwn w t.type (.agg #[.int .i64 t.type.kind, .slice ta tn tq]) f1 := ⟨_, rfl, h1⟩
  have o2 : TyOwn w t.src (.agg #[.int .i64 t.src.kind, .slice fa fn fq]) f2 := ⟨_, rfl, h2⟩
  have n1 : w.heap.size ∉ f1 := fun h => by have := l1 _ h; omega
  have n2 : w.heap.size ∉ f2 := fun h => by have := l2 _ h; omega
  have b1 : m + t.type.cnt ≤ 1099511627776 := by omega
  have b2 : m + t.type.cnt + t.src.cnt ≤ 1099511627776 := by omega
  have HO1 := Lib.hid o1
  have HO2 := Lib.hid o2
  have HO3 := Lib.hid h3
  have ND1 := Lib.hid nd1
  have ND2 := Lib.hid nd2
  have ND3 := Lib.hid nd3
  have HD1 := Lib.hid hd1
  have HD2 := Lib.hid hd2
  have HMB := Lib.hid hmb
  have L1 := Lib.hid l1
  have L2 := Lib.hid l2
  have L3 := Lib.hid l3
  have N1 := Lib.hid n1
  have N2 := Lib.hid n2
  have NN := Lib.hid hn
  generalize t.kind = xk at *
  generalize t.num = xu at *
  generalize t.label = xl at *
  generalize t.name = xn at *
  clear h1 h2 h3 o1 o2 nd1 nd2 nd3 nd23 hd1 hd2 hnd hmb l1 l2 l3 n1 n2 hn
  go_enter Try.func23, Try.ntmps23
  go_wp2_with fail
  refine (markType_any t.type m _ f1 _ (HO1.out.below bal1) ND1.out hm0 b1).mono ?_
  rintro e w1 ⟨rfl, hv1, hc1⟩
  have c5 := chg_cell hc1 N1.out (cell_n0 5)
  have c6 := chg_cell hc1 N1.out (cell_n0 6)
  have c8 := chg_cell hc1 N1.out (cell_n0 8)
  have z1 := hc1.size
  have HC1 := Lib.hid hc1
  have HV1 := Lib.hid hv1
  have HP2 := Lib.hid (TyOwn.chgT hc1 (fun b hb h => HD1.out b h b (by simp [hb]) rfl) (HO2.out.below bal1))
  have HP3 := Lib.hid (COwn.move _ _ _ (fun b hb => (hc1.block b (by simp; have := L3.out b hb; omega) (fun h => HD1.out b h b (by simp [hb]) rfl)).trans (heap_alloc_old w _ (L3.out b hb))) HO3.out)
  clear hc1 hv1
  go_wp2_with fail
  refine (markType_any t.src (m + t.type.cnt) _ f2 _ HP2.out ND2.out (by omega) b2).mono ?_
  rintro e w2 ⟨rfl, hv2, hc2⟩
  have d8 := chg_cell hc2 N2.out c8
  have HC2 := Lib.hid hc2
  have HV2 := Lib.hid hv2
  have HQ1 := Lib.hid (TyOwn.chgT hc2 (fun b hb h => HD1.out b hb b (by simp [h]) rfl) HV1.out)
  have HQ3 := Lib.hid (COwn.move _ _ _ (fun b hb => hc2.block b (COwn.lt _ _ _ HP3.out b hb) (fun h => HD2.out b h b hb rfl)) HP3.out)
  clear c5 c6 c8 hc2 hv2
  go_wp2_with fail
  refine (markTermS_val t.kids (m + t.type.cnt + t.src.cnt) _ f3 _ HQ3.out ND3.out (by omega) (by have := HMB.out; omega)).mono ?_
  rintro e w3 ⟨rfl, hv3, hc3⟩
  have HC3 := Lib.hid hc3
  have HV3 := Lib.hid hv3
  have HR1 := Lib.hid (TyOwn.chgT hc3 (fun b hb h => HD1.out b hb b (by simp [h]) rfl) HQ1.out)
  have HR2 := Lib.hid (TyOwn.chgT hc3 (fun b hb h => HD2.out b hb b h rfl) HV2.out)
  clear hc3 d8 hv3
  go_wp2_with fail
  go_ret
  refine ⟨ret_int (by simp only [Int.natCast_add]; omega), ?_, (((Chg.of_below bal1).trans (HC1.out.mono (by simp; intro x hx; exact .inl hx))).trans (HC2.out.mono (by simp; intro x hx; exact .inr (.inl hx)))).trans (HC3.out.mono (by simp; intro x hx; exact .inr (.inr hx)))⟩
  obtain ⟨s1, e1, p1⟩ := HR1.out
  obtain ⟨s2, e2, p2⟩ := HR2.out
  simp only [Value.agg.injEq, Array.mk.injEq, List.cons.injEq, and_true, true_and] at e1 e2
  obtain ⟨-, rfl⟩ := e1
  obtain ⟨-, rfl⟩ := e2
  exact ⟨_, _, _, f1, f2, f3, rfl, rfl, NN.out, p1, p2, HV3.out⟩
set_option maxHeartbeats 2000000 in
theorem heldTerm_any (F : Nat → Prop) (t : Tm) (m : Int) (y : Value) (w : World) (hy : TmRep F w (t.markP m) y) (hm0 : 0 ≤ m) (hmb : m + t.mk9 ≤ 1099511627776) :
    Calls Try.prog 49 #[y, .int .i64 m] w fun e w' => e = .returned (.int .i64 (m + t.mk9)) ∧ Below w.heap.size w w' := by
  unfold Tm.mk9 at hmb ⊢
  unfold Tm.markP at hy
  generalize t.type = X1 at *
  generalize t.src = X2 at *
  generalize t.kids = X3 at *
  generalize t.kind = X4 at *
  generalize t.name = X5 at *
  generalize t.num = X6 at *
  generalize t.label = X7 at *
  have e1 : ∀ a b, (Ty.mk a b).kind = a := fun _ _ => rfl
  obtain ⟨k, nm, u, tk, ta, tn, tq, fk, fa, fn, fq, l, c, n, q, rfl⟩ := hy.shape
  obtain ⟨-, -, -, r4, -, r6, -, -, -, -, -, -, hty, hsr, hks⟩ := hy.parts
  simp only [Tm.type, Tm.src, Tm.kids, e1] at r4 r6 hty hsr hks
  subst r4 r6
  have HT := Lib.hid hty
  have HS := Lib.hid hsr
  have HK := Lib.hid hks
  have b1 : m + X1.cnt ≤ 1099511627776 := by omega
  have b2 : m + X1.cnt + X2.cnt ≤ 1099511627776 := by omega
  have HMB := Lib.hid hmb
  have j1 : decide (m + (X1.cnt : Int) < 0) = false := by simp; omega
  have j2 : decide (m + (X1.cnt : Int) + (X2.cnt : Int) < 0) = false := by simp; omega
  have j3 : decide (m + (X1.cnt : Int) + (X2.cnt : Int) + (Tm.mcnts X3 : Int) < 0) = false := by simp; omega
  clear hty hsr hks hy hmb
  go_enter Try.func49, Try.ntmps49
  go_wp2_with fail
  refine (heldType_any F X1 m _ _ (HT.out.below bal1) hm0 b1).mono ?_
  rintro e w1 ⟨rfl, hb1⟩
  have c5 := bcell hb1 (cell_n0 5)
  have c6 := bcell hb1 (cell_n0 6)
  have c8 := bcell hb1 (cell_n0 8)
  have l5 := World.block_lt_of_cell? _ _ c5
  have HB1 := Lib.hid (bstep bal1 hb1)
  clear hb1
  go_wp2_with fail
  refine (heldType_any F X2 (m + X1.cnt) _ _ (HS.out.below HB1.out) (by omega) b2).mono ?_
  rintro e w2 ⟨rfl, hb2⟩
  have d8 := bcell hb2 c8
  have l8 := World.block_lt_of_cell? _ _ d8
  have HB2 := Lib.hid (bstep HB1.out hb2)
  clear hb2 c5 c6 c8 l5
  go_wp2_with fail
  refine (heldTermS_any F X3 (m + X1.cnt + X2.cnt) _ _ (HK.out.below HB2.out) (by omega) (by have := HMB.out; omega)).mono ?_
  rintro e w3 ⟨rfl, hb3⟩
  have HB3 := Lib.hid (bstep HB2.out hb3)
  clear hb3 d8 l8
  go_wp2_with fail
  go_ret
  exact ⟨ret_int (by simp only [Int.natCast_add]; omega), HB3.out⟩
end Go.Proofs.Ytghgjpcibdfbmaa
