/-
  TermSame of the program and of the reference: equality of trees.
-/
import Derived.Test.YtghgjpcibdfbmaaRows
import Derived.Test.YtghgjpcibdfbmaaK0
import Derived.Test.YtghgjpcibdfbmaaK1
import Derived.Test.YtghgjpcibdfbmaaLaTy
import Derived.Test.YtghgjpcibdfbmaaK0
import Derived.Deep.RegionHeld3
namespace Go.Proofs.Ytghgjpcibdfbmaa
open Go.RowKit
set_option linter.unusedVariables false
set_option linter.unusedSimpArgs false
set_option maxRecDepth 100000

mutual
def Tm.same : Tm → Tm → Bool
  | .mk k s u t f l ts, .mk k' s' u' t' f' l' us => k == k' && s.toList == s'.toList && u == u' && t.same t' && f.same f' && l == l' && Tm.sames ts us
def Tm.sames : List Tm → List Tm → Bool
  | [], [] => true
  | t :: ts, u :: us => t.same u && Tm.sames ts us
  | _, _ => false
end
def tall2 (R : Tm → Tm → Bool) : List Tm → List Tm → Bool
  | [], [] => true
  | t :: ts, u :: us => R t u && tall2 R ts us
  | _, _ => false
theorem tall2_drop (R : Tm → Tm → Bool) (ts us : List Tm) (k : Nat) (h : k < ts.length) (h' : k < us.length) : tall2 R (ts.drop k) (us.drop k) = (R ts[k] us[k] && tall2 R (ts.drop (k + 1)) (us.drop (k + 1))) := by
  rw [List.drop_eq_getElem_cons h, List.drop_eq_getElem_cons h']; rfl
theorem tall2_len (R : Tm → Tm → Bool) : ∀ (ts us : List Tm), ts.length ≠ us.length → tall2 R ts us = false
  | [], [], h => absurd rfl h
  | [], _ :: _, _ => rfl
  | _ :: _, [], _ => rfl
  | t :: ts, u :: us, h => by
    have := tall2_len R ts us (fun e => h (by simp [e]))
    simp [tall2, this]
theorem tall2_end (R : Tm → Tm → Bool) (ts us : List Tm) (k : Nat) (h : ts.length ≤ k) (h' : us.length ≤ k) : tall2 R (ts.drop k) (us.drop k) = true := by
  rw [List.drop_eq_nil_of_le h, List.drop_eq_nil_of_le h']; rfl
theorem Tm.sames_all2 : ∀ ts us : List Tm, tall2 Tm.same ts us = Tm.sames ts us
  | [], [] => by unfold Tm.sames; rfl
  | [], _ :: _ => by unfold Tm.sames; rfl
  | _ :: _, [] => by unfold Tm.sames; rfl
  | t :: ts, u :: us => by unfold Tm.sames tall2; rw [Tm.sames_all2 ts us]
mutual
theorem Tm.same_refl : ∀ t : Tm, t.same t = true
  | .mk k s u t f l ts => by unfold Tm.same; rw [Tm.sames_refl ts, t.same_refl, f.same_refl]; simp
theorem Tm.sames_refl : ∀ ts : List Tm, Tm.sames ts ts = true
  | [] => by unfold Tm.sames; rfl
  | t :: ts => by unfold Tm.sames; rw [Tm.same_refl t, Tm.sames_refl ts]; rfl
end
set_option maxHeartbeats 1000000 in
theorem equalFunc_Tm (g : FuncId) (R : Tm → Tm → Bool) (F G : Nat → Prop) (ts us : List Tm) (ys zs : Value) (w : World) (hy : TmsRep F w ts ys) (hz : TmsRep G w us zs)
    (hcf : ∀ xs W, (callFunc g xs).run Try.prog W = .ok (.enter g xs) W)
    (hg : ∀ t ∈ ts, ∀ u ∈ us, ∀ (W : World) (y z : Value), TmRep F W t y → TmRep G W u z → Calls Try.prog g #[y, z] W fun e W' => e = .returned (.bool (R t u)) ∧ Below W.heap.size W W') :
    Calls Try.prog 73 #[ys, zs, .func (.func g) #[] #[]] w fun e w' => e = .returned (.bool (tall2 R ts us)) ∧ Below w.heap.size w w' := by
  have HG := Lib.hid hg
  clear hg
  obtain ⟨a, cap, rfl, h2, h3, -⟩ := hy.open
  obtain ⟨c, cap', rfl, g2, g3, -⟩ := hz.open
  unfold maxLen at h3 g3
  by_cases hl : ts.length = us.length
  · obtain ⟨n, hn⟩ : ∃ n, ts.length = n := ⟨_, rfl⟩
    rw [hn] at hl h2 hy
    rw [← hl] at g2 hz
    have HN := Lib.hid hn
    have HL := Lib.hid hl
    rw [hn, ← hl]
    clear hn hl
    go_enter Try.func73, Try.ntmps73
    go_wp2_with fail
    go_loopw [17] (fun i wr => ∃ k : Nat, k ≤ n ∧ i = .int .i64 k ∧ Below w.heap.size w wr ∧ Hid (tall2 R ts us = tall2 R (ts.drop k) (us.drop k))) (fun i _ => n - (intOf i).toNat)
    case atStart => exact ⟨0, by omega, rfl, Below.refl _ _, rfl⟩
    case round =>
      obtain ⟨j, hk, rfl, hbw, hR⟩ := hrel
      by_cases hlt : j < n
      · have hkt : j < ts.length := by rw [HN.out]; exact hlt
        have hku : j < us.length := by rw [← HL.out]; exact hlt
        obtain ⟨b, off, k0, nm0, u0, tk0, ta0, tn0, tq0, fk0, fa0, fn0, fq0, l0, a0, m0, q0, rfl, lb, e0, e1, e2, e3, e4, e5, e6, e7, e8, ht⟩ := hy.at hbw hkt
        obtain ⟨b', off', k0', nm0', u0', tk0', ta0', tn0', tq0', fk0', fa0', fn0', fq0', l0', a0', m0', q0', rfl, lb', e0', e1', e2', e3', e4', e5', e6', e7', e8', hu⟩ := hz.at hbw hku
        have hcall := HG.out ts[j] (List.getElem_mem hkt) us[j] (List.getElem_mem hku)
        have hstep := hR.out.trans (tall2_drop R ts us j hkt hku)
        generalize R ts[j] us[j] = r at hcall hstep
        have HC := Lib.hid hcall
        have HS := Lib.hid hstep
        clear hcall hstep hR
        cases r
        all_goals
          go_wp2_with fail
          refine (HC.out _ _ _ (ht.below bal2) (hu.below bal2)).mono ?_
          rintro e w1 ⟨rfl, hb1⟩
          go_wp2_with fail
        · go_ret
          exact ⟨ret_bool (by rw [HS.out]; rfl), bstep (bstep hbw bal2) hb1⟩
        · go_roundw
          case rel => exact ⟨j + 1, by omega, by go_num, bstep (bstep hbw bal2) hb1, by rw [Hid, HS.out]; rfl⟩
          case measure => simp [intOf]; omega
      · go_wp2_with fail
        go_ret
        exact ⟨ret_bool (by rw [hR.out, tall2_end _ _ _ _ (by rw [HN.out]; omega) (by rw [← HL.out]; omega)]), hbw⟩
  · have HL := Lib.hid hl
    go_enter Try.func73, Try.ntmps73
    go_wp2_with fail
    go_ret
    exact ⟨ret_bool (tall2_len R ts us HL.out).symm, Below.refl _ _⟩

theorem leaf_implSame_0 (k u l k' u' l' : Int) (nm nm' : ByteArray) (r1 r2 r3 : Bool) (h0 : (k == k') = true) (h1 : (nm.toList == nm'.toList) = true) (h2 : (u == u') = true) (h3 : (r1) = true) (h4 : (r2) = true) (h5 : (l == l') = true) : (r3 : Bool) = (k == k' && nm.toList == nm'.toList && u == u' && r1 && r2 && l == l' && r3) := by
  simp_all

theorem leaf_implSame_1 (k u l k' u' l' : Int) (nm nm' : ByteArray) (r1 r2 r3 : Bool) (h0 : (k == k') = true) (h1 : (nm.toList == nm'.toList) = true) (h2 : (u == u') = true) (h3 : (r1) = true) (h4 : (r2) = true) (h5 : (l == l') = false) : (false : Bool) = (k == k' && nm.toList == nm'.toList && u == u' && r1 && r2 && l == l' && r3) := by
  simp_all

theorem leaf_implSame_2 (k u l k' u' l' : Int) (nm nm' : ByteArray) (r1 r2 r3 : Bool) (h0 : (k == k') = true) (h1 : (nm.toList == nm'.toList) = true) (h2 : (u == u') = true) (h3 : (r1) = true) (h4 : (r2) = false) : (false : Bool) = (k == k' && nm.toList == nm'.toList && u == u' && r1 && r2 && l == l' && r3) := by
  simp_all

theorem leaf_implSame_3 (k u l k' u' l' : Int) (nm nm' : ByteArray) (r1 r2 r3 : Bool) (h0 : (k == k') = true) (h1 : (nm.toList == nm'.toList) = true) (h2 : (u == u') = true) (h3 : (r1) = false) : (false : Bool) = (k == k' && nm.toList == nm'.toList && u == u' && r1 && r2 && l == l' && r3) := by
  simp_all

theorem leaf_implSame_4 (k u l k' u' l' : Int) (nm nm' : ByteArray) (r1 r2 r3 : Bool) (h0 : (k == k') = true) (h1 : (nm.toList == nm'.toList) = true) (h2 : (u == u') = false) : (false : Bool) = (k == k' && nm.toList == nm'.toList && u == u' && r1 && r2 && l == l' && r3) := by
  simp_all

theorem leaf_implSame_5 (k u l k' u' l' : Int) (nm nm' : ByteArray) (r1 r2 r3 : Bool) (h0 : (k == k') = true) (h1 : (nm.toList == nm'.toList) = false) : (false : Bool) = (k == k' && nm.toList == nm'.toList && u == u' && r1 && r2 && l == l' && r3) := by
  simp_all

theorem leaf_implSame_6 (k u l k' u' l' : Int) (nm nm' : ByteArray) (r1 r2 r3 : Bool) (h0 : (k == k') = false) : (false : Bool) = (k == k' && nm.toList == nm'.toList && u == u' && r1 && r2 && l == l' && r3) := by
  simp_all

theorem leaf_specSame_7 (k u l k' u' l' : Int) (nm nm' : ByteArray) (r1 r2 r3 : Bool) (m m' : Nat) (h0 : (k == k') = true) (h1 : (nm.toList == nm'.toList) = true) (h2 : (u == u') = true) (h3 : (l == l') = true) (h4 : ((m : Int) == (m' : Int)) = true) (h5 : (r1) = true) (h6 : (r2) = true) (h7 : r3 = true) : (true : Bool) = (k == k' && nm.toList == nm'.toList && u == u' && r1 && r2 && l == l' && r3) := by
  simp_all

theorem leaf_specSame_8 (k u l k' u' l' : Int) (nm nm' : ByteArray) (r1 r2 r3 : Bool) (m m' : Nat) (h0 : (k == k') = true) (h1 : (nm.toList == nm'.toList) = true) (h2 : (u == u') = true) (h3 : (l == l') = true) (h4 : ((m : Int) == (m' : Int)) = true) (h5 : (r1) = true) (h6 : (r2) = false) : (false : Bool) = (k == k' && nm.toList == nm'.toList && u == u' && r1 && r2 && l == l' && r3) := by
  simp_all

theorem leaf_specSame_9 (k u l k' u' l' : Int) (nm nm' : ByteArray) (r1 r2 r3 : Bool) (m m' : Nat) (h0 : (k == k') = true) (h1 : (nm.toList == nm'.toList) = true) (h2 : (u == u') = true) (h3 : (l == l') = true) (h4 : ((m : Int) == (m' : Int)) = true) (h5 : (r1) = false) : (false : Bool) = (k == k' && nm.toList == nm'.toList && u == u' && r1 && r2 && l == l' && r3) := by
  simp_all

theorem leaf_specSame_10 (k u l k' u' l' : Int) (nm nm' : ByteArray) (r1 r2 r3 : Bool) (m m' : Nat) (h0 : (k == k') = true) (h1 : (nm.toList == nm'.toList) = true) (h2 : (u == u') = true) (h3 : (l == l') = true) (h4 : ((m : Int) == (m' : Int)) = false) (h5 : r3 = false) : (false : Bool) = (k == k' && nm.toList == nm'.toList && u == u' && r1 && r2 && l == l' && r3) := by
  simp_all

theorem leaf_specSame_11 (k u l k' u' l' : Int) (nm nm' : ByteArray) (r1 r2 r3 : Bool) (m m' : Nat) (h0 : (k == k') = true) (h1 : (nm.toList == nm'.toList) = true) (h2 : (u == u') = true) (h3 : (l == l') = false) : (false : Bool) = (k == k' && nm.toList == nm'.toList && u == u' && r1 && r2 && l == l' && r3) := by
  simp_all

theorem leaf_specSame_12 (k u l k' u' l' : Int) (nm nm' : ByteArray) (r1 r2 r3 : Bool) (m m' : Nat) (h0 : (k == k') = true) (h1 : (nm.toList == nm'.toList) = true) (h2 : (u == u') = false) : (false : Bool) = (k == k' && nm.toList == nm'.toList && u == u' && r1 && r2 && l == l' && r3) := by
  simp_all

theorem leaf_specSame_13 (k u l k' u' l' : Int) (nm nm' : ByteArray) (r1 r2 r3 : Bool) (m m' : Nat) (h0 : (k == k') = true) (h1 : (nm.toList == nm'.toList) = false) : (false : Bool) = (k == k' && nm.toList == nm'.toList && u == u' && r1 && r2 && l == l' && r3) := by
  simp_all

theorem leaf_specSame_14 (k u l k' u' l' : Int) (nm nm' : ByteArray) (r1 r2 r3 : Bool) (m m' : Nat) (h0 : (k == k') = false) : (false : Bool) = (k == k' && nm.toList == nm'.toList && u == u' && r1 && r2 && l == l' && r3) := by
  simp_all

set_option maxHeartbeats 2000000 in
theorem implTermSame (F G : Nat → Prop) (t : Tm) : ∀ (v : Tm) (y z : Value) (w : World), TmRep F w t y → TmRep G w v z →
    Calls Try.prog 27 #[y, z] w fun e w' => e = .returned (.bool (t.same v)) ∧ Below w.heap.size w w' := by
  intro v y z w hy hz
  have IH : ∀ t' ∈ t.kids, ∀ v' ∈ v.kids, ∀ (W : World) (y z : Value), TmRep F W t' y → TmRep G W v' z → Calls Try.prog 27 #[y, z] W fun e W' => e = .returned (.bool (t'.same v')) ∧ Below W.heap.size W W' :=
    fun t' ht v' _ W y z a b => implTermSame F G t' v' y z W a b
  obtain ⟨k, nm, u, tk, ta, tn, tq, fk, fa, fn, fq, l, c, m, q, rfl⟩ := hy.shape
  obtain ⟨k', nm', u', tk', ta', tn', tq', fk', fa', fn', fq', l', c', m', q', rfl⟩ := hz.shape
  obtain ⟨r1, r2, r3, r4, r5, r6, r7, r8, r9, rn, rm, rq, hty, hsr, hks⟩ := hy.parts
  obtain ⟨s1, s2, s3, s4, s5, s6, s7, s8, s9, sn, sm, sq, hty', hsr', hks'⟩ := hz.parts
  cases t with | mk kk nn uu tt ff ll ts => cases v with | mk kk' nn' uu' tt' ff' ll' ts' =>
  simp only [Tm.kind, Tm.name, Tm.num, Tm.type, Tm.src, Tm.label, Tm.kids] at *
  subst r1 r2 r3 r8 s1 s2 s3 s8
  have h1 := fun W (h : Below w.heap.size w W) => implTypeSame F G tt tt' _ _ W (hty.below h) (hty'.below h)
  have h2 := fun W (h : Below w.heap.size w W) => implTypeSame F G ff ff' _ _ W (hsr.below h) (hsr'.below h)
  have h3 := fun W (h : Below w.heap.size w W) => equalFunc_Tm _ _ F G ts ts' _ _ W (hks.below h) (hks'.below h) Try.call27 IH
  simp only [Tm.sames_all2] at h3
  unfold Tm.same
  generalize tt.same tt' = r1 at h1 ⊢
  generalize ff.same ff' = r2 at h2 ⊢
  generalize Tm.sames ts ts' = r3 at h3 ⊢
  have H1 := Lib.hid h1
  have H2 := Lib.hid h2
  have H3 := Lib.hid h3
  clear h1 h2 h3 IH hty hty' hsr hsr' hks hks' hy hz
  clear r9 r4 r5 r6 r7 s4 s5 s6 s7 s9
  obtain ⟨rr, hrr⟩ : ∃ r : Bool, (k == k' && nm.toList == nm'.toList && u == u' && r1 && r2 && l == l' && r3) = r := ⟨_, rfl⟩
  rw [hrr]
  have HT := Lib.hid hrr
  clear hrr
  go_enter Try.func27, Try.ntmps27
  rcases Bool.eq_false_or_eq_true (k == k') with q1 | q1
  · skip
    have nq1 : (k != k') = false := by simp only [bne, q1]; rfl
    rcases Bool.eq_false_or_eq_true (nm.toList == nm'.toList) with q2 | q2
    · skip
      have nq2 : (nm.toList != nm'.toList) = false := by simp only [bne, q2]; rfl
      rcases Bool.eq_false_or_eq_true (u == u') with q3 | q3
      · skip
        have nq3 : (u != u') = false := by simp only [bne, q3]; rfl
        rcases Bool.eq_false_or_eq_true (r1) with q4 | q4
        · have Hq4 := Lib.hid q4
          clear q4
          rcases Bool.eq_false_or_eq_true (r2) with q5 | q5
          · have Hq5 := Lib.hid q5
            clear q5
            rcases Bool.eq_false_or_eq_true (l == l') with q6 | q6
            · skip
              have nq6 : (l != l') = false := by simp only [bne, q6]; rfl
              go_wp2_with fail
              refine (H1.out _ bal2).mono ?_
              rintro e w1 ⟨rfl, hb1⟩
              rw [Hq4.out]
              have hB := (bstep bal2 hb1)
              have zw1 := hB.size
              have c0_5 : w1.cell? ⟨w.heap.size, 5, none⟩ = some (.int .i64 fk) := bcell hb1 (bcell bal1 (cell_new (by simp) 5))
              have c0_6 : w1.cell? ⟨w.heap.size, 6, none⟩ = some (.slice fa fn fq) := bcell hb1 (bcell bal1 (cell_new (by simp) 6))
              have c1_5 : w1.cell? ⟨w.heap.size + 1, 5, none⟩ = some (.int .i64 fk') := bcell hb1 (cell_new (by simp) 5)
              have c1_6 : w1.cell? ⟨w.heap.size + 1, 6, none⟩ = some (.slice fa' fn' fq') := bcell hb1 (cell_new (by simp) 6)
              have c0_7 : w1.cell? ⟨w.heap.size, 7, none⟩ = some (.int .i64 l) := bcell hb1 (bcell bal1 (cell_new (by simp) 7))
              have c1_7 : w1.cell? ⟨w.heap.size + 1, 7, none⟩ = some (.int .i64 l') := bcell hb1 (cell_new (by simp) 7)
              have c0_8 : w1.cell? ⟨w.heap.size, 8, none⟩ = some (.slice c m q) := bcell hb1 (bcell bal1 (cell_new (by simp) 8))
              have c1_8 : w1.cell? ⟨w.heap.size + 1, 8, none⟩ = some (.slice c' m' q') := bcell hb1 (cell_new (by simp) 8)
              have d0_w1 := World.block_lt_of_cell? _ _ c0_5
              have d1_w1 := World.block_lt_of_cell? _ _ c1_5
              go_wp2_with fail
              refine (H2.out _ hB).mono ?_
              rintro e w2 ⟨rfl, hb2⟩
              rw [Hq5.out]
              replace hB := (bstep hB hb2)
              have zw2 := hB.size
              replace c0_7 : w2.cell? ⟨w.heap.size, 7, none⟩ = some (.int .i64 l) := bcell hb2 (c0_7)
              replace c1_7 : w2.cell? ⟨w.heap.size + 1, 7, none⟩ = some (.int .i64 l') := bcell hb2 (c1_7)
              replace c0_8 : w2.cell? ⟨w.heap.size, 8, none⟩ = some (.slice c m q) := bcell hb2 (c0_8)
              replace c1_8 : w2.cell? ⟨w.heap.size + 1, 8, none⟩ = some (.slice c' m' q') := bcell hb2 (c1_8)
              have d0_w2 := World.block_lt_of_cell? _ _ c0_7
              have d1_w2 := World.block_lt_of_cell? _ _ c1_7
              go_wp2_with fail
              refine (H3.out _ hB).mono ?_
              rintro e w3 ⟨rfl, hb3⟩
              replace hB := (bstep hB hb3)
              have zw3 := hB.size
              go_wp2_with fail
              refine bodyPost_ret (v := .bool (r3)) (by simp [results, Try.results27, go_sem, bne]) rfl ?_
              exact ⟨ret_bool ((leaf_implSame_0 k u l k' u' l' nm nm' r1 r2 r3 q1 q2 q3 Hq4.out Hq5.out q6).trans HT.out), hB⟩
            · skip
              have nq6 : (l != l') = true := by simp only [bne, q6]; rfl
              go_wp2_with fail
              refine (H1.out _ bal2).mono ?_
              rintro e w4 ⟨rfl, hb4⟩
              rw [Hq4.out]
              have hB := (bstep bal2 hb4)
              have zw4 := hB.size
              have c0_5 : w4.cell? ⟨w.heap.size, 5, none⟩ = some (.int .i64 fk) := bcell hb4 (bcell bal1 (cell_new (by simp) 5))
              have c0_6 : w4.cell? ⟨w.heap.size, 6, none⟩ = some (.slice fa fn fq) := bcell hb4 (bcell bal1 (cell_new (by simp) 6))
              have c1_5 : w4.cell? ⟨w.heap.size + 1, 5, none⟩ = some (.int .i64 fk') := bcell hb4 (cell_new (by simp) 5)
              have c1_6 : w4.cell? ⟨w.heap.size + 1, 6, none⟩ = some (.slice fa' fn' fq') := bcell hb4 (cell_new (by simp) 6)
              have c0_7 : w4.cell? ⟨w.heap.size, 7, none⟩ = some (.int .i64 l) := bcell hb4 (bcell bal1 (cell_new (by simp) 7))
              have c1_7 : w4.cell? ⟨w.heap.size + 1, 7, none⟩ = some (.int .i64 l') := bcell hb4 (cell_new (by simp) 7)
              have d0_w4 := World.block_lt_of_cell? _ _ c0_5
              have d1_w4 := World.block_lt_of_cell? _ _ c1_5
              go_wp2_with fail
              refine (H2.out _ hB).mono ?_
              rintro e w5 ⟨rfl, hb5⟩
              rw [Hq5.out]
              replace hB := (bstep hB hb5)
              have zw5 := hB.size
              replace c0_7 : w5.cell? ⟨w.heap.size, 7, none⟩ = some (.int .i64 l) := bcell hb5 (c0_7)
              replace c1_7 : w5.cell? ⟨w.heap.size + 1, 7, none⟩ = some (.int .i64 l') := bcell hb5 (c1_7)
              have d0_w5 := World.block_lt_of_cell? _ _ c0_7
              have d1_w5 := World.block_lt_of_cell? _ _ c1_7
              go_wp2_with fail
              refine bodyPost_ret (v := .bool (false)) (by simp [results, Try.results27, go_sem, bne]) rfl ?_
              exact ⟨ret_bool ((leaf_implSame_1 k u l k' u' l' nm nm' r1 r2 r3 q1 q2 q3 Hq4.out Hq5.out q6).trans HT.out), hB⟩
          · have Hq5 := Lib.hid q5
            clear q5
            go_wp2_with fail
            refine (H1.out _ bal2).mono ?_
            rintro e w6 ⟨rfl, hb6⟩
            rw [Hq4.out]
            have hB := (bstep bal2 hb6)
            have zw6 := hB.size
            have c0_5 : w6.cell? ⟨w.heap.size, 5, none⟩ = some (.int .i64 fk) := bcell hb6 (bcell bal1 (cell_new (by simp) 5))
            have c0_6 : w6.cell? ⟨w.heap.size, 6, none⟩ = some (.slice fa fn fq) := bcell hb6 (bcell bal1 (cell_new (by simp) 6))
            have c1_5 : w6.cell? ⟨w.heap.size + 1, 5, none⟩ = some (.int .i64 fk') := bcell hb6 (cell_new (by simp) 5)
            have c1_6 : w6.cell? ⟨w.heap.size + 1, 6, none⟩ = some (.slice fa' fn' fq') := bcell hb6 (cell_new (by simp) 6)
            have d0_w6 := World.block_lt_of_cell? _ _ c0_5
            have d1_w6 := World.block_lt_of_cell? _ _ c1_5
            go_wp2_with fail
            refine (H2.out _ hB).mono ?_
            rintro e w7 ⟨rfl, hb7⟩
            rw [Hq5.out]
            replace hB := (bstep hB hb7)
            have zw7 := hB.size
            go_wp2_with fail
            refine bodyPost_ret (v := .bool (false)) (by simp [results, Try.results27, go_sem, bne]) rfl ?_
            exact ⟨ret_bool ((leaf_implSame_2 k u l k' u' l' nm nm' r1 r2 r3 q1 q2 q3 Hq4.out Hq5.out).trans HT.out), hB⟩
        · have Hq4 := Lib.hid q4
          clear q4
          go_wp2_with fail
          refine (H1.out _ bal2).mono ?_
          rintro e w8 ⟨rfl, hb8⟩
          rw [Hq4.out]
          have hB := (bstep bal2 hb8)
          have zw8 := hB.size
          go_wp2_with fail
          refine bodyPost_ret (v := .bool (false)) (by simp [results, Try.results27, go_sem, bne]) rfl ?_
          exact ⟨ret_bool ((leaf_implSame_3 k u l k' u' l' nm nm' r1 r2 r3 q1 q2 q3 Hq4.out).trans HT.out), hB⟩
      · skip
        have nq3 : (u != u') = true := by simp only [bne, q3]; rfl
        go_wp2_with fail
        refine bodyPost_ret (v := .bool (false)) (by simp [results, Try.results27, go_sem, bne]) rfl ?_
        exact ⟨ret_bool ((leaf_implSame_4 k u l k' u' l' nm nm' r1 r2 r3 q1 q2 q3).trans HT.out), bal2⟩
    · skip
      have nq2 : (nm.toList != nm'.toList) = true := by simp only [bne, q2]; rfl
      go_wp2_with fail
      refine bodyPost_ret (v := .bool (false)) (by simp [results, Try.results27, go_sem, bne]) rfl ?_
      exact ⟨ret_bool ((leaf_implSame_5 k u l k' u' l' nm nm' r1 r2 r3 q1 q2).trans HT.out), bal2⟩
  · skip
    have nq1 : (k != k') = true := by simp only [bne, q1]; rfl
    go_wp2_with fail
    refine bodyPost_ret (v := .bool (false)) (by simp [results, Try.results27, go_sem, bne]) rfl ?_
    exact ⟨ret_bool ((leaf_implSame_6 k u l k' u' l' nm nm' r1 r2 r3 q1).trans HT.out), bal2⟩
termination_by SizeOf.sizeOf t
decreasing_by exact Tm.kid_lt ht
set_option maxHeartbeats 2000000 in
theorem specTermSame (F G : Nat → Prop) (t : Tm) : ∀ (v : Tm) (y z : Value) (w : World), TmRep F w t y → TmRep G w v z →
    Calls Try.prog 26 #[y, z] w fun e w' => e = .returned (.bool (t.same v)) ∧ Below w.heap.size w w' := by
  intro v y z w hy hz
  have IH : ∀ t' ∈ t.kids, ∀ v' ∈ v.kids, ∀ (W : World) (y z : Value), TmRep F W t' y → TmRep G W v' z → Calls Try.prog 26 #[y, z] W fun e W' => e = .returned (.bool (t'.same v')) ∧ Below W.heap.size W W' :=
    fun t' ht v' _ W y z a b => specTermSame F G t' v' y z W a b
  obtain ⟨k, nm, u, tk, ta, tn, tq, fk, fa, fn, fq, l, c, m, q, rfl⟩ := hy.shape
  obtain ⟨k', nm', u', tk', ta', tn', tq', fk', fa', fn', fq', l', c', m', q', rfl⟩ := hz.shape
  obtain ⟨r1, r2, r3, r4, r5, r6, r7, r8, r9, rn, rm, rq, hty, hsr, hks⟩ := hy.parts
  obtain ⟨s1, s2, s3, s4, s5, s6, s7, s8, s9, sn, sm, sq, hty', hsr', hks'⟩ := hz.parts
  cases t with | mk kk nn uu tt ff ll ts => cases v with | mk kk' nn' uu' tt' ff' ll' ts' =>
  simp only [Tm.kind, Tm.name, Tm.num, Tm.type, Tm.src, Tm.label, Tm.kids] at *
  subst r1 r2 r3 r8 s1 s2 s3 s8
  have h1 := fun W (h : Below w.heap.size w W) => specTypeSame F G tt tt' _ _ W (hty.below h) (hty'.below h)
  have h2 := fun W (h : Below w.heap.size w W) => specTypeSame F G ff ff' _ _ W (hsr.below h) (hsr'.below h)
  unfold Tm.same
  rw [← Tm.sames_all2]
  generalize tt.same tt' = r1 at h1 ⊢
  generalize ff.same ff' = r2 at h2 ⊢
  obtain ⟨r3, hr3⟩ : ∃ r, tall2 Tm.same ts ts' = r := ⟨_, rfl⟩
  rw [hr3]
  have HR3 := Lib.hid hr3
  have H1 := Lib.hid h1
  have H2 := Lib.hid h2
  have IHH := Lib.hid IH
  have HN := Lib.hid r9
  have HL := Lib.hid s9
  clear h1 h2 IH hty hty' hsr hsr' hy hz hr3
  clear r4 r5 r6 r7 s4 s5 s6 s7 r9 s9
  unfold maxLen at rn sn rq sq
  obtain ⟨rr, hrr⟩ : ∃ r : Bool, (k == k' && nm.toList == nm'.toList && u == u' && r1 && r2 && l == l' && r3) = r := ⟨_, rfl⟩
  rw [hrr]
  have HT := Lib.hid hrr
  clear hrr
  go_enter Try.func26, Try.ntmps26
  rcases Bool.eq_false_or_eq_true (k == k') with q1 | q1
  · skip
    have nq1 : (k != k') = false := by simp only [bne, q1]; rfl
    rcases Bool.eq_false_or_eq_true (nm.toList == nm'.toList) with q2 | q2
    · skip
      have nq2 : (nm.toList != nm'.toList) = false := by simp only [bne, q2]; rfl
      rcases Bool.eq_false_or_eq_true (u == u') with q3 | q3
      · skip
        have nq3 : (u != u') = false := by simp only [bne, q3]; rfl
        rcases Bool.eq_false_or_eq_true (l == l') with q4 | q4
        · skip
          have nq4 : (l != l') = false := by simp only [bne, q4]; rfl
          rcases Bool.eq_false_or_eq_true ((m : Int) == (m' : Int)) with q5 | q5
          · skip
            have nq5 : ((m : Int) != (m' : Int)) = false := by simp only [bne, q5]; rfl
            rcases Bool.eq_false_or_eq_true (r1) with q6 | q6
            · have Hq6 := Lib.hid q6
              clear q6
              go_wp2_with fail
              refine (H1.out _ bal2).mono ?_
              rintro e w1 ⟨rfl, hb1⟩
              rw [Hq6.out]
              have hB := (bstep bal2 hb1)
              have zw1 := hB.size
              have c0_5 : w1.cell? ⟨w.heap.size, 5, none⟩ = some (.int .i64 fk) := bcell hb1 (bcell bal1 (cell_new (by simp) 5))
              have c0_6 : w1.cell? ⟨w.heap.size, 6, none⟩ = some (.slice fa fn fq) := bcell hb1 (bcell bal1 (cell_new (by simp) 6))
              have c1_5 : w1.cell? ⟨w.heap.size + 1, 5, none⟩ = some (.int .i64 fk') := bcell hb1 (cell_new (by simp) 5)
              have c1_6 : w1.cell? ⟨w.heap.size + 1, 6, none⟩ = some (.slice fa' fn' fq') := bcell hb1 (cell_new (by simp) 6)
              have c0_8 : w1.cell? ⟨w.heap.size, 8, none⟩ = some (.slice c m q) := bcell hb1 (bcell bal1 (cell_new (by simp) 8))
              have c1_8 : w1.cell? ⟨w.heap.size + 1, 8, none⟩ = some (.slice c' m' q') := bcell hb1 (cell_new (by simp) 8)
              have d0_w1 := World.block_lt_of_cell? _ _ c0_5
              have d1_w1 := World.block_lt_of_cell? _ _ c1_5
              go_wp2_with fail
              refine (H2.out _ hB).mono ?_
              rintro e w2 ⟨rfl, hb2⟩
              replace hB := (bstep hB hb2)
              have zw2 := hB.size
              replace c0_8 : w2.cell? ⟨w.heap.size, 8, none⟩ = some (.slice c m q) := bcell hb2 (c0_8)
              replace c1_8 : w2.cell? ⟨w.heap.size + 1, 8, none⟩ = some (.slice c' m' q') := bcell hb2 (c1_8)
              have d0_w2 := World.block_lt_of_cell? _ _ c0_8
              have d1_w2 := World.block_lt_of_cell? _ _ c1_8
              rcases Bool.eq_false_or_eq_true (r2) with q7 | q7
              · (try rw [q7])
                have Hq7 := Lib.hid q7
                clear q7
                go_wp2_with fail
                obtain rfl : m = m' := by have h := q5; simp at h; omega
                go_loopw [5] (fun i wr => ∃ j : Nat, j ≤ m ∧ i = .int .i64 j ∧ Below w.heap.size w wr ∧ wr.cell? ⟨w.heap.size, 8, none⟩ = some (.slice c m q) ∧ wr.cell? ⟨w.heap.size + 1, 8, none⟩ = some (.slice c' m q') ∧ w.heap.size + 1 < wr.heap.size ∧ Hid (tall2 Tm.same ts ts' = tall2 Tm.same (ts.drop j) (ts'.drop j))) (fun i _ => m - (intOf i).toNat)
                case atStart => exact ⟨0, by omega, rfl, hB, c0_8, c1_8, World.block_lt_of_cell? _ _ c1_8, rfl⟩
                case round =>
                  obtain ⟨j, hj, rfl, hbw, hc1, hc2, hsz, hR⟩ := hrel
                  by_cases hlt : j < m
                  · have hkt : j < ts.length := by rw [← HN.out]; exact hlt
                    have hku : j < ts'.length := by have := HL.out; omega
                    obtain ⟨b, off, k0, nm0, u0, tk0, ta0, tn0, tq0, fk0, fa0, fn0, fq0, l0, a0, m0, q0, rfl, lb, e0, e1, e2, e3, e4, e5, e6, e7, e8, ht⟩ := hks.at hbw hkt
                    obtain ⟨b', off', k0', nm0', u0', tk0', ta0', tn0', tq0', fk0', fa0', fn0', fq0', l0', a0', m0', q0', rfl, lb', e0', e1', e2', e3', e4', e5', e6', e7', e8', hu⟩ := hks'.at hbw hku
                    have hcall := IHH.out ts[j] (List.getElem_mem hkt) ts'[j] (List.getElem_mem hku)
                    have hstep := hR.out.trans (tall2_drop Tm.same ts ts' j hkt hku)
                    generalize ts[j].same ts'[j] = r at hcall hstep
                    have HC := Lib.hid hcall
                    have HS := Lib.hid hstep
                    clear hcall hstep hR
                    cases r
                    all_goals
                      go_wp2_with fail
                      go_region_held3 (fun w' => w'.cell? ⟨w.heap.size, 8, none⟩ = some (.slice (some ⟨b, off, none⟩) m q) ∧ w'.cell? ⟨w.heap.size + 1, 8, none⟩ = some (.slice (some ⟨b', off', none⟩) m q') ∧ w'.cell? ⟨b, off + j * 9, none⟩ = some (.int .i64 k0) ∧ w'.cell? ⟨b, off + j * 9 + 1, none⟩ = some (.string nm0) ∧ w'.cell? ⟨b, off + j * 9 + 2, none⟩ = some (.int .i64 u0) ∧ w'.cell? ⟨b, off + j * 9 + 3, none⟩ = some (.int .i64 tk0) ∧ w'.cell? ⟨b, off + j * 9 + 4, none⟩ = some (.slice ta0 tn0 tq0) ∧ w'.cell? ⟨b, off + j * 9 + 5, none⟩ = some (.int .i64 fk0) ∧ w'.cell? ⟨b, off + j * 9 + 6, none⟩ = some (.slice fa0 fn0 fq0) ∧ w'.cell? ⟨b, off + j * 9 + 7, none⟩ = some (.int .i64 l0) ∧ w'.cell? ⟨b, off + j * 9 + 8, none⟩ = some (.slice a0 m0 q0) ∧ w'.cell? ⟨b', off' + j * 9, none⟩ = some (.int .i64 k0') ∧ w'.cell? ⟨b', off' + j * 9 + 1, none⟩ = some (.string nm0') ∧ w'.cell? ⟨b', off' + j * 9 + 2, none⟩ = some (.int .i64 u0') ∧ w'.cell? ⟨b', off' + j * 9 + 3, none⟩ = some (.int .i64 tk0') ∧ w'.cell? ⟨b', off' + j * 9 + 4, none⟩ = some (.slice ta0' tn0' tq0') ∧ w'.cell? ⟨b', off' + j * 9 + 5, none⟩ = some (.int .i64 fk0') ∧ w'.cell? ⟨b', off' + j * 9 + 6, none⟩ = some (.slice fa0' fn0' fq0') ∧ w'.cell? ⟨b', off' + j * 9 + 7, none⟩ = some (.int .i64 l0') ∧ w'.cell? ⟨b', off' + j * 9 + 8, none⟩ = some (.slice a0' m0' q0'))
                        (first | go_keep | exact ⟨bcelld hb1 hc1, bcelld hb1 hc2, bcelld hb1 e0, bcelld hb1 e1, bcelld hb1 e2, bcelld hb1 e3, bcelld hb1 e4, bcelld hb1 e5, bcelld hb1 e6, bcelld hb1 e7, bcelld hb1 e8, bcelld hb1 e0', bcelld hb1 e1', bcelld hb1 e2', bcelld hb1 e3', bcelld hb1 e4', bcelld hb1 e5', bcelld hb1 e6', bcelld hb1 e7', bcelld hb1 e8'⟩)
                        (first | (go_at_call 26; refine (HC.out _ _ _ (ht.below bdr) (hu.below bdr)).mono ?_; rintro e w1 ⟨rfl, hb1⟩))
                      go_wp2_with fail
                    · go_ret
                      exact ⟨ret_bool (by rw [← HT.out, ← HR3.out, HS.out]; simp), bdrew hbw hb1⟩
                    · go_roundw
                      case rel => exact ⟨j + 1, by omega, by go_num, bdrew hbw hb1, bcelld hb1 hc1, bcelld hb1 hc2, Nat.lt_of_lt_of_le hsz hb1.size, by rw [Hid, HS.out]; rfl⟩
                      case measure => simp [intOf]; omega
                  · have hr3 : r3 = true := by rw [← HR3.out, hR.out, tall2_end _ _ _ _ (by have := HN.out; omega) (by have := HL.out; omega)]
                    go_wp2_with fail
                    refine bodyPost_ret (v := .bool (true)) (by simp [results, Try.results26, go_sem, bne]) rfl ?_
                    exact ⟨ret_bool ((leaf_specSame_7 k u l k' u' l' nm nm' r1 r2 r3 m m q1 q2 q3 q4 q5 Hq6.out Hq7.out hr3).trans HT.out), hbw⟩
              · (try rw [q7])
                have Hq7 := Lib.hid q7
                clear q7
                go_wp2_with fail
                refine bodyPost_ret (v := .bool (false)) (by simp [results, Try.results26, go_sem, bne]) rfl ?_
                exact ⟨ret_bool ((leaf_specSame_8 k u l k' u' l' nm nm' r1 r2 r3 m m' q1 q2 q3 q4 q5 Hq6.out Hq7.out).trans HT.out), hB⟩
            · have Hq6 := Lib.hid q6
              clear q6
              go_wp2_with fail
              refine (H1.out _ bal2).mono ?_
              rintro e w3 ⟨rfl, hb3⟩
              rw [Hq6.out]
              have hB := (bstep bal2 hb3)
              have zw3 := hB.size
              go_wp2_with fail
              refine bodyPost_ret (v := .bool (false)) (by simp [results, Try.results26, go_sem, bne]) rfl ?_
              exact ⟨ret_bool ((leaf_specSame_9 k u l k' u' l' nm nm' r1 r2 r3 m m' q1 q2 q3 q4 q5 Hq6.out).trans HT.out), hB⟩
          · skip
            have nq5 : ((m : Int) != (m' : Int)) = true := by simp only [bne, q5]; rfl
            go_wp2_with fail
            refine bodyPost_ret (v := .bool (false)) (by simp [results, Try.results26, go_sem, bne]) rfl ?_
            exact ⟨ret_bool ((leaf_specSame_10 k u l k' u' l' nm nm' r1 r2 r3 m m' q1 q2 q3 q4 q5 (by rw [← HR3.out]; exact tall2_len _ _ _ (by have h := q5; have := HN.out; have := HL.out; simp at h; omega))).trans HT.out), bal2⟩
        · skip
          have nq4 : (l != l') = true := by simp only [bne, q4]; rfl
          go_wp2_with fail
          refine bodyPost_ret (v := .bool (false)) (by simp [results, Try.results26, go_sem, bne]) rfl ?_
          exact ⟨ret_bool ((leaf_specSame_11 k u l k' u' l' nm nm' r1 r2 r3 m m' q1 q2 q3 q4).trans HT.out), bal2⟩
      · skip
        have nq3 : (u != u') = true := by simp only [bne, q3]; rfl
        go_wp2_with fail
        refine bodyPost_ret (v := .bool (false)) (by simp [results, Try.results26, go_sem, bne]) rfl ?_
        exact ⟨ret_bool ((leaf_specSame_12 k u l k' u' l' nm nm' r1 r2 r3 m m' q1 q2 q3).trans HT.out), bal2⟩
    · skip
      have nq2 : (nm.toList != nm'.toList) = true := by simp only [bne, q2]; rfl
      go_wp2_with fail
      refine bodyPost_ret (v := .bool (false)) (by simp [results, Try.results26, go_sem, bne]) rfl ?_
      exact ⟨ret_bool ((leaf_specSame_13 k u l k' u' l' nm nm' r1 r2 r3 m m' q1 q2).trans HT.out), bal2⟩
  · skip
    have nq1 : (k != k') = true := by simp only [bne, q1]; rfl
    go_wp2_with fail
    refine bodyPost_ret (v := .bool (false)) (by simp [results, Try.results26, go_sem, bne]) rfl ?_
    exact ⟨ret_bool ((leaf_specSame_14 k u l k' u' l' nm nm' r1 r2 r3 m m' q1).trans HT.out), bal2⟩
termination_by SizeOf.sizeOf t
decreasing_by exact Tm.kid_lt ht
end Go.Proofs.Ytghgjpcibdfbmaa
