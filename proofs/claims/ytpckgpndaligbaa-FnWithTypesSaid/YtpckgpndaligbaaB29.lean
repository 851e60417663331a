/-
  TermSame of the program and of the reference: equality of trees.
  Nodes that have a type of their own; terms that are alike: plain facts.
  Functions that make types.
-/
import Derived.Test.YtpckgpndaligbaaRows
import Derived.Test.YtpckgpndaligbaaB4
import Derived.Test.YtpckgpndaligbaaB28
import Derived.Test.YtpckgpndaligbaaB3
import Derived.Deep.RegionHeld3
import Derived.Test.YtpckgpndaligbaaB27
import Derived.Test.YtpckgpndaligbaaB5
namespace Go.Proofs.Ytpckgpndaligbaa
open Go.RowKit
set_option linter.unusedVariables false
set_option linter.unusedSimpArgs false
set_option maxRecDepth 100000

mutual
def Tm.same : Tm → Tm → Bool
  | .mk k s u t f l ts, .mk k' s' u' t' f' l' us => k == k' && s.toList == s'.toList && u == u' && t.same t' && f.same f' && l == l' && Tm.sames ts us
def Tm.sames : List Tm → List Tm → Bool
  | [], [] => true
  | t :: ts, u :: us => t.same u && Tm.sames ts us
  | _, _ => false
end
def tall2 (R : Tm → Tm → Bool) : List Tm → List Tm → Bool
  | [], [] => true
  | t :: ts, u :: us => R t u && tall2 R ts us
  | _, _ => false
theorem tall2_drop (R : Tm → Tm → Bool) (ts us : List Tm) (k : Nat) (h : k < ts.length) (h' : k < us.length) : tall2 R (ts.drop k) (us.drop k) = (R ts[k] us[k] && tall2 R (ts.drop (k + 1)) (us.drop (k + 1))) := by
  rw [List.drop_eq_getElem_cons h, List.drop_eq_getElem_cons h']; rfl
theorem tall2_len (R : Tm → Tm → Bool) : ∀ (ts us : List Tm), ts.length ≠ us.length → tall2 R ts us = false
  | [], [], h => absurd rfl h
  | [], _ :: _, _ => rfl
  | _ :: _, [], _ => rfl
  | t :: ts, u :: us, h => by
    have := tall2_len R ts us (fun e => h (by simp [e]))
    simp [tall2, this]
theorem tall2_end (R : Tm → Tm → Bool) (ts us : List Tm) (k : Nat) (h : ts.length ≤ k) (h' : us.length ≤ k) : tall2 R (ts.drop k) (us.drop k) = true := by
  rw [List.drop_eq_nil_of_le h, List.drop_eq_nil_of_le h']; rfl
theorem Tm.sames_all2 : ∀ ts us : List Tm, tall2 Tm.same ts us = Tm.sames ts us
  | [], [] => by unfold Tm.sames; rfl
  | [], _ :: _ => by unfold Tm.sames; rfl
  | _ :: _, [] => by unfold Tm.sames; rfl
  | t :: ts, u :: us => by unfold Tm.sames tall2; rw [Tm.sames_all2 ts us]
mutual
theorem Tm.same_refl : ∀ t : Tm, t.same t = true
  | .mk k s u t f l ts => by unfold Tm.same; rw [Tm.sames_refl ts, t.same_refl, f.same_refl]; simp
theorem Tm.sames_refl : ∀ ts : List Tm, Tm.sames ts ts = true
  | [] => by unfold Tm.sames; rfl
  | t :: ts => by unfold Tm.sames; rw [Tm.same_refl t, Tm.sames_refl ts]; rfl
end
set_option maxHeartbeats 1000000 in
theorem equalFunc_Tm (g : FuncId) (R : Tm → Tm → Bool) (F G : Nat → Prop) (ts us : List Tm) (ys zs : Value) (w : World) (hy : TmsRep F w ts ys) (hz : TmsRep G w us zs)
    (hcf : ∀ xs W, (callFunc g xs).run Try.prog W = .ok (.enter g xs) W)
    (hg : ∀ t ∈ ts, ∀ u ∈ us, ∀ (W : World) (y z : Value), TmRep F W t y → TmRep G W u z → Calls Try.prog g #[y, z] W fun e W' => e = .returned (.bool (R t u)) ∧ Below W.heap.size W W') :
    Calls Try.prog 27 #[ys, zs, .func (.func g) #[] #[]] w fun e w' => e = .returned (.bool (tall2 R ts us)) ∧ Below w.heap.size w w' := by
  have HG := Lib.hid hg
  clear hg
  obtain ⟨a, cap, rfl, h2, h3, -⟩ := hy.open
  obtain ⟨c, cap', rfl, g2, g3, -⟩ := hz.open
  unfold maxLen at h3 g3
  by_cases hl : ts.length = us.length
  · obtain ⟨n, hn⟩ : ∃ n, ts.length = n := ⟨_, rfl⟩
    rw [hn] at hl h2 hy
    rw [← hl] at g2 hz
    have HN := Lib.hid hn
    have HL := Lib.hid hl
    rw [hn, ← hl]
    clear hn hl
    go_enter Try.func27, Try.ntmps27
    go_wp2_with fail
    go_loopw [17] (fun i wr => ∃ k : Nat, k ≤ n ∧ i = .int .i64 k ∧ Below w.heap.size w wr ∧ Hid (tall2 R ts us = tall2 R (ts.drop k) (us.drop k))) (fun i _ => n - (intOf i).toNat)
    case atStart => exact ⟨0, by omega, rfl, Below.refl _ _, rfl⟩
    case round =>
      obtain ⟨j, hk, rfl, hbw, hR⟩ := hrel
      by_cases hlt : j < n
      · have hkt : j < ts.length := by rw [HN.out]; exact hlt
        have hku : j < us.length := by rw [← HL.out]; exact hlt
        obtain ⟨b, off, k0, nm0, u0, tk0, ta0, tn0, tq0, fk0, fa0, fn0, fq0, l0, a0, m0, q0, rfl, lb, e0, e1, e2, e3, e4, e5, e6, e7, e8, ht⟩ := hy.at hbw hkt
        obtain ⟨b', off', k0', nm0', u0', tk0', ta0', tn0', tq0', fk0', fa0', fn0', fq0', l0', a0', m0', q0', rfl, lb', e0', e1', e2', e3', e4', e5', e6', e7', e8', hu⟩ := hz.at hbw hku
        have hcall := HG.out ts[j] (List.getElem_mem hkt) us[j] (List.getElem_mem hku)
        have hstep := hR.out.trans (tall2_drop R ts us j hkt hku)
        generalize R ts[j] us[j] = r at hcall hstep
        have HC := Lib.hid hcall
        have HS := Lib.hid hstep
        clear hcall hstep hR
        cases r
        all_goals
          go_wp2_with fail
          refine (HC.out _ _ _ (ht.below bal2) (hu.below bal2)).mono ?_
          rintro e w1 ⟨rfl, hb1⟩
          go_wp2_with fail
        · go_ret
          exact ⟨ret_bool (by rw [HS.out]; rfl), bstep (bstep hbw bal2) hb1⟩
        · go_roundw
          case rel => exact ⟨j + 1, by omega, by go_num, bstep (bstep hbw bal2) hb1, by rw [Hid, HS.out]; rfl⟩
          case measure => simp [intOf]; omega
      · go_wp2_with fail
        go_ret
        exact ⟨ret_bool (by rw [hR.out, tall2_end _ _ _ _ (by rw [HN.out]; omega) (by rw [← HL.out]; omega)]), hbw⟩
  · have HL := Lib.hid hl
    go_enter Try.func27, Try.ntmps27
    go_wp2_with fail
    go_ret
    exact ⟨ret_bool (tall2_len R ts us HL.out).symm, Below.refl _ _⟩

theorem leaf_implSame_0 (k u l k' u' l' : Int) (nm nm' : ByteArray) (r1 r2 r3 : Bool) (h0 : (k == k') = true) (h1 : (nm.toList == nm'.toList) = true) (h2 : (u == u') = true) (h3 : (r1) = true) (h4 : (r2) = true) (h5 : (l == l') = true) : (r3 : Bool) = (k == k' && nm.toList == nm'.toList && u == u' && r1 && r2 && l == l' && r3) := by
  simp_all

theorem leaf_implSame_1 (k u l k' u' l' : Int) (nm nm' : ByteArray) (r1 r2 r3 : Bool) (h0 : (k == k') = true) (h1 : (nm.toList == nm'.toList) = true) (h2 : (u == u') = true) (h3 : (r1) = true) (h4 : (r2) = true) (h5 : (l == l') = false) : (false : Bool) = (k == k' && nm.toList == nm'.toList && u == u' && r1 && r2 && l == l' && r3) := by
  simp_all

theorem leaf_implSame_2 (k u l k' u' l' : Int) (nm nm' : ByteArray) (r1 r2 r3 : Bool) (h0 : (k == k') = true) (h1 : (nm.toList == nm'.toList) = true) (h2 : (u == u') = true) (h3 : (r1) = true) (h4 : (r2) = false) : (false : Bool) = (k == k' && nm.toList == nm'.toList && u == u' && r1 && r2 && l == l' && r3) := by
  simp_all

theorem leaf_implSame_3 (k u l k' u' l' : Int) (nm nm' : ByteArray) (r1 r2 r3 : Bool) (h0 : (k == k') = true) (h1 : (nm.toList == nm'.toList) = true) (h2 : (u == u') = true) (h3 : (r1) = false) : (false : Bool) = (k == k' && nm.toList == nm'.toList && u == u' && r1 && r2 && l == l' && r3) := by
  simp_all

theorem leaf_implSame_4 (k u l k' u' l' : Int) (nm nm' : ByteArray) (r1 r2 r3 : Bool) (h0 : (k == k') = true) (h1 : (nm.toList == nm'.toList) = true) (h2 : (u == u') = false) : (false : Bool) = (k == k' && nm.toList == nm'.toList && u == u' && r1 && r2 && l == l' && r3) := by
  simp_all

theorem leaf_implSame_5 (k u l k' u' l' : Int) (nm nm' : ByteArray) (r1 r2 r3 : Bool) (h0 : (k == k') = true) (h1 : (nm.toList == nm'.toList) = false) : (false : Bool) = (k == k' && nm.toList == nm'.toList && u == u' && r1 && r2 && l == l' && r3) := by
  simp_all

theorem leaf_implSame_6 (k u l k' u' l' : Int) (nm nm' : ByteArray) (r1 r2 r3 : Bool) (h0 : (k == k') = false) : (false : Bool) = (k == k' && nm.toList == nm'.toList && u == u' && r1 && r2 && l == l' && r3) := by
  simp_all

theorem leaf_specSame_7 (k u l k' u' l' : Int) (nm nm' : ByteArray) (r1 r2 r3 : Bool) (m m' : Nat) (h0 : (k == k') = true) (h1 : (nm.toList == nm'.toList) = true) (h2 : (u == u') = true) (h3 : (l == l') = true) (h4 : ((m : Int) == (m' : Int)) = true) (h5 : (r1) = true) (h6 : (r2) = true) (h7 : r3 = true) : (true : Bool) = (k == k' && nm.toList == nm'.toList && u == u' && r1 && r2 && l == l' && r3) := by
  simp_all

theorem leaf_specSame_8 (k u l k' u' l' : Int) (nm nm' : ByteArray) (r1 r2 r3 : Bool) (m m' : Nat) (h0 : (k == k') = true) (h1 : (nm.toList == nm'.toList) = true) (h2 : (u == u') = true) (h3 : (l == l') = true) (h4 : ((m : Int) == (m' : Int)) = true) (h5 : (r1) = true) (h6 : (r2) = false) : (false : Bool) = (k == k' && nm.toList == nm'.toList && u == u' && r1 && r2 && l == l' && r3) := by
  simp_all

theorem leaf_specSame_9 (k u l k' u' l' : Int) (nm nm' : ByteArray) (r1 r2 r3 : Bool) (m m' : Nat) (h0 : (k == k') = true) (h1 : (nm.toList == nm'.toList) = true) (h2 : (u == u') = true) (h3 : (l == l') = true) (h4 : ((m : Int) == (m' : Int)) = true) (h5 : (r1) = false) : (false : Bool) = (k == k' && nm.toList == nm'.toList && u == u' && r1 && r2 && l == l' && r3) := by
  simp_all

theorem leaf_specSame_10 (k u l k' u' l' : Int) (nm nm' : ByteArray) (r1 r2 r3 : Bool) (m m' : Nat) (h0 : (k == k') = true) (h1 : (nm.toList == nm'.toList) = true) (h2 : (u == u') = true) (h3 : (l == l') = true) (h4 : ((m : Int) == (m' : Int)) = false) (h5 : r3 = false) : (false : Bool) = (k == k' && nm.toList == nm'.toList && u == u' && r1 && r2 && l == l' && r3) := by
  simp_all

theorem leaf_specSame_11 (k u l k' u' l' : Int) (nm nm' : ByteArray) (r1 r2 r3 : Bool) (m m' : Nat) (h0 : (k == k') = true) (h1 : (nm.toList == nm'.toList) = true) (h2 : (u == u') = true) (h3 : (l == l') = false) : (false : Bool) = (k == k' && nm.toList == nm'.toList && u == u' && r1 && r2 && l == l' && r3) := by
  simp_all

theorem leaf_specSame_12 (k u l k' u' l' : Int) (nm nm' : ByteArray) (r1 r2 r3 : Bool) (m m' : Nat) (h0 : (k == k') = true) (h1 : (nm.toList == nm'.toList) = true) (h2 : (u == u') = false) : (false : Bool) = (k == k' && nm.toList == nm'.toList && u == u' && r1 && r2 && l == l' && r3) := by
  simp_all

theorem leaf_specSame_13 (k u l k' u' l' : Int) (nm nm' : ByteArray) (r1 r2 r3 : Bool) (m m' : Nat) (h0 : (k == k') = true) (h1 : (nm.toList == nm'.toList) = false) : (false : Bool) = (k == k' && nm.toList == nm'.toList && u == u' && r1 && r2 && l == l' && r3) := by
  simp_all

theorem leaf_specSame_14 (k u l k' u' l' : Int) (nm nm' : ByteArray) (r1 r2 r3 : Bool) (m m' : Nat) (h0 : (k == k') = false) : (false : Bool) = (k == k' && nm.toList == nm'.toList && u == u' && r1 && r2 && l == l' && r3) := by
  simp_all

set_option maxHeartbeats 2000000 in
theorem implTermSame (F G : Nat → Prop) (t : Tm) : ∀ (v : Tm) (y z : Value) (w : World), TmRep F w t y → TmRep G w v z →
    Calls Try.prog 7 #[y, z] w fun e w' => e = .returned (.bool (t.same v)) ∧ Below w.heap.size w w' := by
  intro v y z w hy hz
  have IH : ∀ t' ∈ t.kids, ∀ v' ∈ v.kids, ∀ (W : World) (y z : Value), TmRep F W t' y → TmRep G W v' z → Calls Try.prog 7 #[y, z] W fun e W' => e = .returned (.bool (t'.same v')) ∧ Below W.heap.size W W' :=
    fun t' ht v' _ W y z a b => implTermSame F G t' v' y z W a b
  obtain ⟨k, nm, u, tk, ta, tn, tq, fk, fa, fn, fq, l, c, m, q, rfl⟩ := hy.shape
  obtain ⟨k', nm', u', tk', ta', tn', tq', fk', fa', fn', fq', l', c', m', q', rfl⟩ := hz.shape
  obtain ⟨r1, r2, r3, r4, r5, r6, r7, r8, r9, rn, rm, rq, hty, hsr, hks⟩ := hy.parts
  obtain ⟨s1, s2, s3, s4, s5, s6, s7, s8, s9, sn, sm, sq, hty', hsr', hks'⟩ := hz.parts
  cases t with | mk kk nn uu tt ff ll ts => cases v with | mk kk' nn' uu' tt' ff' ll' ts' =>
  simp only [Tm.kind, Tm.name, Tm.num, Tm.type, Tm.src, Tm.label, Tm.kids] at *
  subst r1 r2 r3 r8 s1 s2 s3 s8
  have h1 := fun W (h : Below w.heap.size w W) => implTypeSame F G tt tt' _ _ W (hty.below h) (hty'.below h)
  have h2 := fun W (h : Below w.heap.size w W) => implTypeSame F G ff ff' _ _ W (hsr.below h) (hsr'.below h)
  have h3 := fun W (h : Below w.heap.size w W) => equalFunc_Tm _ _ F G ts ts' _ _ W (hks.below h) (hks'.below h) Try.call7 IH
  simp only [Tm.sames_all2] at h3
  unfold Tm.same
  generalize tt.same tt' = r1 at h1 ⊢
  generalize ff.same ff' = r2 at h2 ⊢
  generalize Tm.sames ts ts' = r3 at h3 ⊢
  have H1 := Lib.hid h1
  have H2 := Lib.hid h2
  have H3 := Lib.hid h3
  clear h1 h2 h3 IH hty hty' hsr hsr' hks hks' hy hz
  clear r9 r4 r5 r6 r7 s4 s5 s6 s7 s9
  obtain ⟨rr, hrr⟩ : ∃ r : Bool, (k == k' && nm.toList == nm'.toList && u == u' && r1 && r2 && l == l' && r3) = r := ⟨_, rfl⟩
  rw [hrr]
  have HT := Lib.hid hrr
  clear hrr
  go_enter Try.func7, Try.ntmps7
  rcases Bool.eq_false_or_eq_true (k == k') with q1 | q1
  · skip
    have nq1 : (k != k') = false := by simp only [bne, q1]; rfl
    rcases Bool.eq_false_or_eq_true (nm.toList == nm'.toList) with q2 | q2
    · skip
      have nq2 : (nm.toList != nm'.toList) = false := by simp only [bne, q2]; rfl
      rcases Bool.eq_false_or_eq_true (u == u') with q3 | q3
      · skip
        have nq3 : (u != u') = false := by simp only [bne, q3]; rfl
        rcases Bool.eq_false_or_eq_true (r1) with q4 | q4
        · have Hq4 := Lib.hid q4
          clear q4
          rcases Bool.eq_false_or_eq_true (r2) with q5 | q5
          · have Hq5 := Lib.hid q5
            clear q5
            rcases Bool.eq_false_or_eq_true (l == l') with q6 | q6
            · skip
              have nq6 : (l != l') = false := by simp only [bne, q6]; rfl
              go_wp2_with fail
              refine (H1.out _ bal2).mono ?_
              rintro e w1 ⟨rfl, hb1⟩
              rw [Hq4.out]
              have hB := (bstep bal2 hb1)
              have zw1 := hB.size
              have c0_5 : w1.cell? ⟨w.heap.size, 5, none⟩ = some (.int .i64 fk) := bcell hb1 (bcell bal1 (cell_new (by simp) 5))
              have c0_6 : w1.cell? ⟨w.heap.size, 6, none⟩ = some (.slice fa fn fq) := bcell hb1 (bcell bal1 (cell_new (by simp) 6))
              have c1_5 : w1.cell? ⟨w.heap.size + 1, 5, none⟩ = some (.int .i64 fk') := bcell hb1 (cell_new (by simp) 5)
              have c1_6 : w1.cell? ⟨w.heap.size + 1, 6, none⟩ = some (.slice fa' fn' fq') := bcell hb1 (cell_new (by simp) 6)
              have c0_7 : w1.cell? ⟨w.heap.size, 7, none⟩ = some (.int .i64 l) := bcell hb1 (bcell bal1 (cell_new (by simp) 7))
              have c1_7 : w1.cell? ⟨w.heap.size + 1, 7, none⟩ = some (.int .i64 l') := bcell hb1 (cell_new (by simp) 7)
              have c0_8 : w1.cell? ⟨w.heap.size, 8, none⟩ = some (.slice c m q) := bcell hb1 (bcell bal1 (cell_new (by simp) 8))
              have c1_8 : w1.cell? ⟨w.heap.size + 1, 8, none⟩ = some (.slice c' m' q') := bcell hb1 (cell_new (by simp) 8)
              have d0_w1 := World.block_lt_of_cell? _ _ c0_5
              have d1_w1 := World.block_lt_of_cell? _ _ c1_5
              go_wp2_with fail
              refine (H2.out _ hB).mono ?_
              rintro e w2 ⟨rfl, hb2⟩
              rw [Hq5.out]
              replace hB := (bstep hB hb2)
              have zw2 := hB.size
              replace c0_7 : w2.cell? ⟨w.heap.size, 7, none⟩ = some (.int .i64 l) := bcell hb2 (c0_7)
              replace c1_7 : w2.cell? ⟨w.heap.size + 1, 7, none⟩ = some (.int .i64 l') := bcell hb2 (c1_7)
              replace c0_8 : w2.cell? ⟨w.heap.size, 8, none⟩ = some (.slice c m q) := bcell hb2 (c0_8)
              replace c1_8 : w2.cell? ⟨w.heap.size + 1, 8, none⟩ = some (.slice c' m' q') := bcell hb2 (c1_8)
              have d0_w2 := World.block_lt_of_cell? _ _ c0_7
              have d1_w2 := World.block_lt_of_cell? _ _ c1_7
              go_wp2_with fail
              refine (H3.out _ hB).mono ?_
              rintro e w3 ⟨rfl, hb3⟩
              replace hB := (bstep hB hb3)
              have zw3 := hB.size
              go_wp2_with fail
              refine bodyPost_ret (v := .bool (r3)) (by simp [results, Try.results7, go_sem, bne]) rfl ?_
              exact ⟨ret_bool ((leaf_implSame_0 k u l k' u' l' nm nm' r1 r2 r3 q1 q2 q3 Hq4.out Hq5.out q6).trans HT.out), hB⟩
            · skip
              have nq6 : (l != l') = true := by simp only [bne, q6]; rfl
              go_wp2_with fail
              refine (H1.out _ bal2).mono ?_
              rintro e w4 ⟨rfl, hb4⟩
              rw [Hq4.out]
              have hB := (bstep bal2 hb4)
              have zw4 := hB.size
              have c0_5 : w4.cell? ⟨w.heap.size, 5, none⟩ = some (.int .i64 fk) := bcell hb4 (bcell bal1 (cell_new (by simp) 5))
              have c0_6 : w4.cell? ⟨w.heap.size, 6, none⟩ = some (.slice fa fn fq) := bcell hb4 (bcell bal1 (cell_new (by simp) 6))
              have c1_5 : w4.cell? ⟨w.heap.size + 1, 5, none⟩ = some (.int .i64 fk') := bcell hb4 (cell_new (by simp) 5)
              have c1_6 : w4.cell? ⟨w.heap.size + 1, 6, none⟩ = some (.slice fa' fn' fq') := bcell hb4 (cell_new (by simp) 6)
              have c0_7 : w4.cell? ⟨w.heap.size, 7, none⟩ = some (.int .i64 l) := bcell hb4 (bcell bal1 (cell_new (by simp) 7))
              have c1_7 : w4.cell? ⟨w.heap.size + 1, 7, none⟩ = some (.int .i64 l') := bcell hb4 (cell_new (by simp) 7)
              have d0_w4 := World.block_lt_of_cell? _ _ c0_5
              have d1_w4 := World.block_lt_of_cell? _ _ c1_5
              go_wp2_with fail
              refine (H2.out _ hB).mono ?_
              rintro e w5 ⟨rfl, hb5⟩
              rw [Hq5.out]
              replace hB := (bstep hB hb5)
              have zw5 := hB.size
              replace c0_7 : w5.cell? ⟨w.heap.size, 7, none⟩ = some (.int .i64 l) := bcell hb5 (c0_7)
              replace c1_7 : w5.cell? ⟨w.heap.size + 1, 7, none⟩ = some (.int .i64 l') := bcell hb5 (c1_7)
              have d0_w5 := World.block_lt_of_cell? _ _ c0_7
              have d1_w5 := World.block_lt_of_cell? _ _ c1_7
              go_wp2_with fail
              refine bodyPost_ret (v := .bool (false)) (by simp [results, Try.results7, go_sem, bne]) rfl ?_
              exact ⟨ret_bool ((leaf_implSame_1 k u l k' u' l' nm nm' r1 r2 r3 q1 q2 q3 Hq4.out Hq5.out q6).trans HT.out), hB⟩
          · have Hq5 := Lib.hid q5
            clear q5
            go_wp2_with fail
            refine (H1.out _ bal2).mono ?_
            rintro e w6 ⟨rfl, hb6⟩
            rw [Hq4.out]
            have hB := (bstep bal2 hb6)
            have zw6 := hB.size
            have c0_5 : w6.cell? ⟨w.heap.size, 5, none⟩ = some (.int .i64 fk) := bcell hb6 (bcell bal1 (cell_new (by simp) 5))
            have c0_6 : w6.cell? ⟨w.heap.size, 6, none⟩ = some (.slice fa fn fq) := bcell hb6 (bcell bal1 (cell_new (by simp) 6))
            have c1_5 : w6.cell? ⟨w.heap.size + 1, 5, none⟩ = some (.int .i64 fk') := bcell hb6 (cell_new (by simp) 5)
            have c1_6 : w6.cell? ⟨w.heap.size + 1, 6, none⟩ = some (.slice fa' fn' fq') := bcell hb6 (cell_new (by simp) 6)
            have d0_w6 := World.block_lt_of_cell? _ _ c0_5
            have d1_w6 := World.block_lt_of_cell? _ _ c1_5
            go_wp2_with fail
            refine (H2.out _ hB).mono ?_
            rintro e w7 ⟨rfl, hb7⟩
            rw [Hq5.out]
            replace hB := (bstep hB hb7)
            have zw7 := hB.size
            go_wp2_with fail
            refine bodyPost_ret (v := .bool (false)) (by simp [results, Try.results7, go_sem, bne]) rfl ?_
            exact ⟨ret_bool ((leaf_implSame_2 k u l k' u' l' nm nm' r1 r2 r3 q1 q2 q3 Hq4.out Hq5.out).trans HT.out), hB⟩
        · have Hq4 := Lib.hid q4
          clear q4
          go_wp2_with fail
          refine (H1.out _ bal2).mono ?_
          rintro e w8 ⟨rfl, hb8⟩
          rw [Hq4.out]
          have hB := (bstep bal2 hb8)
          have zw8 := hB.size
          go_wp2_with fail
          refine bodyPost_ret (v := .bool (false)) (by simp [results, Try.results7, go_sem, bne]) rfl ?_
          exact ⟨ret_bool ((leaf_implSame_3 k u l k' u' l' nm nm' r1 r2 r3 q1 q2 q3 Hq4.out).trans HT.out), hB⟩
      · skip
        have nq3 : (u != u') = true := by simp only [bne, q3]; rfl
        go_wp2_with fail
        refine bodyPost_ret (v := .bool (false)) (by simp [results, Try.results7, go_sem, bne]) rfl ?_
        exact ⟨ret_bool ((leaf_implSame_4 k u l k' u' l' nm nm' r1 r2 r3 q1 q2 q3).trans HT.out), bal2⟩
    · skip
      have nq2 : (nm.toList != nm'.toList) = true := by simp only [bne, q2]; rfl
      go_wp2_with fail
      refine bodyPost_ret (v := .bool (false)) (by simp [results, Try.results7, go_sem, bne]) rfl ?_
      exact ⟨ret_bool ((leaf_implSame_5 k u l k' u' l' nm nm' r1 r2 r3 q1 q2).trans HT.out), bal2⟩
  · skip
    have nq1 : (k != k') = true := by simp only [bne, q1]; rfl
    go_wp2_with fail
    refine bodyPost_ret (v := .bool (false)) (by simp [results, Try.results7, go_sem, bne]) rfl ?_
    exact ⟨ret_bool ((leaf_implSame_6 k u l k' u' l' nm nm' r1 r2 r3 q1).trans HT.out), bal2⟩
termination_by SizeOf.sizeOf t
decreasing_by exact Tm.kid_lt ht
end Go.Proofs.Ytpckgpndaligbaa
namespace Go.Proofs.Ytpckgpndaligbaa
open Go.RowKit
set_option linter.unusedVariables false
set_option linter.unusedSimpArgs false
set_option maxRecDepth 100000

mutual
def Tm.alike : Tm → Tm → Bool
  | .mk k s u t f l ts, .mk k' s' u' t' f' l' us => k == k' && s.toList == s'.toList && u == u' && (!(k == 5 || k == 13) || t.prec t') && Tm.alikes ts us
def Tm.alikes : List Tm → List Tm → Bool
  | [], [] => true
  | t :: ts, u :: us => t.alike u && Tm.alikes ts us
  | _, _ => false
end
theorem Tm.alikes_all2 : ∀ ts us : List Tm, tall2 Tm.alike ts us = Tm.alikes ts us
  | [], [] => by unfold Tm.alikes; rfl
  | [], _ :: _ => by unfold Tm.alikes; rfl
  | _ :: _, [] => by unfold Tm.alikes; rfl
  | t :: ts, u :: us => by unfold Tm.alikes tall2; rw [Tm.alikes_all2 ts us]
def Tm.precB (t u : Tm) : Bool := t.valid && u.valid && t.alike u
theorem Tm.own_type {k u l : Int} {s : ByteArray} {t f : Ty} {ts : List Tm} (h : (Tm.mk k s u t f l ts).ownB = true) (hk : (k == 5) = true ∨ (k == 13) = true) : t.valid = true := by
  have hk' : (k == 5 || k == 13 || k == 14) = true := by rcases hk with h | h <;> simp [h]
  have h1 : Go.Proofs.Ytpckgpndaligbaa.ownB k u l s t.valid t.noneB f.noneB (f.valid && t.valid && f.cons t) = true := h
  unfold Go.Proofs.Ytpckgpndaligbaa.ownB at h1
  rw [if_pos hk'] at h1
  simp only [Bool.and_eq_true] at h1
  exact h1.1.2
def hasT (k : Int) : Bool := k == 5 || k == 13
theorem leaf_alike1_0 (r : Bool) : (r : Bool) = (r) := by
  rfl

theorem leaf_alike_1 (k u k' u' : Int) (nm nm' : ByteArray) (r1 r3 : Bool) (h0 : (hasT k) = true) (h1 : (k == k') = true) (h2 : (r1) = true) (h3 : (nm.toList == nm'.toList) = true) (h4 : (u == u') = true) : (r3 : Bool) = (k == k' && nm.toList == nm'.toList && u == u' && (!(k == 5 || k == 13) || r1) && r3) := by
  first | (simp_all [hasT]; done) | grind [hasT]

theorem leaf_alike_2 (k u k' u' : Int) (nm nm' : ByteArray) (r1 r3 : Bool) (h0 : (hasT k) = true) (h1 : (k == k') = true) (h2 : (r1) = true) (h3 : (nm.toList == nm'.toList) = true) (h4 : (u == u') = false) : (false : Bool) = (k == k' && nm.toList == nm'.toList && u == u' && (!(k == 5 || k == 13) || r1) && r3) := by
  first | (simp_all [hasT]; done) | grind [hasT]

theorem leaf_alike_3 (k u k' u' : Int) (nm nm' : ByteArray) (r1 r3 : Bool) (h0 : (hasT k) = true) (h1 : (k == k') = true) (h2 : (r1) = true) (h3 : (nm.toList == nm'.toList) = false) : (false : Bool) = (k == k' && nm.toList == nm'.toList && u == u' && (!(k == 5 || k == 13) || r1) && r3) := by
  first | (simp_all [hasT]; done) | grind [hasT]

theorem leaf_alike_4 (k u k' u' : Int) (nm nm' : ByteArray) (r1 r3 : Bool) (h0 : (hasT k) = true) (h1 : (k == k') = true) (h2 : (r1) = false) : (false : Bool) = (k == k' && nm.toList == nm'.toList && u == u' && (!(k == 5 || k == 13) || r1) && r3) := by
  first | (simp_all [hasT]; done) | grind [hasT]

theorem leaf_alike_5 (k u k' u' : Int) (nm nm' : ByteArray) (r1 r3 : Bool) (h0 : (hasT k) = true) (h1 : (k == k') = false) : (false : Bool) = (k == k' && nm.toList == nm'.toList && u == u' && (!(k == 5 || k == 13) || r1) && r3) := by
  first | (simp_all [hasT]; done) | grind [hasT]

theorem leaf_alike_6 (k u k' u' : Int) (nm nm' : ByteArray) (r1 r3 : Bool) (h0 : (hasT k) = false) (h1 : (k == k') = true) (h2 : (nm.toList == nm'.toList) = true) (h3 : (u == u') = true) : (r3 : Bool) = (k == k' && nm.toList == nm'.toList && u == u' && (!(k == 5 || k == 13) || r1) && r3) := by
  first | (simp_all [hasT]; done) | grind [hasT]

theorem leaf_alike_7 (k u k' u' : Int) (nm nm' : ByteArray) (r1 r3 : Bool) (h0 : (hasT k) = false) (h1 : (k == k') = true) (h2 : (nm.toList == nm'.toList) = true) (h3 : (u == u') = false) : (false : Bool) = (k == k' && nm.toList == nm'.toList && u == u' && (!(k == 5 || k == 13) || r1) && r3) := by
  first | (simp_all [hasT]; done) | grind [hasT]

theorem leaf_alike_8 (k u k' u' : Int) (nm nm' : ByteArray) (r1 r3 : Bool) (h0 : (hasT k) = false) (h1 : (k == k') = true) (h2 : (nm.toList == nm'.toList) = false) : (false : Bool) = (k == k' && nm.toList == nm'.toList && u == u' && (!(k == 5 || k == 13) || r1) && r3) := by
  first | (simp_all [hasT]; done) | grind [hasT]

theorem leaf_alike_9 (k u k' u' : Int) (nm nm' : ByteArray) (r1 r3 : Bool) (h0 : (hasT k) = false) (h1 : (k == k') = false) : (false : Bool) = (k == k' && nm.toList == nm'.toList && u == u' && (!(k == 5 || k == 13) || r1) && r3) := by
  first | (simp_all [hasT]; done) | grind [hasT]

theorem leaf_hasT_10 (k : Int) (h0 : (k == 5) = true) : (true : Bool) = (hasT k) := by
  simp_all [hasT]

theorem leaf_hasT_11 (k : Int) (h0 : (k == 5) = false) : (k == 13 : Bool) = (hasT k) := by
  simp_all [hasT]

theorem leaf_sprec_12 (k u k' u' : Int) (nm nm' : ByteArray) (r1 r3 : Bool) (m m' : Nat) (h0 : (k == k') = true) (h1 : (nm.toList == nm'.toList) = true) (h2 : (u == u') = true) (h3 : ((m : Int) == (m' : Int)) = true) (h4 : (k == 5) = true) (h5 : (r1) = true) (h6 : r3 = false) : (false : Bool) = (k == k' && nm.toList == nm'.toList && u == u' && (!(k == 5 || k == 13) || r1) && r3) := by
  first | (simp_all; done) | grind

theorem leaf_sprec_13 (k u k' u' : Int) (nm nm' : ByteArray) (r1 r3 : Bool) (m m' : Nat) (h0 : (k == k') = true) (h1 : (nm.toList == nm'.toList) = true) (h2 : (u == u') = true) (h3 : ((m : Int) == (m' : Int)) = true) (h4 : (k == 5) = true) (h5 : (r1) = true) (h6 : r3 = true) : (true : Bool) = (k == k' && nm.toList == nm'.toList && u == u' && (!(k == 5 || k == 13) || r1) && r3) := by
  first | (simp_all; done) | grind

theorem leaf_sprec_14 (k u k' u' : Int) (nm nm' : ByteArray) (r1 r3 : Bool) (m m' : Nat) (h0 : (k == k') = true) (h1 : (nm.toList == nm'.toList) = true) (h2 : (u == u') = true) (h3 : ((m : Int) == (m' : Int)) = true) (h4 : (k == 5) = true) (h5 : (r1) = false) : (false : Bool) = (k == k' && nm.toList == nm'.toList && u == u' && (!(k == 5 || k == 13) || r1) && r3) := by
  first | (simp_all; done) | grind

theorem leaf_sprec_15 (k u k' u' : Int) (nm nm' : ByteArray) (r1 r3 : Bool) (m m' : Nat) (h0 : (k == k') = true) (h1 : (nm.toList == nm'.toList) = true) (h2 : (u == u') = true) (h3 : ((m : Int) == (m' : Int)) = true) (h4 : (k == 5) = false) (h5 : (k == 13) = true) (h6 : (r1) = true) (h7 : r3 = false) : (false : Bool) = (k == k' && nm.toList == nm'.toList && u == u' && (!(k == 5 || k == 13) || r1) && r3) := by
  first | (simp_all; done) | grind

theorem leaf_sprec_16 (k u k' u' : Int) (nm nm' : ByteArray) (r1 r3 : Bool) (m m' : Nat) (h0 : (k == k') = true) (h1 : (nm.toList == nm'.toList) = true) (h2 : (u == u') = true) (h3 : ((m : Int) == (m' : Int)) = true) (h4 : (k == 5) = false) (h5 : (k == 13) = true) (h6 : (r1) = true) (h7 : r3 = true) : (true : Bool) = (k == k' && nm.toList == nm'.toList && u == u' && (!(k == 5 || k == 13) || r1) && r3) := by
  first | (simp_all; done) | grind

theorem leaf_sprec_17 (k u k' u' : Int) (nm nm' : ByteArray) (r1 r3 : Bool) (m m' : Nat) (h0 : (k == k') = true) (h1 : (nm.toList == nm'.toList) = true) (h2 : (u == u') = true) (h3 : ((m : Int) == (m' : Int)) = true) (h4 : (k == 5) = false) (h5 : (k == 13) = true) (h6 : (r1) = false) : (false : Bool) = (k == k' && nm.toList == nm'.toList && u == u' && (!(k == 5 || k == 13) || r1) && r3) := by
  first | (simp_all; done) | grind

theorem leaf_sprec_18 (k u k' u' : Int) (nm nm' : ByteArray) (r1 r3 : Bool) (m m' : Nat) (h0 : (k == k') = true) (h1 : (nm.toList == nm'.toList) = true) (h2 : (u == u') = true) (h3 : ((m : Int) == (m' : Int)) = true) (h4 : (k == 5) = false) (h5 : (k == 13) = false) (h6 : r3 = false) : (false : Bool) = (k == k' && nm.toList == nm'.toList && u == u' && (!(k == 5 || k == 13) || r1) && r3) := by
  first | (simp_all; done) | grind

theorem leaf_sprec_19 (k u k' u' : Int) (nm nm' : ByteArray) (r1 r3 : Bool) (m m' : Nat) (h0 : (k == k') = true) (h1 : (nm.toList == nm'.toList) = true) (h2 : (u == u') = true) (h3 : ((m : Int) == (m' : Int)) = true) (h4 : (k == 5) = false) (h5 : (k == 13) = false) (h6 : r3 = true) : (true : Bool) = (k == k' && nm.toList == nm'.toList && u == u' && (!(k == 5 || k == 13) || r1) && r3) := by
  first | (simp_all; done) | grind

theorem leaf_sprec_20 (k u k' u' : Int) (nm nm' : ByteArray) (r1 r3 : Bool) (m m' : Nat) (h0 : (k == k') = true) (h1 : (nm.toList == nm'.toList) = true) (h2 : (u == u') = true) (h3 : ((m : Int) == (m' : Int)) = false) (h4 : r3 = false) : (false : Bool) = (k == k' && nm.toList == nm'.toList && u == u' && (!(k == 5 || k == 13) || r1) && r3) := by
  first | (simp_all; done) | grind

theorem leaf_sprec_21 (k u k' u' : Int) (nm nm' : ByteArray) (r1 r3 : Bool) (m m' : Nat) (h0 : (k == k') = true) (h1 : (nm.toList == nm'.toList) = true) (h2 : (u == u') = false) : (false : Bool) = (k == k' && nm.toList == nm'.toList && u == u' && (!(k == 5 || k == 13) || r1) && r3) := by
  first | (simp_all; done) | grind

theorem leaf_sprec_22 (k u k' u' : Int) (nm nm' : ByteArray) (r1 r3 : Bool) (m m' : Nat) (h0 : (k == k') = true) (h1 : (nm.toList == nm'.toList) = false) : (false : Bool) = (k == k' && nm.toList == nm'.toList && u == u' && (!(k == 5 || k == 13) || r1) && r3) := by
  first | (simp_all; done) | grind

theorem leaf_sprec_23 (k u k' u' : Int) (nm nm' : ByteArray) (r1 r3 : Bool) (m m' : Nat) (h0 : (k == k') = false) : (false : Bool) = (k == k' && nm.toList == nm'.toList && u == u' && (!(k == 5 || k == 13) || r1) && r3) := by
  first | (simp_all; done) | grind

theorem leaf_pmainspec_24 (v v' r : Bool) (h0 : (v) = true) (h1 : (v') = true) : (r : Bool) = (v && v' && r) := by
  simp_all

theorem leaf_pmainspec_25 (v v' r : Bool) (h0 : (v) = true) (h1 : (v') = false) : (false : Bool) = (v && v' && r) := by
  simp_all

theorem leaf_pmainspec_26 (v v' r : Bool) (h0 : (v) = false) : (false : Bool) = (v && v' && r) := by
  simp_all

theorem leaf_pmainimpl_27 (v v' r : Bool) (h0 : (v) = true) (h1 : (v') = true) : (r : Bool) = (v && v' && r) := by
  simp_all

theorem leaf_pmainimpl_28 (v v' r : Bool) (h0 : (v) = true) (h1 : (v') = false) : (false : Bool) = (v && v' && r) := by
  simp_all

theorem leaf_pmainimpl_29 (v v' r : Bool) (h0 : (v) = false) : (false : Bool) = (v && v' && r) := by
  simp_all

theorem implHasType (k : Int) (nm : ByteArray) (u tk : Int) (ta : Option Addr) (tn tq : Nat) (fk : Int) (fa : Option Addr) (fn fq : Nat) (l : Int) (c : Option Addr) (m q : Nat) (w : World) : Calls Try.prog 39 #[.agg #[.int .i64 k, .string nm, .int .i64 u, .int .i64 tk, .slice ta tn tq, .int .i64 fk, .slice fa fn fq, .int .i64 l, .slice c m q]] w fun e w' => e = .returned (.bool (hasT k)) ∧ Below w.heap.size w w' := by
  obtain ⟨rr, hrr⟩ : ∃ rr0 : Bool, (hasT k) = rr0 := ⟨_, rfl⟩
  rw [hrr]
  have HT := Lib.hid hrr
  clear hrr
  go_enter Try.func39, Try.ntmps39
  rcases Bool.eq_false_or_eq_true (k == 5) with q1 | q1
  · skip
    have nq1 : (k != 5) = false := by simp only [bne, q1]; rfl
    go_wp2_with fail
    refine bodyPost_ret (v := .bool (true)) (by simp [results, Try.results39, go_sem, bne]) rfl ?_
    exact ⟨ret_bool ((leaf_hasT_10 k q1).trans HT.out), bal1⟩
  · skip
    have nq1 : (k != 5) = true := by simp only [bne, q1]; rfl
    go_wp2_with fail
    refine bodyPost_ret (v := .bool (k == 13)) (by simp [results, Try.results39, go_sem, bne]) rfl ?_
    exact ⟨ret_bool ((leaf_hasT_11 k q1).trans HT.out), bal1⟩
end Go.Proofs.Ytpckgpndaligbaa
namespace Go.Proofs.Ytpckgpndaligbaa
open Go.RowKit
set_option linter.unusedVariables false
set_option linter.unusedSimpArgs false
set_option maxRecDepth 100000

set_option maxHeartbeats 4000000 in
theorem implOwnType (F : Nat → Prop) (t : Ty) : ∀ (y : Value) (w : World), TyRep F w t y → t.cnt ≤ 1048576 →
    Calls Try.prog 40 #[y] w (RetTy t w) := by
  intro y w hy hcnt
  have IH : ∀ t' ∈ t.kids, ∀ (y : Value) (W : World), TyRep F W t' y → Calls Try.prog 40 #[y] W (RetTy t' W) :=
    fun t' ht y W h => implOwnType F t' y W h (by have := Ty.cnt_kid ht; omega)
  obtain ⟨i0, hi, hz0, hz1, hz2⟩ := info_parts Try.infoTy
  obtain ⟨a, cap, rfl, h2, h3, hr⟩ := hy.open
  cases t with | mk k ts =>
  simp only [Ty.kind, Ty.kids] at *
  unfold maxLen at h3
  have IHH := Lib.hid IH
  have HCN := Lib.hid (show ts.length ≤ 1048576 by simp only [Ty.cnt] at hcnt; omega)
  clear IH hy hcnt
  obtain ⟨n, hn⟩ : ∃ n, ts.length = n := ⟨_, rfl⟩
  rw [hn] at h2 hr HCN
  rw [hn]
  have HN := Lib.hid hn
  clear hn
  have Z0 := Lib.hid hz0
  have Z1 := Lib.hid hz1
  have Z2 := Lib.hid hz2
  have HI := Lib.hid hi
  clear hz0 hz1 hz2 hi
  go_enter Try.func40, Try.ntmps40
  go_wp2_with fail
  go_loopw [12] (fun i wr => ∃ j : Nat, j ≤ n ∧ i = .int .i64 j ∧ Below w.heap.size w wr ∧ w.heap.size + 1 + 1 < wr.heap.size ∧ (∃ u, wr.cell? ⟨w.heap.size + 1, 0, none⟩ = some u) ∧ (∃ u, wr.cell? ⟨w.heap.size + 1, 1, none⟩ = some u) ∧
      (∀ o, wr.frozen? ⟨w.heap.size + 1, o, none⟩ = false) ∧ (∀ o, wr.frozen? ⟨w.heap.size + 1 + 1, o, none⟩ = false) ∧ wr.cell? ⟨w.heap.size + 1 + 1, 0, none⟩ = some (.int .i64 k) ∧
      ∃ v, wr.cell? ⟨w.heap.size + 1 + 1, 1, none⟩ = some v ∧ AccNew (w.heap.size + 1 + 1 + 1) 25 2 wr v j (Ty.rows (ts.take j))) (fun i _ => n - (intOf i).toNat)
  case atStart => exact ⟨0, by omega, rfl, bal3, by simp, ⟨.int .i64 0, bcell bal1 (cell_n1 0)⟩, ⟨.slice none 0 0, bcell bal1 (cell_n1 1)⟩, fun o => bfro bal1 (by simp) (fro_n1 o), fun o => fro_n2 o, cell_n2 0, .slice none 0 0, cell_n2 1, by simpa [Ty.rows] using AccNew.nil _ _ _ _⟩
  case round =>
    obtain ⟨j, hj, rfl, hbw, hsz, ⟨u0, hu0⟩, ⟨u1, hu1⟩, hf1, hf2, hk0, v, hv, hacc⟩ := hrel
    by_cases hlt : j < n
    · have hjt : j < ts.length := by rw [HN.out]; exact hlt
      obtain ⟨b, off, k0, a0, m0, q0, rfl, l0, e0, e1, ht⟩ := hr.at hbw hjt
      have HC := Lib.hid (fun W (h : Below wr.heap.size wr W) => IHH.out ts[j] (List.getElem_mem hjt) _ W (ht.below h))
      obtain ⟨xs, fps, ho, hl, hs, hd, hfp⟩ := hacc
      have HO := Lib.hid ho
      have HS := Lib.hid hs
      have HD := Lib.hid hd
      have HFP := Lib.hid hfp
      have HL := Lib.hid hl
      clear ho hs hd hfp hl
      obtain ⟨cv, qv, rfl⟩ : ∃ c q, v = .slice c j q := by
        rcases HO.out.2 with ⟨h, h0⟩ | ⟨g, cap, cur, h, _⟩
        · exact ⟨none, 0, by rw [h, h0]⟩
        · exact ⟨_, cap, h⟩
      go_wp2_with fail
      have hB3 : w.heap.size + 1 + 1 + 1 ≤ wr.heap.size := by omega
      go_region_law (first
        | (go_simp; go_at_call 40; refine (HC.out _ (by first | exact bal1 | exact bal1.drew)).mono ?_; rintro e w1 ⟨v1, rfl, hv1, hb1⟩; obtain ⟨k1, c1, m1, q1, fp1, rfl, -, -, hs1, hd1, hx1⟩ := hv1.open; have hq1 : w1.cell? ⟨w.heap.size + 1 + 1, 1, none⟩ = some (.slice cv j qv) := bcell (bstep bal1.drew hb1) hv; have hbz := hb1.size; have hl1 : w.heap.size + 1 + 1 < w1.heap.size := World.block_lt_of_cell? _ _ hq1)
        | (refine step_append_lies _ (by rfl) (.tmp 17) (.tmp 20) 23 (by rfl) (w.heap.size + 1 + 1 + 1) 25 i0 _ 2 32 Try.underlying23 HI.out Z0.out Z1.out Z2.out rfl (by omega) (.slice cv j qv) j xs (by rfl) (ownsRow_below HO.out (bstep (bstep bal1.drew hb1) bal1))
            ⟨w1.heap.size, 0, none⟩ 1 1 [.int .i64 k1, .slice c1 m1 q1] (by rfl) (by rfl) (World.news_of_block (cs := #[.int .i64 k1, .slice c1 m1 q1]) (t := 25) (fr := (0, 0)) (heap_alloc_new w1 _)) (by simp [Value.oneCell'])
            (by omega) (by have := HCN.out; unfold maxLen; omega) (by have := HCN.out; omega) (by simp at hbz ⊢; omega) _ rfl ?_
           intro gg cap2 w2 hown2 hgrow hat hlt2
           have hfar := grown_far (bstep (bstep bal1.drew hb1) bal1) HO.out hgrow
           have hq : w2.cell? ⟨w.heap.size + 1 + 1, 1, none⟩ = some (.slice cv j qv) := (World.cell?_of_block (a := ⟨w.heap.size + 1 + 1, 1, none⟩) (hfar (w.heap.size + 1 + 1) (by omega) (by omega))).trans hv
           have hqf : w2.frozen? ⟨w.heap.size + 1 + 1, 1, none⟩ = false := (World.frozen?_of_block (a := ⟨w.heap.size + 1 + 1, 1, none⟩) (hfar (w.heap.size + 1 + 1) (by omega) (by omega))).trans (hf2 _)
           have HFAR := Lib.hid hfar
           have hacc2 := AccNew.push HL.out HO.out HS.out HD.out HFP.out hB3 (bstep (bstep bal1.drew hb1) bal1) (by simp) (hs1.move _ _ _ fun b hb => heap_alloc_old w1 _ (SOwn.lt _ _ _ hs1 b hb)) hd1 hx1 hown2 hgrow hat
           have HACC := Lib.hid hacc2
           have hbel := grown_below hbw (bstep (bstep bal1.drew hb1) bal1) HO.out (by omega) hgrow
           have hsz2 : wr.heap.size ≤ w2.heap.size := Nat.le_trans (bstep (bstep bal1.drew hb1) bal1).size hgrow.size
           clear hfar hacc2 hown2 hgrow hat hq1))
      all_goals
        go_wp2_with fail
        go_roundw
        case rel =>
          have c1 : (w2.setCell ⟨w.heap.size + 1 + 1, 1, none⟩ (.slice (some ⟨gg, 0, none⟩) (j + 1) cap2)).heap[w.heap.size + 1]? = wr.heap[w.heap.size + 1]? :=
            (Below.heap_setCell w2 ⟨w.heap.size + 1 + 1, 1, none⟩ _ _ (by show w.heap.size + 1 ≠ w.heap.size + 1 + 1; omega)).trans (HFAR.out (w.heap.size + 1) (by omega) (by omega))
          have hk2 := (World.cell?_of_block (a := ⟨w.heap.size + 1 + 1, 0, none⟩) (HFAR.out (w.heap.size + 1 + 1) (by omega) (by omega))).trans hk0
          have hf4 := fun o => (World.frozen?_of_block (a := ⟨w.heap.size + 1 + 1, o, none⟩) (HFAR.out (w.heap.size + 1 + 1) (by omega) (by omega))).trans (hf2 o)
          refine ⟨j + 1, by omega, by go_num, hbel.setCell (by show w.heap.size ≤ w.heap.size + 1 + 1; omega) _, by simp [World.setCell]; omega, ⟨u0, (World.cell?_of_block (a := ⟨w.heap.size + 1, 0, none⟩) c1).trans hu0⟩, ⟨u1, (World.cell?_of_block (a := ⟨w.heap.size + 1, 1, none⟩) c1).trans hu1⟩,
            fun o => (World.frozen?_of_block (a := ⟨w.heap.size + 1, o, none⟩) c1).trans (hf1 o), fun o => (sc_fro _ _ _ _).trans (hf4 o), sc_far hk2 (by simp), _, sc_self hq, ?_⟩
          have h := HACC.out.setCell (p := ⟨w.heap.size + 1 + 1, 1, none⟩) (by show w.heap.size + 1 + 1 < w.heap.size + 1 + 1 + 1; omega) (.slice (some ⟨gg, 0, none⟩) (j + 1) cap2)
          rw [Ty.rows_eq] at h ⊢
          rw [List.take_succ_eq_append_getElem hjt, List.map_append]
          exact h
        case measure => simp [intOf]; omega
    · obtain ⟨cv, qv, rfl⟩ := hacc.shape
      have f0 := hf1 0
      have f1 := hf1 1
      go_wp2_with fail
      refine bodyPost_ret (v := .agg #[.int .i64 k, .slice cv j qv]) (by simp [results, Try.results40, go_sem, hu0, hu1]) rfl ?_
      rw [List.take_of_length_le (by rw [HN.out]; omega)] at hacc
      have hjn : j = n := by omega
      refine ⟨_, rfl, TyNew.mono (TysNew.ty ((hacc.tys.setCell (by show w.heap.size + 1 < w.heap.size + 1 + 1 + 1; omega) _).setCell (by show w.heap.size + 1 < w.heap.size + 1 + 1 + 1; omega) _)) (by omega), ?_⟩
      exact (hbw.setCell (by show w.heap.size ≤ w.heap.size + 1; omega) _).setCell (by show w.heap.size ≤ w.heap.size + 1; omega) _
termination_by SizeOf.sizeOf t
decreasing_by exact Ty.kid_lt ht

end Go.Proofs.Ytpckgpndaligbaa
