/-
  TypeSame of the program and of the reference: equality of trees.
  Consistency and precision of types: implConsistent0, specL1Consistent.
  Consistency and precision of types: implConsistent.
  Consistency and precision of types: specConsistent.
-/
import Derived.Test.YthhdjacdalehoaaRows
import Derived.Test.YthhdjacdalehoaaB1
import Derived.Test.YthhdjacdalehoaaB3
namespace Go.Proofs.Ythhdjacdalehoaa
open Go.RowKit
set_option linter.unusedVariables false
set_option linter.unusedSimpArgs false
set_option maxRecDepth 100000

set_option maxHeartbeats 400000 in
theorem equalFunc_Ty (g : FuncId) (R : Ty → Ty → Bool) (F G : Nat → Prop) (ts us : List Ty) (ys zs : Value) (w : World) (hy : TysRep F w ts ys) (hz : TysRep G w us zs)
    (hcf : ∀ xs W, (callFunc g xs).run Try.prog W = .ok (.enter g xs) W)
    (hg : ∀ t ∈ ts, ∀ u ∈ us, ∀ (W : World) (y z : Value), TyRep F W t y → TyRep G W u z → Calls Try.prog g #[y, z] W fun e W' => e = .returned (.bool (R t u)) ∧ Below W.heap.size W W') :
    Calls Try.prog 37 #[ys, zs, .func (.func g) #[] #[]] w fun e w' => e = .returned (.bool (all2 R ts us)) ∧ Below w.heap.size w w' := by
  have HG := Lib.hid hg
  clear hg
  obtain ⟨a, cap, rfl, h2, h3, h4⟩ := hy.open
  obtain ⟨c, cap', rfl, g2, g3, g4⟩ := hz.open
  have H4 := Lib.hid h4
  have G4 := Lib.hid g4
  clear h4 g4 hy hz
  unfold maxLen at h3 g3
  by_cases hl : ts.length = us.length
  · obtain ⟨n, hn⟩ : ∃ n, ts.length = n := ⟨_, rfl⟩
    rw [hn] at hl h2
    rw [← hl] at g2
    have HN := Lib.hid hn
    have HL := Lib.hid hl
    rw [hn, ← hl]
    clear hn hl
    go_enter Try.func37, Try.ntmps37
    go_wp2_with fail
    go_loopw [17] (fun i wr => ∃ k : Nat, k ≤ n ∧ i = .int .i64 k ∧ Below w.heap.size w wr ∧ Hid (all2 R ts us = all2 R (ts.drop k) (us.drop k))) (fun i _ => n - (intOf i).toNat)
    case atStart => exact ⟨0, by omega, rfl, Below.refl _ _, rfl⟩
    case round =>
      obtain ⟨k, hk, rfl, hbw, hR⟩ := hrel
      by_cases hlt : k < n
      · obtain ⟨b, off, k0, a0, m0, q0, rfl, c0, c1, ht⟩ := H4.out k (by rw [HN.out]; exact hlt)
        obtain ⟨b', off', k0', a0', m0', q0', rfl, c0', c1', hu⟩ := G4.out k (by rw [← HL.out]; exact hlt)
        have e0 := (hbw.cell (p := ⟨b, off + k * 2, none⟩) (World.block_lt_of_cell? w _ c0)).trans c0
        have e1 := (hbw.cell (p := ⟨b, off + k * 2 + 1, none⟩) (World.block_lt_of_cell? w _ c1)).trans c1
        have e0' := (hbw.cell (p := ⟨b', off' + k * 2, none⟩) (World.block_lt_of_cell? w _ c0')).trans c0'
        have e1' := (hbw.cell (p := ⟨b', off' + k * 2 + 1, none⟩) (World.block_lt_of_cell? w _ c1')).trans c1'
        clear c0 c1 c0' c1'
        have l0 := World.block_lt_of_cell? wr _ e0
        have l0' := World.block_lt_of_cell? wr _ e0'
        have hkt : k < ts.length := by rw [HN.out]; exact hlt
        have hku : k < us.length := by rw [← HL.out]; exact hlt
        have hcall := HG.out ts[k] (List.getElem_mem hkt) us[k] (List.getElem_mem hku)
        have hstep := hR.out.trans (all2_drop R ts us k hkt hku)
        generalize R ts[k] us[k] = r at hcall hstep
        have HC := Lib.hid hcall
        have HS := Lib.hid hstep
        clear hcall hstep hR
        cases r
        all_goals
          go_wp2_with fail
          refine (HC.out _ _ _ (ht.below (bstep hbw bal2)) (hu.below (bstep hbw bal2))).mono ?_
          rintro e w1 ⟨rfl, hb1⟩
          go_wp2_with fail
        · go_ret
          exact ⟨ret_bool (by rw [HS.out]; rfl), bstep (bstep hbw bal2) hb1⟩
        · go_roundw
          case rel => exact ⟨k + 1, by omega, by go_num, bstep (bstep hbw bal2) hb1, by rw [Hid, HS.out]; rfl⟩
          case measure => simp [intOf]; omega
      · go_wp2_with fail
        go_ret
        exact ⟨ret_bool (by rw [hR.out, all2_end _ _ _ _ (by rw [HN.out]; omega) (by rw [← HL.out]; omega)]), hbw⟩
  · have HL := Lib.hid hl
    go_enter Try.func37, Try.ntmps37
    go_wp2_with fail
    go_ret
    exact ⟨ret_bool (all2_len R ts us HL.out).symm, Below.refl _ _⟩

end Go.Proofs.Ythhdjacdalehoaa
namespace Go.Proofs.Ythhdjacdalehoaa
open Go.RowKit
set_option linter.unusedVariables false
set_option linter.unusedSimpArgs false
set_option maxRecDepth 100000

mutual
def Ty.cons : Ty → Ty → Bool
  | .mk k ts, .mk l us => k == 1 || l == 1 || (k == l && Ty.conss ts us)
def Ty.conss : List Ty → List Ty → Bool
  | [], [] => true
  | t :: ts, u :: us => t.cons u && Ty.conss ts us
  | _, _ => false
end
theorem Ty.conss_all2 : ∀ ts us : List Ty, all2 Ty.cons ts us = Ty.conss ts us
  | [], [] => by unfold Ty.conss; rfl
  | [], _ :: _ => by unfold Ty.conss; rfl
  | _ :: _, [] => by unfold Ty.conss; rfl
  | t :: ts, u :: us => by unfold Ty.conss all2; rw [Ty.conss_all2 ts us]
set_option maxHeartbeats 1000000 in
theorem implConsistent0 (F G : Nat → Prop) (t : Ty) : ∀ (u : Ty) (y z : Value) (w : World), TyRep F w t y → TyRep G w u z →
    Calls Try.prog 54 #[y, z] w fun e w' => e = .returned (.bool (t.cons u)) ∧ Below w.heap.size w w' := by
  intro u y z w hy hz
  have IH : ∀ t' ∈ t.kids, ∀ u' ∈ u.kids, ∀ (W : World) (y z : Value), TyRep F W t' y → TyRep G W u' z → Calls Try.prog 54 #[y, z] W fun e W' => e = .returned (.bool (t'.cons u')) ∧ Below W.heap.size W W' :=
    fun t' ht u' _ W y z a b => implConsistent0 F G t' u' y z W a b
  obtain ⟨a, cap, rfl, h2, h3, h4⟩ := hy.open
  obtain ⟨c, cap', rfl, g2, g3, g4⟩ := hz.open
  clear hy hz
  cases t with | mk k ts => cases u with | mk l us =>
  simp only [Ty.kind, Ty.kids] at *
  have HC := fun W (h : Below w.heap.size w W) => equalFunc_Ty _ _ F G ts us _ _ W (h4.below h) (g4.below h) Try.call54 IH
  generalize ts.length = n at *
  generalize us.length = m at *
  unfold Ty.cons
  by_cases hk1 : k = 1
  · subst hk1
    clear HC IH
    go_enter Try.func54, Try.ntmps54
    go_wp2_with fail
    go_ret
    exact ⟨ret_bool (by simp), bal2⟩
  have g1 : (k == 1) = false := by simpa using hk1
  by_cases hl1 : l = 1
  · subst hl1
    clear HC IH
    go_enter Try.func54, Try.ntmps54
    go_wp2_with fail
    go_ret
    exact ⟨ret_bool (by simp), bal2⟩
  have g2 : (l == 1) = false := by simpa using hl1
  by_cases hk : k = l
  · subst hk
    rw [Ty.conss_all2] at HC
    generalize Ty.conss ts us = r at *
    have H := Lib.hid HC
    clear HC IH
    clear hl1 hk1
    go_enter Try.func54, Try.ntmps54
    go_wp2_with fail
    refine (H.out _ bal2).mono ?_
    rintro e w1 ⟨rfl, hb1⟩
    go_wp2_with fail
    go_ret
    exact ⟨ret_bool (by simp [g2]), bstep bal2 hb1⟩
  · have hkl : (k == l) = false := by simpa using hk
    clear hk HC IH hl1 hk1
    go_enter Try.func54, Try.ntmps54
    go_wp2_with fail
    go_ret
    exact ⟨ret_bool (by simp [hkl, g2, g1]), bal2⟩
termination_by SizeOf.sizeOf t
decreasing_by exact Ty.kid_lt ht

set_option maxHeartbeats 2000000 in
theorem specL1Consistent (F G : Nat → Prop) (t : Ty) : ∀ (u : Ty) (d d' : Int) (y z : Value) (w : World), TyRep F w t y → TyRep G w u z → t.shape d = true → u.shape d' = true →
    Calls Try.prog 58 #[y, z] w fun e w' => e = .returned (.bool (t.cons u)) ∧ Below w.heap.size w w' := by
  intro u d d' y z w hy hz sy sz
  have IH : ∀ t' ∈ t.kids, ∀ u' ∈ u.kids, ∀ (d d' : Int) (W : World) (y z : Value), TyRep F W t' y → TyRep G W u' z → t'.shape d = true → u'.shape d' = true → Calls Try.prog 58 #[y, z] W fun e W' => e = .returned (.bool (t'.cons u')) ∧ Below W.heap.size W W' :=
    fun t' ht u' _ d d' W y z a b c e => specL1Consistent F G t' u' d d' y z W a b c e
  obtain ⟨a, cap, rfl, h2, h3, hy'⟩ := hy.open
  obtain ⟨c, cap', rfl, g2', g3, hz'⟩ := hz.open
  clear hy hz
  have IHH := Lib.hid IH
  clear IH
  cases t with | mk k ts => cases u with | mk l us =>
  simp only [Ty.kind, Ty.kids] at *
  unfold maxLen at h3 g3
  obtain ⟨-, st, sst⟩ := Ty.shape_mk sy
  obtain ⟨-, su, ssu⟩ := Ty.shape_mk sz
  have SST := Lib.hid sst
  have SSU := Lib.hid ssu
  clear sy sz sst ssu
  unfold Ty.cons
  rw [← Ty.conss_all2]
  obtain ⟨n, hn⟩ : ∃ n, ts.length = n := ⟨_, rfl⟩
  obtain ⟨m, hm⟩ : ∃ m, us.length = m := ⟨_, rfl⟩
  rw [hn] at h2 hy' st ⊢
  rw [hm] at g2' hz' su ⊢
  have HN := Lib.hid hn
  have HM := Lib.hid hm
  have ST := Lib.hid st
  have SU := Lib.hid su
  clear hn hm st su
  by_cases hk1 : k = 1
  · subst hk1
    clear IHH
    go_enter Try.func58, Try.ntmps58
    go_wp2_with fail
    go_ret
    exact ⟨ret_bool (by simp), bal2⟩
  have g1 : (k == 1) = false := by simpa using hk1
  by_cases hl1 : l = 1
  · subst hl1
    clear IHH
    go_enter Try.func58, Try.ntmps58
    go_wp2_with fail
    go_ret
    exact ⟨ret_bool (by simp), bal2⟩
  have g2 : (l == 1) = false := by simpa using hl1
  by_cases hk : k = l
  · subst hk
    obtain rfl : n = m := by have := ST.out; have := SU.out; omega
    clear hl1 hk1
    go_enter Try.func58, Try.ntmps58
    go_wp2_with fail
    go_loopw [5] (fun i wr => ∃ j : Nat, j ≤ n ∧ i = .int .i64 j ∧ Below w.heap.size w wr ∧ wr.cell? ⟨w.heap.size, 1, none⟩ = some (.slice a n cap) ∧ wr.cell? ⟨w.heap.size + 1, 1, none⟩ = some (.slice c n cap') ∧ w.heap.size + 1 < wr.heap.size ∧ Hid (all2 Ty.cons ts us = all2 Ty.cons (ts.drop j) (us.drop j))) (fun i _ => n - (intOf i).toNat)
    case atStart => exact ⟨0, by omega, rfl, bal2, by simp, by simp, by simp, rfl⟩
    case round =>
      obtain ⟨j, hj, rfl, hbw, hc1, hc2, hsz, hR⟩ := hrel
      by_cases hlt : j < n
      · have hkt : j < ts.length := by rw [HN.out]; exact hlt
        have hku : j < us.length := by rw [HM.out]; exact hlt
        obtain ⟨b, off, k0, a0, m0, q0, rfl, l0, e0, e1, ht⟩ := hy'.at hbw hkt
        obtain ⟨b', off', k0', a0', m0', q0', rfl, l0', e0', e1', hu⟩ := hz'.at hbw hku
        have hcall := fun W (h : Below wr.heap.size wr W) => IHH.out ts[j] (List.getElem_mem hkt) us[j] (List.getElem_mem hku) _ _ W _ _ (ht.below h) (hu.below h) (Ty.shapes_mem SST.out (List.getElem_mem hkt)) (Ty.shapes_mem SSU.out (List.getElem_mem hku))
        have hstep := hR.out.trans (all2_drop Ty.cons ts us j hkt hku)
        generalize ts[j].cons us[j] = r at hcall hstep
        have HC := Lib.hid hcall
        have HS := Lib.hid hstep
        clear hcall hstep hR
        cases r
        all_goals
          go_wp2_with fail
          go_region_held3 (fun w' => w'.cell? ⟨w.heap.size, 1, none⟩ = some (.slice (some ⟨b, off, none⟩) n cap) ∧ w'.cell? ⟨w.heap.size + 1, 1, none⟩ = some (.slice (some ⟨b', off', none⟩) n cap') ∧ w'.cell? ⟨b, off + j * 2, none⟩ = some (.int .i64 k0) ∧ w'.cell? ⟨b, off + j * 2 + 1, none⟩ = some (.slice a0 m0 q0) ∧ w'.cell? ⟨b', off' + j * 2, none⟩ = some (.int .i64 k0') ∧ w'.cell? ⟨b', off' + j * 2 + 1, none⟩ = some (.slice a0' m0' q0'))
            (first | go_keep | exact ⟨bcelld hb1 hc1, bcelld hb1 hc2, bcelld hb1 e0, bcelld hb1 e1, bcelld hb1 e0', bcelld hb1 e1'⟩)
            (first | (go_at_call 58; refine (HC.out _ bdr).mono ?_; rintro e w1 ⟨rfl, hb1⟩))
          go_wp2_with fail
        · go_ret
          exact ⟨ret_bool (by rw [HS.out]; simpa using g2), bdrew hbw hb1⟩
        · go_roundw
          case rel => exact ⟨j + 1, by omega, by go_num, bdrew hbw hb1, bcelld hb1 hc1, bcelld hb1 hc2, Nat.lt_of_lt_of_le hsz hb1.size, by rw [Hid, HS.out]; rfl⟩
          case measure => simp [intOf]; omega
      · go_wp2_with fail
        go_ret
        exact ⟨ret_bool (by rw [hR.out, all2_end _ _ _ _ (by rw [HN.out]; omega) (by rw [HM.out]; omega)]; simp), hbw⟩
  · have hkl : (k == l) = false := by simpa using hk
    have hkl' : (k != l) = true := by simpa using hk
    clear hk hl1 hk1
    go_enter Try.func58, Try.ntmps58
    go_wp2_with fail
    go_ret
    exact ⟨ret_bool (by simp [hkl, g2, g1]), bal2⟩
termination_by SizeOf.sizeOf t
decreasing_by exact Ty.kid_lt ht

end Go.Proofs.Ythhdjacdalehoaa
namespace Go.Proofs.Ythhdjacdalehoaa
open Go.RowKit
set_option linter.unusedVariables false
set_option linter.unusedSimpArgs false
set_option maxRecDepth 100000

set_option maxHeartbeats 1000000 in
theorem implConsistent (F G : Nat → Prop) (t u : Ty) (y z : Value) (w : World) (hy : TyRep F w t y) (hz : TyRep G w u z) :
    Calls Try.prog 30 #[y, z] w fun e w' => e = .returned (.bool (t.valid && u.valid && t.cons u)) ∧ Below w.heap.size w w' := by
  obtain ⟨k, a, n, q, rfl⟩ := hy.shape
  obtain ⟨k', a', n', q', rfl⟩ := hz.shape
  have HV := fun W (h : Below w.heap.size w W) => implTypeValid F t _ W (hy.below h)
  have HU := fun W (h : Below w.heap.size w W) => implTypeValid G u _ W (hz.below h)
  have HI := fun (hv : t.valid = true) (hu : u.valid = true) W (h : Below w.heap.size w W) => implConsistent0 F G t u _ _ W (hy.below h) (hz.below h)
  clear hy hz
  cases hv : t.valid
  · rw [hv] at HV
    have HH := Lib.hid HV
    clear HV HU HI hv
    go_enter Try.func30, Try.ntmps30
    go_wp2_with fail
    refine (HH.out _ bal2).mono ?_
    rintro e w1 ⟨rfl, hb1⟩
    go_wp2_with fail
    go_ret
    exact ⟨ret_bool (by simp), bstep bal2 hb1⟩
  · rw [hv] at HV
    cases hu : u.valid
    · rw [hu] at HU
      have HH := Lib.hid HV
      have HK := Lib.hid HU
      clear HV HU HI hv hu
      go_enter Try.func30, Try.ntmps30
      go_wp2_with fail
      refine (HH.out _ bal2).mono ?_
      rintro e w1 ⟨rfl, hb1⟩
      obtain ⟨hc, hf⟩ := brules hb1
      go_wp2_with fail
      refine (HK.out _ (bstep bal2 hb1)).mono ?_
      rintro e w2 ⟨rfl, hb2⟩
      go_wp2_with fail
      go_ret
      exact ⟨ret_bool (by simp), bstep (bstep bal2 hb1) hb2⟩
    · rw [hu] at HU
      have HI := HI hv hu
      generalize t.cons u = r at *
      have HH := Lib.hid HV
      have HK := Lib.hid HU
      have HJ := Lib.hid HI
      clear HV HU HI hv hu
      go_enter Try.func30, Try.ntmps30
      go_wp2_with fail
      refine (HH.out _ bal2).mono ?_
      rintro e w1 ⟨rfl, hb1⟩
      obtain ⟨hc, hf⟩ := brules hb1
      go_wp2_with fail
      refine (HK.out _ (bstep bal2 hb1)).mono ?_
      rintro e w2 ⟨rfl, hb2⟩
      clear hc hf
      obtain ⟨hc, hf⟩ := brules (bstep hb1 hb2)
      go_wp2_with fail
      refine (HJ.out _ (bstep (bstep bal2 hb1) hb2)).mono ?_
      rintro e w3 ⟨rfl, hb3⟩
      go_wp2_with fail
      go_ret
      exact ⟨ret_bool (by simp), bstep (bstep (bstep bal2 hb1) hb2) hb3⟩

end Go.Proofs.Ythhdjacdalehoaa
namespace Go.Proofs.Ythhdjacdalehoaa
open Go.RowKit
set_option linter.unusedVariables false
set_option linter.unusedSimpArgs false
set_option maxRecDepth 100000

set_option maxHeartbeats 1000000 in
theorem specConsistent (F G : Nat → Prop) (t u : Ty) (y z : Value) (w : World) (hy : TyRep F w t y) (hz : TyRep G w u z) :
    Calls Try.prog 33 #[y, z] w fun e w' => e = .returned (.bool (t.valid && u.valid && t.cons u)) ∧ Below w.heap.size w w' := by
  obtain ⟨k, a, n, q, rfl⟩ := hy.shape
  obtain ⟨k', a', n', q', rfl⟩ := hz.shape
  have HV := fun W (h : Below w.heap.size w W) => specTypeValid F t _ W (hy.below h)
  have HU := fun W (h : Below w.heap.size w W) => specTypeValid G u _ W (hz.below h)
  have HI := fun (hv : t.valid = true) (hu : u.valid = true) W (h : Below w.heap.size w W) => specL1Consistent F G t u 4 4 _ _ W (hy.below h) (hz.below h) hv hu
  clear hy hz
  cases hv : t.valid
  · rw [hv] at HV
    have HH := Lib.hid HV
    clear HV HU HI hv
    go_enter Try.func33, Try.ntmps33
    go_wp2_with fail
    refine (HH.out _ bal2).mono ?_
    rintro e w1 ⟨rfl, hb1⟩
    go_wp2_with fail
    go_ret
    exact ⟨ret_bool (by simp), bstep bal2 hb1⟩
  · rw [hv] at HV
    cases hu : u.valid
    · rw [hu] at HU
      have HH := Lib.hid HV
      have HK := Lib.hid HU
      clear HV HU HI hv hu
      go_enter Try.func33, Try.ntmps33
      go_wp2_with fail
      refine (HH.out _ bal2).mono ?_
      rintro e w1 ⟨rfl, hb1⟩
      obtain ⟨hc, hf⟩ := brules hb1
      go_wp2_with fail
      refine (HK.out _ (bstep bal2 hb1)).mono ?_
      rintro e w2 ⟨rfl, hb2⟩
      go_wp2_with fail
      go_ret
      exact ⟨ret_bool (by simp), bstep (bstep bal2 hb1) hb2⟩
    · rw [hu] at HU
      have HI := HI hv hu
      generalize t.cons u = r at *
      have HH := Lib.hid HV
      have HK := Lib.hid HU
      have HJ := Lib.hid HI
      clear HV HU HI hv hu
      go_enter Try.func33, Try.ntmps33
      go_wp2_with fail
      refine (HH.out _ bal2).mono ?_
      rintro e w1 ⟨rfl, hb1⟩
      obtain ⟨hc, hf⟩ := brules hb1
      go_wp2_with fail
      refine (HK.out _ (bstep bal2 hb1)).mono ?_
      rintro e w2 ⟨rfl, hb2⟩
      clear hc hf
      obtain ⟨hc, hf⟩ := brules (bstep hb1 hb2)
      go_wp2_with fail
      refine (HJ.out _ (bstep (bstep bal2 hb1) hb2)).mono ?_
      rintro e w3 ⟨rfl, hb3⟩
      go_wp2_with fail
      go_ret
      exact ⟨ret_bool (by simp), bstep (bstep (bstep bal2 hb1) hb2) hb3⟩

end Go.Proofs.Ythhdjacdalehoaa
