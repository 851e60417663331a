/-
  StaticTerm of both sides.
-/
import Derived.Test.YtghgjpcibdfbmaaTmTypes
import Derived.Test.YtghgjpcibdfbmaaTyCount
namespace Go.Proofs.Ytghgjpcibdfbmaa
open Go.RowKit
set_option linter.unusedVariables false
set_option linter.unusedSimpArgs false
set_option maxRecDepth 100000

set_option maxHeartbeats 1000000 in
theorem indexFunc_Ty0 (g : FuncId) (R : Ty → Bool) (F : Nat → Prop) (ts : List Ty) (ys : Value) (w : World) (hy : TysRep F w ts ys)
    (hcf : ∀ xs W, (callFunc g xs).run Try.prog W = .ok (.enter g xs) W)
    (hg : ∀ t ∈ ts, ∀ (W : World) (y : Value), Below w.heap.size w W → TyRep F W t y → Calls Try.prog g #[y] W fun e W' => e = .returned (.bool (R t)) ∧ Below W.heap.size W W') :
    Calls Try.prog 119 #[ys, .func (.func g) #[] #[]] w (IdxPost R ts w) := by
  have HG := Lib.hid hg
  clear hg
  obtain ⟨a, cap, rfl, h2, h3, -⟩ := hy.open
  unfold maxLen at h3
  obtain ⟨n, hn⟩ : ∃ n, ts.length = n := ⟨_, rfl⟩
  rw [hn] at h2 hy ⊢
  have HN := Lib.hid hn
  clear hn
  go_enter Try.func119, Try.ntmps119
  go_wp2_with fail
  go_loopw [8] (fun i wr => ∃ k : Nat, k ≤ n ∧ i = .int .i64 k ∧ Below w.heap.size w wr ∧ Hid (ts.any R = (ts.drop k).any R)) (fun i _ => n - (intOf i).toNat)
  case atStart => exact ⟨0, by omega, rfl, Below.refl _ _, rfl⟩
  case round =>
    obtain ⟨k, hk, rfl, hbw, hR⟩ := hrel
    by_cases hlt : k < n
    · have hkt : k < ts.length := by rw [HN.out]; exact hlt
      obtain ⟨b, off, k0, a0, m0, q0, rfl, l0, e0, e1, ht⟩ := hy.at hbw hkt
      have hcall := HG.out ts[k] (List.getElem_mem hkt) wr _ hbw ht
      have hstep := hR.out.trans (any_drop R ts k hkt)
      generalize R ts[k] = r at hcall hstep
      have HC := Lib.hid hcall
      have HS := Lib.hid hstep
      clear hcall hstep hR
      cases r
      all_goals
        go_wp2_with fail
        refine HC.out.mono ?_
        rintro e w1 ⟨rfl, hb1⟩
        go_wp2_with fail
      · go_roundw
        case rel => exact ⟨k + 1, by omega, by go_num, bstep hbw hb1, by rw [Hid, HS.out]; rfl⟩
        case measure => simp [intOf]; omega
      · go_ret
        exact ⟨_, rfl, by rw [HS.out]; simp, bstep hbw hb1⟩
    · go_wp2_with fail
      go_ret
      exact ⟨_, rfl, by rw [hR.out, List.drop_eq_nil_of_le (by rw [HN.out]; omega)]; rfl, hbw⟩

set_option maxHeartbeats 400000 in
theorem containsFunc_Ty0 (g : FuncId) (R : Ty → Bool) (F : Nat → Prop) (ts : List Ty) (ys : Value) (w : World) (hy : TysRep F w ts ys)
    (hcf : ∀ xs W, (callFunc g xs).run Try.prog W = .ok (.enter g xs) W)
    (hg : ∀ t ∈ ts, ∀ (W : World) (y : Value), Below w.heap.size w W → TyRep F W t y → Calls Try.prog g #[y] W fun e W' => e = .returned (.bool (R t)) ∧ Below W.heap.size W W') :
    Calls Try.prog 83 #[ys, .func (.func g) #[] #[]] w fun e w' => e = .returned (.bool (ts.any R)) ∧ Below w.heap.size w w' := by
  have H := Lib.hid (indexFunc_Ty0 g R F ts ys w hy hcf hg)
  clear hg hcf hy
  go_enter Try.func83, Try.ntmps83
  go_wp2_with fail
  refine H.out.mono ?_
  rintro e w1 ⟨i, rfl, hi, hb1⟩
  have HI := Lib.hid hi
  clear hi
  go_wp2_with fail
  go_ret
  exact ⟨ret_bool HI.out, hb1⟩

theorem leaf_static1_0 (z : Int) : (decide (z > 0) : Bool) = (decide (z > 0)) := by
  simp_all

set_option maxHeartbeats 1000000 in
theorem static1 (F : Nat → Prop) (t : Ty) (y : Value) (w : World) (hy : TyRep F w t y) (hc : t.cnt ≤ 1048576) : Calls Try.prog 85 #[y] w fun e w' => e = .returned (.bool (t.vague)) ∧ Below w.heap.size w w' := by
  have h1 := fun W (h : Below w.heap.size w W) => implCountAny0 F t y W (hy.below h) hc
  obtain ⟨k, a, n, q, rfl⟩ := hy.shape
  unfold Ty.vague
  generalize (t.any : Int) = z at *
  have H1 := Lib.hid h1
  clear h1 hy
  obtain ⟨rr, hrr⟩ : ∃ rr0 : Bool, (decide (z > 0)) = rr0 := ⟨_, rfl⟩
  rw [hrr]
  have HT := Lib.hid hrr
  clear hrr
  go_enter Try.func85, Try.ntmps85
  go_wp2_with fail
  refine (H1.out _ bal1).mono ?_
  rintro e w1 ⟨rfl, hb1⟩
  have hB := (bstep bal1 hb1)
  have zw1 := hB.size
  go_wp2_with fail
  refine bodyPost_ret (v := .bool (decide (z > 0))) (by simp [results, Try.results85, go_sem, bne]) rfl ?_
  exact ⟨ret_bool ((leaf_static1_0 z ).trans HT.out), hB⟩
set_option maxHeartbeats 4000000 in
theorem implStaticTerm (F : Nat → Prop) (t : Tm) (y : Value) (w : World) (hy : TmRep F w t y) :
    Calls Try.prog 37 #[y] w fun e w' => e = .returned (.bool (t.staticB)) ∧ Below w.heap.size w w' := by
  have hv := fun W (h : Below w.heap.size w W) => implTermValid F t y W (hy.below h)
  have hT := fun (hok : t.valid = true) W (h : Below w.heap.size w W) => implTypes F t (by have := (Tm.tys_ok hok).1; omega) (Tm.tys_ok hok).2 y W (hy.below h)
  have hC := fun (hok : t.valid = true) (G : Nat → Prop) (ys : Value) W (hr : TysRep G W t.tys ys) => containsFunc_Ty0 _ Ty.vague G t.tys ys W hr Try.call85 (fun x hx W' y' hb' hr' => static1 G x y' W' hr' ((Tm.tys_ok hok).2 x hx))
  unfold Tm.staticB
  obtain ⟨k, nm, u, tk, ta, tn, tq, fk, fa, fn, fq, l, c, m, q, rfl⟩ := hy.shape
  generalize t.tys.any Ty.vague = r at *
  generalize t.tys = us at *
  generalize t.valid = v at *
  have HV := Lib.hid hv
  have HT := Lib.hid hT
  have HC := Lib.hid hC
  clear hv hT hy hC
  cases v
  · go_enter Try.func37, Try.ntmps37
    go_wp2_with fail
    refine (HV.out _ bal1).mono ?_
    rintro e w1 ⟨rfl, hb1⟩
    go_wp2_with fail
    go_ret
    exact ⟨rfl, bstep bal1 hb1⟩
  · go_enter Try.func37, Try.ntmps37
    go_wp2_with fail
    refine (HV.out _ bal1).mono ?_
    rintro e w1 ⟨rfl, hb1⟩
    have c0 : w1.cell? ⟨w.heap.size, 0, none⟩ = some (.int .i64 k) := bcell hb1 (cell_n0 0)
    have c1 : w1.cell? ⟨w.heap.size, 1, none⟩ = some (.string nm) := bcell hb1 (cell_n0 1)
    have c2 : w1.cell? ⟨w.heap.size, 2, none⟩ = some (.int .i64 u) := bcell hb1 (cell_n0 2)
    have c3 : w1.cell? ⟨w.heap.size, 3, none⟩ = some (.int .i64 tk) := bcell hb1 (cell_n0 3)
    have c4 : w1.cell? ⟨w.heap.size, 4, none⟩ = some (.slice ta tn tq) := bcell hb1 (cell_n0 4)
    have c5 : w1.cell? ⟨w.heap.size, 5, none⟩ = some (.int .i64 fk) := bcell hb1 (cell_n0 5)
    have c6 : w1.cell? ⟨w.heap.size, 6, none⟩ = some (.slice fa fn fq) := bcell hb1 (cell_n0 6)
    have c7 : w1.cell? ⟨w.heap.size, 7, none⟩ = some (.int .i64 l) := bcell hb1 (cell_n0 7)
    have c8 : w1.cell? ⟨w.heap.size, 8, none⟩ = some (.slice c m q) := bcell hb1 (cell_n0 8)
    have hB1 := bstep bal1 hb1
    go_wp2_with fail
    refine (HT.out (by simp) _ hB1).mono ?_
    rintro e w2 ⟨v2, rfl, hv2, -, hb2⟩
    have hr2 : TysRep (w1.heap.size ≤ ·) w2 us v2 := (show TysNew w1.heap.size w2 us v2 from hv2.tys).rep
    obtain ⟨c2, q2, rfl⟩ := hv2.shape
    clear hv2
    go_wp2_with fail
    refine (HC.out (by simp) _ _ _ hr2).mono ?_
    rintro e w3 ⟨rfl, hb3⟩
    go_wp2_with fail
    go_ret
    exact ⟨rfl, bstep (bstep hB1 hb2) hb3⟩
set_option maxHeartbeats 4000000 in
theorem specStaticTerm (F : Nat → Prop) (t : Tm) (y : Value) (w : World) (hy : TmRep F w t y) :
    Calls Try.prog 36 #[y] w fun e w' => e = .returned (.bool (t.staticB)) ∧ Below w.heap.size w w' := by
  have hv := fun W (h : Below w.heap.size w W) => specTermValid F t y W (hy.below h)
  have hT := fun W (h : Below w.heap.size w W) => specTermTypes F t y W (hy.below h)
  have hok : ∀ x ∈ t.types, x.cnt ≤ 1048576 := by
    unfold Tm.types
    split
    · rename_i h; exact (Tm.tys_ok h).2
    · intro x hx; cases hx
  have hres : (t.types.any Ty.vague = true → t.staticB = false) ∧ (t.types.any Ty.vague = false → t.staticB = t.valid) := by
    unfold Tm.types Tm.staticB
    cases t.valid <;> simp
  obtain ⟨k, nm, u, tk, ta, tn, tq, fk, fa, fn, fq, l, c, m, q, rfl⟩ := hy.shape
  generalize t.types = us at *
  generalize t.valid = v at *
  generalize t.staticB = sb at *
  have HV := Lib.hid hv
  have HT := Lib.hid hT
  have HOK := Lib.hid hok
  have HRES := Lib.hid hres
  clear hv hT hy hok hres
  go_enter Try.func36, Try.ntmps36
  go_wp2_with fail
  refine (HT.out _ bal1).mono ?_
  rintro e w1 ⟨v1, rfl, hv1, hb1⟩
  have hr1 := hv1.rep
  obtain ⟨a1, q1, rfl, h2, h3, -⟩ := hr1.open
  unfold maxLen at h3
  obtain ⟨n, hn⟩ : ∃ n, us.length = n := ⟨_, rfl⟩
  rw [hn] at h2 hr1 ⊢
  have HN := Lib.hid hn
  have c0 : w1.cell? ⟨w.heap.size, 0, none⟩ = some (.int .i64 k) := bcell hb1 (cell_n0 0)
  have c1 : w1.cell? ⟨w.heap.size, 1, none⟩ = some (.string nm) := bcell hb1 (cell_n0 1)
  have c2 : w1.cell? ⟨w.heap.size, 2, none⟩ = some (.int .i64 u) := bcell hb1 (cell_n0 2)
  have c3 : w1.cell? ⟨w.heap.size, 3, none⟩ = some (.int .i64 tk) := bcell hb1 (cell_n0 3)
  have c4 : w1.cell? ⟨w.heap.size, 4, none⟩ = some (.slice ta tn tq) := bcell hb1 (cell_n0 4)
  have c5 : w1.cell? ⟨w.heap.size, 5, none⟩ = some (.int .i64 fk) := bcell hb1 (cell_n0 5)
  have c6 : w1.cell? ⟨w.heap.size, 6, none⟩ = some (.slice fa fn fq) := bcell hb1 (cell_n0 6)
  have c7 : w1.cell? ⟨w.heap.size, 7, none⟩ = some (.int .i64 l) := bcell hb1 (cell_n0 7)
  have c8 : w1.cell? ⟨w.heap.size, 8, none⟩ = some (.slice c m q) := bcell hb1 (cell_n0 8)
  have hB1 := bstep bal1 hb1
  clear hn hv1
  go_wp2_with fail
  go_loopw [4] (fun i wr => ∃ j : Nat, j ≤ n ∧ i = .int .i64 j ∧ Below w1.heap.size w1 wr ∧ Hid (us.any Ty.vague = (us.drop j).any Ty.vague)) (fun i _ => n - (intOf i).toNat)
  case atStart => exact ⟨0, by omega, rfl, Below.refl _ _, rfl⟩
  case round =>
    obtain ⟨j, hj, rfl, hbw, hR⟩ := hrel
    by_cases hlt : j < n
    · have hjt : j < us.length := by have := HN.out; omega
      obtain ⟨b, off, k0, a0, m0, q0, rfl, lb, e0, e1, ht⟩ := hr1.at hbw hjt
      have hcall := specL1Count _ us[j] _ wr ht (HOK.out _ (List.getElem_mem hjt))
      have hstep := hR.out.trans (any_drop Ty.vague us j hjt)
      have hvg : us[j].vague = decide ((us[j].any : Int) > 0) := rfl
      rw [hvg] at hstep
      generalize (us[j].any : Int) = z at hcall hstep
      have HC := Lib.hid hcall
      have HS := Lib.hid hstep
      clear hcall hstep hR hvg
      by_cases hz : z > 0
      · have hz' : decide (z > 0) = true := decide_eq_true hz
        go_wp2_with fail
        refine HC.out.mono ?_
        rintro e w2 ⟨rfl, hb2⟩
        go_wp2_with fail
        go_ret
        exact ⟨ret_bool (HRES.out.1 (by rw [HS.out, hz']; rfl)).symm, bstep hB1 (bstep hbw hb2)⟩
      · have hz' : decide (z > 0) = false := decide_eq_false hz
        go_wp2_with fail
        refine HC.out.mono ?_
        rintro e w2 ⟨rfl, hb2⟩
        go_wp2_with fail
        go_roundw
        case rel => exact ⟨j + 1, by omega, by go_num, bstep hbw hb2, by rw [Hid, HS.out, hz']; rfl⟩
        case measure => simp [intOf]; omega
    · have hany : us.any Ty.vague = false := by rw [hR.out, List.drop_eq_nil_of_le (by have := HN.out; omega)]; rfl
      have HA := Lib.hid hany
      clear hany hR
      have d0 := bcell hbw c0
      have d1 := bcell hbw c1
      have d2 := bcell hbw c2
      have d3 := bcell hbw c3
      have d4 := bcell hbw c4
      have d5 := bcell hbw c5
      have d6 := bcell hbw c6
      have d7 := bcell hbw c7
      have d8 := bcell hbw c8
      have hBw := bstep hB1 hbw
      go_wp2_with fail
      refine (HV.out _ hBw).mono ?_
      rintro e w2 ⟨rfl, hb2⟩
      go_wp2_with fail
      go_ret
      exact ⟨ret_bool (HRES.out.2 HA.out).symm, bstep hBw hb2⟩
end Go.Proofs.Ytghgjpcibdfbmaa
