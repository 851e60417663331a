/-
  CtxValid of the program and of the reference.
-/
import Derived.Test.YtgbjoalpjoihmaaBd
namespace Go.Proofs.Ytgbjoalpjoihmaa
open Go.RowKit
set_option linter.unusedVariables false
set_option linter.unusedSimpArgs false
set_option maxRecDepth 100000

theorem ctxValid1 (F : Nat → Prop) (b : Bd) (y : Value) (w : World) (hy : BdRep F w b y) :
    Calls Try.prog 24 #[y] w fun e w' => e = .returned (.bool (!b.ok)) ∧ Below w.heap.size w w' := by
  obtain ⟨k, c, m, q, rfl, -, ht⟩ := hy
  have H := fun W (h : Below w.heap.size w W) => implTypeValid F b.ty _ W (ht.below h)
  have HN := fun W => implIsName b.name W
  unfold Bd.ok
  generalize b.name = nm at *
  generalize nameB nm = nb at *
  generalize b.ty.valid = tv at *
  have HH := Lib.hid H
  have HM := Lib.hid HN
  clear H HN ht
  cases nb
  · go_enter Try.func24, Try.ntmps24
    go_wp2_with fail
    refine (HM.out _).mono ?_
    rintro e w1 ⟨rfl, rfl⟩
    go_wp2_with fail
    go_ret
    exact ⟨ret_bool (by simp), bal1⟩
  · go_enter Try.func24, Try.ntmps24
    go_wp2_with fail
    refine (HM.out _).mono ?_
    rintro e w1 ⟨rfl, rfl⟩
    go_wp2_with fail
    refine (HH.out _ bal1).mono ?_
    rintro e w1 ⟨rfl, hb1⟩
    go_wp2_with fail
    go_ret
    exact ⟨ret_bool (by simp), bstep bal1 hb1⟩

def IdxPostB (R : Bd → Bool) (ts : List Bd) (w : World) (e : Ending) (w' : World) : Prop := ∃ i : Int, e = .returned (.int .i64 i) ∧ decide (0 ≤ i) = ts.any R ∧ Below w.heap.size w w'
theorem any_dropB (R : Bd → Bool) (ts : List Bd) (k : Nat) (h : k < ts.length) : (ts.drop k).any R = (R ts[k] || (ts.drop (k + 1)).any R) := by
  rw [List.drop_eq_getElem_cons h]; rfl
set_option maxHeartbeats 1000000 in
theorem indexFunc_Bd (g : FuncId) (R : Bd → Bool) (F : Nat → Prop) (ts : List Bd) (ys : Value) (w : World) (hy : BdsRep F w ts ys)
    (hcf : ∀ xs W, (callFunc g xs).run Try.prog W = .ok (.enter g xs) W)
    (hg : ∀ t ∈ ts, ∀ (W : World) (y : Value), Below w.heap.size w W → BdRep F W t y → Calls Try.prog g #[y] W fun e W' => e = .returned (.bool (R t)) ∧ Below W.heap.size W W') :
    Calls Try.prog 45 #[ys, .func (.func g) #[] #[]] w (IdxPostB R ts w) := by
  have HG := Lib.hid hg
  clear hg
  obtain ⟨a, cap, rfl, h2, h3, -⟩ := hy.open
  unfold maxLen at h3
  obtain ⟨n, hn⟩ : ∃ n, ts.length = n := ⟨_, rfl⟩
  rw [hn] at h2 hy ⊢
  have HN := Lib.hid hn
  clear hn
  go_enter Try.func45, Try.ntmps45
  go_wp2_with fail
  go_loopw [8] (fun i wr => ∃ k : Nat, k ≤ n ∧ i = .int .i64 k ∧ Below w.heap.size w wr ∧ Hid (ts.any R = (ts.drop k).any R)) (fun i _ => n - (intOf i).toNat)
  case atStart => exact ⟨0, by omega, rfl, Below.refl _ _, rfl⟩
  case round =>
    obtain ⟨k, hk, rfl, hbw, hR⟩ := hrel
    by_cases hlt : k < n
    · have hkt : k < ts.length := by rw [HN.out]; exact hlt
      obtain ⟨b, off, k0, a0, m0, q0, rfl, l0, e0, ez, e1, e2, ht⟩ := hy.at hbw hkt
      have hcall := HG.out ts[k] (List.getElem_mem hkt) wr _ hbw ⟨_, _, _, _, rfl, ez, ht⟩
      have hstep := hR.out.trans (any_dropB R ts k hkt)
      generalize R ts[k] = r at hcall hstep
      generalize ts[k].name = nm at e0 ez hcall
      have HC := Lib.hid hcall
      have HS := Lib.hid hstep
      clear hcall hstep hR ez ht
      cases r
      all_goals
        go_wp2_with fail
        refine HC.out.mono ?_
        rintro e w1 ⟨rfl, hb1⟩
        go_wp2_with fail
      · go_roundw
        case rel => exact ⟨k + 1, by omega, by go_num, bstep hbw hb1, by rw [Hid, HS.out]; rfl⟩
        case measure => simp [intOf]; omega
      · go_ret
        exact ⟨_, rfl, by rw [HS.out]; simp, bstep hbw hb1⟩
    · go_wp2_with fail
      go_ret
      exact ⟨_, rfl, by rw [hR.out, List.drop_eq_nil_of_le (by rw [HN.out]; omega)]; rfl, hbw⟩
set_option maxHeartbeats 400000 in
theorem containsFunc_Bd (g : FuncId) (R : Bd → Bool) (F : Nat → Prop) (ts : List Bd) (ys : Value) (w : World) (hy : BdsRep F w ts ys)
    (hcf : ∀ xs W, (callFunc g xs).run Try.prog W = .ok (.enter g xs) W)
    (hg : ∀ t ∈ ts, ∀ (W : World) (y : Value), Below w.heap.size w W → BdRep F W t y → Calls Try.prog g #[y] W fun e W' => e = .returned (.bool (R t)) ∧ Below W.heap.size W W') :
    Calls Try.prog 23 #[ys, .func (.func g) #[] #[]] w fun e w' => e = .returned (.bool (ts.any R)) ∧ Below w.heap.size w w' := by
  have H := Lib.hid (indexFunc_Bd g R F ts ys w hy hcf hg)
  clear hg hcf hy
  go_enter Try.func23, Try.ntmps23
  go_wp2_with fail
  refine H.out.mono ?_
  rintro e w1 ⟨i, rfl, hi, hb1⟩
  have HI := Lib.hid hi
  clear hi
  go_wp2_with fail
  go_ret
  exact ⟨ret_bool HI.out, hb1⟩
theorem any_notOk (l : List Bd) : l.any (fun b => !b.ok) = !l.all Bd.ok := by
  induction l with
  | nil => rfl
  | cons b l ih => rw [List.any_cons, List.all_cons, ih]; cases b.ok <;> rfl
theorem ctxB_long {l : List Bd} (h : ¬ l.length ≤ 12) : ctxB l = false := by unfold ctxB; rw [decide_eq_false h]; rfl
theorem ctxB_short {l : List Bd} (h : l.length ≤ 12) : ctxB l = l.all Bd.ok := by unfold ctxB; rw [decide_eq_true h]; rfl
set_option maxHeartbeats 1000000 in
theorem implCtxValid (F : Nat → Prop) (l : List Bd) (y : Value) (w : World) (hy : BdsRep F w l y) :
    Calls Try.prog 7 #[y] w fun e w' => e = .returned (.bool (ctxB l)) ∧ Below w.heap.size w w' := by
  have HC := fun W (h : Below w.heap.size w W) => containsFunc_Bd 24 (fun b => !b.ok) F l y W (hy.below h) Try.call24 (fun t _ W y _ h => ctxValid1 F t y W h)
  obtain ⟨a, cap, rfl, h2, h3, -⟩ := hy.open
  unfold maxLen at h3
  by_cases h12 : l.length ≤ 12
  · rw [ctxB_short h12]
    simp only [any_notOk] at HC
    have hd : decide ((l.length : Int) ≤ 12) = true := by simp; omega
    generalize l.all Bd.ok = r at *
    generalize l.length = n at *
    have H := Lib.hid HC
    clear HC hy
    cases r
    all_goals
      go_enter Try.func7, Try.ntmps7
      go_wp2_with fail
      refine (H.out _ (Below.refl _ _)).mono ?_
      rintro e w1 ⟨rfl, hb1⟩
      go_wp2_with fail
      go_ret
      exact ⟨ret_bool (by simp), hb1⟩
  · rw [ctxB_long h12]
    have hd : decide ((l.length : Int) ≤ 12) = false := by simp; omega
    clear HC hy
    generalize l.length = n at *
    go_enter Try.func7, Try.ntmps7
    go_wp2_with fail
    go_ret
    exact ⟨ret_bool (by simp), Below.refl _ _⟩
set_option maxHeartbeats 1000000 in
theorem specCtxValid (F : Nat → Prop) (l : List Bd) (y : Value) (w : World) (hy : BdsRep F w l y) :
    Calls Try.prog 8 #[y] w fun e w' => e = .returned (.bool (ctxB l)) ∧ Below w.heap.size w w' := by
  have HV := Lib.hid (specTypeValid F)
  obtain ⟨a, cap, rfl, h2, h3, -⟩ := hy.open
  unfold maxLen at h3
  obtain ⟨n, hn⟩ : ∃ n, l.length = n := ⟨_, rfl⟩
  rw [hn] at h2 hy ⊢
  have HN := Lib.hid hn
  clear hn
  go_enter Try.func8, Try.ntmps8
  go_wp2_with fail
  go_loopw [3] (fun i wr => ∃ j : Nat, j ≤ n ∧ i = .int .i64 j ∧ Below w.heap.size w wr ∧ Hid (l.all Bd.ok = (l.drop j).all Bd.ok)) (fun i _ => n - (intOf i).toNat)
  case atStart => exact ⟨0, by omega, rfl, Below.refl _ _, rfl⟩
  case round =>
    obtain ⟨j, hj, rfl, hbw, hR⟩ := hrel
    by_cases hlt : j < n
    · have hjt : j < l.length := by rw [HN.out]; exact hlt
      obtain ⟨b, off, k0, a0, m0, q0, rfl, l0, e0, ez, e1, e2, ht⟩ := hy.at hbw hjt
      have hstep : l.all Bd.ok = ((nameB l[j].name && l[j].ty.valid) && (l.drop (j + 1)).all Bd.ok) := by rw [hR.out, List.drop_eq_getElem_cons hjt]; rfl
      have HC := HV.out l[j].ty _ _ ht
      have HM := fun W => specL2Name l[j].name W
      generalize l[j].name = nm at *
      generalize nameB nm = nb at *
      generalize l[j].ty.valid = tv at *
      have HS := Lib.hid hstep
      have HCC := Lib.hid HC
      have HMM := Lib.hid HM
      clear hstep HC HM hR ht ez
      cases nb
      · go_wp2_with fail
        refine (HMM.out _).mono ?_
        rintro e w1 ⟨rfl, rfl⟩
        go_wp2_with fail
        go_ret
        exact ⟨ret_bool (by unfold ctxB; rw [HS.out]; simp), hbw⟩
      · cases tv
        · go_wp2_with fail
          refine (HMM.out _).mono ?_
          rintro e w1 ⟨rfl, rfl⟩
          go_wp2_with fail
          refine HCC.out.mono ?_
          rintro e w1 ⟨rfl, hb1⟩
          go_wp2_with fail
          go_ret
          exact ⟨ret_bool (by unfold ctxB; rw [HS.out]; simp), bstep hbw hb1⟩
        · go_wp2_with fail
          refine (HMM.out _).mono ?_
          rintro e w1 ⟨rfl, rfl⟩
          go_wp2_with fail
          refine HCC.out.mono ?_
          rintro e w1 ⟨rfl, hb1⟩
          go_wp2_with fail
          go_roundw
          case rel => exact ⟨j + 1, by omega, by go_num, bstep hbw hb1, by rw [Hid, HS.out]; rfl⟩
          case measure => simp [intOf]; omega
    · have hall : l.all Bd.ok = true := by rw [hR.out, List.drop_eq_nil_of_le (by rw [HN.out]; omega)]; rfl
      have HA := Lib.hid hall
      clear hall
      go_wp2_with fail
      go_ret
      exact ⟨ret_bool (by unfold ctxB; rw [HA.out, HN.out]; simp <;> omega), hbw⟩
end Go.Proofs.Ytgbjoalpjoihmaa
