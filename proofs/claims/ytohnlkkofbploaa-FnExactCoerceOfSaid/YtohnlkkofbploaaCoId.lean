/-
  CoercionIdentity of both sides.
-/
import Derived.Test.YtohnlkkofbploaaCoHgt
namespace Go.Proofs.Ytohnlkkofbploaa
open Go.RowKit
set_option linter.unusedVariables false
set_option linter.unusedSimpArgs false
set_option maxRecDepth 100000

theorem all_dropC (f : Co → Bool) (ts : List Co) (k : Nat) (h : k < ts.length) : (ts.drop k).all f = (f ts[k] && (ts.drop (k + 1)).all f) := by
  rw [List.drop_eq_getElem_cons h]; rfl
mutual
theorem Co.shape_mono : ∀ (t : Co) (d e : Int), t.shape d = true → d ≤ e → t.shape e = true
  | .mk k g l ts, d, e, h, hd => by
    unfold Co.shape at h ⊢
    simp only [Bool.and_eq_true, decide_eq_true_eq] at h ⊢
    exact ⟨⟨by omega, h.1.2⟩, Co.shapes_mono ts _ _ h.2 (by omega)⟩
theorem Co.shapes_mono : ∀ (ts : List Co) (d e : Int), Co.shapes ts d = true → d ≤ e → Co.shapes ts e = true
  | [], _, _, _, _ => by unfold Co.shapes; rfl
  | t :: ts, d, e, h, hd => by
    unfold Co.shapes at h ⊢
    simp only [Bool.and_eq_true] at h ⊢
    exact ⟨Co.shape_mono t d e h.1 hd, Co.shapes_mono ts d e h.2 hd⟩
end
theorem Co.idsB_any : ∀ ts : List Co, ts.any (fun t => !t.idB) = !Co.idsB ts
  | [] => by unfold Co.idsB; rfl
  | t :: ts => by unfold Co.idsB; rw [List.any_cons, Co.idsB_any ts]; cases t.idB <;> rfl
theorem Co.idsB_all : ∀ ts : List Co, Co.shapes ts 9 = true → ts.all (fun t => t.valid && t.idB) = Co.idsB ts
  | [], _ => by unfold Co.idsB; rfl
  | t :: ts, h => by
    unfold Co.shapes at h
    simp only [Bool.and_eq_true] at h
    unfold Co.idsB
    rw [List.all_cons, Co.idsB_all ts h.2, show t.valid = true from h.1, Bool.true_and]
theorem Co.ident_eq (k g l : Int) (ts : List Co) : ((Co.mk k g l ts).valid && !(k == 4 || k == 5 || k == 6) && ts.all (fun t => t.valid && t.idB)) = ((Co.mk k g l ts).valid && (Co.mk k g l ts).idB) := by
  by_cases hv : (Co.mk k g l ts).valid = true
  · rw [hv]
    have h := Co.shape_parts (d := 9) hv
    rw [Co.idsB_all ts (Co.shapes_mono ts _ _ h.2 (by omega))]
    unfold Co.idB
    have hk := h.1
    unfold coOps at hk
    have : k = 1 ∨ k = 2 ∨ k = 3 ∨ k = 4 ∨ k = 5 ∨ k = 6 := by
      split at hk
      · omega
      · split at hk
        · omega
        · split at hk <;> omega
    rcases this with rfl | rfl | rfl | rfl | rfl | rfl <;> simp
  · have hv' : (Co.mk k g l ts).valid = false := by simpa using hv
    rw [hv']; rfl
set_option maxHeartbeats 1000000 in
theorem indexFunc_Co0 (g : FuncId) (R : Co → Bool) (F : Nat → Prop) (ts : List Co) (ys : Value) (w : World) (hy : CosRep F w ts ys)
    (hcf : ∀ xs W, (callFunc g xs).run Try.prog W = .ok (.enter g xs) W)
    (hg : ∀ t ∈ ts, ∀ (W : World) (y : Value), Below w.heap.size w W → CoRep F W t y → Calls Try.prog g #[y] W fun e W' => e = .returned (.bool (R t)) ∧ Below W.heap.size W W') :
    Calls Try.prog 92 #[ys, .func (.func g) #[] #[]] w (IdxPostC R ts w) := by
  have HG := Lib.hid hg
  clear hg
  obtain ⟨a, cap, rfl, h2, h3, -⟩ := hy.open
  unfold maxLen at h3
  obtain ⟨n, hn⟩ : ∃ n, ts.length = n := ⟨_, rfl⟩
  rw [hn] at h2 hy ⊢
  have HN := Lib.hid hn
  clear hn
  go_enter Try.func92, Try.ntmps92
  go_wp2_with fail
  go_loopw [8] (fun i wr => ∃ k : Nat, k ≤ n ∧ i = .int .i64 k ∧ Below w.heap.size w wr ∧ Hid (ts.any R = (ts.drop k).any R)) (fun i _ => n - (intOf i).toNat)
  case atStart => exact ⟨0, by omega, rfl, Below.refl _ _, rfl⟩
  case round =>
    obtain ⟨k, hk, rfl, hbw, hR⟩ := hrel
    by_cases hlt : k < n
    · have hkt : k < ts.length := by rw [HN.out]; exact hlt
      obtain ⟨b, off, k0, g0, l0, a0, m0, q0, rfl, lb, e0, e1, e2, e3, ht⟩ := hy.at hbw hkt
      have hcall := HG.out ts[k] (List.getElem_mem hkt) wr _ hbw ht
      have hstep := hR.out.trans (any_dropC R ts k hkt)
      generalize R ts[k] = r at hcall hstep
      have HC := Lib.hid hcall
      have HS := Lib.hid hstep
      clear hcall hstep hR
      cases r
      all_goals
        go_wp2_with fail
        refine HC.out.mono ?_
        rintro e w1 ⟨rfl, hb1⟩
        go_wp2_with fail
      · go_roundw
        case rel => exact ⟨k + 1, by omega, by go_num, bstep hbw hb1, by rw [Hid, HS.out]; rfl⟩
        case measure => simp [intOf]; omega
      · go_ret
        exact ⟨_, rfl, by rw [HS.out]; simp, bstep hbw hb1⟩
    · go_wp2_with fail
      go_ret
      exact ⟨_, rfl, by rw [hR.out, List.drop_eq_nil_of_le (by rw [HN.out]; omega)]; rfl, hbw⟩
set_option maxHeartbeats 400000 in
theorem containsFunc_Co0 (g : FuncId) (R : Co → Bool) (F : Nat → Prop) (ts : List Co) (ys : Value) (w : World) (hy : CosRep F w ts ys)
    (hcf : ∀ xs W, (callFunc g xs).run Try.prog W = .ok (.enter g xs) W)
    (hg : ∀ t ∈ ts, ∀ (W : World) (y : Value), Below w.heap.size w W → CoRep F W t y → Calls Try.prog g #[y] W fun e W' => e = .returned (.bool (R t)) ∧ Below W.heap.size W W') :
    Calls Try.prog 69 #[ys, .func (.func g) #[] #[]] w fun e w' => e = .returned (.bool (ts.any R)) ∧ Below w.heap.size w w' := by
  have H := Lib.hid (indexFunc_Co0 g R F ts ys w hy hcf hg)
  clear hg hcf hy
  go_enter Try.func69, Try.ntmps69
  go_wp2_with fail
  refine H.out.mono ?_
  rintro e w1 ⟨i, rfl, hi, hb1⟩
  have HI := Lib.hid hi
  clear hi
  go_wp2_with fail
  go_ret
  exact ⟨ret_bool HI.out, hb1⟩
theorem leaf_isid1_0 (r : Bool) : (!r : Bool) = (!r) := by
  simp_all

theorem leaf_isid_1 (k : Int) (r : Bool) (h0 : (k == 1) = true) : (!(!r) : Bool) = ((k == 1 || k == 2 || k == 3) && r) := by
  simp_all

theorem leaf_isid_2 (k : Int) (r : Bool) (h0 : (k == 1) = false) (h1 : (k == 2) = true) : (!(!r) : Bool) = ((k == 1 || k == 2 || k == 3) && r) := by
  simp_all

theorem leaf_isid_3 (k : Int) (r : Bool) (h0 : (k == 1) = false) (h1 : (k == 2) = false) (h2 : (k == 3) = true) : (!(!r) : Bool) = ((k == 1 || k == 2 || k == 3) && r) := by
  simp_all

theorem leaf_isid_4 (k : Int) (r : Bool) (h0 : (k == 1) = false) (h1 : (k == 2) = false) (h2 : (k == 3) = false) : (false : Bool) = ((k == 1 || k == 2 || k == 3) && r) := by
  simp_all

theorem leaf_implid_5 (vv r : Bool) (h0 : (vv) = true) : (r : Bool) = (vv && r) := by
  simp_all

theorem leaf_implid_6 (vv r : Bool) (h0 : (vv) = false) : (false : Bool) = (vv && r) := by
  simp_all

theorem leaf_specid_7 (k : Int) (vv rk : Bool) (h0 : (vv) = true) (h1 : (k == 4) = true) : (false : Bool) = (vv && !(k == 4 || k == 5 || k == 6) && rk) := by
  simp_all

theorem leaf_specid_8 (k : Int) (vv rk : Bool) (h0 : (vv) = true) (h1 : (k == 4) = false) (h2 : (k == 5) = true) : (false : Bool) = (vv && !(k == 4 || k == 5 || k == 6) && rk) := by
  simp_all

theorem leaf_specid_9 (k : Int) (vv rk : Bool) (h0 : (vv) = true) (h1 : (k == 4) = false) (h2 : (k == 5) = false) (h3 : (k == 6) = true) : (false : Bool) = (vv && !(k == 4 || k == 5 || k == 6) && rk) := by
  simp_all

theorem leaf_specid_10 (k : Int) (vv rk : Bool) (h0 : (vv) = true) (h1 : (k == 4) = false) (h2 : (k == 5) = false) (h3 : (k == 6) = false) (h4 : rk = false) : (false : Bool) = (vv && !(k == 4 || k == 5 || k == 6) && rk) := by
  simp_all

theorem leaf_specid_11 (k : Int) (vv rk : Bool) (h0 : (vv) = true) (h1 : (k == 4) = false) (h2 : (k == 5) = false) (h3 : (k == 6) = false) (h4 : rk = true) : (true : Bool) = (vv && !(k == 4 || k == 5 || k == 6) && rk) := by
  simp_all

theorem leaf_specid_12 (k : Int) (vv rk : Bool) (h0 : (vv) = false) : (false : Bool) = (vv && !(k == 4 || k == 5 || k == 6) && rk) := by
  simp_all

set_option maxHeartbeats 1000000 in
theorem isId1_of (F : Nat → Prop) (t : Co) (y : Value) (w : World) (hy : CoRep F w t y)
    (IH : ∀ (W : World), Below w.heap.size w W → Calls Try.prog 39 #[y] W fun e W' => e = .returned (.bool t.idB) ∧ Below W.heap.size W W') :
    Calls Try.prog 71 #[y] w fun e w' => e = .returned (.bool (!t.idB)) ∧ Below w.heap.size w w' := by
  obtain ⟨k, g, l, a, n, q, rfl⟩ := hy.shape
  clear hy
  generalize t.idB = r at *
  have H := Lib.hid IH
  clear IH
  obtain ⟨rr, hrr⟩ : ∃ rr0 : Bool, (!r) = rr0 := ⟨_, rfl⟩
  rw [hrr]
  have HT := Lib.hid hrr
  clear hrr
  go_enter Try.func71, Try.ntmps71
  go_wp2_with fail
  refine (H.out _ bal1).mono ?_
  rintro e w1 ⟨rfl, hb1⟩
  have hB := (bstep bal1 hb1)
  have zw1 := hB.size
  go_wp2_with fail
  refine bodyPost_ret (v := .bool (!r)) (by simp [results, Try.results71, go_sem, bne]) rfl ?_
  exact ⟨ret_bool ((leaf_isid1_0 r ).trans HT.out), hB⟩
set_option maxHeartbeats 2000000 in
theorem implIsIdentity (F : Nat → Prop) (t : Co) : ∀ (y : Value) (w : World), CoRep F w t y →
    Calls Try.prog 39 #[y] w fun e w' => e = .returned (.bool t.idB) ∧ Below w.heap.size w w' := by
  intro y w hy
  have IH : ∀ t' ∈ t.kids, ∀ (y : Value) (W : World), CoRep F W t' y → Calls Try.prog 39 #[y] W fun e W' => e = .returned (.bool t'.idB) ∧ Below W.heap.size W W' :=
    fun t' ht y W c => implIsIdentity F t' y W c
  obtain ⟨a, q, rfl, h2, h3, hks⟩ := hy.open
  cases t with | mk k g l ts =>
  simp only [Co.kind, Co.tag, Co.label, Co.kids] at *
  have hc := fun W (h : Below w.heap.size w W) => containsFunc_Co0 _ (fun t => !t.idB) F ts _ W (hks.below h) Try.call71 (fun t' ht W' y' hb hr => isId1_of F t' y' W' hr fun W2 h2 => IH t' ht y' W2 (hr.below h2))
  simp only [Co.idsB_any] at hc
  unfold Co.idB
  generalize Co.idsB ts = r at hc ⊢
  have H := Lib.hid hc
  clear hc IH hy hks
  generalize ts.length = n at *
  obtain ⟨rr, hrr⟩ : ∃ rr0 : Bool, ((k == 1 || k == 2 || k == 3) && r) = rr0 := ⟨_, rfl⟩
  rw [hrr]
  have HT := Lib.hid hrr
  clear hrr
  go_enter Try.func39, Try.ntmps39
  rcases Bool.eq_false_or_eq_true (k == 1) with q1 | q1
  · skip
    have nq1 : (k != 1) = false := by simp only [bne, q1]; rfl
    go_wp2_with fail
    refine (H.out _ bal1).mono ?_
    rintro e w1 ⟨rfl, hb1⟩
    have hB := (bstep bal1 hb1)
    have zw1 := hB.size
    go_wp2_with fail
    refine bodyPost_ret (v := .bool (!(!r))) (by simp [results, Try.results39, go_sem, bne]) rfl ?_
    exact ⟨ret_bool ((leaf_isid_1 k r q1).trans HT.out), hB⟩
  · skip
    have nq1 : (k != 1) = true := by simp only [bne, q1]; rfl
    rcases Bool.eq_false_or_eq_true (k == 2) with q2 | q2
    · skip
      have nq2 : (k != 2) = false := by simp only [bne, q2]; rfl
      go_wp2_with fail
      refine (H.out _ bal1).mono ?_
      rintro e w2 ⟨rfl, hb2⟩
      have hB := (bstep bal1 hb2)
      have zw2 := hB.size
      go_wp2_with fail
      refine bodyPost_ret (v := .bool (!(!r))) (by simp [results, Try.results39, go_sem, bne]) rfl ?_
      exact ⟨ret_bool ((leaf_isid_2 k r q1 q2).trans HT.out), hB⟩
    · skip
      have nq2 : (k != 2) = true := by simp only [bne, q2]; rfl
      rcases Bool.eq_false_or_eq_true (k == 3) with q3 | q3
      · skip
        have nq3 : (k != 3) = false := by simp only [bne, q3]; rfl
        go_wp2_with fail
        refine (H.out _ bal1).mono ?_
        rintro e w3 ⟨rfl, hb3⟩
        have hB := (bstep bal1 hb3)
        have zw3 := hB.size
        go_wp2_with fail
        refine bodyPost_ret (v := .bool (!(!r))) (by simp [results, Try.results39, go_sem, bne]) rfl ?_
        exact ⟨ret_bool ((leaf_isid_3 k r q1 q2 q3).trans HT.out), hB⟩
      · skip
        have nq3 : (k != 3) = true := by simp only [bne, q3]; rfl
        go_wp2_with fail
        refine bodyPost_ret (v := .bool (false)) (by simp [results, Try.results39, go_sem, bne]) rfl ?_
        exact ⟨ret_bool ((leaf_isid_4 k r q1 q2 q3).trans HT.out), bal1⟩
termination_by SizeOf.sizeOf t
decreasing_by exact Co.kid_lt ht
set_option maxHeartbeats 1000000 in
theorem implCoercionIdentity (F : Nat → Prop) (t : Co) (y : Value) (w : World) (hy : CoRep F w t y) :
    Calls Try.prog 16 #[y] w fun e w' => e = .returned (.bool (t.valid && t.idB)) ∧ Below w.heap.size w w' := by
  have hv := fun W (h : Below w.heap.size w W) => implCoercionValid F t y W (hy.below h)
  have hg := fun W (h : Below w.heap.size w W) => implIsIdentity F t y W (hy.below h)
  generalize t.valid = vv at hv ⊢
  generalize t.idB = r at hg ⊢
  have HV := Lib.hid hv
  have H := Lib.hid hg
  obtain ⟨k, g, l, a, n, q, rfl⟩ := hy.shape
  clear hv hg hy
  obtain ⟨rr, hrr⟩ : ∃ rr0 : Bool, (vv && r) = rr0 := ⟨_, rfl⟩
  rw [hrr]
  have HT := Lib.hid hrr
  clear hrr
  go_enter Try.func16, Try.ntmps16
  rcases Bool.eq_false_or_eq_true (vv) with q1 | q1
  · have Hq1 := Lib.hid q1
    clear q1
    go_wp2_with fail
    refine (HV.out _ bal1).mono ?_
    rintro e w1 ⟨rfl, hb1⟩
    rw [Hq1.out]
    have hB := (bstep bal1 hb1)
    have zw1 := hB.size
    have c0_0 : w1.cell? ⟨w.heap.size, 0, none⟩ = some (.int .i64 k) := bcell hb1 (cell_new (by simp) 0)
    have c0_1 : w1.cell? ⟨w.heap.size, 1, none⟩ = some (.int .i64 g) := bcell hb1 (cell_new (by simp) 1)
    have c0_2 : w1.cell? ⟨w.heap.size, 2, none⟩ = some (.int .i64 l) := bcell hb1 (cell_new (by simp) 2)
    have c0_3 : w1.cell? ⟨w.heap.size, 3, none⟩ = some (.slice a n q) := bcell hb1 (cell_new (by simp) 3)
    have d0_w1 := World.block_lt_of_cell? _ _ c0_0
    go_wp2_with fail
    refine (H.out _ hB).mono ?_
    rintro e w2 ⟨rfl, hb2⟩
    replace hB := (bstep hB hb2)
    have zw2 := hB.size
    go_wp2_with fail
    refine bodyPost_ret (v := .bool (r)) (by simp [results, Try.results16, go_sem, bne]) rfl ?_
    exact ⟨ret_bool ((leaf_implid_5 vv r Hq1.out).trans HT.out), hB⟩
  · have Hq1 := Lib.hid q1
    clear q1
    go_wp2_with fail
    refine (HV.out _ bal1).mono ?_
    rintro e w3 ⟨rfl, hb3⟩
    rw [Hq1.out]
    have hB := (bstep bal1 hb3)
    have zw3 := hB.size
    go_wp2_with fail
    refine bodyPost_ret (v := .bool (false)) (by simp [results, Try.results16, go_sem, bne]) rfl ?_
    exact ⟨ret_bool ((leaf_implid_6 vv r Hq1.out).trans HT.out), hB⟩
set_option maxHeartbeats 4000000 in
theorem specCoercionIdentity (F : Nat → Prop) (t : Co) : ∀ (y : Value) (w : World), CoRep F w t y →
    Calls Try.prog 15 #[y] w fun e w' => e = .returned (.bool (t.valid && t.idB)) ∧ Below w.heap.size w w' := by
  intro y w hy
  have IH : ∀ t' ∈ t.kids, ∀ (y : Value) (W : World), CoRep F W t' y → Calls Try.prog 15 #[y] W fun e W' => e = .returned (.bool (t'.valid && t'.idB)) ∧ Below W.heap.size W W' :=
    fun t' ht y W c => specCoercionIdentity F t' y W c
  have hv := fun W (h : Below w.heap.size w W) => specCoercionValid F t y W (hy.below h)
  obtain ⟨a, q, rfl, h2, h3, hks⟩ := hy.open
  cases t with | mk k g l ts =>
  simp only [Co.kind, Co.tag, Co.label, Co.kids] at *
  rw [← Co.ident_eq]
  generalize (Co.mk k g l ts).valid = vv at hv ⊢
  obtain ⟨n, hn⟩ : ∃ n, ts.length = n := ⟨_, rfl⟩
  obtain ⟨rk, hrk⟩ : ∃ r, r = ts.all (fun t => t.valid && t.idB) := ⟨_, rfl⟩
  rw [← hrk]
  rw [hn] at h2 hks hv ⊢
  have HN := Lib.hid hn
  have HRK := Lib.hid hrk
  have HV := Lib.hid hv
  have IHH := Lib.hid IH
  unfold maxLen at h3
  clear hn hrk hv IH hy
  obtain ⟨rr, hrr⟩ : ∃ rr0 : Bool, (vv && !(k == 4 || k == 5 || k == 6) && rk) = rr0 := ⟨_, rfl⟩
  rw [hrr]
  have HT := Lib.hid hrr
  clear hrr
  go_enter Try.func15, Try.ntmps15
  rcases Bool.eq_false_or_eq_true (vv) with q1 | q1
  · have Hq1 := Lib.hid q1
    clear q1
    rcases Bool.eq_false_or_eq_true (k == 4) with q2 | q2
    · skip
      have nq2 : (k != 4) = false := by simp only [bne, q2]; rfl
      go_wp2_with fail
      refine (HV.out _ bal1).mono ?_
      rintro e w1 ⟨rfl, hb1⟩
      rw [Hq1.out]
      have hB := (bstep bal1 hb1)
      have zw1 := hB.size
      have c0_0 : w1.cell? ⟨w.heap.size, 0, none⟩ = some (.int .i64 k) := bcell hb1 (cell_new (by simp) 0)
      have d0_w1 := World.block_lt_of_cell? _ _ c0_0
      go_wp2_with fail
      refine bodyPost_ret (v := .bool (false)) (by simp [results, Try.results15, go_sem, bne]) rfl ?_
      exact ⟨ret_bool ((leaf_specid_7 k vv rk Hq1.out q2).trans HT.out), hB⟩
    · skip
      have nq2 : (k != 4) = true := by simp only [bne, q2]; rfl
      rcases Bool.eq_false_or_eq_true (k == 5) with q3 | q3
      · skip
        have nq3 : (k != 5) = false := by simp only [bne, q3]; rfl
        go_wp2_with fail
        refine (HV.out _ bal1).mono ?_
        rintro e w2 ⟨rfl, hb2⟩
        rw [Hq1.out]
        have hB := (bstep bal1 hb2)
        have zw2 := hB.size
        have c0_0 : w2.cell? ⟨w.heap.size, 0, none⟩ = some (.int .i64 k) := bcell hb2 (cell_new (by simp) 0)
        have d0_w2 := World.block_lt_of_cell? _ _ c0_0
        go_wp2_with fail
        refine bodyPost_ret (v := .bool (false)) (by simp [results, Try.results15, go_sem, bne]) rfl ?_
        exact ⟨ret_bool ((leaf_specid_8 k vv rk Hq1.out q2 q3).trans HT.out), hB⟩
      · skip
        have nq3 : (k != 5) = true := by simp only [bne, q3]; rfl
        go_wp2_with fail
        refine (HV.out _ bal1).mono ?_
        rintro e w3 ⟨rfl, hb3⟩
        rw [Hq1.out]
        have hB := (bstep bal1 hb3)
        have zw3 := hB.size
        have c0_0 : w3.cell? ⟨w.heap.size, 0, none⟩ = some (.int .i64 k) := bcell hb3 (cell_new (by simp) 0)
        have c0_3 : w3.cell? ⟨w.heap.size, 3, none⟩ = some (.slice a n q) := bcell hb3 (cell_new (by simp) 3)
        have d0_w3 := World.block_lt_of_cell? _ _ c0_0
        rcases Bool.eq_false_or_eq_true (k == 6) with q4 | q4
        · (try rw [q4])
          have nq4 : (k != 6) = false := by simp only [bne, q4]; rfl
          go_wp2_with fail
          refine bodyPost_ret (v := .bool (false)) (by simp [results, Try.results15, go_sem, bne]) rfl ?_
          exact ⟨ret_bool ((leaf_specid_9 k vv rk Hq1.out q2 q3 q4).trans HT.out), hB⟩
        · (try rw [q4])
          have nq4 : (k != 6) = true := by simp only [bne, q4]; rfl
          go_wp2_with fail
          go_loopw [3] (fun i wr => ∃ j : Nat, j ≤ n ∧ i = .int .i64 j ∧ Below w.heap.size w wr ∧ wr.cell? ⟨w.heap.size, 3, none⟩ = some (.slice a n q) ∧ Hid (rk = (ts.drop j).all (fun t => t.valid && t.idB))) (fun i _ => n - (intOf i).toNat)
          case atStart => exact ⟨0, by omega, rfl, hB, c0_3, HRK.out⟩
          case round =>
            obtain ⟨j, hj, rfl, hB, x0, hR0⟩ := hrel
            have lx1 := World.block_lt_of_cell? _ _ x0
            by_cases hlt : j < n
            · have hjt : j < ts.length := by have := HN.out; omega
              obtain ⟨b, off, k0, g0, l0, a0, m0, q0, rfl, lb, e0, e1, e2, e3, ht⟩ := hks.at hB hjt
              have hcall := IHH.out ts[j] (List.getElem_mem hjt)
              have hstep := hR0.out.trans (all_dropC (fun t => t.valid && t.idB) ts j hjt)
              generalize (ts[j].valid && ts[j].idB) = r at hcall hstep
              have HC := Lib.hid hcall
              have HS := Lib.hid hstep
              clear hcall hstep hR0
              go_wp2_with fail
              refine (HC.out _ _ ht).mono ?_
              rintro e w4 ⟨rfl, hb4⟩
              replace hB := (bstep hB hb4)
              have zw4 := hB.size
              replace x0 : w4.cell? ⟨w.heap.size, 3, none⟩ = some (.slice (some ⟨b, off, none⟩) n q) := bcell hb4 (x0)
              have d0_w4 := World.block_lt_of_cell? _ _ x0
              rcases Bool.eq_false_or_eq_true (r) with q5 | q5
              · (try rw [q5])
                have Hq5 := Lib.hid q5
                clear q5
                have hwr := IntWalk.i64_in ((j : Int) + 1) (by omega)
                go_wp2_with fail
                go_roundw
                case rel => exact ⟨j + 1, by omega, by go_num, hB, x0, (by rw [Hid, HS.out, Hq5.out]; rfl)⟩
                case measure => simp [intOf]; omega
              · (try rw [q5])
                have Hq5 := Lib.hid q5
                clear q5
                go_wp2_with fail
                refine bodyPost_ret (v := .bool (false)) (by simp [results, Try.results15, go_sem, bne]) rfl ?_
                exact ⟨ret_bool ((leaf_specid_10 k vv rk Hq1.out q2 q3 q4 (by rw [HS.out, Hq5.out]; rfl)).trans HT.out), hB⟩
            · skip
              have HRK : Hid (rk = true) := Lib.hid (by rw [hR0.out, List.drop_eq_nil_of_le (by have := HN.out; omega)]; rfl)
              go_wp2_with fail
              refine bodyPost_ret (v := .bool (true)) (by simp [results, Try.results15, go_sem, bne]) rfl ?_
              exact ⟨ret_bool ((leaf_specid_11 k vv rk Hq1.out q2 q3 q4 HRK.out).trans HT.out), hB⟩
  · have Hq1 := Lib.hid q1
    clear q1
    go_wp2_with fail
    refine (HV.out _ bal1).mono ?_
    rintro e w5 ⟨rfl, hb5⟩
    rw [Hq1.out]
    have hB := (bstep bal1 hb5)
    have zw5 := hB.size
    go_wp2_with fail
    refine bodyPost_ret (v := .bool (false)) (by simp [results, Try.results15, go_sem, bne]) rfl ?_
    exact ⟨ret_bool ((leaf_specid_12 k vv rk Hq1.out).trans HT.out), hB⟩
termination_by SizeOf.sizeOf t
decreasing_by exact Co.kid_lt ht
end Go.Proofs.Ytohnlkkofbploaa
