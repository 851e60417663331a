/-
  CoercionIdentity of both sides.
  Where coercions lead: plain facts, and slices of two.
-/
import Derived.Test.YthhdjacdalehoaaCoHgt
import Derived.Test.YthhdjacdalehoaaB9
import Derived.Test.YthhdjacdalehoaaB10
namespace Go.Proofs.Ythhdjacdalehoaa
open Go.RowKit
set_option linter.unusedVariables false
set_option linter.unusedSimpArgs false
set_option maxRecDepth 100000

mutual
theorem Co.shape_mono : ∀ (t : Co) (d e : Int), t.shape d = true → d ≤ e → t.shape e = true
  | .mk k g l ts, d, e, h, hd => by
    unfold Co.shape at h ⊢
    simp only [Bool.and_eq_true, decide_eq_true_eq] at h ⊢
    exact ⟨⟨by omega, h.1.2⟩, Co.shapes_mono ts _ _ h.2 (by omega)⟩
theorem Co.shapes_mono : ∀ (ts : List Co) (d e : Int), Co.shapes ts d = true → d ≤ e → Co.shapes ts e = true
  | [], _, _, _, _ => by unfold Co.shapes; rfl
  | t :: ts, d, e, h, hd => by
    unfold Co.shapes at h ⊢
    simp only [Bool.and_eq_true] at h ⊢
    exact ⟨Co.shape_mono t d e h.1 hd, Co.shapes_mono ts d e h.2 hd⟩
end
theorem Co.idsB_any : ∀ ts : List Co, ts.any (fun t => !t.idB) = !Co.idsB ts
  | [] => by unfold Co.idsB; rfl
  | t :: ts => by unfold Co.idsB; rw [List.any_cons, Co.idsB_any ts]; cases t.idB <;> rfl
set_option maxHeartbeats 1000000 in
theorem indexFunc_Co0 (g : FuncId) (R : Co → Bool) (F : Nat → Prop) (ts : List Co) (ys : Value) (w : World) (hy : CosRep F w ts ys)
    (hcf : ∀ xs W, (callFunc g xs).run Try.prog W = .ok (.enter g xs) W)
    (hg : ∀ t ∈ ts, ∀ (W : World) (y : Value), Below w.heap.size w W → CoRep F W t y → Calls Try.prog g #[y] W fun e W' => e = .returned (.bool (R t)) ∧ Below W.heap.size W W') :
    Calls Try.prog 76 #[ys, .func (.func g) #[] #[]] w (IdxPostC R ts w) := by
  have HG := Lib.hid hg
  clear hg
  obtain ⟨a, cap, rfl, h2, h3, -⟩ := hy.open
  unfold maxLen at h3
  obtain ⟨n, hn⟩ : ∃ n, ts.length = n := ⟨_, rfl⟩
  rw [hn] at h2 hy ⊢
  have HN := Lib.hid hn
  clear hn
  go_enter Try.func76, Try.ntmps76
  go_wp2_with fail
  go_loopw [8] (fun i wr => ∃ k : Nat, k ≤ n ∧ i = .int .i64 k ∧ Below w.heap.size w wr ∧ Hid (ts.any R = (ts.drop k).any R)) (fun i _ => n - (intOf i).toNat)
  case atStart => exact ⟨0, by omega, rfl, Below.refl _ _, rfl⟩
  case round =>
    obtain ⟨k, hk, rfl, hbw, hR⟩ := hrel
    by_cases hlt : k < n
    · have hkt : k < ts.length := by rw [HN.out]; exact hlt
      obtain ⟨b, off, k0, g0, l0, a0, m0, q0, rfl, lb, e0, e1, e2, e3, ht⟩ := hy.at hbw hkt
      have hcall := HG.out ts[k] (List.getElem_mem hkt) wr _ hbw ht
      have hstep := hR.out.trans (any_dropC R ts k hkt)
      generalize R ts[k] = r at hcall hstep
      have HC := Lib.hid hcall
      have HS := Lib.hid hstep
      clear hcall hstep hR
      cases r
      all_goals
        go_wp2_with fail
        refine HC.out.mono ?_
        rintro e w1 ⟨rfl, hb1⟩
        go_wp2_with fail
      · go_roundw
        case rel => exact ⟨k + 1, by omega, by go_num, bstep hbw hb1, by rw [Hid, HS.out]; rfl⟩
        case measure => simp [intOf]; omega
      · go_ret
        exact ⟨_, rfl, by rw [HS.out]; simp, bstep hbw hb1⟩
    · go_wp2_with fail
      go_ret
      exact ⟨_, rfl, by rw [hR.out, List.drop_eq_nil_of_le (by rw [HN.out]; omega)]; rfl, hbw⟩
set_option maxHeartbeats 400000 in
theorem containsFunc_Co0 (g : FuncId) (R : Co → Bool) (F : Nat → Prop) (ts : List Co) (ys : Value) (w : World) (hy : CosRep F w ts ys)
    (hcf : ∀ xs W, (callFunc g xs).run Try.prog W = .ok (.enter g xs) W)
    (hg : ∀ t ∈ ts, ∀ (W : World) (y : Value), Below w.heap.size w W → CoRep F W t y → Calls Try.prog g #[y] W fun e W' => e = .returned (.bool (R t)) ∧ Below W.heap.size W W') :
    Calls Try.prog 62 #[ys, .func (.func g) #[] #[]] w fun e w' => e = .returned (.bool (ts.any R)) ∧ Below w.heap.size w w' := by
  have H := Lib.hid (indexFunc_Co0 g R F ts ys w hy hcf hg)
  clear hg hcf hy
  go_enter Try.func62, Try.ntmps62
  go_wp2_with fail
  refine H.out.mono ?_
  rintro e w1 ⟨i, rfl, hi, hb1⟩
  have HI := Lib.hid hi
  clear hi
  go_wp2_with fail
  go_ret
  exact ⟨ret_bool HI.out, hb1⟩
theorem leaf_isid1_0 (r : Bool) : (!r : Bool) = (!r) := by
  simp_all

theorem leaf_isid_1 (k : Int) (r : Bool) (h0 : (k == 1) = true) : (!(!r) : Bool) = ((k == 1 || k == 2 || k == 3) && r) := by
  simp_all

theorem leaf_isid_2 (k : Int) (r : Bool) (h0 : (k == 1) = false) (h1 : (k == 2) = true) : (!(!r) : Bool) = ((k == 1 || k == 2 || k == 3) && r) := by
  simp_all

theorem leaf_isid_3 (k : Int) (r : Bool) (h0 : (k == 1) = false) (h1 : (k == 2) = false) (h2 : (k == 3) = true) : (!(!r) : Bool) = ((k == 1 || k == 2 || k == 3) && r) := by
  simp_all

theorem leaf_isid_4 (k : Int) (r : Bool) (h0 : (k == 1) = false) (h1 : (k == 2) = false) (h2 : (k == 3) = false) : (false : Bool) = ((k == 1 || k == 2 || k == 3) && r) := by
  simp_all

theorem leaf_implid_5 (vv r : Bool) (h0 : (vv) = true) : (r : Bool) = (vv && r) := by
  simp_all

theorem leaf_implid_6 (vv r : Bool) (h0 : (vv) = false) : (false : Bool) = (vv && r) := by
  simp_all

set_option maxHeartbeats 1000000 in
theorem isId1_of (F : Nat → Prop) (t : Co) (y : Value) (w : World) (hy : CoRep F w t y)
    (IH : ∀ (W : World), Below w.heap.size w W → Calls Try.prog 38 #[y] W fun e W' => e = .returned (.bool t.idB) ∧ Below W.heap.size W W') :
    Calls Try.prog 63 #[y] w fun e w' => e = .returned (.bool (!t.idB)) ∧ Below w.heap.size w w' := by
  obtain ⟨k, g, l, a, n, q, rfl⟩ := hy.shape
  clear hy
  generalize t.idB = r at *
  have H := Lib.hid IH
  clear IH
  obtain ⟨rr, hrr⟩ : ∃ rr0 : Bool, (!r) = rr0 := ⟨_, rfl⟩
  rw [hrr]
  have HT := Lib.hid hrr
  clear hrr
  go_enter Try.func63, Try.ntmps63
  go_wp2_with fail
  refine (H.out _ bal1).mono ?_
  rintro e w1 ⟨rfl, hb1⟩
  have hB := (bstep bal1 hb1)
  have zw1 := hB.size
  go_wp2_with fail
  refine bodyPost_ret (v := .bool (!r)) (by simp [results, Try.results63, go_sem, bne]) rfl ?_
  exact ⟨ret_bool ((leaf_isid1_0 r ).trans HT.out), hB⟩
set_option maxHeartbeats 2000000 in
theorem implIsIdentity (F : Nat → Prop) (t : Co) : ∀ (y : Value) (w : World), CoRep F w t y →
    Calls Try.prog 38 #[y] w fun e w' => e = .returned (.bool t.idB) ∧ Below w.heap.size w w' := by
  intro y w hy
  have IH : ∀ t' ∈ t.kids, ∀ (y : Value) (W : World), CoRep F W t' y → Calls Try.prog 38 #[y] W fun e W' => e = .returned (.bool t'.idB) ∧ Below W.heap.size W W' :=
    fun t' ht y W c => implIsIdentity F t' y W c
  obtain ⟨a, q, rfl, h2, h3, hks⟩ := hy.open
  cases t with | mk k g l ts =>
  simp only [Co.kind, Co.tag, Co.label, Co.kids] at *
  have hc := fun W (h : Below w.heap.size w W) => containsFunc_Co0 _ (fun t => !t.idB) F ts _ W (hks.below h) Try.call63 (fun t' ht W' y' hb hr => isId1_of F t' y' W' hr fun W2 h2 => IH t' ht y' W2 (hr.below h2))
  simp only [Co.idsB_any] at hc
  unfold Co.idB
  generalize Co.idsB ts = r at hc ⊢
  have H := Lib.hid hc
  clear hc IH hy hks
  generalize ts.length = n at *
  obtain ⟨rr, hrr⟩ : ∃ rr0 : Bool, ((k == 1 || k == 2 || k == 3) && r) = rr0 := ⟨_, rfl⟩
  rw [hrr]
  have HT := Lib.hid hrr
  clear hrr
  go_enter Try.func38, Try.ntmps38
  rcases Bool.eq_false_or_eq_true (k == 1) with q1 | q1
  · skip
    have nq1 : (k != 1) = false := by simp only [bne, q1]; rfl
    go_wp2_with fail
    refine (H.out _ bal1).mono ?_
    rintro e w1 ⟨rfl, hb1⟩
    have hB := (bstep bal1 hb1)
    have zw1 := hB.size
    go_wp2_with fail
    refine bodyPost_ret (v := .bool (!(!r))) (by simp [results, Try.results38, go_sem, bne]) rfl ?_
    exact ⟨ret_bool ((leaf_isid_1 k r q1).trans HT.out), hB⟩
  · skip
    have nq1 : (k != 1) = true := by simp only [bne, q1]; rfl
    rcases Bool.eq_false_or_eq_true (k == 2) with q2 | q2
    · skip
      have nq2 : (k != 2) = false := by simp only [bne, q2]; rfl
      go_wp2_with fail
      refine (H.out _ bal1).mono ?_
      rintro e w2 ⟨rfl, hb2⟩
      have hB := (bstep bal1 hb2)
      have zw2 := hB.size
      go_wp2_with fail
      refine bodyPost_ret (v := .bool (!(!r))) (by simp [results, Try.results38, go_sem, bne]) rfl ?_
      exact ⟨ret_bool ((leaf_isid_2 k r q1 q2).trans HT.out), hB⟩
    · skip
      have nq2 : (k != 2) = true := by simp only [bne, q2]; rfl
      rcases Bool.eq_false_or_eq_true (k == 3) with q3 | q3
      · skip
        have nq3 : (k != 3) = false := by simp only [bne, q3]; rfl
        go_wp2_with fail
        refine (H.out _ bal1).mono ?_
        rintro e w3 ⟨rfl, hb3⟩
        have hB := (bstep bal1 hb3)
        have zw3 := hB.size
        go_wp2_with fail
        refine bodyPost_ret (v := .bool (!(!r))) (by simp [results, Try.results38, go_sem, bne]) rfl ?_
        exact ⟨ret_bool ((leaf_isid_3 k r q1 q2 q3).trans HT.out), hB⟩
      · skip
        have nq3 : (k != 3) = true := by simp only [bne, q3]; rfl
        go_wp2_with fail
        refine bodyPost_ret (v := .bool (false)) (by simp [results, Try.results38, go_sem, bne]) rfl ?_
        exact ⟨ret_bool ((leaf_isid_4 k r q1 q2 q3).trans HT.out), bal1⟩
termination_by SizeOf.sizeOf t
decreasing_by exact Co.kid_lt ht
set_option maxHeartbeats 1000000 in
theorem implCoercionIdentity (F : Nat → Prop) (t : Co) (y : Value) (w : World) (hy : CoRep F w t y) :
    Calls Try.prog 17 #[y] w fun e w' => e = .returned (.bool (t.valid && t.idB)) ∧ Below w.heap.size w w' := by
  have hv := fun W (h : Below w.heap.size w W) => implCoercionValid F t y W (hy.below h)
  have hg := fun W (h : Below w.heap.size w W) => implIsIdentity F t y W (hy.below h)
  generalize t.valid = vv at hv ⊢
  generalize t.idB = r at hg ⊢
  have HV := Lib.hid hv
  have H := Lib.hid hg
  obtain ⟨k, g, l, a, n, q, rfl⟩ := hy.shape
  clear hv hg hy
  obtain ⟨rr, hrr⟩ : ∃ rr0 : Bool, (vv && r) = rr0 := ⟨_, rfl⟩
  rw [hrr]
  have HT := Lib.hid hrr
  clear hrr
  go_enter Try.func17, Try.ntmps17
  rcases Bool.eq_false_or_eq_true (vv) with q1 | q1
  · have Hq1 := Lib.hid q1
    clear q1
    go_wp2_with fail
    refine (HV.out _ bal1).mono ?_
    rintro e w1 ⟨rfl, hb1⟩
    rw [Hq1.out]
    have hB := (bstep bal1 hb1)
    have zw1 := hB.size
    have c0_0 : w1.cell? ⟨w.heap.size, 0, none⟩ = some (.int .i64 k) := bcell hb1 (cell_new (by simp) 0)
    have c0_1 : w1.cell? ⟨w.heap.size, 1, none⟩ = some (.int .i64 g) := bcell hb1 (cell_new (by simp) 1)
    have c0_2 : w1.cell? ⟨w.heap.size, 2, none⟩ = some (.int .i64 l) := bcell hb1 (cell_new (by simp) 2)
    have c0_3 : w1.cell? ⟨w.heap.size, 3, none⟩ = some (.slice a n q) := bcell hb1 (cell_new (by simp) 3)
    have d0_w1 := World.block_lt_of_cell? _ _ c0_0
    go_wp2_with fail
    refine (H.out _ hB).mono ?_
    rintro e w2 ⟨rfl, hb2⟩
    replace hB := (bstep hB hb2)
    have zw2 := hB.size
    go_wp2_with fail
    refine bodyPost_ret (v := .bool (r)) (by simp [results, Try.results17, go_sem, bne]) rfl ?_
    exact ⟨ret_bool ((leaf_implid_5 vv r Hq1.out).trans HT.out), hB⟩
  · have Hq1 := Lib.hid q1
    clear q1
    go_wp2_with fail
    refine (HV.out _ bal1).mono ?_
    rintro e w3 ⟨rfl, hb3⟩
    rw [Hq1.out]
    have hB := (bstep bal1 hb3)
    have zw3 := hB.size
    go_wp2_with fail
    refine bodyPost_ret (v := .bool (false)) (by simp [results, Try.results17, go_sem, bne]) rfl ?_
    exact ⟨ret_bool ((leaf_implid_6 vv r Hq1.out).trans HT.out), hB⟩
end Go.Proofs.Ythhdjacdalehoaa
namespace Go.Proofs.Ythhdjacdalehoaa
open Go.RowKit
set_option linter.unusedVariables false
set_option linter.unusedSimpArgs false
set_option maxRecDepth 100000

theorem TysRep.twoK {F : Nat → Prop} {w : World} {c0 c1 : Ty} {a : Option Addr} {n q : Nat} (h : TysRep F w [c0, c1] (.slice a n q)) :
    ∃ b off k0 a0 n0 q0 k1 a1 n1 q1, a = some ⟨b, off, none⟩ ∧ n = 2 ∧ w.cell? ⟨b, off, none⟩ = some (.int .i64 k0) ∧ w.cell? ⟨b, off + 1, none⟩ = some (.slice a0 n0 q0) ∧ w.cell? ⟨b, off + 2, none⟩ = some (.int .i64 k1) ∧ w.cell? ⟨b, off + 3, none⟩ = some (.slice a1 n1 q1) ∧ TyRep F w c0 (.agg #[.int .i64 k0, .slice a0 n0 q0]) ∧ TyRep F w c1 (.agg #[.int .i64 k1, .slice a1 n1 q1]) := by
  obtain ⟨a', q', he, -, -, -⟩ := h.open
  simp only [Value.slice.injEq] at he
  obtain ⟨-, rfl, -⟩ := he
  obtain ⟨b, off, k0, a0, n0, q0, rfl, lb, e0, e1, h0⟩ := h.at (Below.refl _ _) (i := 0) (by simp)
  obtain ⟨b', off', k1, a1, n1, q1, he, lb', d0, d1, h1⟩ := h.at (Below.refl _ _) (i := 1) (by simp)
  simp only [Option.some.injEq, Addr.mk.injEq, and_true] at he
  obtain ⟨rfl, rfl⟩ := he
  simp only [Nat.zero_mul, Nat.add_zero] at e0 e1
  exact ⟨b, off, k0, a0, n0, q0, k1, a1, n1, q1, rfl, rfl, e0, e1, by simpa [Nat.add_assoc] using d0, by simpa [Nat.add_assoc] using d1, h0, h1⟩
theorem Ty.two_of {k : Int} {ts : List Ty} {d : Int} (h : (Ty.mk k ts).shape d = true) (hk : k = 4 ∨ k = 5) : ∃ a b, ts = [a, b] ∧ a.shape (d - 1) = true ∧ b.shape (d - 1) = true := by
  obtain ⟨-, h2, h3⟩ := Ty.shape_mk h
  have h4 : ts.length = 2 := by
    unfold tkids at h2
    rcases hk with rfl | rfl <;> simp at h2 <;> omega
  match ts, h4 with
  | [a, b], _ => exact ⟨a, b, rfl, Ty.shapes_mem h3 (by simp), Ty.shapes_mem h3 (by simp)⟩
theorem Ty.shape_mono : ∀ (t : Ty) (d e : Int), t.shape d = true → d ≤ e → t.shape e = true := by
  intro t
  exact Ty.rec (motive_1 := fun t => ∀ (d e : Int), t.shape d = true → d ≤ e → t.shape e = true) (motive_2 := fun ts => ∀ (d e : Int), Ty.shapes ts d = true → d ≤ e → Ty.shapes ts e = true)
    (fun k ts ih d e h hd => by
      obtain ⟨h1, h2, h3⟩ := Ty.shape_mk h
      have := ih (d - 1) (e - 1) h3 (by omega)
      unfold Ty.shape
      simp only [Bool.and_eq_true, decide_eq_true_eq]
      exact ⟨by omega, h2, this⟩)
    (fun _ _ _ _ => by unfold Ty.shapes; rfl)
    (fun t ts ih1 ih2 d e h hd => by
      unfold Ty.shapes at h ⊢
      simp only [Bool.and_eq_true] at h ⊢
      exact ⟨ih1 d e h.1 hd, ih2 d e h.2 hd⟩) t
theorem Ty.kind_bd {t : Ty} (h : t.valid = true) : 1 ≤ t.kind ∧ t.kind ≤ 5 := by
  cases t with | mk k ts =>
  obtain ⟨-, h2, -⟩ := Ty.shape_mk h
  simp only [Ty.kind]
  unfold tkids at h2
  split at h2
  · omega
  · split at h2 <;> omega
end Go.Proofs.Ythhdjacdalehoaa
