/-
  CoercionHeight of both sides.
-/
import Derived.Test.YtohnlkkofbploaaCoValid
import Derived.IntWalk
namespace Go.Proofs.Ytohnlkkofbploaa
open Go.RowKit
set_option linter.unusedVariables false
set_option linter.unusedSimpArgs false
set_option maxRecDepth 100000

mutual
def Co.hgt : Co → Int
  | .mk k _ _ ts => if k == 4 || k == 5 then Co.hmax ts else Co.hmax ts + 1
def Co.hmax : List Co → Int
  | [] => 0
  | t :: ts => max t.hgt (Co.hmax ts)
end
mutual
def Co.idB : Co → Bool
  | .mk k _ _ ts => (k == 1 || k == 2 || k == 3) && Co.idsB ts
def Co.idsB : List Co → Bool
  | [] => true
  | t :: ts => t.idB && Co.idsB ts
end
theorem Co.shape_parts {k g l : Int} {ts : List Co} {d : Int} (h : (Co.mk k g l ts).shape d = true) : coOps k = (ts.length : Int) ∧ Co.shapes ts (d - 1) = true := by
  unfold Co.shape at h
  simp only [Bool.and_eq_true, Co.nodeB, beq_iff_eq] at h
  exact ⟨h.1.2.1.1.1.1, h.2⟩
theorem Co.shapes_mem {d : Int} : ∀ {ts : List Co} {t : Co}, Co.shapes ts d = true → t ∈ ts → t.shape d = true
  | u :: ts, t, h, ht => by
    unfold Co.shapes at h
    simp only [Bool.and_eq_true] at h
    rcases List.mem_cons.1 ht with rfl | ht
    · exact h.1
    · exact Co.shapes_mem h.2 ht
theorem Co.hmax_take_succ : ∀ (ts : List Co) (j : Nat) (h : j < ts.length), Co.hmax (ts.take (j + 1)) = max (Co.hmax (ts.take j)) ts[j].hgt
  | [], _, h => absurd h (Nat.not_lt_zero _)
  | t :: ts, 0, _ => by simp [Co.hmax]; omega
  | t :: ts, j + 1, h => by
    have := Co.hmax_take_succ ts j (by simpa using h)
    simp only [List.take_succ_cons, Co.hmax, List.getElem_cons_succ]
    omega
mutual
theorem Co.hgt_bd : ∀ (t : Co) (d : Int), t.shape d = true → 0 ≤ t.hgt ∧ t.hgt ≤ d
  | .mk k g l ts, d, h => by
    have hd : 1 ≤ d := by unfold Co.shape at h; simp only [Bool.and_eq_true, decide_eq_true_eq] at h; exact h.1.1
    obtain ⟨-, h2⟩ := Co.shape_parts h
    have := Co.hmax_bd ts (d - 1) h2 (by omega)
    unfold Co.hgt
    split <;> omega
theorem Co.hmax_bd : ∀ (ts : List Co) (d : Int), Co.shapes ts d = true → 0 ≤ d → 0 ≤ Co.hmax ts ∧ Co.hmax ts ≤ d
  | [], d, _, h0 => by unfold Co.hmax; omega
  | t :: ts, d, h, h0 => by
    unfold Co.shapes at h
    simp only [Bool.and_eq_true] at h
    have h1 := Co.hgt_bd t d h.1
    have h2 := Co.hmax_bd ts d h.2 h0
    unfold Co.hmax
    omega
end
theorem leaf_hgtspec_0 (k mx m : Int) (n : Nat) (h0 : (k == 2) = true) (h1 : m = mx) (h2 : coOps k = (n : Int)) : (m + 1 : Int) = (if k == 4 || k == 5 then mx else mx + 1) := by
  grind [coOps]

theorem leaf_hgtspec_1 (k mx m : Int) (n : Nat) (h0 : (k == 2) = false) (h1 : (k == 3) = true) (h2 : m = mx) (h3 : coOps k = (n : Int)) : (m + 1 : Int) = (if k == 4 || k == 5 then mx else mx + 1) := by
  grind [coOps]

theorem leaf_hgtspec_2 (k mx m : Int) (n : Nat) (h0 : (k == 2) = false) (h1 : (k == 3) = false) (h2 : ((n : Int) == 0) = true) (h3 : m = mx) (h4 : coOps k = (n : Int)) : (m + 1 : Int) = (if k == 4 || k == 5 then mx else mx + 1) := by
  grind [coOps]

theorem leaf_hgtspec_3 (k mx m : Int) (n : Nat) (h0 : (k == 2) = false) (h1 : (k == 3) = false) (h2 : ((n : Int) == 0) = false) (h3 : m = mx) (h4 : coOps k = (n : Int)) : (m : Int) = (if k == 4 || k == 5 then mx else mx + 1) := by
  grind [coOps]

theorem leaf_hgtimpl_4 (k mx m : Int) (n : Nat) (h0 : (k == 4) = true) (h1 : m = mx) (h2 : coOps k = (n : Int)) : (m : Int) = (if k == 4 || k == 5 then mx else mx + 1) := by
  grind [coOps]

theorem leaf_hgtimpl_5 (k mx m : Int) (n : Nat) (h0 : (k == 4) = false) (h1 : (k == 5) = true) (h2 : m = mx) (h3 : coOps k = (n : Int)) : (m : Int) = (if k == 4 || k == 5 then mx else mx + 1) := by
  grind [coOps]

theorem leaf_hgtimpl_6 (k mx m : Int) (n : Nat) (h0 : (k == 4) = false) (h1 : (k == 5) = false) (h2 : m = mx) (h3 : coOps k = (n : Int)) : (m + 1 : Int) = (if k == 4 || k == 5 then mx else mx + 1) := by
  grind [coOps]

theorem leaf_hmainspec_7 (vv : Bool) (hg : Int) (h0 : (vv) = true) : (hg : Int) = (if vv then hg else 0) := by
  simp_all

theorem leaf_hmainspec_8 (vv : Bool) (hg : Int) (h0 : (vv) = false) : (0 : Int) = (if vv then hg else 0) := by
  simp_all

theorem leaf_hmainimpl_9 (vv : Bool) (hg : Int) (h0 : (vv) = true) : (hg : Int) = (if vv then hg else 0) := by
  simp_all

theorem leaf_hmainimpl_10 (vv : Bool) (hg : Int) (h0 : (vv) = false) : (0 : Int) = (if vv then hg else 0) := by
  simp_all

set_option maxHeartbeats 4000000 in
theorem specL6Height (F : Nat → Prop) (t : Co) : ∀ (d : Int) (_ : t.shape d = true) (_ : d ≤ 100) (y : Value) (w : World), CoRep F w t y →
    Calls Try.prog 40 #[y] w fun e w' => e = .returned (.int .i64 t.hgt) ∧ Below w.heap.size w w' := by
  intro d hsh hd y w hy
  have IH : ∀ t' ∈ t.kids, ∀ (d : Int) (_ : t'.shape d = true) (_ : d ≤ 100) (y : Value) (W : World), CoRep F W t' y → Calls Try.prog 40 #[y] W fun e W' => e = .returned (.int .i64 t'.hgt) ∧ Below W.heap.size W W' :=
    fun t' ht d a b y W c => specL6Height F t' d a b y W c
  obtain ⟨a, q, rfl, h2, h3, hks⟩ := hy.open
  cases t with | mk k g l ts =>
  simp only [Co.kind, Co.tag, Co.label, Co.kids] at *
  obtain ⟨s1, s2⟩ := Co.shape_parts hsh
  obtain ⟨dd, hdd⟩ : ∃ x, x = d - 1 := ⟨_, rfl⟩
  rw [← hdd] at s2
  have hdd2 : dd ≤ 99 := by omega
  obtain ⟨n, hn⟩ : ∃ n, ts.length = n := ⟨_, rfl⟩
  rw [hn] at h2 s1 hks ⊢
  have HN := Lib.hid hn
  have HSH1 := Lib.hid s1
  have HSH2 := Lib.hid s2
  have IHH := Lib.hid IH
  unfold maxLen at h3
  unfold Co.hgt
  obtain ⟨mx, hhm⟩ : ∃ x, Co.hmax ts = x := ⟨_, rfl⟩
  rw [hhm]
  have HM := Lib.hid hhm
  clear hn s1 s2 IH hy hhm hdd hsh hd
  obtain ⟨rr, hrr⟩ : ∃ rr0 : Int, (if k == 4 || k == 5 then mx else mx + 1) = rr0 := ⟨_, rfl⟩
  rw [hrr]
  have HT := Lib.hid hrr
  clear hrr
  go_enter Try.func40, Try.ntmps40
  go_wp2_with fail
  go_loopw [4, 3] (fun i m_ wr => ∃ j : Nat, j ≤ n ∧ i = .int .i64 j ∧ (∃ m : Int, m_ = .int .i64 m ∧ (0 ≤ m ∧ m ≤ 100) ∧ Hid (m = Co.hmax (ts.take j))) ∧ Below w.heap.size w wr ∧ wr.cell? ⟨w.heap.size, 0, none⟩ = some (.int .i64 k) ∧ wr.cell? ⟨w.heap.size, 3, none⟩ = some (.slice a n q)) (fun i _ _ => n - (intOf i).toNat)
  case atStart => exact ⟨0, by omega, rfl, ⟨_, rfl, (by omega), (by unfold Hid; simp [Co.hmax])⟩, bal1, cell_new (by simp) 0, cell_new (by simp) 3⟩
  case round =>
    obtain ⟨j, hj, rfl, ⟨m, rfl, m_0, m_1⟩, hB, x0, x1⟩ := hrel
    have lx1 := World.block_lt_of_cell? _ _ x0
    have lx1_1 := Nat.lt_succ_of_lt lx1
    by_cases hlt : j < n
    · have hjt : j < ts.length := by have := HN.out; omega
      obtain ⟨b, off, k0, g0, l0, a0, m0, q0, rfl, lb, e0, e1, e2, e3, ht⟩ := hks.at hB hjt
      have lb_1 := Nat.lt_succ_of_lt lb
      have hshj : ts[j].shape dd = true := Co.shapes_mem HSH2.out (List.getElem_mem hjt)
      have hcall := IHH.out ts[j] (List.getElem_mem hjt) dd hshj (by omega)
      have hbd := Co.hgt_bd ts[j] dd hshj
      have hstep := Co.hmax_take_succ ts j hjt
      generalize ts[j].hgt = r at hcall hbd hstep
      have HC := Lib.hid hcall
      have HS := Lib.hid hstep
      obtain ⟨hr0, hr1⟩ := hbd
      clear hcall hstep hshj
      go_wp2_with fail
      refine (HC.out _ _ ht).mono ?_
      rintro e w1 ⟨rfl, hb1⟩
      replace hB := (bstep hB hb1)
      have zw1 := hB.size
      replace x0 : w1.cell? ⟨w.heap.size, 0, none⟩ = some (.int .i64 k) := bcell hb1 (x0)
      replace x1 : w1.cell? ⟨w.heap.size, 3, none⟩ = some (.slice (some ⟨b, off, none⟩) n q) := bcell hb1 (x1)
      have d0_w1 := World.block_lt_of_cell? _ _ x0
      rcases Bool.eq_false_or_eq_true (decide (r > m)) with q1 | q1
      · (try rw [q1])
        have hwr := IntWalk.i64_in ((j : Int) + 1) (by omega)
        go_wp2_with fail
        go_roundw
        case rel => exact ⟨j + 1, by omega, by go_num, ⟨_, rfl, (by have hq0 := q1; simp only [decide_eq_true_eq, decide_eq_false_iff_not] at hq0; omega), (by have h1 := m_1.out; have h2 := HS.out; have hq0 := q1; simp only [decide_eq_true_eq, decide_eq_false_iff_not] at hq0; unfold Hid; rw [h2, ← h1]; omega)⟩, hB, x0, x1⟩
        case measure => simp [intOf]; omega
      · (try rw [q1])
        have hwr := IntWalk.i64_in ((j : Int) + 1) (by omega)
        go_wp2_with fail
        go_roundw
        case rel => exact ⟨j + 1, by omega, by go_num, ⟨_, rfl, (by have hq0 := q1; simp only [decide_eq_true_eq, decide_eq_false_iff_not] at hq0; omega), (by have h1 := m_1.out; have h2 := HS.out; have hq0 := q1; simp only [decide_eq_true_eq, decide_eq_false_iff_not] at hq0; unfold Hid; rw [h2, ← h1]; omega)⟩, hB, x0, x1⟩
        case measure => simp [intOf]; omega
    · skip
      have HMM : Hid (m = mx) := Lib.hid (by have := m_1.out; rw [List.take_of_length_le (by have := HN.out; omega)] at this; exact this.trans HM.out)
      rcases Bool.eq_false_or_eq_true (k == 2) with q2 | q2
      · skip
        have nq2 : (k != 2) = false := by simp only [bne, q2]; rfl
        have hwr := IntWalk.i64_in (m + 1) (by omega)
        go_wp2_with fail
        refine bodyPost_ret (v := .int .i64 (m + 1)) (by simp [results, Try.results40, go_sem, bne]) rfl ?_
        exact ⟨ret_int ((leaf_hgtspec_0 k mx m n q2 HMM.out HSH1.out).trans HT.out), hB⟩
      · skip
        have nq2 : (k != 2) = true := by simp only [bne, q2]; rfl
        rcases Bool.eq_false_or_eq_true (k == 3) with q3 | q3
        · skip
          have nq3 : (k != 3) = false := by simp only [bne, q3]; rfl
          have hwr := IntWalk.i64_in (m + 1) (by omega)
          go_wp2_with fail
          refine bodyPost_ret (v := .int .i64 (m + 1)) (by simp [results, Try.results40, go_sem, bne]) rfl ?_
          exact ⟨ret_int ((leaf_hgtspec_1 k mx m n q2 q3 HMM.out HSH1.out).trans HT.out), hB⟩
        · skip
          have nq3 : (k != 3) = true := by simp only [bne, q3]; rfl
          rcases Bool.eq_false_or_eq_true ((n : Int) == 0) with q4 | q4
          · (try rw [q4])
            have nq4 : ((n : Int) != 0) = false := by simp only [bne, q4]; rfl
            have hwr := IntWalk.i64_in (m + 1) (by omega)
            go_wp2_with fail
            refine bodyPost_ret (v := .int .i64 (m + 1)) (by simp [results, Try.results40, go_sem, bne]) rfl ?_
            exact ⟨ret_int ((leaf_hgtspec_2 k mx m n q2 q3 q4 HMM.out HSH1.out).trans HT.out), hB⟩
          · (try rw [q4])
            have nq4 : ((n : Int) != 0) = true := by simp only [bne, q4]; rfl
            go_wp2_with fail
            refine bodyPost_ret (v := .int .i64 (m)) (by simp [results, Try.results40, go_sem, bne]) rfl ?_
            exact ⟨ret_int ((leaf_hgtspec_3 k mx m n q2 q3 q4 HMM.out HSH1.out).trans HT.out), hB⟩
termination_by SizeOf.sizeOf t
decreasing_by exact Co.kid_lt ht
set_option maxHeartbeats 4000000 in
theorem implHeight (F : Nat → Prop) (t : Co) : ∀ (d : Int) (_ : t.shape d = true) (_ : d ≤ 100) (y : Value) (w : World), CoRep F w t y →
    Calls Try.prog 41 #[y] w fun e w' => e = .returned (.int .i64 t.hgt) ∧ Below w.heap.size w w' := by
  intro d hsh hd y w hy
  have IH : ∀ t' ∈ t.kids, ∀ (d : Int) (_ : t'.shape d = true) (_ : d ≤ 100) (y : Value) (W : World), CoRep F W t' y → Calls Try.prog 41 #[y] W fun e W' => e = .returned (.int .i64 t'.hgt) ∧ Below W.heap.size W W' :=
    fun t' ht d a b y W c => implHeight F t' d a b y W c
  obtain ⟨a, q, rfl, h2, h3, hks⟩ := hy.open
  cases t with | mk k g l ts =>
  simp only [Co.kind, Co.tag, Co.label, Co.kids] at *
  obtain ⟨s1, s2⟩ := Co.shape_parts hsh
  obtain ⟨dd, hdd⟩ : ∃ x, x = d - 1 := ⟨_, rfl⟩
  rw [← hdd] at s2
  have hdd2 : dd ≤ 99 := by omega
  obtain ⟨n, hn⟩ : ∃ n, ts.length = n := ⟨_, rfl⟩
  rw [hn] at h2 s1 hks ⊢
  have HN := Lib.hid hn
  have HSH1 := Lib.hid s1
  have HSH2 := Lib.hid s2
  have IHH := Lib.hid IH
  unfold maxLen at h3
  unfold Co.hgt
  obtain ⟨mx, hhm⟩ : ∃ x, Co.hmax ts = x := ⟨_, rfl⟩
  rw [hhm]
  have HM := Lib.hid hhm
  clear hn s1 s2 IH hy hhm hdd hsh hd
  obtain ⟨rr, hrr⟩ : ∃ rr0 : Int, (if k == 4 || k == 5 then mx else mx + 1) = rr0 := ⟨_, rfl⟩
  rw [hrr]
  have HT := Lib.hid hrr
  clear hrr
  go_enter Try.func41, Try.ntmps41
  go_wp2_with fail
  go_loopw [9, 3] (fun i m_ wr => ∃ j : Nat, j ≤ n ∧ i = .int .i64 j ∧ (∃ m : Int, m_ = .int .i64 m ∧ (0 ≤ m ∧ m ≤ 100) ∧ Hid (m = Co.hmax (ts.take j))) ∧ Below w.heap.size w wr ∧ wr.cell? ⟨w.heap.size, 0, none⟩ = some (.int .i64 k) ∧ wr.cell? ⟨w.heap.size, 3, none⟩ = some (.slice a n q)) (fun i _ _ => n - (intOf i).toNat)
  case atStart => exact ⟨0, by omega, rfl, ⟨_, rfl, (by omega), (by unfold Hid; simp [Co.hmax])⟩, bal1, cell_new (by simp) 0, cell_new (by simp) 3⟩
  case round =>
    obtain ⟨j, hj, rfl, ⟨m, rfl, m_0, m_1⟩, hB, x0, x1⟩ := hrel
    have lx1 := World.block_lt_of_cell? _ _ x0
    have lx1_1 := Nat.lt_succ_of_lt lx1
    by_cases hlt : j < n
    · have hjt : j < ts.length := by have := HN.out; omega
      obtain ⟨b, off, k0, g0, l0, a0, m0, q0, rfl, lb, e0, e1, e2, e3, ht⟩ := hks.at hB hjt
      have lb_1 := Nat.lt_succ_of_lt lb
      have hshj : ts[j].shape dd = true := Co.shapes_mem HSH2.out (List.getElem_mem hjt)
      have hcall := IHH.out ts[j] (List.getElem_mem hjt) dd hshj (by omega)
      have hbd := Co.hgt_bd ts[j] dd hshj
      have hstep := Co.hmax_take_succ ts j hjt
      generalize ts[j].hgt = r at hcall hbd hstep
      have HC := Lib.hid hcall
      have HS := Lib.hid hstep
      obtain ⟨hr0, hr1⟩ := hbd
      clear hcall hstep hshj
      go_wp2_with fail
      refine (HC.out _ _ (ht.below bal1)).mono ?_
      rintro e w1 ⟨rfl, hb1⟩
      replace hB := (bstep (hB.alloc hB.size _) hb1)
      have zw1 := hB.size
      replace x0 : w1.cell? ⟨w.heap.size, 0, none⟩ = some (.int .i64 k) := bcell hb1 (bcell bal1 (x0))
      replace x1 : w1.cell? ⟨w.heap.size, 3, none⟩ = some (.slice (some ⟨b, off, none⟩) n q) := bcell hb1 (bcell bal1 (x1))
      have d0_w1 := World.block_lt_of_cell? _ _ x0
      have hwr := IntWalk.i64_in ((j : Int) + 1) (by omega)
      go_wp2_with fail
      go_roundw
      case rel => exact ⟨j + 1, by omega, by go_num, ⟨_, rfl, (by omega), (by have h1 := m_1.out; have h2 := HS.out; unfold Hid; rw [h2, ← h1]; omega)⟩, hB, x0, x1⟩
      case measure => simp [intOf]; omega
    · skip
      have HMM : Hid (m = mx) := Lib.hid (by have := m_1.out; rw [List.take_of_length_le (by have := HN.out; omega)] at this; exact this.trans HM.out)
      rcases Bool.eq_false_or_eq_true (k == 4) with q1 | q1
      · skip
        have nq1 : (k != 4) = false := by simp only [bne, q1]; rfl
        go_wp2_with fail
        refine bodyPost_ret (v := .int .i64 (m)) (by simp [results, Try.results41, go_sem, bne]) rfl ?_
        exact ⟨ret_int ((leaf_hgtimpl_4 k mx m n q1 HMM.out HSH1.out).trans HT.out), hB⟩
      · skip
        have nq1 : (k != 4) = true := by simp only [bne, q1]; rfl
        rcases Bool.eq_false_or_eq_true (k == 5) with q2 | q2
        · (try rw [q2])
          have nq2 : (k != 5) = false := by simp only [bne, q2]; rfl
          go_wp2_with fail
          refine bodyPost_ret (v := .int .i64 (m)) (by simp [results, Try.results41, go_sem, bne]) rfl ?_
          exact ⟨ret_int ((leaf_hgtimpl_5 k mx m n q1 q2 HMM.out HSH1.out).trans HT.out), hB⟩
        · (try rw [q2])
          have nq2 : (k != 5) = true := by simp only [bne, q2]; rfl
          have hwr := IntWalk.i64_in (m + 1) (by omega)
          go_wp2_with fail
          refine bodyPost_ret (v := .int .i64 (m + 1)) (by simp [results, Try.results41, go_sem, bne]) rfl ?_
          exact ⟨ret_int ((leaf_hgtimpl_6 k mx m n q1 q2 HMM.out HSH1.out).trans HT.out), hB⟩
termination_by SizeOf.sizeOf t
decreasing_by exact Co.kid_lt ht
set_option maxHeartbeats 4000000 in
theorem specCoercionHeight0 (F : Nat → Prop) (t : Co) (y : Value) (w : World) (hy : CoRep F w t y) :
    Calls Try.prog 17 #[y] w fun e w' => e = .returned (.int .i64 (if t.valid then t.hgt else 0)) ∧ Below w.heap.size w w' := by
  have hv := fun W (h : Below w.heap.size w W) => specCoercionValid F t y W (hy.below h)
  have hg := fun (hs : t.valid = true) W (h : Below w.heap.size w W) => specL6Height F t 9 hs (by omega) y W (hy.below h)
  generalize t.valid = vv at hv hg ⊢
  generalize t.hgt = hg0 at hg ⊢
  have HV := Lib.hid hv
  have HG := Lib.hid hg
  clear hv hg
  obtain ⟨k, g, l, a, n, q, rfl⟩ := hy.shape
  clear hy
  obtain ⟨rr, hrr⟩ : ∃ rr0 : Int, (if vv then hg0 else 0) = rr0 := ⟨_, rfl⟩
  rw [hrr]
  have HT := Lib.hid hrr
  clear hrr
  go_enter Try.func17, Try.ntmps17
  go_wp2_with fail
  refine (HV.out _ bal1).mono ?_
  rintro e w1 ⟨rfl, hb1⟩
  have hB := (bstep bal1 hb1)
  have zw1 := hB.size
  have c0_0 : w1.cell? ⟨w.heap.size, 0, none⟩ = some (.int .i64 k) := bcell hb1 (cell_new (by simp) 0)
  have c0_1 : w1.cell? ⟨w.heap.size, 1, none⟩ = some (.int .i64 g) := bcell hb1 (cell_new (by simp) 1)
  have c0_2 : w1.cell? ⟨w.heap.size, 2, none⟩ = some (.int .i64 l) := bcell hb1 (cell_new (by simp) 2)
  have c0_3 : w1.cell? ⟨w.heap.size, 3, none⟩ = some (.slice a n q) := bcell hb1 (cell_new (by simp) 3)
  have d0_w1 := World.block_lt_of_cell? _ _ c0_0
  rcases Bool.eq_false_or_eq_true (vv) with q1 | q1
  · (try rw [q1])
    have Hq1 := Lib.hid q1
    clear q1
    go_wp2_with fail
    refine (HG.out Hq1.out _ hB).mono ?_
    rintro e w2 ⟨rfl, hb2⟩
    replace hB := (bstep hB hb2)
    have zw2 := hB.size
    go_wp2_with fail
    refine bodyPost_ret (v := .int .i64 (hg0)) (by simp [results, Try.results17, go_sem, bne]) rfl ?_
    exact ⟨ret_int ((leaf_hmainspec_7 vv hg0 Hq1.out).trans HT.out), hB⟩
  · (try rw [q1])
    have Hq1 := Lib.hid q1
    clear q1
    go_wp2_with fail
    refine bodyPost_ret (v := .int .i64 (0)) (by simp [results, Try.results17, go_sem, bne]) rfl ?_
    exact ⟨ret_int ((leaf_hmainspec_8 vv hg0 Hq1.out).trans HT.out), hB⟩
set_option maxHeartbeats 4000000 in
theorem implCoercionHeight0 (F : Nat → Prop) (t : Co) (y : Value) (w : World) (hy : CoRep F w t y) :
    Calls Try.prog 18 #[y] w fun e w' => e = .returned (.int .i64 (if t.valid then t.hgt else 0)) ∧ Below w.heap.size w w' := by
  have hv := fun W (h : Below w.heap.size w W) => implCoercionValid F t y W (hy.below h)
  have hg := fun (hs : t.valid = true) W (h : Below w.heap.size w W) => implHeight F t 9 hs (by omega) y W (hy.below h)
  generalize t.valid = vv at hv hg ⊢
  generalize t.hgt = hg0 at hg ⊢
  have HV := Lib.hid hv
  have HG := Lib.hid hg
  clear hv hg
  obtain ⟨k, g, l, a, n, q, rfl⟩ := hy.shape
  clear hy
  obtain ⟨rr, hrr⟩ : ∃ rr0 : Int, (if vv then hg0 else 0) = rr0 := ⟨_, rfl⟩
  rw [hrr]
  have HT := Lib.hid hrr
  clear hrr
  go_enter Try.func18, Try.ntmps18
  go_wp2_with fail
  refine (HV.out _ bal1).mono ?_
  rintro e w1 ⟨rfl, hb1⟩
  have hB := (bstep bal1 hb1)
  have zw1 := hB.size
  have c0_0 : w1.cell? ⟨w.heap.size, 0, none⟩ = some (.int .i64 k) := bcell hb1 (cell_new (by simp) 0)
  have c0_1 : w1.cell? ⟨w.heap.size, 1, none⟩ = some (.int .i64 g) := bcell hb1 (cell_new (by simp) 1)
  have c0_2 : w1.cell? ⟨w.heap.size, 2, none⟩ = some (.int .i64 l) := bcell hb1 (cell_new (by simp) 2)
  have c0_3 : w1.cell? ⟨w.heap.size, 3, none⟩ = some (.slice a n q) := bcell hb1 (cell_new (by simp) 3)
  have d0_w1 := World.block_lt_of_cell? _ _ c0_0
  rcases Bool.eq_false_or_eq_true (vv) with q1 | q1
  · (try rw [q1])
    have Hq1 := Lib.hid q1
    clear q1
    go_wp2_with fail
    refine (HG.out Hq1.out _ hB).mono ?_
    rintro e w2 ⟨rfl, hb2⟩
    replace hB := (bstep hB hb2)
    have zw2 := hB.size
    go_wp2_with fail
    refine bodyPost_ret (v := .int .i64 (hg0)) (by simp [results, Try.results18, go_sem, bne]) rfl ?_
    exact ⟨ret_int ((leaf_hmainimpl_9 vv hg0 Hq1.out).trans HT.out), hB⟩
  · (try rw [q1])
    have Hq1 := Lib.hid q1
    clear q1
    go_wp2_with fail
    refine bodyPost_ret (v := .int .i64 (0)) (by simp [results, Try.results18, go_sem, bne]) rfl ?_
    exact ⟨ret_int ((leaf_hmainimpl_10 vv hg0 Hq1.out).trans HT.out), hB⟩
def Co.height (t : Co) : Int := if t.valid then t.hgt else 0
theorem specCoercionHeight (F : Nat → Prop) (t : Co) (y : Value) (w : World) (hy : CoRep F w t y) :
    Calls Try.prog 17 #[y] w fun e w' => e = .returned (.int .i64 t.height) ∧ Below w.heap.size w w' := specCoercionHeight0 F t y w hy
theorem implCoercionHeight (F : Nat → Prop) (t : Co) (y : Value) (w : World) (hy : CoRep F w t y) :
    Calls Try.prog 18 #[y] w fun e w' => e = .returned (.int .i64 t.height) ∧ Below w.heap.size w w' := implCoercionHeight0 F t y w hy
end Go.Proofs.Ytohnlkkofbploaa
