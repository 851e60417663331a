/-
  The number of nodes of a term, by the reference.
  TermValid and CastValid of the reference.
  CastTypeOf of the reference.
  TermValid and CastValid of the program.
-/
import Derived.Test.YtkhmkohgnikcmaaB14
import Derived.Test.YtkhmkohgnikcmaaB45
import Derived.Test.YtkhmkohgnikcmaaTmShape4
import Derived.Test.YtkhmkohgnikcmaaB33
import Derived.Test.YtkhmkohgnikcmaaB5
namespace Go.Proofs.Ytkhmkohgnikcmaa
open Go.RowKit
set_option linter.unusedVariables false
set_option linter.unusedSimpArgs false
set_option maxRecDepth 100000

theorem leaf_count_0 (m1 rx : Int) (h0 : m1 = rx) : (m1 : Int) = (rx) := by
  simp_all

set_option maxHeartbeats 8000000 in
theorem specL2Count (F : Nat → Prop) (t : Tm) : ∀ (nt : Int) (n : Nat) (_ : t.shape nt n = true) (d : Int) (_ : (n : Int) ≤ d) (_ : d ≤ 40) (y : Value) (w : World), TmRep F w t y →
    Calls Try.prog 30 #[y, .int .i64 d] w fun e w' => e = .returned (.int .i64 (t.size)) ∧ Below w.heap.size w w' := by
  intro nt n hsh d hd0 hd5 y w hy
  have IH : ∀ t' ∈ t.kids, ∀ (nt : Int) (n : Nat) (_ : t'.shape nt n = true) (d : Int) (_ : (n : Int) ≤ d) (_ : d ≤ 40) (y : Value) (W : World), TmRep F W t' y → Calls Try.prog 30 #[y, .int .i64 d] W fun e W' => e = .returned (.int .i64 (t'.size)) ∧ Below W.heap.size W W' :=
    fun t' ht nt n a d b c y W e => specL2Count F t' nt n a d b c y W e
  have hbd := Tm.size_bd hsh (by omega)
  obtain ⟨k, nm, u, tk, ta, tn, tq, fk, fa, fn, fq, l, c, m, q, rfl⟩ := hy.shape
  obtain ⟨r1, r2, r3, r4, r5, r6, r7, r8, r9, rn, rm, rq, hty, hsr, hks⟩ := hy.parts
  cases t with | mk kk nn uu tt ff ll ts =>
  simp only [Tm.kind, Tm.name, Tm.num, Tm.type, Tm.src, Tm.label, Tm.kids] at *
  subst r1 r2 r3 r8
  obtain ⟨s1, -, -, -, s5⟩ := Tm.shape_parts hsh
  obtain ⟨dd, rfl⟩ : ∃ x, n = x + 1 := ⟨n - 1, by omega⟩
  rw [show ((dd + 1 : Nat) : Int) - 1 = (dd : Int) from by omega] at s5
  unfold Tm.size at hbd ⊢
  have hd1 : 0 < d := by omega
  have hdd : (dd : Int) ≤ d - 1 := by omega
  have hd : decide (d > 0) = true := by simpa using hd1
  obtain ⟨rx, hr0⟩ : ∃ r, 1 + Tm.sizes ts = r := ⟨_, rfl⟩
  rw [hr0]
  have HT0 := Lib.hid hr0
  have HN := Lib.hid r9
  have HB := Lib.hid hbd
  have HSH := Lib.hid s5
  have IHH := Lib.hid IH
  unfold maxLen at rq
  clear hr0 IH hy r9 r4 r5 r6 r7 rn hty hsr hbd s5 hsh hd0
  obtain ⟨rr, hrr⟩ : ∃ rr0 : Int, (rx) = rr0 := ⟨_, rfl⟩
  rw [hrr]
  have HT := Lib.hid hrr
  clear hrr
  go_enter Try.func30, Try.ntmps30
  go_wp2_with fail
  go_loopw [6, 5] (fun i m1_ wr => ∃ j : Nat, j ≤ m ∧ i = .int .i64 j ∧ (∃ m1 : Int, m1_ = .int .i64 m1 ∧ (1 ≤ m1 ∧ m1 ≤ 6078832729528464400) ∧ Hid (m1 = 1 + Tm.sizes (ts.take j))) ∧ Below w.heap.size w wr ∧ wr.cell? ⟨w.heap.size, 8, none⟩ = some (.slice c m q)) (fun i _ _ => m - (intOf i).toNat)
  case atStart => exact ⟨0, by omega, rfl, ⟨_, rfl, (by omega), (by unfold Hid; simp [Tm.sizes])⟩, bal1, cell_new (by simp) 8⟩
  case round =>
    obtain ⟨j, hj, rfl, ⟨m1, rfl, m1_0, m1_1⟩, hB, x0⟩ := hrel
    have lx1 := World.block_lt_of_cell? _ _ x0
    by_cases hlt : j < m
    · have hjt : j < ts.length := by have := HN.out; omega
      obtain ⟨b, off, k0, nm0, u0, tk0, ta0, tn0, tq0, fk0, fa0, fn0, fq0, l0, a0, m0, q0, rfl, lb, e0, e1, e2, e3, e4, e5, e6, e7, e8, ht⟩ := hks.at hB hjt
      have hshj : ts[j].shape nt dd = true := Tm.shapes_mem HSH.out (List.getElem_mem hjt)
      have hcall := IHH.out ts[j] (List.getElem_mem hjt) nt dd hshj (d - 1)
      have hp := Tm.size_pos ts[j]
      have hstep := Tm.sizes_take_succ ts j hjt
      have hle := Tm.sizes_take_le ts (j + 1)
      have hmr : m1 + ts[j].size ≤ 6078832729528464400 := by have := m1_1.out; have := HB.out; omega
      generalize ts[j].size = r at hcall hp hstep hmr
      have HC := Lib.hid hcall
      have HS := Lib.hid hstep
      clear hcall hstep hshj hle
      have hwr := IntWalk.i64_in (d - 1) (by omega)
      go_wp2_with fail
      refine (HC.out (by omega) (by omega) _ _ ht).mono ?_
      rintro e w1 ⟨rfl, hb1⟩
      replace hB := (bstep hB hb1)
      have zw1 := hB.size
      replace x0 : w1.cell? ⟨w.heap.size, 8, none⟩ = some (.slice (some ⟨b, off, none⟩) m q) := bcell hb1 (x0)
      have d0_w1 := World.block_lt_of_cell? _ _ x0
      have hwr := IntWalk.i64_in (m1 + r) (by omega)
      have hwr := IntWalk.i64_in ((j : Int) + 1) (by omega)
      go_wp2_with fail
      go_roundw
      case rel => exact ⟨j + 1, by omega, by go_num, ⟨_, rfl, (by omega), (by have h1 := m1_1.out; have h2 := HS.out; unfold Hid; omega)⟩, hB, x0⟩
      case measure => simp [intOf]; omega
    · skip
      have HMM : Hid (m1 = rx) := Lib.hid (by have := m1_1.out; rw [List.take_of_length_le (by have := HN.out; omega)] at this; have := HT0.out; omega)
      go_wp2_with fail
      refine bodyPost_ret (v := .int .i64 (m1)) (by simp [results, Try.results30, go_sem, bne]) rfl ?_
      exact ⟨ret_int ((leaf_count_0 m1 rx HMM.out).trans HT.out), hB⟩
termination_by SizeOf.sizeOf t
decreasing_by exact Tm.kid_lt ht
end Go.Proofs.Ytkhmkohgnikcmaa
namespace Go.Proofs.Ytkhmkohgnikcmaa
open Go.RowKit
set_option linter.unusedVariables false
set_option linter.unusedSimpArgs false
set_option maxRecDepth 100000

theorem leaf_sv40_0 (s : Bool) (z : Int) (h0 : (s) = true) : (decide (z ≤ 200) : Bool) = (s && decide (z ≤ 200)) := by
  simp_all

theorem leaf_sv40_1 (s : Bool) (z : Int) (h0 : (s) = false) : (false : Bool) = (s && decide (z ≤ 200)) := by
  simp_all

set_option maxHeartbeats 1000000 in
theorem specCastValid (F : Nat → Prop) (t : Tm) (y : Value) (w : World) (hy : TmRep F w t y) :
    Calls Try.prog 15 #[y] w fun e w' => e = .returned (.bool (t.castValid)) ∧ Below w.heap.size w w' := by
  have h1 := fun W (h : Below w.heap.size w W) => specL4Shape F t 40 y W (hy.below h) (by omega) (by omega)
  have h2 := fun (hs : t.shape 13 40 = true) W (h : Below w.heap.size w W) => specL2Count F t 13 40 hs 40 (by omega) (by omega) y W (hy.below h)
  obtain ⟨k, nm, u, tk, ta, tn, tq, fk, fa, fn, fq, l, c, m, q, rfl⟩ := hy.shape
  unfold Tm.castValid
  generalize t.shape 13 40 = s at *
  generalize t.size = z at *
  have H1 := Lib.hid h1
  have H2 := Lib.hid h2
  clear h1 h2 hy
  obtain ⟨rr, hrr⟩ : ∃ rr0 : Bool, (s && decide (z ≤ 200)) = rr0 := ⟨_, rfl⟩
  rw [hrr]
  have HT := Lib.hid hrr
  clear hrr
  go_enter Try.func15, Try.ntmps15
  rcases Bool.eq_false_or_eq_true (s) with q1 | q1
  · have Hq1 := Lib.hid q1
    clear q1
    go_wp2_with fail
    refine (H1.out _ bal1).mono ?_
    rintro e w1 ⟨rfl, hb1⟩
    rw [Hq1.out]
    have hB := (bstep bal1 hb1)
    have zw1 := hB.size
    have c0_0 : w1.cell? ⟨w.heap.size, 0, none⟩ = some (.int .i64 k) := bcell hb1 (cell_new (by simp) 0)
    have c0_1 : w1.cell? ⟨w.heap.size, 1, none⟩ = some (.string nm) := bcell hb1 (cell_new (by simp) 1)
    have c0_2 : w1.cell? ⟨w.heap.size, 2, none⟩ = some (.int .i64 u) := bcell hb1 (cell_new (by simp) 2)
    have c0_3 : w1.cell? ⟨w.heap.size, 3, none⟩ = some (.int .i64 tk) := bcell hb1 (cell_new (by simp) 3)
    have c0_4 : w1.cell? ⟨w.heap.size, 4, none⟩ = some (.slice ta tn tq) := bcell hb1 (cell_new (by simp) 4)
    have c0_5 : w1.cell? ⟨w.heap.size, 5, none⟩ = some (.int .i64 fk) := bcell hb1 (cell_new (by simp) 5)
    have c0_6 : w1.cell? ⟨w.heap.size, 6, none⟩ = some (.slice fa fn fq) := bcell hb1 (cell_new (by simp) 6)
    have c0_7 : w1.cell? ⟨w.heap.size, 7, none⟩ = some (.int .i64 l) := bcell hb1 (cell_new (by simp) 7)
    have c0_8 : w1.cell? ⟨w.heap.size, 8, none⟩ = some (.slice c m q) := bcell hb1 (cell_new (by simp) 8)
    have d0_w1 := World.block_lt_of_cell? _ _ c0_0
    go_wp2_with fail
    refine (H2.out Hq1.out _ hB).mono ?_
    rintro e w2 ⟨rfl, hb2⟩
    replace hB := (bstep hB hb2)
    have zw2 := hB.size
    go_wp2_with fail
    refine bodyPost_ret (v := .bool (decide (z ≤ 200))) (by simp [results, Try.results15, go_sem, bne]) rfl ?_
    exact ⟨ret_bool ((leaf_sv40_0 s z Hq1.out).trans HT.out), hB⟩
  · have Hq1 := Lib.hid q1
    clear q1
    go_wp2_with fail
    refine (H1.out _ bal1).mono ?_
    rintro e w3 ⟨rfl, hb3⟩
    rw [Hq1.out]
    have hB := (bstep bal1 hb3)
    have zw3 := hB.size
    go_wp2_with fail
    refine bodyPost_ret (v := .bool (false)) (by simp [results, Try.results15, go_sem, bne]) rfl ?_
    exact ⟨ret_bool ((leaf_sv40_1 s z Hq1.out).trans HT.out), hB⟩
end Go.Proofs.Ytkhmkohgnikcmaa
namespace Go.Proofs.Ytkhmkohgnikcmaa
open Go.RowKit
set_option linter.unusedVariables false
set_option linter.unusedSimpArgs false
set_option maxRecDepth 100000

/-- What CastTypeOf answers. -/
def castOf (t : Tm) : Option Ty := if t.castValid then (t.castS []).map S.ty else none
def castOfT (t : Tm) : Ty := (castOf t).getD (.mk 0 [])
/-- A type and a Boolean, in fresh memory: a reading. -/
def RetSF (o : Option Ty) (w : World) (e : Ending) (w' : World) : Prop := ∃ (k : Int) (a : Option Addr) (n q : Nat), e = .returned (.tuple #[.agg #[.int .i64 k, .slice a n q], .bool o.isSome]) ∧ TyRep (fun x => w.heap.size ≤ x) w' (o.getD (.mk 0 [])) (.agg #[.int .i64 k, .slice a n q]) ∧ Below w.heap.size w w'
set_option maxHeartbeats 2000000 in
theorem specSureF (k : Int) (a : Option Addr) (n q : Nat) (w : World) : Calls Try.prog 16 #[.agg #[.int .i64 k, .slice a n q], .bool false] w fun e w' => e = .returned (.tuple #[.agg #[.int .i64 0, .slice none 0 0], .bool false]) ∧ Below w.heap.size w w' := by
  go_enter Try.func16, Try.ntmps16
  go_wp2_with fail
  refine bodyPost_ret (v := .tuple #[.agg #[.int .i64 0, .slice none 0 0], .bool false]) (by simp [results, Try.results16, go_sem]) rfl ?_
  exact ⟨rfl, bstep bal1 bal1⟩
set_option maxHeartbeats 2000000 in
theorem specSureT (k : Int) (a : Option Addr) (n q : Nat) (w : World) : Calls Try.prog 16 #[.agg #[.int .i64 k, .slice a n q], .bool true] w fun e w' => e = .returned (.tuple #[.agg #[.int .i64 k, .slice a n q], .bool true]) ∧ Below w.heap.size w w' := by
  go_enter Try.func16, Try.ntmps16
  go_wp2_with fail
  refine bodyPost_ret (v := .tuple #[.agg #[.int .i64 k, .slice a n q], .bool true]) (by simp [results, Try.results16, go_sem]) rfl ?_
  exact ⟨rfl, bstep bal1 bal1⟩
set_option maxHeartbeats 4000000 in
theorem specCastTypeOf (F : Nat → Prop) (t : Tm) (y : Value) (w : World) (hy : TmRep F w t y) : Calls Try.prog 5 #[y] w (RetSF (castOf t) w) := by
  have HV := Lib.hid (fun W (h : Below w.heap.size w W) => specCastValid F t y W (hy.below h))
  have H4 := Lib.hid (fun (hv : t.castValid = true) W (h : Below w.heap.size w W) => specL4Type t 40 [] (.slice none 0 0) y W (fun _ => True) F (by unfold Tm.castValid at hv; simp at hv; exact hv.1) (by simp) (fun b hb => by cases hb) (.inl ⟨rfl, rfl⟩) (by unfold BdsRep CRep; exact ⟨none, 0, rfl, Nat.le_refl _, by unfold maxLen; omega, .inl rfl⟩) (hy.below h))
  obtain ⟨k, nm, u, tk, ta, tn, tq, fk, fa, fn, fq, lb, ca, cm, cq, rfl⟩ := hy.shape
  have fE := blk_below (blk_new (w := w) (o := .cells #[.int .i64 k, .string nm, .int .i64 u, .int .i64 tk, .slice ta tn tq, .int .i64 fk, .slice fa fn fq, .int .i64 lb, .slice ca cm cq] 36) rfl) (bal1 (o := .cells #[.int .i64 0, .slice none 0 0] 31))
  have fR := blk_new (w := w.alloc (.cells #[.int .i64 k, .string nm, .int .i64 u, .int .i64 tk, .slice ta tn tq, .int .i64 fk, .slice fa fn fq, .int .i64 lb, .slice ca cm cq] 36)) (o := .cells #[.int .i64 0, .slice none 0 0] 31) (b := w.heap.size + 1) (by simp)
  have HO := Lib.hid (show castOf t = if t.castValid then (t.castS []).map S.ty else none from rfl)
  generalize castOf t = O at HO ⊢
  generalize (t.castS []).map S.ty = O1 at HO H4
  generalize hcv : t.castValid = cv at HO HV H4
  clear hcv hy
  cases cv with
  | false =>
    have HOO := Lib.hid (show O = none from by rw [HO.out]; rfl)
    clear HO
    go_enter Try.func5, Try.ntmps5
    go_wp2_with fail
    refine (HV.out _ (bstep bal1 bal1)).mono ?_
    rintro e w1 ⟨rfl, hb1⟩
    replace fR := blk_below fR hb1
    have fC := Lib.hid (bstep (bstep bal1 bal1) hb1)
    clear hb1 fE
    have r0 := blk_cell fR (o := 0) rfl
    have r1 := blk_cell fR (o := 1) rfl
    have rf0 := blk_fro fR 0
    have rf1 := blk_fro fR 1
    go_wp2_with fail
    have hY : ((w1.setCell ⟨w.heap.size + 1, 0, none⟩ (.int .i64 0)).setCell ⟨w.heap.size + 1, 1, none⟩ (.slice none 0 0)).heap[w.heap.size + 1]? = some (.cells #[.int .i64 0, .slice none 0 0] 31 (0, 0)) := blk_set (blk_set fR rfl) rfl
    have rc0 := blk_cell hY (o := 0) rfl
    have rc1 := blk_cell hY (o := 1) rfl
    refine bodyPost_ret (v := .tuple #[.agg #[.int .i64 0, .slice none 0 0], .bool false]) (by simp [results, Try.results5, go_sem, rc0, rc1]) rfl ?_
    rw [HOO.out]
    exact ⟨_, _, _, _, rfl, TyRep.zeroG, (fC.out.setCell (p := ⟨w.heap.size + 1, 0, none⟩) (by show w.heap.size ≤ w.heap.size + 1; omega) _).setCell (p := ⟨w.heap.size + 1, 1, none⟩) (by show w.heap.size ≤ w.heap.size + 1; omega) _⟩
  | true =>
    have HOO := Lib.hid (show O = O1 from by rw [HO.out]; rfl)
    clear HO
    go_enter Try.func5, Try.ntmps5
    go_wp2_with fail
    refine (HV.out _ (bstep bal1 bal1)).mono ?_
    rintro e w1 ⟨rfl, hb1⟩
    replace fR := blk_below fR hb1
    replace fE := blk_below fE hb1
    have fC := Lib.hid (bstep (bstep bal1 bal1) hb1)
    have H5 := Lib.hid (H4.out (by simp) w1 fC.out)
    have hz1 := hb1.size
    simp only [World.size_alloc] at hz1
    clear hb1 H4
    have d0 := blk_cell fE (o := 0) rfl
    have d1 := blk_cell fE (o := 1) rfl
    have d2 := blk_cell fE (o := 2) rfl
    have d3 := blk_cell fE (o := 3) rfl
    have d4 := blk_cell fE (o := 4) rfl
    have d5 := blk_cell fE (o := 5) rfl
    have d6 := blk_cell fE (o := 6) rfl
    have d7 := blk_cell fE (o := 7) rfl
    have d8 := blk_cell fE (o := 8) rfl
    go_wp2_with fail
    refine H5.out.mono ?_
    rintro e w2 ⟨k2, a2, n2, q2, b2, t2, rfl, hb2, ht2, ho2, hst⟩
    replace fR := blk_below fR hst
    replace fC := Lib.hid (bstep fC.out hst)
    have HT := Lib.hid ht2
    have HB := Lib.hid hb2
    have HOT := Lib.hid ho2
    have hz2 := hst.size
    clear ht2 ho2 hst d0 d1 d2 d3 d4 d5 d6 d7 d8
    have hne : ∀ b, (False ∨ w1.heap.size ≤ b) → b ≠ w.heap.size + 1 := fun b h => by
      have h1 := h.elim False.elim id
      omega
    have HNE := Lib.hid hne
    clear hne hb2
    cases b2 with
    | false =>
      have HN := Lib.hid (show O = none from by rw [HOO.out]; cases h : O1 with | none => rfl | some x => have := HB.out; rw [h] at this; cases this)
      go_wp2_with fail
      refine (specSureF _ _ _ _ _).mono ?_
      rintro e w3 ⟨rfl, hb3⟩
      replace fR := blk_below fR hb3
      replace fC := Lib.hid (bstep fC.out hb3)
      clear hb3
      have r0 := blk_cell fR (o := 0) rfl
      have r1 := blk_cell fR (o := 1) rfl
      have rf0 := blk_fro fR 0
      have rf1 := blk_fro fR 1
      go_wp2_with fail
      have hY : ((w3.setCell ⟨w.heap.size + 1, 0, none⟩ (.int .i64 0)).setCell ⟨w.heap.size + 1, 1, none⟩ (.slice none 0 0)).heap[w.heap.size + 1]? = some (.cells #[.int .i64 0, .slice none 0 0] 31 (0, 0)) := blk_set (blk_set fR rfl) rfl
      have rc0 := blk_cell hY (o := 0) rfl
      have rc1 := blk_cell hY (o := 1) rfl
      refine bodyPost_ret (v := .tuple #[.agg #[.int .i64 0, .slice none 0 0], .bool false]) (by simp [results, Try.results5, go_sem, rc0, rc1]) rfl ?_
      rw [HN.out]
      exact ⟨_, _, _, _, rfl, TyRep.zeroG, (fC.out.setCell (p := ⟨w.heap.size + 1, 0, none⟩) (by show w.heap.size ≤ w.heap.size + 1; omega) _).setCell (p := ⟨w.heap.size + 1, 1, none⟩) (by show w.heap.size ≤ w.heap.size + 1; omega) _⟩
    | true =>
      have HN := Lib.hid (show O = some t2 from by rw [HOO.out]; cases h : O1 with | none => have := HB.out; rw [h] at this; cases this | some x => rw [HOT.out x h])
      go_wp2_with fail
      refine (specSureT _ _ _ _ _).mono ?_
      rintro e w3 ⟨rfl, hb3⟩
      replace fR := blk_below fR hb3
      replace fC := Lib.hid (bstep fC.out hb3)
      replace HT := Lib.hid (HT.out.below hb3)
      clear hb3
      have r0 := blk_cell fR (o := 0) rfl
      have r1 := blk_cell fR (o := 1) rfl
      have rf0 := blk_fro fR 0
      have rf1 := blk_fro fR 1
      go_wp2_with fail
      have hY : ((w3.setCell ⟨w.heap.size + 1, 0, none⟩ (.int .i64 k2)).setCell ⟨w.heap.size + 1, 1, none⟩ (.slice a2 n2 q2)).heap[w.heap.size + 1]? = some (.cells #[.int .i64 k2, .slice a2 n2 q2] 31 (0, 0)) := blk_set (blk_set fR rfl) rfl
      have rc0 := blk_cell hY (o := 0) rfl
      have rc1 := blk_cell hY (o := 1) rfl
      refine bodyPost_ret (v := .tuple #[.agg #[.int .i64 k2, .slice a2 n2 q2], .bool true]) (by simp [results, Try.results5, go_sem, rc0, rc1]) rfl ?_
      rw [HN.out]
      exact ⟨_, _, _, _, rfl, (TyRep.setN (TyRep.setN HT.out HNE.out) HNE.out).move (.weaken fun b h _ => by have h1 := h.elim False.elim id; omega), (fC.out.setCell (p := ⟨w.heap.size + 1, 0, none⟩) (by show w.heap.size ≤ w.heap.size + 1; omega) _).setCell (p := ⟨w.heap.size + 1, 1, none⟩) (by show w.heap.size ≤ w.heap.size + 1; omega) _⟩
end Go.Proofs.Ytkhmkohgnikcmaa
namespace Go.Proofs.Ytkhmkohgnikcmaa
open Go.RowKit
set_option linter.unusedVariables false
set_option linter.unusedSimpArgs false
set_option maxRecDepth 100000

theorem TmsRep.chgA {r : Nat} {w w' : World} {t : List Tm} {y : Value} (h : TmsRep (· ≠ r) w t y) (k : Chg [r] w w') : TmsRep (· ≠ r) w' t y := h.move (k.keeps (fun b hb => by simpa using hb))
theorem TmRep.chgA {r : Nat} {w w' : World} {t : Tm} {y : Value} (h : TmRep (· ≠ r) w t y) (k : Chg [r] w w') : TmRep (· ≠ r) w' t y := h.move (k.keeps (fun b hb => by simpa using hb))
mutual
def Tm.scan : Tm → Int → Int → Int → Int → Int → Bool × Int
  | .mk k s u t f l ts, nt, mN, mD, deep, c => if decide (c + 1 > mN) || decide (deep > mD) || k == nt || !(Tm.mk k s u t f l ts).nodeB then (false, c + 1) else Tm.scans ts nt mN mD (deep + 1) (c + 1)
def Tm.scans : List Tm → Int → Int → Int → Int → Int → Bool × Int
  | [], _, _, _, _, c => (true, c)
  | t :: ts, nt, mN, mD, deep, c => if (t.scan nt mN mD deep c).1 then Tm.scans ts nt mN mD deep (t.scan nt mN mD deep c).2 else (false, (t.scan nt mN mD deep c).2)
end
mutual
theorem Tm.scan_eq : ∀ (t : Tm) (nt mN mD deep c : Int), c ≤ mN → (t.scan nt mN mD deep c).1 = (t.shape nt (mD + 1 - deep) && decide (c + t.size ≤ mN)) ∧ ((t.scan nt mN mD deep c).1 = true → (t.scan nt mN mD deep c).2 = c + t.size)
  | .mk k s u t f l ts, nt, mN, mD, deep, c, hc => by
    unfold Tm.scan Tm.shape Tm.size
    have hp := Tm.sizes_pos ts
    have hnb : (Tm.mk k s u t f l ts).nodeB = ((tops k == (ts.length : Int)) && (Tm.mk k s u t f l ts).ownB) := by unfold Tm.nodeB; rfl
    rw [← hnb]
    generalize (Tm.mk k s u t f l ts).nodeB = nb
    by_cases h1 : c + 1 > mN
    · have h2 : ¬ c + (1 + Tm.sizes ts) ≤ mN := by omega
      simp [h1, h2]
    · by_cases h3 : deep > mD
      · have h4 : ¬ 1 ≤ mD + 1 - deep := by omega
        simp [h1, h3, h4]
      · have h4 : 1 ≤ mD + 1 - deep := by omega
        cases hk : k == nt
        · cases nb
          · simp [h1, h3, h4]
          · have ih := Tm.scans_eq ts nt mN mD (deep + 1) (c + 1) (by omega)
            rw [show mD + 1 - (deep + 1) = mD + 1 - deep - 1 from by omega] at ih
            simp only [h1, h3, h4, decide_true, decide_false, Bool.or_false, Bool.not_false, Bool.not_true, Bool.true_and, Bool.false_eq_true, if_false, Bool.and_true]
            rw [show c + (1 + Tm.sizes ts) = c + 1 + Tm.sizes ts from by omega]
            exact ih
        · simp [h1, h3, h4]
theorem Tm.scans_eq : ∀ (ts : List Tm) (nt mN mD deep c : Int), c ≤ mN → (Tm.scans ts nt mN mD deep c).1 = (Tm.shapes ts nt (mD + 1 - deep) && decide (c + Tm.sizes ts ≤ mN)) ∧ ((Tm.scans ts nt mN mD deep c).1 = true → (Tm.scans ts nt mN mD deep c).2 = c + Tm.sizes ts)
  | [], nt, mN, mD, deep, c, hc => by
    unfold Tm.scans Tm.shapes Tm.sizes
    simp [hc]
  | t :: ts, nt, mN, mD, deep, c, hc => by
    unfold Tm.scans Tm.shapes Tm.sizes
    obtain ⟨h1, h2⟩ := Tm.scan_eq t nt mN mD deep c hc
    have hp := Tm.sizes_pos ts
    have hq := Tm.size_pos t
    cases hb : (t.scan nt mN mD deep c).1
    · rw [hb] at h1
      simp only [Bool.false_eq_true, if_false]
      refine ⟨?_, fun h => by cases h⟩
      by_cases hs : t.shape nt (mD + 1 - deep) = true
      · rw [hs, Bool.true_and] at h1
        have h3 : ¬ c + t.size ≤ mN := by simpa using h1.symm
        have h4 : ¬ c + (t.size + Tm.sizes ts) ≤ mN := by omega
        simp [h4]
      · simp [hs]
    · rw [hb] at h1
      have h3 := h2 hb
      have h4 : t.shape nt (mD + 1 - deep) = true ∧ c + t.size ≤ mN := by simpa using h1.symm
      simp only [if_true]
      rw [h3, h4.1, Bool.true_and]
      have ih := Tm.scans_eq ts nt mN mD deep (c + t.size) h4.2
      rw [show c + (t.size + Tm.sizes ts) = c + t.size + Tm.sizes ts from by omega]
      exact ih
end
theorem Tm.scan_le {t : Tm} {nt mN mD deep c x : Int} (hc : c ≤ mN) (h : t.scan nt mN mD deep c = (true, x)) : c ≤ x ∧ x ≤ mN := by
  have h0 := Tm.scan_eq t nt mN mD deep c hc
  rw [h] at h0
  have h1 := h0.2 rfl
  have h2 : t.shape nt (mD + 1 - deep) = true ∧ c + t.size ≤ mN := by simpa using h0.1.symm
  have := Tm.size_pos t
  simp only at h1
  omega
theorem Tm.scans_drop (ts : List Tm) (nt mN mD deep c : Int) (k : Nat) (h : k < ts.length) {a : Bool} {x : Int} (e : ts[k].scan nt mN mD deep c = (a, x)) :
    Tm.scans (ts.drop k) nt mN mD deep c = if a then Tm.scans (ts.drop (k + 1)) nt mN mD deep x else (false, x) := by
  rw [List.drop_eq_getElem_cons h]
  conv => lhs; unfold Tm.scans
  rw [e]
theorem leaf_scan_0 (k nt mN mD deep c0 cc xc : Int) (nb : Bool) (sc : Bool × Int) (h0 : (decide ((c0 + 1) > mN)) = true) : (if decide (c0 + 1 > mN) || decide (deep > mD) || k == nt || !nb then (false, c0 + 1) else sc) = ((false, c0 + 1) : Bool × Int) := by
  first | (simp_all; done) | (simp_all; omega) | grind

theorem leaf_scan_1 (k nt mN mD deep c0 cc xc : Int) (nb : Bool) (sc : Bool × Int) (h0 : (decide ((c0 + 1) > mN)) = false) (h1 : (decide (deep > mD)) = true) : (if decide (c0 + 1 > mN) || decide (deep > mD) || k == nt || !nb then (false, c0 + 1) else sc) = ((false, c0 + 1) : Bool × Int) := by
  first | (simp_all; done) | (simp_all; omega) | grind

theorem leaf_scan_2 (k nt mN mD deep c0 cc xc : Int) (nb : Bool) (sc : Bool × Int) (h0 : (decide ((c0 + 1) > mN)) = false) (h1 : (decide (deep > mD)) = false) (h2 : (k == nt) = true) : (if decide (c0 + 1 > mN) || decide (deep > mD) || k == nt || !nb then (false, c0 + 1) else sc) = ((false, c0 + 1) : Bool × Int) := by
  first | (simp_all; done) | (simp_all; omega) | grind

theorem leaf_scan_3 (k nt mN mD deep c0 cc xc : Int) (nb : Bool) (sc : Bool × Int) (h0 : (decide ((c0 + 1) > mN)) = false) (h1 : (decide (deep > mD)) = false) (h2 : (k == nt) = false) (h3 : (nb) = true) (h4 : sc = (false, xc)) : (if decide (c0 + 1 > mN) || decide (deep > mD) || k == nt || !nb then (false, c0 + 1) else sc) = ((false, xc) : Bool × Int) := by
  first | (simp_all; done) | (simp_all; omega) | grind

theorem leaf_scan_4 (k nt mN mD deep c0 cc xc : Int) (nb : Bool) (sc : Bool × Int) (h0 : (decide ((c0 + 1) > mN)) = false) (h1 : (decide (deep > mD)) = false) (h2 : (k == nt) = false) (h3 : (nb) = true) (h4 : sc = (true, cc)) : (if decide (c0 + 1 > mN) || decide (deep > mD) || k == nt || !nb then (false, c0 + 1) else sc) = ((true, cc) : Bool × Int) := by
  first | (simp_all; done) | (simp_all; omega) | grind

theorem leaf_scan_5 (k nt mN mD deep c0 cc xc : Int) (nb : Bool) (sc : Bool × Int) (h0 : (decide ((c0 + 1) > mN)) = false) (h1 : (decide (deep > mD)) = false) (h2 : (k == nt) = false) (h3 : (nb) = false) : (if decide (c0 + 1 > mN) || decide (deep > mD) || k == nt || !nb then (false, c0 + 1) else sc) = ((false, c0 + 1) : Bool × Int) := by
  first | (simp_all; done) | (simp_all; omega) | grind

set_option maxHeartbeats 8000000 in
theorem implScan (r : Nat) (nt mN mD : Int) (hN : mN ≤ 300) (hD : mD ≤ 100) (t : Tm) : ∀ (deep c0 : Int) (_ : 1 ≤ deep ∧ deep ≤ mD + 1) (_ : 0 ≤ c0) (_ : c0 ≤ mN) (y : Value) (w : World), TmRep (· ≠ r) w t y → w.cell? ⟨r, 0, none⟩ = some (.int .i64 c0) → w.frozen? ⟨r, 0, none⟩ = false → r < w.heap.size →
    Calls Try.prog 36 #[y, .int .i64 deep, .int .i64 mN, .int .i64 mD, .int .i64 nt, .pointer (some ⟨r, 0, none⟩)] w fun e w' => e = .returned (.bool (t.scan nt mN mD deep c0).1) ∧ Chg [r] w w' ∧ w'.cell? ⟨r, 0, none⟩ = some (.int .i64 (t.scan nt mN mD deep c0).2) ∧ w'.frozen? ⟨r, 0, none⟩ = false := by
  intro deep c0 hdeep hc0 hcN y w hy hc hf hr
  have IH : ∀ t' ∈ t.kids, ∀ (deep c0 : Int) (_ : 1 ≤ deep ∧ deep ≤ mD + 1) (_ : 0 ≤ c0) (_ : c0 ≤ mN) (y : Value) (w : World), TmRep (· ≠ r) w t' y → w.cell? ⟨r, 0, none⟩ = some (.int .i64 c0) → w.frozen? ⟨r, 0, none⟩ = false → r < w.heap.size →
    Calls Try.prog 36 #[y, .int .i64 deep, .int .i64 mN, .int .i64 mD, .int .i64 nt, .pointer (some ⟨r, 0, none⟩)] w fun e w' => e = .returned (.bool (t'.scan nt mN mD deep c0).1) ∧ Chg [r] w w' ∧ w'.cell? ⟨r, 0, none⟩ = some (.int .i64 (t'.scan nt mN mD deep c0).2) ∧ w'.frozen? ⟨r, 0, none⟩ = false :=
    fun t' ht deep c0 a b d y w e f g h => implScan r nt mN mD hN hD t' deep c0 a b d y w e f g h
  have ho := fun W (h : Chg [r] w W) => implNodeOk (· ≠ r) t y W (hy.chgA h)
  obtain ⟨k, nm, u, tk, ta, tn, tq, fk, fa, fn, fq, l, c, m, q, rfl⟩ := hy.shape
  obtain ⟨r1, r2, r3, r4, r5, r6, r7, r8, r9, rn, rm, rq, hty, hsr, hks⟩ := hy.parts
  cases t with | mk kk nn uu tt ff ll ts =>
  simp only [Tm.kind, Tm.name, Tm.num, Tm.type, Tm.src, Tm.label, Tm.kids] at *
  subst r1 r2 r3 r8
  unfold Tm.scan
  generalize (Tm.mk k nm u tt ff l ts).nodeB = nb at *
  obtain ⟨sc, hsc⟩ : ∃ x, x = Tm.scans ts nt mN mD (deep + 1) (c0 + 1) := ⟨_, rfl⟩
  rw [← hsc]
  have HSC0 := Lib.hid hsc
  have HN := Lib.hid r9
  have HO := Lib.hid ho
  have IHH := Lib.hid IH
  unfold maxLen at rq
  clear hsc ho IH hy r9 r4 r5 r6 r7 rn hty hsr
  obtain ⟨rr, hrr⟩ : ∃ rr0 : Bool × Int, (if decide (c0 + 1 > mN) || decide (deep > mD) || k == nt || !nb then (false, c0 + 1) else sc) = rr0 := ⟨_, rfl⟩
  rw [hrr]
  have HT := Lib.hid hrr
  clear hrr
  go_enter Try.func36, Try.ntmps36
  have hwr := IntWalk.i64_in (c0 + 1) (by omega)
  rcases Bool.eq_false_or_eq_true (decide ((c0 + 1) > mN)) with q1 | q1
  · skip
    go_wp2_with fail
    have hfin : rr = (false, c0 + 1) := HT.out.symm.trans (leaf_scan_0 k nt mN mD deep c0 0 0 nb sc q1)
    rw [hfin]
    refine bodyPost_ret (v := .bool (false)) (by simp [results, Try.results36, go_sem, bne]) rfl ?_
    exact ⟨rfl, (((Chg.refl [r] _).setCell (by simp) _).trans (Chg.of_below bal1)), bcell bal1 (sc_self (hc)), bfroc bal1 (sc_self (hc)) (sfro (hf))⟩
  · skip
    rcases Bool.eq_false_or_eq_true (decide (deep > mD)) with q2 | q2
    · skip
      go_wp2_with fail
      have hfin : rr = (false, c0 + 1) := HT.out.symm.trans (leaf_scan_1 k nt mN mD deep c0 0 0 nb sc q1 q2)
      rw [hfin]
      refine bodyPost_ret (v := .bool (false)) (by simp [results, Try.results36, go_sem, bne]) rfl ?_
      exact ⟨rfl, (((Chg.refl [r] _).setCell (by simp) _).trans (Chg.of_below bal1)), bcell bal1 (sc_self (hc)), bfroc bal1 (sc_self (hc)) (sfro (hf))⟩
    · skip
      rcases Bool.eq_false_or_eq_true (k == nt) with q3 | q3
      · skip
        have nq3 : (k != nt) = false := by simp only [bne, q3]; rfl
        go_wp2_with fail
        have hfin : rr = (false, c0 + 1) := HT.out.symm.trans (leaf_scan_2 k nt mN mD deep c0 0 0 nb sc q1 q2 q3)
        rw [hfin]
        refine bodyPost_ret (v := .bool (false)) (by simp [results, Try.results36, go_sem, bne]) rfl ?_
        exact ⟨rfl, (((Chg.refl [r] _).setCell (by simp) _).trans (Chg.of_below bal1)), bcell bal1 (sc_self (hc)), bfroc bal1 (sc_self (hc)) (sfro (hf))⟩
      · skip
        have nq3 : (k != nt) = true := by simp only [bne, q3]; rfl
        go_wp2_with fail
        refine (HO.out _ (((Chg.refl [r] _).setCell (by simp) _).trans (Chg.of_below bal1))).mono ?_
        rintro e w1 ⟨rfl, hb1⟩
        have hB := ((((Chg.refl [r] _).setCell (by simp) _).trans (Chg.of_below bal1)).trans (Chg.of_below hb1))
        have zw1 := hB.size
        replace hf : w1.frozen? ⟨r, 0, none⟩ = false := bfroc hb1 (bcell bal1 (sc_self (hc))) (bfroc bal1 (sc_self (hc)) (sfro (hf)))
        have c0_8 : w1.cell? ⟨w.heap.size, 8, none⟩ = some (.slice c m q) := bcell hb1 (cell_new (by simp) 8)
        replace hc : w1.cell? ⟨r, 0, none⟩ = some (.int .i64 (c0 + 1)) := bcell hb1 (bcell bal1 (sc_self (hc)))
        have d0_w1 := World.block_lt_of_cell? _ _ c0_8
        have dr_w1 := World.block_lt_of_cell? _ _ hc
        rcases Bool.eq_false_or_eq_true (nb) with q4 | q4
        · (try rw [q4])
          have Hq4 := Lib.hid q4
          clear q4
          go_wp2_with fail
          go_loopw [44] (fun i wr => ∃ j : Nat, j ≤ m ∧ i = .int .i64 j ∧ (∃ cc : Int, wr.cell? ⟨r, 0, none⟩ = some (.int .i64 cc) ∧ (0 ≤ cc ∧ cc ≤ mN) ∧ Hid (sc = Tm.scans (ts.drop j) nt mN mD (deep + 1) cc)) ∧ Chg [r] w wr ∧ wr.frozen? ⟨r, 0, none⟩ = false) (fun i _ => m - (intOf i).toNat)
          case atStart => exact ⟨0, by omega, rfl, ⟨_, hc, (by have h := q1; simp only [decide_eq_false_iff_not] at h; omega), HSC0.out⟩, hB, hf⟩
          case round =>
            obtain ⟨j, hj, rfl, ⟨cc, cc_x, cc_0, cc_1⟩, hB, z0⟩ := hrel
            by_cases hlt : j < m
            · have hjt : j < ts.length := by have := HN.out; omega
              obtain ⟨b, off, k0, nm0, u0, tk0, ta0, tn0, tq0, fk0, fa0, fn0, fq0, l0, a0, m0, q0, rfl, lb, e0, e1, e2, e3, e4, e5, e6, e7, e8, ht⟩ := (hks.chgA hB).at (Below.refl _ _) hjt
              have lb_1 := Nat.lt_succ_of_lt lb
              have hdm : deep ≤ mD := by have h := q2; simp only [decide_eq_false_iff_not] at h; omega
              have hcall := IHH.out ts[j] (List.getElem_mem hjt) (deep + 1) cc (by omega) (by omega) (by omega)
              obtain ⟨xb, xc, hx⟩ : ∃ a b, ts[j].scan nt mN mD (deep + 1) cc = (a, b) := ⟨_, _, rfl⟩
              have hstep := cc_1.out.trans (Tm.scans_drop ts nt mN mD (deep + 1) cc j hjt hx)
              have hle : xb = true → cc ≤ xc ∧ xc ≤ mN := fun h => Tm.scan_le (by omega) (h ▸ hx)
              rw [hx] at hcall
              have HC := Lib.hid hcall
              have HS := Lib.hid hstep
              have HL := Lib.hid hle
              clear hcall hstep hle hx cc_1
              have hwr := IntWalk.i64_in (deep + 1) (by omega)
              go_wp2_with fail
              refine (HC.out _ _ (ht.below bal1) (bcell bal1 (cc_x)) (bfroc bal1 (cc_x) (z0)) (by have := hB.size; simp; omega)).mono ?_
              rintro e w2 ⟨rfl, hb2, hc2, hf2⟩
              replace hB := ((hB.trans (Chg.of_below bal1)).trans hb2)
              have zw2 := hB.size
              rcases Bool.eq_false_or_eq_true (xb) with q5 | q5
              · (try rw [q5])
                have Hq5 := Lib.hid q5
                clear q5
                have hwr := IntWalk.i64_in ((j : Int) + 1) (by omega)
                go_wp2_with fail
                go_roundw
                case rel => exact ⟨j + 1, by omega, by go_num, ⟨_, hc2, (by have h := HL.out Hq5.out; omega), (by rw [Hid, HS.out, Hq5.out]; rfl)⟩, hB, hf2⟩
                case measure => simp [intOf]; omega
              · (try rw [q5])
                have Hq5 := Lib.hid q5
                clear q5
                go_wp2_with fail
                have hfin : rr = (false, xc) := HT.out.symm.trans (leaf_scan_3 k nt mN mD deep c0 0 xc nb sc q1 q2 q3 Hq4.out (by rw [HS.out, Hq5.out]; rfl))
                rw [hfin]
                refine bodyPost_ret (v := .bool (false)) (by simp [results, Try.results36, go_sem, bne]) rfl ?_
                exact ⟨rfl, hB, hc2, hf2⟩
            · skip
              have HSC : Hid (sc = (true, cc)) := Lib.hid (by rw [cc_1.out, List.drop_eq_nil_of_le (by have := HN.out; omega)]; unfold Tm.scans; rfl)
              go_wp2_with fail
              have hfin : rr = (true, cc) := HT.out.symm.trans (leaf_scan_4 k nt mN mD deep c0 cc 0 nb sc q1 q2 q3 Hq4.out HSC.out)
              rw [hfin]
              refine bodyPost_ret (v := .bool (true)) (by simp [results, Try.results36, go_sem, bne]) rfl ?_
              exact ⟨rfl, hB, cc_x, z0⟩
        · (try rw [q4])
          have Hq4 := Lib.hid q4
          clear q4
          go_wp2_with fail
          have hfin : rr = (false, c0 + 1) := HT.out.symm.trans (leaf_scan_5 k nt mN mD deep c0 0 0 nb sc q1 q2 q3 Hq4.out)
          rw [hfin]
          refine bodyPost_ret (v := .bool (false)) (by simp [results, Try.results36, go_sem, bne]) rfl ?_
          exact ⟨rfl, hB, hc, hf⟩
termination_by SizeOf.sizeOf t
decreasing_by exact Tm.kid_lt ht
end Go.Proofs.Ytkhmkohgnikcmaa
