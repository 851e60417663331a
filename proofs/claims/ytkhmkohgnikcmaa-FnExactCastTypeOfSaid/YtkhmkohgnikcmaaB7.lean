/-
  Laws on terms whose results are lists of types: marks of a term, what is kept.
  Bounds of numbers, labels.
  Names: one small letter.
-/
import Derived.Test.YtkhmkohgnikcmaaTmMark
import Derived.Test.YtkhmkohgnikcmaaB5
import Derived.Test.YtkhmkohgnikcmaaRows
import Derived.Test.YtkhmkohgnikcmaaB3
import Derived.IntWalk
import Derived.Test.YtkhmkohgnikcmaaB0
namespace Go.Proofs.Ytkhmkohgnikcmaa
open Go.RowKit
set_option linter.unusedVariables false
set_option linter.unusedSimpArgs false
set_option maxRecDepth 100000

theorem TyOwn.chgT {fp fp' : List Nat} {w w' : World} {t : Ty} {y : Value} (h : Chg fp w w') (hn : ∀ b ∈ fp', b ∉ fp) (r : TyOwn w t y fp') : TyOwn w' t y fp' := by
  obtain ⟨s, rfl, ho⟩ := r
  exact ⟨s, rfl, COwn.move _ _ _ (fun b hb => h.block b (COwn.lt _ _ _ ho b hb) (hn b hb)) ho⟩
def Tm.mk9 (t : Tm) : Nat := t.type.cnt + t.src.cnt + Tm.mcnts t.kids
mutual
theorem Tm.mcnt_le : ∀ t : Tm, t.mcnt ≤ 6 + 6 * t.cnt
  | .mk k s u t f l ts => by
    unfold Tm.mcnt Tm.cnt
    have h1 := Tm.mcnts_le ts
    have h2 := t.cnt_eq
    have h3 := f.cnt_eq
    omega
theorem Tm.mcnts_le : ∀ ts : List Tm, Tm.mcnts ts ≤ 6 * (ts.length + Tm.cnts ts)
  | [] => by unfold Tm.mcnts; omega
  | t :: ts => by
    unfold Tm.mcnts Tm.cnts
    have h1 := Tm.mcnt_le t
    have h2 := Tm.mcnts_le ts
    simp only [List.length_cons]
    omega
end
theorem Tm.mk9_le (t : Tm) : t.mk9 ≤ 6 * t.cnt := by
  unfold Tm.mk9
  have h1 := Tm.mcnts_le t.kids
  have h2 := t.cnt_parts
  omega
theorem TmRep.old {F : Nat → Prop} {w : World} {t : Tm} {y : Value} (r : TmRep F w t y) : TmRep (· < w.heap.size) w t y := r.move (.weaken fun _ _ h => h)
theorem TmRep.chg {fp : List Nat} {w w' : World} {F : Nat → Prop} {t : Tm} {y : Value} (h : Chg fp w w') (hn : ∀ b, F b → b ∉ fp) (r : TmRep F w t y) : TmRep F w' t y := r.move (h.keeps hn)
theorem TmOwn.lt {w : World} {t : Tm} {y : Value} {fp : List Nat} (h : TmOwn w t y fp) : ∀ b ∈ fp, b < w.heap.size := by
  obtain ⟨s1, s2, s, f1, f2, f3, rfl, rfl, hn, h1, h2, h3⟩ := h
  intro b hb
  rcases List.mem_append.1 hb with hb | hb
  · exact COwn.lt _ _ _ h1 b hb
  · rcases List.mem_append.1 hb with hb | hb
    · exact COwn.lt _ _ _ h2 b hb
    · exact COwn.lt _ _ _ h3 b hb
theorem TmOwn.ks {w : World} {t : Tm} {y : Value} {fp : List Nat} (h : TmOwn w t y fp) : ∃ k nm u tk ta tn tq fk fa fn fq l c m q, y = .agg #[.int .i64 k, .string nm, .int .i64 u, .int .i64 tk, .slice ta tn tq, .int .i64 fk, .slice fa fn fq, .int .i64 l, .slice c m q] := h.rep.shape
theorem TmOwn.chg {fp fp' : List Nat} {w w' : World} {t : Tm} {y : Value} (h : Chg fp w w') (hn : ∀ b ∈ fp', b ∉ fp) (r : TmOwn w t y fp') : TmOwn w' t y fp' := by
  have hl := r.lt
  obtain ⟨s1, s2, s, f1, f2, f3, rfl, rfl, hm, h1, h2, h3⟩ := r
  exact ⟨s1, s2, s, f1, f2, f3, rfl, rfl, hm, COwn.move _ _ _ (fun b hb => h.block b (COwn.lt _ _ _ h1 b hb) (hn b (by simp [hb]))) h1, COwn.move _ _ _ (fun b hb => h.block b (COwn.lt _ _ _ h2 b hb) (hn b (by simp [hb]))) h2, COwn.move _ _ _ (fun b hb => h.block b (COwn.lt _ _ _ h3 b hb) (hn b (by simp [hb]))) h3⟩
theorem TysOwn.lt {w : World} {ts : List Ty} {y : Value} {fp : List Nat} (h : TysOwn w ts y fp) : ∀ b ∈ fp, b < w.heap.size := COwn.lt _ _ _ h
theorem TysOwn.ks {w : World} {ts : List Ty} {y : Value} {fp : List Nat} (h : TysOwn w ts y fp) : ∃ a n q, y = .slice a n q := by
  unfold TysOwn COwn at h
  obtain ⟨a, q, rfl, _⟩ := h
  exact ⟨a, _, q, rfl⟩
theorem TysOwn.below {w w' : World} {ts : List Ty} {y : Value} {fp : List Nat} (h : TysOwn w ts y fp) (k : Below w.heap.size w w') : TysOwn w' ts y fp := COwn.move _ _ _ (fun b hb => k.block b (COwn.lt _ _ _ h b hb)) h
theorem TysOwn.rep {w : World} {ts : List Ty} {y : Value} {fp : List Nat} (h : TysOwn w ts y fp) : TysRep (· ∈ fp) w ts y := COwn.rep _ _ _ (fun _ hb => hb) h
theorem TysOwn.chg {fp fp' : List Nat} {w w' : World} {ts : List Ty} {y : Value} (h : Chg fp w w') (hn : ∀ b ∈ fp', b ∉ fp) (r : TysOwn w ts y fp') : TysOwn w' ts y fp' := COwn.move _ _ _ (fun b hb => h.block b (COwn.lt _ _ _ r b hb) (hn b hb)) r
set_option maxHeartbeats 2000000 in
theorem markTerm_any (t : Tm) (m : Int) (y : Value) (fp : List Nat) (w : World) (hown : TmOwn w t y fp) (hnd : fp.Nodup) (hm0 : 0 ≤ m) (hmb : m + t.mk9 ≤ 1099511627776) :
    Calls Try.prog 10 #[y, .int .i64 m] w fun e w' => e = .returned (.int .i64 (m + t.mk9)) ∧ Chg fp w w' := by
  have hsh := hown.ks
  obtain ⟨s1, s2, s, f1, f2, f3, rfl, rfl, hn, h1, h2, h3⟩ := hown
  obtain ⟨k, nm, u, tk, ta, tn, tq, fk, fa, fn, fq, l, c, n, q, he⟩ := hsh
  simp only [Value.agg.injEq, Array.mk.injEq, List.cons.injEq, Value.int.injEq, Value.string.injEq, true_and, and_true] at he
  obtain ⟨rfl, rfl, rfl, rfl, rfl, rfl, rfl, rfl, rfl⟩ := he
  obtain ⟨nd1, nd23, hd1⟩ := List.nodup_append.1 hnd
  obtain ⟨nd2, nd3, hd2⟩ := List.nodup_append.1 nd23
  unfold Tm.mk9 at hmb ⊢
  have l1 : ∀ x ∈ f1, x < w.heap.size := COwn.lt _ _ _ h1
  have l2 : ∀ x ∈ f2, x < w.heap.size := COwn.lt _ _ _ h2
  have l3 : ∀ x ∈ f3, x < w.heap.size := COwn.lt _ _ _ h3
  have o1 : TyOwn w t.type (.agg #[.int .i64 t.type.kind, .slice ta tn tq]) f1 := ⟨_, rfl, h1⟩
  have o2 : TyOwn w t.src (.agg #[.int .i64 t.src.kind, .slice fa fn fq]) f2 := ⟨_, rfl, h2⟩
  have n1 : w.heap.size ∉ f1 := fun h => by have := l1 _ h; omega
  have n2 : w.heap.size ∉ f2 := fun h => by have := l2 _ h; omega
  have b1 : m + t.type.cnt ≤ 1099511627776 := by omega
  have b2 : m + t.type.cnt + t.src.cnt ≤ 1099511627776 := by omega
  have HO1 := Lib.hid o1
  have HO2 := Lib.hid o2
  have HO3 := Lib.hid h3
  have ND1 := Lib.hid nd1
  have ND2 := Lib.hid nd2
  have ND3 := Lib.hid nd3
  have HD1 := Lib.hid hd1
  have HD2 := Lib.hid hd2
  have HMB := Lib.hid hmb
  have L1 := Lib.hid l1
  have L2 := Lib.hid l2
  have L3 := Lib.hid l3
  have N1 := Lib.hid n1
  have N2 := Lib.hid n2
  generalize t.kind = xk at *
  generalize t.num = xu at *
  generalize t.label = xl at *
  generalize t.name = xn at *
  clear h1 h2 h3 o1 o2 nd1 nd2 nd3 nd23 hd1 hd2 hnd hmb l1 l2 l3 n1 n2 hn
  go_enter Try.func10, Try.ntmps10
  go_wp2_with fail
  refine (markType_any t.type m _ f1 _ (HO1.out.below bal1) ND1.out hm0 b1).mono ?_
  rintro e w1 ⟨rfl, -, hc1⟩
  have c5 := chg_cell hc1 N1.out (cell_n0 5)
  have c6 := chg_cell hc1 N1.out (cell_n0 6)
  have c8 := chg_cell hc1 N1.out (cell_n0 8)
  have z1 := hc1.size
  have HC1 := Lib.hid hc1
  have HP2 := Lib.hid (TyOwn.chgT hc1 (fun b hb h => HD1.out b h b (by simp [hb]) rfl) (HO2.out.below bal1))
  have HP3 := Lib.hid (COwn.move _ _ _ (fun b hb => (hc1.block b (by simp; have := L3.out b hb; omega) (fun h => HD1.out b h b (by simp [hb]) rfl)).trans (heap_alloc_old w _ (L3.out b hb))) HO3.out)
  clear hc1
  go_wp2_with fail
  refine (markType_any t.src (m + t.type.cnt) _ f2 _ HP2.out ND2.out (by omega) b2).mono ?_
  rintro e w2 ⟨rfl, -, hc2⟩
  have d8 := chg_cell hc2 N2.out c8
  have HC2 := Lib.hid hc2
  have HQ3 := Lib.hid (COwn.move _ _ _ (fun b hb => hc2.block b (COwn.lt _ _ _ HP3.out b hb) (fun h => HD2.out b h b hb rfl)) HP3.out)
  clear c5 c6 c8 hc2
  go_wp2_with fail
  refine (markTermS_any t.kids (m + t.type.cnt + t.src.cnt) _ f3 _ HQ3.out ND3.out (by omega) (by have := HMB.out; omega)).mono ?_
  rintro e w3 ⟨rfl, hc3⟩
  have HC3 := Lib.hid hc3
  clear hc3 d8
  go_wp2_with fail
  go_ret
  exact ⟨ret_int (by simp only [Int.natCast_add]; omega), (((Chg.of_below bal1).trans (HC1.out.mono (by simp; intro x hx; exact .inl hx))).trans (HC2.out.mono (by simp; intro x hx; exact .inr (.inl hx)))).trans (HC3.out.mono (by simp; intro x hx; exact .inr (.inr hx)))⟩
end Go.Proofs.Ytkhmkohgnikcmaa
namespace Go.Proofs.Ytkhmkohgnikcmaa
open Go.RowKit
set_option linter.unusedVariables false
set_option linter.unusedSimpArgs false
set_option maxRecDepth 100000

def winB (n a b : Int) : Bool := decide (a ≤ n) && decide (n ≤ b)
def labelB (n : Int) : Bool := winB n 1 99 || winB n (-99) (-1)
theorem implWithin (n a b : Int) (w : World) : Calls Try.prog 70 #[.int .i64 n, .int .i64 a, .int .i64 b] w fun e w' => e = .returned (.bool (winB n a b)) ∧ Below w.heap.size w w' := by
  unfold winB
  by_cases h1 : a ≤ n
  · by_cases h2 : n ≤ b
    · go_enter Try.func70, Try.ntmps70
      go_wp2_with fail
      go_ret
      exact ⟨ret_bool (by simp [h1, h2]), Below.refl _ _⟩
    · have h2' : decide (n ≤ b) = false := decide_eq_false h2
      go_enter Try.func70, Try.ntmps70
      go_wp2_with fail
      go_ret
      exact ⟨ret_bool (by simp [h1, h2']), Below.refl _ _⟩
  · have h1' : decide (a ≤ n) = false := decide_eq_false h1
    go_enter Try.func70, Try.ntmps70
    go_wp2_with fail
    go_ret
    exact ⟨ret_bool (by simp [h1']), Below.refl _ _⟩

def absL (n : Int) : Int := if n < -99 ∨ 99 < n then 0 else if n < 0 then -n else n
theorem specL1Abs (n : Int) (w : World) : Calls Try.prog 61 #[.int .i64 n] w fun e w' => e = .returned (.int .i64 (absL n)) ∧ w = w' := by
  by_cases h1 : n < -99
  · have ha : absL n = 0 := by unfold absL; rw [if_pos (.inl h1)]
    have HA := Lib.hid ha
    clear ha
    go_enter Try.func61, Try.ntmps61
    go_wp2_with fail
    go_ret
    exact ⟨ret_int HA.out.symm, rfl⟩
  · have d1 : decide (n < -99) = false := decide_eq_false h1
    by_cases h2 : n > 99
    · have ha : absL n = 0 := by unfold absL; rw [if_pos (.inr h2)]
      have HA := Lib.hid ha
      clear ha
      go_enter Try.func61, Try.ntmps61
      go_wp2_with fail
      go_ret
      exact ⟨ret_int HA.out.symm, rfl⟩
    · have d2 : decide (n > 99) = false := decide_eq_false h2
      by_cases h3 : n < 0
      · have ha : absL n = -n := by unfold absL; rw [if_neg (by omega), if_pos h3]
        have HA := Lib.hid ha
        have hw : IntKind.i64.wrap (-n) = -n := IntWalk.i64_in _ (by omega)
        clear ha
        go_enter Try.func61, Try.ntmps61
        go_wp2_with fail
        go_ret
        exact ⟨ret_int HA.out.symm, rfl⟩
      · have ha : absL n = n := by unfold absL; rw [if_neg (by omega), if_neg h3]
        have HA := Lib.hid ha
        clear ha
        go_enter Try.func61, Try.ntmps61
        go_wp2_with fail
        go_ret
        exact ⟨ret_int HA.out.symm, rfl⟩
theorem labelB_abs (n : Int) : decide (absL n ≥ 1) = labelB n := by
  unfold absL labelB winB
  rw [Bool.eq_iff_iff]
  simp
  split
  · omega
  · split <;> omega
theorem leaf_isLabel_0 (n : Int) (h0 : (winB n 1 99) = true) : (true : Bool) = (labelB n) := by
  simp_all [labelB]

theorem leaf_isLabel_1 (n : Int) (h0 : (winB n 1 99) = false) : (winB n (-99) (-1) : Bool) = (labelB n) := by
  simp_all [labelB]

set_option maxHeartbeats 1000000 in
theorem implIsLabel (n : Int) (w : World) : Calls Try.prog 73 #[.int .i64 n] w fun e w' => e = .returned (.bool (labelB n)) ∧ Below w.heap.size w w' := by
  obtain ⟨rr, hrr⟩ : ∃ rr0 : Bool, (labelB n) = rr0 := ⟨_, rfl⟩
  rw [hrr]
  have HT := Lib.hid hrr
  clear hrr
  go_enter Try.func73, Try.ntmps73
  rcases Bool.eq_false_or_eq_true (winB n 1 99) with q1 | q1
  · have Hq1 := Lib.hid q1
    clear q1
    go_wp2_with fail
    refine (implWithin n 1 99 _).mono ?_
    rintro e w1 ⟨rfl, hb1⟩
    rw [Hq1.out]
    have hB := (bstep (Below.refl _ _) hb1)
    have zw1 := hB.size
    go_wp2_with fail
    refine bodyPost_ret (v := .bool (true)) (by simp [results, Try.results73, go_sem, bne]) rfl ?_
    exact ⟨ret_bool ((leaf_isLabel_0 n Hq1.out).trans HT.out), hB⟩
  · have Hq1 := Lib.hid q1
    clear q1
    go_wp2_with fail
    refine (implWithin n 1 99 _).mono ?_
    rintro e w2 ⟨rfl, hb2⟩
    rw [Hq1.out]
    have hB := (bstep (Below.refl _ _) hb2)
    have zw2 := hB.size
    go_wp2_with fail
    refine (implWithin n (-99) (-1) _).mono ?_
    rintro e w3 ⟨rfl, hb3⟩
    replace hB := (bstep hB hb3)
    have zw3 := hB.size
    go_wp2_with fail
    refine bodyPost_ret (v := .bool (winB n (-99) (-1))) (by simp [results, Try.results73, go_sem, bne]) rfl ?_
    exact ⟨ret_bool ((leaf_isLabel_1 n Hq1.out).trans HT.out), hB⟩
end Go.Proofs.Ytkhmkohgnikcmaa
namespace Go.Proofs.Ytkhmkohgnikcmaa
open Go.RowKit
set_option linter.unusedVariables false
set_option linter.unusedSimpArgs false
set_option maxRecDepth 100000

/-- What makes a name. -/
def nameB (s : ByteArray) : Bool := if h : s.size = 1 then decide ((97 : Int) ≤ ((s[0]'(by omega)).toNat : Int)) && decide (((s[0]'(by omega)).toNat : Int) ≤ 122) else false
theorem nameB_no {s : ByteArray} (h : ¬ s.size = 1) : nameB s = false := by unfold nameB; rw [dif_neg h]
theorem nameB_yes {s : ByteArray} (h : s.size = 1) (hp : 0 < s.size) : nameB s = (decide ((97 : Int) ≤ ((s[0]'hp).toNat : Int)) && decide (((s[0]'hp).toNat : Int) ≤ 122)) := by unfold nameB; rw [dif_pos h]
set_option maxHeartbeats 1000000 in
theorem implIsName (s : ByteArray) (w : World) : Calls Try.prog 69 #[.string s] w fun e w' => e = .returned (.bool (nameB s)) ∧ w = w' := by
  by_cases h1 : s.size = 1
  · have hp : 0 < s.size := by omega
    have HN := Lib.hid (nameB_yes h1 hp)
    have hi : ((s.size : Int) == 1) = true := by simp [h1]
    have hp' : (0 : Int) < (s.size : Int) := by omega
    by_cases hA : (97 : Int) ≤ ((s[0]'hp).toNat : Int)
    · have hA' : decide ((97 : Int) ≤ ((s[0]'hp).toNat : Int)) = true := decide_eq_true hA
      go_enter Try.func69, Try.ntmps69
      go_wp2_with fail
      go_ret
      exact ⟨ret_bool (by rw [HN.out, hA']; rfl), rfl⟩
    · have hA' : decide ((97 : Int) ≤ ((s[0]'hp).toNat : Int)) = false := decide_eq_false hA
      go_enter Try.func69, Try.ntmps69
      go_wp2_with fail
      go_ret
      exact ⟨ret_bool (by rw [HN.out, hA']; rfl), rfl⟩
  · have HN := Lib.hid (nameB_no h1)
    have hi : ((s.size : Int) == 1) = false := by simp; omega
    clear h1
    go_enter Try.func69, Try.ntmps69
    go_wp2_with fail
    go_ret
    exact ⟨ret_bool HN.out.symm, rfl⟩
set_option maxHeartbeats 1000000 in
theorem specL2Name (s : ByteArray) (w : World) : Calls Try.prog 63 #[.string s] w fun e w' => e = .returned (.bool (nameB s)) ∧ w = w' := by
  by_cases h1 : s.size = 1
  · have hp : 0 < s.size := by omega
    have HN := Lib.hid (nameB_yes h1 hp)
    have hi : ((s.size : Int) == 1) = true := by simp [h1]
    have hp' : (0 : Int) < (s.size : Int) := by omega
    by_cases hA : (97 : Int) ≤ ((s[0]'hp).toNat : Int)
    · have hA' : decide ((97 : Int) ≤ ((s[0]'hp).toNat : Int)) = true := decide_eq_true hA
      go_enter Try.func63, Try.ntmps63
      go_wp2_with fail
      go_ret
      exact ⟨ret_bool (by rw [HN.out, hA']; rfl), rfl⟩
    · have hA' : decide ((97 : Int) ≤ ((s[0]'hp).toNat : Int)) = false := decide_eq_false hA
      go_enter Try.func63, Try.ntmps63
      go_wp2_with fail
      go_ret
      exact ⟨ret_bool (by rw [HN.out, hA']; rfl), rfl⟩
  · have HN := Lib.hid (nameB_no h1)
    have hi : ((s.size : Int) == 1) = false := by simp; omega
    clear h1
    go_enter Try.func63, Try.ntmps63
    go_wp2_with fail
    go_ret
    exact ⟨ret_bool HN.out.symm, rfl⟩

end Go.Proofs.Ytkhmkohgnikcmaa
