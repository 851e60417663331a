/-
  WithTypes of the reference.
-/
import Derived.Test.YtpckgpndaligbaaB42
import Derived.Test.YtpckgpndaligbaaTmWithS
namespace Go.Proofs.Ytpckgpndaligbaa
open Go.RowKit
set_option linter.unusedVariables false
set_option linter.unusedSimpArgs false
set_option maxRecDepth 100000

theorem all_drop_step (L : List Ty) (j : Nat) (h : j < L.length) : ((L.drop j).any fun x => !x.valid) = (!L[j].valid || ((L.drop (j + 1)).any fun x => !x.valid)) := by
  rw [List.drop_eq_getElem_cons h]; rfl
set_option maxHeartbeats 4000000 in
theorem specWithTypes (F G : Nat → Prop) (t : Tm) (L : List Ty) (y lv : Value) (w : World) (hy : TmRep F w t y) (hl : TysRep G w L lv) (hcnt : t.cnt ≤ 1048576) :
    Calls Try.prog 6 #[y, lv] w (RetTmB (t.withT L) (t.withB L) w) := by
  have hv := fun W (h : Below w.heap.size w W) => specTermValid F t y W (hy.below h)
  have hT := fun W (h : Below w.heap.size w W) => specTermTypes F t y W (hy.below h)
  have hty : (t.valid = true → t.types = t.tys) ∧ (t.valid = false → t.types = []) := ⟨fun h => by unfold Tm.types; rw [if_pos h], fun h => by unfold Tm.types; rw [if_neg (by simp [h])]⟩
  have hR := fun (hok : t.valid = true) (hn : t.tys.length = L.length) (ha : L.any (fun x => !x.valid) = false) W (h : Below w.heap.size w W) =>
    specL2With F G L t 0 y lv W (hy.below h) (hl.below h) hcnt (fun x hx => Ty.cnt_valid (by simp at ha; exact ha x hx)) (by omega) (by have := (Tm.tys_ok hok).1; omega)
  have hVL := fun (j : Nat) (h : j < L.length) y' W (hr : TyRep G W L[j] y') => specTypeValid G L[j] y' W hr
  have hAD := all_drop_step L
  obtain ⟨k, nm, u, tk, ta, tn, tq, fk, fa, fn, fq, l, c, m, q, rfl⟩ := hy.shape
  obtain ⟨la, lq, rfl, hlq, hlm, -⟩ := hl.open
  unfold Tm.withT Tm.withB
  rw [List.drop_zero] at hR
  obtain ⟨rr, hrr⟩ : ∃ x, (L.any fun x => !x.valid) = x := ⟨_, rfl⟩
  rw [hrr] at hR ⊢
  have HRR := Lib.hid hrr
  generalize t.rety L = bt at *
  generalize t.types = us' at *
  generalize t.valid = va at *
  generalize t.tys = us at *
  obtain ⟨n, hn⟩ : ∃ x, L.length = x := ⟨_, rfl⟩
  rw [hn] at hl hlq hR ⊢
  have HN := Lib.hid hn
  have HL := Lib.hid hl
  have HVL := Lib.hid hVL
  have HAD := Lib.hid hAD
  have HV := Lib.hid hv
  have HT := Lib.hid hT
  have HR := Lib.hid hR
  have HTY := Lib.hid hty
  unfold maxLen at hlm
  clear hv hT hR hy hl hcnt hVL hAD hn hty hrr
  obtain ⟨n2, hn2⟩ : ∃ x, us'.length = x := ⟨_, rfl⟩
  have HN2 := Lib.hid hn2
  have HTx := Lib.hid (fun W (h : Below w.heap.size w W) => (HT.out W h).mono (fun e W' (hx : RetTys us' W e W') => (by
    obtain ⟨v, rfl, hv, hb⟩ := hx
    obtain ⟨a, q, rfl⟩ : ∃ a q, v = .slice a n2 q := by
      obtain ⟨a, q, h, -⟩ := hv.rep.open
      rw [hn2] at h
      exact ⟨a, q, h⟩
    exact ⟨a, q, rfl, hb⟩ : ∃ a q, e = .returned (.slice a n2 q) ∧ Below W.heap.size W W')))
  clear HT hn2
  have hq5 : va = false → n2 = 0 := fun h => by rw [← HN2.out, HTY.out.2 h]; rfl
  have hq6 : va = true → us.length = n2 := fun h => by rw [← HN2.out, HTY.out.1 h]
  have HQ5 := Lib.hid hq5
  have HQ6 := Lib.hid hq6
  clear hq5 hq6
  by_cases hne : n2 = n
  · subst hne
    cases va
    · simp only [Bool.false_and, Bool.false_eq_true, if_false]
      go_enter Try.func6, Try.ntmps6
      go_wp2_with fail
      refine (HTx.out _ bal2).mono ?_
      rintro e w1 ⟨a2, q2, rfl, hb1⟩
      have HZw1 := Lib.hid hb1
      have g0 : w1.cell? ⟨w.heap.size, 0, none⟩ = some (.int .i64 k) := bcell HZw1.out (bcell bal1 (cell_n0 0))
      have g1 : w1.cell? ⟨w.heap.size, 1, none⟩ = some (.string nm) := bcell HZw1.out (bcell bal1 (cell_n0 1))
      have g2 : w1.cell? ⟨w.heap.size, 2, none⟩ = some (.int .i64 u) := bcell HZw1.out (bcell bal1 (cell_n0 2))
      have g3 : w1.cell? ⟨w.heap.size, 3, none⟩ = some (.int .i64 tk) := bcell HZw1.out (bcell bal1 (cell_n0 3))
      have g4 : w1.cell? ⟨w.heap.size, 4, none⟩ = some (.slice ta tn tq) := bcell HZw1.out (bcell bal1 (cell_n0 4))
      have g5 : w1.cell? ⟨w.heap.size, 5, none⟩ = some (.int .i64 fk) := bcell HZw1.out (bcell bal1 (cell_n0 5))
      have g6 : w1.cell? ⟨w.heap.size, 6, none⟩ = some (.slice fa fn fq) := bcell HZw1.out (bcell bal1 (cell_n0 6))
      have g7 : w1.cell? ⟨w.heap.size, 7, none⟩ = some (.int .i64 l) := bcell HZw1.out (bcell bal1 (cell_n0 7))
      have g8 : w1.cell? ⟨w.heap.size, 8, none⟩ = some (.slice c m q) := bcell HZw1.out (bcell bal1 (cell_n0 8))
      have lg1 := World.block_lt_of_cell? _ _ g0
      clear hb1
      go_wp2_with fail
      refine (HV.out _ (bstep bal2 HZw1.out)).mono ?_
      rintro e w2 ⟨rfl, hb2⟩
      have HZw2 := Lib.hid (bstep HZw1.out hb2)
      clear hb2 lg1 g0 g1 g2 g3 g4 g5 g6 g7 g8
      have z0 : w2.cell? ⟨w.heap.size + 1, 0, none⟩ = some (.int .i64 0) := bcell HZw2.out (cell_n1 0)
      have y0 : w2.frozen? ⟨w.heap.size + 1, 0, none⟩ = false := bfroc HZw2.out (cell_n1 0) (fro_n1 0)
      have z1 : w2.cell? ⟨w.heap.size + 1, 1, none⟩ = some (.string { data := #[] }) := bcell HZw2.out (cell_n1 1)
      have y1 : w2.frozen? ⟨w.heap.size + 1, 1, none⟩ = false := bfroc HZw2.out (cell_n1 1) (fro_n1 1)
      have z2 : w2.cell? ⟨w.heap.size + 1, 2, none⟩ = some (.int .i64 0) := bcell HZw2.out (cell_n1 2)
      have y2 : w2.frozen? ⟨w.heap.size + 1, 2, none⟩ = false := bfroc HZw2.out (cell_n1 2) (fro_n1 2)
      have z3 : w2.cell? ⟨w.heap.size + 1, 3, none⟩ = some (.int .i64 0) := bcell HZw2.out (cell_n1 3)
      have y3 : w2.frozen? ⟨w.heap.size + 1, 3, none⟩ = false := bfroc HZw2.out (cell_n1 3) (fro_n1 3)
      have z4 : w2.cell? ⟨w.heap.size + 1, 4, none⟩ = some (.slice none 0 0) := bcell HZw2.out (cell_n1 4)
      have y4 : w2.frozen? ⟨w.heap.size + 1, 4, none⟩ = false := bfroc HZw2.out (cell_n1 4) (fro_n1 4)
      have z5 : w2.cell? ⟨w.heap.size + 1, 5, none⟩ = some (.int .i64 0) := bcell HZw2.out (cell_n1 5)
      have y5 : w2.frozen? ⟨w.heap.size + 1, 5, none⟩ = false := bfroc HZw2.out (cell_n1 5) (fro_n1 5)
      have z6 : w2.cell? ⟨w.heap.size + 1, 6, none⟩ = some (.slice none 0 0) := bcell HZw2.out (cell_n1 6)
      have y6 : w2.frozen? ⟨w.heap.size + 1, 6, none⟩ = false := bfroc HZw2.out (cell_n1 6) (fro_n1 6)
      have z7 : w2.cell? ⟨w.heap.size + 1, 7, none⟩ = some (.int .i64 0) := bcell HZw2.out (cell_n1 7)
      have y7 : w2.frozen? ⟨w.heap.size + 1, 7, none⟩ = false := bfroc HZw2.out (cell_n1 7) (fro_n1 7)
      have z8 : w2.cell? ⟨w.heap.size + 1, 8, none⟩ = some (.slice none 0 0) := bcell HZw2.out (cell_n1 8)
      have y8 : w2.frozen? ⟨w.heap.size + 1, 8, none⟩ = false := bfroc HZw2.out (cell_n1 8) (fro_n1 8)
      have lz0 := World.block_lt_of_cell? _ _ z0
      have HB6 := Lib.hid (bstep bal2 HZw2.out)
      go_wp2_with fail
      refine bodyPost_ret (v := .tuple #[.agg #[.int .i64 0, .string { data := #[] }, .int .i64 0, .int .i64 0, .slice none 0 0, .int .i64 0, .slice none 0 0, .int .i64 0, .slice none 0 0], .bool false]) (by simp [results, Try.results6, go_sem, z0, z1, z2, z3, z4, z5, z6, z7, z8]) rfl ?_
      exact ⟨_, rfl, TmNew.nil (by show 0 ≤ _; omega), (((((((((HB6.out).setCell (by show w.heap.size ≤ w.heap.size + 1; omega) _).setCell (by show w.heap.size ≤ w.heap.size + 1; omega) _).setCell (by show w.heap.size ≤ w.heap.size + 1; omega) _).setCell (by show w.heap.size ≤ w.heap.size + 1; omega) _).setCell (by show w.heap.size ≤ w.heap.size + 1; omega) _).setCell (by show w.heap.size ≤ w.heap.size + 1; omega) _).setCell (by show w.heap.size ≤ w.heap.size + 1; omega) _).setCell (by show w.heap.size ≤ w.heap.size + 1; omega) _).setCell (by show w.heap.size ≤ w.heap.size + 1; omega) _⟩
    · have hul : us.length = n2 := HQ6.out rfl
      simp only [Bool.true_and, decide_eq_true hul]
      generalize hXB : (!rr) = XB
      generalize hXT : (if XB = true then bt else Tm.zero) = XT
      have HX := Lib.hid (And.intro hXB hXT)
      clear hXB hXT
      have HR2 := Lib.hid (HR.out rfl hul)
      clear HR hul
      go_enter Try.func6, Try.ntmps6
      go_wp2_with fail
      refine (HTx.out _ bal2).mono ?_
      rintro e w1 ⟨a2, q2, rfl, hb1⟩
      have HZw1 := Lib.hid hb1
      have g0 : w1.cell? ⟨w.heap.size, 0, none⟩ = some (.int .i64 k) := bcell HZw1.out (bcell bal1 (cell_n0 0))
      have g1 : w1.cell? ⟨w.heap.size, 1, none⟩ = some (.string nm) := bcell HZw1.out (bcell bal1 (cell_n0 1))
      have g2 : w1.cell? ⟨w.heap.size, 2, none⟩ = some (.int .i64 u) := bcell HZw1.out (bcell bal1 (cell_n0 2))
      have g3 : w1.cell? ⟨w.heap.size, 3, none⟩ = some (.int .i64 tk) := bcell HZw1.out (bcell bal1 (cell_n0 3))
      have g4 : w1.cell? ⟨w.heap.size, 4, none⟩ = some (.slice ta tn tq) := bcell HZw1.out (bcell bal1 (cell_n0 4))
      have g5 : w1.cell? ⟨w.heap.size, 5, none⟩ = some (.int .i64 fk) := bcell HZw1.out (bcell bal1 (cell_n0 5))
      have g6 : w1.cell? ⟨w.heap.size, 6, none⟩ = some (.slice fa fn fq) := bcell HZw1.out (bcell bal1 (cell_n0 6))
      have g7 : w1.cell? ⟨w.heap.size, 7, none⟩ = some (.int .i64 l) := bcell HZw1.out (bcell bal1 (cell_n0 7))
      have g8 : w1.cell? ⟨w.heap.size, 8, none⟩ = some (.slice c m q) := bcell HZw1.out (bcell bal1 (cell_n0 8))
      have lg1 := World.block_lt_of_cell? _ _ g0
      clear hb1
      go_wp2_with fail
      refine (HV.out _ (bstep bal2 HZw1.out)).mono ?_
      rintro e w2 ⟨rfl, hb2⟩
      have HZw2 := Lib.hid (bstep HZw1.out hb2)
      clear hb2 lg1 g0 g1 g2 g3 g4 g5 g6 g7 g8
      go_wp2_with fail
      go_loopw [6] (fun i wr => ∃ j : Nat, j ≤ n2 ∧ i = .int .i64 j ∧ Below w2.heap.size w2 wr ∧ Hid ((L.any fun x => !x.valid) = ((L.drop j).any fun x => !x.valid))) (fun i _ => n2 - (intOf i).toNat)
      case atStart => exact ⟨0, by omega, rfl, Below.refl _ _, rfl⟩
      case round =>
        obtain ⟨j, hj, rfl, hbw, hRR⟩ := hrel
        by_cases hlt : j < n2
        · have hjt : j < L.length := by have := HN.out; omega
          have hz2 := bstep (bstep bal2 HZw2.out) hbw
          obtain ⟨b, off, k0, a0, m0, q0, rfl, lb, e0, e1, ht⟩ := HL.out.at hz2 hjt
          have hcall := HVL.out j hjt _ wr ht
          have hstep := hRR.out.trans (HAD.out j hjt)
          generalize L[j].valid = z at hcall hstep
          have HC := Lib.hid hcall
          have HS := Lib.hid hstep
          clear hcall hstep hRR ht hz2
          cases z
          · go_wp2_with fail
            refine HC.out.mono ?_
            rintro e w3 ⟨rfl, hb3⟩
            have HZw3 := Lib.hid (bstep (bstep HZw2.out hbw) hb3)
            clear hb3 hbw
            have z0 : w3.cell? ⟨w.heap.size + 1, 0, none⟩ = some (.int .i64 0) := bcell HZw3.out (cell_n1 0)
            have y0 : w3.frozen? ⟨w.heap.size + 1, 0, none⟩ = false := bfroc HZw3.out (cell_n1 0) (fro_n1 0)
            have z1 : w3.cell? ⟨w.heap.size + 1, 1, none⟩ = some (.string { data := #[] }) := bcell HZw3.out (cell_n1 1)
            have y1 : w3.frozen? ⟨w.heap.size + 1, 1, none⟩ = false := bfroc HZw3.out (cell_n1 1) (fro_n1 1)
            have z2 : w3.cell? ⟨w.heap.size + 1, 2, none⟩ = some (.int .i64 0) := bcell HZw3.out (cell_n1 2)
            have y2 : w3.frozen? ⟨w.heap.size + 1, 2, none⟩ = false := bfroc HZw3.out (cell_n1 2) (fro_n1 2)
            have z3 : w3.cell? ⟨w.heap.size + 1, 3, none⟩ = some (.int .i64 0) := bcell HZw3.out (cell_n1 3)
            have y3 : w3.frozen? ⟨w.heap.size + 1, 3, none⟩ = false := bfroc HZw3.out (cell_n1 3) (fro_n1 3)
            have z4 : w3.cell? ⟨w.heap.size + 1, 4, none⟩ = some (.slice none 0 0) := bcell HZw3.out (cell_n1 4)
            have y4 : w3.frozen? ⟨w.heap.size + 1, 4, none⟩ = false := bfroc HZw3.out (cell_n1 4) (fro_n1 4)
            have z5 : w3.cell? ⟨w.heap.size + 1, 5, none⟩ = some (.int .i64 0) := bcell HZw3.out (cell_n1 5)
            have y5 : w3.frozen? ⟨w.heap.size + 1, 5, none⟩ = false := bfroc HZw3.out (cell_n1 5) (fro_n1 5)
            have z6 : w3.cell? ⟨w.heap.size + 1, 6, none⟩ = some (.slice none 0 0) := bcell HZw3.out (cell_n1 6)
            have y6 : w3.frozen? ⟨w.heap.size + 1, 6, none⟩ = false := bfroc HZw3.out (cell_n1 6) (fro_n1 6)
            have z7 : w3.cell? ⟨w.heap.size + 1, 7, none⟩ = some (.int .i64 0) := bcell HZw3.out (cell_n1 7)
            have y7 : w3.frozen? ⟨w.heap.size + 1, 7, none⟩ = false := bfroc HZw3.out (cell_n1 7) (fro_n1 7)
            have z8 : w3.cell? ⟨w.heap.size + 1, 8, none⟩ = some (.slice none 0 0) := bcell HZw3.out (cell_n1 8)
            have y8 : w3.frozen? ⟨w.heap.size + 1, 8, none⟩ = false := bfroc HZw3.out (cell_n1 8) (fro_n1 8)
            have lz0 := World.block_lt_of_cell? _ _ z0
            have HB6 := Lib.hid (bstep bal2 HZw3.out)
            have hrf : rr = true := by have := HS.out; rw [HRR.out] at this; rw [this]; rfl
            subst hrf
            obtain rfl : XB = false := HX.out.1.symm
            obtain rfl : XT = Tm.zero := HX.out.2.symm
            go_wp2_with fail
            refine bodyPost_ret (v := .tuple #[.agg #[.int .i64 0, .string { data := #[] }, .int .i64 0, .int .i64 0, .slice none 0 0, .int .i64 0, .slice none 0 0, .int .i64 0, .slice none 0 0], .bool false]) (by simp [results, Try.results6, go_sem, z0, z1, z2, z3, z4, z5, z6, z7, z8]) rfl ?_
            exact ⟨_, rfl, TmNew.nil (by show 0 ≤ _; omega), (((((((((HB6.out).setCell (by show w.heap.size ≤ w.heap.size + 1; omega) _).setCell (by show w.heap.size ≤ w.heap.size + 1; omega) _).setCell (by show w.heap.size ≤ w.heap.size + 1; omega) _).setCell (by show w.heap.size ≤ w.heap.size + 1; omega) _).setCell (by show w.heap.size ≤ w.heap.size + 1; omega) _).setCell (by show w.heap.size ≤ w.heap.size + 1; omega) _).setCell (by show w.heap.size ≤ w.heap.size + 1; omega) _).setCell (by show w.heap.size ≤ w.heap.size + 1; omega) _).setCell (by show w.heap.size ≤ w.heap.size + 1; omega) _⟩
          · go_wp2_with fail
            refine HC.out.mono ?_
            rintro e w3 ⟨rfl, hb3⟩
            go_wp2_with fail
            go_roundw
            case rel => exact ⟨j + 1, by omega, by go_num, bstep hbw hb3, by rw [Hid, HS.out]; rfl⟩
            case measure => simp [intOf]; omega
        · have hrf : rr = false := by rw [← HRR.out, hRR.out, List.drop_eq_nil_of_le (by have := HN.out; omega)]; rfl
          subst hrf
          have HZw3 := Lib.hid (bstep HZw2.out hbw)
          clear hRR hbw
          obtain rfl : XB = true := HX.out.1.symm
          obtain rfl : bt = XT := HX.out.2
          have g0 : wr.cell? ⟨w.heap.size, 0, none⟩ = some (.int .i64 k) := bcell HZw3.out (bcell bal1 (cell_n0 0))
          have g1 : wr.cell? ⟨w.heap.size, 1, none⟩ = some (.string nm) := bcell HZw3.out (bcell bal1 (cell_n0 1))
          have g2 : wr.cell? ⟨w.heap.size, 2, none⟩ = some (.int .i64 u) := bcell HZw3.out (bcell bal1 (cell_n0 2))
          have g3 : wr.cell? ⟨w.heap.size, 3, none⟩ = some (.int .i64 tk) := bcell HZw3.out (bcell bal1 (cell_n0 3))
          have g4 : wr.cell? ⟨w.heap.size, 4, none⟩ = some (.slice ta tn tq) := bcell HZw3.out (bcell bal1 (cell_n0 4))
          have g5 : wr.cell? ⟨w.heap.size, 5, none⟩ = some (.int .i64 fk) := bcell HZw3.out (bcell bal1 (cell_n0 5))
          have g6 : wr.cell? ⟨w.heap.size, 6, none⟩ = some (.slice fa fn fq) := bcell HZw3.out (bcell bal1 (cell_n0 6))
          have g7 : wr.cell? ⟨w.heap.size, 7, none⟩ = some (.int .i64 l) := bcell HZw3.out (bcell bal1 (cell_n0 7))
          have g8 : wr.cell? ⟨w.heap.size, 8, none⟩ = some (.slice c m q) := bcell HZw3.out (bcell bal1 (cell_n0 8))
          have lg3 := World.block_lt_of_cell? _ _ g0
          go_wp2_with fail
          refine (HR2.out (by simp) _ (bstep bal2 HZw3.out)).mono ?_
          rintro e w4 ⟨v1, rfl, hv1, hb4⟩
          obtain ⟨k5, nm5, u5', tk5, ta5, tn5, tq5, fk5, fa5, fn5, fq5, l5, c5', m5, q5, rfl⟩ := hv1.shape
          have HZw4 := Lib.hid (bstep (bstep HZw3.out hb4) (bal1 (o := .cells #[.int .i64 k5, .string nm5, .int .i64 u5', .int .i64 tk5, .slice ta5 tn5 tq5, .int .i64 fk5, .slice fa5 fn5 fq5, .int .i64 l5, .slice c5' m5 q5] 28)))
          have hsz := HZw3.out.size
          simp at hsz
          have HV5 := Lib.hid (show TmNew (w.heap.size + 1 + 1) (w4.alloc (.cells #[.int .i64 k5, .string nm5, .int .i64 u5', .int .i64 tk5, .slice ta5 tn5 tq5, .int .i64 fk5, .slice fa5 fn5 fq5, .int .i64 l5, .slice c5' m5 q5] 28)) bt _ from (hv1.below bal1).mono (by omega))
          clear lg3 g0 g1 g2 g3 g4 g5 g6 g7 g8 hv1
          have z0 : (w4.alloc (.cells #[.int .i64 k5, .string nm5, .int .i64 u5', .int .i64 tk5, .slice ta5 tn5 tq5, .int .i64 fk5, .slice fa5 fn5 fq5, .int .i64 l5, .slice c5' m5 q5] 28)).cell? ⟨w.heap.size + 1, 0, none⟩ = some (.int .i64 0) := bcell HZw4.out (cell_n1 0)
          have y0 : (w4.alloc (.cells #[.int .i64 k5, .string nm5, .int .i64 u5', .int .i64 tk5, .slice ta5 tn5 tq5, .int .i64 fk5, .slice fa5 fn5 fq5, .int .i64 l5, .slice c5' m5 q5] 28)).frozen? ⟨w.heap.size + 1, 0, none⟩ = false := bfroc HZw4.out (cell_n1 0) (fro_n1 0)
          have z1 : (w4.alloc (.cells #[.int .i64 k5, .string nm5, .int .i64 u5', .int .i64 tk5, .slice ta5 tn5 tq5, .int .i64 fk5, .slice fa5 fn5 fq5, .int .i64 l5, .slice c5' m5 q5] 28)).cell? ⟨w.heap.size + 1, 1, none⟩ = some (.string { data := #[] }) := bcell HZw4.out (cell_n1 1)
          have y1 : (w4.alloc (.cells #[.int .i64 k5, .string nm5, .int .i64 u5', .int .i64 tk5, .slice ta5 tn5 tq5, .int .i64 fk5, .slice fa5 fn5 fq5, .int .i64 l5, .slice c5' m5 q5] 28)).frozen? ⟨w.heap.size + 1, 1, none⟩ = false := bfroc HZw4.out (cell_n1 1) (fro_n1 1)
          have z2 : (w4.alloc (.cells #[.int .i64 k5, .string nm5, .int .i64 u5', .int .i64 tk5, .slice ta5 tn5 tq5, .int .i64 fk5, .slice fa5 fn5 fq5, .int .i64 l5, .slice c5' m5 q5] 28)).cell? ⟨w.heap.size + 1, 2, none⟩ = some (.int .i64 0) := bcell HZw4.out (cell_n1 2)
          have y2 : (w4.alloc (.cells #[.int .i64 k5, .string nm5, .int .i64 u5', .int .i64 tk5, .slice ta5 tn5 tq5, .int .i64 fk5, .slice fa5 fn5 fq5, .int .i64 l5, .slice c5' m5 q5] 28)).frozen? ⟨w.heap.size + 1, 2, none⟩ = false := bfroc HZw4.out (cell_n1 2) (fro_n1 2)
          have z3 : (w4.alloc (.cells #[.int .i64 k5, .string nm5, .int .i64 u5', .int .i64 tk5, .slice ta5 tn5 tq5, .int .i64 fk5, .slice fa5 fn5 fq5, .int .i64 l5, .slice c5' m5 q5] 28)).cell? ⟨w.heap.size + 1, 3, none⟩ = some (.int .i64 0) := bcell HZw4.out (cell_n1 3)
          have y3 : (w4.alloc (.cells #[.int .i64 k5, .string nm5, .int .i64 u5', .int .i64 tk5, .slice ta5 tn5 tq5, .int .i64 fk5, .slice fa5 fn5 fq5, .int .i64 l5, .slice c5' m5 q5] 28)).frozen? ⟨w.heap.size + 1, 3, none⟩ = false := bfroc HZw4.out (cell_n1 3) (fro_n1 3)
          have z4 : (w4.alloc (.cells #[.int .i64 k5, .string nm5, .int .i64 u5', .int .i64 tk5, .slice ta5 tn5 tq5, .int .i64 fk5, .slice fa5 fn5 fq5, .int .i64 l5, .slice c5' m5 q5] 28)).cell? ⟨w.heap.size + 1, 4, none⟩ = some (.slice none 0 0) := bcell HZw4.out (cell_n1 4)
          have y4 : (w4.alloc (.cells #[.int .i64 k5, .string nm5, .int .i64 u5', .int .i64 tk5, .slice ta5 tn5 tq5, .int .i64 fk5, .slice fa5 fn5 fq5, .int .i64 l5, .slice c5' m5 q5] 28)).frozen? ⟨w.heap.size + 1, 4, none⟩ = false := bfroc HZw4.out (cell_n1 4) (fro_n1 4)
          have z5 : (w4.alloc (.cells #[.int .i64 k5, .string nm5, .int .i64 u5', .int .i64 tk5, .slice ta5 tn5 tq5, .int .i64 fk5, .slice fa5 fn5 fq5, .int .i64 l5, .slice c5' m5 q5] 28)).cell? ⟨w.heap.size + 1, 5, none⟩ = some (.int .i64 0) := bcell HZw4.out (cell_n1 5)
          have y5 : (w4.alloc (.cells #[.int .i64 k5, .string nm5, .int .i64 u5', .int .i64 tk5, .slice ta5 tn5 tq5, .int .i64 fk5, .slice fa5 fn5 fq5, .int .i64 l5, .slice c5' m5 q5] 28)).frozen? ⟨w.heap.size + 1, 5, none⟩ = false := bfroc HZw4.out (cell_n1 5) (fro_n1 5)
          have z6 : (w4.alloc (.cells #[.int .i64 k5, .string nm5, .int .i64 u5', .int .i64 tk5, .slice ta5 tn5 tq5, .int .i64 fk5, .slice fa5 fn5 fq5, .int .i64 l5, .slice c5' m5 q5] 28)).cell? ⟨w.heap.size + 1, 6, none⟩ = some (.slice none 0 0) := bcell HZw4.out (cell_n1 6)
          have y6 : (w4.alloc (.cells #[.int .i64 k5, .string nm5, .int .i64 u5', .int .i64 tk5, .slice ta5 tn5 tq5, .int .i64 fk5, .slice fa5 fn5 fq5, .int .i64 l5, .slice c5' m5 q5] 28)).frozen? ⟨w.heap.size + 1, 6, none⟩ = false := bfroc HZw4.out (cell_n1 6) (fro_n1 6)
          have z7 : (w4.alloc (.cells #[.int .i64 k5, .string nm5, .int .i64 u5', .int .i64 tk5, .slice ta5 tn5 tq5, .int .i64 fk5, .slice fa5 fn5 fq5, .int .i64 l5, .slice c5' m5 q5] 28)).cell? ⟨w.heap.size + 1, 7, none⟩ = some (.int .i64 0) := bcell HZw4.out (cell_n1 7)
          have y7 : (w4.alloc (.cells #[.int .i64 k5, .string nm5, .int .i64 u5', .int .i64 tk5, .slice ta5 tn5 tq5, .int .i64 fk5, .slice fa5 fn5 fq5, .int .i64 l5, .slice c5' m5 q5] 28)).frozen? ⟨w.heap.size + 1, 7, none⟩ = false := bfroc HZw4.out (cell_n1 7) (fro_n1 7)
          have z8 : (w4.alloc (.cells #[.int .i64 k5, .string nm5, .int .i64 u5', .int .i64 tk5, .slice ta5 tn5 tq5, .int .i64 fk5, .slice fa5 fn5 fq5, .int .i64 l5, .slice c5' m5 q5] 28)).cell? ⟨w.heap.size + 1, 8, none⟩ = some (.slice none 0 0) := bcell HZw4.out (cell_n1 8)
          have y8 : (w4.alloc (.cells #[.int .i64 k5, .string nm5, .int .i64 u5', .int .i64 tk5, .slice ta5 tn5 tq5, .int .i64 fk5, .slice fa5 fn5 fq5, .int .i64 l5, .slice c5' m5 q5] 28)).frozen? ⟨w.heap.size + 1, 8, none⟩ = false := bfroc HZw4.out (cell_n1 8) (fro_n1 8)
          have lz0 := World.block_lt_of_cell? _ _ z0
          simp only [World.size_alloc] at lz0
          have HB6 := Lib.hid (bstep bal2 HZw4.out)
          have hz4 : w.heap.size + 1 + 1 ≤ w4.heap.size := by have := (bstep HZw3.out hb4).size; simp at this; omega
          clear hb4
          go_wp2_with fail
          refine bodyPost_ret (v := .tuple #[.agg #[.int .i64 k5, .string nm5, .int .i64 u5', .int .i64 tk5, .slice ta5 tn5 tq5, .int .i64 fk5, .slice fa5 fn5 fq5, .int .i64 l5, .slice c5' m5 q5], .bool true]) (by simp [results, Try.results6, go_sem, z0, z1, z2, z3, z4, z5, z6, z7, z8]) rfl ?_
          exact ⟨_, rfl, TmNew.mono ((((((((((HV5.out).setCell (by show w.heap.size + 1 < w.heap.size + 1 + 1; omega) _).setCell (by show w.heap.size + 1 < w.heap.size + 1 + 1; omega) _).setCell (by show w.heap.size + 1 < w.heap.size + 1 + 1; omega) _).setCell (by show w.heap.size + 1 < w.heap.size + 1 + 1; omega) _).setCell (by show w.heap.size + 1 < w.heap.size + 1 + 1; omega) _).setCell (by show w.heap.size + 1 < w.heap.size + 1 + 1; omega) _).setCell (by show w.heap.size + 1 < w.heap.size + 1 + 1; omega) _).setCell (by show w.heap.size + 1 < w.heap.size + 1 + 1; omega) _).setCell (by show w.heap.size + 1 < w.heap.size + 1 + 1; omega) _) (by omega), (((((((((HB6.out).setCell (by show w.heap.size ≤ w.heap.size + 1; omega) _).setCell (by show w.heap.size ≤ w.heap.size + 1; omega) _).setCell (by show w.heap.size ≤ w.heap.size + 1; omega) _).setCell (by show w.heap.size ≤ w.heap.size + 1; omega) _).setCell (by show w.heap.size ≤ w.heap.size + 1; omega) _).setCell (by show w.heap.size ≤ w.heap.size + 1; omega) _).setCell (by show w.heap.size ≤ w.heap.size + 1; omega) _).setCell (by show w.heap.size ≤ w.heap.size + 1; omega) _).setCell (by show w.heap.size ≤ w.heap.size + 1; omega) _⟩
  · have hb : (va && (decide (us.length = n) && !rr)) = false := by
      cases va
      · rfl
      · have := HQ6.out rfl
        rw [decide_eq_false (by omega)]; rfl
    rw [hb]
    simp only [Bool.false_eq_true, if_false]
    have hne1 : ((n2 : Int) == (n : Int)) = false := by simp; omega
    have hne2 : ((n2 : Int) != (n : Int)) = true := by simp only [bne, hne1]; rfl
    have hne3 : ¬ ((n2 : Int) = (n : Int)) := by omega
    clear hb hne
    go_enter Try.func6, Try.ntmps6
    go_wp2_with fail
    refine (HTx.out _ bal2).mono ?_
    rintro e w1 ⟨a2, q2, rfl, hb1⟩
    have HZw1 := Lib.hid hb1
    clear hb1
    have HZw2 := HZw1
    have z0 : w1.cell? ⟨w.heap.size + 1, 0, none⟩ = some (.int .i64 0) := bcell HZw1.out (cell_n1 0)
    have y0 : w1.frozen? ⟨w.heap.size + 1, 0, none⟩ = false := bfroc HZw1.out (cell_n1 0) (fro_n1 0)
    have z1 : w1.cell? ⟨w.heap.size + 1, 1, none⟩ = some (.string { data := #[] }) := bcell HZw1.out (cell_n1 1)
    have y1 : w1.frozen? ⟨w.heap.size + 1, 1, none⟩ = false := bfroc HZw1.out (cell_n1 1) (fro_n1 1)
    have z2 : w1.cell? ⟨w.heap.size + 1, 2, none⟩ = some (.int .i64 0) := bcell HZw1.out (cell_n1 2)
    have y2 : w1.frozen? ⟨w.heap.size + 1, 2, none⟩ = false := bfroc HZw1.out (cell_n1 2) (fro_n1 2)
    have z3 : w1.cell? ⟨w.heap.size + 1, 3, none⟩ = some (.int .i64 0) := bcell HZw1.out (cell_n1 3)
    have y3 : w1.frozen? ⟨w.heap.size + 1, 3, none⟩ = false := bfroc HZw1.out (cell_n1 3) (fro_n1 3)
    have z4 : w1.cell? ⟨w.heap.size + 1, 4, none⟩ = some (.slice none 0 0) := bcell HZw1.out (cell_n1 4)
    have y4 : w1.frozen? ⟨w.heap.size + 1, 4, none⟩ = false := bfroc HZw1.out (cell_n1 4) (fro_n1 4)
    have z5 : w1.cell? ⟨w.heap.size + 1, 5, none⟩ = some (.int .i64 0) := bcell HZw1.out (cell_n1 5)
    have y5 : w1.frozen? ⟨w.heap.size + 1, 5, none⟩ = false := bfroc HZw1.out (cell_n1 5) (fro_n1 5)
    have z6 : w1.cell? ⟨w.heap.size + 1, 6, none⟩ = some (.slice none 0 0) := bcell HZw1.out (cell_n1 6)
    have y6 : w1.frozen? ⟨w.heap.size + 1, 6, none⟩ = false := bfroc HZw1.out (cell_n1 6) (fro_n1 6)
    have z7 : w1.cell? ⟨w.heap.size + 1, 7, none⟩ = some (.int .i64 0) := bcell HZw1.out (cell_n1 7)
    have y7 : w1.frozen? ⟨w.heap.size + 1, 7, none⟩ = false := bfroc HZw1.out (cell_n1 7) (fro_n1 7)
    have z8 : w1.cell? ⟨w.heap.size + 1, 8, none⟩ = some (.slice none 0 0) := bcell HZw1.out (cell_n1 8)
    have y8 : w1.frozen? ⟨w.heap.size + 1, 8, none⟩ = false := bfroc HZw1.out (cell_n1 8) (fro_n1 8)
    have lz0 := World.block_lt_of_cell? _ _ z0
    have HB6 := Lib.hid (bstep bal2 HZw2.out)
    go_wp2_with fail
    refine bodyPost_ret (v := .tuple #[.agg #[.int .i64 0, .string { data := #[] }, .int .i64 0, .int .i64 0, .slice none 0 0, .int .i64 0, .slice none 0 0, .int .i64 0, .slice none 0 0], .bool false]) (by simp [results, Try.results6, go_sem, z0, z1, z2, z3, z4, z5, z6, z7, z8]) rfl ?_
    exact ⟨_, rfl, TmNew.nil (by show 0 ≤ _; omega), (((((((((HB6.out).setCell (by show w.heap.size ≤ w.heap.size + 1; omega) _).setCell (by show w.heap.size ≤ w.heap.size + 1; omega) _).setCell (by show w.heap.size ≤ w.heap.size + 1; omega) _).setCell (by show w.heap.size ≤ w.heap.size + 1; omega) _).setCell (by show w.heap.size ≤ w.heap.size + 1; omega) _).setCell (by show w.heap.size ≤ w.heap.size + 1; omega) _).setCell (by show w.heap.size ≤ w.heap.size + 1; omega) _).setCell (by show w.heap.size ≤ w.heap.size + 1; omega) _).setCell (by show w.heap.size ≤ w.heap.size + 1; omega) _⟩
end Go.Proofs.Ytpckgpndaligbaa
