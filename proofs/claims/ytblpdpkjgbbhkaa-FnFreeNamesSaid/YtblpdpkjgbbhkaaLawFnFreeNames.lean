/-
  FnFreeNames returns true: the walk.
-/
import Derived.Test.YtblpdpkjgbbhkaaM1
import Derived.Test.YtblpdpkjgbbhkaaM3
import Derived.Test.YtblpdpkjgbbhkaaM2
import Derived.Test.YtblpdpkjgbbhkaaM3
namespace Go.Proofs.Ytblpdpkjgbbhkaa
open Go.RowKit
set_option linter.unusedVariables false
set_option linter.unusedSimpArgs false
set_option maxRecDepth 100000


set_option maxHeartbeats 8000000 in
theorem walk_FnFreeNames (y0 : Value) (w : World) (r0 : ByRep w w.heap.size y0) : Calls Try.prog 6 #[y0] w fun e w' => e = .returned (.bool true) ∧ Below w.heap.size w w' := by
  have HD := Lib.hid (specDrawFreeNames y0 w r0)
  obtain ⟨a0, n0, q0, rfl⟩ := r0.shape
  clear r0
  rcases Bool.eq_false_or_eq_true (decide ((n0 : Int) > 1048576)) with hq | hq
  · go_enter Try.func6, Try.ntmps6
    go_wp2_with fail
    go_ret
    exact ⟨rfl, Below.refl _ _⟩
  go_enter Try.func6, Try.ntmps6
  go_wp2_with fail
  refine HD.out.mono ?_
  rintro e w1 ⟨t, v, rfl, hcn, hv, hb1⟩
  obtain ⟨kt, nm0, ut, tkt, tat, tnt, tqt, fkt, fat, fnt, fqt, lt, ct, mt, qt, rfl⟩ := hv.shape
  obtain ⟨s1, s2, s3, s4, s5, s6, s7, s8, s9, sn, sm, sq, hty, hsr, hks⟩ := hv.parts
  unfold maxLen at sq
  have HB1 := Lib.hid hb1
  have HP := Lib.hid (⟨s1, s2, s3⟩ : kt = t.kind ∧ nm0 = t.name ∧ ut = t.num)
  have HN := Lib.hid s9
  clear hb1 hq HD hcn s1 s2 s3 s4 s5 s6 s7 s8 s9
  have HI := Lib.hid (fun W (k : Below w1.heap.size w1 W) => implFreeNames _ t _ W (hv.below k))
  have HS := Lib.hid (fun W (k : Below w1.heap.size w1 W) => specFreeNames _ t _ W (hv.below k))
  have hval : (Tm.mk 5 (bs [120]) 0 (.mk 1 []) (.mk 0 []) 0 [t]).valid = true → t.valid = true := fun h => Tm.valid_kid h (by simp [Tm.kids])
  have hfs : (Tm.mk 5 (bs [120]) 0 (.mk 1 []) (.mk 0 []) 0 [t]).valid = true → (Tm.mk 5 (bs [120]) 0 (.mk 1 []) (.mk 0 []) 0 [t]).freeS = bs (without 120 t.free) := fun h => by rw [Tm.freeS_eq h, Tm.free_lam]
  have hse : t.valid = true → t.freeS = bs t.free := fun h => Tm.freeS_eq h
  have hlen : t.free.length ≤ 26 := encL_len _
  obtain ⟨S0, hS0⟩ : ∃ S, t.freeS = S := ⟨_, rfl⟩
  rw [hS0] at HI HS
  have hSz : S0.size ≤ 26 := by
    rw [← hS0]
    cases h : t.valid
    · rw [Tm.freeS_no h, bs_size]; simp
    · rw [hse h, bs_size]; exact hlen
  have HSE := Lib.hid hse
  have HS0 := Lib.hid hS0
  have HVAL := Lib.hid hval
  have HFS := Lib.hid hfs
  have HLEN := Lib.hid hlen
  have HV := Lib.hid hv
  clear hse hS0 hval hfs hlen hv sn sm hty hsr hks
  go_wp2_with fail
  refine (HI.out _ bal1).mono ?_
  rintro e w2 ⟨rfl, hb2⟩
  have hE : w2.heap[w1.heap.size]? = some (.cells #[.int .i64 kt, .string nm0, .int .i64 ut, .int .i64 tkt, .slice tat tnt tqt, .int .i64 fkt, .slice fat fnt fqt, .int .i64 lt, .slice ct mt qt] 28 (0, 0)) := blk_below (blk_new rfl) hb2
  have hB := bstep bal1 hb2
  have e0 : w2.cell? ⟨w1.heap.size, 0, none⟩ = some (.int .i64 kt) := blk_cell hE rfl
  have e1 : w2.cell? ⟨w1.heap.size, 1, none⟩ = some (.string nm0) := blk_cell hE rfl
  have e2 : w2.cell? ⟨w1.heap.size, 2, none⟩ = some (.int .i64 ut) := blk_cell hE rfl
  have e3 : w2.cell? ⟨w1.heap.size, 3, none⟩ = some (.int .i64 tkt) := blk_cell hE rfl
  have e4 : w2.cell? ⟨w1.heap.size, 4, none⟩ = some (.slice tat tnt tqt) := blk_cell hE rfl
  have e5 : w2.cell? ⟨w1.heap.size, 5, none⟩ = some (.int .i64 fkt) := blk_cell hE rfl
  have e6 : w2.cell? ⟨w1.heap.size, 6, none⟩ = some (.slice fat fnt fqt) := blk_cell hE rfl
  have e7 : w2.cell? ⟨w1.heap.size, 7, none⟩ = some (.int .i64 lt) := blk_cell hE rfl
  have e8 : w2.cell? ⟨w1.heap.size, 8, none⟩ = some (.slice ct mt qt) := blk_cell hE rfl
  have lE_w2 := blk_lt hE
  have hrepF : TmRep (fun _ => True) ((w2.alloc (.cells #[.int .i64 kt, .string nm0, .int .i64 ut, .int .i64 tkt, .slice tat tnt tqt, .int .i64 fkt, .slice fat fnt fqt, .int .i64 lt, .slice ct mt qt] 28)).alloc (.cells #[.int .i64 5, .string { data := #[120] }, .int .i64 0, .int .i64 1, .slice none 0 0, .int .i64 0, .slice none 0 0, .int .i64 0, .slice (some ⟨w2.heap.size, 0, none⟩) 1 1] 28)) (Tm.mk 5 (bs [120]) 0 (.mk 1 []) (.mk 0 []) 0 [t]) (.agg #[.int .i64 5, .string { data := #[120] }, .int .i64 0, .int .i64 1, .slice none 0 0, .int .i64 0, .slice none 0 0, .int .i64 0, .slice (some ⟨w2.heap.size, 0, none⟩) 1 1]) := by
    have hrow := TmRep.srep (((HV.out.below hB).below (bal1 (o := .cells #[.int .i64 kt, .string nm0, .int .i64 ut, .int .i64 tkt, .slice tat tnt tqt, .int .i64 fkt, .slice fat fnt fqt, .int .i64 lt, .slice ct mt qt] 28))).below (bal1 (o := .cells #[.int .i64 5, .string { data := #[120] }, .int .i64 0, .int .i64 1, .slice none 0 0, .int .i64 0, .slice none 0 0, .int .i64 0, .slice (some ⟨w2.heap.size, 0, none⟩) 1 1] 28)))
    refine TmRep.mk (by unfold maxLen; rw [bs_size]; simp) ⟨_, rfl, TysRep.nil0⟩ ⟨_, rfl, TysRep.nil0⟩ ?_
    unfold TmsRep Tm.rows Tm.rows CRep
    refine ⟨_, 1, rfl, by simp, by unfold maxLen; omega, .inr ⟨w2.heap.size, 0, rfl, trivial, by simp; omega, ?_⟩⟩
    unfold RowsAt
    refine ⟨SRep.cellsAt (hrow.move (.weaken fun _ _ _ => trivial)) (fun j u hj => ?_), by unfold RowsAt; trivial⟩
    rw [Nat.zero_add]
    refine bcell bal1 ?_
    rw [cell_n0]
    simpa using hj
  obtain ⟨tf, htf⟩ : ∃ x, Tm.mk 5 (bs [120]) 0 (.mk 1 []) (.mk 0 []) 0 [t] = x := ⟨_, rfl⟩
  rw [htf] at hrepF HFS HVAL
  clear htf
  have HVF := Lib.hid (fun W (k : Below _ _ W) => implTermValid _ tf _ W (hrepF.below k))
  have HFF := Lib.hid (fun W (k : Below _ _ W) => implFreeNames _ tf _ W (hrepF.below k))
  clear hrepF
  generalize tf.valid = vf at HVF HFS HVAL
  generalize tf.freeS = SF at HFF HFS
  go_wp2_with fail
  refine (HS.out _ (bstep hB bal2)).mono ?_
  rintro e w3 ⟨rfl, hb3⟩
  have hF : w3.heap[w2.heap.size + 1]? = some (.cells #[.int .i64 5, .string { data := #[120] }, .int .i64 0, .int .i64 1, .slice none 0 0, .int .i64 0, .slice none 0 0, .int .i64 0, .slice (some ⟨w2.heap.size, 0, none⟩) 1 1] 28 (0, 0)) := blk_below (blk_new (by simp)) hb3
  replace hE := blk_below (blk_below hE (bal2 (o := .cells #[.int .i64 kt, .string nm0, .int .i64 ut, .int .i64 tkt, .slice tat tnt tqt, .int .i64 fkt, .slice fat fnt fqt, .int .i64 lt, .slice ct mt qt] 28) (o' := .cells #[.int .i64 5, .string { data := #[120] }, .int .i64 0, .int .i64 1, .slice none 0 0, .int .i64 0, .slice none 0 0, .int .i64 0, .slice (some ⟨w2.heap.size, 0, none⟩) 1 1] 28))) hb3
  replace hB := bstep (bstep hB (bal2 (o := .cells #[.int .i64 kt, .string nm0, .int .i64 ut, .int .i64 tkt, .slice tat tnt tqt, .int .i64 fkt, .slice fat fnt fqt, .int .i64 lt, .slice ct mt qt] 28) (o' := .cells #[.int .i64 5, .string { data := #[120] }, .int .i64 0, .int .i64 1, .slice none 0 0, .int .i64 0, .slice none 0 0, .int .i64 0, .slice (some ⟨w2.heap.size, 0, none⟩) 1 1] 28))) hb3
  have HB3 := Lib.hid hb3
  clear hb3 e0 e1 e2 e3 e4 e5 e6 e7 e8
  have e0 : w3.cell? ⟨w1.heap.size, 0, none⟩ = some (.int .i64 kt) := blk_cell hE rfl
  have e1 : w3.cell? ⟨w1.heap.size, 1, none⟩ = some (.string nm0) := blk_cell hE rfl
  have e2 : w3.cell? ⟨w1.heap.size, 2, none⟩ = some (.int .i64 ut) := blk_cell hE rfl
  have e3 : w3.cell? ⟨w1.heap.size, 3, none⟩ = some (.int .i64 tkt) := blk_cell hE rfl
  have e4 : w3.cell? ⟨w1.heap.size, 4, none⟩ = some (.slice tat tnt tqt) := blk_cell hE rfl
  have e5 : w3.cell? ⟨w1.heap.size, 5, none⟩ = some (.int .i64 fkt) := blk_cell hE rfl
  have e6 : w3.cell? ⟨w1.heap.size, 6, none⟩ = some (.slice fat fnt fqt) := blk_cell hE rfl
  have e7 : w3.cell? ⟨w1.heap.size, 7, none⟩ = some (.int .i64 lt) := blk_cell hE rfl
  have e8 : w3.cell? ⟨w1.heap.size, 8, none⟩ = some (.slice ct mt qt) := blk_cell hE rfl
  have y0 : w3.cell? ⟨w2.heap.size + 1, 0, none⟩ = some (.int .i64 5) := blk_cell hF rfl
  have y1 : w3.cell? ⟨w2.heap.size + 1, 1, none⟩ = some (.string { data := #[120] }) := blk_cell hF rfl
  have y2 : w3.cell? ⟨w2.heap.size + 1, 2, none⟩ = some (.int .i64 0) := blk_cell hF rfl
  have y3 : w3.cell? ⟨w2.heap.size + 1, 3, none⟩ = some (.int .i64 1) := blk_cell hF rfl
  have y4 : w3.cell? ⟨w2.heap.size + 1, 4, none⟩ = some (.slice none 0 0) := blk_cell hF rfl
  have y5 : w3.cell? ⟨w2.heap.size + 1, 5, none⟩ = some (.int .i64 0) := blk_cell hF rfl
  have y6 : w3.cell? ⟨w2.heap.size + 1, 6, none⟩ = some (.slice none 0 0) := blk_cell hF rfl
  have y7 : w3.cell? ⟨w2.heap.size + 1, 7, none⟩ = some (.int .i64 0) := blk_cell hF rfl
  have y8 : w3.cell? ⟨w2.heap.size + 1, 8, none⟩ = some (.slice (some ⟨w2.heap.size, 0, none⟩) 1 1) := blk_cell hF rfl
  have lE3 := blk_lt hE
  have lF3 := blk_lt hF
  go_wp2_with fail
  refine (HVF.out _ HB3.out).mono ?_
  rintro e w4 ⟨rfl, hb4⟩
  replace hE := blk_below hE hb4
  replace hF := blk_below hF hb4
  replace hB := bstep hB hb4
  have HB4 := Lib.hid (bstep HB3.out hb4)
  clear e0 e1 e2 e3 e4 e5 e6 e7 e8 y0 y1 y2 y3 y4 y5 y6 y7 y8
  have e0 : w4.cell? ⟨w1.heap.size, 0, none⟩ = some (.int .i64 kt) := blk_cell hE rfl
  have e1 : w4.cell? ⟨w1.heap.size, 1, none⟩ = some (.string nm0) := blk_cell hE rfl
  have e2 : w4.cell? ⟨w1.heap.size, 2, none⟩ = some (.int .i64 ut) := blk_cell hE rfl
  have e3 : w4.cell? ⟨w1.heap.size, 3, none⟩ = some (.int .i64 tkt) := blk_cell hE rfl
  have e4 : w4.cell? ⟨w1.heap.size, 4, none⟩ = some (.slice tat tnt tqt) := blk_cell hE rfl
  have e5 : w4.cell? ⟨w1.heap.size, 5, none⟩ = some (.int .i64 fkt) := blk_cell hE rfl
  have e6 : w4.cell? ⟨w1.heap.size, 6, none⟩ = some (.slice fat fnt fqt) := blk_cell hE rfl
  have e7 : w4.cell? ⟨w1.heap.size, 7, none⟩ = some (.int .i64 lt) := blk_cell hE rfl
  have e8 : w4.cell? ⟨w1.heap.size, 8, none⟩ = some (.slice ct mt qt) := blk_cell hE rfl
  have y0 : w4.cell? ⟨w2.heap.size + 1, 0, none⟩ = some (.int .i64 5) := blk_cell hF rfl
  have y1 : w4.cell? ⟨w2.heap.size + 1, 1, none⟩ = some (.string { data := #[120] }) := blk_cell hF rfl
  have y2 : w4.cell? ⟨w2.heap.size + 1, 2, none⟩ = some (.int .i64 0) := blk_cell hF rfl
  have y3 : w4.cell? ⟨w2.heap.size + 1, 3, none⟩ = some (.int .i64 1) := blk_cell hF rfl
  have y4 : w4.cell? ⟨w2.heap.size + 1, 4, none⟩ = some (.slice none 0 0) := blk_cell hF rfl
  have y5 : w4.cell? ⟨w2.heap.size + 1, 5, none⟩ = some (.int .i64 0) := blk_cell hF rfl
  have y6 : w4.cell? ⟨w2.heap.size + 1, 6, none⟩ = some (.slice none 0 0) := blk_cell hF rfl
  have y7 : w4.cell? ⟨w2.heap.size + 1, 7, none⟩ = some (.int .i64 0) := blk_cell hF rfl
  have y8 : w4.cell? ⟨w2.heap.size + 1, 8, none⟩ = some (.slice (some ⟨w2.heap.size, 0, none⟩) 1 1) := blk_cell hF rfl
  have lE4 := blk_lt hE
  have lF4 := blk_lt hF
  cases vf
  · go_wp2_with fail
    refine (HS.out _ hB).mono ?_
    rintro e w5 ⟨rfl, hb5⟩
    go_wp2_with fail
    go_ret
    exact ⟨rfl, bstep HB1.out (bstep hB hb5)⟩
  have HS1 := Lib.hid (HS0.out.symm.trans (HSE.out (HVAL.out rfl)))
  have HF1 := Lib.hid (HFS.out rfl)
  obtain ⟨l, hl⟩ : ∃ x, t.free = x := ⟨_, rfl⟩
  rw [hl] at HS1 HF1 HLEN
  clear hl HS0 HSE HVAL HFS HI HS HVF
  have hsz2 : S0.size = l.length := by rw [HS1.out, bs_size]
  obtain ⟨n, hn⟩ : ∃ n, S0.size = n := ⟨_, rfl⟩
  have hex : ∀ j (h : j < l.length), ((S0.extract j (j + 1)).toList == [120]) = (l[j] == 120) := fun j h => by
    rw [HS1.out, bs_one l j h, Bool.eq_iff_iff]
    simp
  have hexb : ∀ j (h : j < l.length), S0.extract j (j + 1) = bs [l[j]] := fun j h => by
    rw [HS1.out, bs_extract, List.take_succ_eq_append_getElem h, List.drop_append_of_le_length (by simp; omega)]
    simp
  have HX := Lib.hid hex
  have HXB := Lib.hid hexb
  have HN := Lib.hid (hsz2.symm.trans hn)
  have hn26 : n ≤ 26 := by omega
  have HNS := Lib.hid hn
  rw [hn] at hSz
  clear hex hexb hsz2 hSz
  go_wp2_with fail
  go_loopw [7, 6] (fun i s wr => ∃ j : Nat, j ≤ n ∧ i = .int .i64 j ∧ (∃ Rj : ByteArray, s = .string Rj ∧ Rj.size ≤ j ∧ Hid (Rj = bs (without 120 (l.take j)))) ∧ Hid (Below w1.heap.size w1 wr) ∧ Hid (Below ((w2.alloc (.cells #[.int .i64 kt, .string nm0, .int .i64 ut, .int .i64 tkt, .slice tat tnt tqt, .int .i64 fkt, .slice fat fnt fqt, .int .i64 lt, .slice ct mt qt] 28)).alloc (.cells #[.int .i64 5, .string { data := #[120] }, .int .i64 0, .int .i64 1, .slice none 0 0, .int .i64 0, .slice none 0 0, .int .i64 0, .slice (some ⟨w2.heap.size, 0, none⟩) 1 1] 28)).heap.size ((w2.alloc (.cells #[.int .i64 kt, .string nm0, .int .i64 ut, .int .i64 tkt, .slice tat tnt tqt, .int .i64 fkt, .slice fat fnt fqt, .int .i64 lt, .slice ct mt qt] 28)).alloc (.cells #[.int .i64 5, .string { data := #[120] }, .int .i64 0, .int .i64 1, .slice none 0 0, .int .i64 0, .slice none 0 0, .int .i64 0, .slice (some ⟨w2.heap.size, 0, none⟩) 1 1] 28)) wr) ∧ Hid (wr.heap[w2.heap.size + 1]? = some (.cells #[.int .i64 5, .string { data := #[120] }, .int .i64 0, .int .i64 1, .slice none 0 0, .int .i64 0, .slice none 0 0, .int .i64 0, .slice (some ⟨w2.heap.size, 0, none⟩) 1 1] 28 (0, 0)))) (fun i _ _ => n - (intOf i).toNat)
  case atStart => exact ⟨0, by omega, rfl, ⟨{ data := #[] }, rfl, by decide, rfl⟩, hB, HB4.out, hF⟩
  case round =>
    obtain ⟨j, hj, rfl, ⟨Rj, rfl, hRs, hRj⟩, hbw, hbf, hFr⟩ := hrel
    clear hE hB hF e0 e1 e2 e3 e4 e5 e6 e7 e8 y0 y1 y2 y3 y4 y5 y6 y7 y8
    have hF := hFr.out
    have hns := HNS.out
    by_cases hlt : j < n
    · have hjt : j < l.length := by rw [HN.out]; exact hlt
      have i1 := IntWalk.i64_in ((j : Int) + 1) (by omega)
      have hx := HX.out j hjt
      have hxb := HXB.out j hjt
      have htk : without 120 (l.take (j + 1)) = if (l[j] == 120) then without 120 (l.take j) else without 120 (l.take j) ++ [l[j]] := by
        rw [List.take_succ_eq_append_getElem hjt]
        unfold without
        rw [List.filter_append]
        cases h : (l[j] == 120) <;> simp [h]
      obtain ⟨z, hz⟩ : ∃ z, l[j] = z := ⟨_, rfl⟩
      rw [hz] at hx hxb htk
      obtain ⟨EX, hEX⟩ : ∃ X, S0.extract j (j + 1) = X := ⟨_, rfl⟩
      have hEs : EX.size = 1 := by rw [← hEX, hxb, bs_size]; rfl
      have HEX := Lib.hid hEX
      have HXB' := Lib.hid (hEX.symm.trans hxb)
      have HTK := Lib.hid htk
      clear hz hxb htk
      rcases Bool.eq_false_or_eq_true (z == 120) with hz1 | hz1
      · rw [hz1] at hx
        have hxn : ((S0.extract j (j + 1)).toList != [120]) = false := by rw [bne, hx]; rfl
        have HZ1 := Lib.hid hz1
        clear hz1 hEX hns hEs
        go_wp2_with fail
        go_roundw
        case rel => exact ⟨j + 1, by omega, by go_num, ⟨Rj, rfl, by omega, by have h := HTK.out; rw [HZ1.out] at h; unfold Hid; rw [h]; exact hRj.out⟩, hbw.out, hbf.out, hFr.out⟩
        case measure => simp [intOf]; omega
      · rw [hz1] at hx
        have hxn : ((S0.extract j (j + 1)).toList != [120]) = true := by rw [bne, hx]; rfl
        have hst : ¬ (9223372036854775807 < Rj.size + (S0.extract j (j + 1)).size) := by rw [hEX]; omega
        have HZ1 := Lib.hid hz1
        have HES := Lib.hid hEs
        clear hz1 hEX hns hEs
        go_wp2_with fail
        go_roundw
        case rel => exact ⟨j + 1, by omega, by go_num, ⟨_, rfl, by rw [ByteArray.size_append, HEX.out, HES.out]; omega, by have h := HTK.out; rw [HZ1.out] at h; simp only [Bool.false_eq_true, if_false] at h; unfold Hid; rw [h, HEX.out, HXB'.out, hRj.out, bs_append]⟩, hbw.out, hbf.out, hFr.out⟩
        case measure => simp [intOf]; omega
    · have hSF : (SF.toList == Rj.toList) = true := by
        have h1 := hRj.out
        rw [List.take_of_length_le (by have := HN.out; omega), ← HF1.out] at h1
        rw [h1]; simp
      have y0 : wr.cell? ⟨w2.heap.size + 1, 0, none⟩ = some (.int .i64 5) := blk_cell hF rfl
      have y1 : wr.cell? ⟨w2.heap.size + 1, 1, none⟩ = some (.string { data := #[120] }) := blk_cell hF rfl
      have y2 : wr.cell? ⟨w2.heap.size + 1, 2, none⟩ = some (.int .i64 0) := blk_cell hF rfl
      have y3 : wr.cell? ⟨w2.heap.size + 1, 3, none⟩ = some (.int .i64 1) := blk_cell hF rfl
      have y4 : wr.cell? ⟨w2.heap.size + 1, 4, none⟩ = some (.slice none 0 0) := blk_cell hF rfl
      have y5 : wr.cell? ⟨w2.heap.size + 1, 5, none⟩ = some (.int .i64 0) := blk_cell hF rfl
      have y6 : wr.cell? ⟨w2.heap.size + 1, 6, none⟩ = some (.slice none 0 0) := blk_cell hF rfl
      have y7 : wr.cell? ⟨w2.heap.size + 1, 7, none⟩ = some (.int .i64 0) := blk_cell hF rfl
      have y8 : wr.cell? ⟨w2.heap.size + 1, 8, none⟩ = some (.slice (some ⟨w2.heap.size, 0, none⟩) 1 1) := blk_cell hF rfl
      have lFr := blk_lt hF
      clear hRj
      go_wp2_with fail
      refine (HFF.out _ hbf.out).mono ?_
      rintro e w5 ⟨rfl, hb5⟩
      go_wp2_with fail
      go_ret
      exact ⟨rfl, bstep HB1.out (bstep hbw.out hb5)⟩
end Go.Proofs.Ytblpdpkjgbbhkaa
