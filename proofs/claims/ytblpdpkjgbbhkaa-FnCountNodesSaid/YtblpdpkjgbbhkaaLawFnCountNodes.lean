/-
  FnCountNodes returns true: the walk.
-/
import Derived.Test.YtblpdpkjgbbhkaaM1
import Derived.Test.YtblpdpkjgbbhkaaM2
import Derived.Test.YtblpdpkjgbbhkaaM2
import Derived.Test.YtblpdpkjgbbhkaaM2
namespace Go.Proofs.Ytblpdpkjgbbhkaa
open Go.RowKit
set_option linter.unusedVariables false
set_option linter.unusedSimpArgs false
set_option maxRecDepth 100000


set_option maxHeartbeats 8000000 in
theorem walk_FnCountNodes (y0 : Value) (w : World) (r0 : ByRep w w.heap.size y0) : Calls Try.prog 4 #[y0] w fun e w' => e = .returned (.bool true) ∧ Below w.heap.size w w' := by
  have HD := Lib.hid (specDrawCountNodes y0 w r0)
  obtain ⟨a0, n0, q0, rfl⟩ := r0.shape
  clear r0
  rcases Bool.eq_false_or_eq_true (decide ((n0 : Int) > 1048576)) with hq | hq
  · go_enter Try.func4, Try.ntmps4
    go_wp2_with fail
    go_ret
    exact ⟨rfl, Below.refl _ _⟩
  go_enter Try.func4, Try.ntmps4
  go_wp2_with fail
  refine HD.out.mono ?_
  rintro e w1 ⟨t, v, rfl, hcn, hv, hb1⟩
  obtain ⟨kt, nm0, ut, tkt, tat, tnt, tqt, fkt, fat, fnt, fqt, lt, ct, mt, qt, rfl⟩ := hv.shape
  obtain ⟨s1, s2, s3, s4, s5, s6, s7, s8, s9, sn, sm, sq, hty, hsr, hks⟩ := hv.parts
  unfold maxLen at sq
  have HB1 := Lib.hid hb1
  have HP := Lib.hid (⟨s1, s2, s3⟩ : kt = t.kind ∧ nm0 = t.name ∧ ut = t.num)
  have HN := Lib.hid s9
  clear hb1 hq HD hcn s1 s2 s3 s4 s5 s6 s7 s8 s9
  have HI := Lib.hid (fun W (k : Below w1.heap.size w1 W) => implCountNodes _ t _ W (hv.below k))
  have HS := Lib.hid (fun W (k : Below w1.heap.size w1 W) => specCountNodes _ t _ W (hv.below k))
  have HV := Lib.hid (fun W (k : Below w1.heap.size w1 W) => implTermValid _ t _ W (hv.below k))
  cases hval : t.valid
  · have hz : t.nodes = 0 := by unfold Tm.nodes; rw [hval]; rfl
    rw [hz] at HI HS
    rw [hval] at HV
    clear hval hz
    go_wp2_with fail
    refine (HI.out _ bal1).mono ?_
    rintro e w2 ⟨rfl, hb2⟩
    have hE : w2.heap[w1.heap.size]? = some (.cells #[.int .i64 kt, .string nm0, .int .i64 ut, .int .i64 tkt, .slice tat tnt tqt, .int .i64 fkt, .slice fat fnt fqt, .int .i64 lt, .slice ct mt qt] 28 (0, 0)) := blk_below (blk_new rfl) hb2
    have hB := bstep bal1 hb2
    have e0 : w2.cell? ⟨w1.heap.size, 0, none⟩ = some (.int .i64 kt) := blk_cell hE rfl
    have e1 : w2.cell? ⟨w1.heap.size, 1, none⟩ = some (.string nm0) := blk_cell hE rfl
    have e2 : w2.cell? ⟨w1.heap.size, 2, none⟩ = some (.int .i64 ut) := blk_cell hE rfl
    have e3 : w2.cell? ⟨w1.heap.size, 3, none⟩ = some (.int .i64 tkt) := blk_cell hE rfl
    have e4 : w2.cell? ⟨w1.heap.size, 4, none⟩ = some (.slice tat tnt tqt) := blk_cell hE rfl
    have e5 : w2.cell? ⟨w1.heap.size, 5, none⟩ = some (.int .i64 fkt) := blk_cell hE rfl
    have e6 : w2.cell? ⟨w1.heap.size, 6, none⟩ = some (.slice fat fnt fqt) := blk_cell hE rfl
    have e7 : w2.cell? ⟨w1.heap.size, 7, none⟩ = some (.int .i64 lt) := blk_cell hE rfl
    have e8 : w2.cell? ⟨w1.heap.size, 8, none⟩ = some (.slice ct mt qt) := blk_cell hE rfl
    have lE_w2 := blk_lt hE
    go_wp2_with fail
    refine (HS.out _ hB).mono ?_
    rintro e w3 ⟨rfl, hb3⟩
    replace hE := blk_below hE hb3
    replace hB := bstep hB hb3
    clear e0 e1 e2 e3 e4 e5 e6 e7 e8
    have e0 : w3.cell? ⟨w1.heap.size, 0, none⟩ = some (.int .i64 kt) := blk_cell hE rfl
    have e1 : w3.cell? ⟨w1.heap.size, 1, none⟩ = some (.string nm0) := blk_cell hE rfl
    have e2 : w3.cell? ⟨w1.heap.size, 2, none⟩ = some (.int .i64 ut) := blk_cell hE rfl
    have e3 : w3.cell? ⟨w1.heap.size, 3, none⟩ = some (.int .i64 tkt) := blk_cell hE rfl
    have e4 : w3.cell? ⟨w1.heap.size, 4, none⟩ = some (.slice tat tnt tqt) := blk_cell hE rfl
    have e5 : w3.cell? ⟨w1.heap.size, 5, none⟩ = some (.int .i64 fkt) := blk_cell hE rfl
    have e6 : w3.cell? ⟨w1.heap.size, 6, none⟩ = some (.slice fat fnt fqt) := blk_cell hE rfl
    have e7 : w3.cell? ⟨w1.heap.size, 7, none⟩ = some (.int .i64 lt) := blk_cell hE rfl
    have e8 : w3.cell? ⟨w1.heap.size, 8, none⟩ = some (.slice ct mt qt) := blk_cell hE rfl
    have lE_w3 := blk_lt hE
    go_wp2_with fail
    refine (HS.out _ hB).mono ?_
    rintro e w4 ⟨rfl, hb4⟩
    replace hE := blk_below hE hb4
    replace hB := bstep hB hb4
    clear e0 e1 e2 e3 e4 e5 e6 e7 e8
    have e0 : w4.cell? ⟨w1.heap.size, 0, none⟩ = some (.int .i64 kt) := blk_cell hE rfl
    have e1 : w4.cell? ⟨w1.heap.size, 1, none⟩ = some (.string nm0) := blk_cell hE rfl
    have e2 : w4.cell? ⟨w1.heap.size, 2, none⟩ = some (.int .i64 ut) := blk_cell hE rfl
    have e3 : w4.cell? ⟨w1.heap.size, 3, none⟩ = some (.int .i64 tkt) := blk_cell hE rfl
    have e4 : w4.cell? ⟨w1.heap.size, 4, none⟩ = some (.slice tat tnt tqt) := blk_cell hE rfl
    have e5 : w4.cell? ⟨w1.heap.size, 5, none⟩ = some (.int .i64 fkt) := blk_cell hE rfl
    have e6 : w4.cell? ⟨w1.heap.size, 6, none⟩ = some (.slice fat fnt fqt) := blk_cell hE rfl
    have e7 : w4.cell? ⟨w1.heap.size, 7, none⟩ = some (.int .i64 lt) := blk_cell hE rfl
    have e8 : w4.cell? ⟨w1.heap.size, 8, none⟩ = some (.slice ct mt qt) := blk_cell hE rfl
    have lE_w4 := blk_lt hE
    go_wp2_with fail
    refine (HV.out _ hB).mono ?_
    rintro e w5 ⟨rfl, hb5⟩
    replace hB := bstep hB hb5
    go_wp2_with fail
    go_ret
    exact ⟨rfl, bstep HB1.out hB⟩
  · obtain ⟨hn1, hn2⟩ := Tm.nodes_kids hval
    have hkid : ∀ x ∈ t.kids, x.nodes = x.size := fun x hx => by unfold Tm.nodes; rw [if_pos (Tm.valid_kid hval hx)]
    have hsp := Tm.sizes_pos t.kids
    generalize t.nodes = N at HI HS hn1 hn2
    have hN0 : (N == 0) = false := by simp; omega
    have hNle : decide (N ≤ 30) = true := by simpa using hn2
    have HN1 := Lib.hid hn1
    have HK := Lib.hid hkid
    have HSP := Lib.hid (show Tm.sizes t.kids ≤ 30 by omega)
    have hmq := sm
    clear hval hkid hv sn sm hty hsr hn1 hn2 hsp HV
    go_wp2_with fail
    refine (HI.out _ bal1).mono ?_
    rintro e w2 ⟨rfl, hb2⟩
    have hE : w2.heap[w1.heap.size]? = some (.cells #[.int .i64 kt, .string nm0, .int .i64 ut, .int .i64 tkt, .slice tat tnt tqt, .int .i64 fkt, .slice fat fnt fqt, .int .i64 lt, .slice ct mt qt] 28 (0, 0)) := blk_below (blk_new rfl) hb2
    have hB := bstep bal1 hb2
    have e0 : w2.cell? ⟨w1.heap.size, 0, none⟩ = some (.int .i64 kt) := blk_cell hE rfl
    have e1 : w2.cell? ⟨w1.heap.size, 1, none⟩ = some (.string nm0) := blk_cell hE rfl
    have e2 : w2.cell? ⟨w1.heap.size, 2, none⟩ = some (.int .i64 ut) := blk_cell hE rfl
    have e3 : w2.cell? ⟨w1.heap.size, 3, none⟩ = some (.int .i64 tkt) := blk_cell hE rfl
    have e4 : w2.cell? ⟨w1.heap.size, 4, none⟩ = some (.slice tat tnt tqt) := blk_cell hE rfl
    have e5 : w2.cell? ⟨w1.heap.size, 5, none⟩ = some (.int .i64 fkt) := blk_cell hE rfl
    have e6 : w2.cell? ⟨w1.heap.size, 6, none⟩ = some (.slice fat fnt fqt) := blk_cell hE rfl
    have e7 : w2.cell? ⟨w1.heap.size, 7, none⟩ = some (.int .i64 lt) := blk_cell hE rfl
    have e8 : w2.cell? ⟨w1.heap.size, 8, none⟩ = some (.slice ct mt qt) := blk_cell hE rfl
    have lE_w2 := blk_lt hE
    go_wp2_with fail
    refine (HS.out _ hB).mono ?_
    rintro e w3 ⟨rfl, hb3⟩
    replace hE := blk_below hE hb3
    replace hB := bstep hB hb3
    clear e0 e1 e2 e3 e4 e5 e6 e7 e8
    have e0 : w3.cell? ⟨w1.heap.size, 0, none⟩ = some (.int .i64 kt) := blk_cell hE rfl
    have e1 : w3.cell? ⟨w1.heap.size, 1, none⟩ = some (.string nm0) := blk_cell hE rfl
    have e2 : w3.cell? ⟨w1.heap.size, 2, none⟩ = some (.int .i64 ut) := blk_cell hE rfl
    have e3 : w3.cell? ⟨w1.heap.size, 3, none⟩ = some (.int .i64 tkt) := blk_cell hE rfl
    have e4 : w3.cell? ⟨w1.heap.size, 4, none⟩ = some (.slice tat tnt tqt) := blk_cell hE rfl
    have e5 : w3.cell? ⟨w1.heap.size, 5, none⟩ = some (.int .i64 fkt) := blk_cell hE rfl
    have e6 : w3.cell? ⟨w1.heap.size, 6, none⟩ = some (.slice fat fnt fqt) := blk_cell hE rfl
    have e7 : w3.cell? ⟨w1.heap.size, 7, none⟩ = some (.int .i64 lt) := blk_cell hE rfl
    have e8 : w3.cell? ⟨w1.heap.size, 8, none⟩ = some (.slice ct mt qt) := blk_cell hE rfl
    have lE_w3 := blk_lt hE
    go_wp2_with fail
    go_loopw [6, 5] (fun i s wr => ∃ j : Nat, j ≤ mt ∧ i = .int .i64 j ∧ (∃ z : Int, s = .int .i64 z ∧ Hid (z = 1 + Tm.sizes (t.kids.take j))) ∧ Hid (Below w1.heap.size w1 wr) ∧ Hid (wr.heap[w1.heap.size]? = some (.cells #[.int .i64 kt, .string nm0, .int .i64 ut, .int .i64 tkt, .slice tat tnt tqt, .int .i64 fkt, .slice fat fnt fqt, .int .i64 lt, .slice ct mt qt] 28 (0, 0)))) (fun i _ _ => mt - (intOf i).toNat)
    case atStart => exact ⟨0, by omega, rfl, ⟨1, rfl, by simp [Hid, Tm.sizes]⟩, hB, hE⟩
    case round =>
      obtain ⟨j, hj, rfl, ⟨z, rfl, hz⟩, hbw, hEr⟩ := hrel
      clear hE hB e0 e1 e2 e3 e4 e5 e6 e7 e8
      have hE := hEr.out
      have hB := hbw.out
      have e0 : wr.cell? ⟨w1.heap.size, 0, none⟩ = some (.int .i64 kt) := blk_cell hE rfl
      have e1 : wr.cell? ⟨w1.heap.size, 1, none⟩ = some (.string nm0) := blk_cell hE rfl
      have e2 : wr.cell? ⟨w1.heap.size, 2, none⟩ = some (.int .i64 ut) := blk_cell hE rfl
      have e3 : wr.cell? ⟨w1.heap.size, 3, none⟩ = some (.int .i64 tkt) := blk_cell hE rfl
      have e4 : wr.cell? ⟨w1.heap.size, 4, none⟩ = some (.slice tat tnt tqt) := blk_cell hE rfl
      have e5 : wr.cell? ⟨w1.heap.size, 5, none⟩ = some (.int .i64 fkt) := blk_cell hE rfl
      have e6 : wr.cell? ⟨w1.heap.size, 6, none⟩ = some (.slice fat fnt fqt) := blk_cell hE rfl
      have e7 : wr.cell? ⟨w1.heap.size, 7, none⟩ = some (.int .i64 lt) := blk_cell hE rfl
      have e8 : wr.cell? ⟨w1.heap.size, 8, none⟩ = some (.slice ct mt qt) := blk_cell hE rfl
      have lEr := blk_lt hE
      by_cases hlt : j < mt
      · have hjt : j < t.kids.length := by rw [← HN.out]; exact hlt
        obtain ⟨b, off, kk0, nn0, uu0, tk0, ta0, tn0, tq0, fk0, fa0, fn0, fq0, ll0, a0, m0, q0, rfl, lb, g0, g1, g2, g3, g4, g5, g6, g7, g8, ht⟩ := hks.at hB hjt
        have hc := fun W (k : Below wr.heap.size wr W) => implCountNodes _ _ _ W (ht.below k)
        rw [HK.out _ (List.getElem_mem hjt)] at hc
        have hts := Tm.sizes_take_succ t.kids j hjt
        have hle1 := Tm.sizes_take_le t.kids (j + 1)
        have hpos := Tm.sizes_pos (t.kids.take j)
        have hpos2 := t.kids[j].size_pos
        generalize t.kids[j].size = x at hc hts hpos2
        have hwr := IntWalk.i64_in (z + x) (by have := hz.out; have := HSP.out; omega)
        have HTS := Lib.hid (show z + x = 1 + Tm.sizes (t.kids.take (j + 1)) by have := hz.out; omega)
        have HC := Lib.hid hc
        clear hc ht hts hle1 hpos hpos2
        go_wp2_with fail
        refine (HC.out _ (Below.refl _ _)).mono ?_
        rintro e w5 ⟨rfl, hb5⟩
        go_wp2_with fail
        go_roundw
        case rel => exact ⟨j + 1, by omega, by go_num, ⟨_, rfl, HTS.out⟩, bstep hB hb5, blk_below hE hb5⟩
        case measure => simp [intOf]; omega
      · have hzN : (z == N) = true := by
          have h1 := hz.out
          have h2 := HN1.out
          rw [List.take_of_length_le (by have := HN.out; omega)] at h1
          simp; omega
        clear hz
        go_wp2_with fail
        go_ret
        exact ⟨rfl, bstep HB1.out hB⟩
end Go.Proofs.Ytblpdpkjgbbhkaa
