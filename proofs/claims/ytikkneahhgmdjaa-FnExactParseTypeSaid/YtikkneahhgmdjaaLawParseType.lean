/-
  FnExactParseType returns true: the walk.
-/
import Derived.Test.YtikkneahhgmdjaaPrsS4
import Derived.Test.YtikkneahhgmdjaaPrsI4
import Derived.Test.YtikkneahhgmdjaaLaTyE
import Derived.Test.YtikkneahhgmdjaaMarkM
import Derived.Test.YtikkneahhgmdjaaMark
namespace Go.Proofs.Ytikkneahhgmdjaa
open Go.RowKit
set_option linter.unusedVariables false
set_option linter.unusedSimpArgs false
set_option maxRecDepth 100000


theorem Ty.cnt_two (k : Int) (a b : Ty) : (Ty.mk k [a, b]).cnt = 2 + a.cnt + b.cnt := by
  simp only [Ty.cnt, Ty.cnts, List.length_cons, List.length_nil]; omega
theorem ps_cnt : ∀ (d : Nat) (l r : List UInt8) (t : Ty), ps d l = some (t, r) → t.cnt + r.length ≤ l.length
  | 0, l, r, t, h => by simp [ps] at h
  | d + 1, [], r, t, h => by simp [ps] at h
  | d + 1, c :: cs, r, t, h => by
    unfold ps at h
    split at h
    · split at h
      · rename_i a m r1 h1
        split at h
        · rename_i hk
          split at h
          · rename_i b e r2 h2
            split at h
            · simp only [Option.some.injEq, Prod.mk.injEq] at h
              obtain ⟨rfl, rfl⟩ := h
              have ha := ps_cnt d _ _ _ h1
              have hb := ps_cnt d _ _ _ h2
              rw [Ty.cnt_two]
              simp only [List.length_cons] at ha hb ⊢
              omega
            · simp at h
          · simp at h
        · simp at h
      · simp at h
    · split at h
      · simp only [Option.some.injEq, Prod.mk.injEq] at h
        obtain ⟨rfl, rfl⟩ := h
        have : (Ty.mk (kindV c.toNat) []).cnt = 0 := by simp [Ty.cnt, Ty.cnts]
        rw [this]
        simp
      · simp at h
theorem parseT_cnt (l : List UInt8) : (parseT l).cnt ≤ l.length := by
  unfold parseT
  split
  · rename_i t h
    have := ps_cnt 4 _ _ _ h
    simpa using this
  · have : (Ty.mk 0 []).cnt = 0 := by simp [Ty.cnt, Ty.cnts]
    rw [this]; omega
set_option maxHeartbeats 8000000 in
theorem walk_FnExactParseType (s : ByteArray) (w : World) (hs : s.size ≤ maxLen) : Calls Try.prog 3 #[.string s] w fun e w' => e = .returned (.bool true) ∧ Below w.heap.size w w' := by
  by_cases hsz : s.size ≤ 1048576
  · have hg : decide ((s.size : Int) > 1048576) = false := by rw [decide_eq_false_iff_not]; omega
    have hg' : ¬ (1048576 : Int) < (s.size : Int) := by omega
    have hcn : 1 + ((parseT s.data.toList).cnt : Int) ≤ 1099511627776 := by
      have h := parseT_cnt s.data.toList
      have e : s.data.toList.length = s.size := by simp
      omega
    have HC := Lib.hid hcn
    clear hcn
    have HS := Lib.hid (fun W => specParseType s hsz W)
    have HI := Lib.hid (fun W => implParseType s W)
    have HB := Lib.hid (Below.refl w.heap.size w)
    obtain ⟨T, hT⟩ : ∃ T, T = parseT s.data.toList := ⟨_, rfl⟩
    obtain ⟨OK, hOK⟩ : ∃ OK, OK = parseOk s.data.toList := ⟨_, rfl⟩
    rw [← hT] at HC
    have HT := Lib.hid hT
    have HOK := Lib.hid hOK
    replace HS := Lib.hid (fun W => by have h := HS.out W; rw [← HT.out, ← HOK.out] at h; exact h)
    replace HI := Lib.hid (fun W => by have h := HI.out W; rw [← HT.out, ← HOK.out] at h; exact h)
    obtain ⟨M, hM⟩ : ∃ x : Int, 1 + (T.cnt : Int) = x := ⟨_, rfl⟩
    have gM : 0 ≤ M := by omega
    have HM := Lib.hid hM
    clear hT hOK hM HT HOK
    go_enter Try.func3, Try.ntmps3
    go_wp2_with fail
    refine (HS.out _).mono ?_
    rintro e w1 ⟨k1, a1, n1, q1, rfl, hn, hb⟩
    have hst := hb
    replace HB := Lib.hid (bstep HB.out hst)
    have zw1 : w.heap.size ≤ w1.heap.size := by have := hst.size; omega
    clear hst hb
    obtain ⟨fw, ow, -, low⟩ := hn
    have hiw := ow.lt
    clear low
    go_wp2_with fail
    refine (HI.out _).mono ?_
    rintro e w2 ⟨k2, a2, n2, q2, rfl, hn, hb⟩
    have hst := (bstep bal1 hb)
    replace ow := ow.below hst
    replace HB := Lib.hid (bstep HB.out hst)
    have bw : w2.heap[w1.heap.size]? = some (.cells #[.int .i64 k1, .slice a1 n1 q1] 24 (0, 0)) := blk_below (blk_new rfl) hb
    have zw2 : w1.heap.size ≤ w2.heap.size := by have := hst.size; omega
    have zpw2 : w1.heap.size + 1 ≤ w2.heap.size := by have := hb.size; simp at this; omega
    clear hst hb
    obtain ⟨fg, og, ndg, log⟩ := hn
    have hig := og.lt
    replace log : ∀ b ∈ fg, w1.heap.size + 1 ≤ b := fun b hb => by have := log b hb; simp at this; omega
    have cbw_0 : w2.cell? ⟨w1.heap.size, 0, none⟩ = some (.int .i64 k1) := blk_cell bw rfl
    have cbw_1 : w2.cell? ⟨w1.heap.size, 1, none⟩ = some (.slice a1 n1 q1) := blk_cell bw rfl
    have lbw := blk_lt bw
    go_wp2_with fail
    clear cbw_0 cbw_1 lbw
    refine (eqType_refl _ _ T _ _ _ (og.below bal1).rep (ow.below bal1).rep).mono ?_
    rintro e w3 ⟨rfl, hb⟩
    have hst := (bstep bal1 hb)
    replace bw := blk_below bw hst
    replace ow := ow.below hst
    replace og := og.below hst
    replace HB := Lib.hid (bstep HB.out hst)
    have bg : w3.heap[w2.heap.size]? = some (.cells #[.int .i64 k2, .slice a2 n2 q2] 24 (0, 0)) := blk_below (blk_new rfl) hb
    have zw3 : w2.heap.size ≤ w3.heap.size := by have := hst.size; omega
    have zpw3 : w2.heap.size + 1 ≤ w3.heap.size := by have := hb.size; simp at this; omega
    clear hst hb
    have cbw_0 : w3.cell? ⟨w1.heap.size, 0, none⟩ = some (.int .i64 k1) := blk_cell bw rfl
    have cbw_1 : w3.cell? ⟨w1.heap.size, 1, none⟩ = some (.slice a1 n1 q1) := blk_cell bw rfl
    have lbw := blk_lt bw
    have cbg_0 : w3.cell? ⟨w2.heap.size, 0, none⟩ = some (.int .i64 k2) := blk_cell bg rfl
    have cbg_1 : w3.cell? ⟨w2.heap.size, 1, none⟩ = some (.slice a2 n2 q2) := blk_cell bg rfl
    have lbg := blk_lt bg
    go_wp2_with fail
    clear cbw_0 cbw_1 lbw
    clear cbg_0 cbg_1 lbg
    refine (markType_any T 1 _ fg _ og ndg (by omega) HC.out).mono ?_
    rintro e w4 ⟨rfl, og, hch⟩
    rw [HM.out]
    replace bw := (hch.block _ (blk_lt bw) (fun hm => by have h1 := log _ hm; omega)).trans bw
    replace bg := (hch.block _ (blk_lt bg) (fun hm => by have h1 := hig _ hm; omega)).trans bg
    replace ow := TyOwn.chg hch (fun b hb hm => by have h1 := log _ hm; have h2 := hiw _ hb; omega) ow
    replace HB := Lib.hid (HB.out.trans (hch.below (fun b hm => by have h1 := log _ hm; have h2 := HB.out.size; omega) HB.out.size))
    have zw4 := hch.size
    clear hch
    have cbw_0 : w4.cell? ⟨w1.heap.size, 0, none⟩ = some (.int .i64 k1) := blk_cell bw rfl
    have cbw_1 : w4.cell? ⟨w1.heap.size, 1, none⟩ = some (.slice a1 n1 q1) := blk_cell bw rfl
    have lbw := blk_lt bw
    have cbg_0 : w4.cell? ⟨w2.heap.size, 0, none⟩ = some (.int .i64 k2) := blk_cell bg rfl
    have cbg_1 : w4.cell? ⟨w2.heap.size, 1, none⟩ = some (.slice a2 n2 q2) := blk_cell bg rfl
    have lbg := blk_lt bg
    go_wp2_with fail
    clear cbw_0 cbw_1 lbw
    clear cbg_0 cbg_1 lbg
    refine (heldType_any _ T 1 _ _ og.rep (by omega) HC.out).mono ?_
    rintro e w5 ⟨rfl, hb⟩
    have hst := hb
    replace bw := blk_below bw hst
    replace bg := blk_below bg hst
    replace ow := ow.below hst
    replace og := og.below hst
    replace HB := Lib.hid (bstep HB.out hst)
    have zw5 : w4.heap.size ≤ w5.heap.size := by have := hst.size; omega
    clear hst hb
    rw [HM.out]
    have cbw_0 : w5.cell? ⟨w1.heap.size, 0, none⟩ = some (.int .i64 k1) := blk_cell bw rfl
    have cbw_1 : w5.cell? ⟨w1.heap.size, 1, none⟩ = some (.slice a1 n1 q1) := blk_cell bw rfl
    have lbw := blk_lt bw
    have cbg_0 : w5.cell? ⟨w2.heap.size, 0, none⟩ = some (.int .i64 k2) := blk_cell bg rfl
    have cbg_1 : w5.cell? ⟨w2.heap.size, 1, none⟩ = some (.slice a2 n2 q2) := blk_cell bg rfl
    have lbg := blk_lt bg
    go_wp2_with fail
    clear cbw_0 cbw_1 lbw
    clear cbg_0 cbg_1 lbg
    refine (HI.out _).mono ?_
    rintro e w6 ⟨k3, a3, n3, q3, rfl, hn, hb⟩
    have hst := hb
    replace bw := blk_below bw hst
    replace bg := blk_below bg hst
    replace ow := ow.below hst
    replace og := og.below hst
    replace HB := Lib.hid (bstep HB.out hst)
    have zw6 : w5.heap.size ≤ w6.heap.size := by have := hst.size; omega
    clear hst hb
    obtain ⟨fh, oh, -, loh⟩ := hn
    clear loh
    have cbw_0 : w6.cell? ⟨w1.heap.size, 0, none⟩ = some (.int .i64 k1) := blk_cell bw rfl
    have cbw_1 : w6.cell? ⟨w1.heap.size, 1, none⟩ = some (.slice a1 n1 q1) := blk_cell bw rfl
    have lbw := blk_lt bw
    have cbg_0 : w6.cell? ⟨w2.heap.size, 0, none⟩ = some (.int .i64 k2) := blk_cell bg rfl
    have cbg_1 : w6.cell? ⟨w2.heap.size, 1, none⟩ = some (.slice a2 n2 q2) := blk_cell bg rfl
    have lbg := blk_lt bg
    go_wp2_with fail
    clear cbw_0 cbw_1 lbw
    clear cbg_0 cbg_1 lbg
    refine (eqType_refl _ _ T _ _ _ (oh.below bal1).rep (ow.below bal1).rep).mono ?_
    rintro e w7 ⟨rfl, hb⟩
    have hst := (bstep bal1 hb)
    replace bw := blk_below bw hst
    replace bg := blk_below bg hst
    replace ow := ow.below hst
    replace og := og.below hst
    replace oh := oh.below hst
    replace HB := Lib.hid (bstep HB.out hst)
    have bh : w7.heap[w6.heap.size]? = some (.cells #[.int .i64 k3, .slice a3 n3 q3] 24 (0, 0)) := blk_below (blk_new rfl) hb
    have zw7 : w6.heap.size ≤ w7.heap.size := by have := hst.size; omega
    have zpw7 : w6.heap.size + 1 ≤ w7.heap.size := by have := hb.size; simp at this; omega
    clear hst hb
    have cbw_0 : w7.cell? ⟨w1.heap.size, 0, none⟩ = some (.int .i64 k1) := blk_cell bw rfl
    have cbw_1 : w7.cell? ⟨w1.heap.size, 1, none⟩ = some (.slice a1 n1 q1) := blk_cell bw rfl
    have lbw := blk_lt bw
    have cbg_0 : w7.cell? ⟨w2.heap.size, 0, none⟩ = some (.int .i64 k2) := blk_cell bg rfl
    have cbg_1 : w7.cell? ⟨w2.heap.size, 1, none⟩ = some (.slice a2 n2 q2) := blk_cell bg rfl
    have lbg := blk_lt bg
    have cbh_0 : w7.cell? ⟨w6.heap.size, 0, none⟩ = some (.int .i64 k3) := blk_cell bh rfl
    have cbh_1 : w7.cell? ⟨w6.heap.size, 1, none⟩ = some (.slice a3 n3 q3) := blk_cell bh rfl
    have lbh := blk_lt bh
    go_wp2_with fail
    clear cbw_0 cbw_1 lbw
    clear cbg_0 cbg_1 lbg
    clear cbh_0 cbh_1 lbh
    refine (heldType_any _ T 1 _ _ og.rep (by omega) HC.out).mono ?_
    rintro e w8 ⟨rfl, hb⟩
    have hst := hb
    replace bw := blk_below bw hst
    replace bg := blk_below bg hst
    replace bh := blk_below bh hst
    replace ow := ow.below hst
    replace og := og.below hst
    replace oh := oh.below hst
    replace HB := Lib.hid (bstep HB.out hst)
    have zw8 : w7.heap.size ≤ w8.heap.size := by have := hst.size; omega
    clear hst hb
    rw [HM.out]
    have cbw_0 : w8.cell? ⟨w1.heap.size, 0, none⟩ = some (.int .i64 k1) := blk_cell bw rfl
    have cbw_1 : w8.cell? ⟨w1.heap.size, 1, none⟩ = some (.slice a1 n1 q1) := blk_cell bw rfl
    have lbw := blk_lt bw
    have cbg_0 : w8.cell? ⟨w2.heap.size, 0, none⟩ = some (.int .i64 k2) := blk_cell bg rfl
    have cbg_1 : w8.cell? ⟨w2.heap.size, 1, none⟩ = some (.slice a2 n2 q2) := blk_cell bg rfl
    have lbg := blk_lt bg
    have cbh_0 : w8.cell? ⟨w6.heap.size, 0, none⟩ = some (.int .i64 k3) := blk_cell bh rfl
    have cbh_1 : w8.cell? ⟨w6.heap.size, 1, none⟩ = some (.slice a3 n3 q3) := blk_cell bh rfl
    have lbh := blk_lt bh
    go_wp2_with fail
    clear cbw_0 cbw_1 lbw
    clear cbg_0 cbg_1 lbg
    clear cbh_0 cbh_1 lbh
    go_ret
    exact ⟨rfl, HB.out⟩
  · have hg : decide ((s.size : Int) > 1048576) = true := by rw [decide_eq_true_iff]; omega
    have hg' : (1048576 : Int) < (s.size : Int) := by omega
    go_enter Try.func3, Try.ntmps3
    go_wp2_with fail
    go_ret
    exact ⟨rfl, Below.refl _ _⟩
end Go.Proofs.Ytikkneahhgmdjaa
