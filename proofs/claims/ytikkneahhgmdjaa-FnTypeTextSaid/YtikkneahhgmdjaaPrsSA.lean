/-
  The reference's parser: a bracket ahead, the ends without a pair.
-/
import Derived.Test.YtikkneahhgmdjaaPrsS1
namespace Go.Proofs.Ytikkneahhgmdjaa
open Go.RowKit
set_option linter.unusedVariables false
set_option linter.unusedSimpArgs false
set_option maxRecDepth 100000

set_option maxHeartbeats 8000000 in
theorem specParsePa (s : ByteArray) (at_ : Nat) (dd : Int) (d : Nat) (cs : List UInt8) (w : World) (IH : ∀ (j : Nat) (W : World), Calls Try.prog 17 #[.string s, .int .i64 j, .int .i64 (dd - 1)] W (PsP s d (s.data.toList.drop j) W)) (hd : decide (dd < 1) = false) (hd9 : 1 ≤ dd ∧ dd ≤ 9) (hsz : s.size ≤ 1048576) (hl : s.data.toList.drop at_ = 40 :: cs) (hp1 : ps d cs = none) : Calls Try.prog 17 #[.string s, .int .i64 at_, .int .i64 dd] w (PsP s (d + 1) (s.data.toList.drop at_) w) := by
  obtain ⟨hj, hc, hcs⟩ := drop_cons hl
  have h0 : decide ((at_ : Int) < 0) = false := by simp
  have h2 : (at_ : Int) < (s.size : Int) := by omega
  have hcv := hc hj
  have hw : wrap64 ((at_ : Int) + 1) = (at_ : Int) + 1 := by unfold wrap64; omega
  have hwd : wrap64 (dd - 1) = dd - 1 := by unfold wrap64; omega
  have HL := Lib.hid hl
  have HCS := Lib.hid hcs
  have HIH := Lib.hid IH
  have HP1 := Lib.hid hp1
  have H1 := Lib.hid (show ∀ W, Calls Try.prog 17 #[.string s, .int .i64 ((at_ : Int) + 1), .int .i64 (dd - 1)] W (PsP s d (s.data.toList.drop (at_ + 1)) W) from fun W => by rw [show ((at_ : Int) + 1) = ((at_ + 1 : Nat) : Int) by omega]; exact IH (at_ + 1) W)
  have hZ : (w.alloc (.cells #[.int .i64 0, .slice none 0 0] 24)).heap[w.heap.size]? = some (.cells #[.int .i64 0, .slice none 0 0] 24 (0, 0)) := blk_new rfl
  clear hl hcs hc IH hp1
  go_enter Try.func17, Try.ntmps17
  go_wp2_with fail
  refine (H1.out _).mono ?_
  rintro e w1 ⟨k1, a1, n1, q1, nx1, rfl, hb1, hm1⟩
  replace hZ := blk_below hZ hb1
  have HB1 := Lib.hid (bstep bal1 hb1)
  have hz1 := hb1.size
  simp only [World.size_alloc] at hz1
  clear hb1 H1
  rw [← HCS.out] at hm1
  have hm := hm1 _ rfl
  rw [HP1.out] at hm
  clear hm1
  subst hm
  have z0 : w1.cell? ⟨w.heap.size, 0, none⟩ = some (.int .i64 0) := blk_cell hZ rfl
  have z1 : w1.cell? ⟨w.heap.size, 1, none⟩ = some (.slice none 0 0) := blk_cell hZ rfl
  have zf0 : w1.frozen? ⟨w.heap.size, 0, none⟩ = false := blk_fro hZ 0
  have zf1 : w1.frozen? ⟨w.heap.size, 1, none⟩ = false := blk_fro hZ 1
  have lz := blk_lt hZ
  have lzz : w.heap.size < w1.heap.size + 1 := by omega
  go_wp2_with fail
  have hY : (((w1.setCell ⟨w.heap.size, 0, none⟩ (.int .i64 0)).setCell ⟨w.heap.size, 1, none⟩ (.slice none 0 0)).alloc (.cells #[.int .i64 k1, .slice a1 n1 q1] 24)).heap[w.heap.size]? = some (.cells #[.int .i64 0, .slice none 0 0] 24 (0, 0)) := blk_below (show ((w1.setCell ⟨w.heap.size, 0, none⟩ (.int .i64 0)).setCell ⟨w.heap.size, 1, none⟩ (.slice none 0 0)).heap[w.heap.size]? = some (.cells #[.int .i64 0, .slice none 0 0] 24 (0, 0)) from blk_set (blk_set hZ (rfl : (#[Value.int .i64 0, .slice none 0 0] : Array Value).setIfInBounds 0 (.int .i64 0) = #[.int .i64 0, .slice none 0 0])) rfl) bal1
  have rc0 := blk_cell hY (o := 0) rfl
  have rc1 := blk_cell hY (o := 1) rfl
  refine bodyPost_ret (v := .tuple #[.agg #[.int .i64 0, .slice none 0 0], .int .i64 (-1)]) (by simp [results, Try.results17, go_sem, rc0, rc1]) rfl ?_
  refine ⟨_, _, _, _, _, rfl, bstep ((HB1.out.setCell (p := ⟨w.heap.size, 0, none⟩) (by show w.heap.size ≤ w.heap.size; omega) _).setCell (p := ⟨w.heap.size, 1, none⟩) (by show w.heap.size ≤ w.heap.size; omega) _) bal1, ?_⟩
  rintro o rfl
  rw [HL.out]
  unfold ps
  rw [if_pos rfl, HP1.out]
set_option maxHeartbeats 8000000 in
theorem specParsePb (s : ByteArray) (at_ : Nat) (dd : Int) (d : Nat) (cs : List UInt8) (w : World) (IH : ∀ (j : Nat) (W : World), Calls Try.prog 17 #[.string s, .int .i64 j, .int .i64 (dd - 1)] W (PsP s d (s.data.toList.drop j) W)) (hd : decide (dd < 1) = false) (hd9 : 1 ≤ dd ∧ dd ≤ 9) (hsz : s.size ≤ 1048576) (hl : s.data.toList.drop at_ = 40 :: cs) (ta : Ty) (hp1 : ps d cs = some (ta, [])) : Calls Try.prog 17 #[.string s, .int .i64 at_, .int .i64 dd] w (PsP s (d + 1) (s.data.toList.drop at_) w) := by
  obtain ⟨hj, hc, hcs⟩ := drop_cons hl
  have h0 : decide ((at_ : Int) < 0) = false := by simp
  have h2 : (at_ : Int) < (s.size : Int) := by omega
  have hcv := hc hj
  have hw : wrap64 ((at_ : Int) + 1) = (at_ : Int) + 1 := by unfold wrap64; omega
  have hwd : wrap64 (dd - 1) = dd - 1 := by unfold wrap64; omega
  have HL := Lib.hid hl
  have HCS := Lib.hid hcs
  have HIH := Lib.hid IH
  have HP1 := Lib.hid hp1
  have H1 := Lib.hid (show ∀ W, Calls Try.prog 17 #[.string s, .int .i64 ((at_ : Int) + 1), .int .i64 (dd - 1)] W (PsP s d (s.data.toList.drop (at_ + 1)) W) from fun W => by rw [show ((at_ : Int) + 1) = ((at_ + 1 : Nat) : Int) by omega]; exact IH (at_ + 1) W)
  have hZ : (w.alloc (.cells #[.int .i64 0, .slice none 0 0] 24)).heap[w.heap.size]? = some (.cells #[.int .i64 0, .slice none 0 0] 24 (0, 0)) := blk_new rfl
  clear hl hcs hc IH hp1
  go_enter Try.func17, Try.ntmps17
  go_wp2_with fail
  refine (H1.out _).mono ?_
  rintro e w1 ⟨k1, a1, n1, q1, nx1, rfl, hb1, hm1⟩
  replace hZ := blk_below hZ hb1
  have HB1 := Lib.hid (bstep bal1 hb1)
  have hz1 := hb1.size
  simp only [World.size_alloc] at hz1
  clear hb1 H1
  rw [← HCS.out] at hm1
  have hm := hm1 _ rfl
  rw [HP1.out] at hm
  clear hm1
  obtain ⟨⟨j1, rfl, hjs1, hr1⟩, hta⟩ := hm
  have HTA := Lib.hid hta
  clear hta
  have hj10 : decide ((j1 : Int) < 0) = false := by simp
  have hge := drop_nil hr1.symm
  have hg1 : decide ((j1 : Int) ≥ (s.size : Int)) = true := by simp; omega
  have HR1 := Lib.hid hr1
  clear hr1
  have z0 : w1.cell? ⟨w.heap.size, 0, none⟩ = some (.int .i64 0) := blk_cell hZ rfl
  have z1 : w1.cell? ⟨w.heap.size, 1, none⟩ = some (.slice none 0 0) := blk_cell hZ rfl
  have zf0 : w1.frozen? ⟨w.heap.size, 0, none⟩ = false := blk_fro hZ 0
  have zf1 : w1.frozen? ⟨w.heap.size, 1, none⟩ = false := blk_fro hZ 1
  have lz := blk_lt hZ
  have lzz : w.heap.size < w1.heap.size + 1 := by omega
  go_wp2_with fail
  have hY : (((w1.setCell ⟨w.heap.size, 0, none⟩ (.int .i64 0)).setCell ⟨w.heap.size, 1, none⟩ (.slice none 0 0)).alloc (.cells #[.int .i64 k1, .slice a1 n1 q1] 24)).heap[w.heap.size]? = some (.cells #[.int .i64 0, .slice none 0 0] 24 (0, 0)) := blk_below (show ((w1.setCell ⟨w.heap.size, 0, none⟩ (.int .i64 0)).setCell ⟨w.heap.size, 1, none⟩ (.slice none 0 0)).heap[w.heap.size]? = some (.cells #[.int .i64 0, .slice none 0 0] 24 (0, 0)) from blk_set (blk_set hZ (rfl : (#[Value.int .i64 0, .slice none 0 0] : Array Value).setIfInBounds 0 (.int .i64 0) = #[.int .i64 0, .slice none 0 0])) rfl) bal1
  have rc0 := blk_cell hY (o := 0) rfl
  have rc1 := blk_cell hY (o := 1) rfl
  refine bodyPost_ret (v := .tuple #[.agg #[.int .i64 0, .slice none 0 0], .int .i64 (-1)]) (by simp [results, Try.results17, go_sem, rc0, rc1]) rfl ?_
  refine ⟨_, _, _, _, _, rfl, bstep ((HB1.out.setCell (p := ⟨w.heap.size, 0, none⟩) (by show w.heap.size ≤ w.heap.size; omega) _).setCell (p := ⟨w.heap.size, 1, none⟩) (by show w.heap.size ≤ w.heap.size; omega) _) bal1, ?_⟩
  rintro o rfl
  rw [HL.out]
  unfold ps
  rw [if_pos rfl, HP1.out]
set_option maxHeartbeats 8000000 in
theorem specParsePo (s : ByteArray) (at_ : Nat) (dd : Int) (d : Nat) (cs : List UInt8) (w : World) (IH : ∀ (j : Nat) (W : World), Calls Try.prog 17 #[.string s, .int .i64 j, .int .i64 (dd - 1)] W (PsP s d (s.data.toList.drop j) W)) (hd : decide (dd < 1) = false) (hd9 : 1 ≤ dd ∧ dd ≤ 9) (hsz : s.size ≤ 1048576) (hl : s.data.toList.drop at_ = 40 :: cs) (ta : Ty) (m : UInt8) (r : List UInt8) (hp1 : ps d cs = some (ta, m :: r)) (m62 : m ≠ 62) (m42 : m ≠ 42) : Calls Try.prog 17 #[.string s, .int .i64 at_, .int .i64 dd] w (PsP s (d + 1) (s.data.toList.drop at_) w) := by
  obtain ⟨hj, hc, hcs⟩ := drop_cons hl
  have h0 : decide ((at_ : Int) < 0) = false := by simp
  have h2 : (at_ : Int) < (s.size : Int) := by omega
  have hcv := hc hj
  have hw : wrap64 ((at_ : Int) + 1) = (at_ : Int) + 1 := by unfold wrap64; omega
  have hwd : wrap64 (dd - 1) = dd - 1 := by unfold wrap64; omega
  have HL := Lib.hid hl
  have HCS := Lib.hid hcs
  have HIH := Lib.hid IH
  have HP1 := Lib.hid hp1
  have H1 := Lib.hid (show ∀ W, Calls Try.prog 17 #[.string s, .int .i64 ((at_ : Int) + 1), .int .i64 (dd - 1)] W (PsP s d (s.data.toList.drop (at_ + 1)) W) from fun W => by rw [show ((at_ : Int) + 1) = ((at_ + 1 : Nat) : Int) by omega]; exact IH (at_ + 1) W)
  have hZ : (w.alloc (.cells #[.int .i64 0, .slice none 0 0] 24)).heap[w.heap.size]? = some (.cells #[.int .i64 0, .slice none 0 0] 24 (0, 0)) := blk_new rfl
  clear hl hcs hc IH hp1
  have e1 : ((m.toNat : Int) == 62) = false := int_ne (b := 62) m62
  have e2 : ((m.toNat : Int) == 42) = false := int_ne (b := 42) m42
  have e1' : ((m.toNat : Int) != 62) = true := by simp only [bne, e1]; rfl
  have e2' : ((m.toNat : Int) != 42) = true := by simp only [bne, e2]; rfl
  have HM := Lib.hid (And.intro m62 m42)
  clear m62 m42
  go_enter Try.func17, Try.ntmps17
  go_wp2_with fail
  refine (H1.out _).mono ?_
  rintro e w1 ⟨k1, a1, n1, q1, nx1, rfl, hb1, hm1⟩
  replace hZ := blk_below hZ hb1
  have HB1 := Lib.hid (bstep bal1 hb1)
  have hz1 := hb1.size
  simp only [World.size_alloc] at hz1
  clear hb1 H1
  rw [← HCS.out] at hm1
  have hm := hm1 _ rfl
  rw [HP1.out] at hm
  clear hm1
  obtain ⟨⟨j1, rfl, hjs1, hr1⟩, hta⟩ := hm
  have HTA := Lib.hid hta
  clear hta
  have hj10 : decide ((j1 : Int) < 0) = false := by simp
  obtain ⟨hj1, hcm, hrr⟩ := drop_cons hr1.symm
  have h12 : (j1 : Int) < (s.size : Int) := by omega
  have hg1n : decide (s.size ≤ j1) = false := by simp; omega
  have hg1m : ¬ s.size ≤ j1 := by omega
  have hcm' := hcm hj1
  have hw1 : wrap64 ((j1 : Int) + 1) = (j1 : Int) + 1 := by unfold wrap64; omega
  have H2 := Lib.hid (show ∀ W, Calls Try.prog 17 #[.string s, .int .i64 ((j1 : Int) + 1), .int .i64 (dd - 1)] W (PsP s d (s.data.toList.drop (j1 + 1)) W) from fun W => by rw [show ((j1 : Int) + 1) = ((j1 + 1 : Nat) : Int) by omega]; exact HIH.out (j1 + 1) W)
  have HRR := Lib.hid hrr
  have HCM := Lib.hid hcm
  clear hr1 hrr hcm
  go_wp2_with fail
  refine (H2.out _).mono ?_
  rintro e w2 ⟨k2, a2, n2, q2, nx2, rfl, hb2, hm2⟩
  replace hZ := blk_below (blk_below hZ (bal1 (o := .cells #[.int .i64 k1, .slice a1 n1 q1] 24))) hb2
  have hV : w2.heap[w1.heap.size]? = some (.cells #[.int .i64 k1, .slice a1 n1 q1] 24 (0, 0)) := blk_below (blk_new rfl) hb2
  have HB2 := Lib.hid (bstep HB1.out (bstep (bal1 (o := .cells #[.int .i64 k1, .slice a1 n1 q1] 24)) hb2))
  have HB12 := Lib.hid (bstep (bal1 (w := w1) (o := .cells #[.int .i64 k1, .slice a1 n1 q1] 24)) hb2)
  have hz2 := hb2.size
  simp only [World.size_alloc] at hz2
  clear hb2 H2
  have z0 : w2.cell? ⟨w.heap.size, 0, none⟩ = some (.int .i64 0) := blk_cell hZ rfl
  have z1 : w2.cell? ⟨w.heap.size, 1, none⟩ = some (.slice none 0 0) := blk_cell hZ rfl
  have zf0 : w2.frozen? ⟨w.heap.size, 0, none⟩ = false := blk_fro hZ 0
  have zf1 : w2.frozen? ⟨w.heap.size, 1, none⟩ = false := blk_fro hZ 1
  have lz := blk_lt hZ
  have lzz : w.heap.size < w2.heap.size + 1 := by omega
  go_wp2_with fail
  have hY : (((w2.setCell ⟨w.heap.size, 0, none⟩ (.int .i64 0)).setCell ⟨w.heap.size, 1, none⟩ (.slice none 0 0)).alloc (.cells #[.int .i64 k2, .slice a2 n2 q2] 24)).heap[w.heap.size]? = some (.cells #[.int .i64 0, .slice none 0 0] 24 (0, 0)) := blk_below (show ((w2.setCell ⟨w.heap.size, 0, none⟩ (.int .i64 0)).setCell ⟨w.heap.size, 1, none⟩ (.slice none 0 0)).heap[w.heap.size]? = some (.cells #[.int .i64 0, .slice none 0 0] 24 (0, 0)) from blk_set (blk_set hZ (rfl : (#[Value.int .i64 0, .slice none 0 0] : Array Value).setIfInBounds 0 (.int .i64 0) = #[.int .i64 0, .slice none 0 0])) rfl) bal1
  have rc0 := blk_cell hY (o := 0) rfl
  have rc1 := blk_cell hY (o := 1) rfl
  refine bodyPost_ret (v := .tuple #[.agg #[.int .i64 0, .slice none 0 0], .int .i64 (-1)]) (by simp [results, Try.results17, go_sem, rc0, rc1]) rfl ?_
  refine ⟨_, _, _, _, _, rfl, bstep ((HB2.out.setCell (p := ⟨w.heap.size, 0, none⟩) (by show w.heap.size ≤ w.heap.size; omega) _).setCell (p := ⟨w.heap.size, 1, none⟩) (by show w.heap.size ≤ w.heap.size; omega) _) bal1, ?_⟩
  rintro o rfl
  rw [HL.out]
  unfold ps
  rw [if_pos rfl, HP1.out]
  dsimp only
  by_cases h63 : m = 63
  · subst h63; rw [kindV_63, if_neg (by omega)]
  by_cases h73 : m = 73
  · subst h73; rw [kindV_73, if_neg (by omega)]
  by_cases h66 : m = 66
  · subst h66; rw [kindV_66, if_neg (by omega)]
  rw [kindV_other h63 h73 h66 HM.out.1 HM.out.2, if_neg (by omega)]
set_option maxHeartbeats 8000000 in
theorem specParsePn62 (s : ByteArray) (at_ : Nat) (dd : Int) (d : Nat) (cs : List UInt8) (w : World) (IH : ∀ (j : Nat) (W : World), Calls Try.prog 17 #[.string s, .int .i64 j, .int .i64 (dd - 1)] W (PsP s d (s.data.toList.drop j) W)) (hd : decide (dd < 1) = false) (hd9 : 1 ≤ dd ∧ dd ≤ 9) (hsz : s.size ≤ 1048576) (hl : s.data.toList.drop at_ = 40 :: cs) (ta : Ty) (r : List UInt8) (hp1 : ps d cs = some (ta, 62 :: r)) (hp2 : ps d r = none) : Calls Try.prog 17 #[.string s, .int .i64 at_, .int .i64 dd] w (PsP s (d + 1) (s.data.toList.drop at_) w) := by
  obtain ⟨hj, hc, hcs⟩ := drop_cons hl
  have h0 : decide ((at_ : Int) < 0) = false := by simp
  have h2 : (at_ : Int) < (s.size : Int) := by omega
  have hcv := hc hj
  have hw : wrap64 ((at_ : Int) + 1) = (at_ : Int) + 1 := by unfold wrap64; omega
  have hwd : wrap64 (dd - 1) = dd - 1 := by unfold wrap64; omega
  have HL := Lib.hid hl
  have HCS := Lib.hid hcs
  have HIH := Lib.hid IH
  have HP1 := Lib.hid hp1
  have H1 := Lib.hid (show ∀ W, Calls Try.prog 17 #[.string s, .int .i64 ((at_ : Int) + 1), .int .i64 (dd - 1)] W (PsP s d (s.data.toList.drop (at_ + 1)) W) from fun W => by rw [show ((at_ : Int) + 1) = ((at_ + 1 : Nat) : Int) by omega]; exact IH (at_ + 1) W)
  have hZ : (w.alloc (.cells #[.int .i64 0, .slice none 0 0] 24)).heap[w.heap.size]? = some (.cells #[.int .i64 0, .slice none 0 0] 24 (0, 0)) := blk_new rfl
  clear hl hcs hc IH hp1
  have HP2 := Lib.hid hp2
  clear hp2
  go_enter Try.func17, Try.ntmps17
  go_wp2_with fail
  refine (H1.out _).mono ?_
  rintro e w1 ⟨k1, a1, n1, q1, nx1, rfl, hb1, hm1⟩
  replace hZ := blk_below hZ hb1
  have HB1 := Lib.hid (bstep bal1 hb1)
  have hz1 := hb1.size
  simp only [World.size_alloc] at hz1
  clear hb1 H1
  rw [← HCS.out] at hm1
  have hm := hm1 _ rfl
  rw [HP1.out] at hm
  clear hm1
  obtain ⟨⟨j1, rfl, hjs1, hr1⟩, hta⟩ := hm
  have HTA := Lib.hid hta
  clear hta
  have hj10 : decide ((j1 : Int) < 0) = false := by simp
  obtain ⟨hj1, hcm, hrr⟩ := drop_cons hr1.symm
  have h12 : (j1 : Int) < (s.size : Int) := by omega
  have hg1n : decide (s.size ≤ j1) = false := by simp; omega
  have hg1m : ¬ s.size ≤ j1 := by omega
  have hcm' := hcm hj1
  have hw1 : wrap64 ((j1 : Int) + 1) = (j1 : Int) + 1 := by unfold wrap64; omega
  have H2 := Lib.hid (show ∀ W, Calls Try.prog 17 #[.string s, .int .i64 ((j1 : Int) + 1), .int .i64 (dd - 1)] W (PsP s d (s.data.toList.drop (j1 + 1)) W) from fun W => by rw [show ((j1 : Int) + 1) = ((j1 + 1 : Nat) : Int) by omega]; exact HIH.out (j1 + 1) W)
  have HRR := Lib.hid hrr
  have HCM := Lib.hid hcm
  clear hr1 hrr hcm
  go_wp2_with fail
  refine (H2.out _).mono ?_
  rintro e w2 ⟨k2, a2, n2, q2, nx2, rfl, hb2, hm2⟩
  replace hZ := blk_below (blk_below hZ (bal1 (o := .cells #[.int .i64 k1, .slice a1 n1 q1] 24))) hb2
  have hV : w2.heap[w1.heap.size]? = some (.cells #[.int .i64 k1, .slice a1 n1 q1] 24 (0, 0)) := blk_below (blk_new rfl) hb2
  have HB2 := Lib.hid (bstep HB1.out (bstep (bal1 (o := .cells #[.int .i64 k1, .slice a1 n1 q1] 24)) hb2))
  have HB12 := Lib.hid (bstep (bal1 (w := w1) (o := .cells #[.int .i64 k1, .slice a1 n1 q1] 24)) hb2)
  have hz2 := hb2.size
  simp only [World.size_alloc] at hz2
  clear hb2 H2
  rw [← HRR.out] at hm2
  have hm := hm2 _ rfl
  rw [HP2.out] at hm
  clear hm2
  subst hm
  have z0 : w2.cell? ⟨w.heap.size, 0, none⟩ = some (.int .i64 0) := blk_cell hZ rfl
  have z1 : w2.cell? ⟨w.heap.size, 1, none⟩ = some (.slice none 0 0) := blk_cell hZ rfl
  have zf0 : w2.frozen? ⟨w.heap.size, 0, none⟩ = false := blk_fro hZ 0
  have zf1 : w2.frozen? ⟨w.heap.size, 1, none⟩ = false := blk_fro hZ 1
  have lz := blk_lt hZ
  have lzz : w.heap.size < w2.heap.size + 1 := by omega
  go_wp2_with fail
  have hY : (((w2.setCell ⟨w.heap.size, 0, none⟩ (.int .i64 0)).setCell ⟨w.heap.size, 1, none⟩ (.slice none 0 0)).alloc (.cells #[.int .i64 k2, .slice a2 n2 q2] 24)).heap[w.heap.size]? = some (.cells #[.int .i64 0, .slice none 0 0] 24 (0, 0)) := blk_below (show ((w2.setCell ⟨w.heap.size, 0, none⟩ (.int .i64 0)).setCell ⟨w.heap.size, 1, none⟩ (.slice none 0 0)).heap[w.heap.size]? = some (.cells #[.int .i64 0, .slice none 0 0] 24 (0, 0)) from blk_set (blk_set hZ (rfl : (#[Value.int .i64 0, .slice none 0 0] : Array Value).setIfInBounds 0 (.int .i64 0) = #[.int .i64 0, .slice none 0 0])) rfl) bal1
  have rc0 := blk_cell hY (o := 0) rfl
  have rc1 := blk_cell hY (o := 1) rfl
  refine bodyPost_ret (v := .tuple #[.agg #[.int .i64 0, .slice none 0 0], .int .i64 (-1)]) (by simp [results, Try.results17, go_sem, rc0, rc1]) rfl ?_
  refine ⟨_, _, _, _, _, rfl, bstep ((HB2.out.setCell (p := ⟨w.heap.size, 0, none⟩) (by show w.heap.size ≤ w.heap.size; omega) _).setCell (p := ⟨w.heap.size, 1, none⟩) (by show w.heap.size ≤ w.heap.size; omega) _) bal1, ?_⟩
  rintro o rfl
  rw [HL.out]
  unfold ps
  rw [if_pos rfl, HP1.out]
  dsimp only
  rw [kindV_62, if_pos (by omega), HP2.out]
set_option maxHeartbeats 8000000 in
theorem specParsePe62 (s : ByteArray) (at_ : Nat) (dd : Int) (d : Nat) (cs : List UInt8) (w : World) (IH : ∀ (j : Nat) (W : World), Calls Try.prog 17 #[.string s, .int .i64 j, .int .i64 (dd - 1)] W (PsP s d (s.data.toList.drop j) W)) (hd : decide (dd < 1) = false) (hd9 : 1 ≤ dd ∧ dd ≤ 9) (hsz : s.size ≤ 1048576) (hl : s.data.toList.drop at_ = 40 :: cs) (ta : Ty) (r : List UInt8) (hp1 : ps d cs = some (ta, 62 :: r)) (tb : Ty) (hp2 : ps d r = some (tb, [])) : Calls Try.prog 17 #[.string s, .int .i64 at_, .int .i64 dd] w (PsP s (d + 1) (s.data.toList.drop at_) w) := by
  obtain ⟨hj, hc, hcs⟩ := drop_cons hl
  have h0 : decide ((at_ : Int) < 0) = false := by simp
  have h2 : (at_ : Int) < (s.size : Int) := by omega
  have hcv := hc hj
  have hw : wrap64 ((at_ : Int) + 1) = (at_ : Int) + 1 := by unfold wrap64; omega
  have hwd : wrap64 (dd - 1) = dd - 1 := by unfold wrap64; omega
  have HL := Lib.hid hl
  have HCS := Lib.hid hcs
  have HIH := Lib.hid IH
  have HP1 := Lib.hid hp1
  have H1 := Lib.hid (show ∀ W, Calls Try.prog 17 #[.string s, .int .i64 ((at_ : Int) + 1), .int .i64 (dd - 1)] W (PsP s d (s.data.toList.drop (at_ + 1)) W) from fun W => by rw [show ((at_ : Int) + 1) = ((at_ + 1 : Nat) : Int) by omega]; exact IH (at_ + 1) W)
  have hZ : (w.alloc (.cells #[.int .i64 0, .slice none 0 0] 24)).heap[w.heap.size]? = some (.cells #[.int .i64 0, .slice none 0 0] 24 (0, 0)) := blk_new rfl
  clear hl hcs hc IH hp1
  have HP2 := Lib.hid hp2
  clear hp2
  go_enter Try.func17, Try.ntmps17
  go_wp2_with fail
  refine (H1.out _).mono ?_
  rintro e w1 ⟨k1, a1, n1, q1, nx1, rfl, hb1, hm1⟩
  replace hZ := blk_below hZ hb1
  have HB1 := Lib.hid (bstep bal1 hb1)
  have hz1 := hb1.size
  simp only [World.size_alloc] at hz1
  clear hb1 H1
  rw [← HCS.out] at hm1
  have hm := hm1 _ rfl
  rw [HP1.out] at hm
  clear hm1
  obtain ⟨⟨j1, rfl, hjs1, hr1⟩, hta⟩ := hm
  have HTA := Lib.hid hta
  clear hta
  have hj10 : decide ((j1 : Int) < 0) = false := by simp
  obtain ⟨hj1, hcm, hrr⟩ := drop_cons hr1.symm
  have h12 : (j1 : Int) < (s.size : Int) := by omega
  have hg1n : decide (s.size ≤ j1) = false := by simp; omega
  have hg1m : ¬ s.size ≤ j1 := by omega
  have hcm' := hcm hj1
  have hw1 : wrap64 ((j1 : Int) + 1) = (j1 : Int) + 1 := by unfold wrap64; omega
  have H2 := Lib.hid (show ∀ W, Calls Try.prog 17 #[.string s, .int .i64 ((j1 : Int) + 1), .int .i64 (dd - 1)] W (PsP s d (s.data.toList.drop (j1 + 1)) W) from fun W => by rw [show ((j1 : Int) + 1) = ((j1 + 1 : Nat) : Int) by omega]; exact HIH.out (j1 + 1) W)
  have HRR := Lib.hid hrr
  have HCM := Lib.hid hcm
  clear hr1 hrr hcm
  go_wp2_with fail
  refine (H2.out _).mono ?_
  rintro e w2 ⟨k2, a2, n2, q2, nx2, rfl, hb2, hm2⟩
  replace hZ := blk_below (blk_below hZ (bal1 (o := .cells #[.int .i64 k1, .slice a1 n1 q1] 24))) hb2
  have hV : w2.heap[w1.heap.size]? = some (.cells #[.int .i64 k1, .slice a1 n1 q1] 24 (0, 0)) := blk_below (blk_new rfl) hb2
  have HB2 := Lib.hid (bstep HB1.out (bstep (bal1 (o := .cells #[.int .i64 k1, .slice a1 n1 q1] 24)) hb2))
  have HB12 := Lib.hid (bstep (bal1 (w := w1) (o := .cells #[.int .i64 k1, .slice a1 n1 q1] 24)) hb2)
  have hz2 := hb2.size
  simp only [World.size_alloc] at hz2
  clear hb2 H2
  rw [← HRR.out] at hm2
  have hm := hm2 _ rfl
  rw [HP2.out] at hm
  clear hm2
  obtain ⟨⟨j2, rfl, hjs2, hr2⟩, htb⟩ := hm
  have HTB := Lib.hid htb
  clear htb
  have hj20 : decide ((j2 : Int) < 0) = false := by simp
  have hge := drop_nil hr2.symm
  have hg2 : decide ((j2 : Int) ≥ (s.size : Int)) = true := by simp; omega
  have HR2 := Lib.hid hr2
  clear hr2
  have z0 : w2.cell? ⟨w.heap.size, 0, none⟩ = some (.int .i64 0) := blk_cell hZ rfl
  have z1 : w2.cell? ⟨w.heap.size, 1, none⟩ = some (.slice none 0 0) := blk_cell hZ rfl
  have zf0 : w2.frozen? ⟨w.heap.size, 0, none⟩ = false := blk_fro hZ 0
  have zf1 : w2.frozen? ⟨w.heap.size, 1, none⟩ = false := blk_fro hZ 1
  have lz := blk_lt hZ
  have lzz : w.heap.size < w2.heap.size + 1 := by omega
  go_wp2_with fail
  have hY : (((w2.setCell ⟨w.heap.size, 0, none⟩ (.int .i64 0)).setCell ⟨w.heap.size, 1, none⟩ (.slice none 0 0)).alloc (.cells #[.int .i64 k2, .slice a2 n2 q2] 24)).heap[w.heap.size]? = some (.cells #[.int .i64 0, .slice none 0 0] 24 (0, 0)) := blk_below (show ((w2.setCell ⟨w.heap.size, 0, none⟩ (.int .i64 0)).setCell ⟨w.heap.size, 1, none⟩ (.slice none 0 0)).heap[w.heap.size]? = some (.cells #[.int .i64 0, .slice none 0 0] 24 (0, 0)) from blk_set (blk_set hZ (rfl : (#[Value.int .i64 0, .slice none 0 0] : Array Value).setIfInBounds 0 (.int .i64 0) = #[.int .i64 0, .slice none 0 0])) rfl) bal1
  have rc0 := blk_cell hY (o := 0) rfl
  have rc1 := blk_cell hY (o := 1) rfl
  refine bodyPost_ret (v := .tuple #[.agg #[.int .i64 0, .slice none 0 0], .int .i64 (-1)]) (by simp [results, Try.results17, go_sem, rc0, rc1]) rfl ?_
  refine ⟨_, _, _, _, _, rfl, bstep ((HB2.out.setCell (p := ⟨w.heap.size, 0, none⟩) (by show w.heap.size ≤ w.heap.size; omega) _).setCell (p := ⟨w.heap.size, 1, none⟩) (by show w.heap.size ≤ w.heap.size; omega) _) bal1, ?_⟩
  rintro o rfl
  rw [HL.out]
  unfold ps
  rw [if_pos rfl, HP1.out]
  dsimp only
  rw [kindV_62, if_pos (by omega), HP2.out]
set_option maxHeartbeats 8000000 in
theorem specParsePx62 (s : ByteArray) (at_ : Nat) (dd : Int) (d : Nat) (cs : List UInt8) (w : World) (IH : ∀ (j : Nat) (W : World), Calls Try.prog 17 #[.string s, .int .i64 j, .int .i64 (dd - 1)] W (PsP s d (s.data.toList.drop j) W)) (hd : decide (dd < 1) = false) (hd9 : 1 ≤ dd ∧ dd ≤ 9) (hsz : s.size ≤ 1048576) (hl : s.data.toList.drop at_ = 40 :: cs) (ta : Ty) (r : List UInt8) (hp1 : ps d cs = some (ta, 62 :: r)) (tb : Ty) (c5 : UInt8) (r5 : List UInt8) (hp2 : ps d r = some (tb, c5 :: r5)) (c41 : c5 ≠ 41) : Calls Try.prog 17 #[.string s, .int .i64 at_, .int .i64 dd] w (PsP s (d + 1) (s.data.toList.drop at_) w) := by
  obtain ⟨hj, hc, hcs⟩ := drop_cons hl
  have h0 : decide ((at_ : Int) < 0) = false := by simp
  have h2 : (at_ : Int) < (s.size : Int) := by omega
  have hcv := hc hj
  have hw : wrap64 ((at_ : Int) + 1) = (at_ : Int) + 1 := by unfold wrap64; omega
  have hwd : wrap64 (dd - 1) = dd - 1 := by unfold wrap64; omega
  have HL := Lib.hid hl
  have HCS := Lib.hid hcs
  have HIH := Lib.hid IH
  have HP1 := Lib.hid hp1
  have H1 := Lib.hid (show ∀ W, Calls Try.prog 17 #[.string s, .int .i64 ((at_ : Int) + 1), .int .i64 (dd - 1)] W (PsP s d (s.data.toList.drop (at_ + 1)) W) from fun W => by rw [show ((at_ : Int) + 1) = ((at_ + 1 : Nat) : Int) by omega]; exact IH (at_ + 1) W)
  have hZ : (w.alloc (.cells #[.int .i64 0, .slice none 0 0] 24)).heap[w.heap.size]? = some (.cells #[.int .i64 0, .slice none 0 0] 24 (0, 0)) := blk_new rfl
  clear hl hcs hc IH hp1
  have HP2 := Lib.hid hp2
  clear hp2
  go_enter Try.func17, Try.ntmps17
  go_wp2_with fail
  refine (H1.out _).mono ?_
  rintro e w1 ⟨k1, a1, n1, q1, nx1, rfl, hb1, hm1⟩
  replace hZ := blk_below hZ hb1
  have HB1 := Lib.hid (bstep bal1 hb1)
  have hz1 := hb1.size
  simp only [World.size_alloc] at hz1
  clear hb1 H1
  rw [← HCS.out] at hm1
  have hm := hm1 _ rfl
  rw [HP1.out] at hm
  clear hm1
  obtain ⟨⟨j1, rfl, hjs1, hr1⟩, hta⟩ := hm
  have HTA := Lib.hid hta
  clear hta
  have hj10 : decide ((j1 : Int) < 0) = false := by simp
  obtain ⟨hj1, hcm, hrr⟩ := drop_cons hr1.symm
  have h12 : (j1 : Int) < (s.size : Int) := by omega
  have hg1n : decide (s.size ≤ j1) = false := by simp; omega
  have hg1m : ¬ s.size ≤ j1 := by omega
  have hcm' := hcm hj1
  have hw1 : wrap64 ((j1 : Int) + 1) = (j1 : Int) + 1 := by unfold wrap64; omega
  have H2 := Lib.hid (show ∀ W, Calls Try.prog 17 #[.string s, .int .i64 ((j1 : Int) + 1), .int .i64 (dd - 1)] W (PsP s d (s.data.toList.drop (j1 + 1)) W) from fun W => by rw [show ((j1 : Int) + 1) = ((j1 + 1 : Nat) : Int) by omega]; exact HIH.out (j1 + 1) W)
  have HRR := Lib.hid hrr
  have HCM := Lib.hid hcm
  clear hr1 hrr hcm
  go_wp2_with fail
  refine (H2.out _).mono ?_
  rintro e w2 ⟨k2, a2, n2, q2, nx2, rfl, hb2, hm2⟩
  replace hZ := blk_below (blk_below hZ (bal1 (o := .cells #[.int .i64 k1, .slice a1 n1 q1] 24))) hb2
  have hV : w2.heap[w1.heap.size]? = some (.cells #[.int .i64 k1, .slice a1 n1 q1] 24 (0, 0)) := blk_below (blk_new rfl) hb2
  have HB2 := Lib.hid (bstep HB1.out (bstep (bal1 (o := .cells #[.int .i64 k1, .slice a1 n1 q1] 24)) hb2))
  have HB12 := Lib.hid (bstep (bal1 (w := w1) (o := .cells #[.int .i64 k1, .slice a1 n1 q1] 24)) hb2)
  have hz2 := hb2.size
  simp only [World.size_alloc] at hz2
  clear hb2 H2
  rw [← HRR.out] at hm2
  have hm := hm2 _ rfl
  rw [HP2.out] at hm
  clear hm2
  obtain ⟨⟨j2, rfl, hjs2, hr2⟩, htb⟩ := hm
  have HTB := Lib.hid htb
  clear htb
  have hj20 : decide ((j2 : Int) < 0) = false := by simp
  obtain ⟨hj2, hc5, hr5⟩ := drop_cons hr2.symm
  have h22 : (j2 : Int) < (s.size : Int) := by omega
  have hg2n : decide (s.size ≤ j2) = false := by simp; omega
  have hg2m : ¬ s.size ≤ j2 := by omega
  have hc5' := hc5 hj2
  have hw2 : wrap64 ((j2 : Int) + 1) = (j2 : Int) + 1 := by unfold wrap64; omega
  have HR5 := Lib.hid hr5
  clear hr2 hr5 hc5
  have e5 : ((c5.toNat : Int) == 41) = false := int_ne (b := 41) c41
  have e5' : ((c5.toNat : Int) != 41) = true := by simp only [bne, e5]; rfl
  have HC := Lib.hid c41
  clear c41
  have z0 : w2.cell? ⟨w.heap.size, 0, none⟩ = some (.int .i64 0) := blk_cell hZ rfl
  have z1 : w2.cell? ⟨w.heap.size, 1, none⟩ = some (.slice none 0 0) := blk_cell hZ rfl
  have zf0 : w2.frozen? ⟨w.heap.size, 0, none⟩ = false := blk_fro hZ 0
  have zf1 : w2.frozen? ⟨w.heap.size, 1, none⟩ = false := blk_fro hZ 1
  have lz := blk_lt hZ
  have lzz : w.heap.size < w2.heap.size + 1 := by omega
  go_wp2_with fail
  have hY : (((w2.setCell ⟨w.heap.size, 0, none⟩ (.int .i64 0)).setCell ⟨w.heap.size, 1, none⟩ (.slice none 0 0)).alloc (.cells #[.int .i64 k2, .slice a2 n2 q2] 24)).heap[w.heap.size]? = some (.cells #[.int .i64 0, .slice none 0 0] 24 (0, 0)) := blk_below (show ((w2.setCell ⟨w.heap.size, 0, none⟩ (.int .i64 0)).setCell ⟨w.heap.size, 1, none⟩ (.slice none 0 0)).heap[w.heap.size]? = some (.cells #[.int .i64 0, .slice none 0 0] 24 (0, 0)) from blk_set (blk_set hZ (rfl : (#[Value.int .i64 0, .slice none 0 0] : Array Value).setIfInBounds 0 (.int .i64 0) = #[.int .i64 0, .slice none 0 0])) rfl) bal1
  have rc0 := blk_cell hY (o := 0) rfl
  have rc1 := blk_cell hY (o := 1) rfl
  refine bodyPost_ret (v := .tuple #[.agg #[.int .i64 0, .slice none 0 0], .int .i64 (-1)]) (by simp [results, Try.results17, go_sem, rc0, rc1]) rfl ?_
  refine ⟨_, _, _, _, _, rfl, bstep ((HB2.out.setCell (p := ⟨w.heap.size, 0, none⟩) (by show w.heap.size ≤ w.heap.size; omega) _).setCell (p := ⟨w.heap.size, 1, none⟩) (by show w.heap.size ≤ w.heap.size; omega) _) bal1, ?_⟩
  rintro o rfl
  rw [HL.out]
  unfold ps
  rw [if_pos rfl, HP1.out]
  dsimp only
  rw [kindV_62, if_pos (by omega), HP2.out]
  dsimp only
  rw [if_neg HC.out]
set_option maxHeartbeats 8000000 in
theorem specParsePn42 (s : ByteArray) (at_ : Nat) (dd : Int) (d : Nat) (cs : List UInt8) (w : World) (IH : ∀ (j : Nat) (W : World), Calls Try.prog 17 #[.string s, .int .i64 j, .int .i64 (dd - 1)] W (PsP s d (s.data.toList.drop j) W)) (hd : decide (dd < 1) = false) (hd9 : 1 ≤ dd ∧ dd ≤ 9) (hsz : s.size ≤ 1048576) (hl : s.data.toList.drop at_ = 40 :: cs) (ta : Ty) (r : List UInt8) (hp1 : ps d cs = some (ta, 42 :: r)) (hp2 : ps d r = none) : Calls Try.prog 17 #[.string s, .int .i64 at_, .int .i64 dd] w (PsP s (d + 1) (s.data.toList.drop at_) w) := by
  obtain ⟨hj, hc, hcs⟩ := drop_cons hl
  have h0 : decide ((at_ : Int) < 0) = false := by simp
  have h2 : (at_ : Int) < (s.size : Int) := by omega
  have hcv := hc hj
  have hw : wrap64 ((at_ : Int) + 1) = (at_ : Int) + 1 := by unfold wrap64; omega
  have hwd : wrap64 (dd - 1) = dd - 1 := by unfold wrap64; omega
  have HL := Lib.hid hl
  have HCS := Lib.hid hcs
  have HIH := Lib.hid IH
  have HP1 := Lib.hid hp1
  have H1 := Lib.hid (show ∀ W, Calls Try.prog 17 #[.string s, .int .i64 ((at_ : Int) + 1), .int .i64 (dd - 1)] W (PsP s d (s.data.toList.drop (at_ + 1)) W) from fun W => by rw [show ((at_ : Int) + 1) = ((at_ + 1 : Nat) : Int) by omega]; exact IH (at_ + 1) W)
  have hZ : (w.alloc (.cells #[.int .i64 0, .slice none 0 0] 24)).heap[w.heap.size]? = some (.cells #[.int .i64 0, .slice none 0 0] 24 (0, 0)) := blk_new rfl
  clear hl hcs hc IH hp1
  have HP2 := Lib.hid hp2
  clear hp2
  go_enter Try.func17, Try.ntmps17
  go_wp2_with fail
  refine (H1.out _).mono ?_
  rintro e w1 ⟨k1, a1, n1, q1, nx1, rfl, hb1, hm1⟩
  replace hZ := blk_below hZ hb1
  have HB1 := Lib.hid (bstep bal1 hb1)
  have hz1 := hb1.size
  simp only [World.size_alloc] at hz1
  clear hb1 H1
  rw [← HCS.out] at hm1
  have hm := hm1 _ rfl
  rw [HP1.out] at hm
  clear hm1
  obtain ⟨⟨j1, rfl, hjs1, hr1⟩, hta⟩ := hm
  have HTA := Lib.hid hta
  clear hta
  have hj10 : decide ((j1 : Int) < 0) = false := by simp
  obtain ⟨hj1, hcm, hrr⟩ := drop_cons hr1.symm
  have h12 : (j1 : Int) < (s.size : Int) := by omega
  have hg1n : decide (s.size ≤ j1) = false := by simp; omega
  have hg1m : ¬ s.size ≤ j1 := by omega
  have hcm' := hcm hj1
  have hw1 : wrap64 ((j1 : Int) + 1) = (j1 : Int) + 1 := by unfold wrap64; omega
  have H2 := Lib.hid (show ∀ W, Calls Try.prog 17 #[.string s, .int .i64 ((j1 : Int) + 1), .int .i64 (dd - 1)] W (PsP s d (s.data.toList.drop (j1 + 1)) W) from fun W => by rw [show ((j1 : Int) + 1) = ((j1 + 1 : Nat) : Int) by omega]; exact HIH.out (j1 + 1) W)
  have HRR := Lib.hid hrr
  have HCM := Lib.hid hcm
  clear hr1 hrr hcm
  go_wp2_with fail
  refine (H2.out _).mono ?_
  rintro e w2 ⟨k2, a2, n2, q2, nx2, rfl, hb2, hm2⟩
  replace hZ := blk_below (blk_below hZ (bal1 (o := .cells #[.int .i64 k1, .slice a1 n1 q1] 24))) hb2
  have hV : w2.heap[w1.heap.size]? = some (.cells #[.int .i64 k1, .slice a1 n1 q1] 24 (0, 0)) := blk_below (blk_new rfl) hb2
  have HB2 := Lib.hid (bstep HB1.out (bstep (bal1 (o := .cells #[.int .i64 k1, .slice a1 n1 q1] 24)) hb2))
  have HB12 := Lib.hid (bstep (bal1 (w := w1) (o := .cells #[.int .i64 k1, .slice a1 n1 q1] 24)) hb2)
  have hz2 := hb2.size
  simp only [World.size_alloc] at hz2
  clear hb2 H2
  rw [← HRR.out] at hm2
  have hm := hm2 _ rfl
  rw [HP2.out] at hm
  clear hm2
  subst hm
  have z0 : w2.cell? ⟨w.heap.size, 0, none⟩ = some (.int .i64 0) := blk_cell hZ rfl
  have z1 : w2.cell? ⟨w.heap.size, 1, none⟩ = some (.slice none 0 0) := blk_cell hZ rfl
  have zf0 : w2.frozen? ⟨w.heap.size, 0, none⟩ = false := blk_fro hZ 0
  have zf1 : w2.frozen? ⟨w.heap.size, 1, none⟩ = false := blk_fro hZ 1
  have lz := blk_lt hZ
  have lzz : w.heap.size < w2.heap.size + 1 := by omega
  go_wp2_with fail
  have hY : (((w2.setCell ⟨w.heap.size, 0, none⟩ (.int .i64 0)).setCell ⟨w.heap.size, 1, none⟩ (.slice none 0 0)).alloc (.cells #[.int .i64 k2, .slice a2 n2 q2] 24)).heap[w.heap.size]? = some (.cells #[.int .i64 0, .slice none 0 0] 24 (0, 0)) := blk_below (show ((w2.setCell ⟨w.heap.size, 0, none⟩ (.int .i64 0)).setCell ⟨w.heap.size, 1, none⟩ (.slice none 0 0)).heap[w.heap.size]? = some (.cells #[.int .i64 0, .slice none 0 0] 24 (0, 0)) from blk_set (blk_set hZ (rfl : (#[Value.int .i64 0, .slice none 0 0] : Array Value).setIfInBounds 0 (.int .i64 0) = #[.int .i64 0, .slice none 0 0])) rfl) bal1
  have rc0 := blk_cell hY (o := 0) rfl
  have rc1 := blk_cell hY (o := 1) rfl
  refine bodyPost_ret (v := .tuple #[.agg #[.int .i64 0, .slice none 0 0], .int .i64 (-1)]) (by simp [results, Try.results17, go_sem, rc0, rc1]) rfl ?_
  refine ⟨_, _, _, _, _, rfl, bstep ((HB2.out.setCell (p := ⟨w.heap.size, 0, none⟩) (by show w.heap.size ≤ w.heap.size; omega) _).setCell (p := ⟨w.heap.size, 1, none⟩) (by show w.heap.size ≤ w.heap.size; omega) _) bal1, ?_⟩
  rintro o rfl
  rw [HL.out]
  unfold ps
  rw [if_pos rfl, HP1.out]
  dsimp only
  rw [kindV_42, if_pos (by omega), HP2.out]
set_option maxHeartbeats 8000000 in
theorem specParsePe42 (s : ByteArray) (at_ : Nat) (dd : Int) (d : Nat) (cs : List UInt8) (w : World) (IH : ∀ (j : Nat) (W : World), Calls Try.prog 17 #[.string s, .int .i64 j, .int .i64 (dd - 1)] W (PsP s d (s.data.toList.drop j) W)) (hd : decide (dd < 1) = false) (hd9 : 1 ≤ dd ∧ dd ≤ 9) (hsz : s.size ≤ 1048576) (hl : s.data.toList.drop at_ = 40 :: cs) (ta : Ty) (r : List UInt8) (hp1 : ps d cs = some (ta, 42 :: r)) (tb : Ty) (hp2 : ps d r = some (tb, [])) : Calls Try.prog 17 #[.string s, .int .i64 at_, .int .i64 dd] w (PsP s (d + 1) (s.data.toList.drop at_) w) := by
  obtain ⟨hj, hc, hcs⟩ := drop_cons hl
  have h0 : decide ((at_ : Int) < 0) = false := by simp
  have h2 : (at_ : Int) < (s.size : Int) := by omega
  have hcv := hc hj
  have hw : wrap64 ((at_ : Int) + 1) = (at_ : Int) + 1 := by unfold wrap64; omega
  have hwd : wrap64 (dd - 1) = dd - 1 := by unfold wrap64; omega
  have HL := Lib.hid hl
  have HCS := Lib.hid hcs
  have HIH := Lib.hid IH
  have HP1 := Lib.hid hp1
  have H1 := Lib.hid (show ∀ W, Calls Try.prog 17 #[.string s, .int .i64 ((at_ : Int) + 1), .int .i64 (dd - 1)] W (PsP s d (s.data.toList.drop (at_ + 1)) W) from fun W => by rw [show ((at_ : Int) + 1) = ((at_ + 1 : Nat) : Int) by omega]; exact IH (at_ + 1) W)
  have hZ : (w.alloc (.cells #[.int .i64 0, .slice none 0 0] 24)).heap[w.heap.size]? = some (.cells #[.int .i64 0, .slice none 0 0] 24 (0, 0)) := blk_new rfl
  clear hl hcs hc IH hp1
  have HP2 := Lib.hid hp2
  clear hp2
  go_enter Try.func17, Try.ntmps17
  go_wp2_with fail
  refine (H1.out _).mono ?_
  rintro e w1 ⟨k1, a1, n1, q1, nx1, rfl, hb1, hm1⟩
  replace hZ := blk_below hZ hb1
  have HB1 := Lib.hid (bstep bal1 hb1)
  have hz1 := hb1.size
  simp only [World.size_alloc] at hz1
  clear hb1 H1
  rw [← HCS.out] at hm1
  have hm := hm1 _ rfl
  rw [HP1.out] at hm
  clear hm1
  obtain ⟨⟨j1, rfl, hjs1, hr1⟩, hta⟩ := hm
  have HTA := Lib.hid hta
  clear hta
  have hj10 : decide ((j1 : Int) < 0) = false := by simp
  obtain ⟨hj1, hcm, hrr⟩ := drop_cons hr1.symm
  have h12 : (j1 : Int) < (s.size : Int) := by omega
  have hg1n : decide (s.size ≤ j1) = false := by simp; omega
  have hg1m : ¬ s.size ≤ j1 := by omega
  have hcm' := hcm hj1
  have hw1 : wrap64 ((j1 : Int) + 1) = (j1 : Int) + 1 := by unfold wrap64; omega
  have H2 := Lib.hid (show ∀ W, Calls Try.prog 17 #[.string s, .int .i64 ((j1 : Int) + 1), .int .i64 (dd - 1)] W (PsP s d (s.data.toList.drop (j1 + 1)) W) from fun W => by rw [show ((j1 : Int) + 1) = ((j1 + 1 : Nat) : Int) by omega]; exact HIH.out (j1 + 1) W)
  have HRR := Lib.hid hrr
  have HCM := Lib.hid hcm
  clear hr1 hrr hcm
  go_wp2_with fail
  refine (H2.out _).mono ?_
  rintro e w2 ⟨k2, a2, n2, q2, nx2, rfl, hb2, hm2⟩
  replace hZ := blk_below (blk_below hZ (bal1 (o := .cells #[.int .i64 k1, .slice a1 n1 q1] 24))) hb2
  have hV : w2.heap[w1.heap.size]? = some (.cells #[.int .i64 k1, .slice a1 n1 q1] 24 (0, 0)) := blk_below (blk_new rfl) hb2
  have HB2 := Lib.hid (bstep HB1.out (bstep (bal1 (o := .cells #[.int .i64 k1, .slice a1 n1 q1] 24)) hb2))
  have HB12 := Lib.hid (bstep (bal1 (w := w1) (o := .cells #[.int .i64 k1, .slice a1 n1 q1] 24)) hb2)
  have hz2 := hb2.size
  simp only [World.size_alloc] at hz2
  clear hb2 H2
  rw [← HRR.out] at hm2
  have hm := hm2 _ rfl
  rw [HP2.out] at hm
  clear hm2
  obtain ⟨⟨j2, rfl, hjs2, hr2⟩, htb⟩ := hm
  have HTB := Lib.hid htb
  clear htb
  have hj20 : decide ((j2 : Int) < 0) = false := by simp
  have hge := drop_nil hr2.symm
  have hg2 : decide ((j2 : Int) ≥ (s.size : Int)) = true := by simp; omega
  have HR2 := Lib.hid hr2
  clear hr2
  have z0 : w2.cell? ⟨w.heap.size, 0, none⟩ = some (.int .i64 0) := blk_cell hZ rfl
  have z1 : w2.cell? ⟨w.heap.size, 1, none⟩ = some (.slice none 0 0) := blk_cell hZ rfl
  have zf0 : w2.frozen? ⟨w.heap.size, 0, none⟩ = false := blk_fro hZ 0
  have zf1 : w2.frozen? ⟨w.heap.size, 1, none⟩ = false := blk_fro hZ 1
  have lz := blk_lt hZ
  have lzz : w.heap.size < w2.heap.size + 1 := by omega
  go_wp2_with fail
  have hY : (((w2.setCell ⟨w.heap.size, 0, none⟩ (.int .i64 0)).setCell ⟨w.heap.size, 1, none⟩ (.slice none 0 0)).alloc (.cells #[.int .i64 k2, .slice a2 n2 q2] 24)).heap[w.heap.size]? = some (.cells #[.int .i64 0, .slice none 0 0] 24 (0, 0)) := blk_below (show ((w2.setCell ⟨w.heap.size, 0, none⟩ (.int .i64 0)).setCell ⟨w.heap.size, 1, none⟩ (.slice none 0 0)).heap[w.heap.size]? = some (.cells #[.int .i64 0, .slice none 0 0] 24 (0, 0)) from blk_set (blk_set hZ (rfl : (#[Value.int .i64 0, .slice none 0 0] : Array Value).setIfInBounds 0 (.int .i64 0) = #[.int .i64 0, .slice none 0 0])) rfl) bal1
  have rc0 := blk_cell hY (o := 0) rfl
  have rc1 := blk_cell hY (o := 1) rfl
  refine bodyPost_ret (v := .tuple #[.agg #[.int .i64 0, .slice none 0 0], .int .i64 (-1)]) (by simp [results, Try.results17, go_sem, rc0, rc1]) rfl ?_
  refine ⟨_, _, _, _, _, rfl, bstep ((HB2.out.setCell (p := ⟨w.heap.size, 0, none⟩) (by show w.heap.size ≤ w.heap.size; omega) _).setCell (p := ⟨w.heap.size, 1, none⟩) (by show w.heap.size ≤ w.heap.size; omega) _) bal1, ?_⟩
  rintro o rfl
  rw [HL.out]
  unfold ps
  rw [if_pos rfl, HP1.out]
  dsimp only
  rw [kindV_42, if_pos (by omega), HP2.out]
set_option maxHeartbeats 8000000 in
theorem specParsePx42 (s : ByteArray) (at_ : Nat) (dd : Int) (d : Nat) (cs : List UInt8) (w : World) (IH : ∀ (j : Nat) (W : World), Calls Try.prog 17 #[.string s, .int .i64 j, .int .i64 (dd - 1)] W (PsP s d (s.data.toList.drop j) W)) (hd : decide (dd < 1) = false) (hd9 : 1 ≤ dd ∧ dd ≤ 9) (hsz : s.size ≤ 1048576) (hl : s.data.toList.drop at_ = 40 :: cs) (ta : Ty) (r : List UInt8) (hp1 : ps d cs = some (ta, 42 :: r)) (tb : Ty) (c5 : UInt8) (r5 : List UInt8) (hp2 : ps d r = some (tb, c5 :: r5)) (c41 : c5 ≠ 41) : Calls Try.prog 17 #[.string s, .int .i64 at_, .int .i64 dd] w (PsP s (d + 1) (s.data.toList.drop at_) w) := by
  obtain ⟨hj, hc, hcs⟩ := drop_cons hl
  have h0 : decide ((at_ : Int) < 0) = false := by simp
  have h2 : (at_ : Int) < (s.size : Int) := by omega
  have hcv := hc hj
  have hw : wrap64 ((at_ : Int) + 1) = (at_ : Int) + 1 := by unfold wrap64; omega
  have hwd : wrap64 (dd - 1) = dd - 1 := by unfold wrap64; omega
  have HL := Lib.hid hl
  have HCS := Lib.hid hcs
  have HIH := Lib.hid IH
  have HP1 := Lib.hid hp1
  have H1 := Lib.hid (show ∀ W, Calls Try.prog 17 #[.string s, .int .i64 ((at_ : Int) + 1), .int .i64 (dd - 1)] W (PsP s d (s.data.toList.drop (at_ + 1)) W) from fun W => by rw [show ((at_ : Int) + 1) = ((at_ + 1 : Nat) : Int) by omega]; exact IH (at_ + 1) W)
  have hZ : (w.alloc (.cells #[.int .i64 0, .slice none 0 0] 24)).heap[w.heap.size]? = some (.cells #[.int .i64 0, .slice none 0 0] 24 (0, 0)) := blk_new rfl
  clear hl hcs hc IH hp1
  have HP2 := Lib.hid hp2
  clear hp2
  go_enter Try.func17, Try.ntmps17
  go_wp2_with fail
  refine (H1.out _).mono ?_
  rintro e w1 ⟨k1, a1, n1, q1, nx1, rfl, hb1, hm1⟩
  replace hZ := blk_below hZ hb1
  have HB1 := Lib.hid (bstep bal1 hb1)
  have hz1 := hb1.size
  simp only [World.size_alloc] at hz1
  clear hb1 H1
  rw [← HCS.out] at hm1
  have hm := hm1 _ rfl
  rw [HP1.out] at hm
  clear hm1
  obtain ⟨⟨j1, rfl, hjs1, hr1⟩, hta⟩ := hm
  have HTA := Lib.hid hta
  clear hta
  have hj10 : decide ((j1 : Int) < 0) = false := by simp
  obtain ⟨hj1, hcm, hrr⟩ := drop_cons hr1.symm
  have h12 : (j1 : Int) < (s.size : Int) := by omega
  have hg1n : decide (s.size ≤ j1) = false := by simp; omega
  have hg1m : ¬ s.size ≤ j1 := by omega
  have hcm' := hcm hj1
  have hw1 : wrap64 ((j1 : Int) + 1) = (j1 : Int) + 1 := by unfold wrap64; omega
  have H2 := Lib.hid (show ∀ W, Calls Try.prog 17 #[.string s, .int .i64 ((j1 : Int) + 1), .int .i64 (dd - 1)] W (PsP s d (s.data.toList.drop (j1 + 1)) W) from fun W => by rw [show ((j1 : Int) + 1) = ((j1 + 1 : Nat) : Int) by omega]; exact HIH.out (j1 + 1) W)
  have HRR := Lib.hid hrr
  have HCM := Lib.hid hcm
  clear hr1 hrr hcm
  go_wp2_with fail
  refine (H2.out _).mono ?_
  rintro e w2 ⟨k2, a2, n2, q2, nx2, rfl, hb2, hm2⟩
  replace hZ := blk_below (blk_below hZ (bal1 (o := .cells #[.int .i64 k1, .slice a1 n1 q1] 24))) hb2
  have hV : w2.heap[w1.heap.size]? = some (.cells #[.int .i64 k1, .slice a1 n1 q1] 24 (0, 0)) := blk_below (blk_new rfl) hb2
  have HB2 := Lib.hid (bstep HB1.out (bstep (bal1 (o := .cells #[.int .i64 k1, .slice a1 n1 q1] 24)) hb2))
  have HB12 := Lib.hid (bstep (bal1 (w := w1) (o := .cells #[.int .i64 k1, .slice a1 n1 q1] 24)) hb2)
  have hz2 := hb2.size
  simp only [World.size_alloc] at hz2
  clear hb2 H2
  rw [← HRR.out] at hm2
  have hm := hm2 _ rfl
  rw [HP2.out] at hm
  clear hm2
  obtain ⟨⟨j2, rfl, hjs2, hr2⟩, htb⟩ := hm
  have HTB := Lib.hid htb
  clear htb
  have hj20 : decide ((j2 : Int) < 0) = false := by simp
  obtain ⟨hj2, hc5, hr5⟩ := drop_cons hr2.symm
  have h22 : (j2 : Int) < (s.size : Int) := by omega
  have hg2n : decide (s.size ≤ j2) = false := by simp; omega
  have hg2m : ¬ s.size ≤ j2 := by omega
  have hc5' := hc5 hj2
  have hw2 : wrap64 ((j2 : Int) + 1) = (j2 : Int) + 1 := by unfold wrap64; omega
  have HR5 := Lib.hid hr5
  clear hr2 hr5 hc5
  have e5 : ((c5.toNat : Int) == 41) = false := int_ne (b := 41) c41
  have e5' : ((c5.toNat : Int) != 41) = true := by simp only [bne, e5]; rfl
  have HC := Lib.hid c41
  clear c41
  have z0 : w2.cell? ⟨w.heap.size, 0, none⟩ = some (.int .i64 0) := blk_cell hZ rfl
  have z1 : w2.cell? ⟨w.heap.size, 1, none⟩ = some (.slice none 0 0) := blk_cell hZ rfl
  have zf0 : w2.frozen? ⟨w.heap.size, 0, none⟩ = false := blk_fro hZ 0
  have zf1 : w2.frozen? ⟨w.heap.size, 1, none⟩ = false := blk_fro hZ 1
  have lz := blk_lt hZ
  have lzz : w.heap.size < w2.heap.size + 1 := by omega
  go_wp2_with fail
  have hY : (((w2.setCell ⟨w.heap.size, 0, none⟩ (.int .i64 0)).setCell ⟨w.heap.size, 1, none⟩ (.slice none 0 0)).alloc (.cells #[.int .i64 k2, .slice a2 n2 q2] 24)).heap[w.heap.size]? = some (.cells #[.int .i64 0, .slice none 0 0] 24 (0, 0)) := blk_below (show ((w2.setCell ⟨w.heap.size, 0, none⟩ (.int .i64 0)).setCell ⟨w.heap.size, 1, none⟩ (.slice none 0 0)).heap[w.heap.size]? = some (.cells #[.int .i64 0, .slice none 0 0] 24 (0, 0)) from blk_set (blk_set hZ (rfl : (#[Value.int .i64 0, .slice none 0 0] : Array Value).setIfInBounds 0 (.int .i64 0) = #[.int .i64 0, .slice none 0 0])) rfl) bal1
  have rc0 := blk_cell hY (o := 0) rfl
  have rc1 := blk_cell hY (o := 1) rfl
  refine bodyPost_ret (v := .tuple #[.agg #[.int .i64 0, .slice none 0 0], .int .i64 (-1)]) (by simp [results, Try.results17, go_sem, rc0, rc1]) rfl ?_
  refine ⟨_, _, _, _, _, rfl, bstep ((HB2.out.setCell (p := ⟨w.heap.size, 0, none⟩) (by show w.heap.size ≤ w.heap.size; omega) _).setCell (p := ⟨w.heap.size, 1, none⟩) (by show w.heap.size ≤ w.heap.size; omega) _) bal1, ?_⟩
  rintro o rfl
  rw [HL.out]
  unfold ps
  rw [if_pos rfl, HP1.out]
  dsimp only
  rw [kindV_42, if_pos (by omega), HP2.out]
  dsimp only
  rw [if_neg HC.out]
end Go.Proofs.Ytikkneahhgmdjaa
