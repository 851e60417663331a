/-
  The reference's parser: a pair.
-/
import Derived.Test.YtikkneahhgmdjaaPrsS1
import Derived.Deep.DeepCutAuto

namespace Go.Proofs.Ytikkneahhgmdjaa
open Go.RowKit
set_option linter.unusedVariables false
set_option linter.unusedSimpArgs false
set_option maxRecDepth 100000

set_option maxHeartbeats 8000000 in
theorem specParsePs62 (s : ByteArray) (at_ : Nat) (dd : Int) (d : Nat) (cs : List UInt8) (w : World) (IH : ∀ (j : Nat) (W : World), Calls Try.prog 17 #[.string s, .int .i64 j, .int .i64 (dd - 1)] W (PsP s d (s.data.toList.drop j) W)) (hd : decide (dd < 1) = false) (hd9 : 1 ≤ dd ∧ dd ≤ 9) (hsz : s.size ≤ 1048576) (hl : s.data.toList.drop at_ = 40 :: cs) (ta : Ty) (r : List UInt8) (hp1 : ps d cs = some (ta, 62 :: r)) (tb : Ty) (c5 : UInt8) (r5 : List UInt8) (hp2 : ps d r = some (tb, c5 :: r5)) (c41 : c5 = 41) : Calls Try.prog 17 #[.string s, .int .i64 at_, .int .i64 dd] w (PsP s (d + 1) (s.data.toList.drop at_) w) := by
  obtain ⟨hj, hc, hcs⟩ := drop_cons hl
  have h0 : decide ((at_ : Int) < 0) = false := by simp
  have h2 : (at_ : Int) < (s.size : Int) := by omega
  have hcv := hc hj
  have hw : wrap64 ((at_ : Int) + 1) = (at_ : Int) + 1 := by unfold wrap64; omega
  have hwd : wrap64 (dd - 1) = dd - 1 := by unfold wrap64; omega
  have HL := Lib.hid hl
  have HCS := Lib.hid hcs
  have HIH := Lib.hid IH
  have HP1 := Lib.hid hp1
  have H1 := Lib.hid (show ∀ W, Calls Try.prog 17 #[.string s, .int .i64 ((at_ : Int) + 1), .int .i64 (dd - 1)] W (PsP s d (s.data.toList.drop (at_ + 1)) W) from fun W => by rw [show ((at_ : Int) + 1) = ((at_ + 1 : Nat) : Int) by omega]; exact IH (at_ + 1) W)
  have hZ : (w.alloc (.cells #[.int .i64 0, .slice none 0 0] 24)).heap[w.heap.size]? = some (.cells #[.int .i64 0, .slice none 0 0] 24 (0, 0)) := blk_new rfl
  clear hl hcs hc IH hp1
  have HP2 := Lib.hid hp2
  clear hp2
  go_enter Try.func17, Try.ntmps17
  go_wp2_with fail
  refine (H1.out _).mono ?_
  rintro e w1 ⟨k1, a1, n1, q1, nx1, rfl, hb1, hm1⟩
  replace hZ := blk_below hZ hb1
  have HB1 := Lib.hid (bstep bal1 hb1)
  have hz1 := hb1.size
  simp only [World.size_alloc] at hz1
  clear hb1 H1
  rw [← HCS.out] at hm1
  have hm := hm1 _ rfl
  rw [HP1.out] at hm
  clear hm1
  obtain ⟨⟨j1, rfl, hjs1, hr1⟩, hta⟩ := hm
  have HTA := Lib.hid hta
  clear hta
  have hj10 : decide ((j1 : Int) < 0) = false := by simp
  obtain ⟨hj1, hcm, hrr⟩ := drop_cons hr1.symm
  have h12 : (j1 : Int) < (s.size : Int) := by omega
  have hg1n : decide (s.size ≤ j1) = false := by simp; omega
  have hg1m : ¬ s.size ≤ j1 := by omega
  have hcm' := hcm hj1
  have hw1 : wrap64 ((j1 : Int) + 1) = (j1 : Int) + 1 := by unfold wrap64; omega
  have H2 := Lib.hid (show ∀ W, Calls Try.prog 17 #[.string s, .int .i64 ((j1 : Int) + 1), .int .i64 (dd - 1)] W (PsP s d (s.data.toList.drop (j1 + 1)) W) from fun W => by rw [show ((j1 : Int) + 1) = ((j1 + 1 : Nat) : Int) by omega]; exact HIH.out (j1 + 1) W)
  have HRR := Lib.hid hrr
  have HCM := Lib.hid hcm
  clear hr1 hrr hcm
  go_wp2_with fail
  refine (H2.out _).mono ?_
  rintro e w2 ⟨k2, a2, n2, q2, nx2, rfl, hb2, hm2⟩
  replace hZ := blk_below (blk_below hZ (bal1 (o := .cells #[.int .i64 k1, .slice a1 n1 q1] 24))) hb2
  have hV : w2.heap[w1.heap.size]? = some (.cells #[.int .i64 k1, .slice a1 n1 q1] 24 (0, 0)) := blk_below (blk_new rfl) hb2
  have HB2 := Lib.hid (bstep HB1.out (bstep (bal1 (o := .cells #[.int .i64 k1, .slice a1 n1 q1] 24)) hb2))
  have HB12 := Lib.hid (bstep (bal1 (w := w1) (o := .cells #[.int .i64 k1, .slice a1 n1 q1] 24)) hb2)
  have hz2 := hb2.size
  simp only [World.size_alloc] at hz2
  clear hb2 H2
  rw [← HRR.out] at hm2
  have hm := hm2 _ rfl
  rw [HP2.out] at hm
  clear hm2
  obtain ⟨⟨j2, rfl, hjs2, hr2⟩, htb⟩ := hm
  have HTB := Lib.hid htb
  clear htb
  have hj20 : decide ((j2 : Int) < 0) = false := by simp
  obtain ⟨hj2, hc5, hr5⟩ := drop_cons hr2.symm
  have h22 : (j2 : Int) < (s.size : Int) := by omega
  have hg2n : decide (s.size ≤ j2) = false := by simp; omega
  have hg2m : ¬ s.size ≤ j2 := by omega
  have hc5' := hc5 hj2
  have hw2 : wrap64 ((j2 : Int) + 1) = (j2 : Int) + 1 := by unfold wrap64; omega
  have HR5 := Lib.hid hr5
  clear hr2 hr5 hc5
  have e5 : ((c5.toNat : Int) == 41) = true := by rw [c41]; rfl
  have e5' : ((c5.toNat : Int) != 41) = false := by simp only [bne, e5]; rfl
  have HC := Lib.hid c41
  have HNX := Lib.hid (And.intro (show (j2 : Int) + 1 = ((j2 + 1 : Nat) : Int) by omega) (show j2 + 1 ≤ s.size from hj2))
  clear c41
  go_upto_region 18 with fail
  go_cut [102] (fun s wx => s = .bool false ∧ wx = w2.alloc (.cells #[.int .i64 k2, .slice a2 n2 q2] 24))
  case first =>
    go_wp2_with fail
    go_meet
    refine ⟨?_, rfl⟩
    congr 1
  case rest =>
    obtain ⟨rfl, hwx⟩ := hcut
    have hZ3 : wc.heap[w.heap.size]? = some (.cells #[.int .i64 0, .slice none 0 0] 24 (0, 0)) := by rw [hwx]; exact blk_below hZ bal1
    have hV3 : wc.heap[w1.heap.size]? = some (.cells #[.int .i64 k1, .slice a1 n1 q1] 24 (0, 0)) := by rw [hwx]; exact blk_below hV bal1
    have hX3 : wc.heap[w2.heap.size]? = some (.cells #[.int .i64 k2, .slice a2 n2 q2] 24 (0, 0)) := by rw [hwx]; exact blk_new rfl
    have HB3 := Lib.hid (show Below w.heap.size w wc by rw [hwx]; exact bstep HB2.out bal1)
    have HB23 := Lib.hid (show Below w2.heap.size w2 wc by rw [hwx]; exact bal1)
    clear hwx hZ hV
    have z0 : wc.cell? ⟨w.heap.size, 0, none⟩ = some (.int .i64 0) := blk_cell hZ3 rfl
    have z1 : wc.cell? ⟨w.heap.size, 1, none⟩ = some (.slice none 0 0) := blk_cell hZ3 rfl
    have zf0 : wc.frozen? ⟨w.heap.size, 0, none⟩ = false := blk_fro hZ3 0
    have zf1 : wc.frozen? ⟨w.heap.size, 1, none⟩ = false := blk_fro hZ3 1
    have v0 : wc.cell? ⟨w1.heap.size, 0, none⟩ = some (.int .i64 k1) := blk_cell hV3 rfl
    have v1 : wc.cell? ⟨w1.heap.size, 1, none⟩ = some (.slice a1 n1 q1) := blk_cell hV3 rfl
    have x0 : wc.cell? ⟨w2.heap.size, 0, none⟩ = some (.int .i64 k2) := blk_cell hX3 rfl
    have x1 : wc.cell? ⟨w2.heap.size, 1, none⟩ = some (.slice a2 n2 q2) := blk_cell hX3 rfl
    have lz := blk_lt hZ3
    have lv := blk_lt hV3
    have lx := blk_lt hX3
    go_wp2_with fail
    clear z0 z1 zf0 zf1 v0 v1 x0 x1 hcv hcm' hc5' e5 e5' hg2n hg2m hg1n hg1m hw hwd hw1 h22 h12 h2 h0 hV3 hX3
    have hY2 : ((wc.setCell ⟨w.heap.size, 0, none⟩ (.int .i64 4)).setCell ⟨w.heap.size, 1, none⟩ (.slice (some ⟨wc.heap.size, 0, none⟩) 2 2)).heap[w.heap.size]? = some (.cells #[.int .i64 4, .slice (some ⟨wc.heap.size, 0, none⟩) 2 2] 24 (0, 0)) := blk_set (blk_set hZ3 (rfl : (#[Value.int .i64 0, .slice none 0 0] : Array Value).setIfInBounds 0 (.int .i64 4) = #[.int .i64 4, .slice none 0 0])) rfl
    have hY : (((wc.setCell ⟨w.heap.size, 0, none⟩ (.int .i64 4)).setCell ⟨w.heap.size, 1, none⟩ (.slice (some ⟨wc.heap.size, 0, none⟩) 2 2)).alloc (.cells #[.int .i64 k1, .slice a1 n1 q1, .int .i64 k2, .slice a2 n2 q2] 24)).heap[w.heap.size]? = some (.cells #[.int .i64 4, .slice (some ⟨wc.heap.size, 0, none⟩) 2 2] 24 (0, 0)) := blk_below hY2 bal1
    have rc0 := blk_cell hY (o := 0) rfl
    have rc1 := blk_cell hY (o := 1) rfl
    refine bodyPost_ret (v := .tuple #[.agg #[.int .i64 4, .slice (some ⟨wc.heap.size, 0, none⟩) 2 2], .int .i64 ((j2 : Int) + 1)]) (by simp [results, Try.results17, go_sem, rc0, rc1, hw2]) rfl ?_
    have hBT := Lib.hid (((HB3.out.setCell (p := ⟨w.heap.size, 0, none⟩) (by show w.heap.size ≤ w.heap.size; omega) (.int .i64 4)).setCell (p := ⟨w.heap.size, 1, none⟩) (by show w.heap.size ≤ w.heap.size; omega) (.slice (some ⟨wc.heap.size, 0, none⟩) 2 2)))
    refine ⟨_, _, _, _, _, rfl, bstep hBT.out bal1, ?_⟩
    clear rc0 rc1 hY hY2 hw2
    rintro o rfl
    rw [HL.out]
    unfold ps
    rw [if_pos rfl, HP1.out]
    dsimp only
    rw [kindV_62, if_pos (by omega), HP2.out]
    dsimp only
    rw [if_pos HC.out]
    refine ⟨⟨j2 + 1, HNX.out.1, HNX.out.2, HR5.out⟩, ?_⟩
    have hsx : ((wc.setCell ⟨w.heap.size, 0, none⟩ (.int .i64 4)).setCell ⟨w.heap.size, 1, none⟩ (.slice (some ⟨wc.heap.size, 0, none⟩) 2 2)).heap.size = wc.heap.size := by simp [World.setCell]
    obtain ⟨f1, o1, d1, g1⟩ := HTA.out
    obtain ⟨f2, o2, d2, g2⟩ := HTB.out
    have lt1 := o1.lt
    have p1 := (o1.below HB12.out).below HB23.out
    have p2 := o2.below HB23.out
    have hch : Chg [w.heap.size] wc ((wc.setCell ⟨w.heap.size, 0, none⟩ (.int .i64 4)).setCell ⟨w.heap.size, 1, none⟩ (.slice (some ⟨wc.heap.size, 0, none⟩) 2 2)) := chg_set.trans chg_set
    have p1' := TyOwn.cells (TyOwn.chg hch (fun b hb => by have := g1 b hb; simp at this ⊢; omega) p1)
    have p2' := TyOwn.cells (TyOwn.chg hch (fun b hb => by have := g2 b hb; simp at this ⊢; omega) p2)
    have hnew := TysNew.two (B := w.heap.size) (T := 24) p1' p2' (List.nodup_append.2 ⟨d1, d2, fun x hx y hy hxy => by have h1 := lt1 x hx; have h2 := g2 y hy; simp at h2; omega⟩) (fun b hb => (List.mem_append.1 hb).elim (fun h => by have := g1 b h; simp at this; omega) (fun h => by have := g2 b h; simp at this; omega)) (by rw [hsx]; omega) (bal1 (o := .cells #[.int .i64 k1, .slice a1 n1 q1, .int .i64 k2, .slice a2 n2 q2] 24)) (heap_alloc_new _ _)
    rw [hsx] at hnew
    exact hnew.ty
end Go.Proofs.Ytikkneahhgmdjaa
