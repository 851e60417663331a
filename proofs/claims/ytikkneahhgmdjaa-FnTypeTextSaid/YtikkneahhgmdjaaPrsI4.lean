/-
  ParseType of the program.
-/
import Derived.Test.YtikkneahhgmdjaaPrsS4
import Derived.Test.YtikkneahhgmdjaaPrsI3
namespace Go.Proofs.Ytikkneahhgmdjaa
open Go.RowKit
set_option linter.unusedVariables false
set_option linter.unusedSimpArgs false
set_option maxRecDepth 100000

set_option maxHeartbeats 1000000 in
theorem implDone (r : Nat) (s : ByteArray) (bad : Bool) (w : World) (hr : rdB w r s bad) :
    Calls Try.prog 19 #[.pointer (some ⟨r, 0, none⟩)] w fun e w' => e = .returned (.bool (!bad && s.data.toList.isEmpty)) ∧ w' = w := by
  have c0 : w.cell? ⟨r, 0, none⟩ = some (.string s) := blk_cell hr rfl
  have c1 : w.cell? ⟨r, 1, none⟩ = some (.bool bad) := blk_cell hr rfl
  have hq : s.toList.isEmpty = s.data.toList.isEmpty := by rw [ByteArray.toList_eq]
  cases bad
  · cases hl : s.data.toList with
    | nil =>
      have he := (bs_nil hl).1
      have HL := Lib.hid hl
      clear hl hq
      go_enter Try.func19, Try.ntmps19
      go_wp2_with fail
      go_ret
      exact ⟨rfl, rfl⟩
    | cons c cs =>
      have he := (bs_cons hl).1
      have HL := Lib.hid hl
      clear hl hq
      go_enter Try.func19, Try.ntmps19
      go_wp2_with fail
      go_ret
      exact ⟨rfl, rfl⟩
  · clear hq
    go_enter Try.func19, Try.ntmps19
    go_wp2_with fail
    go_ret
    exact ⟨rfl, rfl⟩
set_option maxHeartbeats 4000000 in
theorem implParseType (s : ByteArray) (w : World) : Calls Try.prog 6 #[.string s] w (RetP (parseT s.data.toList) (parseOk s.data.toList) w) := by
  have hr0 : rdB ((w.alloc (.cells #[.int .i64 0, .slice none 0 0] 24)).alloc (.cells #[.string s, .bool false] 40)) (w.heap.size + 1) s false := blk_new (by simp)
  have H1 := Lib.hid (show Calls Try.prog 18 #[.pointer (some ⟨w.heap.size + 1, 0, none⟩), .int .i64 1] _ (TypP (w.heap.size + 1) 4 s false _) from implTyp 4 (by omega) (w.heap.size + 1) s false _ hr0)
  have hZ : ((w.alloc (.cells #[.int .i64 0, .slice none 0 0] 24)).alloc (.cells #[.string s, .bool false] 40)).heap[w.heap.size]? = some (.cells #[.int .i64 0, .slice none 0 0] 24 (0, 0)) := blk_below (blk_new rfl) bal1
  have HB0 := Lib.hid (show Below w.heap.size w ((w.alloc (.cells #[.int .i64 0, .slice none 0 0] 24)).alloc (.cells #[.string s, .bool false] 40)) from bstep bal1 bal1)
  clear hr0
  go_enter Try.func6, Try.ntmps6
  go_wp2_with fail
  refine H1.out.mono ?_
  rintro e w1 ⟨k1, a1, n1, q1, s1, b1, rfl, hr1, hc1, hm1⟩
  replace hZ := blk_chg hZ hc1 (by omega)
  have hZ1 := hZ
  have HB1 := Lib.hid (HB0.out.trans (hc1.below (B := w.heap.size) (by simp) (by simp; omega)))
  have hz1 := hc1.size
  simp only [World.size_alloc] at hz1
  have HD := Lib.hid (implDone _ s1 b1 _ (hr1.al (o := .cells #[.int .i64 k1, .slice a1 n1 q1] 24)))
  have hV := blk_new (w := w1) (o := .cells #[.int .i64 k1, .slice a1 n1 q1] 24) rfl
  replace hZ := blk_below hZ (bal1 (o := .cells #[.int .i64 k1, .slice a1 n1 q1] 24))
  clear hr1 hc1 H1
  go_wp2_with fail
  refine HD.out.mono ?_
  rintro e w2 ⟨rfl, rfl⟩
  clear HD
  rw [show gP false 4 s.data.toList = ps 4 s.data.toList from rfl] at hm1
  cases hp1 : ps 4 s.data.toList with
  | none =>
    have hm := hm1 _ rfl
    rw [hp1] at hm
    have HP1 := Lib.hid hp1
    clear hp1 hm1
    subst hm
    simp only [Bool.not_true, Bool.false_and]
    have z0 : w1.cell? ⟨w.heap.size, 0, none⟩ = some (.int .i64 0) := blk_cell hZ1 rfl
    have z1 : w1.cell? ⟨w.heap.size, 1, none⟩ = some (.slice none 0 0) := blk_cell hZ1 rfl
    have zf0 : w1.frozen? ⟨w.heap.size, 0, none⟩ = false := blk_fro hZ1 0
    have zf1 : w1.frozen? ⟨w.heap.size, 1, none⟩ = false := blk_fro hZ1 1
    have lz := blk_lt hZ1
    have lzz : w.heap.size < w1.heap.size + 1 := by omega
    go_wp2_with fail
    rw [show parseOk s.data.toList = false from by unfold parseOk; rw [HP1.out]]
    have hY1 : ((w1.setCell ⟨w.heap.size, 0, none⟩ (.int .i64 0)).setCell ⟨w.heap.size, 1, none⟩ (.slice none 0 0)).heap[w.heap.size]? = some (.cells #[.int .i64 0, .slice none 0 0] 24 (0, 0)) := blk_set (blk_set hZ1 (rfl : (#[Value.int .i64 0, .slice none 0 0] : Array Value).setIfInBounds 0 (.int .i64 0) = #[.int .i64 0, .slice none 0 0])) rfl
    have hY : (((w1.setCell ⟨w.heap.size, 0, none⟩ (.int .i64 0)).setCell ⟨w.heap.size, 1, none⟩ (.slice none 0 0)).alloc (.cells #[.int .i64 k1, .slice a1 n1 q1] 24)).heap[w.heap.size]? = some (.cells #[.int .i64 0, .slice none 0 0] 24 (0, 0)) := blk_below hY1 bal1
    have rc0 := blk_cell hY (o := 0) rfl
    have rc1 := blk_cell hY (o := 1) rfl
    refine bodyPost_ret (v := .tuple #[.agg #[.int .i64 0, .slice none 0 0], .bool false]) (by simp [results, Try.results6, go_sem, rc0, rc1]) rfl ?_
    have HBT := Lib.hid (((HB1.out).setCell (p := ⟨w.heap.size, 0, none⟩) (by show w.heap.size ≤ w.heap.size; omega) (.int .i64 0)).setCell (p := ⟨w.heap.size, 1, none⟩) (by show w.heap.size ≤ w.heap.size; omega) (.slice none 0 0))
    refine ⟨_, _, _, _, rfl, ?_, bstep HBT.out bal1⟩
    rw [show parseT s.data.toList = .mk 0 [] from by unfold parseT; rw [HP1.out]]
    exact TysNew.ty (TysNew.nil _ _)
  | some p =>
    obtain ⟨ta, r1⟩ := p
    have hm := hm1 _ rfl
    rw [hp1] at hm
    have HP1 := Lib.hid hp1
    have HVA := Lib.hid (ps_shape 4 _ _ _ hp1)
    clear hp1 hm1
    obtain ⟨rfl, hs1, hta⟩ := hm
    rw [hs1]
    have HTA := Lib.hid hta
    clear hta hs1
    cases r1 with
    | cons c cs =>
      simp only [Bool.not_false, Bool.true_and, List.isEmpty_cons]
      have z0 : w1.cell? ⟨w.heap.size, 0, none⟩ = some (.int .i64 0) := blk_cell hZ1 rfl
      have z1 : w1.cell? ⟨w.heap.size, 1, none⟩ = some (.slice none 0 0) := blk_cell hZ1 rfl
      have zf0 : w1.frozen? ⟨w.heap.size, 0, none⟩ = false := blk_fro hZ1 0
      have zf1 : w1.frozen? ⟨w.heap.size, 1, none⟩ = false := blk_fro hZ1 1
      have lz := blk_lt hZ1
      have lzz : w.heap.size < w1.heap.size + 1 := by omega
      go_wp2_with fail
      rw [show parseOk s.data.toList = false from by unfold parseOk; rw [HP1.out]]
      have hY1 : ((w1.setCell ⟨w.heap.size, 0, none⟩ (.int .i64 0)).setCell ⟨w.heap.size, 1, none⟩ (.slice none 0 0)).heap[w.heap.size]? = some (.cells #[.int .i64 0, .slice none 0 0] 24 (0, 0)) := blk_set (blk_set hZ1 (rfl : (#[Value.int .i64 0, .slice none 0 0] : Array Value).setIfInBounds 0 (.int .i64 0) = #[.int .i64 0, .slice none 0 0])) rfl
      have hY : (((w1.setCell ⟨w.heap.size, 0, none⟩ (.int .i64 0)).setCell ⟨w.heap.size, 1, none⟩ (.slice none 0 0)).alloc (.cells #[.int .i64 k1, .slice a1 n1 q1] 24)).heap[w.heap.size]? = some (.cells #[.int .i64 0, .slice none 0 0] 24 (0, 0)) := blk_below hY1 bal1
      have rc0 := blk_cell hY (o := 0) rfl
      have rc1 := blk_cell hY (o := 1) rfl
      refine bodyPost_ret (v := .tuple #[.agg #[.int .i64 0, .slice none 0 0], .bool false]) (by simp [results, Try.results6, go_sem, rc0, rc1]) rfl ?_
      have HBT := Lib.hid (((HB1.out).setCell (p := ⟨w.heap.size, 0, none⟩) (by show w.heap.size ≤ w.heap.size; omega) (.int .i64 0)).setCell (p := ⟨w.heap.size, 1, none⟩) (by show w.heap.size ≤ w.heap.size; omega) (.slice none 0 0))
      refine ⟨_, _, _, _, rfl, ?_, bstep HBT.out bal1⟩
      rw [show parseT s.data.toList = .mk 0 [] from by unfold parseT; rw [HP1.out]]
      exact TysNew.ty (TysNew.nil _ _)
    | nil =>
      simp only [Bool.not_false, Bool.true_and, List.isEmpty_nil]
      have HTV := Lib.hid (show Calls Try.prog 13 #[.agg #[.int .i64 k1, .slice a1 n1 q1]] (w1.alloc (.cells #[.int .i64 k1, .slice a1 n1 q1] 24)) fun e w' => e = .returned (.bool true) ∧ Below (w1.alloc (.cells #[.int .i64 k1, .slice a1 n1 q1] 24)).heap.size (w1.alloc (.cells #[.int .i64 k1, .slice a1 n1 q1] 24)) w' from by have h := implTypeValid _ ta _ _ (HTA.out.below (bal1 (o := .cells #[.int .i64 k1, .slice a1 n1 q1] 24))).rep; rw [show ta.valid = true from HVA.out] at h; exact h)
      have v0 : (w1.alloc (.cells #[.int .i64 k1, .slice a1 n1 q1] 24)).cell? ⟨w1.heap.size, 0, none⟩ = some (.int .i64 k1) := blk_cell hV rfl
      have v1 : (w1.alloc (.cells #[.int .i64 k1, .slice a1 n1 q1] 24)).cell? ⟨w1.heap.size, 1, none⟩ = some (.slice a1 n1 q1) := blk_cell hV rfl
      go_wp2_with fail
      refine HTV.out.mono ?_
      rintro e w3 ⟨rfl, hb3⟩
      replace hZ := blk_below hZ hb3
      replace hV := blk_below hV hb3
      have HB3 := Lib.hid (bstep (bstep HB1.out bal1) hb3)
      have HTA3 := Lib.hid ((HTA.out.below (bal1 (o := .cells #[.int .i64 k1, .slice a1 n1 q1] 24))).below hb3)
      have hz3 := hb3.size
      simp only [World.size_alloc] at hz3
      clear hb3 HTV v0 v1
      have v0 : w3.cell? ⟨w1.heap.size, 0, none⟩ = some (.int .i64 k1) := blk_cell hV rfl
      have v1 : w3.cell? ⟨w1.heap.size, 1, none⟩ = some (.slice a1 n1 q1) := blk_cell hV rfl
      have hne : w.heap.size ≠ w1.heap.size := by omega
      have z0 : w3.cell? ⟨w.heap.size, 0, none⟩ = some (.int .i64 0) := blk_cell hZ rfl
      have z1 : w3.cell? ⟨w.heap.size, 1, none⟩ = some (.slice none 0 0) := blk_cell hZ rfl
      have zf0 : w3.frozen? ⟨w.heap.size, 0, none⟩ = false := blk_fro hZ 0
      have zf1 : w3.frozen? ⟨w.heap.size, 1, none⟩ = false := blk_fro hZ 1
      have lz := blk_lt hZ
      have lzz : w.heap.size < w3.heap.size + 1 := by omega
      go_wp2_with fail
      rw [show parseOk s.data.toList = true from by unfold parseOk; rw [HP1.out]]
      have hY1 : ((w3.setCell ⟨w.heap.size, 0, none⟩ (.int .i64 k1)).setCell ⟨w.heap.size, 1, none⟩ (.slice a1 n1 q1)).heap[w.heap.size]? = some (.cells #[.int .i64 k1, .slice a1 n1 q1] 24 (0, 0)) := blk_set (blk_set hZ (rfl : (#[Value.int .i64 0, .slice none 0 0] : Array Value).setIfInBounds 0 (.int .i64 k1) = #[.int .i64 k1, .slice none 0 0])) rfl
      have hY := hY1
      have rc0 := blk_cell hY (o := 0) rfl
      have rc1 := blk_cell hY (o := 1) rfl
      refine bodyPost_ret (v := .tuple #[.agg #[.int .i64 k1, .slice a1 n1 q1], .bool true]) (by simp [results, Try.results6, go_sem, rc0, rc1]) rfl ?_
      have HBT := Lib.hid (((HB3.out).setCell (p := ⟨w.heap.size, 0, none⟩) (by show w.heap.size ≤ w.heap.size; omega) (.int .i64 k1)).setCell (p := ⟨w.heap.size, 1, none⟩) (by show w.heap.size ≤ w.heap.size; omega) (.slice a1 n1 q1))
      refine ⟨_, _, _, _, rfl, ?_, HBT.out⟩
      rw [show parseT s.data.toList = ta from by unfold parseT; rw [HP1.out]]
      have hch : Chg [w.heap.size] w3 ((w3.setCell ⟨w.heap.size, 0, none⟩ (.int .i64 k1)).setCell ⟨w.heap.size, 1, none⟩ (.slice a1 n1 q1)) := chg_set.trans chg_set
      exact (HTA3.out.chg hch (by simp; omega)).mono (by simp; omega)
end Go.Proofs.Ytikkneahhgmdjaa
