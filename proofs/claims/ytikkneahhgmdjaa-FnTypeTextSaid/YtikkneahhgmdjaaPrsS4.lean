/-
  ParseType of the reference.
-/
import Derived.Test.YtikkneahhgmdjaaB19
namespace Go.Proofs.Ytikkneahhgmdjaa
open Go.RowKit
set_option linter.unusedVariables false
set_option linter.unusedSimpArgs false
set_option maxRecDepth 100000


/-- A type and a Boolean: fresh memory. -/
def RetP (t : Ty) (b : Bool) (w : World) (e : Ending) (w' : World) : Prop := ∃ (k : Int) (a : Option Addr) (n q : Nat), e = .returned (.tuple #[.agg #[.int .i64 k, .slice a n q], .bool b]) ∧ TyNew w.heap.size w' t (.agg #[.int .i64 k, .slice a n q]) ∧ Below w.heap.size w w'
set_option maxHeartbeats 4000000 in
theorem specParseType (s : ByteArray) (hsz : s.size ≤ 1048576) (w : World) : Calls Try.prog 5 #[.string s] w (RetP (parseT s.data.toList) (parseOk s.data.toList) w) := by
  have H1 := Lib.hid (show ∀ W, Calls Try.prog 17 #[.string s, .int .i64 0, .int .i64 4] W (PsP s 4 (s.data.toList.drop 0) W) from fun W => specParse s hsz 4 (by omega) 0 W)
  have hZ : (w.alloc (.cells #[.int .i64 0, .slice none 0 0] 24)).heap[w.heap.size]? = some (.cells #[.int .i64 0, .slice none 0 0] 24 (0, 0)) := blk_new rfl
  go_enter Try.func5, Try.ntmps5
  go_wp2_with fail
  refine (H1.out _).mono ?_
  rintro e w1 ⟨k1, a1, n1, q1, nx1, rfl, hb1, hm1⟩
  replace hZ := blk_below hZ hb1
  have HB1 := Lib.hid (bstep bal1 hb1)
  have hz1 := hb1.size
  simp only [World.size_alloc] at hz1
  clear hb1 H1
  rw [List.drop_zero] at hm1
  cases hp1 : ps 4 s.data.toList with
  | none =>
    have hm := hm1 _ rfl
    rw [hp1] at hm
    have HP1 := Lib.hid hp1
    clear hp1 hm1
    subst hm
    have hne : ((-1 : Int) == (s.size : Int)) = false := by
      rw [beq_eq_false_iff_ne]; omega
    have hne' : ((-1 : Int) != (s.size : Int)) = true := by simp only [bne, hne]; rfl
    have z0 : w1.cell? ⟨w.heap.size, 0, none⟩ = some (.int .i64 0) := blk_cell hZ rfl
    have z1 : w1.cell? ⟨w.heap.size, 1, none⟩ = some (.slice none 0 0) := blk_cell hZ rfl
    have zf0 : w1.frozen? ⟨w.heap.size, 0, none⟩ = false := blk_fro hZ 0
    have zf1 : w1.frozen? ⟨w.heap.size, 1, none⟩ = false := blk_fro hZ 1
    have lz := blk_lt hZ
    have lzz : w.heap.size < w1.heap.size + 1 := by omega
    go_wp2_with fail
    rw [show parseOk s.data.toList = false from by unfold parseOk; rw [HP1.out]]
    have hY1 : ((w1.setCell ⟨w.heap.size, 0, none⟩ (.int .i64 0)).setCell ⟨w.heap.size, 1, none⟩ (.slice none 0 0)).heap[w.heap.size]? = some (.cells #[.int .i64 0, .slice none 0 0] 24 (0, 0)) := blk_set (blk_set hZ (rfl : (#[Value.int .i64 0, .slice none 0 0] : Array Value).setIfInBounds 0 (.int .i64 0) = #[.int .i64 0, .slice none 0 0])) rfl
    have hY : (((w1.setCell ⟨w.heap.size, 0, none⟩ (.int .i64 0)).setCell ⟨w.heap.size, 1, none⟩ (.slice none 0 0)).alloc (.cells #[.int .i64 k1, .slice a1 n1 q1] 24)).heap[w.heap.size]? = some (.cells #[.int .i64 0, .slice none 0 0] 24 (0, 0)) := blk_below hY1 bal1
    have rc0 := blk_cell hY (o := 0) rfl
    have rc1 := blk_cell hY (o := 1) rfl
    refine bodyPost_ret (v := .tuple #[.agg #[.int .i64 0, .slice none 0 0], .bool false]) (by simp [results, Try.results5, go_sem, rc0, rc1]) rfl ?_
    have HBT := Lib.hid (((HB1.out).setCell (p := ⟨w.heap.size, 0, none⟩) (by show w.heap.size ≤ w.heap.size; omega) (.int .i64 0)).setCell (p := ⟨w.heap.size, 1, none⟩) (by show w.heap.size ≤ w.heap.size; omega) (.slice none 0 0))
    refine ⟨_, _, _, _, rfl, ?_, bstep HBT.out bal1⟩
    rw [show parseT s.data.toList = .mk 0 [] from by unfold parseT; rw [HP1.out]]
    exact TysNew.ty (TysNew.nil _ _)
  | some p =>
    obtain ⟨ta, r1⟩ := p
    have hm := hm1 _ rfl
    rw [hp1] at hm
    have HP1 := Lib.hid hp1
    clear hp1 hm1
    obtain ⟨⟨j1, rfl, hjs1, hr1⟩, hta⟩ := hm
    have HTA := Lib.hid hta
    clear hta
    cases r1 with
    | cons c cs =>
      obtain ⟨hj1, -, -⟩ := drop_cons hr1.symm
      have hne : ((j1 : Int) == (s.size : Int)) = false := by
        rw [beq_eq_false_iff_ne]; omega
      have hne' : ((j1 : Int) != (s.size : Int)) = true := by simp only [bne, hne]; rfl
      clear hr1
      have z0 : w1.cell? ⟨w.heap.size, 0, none⟩ = some (.int .i64 0) := blk_cell hZ rfl
      have z1 : w1.cell? ⟨w.heap.size, 1, none⟩ = some (.slice none 0 0) := blk_cell hZ rfl
      have zf0 : w1.frozen? ⟨w.heap.size, 0, none⟩ = false := blk_fro hZ 0
      have zf1 : w1.frozen? ⟨w.heap.size, 1, none⟩ = false := blk_fro hZ 1
      have lz := blk_lt hZ
      have lzz : w.heap.size < w1.heap.size + 1 := by omega
      go_wp2_with fail
      rw [show parseOk s.data.toList = false from by unfold parseOk; rw [HP1.out]]
      have hY1 : ((w1.setCell ⟨w.heap.size, 0, none⟩ (.int .i64 0)).setCell ⟨w.heap.size, 1, none⟩ (.slice none 0 0)).heap[w.heap.size]? = some (.cells #[.int .i64 0, .slice none 0 0] 24 (0, 0)) := blk_set (blk_set hZ (rfl : (#[Value.int .i64 0, .slice none 0 0] : Array Value).setIfInBounds 0 (.int .i64 0) = #[.int .i64 0, .slice none 0 0])) rfl
      have hY : (((w1.setCell ⟨w.heap.size, 0, none⟩ (.int .i64 0)).setCell ⟨w.heap.size, 1, none⟩ (.slice none 0 0)).alloc (.cells #[.int .i64 k1, .slice a1 n1 q1] 24)).heap[w.heap.size]? = some (.cells #[.int .i64 0, .slice none 0 0] 24 (0, 0)) := blk_below hY1 bal1
      have rc0 := blk_cell hY (o := 0) rfl
      have rc1 := blk_cell hY (o := 1) rfl
      refine bodyPost_ret (v := .tuple #[.agg #[.int .i64 0, .slice none 0 0], .bool false]) (by simp [results, Try.results5, go_sem, rc0, rc1]) rfl ?_
      have HBT := Lib.hid (((HB1.out).setCell (p := ⟨w.heap.size, 0, none⟩) (by show w.heap.size ≤ w.heap.size; omega) (.int .i64 0)).setCell (p := ⟨w.heap.size, 1, none⟩) (by show w.heap.size ≤ w.heap.size; omega) (.slice none 0 0))
      refine ⟨_, _, _, _, rfl, ?_, bstep HBT.out bal1⟩
      rw [show parseT s.data.toList = .mk 0 [] from by unfold parseT; rw [HP1.out]]
      exact TysNew.ty (TysNew.nil _ _)
    | nil =>
      have hge := drop_nil hr1.symm
      have hne : ((j1 : Int) == (s.size : Int)) = true := by
        rw [beq_iff_eq]; omega
      have hne' : ((j1 : Int) != (s.size : Int)) = false := by simp only [bne, hne]; rfl
      clear hr1
      have z0 : w1.cell? ⟨w.heap.size, 0, none⟩ = some (.int .i64 0) := blk_cell hZ rfl
      have z1 : w1.cell? ⟨w.heap.size, 1, none⟩ = some (.slice none 0 0) := blk_cell hZ rfl
      have zf0 : w1.frozen? ⟨w.heap.size, 0, none⟩ = false := blk_fro hZ 0
      have zf1 : w1.frozen? ⟨w.heap.size, 1, none⟩ = false := blk_fro hZ 1
      have lz := blk_lt hZ
      have lzz : w.heap.size < w1.heap.size + 1 := by omega
      go_wp2_with fail
      rw [show parseOk s.data.toList = true from by unfold parseOk; rw [HP1.out]]
      have hY1 : ((w1.setCell ⟨w.heap.size, 0, none⟩ (.int .i64 k1)).setCell ⟨w.heap.size, 1, none⟩ (.slice a1 n1 q1)).heap[w.heap.size]? = some (.cells #[.int .i64 k1, .slice a1 n1 q1] 24 (0, 0)) := blk_set (blk_set hZ (rfl : (#[Value.int .i64 0, .slice none 0 0] : Array Value).setIfInBounds 0 (.int .i64 k1) = #[.int .i64 k1, .slice none 0 0])) rfl
      have hY : (((w1.setCell ⟨w.heap.size, 0, none⟩ (.int .i64 k1)).setCell ⟨w.heap.size, 1, none⟩ (.slice a1 n1 q1)).alloc (.cells #[.int .i64 k1, .slice a1 n1 q1] 24)).heap[w.heap.size]? = some (.cells #[.int .i64 k1, .slice a1 n1 q1] 24 (0, 0)) := blk_below hY1 bal1
      have rc0 := blk_cell hY (o := 0) rfl
      have rc1 := blk_cell hY (o := 1) rfl
      refine bodyPost_ret (v := .tuple #[.agg #[.int .i64 k1, .slice a1 n1 q1], .bool true]) (by simp [results, Try.results5, go_sem, rc0, rc1]) rfl ?_
      have HBT := Lib.hid (((HB1.out).setCell (p := ⟨w.heap.size, 0, none⟩) (by show w.heap.size ≤ w.heap.size; omega) (.int .i64 k1)).setCell (p := ⟨w.heap.size, 1, none⟩) (by show w.heap.size ≤ w.heap.size; omega) (.slice a1 n1 q1))
      refine ⟨_, _, _, _, rfl, ?_, bstep HBT.out bal1⟩
      rw [show parseT s.data.toList = ta from by unfold parseT; rw [HP1.out]]
      have hch : Chg [w.heap.size] w1 (((w1.setCell ⟨w.heap.size, 0, none⟩ (.int .i64 k1)).setCell ⟨w.heap.size, 1, none⟩ (.slice a1 n1 q1)).alloc (.cells #[.int .i64 k1, .slice a1 n1 q1] 24)) := (chg_set.trans chg_set).trans (Chg.of_below bal1)
      exact (HTA.out.chg hch (by simp)).mono (by simp)
end Go.Proofs.Ytikkneahhgmdjaa
