/-
  Numbers are drawn from given bytes; types are drawn.
  Readings of types that are built in place.
-/
import Derived.Test.YthhdjacdalehoaaDraw
import Derived.Test.YthhdjacdalehoaaB0
namespace Go.Proofs.Ythhdjacdalehoaa
open Go.RowKit
set_option linter.unusedVariables false
set_option linter.unusedSimpArgs false
set_option maxRecDepth 100000


set_option maxHeartbeats 4000000 in
theorem specOpen (r : Nat) (y : Value) (w : World) (h : ByRep w r y) (hr : r ≤ w.heap.size) : Calls Try.prog 49 #[y] w (OpenPost w) := by
  obtain ⟨a, n, cap, rfl, hn, hc, hg⟩ := h
  unfold maxLen at hc
  have HG := Lib.hid hg
  clear hg
  by_cases h2 : 2000 < n
  · have hd : decide ((n : Int) > 2000) = true := by simp; omega
    obtain ⟨b, off, c, rfl, -⟩ := HG.out 0 (by omega)
    have h3 : 2000 ≤ cap := by omega
    go_enter Try.func49, Try.ntmps49
    go_wp2_with fail
    go_ret
    refine ⟨w.heap.size, rfl, Nat.le_refl _, ⟨by simp, .slice (some ⟨b, off, none⟩) 2000 cap, cell_n0 0, ?_, cell_n0 1, fro_n0 1⟩, bal1⟩
    refine ⟨_, 2000, cap, rfl, by omega, by unfold maxLen; omega, fun i hi => ?_⟩
    obtain ⟨b, off, c, e, hb, hl, hcell, c0, c1⟩ := HG.out i (by omega)
    exact ⟨b, off, c, e, hl, by simp; omega, bcell bal1 hcell, c0, c1⟩
  · have hd : decide ((n : Int) > 2000) = false := by simp; omega
    go_enter Try.func49, Try.ntmps49
    go_wp2_with fail
    go_ret
    refine ⟨w.heap.size, rfl, Nat.le_refl _, ⟨by simp, .slice a n cap, cell_n0 0, ?_, cell_n0 1, fro_n0 1⟩, bal1⟩
    refine ⟨_, n, cap, rfl, by omega, by unfold maxLen; omega, fun i hi => ?_⟩
    obtain ⟨b, off, c, e, hb, hl, hcell, c0, c1⟩ := HG.out i (by omega)
    exact ⟨b, off, c, e, hl, by simp; omega, bcell bal1 hcell, c0, c1⟩

set_option maxHeartbeats 4000000 in
theorem specL1Type (r p : Nat) (w : World) (h : RdAt w r p) (hp : p ≤ 1000000) : Calls Try.prog 50 #[.pointer (some ⟨r, 0, none⟩)] w (DT r p 14 w) := by
  have hrl := h.1
  go_enter Try.func50, Try.ntmps50
  go_wp2_with fail
  refine (specNum (fun k => 1 ≤ k ∧ k ≤ 4) r p _ 5 5 _ (h.below bal2) (by omega) (by omega) (by omega) (Nat.le_refl _) (by omega) (ints_cell [3, 2, 4, 1, 3] (by simp) _ (by decide))).mono ?_
  rintro e w1 ⟨k, rfl, ⟨k1, k4⟩, hrd1, hch1⟩
  obtain ⟨d, rfl⟩ := Int.eq_ofNat_of_zero_le (show 0 ≤ k by omega)
  have hw1 : w.heap.size + 2 ≤ w1.heap.size := by have := hch1.size; simp at this; omega
  have x0 : w1.cell? ⟨w.heap.size, 0, none⟩ = some (.int .i64 0) := hch1.cellne (by show w.heap.size ≠ r; omega) (bcell bal1 (cell_n0 0))
  have x1 : w1.cell? ⟨w.heap.size, 1, none⟩ = some (.slice none 0 0) := hch1.cellne (by show w.heap.size ≠ r; omega) (bcell bal1 (cell_n0 1))
  have f0 : w1.frozen? ⟨w.heap.size, 0, none⟩ = false := (hch1.frone (by omega) (by simp; omega)).trans (bfro bal1 (by simp) (fro_n0 0))
  have f1 : w1.frozen? ⟨w.heap.size, 1, none⟩ = false := (hch1.frone (by omega) (by simp; omega)).trans (bfro bal1 (by simp) (fro_n0 1))
  have h24 : 2 ^ d ≤ 2 ^ 4 := Nat.pow_le_pow_right (by omega) (by omega)
  have H24 := Lib.hid h24
  go_wp2_with fail
  refine (specL1Draw d r (p + 1) _ (by omega) (by omega) hrd1 (by have := H24.out; omega)).mono ?_
  intro e w2 hd2
  obtain ⟨t, v, q, rfl, hn, hv, hq, hrd2, hch2⟩ := hd2.mono (show 2 ^ d - 1 ≤ 15 by omega) (show 2 ^ d ≤ 16 by omega)
  clear h24 H24
  obtain ⟨kk, aa, nn, qq, rfl⟩ := hv.shape
  have hw2 := hch2.size
  replace f0 : w2.frozen? ⟨w.heap.size, 0, none⟩ = false := cfroc hch2 (by omega) x0 f0
  replace f1 : w2.frozen? ⟨w.heap.size, 1, none⟩ = false := cfroc hch2 (by omega) x1 f1
  replace x0 : w2.cell? ⟨w.heap.size, 0, none⟩ = some (.int .i64 0) := ccell hch2 (by omega) x0
  replace x1 : w2.cell? ⟨w.heap.size, 1, none⟩ = some (.slice none 0 0) := ccell hch2 (by omega) x1
  go_wp2_with fail
  refine bodyPost_ret (v := .agg #[.int .i64 kk, .slice aa nn qq]) (by simp [results, Try.results50, go_sem, x0, x1]) rfl ?_
  refine ⟨t, _, q, rfl, by omega, TyRep.lower ((hv.rep.setCell (by show w.heap.size < w1.heap.size; omega) _).setCell (by show w.heap.size < w1.heap.size; omega) _) (by omega), by omega,
    (hrd2.setCell (by show r < w.heap.size; omega) _).setCell (by show r < w.heap.size; omega) _, ?_⟩
  exact ((((Chg.of_below bal2).trans hch1).trans hch2).trans' (Nat.le_refl _) _).trans' (Nat.le_refl _) _

end Go.Proofs.Ythhdjacdalehoaa
namespace Go.Proofs.Ythhdjacdalehoaa
open Go.RowKit
set_option linter.unusedVariables false
set_option linter.unusedSimpArgs false

theorem TyRep.leaf {w : World} (k : Int) : TyRep (fun _ => True) w (Ty.mk k []) (.agg #[.int .i64 k, .slice none 0 0]) := by
  refine ⟨_, rfl, ?_⟩
  unfold TysRep Ty.kids Ty.rows CRep
  exact ⟨none, 0, rfl, Nat.le_refl _, by unfold maxLen; omega, .inl rfl⟩
theorem TyRep.parts {F : Nat → Prop} {w : World} {t : Ty} {k : Int} {c : Value} (h : TyRep F w t (.agg #[.int .i64 k, c])) : t.kind = k ∧ CRep F w (.sl (Ty.rows t.kids)) c := by
  obtain ⟨s, he, hs⟩ := h
  simp only [Value.agg.injEq, Array.mk.injEq, List.cons.injEq, Value.int.injEq, true_and, and_true] at he
  obtain ⟨rfl, rfl⟩ := he
  exact ⟨rfl, hs⟩
theorem TyRep.two_mk {F : Nat → Prop} {w : World} {b cap : Nat} {k : Int} {t u : Ty} {k1 k2 : Int} {c1 c2 : Value} (hF : F b) (hc : 2 ≤ cap) (hm : cap ≤ maxLen)
    (e0 : w.cell? ⟨b, 0, none⟩ = some (.int .i64 k1)) (e1 : w.cell? ⟨b, 1, none⟩ = some c1) (e2 : w.cell? ⟨b, 2, none⟩ = some (.int .i64 k2)) (e3 : w.cell? ⟨b, 3, none⟩ = some c2)
    (ht : TyRep F w t (.agg #[.int .i64 k1, c1])) (hu : TyRep F w u (.agg #[.int .i64 k2, c2])) : TyRep F w (Ty.mk k [t, u]) (.agg #[.int .i64 k, .slice (some ⟨b, 0, none⟩) 2 cap]) := by
  refine ⟨_, rfl, ?_⟩
  obtain ⟨p1, p2⟩ := ht.parts
  obtain ⟨p3, p4⟩ := hu.parts
  cases t with | mk k1' ts => cases u with | mk k2' us =>
  simp only [Ty.kind, Ty.kids] at *
  subst p1 p3
  unfold TysRep CRep
  refine ⟨_, cap, by simp [Ty.rows_length], by rw [Ty.rows_length]; simpa using hc, hm, .inr ⟨b, 0, rfl, hF, World.block_lt_of_cell? _ _ e0, ?_⟩⟩
  simp only [Ty.rows, Ty.row]
  unfold RowsAt
  refine ⟨?_, ?_⟩
  · unfold CellsAt
    refine ⟨⟨_, e0, by unfold CRep; rfl⟩, ?_⟩
    unfold CellsAt
    exact ⟨⟨_, e1, p2⟩, by unfold CellsAt; trivial⟩
  · unfold RowsAt
    refine ⟨?_, by unfold RowsAt; trivial⟩
    unfold CellsAt
    refine ⟨⟨_, e2, by unfold CRep; rfl⟩, ?_⟩
    unfold CellsAt
    exact ⟨⟨_, e3, p4⟩, by unfold CellsAt; trivial⟩
end Go.Proofs.Ythhdjacdalehoaa
