/-
  DrawParseType.
  Readings of types that are built in place.
-/
import Derived.Test.YtikkneahhgmdjaaPrsB
import Derived.Test.YtikkneahhgmdjaaB1
namespace Go.Proofs.Ytikkneahhgmdjaa
open Go.RowKit
set_option linter.unusedVariables false
set_option linter.unusedSimpArgs false
set_option maxRecDepth 100000

theorem strs_cellP {X : World} {B : Nat} (xs : List ByteArray) {T : TypeId} (hB : X.heap.size = B) (Q : ByteArray → Prop) (hQ : ∀ x ∈ xs, Q x) (i : Nat) (hi : i < xs.length) :
    ∃ x, (X.alloc (.cells (xs.map Value.string).toArray T)).cell? ⟨B, i, none⟩ = some (.string x) ∧ Q x := by
  refine ⟨xs[i], ?_, hQ _ (List.getElem_mem hi)⟩
  rw [cell_new hB]
  simp [hi]
set_option maxHeartbeats 4000000 in
theorem specDrawParseType (r : Nat) (y0 : Value) (w : World) (r0 : ByRep w r y0) (hr : r ≤ w.heap.size) :
    Calls Try.prog 16 #[y0] w fun e w' => ∃ x : ByteArray, e = .returned (.string x) ∧ x.size ≤ 100 ∧ Below w.heap.size w w' := by
  obtain ⟨a0, n0, q0, rfl⟩ := r0.shape
  go_enter Try.func16, Try.ntmps16
  go_wp2_with fail
  refine (specOpen _ _ _ r0 hr).mono ?_
  rintro e w1 ⟨rb, rfl, hro1, hrd1, hb1⟩
  have hrl1 := hrd1.1
  have HB1 := Lib.hid hb1
  go_wp2_with fail
  refine (specL1TypeV rb 0 _ hrd1 (by omega)).mono ?_
  rintro e w2 ⟨t, v, q, rfl, hv, ht, hq, hrd2, hch2⟩
  obtain ⟨kk, aa, nn, qq, rfl⟩ := ht.shape
  have HV := Lib.hid hv
  have HB2 := Lib.hid (HB1.out.trans (hch2.below (B := w.heap.size) (by simp; omega) hb1.size))
  have hrl2 := hrd2.1
  clear hv hch2 hrd1 hb1
  go_wp2_with fail
  refine (specL1TextV _ t HV.out _ _ ht).mono ?_
  rintro e w3 ⟨rfl, hb3⟩
  have hz3 := hb3.size
  have HB3 := Lib.hid (bstep HB2.out hb3)
  have HRD3 := Lib.hid (hrd2.below hb3)
  have HFS := Lib.hid (fmtB_size t)
  clear hb3 hrd2
  go_wp2_with fail
  refine (specL1Bend rb q w3.heap.size 7 7 (fmtB t) _ (HRD3.out.below bal1) (by omega) (by omega) (by omega) (Nat.le_refl _) (by omega) (by have := HFS.out; omega) (strs_cellP [⟨#[]⟩, ⟨#[40]⟩, ⟨#[41]⟩, ⟨#[63]⟩, ⟨#[62]⟩, ⟨#[73]⟩, ⟨#[120]⟩] rfl (fun x => x.size ≤ 1) (by decide)) (by simp)).mono ?_
  rintro e w4 ⟨x, rfl, hx, hch4⟩
  have HB4 := Lib.hid ((bstep HB3.out bal1).trans (hch4.below (B := w.heap.size) (by simp; omega) (bstep HB3.out bal1).size))
  have HX := Lib.hid (show x.size ≤ 100 by have := HFS.out; omega)
  clear hch4 hx
  go_wp2_with fail
  go_ret
  exact ⟨x, rfl, HX.out, HB4.out⟩
end Go.Proofs.Ytikkneahhgmdjaa
namespace Go.Proofs.Ytikkneahhgmdjaa
open Go.RowKit
set_option linter.unusedVariables false
set_option linter.unusedSimpArgs false

theorem TyRep.leaf {w : World} (k : Int) : TyRep (fun _ => True) w (Ty.mk k []) (.agg #[.int .i64 k, .slice none 0 0]) := by
  refine ⟨_, rfl, ?_⟩
  unfold TysRep Ty.kids Ty.rows CRep
  exact ⟨none, 0, rfl, Nat.le_refl _, by unfold maxLen; omega, .inl rfl⟩
theorem TyRep.parts {F : Nat → Prop} {w : World} {t : Ty} {k : Int} {c : Value} (h : TyRep F w t (.agg #[.int .i64 k, c])) : t.kind = k ∧ CRep F w (.sl (Ty.rows t.kids)) c := by
  obtain ⟨s, he, hs⟩ := h
  simp only [Value.agg.injEq, Array.mk.injEq, List.cons.injEq, Value.int.injEq, true_and, and_true] at he
  obtain ⟨rfl, rfl⟩ := he
  exact ⟨rfl, hs⟩
theorem TyRep.two_mk {F : Nat → Prop} {w : World} {b cap : Nat} {k : Int} {t u : Ty} {k1 k2 : Int} {c1 c2 : Value} (hF : F b) (hc : 2 ≤ cap) (hm : cap ≤ maxLen)
    (e0 : w.cell? ⟨b, 0, none⟩ = some (.int .i64 k1)) (e1 : w.cell? ⟨b, 1, none⟩ = some c1) (e2 : w.cell? ⟨b, 2, none⟩ = some (.int .i64 k2)) (e3 : w.cell? ⟨b, 3, none⟩ = some c2)
    (ht : TyRep F w t (.agg #[.int .i64 k1, c1])) (hu : TyRep F w u (.agg #[.int .i64 k2, c2])) : TyRep F w (Ty.mk k [t, u]) (.agg #[.int .i64 k, .slice (some ⟨b, 0, none⟩) 2 cap]) := by
  refine ⟨_, rfl, ?_⟩
  obtain ⟨p1, p2⟩ := ht.parts
  obtain ⟨p3, p4⟩ := hu.parts
  cases t with | mk k1' ts => cases u with | mk k2' us =>
  simp only [Ty.kind, Ty.kids] at *
  subst p1 p3
  unfold TysRep CRep
  refine ⟨_, cap, by simp [Ty.rows_length], by rw [Ty.rows_length]; simpa using hc, hm, .inr ⟨b, 0, rfl, hF, World.block_lt_of_cell? _ _ e0, ?_⟩⟩
  simp only [Ty.rows, Ty.row]
  unfold RowsAt
  refine ⟨?_, ?_⟩
  · unfold CellsAt
    refine ⟨⟨_, e0, by unfold CRep; rfl⟩, ?_⟩
    unfold CellsAt
    exact ⟨⟨_, e1, p2⟩, by unfold CellsAt; trivial⟩
  · unfold RowsAt
    refine ⟨?_, by unfold RowsAt; trivial⟩
    unfold CellsAt
    refine ⟨⟨_, e2, by unfold CRep; rfl⟩, ?_⟩
    unfold CellsAt
    exact ⟨⟨_, e3, p4⟩, by unfold CellsAt; trivial⟩
end Go.Proofs.Ytikkneahhgmdjaa
