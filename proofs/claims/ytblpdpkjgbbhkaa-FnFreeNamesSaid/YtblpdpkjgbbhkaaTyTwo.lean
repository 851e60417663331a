/-
  Readings of types that are built in place.
-/
import Derived.Test.YtblpdpkjgbbhkaaTy
namespace Go.Proofs.Ytblpdpkjgbbhkaa
open Go.RowKit
set_option linter.unusedVariables false
set_option linter.unusedSimpArgs false

theorem TyRep.leaf {w : World} (k : Int) : TyRep (fun _ => True) w (Ty.mk k []) (.agg #[.int .i64 k, .slice none 0 0]) := by
  refine ⟨_, rfl, ?_⟩
  unfold TysRep Ty.kids Ty.rows CRep
  exact ⟨none, 0, rfl, Nat.le_refl _, by unfold maxLen; omega, .inl rfl⟩
theorem TyRep.parts {F : Nat → Prop} {w : World} {t : Ty} {k : Int} {c : Value} (h : TyRep F w t (.agg #[.int .i64 k, c])) : t.kind = k ∧ CRep F w (.sl (Ty.rows t.kids)) c := by
  obtain ⟨s, he, hs⟩ := h
  simp only [Value.agg.injEq, Array.mk.injEq, List.cons.injEq, Value.int.injEq, true_and, and_true] at he
  obtain ⟨rfl, rfl⟩ := he
  exact ⟨rfl, hs⟩
theorem TyRep.two_mk {F : Nat → Prop} {w : World} {b cap : Nat} {k : Int} {t u : Ty} {k1 k2 : Int} {c1 c2 : Value} (hF : F b) (hc : 2 ≤ cap) (hm : cap ≤ maxLen)
    (e0 : w.cell? ⟨b, 0, none⟩ = some (.int .i64 k1)) (e1 : w.cell? ⟨b, 1, none⟩ = some c1) (e2 : w.cell? ⟨b, 2, none⟩ = some (.int .i64 k2)) (e3 : w.cell? ⟨b, 3, none⟩ = some c2)
    (ht : TyRep F w t (.agg #[.int .i64 k1, c1])) (hu : TyRep F w u (.agg #[.int .i64 k2, c2])) : TyRep F w (Ty.mk k [t, u]) (.agg #[.int .i64 k, .slice (some ⟨b, 0, none⟩) 2 cap]) := by
  refine ⟨_, rfl, ?_⟩
  obtain ⟨p1, p2⟩ := ht.parts
  obtain ⟨p3, p4⟩ := hu.parts
  cases t with | mk k1' ts => cases u with | mk k2' us =>
  simp only [Ty.kind, Ty.kids] at *
  subst p1 p3
  unfold TysRep CRep
  refine ⟨_, cap, by simp [Ty.rows_length], by rw [Ty.rows_length]; simpa using hc, hm, .inr ⟨b, 0, rfl, hF, World.block_lt_of_cell? _ _ e0, ?_⟩⟩
  simp only [Ty.rows, Ty.row]
  unfold RowsAt
  refine ⟨?_, ?_⟩
  · unfold CellsAt
    refine ⟨⟨_, e0, by unfold CRep; rfl⟩, ?_⟩
    unfold CellsAt
    exact ⟨⟨_, e1, p2⟩, by unfold CellsAt; trivial⟩
  · unfold RowsAt
    refine ⟨?_, by unfold RowsAt; trivial⟩
    unfold CellsAt
    refine ⟨⟨_, e2, by unfold CRep; rfl⟩, ?_⟩
    unfold CellsAt
    exact ⟨⟨_, e3, p4⟩, by unfold CellsAt; trivial⟩
end Go.Proofs.Ytblpdpkjgbbhkaa
