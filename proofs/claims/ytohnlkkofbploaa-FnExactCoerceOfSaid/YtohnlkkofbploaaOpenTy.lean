/-
  An argument of the laws' type 'Type' reads as a tree.
-/
import Derived.Test.YtohnlkkofbploaaOpen
import Derived.Test.YtohnlkkofbploaaTy
namespace Go.Proofs.Ytohnlkkofbploaa
open Go.RowKit Go.ChangeShapes Go.WideShapes
set_option linter.unusedVariables false
set_option linter.unusedSimpArgs false
set_option maxRecDepth 100000

theorem Try.cellsLTy : Try.prog.cellsOf 36 = 2 := by kernel_rfl
theorem Try.cellsInt : Try.prog.cellsOf 3 = 1 := by kernel_rfl
theorem Try.cellsLTys : Try.prog.cellsOf 34 = 1 := by kernel_rfl

theorem Ty.of_rows : ∀ rows : List (List C), (∀ r ∈ rows, ∃ t : Ty, r = t.row) → ∃ ts, rows = Ty.rows ts
  | [], _ => ⟨[], by unfold Ty.rows; rfl⟩
  | r :: rows, h => by
    obtain ⟨t, rfl⟩ := h r (List.mem_cons_self ..)
    obtain ⟨ts, rfl⟩ := Ty.of_rows rows (fun r hr => h r (List.mem_cons_of_mem _ hr))
    exact ⟨t :: ts, by conv => rhs; unfold Ty.rows⟩

section
variable {H : Type} {enc : TypeId × Value → H} {w : World} {base : Nat} {held : Bool} {spare : Nat → Bool}

theorem ty_of_trod : ∀ (n : Nat) (cs : List Value) (x : DataW H × List MemPlace), DataW.trod enc Try.prog w base spare held n 36 cs = some x →
    ∃ (t : Ty), t.row.length = 2 ∧ SRep (fun _ => True) w t.row cs := by
  intro n
  induction n using Nat.strongRecOn with
  | _ n IH =>
    intro cs x h
    obtain ⟨xs, m, rfl, _, hlen, hlx, hf⟩ := DataW.trod_struct Try.underlying36 h
    have hx2 : xs.length = 2 := hlx
    have f0 : DataW.trod enc Try.prog w base spare held m 3 ((cs.drop 0).take (Try.prog.cellsOf 3)) = xs[0]? := hf 0 _ rfl
    have f1 : DataW.trod enc Try.prog w base spare held m 34 ((cs.drop 1).take (Try.prog.cellsOf 34)) = xs[1]? := hf 1 _ rfl
    rw [Try.cellsLTy] at hlen
    match cs, hlen with
    | [c0, c1], _ =>
      rw [List.getElem?_eq_getElem (by omega)] at f0 f1
      rw [Try.cellsInt] at f0
      rw [Try.cellsLTys] at f1
      simp only [List.drop_zero, List.drop_succ_cons, List.take_succ_cons, List.take_zero] at f0 f1
      obtain ⟨k, hk⟩ := int_of_trod Try.underlying3 f0
      simp at hk
      subst hk
      cases m with
      | zero => simp [DataW.trod] at f1
      | succ m =>
        obtain ⟨rows, s, hs, hq, hr⟩ := rows_of_trod (m := 2) Try.underlying34 Try.cellsLTy (by omega) (fun r => ∃ t : Ty, r = t.row) (fun cs x h => by
          obtain ⟨t, h1, h2⟩ := IH m (by omega) cs x h
          exact ⟨t.row, ⟨t, rfl⟩, h1, h2⟩) _ _ f1
        simp at hs
        subst hs
        obtain ⟨ts, rfl⟩ := Ty.of_rows rows hq
        refine ⟨.mk k ts, Ty.row_length _, ?_⟩
        unfold Ty.row
        exact ⟨_, _, rfl, by unfold CRep; rfl, _, _, rfl, hr, rfl⟩

theorem ty_of_arg {v : Value} {d : DataW H} {ps : List MemPlace} {r : Reach} {b : Nat} (hv : Value.okWide Try.prog w r b 36 v) (h : DataW.Trod enc Try.prog w base spare held 36 v d ps) :
    ∃ t : Ty, TyRep (fun _ => True) w t v := by
  obtain ⟨cs, rfl, hsz⟩ := okWide_struct Try.underlying36 hv
  obtain ⟨fuel, hf⟩ := h
  obtain ⟨t, _, ht⟩ := ty_of_trod fuel _ _ hf
  cases t with | mk k ts =>
  unfold Ty.row at ht
  obtain ⟨z, zs, h1, h2, z', zs', rfl, h4, rfl⟩ := ht
  rw [CRep.int_eq h2] at h1
  refine ⟨.mk k ts, z', ?_, h4⟩
  obtain ⟨l⟩ := cs
  simp only [Value.cells] at h1
  rw [show l = [.int .i64 k, z'] from by simpa using h1]
  rfl
end
end Go.Proofs.Ytohnlkkofbploaa
