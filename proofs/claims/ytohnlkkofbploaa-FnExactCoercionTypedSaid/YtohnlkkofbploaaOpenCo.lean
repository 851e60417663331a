/-
  An argument of the laws' type 'Coercion' reads as a tree.
-/
import Derived.Test.YtohnlkkofbploaaOpen
import Derived.Test.YtohnlkkofbploaaCo
namespace Go.Proofs.Ytohnlkkofbploaa
open Go.RowKit Go.ChangeShapes Go.WideShapes
set_option linter.unusedVariables false
set_option linter.unusedSimpArgs false
set_option maxRecDepth 100000

theorem Try.cellsLCo : Try.prog.cellsOf 24 = 4 := by kernel_rfl
theorem Try.cellsCoInt : Try.prog.cellsOf 3 = 1 := by kernel_rfl
theorem Try.cellsLCos : Try.prog.cellsOf 22 = 1 := by kernel_rfl

theorem Co.of_rows : ∀ rows : List (List C), (∀ r ∈ rows, ∃ t : Co, r = t.row) → ∃ ts, rows = Co.rows ts
  | [], _ => ⟨[], by unfold Co.rows; rfl⟩
  | r :: rows, h => by
    obtain ⟨t, rfl⟩ := h r (List.mem_cons_self ..)
    obtain ⟨ts, rfl⟩ := Co.of_rows rows (fun r hr => h r (List.mem_cons_of_mem _ hr))
    exact ⟨t :: ts, by conv => rhs; unfold Co.rows⟩

section
variable {H : Type} {enc : TypeId × Value → H} {w : World} {base : Nat} {held : Bool} {spare : Nat → Bool}

theorem co_of_trod : ∀ (n : Nat) (cs : List Value) (x : DataW H × List MemPlace), DataW.trod enc Try.prog w base spare held n 24 cs = some x →
    ∃ (t : Co), t.row.length = 4 ∧ SRep (fun _ => True) w t.row cs := by
  intro n
  induction n using Nat.strongRecOn with
  | _ n IH =>
    intro cs x h
    obtain ⟨xs, m, rfl, _, hlen, hlx, hf⟩ := DataW.trod_struct Try.underlying24 h
    have hx2 : xs.length = 4 := hlx
    have f0 : DataW.trod enc Try.prog w base spare held m 3 ((cs.drop 0).take (Try.prog.cellsOf 3)) = xs[0]? := hf 0 _ rfl
    have f1 : DataW.trod enc Try.prog w base spare held m 3 ((cs.drop 1).take (Try.prog.cellsOf 3)) = xs[1]? := hf 1 _ rfl
    have f2 : DataW.trod enc Try.prog w base spare held m 3 ((cs.drop 2).take (Try.prog.cellsOf 3)) = xs[2]? := hf 2 _ rfl
    have f3 : DataW.trod enc Try.prog w base spare held m 22 ((cs.drop 3).take (Try.prog.cellsOf 22)) = xs[3]? := hf 3 _ rfl
    rw [Try.cellsLCo] at hlen
    match cs, hlen with
    | [c0, c1, c2, c3], _ =>
      rw [List.getElem?_eq_getElem (by omega)] at f0 f1 f2 f3
      rw [Try.cellsCoInt] at f0 f1 f2
      rw [Try.cellsLCos] at f3
      simp only [List.drop_zero, List.drop_succ_cons, List.take_succ_cons, List.take_zero] at f0 f1 f2 f3
      obtain ⟨k, hk⟩ := int_of_trod Try.underlying3 f0
      obtain ⟨g, hg⟩ := int_of_trod Try.underlying3 f1
      obtain ⟨l, hl⟩ := int_of_trod Try.underlying3 f2
      simp at hk hg hl
      subst hk hg hl
      cases m with
      | zero => simp [DataW.trod] at f3
      | succ m =>
        obtain ⟨rows, s, hs, hq, hr⟩ := rows_of_trod (m := 4) Try.underlying22 Try.cellsLCo (by omega) (fun r => ∃ t : Co, r = t.row) (fun cs x h => by
          obtain ⟨t, h1, h2⟩ := IH m (by omega) cs x h
          exact ⟨t.row, ⟨t, rfl⟩, h1, h2⟩) _ _ f3
        simp at hs
        subst hs
        obtain ⟨ts, rfl⟩ := Co.of_rows rows hq
        refine ⟨.mk k g l ts, Co.row_length _, ?_⟩
        unfold Co.row
        have i1 : ∀ n : Int, CRep (fun _ => True) w (.int n) (.int .i64 n) := fun n => by unfold CRep; rfl
        exact ⟨_, _, rfl, i1 _, _, _, rfl, i1 _, _, _, rfl, i1 _, _, _, rfl, hr, rfl⟩

theorem co_of_arg {v : Value} {d : DataW H} {ps : List MemPlace} {r : Reach} {b : Nat} (hv : Value.okWide Try.prog w r b 24 v) (h : DataW.Trod enc Try.prog w base spare held 24 v d ps) :
    ∃ t : Co, CoRep (fun _ => True) w t v := by
  obtain ⟨cs, rfl, hsz⟩ := okWide_struct Try.underlying24 hv
  obtain ⟨fuel, hf⟩ := h
  obtain ⟨t, _, ht⟩ := co_of_trod fuel _ _ hf
  cases t with | mk k g l ts =>
  unfold Co.row at ht
  obtain ⟨z, zs, h1, h2, z1, zs1, rfl, h3, z2, zs2, rfl, h4, z', zs', rfl, h5, rfl⟩ := ht
  rw [CRep.int_eq h2, CRep.int_eq h3, CRep.int_eq h4] at h1
  refine ⟨.mk k g l ts, z', ?_, h5⟩
  obtain ⟨xs⟩ := cs
  simp only [Value.cells] at h1
  rw [show xs = [.int .i64 k, .int .i64 g, .int .i64 l, z'] from by simpa using h1]
  rfl
end
end Go.Proofs.Ytohnlkkofbploaa
