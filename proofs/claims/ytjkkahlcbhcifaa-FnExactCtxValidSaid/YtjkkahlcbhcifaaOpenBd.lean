/-
  An argument of type []Bind reads as bindings.
-/
import Derived.Test.YtjkkahlcbhcifaaOpenTy
import Derived.Test.YtjkkahlcbhcifaaBd
namespace Go.Proofs.Ytjkkahlcbhcifaa
open Go.RowKit Go.ChangeShapes Go.WideShapes
set_option linter.unusedVariables false
set_option linter.unusedSimpArgs false
set_option maxRecDepth 100000

theorem Try.cellsLBd : Try.prog.cellsOf 88 = 3 := by kernel_rfl
theorem Try.cellsStr : Try.prog.cellsOf 9 = 1 := by kernel_rfl
theorem Bd.of_rows : ∀ rows : List (List C), (∀ r ∈ rows, ∃ t : Bd, r = t.row) → ∃ ts, rows = Bd.rows ts
  | [], _ => ⟨[], rfl⟩
  | r :: rows, h => by
    obtain ⟨t, rfl⟩ := h r (List.mem_cons_self ..)
    obtain ⟨ts, rfl⟩ := Bd.of_rows rows (fun r hr => h r (List.mem_cons_of_mem _ hr))
    exact ⟨t :: ts, rfl⟩
section
variable {H : Type} {enc : TypeId × Value → H} {w : World} {base : Nat} {held : Bool} {spare : Nat → Bool}
theorem bd_of_trod (n : Nat) (cs : List Value) (x : DataW H × List MemPlace) (h : DataW.trod enc Try.prog w base spare held n 88 cs = some x) : ∃ b : Bd, SRep (fun _ => True) w b.row cs := by
  obtain ⟨xs, m, rfl, _, hlen, hlx, hf⟩ := DataW.trod_struct Try.underlying88 h
  have hx2 : xs.length = 2 := hlx
  have f0 : DataW.trod enc Try.prog w base spare held m 9 ((cs.drop 0).take (Try.prog.cellsOf 9)) = xs[0]? := hf 0 _ rfl
  have f1 : DataW.trod enc Try.prog w base spare held m 24 ((cs.drop 1).take (Try.prog.cellsOf 24)) = xs[1]? := hf 1 _ rfl
  rw [Try.cellsLBd] at hlen
  match cs, hlen with
  | [c0, c1, c2], _ =>
    rw [List.getElem?_eq_getElem (by omega)] at f0 f1
    rw [Try.cellsStr] at f0
    rw [Try.cellsLTy] at f1
    simp only [List.drop_zero, List.drop_succ_cons, List.take_succ_cons, List.take_zero] at f0 f1
    obtain ⟨s, hs, -, hz⟩ := DataW.trod_string Try.underlying9 f0
    simp at hs
    subst hs
    obtain ⟨t, -, ht⟩ := ty_of_trod m _ _ f1
    cases t with | mk k ts =>
    refine ⟨⟨s, .mk k ts⟩, _, _, rfl, by unfold CRep; exact ⟨rfl, hz⟩, ?_⟩
    unfold Ty.row at ht
    exact ht
theorem bds_of_arg {v : Value} {d : DataW H} {ps : List MemPlace} {r : Reach} {b : Nat} (hv : Value.okWide Try.prog w r b 53 v) (h : DataW.Trod enc Try.prog w base spare held 53 v d ps) :
    ∃ l : List Bd, BdsRep (fun _ => True) w l v := by
  obtain ⟨a, m, c, rfl⟩ := okWide_slice Try.underlying53 hv
  obtain ⟨fuel, hf⟩ := h
  cases fuel with
  | zero => simp [DataW.trod] at hf
  | succ n =>
    obtain ⟨rows, s, hs, hq, hr⟩ := rows_of_trod (m := 3) Try.underlying53 Try.cellsLBd (by omega) (fun r => ∃ t : Bd, r = t.row) (fun cs x h => by
      obtain ⟨t, h2⟩ := bd_of_trod n cs x h
      exact ⟨t.row, ⟨t, rfl⟩, rfl, h2⟩) _ _ hf
    obtain ⟨ts, rfl⟩ := Bd.of_rows rows hq
    have hvs : Value.slice a m c = s := by simpa [Value.cells] using hs
    rw [hvs]
    exact ⟨ts, hr⟩
end
end Go.Proofs.Ytjkkahlcbhcifaa
