/-
  An argument of the laws' type 'Term' reads as a tree.
-/
import Derived.Test.YtghgjpcibdfbmaaOpenTy
import Derived.Test.YtghgjpcibdfbmaaTm
namespace Go.Proofs.Ytghgjpcibdfbmaa
open Go.RowKit Go.ChangeShapes Go.WideShapes
set_option linter.unusedVariables false
set_option linter.unusedSimpArgs false
set_option maxRecDepth 100000


theorem Try.cellsLTm : Try.prog.cellsOf 27 = 9 := by kernel_rfl
theorem Try.cellsStr : Try.prog.cellsOf 9 = 1 := by kernel_rfl
theorem Try.cellsLTms : Try.prog.cellsOf 25 = 1 := by kernel_rfl

theorem Tm.of_rows : ∀ rows : List (List C), (∀ r ∈ rows, ∃ t : Tm, r = t.row) → ∃ ts, rows = Tm.rows ts
  | [], _ => ⟨[], by unfold Tm.rows; rfl⟩
  | r :: rows, h => by
    obtain ⟨t, rfl⟩ := h r (List.mem_cons_self ..)
    obtain ⟨ts, rfl⟩ := Tm.of_rows rows (fun r hr => h r (List.mem_cons_of_mem _ hr))
    exact ⟨t :: ts, by conv => rhs; unfold Tm.rows⟩

section
variable {H : Type} {enc : TypeId × Value → H} {w : World} {base : Nat} {held : Bool} {spare : Nat → Bool}

theorem ty_parts {t : Ty} {c0 c1 : Value} (h : SRep (fun _ => True) w t.row [c0, c1]) : c0 = .int .i64 t.kind ∧ CRep (fun _ => True) w (.sl (Ty.rows t.kids)) c1 := by
  cases t with | mk k ts =>
  unfold Ty.row at h
  obtain ⟨z, zs, h1, h2, z', zs', rfl, h4, rfl⟩ := h
  simp at h1
  obtain ⟨rfl, rfl⟩ := h1
  exact ⟨CRep.int_eq h2, h4⟩
theorem tm_of_trod : ∀ (n : Nat) (cs : List Value) (x : DataW H × List MemPlace), DataW.trod enc Try.prog w base spare held n 27 cs = some x →
    ∃ (t : Tm), t.row.length = 9 ∧ SRep (fun _ => True) w t.row cs := by
  intro n
  induction n using Nat.strongRecOn with
  | _ n IH =>
    intro cs x h
    obtain ⟨xs, m, rfl, _, hlen, hlx, hf⟩ := DataW.trod_struct Try.underlying27 h
    have hx2 : xs.length = 7 := hlx
    have f0 : DataW.trod enc Try.prog w base spare held m 3 ((cs.drop 0).take (Try.prog.cellsOf 3)) = xs[0]? := hf 0 _ rfl
    have f1 : DataW.trod enc Try.prog w base spare held m 9 ((cs.drop 1).take (Try.prog.cellsOf 9)) = xs[1]? := hf 1 _ rfl
    have f2 : DataW.trod enc Try.prog w base spare held m 3 ((cs.drop 2).take (Try.prog.cellsOf 3)) = xs[2]? := hf 2 _ rfl
    have f3 : DataW.trod enc Try.prog w base spare held m 24 ((cs.drop 3).take (Try.prog.cellsOf 24)) = xs[3]? := hf 3 _ rfl
    have f4 : DataW.trod enc Try.prog w base spare held m 24 ((cs.drop 5).take (Try.prog.cellsOf 24)) = xs[4]? := hf 4 _ rfl
    have f5 : DataW.trod enc Try.prog w base spare held m 3 ((cs.drop 7).take (Try.prog.cellsOf 3)) = xs[5]? := hf 5 _ rfl
    have f6 : DataW.trod enc Try.prog w base spare held m 25 ((cs.drop 8).take (Try.prog.cellsOf 25)) = xs[6]? := hf 6 _ rfl
    rw [Try.cellsLTm] at hlen
    match cs, hlen with
    | [c0, c1, c2, c3, c4, c5, c6, c7, c8], _ =>
      rw [List.getElem?_eq_getElem (by omega)] at f0 f1 f2 f3 f4 f5 f6
      rw [Try.cellsInt] at f0 f2 f5
      rw [Try.cellsStr] at f1
      rw [Try.cellsLTy] at f3 f4
      rw [Try.cellsLTms] at f6
      simp only [List.drop_zero, List.drop_succ_cons, List.take_succ_cons, List.take_zero] at f0 f1 f2 f3 f4 f5 f6
      obtain ⟨k, hk⟩ := int_of_trod Try.underlying3 f0
      obtain ⟨s, hs, -, hz⟩ := DataW.trod_string Try.underlying9 f1
      obtain ⟨u, hu⟩ := int_of_trod Try.underlying3 f2
      obtain ⟨t, -, ht⟩ := ty_of_trod m _ _ f3
      obtain ⟨f, -, hff⟩ := ty_of_trod m _ _ f4
      obtain ⟨l, hl⟩ := int_of_trod Try.underlying3 f5
      simp at hk hs hu hl
      subst hk hs hu hl
      obtain ⟨rfl, htt⟩ := ty_parts ht
      obtain ⟨rfl, hfff⟩ := ty_parts hff
      cases m with
      | zero => simp [DataW.trod] at f6
      | succ m =>
        obtain ⟨rows, s', hs, hq, hr⟩ := rows_of_trod (m := 9) Try.underlying25 Try.cellsLTm (by omega) (fun r => ∃ t : Tm, r = t.row) (fun cs x h => by
          obtain ⟨t, h1, h2⟩ := IH m (by omega) cs x h
          exact ⟨t.row, ⟨t, rfl⟩, h1, h2⟩) _ _ f6
        simp at hs
        subst hs
        obtain ⟨ts, rfl⟩ := Tm.of_rows rows hq
        refine ⟨.mk k s u t f l ts, Tm.row_length _, ?_⟩
        unfold Tm.row
        have i1 : ∀ n : Int, CRep (fun _ => True) w (.int n) (.int .i64 n) := fun n => by unfold CRep; rfl
        exact ⟨_, _, rfl, i1 _, _, _, rfl, by unfold CRep; exact ⟨rfl, hz⟩, _, _, rfl, i1 _, _, _, rfl, i1 _, _, _, rfl, htt, _, _, rfl, i1 _, _, _, rfl, hfff, _, _, rfl, i1 _, _, _, rfl, hr, rfl⟩

theorem tm_of_arg {v : Value} {d : DataW H} {ps : List MemPlace} {r : Reach} {b : Nat} (hv : Value.okWide Try.prog w r b 27 v) (h : DataW.Trod enc Try.prog w base spare held 27 v d ps) :
    ∃ t : Tm, TmRep (fun _ => True) w t v := by
  obtain ⟨cs, rfl, hsz⟩ := okWide_struct Try.underlying27 hv
  obtain ⟨fuel, hf⟩ := h
  obtain ⟨t, _, ht⟩ := tm_of_trod fuel _ _ hf
  cases t with | mk k s u t f l ts =>
  unfold Tm.row at ht
  obtain ⟨z0, zs, h1, e0, z1, zs, rfl, e1, z2, zs, rfl, e2, z3, zs, rfl, e3, z4, zs, rfl, e4, z5, zs, rfl, e5, z6, zs, rfl, e6, z7, zs, rfl, e7, z8, zs, rfl, e8, rfl⟩ := ht
  obtain ⟨rfl, hz⟩ := CRep.str_eq e1
  rw [CRep.int_eq e0, CRep.int_eq e2, CRep.int_eq e3, CRep.int_eq e5, CRep.int_eq e7] at h1
  refine ⟨.mk k s u t f l ts, z4, z6, z8, ?_, hz, e4, e6, e8⟩
  obtain ⟨xs⟩ := cs
  simp only [Value.cells] at h1
  rw [show xs = [.int .i64 k, .string s, .int .i64 u, .int .i64 t.kind, z4, .int .i64 f.kind, z6, .int .i64 l, z8] from by simpa using h1]
  rfl
end
end Go.Proofs.Ytghgjpcibdfbmaa
