/-
  The types of terms with casts are valid: plain Lean.
-/
import Derived.Test.YtkhmkohgnikcmaaB29
namespace Go.Proofs.Ytkhmkohgnikcmaa
open Go.RowKit
set_option linter.unusedVariables false
set_option linter.unusedSimpArgs false
set_option maxRecDepth 100000

def CtxOk (l : List Bd) : Prop := ∀ b ∈ l, b.ty.valid = true
theorem CtxOk.snoc {l : List Bd} {nm : ByteArray} {ty : Ty} (h : CtxOk l) (hv : ty.valid = true) : CtxOk (l ++ [⟨nm, ty⟩]) := fun b hb => by
  rcases List.mem_append.1 hb with h1 | h1
  · exact h b h1
  · simp at h1; subst h1; exact hv
theorem Ty.toS_vd {t : Ty} (h : t.valid = true) : t.toS.vd = true := by
  rw [← S.valid, Ty.toS_ty h]; exact h
theorem look_vd {l : List Bd} {nm : ByteArray} (h : CtxOk l) : ∀ (n : Nat) (t : Ty), lookN l nm n = some t → t.valid = true
  | 0, t, e => by cases e
  | n + 1, t, e => by
    unfold lookN at e
    cases hb : l[n]? with
    | none => rw [hb] at e; exact look_vd h n t e
    | some b =>
      rw [hb] at e
      dsimp only at e
      split at e
      · simp at e; subst e; exact h b (List.mem_of_getElem? hb)
      · exact look_vd h n t e
theorem nodeS_vd {k : Int} {ty src : Ty} {hs : List S} {h : S} (hk : k ≠ 5) (hv : ∀ g ∈ hs, g.vd = true) (hvt : k = 14 → ty.valid = true) (e : nodeS k ty src hs = some h) : h.vd = true := by
  match hs, hv, e with
  | [], _, e => simp [nodeS] at e
  | [g], hv, e =>
    simp only [nodeS, if_neg hk] at e
    split at e
    · rename_i h14
      split at e
      · simp at e; subst e; exact Ty.toS_vd (hvt h14)
      · cases e
    · cases g with
      | pr a b =>
        have hp := pr_vd (a := a) (b := b) (hv _ (by simp))
        simp only [Option.some.injEq] at e
        subst e
        split
        · exact hp.2
        · exact hp.1
      | _ => cases e
  | [g, q], hv, e =>
    simp only [nodeS] at e
    split at e
    · cases g with
      | fn a b =>
        have hp := fn_vd (a := a) (b := b) (hv _ (by simp))
        simp only at e
        split at e
        · simp at e; subst e; exact hp.2
        · cases e
      | _ => cases e
    · split at e
      · split at e
        · rename_i h10 hvd; simp at e; subst e; exact hvd
        · cases e
      · split at e
        · simp only [Option.some.injEq] at e
          subst e
          split <;> rfl
        · cases e
  | [c, g, q], hv, e =>
    simp only [nodeS] at e
    split at e
    · simp at e; subst e; exact hv _ (by simp)
    · cases e
  | _ :: _ :: _ :: _ :: _, _, e => simp [nodeS] at e
theorem castsS_vd {d : Int} {l : List Bd} (hc : CtxOk l) : ∀ (ts : List Tm), Tm.shapes ts 13 d = true → (∀ t ∈ ts, ∀ h, t.shape 13 d = true → t.castS l = some h → h.vd = true) → ∀ hs, Tm.castsS ts l = some hs → hs.length = ts.length ∧ ∀ h ∈ hs, h.vd = true
  | [], _, _, hs, e => by simp [Tm.castsS] at e; subst e; simp
  | t :: ts, hsh, IH, hs, e => by
    unfold Tm.shapes at hsh
    simp only [Bool.and_eq_true] at hsh
    rw [Tm.castsS] at e
    cases h1 : t.castS l with
    | none => rw [h1] at e; cases e
    | some h =>
      rw [h1] at e
      dsimp only at e
      cases h2 : Tm.castsS ts l with
      | none => rw [h2] at e; cases e
      | some hs2 =>
        rw [h2] at e
        simp only [Option.some.injEq] at e
        subst e
        obtain ⟨e1, e2⟩ := castsS_vd hc ts hsh.2 (fun t' ht' => IH t' (List.mem_cons_of_mem _ ht')) hs2 h2
        refine ⟨by simp [e1], fun g hg => ?_⟩
        rcases List.mem_cons.1 hg with rfl | hg
        · exact IH t (by simp) _ hsh.1 h1
        · exact e2 g hg
theorem own_ty {k u lb : Int} {nm : ByteArray} {ty src : Ty} {ts : List Tm} (h : (Tm.mk k nm u ty src lb ts).ownB = true) (hk : k = 5 ∨ k = 14) : ty.valid = true := by
  unfold Tm.ownB ownB at h
  simp only [Tm.kind, Tm.type, Tm.src, Tm.num, Tm.label, Tm.name] at h
  rcases hk with rfl | rfl
  · simp at h; exact h.1.2
  · simp at h; exact h.1.2
theorem castS_vd : ∀ (t : Tm) (d : Int) (l : List Bd), t.shape 13 d = true → CtxOk l → ∀ h, t.castS l = some h → h.vd = true
  | .mk k nm u ty src lb ts, d, l, hsh, hc, h, e => by
    obtain ⟨hd, hk13, hlen, hown, hkids⟩ := Tm.shape_parts hsh
    have IH : ∀ t' ∈ ts, ∀ l', CtxOk l' → ∀ h', t'.shape 13 (d - 1) = true → t'.castS l' = some h' → h'.vd = true := fun t' ht' l' hc' h' hs' e' => castS_vd t' (d - 1) l' hs' hc' h' e'
    by_cases h1 : k = 1
    · subst h1
      rw [Tm.castS, if_pos rfl] at e
      cases hlk : lookN l nm l.length with
      | none => rw [hlk] at e; cases e
      | some t' => rw [hlk] at e; simp at e; subst e; exact Ty.toS_vd (look_vd hc _ _ hlk)
    by_cases h2 : k = 2
    · subst h2; rw [Tm.castS, if_neg (by omega), if_pos rfl] at e; simp at e; subst e; rfl
    by_cases h34 : k = 3 ∨ k = 4
    · rw [Tm.castS, if_neg h1, if_neg h2, if_pos h34] at e; simp at e; subst e; rfl
    by_cases h5 : k = 5
    · subst h5
      rw [Tm.castS, if_neg (by omega), if_neg (by omega), if_neg (by omega), if_pos rfl] at e
      split at e
      · split at e
        · rename_i hv; simp at e; subst e; exact hv
        · cases e
      · cases e
    rw [Tm.castS, if_neg h1, if_neg h2, if_neg h34, if_neg h5] at e
    cases hcs : Tm.castsS ts l with
    | none => rw [hcs] at e; cases e
    | some hs =>
      rw [hcs] at e
      exact nodeS_vd h5 (castsS_vd hc ts hkids (fun t' ht' h' hs' e' => IH t' ht' l hc h' hs' e') hs hcs).2 (fun h14 => own_ty hown (.inr h14)) e
termination_by t => SizeOf.sizeOf t
decreasing_by exact Tm.kid_lt (t := .mk k nm u ty src lb ts) ht'
end Go.Proofs.Ytkhmkohgnikcmaa
