/-
  impl.castType: the recursion.
  The shape of a term, by the reference.
-/
import Derived.Test.YtkhmkohgnikcmaaB33
import Derived.Test.YtkhmkohgnikcmaaB34
import Derived.Test.YtkhmkohgnikcmaaCtWant6
import Derived.Test.YtkhmkohgnikcmaaCtWant7
import Derived.Test.YtkhmkohgnikcmaaCtWant9
import Derived.Test.YtkhmkohgnikcmaaCtWant11
import Derived.Test.YtkhmkohgnikcmaaCtCastA
import Derived.Test.YtkhmkohgnikcmaaCtCastL
import Derived.Test.YtkhmkohgnikcmaaCtCastC
import Derived.Test.YtkhmkohgnikcmaaB14
namespace Go.Proofs.Ytkhmkohgnikcmaa
open Go.RowKit
set_option linter.unusedVariables false
set_option linter.unusedSimpArgs false
set_option maxRecDepth 100000

theorem len2 {α : Type} {l : List α} (h : l.length = 2) : ∃ a b, l = [a, b] := by
  match l, h with
  | [a, b], _ => exact ⟨a, b, rfl⟩
theorem len3 {α : Type} {l : List α} (h : l.length = 3) : ∃ a b c, l = [a, b, c] := by
  match l, h with
  | [a, b, c], _ => exact ⟨a, b, c, rfl⟩
theorem want_len {k : Int} {ty : Ty} {hs ws : List S} {t : S} (h : wantS k ty hs = some (ws, t)) : ws.length ≤ hs.length := by
  match hs, h with
  | [], h => simp [wantS] at h
  | [g], h =>
    simp only [wantS] at h
    split at h
    · simp at h; obtain ⟨e, -⟩ := h; subst e; simp
    · split at h
      · simp at h; obtain ⟨e, -⟩ := h; subst e; simp
      · cases h
  | [g, i], h =>
    simp only [wantS] at h
    split at h
    · split at h
      · split at h
        · simp at h; obtain ⟨e, -⟩ := h; subst e; simp
        · cases h
      · cases h
    · split at h
      · simp at h; obtain ⟨e, -⟩ := h; subst e; simp
      · split at h
        · simp at h; obtain ⟨e, -⟩ := h; subst e; simp
        · cases h
  | [c, g, i], h =>
    simp only [wantS] at h
    split at h
    · simp at h; obtain ⟨e, -⟩ := h; subst e; simp
    · cases h
  | a :: b :: c :: d :: l, h => simp [wantS] at h
/-- The program's wanted at a node of kind 5 and above. -/
theorem implWanted_S (k : Int) (hs : List S) (hk : 5 ≤ k ∧ k ≤ 12) (hlen : tops k = (hs.length : Int)) (hv : ∀ h ∈ hs, h.vd = true) (G : Nat → Prop) (c y : Value) (hc : ∃ a n q, c = .slice a n q) (nm : ByteArray) (u lb tk fk : Int) (ty : Ty) (ta fa ca : Option Addr) (tn tq fn fq cm cq : Nat) (w : World) (hty : TyRep G w ty (.agg #[.int .i64 tk, .slice ta tn tq])) (hvt : k = 5 → ty.valid = true) (hy : TysRep G w (hs.map S.ty) y) :
    Calls Try.prog 39 #[c, .agg #[.int .i64 k, .string nm, .int .i64 u, .int .i64 tk, .slice ta tn tq, .int .i64 fk, .slice fa fn fq, .int .i64 lb, .slice ca cm cq], y] w (RetW G (wantS k ty hs) w) := by
  have hcase : k = 5 ∨ k = 6 ∨ k = 7 ∨ k = 8 ∨ k = 9 ∨ k = 10 ∨ k = 11 ∨ k = 12 := by omega
  rcases hcase with rfl | rfl | rfl | rfl | rfl | rfl | rfl | rfl
  · obtain ⟨h1, rfl⟩ : ∃ h1, hs = [h1] := List.length_eq_one_iff.1 (by simp [tops] at hlen; omega)
    exact implWanted_5 G c y hc nm u lb tk fk ty ta fa ca tn tq fn fq cm cq w hty (hvt rfl) h1 hy
  · obtain ⟨h1, h2, rfl⟩ : ∃ h1 h2, hs = [h1, h2] := len2 (by simp [tops] at hlen; omega)
    cases e : (h1.mat 4).2.2 with
    | false => exact implWanted_6_f G c y hc nm u lb tk fk ty ta fa ca tn tq fn fq cm cq w h1 h2 e hy
    | true => exact implWanted_6_t G c y hc nm u lb tk fk ty ta fa ca tn tq fn fq cm cq w h1 h2 e hy
  · obtain ⟨h1, h2, rfl⟩ : ∃ h1 h2, hs = [h1, h2] := len2 (by simp [tops] at hlen; omega)
    cases e : h1.cons .int with
    | false => exact implWanted_7_f G c y hc nm u lb tk fk ty ta fa ca tn tq fn fq cm cq w h1 h2 e hy
    | true => exact implWanted_7_t G c y hc nm u lb tk fk ty ta fa ca tn tq fn fq cm cq w h1 h2 e hy
  · obtain ⟨h1, h2, rfl⟩ : ∃ h1 h2, hs = [h1, h2] := len2 (by simp [tops] at hlen; omega)
    cases e : h1.cons .int with
    | false => exact implWanted_8_f G c y hc nm u lb tk fk ty ta fa ca tn tq fn fq cm cq w h1 h2 e hy
    | true => exact implWanted_8_t G c y hc nm u lb tk fk ty ta fa ca tn tq fn fq cm cq w h1 h2 e hy
  · obtain ⟨h1, h2, h3, rfl⟩ : ∃ h1 h2 h3, hs = [h1, h2, h3] := len3 (by simp [tops] at hlen; omega)
    cases e : h1.cons .bool with
    | false => exact implWanted_9_n G c y hc nm u lb tk fk ty ta fa ca tn tq fn fq cm cq w h1 h2 h3 e hy
    | true =>
      cases e2 : h2.cons h3 with
      | false => exact implWanted_9_f G c y hc nm u lb tk fk ty ta fa ca tn tq fn fq cm cq w h1 h2 h3 e e2 hy
      | true => exact implWanted_9_t G c y hc nm u lb tk fk ty ta fa ca tn tq fn fq cm cq w h1 h2 h3 e e2 (hv h2 (by simp)) (hv h3 (by simp)) hy
  · obtain ⟨h1, h2, rfl⟩ : ∃ h1 h2, hs = [h1, h2] := len2 (by simp [tops] at hlen; omega)
    exact implWanted_10 G c y hc nm u lb tk fk ty ta fa ca tn tq fn fq cm cq w hty h1 h2 hy
  · obtain ⟨h1, rfl⟩ : ∃ h1, hs = [h1] := List.length_eq_one_iff.1 (by simp [tops] at hlen; omega)
    exact implWanted_11 G c y hc nm u lb tk fk ty ta fa ca tn tq fn fq cm cq w h1 hy
  · obtain ⟨h1, rfl⟩ : ∃ h1, hs = [h1] := List.length_eq_one_iff.1 (by simp [tops] at hlen; omega)
    exact implWanted_12 G c y hc nm u lb tk fk ty ta fa ca tn tq fn fq cm cq w h1 hy
theorem node_prog (k : Int) (ty src : Ty) (hs : List S) (hk : 6 ≤ k ∧ k ≤ 12) (hlen : tops k = (hs.length : Int)) (hv : ∀ h ∈ hs, h.vd = true) : nodeS k ty src hs = progS (wantS k ty hs) hs := by
  have hcase : k = 6 ∨ k = 7 ∨ k = 8 ∨ k = 9 ∨ k = 10 ∨ k = 11 ∨ k = 12 := by omega
  rcases hcase with rfl | rfl | rfl | rfl | rfl | rfl | rfl
  · obtain ⟨h1, h2, rfl⟩ : ∃ h1 h2, hs = [h1, h2] := len2 (by simp [tops] at hlen; omega)
    exact node_2 _ ty src h1 h2 (by omega) (hv h1 (by simp)) (hv h2 (by simp))
  · obtain ⟨h1, h2, rfl⟩ : ∃ h1 h2, hs = [h1, h2] := len2 (by simp [tops] at hlen; omega)
    exact node_2 _ ty src h1 h2 (by omega) (hv h1 (by simp)) (hv h2 (by simp))
  · obtain ⟨h1, h2, rfl⟩ : ∃ h1 h2, hs = [h1, h2] := len2 (by simp [tops] at hlen; omega)
    exact node_2 _ ty src h1 h2 (by omega) (hv h1 (by simp)) (hv h2 (by simp))
  · obtain ⟨h1, h2, h3, rfl⟩ : ∃ h1 h2 h3, hs = [h1, h2, h3] := len3 (by simp [tops] at hlen; omega)
    exact node_3 _ ty src h1 h2 h3 (hv h2 (by simp)) (hv h3 (by simp))
  · obtain ⟨h1, h2, rfl⟩ : ∃ h1 h2, hs = [h1, h2] := len2 (by simp [tops] at hlen; omega)
    exact node_2 _ ty src h1 h2 (by omega) (hv h1 (by simp)) (hv h2 (by simp))
  · obtain ⟨h1, rfl⟩ : ∃ h1, hs = [h1] := List.length_eq_one_iff.1 (by simp [tops] at hlen; omega)
    exact node_1 _ ty src h1 (by omega) (hv h1 (by simp))
  · obtain ⟨h1, rfl⟩ : ∃ h1, hs = [h1] := List.length_eq_one_iff.1 (by simp [tops] at hlen; omega)
    exact node_1 _ ty src h1 (by omega) (hv h1 (by simp))
def P4 (t : Tm) (d : Int) : Prop := ∀ (l : List Bd) (c y : Value) (W : World) (G : Nat → Prop), t.shape 13 d = true → (l.length : Int) + d ≤ 1000 → CtxOk l → CtxV l c → BdsRep G W l c → TmRep G W t y → Calls Try.prog 21 #[c, y] W (RetOG G ((t.castS l).map S.ty) W)
theorem implCTStep (t : Tm) (d : Int) (IH : ∀ t' ∈ t.kids, P4 t' (d - 1)) : P4 t d := by
  intro l c y W G hsh hld hc hcv hb he
  cases t with
  | mk k nm u ty src lb ts =>
    obtain ⟨hd, hk13, hlen, hown, hkids⟩ := Tm.shape_parts hsh
    obtain ⟨k', nm', u', tk, ta, tn, tq, fk, fa, fn, fq, lb', ca, cm, cq, rfl⟩ := he.shape
    obtain ⟨e1, e2, e3, -, -, -, -, e8, hcm, hnm, -, -, hty, hsrc, hks⟩ := he.parts
    simp only [Tm.kind, Tm.name, Tm.num, Tm.label, Tm.type] at e1 e2 e3 e8 hty
    subst e1 e2 e3 e8
    have hl0 : (0 : Int) ≤ tops k' := by rw [hlen]; omega
    have hsm : ts.length ≤ 3 := by
      have : tops k' ≤ 3 := by unfold tops; repeat' split <;> omega
      omega
    have hsh0 := hcv.shape
    obtain ⟨xa, xn, xq, rfl⟩ := hcv.shape
    have hkk : (1 ≤ k' ∧ k' ≤ 12) ∨ k' = 14 := by
      unfold tops at hl0
      split at hl0
      · omega
      split at hl0
      · omega
      split at hl0
      · omega
      split at hl0
      · omega
      · omega
    have IHl : ∀ t' ∈ ts, ∀ (W' : World) (c' y' : Value) (P : Nat → Prop), BdsRep P W' l c' → c' = .slice xa xn xq → TmRep P W' t' y' → Calls Try.prog 21 #[c', y'] W' (RetOG P ((t'.castS l).map S.ty) W') :=
      fun t' ht' W' c' y' P h1 h2 h3 => IH t' ht' l c' y' W' P (Tm.shapes_mem hkids ht') (by omega) hc (h2 ▸ hcv) h1 h3
    have IVl : ∀ t' ∈ ts, ∀ h, t'.castS l = some h → h.vd = true := fun t' ht' h e => castS_vd t' _ l (Tm.shapes_mem hkids ht') hc h e
    by_cases h14 : k' = 14
    · subst h14
      exact implCT_c G nm' u' lb' tk fk ty src ts l xa ta fa ca xn xq tn tq fn fq cm cq W he hb (own_ty hown (.inr rfl)) (by simp [tops] at hlen; omega) IHl IVl
    by_cases h5 : k' = 5
    · subst h5
      have hv := own_ty hown (.inl rfl)
      have hc2 := hc.snoc (nm := nm') hv
      obtain ⟨t1, rfl⟩ : ∃ t1, ts = [t1] := List.length_eq_one_iff.1 (by simp [tops] at hlen; omega)
      have hres := implCT_l G nm' u' lb' tk fk ty src [t1] l xa ta fa ca xn xq tn tq fn fq cm cq W (wantS 5 ty) he hb (by omega)
        (fun W' _ h => by
          rcases hcv with ⟨rfl, hx⟩ | ⟨hl1, a, m, q, hx⟩
          · rw [hx]; exact implCloneNilG _ W'
          · simp only [Value.slice.injEq] at hx
            obtain ⟨rfl, rfl, rfl⟩ := hx
            exact implCloneG _ l a xn xq W' h (by omega))
        (fun t' ht' W' c' y' P h1 h2 h3 => IH t' ht' _ c' y' W' P (Tm.shapes_mem hkids ht') (by simp; omega) hc2 (.inr ⟨by simp, h2⟩) h1 h3)
        (fun t' ht' h e => castS_vd t' _ _ (Tm.shapes_mem hkids ht') hc2 h e)
        (fun hs h1 h2 W' H y' h3 h4 h5 => implWanted_S 5 hs (by omega) (by rw [h1]; exact hlen) h2 H _ y' ⟨_, _, _, rfl⟩ nm' u' lb' tk fk ty ta fa ca tn tq fn fq cm cq W' h3 (fun _ => hv) h5)
        (fun hs ws t h => want_len h) (by simp)
      have he : (Tm.mk 5 nm' u' ty src lb' [t1]).castS l = (Tm.castsS [t1] (l ++ [⟨nm', ty⟩])).bind fun hs => progS (wantS 5 ty hs) hs := by
        rw [Tm.castS, if_neg (by omega), if_neg (by omega), if_neg (by omega), if_pos rfl]
        simp only [Tm.castsS]
        cases t1.castS (l ++ [⟨nm', ty⟩]) with
        | none => rfl
        | some h => simp [wantS, progS]
      rw [he]; exact hres
    have g5 : (k' == 5) = false := by rw [beq_eq_false_iff_ne]; exact h5
    have g14 : (k' == 14) = false := by rw [beq_eq_false_iff_ne]; exact h14
    by_cases h6 : 6 ≤ k'
    · have hres := implCT_g G k' nm' u' lb' tk fk ty src ts l xa ta fa ca xn xq tn tq fn fq cm cq W (wantS k' ty) he hb g5 g14 IHl IVl
        (fun hs h1 h2 W' H y' h3 h4 h5 => implWanted_S k' hs (by omega) (by rw [h1]; exact hlen) h2 H _ y' ⟨_, _, _, rfl⟩ nm' u' lb' tk fk ty ta fa ca tn tq fn fq cm cq W' h3 (fun e => absurd e (by omega)) h5)
        (fun hs ws t h => want_len h) hsm
      have he : (Tm.mk k' nm' u' ty src lb' ts).castS l = (Tm.castsS ts l).bind fun hs => progS (wantS k' ty hs) hs := by
        rw [castS_node h6]
        cases hcs : Tm.castsS ts l with
        | none => rfl
        | some hs =>
          obtain ⟨q1, q2⟩ := castsS_vd hc ts hkids (fun t' ht' h _ e => IVl t' ht' h e) hs hcs
          exact node_prog k' ty src hs (by omega) (by rw [hlen, q1]) q2
      rw [he]; exact hres
    have hts : ts = [] := by
      have : tops k' = 0 := by unfold tops; rw [if_pos (by omega)]
      exact List.length_eq_zero_iff.1 (by omega)
    subst hts
    have hys : ∀ {H : Nat → Prop} {W' : World} {y' : Value} {hs : List S}, TysRep H W' (hs.map S.ty) y' → ∃ a n q, y' = .slice a n q := fun h => by
      obtain ⟨a, cap, e, -⟩ := h.open
      exact ⟨_, _, _, e⟩
    by_cases h1 : k' = 1
    · subst h1
      have hres := implCT_g G 1 nm' u' lb' tk fk ty src [] l xa ta fa ca xn xq tn tq fn fq cm cq W (fun _ => (lookN l nm' l.length).map fun t => ([], t.toS)) he hb rfl rfl IHl IVl
        (fun hs h1 h2 W' H y' h3 h4 h5 => implWanted_1 H l _ y' ⟨_, _, _, rfl⟩ (hys h5) nm' u' lb' tk fk ta fa ca tn tq fn fq cm cq W' h4 hc)
        (fun hs ws t h => by cases hl : lookN l nm' l.length <;> rw [hl] at h <;> simp at h; obtain ⟨e, -⟩ := h; subst e; simp) hsm
      have he : (Tm.mk 1 nm' u' ty src lb' []).castS l = (Tm.castsS [] l).bind fun hs => progS ((lookN l nm' l.length).map fun t => ([], t.toS)) hs := by
        rw [Tm.castS, if_pos rfl, Tm.castsS]
        cases hl : lookN l nm' l.length with
        | none => rfl
        | some t => simp [progS, Ty.toS_vd (look_vd hc _ t hl)]
      rw [he]; exact hres
    by_cases h2 : k' = 2
    · subst h2
      have hres := implCT_g G 2 nm' u' lb' tk fk ty src [] l xa ta fa ca xn xq tn tq fn fq cm cq W (fun _ => some ([], .int)) he hb rfl rfl IHl IVl
        (fun hs h1 h2 W' H y' h3 h4 h5 => implWanted_2 H _ y' ⟨_, _, _, rfl⟩ (hys h5) nm' u' lb' tk fk ta fa ca tn tq fn fq cm cq W')
        (fun hs ws t h => by simp at h; obtain ⟨e, -⟩ := h; subst e; simp) hsm
      have he : (Tm.mk 2 nm' u' ty src lb' []).castS l = (Tm.castsS [] l).bind fun hs => progS (some ([], .int)) hs := by
        rw [Tm.castS, if_neg (by omega), if_pos rfl, Tm.castsS]
        simp [progS, S.vd, S.ok, S.dep]
      rw [he]; exact hres
    by_cases h3 : k' = 3
    · subst h3
      have hres := implCT_g G 3 nm' u' lb' tk fk ty src [] l xa ta fa ca xn xq tn tq fn fq cm cq W (fun _ => some ([], .bool)) he hb rfl rfl IHl IVl
        (fun hs h1 h2 W' H y' h3 h4 h5 => implWanted_3 H _ y' ⟨_, _, _, rfl⟩ (hys h5) nm' u' lb' tk fk ta fa ca tn tq fn fq cm cq W')
        (fun hs ws t h => by simp at h; obtain ⟨e, -⟩ := h; subst e; simp) hsm
      have he : (Tm.mk 3 nm' u' ty src lb' []).castS l = (Tm.castsS [] l).bind fun hs => progS (some ([], .bool)) hs := by
        rw [Tm.castS, if_neg (by omega), if_neg (by omega), if_pos (by omega), Tm.castsS]
        simp [progS, S.vd, S.ok, S.dep]
      rw [he]; exact hres
    have h4 : k' = 4 := by omega
    subst h4
    have hres := implCT_g G 4 nm' u' lb' tk fk ty src [] l xa ta fa ca xn xq tn tq fn fq cm cq W (fun _ => some ([], .bool)) he hb rfl rfl IHl IVl
      (fun hs h1 h2 W' H y' h3 h4 h5 => implWanted_4 H _ y' ⟨_, _, _, rfl⟩ (hys h5) nm' u' lb' tk fk ta fa ca tn tq fn fq cm cq W')
      (fun hs ws t h => by simp at h; obtain ⟨e, -⟩ := h; subst e; simp) hsm
    have he : (Tm.mk 4 nm' u' ty src lb' []).castS l = (Tm.castsS [] l).bind fun hs => progS (some ([], .bool)) hs := by
      rw [Tm.castS, if_neg (by omega), if_neg (by omega), if_pos (by omega), Tm.castsS]
      simp [progS, S.vd, S.ok, S.dep]
    rw [he]; exact hres
theorem implCT : ∀ (t : Tm) (d : Int), P4 t d
  | t, d => implCTStep t d fun t' ht' => implCT t' (d - 1)
termination_by t => SizeOf.sizeOf t
decreasing_by exact Tm.kid_lt ht'
end Go.Proofs.Ytkhmkohgnikcmaa
namespace Go.Proofs.Ytkhmkohgnikcmaa
open Go.RowKit
set_option linter.unusedVariables false
set_option linter.unusedSimpArgs false
set_option maxRecDepth 100000


end Go.Proofs.Ytkhmkohgnikcmaa
