/-
  The laws of types in plain Lean: precision, consistency, meets, joins, ground types, counts.
-/
import Derived.Test.YtjkkahlcbhcifaaTyMeetTypes
import Derived.Test.YtjkkahlcbhcifaaTyJoinTypes
import Derived.Test.YtjkkahlcbhcifaaTyMatch2
import Derived.Test.YtjkkahlcbhcifaaRes
namespace Go.Proofs.Ytjkkahlcbhcifaa
open Go.RowKit
set_option linter.unusedVariables false
set_option linter.unusedSimpArgs false

def precB (t u : Ty) : Bool := t.valid && u.valid && t.prec u
def staticB (t : Ty) : Bool := t.valid && (t.any == 0)
theorem precB_S {t u : Ty} (h : precB t u = true) : ∃ s v : S, t = s.ty ∧ u = v.ty ∧ s.vd = true ∧ v.vd = true ∧ s.prec v = true := by
  unfold precB at h
  simp only [Bool.and_eq_true] at h
  obtain ⟨s, rfl, hs⟩ := Ty.valid_S h.1.1
  obtain ⟨v, rfl, hv⟩ := Ty.valid_S h.1.2
  exact ⟨s, v, rfl, rfl, hs, hv, by rw [← S.ty_prec]; exact h.2⟩
theorem precB_ty (s v : S) : precB s.ty v.ty = (s.vd && v.vd && s.prec v) := by unfold precB; rw [S.valid, S.valid, S.ty_prec]
theorem consB_ty (s v : S) : consB s.ty v.ty = (s.vd && v.vd && s.cons v) := by unfold consB; rw [S.valid, S.valid, S.ty_cons]
theorem joinB_ty (s v : S) : joinB s.ty v.ty = (s.vd && v.vd) := by unfold joinB; rw [S.valid, S.valid]
theorem precB_mk {s v : S} (h1 : s.vd = true) (h2 : v.vd = true) (h3 : s.prec v = true) : precB s.ty v.ty = true := by rw [precB_ty, h1, h2, h3]; rfl
theorem consB_mk {s v : S} (h1 : s.vd = true) (h2 : v.vd = true) (h3 : s.cons v = true) : consB s.ty v.ty = true := by rw [consB_ty, h1, h2, h3]; rfl
theorem precB_inj {s v : S} (h : precB s.ty v.ty = true) : s.vd = true ∧ v.vd = true ∧ s.prec v = true := by rw [precB_ty] at h; simp at h; exact ⟨h.1.1, h.1.2, h.2⟩
theorem consB_inj {s v : S} (h : consB s.ty v.ty = true) : s.vd = true ∧ v.vd = true ∧ s.cons v = true := by rw [consB_ty] at h; simp at h; exact ⟨h.1.1, h.1.2, h.2⟩
theorem meetT_ty {s v : S} (h : consB s.ty v.ty = true) : meetT s.ty v.ty = (s.meet v).ty := by unfold meetT; rw [h, if_pos rfl, S.ty_meet _ _ (consB_inj h).2.2]
theorem joinT_ty {s v : S} (h : joinB s.ty v.ty = true) : joinT s.ty v.ty = (s.join v).ty := by
  unfold joinT
  have h' := h
  unfold joinB at h'
  rw [h', if_pos rfl, S.ty_join]
theorem joinB_S {t u : Ty} (h : joinB t u = true) : ∃ s v : S, t = s.ty ∧ u = v.ty ∧ s.vd = true ∧ v.vd = true := by
  unfold joinB at h
  simp only [Bool.and_eq_true] at h
  obtain ⟨s, rfl, hs⟩ := Ty.valid_S h.1
  obtain ⟨v, rfl, hv⟩ := Ty.valid_S h.2
  exact ⟨s, v, rfl, rfl, hs, hv⟩
theorem precB_self (a : Ty) : precB a a = a.valid := by
  cases h : a.valid with
  | false => unfold precB; rw [h]; rfl
  | true => obtain ⟨s, rfl, hs⟩ := Ty.valid_S h; exact precB_mk hs hs (S.prec_refl s)
theorem consB_self (a : Ty) : consB a a = a.valid := by
  cases h : a.valid with
  | false => unfold consB; rw [h]; rfl
  | true => obtain ⟨s, rfl, hs⟩ := Ty.valid_S h; exact consB_mk hs hs (S.cons_refl s)
theorem precB_trans {a b c : Ty} (h1 : precB a b = true) (h2 : precB b c = true) : precB a c = true := by
  obtain ⟨s, u, rfl, rfl, hs, hu, hp⟩ := precB_S h1
  obtain ⟨u', v, he, rfl, -, hv, hq⟩ := precB_S h2
  obtain rfl := S.ty_inj he
  exact precB_mk hs hv (S.prec_trans _ _ _ hp hq)
theorem precB_anti {a b : Ty} (h1 : precB a b = true) (h2 : precB b a = true) : a.same b = true := by
  obtain ⟨s, u, rfl, rfl, hs, hu, hp⟩ := precB_S h1
  obtain ⟨-, -, hq⟩ := precB_inj h2
  rw [S.prec_anti _ _ hp hq]
  exact Ty.same_refl _
theorem consB_symm (a b : Ty) : consB a b = consB b a := by
  rw [Bool.eq_iff_iff]
  constructor <;> intro h <;> obtain ⟨s, u, rfl, rfl, hs, hu, hp⟩ := consB_S h <;> exact consB_mk hu hs (by rw [S.cons_symm]; exact hp)
theorem consB_mono {a b x : Ty} (h1 : precB a b = true) (h2 : consB a x = true) : consB b x = true := by
  obtain ⟨s, u, rfl, rfl, hs, hu, hp⟩ := precB_S h1
  obtain ⟨s', v, he, rfl, -, hv, hq⟩ := consB_S h2
  obtain rfl := S.ty_inj he
  exact consB_mk hu hv (S.cons_mono _ _ _ hp hq)
theorem precB_consB {a b : Ty} (h : precB a b = true) : consB a b = true := by
  obtain ⟨s, u, rfl, rfl, hs, hu, hp⟩ := precB_S h
  exact consB_mk hs hu (S.prec_cons _ _ hp)
theorem same_comm_of {a b : Ty} (h : a = b) : a.same b = true := by subst h; exact Ty.same_refl _

theorem law_FnPrecise (a b c : Ty) : (precB a b = true → precB b c = true → precB a c = true) ∧ (precB a b = true → precB b a = true → a.same b = true) ∧ precB a a = a.valid :=
  ⟨precB_trans, precB_anti, precB_self a⟩
theorem law_FnConsistent (a b : Ty) : consB b a = consB a b ∧ consB a a = a.valid := ⟨consB_symm _ _, consB_self a⟩
theorem law_FnConsistentPrecise (a b c x : Ty) : (precB a b = true → consB a x = true → consB b x = true) ∧ (precB a b = true → precB b c = true → consB a c = true) :=
  ⟨consB_mono, fun h1 h2 => precB_consB (precB_trans h1 h2)⟩
theorem law_FnMeetTypes (a b c : Ty) : consB a b = true → precB (meetT a b) a = true ∧ precB (meetT a b) b = true ∧ (precB c a = true → precB c b = true → precB c (meetT a b) = true) ∧ consB b a = true ∧ (meetT a b).same (meetT b a) = true := by
  intro h
  obtain ⟨s, u, rfl, rfl, hs, hu, hp⟩ := consB_S h
  have hl := S.meet_lower _ _ hp
  have hv := S.meet_vd s u hs hu hp
  have h' : consB u.ty s.ty = true := by rw [consB_symm]; exact h
  rw [meetT_ty h, meetT_ty h']
  refine ⟨precB_mk hv hs hl.1, precB_mk hv hu hl.2, fun h1 h2 => ?_, h', same_comm_of (by rw [S.meet_comm _ _ hp])⟩
  obtain ⟨x, s', rfl, he, hx, -, h3⟩ := precB_S h1
  obtain rfl := S.ty_inj he
  exact precB_mk hx hv (S.meet_great _ _ _ h3 (precB_inj h2).2.2).2
theorem consB_none (a : Ty) : consB a Ty.none = false := by
  unfold consB
  rw [show Ty.none.valid = false from by unfold Ty.none Ty.valid Ty.shape tkids; simp]
  simp
theorem Ty.same_S (s u : S) : s.ty.same u.ty = true ↔ s = u := by rw [S.same]; simp
theorem law_FnMeetLaws (a b c : Ty) : consB a b = true → precB a b = (meetT a b).same a ∧ consB (meetT a b) c = (consB b c && consB a (meetT b c)) ∧
    (consB (meetT a b) c = true → (meetT (meetT a b) c).same (meetT a (meetT b c)) = true) := by
  intro h
  obtain ⟨s, u, rfl, rfl, hs, hu, hp⟩ := consB_S h
  have hv := S.meet_vd s u hs hu hp
  rw [meetT_ty h]
  have h2 : consB (s.meet u).ty c = (consB u.ty c && consB s.ty (meetT u.ty c)) := by
    cases hc : c.valid with
    | false =>
      have e1 : consB (s.meet u).ty c = false := by unfold consB; rw [hc]; simp
      have e2 : consB u.ty c = false := by unfold consB; rw [hc]; simp
      rw [e1, e2]; rfl
    | true =>
      obtain ⟨v, rfl, hw⟩ := Ty.valid_S hc
      cases hq : consB u.ty v.ty with
      | false =>
        rw [consB_ty, hv, hw, Bool.false_and]
        rw [consB_ty, hu, hw] at hq
        simp at hq ⊢
        rw [S.meet_assoc_ok _ _ _ hp, hq]; rfl
      | true =>
        rw [meetT_ty hq]
        have hq' := (consB_inj hq).2.2
        have hvw := S.meet_vd u v hu hw hq'
        rw [consB_ty, consB_ty, hv, hw, hs, hvw, S.meet_assoc_ok _ _ _ hp, hq']
        rfl
  refine ⟨?_, h2, fun h3 => ?_⟩
  · rw [precB_ty, hs, hu, S.prec_iff_meet _ _ hp, S.same]; simp
  · obtain ⟨m, v, he, rfl, -, hw, h4⟩ := consB_S h3
    obtain rfl := S.ty_inj he
    rw [h2] at h3
    simp only [Bool.and_eq_true] at h3
    have hq' := (consB_inj h3.1).2.2
    have h5 := h3.2
    rw [meetT_ty h3.1] at h5 ⊢
    rw [meetT_ty (consB_mk hv hw h4), meetT_ty h5]
    exact same_comm_of (by rw [S.meet_assoc _ _ _ hp hq' (consB_inj h5).2.2 h4])
theorem law_FnJoinTypes (a b c : Ty) : joinB a b = true → precB a (joinT a b) = true ∧ precB b (joinT a b) = true ∧ (precB a c = true → precB b c = true → precB (joinT a b) c = true) ∧ joinB b a = true ∧ (joinT a b).same (joinT b a) = true := by
  intro h
  obtain ⟨s, u, rfl, rfl, hs, hu⟩ := joinB_S h
  have h' : joinB u.ty s.ty = true := by rw [joinB_ty, hu, hs]; rfl
  have hv := S.join_vd s u hs hu
  rw [joinT_ty h, joinT_ty h']
  refine ⟨precB_mk hs hv (S.join_upper _ _), precB_mk hu hv (S.join_upper' _ _), fun h1 h2 => ?_, h', same_comm_of (by rw [S.join_comm])⟩
  obtain ⟨s', x, he, rfl, -, hx, h3⟩ := precB_S h1
  obtain rfl := S.ty_inj he
  exact precB_mk hv hx (S.join_least _ _ _ h3 (precB_inj h2).2.2)
theorem law_FnMeetJoin (a b : Ty) : joinB a b = true → consB a (joinT a b) = true ∧ (meetT a (joinT a b)).same a = true ∧ consB b (joinT a b) = true := by
  intro h
  have l := law_FnJoinTypes a b b h
  have hc := precB_consB l.1
  refine ⟨hc, ?_, precB_consB l.2.1⟩
  have l2 := law_FnMeetLaws a (joinT a b) a hc
  rw [← l2.1]
  exact l.1
theorem staticB_S {t : Ty} (h : staticB t = true) : ∃ s : S, t = s.ty ∧ s.vd = true ∧ s.cntA = 0 := by
  unfold staticB at h
  simp only [Bool.and_eq_true] at h
  obtain ⟨s, rfl, hs⟩ := Ty.valid_S h.1
  exact ⟨s, rfl, hs, by rw [← S.ty_any]; simpa using h.2⟩
theorem law_FnIsStatic (a t : Ty) : staticB t = (t.valid && (t.anyV == 0)) ∧ (staticB t = true → precB a t = true → a.same t = true) := by
  refine ⟨?_, fun h1 h2 => ?_⟩
  · unfold staticB Ty.anyV
    cases t.valid with
    | false => rfl
    | true =>
      simp only [Bool.true_and, if_pos]
      rw [Bool.eq_iff_iff]; simp
  · obtain ⟨s, rfl, hs, h0⟩ := staticB_S h1
    obtain ⟨x, s', rfl, he, hx, -, hp⟩ := precB_S h2
    obtain rfl := S.ty_inj he
    exact same_comm_of (by rw [S.static_prec _ _ h0 hp])
theorem depthV_ty {s : S} (h : s.vd = true) : s.ty.depthV = (s.dep : Int) := by unfold Ty.depthV; rw [S.valid, h, if_pos rfl, S.ty_depth]
theorem anyV_ty {s : S} (h : s.vd = true) : s.ty.anyV = (s.cntA : Int) := by unfold Ty.anyV; rw [S.valid, h, if_pos rfl, S.ty_any]
theorem law_FnTypeDepth (a b : Ty) : precB a b = true → b.depthV ≤ a.depthV ∧ a.depthV ≤ 4 ∧ (0 < b.anyV ∨ a.same b = true) := by
  intro h
  obtain ⟨s, u, rfl, rfl, hs, hu, hp⟩ := precB_S h
  rw [depthV_ty hs, depthV_ty hu, anyV_ty hu]
  have h1 := S.prec_dep _ _ hp
  have h2 := S.vd_dep hs
  refine ⟨by omega, by omega, ?_⟩
  by_cases h0 : u.cntA = 0
  · exact .inr (same_comm_of (by rw [S.static_prec _ _ h0 hp]))
  · exact .inl (by omega)
theorem law_FnMeetStatic (a b : Ty) : consB a b = true → (staticB a = true → (meetT a b).same a = true) ∧ (staticB b = true → (meetT a b).same b = true) ∧ (meetT a b).anyV ≤ a.anyV + b.anyV := by
  intro h
  obtain ⟨s, u, rfl, rfl, hs, hu, hp⟩ := consB_S h
  have hv := S.meet_vd s u hs hu hp
  rw [meetT_ty h, anyV_ty hv, anyV_ty hs, anyV_ty hu]
  refine ⟨fun h1 => ?_, fun h1 => ?_, by have := S.meet_cntA _ _ hp; omega⟩
  · obtain ⟨s', he, -, h0⟩ := staticB_S h1
    obtain rfl := S.ty_inj he
    have h2 := S.static_cons _ _ h0 hp
    rw [S.prec_iff_meet _ _ hp] at h2
    exact same_comm_of (by rw [of_decide_eq_true h2])
  · obtain ⟨s', he, -, h0⟩ := staticB_S h1
    obtain rfl := S.ty_inj he
    exact same_comm_of (by rw [S.static_prec _ _ h0 (S.meet_lower _ _ hp).2])
theorem law_FnTypeParts (a b : Ty) : (Ty.mk 4 [a, b]).valid = true → (Ty.mk 4 [a, b]).depthV = max a.depthV b.depthV + 1 ∧ (Ty.mk 4 [a, b]).anyV = a.anyV + b.anyV ∧ staticB (Ty.mk 4 [a, b]) = (staticB a && staticB b) := by
  intro h
  obtain ⟨s, he, hs⟩ := Ty.valid_S h
  cases s <;> simp [S.ty] at he
  rename_i x y
  obtain ⟨rfl, rfl⟩ := he
  have ho := S.vd_ok hs
  have hd := S.vd_dep hs
  simp [S.ok] at ho
  simp only [S.dep] at hd
  have hx : x.vd = true := S.vd_mk ho.1 (by omega)
  have hy : y.vd = true := S.vd_mk ho.2 (by omega)
  have e : Ty.mk 4 [x.ty, y.ty] = (S.fn x y).ty := rfl
  rw [e, depthV_ty hs, depthV_ty hx, depthV_ty hy, anyV_ty hs, anyV_ty hx, anyV_ty hy]
  refine ⟨by simp only [S.dep]; omega, by simp only [S.cntA]; omega, ?_⟩
  unfold staticB
  rw [S.valid, S.valid, S.valid, hs, hx, hy, S.ty_any, S.ty_any, S.ty_any]
  simp [S.cntA]
  rw [Bool.eq_iff_iff]; simp
theorem ground_S {t : Ty} (h : groundB t = true) : ∃ s g : S, t = s.ty ∧ s.vd = true ∧ groundOfT t = g.ty ∧ g.vd = true ∧ s.prec g = true ∧ g.kind = s.kind ∧ s.kind ≠ 1 ∧ (g = .int ∨ g = .bool ∨ g = .fn .any .any ∨ g = .pr .any .any) := by
  have h' := h
  unfold groundB at h'
  simp only [Bool.and_eq_true] at h'
  obtain ⟨s, rfl, hs⟩ := Ty.valid_S h'.1
  unfold groundOfT
  unfold groundB at h
  rw [h, if_pos rfl]
  cases s with
  | zero => exact absurd (S.vd_ok hs) (by simp [S.ok])
  | any => simp [S.ty, Ty.kind] at h'
  | int => exact ⟨.int, .int, rfl, hs, by simp [ground, S.ty, Ty.kind], rfl, rfl, rfl, by simp [S.kind], by simp⟩
  | bool => exact ⟨.bool, .bool, rfl, hs, by simp [ground, S.ty, Ty.kind], rfl, rfl, rfl, by simp [S.kind], by simp⟩
  | fn a b => exact ⟨.fn a b, .fn .any .any, rfl, hs, by simp [ground, S.ty, Ty.kind], rfl, by cases a <;> cases b <;> rfl, rfl, by simp [S.kind], by simp⟩
  | pr a b => exact ⟨.pr a b, .pr .any .any, rfl, hs, by simp [ground, S.ty, Ty.kind], rfl, by cases a <;> cases b <;> rfl, rfl, by simp [S.kind], by simp⟩
theorem law_FnGroundOf (t u : Ty) : groundB t = true → precB t (groundOfT t) = true ∧ groundB (groundOfT t) = true ∧ (groundOfT (groundOfT t)).same (groundOfT t) = true ∧
    (groundB u = true → consB t (groundOfT u) = (groundOfT t).same (groundOfT u)) := by
  intro h
  obtain ⟨s, g, rfl, hs, he, hg, hp, hk, hn, hc⟩ := ground_S h
  rw [he]
  refine ⟨precB_mk hs hg hp, ?_, ?_, fun hu => ?_⟩
  · rcases hc with rfl | rfl | rfl | rfl <;> rfl
  · rcases hc with rfl | rfl | rfl | rfl <;> exact same_comm_of rfl
  · obtain ⟨v, g', rfl, hv, he', hg', -, hk', -, hc'⟩ := ground_S hu
    rw [he', consB_ty, hs, hg', S.same]
    rcases hc with rfl | rfl | rfl | rfl <;> rcases hc' with rfl | rfl | rfl | rfl <;> cases s <;> simp [S.kind] at hk hn <;> simp [S.cons]
    all_goals (rename_i a b; cases a <;> cases b <;> simp [S.cons])
theorem law_FnMatchTypes (t : Ty) : matB 5 t = consB t (.mk 5 [.mk 1 [], .mk 1 []]) ∧ matB 4 t = consB t (.mk 4 [.mk 1 [], .mk 1 []]) := by
  have e5 : (Ty.mk 5 [.mk 1 [], .mk 1 []]) = (S.pr .any .any).ty := rfl
  have e4 : (Ty.mk 4 [.mk 1 [], .mk 1 []]) = (S.fn .any .any).ty := rfl
  cases h : t.valid with
  | false => unfold matB consB; rw [h]; simp
  | true =>
    obtain ⟨s, rfl, hs⟩ := Ty.valid_S h
    rw [e5, e4, consB_ty, consB_ty, hs]
    unfold matB
    rw [S.valid, hs, S.ty_kind]
    rw [show (S.pr .any .any).vd = true from rfl, show (S.fn .any .any).vd = true from rfl]
    cases s with
    | zero => exact absurd (S.vd_ok hs) (by simp [S.ok])
    | any => exact ⟨rfl, rfl⟩
    | int => exact ⟨rfl, rfl⟩
    | bool => exact ⟨rfl, rfl⟩
    | fn a b => cases a <;> cases b <;> exact ⟨rfl, rfl⟩
    | pr a b => cases a <;> cases b <;> exact ⟨rfl, rfl⟩
end Go.Proofs.Ytjkkahlcbhcifaa
