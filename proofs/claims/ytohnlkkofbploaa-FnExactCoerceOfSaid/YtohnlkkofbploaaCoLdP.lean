/-
  Where coercions lead: plain facts, and slices of two.
-/
import Derived.Test.YtohnlkkofbploaaCoLdDef
import Derived.Test.YtohnlkkofbploaaCoId
namespace Go.Proofs.Ytohnlkkofbploaa
open Go.RowKit
set_option linter.unusedVariables false
set_option linter.unusedSimpArgs false
set_option maxRecDepth 100000

theorem CosRep.two {F : Nat → Prop} {w : World} {c0 c1 : Co} {a : Option Addr} {n q : Nat} (h : CosRep F w [c0, c1] (.slice a n q)) :
    ∃ b off k0 g0 l0 a0 n0 q0 k1 g1 l1 a1 n1 q1, a = some ⟨b, off, none⟩ ∧ n = 2 ∧ w.cell? ⟨b, off, none⟩ = some (.int .i64 k0) ∧ w.cell? ⟨b, off + 1, none⟩ = some (.int .i64 g0) ∧ w.cell? ⟨b, off + 2, none⟩ = some (.int .i64 l0) ∧ w.cell? ⟨b, off + 3, none⟩ = some (.slice a0 n0 q0) ∧ w.cell? ⟨b, off + 4, none⟩ = some (.int .i64 k1) ∧ w.cell? ⟨b, off + 5, none⟩ = some (.int .i64 g1) ∧ w.cell? ⟨b, off + 6, none⟩ = some (.int .i64 l1) ∧ w.cell? ⟨b, off + 7, none⟩ = some (.slice a1 n1 q1) ∧ CoRep F w c0 (.agg #[.int .i64 k0, .int .i64 g0, .int .i64 l0, .slice a0 n0 q0]) ∧ CoRep F w c1 (.agg #[.int .i64 k1, .int .i64 g1, .int .i64 l1, .slice a1 n1 q1]) := by
  obtain ⟨a', q', he, -, -, -⟩ := h.open
  simp only [Value.slice.injEq] at he
  obtain ⟨-, rfl, -⟩ := he
  obtain ⟨b, off, k0, g0, l0, a0, n0, q0, rfl, lb, e0, e1, e2, e3, h0⟩ := h.at (Below.refl _ _) (i := 0) (by simp)
  obtain ⟨b', off', k1, g1, l1, a1, n1, q1, he, lb', d0, d1, d2, d3, h1⟩ := h.at (Below.refl _ _) (i := 1) (by simp)
  simp only [Option.some.injEq, Addr.mk.injEq, and_true] at he
  obtain ⟨rfl, rfl⟩ := he
  simp only [Nat.zero_mul, Nat.add_zero] at e0 e1 e2 e3
  exact ⟨b, off, k0, g0, l0, a0, n0, q0, k1, g1, l1, a1, n1, q1, rfl, rfl, e0, e1, e2, e3, by simpa [Nat.add_assoc] using d0, by simpa [Nat.add_assoc] using d1, by simpa [Nat.add_assoc] using d2, by simpa [Nat.add_assoc] using d3, h0, h1⟩
theorem TysRep.twoK {F : Nat → Prop} {w : World} {c0 c1 : Ty} {a : Option Addr} {n q : Nat} (h : TysRep F w [c0, c1] (.slice a n q)) :
    ∃ b off k0 a0 n0 q0 k1 a1 n1 q1, a = some ⟨b, off, none⟩ ∧ n = 2 ∧ w.cell? ⟨b, off, none⟩ = some (.int .i64 k0) ∧ w.cell? ⟨b, off + 1, none⟩ = some (.slice a0 n0 q0) ∧ w.cell? ⟨b, off + 2, none⟩ = some (.int .i64 k1) ∧ w.cell? ⟨b, off + 3, none⟩ = some (.slice a1 n1 q1) ∧ TyRep F w c0 (.agg #[.int .i64 k0, .slice a0 n0 q0]) ∧ TyRep F w c1 (.agg #[.int .i64 k1, .slice a1 n1 q1]) := by
  obtain ⟨a', q', he, -, -, -⟩ := h.open
  simp only [Value.slice.injEq] at he
  obtain ⟨-, rfl, -⟩ := he
  obtain ⟨b, off, k0, a0, n0, q0, rfl, lb, e0, e1, h0⟩ := h.at (Below.refl _ _) (i := 0) (by simp)
  obtain ⟨b', off', k1, a1, n1, q1, he, lb', d0, d1, h1⟩ := h.at (Below.refl _ _) (i := 1) (by simp)
  simp only [Option.some.injEq, Addr.mk.injEq, and_true] at he
  obtain ⟨rfl, rfl⟩ := he
  simp only [Nat.zero_mul, Nat.add_zero] at e0 e1
  exact ⟨b, off, k0, a0, n0, q0, k1, a1, n1, q1, rfl, rfl, e0, e1, by simpa [Nat.add_assoc] using d0, by simpa [Nat.add_assoc] using d1, h0, h1⟩
theorem Ty.two_of {k : Int} {ts : List Ty} {d : Int} (h : (Ty.mk k ts).shape d = true) (hk : k = 4 ∨ k = 5) : ∃ a b, ts = [a, b] ∧ a.shape (d - 1) = true ∧ b.shape (d - 1) = true := by
  obtain ⟨-, h2, h3⟩ := Ty.shape_mk h
  have h4 : ts.length = 2 := by
    unfold tkids at h2
    rcases hk with rfl | rfl <;> simp at h2 <;> omega
  match ts, h4 with
  | [a, b], _ => exact ⟨a, b, rfl, Ty.shapes_mem h3 (by simp), Ty.shapes_mem h3 (by simp)⟩
theorem Ty.shape_mono : ∀ (t : Ty) (d e : Int), t.shape d = true → d ≤ e → t.shape e = true := by
  intro t
  exact Ty.rec (motive_1 := fun t => ∀ (d e : Int), t.shape d = true → d ≤ e → t.shape e = true) (motive_2 := fun ts => ∀ (d e : Int), Ty.shapes ts d = true → d ≤ e → Ty.shapes ts e = true)
    (fun k ts ih d e h hd => by
      obtain ⟨h1, h2, h3⟩ := Ty.shape_mk h
      have := ih (d - 1) (e - 1) h3 (by omega)
      unfold Ty.shape
      simp only [Bool.and_eq_true, decide_eq_true_eq]
      exact ⟨by omega, h2, this⟩)
    (fun _ _ _ _ => by unfold Ty.shapes; rfl)
    (fun t ts ih1 ih2 d e h hd => by
      unfold Ty.shapes at h ⊢
      simp only [Bool.and_eq_true] at h ⊢
      exact ⟨ih1 d e h.1 hd, ih2 d e h.2 hd⟩) t
theorem Ty.kind_bd {t : Ty} (h : t.valid = true) : 1 ≤ t.kind ∧ t.kind ≤ 5 := by
  cases t with | mk k ts =>
  obtain ⟨-, h2, -⟩ := Ty.shape_mk h
  simp only [Ty.kind]
  unfold tkids at h2
  split at h2
  · omega
  · split at h2 <;> omega
mutual
theorem Co.tag_bd : ∀ (t : Co) (d : Int), t.shape d = true → t.tagV = 0 ∨ (1 ≤ t.tagV ∧ t.tagV ≤ 5)
  | .mk k g l ts, d, h => by
    have h1 := Co.node_of h
    have h2 := Co.shape_parts h
    unfold Co.shape at h
    simp only [Bool.and_eq_true, Co.nodeB] at h
    have h3 := h.1.2.1.1.1.2
    unfold Co.tagV
    rcases h1.1 with rfl | rfl | rfl | rfl | rfl | rfl
    · simp [winB] at h3 ⊢; omega
    · simp
    · simp
    · simp only [show ((4 : Int) == 2) = false from rfl, show ((4 : Int) == 3) = false from rfl, show ((4 : Int) == 4) = true from rfl, if_true, Bool.false_eq_true, if_false]
      exact Co.tags_bd ts _ h2.2
    · have := h1.2 rfl
      subst this
      simp
    · simp [winB] at h3 ⊢; omega
theorem Co.tags_bd : ∀ (ts : List Co) (d : Int), Co.shapes ts d = true → Co.tagVs ts = 0 ∨ (1 ≤ Co.tagVs ts ∧ Co.tagVs ts ≤ 5)
  | [], _, _ => by unfold Co.tagVs; exact .inl rfl
  | t :: ts, d, h => by
    unfold Co.shapes at h
    simp only [Bool.and_eq_true] at h
    unfold Co.tagVs
    exact Co.tag_bd t d h.1
end
theorem ground_rep {k : Int} (h : k = 0 ∨ (1 ≤ k ∧ k ≤ 5)) : ∃ nn : Nat, nn ≤ 2 ∧ (k ≠ 0 → (nn : Int) = tkids k) ∧ ground k = .mk k (List.replicate nn (.mk 1 [])) := by
  rcases h with rfl | h
  · exact ⟨0, by omega, by simp, by simp [ground]⟩
  · have : k = 1 ∨ k = 2 ∨ k = 3 ∨ k = 4 ∨ k = 5 := by omega
    rcases this with rfl | rfl | rfl | rfl | rfl
    · exact ⟨0, by omega, by simp [tkids], by simp [ground]⟩
    · exact ⟨0, by omega, by simp [tkids], by simp [ground]⟩
    · exact ⟨0, by omega, by simp [tkids], by simp [ground]⟩
    · exact ⟨2, by omega, by simp [tkids], by simp [ground]⟩
    · exact ⟨2, by omega, by simp [tkids], by simp [ground]⟩
end Go.Proofs.Ytohnlkkofbploaa
