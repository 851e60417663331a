/-
  What a law about a result that is a tree needs: what a mark leaves as it was.
-/
import Derived.Test.YtikkneahhgmdjaaMarkM
namespace Go.Proofs.Ytikkneahhgmdjaa
open Go.RowKit
set_option linter.unusedVariables false
set_option linter.unusedSimpArgs false
set_option maxRecDepth 100000

theorem TyOwn.chg {fp fp' : List Nat} {w w' : World} {t : Ty} {y : Value} (h : Chg fp w w') (hn : ∀ b ∈ fp', b ∉ fp) (r : TyOwn w t y fp') : TyOwn w' t y fp' := by
  obtain ⟨s, rfl, ho⟩ := r
  exact ⟨s, rfl, COwn.move _ _ _ (fun b hb => h.block b (COwn.lt _ _ _ ho b hb) (hn b hb)) ho⟩
theorem TyOwn.lt {w : World} {t : Ty} {y : Value} {fp : List Nat} (r : TyOwn w t y fp) : ∀ b ∈ fp, b < w.heap.size := by
  obtain ⟨s, rfl, ho⟩ := r
  exact COwn.lt _ _ _ ho
theorem TyRep.old {F : Nat → Prop} {w : World} {t : Ty} {y : Value} (r : TyRep F w t y) : TyRep (· < w.heap.size) w t y := r.move (.weaken fun _ _ h => h)
theorem TyOwn.ks {w : World} {t : Ty} {y : Value} {fp : List Nat} (r : TyOwn w t y fp) : ∃ k a n q, y = .agg #[.int .i64 k, .slice a n q] := by
  obtain ⟨k, a, n, q, rfl, -⟩ := r.shape
  exact ⟨k, a, n, q, rfl⟩

end Go.Proofs.Ytikkneahhgmdjaa
