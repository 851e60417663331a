/-
  What a law about a result that is a tree needs: what a mark leaves as it was.
-/
import Derived.Test.YtjkkahlcbhcifaaMark
import Derived.Test.YtjkkahlcbhcifaaTyGround2
namespace Go.Proofs.Ytjkkahlcbhcifaa
open Go.RowKit
set_option linter.unusedVariables false
set_option linter.unusedSimpArgs false
set_option maxRecDepth 100000

theorem Chg.cell {fp : List Nat} {w w' : World} {a : Addr} {v : Value} (h : Chg fp w w') (hn : a.block ∉ fp) (hc : w.cell? a = some v) : w'.cell? a = some v :=
  (World.cell?_of_block (h.block a.block (World.block_lt_of_cell? _ _ hc) hn)).trans hc
theorem Chg.keeps {fp : List Nat} {w w' : World} {F : Nat → Prop} (h : Chg fp w w') (hn : ∀ b, F b → b ∉ fp) : Keeps F F w w' :=
  ⟨h.size, fun _ h _ => h, fun b hF hl => h.block b hl (hn b hF)⟩
theorem TyRep.chg {fp : List Nat} {w w' : World} {F : Nat → Prop} {t : Ty} {y : Value} (h : Chg fp w w') (hn : ∀ b, F b → b ∉ fp) (r : TyRep F w t y) : TyRep F w' t y := r.move (h.keeps hn)
theorem TyOwn.chg {fp fp' : List Nat} {w w' : World} {t : Ty} {y : Value} (h : Chg fp w w') (hn : ∀ b ∈ fp', b ∉ fp) (r : TyOwn w t y fp') : TyOwn w' t y fp' := by
  obtain ⟨s, rfl, ho⟩ := r
  exact ⟨s, rfl, COwn.move _ _ _ (fun b hb => h.block b (COwn.lt _ _ _ ho b hb) (hn b hb)) ho⟩
theorem TyOwn.lt {w : World} {t : Ty} {y : Value} {fp : List Nat} (r : TyOwn w t y fp) : ∀ b ∈ fp, b < w.heap.size := by
  obtain ⟨s, rfl, ho⟩ := r
  exact COwn.lt _ _ _ ho
theorem TyRep.old {F : Nat → Prop} {w : World} {t : Ty} {y : Value} (r : TyRep F w t y) : TyRep (· < w.heap.size) w t y := r.move (.weaken fun _ _ h => h)
theorem TyOwn.ks {w : World} {t : Ty} {y : Value} {fp : List Nat} (r : TyOwn w t y fp) : ∃ k a n q, y = .agg #[.int .i64 k, .slice a n q] := by
  obtain ⟨k, a, n, q, rfl, -⟩ := r.shape
  exact ⟨k, a, n, q, rfl⟩

def groundB (t : Ty) : Bool := t.valid && t.kind != 1
theorem implGroundOf' (F : Nat → Prop) (t : Ty) (y : Value) (w : World) (hy : TyRep F w t y) :
    Calls Try.prog 60 #[y] w (RetTyB (groundOfT t) (groundB t) w) := implGroundOf F t y w hy
theorem specGroundOf' (F : Nat → Prop) (t : Ty) (y : Value) (w : World) (hy : TyRep F w t y) :
    Calls Try.prog 61 #[y] w (RetTyB (groundOfT t) (groundB t) w) := specGroundOf F t y w hy
theorem groundOfT_cnt (t : Ty) : (groundOfT t).cnt ≤ 2 := by
  unfold groundOfT
  split
  · unfold ground
    split <;> simp [Ty.cnt, Ty.cnts]
  · simp [Ty.none, Ty.cnt, Ty.cnts]
end Go.Proofs.Ytjkkahlcbhcifaa
