/-
  l6Two of the reference: other kinds, identities.
-/
import Derived.Test.YthhdjacdalehoaaCoRetB
import Derived.Test.YthhdjacdalehoaaCoTag
import Derived.Deep.RegionHeld3
import Derived.Deep.QuietTactic
import Derived.Deep.DeepCutAuto
import Derived.Test.YthhdjacdalehoaaB22
import Derived.Test.YthhdjacdalehoaaB11
namespace Go.Proofs.Ythhdjacdalehoaa
open Go.RowKit
set_option linter.unusedVariables false
set_option linter.unusedSimpArgs false
set_option maxRecDepth 100000


/-- What a statement 'x, ok := f(..)' leaves where the result is a coercion, in whatever order its parts come up: the variable's block as one fact. -/
def CutCoK (t : Co) (bb : Bool) (w : World) (s s' : Value) (wx : World) : Prop := ∃ (g : Nat) (k gt lb : Int) (a : Option Addr) (n q : Nat) (f : List Nat), s = .pointer (some ⟨g, 0, none⟩) ∧ s' = .bool bb ∧ w.heap.size ≤ g ∧
  wx.heap[g]? = some (.cells #[.int .i64 k, .int .i64 gt, .int .i64 lb, .slice a n q] 28 (0, 0)) ∧ CoOwn wx t (.agg #[.int .i64 k, .int .i64 gt, .int .i64 lb, .slice a n q]) f ∧ f.Nodup ∧ (∀ b ∈ f, w.heap.size ≤ b) ∧ Below w.heap.size w wx
theorem CutCoK_late {w ws x : World} {t : Co} {bb : Bool} {k gt lb : Int} {a : Option Addr} {n q : Nat} (hb : Below w.heap.size w ws) (hx : w.heap.size ≤ x.heap.size) (hv : CoNew x.heap.size ws t (.agg #[.int .i64 k, .int .i64 gt, .int .i64 lb, .slice a n q])) :
    CutCoK t bb w (.pointer (some ⟨ws.heap.size, 0, none⟩)) (.bool bb) (ws.alloc (.cells #[.int .i64 k, .int .i64 gt, .int .i64 lb, .slice a n q] 28)) := by
  obtain ⟨f, o, d, l⟩ := hv
  exact ⟨ws.heap.size, k, gt, lb, a, n, q, f, rfl, rfl, hb.size, blk_new rfl, o.below bal1, d, fun b hb => Nat.le_trans hx (l b hb), bstep hb bal1⟩
theorem CutCoK_early {w ws x : World} {t : Co} {bb : Bool} {k gt lb : Int} {a : Option Addr} {n q g : Nat} {u0 u1 u2 u3 : Value} (hb : Below w.heap.size w ws) (h0 : ws.heap[g]? = some (.cells #[u0, u1, u2, u3] 28 (0, 0))) (hg : w.heap.size ≤ g) (hx : g < x.heap.size)
    (hv : CoNew x.heap.size ws t (.agg #[.int .i64 k, .int .i64 gt, .int .i64 lb, .slice a n q])) : CutCoK t bb w (.pointer (some ⟨g, 0, none⟩)) (.bool bb) ((((ws.setCell ⟨g, 0, none⟩ (.int .i64 k)).setCell ⟨g, 1, none⟩ (.int .i64 gt)).setCell ⟨g, 2, none⟩ (.int .i64 lb)).setCell ⟨g, 3, none⟩ (.slice a n q)) := by
  obtain ⟨f, o, d, l⟩ := (((hv.setCell (p := ⟨g, 0, none⟩) hx (.int .i64 k)).setCell (p := ⟨g, 1, none⟩) hx (.int .i64 gt)).setCell (p := ⟨g, 2, none⟩) hx (.int .i64 lb)).setCell (p := ⟨g, 3, none⟩) hx (.slice a n q)
  have h1 : (ws.setCell ⟨g, 0, none⟩ (.int .i64 k)).heap[g]? = some (.cells #[.int .i64 k, u1, u2, u3] 28 (0, 0)) := blk_set h0 rfl
  have h2 : ((ws.setCell ⟨g, 0, none⟩ (.int .i64 k)).setCell ⟨g, 1, none⟩ (.int .i64 gt)).heap[g]? = some (.cells #[.int .i64 k, .int .i64 gt, u2, u3] 28 (0, 0)) := blk_set h1 rfl
  have h3 : (((ws.setCell ⟨g, 0, none⟩ (.int .i64 k)).setCell ⟨g, 1, none⟩ (.int .i64 gt)).setCell ⟨g, 2, none⟩ (.int .i64 lb)).heap[g]? = some (.cells #[.int .i64 k, .int .i64 gt, .int .i64 lb, u3] 28 (0, 0)) := blk_set h2 rfl
  exact ⟨g, k, gt, lb, a, n, q, f, rfl, rfl, hg, blk_set h3 rfl,
    o, d, fun b hb => by have := l b hb; omega, (((hb.setCell (p := ⟨g, 0, none⟩) hg _).setCell (p := ⟨g, 1, none⟩) hg _).setCell (p := ⟨g, 2, none⟩) hg _).setCell (p := ⟨g, 3, none⟩) hg _⟩
set_option maxHeartbeats 4000000 in
theorem specTwoNe (ak ag al bk bg bl : Int) (aa ba : Option Addr) (an aq bn bq : Nat) (w : World) (z0 : (ak == bk) = false) :
    Calls Try.prog 44 #[.agg #[.int .i64 ak, .int .i64 ag, .int .i64 al, .slice aa an aq], .agg #[.int .i64 bk, .int .i64 bg, .int .i64 bl, .slice ba bn bq]] w (RetCoB (Co.mk 0 0 0 []) (false) w) := by
  go_enter Try.func44, Try.ntmps44
  go_wp2_with fail
  refine bodyPost_ret (v := .tuple #[.agg #[.int .i64 0, .int .i64 0, .int .i64 0, .slice none 0 0], .bool false]) (by simp [results, Try.results44, go_sem]) rfl ?_
  exact ⟨_, rfl, CoNew.mono (CoNew.zero _ _ _) (by first | exact Nat.le_refl _ | omega | (simp; done) | (simp; omega)), bal3⟩
set_option maxHeartbeats 4000000 in
theorem specTwo1 (ag al bg bl : Int) (aa ba : Option Addr) (an aq bn bq : Nat) (w : World) :
    Calls Try.prog 44 #[.agg #[.int .i64 1, .int .i64 ag, .int .i64 al, .slice aa an aq], .agg #[.int .i64 1, .int .i64 bg, .int .i64 bl, .slice ba bn bq]] w (RetCoB (Co.mk 1 ag 0 []) (ag == bg) w) := by
  go_enter Try.func44, Try.ntmps44
  go_wp2_with fail
  have s0_ : (World.alloc (World.alloc (World.alloc w (Obj.cells #[.int .i64 1, .int .i64 ag, .int .i64 al, .slice aa an aq] 28)) (Obj.cells #[.int .i64 1, .int .i64 bg, .int .i64 bl, .slice ba bn bq] 28)) (Obj.cells #[.int .i64 0, .int .i64 0, .int .i64 0, .slice none 0 0] 28)).cell? ⟨w.heap.size, 1, none⟩ = some (.int .i64 ag) := bcell bal1 (bcell bal1 (cell_new (by simp) 1))
  have s1_ : (World.alloc (World.alloc (World.alloc w (Obj.cells #[.int .i64 1, .int .i64 ag, .int .i64 al, .slice aa an aq] 28)) (Obj.cells #[.int .i64 1, .int .i64 bg, .int .i64 bl, .slice ba bn bq] 28)) (Obj.cells #[.int .i64 0, .int .i64 0, .int .i64 0, .slice none 0 0] 28)).cell? ⟨w.heap.size + 1, 1, none⟩ = some (.int .i64 bg) := bcell bal1 (cell_new (by simp) 1)
  have hS0 := Lib.hid (show (World.drew (World.alloc (World.alloc (World.alloc w (Obj.cells #[.int .i64 1, .int .i64 ag, .int .i64 al, .slice aa an aq] 28)) (Obj.cells #[.int .i64 1, .int .i64 bg, .int .i64 bl, .slice ba bn bq] 28)) (Obj.cells #[.int .i64 0, .int .i64 0, .int .i64 0, .slice none 0 0] 28))).cell? ⟨w.heap.size, 1, none⟩ = some (.int .i64 ag) ∧ (World.drew (World.alloc (World.alloc (World.alloc w (Obj.cells #[.int .i64 1, .int .i64 ag, .int .i64 al, .slice aa an aq] 28)) (Obj.cells #[.int .i64 1, .int .i64 bg, .int .i64 bl, .slice ba bn bq] 28)) (Obj.cells #[.int .i64 0, .int .i64 0, .int .i64 0, .slice none 0 0] 28))).cell? ⟨w.heap.size + 1, 1, none⟩ = some (.int .i64 bg) from ⟨dcell (s0_), dcell (s1_)⟩)
  have hSb := Lib.hid (show ∀ X Y : World, Below X.heap.size X Y → (X.cell? ⟨w.heap.size, 1, none⟩ = some (.int .i64 ag) ∧ X.cell? ⟨w.heap.size + 1, 1, none⟩ = some (.int .i64 bg)) → (Y.cell? ⟨w.heap.size, 1, none⟩ = some (.int .i64 ag) ∧ Y.cell? ⟨w.heap.size + 1, 1, none⟩ = some (.int .i64 bg)) from fun X Y h s => ⟨bcell h s.1, bcell h s.2⟩)
  have hSs0 := Lib.hid (show ∀ (X : World) (v : Value), (X.cell? ⟨w.heap.size, 1, none⟩ = some (.int .i64 ag) ∧ X.cell? ⟨w.heap.size + 1, 1, none⟩ = some (.int .i64 bg)) → ((X.setCell ⟨w.heap.size + 1 + 1, 0, none⟩ v).cell? ⟨w.heap.size, 1, none⟩ = some (.int .i64 ag) ∧ (X.setCell ⟨w.heap.size + 1 + 1, 0, none⟩ v).cell? ⟨w.heap.size + 1, 1, none⟩ = some (.int .i64 bg)) from fun X v s => ⟨sc_blk s.1 (by show w.heap.size ≠ w.heap.size + 1 + 1; omega), sc_blk s.2 (by show w.heap.size + 1 ≠ w.heap.size + 1 + 1; omega)⟩)
  have hSs1 := Lib.hid (show ∀ (X : World) (v : Value), (X.cell? ⟨w.heap.size, 1, none⟩ = some (.int .i64 ag) ∧ X.cell? ⟨w.heap.size + 1, 1, none⟩ = some (.int .i64 bg)) → ((X.setCell ⟨w.heap.size + 1 + 1, 1, none⟩ v).cell? ⟨w.heap.size, 1, none⟩ = some (.int .i64 ag) ∧ (X.setCell ⟨w.heap.size + 1 + 1, 1, none⟩ v).cell? ⟨w.heap.size + 1, 1, none⟩ = some (.int .i64 bg)) from fun X v s => ⟨sc_blk s.1 (by show w.heap.size ≠ w.heap.size + 1 + 1; omega), sc_blk s.2 (by show w.heap.size + 1 ≠ w.heap.size + 1 + 1; omega)⟩)
  have hSs2 := Lib.hid (show ∀ (X : World) (v : Value), (X.cell? ⟨w.heap.size, 1, none⟩ = some (.int .i64 ag) ∧ X.cell? ⟨w.heap.size + 1, 1, none⟩ = some (.int .i64 bg)) → ((X.setCell ⟨w.heap.size + 1 + 1, 2, none⟩ v).cell? ⟨w.heap.size, 1, none⟩ = some (.int .i64 ag) ∧ (X.setCell ⟨w.heap.size + 1 + 1, 2, none⟩ v).cell? ⟨w.heap.size + 1, 1, none⟩ = some (.int .i64 bg)) from fun X v s => ⟨sc_blk s.1 (by show w.heap.size ≠ w.heap.size + 1 + 1; omega), sc_blk s.2 (by show w.heap.size + 1 ≠ w.heap.size + 1 + 1; omega)⟩)
  have hSs3 := Lib.hid (show ∀ (X : World) (v : Value), (X.cell? ⟨w.heap.size, 1, none⟩ = some (.int .i64 ag) ∧ X.cell? ⟨w.heap.size + 1, 1, none⟩ = some (.int .i64 bg)) → ((X.setCell ⟨w.heap.size + 1 + 1, 3, none⟩ v).cell? ⟨w.heap.size, 1, none⟩ = some (.int .i64 ag) ∧ (X.setCell ⟨w.heap.size + 1 + 1, 3, none⟩ v).cell? ⟨w.heap.size + 1, 1, none⟩ = some (.int .i64 bg)) from fun X v s => ⟨sc_blk s.1 (by show w.heap.size ≠ w.heap.size + 1 + 1; omega), sc_blk s.2 (by show w.heap.size + 1 ≠ w.heap.size + 1 + 1; omega)⟩)
  go_region_held3 (fun w' => w'.cell? ⟨w.heap.size, 1, none⟩ = some (.int .i64 ag) ∧ w'.cell? ⟨w.heap.size + 1, 1, none⟩ = some (.int .i64 bg))
    (repeat (first | with_reducible refine hSs3.out _ _ ?_ | with_reducible refine hSs2.out _ _ ?_ | with_reducible refine hSs1.out _ _ ?_ | with_reducible refine hSs0.out _ _ ?_ | with_reducible refine hSb.out _ _ hb1 ?_ | with_reducible exact hS0.out))
    (first | (go_at_call 60; ((with_reducible refine (specId ag _).mono ?_); rintro e w1 ⟨v1, rfl, hv1, hb1⟩; obtain ⟨kr1, gr1, lr1, ar1, nr1, qr1, rfl⟩ := hv1.shape; have zs1 := hb1.size; (try simp at zs1); have f2_0 : w1.frozen? ⟨w.heap.size + 1 + 1, 0, none⟩ = false := bfroc hb1 (dcell (cell_new (by simp) 0)) (dfro (fro_new (by simp) 0)); have c2_0' : w1.cell? ⟨w.heap.size + 1 + 1, 0, none⟩ = some (.int .i64 0) := bcell hb1 (dcell (cell_new (by simp) 0)); have d2_ := World.block_lt_of_cell? _ _ c2_0'; have f2_1 : w1.frozen? ⟨w.heap.size + 1 + 1, 1, none⟩ = false := bfroc hb1 (dcell (cell_new (by simp) 1)) (dfro (fro_new (by simp) 1)); have c2_1' : w1.cell? ⟨w.heap.size + 1 + 1, 1, none⟩ = some (.int .i64 0) := bcell hb1 (dcell (cell_new (by simp) 1)); have d2_ := World.block_lt_of_cell? _ _ c2_1'; have f2_2 : w1.frozen? ⟨w.heap.size + 1 + 1, 2, none⟩ = false := bfroc hb1 (dcell (cell_new (by simp) 2)) (dfro (fro_new (by simp) 2)); have c2_2' : w1.cell? ⟨w.heap.size + 1 + 1, 2, none⟩ = some (.int .i64 0) := bcell hb1 (dcell (cell_new (by simp) 2)); have d2_ := World.block_lt_of_cell? _ _ c2_2'; have f2_3 : w1.frozen? ⟨w.heap.size + 1 + 1, 3, none⟩ = false := bfroc hb1 (dcell (cell_new (by simp) 3)) (dfro (fro_new (by simp) 3)); have c2_3' : w1.cell? ⟨w.heap.size + 1 + 1, 3, none⟩ = some (.slice none 0 0) := bcell hb1 (dcell (cell_new (by simp) 3)); have d2_ := World.block_lt_of_cell? _ _ c2_3')))
  clear s0_ s1_
  have hB := (bstep bal3.drew hb1)
  have zw1 := hB.size
  have c2_0 : w1.cell? ⟨w.heap.size + 1 + 1, 0, none⟩ = some (.int .i64 0) := bcell hb1 (dcell (cell_new (by simp) 0))
  have c2_1 : w1.cell? ⟨w.heap.size + 1 + 1, 1, none⟩ = some (.int .i64 0) := bcell hb1 (dcell (cell_new (by simp) 1))
  have c2_2 : w1.cell? ⟨w.heap.size + 1 + 1, 2, none⟩ = some (.int .i64 0) := bcell hb1 (dcell (cell_new (by simp) 2))
  have c2_3 : w1.cell? ⟨w.heap.size + 1 + 1, 3, none⟩ = some (.slice none 0 0) := bcell hb1 (dcell (cell_new (by simp) 3))
  have d2_w1 := World.block_lt_of_cell? _ _ c2_0
  go_wp2_with fail
  have rc0 : ((World.setCell (World.setCell (World.setCell (World.setCell w1 ⟨w.heap.size + 1 + 1, 0, none⟩ (.int .i64 kr1)) ⟨w.heap.size + 1 + 1, 1, none⟩ (.int .i64 gr1)) ⟨w.heap.size + 1 + 1, 2, none⟩ (.int .i64 lr1)) ⟨w.heap.size + 1 + 1, 3, none⟩ (.slice ar1 nr1 qr1))).cell? ⟨w.heap.size + 1 + 1, 0, none⟩ = some (.int .i64 kr1) := sc_far (sc_far (sc_far (sc_self (c2_0)) (by simp)) (by simp)) (by simp)
  have rc1 : ((World.setCell (World.setCell (World.setCell (World.setCell w1 ⟨w.heap.size + 1 + 1, 0, none⟩ (.int .i64 kr1)) ⟨w.heap.size + 1 + 1, 1, none⟩ (.int .i64 gr1)) ⟨w.heap.size + 1 + 1, 2, none⟩ (.int .i64 lr1)) ⟨w.heap.size + 1 + 1, 3, none⟩ (.slice ar1 nr1 qr1))).cell? ⟨w.heap.size + 1 + 1, 1, none⟩ = some (.int .i64 gr1) := sc_far (sc_far (sc_self (sc_far (c2_1) (by simp))) (by simp)) (by simp)
  have rc2 : ((World.setCell (World.setCell (World.setCell (World.setCell w1 ⟨w.heap.size + 1 + 1, 0, none⟩ (.int .i64 kr1)) ⟨w.heap.size + 1 + 1, 1, none⟩ (.int .i64 gr1)) ⟨w.heap.size + 1 + 1, 2, none⟩ (.int .i64 lr1)) ⟨w.heap.size + 1 + 1, 3, none⟩ (.slice ar1 nr1 qr1))).cell? ⟨w.heap.size + 1 + 1, 2, none⟩ = some (.int .i64 lr1) := sc_far (sc_self (sc_far (sc_far (c2_2) (by simp)) (by simp))) (by simp)
  have rc3 : ((World.setCell (World.setCell (World.setCell (World.setCell w1 ⟨w.heap.size + 1 + 1, 0, none⟩ (.int .i64 kr1)) ⟨w.heap.size + 1 + 1, 1, none⟩ (.int .i64 gr1)) ⟨w.heap.size + 1 + 1, 2, none⟩ (.int .i64 lr1)) ⟨w.heap.size + 1 + 1, 3, none⟩ (.slice ar1 nr1 qr1))).cell? ⟨w.heap.size + 1 + 1, 3, none⟩ = some (.slice ar1 nr1 qr1) := sc_self (sc_far (sc_far (sc_far (c2_3) (by simp)) (by simp)) (by simp))
  refine bodyPost_ret (v := .tuple #[.agg #[.int .i64 kr1, .int .i64 gr1, .int .i64 lr1, .slice ar1 nr1 qr1], .bool (ag == bg)]) (by simp [results, Try.results44, go_sem, rc0, rc1, rc2, rc3]) rfl ?_
  exact ⟨_, rfl, CoNew.mono ((((hv1.setCell (by first | (show w.heap.size + 1 + 1 < _; omega) | (show w.heap.size + 1 + 1 < _; simp; omega) | simp) _).setCell (by first | (show w.heap.size + 1 + 1 < _; omega) | (show w.heap.size + 1 + 1 < _; simp; omega) | simp) _).setCell (by first | (show w.heap.size + 1 + 1 < _; omega) | (show w.heap.size + 1 + 1 < _; simp; omega) | simp) _).setCell (by first | (show w.heap.size + 1 + 1 < _; omega) | (show w.heap.size + 1 + 1 < _; simp; omega) | simp) _) (by first | exact Nat.le_refl _ | omega | (simp; done) | (simp; omega)), ((((hB.setCell (by show w.heap.size ≤ w.heap.size + 1 + 1; omega) _).setCell (by show w.heap.size ≤ w.heap.size + 1 + 1; omega) _).setCell (by show w.heap.size ≤ w.heap.size + 1 + 1; omega) _).setCell (by show w.heap.size ≤ w.heap.size + 1 + 1; omega) _)⟩
end Go.Proofs.Ythhdjacdalehoaa
