/-
  spec.DrawCoerceOf: two types and a label.
-/
import Derived.Test.YthhdjacdalehoaaDraws
import Derived.Test.YthhdjacdalehoaaB1
import Derived.Deep.RegionHeld3
namespace Go.Proofs.Ythhdjacdalehoaa
open Go.RowKit
set_option linter.unusedVariables false
set_option linter.unusedSimpArgs false
set_option maxRecDepth 100000

def oD0 : Oper := { dst := some 12, op := Op.load 38 (Operand.tmp 5), type := 38, pos := "l6_coercions.go:433", after := #[], guard := none }
def oD1 : Oper := { dst := some 13, op := Op.load 38 (Operand.tmp 6), type := 38, pos := "l6_coercions.go:433", after := #[{ on := 8, ground := Ground.gcOnly Departure.lateStores }], guard := none }
def oD2 : Oper := { dst := some 14, op := Op.buildSlice 53 6 #[(0, Operand.const (Value.int IntKind.i64 1)), (1, Operand.const (Value.int IntKind.i64 7)), (2, Operand.const (Value.int IntKind.i64 (-3))), (3, Operand.const (Value.int IntKind.i64 99)), (4, Operand.const (Value.int IntKind.i64 0)), (5, Operand.const (Value.int IntKind.i64 100))], type := 53, pos := "l6_coercions.go:433", after := #[{ on := 9, ground := Ground.gcOnly Departure.lateStores }], guard := none }
def oD3 : Oper := { dst := some 15, op := Op.move (Operand.tmp 0), type := 35, pos := "l6_coercions.go:433", after := #[], guard := none }
def oD4 : Oper := { dst := some 16, op := Op.call { callee := Callee.builtin Builtin.len, args := #[Operand.tmp 15], argTypes := #[35] }, type := 3, pos := "l6_coercions.go:433", after := #[{ on := 3, ground := Ground.data }], guard := none }
def oD5 : Oper := { dst := some 17, op := Op.binOp BinOp.rem 3 (Operand.tmp 16) (Operand.const (Value.int IntKind.i64 6)) 3, type := 3, pos := "l6_coercions.go:433", after := #[{ on := 4, ground := Ground.data }, { on := 9, ground := Ground.gcOnly Departure.lateStores }], guard := none }
def oD6 : Oper := { dst := some 18, op := Op.indexAddr 53 (Operand.tmp 14) (Operand.tmp 17), type := 0, pos := "l6_coercions.go:433", after := #[{ on := 2, ground := Ground.data }, { on := 5, ground := Ground.data }, { on := 9, ground := Ground.gcOnly Departure.lateStores }], guard := none }
def oD7 : Oper := { dst := some 19, op := Op.load 3 (Operand.tmp 18), type := 3, pos := "l6_coercions.go:433", after := #[{ on := 6, ground := Ground.data }, { on := 9, ground := Ground.gcOnly Departure.lateStores }], guard := none }
def oD8 : Oper := { dst := none, op := Op.store 38 (Operand.tmp 2) (Operand.tmp 12), type := 0, pos := "l6_coercions.go:433", after := #[{ on := 0, ground := Ground.data }, { on := 0, ground := Ground.phase }, { on := 1, ground := Ground.textOnly Departure.lateStores }, { on := 2, ground := Ground.textOnly Departure.lateStores }, { on := 3, ground := Ground.textOnly Departure.lateStores }, { on := 4, ground := Ground.textOnly Departure.lateStoresUnsure }, { on := 5, ground := Ground.textOnly Departure.lateStores }, { on := 6, ground := Ground.textOnly Departure.lateStores }, { on := 7, ground := Ground.textOnly Departure.lateStores }], guard := none }
def oD9 : Oper := { dst := none, op := Op.store 38 (Operand.tmp 3) (Operand.tmp 13), type := 0, pos := "l6_coercions.go:433", after := #[{ on := 1, ground := Ground.data }, { on := 8, ground := Ground.chain }, { on := 0, ground := Ground.phase }, { on := 1, ground := Ground.phase }, { on := 2, ground := Ground.textOnly Departure.lateStores }, { on := 3, ground := Ground.textOnly Departure.lateStores }, { on := 4, ground := Ground.textOnly Departure.lateStoresUnsure }, { on := 5, ground := Ground.textOnly Departure.lateStores }, { on := 6, ground := Ground.textOnly Departure.lateStores }, { on := 7, ground := Ground.textOnly Departure.lateStores }, { on := 8, ground := Ground.phase }], guard := none }
def oD10 : Oper := { dst := some 4, op := Op.assign (Operand.tmp 19), type := 3, pos := "l6_coercions.go:433", after := #[{ on := 7, ground := Ground.data }, { on := 9, ground := Ground.chain }, { on := 0, ground := Ground.phase }, { on := 1, ground := Ground.phase }, { on := 2, ground := Ground.phase }, { on := 3, ground := Ground.phase }, { on := 4, ground := Ground.phase }, { on := 5, ground := Ground.phase }, { on := 6, ground := Ground.phase }, { on := 7, ground := Ground.phase }, { on := 8, ground := Ground.phase }, { on := 9, ground := Ground.phase }], guard := none }
/-- Two types and a number. -/
def DRC (w : World) (e : Ending) (w' : World) : Prop := ∃ (t u : Ty) (v x : Value) (l : Int), e = .returned (.tuple #[v, x, .int .i64 l]) ∧ TyRep (w.heap.size ≤ ·) w' t v ∧ TyRep (w.heap.size ≤ ·) w' u x ∧ Below w.heap.size w w'
theorem six (n : Nat) : ∃ i : Nat, i < 6 ∧ ((n : Int).tmod 6 = (i : Int)) := ⟨n % 6, by omega, by rw [Int.tmod_eq_emod_of_nonneg (by omega)]; omega⟩
theorem six_cell (i : Nat) (h : i < 6) : ∃ l : Int, (#[.int .i64 1, .int .i64 7, .int .i64 (-3), .int .i64 99, .int .i64 0, .int .i64 100] : Array Value)[i]? = some (.int .i64 l) := by
  rcases (show i = 0 ∨ i = 1 ∨ i = 2 ∨ i = 3 ∨ i = 4 ∨ i = 5 by omega) with rfl | rfl | rfl | rfl | rfl | rfl <;> exact ⟨_, rfl⟩
theorem TyRep.setC {B : Nat} {w : World} {t : Ty} {y : Value} {b o : Nat} {v : Value} (h : TyRep (B ≤ ·) w t y) (hp : b < B) : TyRep (B ≤ ·) (w.setCell ⟨b, o, none⟩ v) t y := h.setCell (p := ⟨b, o, none⟩) hp v
def DF (w w1 W : World) (t u : Ty) (A B R S : Array Value) : Prop := W.heap[w.heap.size]? = some (.cells R 38 (0, 0)) ∧ W.heap[w.heap.size + 1]? = some (.cells S 38 (0, 0)) ∧ W.heap[w1.heap.size]? = some (.cells A 38 (0, 0)) ∧ W.heap[w1.heap.size + 1]? = some (.cells B 38 (0, 0)) ∧ Hid (Below w.heap.size w W) ∧ Hid (TyRep (w.heap.size + 2 ≤ ·) W t (.agg A)) ∧ Hid (TyRep (w.heap.size + 2 ≤ ·) W u (.agg B))
theorem drw_blk {w : World} {b : Nat} {x : Obj} (h : w.heap[b]? = some x) : w.drew.heap[b]? = some x := h
set_option maxHeartbeats 4000000 in
theorem specDrawCoerceOf (r : Nat) (y0 : Value) (w : World) (r0 : ByRep w r y0) (hr : r ≤ w.heap.size) : Calls Try.prog 12 #[y0] w (DRC w) := by
  obtain ⟨a0, n0, q0, rfl⟩ := r0.shape
  have hq0 : n0 ≤ 9223372036854775807 := by
    obtain ⟨a', n', q', he, h1, h2, -⟩ := r0
    simp only [Value.slice.injEq] at he
    obtain ⟨-, rfl, rfl⟩ := he
    unfold maxLen at h2
    omega
  go_enter Try.func12, Try.ntmps12
  go_wp2_with fail
  refine (specDrawConsistent _ _ _ (r0.below bal2) (by first | omega | (simp; done) | (simp; omega))).mono ?_
  rintro e w1 ⟨t, u, v, x, rfl, hv, hx, hb1⟩
  obtain ⟨ka, aa, na, qa, rfl⟩ := hv.shape
  obtain ⟨kb, ab, nb, qb, rfl⟩ := hx.shape
  have hz := hb1.size
  have hR := blk_below (blk_below (blk_new (w := w) (o := .cells #[.int .i64 0, .slice none 0 0] 38) rfl) (bal1 (o := .cells #[.int .i64 0, .slice none 0 0] 38))) hb1
  have hS := blk_below (blk_new (w := w.alloc (.cells #[.int .i64 0, .slice none 0 0] 38)) (o := .cells #[.int .i64 0, .slice none 0 0] 38) (b := w.heap.size + 1) (by simp)) hb1
  have HB := Lib.hid (bstep bal2 hb1)
  have HV := Lib.hid hv
  have HX := Lib.hid hx
  simp only [World.size_alloc] at hz
  clear hb1 hv hx
  obtain ⟨i, hi, htm⟩ := six n0
  obtain ⟨l, hl⟩ := six_cell i hi
  have hi0 : (0 : Int) ≤ (i : Int) := by omega
  have hi6 : (i : Int) < 6 := by omega
  have HLc := Lib.hid hl
  clear hl r0
  go_wp2_with fail
  have fR : ((w1.alloc (.cells #[.int .i64 ka, .slice aa na qa] 38)).alloc (.cells #[.int .i64 kb, .slice ab nb qb] 38)).heap[w.heap.size]? = some (.cells #[.int .i64 0, .slice none 0 0] 38 (0, 0)) := blk_below (blk_below hR bal1) bal1
  have fS : ((w1.alloc (.cells #[.int .i64 ka, .slice aa na qa] 38)).alloc (.cells #[.int .i64 kb, .slice ab nb qb] 38)).heap[w.heap.size + 1]? = some (.cells #[.int .i64 0, .slice none 0 0] 38 (0, 0)) := blk_below (blk_below hS bal1) bal1
  have fA : ((w1.alloc (.cells #[.int .i64 ka, .slice aa na qa] 38)).alloc (.cells #[.int .i64 kb, .slice ab nb qb] 38)).heap[w1.heap.size]? = some (.cells #[.int .i64 ka, .slice aa na qa] 38 (0, 0)) := blk_below (blk_new rfl) bal1
  have fB : ((w1.alloc (.cells #[.int .i64 ka, .slice aa na qa] 38)).alloc (.cells #[.int .i64 kb, .slice ab nb qb] 38)).heap[w1.heap.size + 1]? = some (.cells #[.int .i64 kb, .slice ab nb qb] 38 (0, 0)) := blk_new (by simp)
  have fC := Lib.hid (show Below w.heap.size w ((w1.alloc (.cells #[.int .i64 ka, .slice aa na qa] 38)).alloc (.cells #[.int .i64 kb, .slice ab nb qb] 38)) from bstep (bstep HB.out bal1) bal1)
  have fT := Lib.hid (show TyRep (w.heap.size + 2 ≤ ·) ((w1.alloc (.cells #[.int .i64 ka, .slice aa na qa] 38)).alloc (.cells #[.int .i64 kb, .slice ab nb qb] 38)) t (.agg #[.int .i64 ka, .slice aa na qa]) from TyRep.lower ((HV.out.below bal1).below bal1) (by simp))
  have fU := Lib.hid (show TyRep (w.heap.size + 2 ≤ ·) ((w1.alloc (.cells #[.int .i64 ka, .slice aa na qa] 38)).alloc (.cells #[.int .i64 kb, .slice ab nb qb] 38)) u (.agg #[.int .i64 kb, .slice ab nb qb]) from TyRep.lower ((HX.out.below bal1).below bal1) (by simp))
  have hVz : w1.heap.size + 2 = ((w1.alloc (.cells #[.int .i64 ka, .slice aa na qa] 38)).alloc (.cells #[.int .i64 kb, .slice ab nb qb] 38)).heap.size := by simp
  refine wp_region_noPanic ?_
  refine wp_region_held_drew (S := fun w' => w'.cell? ⟨w1.heap.size, 0, none⟩ = some (.int .i64 ka) ∧ w'.cell? ⟨w1.heap.size, 1, none⟩ = some (.slice aa na qa) ∧ w'.cell? ⟨w1.heap.size + 1, 0, none⟩ = some (.int .i64 kb) ∧ w'.cell? ⟨w1.heap.size + 1, 1, none⟩ = some (.slice ab nb qb)) (by kernel_rfl) ?_ (fun hHeld0 => ?_)
  · exact ⟨blk_cell (drw_blk fA) (o := 0) rfl, blk_cell (drw_blk fA) (o := 1) rfl, blk_cell (drw_blk fB) (o := 0) rfl, blk_cell (drw_blk fB) (o := 1) rfl⟩
  have hF : ∃ U : World, U = World.drew ((w1.alloc (.cells #[.int .i64 ka, .slice aa na qa] 38)).alloc (.cells #[.int .i64 kb, .slice ab nb qb] 38)) ∧ (U.heap[w.heap.size]? = some (.cells #[.int .i64 0, .slice none 0 0] 38 (0, 0)) ∧ U.heap[w.heap.size + 1]? = some (.cells #[.int .i64 0, .slice none 0 0] 38 (0, 0)) ∧ U.heap[w1.heap.size]? = some (.cells #[.int .i64 ka, .slice aa na qa] 38 (0, 0)) ∧ U.heap[w1.heap.size + 1]? = some (.cells #[.int .i64 kb, .slice ab nb qb] 38 (0, 0)) ∧ Below w.heap.size w U ∧ TyRep (w.heap.size + 2 ≤ ·) U t (.agg #[.int .i64 ka, .slice aa na qa]) ∧ TyRep (w.heap.size + 2 ≤ ·) U u (.agg #[.int .i64 kb, .slice ab nb qb])) := ⟨_, rfl, drw_blk fR, drw_blk fS, drw_blk fA, drw_blk fB, fC.out.drew, fT.out.below bdr, fU.out.below bdr⟩
  obtain ⟨U, hU, fR', fS', fA', fB', fC', fT', fU'⟩ := hF
  rw [← hU] at hHeld0 ⊢
  have hUz : w.heap.size + 4 ≤ U.heap.size := by rw [hU]; simp; omega
  clear hU fR fS fA fB fC fT fU HB HV HX hR hS
  have fR := fR'
  have fS := fS'
  have fA := fA'
  have fB := fB'
  have fC := Lib.hid fC'
  have fT := Lib.hid fT'
  have fU := Lib.hid fU'
  clear fR' fS' fA' fB' fC' fT' fU'
  refine wpAnyH_take (i := 0) (oi := oD0) (v := .agg #[.int .i64 ka, .slice aa na qa]) rfl (by kernel_rfl) (by kernel_rfl) (by kernel_rfl) (fun _ _ _ h => h) (Or.inl ⟨by rfl, ?_⟩) hHeld0 ?_
  · intro w' hSw; (try dsimp only at hSw); dsimp only [oD0]; go_simp
  (try simp only [oD0, Act.put, List.setIfInBounds_toArray, List.set_cons_zero, List.set_cons_succ])
  refine wpAnyH_take (i := 1) (oi := oD1) (v := .agg #[.int .i64 kb, .slice ab nb qb]) rfl (by kernel_rfl) (by kernel_rfl) (by kernel_rfl) (fun _ _ _ h => h) (Or.inl ⟨by rfl, ?_⟩) hHeld0 ?_
  · intro w' hSw; (try dsimp only at hSw); dsimp only [oD1]; go_simp
  (try simp only [oD1, Act.put, List.setIfInBounds_toArray, List.set_cons_zero, List.set_cons_succ])
  refine wpAnyH_take (i := 3) (oi := oD3) (v := .slice a0 n0 q0) rfl (by kernel_rfl) (by kernel_rfl) (by kernel_rfl) (fun _ _ _ h => h) (Or.inl ⟨by rfl, ?_⟩) hHeld0 ?_
  · intro w' hSw; (try dsimp only at hSw); dsimp only [oD3]; go_simp
  (try simp only [oD3, Act.put, List.setIfInBounds_toArray, List.set_cons_zero, List.set_cons_succ])
  refine wpAnyH_take (i := 4) (oi := oD4) (v := .int .i64 n0) rfl (by kernel_rfl) (by kernel_rfl) (by kernel_rfl) (fun _ _ _ h => h) (Or.inl ⟨by rfl, ?_⟩) hHeld0 ?_
  · intro w' hSw; (try dsimp only at hSw); dsimp only [oD4]; go_simp
  (try simp only [oD4, Act.put, List.setIfInBounds_toArray, List.set_cons_zero, List.set_cons_succ])
  refine wpAnyH_take (i := 5) (oi := oD5) (v := .int .i64 i) rfl (by kernel_rfl) (by kernel_rfl) (by kernel_rfl) (fun _ _ _ h => h) (Or.inl ⟨by rfl, ?_⟩) hHeld0 ?_
  · intro w' hSw; (try dsimp only at hSw); dsimp only [oD5]; go_simp
  (try simp only [oD5, Act.put, List.setIfInBounds_toArray, List.set_cons_zero, List.set_cons_succ])
  refine wpAnyH_ready (rs := [2, 8]) (by kernel_rfl) (by simp) ?_
  refine (AllReadyH.cons (o := oD2) rfl (fun K hK => ?_) (AllReadyH.cons (o := oD8) rfl (fun K hK => ?_) AllReadyH.nil))
  · skip
    dsimp only [oD2]
    go_simp
    (try go_wp2_with fail)
    have hF : DF w w1 (U.alloc (.cells #[.int .i64 1, .int .i64 7, .int .i64 (-3), .int .i64 99, .int .i64 0, .int .i64 100] 3)) t u #[.int .i64 ka, .slice aa na qa] #[.int .i64 kb, .slice ab nb qb] #[.int .i64 0, .slice none 0 0] #[.int .i64 0, .slice none 0 0] := ⟨blk_below fR bal1, blk_below fS bal1, blk_below fA bal1, blk_below fB bal1, Lib.hid (bstep fC.out bal1), Lib.hid (fT.out.below bal1), Lib.hid (fU.out.below bal1)⟩
    have fG2 : (U.alloc (.cells #[.int .i64 1, .int .i64 7, .int .i64 (-3), .int .i64 99, .int .i64 0, .int .i64 100] 3)).heap[U.heap.size]? = some (.cells #[.int .i64 1, .int .i64 7, .int .i64 (-3), .int .i64 99, .int .i64 0, .int .i64 100] 3 (0, 0)) := blk_new rfl
    clear fR fS fA fB fC fT fU
    obtain ⟨fR, fS, fA, fB, fC, fT, fU⟩ := hF
    have fG := fG2
    clear fG2
    refine hK.out _ _ ⟨blk_cell fA (o := 0) rfl, blk_cell fA (o := 1) rfl, blk_cell fB (o := 0) rfl, blk_cell fB (o := 1) rfl⟩ (fun hHeld1 => ?_)
    clear hK K hHeld0
    (try simp only [oD2, Act.put, List.setIfInBounds_toArray, List.set_cons_zero, List.set_cons_succ])
    refine wpAnyH_take (i := 6) (oi := oD6) (v := .pointer (some ⟨U.heap.size, i, none⟩)) rfl (by kernel_rfl) (by kernel_rfl) (by kernel_rfl) (fun _ _ _ h => h) (Or.inl ⟨by rfl, ?_⟩) hHeld1 ?_
    · intro w' hSw; (try dsimp only at hSw); dsimp only [oD6]; go_simp
    (try simp only [oD6, Act.put, List.setIfInBounds_toArray, List.set_cons_zero, List.set_cons_succ])
    refine wpAnyH_ready (rs := [7, 8]) (by kernel_rfl) (by simp) ?_
    refine (AllReadyH.cons (o := oD7) rfl (fun K hK => ?_) (AllReadyH.cons (o := oD8) rfl (fun K hK => ?_) AllReadyH.nil))
    · skip
      have hg := blk_cell fG (o := i) (v := .int .i64 l) HLc.out
      dsimp only [oD7]
      go_simp
      (try go_wp2_with fail)
      have hF : DF w w1 (U.alloc (.cells #[.int .i64 1, .int .i64 7, .int .i64 (-3), .int .i64 99, .int .i64 0, .int .i64 100] 3)) t u #[.int .i64 ka, .slice aa na qa] #[.int .i64 kb, .slice ab nb qb] #[.int .i64 0, .slice none 0 0] #[.int .i64 0, .slice none 0 0] := ⟨fR, fS, fA, fB, fC, fT, fU⟩
      have fG2 : (U.alloc (.cells #[.int .i64 1, .int .i64 7, .int .i64 (-3), .int .i64 99, .int .i64 0, .int .i64 100] 3)).heap[U.heap.size]? = some (.cells #[.int .i64 1, .int .i64 7, .int .i64 (-3), .int .i64 99, .int .i64 0, .int .i64 100] 3 (0, 0)) := fG
      clear fR fS fA fB fC fT fU fG hg
      obtain ⟨fR, fS, fA, fB, fC, fT, fU⟩ := hF
      have fG := fG2
      clear fG2
      refine hK.out _ _ ⟨blk_cell fA (o := 0) rfl, blk_cell fA (o := 1) rfl, blk_cell fB (o := 0) rfl, blk_cell fB (o := 1) rfl⟩ (fun hHeld2 => ?_)
      clear hK K hHeld1
      (try simp only [oD7, Act.put, List.setIfInBounds_toArray, List.set_cons_zero, List.set_cons_succ])
      refine wpAnyH_ready (rs := [8]) (by kernel_rfl) (by simp) ?_
      refine (AllReadyH.cons (o := oD8) rfl (fun K hK => ?_) AllReadyH.nil)
      · skip
        have c0 := blk_cell fR (o := 0) rfl
        have c1 := blk_cell fR (o := 1) rfl
        have d0 := blk_fro fR 0
        have d1 := blk_fro fR 1
        dsimp only [oD8]
        go_simp
        (try go_wp2_with fail)
        have hF : DF w w1 (((U.alloc (.cells #[.int .i64 1, .int .i64 7, .int .i64 (-3), .int .i64 99, .int .i64 0, .int .i64 100] 3)).setCell ⟨w.heap.size, 0, none⟩ (.int .i64 ka)).setCell ⟨w.heap.size, 1, none⟩ (.slice aa na qa)) t u #[.int .i64 ka, .slice aa na qa] #[.int .i64 kb, .slice ab nb qb] #[.int .i64 ka, .slice aa na qa] #[.int .i64 0, .slice none 0 0] := ⟨blk_set (blk_set fR (rfl : (#[.int .i64 0, .slice none 0 0] : Array Value).setIfInBounds 0 (.int .i64 ka) = #[.int .i64 ka, .slice none 0 0])) rfl, blk_ne (blk_ne fS (by show _ ≠ w.heap.size; omega)) (by show _ ≠ w.heap.size; omega), blk_ne (blk_ne fA (by show _ ≠ w.heap.size; omega)) (by show _ ≠ w.heap.size; omega), blk_ne (blk_ne fB (by show _ ≠ w.heap.size; omega)) (by show _ ≠ w.heap.size; omega), Lib.hid ((fC.out.setCell (p := ⟨w.heap.size, 0, none⟩) (by show w.heap.size ≤ w.heap.size; omega) _).setCell (p := ⟨w.heap.size, 1, none⟩) (by show w.heap.size ≤ w.heap.size; omega) _), Lib.hid ((fT.out.setC (by omega)).setC (by omega)), Lib.hid ((fU.out.setC (by omega)).setC (by omega))⟩
        have fG2 : (((U.alloc (.cells #[.int .i64 1, .int .i64 7, .int .i64 (-3), .int .i64 99, .int .i64 0, .int .i64 100] 3)).setCell ⟨w.heap.size, 0, none⟩ (.int .i64 ka)).setCell ⟨w.heap.size, 1, none⟩ (.slice aa na qa)).heap[U.heap.size]? = some (.cells #[.int .i64 1, .int .i64 7, .int .i64 (-3), .int .i64 99, .int .i64 0, .int .i64 100] 3 (0, 0)) := blk_ne (blk_ne fG (by show _ ≠ w.heap.size; omega)) (by show _ ≠ w.heap.size; omega)
        clear fR fS fA fB fC fT fU fG c0 c1 d0 d1
        obtain ⟨fR, fS, fA, fB, fC, fT, fU⟩ := hF
        have fG := fG2
        clear fG2
        refine hK.out _ _ ⟨blk_cell fA (o := 0) rfl, blk_cell fA (o := 1) rfl, blk_cell fB (o := 0) rfl, blk_cell fB (o := 1) rfl⟩ (fun hHeld3 => ?_)
        clear hK K hHeld2
        (try simp only [oD8, Act.put, List.setIfInBounds_toArray, List.set_cons_zero, List.set_cons_succ])
        refine wpAnyH_ready (rs := [9]) (by kernel_rfl) (by simp) ?_
        refine (AllReadyH.cons (o := oD9) rfl (fun K hK => ?_) AllReadyH.nil)
        · skip
          have c0 := blk_cell fS (o := 0) rfl
          have c1 := blk_cell fS (o := 1) rfl
          have d0 := blk_fro fS 0
          have d1 := blk_fro fS 1
          dsimp only [oD9]
          go_simp
          (try go_wp2_with fail)
          have hF : DF w w1 (((((U.alloc (.cells #[.int .i64 1, .int .i64 7, .int .i64 (-3), .int .i64 99, .int .i64 0, .int .i64 100] 3)).setCell ⟨w.heap.size, 0, none⟩ (.int .i64 ka)).setCell ⟨w.heap.size, 1, none⟩ (.slice aa na qa)).setCell ⟨w.heap.size + 1, 0, none⟩ (.int .i64 kb)).setCell ⟨w.heap.size + 1, 1, none⟩ (.slice ab nb qb)) t u #[.int .i64 ka, .slice aa na qa] #[.int .i64 kb, .slice ab nb qb] #[.int .i64 ka, .slice aa na qa] #[.int .i64 kb, .slice ab nb qb] := ⟨blk_ne (blk_ne fR (by show _ ≠ w.heap.size + 1; omega)) (by show _ ≠ w.heap.size + 1; omega), blk_set (blk_set fS (rfl : (#[.int .i64 0, .slice none 0 0] : Array Value).setIfInBounds 0 (.int .i64 kb) = #[.int .i64 kb, .slice none 0 0])) rfl, blk_ne (blk_ne fA (by show _ ≠ w.heap.size + 1; omega)) (by show _ ≠ w.heap.size + 1; omega), blk_ne (blk_ne fB (by show _ ≠ w.heap.size + 1; omega)) (by show _ ≠ w.heap.size + 1; omega), Lib.hid ((fC.out.setCell (p := ⟨w.heap.size + 1, 0, none⟩) (by show w.heap.size ≤ w.heap.size + 1; omega) _).setCell (p := ⟨w.heap.size + 1, 1, none⟩) (by show w.heap.size ≤ w.heap.size + 1; omega) _), Lib.hid ((fT.out.setC (by omega)).setC (by omega)), Lib.hid ((fU.out.setC (by omega)).setC (by omega))⟩
          have fG2 : (((((U.alloc (.cells #[.int .i64 1, .int .i64 7, .int .i64 (-3), .int .i64 99, .int .i64 0, .int .i64 100] 3)).setCell ⟨w.heap.size, 0, none⟩ (.int .i64 ka)).setCell ⟨w.heap.size, 1, none⟩ (.slice aa na qa)).setCell ⟨w.heap.size + 1, 0, none⟩ (.int .i64 kb)).setCell ⟨w.heap.size + 1, 1, none⟩ (.slice ab nb qb)).heap[U.heap.size]? = some (.cells #[.int .i64 1, .int .i64 7, .int .i64 (-3), .int .i64 99, .int .i64 0, .int .i64 100] 3 (0, 0)) := blk_ne (blk_ne fG (by show _ ≠ w.heap.size + 1; omega)) (by show _ ≠ w.heap.size + 1; omega)
          clear fR fS fA fB fC fT fU fG c0 c1 d0 d1
          obtain ⟨fR, fS, fA, fB, fC, fT, fU⟩ := hF
          have fG := fG2
          clear fG2
          refine hK.out _ _ ⟨blk_cell fA (o := 0) rfl, blk_cell fA (o := 1) rfl, blk_cell fB (o := 0) rfl, blk_cell fB (o := 1) rfl⟩ (fun hHeld4 => ?_)
          clear hK K hHeld3
          (try simp only [oD9, Act.put, List.setIfInBounds_toArray, List.set_cons_zero, List.set_cons_succ])
          refine wpAnyH_take (i := 10) (oi := oD10) (v := .int .i64 l) rfl (by kernel_rfl) (by kernel_rfl) (by kernel_rfl) (fun _ _ _ h => h) (Or.inl ⟨by rfl, ?_⟩) hHeld4 ?_
          · intro w' hSw; (try dsimp only at hSw); dsimp only [oD10]; go_simp
          (try simp only [oD10, Act.put, List.setIfInBounds_toArray, List.set_cons_zero, List.set_cons_succ])
          refine wpAnyH_done (by kernel_rfl) ?_ _
          refine NoPanic.normal ?_
          clear hHeld4
          have rc0 := blk_cell fR (o := 0) rfl
          have rc1 := blk_cell fR (o := 1) rfl
          have rd0 := blk_cell fS (o := 0) rfl
          have rd1 := blk_cell fS (o := 1) rfl
          go_wp2_with fail
          refine bodyPost_ret (v := .tuple #[.agg #[.int .i64 ka, .slice aa na qa], .agg #[.int .i64 kb, .slice ab nb qb], .int .i64 l]) (by simp [results, Try.results12, go_sem, rc0, rc1, rd0, rd1]) rfl ?_
          exact ⟨t, u, _, _, l, rfl, TyRep.lower fT.out (by omega), TyRep.lower fU.out (by omega), fC.out⟩
    · skip
      have c0 := blk_cell fR (o := 0) rfl
      have c1 := blk_cell fR (o := 1) rfl
      have d0 := blk_fro fR 0
      have d1 := blk_fro fR 1
      dsimp only [oD8]
      go_simp
      (try go_wp2_with fail)
      have hF : DF w w1 (((U.alloc (.cells #[.int .i64 1, .int .i64 7, .int .i64 (-3), .int .i64 99, .int .i64 0, .int .i64 100] 3)).setCell ⟨w.heap.size, 0, none⟩ (.int .i64 ka)).setCell ⟨w.heap.size, 1, none⟩ (.slice aa na qa)) t u #[.int .i64 ka, .slice aa na qa] #[.int .i64 kb, .slice ab nb qb] #[.int .i64 ka, .slice aa na qa] #[.int .i64 0, .slice none 0 0] := ⟨blk_set (blk_set fR (rfl : (#[.int .i64 0, .slice none 0 0] : Array Value).setIfInBounds 0 (.int .i64 ka) = #[.int .i64 ka, .slice none 0 0])) rfl, blk_ne (blk_ne fS (by show _ ≠ w.heap.size; omega)) (by show _ ≠ w.heap.size; omega), blk_ne (blk_ne fA (by show _ ≠ w.heap.size; omega)) (by show _ ≠ w.heap.size; omega), blk_ne (blk_ne fB (by show _ ≠ w.heap.size; omega)) (by show _ ≠ w.heap.size; omega), Lib.hid ((fC.out.setCell (p := ⟨w.heap.size, 0, none⟩) (by show w.heap.size ≤ w.heap.size; omega) _).setCell (p := ⟨w.heap.size, 1, none⟩) (by show w.heap.size ≤ w.heap.size; omega) _), Lib.hid ((fT.out.setC (by omega)).setC (by omega)), Lib.hid ((fU.out.setC (by omega)).setC (by omega))⟩
      have fG2 : (((U.alloc (.cells #[.int .i64 1, .int .i64 7, .int .i64 (-3), .int .i64 99, .int .i64 0, .int .i64 100] 3)).setCell ⟨w.heap.size, 0, none⟩ (.int .i64 ka)).setCell ⟨w.heap.size, 1, none⟩ (.slice aa na qa)).heap[U.heap.size]? = some (.cells #[.int .i64 1, .int .i64 7, .int .i64 (-3), .int .i64 99, .int .i64 0, .int .i64 100] 3 (0, 0)) := blk_ne (blk_ne fG (by show _ ≠ w.heap.size; omega)) (by show _ ≠ w.heap.size; omega)
      clear fR fS fA fB fC fT fU fG c0 c1 d0 d1
      obtain ⟨fR, fS, fA, fB, fC, fT, fU⟩ := hF
      have fG := fG2
      clear fG2
      refine hK.out _ _ ⟨blk_cell fA (o := 0) rfl, blk_cell fA (o := 1) rfl, blk_cell fB (o := 0) rfl, blk_cell fB (o := 1) rfl⟩ (fun hHeld2 => ?_)
      clear hK K hHeld1
      (try simp only [oD8, Act.put, List.setIfInBounds_toArray, List.set_cons_zero, List.set_cons_succ])
      refine wpAnyH_ready (rs := [7, 9]) (by kernel_rfl) (by simp) ?_
      refine (AllReadyH.cons (o := oD7) rfl (fun K hK => ?_) (AllReadyH.cons (o := oD9) rfl (fun K hK => ?_) AllReadyH.nil))
      · skip
        have hg := blk_cell fG (o := i) (v := .int .i64 l) HLc.out
        dsimp only [oD7]
        go_simp
        (try go_wp2_with fail)
        have hF : DF w w1 (((U.alloc (.cells #[.int .i64 1, .int .i64 7, .int .i64 (-3), .int .i64 99, .int .i64 0, .int .i64 100] 3)).setCell ⟨w.heap.size, 0, none⟩ (.int .i64 ka)).setCell ⟨w.heap.size, 1, none⟩ (.slice aa na qa)) t u #[.int .i64 ka, .slice aa na qa] #[.int .i64 kb, .slice ab nb qb] #[.int .i64 ka, .slice aa na qa] #[.int .i64 0, .slice none 0 0] := ⟨fR, fS, fA, fB, fC, fT, fU⟩
        have fG2 : (((U.alloc (.cells #[.int .i64 1, .int .i64 7, .int .i64 (-3), .int .i64 99, .int .i64 0, .int .i64 100] 3)).setCell ⟨w.heap.size, 0, none⟩ (.int .i64 ka)).setCell ⟨w.heap.size, 1, none⟩ (.slice aa na qa)).heap[U.heap.size]? = some (.cells #[.int .i64 1, .int .i64 7, .int .i64 (-3), .int .i64 99, .int .i64 0, .int .i64 100] 3 (0, 0)) := fG
        clear fR fS fA fB fC fT fU fG hg
        obtain ⟨fR, fS, fA, fB, fC, fT, fU⟩ := hF
        have fG := fG2
        clear fG2
        refine hK.out _ _ ⟨blk_cell fA (o := 0) rfl, blk_cell fA (o := 1) rfl, blk_cell fB (o := 0) rfl, blk_cell fB (o := 1) rfl⟩ (fun hHeld5 => ?_)
        clear hK K hHeld2
        (try simp only [oD7, Act.put, List.setIfInBounds_toArray, List.set_cons_zero, List.set_cons_succ])
        refine wpAnyH_ready (rs := [9]) (by kernel_rfl) (by simp) ?_
        refine (AllReadyH.cons (o := oD9) rfl (fun K hK => ?_) AllReadyH.nil)
        · skip
          have c0 := blk_cell fS (o := 0) rfl
          have c1 := blk_cell fS (o := 1) rfl
          have d0 := blk_fro fS 0
          have d1 := blk_fro fS 1
          dsimp only [oD9]
          go_simp
          (try go_wp2_with fail)
          have hF : DF w w1 (((((U.alloc (.cells #[.int .i64 1, .int .i64 7, .int .i64 (-3), .int .i64 99, .int .i64 0, .int .i64 100] 3)).setCell ⟨w.heap.size, 0, none⟩ (.int .i64 ka)).setCell ⟨w.heap.size, 1, none⟩ (.slice aa na qa)).setCell ⟨w.heap.size + 1, 0, none⟩ (.int .i64 kb)).setCell ⟨w.heap.size + 1, 1, none⟩ (.slice ab nb qb)) t u #[.int .i64 ka, .slice aa na qa] #[.int .i64 kb, .slice ab nb qb] #[.int .i64 ka, .slice aa na qa] #[.int .i64 kb, .slice ab nb qb] := ⟨blk_ne (blk_ne fR (by show _ ≠ w.heap.size + 1; omega)) (by show _ ≠ w.heap.size + 1; omega), blk_set (blk_set fS (rfl : (#[.int .i64 0, .slice none 0 0] : Array Value).setIfInBounds 0 (.int .i64 kb) = #[.int .i64 kb, .slice none 0 0])) rfl, blk_ne (blk_ne fA (by show _ ≠ w.heap.size + 1; omega)) (by show _ ≠ w.heap.size + 1; omega), blk_ne (blk_ne fB (by show _ ≠ w.heap.size + 1; omega)) (by show _ ≠ w.heap.size + 1; omega), Lib.hid ((fC.out.setCell (p := ⟨w.heap.size + 1, 0, none⟩) (by show w.heap.size ≤ w.heap.size + 1; omega) _).setCell (p := ⟨w.heap.size + 1, 1, none⟩) (by show w.heap.size ≤ w.heap.size + 1; omega) _), Lib.hid ((fT.out.setC (by omega)).setC (by omega)), Lib.hid ((fU.out.setC (by omega)).setC (by omega))⟩
          have fG2 : (((((U.alloc (.cells #[.int .i64 1, .int .i64 7, .int .i64 (-3), .int .i64 99, .int .i64 0, .int .i64 100] 3)).setCell ⟨w.heap.size, 0, none⟩ (.int .i64 ka)).setCell ⟨w.heap.size, 1, none⟩ (.slice aa na qa)).setCell ⟨w.heap.size + 1, 0, none⟩ (.int .i64 kb)).setCell ⟨w.heap.size + 1, 1, none⟩ (.slice ab nb qb)).heap[U.heap.size]? = some (.cells #[.int .i64 1, .int .i64 7, .int .i64 (-3), .int .i64 99, .int .i64 0, .int .i64 100] 3 (0, 0)) := blk_ne (blk_ne fG (by show _ ≠ w.heap.size + 1; omega)) (by show _ ≠ w.heap.size + 1; omega)
          clear fR fS fA fB fC fT fU fG c0 c1 d0 d1
          obtain ⟨fR, fS, fA, fB, fC, fT, fU⟩ := hF
          have fG := fG2
          clear fG2
          refine hK.out _ _ ⟨blk_cell fA (o := 0) rfl, blk_cell fA (o := 1) rfl, blk_cell fB (o := 0) rfl, blk_cell fB (o := 1) rfl⟩ (fun hHeld6 => ?_)
          clear hK K hHeld5
          (try simp only [oD9, Act.put, List.setIfInBounds_toArray, List.set_cons_zero, List.set_cons_succ])
          refine wpAnyH_take (i := 10) (oi := oD10) (v := .int .i64 l) rfl (by kernel_rfl) (by kernel_rfl) (by kernel_rfl) (fun _ _ _ h => h) (Or.inl ⟨by rfl, ?_⟩) hHeld6 ?_
          · intro w' hSw; (try dsimp only at hSw); dsimp only [oD10]; go_simp
          (try simp only [oD10, Act.put, List.setIfInBounds_toArray, List.set_cons_zero, List.set_cons_succ])
          refine wpAnyH_done (by kernel_rfl) ?_ _
          refine NoPanic.normal ?_
          clear hHeld6
          have rc0 := blk_cell fR (o := 0) rfl
          have rc1 := blk_cell fR (o := 1) rfl
          have rd0 := blk_cell fS (o := 0) rfl
          have rd1 := blk_cell fS (o := 1) rfl
          go_wp2_with fail
          refine bodyPost_ret (v := .tuple #[.agg #[.int .i64 ka, .slice aa na qa], .agg #[.int .i64 kb, .slice ab nb qb], .int .i64 l]) (by simp [results, Try.results12, go_sem, rc0, rc1, rd0, rd1]) rfl ?_
          exact ⟨t, u, _, _, l, rfl, TyRep.lower fT.out (by omega), TyRep.lower fU.out (by omega), fC.out⟩
      · skip
        have c0 := blk_cell fS (o := 0) rfl
        have c1 := blk_cell fS (o := 1) rfl
        have d0 := blk_fro fS 0
        have d1 := blk_fro fS 1
        dsimp only [oD9]
        go_simp
        (try go_wp2_with fail)
        have hF : DF w w1 (((((U.alloc (.cells #[.int .i64 1, .int .i64 7, .int .i64 (-3), .int .i64 99, .int .i64 0, .int .i64 100] 3)).setCell ⟨w.heap.size, 0, none⟩ (.int .i64 ka)).setCell ⟨w.heap.size, 1, none⟩ (.slice aa na qa)).setCell ⟨w.heap.size + 1, 0, none⟩ (.int .i64 kb)).setCell ⟨w.heap.size + 1, 1, none⟩ (.slice ab nb qb)) t u #[.int .i64 ka, .slice aa na qa] #[.int .i64 kb, .slice ab nb qb] #[.int .i64 ka, .slice aa na qa] #[.int .i64 kb, .slice ab nb qb] := ⟨blk_ne (blk_ne fR (by show _ ≠ w.heap.size + 1; omega)) (by show _ ≠ w.heap.size + 1; omega), blk_set (blk_set fS (rfl : (#[.int .i64 0, .slice none 0 0] : Array Value).setIfInBounds 0 (.int .i64 kb) = #[.int .i64 kb, .slice none 0 0])) rfl, blk_ne (blk_ne fA (by show _ ≠ w.heap.size + 1; omega)) (by show _ ≠ w.heap.size + 1; omega), blk_ne (blk_ne fB (by show _ ≠ w.heap.size + 1; omega)) (by show _ ≠ w.heap.size + 1; omega), Lib.hid ((fC.out.setCell (p := ⟨w.heap.size + 1, 0, none⟩) (by show w.heap.size ≤ w.heap.size + 1; omega) _).setCell (p := ⟨w.heap.size + 1, 1, none⟩) (by show w.heap.size ≤ w.heap.size + 1; omega) _), Lib.hid ((fT.out.setC (by omega)).setC (by omega)), Lib.hid ((fU.out.setC (by omega)).setC (by omega))⟩
        have fG2 : (((((U.alloc (.cells #[.int .i64 1, .int .i64 7, .int .i64 (-3), .int .i64 99, .int .i64 0, .int .i64 100] 3)).setCell ⟨w.heap.size, 0, none⟩ (.int .i64 ka)).setCell ⟨w.heap.size, 1, none⟩ (.slice aa na qa)).setCell ⟨w.heap.size + 1, 0, none⟩ (.int .i64 kb)).setCell ⟨w.heap.size + 1, 1, none⟩ (.slice ab nb qb)).heap[U.heap.size]? = some (.cells #[.int .i64 1, .int .i64 7, .int .i64 (-3), .int .i64 99, .int .i64 0, .int .i64 100] 3 (0, 0)) := blk_ne (blk_ne fG (by show _ ≠ w.heap.size + 1; omega)) (by show _ ≠ w.heap.size + 1; omega)
        clear fR fS fA fB fC fT fU fG c0 c1 d0 d1
        obtain ⟨fR, fS, fA, fB, fC, fT, fU⟩ := hF
        have fG := fG2
        clear fG2
        refine hK.out _ _ ⟨blk_cell fA (o := 0) rfl, blk_cell fA (o := 1) rfl, blk_cell fB (o := 0) rfl, blk_cell fB (o := 1) rfl⟩ (fun hHeld5 => ?_)
        clear hK K hHeld2
        (try simp only [oD9, Act.put, List.setIfInBounds_toArray, List.set_cons_zero, List.set_cons_succ])
        refine wpAnyH_ready (rs := [7]) (by kernel_rfl) (by simp) ?_
        refine (AllReadyH.cons (o := oD7) rfl (fun K hK => ?_) AllReadyH.nil)
        · skip
          have hg := blk_cell fG (o := i) (v := .int .i64 l) HLc.out
          dsimp only [oD7]
          go_simp
          (try go_wp2_with fail)
          have hF : DF w w1 (((((U.alloc (.cells #[.int .i64 1, .int .i64 7, .int .i64 (-3), .int .i64 99, .int .i64 0, .int .i64 100] 3)).setCell ⟨w.heap.size, 0, none⟩ (.int .i64 ka)).setCell ⟨w.heap.size, 1, none⟩ (.slice aa na qa)).setCell ⟨w.heap.size + 1, 0, none⟩ (.int .i64 kb)).setCell ⟨w.heap.size + 1, 1, none⟩ (.slice ab nb qb)) t u #[.int .i64 ka, .slice aa na qa] #[.int .i64 kb, .slice ab nb qb] #[.int .i64 ka, .slice aa na qa] #[.int .i64 kb, .slice ab nb qb] := ⟨fR, fS, fA, fB, fC, fT, fU⟩
          have fG2 : (((((U.alloc (.cells #[.int .i64 1, .int .i64 7, .int .i64 (-3), .int .i64 99, .int .i64 0, .int .i64 100] 3)).setCell ⟨w.heap.size, 0, none⟩ (.int .i64 ka)).setCell ⟨w.heap.size, 1, none⟩ (.slice aa na qa)).setCell ⟨w.heap.size + 1, 0, none⟩ (.int .i64 kb)).setCell ⟨w.heap.size + 1, 1, none⟩ (.slice ab nb qb)).heap[U.heap.size]? = some (.cells #[.int .i64 1, .int .i64 7, .int .i64 (-3), .int .i64 99, .int .i64 0, .int .i64 100] 3 (0, 0)) := fG
          clear fR fS fA fB fC fT fU fG hg
          obtain ⟨fR, fS, fA, fB, fC, fT, fU⟩ := hF
          have fG := fG2
          clear fG2
          refine hK.out _ _ ⟨blk_cell fA (o := 0) rfl, blk_cell fA (o := 1) rfl, blk_cell fB (o := 0) rfl, blk_cell fB (o := 1) rfl⟩ (fun hHeld7 => ?_)
          clear hK K hHeld5
          (try simp only [oD7, Act.put, List.setIfInBounds_toArray, List.set_cons_zero, List.set_cons_succ])
          refine wpAnyH_take (i := 10) (oi := oD10) (v := .int .i64 l) rfl (by kernel_rfl) (by kernel_rfl) (by kernel_rfl) (fun _ _ _ h => h) (Or.inl ⟨by rfl, ?_⟩) hHeld7 ?_
          · intro w' hSw; (try dsimp only at hSw); dsimp only [oD10]; go_simp
          (try simp only [oD10, Act.put, List.setIfInBounds_toArray, List.set_cons_zero, List.set_cons_succ])
          refine wpAnyH_done (by kernel_rfl) ?_ _
          refine NoPanic.normal ?_
          clear hHeld7
          have rc0 := blk_cell fR (o := 0) rfl
          have rc1 := blk_cell fR (o := 1) rfl
          have rd0 := blk_cell fS (o := 0) rfl
          have rd1 := blk_cell fS (o := 1) rfl
          go_wp2_with fail
          refine bodyPost_ret (v := .tuple #[.agg #[.int .i64 ka, .slice aa na qa], .agg #[.int .i64 kb, .slice ab nb qb], .int .i64 l]) (by simp [results, Try.results12, go_sem, rc0, rc1, rd0, rd1]) rfl ?_
          exact ⟨t, u, _, _, l, rfl, TyRep.lower fT.out (by omega), TyRep.lower fU.out (by omega), fC.out⟩
  · skip
    have c0 := blk_cell fR (o := 0) rfl
    have c1 := blk_cell fR (o := 1) rfl
    have d0 := blk_fro fR 0
    have d1 := blk_fro fR 1
    dsimp only [oD8]
    go_simp
    (try go_wp2_with fail)
    have hF : DF w w1 ((U.setCell ⟨w.heap.size, 0, none⟩ (.int .i64 ka)).setCell ⟨w.heap.size, 1, none⟩ (.slice aa na qa)) t u #[.int .i64 ka, .slice aa na qa] #[.int .i64 kb, .slice ab nb qb] #[.int .i64 ka, .slice aa na qa] #[.int .i64 0, .slice none 0 0] := ⟨blk_set (blk_set fR (rfl : (#[.int .i64 0, .slice none 0 0] : Array Value).setIfInBounds 0 (.int .i64 ka) = #[.int .i64 ka, .slice none 0 0])) rfl, blk_ne (blk_ne fS (by show _ ≠ w.heap.size; omega)) (by show _ ≠ w.heap.size; omega), blk_ne (blk_ne fA (by show _ ≠ w.heap.size; omega)) (by show _ ≠ w.heap.size; omega), blk_ne (blk_ne fB (by show _ ≠ w.heap.size; omega)) (by show _ ≠ w.heap.size; omega), Lib.hid ((fC.out.setCell (p := ⟨w.heap.size, 0, none⟩) (by show w.heap.size ≤ w.heap.size; omega) _).setCell (p := ⟨w.heap.size, 1, none⟩) (by show w.heap.size ≤ w.heap.size; omega) _), Lib.hid ((fT.out.setC (by omega)).setC (by omega)), Lib.hid ((fU.out.setC (by omega)).setC (by omega))⟩
    clear fR fS fA fB fC fT fU c0 c1 d0 d1
    obtain ⟨fR, fS, fA, fB, fC, fT, fU⟩ := hF
    refine hK.out _ _ ⟨blk_cell fA (o := 0) rfl, blk_cell fA (o := 1) rfl, blk_cell fB (o := 0) rfl, blk_cell fB (o := 1) rfl⟩ (fun hHeld1 => ?_)
    clear hK K hHeld0
    (try simp only [oD8, Act.put, List.setIfInBounds_toArray, List.set_cons_zero, List.set_cons_succ])
    refine wpAnyH_ready (rs := [2, 9]) (by kernel_rfl) (by simp) ?_
    refine (AllReadyH.cons (o := oD2) rfl (fun K hK => ?_) (AllReadyH.cons (o := oD9) rfl (fun K hK => ?_) AllReadyH.nil))
    · skip
      dsimp only [oD2]
      go_simp
      (try go_wp2_with fail)
      have hF : DF w w1 (((U.setCell ⟨w.heap.size, 0, none⟩ (.int .i64 ka)).setCell ⟨w.heap.size, 1, none⟩ (.slice aa na qa)).alloc (.cells #[.int .i64 1, .int .i64 7, .int .i64 (-3), .int .i64 99, .int .i64 0, .int .i64 100] 3)) t u #[.int .i64 ka, .slice aa na qa] #[.int .i64 kb, .slice ab nb qb] #[.int .i64 ka, .slice aa na qa] #[.int .i64 0, .slice none 0 0] := ⟨blk_below fR bal1, blk_below fS bal1, blk_below fA bal1, blk_below fB bal1, Lib.hid (bstep fC.out bal1), Lib.hid (fT.out.below bal1), Lib.hid (fU.out.below bal1)⟩
      have fG2 : (((U.setCell ⟨w.heap.size, 0, none⟩ (.int .i64 ka)).setCell ⟨w.heap.size, 1, none⟩ (.slice aa na qa)).alloc (.cells #[.int .i64 1, .int .i64 7, .int .i64 (-3), .int .i64 99, .int .i64 0, .int .i64 100] 3)).heap[U.heap.size]? = some (.cells #[.int .i64 1, .int .i64 7, .int .i64 (-3), .int .i64 99, .int .i64 0, .int .i64 100] 3 (0, 0)) := blk_new (by simp [World.setCell])
      clear fR fS fA fB fC fT fU
      obtain ⟨fR, fS, fA, fB, fC, fT, fU⟩ := hF
      have fG := fG2
      clear fG2
      refine hK.out _ _ ⟨blk_cell fA (o := 0) rfl, blk_cell fA (o := 1) rfl, blk_cell fB (o := 0) rfl, blk_cell fB (o := 1) rfl⟩ (fun hHeld8 => ?_)
      clear hK K hHeld1
      (try simp only [oD2, Act.put, List.setIfInBounds_toArray, List.set_cons_zero, List.set_cons_succ])
      refine wpAnyH_take (i := 6) (oi := oD6) (v := .pointer (some ⟨U.heap.size, i, none⟩)) rfl (by kernel_rfl) (by kernel_rfl) (by kernel_rfl) (fun _ _ _ h => h) (Or.inl ⟨by rfl, ?_⟩) hHeld8 ?_
      · intro w' hSw; (try dsimp only at hSw); dsimp only [oD6]; go_simp
      (try simp only [oD6, Act.put, List.setIfInBounds_toArray, List.set_cons_zero, List.set_cons_succ])
      refine wpAnyH_ready (rs := [7, 9]) (by kernel_rfl) (by simp) ?_
      refine (AllReadyH.cons (o := oD7) rfl (fun K hK => ?_) (AllReadyH.cons (o := oD9) rfl (fun K hK => ?_) AllReadyH.nil))
      · skip
        have hg := blk_cell fG (o := i) (v := .int .i64 l) HLc.out
        dsimp only [oD7]
        go_simp
        (try go_wp2_with fail)
        have hF : DF w w1 (((U.setCell ⟨w.heap.size, 0, none⟩ (.int .i64 ka)).setCell ⟨w.heap.size, 1, none⟩ (.slice aa na qa)).alloc (.cells #[.int .i64 1, .int .i64 7, .int .i64 (-3), .int .i64 99, .int .i64 0, .int .i64 100] 3)) t u #[.int .i64 ka, .slice aa na qa] #[.int .i64 kb, .slice ab nb qb] #[.int .i64 ka, .slice aa na qa] #[.int .i64 0, .slice none 0 0] := ⟨fR, fS, fA, fB, fC, fT, fU⟩
        have fG2 : (((U.setCell ⟨w.heap.size, 0, none⟩ (.int .i64 ka)).setCell ⟨w.heap.size, 1, none⟩ (.slice aa na qa)).alloc (.cells #[.int .i64 1, .int .i64 7, .int .i64 (-3), .int .i64 99, .int .i64 0, .int .i64 100] 3)).heap[U.heap.size]? = some (.cells #[.int .i64 1, .int .i64 7, .int .i64 (-3), .int .i64 99, .int .i64 0, .int .i64 100] 3 (0, 0)) := fG
        clear fR fS fA fB fC fT fU fG hg
        obtain ⟨fR, fS, fA, fB, fC, fT, fU⟩ := hF
        have fG := fG2
        clear fG2
        refine hK.out _ _ ⟨blk_cell fA (o := 0) rfl, blk_cell fA (o := 1) rfl, blk_cell fB (o := 0) rfl, blk_cell fB (o := 1) rfl⟩ (fun hHeld9 => ?_)
        clear hK K hHeld8
        (try simp only [oD7, Act.put, List.setIfInBounds_toArray, List.set_cons_zero, List.set_cons_succ])
        refine wpAnyH_ready (rs := [9]) (by kernel_rfl) (by simp) ?_
        refine (AllReadyH.cons (o := oD9) rfl (fun K hK => ?_) AllReadyH.nil)
        · skip
          have c0 := blk_cell fS (o := 0) rfl
          have c1 := blk_cell fS (o := 1) rfl
          have d0 := blk_fro fS 0
          have d1 := blk_fro fS 1
          dsimp only [oD9]
          go_simp
          (try go_wp2_with fail)
          have hF : DF w w1 (((((U.setCell ⟨w.heap.size, 0, none⟩ (.int .i64 ka)).setCell ⟨w.heap.size, 1, none⟩ (.slice aa na qa)).alloc (.cells #[.int .i64 1, .int .i64 7, .int .i64 (-3), .int .i64 99, .int .i64 0, .int .i64 100] 3)).setCell ⟨w.heap.size + 1, 0, none⟩ (.int .i64 kb)).setCell ⟨w.heap.size + 1, 1, none⟩ (.slice ab nb qb)) t u #[.int .i64 ka, .slice aa na qa] #[.int .i64 kb, .slice ab nb qb] #[.int .i64 ka, .slice aa na qa] #[.int .i64 kb, .slice ab nb qb] := ⟨blk_ne (blk_ne fR (by show _ ≠ w.heap.size + 1; omega)) (by show _ ≠ w.heap.size + 1; omega), blk_set (blk_set fS (rfl : (#[.int .i64 0, .slice none 0 0] : Array Value).setIfInBounds 0 (.int .i64 kb) = #[.int .i64 kb, .slice none 0 0])) rfl, blk_ne (blk_ne fA (by show _ ≠ w.heap.size + 1; omega)) (by show _ ≠ w.heap.size + 1; omega), blk_ne (blk_ne fB (by show _ ≠ w.heap.size + 1; omega)) (by show _ ≠ w.heap.size + 1; omega), Lib.hid ((fC.out.setCell (p := ⟨w.heap.size + 1, 0, none⟩) (by show w.heap.size ≤ w.heap.size + 1; omega) _).setCell (p := ⟨w.heap.size + 1, 1, none⟩) (by show w.heap.size ≤ w.heap.size + 1; omega) _), Lib.hid ((fT.out.setC (by omega)).setC (by omega)), Lib.hid ((fU.out.setC (by omega)).setC (by omega))⟩
          have fG2 : (((((U.setCell ⟨w.heap.size, 0, none⟩ (.int .i64 ka)).setCell ⟨w.heap.size, 1, none⟩ (.slice aa na qa)).alloc (.cells #[.int .i64 1, .int .i64 7, .int .i64 (-3), .int .i64 99, .int .i64 0, .int .i64 100] 3)).setCell ⟨w.heap.size + 1, 0, none⟩ (.int .i64 kb)).setCell ⟨w.heap.size + 1, 1, none⟩ (.slice ab nb qb)).heap[U.heap.size]? = some (.cells #[.int .i64 1, .int .i64 7, .int .i64 (-3), .int .i64 99, .int .i64 0, .int .i64 100] 3 (0, 0)) := blk_ne (blk_ne fG (by show _ ≠ w.heap.size + 1; omega)) (by show _ ≠ w.heap.size + 1; omega)
          clear fR fS fA fB fC fT fU fG c0 c1 d0 d1
          obtain ⟨fR, fS, fA, fB, fC, fT, fU⟩ := hF
          have fG := fG2
          clear fG2
          refine hK.out _ _ ⟨blk_cell fA (o := 0) rfl, blk_cell fA (o := 1) rfl, blk_cell fB (o := 0) rfl, blk_cell fB (o := 1) rfl⟩ (fun hHeld10 => ?_)
          clear hK K hHeld9
          (try simp only [oD9, Act.put, List.setIfInBounds_toArray, List.set_cons_zero, List.set_cons_succ])
          refine wpAnyH_take (i := 10) (oi := oD10) (v := .int .i64 l) rfl (by kernel_rfl) (by kernel_rfl) (by kernel_rfl) (fun _ _ _ h => h) (Or.inl ⟨by rfl, ?_⟩) hHeld10 ?_
          · intro w' hSw; (try dsimp only at hSw); dsimp only [oD10]; go_simp
          (try simp only [oD10, Act.put, List.setIfInBounds_toArray, List.set_cons_zero, List.set_cons_succ])
          refine wpAnyH_done (by kernel_rfl) ?_ _
          refine NoPanic.normal ?_
          clear hHeld10
          have rc0 := blk_cell fR (o := 0) rfl
          have rc1 := blk_cell fR (o := 1) rfl
          have rd0 := blk_cell fS (o := 0) rfl
          have rd1 := blk_cell fS (o := 1) rfl
          go_wp2_with fail
          refine bodyPost_ret (v := .tuple #[.agg #[.int .i64 ka, .slice aa na qa], .agg #[.int .i64 kb, .slice ab nb qb], .int .i64 l]) (by simp [results, Try.results12, go_sem, rc0, rc1, rd0, rd1]) rfl ?_
          exact ⟨t, u, _, _, l, rfl, TyRep.lower fT.out (by omega), TyRep.lower fU.out (by omega), fC.out⟩
      · skip
        have c0 := blk_cell fS (o := 0) rfl
        have c1 := blk_cell fS (o := 1) rfl
        have d0 := blk_fro fS 0
        have d1 := blk_fro fS 1
        dsimp only [oD9]
        go_simp
        (try go_wp2_with fail)
        have hF : DF w w1 (((((U.setCell ⟨w.heap.size, 0, none⟩ (.int .i64 ka)).setCell ⟨w.heap.size, 1, none⟩ (.slice aa na qa)).alloc (.cells #[.int .i64 1, .int .i64 7, .int .i64 (-3), .int .i64 99, .int .i64 0, .int .i64 100] 3)).setCell ⟨w.heap.size + 1, 0, none⟩ (.int .i64 kb)).setCell ⟨w.heap.size + 1, 1, none⟩ (.slice ab nb qb)) t u #[.int .i64 ka, .slice aa na qa] #[.int .i64 kb, .slice ab nb qb] #[.int .i64 ka, .slice aa na qa] #[.int .i64 kb, .slice ab nb qb] := ⟨blk_ne (blk_ne fR (by show _ ≠ w.heap.size + 1; omega)) (by show _ ≠ w.heap.size + 1; omega), blk_set (blk_set fS (rfl : (#[.int .i64 0, .slice none 0 0] : Array Value).setIfInBounds 0 (.int .i64 kb) = #[.int .i64 kb, .slice none 0 0])) rfl, blk_ne (blk_ne fA (by show _ ≠ w.heap.size + 1; omega)) (by show _ ≠ w.heap.size + 1; omega), blk_ne (blk_ne fB (by show _ ≠ w.heap.size + 1; omega)) (by show _ ≠ w.heap.size + 1; omega), Lib.hid ((fC.out.setCell (p := ⟨w.heap.size + 1, 0, none⟩) (by show w.heap.size ≤ w.heap.size + 1; omega) _).setCell (p := ⟨w.heap.size + 1, 1, none⟩) (by show w.heap.size ≤ w.heap.size + 1; omega) _), Lib.hid ((fT.out.setC (by omega)).setC (by omega)), Lib.hid ((fU.out.setC (by omega)).setC (by omega))⟩
        have fG2 : (((((U.setCell ⟨w.heap.size, 0, none⟩ (.int .i64 ka)).setCell ⟨w.heap.size, 1, none⟩ (.slice aa na qa)).alloc (.cells #[.int .i64 1, .int .i64 7, .int .i64 (-3), .int .i64 99, .int .i64 0, .int .i64 100] 3)).setCell ⟨w.heap.size + 1, 0, none⟩ (.int .i64 kb)).setCell ⟨w.heap.size + 1, 1, none⟩ (.slice ab nb qb)).heap[U.heap.size]? = some (.cells #[.int .i64 1, .int .i64 7, .int .i64 (-3), .int .i64 99, .int .i64 0, .int .i64 100] 3 (0, 0)) := blk_ne (blk_ne fG (by show _ ≠ w.heap.size + 1; omega)) (by show _ ≠ w.heap.size + 1; omega)
        clear fR fS fA fB fC fT fU fG c0 c1 d0 d1
        obtain ⟨fR, fS, fA, fB, fC, fT, fU⟩ := hF
        have fG := fG2
        clear fG2
        refine hK.out _ _ ⟨blk_cell fA (o := 0) rfl, blk_cell fA (o := 1) rfl, blk_cell fB (o := 0) rfl, blk_cell fB (o := 1) rfl⟩ (fun hHeld9 => ?_)
        clear hK K hHeld8
        (try simp only [oD9, Act.put, List.setIfInBounds_toArray, List.set_cons_zero, List.set_cons_succ])
        refine wpAnyH_ready (rs := [7]) (by kernel_rfl) (by simp) ?_
        refine (AllReadyH.cons (o := oD7) rfl (fun K hK => ?_) AllReadyH.nil)
        · skip
          have hg := blk_cell fG (o := i) (v := .int .i64 l) HLc.out
          dsimp only [oD7]
          go_simp
          (try go_wp2_with fail)
          have hF : DF w w1 (((((U.setCell ⟨w.heap.size, 0, none⟩ (.int .i64 ka)).setCell ⟨w.heap.size, 1, none⟩ (.slice aa na qa)).alloc (.cells #[.int .i64 1, .int .i64 7, .int .i64 (-3), .int .i64 99, .int .i64 0, .int .i64 100] 3)).setCell ⟨w.heap.size + 1, 0, none⟩ (.int .i64 kb)).setCell ⟨w.heap.size + 1, 1, none⟩ (.slice ab nb qb)) t u #[.int .i64 ka, .slice aa na qa] #[.int .i64 kb, .slice ab nb qb] #[.int .i64 ka, .slice aa na qa] #[.int .i64 kb, .slice ab nb qb] := ⟨fR, fS, fA, fB, fC, fT, fU⟩
          have fG2 : (((((U.setCell ⟨w.heap.size, 0, none⟩ (.int .i64 ka)).setCell ⟨w.heap.size, 1, none⟩ (.slice aa na qa)).alloc (.cells #[.int .i64 1, .int .i64 7, .int .i64 (-3), .int .i64 99, .int .i64 0, .int .i64 100] 3)).setCell ⟨w.heap.size + 1, 0, none⟩ (.int .i64 kb)).setCell ⟨w.heap.size + 1, 1, none⟩ (.slice ab nb qb)).heap[U.heap.size]? = some (.cells #[.int .i64 1, .int .i64 7, .int .i64 (-3), .int .i64 99, .int .i64 0, .int .i64 100] 3 (0, 0)) := fG
          clear fR fS fA fB fC fT fU fG hg
          obtain ⟨fR, fS, fA, fB, fC, fT, fU⟩ := hF
          have fG := fG2
          clear fG2
          refine hK.out _ _ ⟨blk_cell fA (o := 0) rfl, blk_cell fA (o := 1) rfl, blk_cell fB (o := 0) rfl, blk_cell fB (o := 1) rfl⟩ (fun hHeld11 => ?_)
          clear hK K hHeld9
          (try simp only [oD7, Act.put, List.setIfInBounds_toArray, List.set_cons_zero, List.set_cons_succ])
          refine wpAnyH_take (i := 10) (oi := oD10) (v := .int .i64 l) rfl (by kernel_rfl) (by kernel_rfl) (by kernel_rfl) (fun _ _ _ h => h) (Or.inl ⟨by rfl, ?_⟩) hHeld11 ?_
          · intro w' hSw; (try dsimp only at hSw); dsimp only [oD10]; go_simp
          (try simp only [oD10, Act.put, List.setIfInBounds_toArray, List.set_cons_zero, List.set_cons_succ])
          refine wpAnyH_done (by kernel_rfl) ?_ _
          refine NoPanic.normal ?_
          clear hHeld11
          have rc0 := blk_cell fR (o := 0) rfl
          have rc1 := blk_cell fR (o := 1) rfl
          have rd0 := blk_cell fS (o := 0) rfl
          have rd1 := blk_cell fS (o := 1) rfl
          go_wp2_with fail
          refine bodyPost_ret (v := .tuple #[.agg #[.int .i64 ka, .slice aa na qa], .agg #[.int .i64 kb, .slice ab nb qb], .int .i64 l]) (by simp [results, Try.results12, go_sem, rc0, rc1, rd0, rd1]) rfl ?_
          exact ⟨t, u, _, _, l, rfl, TyRep.lower fT.out (by omega), TyRep.lower fU.out (by omega), fC.out⟩
    · skip
      have c0 := blk_cell fS (o := 0) rfl
      have c1 := blk_cell fS (o := 1) rfl
      have d0 := blk_fro fS 0
      have d1 := blk_fro fS 1
      dsimp only [oD9]
      go_simp
      (try go_wp2_with fail)
      have hF : DF w w1 ((((U.setCell ⟨w.heap.size, 0, none⟩ (.int .i64 ka)).setCell ⟨w.heap.size, 1, none⟩ (.slice aa na qa)).setCell ⟨w.heap.size + 1, 0, none⟩ (.int .i64 kb)).setCell ⟨w.heap.size + 1, 1, none⟩ (.slice ab nb qb)) t u #[.int .i64 ka, .slice aa na qa] #[.int .i64 kb, .slice ab nb qb] #[.int .i64 ka, .slice aa na qa] #[.int .i64 kb, .slice ab nb qb] := ⟨blk_ne (blk_ne fR (by show _ ≠ w.heap.size + 1; omega)) (by show _ ≠ w.heap.size + 1; omega), blk_set (blk_set fS (rfl : (#[.int .i64 0, .slice none 0 0] : Array Value).setIfInBounds 0 (.int .i64 kb) = #[.int .i64 kb, .slice none 0 0])) rfl, blk_ne (blk_ne fA (by show _ ≠ w.heap.size + 1; omega)) (by show _ ≠ w.heap.size + 1; omega), blk_ne (blk_ne fB (by show _ ≠ w.heap.size + 1; omega)) (by show _ ≠ w.heap.size + 1; omega), Lib.hid ((fC.out.setCell (p := ⟨w.heap.size + 1, 0, none⟩) (by show w.heap.size ≤ w.heap.size + 1; omega) _).setCell (p := ⟨w.heap.size + 1, 1, none⟩) (by show w.heap.size ≤ w.heap.size + 1; omega) _), Lib.hid ((fT.out.setC (by omega)).setC (by omega)), Lib.hid ((fU.out.setC (by omega)).setC (by omega))⟩
      clear fR fS fA fB fC fT fU c0 c1 d0 d1
      obtain ⟨fR, fS, fA, fB, fC, fT, fU⟩ := hF
      refine hK.out _ _ ⟨blk_cell fA (o := 0) rfl, blk_cell fA (o := 1) rfl, blk_cell fB (o := 0) rfl, blk_cell fB (o := 1) rfl⟩ (fun hHeld8 => ?_)
      clear hK K hHeld1
      (try simp only [oD9, Act.put, List.setIfInBounds_toArray, List.set_cons_zero, List.set_cons_succ])
      refine wpAnyH_ready (rs := [2]) (by kernel_rfl) (by simp) ?_
      refine (AllReadyH.cons (o := oD2) rfl (fun K hK => ?_) AllReadyH.nil)
      · skip
        dsimp only [oD2]
        go_simp
        (try go_wp2_with fail)
        have hF : DF w w1 (((((U.setCell ⟨w.heap.size, 0, none⟩ (.int .i64 ka)).setCell ⟨w.heap.size, 1, none⟩ (.slice aa na qa)).setCell ⟨w.heap.size + 1, 0, none⟩ (.int .i64 kb)).setCell ⟨w.heap.size + 1, 1, none⟩ (.slice ab nb qb)).alloc (.cells #[.int .i64 1, .int .i64 7, .int .i64 (-3), .int .i64 99, .int .i64 0, .int .i64 100] 3)) t u #[.int .i64 ka, .slice aa na qa] #[.int .i64 kb, .slice ab nb qb] #[.int .i64 ka, .slice aa na qa] #[.int .i64 kb, .slice ab nb qb] := ⟨blk_below fR bal1, blk_below fS bal1, blk_below fA bal1, blk_below fB bal1, Lib.hid (bstep fC.out bal1), Lib.hid (fT.out.below bal1), Lib.hid (fU.out.below bal1)⟩
        have fG2 : (((((U.setCell ⟨w.heap.size, 0, none⟩ (.int .i64 ka)).setCell ⟨w.heap.size, 1, none⟩ (.slice aa na qa)).setCell ⟨w.heap.size + 1, 0, none⟩ (.int .i64 kb)).setCell ⟨w.heap.size + 1, 1, none⟩ (.slice ab nb qb)).alloc (.cells #[.int .i64 1, .int .i64 7, .int .i64 (-3), .int .i64 99, .int .i64 0, .int .i64 100] 3)).heap[U.heap.size]? = some (.cells #[.int .i64 1, .int .i64 7, .int .i64 (-3), .int .i64 99, .int .i64 0, .int .i64 100] 3 (0, 0)) := blk_new (by simp [World.setCell])
        clear fR fS fA fB fC fT fU
        obtain ⟨fR, fS, fA, fB, fC, fT, fU⟩ := hF
        have fG := fG2
        clear fG2
        refine hK.out _ _ ⟨blk_cell fA (o := 0) rfl, blk_cell fA (o := 1) rfl, blk_cell fB (o := 0) rfl, blk_cell fB (o := 1) rfl⟩ (fun hHeld12 => ?_)
        clear hK K hHeld8
        (try simp only [oD2, Act.put, List.setIfInBounds_toArray, List.set_cons_zero, List.set_cons_succ])
        refine wpAnyH_take (i := 6) (oi := oD6) (v := .pointer (some ⟨U.heap.size, i, none⟩)) rfl (by kernel_rfl) (by kernel_rfl) (by kernel_rfl) (fun _ _ _ h => h) (Or.inl ⟨by rfl, ?_⟩) hHeld12 ?_
        · intro w' hSw; (try dsimp only at hSw); dsimp only [oD6]; go_simp
        (try simp only [oD6, Act.put, List.setIfInBounds_toArray, List.set_cons_zero, List.set_cons_succ])
        refine wpAnyH_ready (rs := [7]) (by kernel_rfl) (by simp) ?_
        refine (AllReadyH.cons (o := oD7) rfl (fun K hK => ?_) AllReadyH.nil)
        · skip
          have hg := blk_cell fG (o := i) (v := .int .i64 l) HLc.out
          dsimp only [oD7]
          go_simp
          (try go_wp2_with fail)
          have hF : DF w w1 (((((U.setCell ⟨w.heap.size, 0, none⟩ (.int .i64 ka)).setCell ⟨w.heap.size, 1, none⟩ (.slice aa na qa)).setCell ⟨w.heap.size + 1, 0, none⟩ (.int .i64 kb)).setCell ⟨w.heap.size + 1, 1, none⟩ (.slice ab nb qb)).alloc (.cells #[.int .i64 1, .int .i64 7, .int .i64 (-3), .int .i64 99, .int .i64 0, .int .i64 100] 3)) t u #[.int .i64 ka, .slice aa na qa] #[.int .i64 kb, .slice ab nb qb] #[.int .i64 ka, .slice aa na qa] #[.int .i64 kb, .slice ab nb qb] := ⟨fR, fS, fA, fB, fC, fT, fU⟩
          have fG2 : (((((U.setCell ⟨w.heap.size, 0, none⟩ (.int .i64 ka)).setCell ⟨w.heap.size, 1, none⟩ (.slice aa na qa)).setCell ⟨w.heap.size + 1, 0, none⟩ (.int .i64 kb)).setCell ⟨w.heap.size + 1, 1, none⟩ (.slice ab nb qb)).alloc (.cells #[.int .i64 1, .int .i64 7, .int .i64 (-3), .int .i64 99, .int .i64 0, .int .i64 100] 3)).heap[U.heap.size]? = some (.cells #[.int .i64 1, .int .i64 7, .int .i64 (-3), .int .i64 99, .int .i64 0, .int .i64 100] 3 (0, 0)) := fG
          clear fR fS fA fB fC fT fU fG hg
          obtain ⟨fR, fS, fA, fB, fC, fT, fU⟩ := hF
          have fG := fG2
          clear fG2
          refine hK.out _ _ ⟨blk_cell fA (o := 0) rfl, blk_cell fA (o := 1) rfl, blk_cell fB (o := 0) rfl, blk_cell fB (o := 1) rfl⟩ (fun hHeld13 => ?_)
          clear hK K hHeld12
          (try simp only [oD7, Act.put, List.setIfInBounds_toArray, List.set_cons_zero, List.set_cons_succ])
          refine wpAnyH_take (i := 10) (oi := oD10) (v := .int .i64 l) rfl (by kernel_rfl) (by kernel_rfl) (by kernel_rfl) (fun _ _ _ h => h) (Or.inl ⟨by rfl, ?_⟩) hHeld13 ?_
          · intro w' hSw; (try dsimp only at hSw); dsimp only [oD10]; go_simp
          (try simp only [oD10, Act.put, List.setIfInBounds_toArray, List.set_cons_zero, List.set_cons_succ])
          refine wpAnyH_done (by kernel_rfl) ?_ _
          refine NoPanic.normal ?_
          clear hHeld13
          have rc0 := blk_cell fR (o := 0) rfl
          have rc1 := blk_cell fR (o := 1) rfl
          have rd0 := blk_cell fS (o := 0) rfl
          have rd1 := blk_cell fS (o := 1) rfl
          go_wp2_with fail
          refine bodyPost_ret (v := .tuple #[.agg #[.int .i64 ka, .slice aa na qa], .agg #[.int .i64 kb, .slice ab nb qb], .int .i64 l]) (by simp [results, Try.results12, go_sem, rc0, rc1, rd0, rd1]) rfl ?_
          exact ⟨t, u, _, _, l, rfl, TyRep.lower fT.out (by omega), TyRep.lower fU.out (by omega), fC.out⟩
end Go.Proofs.Ythhdjacdalehoaa
