/-
  Where coercions lead: the kinds of the nodes.
-/
import Derived.Test.YthhdjacdalehoaaB10
import Derived.Deep.RegionHeld3
import Derived.Deep.QuietTactic
namespace Go.Proofs.Ythhdjacdalehoaa
open Go.RowKit
set_option linter.unusedVariables false
set_option linter.unusedSimpArgs false
set_option maxRecDepth 100000
def oLa0 : Oper := { dst := some 25, op := Op.fieldAddr 38 (Operand.tmp 4) 0, type := 0, pos := "l6_coercions.go:248", after := #[], guard := none }
def oLa1 : Oper := { dst := some 26, op := Op.load 3 (Operand.tmp 25), type := 3, pos := "l6_coercions.go:248", after := #[{ on := 0, ground := Ground.data }], guard := none }
def oLa2 : Oper := { dst := some 27, op := Op.binOp BinOp.eql 3 (Operand.tmp 26) (Operand.const (Value.int IntKind.i64 4)) 3, type := 4, pos := "l6_coercions.go:248", after := #[{ on := 1, ground := Ground.data }], guard := none }
def oLa3 : Oper := { dst := some 28, op := Op.move (Operand.tmp 27), type := 4, pos := "l6_coercions.go:248", after := #[{ on := 2, ground := Ground.data }], guard := none }
def oLa4 : Oper := { dst := some 29, op := Op.fieldAddr 38 (Operand.tmp 5) 0, type := 0, pos := "l6_coercions.go:248", after := #[{ on := 3, ground := Ground.guard }], guard := some (3, true) }
def oLa5 : Oper := { dst := some 30, op := Op.load 3 (Operand.tmp 29), type := 3, pos := "l6_coercions.go:248", after := #[{ on := 4, ground := Ground.data }, { on := 3, ground := Ground.guard }], guard := some (3, true) }
def oLa6 : Oper := { dst := some 31, op := Op.binOp BinOp.eql 3 (Operand.tmp 30) (Operand.const (Value.int IntKind.i64 4)) 3, type := 4, pos := "l6_coercions.go:248", after := #[{ on := 5, ground := Ground.data }, { on := 3, ground := Ground.guard }], guard := some (3, true) }
def oLa7 : Oper := { dst := some 32, op := Op.pick (Operand.tmp 28) (Operand.tmp 31) (Operand.const (Value.bool false)), type := 4, pos := "l6_coercions.go:248", after := #[{ on := 3, ground := Ground.data }, { on := 6, ground := Ground.data }], guard := none }
def oLa8 : Oper := { dst := some 33, op := Op.move (Operand.tmp 32), type := 4, pos := "l6_coercions.go:248", after := #[{ on := 7, ground := Ground.data }, { on := 3, ground := Ground.chain }], guard := none }
def oLa9 : Oper := { dst := some 34, op := Op.fieldAddr 28 (Operand.tmp 3) 3, type := 0, pos := "l6_coercions.go:248", after := #[{ on := 8, ground := Ground.guard }], guard := some (8, true) }
def oLa10 : Oper := { dst := some 35, op := Op.load 26 (Operand.tmp 34), type := 26, pos := "l6_coercions.go:248", after := #[{ on := 9, ground := Ground.data }, { on := 8, ground := Ground.guard }], guard := some (8, true) }
def oLa11 : Oper := { dst := some 36, op := Op.indexAddr 26 (Operand.tmp 35) (Operand.const (Value.int IntKind.i64 0)), type := 0, pos := "l6_coercions.go:248", after := #[{ on := 10, ground := Ground.data }, { on := 8, ground := Ground.guard }], guard := some (8, true) }
def oLa12 : Oper := { dst := some 37, op := Op.load 28 (Operand.tmp 36), type := 28, pos := "l6_coercions.go:248", after := #[{ on := 11, ground := Ground.data }, { on := 8, ground := Ground.guard }], guard := some (8, true) }
def oLa13 : Oper := { dst := some 38, op := Op.fieldAddr 38 (Operand.tmp 5) 1, type := 0, pos := "l6_coercions.go:248", after := #[{ on := 8, ground := Ground.guard }], guard := some (8, true) }
def oLa14 : Oper := { dst := some 39, op := Op.load 36 (Operand.tmp 38), type := 36, pos := "l6_coercions.go:248", after := #[{ on := 13, ground := Ground.data }, { on := 8, ground := Ground.guard }], guard := some (8, true) }
def oLa15 : Oper := { dst := some 40, op := Op.indexAddr 36 (Operand.tmp 39) (Operand.const (Value.int IntKind.i64 0)), type := 0, pos := "l6_coercions.go:248", after := #[{ on := 14, ground := Ground.data }, { on := 8, ground := Ground.guard }], guard := some (8, true) }
def oLa16 : Oper := { dst := some 41, op := Op.load 38 (Operand.tmp 40), type := 38, pos := "l6_coercions.go:248", after := #[{ on := 15, ground := Ground.data }, { on := 8, ground := Ground.guard }], guard := some (8, true) }
def oLa17 : Oper := { dst := some 42, op := Op.fieldAddr 38 (Operand.tmp 4) 1, type := 0, pos := "l6_coercions.go:248", after := #[{ on := 8, ground := Ground.guard }], guard := some (8, true) }
def oLa18 : Oper := { dst := some 43, op := Op.load 36 (Operand.tmp 42), type := 36, pos := "l6_coercions.go:248", after := #[{ on := 17, ground := Ground.data }, { on := 8, ground := Ground.guard }], guard := some (8, true) }
def oLa19 : Oper := { dst := some 44, op := Op.indexAddr 36 (Operand.tmp 43) (Operand.const (Value.int IntKind.i64 0)), type := 0, pos := "l6_coercions.go:248", after := #[{ on := 18, ground := Ground.data }, { on := 8, ground := Ground.guard }], guard := some (8, true) }
def oLa20 : Oper := { dst := some 45, op := Op.load 38 (Operand.tmp 44), type := 38, pos := "l6_coercions.go:248", after := #[{ on := 19, ground := Ground.data }, { on := 8, ground := Ground.guard }], guard := some (8, true) }
def oLa21 : Oper := { dst := some 46, op := Op.call { callee := Callee.value (Operand.func 40), args := #[Operand.tmp 37, Operand.tmp 41, Operand.tmp 45], argTypes := #[28, 38, 38] }, type := 4, pos := "l6_coercions.go:248", after := #[{ on := 12, ground := Ground.data }, { on := 16, ground := Ground.data }, { on := 20, ground := Ground.data }, { on := 8, ground := Ground.chain }, { on := 8, ground := Ground.guard }], guard := some (8, true) }
def oLa22 : Oper := { dst := some 47, op := Op.pick (Operand.tmp 33) (Operand.tmp 46) (Operand.const (Value.bool false)), type := 4, pos := "l6_coercions.go:248", after := #[{ on := 8, ground := Ground.data }, { on := 21, ground := Ground.data }], guard := none }
def oLa23 : Oper := { dst := some 48, op := Op.move (Operand.tmp 47), type := 4, pos := "l6_coercions.go:248", after := #[{ on := 22, ground := Ground.data }, { on := 21, ground := Ground.chain }], guard := none }
def oLa24 : Oper := { dst := some 49, op := Op.fieldAddr 28 (Operand.tmp 3) 3, type := 0, pos := "l6_coercions.go:248", after := #[{ on := 23, ground := Ground.guard }], guard := some (23, true) }
def oLa25 : Oper := { dst := some 50, op := Op.load 26 (Operand.tmp 49), type := 26, pos := "l6_coercions.go:248", after := #[{ on := 24, ground := Ground.data }, { on := 23, ground := Ground.guard }], guard := some (23, true) }
def oLa26 : Oper := { dst := some 51, op := Op.indexAddr 26 (Operand.tmp 50) (Operand.const (Value.int IntKind.i64 1)), type := 0, pos := "l6_coercions.go:248", after := #[{ on := 25, ground := Ground.data }, { on := 23, ground := Ground.guard }], guard := some (23, true) }
def oLa27 : Oper := { dst := some 52, op := Op.load 28 (Operand.tmp 51), type := 28, pos := "l6_coercions.go:248", after := #[{ on := 26, ground := Ground.data }, { on := 23, ground := Ground.guard }], guard := some (23, true) }
def oLa28 : Oper := { dst := some 53, op := Op.fieldAddr 38 (Operand.tmp 4) 1, type := 0, pos := "l6_coercions.go:248", after := #[{ on := 23, ground := Ground.guard }], guard := some (23, true) }
def oLa29 : Oper := { dst := some 54, op := Op.load 36 (Operand.tmp 53), type := 36, pos := "l6_coercions.go:248", after := #[{ on := 28, ground := Ground.data }, { on := 23, ground := Ground.guard }], guard := some (23, true) }
def oLa30 : Oper := { dst := some 55, op := Op.indexAddr 36 (Operand.tmp 54) (Operand.const (Value.int IntKind.i64 1)), type := 0, pos := "l6_coercions.go:248", after := #[{ on := 29, ground := Ground.data }, { on := 23, ground := Ground.guard }], guard := some (23, true) }
def oLa31 : Oper := { dst := some 56, op := Op.load 38 (Operand.tmp 55), type := 38, pos := "l6_coercions.go:248", after := #[{ on := 30, ground := Ground.data }, { on := 23, ground := Ground.guard }], guard := some (23, true) }
def oLa32 : Oper := { dst := some 57, op := Op.fieldAddr 38 (Operand.tmp 5) 1, type := 0, pos := "l6_coercions.go:248", after := #[{ on := 23, ground := Ground.guard }], guard := some (23, true) }
def oLa33 : Oper := { dst := some 58, op := Op.load 36 (Operand.tmp 57), type := 36, pos := "l6_coercions.go:248", after := #[{ on := 32, ground := Ground.data }, { on := 23, ground := Ground.guard }], guard := some (23, true) }
def oLa34 : Oper := { dst := some 59, op := Op.indexAddr 36 (Operand.tmp 58) (Operand.const (Value.int IntKind.i64 1)), type := 0, pos := "l6_coercions.go:248", after := #[{ on := 33, ground := Ground.data }, { on := 23, ground := Ground.guard }], guard := some (23, true) }
def oLa35 : Oper := { dst := some 60, op := Op.load 38 (Operand.tmp 59), type := 38, pos := "l6_coercions.go:248", after := #[{ on := 34, ground := Ground.data }, { on := 23, ground := Ground.guard }], guard := some (23, true) }
def oLa36 : Oper := { dst := some 61, op := Op.call { callee := Callee.value (Operand.func 40), args := #[Operand.tmp 52, Operand.tmp 56, Operand.tmp 60], argTypes := #[28, 38, 38] }, type := 4, pos := "l6_coercions.go:248", after := #[{ on := 27, ground := Ground.data }, { on := 31, ground := Ground.data }, { on := 35, ground := Ground.data }, { on := 23, ground := Ground.chain }, { on := 23, ground := Ground.guard }], guard := some (23, true) }
def oLa37 : Oper := { dst := some 62, op := Op.pick (Operand.tmp 48) (Operand.tmp 61) (Operand.const (Value.bool false)), type := 4, pos := "l6_coercions.go:248", after := #[{ on := 23, ground := Ground.data }, { on := 36, ground := Ground.data }], guard := none }
def oLa38 : Oper := { dst := some 6, op := Op.assign (Operand.tmp 62), type := 4, pos := "l6_coercions.go:248", after := #[{ on := 37, ground := Ground.data }, { on := 36, ground := Ground.chain }, { on := 0, ground := Ground.phase }, { on := 1, ground := Ground.phase }, { on := 2, ground := Ground.phase }, { on := 3, ground := Ground.phase }, { on := 4, ground := Ground.phase }, { on := 5, ground := Ground.phase }, { on := 6, ground := Ground.phase }, { on := 7, ground := Ground.phase }, { on := 8, ground := Ground.phase }, { on := 9, ground := Ground.phase }, { on := 10, ground := Ground.phase }, { on := 11, ground := Ground.phase }, { on := 12, ground := Ground.phase }, { on := 13, ground := Ground.phase }, { on := 14, ground := Ground.phase }, { on := 15, ground := Ground.phase }, { on := 16, ground := Ground.phase }, { on := 17, ground := Ground.phase }, { on := 18, ground := Ground.phase }, { on := 19, ground := Ground.phase }, { on := 20, ground := Ground.phase }, { on := 21, ground := Ground.phase }, { on := 22, ground := Ground.phase }, { on := 23, ground := Ground.phase }, { on := 24, ground := Ground.phase }, { on := 25, ground := Ground.phase }, { on := 26, ground := Ground.phase }, { on := 27, ground := Ground.phase }, { on := 28, ground := Ground.phase }, { on := 29, ground := Ground.phase }, { on := 30, ground := Ground.phase }, { on := 31, ground := Ground.phase }, { on := 32, ground := Ground.phase }, { on := 33, ground := Ground.phase }, { on := 34, ground := Ground.phase }, { on := 35, ground := Ground.phase }, { on := 36, ground := Ground.phase }, { on := 37, ground := Ground.phase }], guard := none }

theorem leaf_ldimpl1_0 (g fk tk : Int) (h0 : (fk == g) = true) : (tk == g : Bool) = (fk == g && tk == g) := by
  simp_all

theorem leaf_ldimpl1_1 (g fk tk : Int) (h0 : (fk == g) = false) : (false : Bool) = (fk == g && tk == g) := by
  simp_all

theorem leaf_ldimpl6_2 (g fk tk : Int) : (fk == g : Bool) = (fk == g) := by
  simp_all

theorem leaf_ldimpl2i_3 (fk tk : Int) (rr2 : Bool) (h0 : (fk == 4) = false) : (false : Bool) = (fk == 4 && tk == 4 && rr2) := by
  simp_all

theorem leaf_ldimpl2j_4 (fk tk : Int) (rr2 : Bool) (h0 : (fk == 4) = true) (h1 : (tk == 4) = false) : (false : Bool) = (fk == 4 && tk == 4 && rr2) := by
  simp_all

theorem leaf_ldimpl2k_5 (r0 r1 : Bool) (h0 : (r0) = true) : (r1 : Bool) = (r0 && r1) := by
  simp_all

theorem leaf_ldimpl2k_6 (r0 r1 : Bool) (h0 : (r0) = false) : (false : Bool) = (r0 && r1) := by
  simp_all

set_option maxHeartbeats 4000000 in
theorem implLd1 (g l fk tk : Int) (fa ta : Option Addr) (fn fq tn tq : Nat) (a : Option Addr) (n q : Nat) (w : World) :
    Calls Try.prog 40 #[.agg #[.int .i64 1, .int .i64 g, .int .i64 l, .slice a n q], .agg #[.int .i64 fk, .slice fa fn fq], .agg #[.int .i64 tk, .slice ta tn tq]] w fun e w' => e = .returned (.bool (fk == g && tk == g)) ∧ Below w.heap.size w w' := by
  obtain ⟨rr, hrr⟩ : ∃ rr0 : Bool, (fk == g && tk == g) = rr0 := ⟨_, rfl⟩
  rw [hrr]
  have HT := Lib.hid hrr
  clear hrr
  go_enter Try.func40, Try.ntmps40
  rcases Bool.eq_false_or_eq_true (fk == g) with q1 | q1
  · skip
    have nq1 : (fk != g) = false := by simp only [bne, q1]; rfl
    go_wp2_with fail
    refine bodyPost_ret (v := .bool (tk == g)) (by simp [results, Try.results40, go_sem, bne]) rfl ?_
    exact ⟨ret_bool ((leaf_ldimpl1_0 g fk tk q1).trans HT.out), bal3⟩
  · skip
    have nq1 : (fk != g) = true := by simp only [bne, q1]; rfl
    go_wp2_with fail
    refine bodyPost_ret (v := .bool (false)) (by simp [results, Try.results40, go_sem, bne]) rfl ?_
    exact ⟨ret_bool ((leaf_ldimpl1_1 g fk tk q1).trans HT.out), bal3⟩
set_option maxHeartbeats 4000000 in
theorem implLd6 (g l fk tk : Int) (fa ta : Option Addr) (fn fq tn tq : Nat) (a : Option Addr) (n q : Nat) (w : World) :
    Calls Try.prog 40 #[.agg #[.int .i64 6, .int .i64 g, .int .i64 l, .slice a n q], .agg #[.int .i64 fk, .slice fa fn fq], .agg #[.int .i64 tk, .slice ta tn tq]] w fun e w' => e = .returned (.bool (fk == g)) ∧ Below w.heap.size w w' := by
  obtain ⟨rr, hrr⟩ : ∃ rr0 : Bool, (fk == g) = rr0 := ⟨_, rfl⟩
  rw [hrr]
  have HT := Lib.hid hrr
  clear hrr
  go_enter Try.func40, Try.ntmps40
  go_wp2_with fail
  refine bodyPost_ret (v := .bool (fk == g)) (by simp [results, Try.results40, go_sem, bne]) rfl ?_
  exact ⟨ret_bool ((leaf_ldimpl6_2 g fk tk ).trans HT.out), bal3⟩
set_option maxHeartbeats 4000000 in
theorem implLd2i (g l fk tk : Int) (fa ta : Option Addr) (fn fq tn tq : Nat) (a : Option Addr) (n q : Nat) (rr2 : Bool) (w : World) (z1 : (fk == 4) = false) :
    Calls Try.prog 40 #[.agg #[.int .i64 2, .int .i64 g, .int .i64 l, .slice a n q], .agg #[.int .i64 fk, .slice fa fn fq], .agg #[.int .i64 tk, .slice ta tn tq]] w fun e w' => e = .returned (.bool (fk == 4 && tk == 4 && rr2)) ∧ Below w.heap.size w w' := by
  obtain ⟨rr, hrr⟩ : ∃ rr0 : Bool, (fk == 4 && tk == 4 && rr2) = rr0 := ⟨_, rfl⟩
  rw [hrr]
  have HT := Lib.hid hrr
  clear hrr
  have nz1 : (fk != 4) = true := by simp only [bne, z1]; rfl
  go_enter Try.func40, Try.ntmps40
  go_wp2_with fail
  have s0_ : (World.alloc (World.alloc (World.alloc w (Obj.cells #[.int .i64 2, .int .i64 g, .int .i64 l, .slice a n q] 28)) (Obj.cells #[.int .i64 fk, .slice fa fn fq] 38)) (Obj.cells #[.int .i64 tk, .slice ta tn tq] 38)).cell? ⟨w.heap.size + 1, 0, none⟩ = some (.int .i64 fk) := bcell bal1 (cell_new (by simp) 0)
  refine wp_region_noPanic ?_
  refine wp_region_held_drew (S := fun w' => w'.cell? ⟨w.heap.size + 1, 0, none⟩ = some (.int .i64 fk)) (by kernel_rfl) ?_ (fun hHeld0 => ?_)
  · exact dcell (s0_)
  refine wpAnyH_take (i := 0) (oi := oLa0) (v := .pointer (some ⟨w.heap.size + 1, 0, none⟩)) rfl (by kernel_rfl) (by kernel_rfl) (by kernel_rfl) (fun _ _ _ h => h) (Or.inl ⟨by rfl, ?_⟩) hHeld0 ?_
  · intro w' hSw; (try dsimp only at hSw); dsimp only [oLa0]; go_simp
  (try simp only [oLa0, Act.put, List.setIfInBounds_toArray, List.set_cons_zero, List.set_cons_succ])
  refine wpAnyH_take (i := 1) (oi := oLa1) (v := .int .i64 fk) rfl (by kernel_rfl) (by kernel_rfl) (by kernel_rfl) (fun _ _ _ h => h) (Or.inl ⟨by rfl, ?_⟩) hHeld0 ?_
  · intro w' hSw; (try dsimp only at hSw); dsimp only [oLa1]; go_simp
  (try simp only [oLa1, Act.put, List.setIfInBounds_toArray, List.set_cons_zero, List.set_cons_succ])
  refine wpAnyH_take (i := 2) (oi := oLa2) (v := .bool false) rfl (by kernel_rfl) (by kernel_rfl) (by kernel_rfl) (fun _ _ _ h => h) (Or.inl ⟨by rfl, ?_⟩) hHeld0 ?_
  · intro w' hSw; (try dsimp only at hSw); dsimp only [oLa2]; go_simp
  (try simp only [oLa2, Act.put, List.setIfInBounds_toArray, List.set_cons_zero, List.set_cons_succ])
  refine wpAnyH_take (i := 3) (oi := oLa3) (v := .bool false) rfl (by kernel_rfl) (by kernel_rfl) (by kernel_rfl) (fun _ _ _ h => h) (Or.inl ⟨by rfl, ?_⟩) hHeld0 ?_
  · intro w' hSw; (try dsimp only at hSw); dsimp only [oLa3]; go_simp
  (try simp only [oLa3, Act.put, List.setIfInBounds_toArray, List.set_cons_zero, List.set_cons_succ])
  refine wpAnyH_take (i := 4) (oi := oLa4) (v := undef) rfl (by kernel_rfl) (by kernel_rfl) (by kernel_rfl) (fun _ _ _ h => h) (Or.inr ⟨by rfl, rfl⟩) hHeld0 ?_
  (try simp only [oLa4, Act.put, List.setIfInBounds_toArray, List.set_cons_zero, List.set_cons_succ])
  refine wpAnyH_take (i := 5) (oi := oLa5) (v := undef) rfl (by kernel_rfl) (by kernel_rfl) (by kernel_rfl) (fun _ _ _ h => h) (Or.inr ⟨by rfl, rfl⟩) hHeld0 ?_
  (try simp only [oLa5, Act.put, List.setIfInBounds_toArray, List.set_cons_zero, List.set_cons_succ])
  refine wpAnyH_take (i := 6) (oi := oLa6) (v := undef) rfl (by kernel_rfl) (by kernel_rfl) (by kernel_rfl) (fun _ _ _ h => h) (Or.inr ⟨by rfl, rfl⟩) hHeld0 ?_
  (try simp only [oLa6, Act.put, List.setIfInBounds_toArray, List.set_cons_zero, List.set_cons_succ])
  refine wpAnyH_take (i := 7) (oi := oLa7) (v := .bool false) rfl (by kernel_rfl) (by kernel_rfl) (by kernel_rfl) (fun _ _ _ h => h) (Or.inl ⟨by rfl, ?_⟩) hHeld0 ?_
  · intro w' hSw; (try dsimp only at hSw); dsimp only [oLa7]; go_simp
  (try simp only [oLa7, Act.put, List.setIfInBounds_toArray, List.set_cons_zero, List.set_cons_succ])
  refine wpAnyH_take (i := 8) (oi := oLa8) (v := .bool false) rfl (by kernel_rfl) (by kernel_rfl) (by kernel_rfl) (fun _ _ _ h => h) (Or.inl ⟨by rfl, ?_⟩) hHeld0 ?_
  · intro w' hSw; (try dsimp only at hSw); dsimp only [oLa8]; go_simp
  (try simp only [oLa8, Act.put, List.setIfInBounds_toArray, List.set_cons_zero, List.set_cons_succ])
  refine wpAnyH_take (i := 9) (oi := oLa9) (v := undef) rfl (by kernel_rfl) (by kernel_rfl) (by kernel_rfl) (fun _ _ _ h => h) (Or.inr ⟨by rfl, rfl⟩) hHeld0 ?_
  (try simp only [oLa9, Act.put, List.setIfInBounds_toArray, List.set_cons_zero, List.set_cons_succ])
  refine wpAnyH_take (i := 10) (oi := oLa10) (v := undef) rfl (by kernel_rfl) (by kernel_rfl) (by kernel_rfl) (fun _ _ _ h => h) (Or.inr ⟨by rfl, rfl⟩) hHeld0 ?_
  (try simp only [oLa10, Act.put, List.setIfInBounds_toArray, List.set_cons_zero, List.set_cons_succ])
  refine wpAnyH_take (i := 11) (oi := oLa11) (v := undef) rfl (by kernel_rfl) (by kernel_rfl) (by kernel_rfl) (fun _ _ _ h => h) (Or.inr ⟨by rfl, rfl⟩) hHeld0 ?_
  (try simp only [oLa11, Act.put, List.setIfInBounds_toArray, List.set_cons_zero, List.set_cons_succ])
  refine wpAnyH_take (i := 12) (oi := oLa12) (v := undef) rfl (by kernel_rfl) (by kernel_rfl) (by kernel_rfl) (fun _ _ _ h => h) (Or.inr ⟨by rfl, rfl⟩) hHeld0 ?_
  (try simp only [oLa12, Act.put, List.setIfInBounds_toArray, List.set_cons_zero, List.set_cons_succ])
  refine wpAnyH_take (i := 13) (oi := oLa13) (v := undef) rfl (by kernel_rfl) (by kernel_rfl) (by kernel_rfl) (fun _ _ _ h => h) (Or.inr ⟨by rfl, rfl⟩) hHeld0 ?_
  (try simp only [oLa13, Act.put, List.setIfInBounds_toArray, List.set_cons_zero, List.set_cons_succ])
  refine wpAnyH_take (i := 14) (oi := oLa14) (v := undef) rfl (by kernel_rfl) (by kernel_rfl) (by kernel_rfl) (fun _ _ _ h => h) (Or.inr ⟨by rfl, rfl⟩) hHeld0 ?_
  (try simp only [oLa14, Act.put, List.setIfInBounds_toArray, List.set_cons_zero, List.set_cons_succ])
  refine wpAnyH_take (i := 15) (oi := oLa15) (v := undef) rfl (by kernel_rfl) (by kernel_rfl) (by kernel_rfl) (fun _ _ _ h => h) (Or.inr ⟨by rfl, rfl⟩) hHeld0 ?_
  (try simp only [oLa15, Act.put, List.setIfInBounds_toArray, List.set_cons_zero, List.set_cons_succ])
  refine wpAnyH_take (i := 16) (oi := oLa16) (v := undef) rfl (by kernel_rfl) (by kernel_rfl) (by kernel_rfl) (fun _ _ _ h => h) (Or.inr ⟨by rfl, rfl⟩) hHeld0 ?_
  (try simp only [oLa16, Act.put, List.setIfInBounds_toArray, List.set_cons_zero, List.set_cons_succ])
  refine wpAnyH_take (i := 17) (oi := oLa17) (v := undef) rfl (by kernel_rfl) (by kernel_rfl) (by kernel_rfl) (fun _ _ _ h => h) (Or.inr ⟨by rfl, rfl⟩) hHeld0 ?_
  (try simp only [oLa17, Act.put, List.setIfInBounds_toArray, List.set_cons_zero, List.set_cons_succ])
  refine wpAnyH_take (i := 18) (oi := oLa18) (v := undef) rfl (by kernel_rfl) (by kernel_rfl) (by kernel_rfl) (fun _ _ _ h => h) (Or.inr ⟨by rfl, rfl⟩) hHeld0 ?_
  (try simp only [oLa18, Act.put, List.setIfInBounds_toArray, List.set_cons_zero, List.set_cons_succ])
  refine wpAnyH_take (i := 19) (oi := oLa19) (v := undef) rfl (by kernel_rfl) (by kernel_rfl) (by kernel_rfl) (fun _ _ _ h => h) (Or.inr ⟨by rfl, rfl⟩) hHeld0 ?_
  (try simp only [oLa19, Act.put, List.setIfInBounds_toArray, List.set_cons_zero, List.set_cons_succ])
  refine wpAnyH_take (i := 20) (oi := oLa20) (v := undef) rfl (by kernel_rfl) (by kernel_rfl) (by kernel_rfl) (fun _ _ _ h => h) (Or.inr ⟨by rfl, rfl⟩) hHeld0 ?_
  (try simp only [oLa20, Act.put, List.setIfInBounds_toArray, List.set_cons_zero, List.set_cons_succ])
  refine wpAnyH_take (i := 21) (oi := oLa21) (v := undef) rfl (by kernel_rfl) (by kernel_rfl) (by kernel_rfl) (fun _ _ _ h => h) (Or.inr ⟨by rfl, rfl⟩) hHeld0 ?_
  (try simp only [oLa21, Act.put, List.setIfInBounds_toArray, List.set_cons_zero, List.set_cons_succ])
  refine wpAnyH_take (i := 22) (oi := oLa22) (v := .bool false) rfl (by kernel_rfl) (by kernel_rfl) (by kernel_rfl) (fun _ _ _ h => h) (Or.inl ⟨by rfl, ?_⟩) hHeld0 ?_
  · intro w' hSw; (try dsimp only at hSw); dsimp only [oLa22]; go_simp
  (try simp only [oLa22, Act.put, List.setIfInBounds_toArray, List.set_cons_zero, List.set_cons_succ])
  refine wpAnyH_take (i := 23) (oi := oLa23) (v := .bool false) rfl (by kernel_rfl) (by kernel_rfl) (by kernel_rfl) (fun _ _ _ h => h) (Or.inl ⟨by rfl, ?_⟩) hHeld0 ?_
  · intro w' hSw; (try dsimp only at hSw); dsimp only [oLa23]; go_simp
  (try simp only [oLa23, Act.put, List.setIfInBounds_toArray, List.set_cons_zero, List.set_cons_succ])
  refine wpAnyH_take (i := 24) (oi := oLa24) (v := undef) rfl (by kernel_rfl) (by kernel_rfl) (by kernel_rfl) (fun _ _ _ h => h) (Or.inr ⟨by rfl, rfl⟩) hHeld0 ?_
  (try simp only [oLa24, Act.put, List.setIfInBounds_toArray, List.set_cons_zero, List.set_cons_succ])
  refine wpAnyH_take (i := 25) (oi := oLa25) (v := undef) rfl (by kernel_rfl) (by kernel_rfl) (by kernel_rfl) (fun _ _ _ h => h) (Or.inr ⟨by rfl, rfl⟩) hHeld0 ?_
  (try simp only [oLa25, Act.put, List.setIfInBounds_toArray, List.set_cons_zero, List.set_cons_succ])
  refine wpAnyH_take (i := 26) (oi := oLa26) (v := undef) rfl (by kernel_rfl) (by kernel_rfl) (by kernel_rfl) (fun _ _ _ h => h) (Or.inr ⟨by rfl, rfl⟩) hHeld0 ?_
  (try simp only [oLa26, Act.put, List.setIfInBounds_toArray, List.set_cons_zero, List.set_cons_succ])
  refine wpAnyH_take (i := 27) (oi := oLa27) (v := undef) rfl (by kernel_rfl) (by kernel_rfl) (by kernel_rfl) (fun _ _ _ h => h) (Or.inr ⟨by rfl, rfl⟩) hHeld0 ?_
  (try simp only [oLa27, Act.put, List.setIfInBounds_toArray, List.set_cons_zero, List.set_cons_succ])
  refine wpAnyH_take (i := 28) (oi := oLa28) (v := undef) rfl (by kernel_rfl) (by kernel_rfl) (by kernel_rfl) (fun _ _ _ h => h) (Or.inr ⟨by rfl, rfl⟩) hHeld0 ?_
  (try simp only [oLa28, Act.put, List.setIfInBounds_toArray, List.set_cons_zero, List.set_cons_succ])
  refine wpAnyH_take (i := 29) (oi := oLa29) (v := undef) rfl (by kernel_rfl) (by kernel_rfl) (by kernel_rfl) (fun _ _ _ h => h) (Or.inr ⟨by rfl, rfl⟩) hHeld0 ?_
  (try simp only [oLa29, Act.put, List.setIfInBounds_toArray, List.set_cons_zero, List.set_cons_succ])
  refine wpAnyH_take (i := 30) (oi := oLa30) (v := undef) rfl (by kernel_rfl) (by kernel_rfl) (by kernel_rfl) (fun _ _ _ h => h) (Or.inr ⟨by rfl, rfl⟩) hHeld0 ?_
  (try simp only [oLa30, Act.put, List.setIfInBounds_toArray, List.set_cons_zero, List.set_cons_succ])
  refine wpAnyH_take (i := 31) (oi := oLa31) (v := undef) rfl (by kernel_rfl) (by kernel_rfl) (by kernel_rfl) (fun _ _ _ h => h) (Or.inr ⟨by rfl, rfl⟩) hHeld0 ?_
  (try simp only [oLa31, Act.put, List.setIfInBounds_toArray, List.set_cons_zero, List.set_cons_succ])
  refine wpAnyH_take (i := 32) (oi := oLa32) (v := undef) rfl (by kernel_rfl) (by kernel_rfl) (by kernel_rfl) (fun _ _ _ h => h) (Or.inr ⟨by rfl, rfl⟩) hHeld0 ?_
  (try simp only [oLa32, Act.put, List.setIfInBounds_toArray, List.set_cons_zero, List.set_cons_succ])
  refine wpAnyH_take (i := 33) (oi := oLa33) (v := undef) rfl (by kernel_rfl) (by kernel_rfl) (by kernel_rfl) (fun _ _ _ h => h) (Or.inr ⟨by rfl, rfl⟩) hHeld0 ?_
  (try simp only [oLa33, Act.put, List.setIfInBounds_toArray, List.set_cons_zero, List.set_cons_succ])
  refine wpAnyH_take (i := 34) (oi := oLa34) (v := undef) rfl (by kernel_rfl) (by kernel_rfl) (by kernel_rfl) (fun _ _ _ h => h) (Or.inr ⟨by rfl, rfl⟩) hHeld0 ?_
  (try simp only [oLa34, Act.put, List.setIfInBounds_toArray, List.set_cons_zero, List.set_cons_succ])
  refine wpAnyH_take (i := 35) (oi := oLa35) (v := undef) rfl (by kernel_rfl) (by kernel_rfl) (by kernel_rfl) (fun _ _ _ h => h) (Or.inr ⟨by rfl, rfl⟩) hHeld0 ?_
  (try simp only [oLa35, Act.put, List.setIfInBounds_toArray, List.set_cons_zero, List.set_cons_succ])
  refine wpAnyH_take (i := 36) (oi := oLa36) (v := undef) rfl (by kernel_rfl) (by kernel_rfl) (by kernel_rfl) (fun _ _ _ h => h) (Or.inr ⟨by rfl, rfl⟩) hHeld0 ?_
  (try simp only [oLa36, Act.put, List.setIfInBounds_toArray, List.set_cons_zero, List.set_cons_succ])
  refine wpAnyH_take (i := 37) (oi := oLa37) (v := .bool false) rfl (by kernel_rfl) (by kernel_rfl) (by kernel_rfl) (fun _ _ _ h => h) (Or.inl ⟨by rfl, ?_⟩) hHeld0 ?_
  · intro w' hSw; (try dsimp only at hSw); dsimp only [oLa37]; go_simp
  (try simp only [oLa37, Act.put, List.setIfInBounds_toArray, List.set_cons_zero, List.set_cons_succ])
  refine wpAnyH_take (i := 38) (oi := oLa38) (v := .bool false) rfl (by kernel_rfl) (by kernel_rfl) (by kernel_rfl) (fun _ _ _ h => h) (Or.inl ⟨by rfl, ?_⟩) hHeld0 ?_
  · intro w' hSw; (try dsimp only at hSw); dsimp only [oLa38]; go_simp
  (try simp only [oLa38, Act.put, List.setIfInBounds_toArray, List.set_cons_zero, List.set_cons_succ])
  refine wpAnyH_done (by kernel_rfl) ?_ _
  refine NoPanic.normal ?_
  clear hHeld0 s0_
  go_wp2_with fail
  refine bodyPost_ret (v := .bool (false)) (by simp [results, Try.results40, go_sem, bne]) rfl ?_
  exact ⟨ret_bool ((leaf_ldimpl2i_3 fk tk rr2 z1).trans HT.out), bal3.drew⟩
set_option maxHeartbeats 4000000 in
theorem implLd2j (g l fk tk : Int) (fa ta : Option Addr) (fn fq tn tq : Nat) (a : Option Addr) (n q : Nat) (rr2 : Bool) (w : World) (z1 : (fk == 4) = true) (z2 : (tk == 4) = false) :
    Calls Try.prog 40 #[.agg #[.int .i64 2, .int .i64 g, .int .i64 l, .slice a n q], .agg #[.int .i64 fk, .slice fa fn fq], .agg #[.int .i64 tk, .slice ta tn tq]] w fun e w' => e = .returned (.bool (fk == 4 && tk == 4 && rr2)) ∧ Below w.heap.size w w' := by
  obtain ⟨rr, hrr⟩ : ∃ rr0 : Bool, (fk == 4 && tk == 4 && rr2) = rr0 := ⟨_, rfl⟩
  rw [hrr]
  have HT := Lib.hid hrr
  clear hrr
  have nz1 : (fk != 4) = false := by simp only [bne, z1]; rfl
  have nz2 : (tk != 4) = true := by simp only [bne, z2]; rfl
  go_enter Try.func40, Try.ntmps40
  go_wp2_with fail
  have s0_ : (World.alloc (World.alloc (World.alloc w (Obj.cells #[.int .i64 2, .int .i64 g, .int .i64 l, .slice a n q] 28)) (Obj.cells #[.int .i64 fk, .slice fa fn fq] 38)) (Obj.cells #[.int .i64 tk, .slice ta tn tq] 38)).cell? ⟨w.heap.size + 1, 0, none⟩ = some (.int .i64 fk) := bcell bal1 (cell_new (by simp) 0)
  have s1_ : (World.alloc (World.alloc (World.alloc w (Obj.cells #[.int .i64 2, .int .i64 g, .int .i64 l, .slice a n q] 28)) (Obj.cells #[.int .i64 fk, .slice fa fn fq] 38)) (Obj.cells #[.int .i64 tk, .slice ta tn tq] 38)).cell? ⟨w.heap.size + 1 + 1, 0, none⟩ = some (.int .i64 tk) := cell_new (by simp) 0
  refine wp_region_noPanic ?_
  refine wp_region_held_drew (S := fun w' => w'.cell? ⟨w.heap.size + 1, 0, none⟩ = some (.int .i64 fk) ∧ w'.cell? ⟨w.heap.size + 1 + 1, 0, none⟩ = some (.int .i64 tk)) (by kernel_rfl) ?_ (fun hHeld0 => ?_)
  · exact ⟨dcell (s0_), dcell (s1_)⟩
  refine wpAnyH_take (i := 0) (oi := oLa0) (v := .pointer (some ⟨w.heap.size + 1, 0, none⟩)) rfl (by kernel_rfl) (by kernel_rfl) (by kernel_rfl) (fun _ _ _ h => h) (Or.inl ⟨by rfl, ?_⟩) hHeld0 ?_
  · intro w' hSw; (try dsimp only at hSw); dsimp only [oLa0]; go_simp
  (try simp only [oLa0, Act.put, List.setIfInBounds_toArray, List.set_cons_zero, List.set_cons_succ])
  refine wpAnyH_take (i := 1) (oi := oLa1) (v := .int .i64 fk) rfl (by kernel_rfl) (by kernel_rfl) (by kernel_rfl) (fun _ _ _ h => h) (Or.inl ⟨by rfl, ?_⟩) hHeld0 ?_
  · intro w' hSw; (try dsimp only at hSw); dsimp only [oLa1]; go_simp
  (try simp only [oLa1, Act.put, List.setIfInBounds_toArray, List.set_cons_zero, List.set_cons_succ])
  refine wpAnyH_take (i := 2) (oi := oLa2) (v := .bool true) rfl (by kernel_rfl) (by kernel_rfl) (by kernel_rfl) (fun _ _ _ h => h) (Or.inl ⟨by rfl, ?_⟩) hHeld0 ?_
  · intro w' hSw; (try dsimp only at hSw); dsimp only [oLa2]; go_simp
  (try simp only [oLa2, Act.put, List.setIfInBounds_toArray, List.set_cons_zero, List.set_cons_succ])
  refine wpAnyH_take (i := 3) (oi := oLa3) (v := .bool true) rfl (by kernel_rfl) (by kernel_rfl) (by kernel_rfl) (fun _ _ _ h => h) (Or.inl ⟨by rfl, ?_⟩) hHeld0 ?_
  · intro w' hSw; (try dsimp only at hSw); dsimp only [oLa3]; go_simp
  (try simp only [oLa3, Act.put, List.setIfInBounds_toArray, List.set_cons_zero, List.set_cons_succ])
  refine wpAnyH_take (i := 4) (oi := oLa4) (v := .pointer (some ⟨w.heap.size + 1 + 1, 0, none⟩)) rfl (by kernel_rfl) (by kernel_rfl) (by kernel_rfl) (fun _ _ _ h => h) (Or.inl ⟨by rfl, ?_⟩) hHeld0 ?_
  · intro w' hSw; (try dsimp only at hSw); dsimp only [oLa4]; go_simp
  (try simp only [oLa4, Act.put, List.setIfInBounds_toArray, List.set_cons_zero, List.set_cons_succ])
  refine wpAnyH_take (i := 5) (oi := oLa5) (v := .int .i64 tk) rfl (by kernel_rfl) (by kernel_rfl) (by kernel_rfl) (fun _ _ _ h => h) (Or.inl ⟨by rfl, ?_⟩) hHeld0 ?_
  · intro w' hSw; (try dsimp only at hSw); dsimp only [oLa5]; go_simp
  (try simp only [oLa5, Act.put, List.setIfInBounds_toArray, List.set_cons_zero, List.set_cons_succ])
  refine wpAnyH_take (i := 6) (oi := oLa6) (v := .bool false) rfl (by kernel_rfl) (by kernel_rfl) (by kernel_rfl) (fun _ _ _ h => h) (Or.inl ⟨by rfl, ?_⟩) hHeld0 ?_
  · intro w' hSw; (try dsimp only at hSw); dsimp only [oLa6]; go_simp
  (try simp only [oLa6, Act.put, List.setIfInBounds_toArray, List.set_cons_zero, List.set_cons_succ])
  refine wpAnyH_take (i := 7) (oi := oLa7) (v := .bool false) rfl (by kernel_rfl) (by kernel_rfl) (by kernel_rfl) (fun _ _ _ h => h) (Or.inl ⟨by rfl, ?_⟩) hHeld0 ?_
  · intro w' hSw; (try dsimp only at hSw); dsimp only [oLa7]; go_simp
  (try simp only [oLa7, Act.put, List.setIfInBounds_toArray, List.set_cons_zero, List.set_cons_succ])
  refine wpAnyH_take (i := 8) (oi := oLa8) (v := .bool false) rfl (by kernel_rfl) (by kernel_rfl) (by kernel_rfl) (fun _ _ _ h => h) (Or.inl ⟨by rfl, ?_⟩) hHeld0 ?_
  · intro w' hSw; (try dsimp only at hSw); dsimp only [oLa8]; go_simp
  (try simp only [oLa8, Act.put, List.setIfInBounds_toArray, List.set_cons_zero, List.set_cons_succ])
  refine wpAnyH_take (i := 9) (oi := oLa9) (v := undef) rfl (by kernel_rfl) (by kernel_rfl) (by kernel_rfl) (fun _ _ _ h => h) (Or.inr ⟨by rfl, rfl⟩) hHeld0 ?_
  (try simp only [oLa9, Act.put, List.setIfInBounds_toArray, List.set_cons_zero, List.set_cons_succ])
  refine wpAnyH_take (i := 10) (oi := oLa10) (v := undef) rfl (by kernel_rfl) (by kernel_rfl) (by kernel_rfl) (fun _ _ _ h => h) (Or.inr ⟨by rfl, rfl⟩) hHeld0 ?_
  (try simp only [oLa10, Act.put, List.setIfInBounds_toArray, List.set_cons_zero, List.set_cons_succ])
  refine wpAnyH_take (i := 11) (oi := oLa11) (v := undef) rfl (by kernel_rfl) (by kernel_rfl) (by kernel_rfl) (fun _ _ _ h => h) (Or.inr ⟨by rfl, rfl⟩) hHeld0 ?_
  (try simp only [oLa11, Act.put, List.setIfInBounds_toArray, List.set_cons_zero, List.set_cons_succ])
  refine wpAnyH_take (i := 12) (oi := oLa12) (v := undef) rfl (by kernel_rfl) (by kernel_rfl) (by kernel_rfl) (fun _ _ _ h => h) (Or.inr ⟨by rfl, rfl⟩) hHeld0 ?_
  (try simp only [oLa12, Act.put, List.setIfInBounds_toArray, List.set_cons_zero, List.set_cons_succ])
  refine wpAnyH_take (i := 13) (oi := oLa13) (v := undef) rfl (by kernel_rfl) (by kernel_rfl) (by kernel_rfl) (fun _ _ _ h => h) (Or.inr ⟨by rfl, rfl⟩) hHeld0 ?_
  (try simp only [oLa13, Act.put, List.setIfInBounds_toArray, List.set_cons_zero, List.set_cons_succ])
  refine wpAnyH_take (i := 14) (oi := oLa14) (v := undef) rfl (by kernel_rfl) (by kernel_rfl) (by kernel_rfl) (fun _ _ _ h => h) (Or.inr ⟨by rfl, rfl⟩) hHeld0 ?_
  (try simp only [oLa14, Act.put, List.setIfInBounds_toArray, List.set_cons_zero, List.set_cons_succ])
  refine wpAnyH_take (i := 15) (oi := oLa15) (v := undef) rfl (by kernel_rfl) (by kernel_rfl) (by kernel_rfl) (fun _ _ _ h => h) (Or.inr ⟨by rfl, rfl⟩) hHeld0 ?_
  (try simp only [oLa15, Act.put, List.setIfInBounds_toArray, List.set_cons_zero, List.set_cons_succ])
  refine wpAnyH_take (i := 16) (oi := oLa16) (v := undef) rfl (by kernel_rfl) (by kernel_rfl) (by kernel_rfl) (fun _ _ _ h => h) (Or.inr ⟨by rfl, rfl⟩) hHeld0 ?_
  (try simp only [oLa16, Act.put, List.setIfInBounds_toArray, List.set_cons_zero, List.set_cons_succ])
  refine wpAnyH_take (i := 17) (oi := oLa17) (v := undef) rfl (by kernel_rfl) (by kernel_rfl) (by kernel_rfl) (fun _ _ _ h => h) (Or.inr ⟨by rfl, rfl⟩) hHeld0 ?_
  (try simp only [oLa17, Act.put, List.setIfInBounds_toArray, List.set_cons_zero, List.set_cons_succ])
  refine wpAnyH_take (i := 18) (oi := oLa18) (v := undef) rfl (by kernel_rfl) (by kernel_rfl) (by kernel_rfl) (fun _ _ _ h => h) (Or.inr ⟨by rfl, rfl⟩) hHeld0 ?_
  (try simp only [oLa18, Act.put, List.setIfInBounds_toArray, List.set_cons_zero, List.set_cons_succ])
  refine wpAnyH_take (i := 19) (oi := oLa19) (v := undef) rfl (by kernel_rfl) (by kernel_rfl) (by kernel_rfl) (fun _ _ _ h => h) (Or.inr ⟨by rfl, rfl⟩) hHeld0 ?_
  (try simp only [oLa19, Act.put, List.setIfInBounds_toArray, List.set_cons_zero, List.set_cons_succ])
  refine wpAnyH_take (i := 20) (oi := oLa20) (v := undef) rfl (by kernel_rfl) (by kernel_rfl) (by kernel_rfl) (fun _ _ _ h => h) (Or.inr ⟨by rfl, rfl⟩) hHeld0 ?_
  (try simp only [oLa20, Act.put, List.setIfInBounds_toArray, List.set_cons_zero, List.set_cons_succ])
  refine wpAnyH_take (i := 21) (oi := oLa21) (v := undef) rfl (by kernel_rfl) (by kernel_rfl) (by kernel_rfl) (fun _ _ _ h => h) (Or.inr ⟨by rfl, rfl⟩) hHeld0 ?_
  (try simp only [oLa21, Act.put, List.setIfInBounds_toArray, List.set_cons_zero, List.set_cons_succ])
  refine wpAnyH_take (i := 22) (oi := oLa22) (v := .bool false) rfl (by kernel_rfl) (by kernel_rfl) (by kernel_rfl) (fun _ _ _ h => h) (Or.inl ⟨by rfl, ?_⟩) hHeld0 ?_
  · intro w' hSw; (try dsimp only at hSw); dsimp only [oLa22]; go_simp
  (try simp only [oLa22, Act.put, List.setIfInBounds_toArray, List.set_cons_zero, List.set_cons_succ])
  refine wpAnyH_take (i := 23) (oi := oLa23) (v := .bool false) rfl (by kernel_rfl) (by kernel_rfl) (by kernel_rfl) (fun _ _ _ h => h) (Or.inl ⟨by rfl, ?_⟩) hHeld0 ?_
  · intro w' hSw; (try dsimp only at hSw); dsimp only [oLa23]; go_simp
  (try simp only [oLa23, Act.put, List.setIfInBounds_toArray, List.set_cons_zero, List.set_cons_succ])
  refine wpAnyH_take (i := 24) (oi := oLa24) (v := undef) rfl (by kernel_rfl) (by kernel_rfl) (by kernel_rfl) (fun _ _ _ h => h) (Or.inr ⟨by rfl, rfl⟩) hHeld0 ?_
  (try simp only [oLa24, Act.put, List.setIfInBounds_toArray, List.set_cons_zero, List.set_cons_succ])
  refine wpAnyH_take (i := 25) (oi := oLa25) (v := undef) rfl (by kernel_rfl) (by kernel_rfl) (by kernel_rfl) (fun _ _ _ h => h) (Or.inr ⟨by rfl, rfl⟩) hHeld0 ?_
  (try simp only [oLa25, Act.put, List.setIfInBounds_toArray, List.set_cons_zero, List.set_cons_succ])
  refine wpAnyH_take (i := 26) (oi := oLa26) (v := undef) rfl (by kernel_rfl) (by kernel_rfl) (by kernel_rfl) (fun _ _ _ h => h) (Or.inr ⟨by rfl, rfl⟩) hHeld0 ?_
  (try simp only [oLa26, Act.put, List.setIfInBounds_toArray, List.set_cons_zero, List.set_cons_succ])
  refine wpAnyH_take (i := 27) (oi := oLa27) (v := undef) rfl (by kernel_rfl) (by kernel_rfl) (by kernel_rfl) (fun _ _ _ h => h) (Or.inr ⟨by rfl, rfl⟩) hHeld0 ?_
  (try simp only [oLa27, Act.put, List.setIfInBounds_toArray, List.set_cons_zero, List.set_cons_succ])
  refine wpAnyH_take (i := 28) (oi := oLa28) (v := undef) rfl (by kernel_rfl) (by kernel_rfl) (by kernel_rfl) (fun _ _ _ h => h) (Or.inr ⟨by rfl, rfl⟩) hHeld0 ?_
  (try simp only [oLa28, Act.put, List.setIfInBounds_toArray, List.set_cons_zero, List.set_cons_succ])
  refine wpAnyH_take (i := 29) (oi := oLa29) (v := undef) rfl (by kernel_rfl) (by kernel_rfl) (by kernel_rfl) (fun _ _ _ h => h) (Or.inr ⟨by rfl, rfl⟩) hHeld0 ?_
  (try simp only [oLa29, Act.put, List.setIfInBounds_toArray, List.set_cons_zero, List.set_cons_succ])
  refine wpAnyH_take (i := 30) (oi := oLa30) (v := undef) rfl (by kernel_rfl) (by kernel_rfl) (by kernel_rfl) (fun _ _ _ h => h) (Or.inr ⟨by rfl, rfl⟩) hHeld0 ?_
  (try simp only [oLa30, Act.put, List.setIfInBounds_toArray, List.set_cons_zero, List.set_cons_succ])
  refine wpAnyH_take (i := 31) (oi := oLa31) (v := undef) rfl (by kernel_rfl) (by kernel_rfl) (by kernel_rfl) (fun _ _ _ h => h) (Or.inr ⟨by rfl, rfl⟩) hHeld0 ?_
  (try simp only [oLa31, Act.put, List.setIfInBounds_toArray, List.set_cons_zero, List.set_cons_succ])
  refine wpAnyH_take (i := 32) (oi := oLa32) (v := undef) rfl (by kernel_rfl) (by kernel_rfl) (by kernel_rfl) (fun _ _ _ h => h) (Or.inr ⟨by rfl, rfl⟩) hHeld0 ?_
  (try simp only [oLa32, Act.put, List.setIfInBounds_toArray, List.set_cons_zero, List.set_cons_succ])
  refine wpAnyH_take (i := 33) (oi := oLa33) (v := undef) rfl (by kernel_rfl) (by kernel_rfl) (by kernel_rfl) (fun _ _ _ h => h) (Or.inr ⟨by rfl, rfl⟩) hHeld0 ?_
  (try simp only [oLa33, Act.put, List.setIfInBounds_toArray, List.set_cons_zero, List.set_cons_succ])
  refine wpAnyH_take (i := 34) (oi := oLa34) (v := undef) rfl (by kernel_rfl) (by kernel_rfl) (by kernel_rfl) (fun _ _ _ h => h) (Or.inr ⟨by rfl, rfl⟩) hHeld0 ?_
  (try simp only [oLa34, Act.put, List.setIfInBounds_toArray, List.set_cons_zero, List.set_cons_succ])
  refine wpAnyH_take (i := 35) (oi := oLa35) (v := undef) rfl (by kernel_rfl) (by kernel_rfl) (by kernel_rfl) (fun _ _ _ h => h) (Or.inr ⟨by rfl, rfl⟩) hHeld0 ?_
  (try simp only [oLa35, Act.put, List.setIfInBounds_toArray, List.set_cons_zero, List.set_cons_succ])
  refine wpAnyH_take (i := 36) (oi := oLa36) (v := undef) rfl (by kernel_rfl) (by kernel_rfl) (by kernel_rfl) (fun _ _ _ h => h) (Or.inr ⟨by rfl, rfl⟩) hHeld0 ?_
  (try simp only [oLa36, Act.put, List.setIfInBounds_toArray, List.set_cons_zero, List.set_cons_succ])
  refine wpAnyH_take (i := 37) (oi := oLa37) (v := .bool false) rfl (by kernel_rfl) (by kernel_rfl) (by kernel_rfl) (fun _ _ _ h => h) (Or.inl ⟨by rfl, ?_⟩) hHeld0 ?_
  · intro w' hSw; (try dsimp only at hSw); dsimp only [oLa37]; go_simp
  (try simp only [oLa37, Act.put, List.setIfInBounds_toArray, List.set_cons_zero, List.set_cons_succ])
  refine wpAnyH_take (i := 38) (oi := oLa38) (v := .bool false) rfl (by kernel_rfl) (by kernel_rfl) (by kernel_rfl) (fun _ _ _ h => h) (Or.inl ⟨by rfl, ?_⟩) hHeld0 ?_
  · intro w' hSw; (try dsimp only at hSw); dsimp only [oLa38]; go_simp
  (try simp only [oLa38, Act.put, List.setIfInBounds_toArray, List.set_cons_zero, List.set_cons_succ])
  refine wpAnyH_done (by kernel_rfl) ?_ _
  refine NoPanic.normal ?_
  clear hHeld0 s0_ s1_
  go_wp2_with fail
  refine bodyPost_ret (v := .bool (false)) (by simp [results, Try.results40, go_sem, bne]) rfl ?_
  exact ⟨ret_bool ((leaf_ldimpl2j_4 fk tk rr2 z1 z2).trans HT.out), bal3.drew⟩
set_option maxHeartbeats 4000000 in
theorem implLd2k (g l k0 g0 l0 k1 g1 l1 fk0 fk1 tk0 tk1 : Int) (b off fb fo tb to q fq tq : Nat) (a0 a1 fa0 fa1 ta0 ta1 : Option Addr) (n0 q0 n1 q1 fn0 fq0 fn1 fq1 tn0 tq0 tn1 tq1 : Nat) (r0 r1 : Bool) (w : World) (hq : 2 ≤ q) (hq2 : q ≤ 9223372036854775807) (hfq : 2 ≤ fq) (hfq2 : fq ≤ 9223372036854775807) (htq : 2 ≤ tq) (htq2 : tq ≤ 9223372036854775807) (e0 : w.cell? ⟨b, off, none⟩ = some (.int .i64 k0)) (e1 : w.cell? ⟨b, off + 1, none⟩ = some (.int .i64 g0)) (e2 : w.cell? ⟨b, off + 2, none⟩ = some (.int .i64 l0)) (e3 : w.cell? ⟨b, off + 3, none⟩ = some (.slice a0 n0 q0)) (d0 : w.cell? ⟨b, off + 4, none⟩ = some (.int .i64 k1)) (d1 : w.cell? ⟨b, off + 5, none⟩ = some (.int .i64 g1)) (d2 : w.cell? ⟨b, off + 6, none⟩ = some (.int .i64 l1)) (d3 : w.cell? ⟨b, off + 7, none⟩ = some (.slice a1 n1 q1)) (fe0 : w.cell? ⟨fb, fo, none⟩ = some (.int .i64 fk0)) (fe1 : w.cell? ⟨fb, fo + 1, none⟩ = some (.slice fa0 fn0 fq0)) (fe2 : w.cell? ⟨fb, fo + 2, none⟩ = some (.int .i64 fk1)) (fe3 : w.cell? ⟨fb, fo + 3, none⟩ = some (.slice fa1 fn1 fq1)) (te0 : w.cell? ⟨tb, to, none⟩ = some (.int .i64 tk0)) (te1 : w.cell? ⟨tb, to + 1, none⟩ = some (.slice ta0 tn0 tq0)) (te2 : w.cell? ⟨tb, to + 2, none⟩ = some (.int .i64 tk1)) (te3 : w.cell? ⟨tb, to + 3, none⟩ = some (.slice ta1 tn1 tq1)) (H0 : Hid (∀ W, Below w.heap.size w W → Calls Try.prog 40 #[.agg #[.int .i64 k0, .int .i64 g0, .int .i64 l0, .slice a0 n0 q0], .agg #[.int .i64 tk0, .slice ta0 tn0 tq0], .agg #[.int .i64 fk0, .slice fa0 fn0 fq0]] W fun e W' => e = .returned (.bool (r0)) ∧ Below W.heap.size W W')) (H1 : Hid (∀ W, Below w.heap.size w W → Calls Try.prog 40 #[.agg #[.int .i64 k1, .int .i64 g1, .int .i64 l1, .slice a1 n1 q1], .agg #[.int .i64 fk1, .slice fa1 fn1 fq1], .agg #[.int .i64 tk1, .slice ta1 tn1 tq1]] W fun e W' => e = .returned (.bool (r1)) ∧ Below W.heap.size W W')) :
    Calls Try.prog 40 #[.agg #[.int .i64 2, .int .i64 g, .int .i64 l, .slice (some ⟨b, off, none⟩) 2 q], .agg #[.int .i64 4, .slice (some ⟨fb, fo, none⟩) 2 fq], .agg #[.int .i64 4, .slice (some ⟨tb, to, none⟩) 2 tq]] w fun e w' => e = .returned (.bool (r0 && r1)) ∧ Below w.heap.size w w' := by
  obtain ⟨rr, hrr⟩ : ∃ rr0 : Bool, (r0 && r1) = rr0 := ⟨_, rfl⟩
  rw [hrr]
  have HT := Lib.hid hrr
  clear hrr
  have lb : b < w.heap.size := World.block_lt_of_cell? _ _ e0
  have lfb : fb < w.heap.size := World.block_lt_of_cell? _ _ fe0
  have ltb : tb < w.heap.size := World.block_lt_of_cell? _ _ te0
  have lb_1 : b < w.heap.size + 1 := by omega
  have lb_2 : b < w.heap.size + 1 + 1 := by omega
  have lfb_1 : fb < w.heap.size + 1 := by omega
  have lfb_2 : fb < w.heap.size + 1 + 1 := by omega
  have ltb_1 : tb < w.heap.size + 1 := by omega
  have ltb_2 : tb < w.heap.size + 1 + 1 := by omega
  go_enter Try.func40, Try.ntmps40
  rcases Bool.eq_false_or_eq_true (r0) with q1 | q1
  · have Hq1 := Lib.hid q1
    clear q1
    go_wp2_with fail
    have s0_ : (World.alloc (World.alloc (World.alloc w (Obj.cells #[.int .i64 2, .int .i64 g, .int .i64 l, .slice (some ⟨b, off, none⟩) 2 q] 28)) (Obj.cells #[.int .i64 4, .slice (some ⟨fb, fo, none⟩) 2 fq] 38)) (Obj.cells #[.int .i64 4, .slice (some ⟨tb, to, none⟩) 2 tq] 38)).cell? ⟨w.heap.size + 1, 0, none⟩ = some (.int .i64 4) := bcell bal1 (cell_new (by simp) 0)
    have s1_ : (World.alloc (World.alloc (World.alloc w (Obj.cells #[.int .i64 2, .int .i64 g, .int .i64 l, .slice (some ⟨b, off, none⟩) 2 q] 28)) (Obj.cells #[.int .i64 4, .slice (some ⟨fb, fo, none⟩) 2 fq] 38)) (Obj.cells #[.int .i64 4, .slice (some ⟨tb, to, none⟩) 2 tq] 38)).cell? ⟨w.heap.size + 1 + 1, 0, none⟩ = some (.int .i64 4) := cell_new (by simp) 0
    have s2_ : (World.alloc (World.alloc (World.alloc w (Obj.cells #[.int .i64 2, .int .i64 g, .int .i64 l, .slice (some ⟨b, off, none⟩) 2 q] 28)) (Obj.cells #[.int .i64 4, .slice (some ⟨fb, fo, none⟩) 2 fq] 38)) (Obj.cells #[.int .i64 4, .slice (some ⟨tb, to, none⟩) 2 tq] 38)).cell? ⟨w.heap.size, 3, none⟩ = some (.slice (some ⟨b, off, none⟩) 2 q) := bcell bal1 (bcell bal1 (cell_new (by simp) 3))
    have s3_ : (World.alloc (World.alloc (World.alloc w (Obj.cells #[.int .i64 2, .int .i64 g, .int .i64 l, .slice (some ⟨b, off, none⟩) 2 q] 28)) (Obj.cells #[.int .i64 4, .slice (some ⟨fb, fo, none⟩) 2 fq] 38)) (Obj.cells #[.int .i64 4, .slice (some ⟨tb, to, none⟩) 2 tq] 38)).cell? ⟨b, off, none⟩ = some (.int .i64 k0) := bcell bal1 (bcell bal1 (bcell bal1 (e0)))
    have s4_ : (World.alloc (World.alloc (World.alloc w (Obj.cells #[.int .i64 2, .int .i64 g, .int .i64 l, .slice (some ⟨b, off, none⟩) 2 q] 28)) (Obj.cells #[.int .i64 4, .slice (some ⟨fb, fo, none⟩) 2 fq] 38)) (Obj.cells #[.int .i64 4, .slice (some ⟨tb, to, none⟩) 2 tq] 38)).cell? ⟨b, off + 1, none⟩ = some (.int .i64 g0) := bcell bal1 (bcell bal1 (bcell bal1 (e1)))
    have s5_ : (World.alloc (World.alloc (World.alloc w (Obj.cells #[.int .i64 2, .int .i64 g, .int .i64 l, .slice (some ⟨b, off, none⟩) 2 q] 28)) (Obj.cells #[.int .i64 4, .slice (some ⟨fb, fo, none⟩) 2 fq] 38)) (Obj.cells #[.int .i64 4, .slice (some ⟨tb, to, none⟩) 2 tq] 38)).cell? ⟨b, off + 2, none⟩ = some (.int .i64 l0) := bcell bal1 (bcell bal1 (bcell bal1 (e2)))
    have s6_ : (World.alloc (World.alloc (World.alloc w (Obj.cells #[.int .i64 2, .int .i64 g, .int .i64 l, .slice (some ⟨b, off, none⟩) 2 q] 28)) (Obj.cells #[.int .i64 4, .slice (some ⟨fb, fo, none⟩) 2 fq] 38)) (Obj.cells #[.int .i64 4, .slice (some ⟨tb, to, none⟩) 2 tq] 38)).cell? ⟨b, off + 3, none⟩ = some (.slice a0 n0 q0) := bcell bal1 (bcell bal1 (bcell bal1 (e3)))
    have s7_ : (World.alloc (World.alloc (World.alloc w (Obj.cells #[.int .i64 2, .int .i64 g, .int .i64 l, .slice (some ⟨b, off, none⟩) 2 q] 28)) (Obj.cells #[.int .i64 4, .slice (some ⟨fb, fo, none⟩) 2 fq] 38)) (Obj.cells #[.int .i64 4, .slice (some ⟨tb, to, none⟩) 2 tq] 38)).cell? ⟨w.heap.size + 1 + 1, 1, none⟩ = some (.slice (some ⟨tb, to, none⟩) 2 tq) := cell_new (by simp) 1
    have s8_ : (World.alloc (World.alloc (World.alloc w (Obj.cells #[.int .i64 2, .int .i64 g, .int .i64 l, .slice (some ⟨b, off, none⟩) 2 q] 28)) (Obj.cells #[.int .i64 4, .slice (some ⟨fb, fo, none⟩) 2 fq] 38)) (Obj.cells #[.int .i64 4, .slice (some ⟨tb, to, none⟩) 2 tq] 38)).cell? ⟨tb, to, none⟩ = some (.int .i64 tk0) := bcell bal1 (bcell bal1 (bcell bal1 (te0)))
    have s9_ : (World.alloc (World.alloc (World.alloc w (Obj.cells #[.int .i64 2, .int .i64 g, .int .i64 l, .slice (some ⟨b, off, none⟩) 2 q] 28)) (Obj.cells #[.int .i64 4, .slice (some ⟨fb, fo, none⟩) 2 fq] 38)) (Obj.cells #[.int .i64 4, .slice (some ⟨tb, to, none⟩) 2 tq] 38)).cell? ⟨tb, to + 1, none⟩ = some (.slice ta0 tn0 tq0) := bcell bal1 (bcell bal1 (bcell bal1 (te1)))
    have s10_ : (World.alloc (World.alloc (World.alloc w (Obj.cells #[.int .i64 2, .int .i64 g, .int .i64 l, .slice (some ⟨b, off, none⟩) 2 q] 28)) (Obj.cells #[.int .i64 4, .slice (some ⟨fb, fo, none⟩) 2 fq] 38)) (Obj.cells #[.int .i64 4, .slice (some ⟨tb, to, none⟩) 2 tq] 38)).cell? ⟨w.heap.size + 1, 1, none⟩ = some (.slice (some ⟨fb, fo, none⟩) 2 fq) := bcell bal1 (cell_new (by simp) 1)
    have s11_ : (World.alloc (World.alloc (World.alloc w (Obj.cells #[.int .i64 2, .int .i64 g, .int .i64 l, .slice (some ⟨b, off, none⟩) 2 q] 28)) (Obj.cells #[.int .i64 4, .slice (some ⟨fb, fo, none⟩) 2 fq] 38)) (Obj.cells #[.int .i64 4, .slice (some ⟨tb, to, none⟩) 2 tq] 38)).cell? ⟨fb, fo, none⟩ = some (.int .i64 fk0) := bcell bal1 (bcell bal1 (bcell bal1 (fe0)))
    have s12_ : (World.alloc (World.alloc (World.alloc w (Obj.cells #[.int .i64 2, .int .i64 g, .int .i64 l, .slice (some ⟨b, off, none⟩) 2 q] 28)) (Obj.cells #[.int .i64 4, .slice (some ⟨fb, fo, none⟩) 2 fq] 38)) (Obj.cells #[.int .i64 4, .slice (some ⟨tb, to, none⟩) 2 tq] 38)).cell? ⟨fb, fo + 1, none⟩ = some (.slice fa0 fn0 fq0) := bcell bal1 (bcell bal1 (bcell bal1 (fe1)))
    have s13_ : (World.alloc (World.alloc (World.alloc w (Obj.cells #[.int .i64 2, .int .i64 g, .int .i64 l, .slice (some ⟨b, off, none⟩) 2 q] 28)) (Obj.cells #[.int .i64 4, .slice (some ⟨fb, fo, none⟩) 2 fq] 38)) (Obj.cells #[.int .i64 4, .slice (some ⟨tb, to, none⟩) 2 tq] 38)).cell? ⟨b, off + 4, none⟩ = some (.int .i64 k1) := bcell bal1 (bcell bal1 (bcell bal1 (d0)))
    have s14_ : (World.alloc (World.alloc (World.alloc w (Obj.cells #[.int .i64 2, .int .i64 g, .int .i64 l, .slice (some ⟨b, off, none⟩) 2 q] 28)) (Obj.cells #[.int .i64 4, .slice (some ⟨fb, fo, none⟩) 2 fq] 38)) (Obj.cells #[.int .i64 4, .slice (some ⟨tb, to, none⟩) 2 tq] 38)).cell? ⟨b, off + 5, none⟩ = some (.int .i64 g1) := bcell bal1 (bcell bal1 (bcell bal1 (d1)))
    have s15_ : (World.alloc (World.alloc (World.alloc w (Obj.cells #[.int .i64 2, .int .i64 g, .int .i64 l, .slice (some ⟨b, off, none⟩) 2 q] 28)) (Obj.cells #[.int .i64 4, .slice (some ⟨fb, fo, none⟩) 2 fq] 38)) (Obj.cells #[.int .i64 4, .slice (some ⟨tb, to, none⟩) 2 tq] 38)).cell? ⟨b, off + 6, none⟩ = some (.int .i64 l1) := bcell bal1 (bcell bal1 (bcell bal1 (d2)))
    have s16_ : (World.alloc (World.alloc (World.alloc w (Obj.cells #[.int .i64 2, .int .i64 g, .int .i64 l, .slice (some ⟨b, off, none⟩) 2 q] 28)) (Obj.cells #[.int .i64 4, .slice (some ⟨fb, fo, none⟩) 2 fq] 38)) (Obj.cells #[.int .i64 4, .slice (some ⟨tb, to, none⟩) 2 tq] 38)).cell? ⟨b, off + 7, none⟩ = some (.slice a1 n1 q1) := bcell bal1 (bcell bal1 (bcell bal1 (d3)))
    have s17_ : (World.alloc (World.alloc (World.alloc w (Obj.cells #[.int .i64 2, .int .i64 g, .int .i64 l, .slice (some ⟨b, off, none⟩) 2 q] 28)) (Obj.cells #[.int .i64 4, .slice (some ⟨fb, fo, none⟩) 2 fq] 38)) (Obj.cells #[.int .i64 4, .slice (some ⟨tb, to, none⟩) 2 tq] 38)).cell? ⟨fb, fo + 2, none⟩ = some (.int .i64 fk1) := bcell bal1 (bcell bal1 (bcell bal1 (fe2)))
    have s18_ : (World.alloc (World.alloc (World.alloc w (Obj.cells #[.int .i64 2, .int .i64 g, .int .i64 l, .slice (some ⟨b, off, none⟩) 2 q] 28)) (Obj.cells #[.int .i64 4, .slice (some ⟨fb, fo, none⟩) 2 fq] 38)) (Obj.cells #[.int .i64 4, .slice (some ⟨tb, to, none⟩) 2 tq] 38)).cell? ⟨fb, fo + 3, none⟩ = some (.slice fa1 fn1 fq1) := bcell bal1 (bcell bal1 (bcell bal1 (fe3)))
    have s19_ : (World.alloc (World.alloc (World.alloc w (Obj.cells #[.int .i64 2, .int .i64 g, .int .i64 l, .slice (some ⟨b, off, none⟩) 2 q] 28)) (Obj.cells #[.int .i64 4, .slice (some ⟨fb, fo, none⟩) 2 fq] 38)) (Obj.cells #[.int .i64 4, .slice (some ⟨tb, to, none⟩) 2 tq] 38)).cell? ⟨tb, to + 2, none⟩ = some (.int .i64 tk1) := bcell bal1 (bcell bal1 (bcell bal1 (te2)))
    have s20_ : (World.alloc (World.alloc (World.alloc w (Obj.cells #[.int .i64 2, .int .i64 g, .int .i64 l, .slice (some ⟨b, off, none⟩) 2 q] 28)) (Obj.cells #[.int .i64 4, .slice (some ⟨fb, fo, none⟩) 2 fq] 38)) (Obj.cells #[.int .i64 4, .slice (some ⟨tb, to, none⟩) 2 tq] 38)).cell? ⟨tb, to + 3, none⟩ = some (.slice ta1 tn1 tq1) := bcell bal1 (bcell bal1 (bcell bal1 (te3)))
    have hS0 := Lib.hid (show (World.drew (World.alloc (World.alloc (World.alloc w (Obj.cells #[.int .i64 2, .int .i64 g, .int .i64 l, .slice (some ⟨b, off, none⟩) 2 q] 28)) (Obj.cells #[.int .i64 4, .slice (some ⟨fb, fo, none⟩) 2 fq] 38)) (Obj.cells #[.int .i64 4, .slice (some ⟨tb, to, none⟩) 2 tq] 38))).cell? ⟨w.heap.size + 1, 0, none⟩ = some (.int .i64 4) ∧ (World.drew (World.alloc (World.alloc (World.alloc w (Obj.cells #[.int .i64 2, .int .i64 g, .int .i64 l, .slice (some ⟨b, off, none⟩) 2 q] 28)) (Obj.cells #[.int .i64 4, .slice (some ⟨fb, fo, none⟩) 2 fq] 38)) (Obj.cells #[.int .i64 4, .slice (some ⟨tb, to, none⟩) 2 tq] 38))).cell? ⟨w.heap.size + 1 + 1, 0, none⟩ = some (.int .i64 4) ∧ (World.drew (World.alloc (World.alloc (World.alloc w (Obj.cells #[.int .i64 2, .int .i64 g, .int .i64 l, .slice (some ⟨b, off, none⟩) 2 q] 28)) (Obj.cells #[.int .i64 4, .slice (some ⟨fb, fo, none⟩) 2 fq] 38)) (Obj.cells #[.int .i64 4, .slice (some ⟨tb, to, none⟩) 2 tq] 38))).cell? ⟨w.heap.size, 3, none⟩ = some (.slice (some ⟨b, off, none⟩) 2 q) ∧ (World.drew (World.alloc (World.alloc (World.alloc w (Obj.cells #[.int .i64 2, .int .i64 g, .int .i64 l, .slice (some ⟨b, off, none⟩) 2 q] 28)) (Obj.cells #[.int .i64 4, .slice (some ⟨fb, fo, none⟩) 2 fq] 38)) (Obj.cells #[.int .i64 4, .slice (some ⟨tb, to, none⟩) 2 tq] 38))).cell? ⟨b, off, none⟩ = some (.int .i64 k0) ∧ (World.drew (World.alloc (World.alloc (World.alloc w (Obj.cells #[.int .i64 2, .int .i64 g, .int .i64 l, .slice (some ⟨b, off, none⟩) 2 q] 28)) (Obj.cells #[.int .i64 4, .slice (some ⟨fb, fo, none⟩) 2 fq] 38)) (Obj.cells #[.int .i64 4, .slice (some ⟨tb, to, none⟩) 2 tq] 38))).cell? ⟨b, off + 1, none⟩ = some (.int .i64 g0) ∧ (World.drew (World.alloc (World.alloc (World.alloc w (Obj.cells #[.int .i64 2, .int .i64 g, .int .i64 l, .slice (some ⟨b, off, none⟩) 2 q] 28)) (Obj.cells #[.int .i64 4, .slice (some ⟨fb, fo, none⟩) 2 fq] 38)) (Obj.cells #[.int .i64 4, .slice (some ⟨tb, to, none⟩) 2 tq] 38))).cell? ⟨b, off + 2, none⟩ = some (.int .i64 l0) ∧ (World.drew (World.alloc (World.alloc (World.alloc w (Obj.cells #[.int .i64 2, .int .i64 g, .int .i64 l, .slice (some ⟨b, off, none⟩) 2 q] 28)) (Obj.cells #[.int .i64 4, .slice (some ⟨fb, fo, none⟩) 2 fq] 38)) (Obj.cells #[.int .i64 4, .slice (some ⟨tb, to, none⟩) 2 tq] 38))).cell? ⟨b, off + 3, none⟩ = some (.slice a0 n0 q0) ∧ (World.drew (World.alloc (World.alloc (World.alloc w (Obj.cells #[.int .i64 2, .int .i64 g, .int .i64 l, .slice (some ⟨b, off, none⟩) 2 q] 28)) (Obj.cells #[.int .i64 4, .slice (some ⟨fb, fo, none⟩) 2 fq] 38)) (Obj.cells #[.int .i64 4, .slice (some ⟨tb, to, none⟩) 2 tq] 38))).cell? ⟨w.heap.size + 1 + 1, 1, none⟩ = some (.slice (some ⟨tb, to, none⟩) 2 tq) ∧ (World.drew (World.alloc (World.alloc (World.alloc w (Obj.cells #[.int .i64 2, .int .i64 g, .int .i64 l, .slice (some ⟨b, off, none⟩) 2 q] 28)) (Obj.cells #[.int .i64 4, .slice (some ⟨fb, fo, none⟩) 2 fq] 38)) (Obj.cells #[.int .i64 4, .slice (some ⟨tb, to, none⟩) 2 tq] 38))).cell? ⟨tb, to, none⟩ = some (.int .i64 tk0) ∧ (World.drew (World.alloc (World.alloc (World.alloc w (Obj.cells #[.int .i64 2, .int .i64 g, .int .i64 l, .slice (some ⟨b, off, none⟩) 2 q] 28)) (Obj.cells #[.int .i64 4, .slice (some ⟨fb, fo, none⟩) 2 fq] 38)) (Obj.cells #[.int .i64 4, .slice (some ⟨tb, to, none⟩) 2 tq] 38))).cell? ⟨tb, to + 1, none⟩ = some (.slice ta0 tn0 tq0) ∧ (World.drew (World.alloc (World.alloc (World.alloc w (Obj.cells #[.int .i64 2, .int .i64 g, .int .i64 l, .slice (some ⟨b, off, none⟩) 2 q] 28)) (Obj.cells #[.int .i64 4, .slice (some ⟨fb, fo, none⟩) 2 fq] 38)) (Obj.cells #[.int .i64 4, .slice (some ⟨tb, to, none⟩) 2 tq] 38))).cell? ⟨w.heap.size + 1, 1, none⟩ = some (.slice (some ⟨fb, fo, none⟩) 2 fq) ∧ (World.drew (World.alloc (World.alloc (World.alloc w (Obj.cells #[.int .i64 2, .int .i64 g, .int .i64 l, .slice (some ⟨b, off, none⟩) 2 q] 28)) (Obj.cells #[.int .i64 4, .slice (some ⟨fb, fo, none⟩) 2 fq] 38)) (Obj.cells #[.int .i64 4, .slice (some ⟨tb, to, none⟩) 2 tq] 38))).cell? ⟨fb, fo, none⟩ = some (.int .i64 fk0) ∧ (World.drew (World.alloc (World.alloc (World.alloc w (Obj.cells #[.int .i64 2, .int .i64 g, .int .i64 l, .slice (some ⟨b, off, none⟩) 2 q] 28)) (Obj.cells #[.int .i64 4, .slice (some ⟨fb, fo, none⟩) 2 fq] 38)) (Obj.cells #[.int .i64 4, .slice (some ⟨tb, to, none⟩) 2 tq] 38))).cell? ⟨fb, fo + 1, none⟩ = some (.slice fa0 fn0 fq0) ∧ (World.drew (World.alloc (World.alloc (World.alloc w (Obj.cells #[.int .i64 2, .int .i64 g, .int .i64 l, .slice (some ⟨b, off, none⟩) 2 q] 28)) (Obj.cells #[.int .i64 4, .slice (some ⟨fb, fo, none⟩) 2 fq] 38)) (Obj.cells #[.int .i64 4, .slice (some ⟨tb, to, none⟩) 2 tq] 38))).cell? ⟨b, off + 4, none⟩ = some (.int .i64 k1) ∧ (World.drew (World.alloc (World.alloc (World.alloc w (Obj.cells #[.int .i64 2, .int .i64 g, .int .i64 l, .slice (some ⟨b, off, none⟩) 2 q] 28)) (Obj.cells #[.int .i64 4, .slice (some ⟨fb, fo, none⟩) 2 fq] 38)) (Obj.cells #[.int .i64 4, .slice (some ⟨tb, to, none⟩) 2 tq] 38))).cell? ⟨b, off + 5, none⟩ = some (.int .i64 g1) ∧ (World.drew (World.alloc (World.alloc (World.alloc w (Obj.cells #[.int .i64 2, .int .i64 g, .int .i64 l, .slice (some ⟨b, off, none⟩) 2 q] 28)) (Obj.cells #[.int .i64 4, .slice (some ⟨fb, fo, none⟩) 2 fq] 38)) (Obj.cells #[.int .i64 4, .slice (some ⟨tb, to, none⟩) 2 tq] 38))).cell? ⟨b, off + 6, none⟩ = some (.int .i64 l1) ∧ (World.drew (World.alloc (World.alloc (World.alloc w (Obj.cells #[.int .i64 2, .int .i64 g, .int .i64 l, .slice (some ⟨b, off, none⟩) 2 q] 28)) (Obj.cells #[.int .i64 4, .slice (some ⟨fb, fo, none⟩) 2 fq] 38)) (Obj.cells #[.int .i64 4, .slice (some ⟨tb, to, none⟩) 2 tq] 38))).cell? ⟨b, off + 7, none⟩ = some (.slice a1 n1 q1) ∧ (World.drew (World.alloc (World.alloc (World.alloc w (Obj.cells #[.int .i64 2, .int .i64 g, .int .i64 l, .slice (some ⟨b, off, none⟩) 2 q] 28)) (Obj.cells #[.int .i64 4, .slice (some ⟨fb, fo, none⟩) 2 fq] 38)) (Obj.cells #[.int .i64 4, .slice (some ⟨tb, to, none⟩) 2 tq] 38))).cell? ⟨fb, fo + 2, none⟩ = some (.int .i64 fk1) ∧ (World.drew (World.alloc (World.alloc (World.alloc w (Obj.cells #[.int .i64 2, .int .i64 g, .int .i64 l, .slice (some ⟨b, off, none⟩) 2 q] 28)) (Obj.cells #[.int .i64 4, .slice (some ⟨fb, fo, none⟩) 2 fq] 38)) (Obj.cells #[.int .i64 4, .slice (some ⟨tb, to, none⟩) 2 tq] 38))).cell? ⟨fb, fo + 3, none⟩ = some (.slice fa1 fn1 fq1) ∧ (World.drew (World.alloc (World.alloc (World.alloc w (Obj.cells #[.int .i64 2, .int .i64 g, .int .i64 l, .slice (some ⟨b, off, none⟩) 2 q] 28)) (Obj.cells #[.int .i64 4, .slice (some ⟨fb, fo, none⟩) 2 fq] 38)) (Obj.cells #[.int .i64 4, .slice (some ⟨tb, to, none⟩) 2 tq] 38))).cell? ⟨tb, to + 2, none⟩ = some (.int .i64 tk1) ∧ (World.drew (World.alloc (World.alloc (World.alloc w (Obj.cells #[.int .i64 2, .int .i64 g, .int .i64 l, .slice (some ⟨b, off, none⟩) 2 q] 28)) (Obj.cells #[.int .i64 4, .slice (some ⟨fb, fo, none⟩) 2 fq] 38)) (Obj.cells #[.int .i64 4, .slice (some ⟨tb, to, none⟩) 2 tq] 38))).cell? ⟨tb, to + 3, none⟩ = some (.slice ta1 tn1 tq1) from ⟨dcell (s0_), dcell (s1_), dcell (s2_), dcell (s3_), dcell (s4_), dcell (s5_), dcell (s6_), dcell (s7_), dcell (s8_), dcell (s9_), dcell (s10_), dcell (s11_), dcell (s12_), dcell (s13_), dcell (s14_), dcell (s15_), dcell (s16_), dcell (s17_), dcell (s18_), dcell (s19_), dcell (s20_)⟩)
    have hSb := Lib.hid (show ∀ X Y : World, Below X.heap.size X Y → (X.cell? ⟨w.heap.size + 1, 0, none⟩ = some (.int .i64 4) ∧ X.cell? ⟨w.heap.size + 1 + 1, 0, none⟩ = some (.int .i64 4) ∧ X.cell? ⟨w.heap.size, 3, none⟩ = some (.slice (some ⟨b, off, none⟩) 2 q) ∧ X.cell? ⟨b, off, none⟩ = some (.int .i64 k0) ∧ X.cell? ⟨b, off + 1, none⟩ = some (.int .i64 g0) ∧ X.cell? ⟨b, off + 2, none⟩ = some (.int .i64 l0) ∧ X.cell? ⟨b, off + 3, none⟩ = some (.slice a0 n0 q0) ∧ X.cell? ⟨w.heap.size + 1 + 1, 1, none⟩ = some (.slice (some ⟨tb, to, none⟩) 2 tq) ∧ X.cell? ⟨tb, to, none⟩ = some (.int .i64 tk0) ∧ X.cell? ⟨tb, to + 1, none⟩ = some (.slice ta0 tn0 tq0) ∧ X.cell? ⟨w.heap.size + 1, 1, none⟩ = some (.slice (some ⟨fb, fo, none⟩) 2 fq) ∧ X.cell? ⟨fb, fo, none⟩ = some (.int .i64 fk0) ∧ X.cell? ⟨fb, fo + 1, none⟩ = some (.slice fa0 fn0 fq0) ∧ X.cell? ⟨b, off + 4, none⟩ = some (.int .i64 k1) ∧ X.cell? ⟨b, off + 5, none⟩ = some (.int .i64 g1) ∧ X.cell? ⟨b, off + 6, none⟩ = some (.int .i64 l1) ∧ X.cell? ⟨b, off + 7, none⟩ = some (.slice a1 n1 q1) ∧ X.cell? ⟨fb, fo + 2, none⟩ = some (.int .i64 fk1) ∧ X.cell? ⟨fb, fo + 3, none⟩ = some (.slice fa1 fn1 fq1) ∧ X.cell? ⟨tb, to + 2, none⟩ = some (.int .i64 tk1) ∧ X.cell? ⟨tb, to + 3, none⟩ = some (.slice ta1 tn1 tq1)) → (Y.cell? ⟨w.heap.size + 1, 0, none⟩ = some (.int .i64 4) ∧ Y.cell? ⟨w.heap.size + 1 + 1, 0, none⟩ = some (.int .i64 4) ∧ Y.cell? ⟨w.heap.size, 3, none⟩ = some (.slice (some ⟨b, off, none⟩) 2 q) ∧ Y.cell? ⟨b, off, none⟩ = some (.int .i64 k0) ∧ Y.cell? ⟨b, off + 1, none⟩ = some (.int .i64 g0) ∧ Y.cell? ⟨b, off + 2, none⟩ = some (.int .i64 l0) ∧ Y.cell? ⟨b, off + 3, none⟩ = some (.slice a0 n0 q0) ∧ Y.cell? ⟨w.heap.size + 1 + 1, 1, none⟩ = some (.slice (some ⟨tb, to, none⟩) 2 tq) ∧ Y.cell? ⟨tb, to, none⟩ = some (.int .i64 tk0) ∧ Y.cell? ⟨tb, to + 1, none⟩ = some (.slice ta0 tn0 tq0) ∧ Y.cell? ⟨w.heap.size + 1, 1, none⟩ = some (.slice (some ⟨fb, fo, none⟩) 2 fq) ∧ Y.cell? ⟨fb, fo, none⟩ = some (.int .i64 fk0) ∧ Y.cell? ⟨fb, fo + 1, none⟩ = some (.slice fa0 fn0 fq0) ∧ Y.cell? ⟨b, off + 4, none⟩ = some (.int .i64 k1) ∧ Y.cell? ⟨b, off + 5, none⟩ = some (.int .i64 g1) ∧ Y.cell? ⟨b, off + 6, none⟩ = some (.int .i64 l1) ∧ Y.cell? ⟨b, off + 7, none⟩ = some (.slice a1 n1 q1) ∧ Y.cell? ⟨fb, fo + 2, none⟩ = some (.int .i64 fk1) ∧ Y.cell? ⟨fb, fo + 3, none⟩ = some (.slice fa1 fn1 fq1) ∧ Y.cell? ⟨tb, to + 2, none⟩ = some (.int .i64 tk1) ∧ Y.cell? ⟨tb, to + 3, none⟩ = some (.slice ta1 tn1 tq1)) from fun X Y h s => ⟨bcell h s.1, bcell h s.2.1, bcell h s.2.2.1, bcell h s.2.2.2.1, bcell h s.2.2.2.2.1, bcell h s.2.2.2.2.2.1, bcell h s.2.2.2.2.2.2.1, bcell h s.2.2.2.2.2.2.2.1, bcell h s.2.2.2.2.2.2.2.2.1, bcell h s.2.2.2.2.2.2.2.2.2.1, bcell h s.2.2.2.2.2.2.2.2.2.2.1, bcell h s.2.2.2.2.2.2.2.2.2.2.2.1, bcell h s.2.2.2.2.2.2.2.2.2.2.2.2.1, bcell h s.2.2.2.2.2.2.2.2.2.2.2.2.2.1, bcell h s.2.2.2.2.2.2.2.2.2.2.2.2.2.2.1, bcell h s.2.2.2.2.2.2.2.2.2.2.2.2.2.2.2.1, bcell h s.2.2.2.2.2.2.2.2.2.2.2.2.2.2.2.2.1, bcell h s.2.2.2.2.2.2.2.2.2.2.2.2.2.2.2.2.2.1, bcell h s.2.2.2.2.2.2.2.2.2.2.2.2.2.2.2.2.2.2.1, bcell h s.2.2.2.2.2.2.2.2.2.2.2.2.2.2.2.2.2.2.2.1, bcell h s.2.2.2.2.2.2.2.2.2.2.2.2.2.2.2.2.2.2.2.2⟩)
    go_region_held3 (fun w' => w'.cell? ⟨w.heap.size + 1, 0, none⟩ = some (.int .i64 4) ∧ w'.cell? ⟨w.heap.size + 1 + 1, 0, none⟩ = some (.int .i64 4) ∧ w'.cell? ⟨w.heap.size, 3, none⟩ = some (.slice (some ⟨b, off, none⟩) 2 q) ∧ w'.cell? ⟨b, off, none⟩ = some (.int .i64 k0) ∧ w'.cell? ⟨b, off + 1, none⟩ = some (.int .i64 g0) ∧ w'.cell? ⟨b, off + 2, none⟩ = some (.int .i64 l0) ∧ w'.cell? ⟨b, off + 3, none⟩ = some (.slice a0 n0 q0) ∧ w'.cell? ⟨w.heap.size + 1 + 1, 1, none⟩ = some (.slice (some ⟨tb, to, none⟩) 2 tq) ∧ w'.cell? ⟨tb, to, none⟩ = some (.int .i64 tk0) ∧ w'.cell? ⟨tb, to + 1, none⟩ = some (.slice ta0 tn0 tq0) ∧ w'.cell? ⟨w.heap.size + 1, 1, none⟩ = some (.slice (some ⟨fb, fo, none⟩) 2 fq) ∧ w'.cell? ⟨fb, fo, none⟩ = some (.int .i64 fk0) ∧ w'.cell? ⟨fb, fo + 1, none⟩ = some (.slice fa0 fn0 fq0) ∧ w'.cell? ⟨b, off + 4, none⟩ = some (.int .i64 k1) ∧ w'.cell? ⟨b, off + 5, none⟩ = some (.int .i64 g1) ∧ w'.cell? ⟨b, off + 6, none⟩ = some (.int .i64 l1) ∧ w'.cell? ⟨b, off + 7, none⟩ = some (.slice a1 n1 q1) ∧ w'.cell? ⟨fb, fo + 2, none⟩ = some (.int .i64 fk1) ∧ w'.cell? ⟨fb, fo + 3, none⟩ = some (.slice fa1 fn1 fq1) ∧ w'.cell? ⟨tb, to + 2, none⟩ = some (.int .i64 tk1) ∧ w'.cell? ⟨tb, to + 3, none⟩ = some (.slice ta1 tn1 tq1))
      (repeat (first | with_reducible refine hSb.out _ _ hb2 ?_ | with_reducible refine hSb.out _ _ hb1 ?_ | with_reducible exact hS0.out))
      (first | (go_at_call 40; ((with_reducible refine (H0.out _ bal3.drew).mono ?_); rintro e w1 ⟨rfl, hb1⟩; rw [Hq1.out])) | (go_at_call 40; ((with_reducible refine (H1.out _ (bstep bal3.drew hb1)).mono ?_); rintro e w2 ⟨rfl, hb2⟩)))
    clear s0_ s1_ s2_ s3_ s4_ s5_ s6_ s7_ s8_ s9_ s10_ s11_ s12_ s13_ s14_ s15_ s16_ s17_ s18_ s19_ s20_
    have hB := (bstep (bstep bal3.drew hb1) hb2)
    have zw2 := hB.size
    go_wp2_with fail
    refine bodyPost_ret (v := .bool (r1)) (by simp [results, Try.results40, go_sem, bne]) rfl ?_
    exact ⟨ret_bool ((leaf_ldimpl2k_5 r0 r1 Hq1.out).trans HT.out), hB⟩
  · have Hq1 := Lib.hid q1
    clear q1
    go_wp2_with fail
    have s0_ : (World.alloc (World.alloc (World.alloc w (Obj.cells #[.int .i64 2, .int .i64 g, .int .i64 l, .slice (some ⟨b, off, none⟩) 2 q] 28)) (Obj.cells #[.int .i64 4, .slice (some ⟨fb, fo, none⟩) 2 fq] 38)) (Obj.cells #[.int .i64 4, .slice (some ⟨tb, to, none⟩) 2 tq] 38)).cell? ⟨w.heap.size + 1, 0, none⟩ = some (.int .i64 4) := bcell bal1 (cell_new (by simp) 0)
    have s1_ : (World.alloc (World.alloc (World.alloc w (Obj.cells #[.int .i64 2, .int .i64 g, .int .i64 l, .slice (some ⟨b, off, none⟩) 2 q] 28)) (Obj.cells #[.int .i64 4, .slice (some ⟨fb, fo, none⟩) 2 fq] 38)) (Obj.cells #[.int .i64 4, .slice (some ⟨tb, to, none⟩) 2 tq] 38)).cell? ⟨w.heap.size + 1 + 1, 0, none⟩ = some (.int .i64 4) := cell_new (by simp) 0
    have s2_ : (World.alloc (World.alloc (World.alloc w (Obj.cells #[.int .i64 2, .int .i64 g, .int .i64 l, .slice (some ⟨b, off, none⟩) 2 q] 28)) (Obj.cells #[.int .i64 4, .slice (some ⟨fb, fo, none⟩) 2 fq] 38)) (Obj.cells #[.int .i64 4, .slice (some ⟨tb, to, none⟩) 2 tq] 38)).cell? ⟨w.heap.size, 3, none⟩ = some (.slice (some ⟨b, off, none⟩) 2 q) := bcell bal1 (bcell bal1 (cell_new (by simp) 3))
    have s3_ : (World.alloc (World.alloc (World.alloc w (Obj.cells #[.int .i64 2, .int .i64 g, .int .i64 l, .slice (some ⟨b, off, none⟩) 2 q] 28)) (Obj.cells #[.int .i64 4, .slice (some ⟨fb, fo, none⟩) 2 fq] 38)) (Obj.cells #[.int .i64 4, .slice (some ⟨tb, to, none⟩) 2 tq] 38)).cell? ⟨b, off, none⟩ = some (.int .i64 k0) := bcell bal1 (bcell bal1 (bcell bal1 (e0)))
    have s4_ : (World.alloc (World.alloc (World.alloc w (Obj.cells #[.int .i64 2, .int .i64 g, .int .i64 l, .slice (some ⟨b, off, none⟩) 2 q] 28)) (Obj.cells #[.int .i64 4, .slice (some ⟨fb, fo, none⟩) 2 fq] 38)) (Obj.cells #[.int .i64 4, .slice (some ⟨tb, to, none⟩) 2 tq] 38)).cell? ⟨b, off + 1, none⟩ = some (.int .i64 g0) := bcell bal1 (bcell bal1 (bcell bal1 (e1)))
    have s5_ : (World.alloc (World.alloc (World.alloc w (Obj.cells #[.int .i64 2, .int .i64 g, .int .i64 l, .slice (some ⟨b, off, none⟩) 2 q] 28)) (Obj.cells #[.int .i64 4, .slice (some ⟨fb, fo, none⟩) 2 fq] 38)) (Obj.cells #[.int .i64 4, .slice (some ⟨tb, to, none⟩) 2 tq] 38)).cell? ⟨b, off + 2, none⟩ = some (.int .i64 l0) := bcell bal1 (bcell bal1 (bcell bal1 (e2)))
    have s6_ : (World.alloc (World.alloc (World.alloc w (Obj.cells #[.int .i64 2, .int .i64 g, .int .i64 l, .slice (some ⟨b, off, none⟩) 2 q] 28)) (Obj.cells #[.int .i64 4, .slice (some ⟨fb, fo, none⟩) 2 fq] 38)) (Obj.cells #[.int .i64 4, .slice (some ⟨tb, to, none⟩) 2 tq] 38)).cell? ⟨b, off + 3, none⟩ = some (.slice a0 n0 q0) := bcell bal1 (bcell bal1 (bcell bal1 (e3)))
    have s7_ : (World.alloc (World.alloc (World.alloc w (Obj.cells #[.int .i64 2, .int .i64 g, .int .i64 l, .slice (some ⟨b, off, none⟩) 2 q] 28)) (Obj.cells #[.int .i64 4, .slice (some ⟨fb, fo, none⟩) 2 fq] 38)) (Obj.cells #[.int .i64 4, .slice (some ⟨tb, to, none⟩) 2 tq] 38)).cell? ⟨w.heap.size + 1 + 1, 1, none⟩ = some (.slice (some ⟨tb, to, none⟩) 2 tq) := cell_new (by simp) 1
    have s8_ : (World.alloc (World.alloc (World.alloc w (Obj.cells #[.int .i64 2, .int .i64 g, .int .i64 l, .slice (some ⟨b, off, none⟩) 2 q] 28)) (Obj.cells #[.int .i64 4, .slice (some ⟨fb, fo, none⟩) 2 fq] 38)) (Obj.cells #[.int .i64 4, .slice (some ⟨tb, to, none⟩) 2 tq] 38)).cell? ⟨tb, to, none⟩ = some (.int .i64 tk0) := bcell bal1 (bcell bal1 (bcell bal1 (te0)))
    have s9_ : (World.alloc (World.alloc (World.alloc w (Obj.cells #[.int .i64 2, .int .i64 g, .int .i64 l, .slice (some ⟨b, off, none⟩) 2 q] 28)) (Obj.cells #[.int .i64 4, .slice (some ⟨fb, fo, none⟩) 2 fq] 38)) (Obj.cells #[.int .i64 4, .slice (some ⟨tb, to, none⟩) 2 tq] 38)).cell? ⟨tb, to + 1, none⟩ = some (.slice ta0 tn0 tq0) := bcell bal1 (bcell bal1 (bcell bal1 (te1)))
    have s10_ : (World.alloc (World.alloc (World.alloc w (Obj.cells #[.int .i64 2, .int .i64 g, .int .i64 l, .slice (some ⟨b, off, none⟩) 2 q] 28)) (Obj.cells #[.int .i64 4, .slice (some ⟨fb, fo, none⟩) 2 fq] 38)) (Obj.cells #[.int .i64 4, .slice (some ⟨tb, to, none⟩) 2 tq] 38)).cell? ⟨w.heap.size + 1, 1, none⟩ = some (.slice (some ⟨fb, fo, none⟩) 2 fq) := bcell bal1 (cell_new (by simp) 1)
    have s11_ : (World.alloc (World.alloc (World.alloc w (Obj.cells #[.int .i64 2, .int .i64 g, .int .i64 l, .slice (some ⟨b, off, none⟩) 2 q] 28)) (Obj.cells #[.int .i64 4, .slice (some ⟨fb, fo, none⟩) 2 fq] 38)) (Obj.cells #[.int .i64 4, .slice (some ⟨tb, to, none⟩) 2 tq] 38)).cell? ⟨fb, fo, none⟩ = some (.int .i64 fk0) := bcell bal1 (bcell bal1 (bcell bal1 (fe0)))
    have s12_ : (World.alloc (World.alloc (World.alloc w (Obj.cells #[.int .i64 2, .int .i64 g, .int .i64 l, .slice (some ⟨b, off, none⟩) 2 q] 28)) (Obj.cells #[.int .i64 4, .slice (some ⟨fb, fo, none⟩) 2 fq] 38)) (Obj.cells #[.int .i64 4, .slice (some ⟨tb, to, none⟩) 2 tq] 38)).cell? ⟨fb, fo + 1, none⟩ = some (.slice fa0 fn0 fq0) := bcell bal1 (bcell bal1 (bcell bal1 (fe1)))
    refine wp_region_noPanic ?_
    refine wp_region_held_drew (S := fun w' => w'.cell? ⟨w.heap.size + 1, 0, none⟩ = some (.int .i64 4) ∧ w'.cell? ⟨w.heap.size + 1 + 1, 0, none⟩ = some (.int .i64 4) ∧ w'.cell? ⟨w.heap.size, 3, none⟩ = some (.slice (some ⟨b, off, none⟩) 2 q) ∧ w'.cell? ⟨b, off, none⟩ = some (.int .i64 k0) ∧ w'.cell? ⟨b, off + 1, none⟩ = some (.int .i64 g0) ∧ w'.cell? ⟨b, off + 2, none⟩ = some (.int .i64 l0) ∧ w'.cell? ⟨b, off + 3, none⟩ = some (.slice a0 n0 q0) ∧ w'.cell? ⟨w.heap.size + 1 + 1, 1, none⟩ = some (.slice (some ⟨tb, to, none⟩) 2 tq) ∧ w'.cell? ⟨tb, to, none⟩ = some (.int .i64 tk0) ∧ w'.cell? ⟨tb, to + 1, none⟩ = some (.slice ta0 tn0 tq0) ∧ w'.cell? ⟨w.heap.size + 1, 1, none⟩ = some (.slice (some ⟨fb, fo, none⟩) 2 fq) ∧ w'.cell? ⟨fb, fo, none⟩ = some (.int .i64 fk0) ∧ w'.cell? ⟨fb, fo + 1, none⟩ = some (.slice fa0 fn0 fq0)) (by kernel_rfl) ?_ (fun hHeld0 => ?_)
    · exact ⟨dcell (s0_), dcell (s1_), dcell (s2_), dcell (s3_), dcell (s4_), dcell (s5_), dcell (s6_), dcell (s7_), dcell (s8_), dcell (s9_), dcell (s10_), dcell (s11_), dcell (s12_)⟩
    refine wpAnyH_take (i := 0) (oi := oLa0) (v := .pointer (some ⟨w.heap.size + 1, 0, none⟩)) rfl (by kernel_rfl) (by kernel_rfl) (by kernel_rfl) (fun _ _ _ h => h) (Or.inl ⟨by rfl, ?_⟩) hHeld0 ?_
    · intro w' hSw; (try dsimp only at hSw); dsimp only [oLa0]; go_simp
    (try simp only [oLa0, Act.put, List.setIfInBounds_toArray, List.set_cons_zero, List.set_cons_succ])
    refine wpAnyH_take (i := 1) (oi := oLa1) (v := .int .i64 4) rfl (by kernel_rfl) (by kernel_rfl) (by kernel_rfl) (fun _ _ _ h => h) (Or.inl ⟨by rfl, ?_⟩) hHeld0 ?_
    · intro w' hSw; (try dsimp only at hSw); dsimp only [oLa1]; go_simp
    (try simp only [oLa1, Act.put, List.setIfInBounds_toArray, List.set_cons_zero, List.set_cons_succ])
    refine wpAnyH_take (i := 2) (oi := oLa2) (v := .bool true) rfl (by kernel_rfl) (by kernel_rfl) (by kernel_rfl) (fun _ _ _ h => h) (Or.inl ⟨by rfl, ?_⟩) hHeld0 ?_
    · intro w' hSw; (try dsimp only at hSw); dsimp only [oLa2]; go_simp
    (try simp only [oLa2, Act.put, List.setIfInBounds_toArray, List.set_cons_zero, List.set_cons_succ])
    refine wpAnyH_take (i := 3) (oi := oLa3) (v := .bool true) rfl (by kernel_rfl) (by kernel_rfl) (by kernel_rfl) (fun _ _ _ h => h) (Or.inl ⟨by rfl, ?_⟩) hHeld0 ?_
    · intro w' hSw; (try dsimp only at hSw); dsimp only [oLa3]; go_simp
    (try simp only [oLa3, Act.put, List.setIfInBounds_toArray, List.set_cons_zero, List.set_cons_succ])
    refine wpAnyH_take (i := 4) (oi := oLa4) (v := .pointer (some ⟨w.heap.size + 1 + 1, 0, none⟩)) rfl (by kernel_rfl) (by kernel_rfl) (by kernel_rfl) (fun _ _ _ h => h) (Or.inl ⟨by rfl, ?_⟩) hHeld0 ?_
    · intro w' hSw; (try dsimp only at hSw); dsimp only [oLa4]; go_simp
    (try simp only [oLa4, Act.put, List.setIfInBounds_toArray, List.set_cons_zero, List.set_cons_succ])
    refine wpAnyH_take (i := 5) (oi := oLa5) (v := .int .i64 4) rfl (by kernel_rfl) (by kernel_rfl) (by kernel_rfl) (fun _ _ _ h => h) (Or.inl ⟨by rfl, ?_⟩) hHeld0 ?_
    · intro w' hSw; (try dsimp only at hSw); dsimp only [oLa5]; go_simp
    (try simp only [oLa5, Act.put, List.setIfInBounds_toArray, List.set_cons_zero, List.set_cons_succ])
    refine wpAnyH_take (i := 6) (oi := oLa6) (v := .bool true) rfl (by kernel_rfl) (by kernel_rfl) (by kernel_rfl) (fun _ _ _ h => h) (Or.inl ⟨by rfl, ?_⟩) hHeld0 ?_
    · intro w' hSw; (try dsimp only at hSw); dsimp only [oLa6]; go_simp
    (try simp only [oLa6, Act.put, List.setIfInBounds_toArray, List.set_cons_zero, List.set_cons_succ])
    refine wpAnyH_take (i := 7) (oi := oLa7) (v := .bool true) rfl (by kernel_rfl) (by kernel_rfl) (by kernel_rfl) (fun _ _ _ h => h) (Or.inl ⟨by rfl, ?_⟩) hHeld0 ?_
    · intro w' hSw; (try dsimp only at hSw); dsimp only [oLa7]; go_simp
    (try simp only [oLa7, Act.put, List.setIfInBounds_toArray, List.set_cons_zero, List.set_cons_succ])
    refine wpAnyH_take (i := 8) (oi := oLa8) (v := .bool true) rfl (by kernel_rfl) (by kernel_rfl) (by kernel_rfl) (fun _ _ _ h => h) (Or.inl ⟨by rfl, ?_⟩) hHeld0 ?_
    · intro w' hSw; (try dsimp only at hSw); dsimp only [oLa8]; go_simp
    (try simp only [oLa8, Act.put, List.setIfInBounds_toArray, List.set_cons_zero, List.set_cons_succ])
    refine wpAnyH_take (i := 9) (oi := oLa9) (v := .pointer (some ⟨w.heap.size, 3, none⟩)) rfl (by kernel_rfl) (by kernel_rfl) (by kernel_rfl) (fun _ _ _ h => h) (Or.inl ⟨by rfl, ?_⟩) hHeld0 ?_
    · intro w' hSw; (try dsimp only at hSw); dsimp only [oLa9]; go_simp
    (try simp only [oLa9, Act.put, List.setIfInBounds_toArray, List.set_cons_zero, List.set_cons_succ])
    refine wpAnyH_take (i := 10) (oi := oLa10) (v := .slice (some ⟨b, off, none⟩) 2 q) rfl (by kernel_rfl) (by kernel_rfl) (by kernel_rfl) (fun _ _ _ h => h) (Or.inl ⟨by rfl, ?_⟩) hHeld0 ?_
    · intro w' hSw; (try dsimp only at hSw); dsimp only [oLa10]; go_simp
    (try simp only [oLa10, Act.put, List.setIfInBounds_toArray, List.set_cons_zero, List.set_cons_succ])
    refine wpAnyH_take (i := 11) (oi := oLa11) (v := .pointer (some ⟨b, off, none⟩)) rfl (by kernel_rfl) (by kernel_rfl) (by kernel_rfl) (fun _ _ _ h => h) (Or.inl ⟨by rfl, ?_⟩) hHeld0 ?_
    · intro w' hSw; (try dsimp only at hSw); dsimp only [oLa11]; go_simp
    (try simp only [oLa11, Act.put, List.setIfInBounds_toArray, List.set_cons_zero, List.set_cons_succ])
    refine wpAnyH_take (i := 12) (oi := oLa12) (v := .agg #[.int .i64 k0, .int .i64 g0, .int .i64 l0, .slice a0 n0 q0]) rfl (by kernel_rfl) (by kernel_rfl) (by kernel_rfl) (fun _ _ _ h => h) (Or.inl ⟨by rfl, ?_⟩) hHeld0 ?_
    · intro w' hSw; (try dsimp only at hSw); dsimp only [oLa12]; go_simp
    (try simp only [oLa12, Act.put, List.setIfInBounds_toArray, List.set_cons_zero, List.set_cons_succ])
    refine wpAnyH_take (i := 13) (oi := oLa13) (v := .pointer (some ⟨w.heap.size + 1 + 1, 1, none⟩)) rfl (by kernel_rfl) (by kernel_rfl) (by kernel_rfl) (fun _ _ _ h => h) (Or.inl ⟨by rfl, ?_⟩) hHeld0 ?_
    · intro w' hSw; (try dsimp only at hSw); dsimp only [oLa13]; go_simp
    (try simp only [oLa13, Act.put, List.setIfInBounds_toArray, List.set_cons_zero, List.set_cons_succ])
    refine wpAnyH_take (i := 14) (oi := oLa14) (v := .slice (some ⟨tb, to, none⟩) 2 tq) rfl (by kernel_rfl) (by kernel_rfl) (by kernel_rfl) (fun _ _ _ h => h) (Or.inl ⟨by rfl, ?_⟩) hHeld0 ?_
    · intro w' hSw; (try dsimp only at hSw); dsimp only [oLa14]; go_simp
    (try simp only [oLa14, Act.put, List.setIfInBounds_toArray, List.set_cons_zero, List.set_cons_succ])
    refine wpAnyH_take (i := 15) (oi := oLa15) (v := .pointer (some ⟨tb, to, none⟩)) rfl (by kernel_rfl) (by kernel_rfl) (by kernel_rfl) (fun _ _ _ h => h) (Or.inl ⟨by rfl, ?_⟩) hHeld0 ?_
    · intro w' hSw; (try dsimp only at hSw); dsimp only [oLa15]; go_simp
    (try simp only [oLa15, Act.put, List.setIfInBounds_toArray, List.set_cons_zero, List.set_cons_succ])
    refine wpAnyH_take (i := 16) (oi := oLa16) (v := .agg #[.int .i64 tk0, .slice ta0 tn0 tq0]) rfl (by kernel_rfl) (by kernel_rfl) (by kernel_rfl) (fun _ _ _ h => h) (Or.inl ⟨by rfl, ?_⟩) hHeld0 ?_
    · intro w' hSw; (try dsimp only at hSw); dsimp only [oLa16]; go_simp
    (try simp only [oLa16, Act.put, List.setIfInBounds_toArray, List.set_cons_zero, List.set_cons_succ])
    refine wpAnyH_take (i := 17) (oi := oLa17) (v := .pointer (some ⟨w.heap.size + 1, 1, none⟩)) rfl (by kernel_rfl) (by kernel_rfl) (by kernel_rfl) (fun _ _ _ h => h) (Or.inl ⟨by rfl, ?_⟩) hHeld0 ?_
    · intro w' hSw; (try dsimp only at hSw); dsimp only [oLa17]; go_simp
    (try simp only [oLa17, Act.put, List.setIfInBounds_toArray, List.set_cons_zero, List.set_cons_succ])
    refine wpAnyH_take (i := 18) (oi := oLa18) (v := .slice (some ⟨fb, fo, none⟩) 2 fq) rfl (by kernel_rfl) (by kernel_rfl) (by kernel_rfl) (fun _ _ _ h => h) (Or.inl ⟨by rfl, ?_⟩) hHeld0 ?_
    · intro w' hSw; (try dsimp only at hSw); dsimp only [oLa18]; go_simp
    (try simp only [oLa18, Act.put, List.setIfInBounds_toArray, List.set_cons_zero, List.set_cons_succ])
    refine wpAnyH_take (i := 19) (oi := oLa19) (v := .pointer (some ⟨fb, fo, none⟩)) rfl (by kernel_rfl) (by kernel_rfl) (by kernel_rfl) (fun _ _ _ h => h) (Or.inl ⟨by rfl, ?_⟩) hHeld0 ?_
    · intro w' hSw; (try dsimp only at hSw); dsimp only [oLa19]; go_simp
    (try simp only [oLa19, Act.put, List.setIfInBounds_toArray, List.set_cons_zero, List.set_cons_succ])
    refine wpAnyH_take (i := 20) (oi := oLa20) (v := .agg #[.int .i64 fk0, .slice fa0 fn0 fq0]) rfl (by kernel_rfl) (by kernel_rfl) (by kernel_rfl) (fun _ _ _ h => h) (Or.inl ⟨by rfl, ?_⟩) hHeld0 ?_
    · intro w' hSw; (try dsimp only at hSw); dsimp only [oLa20]; go_simp
    (try simp only [oLa20, Act.put, List.setIfInBounds_toArray, List.set_cons_zero, List.set_cons_succ])
    refine wpAnyH_ready (rs := [21]) (by kernel_rfl) (by simp) ?_
    refine AllReadyH.cons (o := oLa21) rfl (fun K hK => ?_) AllReadyH.nil
    dsimp only [oLa21]
    go_simp
    go_at_call 40
    (with_reducible refine (H0.out _ bal3.drew).mono ?_)
    rintro e w3 ⟨rfl, hb3⟩
    rw [Hq1.out]
    go_wp2_with fail
    refine hK.out _ _ ?_ (fun hHeld1 => ?_)
    · exact ⟨bcell hb3 (dcell (s0_)), bcell hb3 (dcell (s1_)), bcell hb3 (dcell (s2_)), bcell hb3 (dcell (s3_)), bcell hb3 (dcell (s4_)), bcell hb3 (dcell (s5_)), bcell hb3 (dcell (s6_)), bcell hb3 (dcell (s7_)), bcell hb3 (dcell (s8_)), bcell hb3 (dcell (s9_)), bcell hb3 (dcell (s10_)), bcell hb3 (dcell (s11_)), bcell hb3 (dcell (s12_))⟩
    clear hK K hHeld0
    (try simp only [oLa21, Act.put, List.setIfInBounds_toArray, List.set_cons_zero, List.set_cons_succ])
    refine wpAnyH_take (i := 22) (oi := oLa22) (v := .bool false) rfl (by kernel_rfl) (by kernel_rfl) (by kernel_rfl) (fun _ _ _ h => h) (Or.inl ⟨by rfl, ?_⟩) hHeld1 ?_
    · intro w' hSw; (try dsimp only at hSw); dsimp only [oLa22]; go_simp
    (try simp only [oLa22, Act.put, List.setIfInBounds_toArray, List.set_cons_zero, List.set_cons_succ])
    refine wpAnyH_take (i := 23) (oi := oLa23) (v := .bool false) rfl (by kernel_rfl) (by kernel_rfl) (by kernel_rfl) (fun _ _ _ h => h) (Or.inl ⟨by rfl, ?_⟩) hHeld1 ?_
    · intro w' hSw; (try dsimp only at hSw); dsimp only [oLa23]; go_simp
    (try simp only [oLa23, Act.put, List.setIfInBounds_toArray, List.set_cons_zero, List.set_cons_succ])
    refine wpAnyH_take (i := 24) (oi := oLa24) (v := undef) rfl (by kernel_rfl) (by kernel_rfl) (by kernel_rfl) (fun _ _ _ h => h) (Or.inr ⟨by rfl, rfl⟩) hHeld1 ?_
    (try simp only [oLa24, Act.put, List.setIfInBounds_toArray, List.set_cons_zero, List.set_cons_succ])
    refine wpAnyH_take (i := 25) (oi := oLa25) (v := undef) rfl (by kernel_rfl) (by kernel_rfl) (by kernel_rfl) (fun _ _ _ h => h) (Or.inr ⟨by rfl, rfl⟩) hHeld1 ?_
    (try simp only [oLa25, Act.put, List.setIfInBounds_toArray, List.set_cons_zero, List.set_cons_succ])
    refine wpAnyH_take (i := 26) (oi := oLa26) (v := undef) rfl (by kernel_rfl) (by kernel_rfl) (by kernel_rfl) (fun _ _ _ h => h) (Or.inr ⟨by rfl, rfl⟩) hHeld1 ?_
    (try simp only [oLa26, Act.put, List.setIfInBounds_toArray, List.set_cons_zero, List.set_cons_succ])
    refine wpAnyH_take (i := 27) (oi := oLa27) (v := undef) rfl (by kernel_rfl) (by kernel_rfl) (by kernel_rfl) (fun _ _ _ h => h) (Or.inr ⟨by rfl, rfl⟩) hHeld1 ?_
    (try simp only [oLa27, Act.put, List.setIfInBounds_toArray, List.set_cons_zero, List.set_cons_succ])
    refine wpAnyH_take (i := 28) (oi := oLa28) (v := undef) rfl (by kernel_rfl) (by kernel_rfl) (by kernel_rfl) (fun _ _ _ h => h) (Or.inr ⟨by rfl, rfl⟩) hHeld1 ?_
    (try simp only [oLa28, Act.put, List.setIfInBounds_toArray, List.set_cons_zero, List.set_cons_succ])
    refine wpAnyH_take (i := 29) (oi := oLa29) (v := undef) rfl (by kernel_rfl) (by kernel_rfl) (by kernel_rfl) (fun _ _ _ h => h) (Or.inr ⟨by rfl, rfl⟩) hHeld1 ?_
    (try simp only [oLa29, Act.put, List.setIfInBounds_toArray, List.set_cons_zero, List.set_cons_succ])
    refine wpAnyH_take (i := 30) (oi := oLa30) (v := undef) rfl (by kernel_rfl) (by kernel_rfl) (by kernel_rfl) (fun _ _ _ h => h) (Or.inr ⟨by rfl, rfl⟩) hHeld1 ?_
    (try simp only [oLa30, Act.put, List.setIfInBounds_toArray, List.set_cons_zero, List.set_cons_succ])
    refine wpAnyH_take (i := 31) (oi := oLa31) (v := undef) rfl (by kernel_rfl) (by kernel_rfl) (by kernel_rfl) (fun _ _ _ h => h) (Or.inr ⟨by rfl, rfl⟩) hHeld1 ?_
    (try simp only [oLa31, Act.put, List.setIfInBounds_toArray, List.set_cons_zero, List.set_cons_succ])
    refine wpAnyH_take (i := 32) (oi := oLa32) (v := undef) rfl (by kernel_rfl) (by kernel_rfl) (by kernel_rfl) (fun _ _ _ h => h) (Or.inr ⟨by rfl, rfl⟩) hHeld1 ?_
    (try simp only [oLa32, Act.put, List.setIfInBounds_toArray, List.set_cons_zero, List.set_cons_succ])
    refine wpAnyH_take (i := 33) (oi := oLa33) (v := undef) rfl (by kernel_rfl) (by kernel_rfl) (by kernel_rfl) (fun _ _ _ h => h) (Or.inr ⟨by rfl, rfl⟩) hHeld1 ?_
    (try simp only [oLa33, Act.put, List.setIfInBounds_toArray, List.set_cons_zero, List.set_cons_succ])
    refine wpAnyH_take (i := 34) (oi := oLa34) (v := undef) rfl (by kernel_rfl) (by kernel_rfl) (by kernel_rfl) (fun _ _ _ h => h) (Or.inr ⟨by rfl, rfl⟩) hHeld1 ?_
    (try simp only [oLa34, Act.put, List.setIfInBounds_toArray, List.set_cons_zero, List.set_cons_succ])
    refine wpAnyH_take (i := 35) (oi := oLa35) (v := undef) rfl (by kernel_rfl) (by kernel_rfl) (by kernel_rfl) (fun _ _ _ h => h) (Or.inr ⟨by rfl, rfl⟩) hHeld1 ?_
    (try simp only [oLa35, Act.put, List.setIfInBounds_toArray, List.set_cons_zero, List.set_cons_succ])
    refine wpAnyH_take (i := 36) (oi := oLa36) (v := undef) rfl (by kernel_rfl) (by kernel_rfl) (by kernel_rfl) (fun _ _ _ h => h) (Or.inr ⟨by rfl, rfl⟩) hHeld1 ?_
    (try simp only [oLa36, Act.put, List.setIfInBounds_toArray, List.set_cons_zero, List.set_cons_succ])
    refine wpAnyH_take (i := 37) (oi := oLa37) (v := .bool false) rfl (by kernel_rfl) (by kernel_rfl) (by kernel_rfl) (fun _ _ _ h => h) (Or.inl ⟨by rfl, ?_⟩) hHeld1 ?_
    · intro w' hSw; (try dsimp only at hSw); dsimp only [oLa37]; go_simp
    (try simp only [oLa37, Act.put, List.setIfInBounds_toArray, List.set_cons_zero, List.set_cons_succ])
    refine wpAnyH_take (i := 38) (oi := oLa38) (v := .bool false) rfl (by kernel_rfl) (by kernel_rfl) (by kernel_rfl) (fun _ _ _ h => h) (Or.inl ⟨by rfl, ?_⟩) hHeld1 ?_
    · intro w' hSw; (try dsimp only at hSw); dsimp only [oLa38]; go_simp
    (try simp only [oLa38, Act.put, List.setIfInBounds_toArray, List.set_cons_zero, List.set_cons_succ])
    refine wpAnyH_done (by kernel_rfl) ?_ _
    refine NoPanic.normal ?_
    clear hHeld1 s0_ s1_ s2_ s3_ s4_ s5_ s6_ s7_ s8_ s9_ s10_ s11_ s12_
    have hB := (bstep bal3.drew hb3)
    have zw3 := hB.size
    go_wp2_with fail
    refine bodyPost_ret (v := .bool (false)) (by simp [results, Try.results40, go_sem, bne]) rfl ?_
    exact ⟨ret_bool ((leaf_ldimpl2k_6 r0 r1 Hq1.out).trans HT.out), hB⟩
end Go.Proofs.Ythhdjacdalehoaa
