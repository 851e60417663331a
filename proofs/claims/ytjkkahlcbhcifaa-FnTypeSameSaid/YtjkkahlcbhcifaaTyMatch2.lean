/-
  MatchFun and MatchPair of the program and of the reference.
-/
import Derived.Test.YtjkkahlcbhcifaaTyMatch
namespace Go.Proofs.Ytjkkahlcbhcifaa
open Go.RowKit
set_option linter.unusedVariables false
set_option linter.unusedSimpArgs false
set_option maxRecDepth 100000

def matT (k : Int) (i : Nat) (t : Ty) : Ty := if t.valid = true then (if t.kind = k then t.kids.getD i Ty.none else if t.kind = 1 then .mk 1 [] else Ty.none) else Ty.none
def matB (k : Int) (t : Ty) : Bool := t.valid && (t.kind == k || t.kind == 1)
theorem S.ty_none : S.zero.ty = Ty.none := rfl
theorem matT_cnt (k : Int) (i : Nat) (t : Ty) : (matT k i t).cnt ≤ 1048576 := by
  unfold matT
  split
  · rename_i hv
    have hc := Ty.cnt_valid hv
    split
    · rw [List.getD_eq_getElem?_getD]
      cases hx : t.kids[i]? with
      | none => simp [Ty.none, Ty.cnt, Ty.cnts]
      | some x =>
        have := Ty.cnt_kid (List.mem_of_getElem? hx)
        simp; omega
    · split <;> simp [Ty.none, Ty.cnt, Ty.cnts]
  · simp [Ty.none, Ty.cnt, Ty.cnts]
theorem matT_S (s : S) (k : Int) (hk : k = 4 ∨ k = 5) (hv : s.ty.valid = true) : matT k 0 s.ty = (s.mat k).1.ty ∧ matT k 1 s.ty = (s.mat k).2.1.ty ∧ matB k s.ty = (s.mat k).2.2 := by
  unfold matT matB
  rw [hv]
  rcases hk with rfl | rfl <;> cases s <;> simp [S.ty, S.mat, Ty.kind, Ty.kids, S.ty_none, Ty.none]

set_option maxHeartbeats 4000000 in
theorem implMatched_bad (F : Nat → Prop) (t : Ty) (k : Int) (y : Value) (w : World) (h1 : TyRep F w t y) (hv : t.valid = false) :
    Calls Try.prog 123 #[y, .int .i64 k] w (RetTy2B Ty.none Ty.none false w) := by
  obtain ⟨k1, a1, n1, q1, rfl⟩ := h1.shape
  have HV := Lib.hid hv
  clear hv
  go_enter Try.func123, Try.ntmps123
  go_wp2_with fail
  refine (implTypeValid _ t _ _ (h1.below bal3)).mono ?_
  rintro e w1 ⟨rfl, hb1⟩
  rw [HV.out]
  have hB := (bstep bal3 hb1)
  have zw1 := hB.size
  have f1_0 : w1.frozen? ⟨w.heap.size + 1, 0, none⟩ = false := bfroc hb1 (bcell bal1 (cell_new (by simp) 0)) (bfroc bal1 (cell_new (by simp) 0) (fro_new (by simp) 0))
  have f1_1 : w1.frozen? ⟨w.heap.size + 1, 1, none⟩ = false := bfroc hb1 (bcell bal1 (cell_new (by simp) 1)) (bfroc bal1 (cell_new (by simp) 1) (fro_new (by simp) 1))
  have f2_0 : w1.frozen? ⟨w.heap.size + 1 + 1, 0, none⟩ = false := bfroc hb1 (cell_new (by simp) 0) (fro_new (by simp) 0)
  have f2_1 : w1.frozen? ⟨w.heap.size + 1 + 1, 1, none⟩ = false := bfroc hb1 (cell_new (by simp) 1) (fro_new (by simp) 1)
  have c1_0 : w1.cell? ⟨w.heap.size + 1, 0, none⟩ = some (.int .i64 0) := bcell hb1 (bcell bal1 (cell_new (by simp) 0))
  have c1_1 : w1.cell? ⟨w.heap.size + 1, 1, none⟩ = some (.slice none 0 0) := bcell hb1 (bcell bal1 (cell_new (by simp) 1))
  have c2_0 : w1.cell? ⟨w.heap.size + 1 + 1, 0, none⟩ = some (.int .i64 0) := bcell hb1 (cell_new (by simp) 0)
  have c2_1 : w1.cell? ⟨w.heap.size + 1 + 1, 1, none⟩ = some (.slice none 0 0) := bcell hb1 (cell_new (by simp) 1)
  have d1_w1 := World.block_lt_of_cell? _ _ c1_0
  have d2_w1 := World.block_lt_of_cell? _ _ c2_0
  go_wp2_with fail
  refine bodyPost_ret (v := .tuple #[.agg #[.int .i64 0, .slice none 0 0], .agg #[.int .i64 0, .slice none 0 0], .bool false]) (by simp [results, Try.results123, go_sem, c1_0, c1_1, c2_0, c2_1]) rfl ?_
  exact ⟨_, _, rfl, Ty2New.mono Ty2New.zero (Nat.le_refl _), ((((hB.setCell (by show w.heap.size ≤ w.heap.size + 1; omega) _).setCell (by show w.heap.size ≤ w.heap.size + 1; omega) _).setCell (by show w.heap.size ≤ w.heap.size + 1 + 1; omega) _).setCell (by show w.heap.size ≤ w.heap.size + 1 + 1; omega) _)⟩

theorem implMatched (F : Nat → Prop) (t : Ty) (k : Int) (hk : k = 4 ∨ k = 5) (y : Value) (w : World) (h : TyRep F w t y) :
    Calls Try.prog 123 #[y, .int .i64 k] w (RetTy2B (matT k 0 t) (matT k 1 t) (matB k t) w) := by
  cases hv : t.valid
  · have e0 : matT k 0 t = Ty.none := by simp [matT, hv]
    have e1 : matT k 1 t = Ty.none := by simp [matT, hv]
    have e2 : matB k t = false := by simp [matB, hv]
    rw [e0, e1, e2]
    exact implMatched_bad F t k y w h hv
  · obtain ⟨s, rfl, -⟩ := Ty.valid_S hv
    obtain ⟨e0, e1, e2⟩ := matT_S s k hk hv
    rw [e0, e1, e2]
    exact implMatched_S F s k hk y w h hv
set_option maxHeartbeats 4000000 in
theorem implMatchFun (F : Nat → Prop) (t : Ty) (y : Value) (w : World) (h1 : TyRep F w t y) :
    Calls Try.prog 76 #[y] w (RetTy2B (matT 4 0 t) (matT 4 1 t) (matB 4 t) w) := by
  obtain ⟨k1, a1, n1, q1, rfl⟩ := h1.shape
  go_enter Try.func76, Try.ntmps76
  go_wp2_with fail
  refine (implMatched _ t 4 (by decide) _ _ (h1.below bal3)).mono ?_
  rintro e w1 ⟨v1, u1, rfl, hp1, hb1⟩
  obtain ⟨kr1, ar1, nr1, qr1, ks1, as1, ns1, qs1, rfl, rfl⟩ := hp1.shape
  have hB := (bstep bal3 hb1)
  have zw1 := hB.size
  have f1_0 : w1.frozen? ⟨w.heap.size + 1, 0, none⟩ = false := bfroc hb1 (bcell bal1 (cell_new (by simp) 0)) (bfroc bal1 (cell_new (by simp) 0) (fro_new (by simp) 0))
  have f1_1 : w1.frozen? ⟨w.heap.size + 1, 1, none⟩ = false := bfroc hb1 (bcell bal1 (cell_new (by simp) 1)) (bfroc bal1 (cell_new (by simp) 1) (fro_new (by simp) 1))
  have f2_0 : w1.frozen? ⟨w.heap.size + 1 + 1, 0, none⟩ = false := bfroc hb1 (cell_new (by simp) 0) (fro_new (by simp) 0)
  have f2_1 : w1.frozen? ⟨w.heap.size + 1 + 1, 1, none⟩ = false := bfroc hb1 (cell_new (by simp) 1) (fro_new (by simp) 1)
  have c1_0 : w1.cell? ⟨w.heap.size + 1, 0, none⟩ = some (.int .i64 0) := bcell hb1 (bcell bal1 (cell_new (by simp) 0))
  have c1_1 : w1.cell? ⟨w.heap.size + 1, 1, none⟩ = some (.slice none 0 0) := bcell hb1 (bcell bal1 (cell_new (by simp) 1))
  have c2_0 : w1.cell? ⟨w.heap.size + 1 + 1, 0, none⟩ = some (.int .i64 0) := bcell hb1 (cell_new (by simp) 0)
  have c2_1 : w1.cell? ⟨w.heap.size + 1 + 1, 1, none⟩ = some (.slice none 0 0) := bcell hb1 (cell_new (by simp) 1)
  have d1_w1 := World.block_lt_of_cell? _ _ c1_0
  have d2_w1 := World.block_lt_of_cell? _ _ c2_0
  go_wp2_with fail
  refine bodyPost_ret (v := .tuple #[.agg #[.int .i64 kr1, .slice ar1 nr1 qr1], .agg #[.int .i64 ks1, .slice as1 ns1 qs1], .bool (matB 4 t)]) (by simp [results, Try.results76, go_sem, c1_0, c1_1, c2_0, c2_1]) rfl ?_
  exact ⟨_, _, rfl, Ty2New.mono ((((hp1.setCell (by first | (show w.heap.size + 1 < _; omega) | (show w.heap.size + 1 < _; simp; omega) | simp) _).setCell (by first | (show w.heap.size + 1 < _; omega) | (show w.heap.size + 1 < _; simp; omega) | simp) _).setCell (by first | (show w.heap.size + 1 + 1 < _; omega) | (show w.heap.size + 1 + 1 < _; simp; omega) | simp) _).setCell (by first | (show w.heap.size + 1 + 1 < _; omega) | (show w.heap.size + 1 + 1 < _; simp; omega) | simp) _) (by first | exact Nat.le_refl _ | omega | (simp; done) | (simp; omega)), ((((hB.setCell (by show w.heap.size ≤ w.heap.size + 1; omega) _).setCell (by show w.heap.size ≤ w.heap.size + 1; omega) _).setCell (by show w.heap.size ≤ w.heap.size + 1 + 1; omega) _).setCell (by show w.heap.size ≤ w.heap.size + 1 + 1; omega) _)⟩

set_option maxHeartbeats 4000000 in
theorem implMatchPair (F : Nat → Prop) (t : Ty) (y : Value) (w : World) (h1 : TyRep F w t y) :
    Calls Try.prog 74 #[y] w (RetTy2B (matT 5 0 t) (matT 5 1 t) (matB 5 t) w) := by
  obtain ⟨k1, a1, n1, q1, rfl⟩ := h1.shape
  go_enter Try.func74, Try.ntmps74
  go_wp2_with fail
  refine (implMatched _ t 5 (by decide) _ _ (h1.below bal3)).mono ?_
  rintro e w1 ⟨v1, u1, rfl, hp1, hb1⟩
  obtain ⟨kr1, ar1, nr1, qr1, ks1, as1, ns1, qs1, rfl, rfl⟩ := hp1.shape
  have hB := (bstep bal3 hb1)
  have zw1 := hB.size
  have f1_0 : w1.frozen? ⟨w.heap.size + 1, 0, none⟩ = false := bfroc hb1 (bcell bal1 (cell_new (by simp) 0)) (bfroc bal1 (cell_new (by simp) 0) (fro_new (by simp) 0))
  have f1_1 : w1.frozen? ⟨w.heap.size + 1, 1, none⟩ = false := bfroc hb1 (bcell bal1 (cell_new (by simp) 1)) (bfroc bal1 (cell_new (by simp) 1) (fro_new (by simp) 1))
  have f2_0 : w1.frozen? ⟨w.heap.size + 1 + 1, 0, none⟩ = false := bfroc hb1 (cell_new (by simp) 0) (fro_new (by simp) 0)
  have f2_1 : w1.frozen? ⟨w.heap.size + 1 + 1, 1, none⟩ = false := bfroc hb1 (cell_new (by simp) 1) (fro_new (by simp) 1)
  have c1_0 : w1.cell? ⟨w.heap.size + 1, 0, none⟩ = some (.int .i64 0) := bcell hb1 (bcell bal1 (cell_new (by simp) 0))
  have c1_1 : w1.cell? ⟨w.heap.size + 1, 1, none⟩ = some (.slice none 0 0) := bcell hb1 (bcell bal1 (cell_new (by simp) 1))
  have c2_0 : w1.cell? ⟨w.heap.size + 1 + 1, 0, none⟩ = some (.int .i64 0) := bcell hb1 (cell_new (by simp) 0)
  have c2_1 : w1.cell? ⟨w.heap.size + 1 + 1, 1, none⟩ = some (.slice none 0 0) := bcell hb1 (cell_new (by simp) 1)
  have d1_w1 := World.block_lt_of_cell? _ _ c1_0
  have d2_w1 := World.block_lt_of_cell? _ _ c2_0
  go_wp2_with fail
  refine bodyPost_ret (v := .tuple #[.agg #[.int .i64 kr1, .slice ar1 nr1 qr1], .agg #[.int .i64 ks1, .slice as1 ns1 qs1], .bool (matB 5 t)]) (by simp [results, Try.results74, go_sem, c1_0, c1_1, c2_0, c2_1]) rfl ?_
  exact ⟨_, _, rfl, Ty2New.mono ((((hp1.setCell (by first | (show w.heap.size + 1 < _; omega) | (show w.heap.size + 1 < _; simp; omega) | simp) _).setCell (by first | (show w.heap.size + 1 < _; omega) | (show w.heap.size + 1 < _; simp; omega) | simp) _).setCell (by first | (show w.heap.size + 1 + 1 < _; omega) | (show w.heap.size + 1 + 1 < _; simp; omega) | simp) _).setCell (by first | (show w.heap.size + 1 + 1 < _; omega) | (show w.heap.size + 1 + 1 < _; simp; omega) | simp) _) (by first | exact Nat.le_refl _ | omega | (simp; done) | (simp; omega)), ((((hB.setCell (by show w.heap.size ≤ w.heap.size + 1; omega) _).setCell (by show w.heap.size ≤ w.heap.size + 1; omega) _).setCell (by show w.heap.size ≤ w.heap.size + 1 + 1; omega) _).setCell (by show w.heap.size ≤ w.heap.size + 1 + 1; omega) _)⟩

set_option maxHeartbeats 4000000 in
theorem specMatch_eq (F : Nat → Prop) (k : Int) (t1 t2 : Ty) (y : Value) (w : World) (hy : TyRep F w (.mk k [t1, t2]) y) (hk : (k == 1) = false) (hc1 : t1.cnt ≤ 1048576) (hc2 : t2.cnt ≤ 1048576) :
    Calls Try.prog 124 #[.int .i64 k, y] w (RetTy2B t1 t2 true w) := by
  obtain ⟨ys, rfl, hys⟩ := hy
  obtain ⟨b, off, cap, k1, c1, m1, q1, k2, c2, m2, q2, rfl, g2, g3, hb, e0, e1, e2, e3, ht1, ht2⟩ := TysRep.two hys
  simp only [Ty.kind, Ty.kids] at *
  have Ht1 := Lib.hid hc1
  have Ht2 := Lib.hid hc2
  clear hys hc1 hc2
  go_enter Try.func124, Try.ntmps124
  go_wp2_with fail
  have s0_ : (World.alloc (World.alloc (World.alloc w (Obj.cells #[.int .i64 k, .slice (some ⟨b, off, none⟩) 2 cap] 29)) (Obj.cells #[.int .i64 0, .slice none 0 0] 29)) (Obj.cells #[.int .i64 0, .slice none 0 0] 29)).cell? ⟨w.heap.size, 1, none⟩ = some (.slice (some ⟨b, off, none⟩) 2 cap) := bcell bal1 (bcell bal1 (cell_new (by simp) 1))
  have s1_ : (World.alloc (World.alloc (World.alloc w (Obj.cells #[.int .i64 k, .slice (some ⟨b, off, none⟩) 2 cap] 29)) (Obj.cells #[.int .i64 0, .slice none 0 0] 29)) (Obj.cells #[.int .i64 0, .slice none 0 0] 29)).cell? ⟨b, off, none⟩ = some (.int .i64 k1) := bcell bal1 (bcell bal1 (bcell bal1 (e0)))
  have s2_ : (World.alloc (World.alloc (World.alloc w (Obj.cells #[.int .i64 k, .slice (some ⟨b, off, none⟩) 2 cap] 29)) (Obj.cells #[.int .i64 0, .slice none 0 0] 29)) (Obj.cells #[.int .i64 0, .slice none 0 0] 29)).cell? ⟨b, off + 1, none⟩ = some (.slice c1 m1 q1) := bcell bal1 (bcell bal1 (bcell bal1 (e1)))
  have s3_ : (World.alloc (World.alloc (World.alloc w (Obj.cells #[.int .i64 k, .slice (some ⟨b, off, none⟩) 2 cap] 29)) (Obj.cells #[.int .i64 0, .slice none 0 0] 29)) (Obj.cells #[.int .i64 0, .slice none 0 0] 29)).cell? ⟨b, off + 2, none⟩ = some (.int .i64 k2) := bcell bal1 (bcell bal1 (bcell bal1 (e2)))
  have s4_ : (World.alloc (World.alloc (World.alloc w (Obj.cells #[.int .i64 k, .slice (some ⟨b, off, none⟩) 2 cap] 29)) (Obj.cells #[.int .i64 0, .slice none 0 0] 29)) (Obj.cells #[.int .i64 0, .slice none 0 0] 29)).cell? ⟨b, off + 3, none⟩ = some (.slice c2 m2 q2) := bcell bal1 (bcell bal1 (bcell bal1 (e3)))
  go_region_held3 (fun w' => w'.cell? ⟨w.heap.size, 1, none⟩ = some (.slice (some ⟨b, off, none⟩) 2 cap) ∧ w'.cell? ⟨b, off, none⟩ = some (.int .i64 k1) ∧ w'.cell? ⟨b, off + 1, none⟩ = some (.slice c1 m1 q1) ∧ w'.cell? ⟨b, off + 2, none⟩ = some (.int .i64 k2) ∧ w'.cell? ⟨b, off + 3, none⟩ = some (.slice c2 m2 q2))
    (first | with_reducible exact ⟨dcell (s0_), dcell (s1_), dcell (s2_), dcell (s3_), dcell (s4_)⟩ | with_reducible exact ⟨bcell hb1 (dcell (s0_)), bcell hb1 (dcell (s1_)), bcell hb1 (dcell (s2_)), bcell hb1 (dcell (s3_)), bcell hb1 (dcell (s4_))⟩ | with_reducible exact ⟨bcell hb2 (bcell hb1 (dcell (s0_))), bcell hb2 (bcell hb1 (dcell (s1_))), bcell hb2 (bcell hb1 (dcell (s2_))), bcell hb2 (bcell hb1 (dcell (s3_))), bcell hb2 (bcell hb1 (dcell (s4_)))⟩ | with_reducible exact ⟨sc_blk (sc_blk (bcell hb2 (bcell hb1 (dcell (s0_)))) (by show w.heap.size ≠ w.heap.size + 1; omega)) (by show w.heap.size ≠ w.heap.size + 1; omega), sc_blk (sc_blk (bcell hb2 (bcell hb1 (dcell (s1_)))) (by show b ≠ w.heap.size + 1; omega)) (by show b ≠ w.heap.size + 1; omega), sc_blk (sc_blk (bcell hb2 (bcell hb1 (dcell (s2_)))) (by show b ≠ w.heap.size + 1; omega)) (by show b ≠ w.heap.size + 1; omega), sc_blk (sc_blk (bcell hb2 (bcell hb1 (dcell (s3_)))) (by show b ≠ w.heap.size + 1; omega)) (by show b ≠ w.heap.size + 1; omega), sc_blk (sc_blk (bcell hb2 (bcell hb1 (dcell (s4_)))) (by show b ≠ w.heap.size + 1; omega)) (by show b ≠ w.heap.size + 1; omega)⟩ | with_reducible exact ⟨sc_blk (sc_blk (sc_blk (sc_blk (bcell hb2 (bcell hb1 (dcell (s0_)))) (by show w.heap.size ≠ w.heap.size + 1; omega)) (by show w.heap.size ≠ w.heap.size + 1; omega)) (by show w.heap.size ≠ w.heap.size + 1 + 1; omega)) (by show w.heap.size ≠ w.heap.size + 1 + 1; omega), sc_blk (sc_blk (sc_blk (sc_blk (bcell hb2 (bcell hb1 (dcell (s1_)))) (by show b ≠ w.heap.size + 1; omega)) (by show b ≠ w.heap.size + 1; omega)) (by show b ≠ w.heap.size + 1 + 1; omega)) (by show b ≠ w.heap.size + 1 + 1; omega), sc_blk (sc_blk (sc_blk (sc_blk (bcell hb2 (bcell hb1 (dcell (s2_)))) (by show b ≠ w.heap.size + 1; omega)) (by show b ≠ w.heap.size + 1; omega)) (by show b ≠ w.heap.size + 1 + 1; omega)) (by show b ≠ w.heap.size + 1 + 1; omega), sc_blk (sc_blk (sc_blk (sc_blk (bcell hb2 (bcell hb1 (dcell (s3_)))) (by show b ≠ w.heap.size + 1; omega)) (by show b ≠ w.heap.size + 1; omega)) (by show b ≠ w.heap.size + 1 + 1; omega)) (by show b ≠ w.heap.size + 1 + 1; omega), sc_blk (sc_blk (sc_blk (sc_blk (bcell hb2 (bcell hb1 (dcell (s4_)))) (by show b ≠ w.heap.size + 1; omega)) (by show b ≠ w.heap.size + 1; omega)) (by show b ≠ w.heap.size + 1 + 1; omega)) (by show b ≠ w.heap.size + 1 + 1; omega)⟩)
    (first | (go_at_call 136; ((with_reducible refine (specL1Copy _ t1 _ _ (ht1.below bal3.drew) Ht1.out).mono ?_); rintro e w1 ⟨v1, rfl, hv1, hb1⟩; obtain ⟨kr1, ar1, nr1, qr1, rfl⟩ := hv1.shape)) | (go_at_call 136; ((with_reducible refine (specL1Copy _ t2 _ _ (ht2.below (bstep bal3.drew hb1)) Ht2.out).mono ?_); rintro e w2 ⟨v2, rfl, hv2, hb2⟩; obtain ⟨kr2, ar2, nr2, qr2, rfl⟩ := hv2.shape; have hp2 := Ty2New.mk hv1 hb1.size hb2 hv2; have f1_0 : w2.frozen? ⟨w.heap.size + 1, 0, none⟩ = false := bfroc hb2 (bcell hb1 (dcell (bcell bal1 (cell_new (by simp) 0)))) (bfroc hb1 (dcell (bcell bal1 (cell_new (by simp) 0))) (dfro (bfroc bal1 (cell_new (by simp) 0) (fro_new (by simp) 0)))); have c1_0' : w2.cell? ⟨w.heap.size + 1, 0, none⟩ = some (.int .i64 0) := bcell hb2 (bcell hb1 (dcell (bcell bal1 (cell_new (by simp) 0)))); have d1_ := World.block_lt_of_cell? _ _ c1_0'; have f1_1 : w2.frozen? ⟨w.heap.size + 1, 1, none⟩ = false := bfroc hb2 (bcell hb1 (dcell (bcell bal1 (cell_new (by simp) 1)))) (bfroc hb1 (dcell (bcell bal1 (cell_new (by simp) 1))) (dfro (bfroc bal1 (cell_new (by simp) 1) (fro_new (by simp) 1)))); have c1_1' : w2.cell? ⟨w.heap.size + 1, 1, none⟩ = some (.slice none 0 0) := bcell hb2 (bcell hb1 (dcell (bcell bal1 (cell_new (by simp) 1)))); have d1_ := World.block_lt_of_cell? _ _ c1_1'; have f2_0 : w2.frozen? ⟨w.heap.size + 1 + 1, 0, none⟩ = false := bfroc hb2 (bcell hb1 (dcell (cell_new (by simp) 0))) (bfroc hb1 (dcell (cell_new (by simp) 0)) (dfro (fro_new (by simp) 0))); have c2_0' : w2.cell? ⟨w.heap.size + 1 + 1, 0, none⟩ = some (.int .i64 0) := bcell hb2 (bcell hb1 (dcell (cell_new (by simp) 0))); have d2_ := World.block_lt_of_cell? _ _ c2_0'; have f2_1 : w2.frozen? ⟨w.heap.size + 1 + 1, 1, none⟩ = false := bfroc hb2 (bcell hb1 (dcell (cell_new (by simp) 1))) (bfroc hb1 (dcell (cell_new (by simp) 1)) (dfro (fro_new (by simp) 1))); have c2_1' : w2.cell? ⟨w.heap.size + 1 + 1, 1, none⟩ = some (.slice none 0 0) := bcell hb2 (bcell hb1 (dcell (cell_new (by simp) 1))); have d2_ := World.block_lt_of_cell? _ _ c2_1')))
  clear s0_ s1_ s2_ s3_ s4_
  have hB := (bstep (bstep bal3.drew hb1) hb2)
  have zw2 := hB.size
  have c1_0 : w2.cell? ⟨w.heap.size + 1, 0, none⟩ = some (.int .i64 0) := bcell hb2 (bcell hb1 (dcell (bcell bal1 (cell_new (by simp) 0))))
  have c1_1 : w2.cell? ⟨w.heap.size + 1, 1, none⟩ = some (.slice none 0 0) := bcell hb2 (bcell hb1 (dcell (bcell bal1 (cell_new (by simp) 1))))
  have c2_0 : w2.cell? ⟨w.heap.size + 1 + 1, 0, none⟩ = some (.int .i64 0) := bcell hb2 (bcell hb1 (dcell (cell_new (by simp) 0)))
  have c2_1 : w2.cell? ⟨w.heap.size + 1 + 1, 1, none⟩ = some (.slice none 0 0) := bcell hb2 (bcell hb1 (dcell (cell_new (by simp) 1)))
  have d1_w2 := World.block_lt_of_cell? _ _ c1_0
  have d2_w2 := World.block_lt_of_cell? _ _ c2_0
  go_wp2_with fail
  refine bodyPost_ret (v := .tuple #[.agg #[.int .i64 kr1, .slice ar1 nr1 qr1], .agg #[.int .i64 kr2, .slice ar2 nr2 qr2], .bool true]) (by simp [results, Try.results124, go_sem, c1_0, c1_1, c2_0, c2_1]) rfl ?_
  exact ⟨_, _, rfl, Ty2New.mono ((((hp2.setCell (by first | (show w.heap.size + 1 < _; omega) | (show w.heap.size + 1 < _; simp; omega) | simp) _).setCell (by first | (show w.heap.size + 1 < _; omega) | (show w.heap.size + 1 < _; simp; omega) | simp) _).setCell (by first | (show w.heap.size + 1 + 1 < _; omega) | (show w.heap.size + 1 + 1 < _; simp; omega) | simp) _).setCell (by first | (show w.heap.size + 1 + 1 < _; omega) | (show w.heap.size + 1 + 1 < _; simp; omega) | simp) _) (by first | exact Nat.le_refl _ | omega | (simp; done) | (simp; omega)), ((((hB.setCell (by show w.heap.size ≤ w.heap.size + 1; omega) _).setCell (by show w.heap.size ≤ w.heap.size + 1; omega) _).setCell (by show w.heap.size ≤ w.heap.size + 1 + 1; omega) _).setCell (by show w.heap.size ≤ w.heap.size + 1 + 1; omega) _)⟩

set_option maxHeartbeats 4000000 in
theorem specMatch_any (F : Nat → Prop) (k : Int) (t : Ty) (y : Value) (w : World) (hy : TyRep F w t y) (ht : t.kind = 1) :
    Calls Try.prog 124 #[.int .i64 k, y] w (RetTy2B (.mk 1 []) (.mk 1 []) true w) := by
  obtain ⟨k1, a1, n1, q1, rfl⟩ := hy.shape
  obtain rfl : k1 = 1 := by obtain ⟨s, he, -⟩ := hy; simp at he; rw [he.1]; exact ht
  go_enter Try.func124, Try.ntmps124
  go_wp2_with fail
  refine (specL1Any _).mono ?_
  rintro e w1 ⟨v1, rfl, hv1, hb1⟩
  obtain ⟨kr1, ar1, nr1, qr1, rfl⟩ := hv1.shape
  have hB := (bstep bal3 hb1)
  have zw1 := hB.size
  have f1_0 : w1.frozen? ⟨w.heap.size + 1, 0, none⟩ = false := bfroc hb1 (bcell bal1 (cell_new (by simp) 0)) (bfroc bal1 (cell_new (by simp) 0) (fro_new (by simp) 0))
  have f1_1 : w1.frozen? ⟨w.heap.size + 1, 1, none⟩ = false := bfroc hb1 (bcell bal1 (cell_new (by simp) 1)) (bfroc bal1 (cell_new (by simp) 1) (fro_new (by simp) 1))
  have f2_0 : w1.frozen? ⟨w.heap.size + 1 + 1, 0, none⟩ = false := bfroc hb1 (cell_new (by simp) 0) (fro_new (by simp) 0)
  have f2_1 : w1.frozen? ⟨w.heap.size + 1 + 1, 1, none⟩ = false := bfroc hb1 (cell_new (by simp) 1) (fro_new (by simp) 1)
  have c1_0 : w1.cell? ⟨w.heap.size + 1, 0, none⟩ = some (.int .i64 0) := bcell hb1 (bcell bal1 (cell_new (by simp) 0))
  have c1_1 : w1.cell? ⟨w.heap.size + 1, 1, none⟩ = some (.slice none 0 0) := bcell hb1 (bcell bal1 (cell_new (by simp) 1))
  have c2_0 : w1.cell? ⟨w.heap.size + 1 + 1, 0, none⟩ = some (.int .i64 0) := bcell hb1 (cell_new (by simp) 0)
  have c2_1 : w1.cell? ⟨w.heap.size + 1 + 1, 1, none⟩ = some (.slice none 0 0) := bcell hb1 (cell_new (by simp) 1)
  have d1_w1 := World.block_lt_of_cell? _ _ c1_0
  have d2_w1 := World.block_lt_of_cell? _ _ c2_0
  go_wp2_with fail
  refine (specL1Any _).mono ?_
  rintro e w2 ⟨v2, rfl, hv2, hb2⟩
  obtain ⟨kr2, ar2, nr2, qr2, rfl⟩ := hv2.shape
  have hp2 := Ty2New.mk hv1 hb1.size hb2 hv2
  replace hB := (bstep hB hb2)
  have zw2 := hB.size
  replace f1_0 : w2.frozen? ⟨w.heap.size + 1, 0, none⟩ = false := bfroc hb2 (c1_0) (f1_0)
  replace f1_1 : w2.frozen? ⟨w.heap.size + 1, 1, none⟩ = false := bfroc hb2 (c1_1) (f1_1)
  replace f2_0 : w2.frozen? ⟨w.heap.size + 1 + 1, 0, none⟩ = false := bfroc hb2 (c2_0) (f2_0)
  replace f2_1 : w2.frozen? ⟨w.heap.size + 1 + 1, 1, none⟩ = false := bfroc hb2 (c2_1) (f2_1)
  replace c1_0 : w2.cell? ⟨w.heap.size + 1, 0, none⟩ = some (.int .i64 0) := bcell hb2 (c1_0)
  replace c1_1 : w2.cell? ⟨w.heap.size + 1, 1, none⟩ = some (.slice none 0 0) := bcell hb2 (c1_1)
  replace c2_0 : w2.cell? ⟨w.heap.size + 1 + 1, 0, none⟩ = some (.int .i64 0) := bcell hb2 (c2_0)
  replace c2_1 : w2.cell? ⟨w.heap.size + 1 + 1, 1, none⟩ = some (.slice none 0 0) := bcell hb2 (c2_1)
  have d1_w2 := World.block_lt_of_cell? _ _ c1_0
  have d2_w2 := World.block_lt_of_cell? _ _ c2_0
  go_wp2_with fail
  refine bodyPost_ret (v := .tuple #[.agg #[.int .i64 kr1, .slice ar1 nr1 qr1], .agg #[.int .i64 kr2, .slice ar2 nr2 qr2], .bool true]) (by simp [results, Try.results124, go_sem, c1_0, c1_1, c2_0, c2_1]) rfl ?_
  exact ⟨_, _, rfl, Ty2New.mono ((((hp2.setCell (by first | (show w.heap.size + 1 < _; omega) | (show w.heap.size + 1 < _; simp; omega) | simp) _).setCell (by first | (show w.heap.size + 1 < _; omega) | (show w.heap.size + 1 < _; simp; omega) | simp) _).setCell (by first | (show w.heap.size + 1 + 1 < _; omega) | (show w.heap.size + 1 + 1 < _; simp; omega) | simp) _).setCell (by first | (show w.heap.size + 1 + 1 < _; omega) | (show w.heap.size + 1 + 1 < _; simp; omega) | simp) _) (by first | exact Nat.le_refl _ | omega | (simp; done) | (simp; omega)), ((((hB.setCell (by show w.heap.size ≤ w.heap.size + 1; omega) _).setCell (by show w.heap.size ≤ w.heap.size + 1; omega) _).setCell (by show w.heap.size ≤ w.heap.size + 1 + 1; omega) _).setCell (by show w.heap.size ≤ w.heap.size + 1 + 1; omega) _)⟩

set_option maxHeartbeats 4000000 in
theorem specMatch_none (F : Nat → Prop) (k l : Int) (t : Ty) (y : Value) (w : World) (hy : TyRep F w t y) (ht : t.kind = l) (hk : (l != k) = true) (h1 : (l == 1) = false) :
    Calls Try.prog 124 #[.int .i64 k, y] w (RetTy2B Ty.none Ty.none false w) := by
  obtain ⟨l1, a1, n1, q1, rfl⟩ := hy.shape
  obtain rfl : l1 = l := by obtain ⟨s, he, -⟩ := hy; simp at he; rw [he.1]; exact ht
  go_enter Try.func124, Try.ntmps124
  go_wp2_with fail
  refine bodyPost_ret (v := .tuple #[.agg #[.int .i64 0, .slice none 0 0], .agg #[.int .i64 0, .slice none 0 0], .bool false]) (by simp [results, Try.results124, go_sem]) rfl ?_
  exact ⟨_, _, rfl, Ty2New.mono Ty2New.zero (Nat.le_refl _), bal3⟩

theorem specMatch (F : Nat → Prop) (s : S) (k : Int) (hk : k = 4 ∨ k = 5) (hc : s.cnt ≤ 1048576) (y : Value) (w : World) (hy : TyRep F w s.ty y) :
    Calls Try.prog 124 #[.int .i64 k, y] w (RetTy2B (s.mat k).1.ty (s.mat k).2.1.ty (s.mat k).2.2 w) := by
  cases s with
  | any => exact specMatch_any F k _ y w hy rfl
  | fn a b =>
    simp only [S.cnt] at hc
    rcases hk with rfl | rfl
    · exact specMatch_eq F 4 a.ty b.ty y w hy rfl (by rw [S.ty_cnt]; omega) (by rw [S.ty_cnt]; omega)
    · exact specMatch_none F 5 4 _ y w hy rfl rfl rfl
  | pr a b =>
    simp only [S.cnt] at hc
    rcases hk with rfl | rfl
    · exact specMatch_none F 4 5 _ y w hy rfl rfl rfl
    · exact specMatch_eq F 5 a.ty b.ty y w hy rfl (by rw [S.ty_cnt]; omega) (by rw [S.ty_cnt]; omega)
  | zero => exact specMatch_none F k 0 _ y w hy rfl (by rcases hk with rfl | rfl <;> rfl) rfl
  | int => exact specMatch_none F k 2 _ y w hy rfl (by rcases hk with rfl | rfl <;> rfl) rfl
  | bool => exact specMatch_none F k 3 _ y w hy rfl (by rcases hk with rfl | rfl <;> rfl) rfl
theorem specMatchT (F : Nat → Prop) (t : Ty) (k : Int) (hk : k = 4 ∨ k = 5) (hv : t.valid = true) (y : Value) (w : World) (h : TyRep F w t y) :
    Calls Try.prog 124 #[.int .i64 k, y] w (RetTy2B (matT k 0 t) (matT k 1 t) (matB k t) w) := by
  have hc := Ty.cnt_valid hv
  obtain ⟨s, rfl, -⟩ := Ty.valid_S hv
  obtain ⟨e0, e1, e2⟩ := matT_S s k hk hv
  rw [e0, e1, e2]
  exact specMatch F s k hk (by rw [← S.ty_cnt]; exact hc) y w h
set_option maxHeartbeats 4000000 in
theorem specMatchFun (F : Nat → Prop) (t : Ty) (y : Value) (w : World) (h1 : TyRep F w t y) :
    Calls Try.prog 77 #[y] w (RetTy2B (matT 4 0 t) (matT 4 1 t) (matB 4 t) w) := by
  obtain ⟨k1, a1, n1, q1, rfl⟩ := h1.shape
  go_enter Try.func77, Try.ntmps77
  go_wp2_with fail
  refine (specTypeValid _ t _ _ (h1.below bal3)).mono ?_
  rintro e w1 ⟨rfl, hb1⟩
  have hB := (bstep bal3 hb1)
  have zw1 := hB.size
  have f1_0 : w1.frozen? ⟨w.heap.size + 1, 0, none⟩ = false := bfroc hb1 (bcell bal1 (cell_new (by simp) 0)) (bfroc bal1 (cell_new (by simp) 0) (fro_new (by simp) 0))
  have f1_1 : w1.frozen? ⟨w.heap.size + 1, 1, none⟩ = false := bfroc hb1 (bcell bal1 (cell_new (by simp) 1)) (bfroc bal1 (cell_new (by simp) 1) (fro_new (by simp) 1))
  have f2_0 : w1.frozen? ⟨w.heap.size + 1 + 1, 0, none⟩ = false := bfroc hb1 (cell_new (by simp) 0) (fro_new (by simp) 0)
  have f2_1 : w1.frozen? ⟨w.heap.size + 1 + 1, 1, none⟩ = false := bfroc hb1 (cell_new (by simp) 1) (fro_new (by simp) 1)
  have c0_0 : w1.cell? ⟨w.heap.size, 0, none⟩ = some (.int .i64 k1) := bcell hb1 (bcell bal1 (bcell bal1 (cell_new (by simp) 0)))
  have c0_1 : w1.cell? ⟨w.heap.size, 1, none⟩ = some (.slice a1 n1 q1) := bcell hb1 (bcell bal1 (bcell bal1 (cell_new (by simp) 1)))
  have c1_0 : w1.cell? ⟨w.heap.size + 1, 0, none⟩ = some (.int .i64 0) := bcell hb1 (bcell bal1 (cell_new (by simp) 0))
  have c1_1 : w1.cell? ⟨w.heap.size + 1, 1, none⟩ = some (.slice none 0 0) := bcell hb1 (bcell bal1 (cell_new (by simp) 1))
  have c2_0 : w1.cell? ⟨w.heap.size + 1 + 1, 0, none⟩ = some (.int .i64 0) := bcell hb1 (cell_new (by simp) 0)
  have c2_1 : w1.cell? ⟨w.heap.size + 1 + 1, 1, none⟩ = some (.slice none 0 0) := bcell hb1 (cell_new (by simp) 1)
  have d0_w1 := World.block_lt_of_cell? _ _ c0_0
  have d1_w1 := World.block_lt_of_cell? _ _ c1_0
  have d2_w1 := World.block_lt_of_cell? _ _ c2_0
  rcases Bool.eq_false_or_eq_true (t.valid) with q1 | q1
  · rw [q1]
    have Hq1 := Lib.hid q1
    clear q1
    go_wp2_with fail
    refine (specMatchT _ t 4 (by decide) Hq1.out _ _ (h1.below hB)).mono ?_
    rintro e w2 ⟨v2, u2, rfl, hp2, hb2⟩
    obtain ⟨kr2, ar2, nr2, qr2, ks2, as2, ns2, qs2, rfl, rfl⟩ := hp2.shape
    replace hB := (bstep hB hb2)
    have zw2 := hB.size
    replace f1_0 : w2.frozen? ⟨w.heap.size + 1, 0, none⟩ = false := bfroc hb2 (c1_0) (f1_0)
    replace f1_1 : w2.frozen? ⟨w.heap.size + 1, 1, none⟩ = false := bfroc hb2 (c1_1) (f1_1)
    replace f2_0 : w2.frozen? ⟨w.heap.size + 1 + 1, 0, none⟩ = false := bfroc hb2 (c2_0) (f2_0)
    replace f2_1 : w2.frozen? ⟨w.heap.size + 1 + 1, 1, none⟩ = false := bfroc hb2 (c2_1) (f2_1)
    replace c1_0 : w2.cell? ⟨w.heap.size + 1, 0, none⟩ = some (.int .i64 0) := bcell hb2 (c1_0)
    replace c1_1 : w2.cell? ⟨w.heap.size + 1, 1, none⟩ = some (.slice none 0 0) := bcell hb2 (c1_1)
    replace c2_0 : w2.cell? ⟨w.heap.size + 1 + 1, 0, none⟩ = some (.int .i64 0) := bcell hb2 (c2_0)
    replace c2_1 : w2.cell? ⟨w.heap.size + 1 + 1, 1, none⟩ = some (.slice none 0 0) := bcell hb2 (c2_1)
    have d1_w2 := World.block_lt_of_cell? _ _ c1_0
    have d2_w2 := World.block_lt_of_cell? _ _ c2_0
    go_wp2_with fail
    refine bodyPost_ret (v := .tuple #[.agg #[.int .i64 kr2, .slice ar2 nr2 qr2], .agg #[.int .i64 ks2, .slice as2 ns2 qs2], .bool (matB 4 t)]) (by simp [results, Try.results77, go_sem, c1_0, c1_1, c2_0, c2_1]) rfl ?_
    exact ⟨_, _, rfl, Ty2New.mono ((((hp2.setCell (by first | (show w.heap.size + 1 < _; omega) | (show w.heap.size + 1 < _; simp; omega) | simp) _).setCell (by first | (show w.heap.size + 1 < _; omega) | (show w.heap.size + 1 < _; simp; omega) | simp) _).setCell (by first | (show w.heap.size + 1 + 1 < _; omega) | (show w.heap.size + 1 + 1 < _; simp; omega) | simp) _).setCell (by first | (show w.heap.size + 1 + 1 < _; omega) | (show w.heap.size + 1 + 1 < _; simp; omega) | simp) _) (by first | exact Nat.le_refl _ | omega | (simp; done) | (simp; omega)), ((((hB.setCell (by show w.heap.size ≤ w.heap.size + 1; omega) _).setCell (by show w.heap.size ≤ w.heap.size + 1; omega) _).setCell (by show w.heap.size ≤ w.heap.size + 1 + 1; omega) _).setCell (by show w.heap.size ≤ w.heap.size + 1 + 1; omega) _)⟩
  · rw [q1]
    have Hq1 := Lib.hid q1
    clear q1
    go_wp2_with fail
    refine bodyPost_ret (v := .tuple #[.agg #[.int .i64 0, .slice none 0 0], .agg #[.int .i64 0, .slice none 0 0], .bool false]) (by simp [results, Try.results77, go_sem, c1_0, c1_1, c2_0, c2_1]) rfl ?_
    rw [show matT 4 0 t = Ty.none from by simp [matT, matB, Hq1.out], show matT 4 1 t = Ty.none from by simp [matT, matB, Hq1.out], show matB 4 t = false from by simp [matT, matB, Hq1.out]]
    exact ⟨_, _, rfl, Ty2New.mono Ty2New.zero (Nat.le_refl _), ((((hB.setCell (by show w.heap.size ≤ w.heap.size + 1; omega) _).setCell (by show w.heap.size ≤ w.heap.size + 1; omega) _).setCell (by show w.heap.size ≤ w.heap.size + 1 + 1; omega) _).setCell (by show w.heap.size ≤ w.heap.size + 1 + 1; omega) _)⟩

set_option maxHeartbeats 4000000 in
theorem specMatchPair (F : Nat → Prop) (t : Ty) (y : Value) (w : World) (h1 : TyRep F w t y) :
    Calls Try.prog 75 #[y] w (RetTy2B (matT 5 0 t) (matT 5 1 t) (matB 5 t) w) := by
  obtain ⟨k1, a1, n1, q1, rfl⟩ := h1.shape
  go_enter Try.func75, Try.ntmps75
  go_wp2_with fail
  refine (specTypeValid _ t _ _ (h1.below bal3)).mono ?_
  rintro e w1 ⟨rfl, hb1⟩
  have hB := (bstep bal3 hb1)
  have zw1 := hB.size
  have f1_0 : w1.frozen? ⟨w.heap.size + 1, 0, none⟩ = false := bfroc hb1 (bcell bal1 (cell_new (by simp) 0)) (bfroc bal1 (cell_new (by simp) 0) (fro_new (by simp) 0))
  have f1_1 : w1.frozen? ⟨w.heap.size + 1, 1, none⟩ = false := bfroc hb1 (bcell bal1 (cell_new (by simp) 1)) (bfroc bal1 (cell_new (by simp) 1) (fro_new (by simp) 1))
  have f2_0 : w1.frozen? ⟨w.heap.size + 1 + 1, 0, none⟩ = false := bfroc hb1 (cell_new (by simp) 0) (fro_new (by simp) 0)
  have f2_1 : w1.frozen? ⟨w.heap.size + 1 + 1, 1, none⟩ = false := bfroc hb1 (cell_new (by simp) 1) (fro_new (by simp) 1)
  have c0_0 : w1.cell? ⟨w.heap.size, 0, none⟩ = some (.int .i64 k1) := bcell hb1 (bcell bal1 (bcell bal1 (cell_new (by simp) 0)))
  have c0_1 : w1.cell? ⟨w.heap.size, 1, none⟩ = some (.slice a1 n1 q1) := bcell hb1 (bcell bal1 (bcell bal1 (cell_new (by simp) 1)))
  have c1_0 : w1.cell? ⟨w.heap.size + 1, 0, none⟩ = some (.int .i64 0) := bcell hb1 (bcell bal1 (cell_new (by simp) 0))
  have c1_1 : w1.cell? ⟨w.heap.size + 1, 1, none⟩ = some (.slice none 0 0) := bcell hb1 (bcell bal1 (cell_new (by simp) 1))
  have c2_0 : w1.cell? ⟨w.heap.size + 1 + 1, 0, none⟩ = some (.int .i64 0) := bcell hb1 (cell_new (by simp) 0)
  have c2_1 : w1.cell? ⟨w.heap.size + 1 + 1, 1, none⟩ = some (.slice none 0 0) := bcell hb1 (cell_new (by simp) 1)
  have d0_w1 := World.block_lt_of_cell? _ _ c0_0
  have d1_w1 := World.block_lt_of_cell? _ _ c1_0
  have d2_w1 := World.block_lt_of_cell? _ _ c2_0
  rcases Bool.eq_false_or_eq_true (t.valid) with q1 | q1
  · rw [q1]
    have Hq1 := Lib.hid q1
    clear q1
    go_wp2_with fail
    refine (specMatchT _ t 5 (by decide) Hq1.out _ _ (h1.below hB)).mono ?_
    rintro e w2 ⟨v2, u2, rfl, hp2, hb2⟩
    obtain ⟨kr2, ar2, nr2, qr2, ks2, as2, ns2, qs2, rfl, rfl⟩ := hp2.shape
    replace hB := (bstep hB hb2)
    have zw2 := hB.size
    replace f1_0 : w2.frozen? ⟨w.heap.size + 1, 0, none⟩ = false := bfroc hb2 (c1_0) (f1_0)
    replace f1_1 : w2.frozen? ⟨w.heap.size + 1, 1, none⟩ = false := bfroc hb2 (c1_1) (f1_1)
    replace f2_0 : w2.frozen? ⟨w.heap.size + 1 + 1, 0, none⟩ = false := bfroc hb2 (c2_0) (f2_0)
    replace f2_1 : w2.frozen? ⟨w.heap.size + 1 + 1, 1, none⟩ = false := bfroc hb2 (c2_1) (f2_1)
    replace c1_0 : w2.cell? ⟨w.heap.size + 1, 0, none⟩ = some (.int .i64 0) := bcell hb2 (c1_0)
    replace c1_1 : w2.cell? ⟨w.heap.size + 1, 1, none⟩ = some (.slice none 0 0) := bcell hb2 (c1_1)
    replace c2_0 : w2.cell? ⟨w.heap.size + 1 + 1, 0, none⟩ = some (.int .i64 0) := bcell hb2 (c2_0)
    replace c2_1 : w2.cell? ⟨w.heap.size + 1 + 1, 1, none⟩ = some (.slice none 0 0) := bcell hb2 (c2_1)
    have d1_w2 := World.block_lt_of_cell? _ _ c1_0
    have d2_w2 := World.block_lt_of_cell? _ _ c2_0
    go_wp2_with fail
    refine bodyPost_ret (v := .tuple #[.agg #[.int .i64 kr2, .slice ar2 nr2 qr2], .agg #[.int .i64 ks2, .slice as2 ns2 qs2], .bool (matB 5 t)]) (by simp [results, Try.results75, go_sem, c1_0, c1_1, c2_0, c2_1]) rfl ?_
    exact ⟨_, _, rfl, Ty2New.mono ((((hp2.setCell (by first | (show w.heap.size + 1 < _; omega) | (show w.heap.size + 1 < _; simp; omega) | simp) _).setCell (by first | (show w.heap.size + 1 < _; omega) | (show w.heap.size + 1 < _; simp; omega) | simp) _).setCell (by first | (show w.heap.size + 1 + 1 < _; omega) | (show w.heap.size + 1 + 1 < _; simp; omega) | simp) _).setCell (by first | (show w.heap.size + 1 + 1 < _; omega) | (show w.heap.size + 1 + 1 < _; simp; omega) | simp) _) (by first | exact Nat.le_refl _ | omega | (simp; done) | (simp; omega)), ((((hB.setCell (by show w.heap.size ≤ w.heap.size + 1; omega) _).setCell (by show w.heap.size ≤ w.heap.size + 1; omega) _).setCell (by show w.heap.size ≤ w.heap.size + 1 + 1; omega) _).setCell (by show w.heap.size ≤ w.heap.size + 1 + 1; omega) _)⟩
  · rw [q1]
    have Hq1 := Lib.hid q1
    clear q1
    go_wp2_with fail
    refine bodyPost_ret (v := .tuple #[.agg #[.int .i64 0, .slice none 0 0], .agg #[.int .i64 0, .slice none 0 0], .bool false]) (by simp [results, Try.results75, go_sem, c1_0, c1_1, c2_0, c2_1]) rfl ?_
    rw [show matT 5 0 t = Ty.none from by simp [matT, matB, Hq1.out], show matT 5 1 t = Ty.none from by simp [matT, matB, Hq1.out], show matB 5 t = false from by simp [matT, matB, Hq1.out]]
    exact ⟨_, _, rfl, Ty2New.mono Ty2New.zero (Nat.le_refl _), ((((hB.setCell (by show w.heap.size ≤ w.heap.size + 1; omega) _).setCell (by show w.heap.size ≤ w.heap.size + 1; omega) _).setCell (by show w.heap.size ≤ w.heap.size + 1 + 1; omega) _).setCell (by show w.heap.size ≤ w.heap.size + 1 + 1; omega) _)⟩

end Go.Proofs.Ytjkkahlcbhcifaa
