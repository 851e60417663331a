/-
  Matching of the program and of the reference.
-/
import Derived.Test.YtjkkahlcbhcifaaWk2
import Derived.Test.YtjkkahlcbhcifaaTyDepth
namespace Go.Proofs.Ytjkkahlcbhcifaa
open Go.RowKit
set_option linter.unusedVariables false
set_option linter.unusedSimpArgs false
set_option maxRecDepth 100000

set_option maxHeartbeats 4000000 in
theorem implMatch_eq (F : Nat → Prop) (k : Int) (t1 t2 : Ty) (y : Value) (w : World) (hy : TyRep F w (.mk k [t1, t2]) y) :
    Calls Try.prog 143 #[y, .int .i64 k] w (RetRep2B t1 t2 true w) := by
  obtain ⟨ys, rfl, hys⟩ := hy
  obtain ⟨b, off, cap, k1, c1, m1, q1, k2, c2, m2, q2, rfl, g2, g3, hb, e0, e1, e2, e3, ht1, ht2⟩ := TysRep.two hys
  simp only [Ty.kind, Ty.kids] at *
  clear hys
  go_enter Try.func143, Try.ntmps143
  go_wp2_with fail
  have s0_ : (World.alloc (World.alloc (World.alloc w (Obj.cells #[.int .i64 k, .slice (some ⟨b, off, none⟩) 2 cap] 29)) (Obj.cells #[.int .i64 0, .slice none 0 0] 29)) (Obj.cells #[.int .i64 0, .slice none 0 0] 29)).cell? ⟨w.heap.size, 1, none⟩ = some (.slice (some ⟨b, off, none⟩) 2 cap) := bcell bal1 (bcell bal1 (cell_new (by simp) 1))
  have s1_ : (World.alloc (World.alloc (World.alloc w (Obj.cells #[.int .i64 k, .slice (some ⟨b, off, none⟩) 2 cap] 29)) (Obj.cells #[.int .i64 0, .slice none 0 0] 29)) (Obj.cells #[.int .i64 0, .slice none 0 0] 29)).cell? ⟨b, off, none⟩ = some (.int .i64 k1) := bcell bal1 (bcell bal1 (bcell bal1 (e0)))
  have s2_ : (World.alloc (World.alloc (World.alloc w (Obj.cells #[.int .i64 k, .slice (some ⟨b, off, none⟩) 2 cap] 29)) (Obj.cells #[.int .i64 0, .slice none 0 0] 29)) (Obj.cells #[.int .i64 0, .slice none 0 0] 29)).cell? ⟨b, off + 1, none⟩ = some (.slice c1 m1 q1) := bcell bal1 (bcell bal1 (bcell bal1 (e1)))
  have s3_ : (World.alloc (World.alloc (World.alloc w (Obj.cells #[.int .i64 k, .slice (some ⟨b, off, none⟩) 2 cap] 29)) (Obj.cells #[.int .i64 0, .slice none 0 0] 29)) (Obj.cells #[.int .i64 0, .slice none 0 0] 29)).cell? ⟨b, off + 2, none⟩ = some (.int .i64 k2) := bcell bal1 (bcell bal1 (bcell bal1 (e2)))
  have s4_ : (World.alloc (World.alloc (World.alloc w (Obj.cells #[.int .i64 k, .slice (some ⟨b, off, none⟩) 2 cap] 29)) (Obj.cells #[.int .i64 0, .slice none 0 0] 29)) (Obj.cells #[.int .i64 0, .slice none 0 0] 29)).cell? ⟨b, off + 3, none⟩ = some (.slice c2 m2 q2) := bcell bal1 (bcell bal1 (bcell bal1 (e3)))
  go_region_held3 (fun w' => w'.cell? ⟨w.heap.size, 1, none⟩ = some (.slice (some ⟨b, off, none⟩) 2 cap) ∧ w'.cell? ⟨b, off, none⟩ = some (.int .i64 k1) ∧ w'.cell? ⟨b, off + 1, none⟩ = some (.slice c1 m1 q1) ∧ w'.cell? ⟨b, off + 2, none⟩ = some (.int .i64 k2) ∧ w'.cell? ⟨b, off + 3, none⟩ = some (.slice c2 m2 q2))
    (first | with_reducible exact ⟨dcell (s0_), dcell (s1_), dcell (s2_), dcell (s3_), dcell (s4_)⟩ | exact ⟨dcell (bcell bal1 (bcell bal1 (cell_new (by simp) 1))), dcell (bcell bal1 (bcell bal1 (bcell bal1 (e0)))), dcell (bcell bal1 (bcell bal1 (bcell bal1 (e1)))), dcell (bcell bal1 (bcell bal1 (bcell bal1 (e2)))), dcell (bcell bal1 (bcell bal1 (bcell bal1 (e3))))⟩ | exact ⟨dcell (bcell bal1 (bcell bal1 (cell_new (by simp) 1))), dcell (bcell bal1 (bcell bal1 (bcell bal1 (e0)))), dcell (bcell bal1 (bcell bal1 (bcell bal1 (e1)))), dcell (bcell bal1 (bcell bal1 (bcell bal1 (e2)))), dcell (bcell bal1 (bcell bal1 (bcell bal1 (e3))))⟩)
    (fail)
  clear s0_ s1_ s2_ s3_ s4_
  go_wp2_with fail
  refine bodyPost_ret (v := .tuple #[.agg #[.int .i64 k1, .slice c1 m1 q1], .agg #[.int .i64 k2, .slice c2 m2 q2], .bool true]) (by simp [results, Try.results143, go_sem]) rfl ?_
  exact ⟨_, _, rfl, (ht1.below bal3.drew).all, (ht2.below bal3.drew).all, bal3.drew⟩

set_option maxHeartbeats 4000000 in
theorem implMatch_any (F : Nat → Prop) (k : Int) (t : Ty) (y : Value) (w : World) (hy : TyRep F w t y) (ht : t.kind = 1) (hk : ((1 : Int) == k) = false) :
    Calls Try.prog 143 #[y, .int .i64 k] w (RetRep2B (.mk 1 []) (.mk 1 []) true w) := by
  obtain ⟨k1, a1, n1, q1, rfl⟩ := hy.shape
  obtain rfl : k1 = 1 := by obtain ⟨s, he, -⟩ := hy; simp at he; rw [he.1]; exact ht
  go_enter Try.func143, Try.ntmps143
  go_wp2_with fail
  refine (implBase 1 _).mono ?_
  rintro e w1 ⟨v1, rfl, hv1, hb1⟩
  obtain ⟨kr1, ar1, nr1, qr1, rfl⟩ := hv1.shape
  have hB := (bstep bal3 hb1)
  have zw1 := hB.size
  have f1_0 : w1.frozen? ⟨w.heap.size + 1, 0, none⟩ = false := bfroc hb1 (bcell bal1 (cell_new (by simp) 0)) (bfroc bal1 (cell_new (by simp) 0) (fro_new (by simp) 0))
  have f1_1 : w1.frozen? ⟨w.heap.size + 1, 1, none⟩ = false := bfroc hb1 (bcell bal1 (cell_new (by simp) 1)) (bfroc bal1 (cell_new (by simp) 1) (fro_new (by simp) 1))
  have f2_0 : w1.frozen? ⟨w.heap.size + 1 + 1, 0, none⟩ = false := bfroc hb1 (cell_new (by simp) 0) (fro_new (by simp) 0)
  have f2_1 : w1.frozen? ⟨w.heap.size + 1 + 1, 1, none⟩ = false := bfroc hb1 (cell_new (by simp) 1) (fro_new (by simp) 1)
  have c1_0 : w1.cell? ⟨w.heap.size + 1, 0, none⟩ = some (.int .i64 0) := bcell hb1 (bcell bal1 (cell_new (by simp) 0))
  have c1_1 : w1.cell? ⟨w.heap.size + 1, 1, none⟩ = some (.slice none 0 0) := bcell hb1 (bcell bal1 (cell_new (by simp) 1))
  have c2_0 : w1.cell? ⟨w.heap.size + 1 + 1, 0, none⟩ = some (.int .i64 0) := bcell hb1 (cell_new (by simp) 0)
  have c2_1 : w1.cell? ⟨w.heap.size + 1 + 1, 1, none⟩ = some (.slice none 0 0) := bcell hb1 (cell_new (by simp) 1)
  have d1_w1 := World.block_lt_of_cell? _ _ c1_0
  have d2_w1 := World.block_lt_of_cell? _ _ c2_0
  go_wp2_with fail
  refine (implBase 1 _).mono ?_
  rintro e w2 ⟨v2, rfl, hv2, hb2⟩
  obtain ⟨kr2, ar2, nr2, qr2, rfl⟩ := hv2.shape
  replace hB := (bstep hB hb2)
  have zw2 := hB.size
  replace f1_0 : w2.frozen? ⟨w.heap.size + 1, 0, none⟩ = false := bfroc hb2 (c1_0) (f1_0)
  replace f1_1 : w2.frozen? ⟨w.heap.size + 1, 1, none⟩ = false := bfroc hb2 (c1_1) (f1_1)
  replace f2_0 : w2.frozen? ⟨w.heap.size + 1 + 1, 0, none⟩ = false := bfroc hb2 (c2_0) (f2_0)
  replace f2_1 : w2.frozen? ⟨w.heap.size + 1 + 1, 1, none⟩ = false := bfroc hb2 (c2_1) (f2_1)
  replace c1_0 : w2.cell? ⟨w.heap.size + 1, 0, none⟩ = some (.int .i64 0) := bcell hb2 (c1_0)
  replace c1_1 : w2.cell? ⟨w.heap.size + 1, 1, none⟩ = some (.slice none 0 0) := bcell hb2 (c1_1)
  replace c2_0 : w2.cell? ⟨w.heap.size + 1 + 1, 0, none⟩ = some (.int .i64 0) := bcell hb2 (c2_0)
  replace c2_1 : w2.cell? ⟨w.heap.size + 1 + 1, 1, none⟩ = some (.slice none 0 0) := bcell hb2 (c2_1)
  replace hv1 := (hv1.below hb2)
  have d1_w2 := World.block_lt_of_cell? _ _ c1_0
  have d2_w2 := World.block_lt_of_cell? _ _ c2_0
  go_wp2_with fail
  refine bodyPost_ret (v := .tuple #[.agg #[.int .i64 kr1, .slice ar1 nr1 qr1], .agg #[.int .i64 kr2, .slice ar2 nr2 qr2], .bool true]) (by simp [results, Try.results143, go_sem, c1_0, c1_1, c2_0, c2_1]) rfl ?_
  exact ⟨_, _, rfl, ((((hv1.setCell (by first | (show w.heap.size + 1 < _; omega) | (show w.heap.size + 1 < _; simp; omega) | simp) _).setCell (by first | (show w.heap.size + 1 < _; omega) | (show w.heap.size + 1 < _; simp; omega) | simp) _).setCell (by first | (show w.heap.size + 1 + 1 < _; omega) | (show w.heap.size + 1 + 1 < _; simp; omega) | simp) _).setCell (by first | (show w.heap.size + 1 + 1 < _; omega) | (show w.heap.size + 1 + 1 < _; simp; omega) | simp) _).rep.all, ((((hv2.setCell (by first | (show w.heap.size + 1 < _; omega) | (show w.heap.size + 1 < _; simp; omega) | simp) _).setCell (by first | (show w.heap.size + 1 < _; omega) | (show w.heap.size + 1 < _; simp; omega) | simp) _).setCell (by first | (show w.heap.size + 1 + 1 < _; omega) | (show w.heap.size + 1 + 1 < _; simp; omega) | simp) _).setCell (by first | (show w.heap.size + 1 + 1 < _; omega) | (show w.heap.size + 1 + 1 < _; simp; omega) | simp) _).rep.all, ((((hB.setCell (by show w.heap.size ≤ w.heap.size + 1; omega) _).setCell (by show w.heap.size ≤ w.heap.size + 1; omega) _).setCell (by show w.heap.size ≤ w.heap.size + 1 + 1; omega) _).setCell (by show w.heap.size ≤ w.heap.size + 1 + 1; omega) _)⟩

set_option maxHeartbeats 4000000 in
theorem implMatch_none (F : Nat → Prop) (k l : Int) (t : Ty) (y : Value) (w : World) (hy : TyRep F w t y) (ht : t.kind = l) (hk : (l == k) = false) (h1 : (l == 1) = false) :
    Calls Try.prog 143 #[y, .int .i64 k] w (RetRep2B Ty.none Ty.none false w) := by
  obtain ⟨l1, a1, n1, q1, rfl⟩ := hy.shape
  obtain rfl : l1 = l := by obtain ⟨s, he, -⟩ := hy; simp at he; rw [he.1]; exact ht
  go_enter Try.func143, Try.ntmps143
  go_wp2_with fail
  refine bodyPost_ret (v := .tuple #[.agg #[.int .i64 0, .slice none 0 0], .agg #[.int .i64 0, .slice none 0 0], .bool false]) (by simp [results, Try.results143, go_sem]) rfl ?_
  exact ⟨_, _, rfl, TyRep.zero, TyRep.zero, bal3⟩

theorem implMatch (F : Nat → Prop) (s : S) (k : Int) (hk : k = 4 ∨ k = 5) (y : Value) (w : World) (hy : TyRep F w s.ty y) :
    Calls Try.prog 143 #[y, .int .i64 k] w (RetRep2B (s.mat k).1.ty (s.mat k).2.1.ty (s.mat k).2.2 w) := by
  cases s with
  | any => exact implMatch_any F k _ y w hy rfl (by rcases hk with rfl | rfl <;> rfl)
  | fn a b =>
    rcases hk with rfl | rfl
    · exact implMatch_eq F 4 _ _ y w hy
    · exact implMatch_none F 5 4 _ y w hy rfl rfl rfl
  | pr a b =>
    rcases hk with rfl | rfl
    · exact implMatch_none F 4 5 _ y w hy rfl rfl rfl
    · exact implMatch_eq F 5 _ _ y w hy
  | zero => exact implMatch_none F k 0 _ y w hy rfl (by rcases hk with rfl | rfl <;> rfl) rfl
  | int => exact implMatch_none F k 2 _ y w hy rfl (by rcases hk with rfl | rfl <;> rfl) rfl
  | bool => exact implMatch_none F k 3 _ y w hy rfl (by rcases hk with rfl | rfl <;> rfl) rfl
theorem S.mat_cnt (k : Int) (s : S) : (s.mat k).1.cnt ≤ s.cnt ∧ (s.mat k).2.1.cnt ≤ s.cnt := by
  cases s <;> simp [S.mat, S.cnt]
  · split <;> simp [S.cnt] <;> omega
  · split <;> simp [S.cnt] <;> omega

set_option maxHeartbeats 4000000 in
theorem implMatched_S (F : Nat → Prop) (s : S) (k : Int) (hk : k = 4 ∨ k = 5) (y : Value) (w : World) (h1 : TyRep F w s.ty y) (hv : s.ty.valid = true) :
    Calls Try.prog 123 #[y, .int .i64 k] w (RetTy2B (s.mat k).1.ty (s.mat k).2.1.ty (s.mat k).2.2 w) := by
  obtain ⟨k1, a1, n1, q1, rfl⟩ := h1.shape
  have HV := Lib.hid hv
  have HC1 := Lib.hid (show (s.mat k).1.ty.cnt ≤ 1048576 by rw [S.ty_cnt]; have := (s.mat_cnt k).1; have := Ty.cnt_valid hv; rw [S.ty_cnt] at this; omega)
  have HC2 := Lib.hid (show (s.mat k).2.1.ty.cnt ≤ 1048576 by rw [S.ty_cnt]; have := (s.mat_cnt k).2; have := Ty.cnt_valid hv; rw [S.ty_cnt] at this; omega)
  clear hv
  go_enter Try.func123, Try.ntmps123
  go_wp2_with fail
  refine (implTypeValid _ s.ty _ _ (h1.below bal3)).mono ?_
  rintro e w1 ⟨rfl, hb1⟩
  rw [HV.out]
  have hB := (bstep bal3 hb1)
  have zw1 := hB.size
  have f1_0 : w1.frozen? ⟨w.heap.size + 1, 0, none⟩ = false := bfroc hb1 (bcell bal1 (cell_new (by simp) 0)) (bfroc bal1 (cell_new (by simp) 0) (fro_new (by simp) 0))
  have f1_1 : w1.frozen? ⟨w.heap.size + 1, 1, none⟩ = false := bfroc hb1 (bcell bal1 (cell_new (by simp) 1)) (bfroc bal1 (cell_new (by simp) 1) (fro_new (by simp) 1))
  have f2_0 : w1.frozen? ⟨w.heap.size + 1 + 1, 0, none⟩ = false := bfroc hb1 (cell_new (by simp) 0) (fro_new (by simp) 0)
  have f2_1 : w1.frozen? ⟨w.heap.size + 1 + 1, 1, none⟩ = false := bfroc hb1 (cell_new (by simp) 1) (fro_new (by simp) 1)
  have c0_0 : w1.cell? ⟨w.heap.size, 0, none⟩ = some (.int .i64 k1) := bcell hb1 (bcell bal1 (bcell bal1 (cell_new (by simp) 0)))
  have c0_1 : w1.cell? ⟨w.heap.size, 1, none⟩ = some (.slice a1 n1 q1) := bcell hb1 (bcell bal1 (bcell bal1 (cell_new (by simp) 1)))
  have c1_0 : w1.cell? ⟨w.heap.size + 1, 0, none⟩ = some (.int .i64 0) := bcell hb1 (bcell bal1 (cell_new (by simp) 0))
  have c1_1 : w1.cell? ⟨w.heap.size + 1, 1, none⟩ = some (.slice none 0 0) := bcell hb1 (bcell bal1 (cell_new (by simp) 1))
  have c2_0 : w1.cell? ⟨w.heap.size + 1 + 1, 0, none⟩ = some (.int .i64 0) := bcell hb1 (cell_new (by simp) 0)
  have c2_1 : w1.cell? ⟨w.heap.size + 1 + 1, 1, none⟩ = some (.slice none 0 0) := bcell hb1 (cell_new (by simp) 1)
  have d0_w1 := World.block_lt_of_cell? _ _ c0_0
  have d1_w1 := World.block_lt_of_cell? _ _ c1_0
  have d2_w1 := World.block_lt_of_cell? _ _ c2_0
  go_wp2_with fail
  refine (implMatch _ s k hk _ _ (h1.below hB)).mono ?_
  rintro e w2 ⟨v2, u2, rfl, hv2, hu2, hb2⟩
  obtain ⟨kr2, ar2, nr2, qr2, rfl⟩ := hv2.shape
  obtain ⟨ks2, as2, ns2, qs2, rfl⟩ := hu2.shape
  replace hB := (bstep hB hb2)
  have zw2 := hB.size
  replace f1_0 : w2.frozen? ⟨w.heap.size + 1, 0, none⟩ = false := bfroc hb2 (c1_0) (f1_0)
  replace f1_1 : w2.frozen? ⟨w.heap.size + 1, 1, none⟩ = false := bfroc hb2 (c1_1) (f1_1)
  replace f2_0 : w2.frozen? ⟨w.heap.size + 1 + 1, 0, none⟩ = false := bfroc hb2 (c2_0) (f2_0)
  replace f2_1 : w2.frozen? ⟨w.heap.size + 1 + 1, 1, none⟩ = false := bfroc hb2 (c2_1) (f2_1)
  replace c1_0 : w2.cell? ⟨w.heap.size + 1, 0, none⟩ = some (.int .i64 0) := bcell hb2 (c1_0)
  replace c1_1 : w2.cell? ⟨w.heap.size + 1, 1, none⟩ = some (.slice none 0 0) := bcell hb2 (c1_1)
  replace c2_0 : w2.cell? ⟨w.heap.size + 1 + 1, 0, none⟩ = some (.int .i64 0) := bcell hb2 (c2_0)
  replace c2_1 : w2.cell? ⟨w.heap.size + 1 + 1, 1, none⟩ = some (.slice none 0 0) := bcell hb2 (c2_1)
  have d1_w2 := World.block_lt_of_cell? _ _ c1_0
  have d2_w2 := World.block_lt_of_cell? _ _ c2_0
  go_wp2_with fail
  have s0_ : (World.alloc (World.alloc w2 (Obj.cells #[.int .i64 kr2, .slice ar2 nr2 qr2] 29)) (Obj.cells #[.int .i64 ks2, .slice as2 ns2 qs2] 29)).cell? ⟨w2.heap.size, 0, none⟩ = some (.int .i64 kr2) := bcell bal1 (cell_new (by simp) 0)
  have s1_ : (World.alloc (World.alloc w2 (Obj.cells #[.int .i64 kr2, .slice ar2 nr2 qr2] 29)) (Obj.cells #[.int .i64 ks2, .slice as2 ns2 qs2] 29)).cell? ⟨w2.heap.size, 1, none⟩ = some (.slice ar2 nr2 qr2) := bcell bal1 (cell_new (by simp) 1)
  have s2_ : (World.alloc (World.alloc w2 (Obj.cells #[.int .i64 kr2, .slice ar2 nr2 qr2] 29)) (Obj.cells #[.int .i64 ks2, .slice as2 ns2 qs2] 29)).cell? ⟨w2.heap.size + 1, 0, none⟩ = some (.int .i64 ks2) := cell_new (by simp) 0
  have s3_ : (World.alloc (World.alloc w2 (Obj.cells #[.int .i64 kr2, .slice ar2 nr2 qr2] 29)) (Obj.cells #[.int .i64 ks2, .slice as2 ns2 qs2] 29)).cell? ⟨w2.heap.size + 1, 1, none⟩ = some (.slice as2 ns2 qs2) := cell_new (by simp) 1
  go_region_held3 (fun w' => w'.cell? ⟨w2.heap.size, 0, none⟩ = some (.int .i64 kr2) ∧ w'.cell? ⟨w2.heap.size, 1, none⟩ = some (.slice ar2 nr2 qr2) ∧ w'.cell? ⟨w2.heap.size + 1, 0, none⟩ = some (.int .i64 ks2) ∧ w'.cell? ⟨w2.heap.size + 1, 1, none⟩ = some (.slice as2 ns2 qs2))
    (first | with_reducible exact ⟨dcell (s0_), dcell (s1_), dcell (s2_), dcell (s3_)⟩ | with_reducible exact ⟨bcell hb3 (dcell (s0_)), bcell hb3 (dcell (s1_)), bcell hb3 (dcell (s2_)), bcell hb3 (dcell (s3_))⟩ | with_reducible exact ⟨bcell hb4 (bcell hb3 (dcell (s0_))), bcell hb4 (bcell hb3 (dcell (s1_))), bcell hb4 (bcell hb3 (dcell (s2_))), bcell hb4 (bcell hb3 (dcell (s3_)))⟩ | with_reducible exact ⟨sc_blk (sc_blk (bcell hb4 (bcell hb3 (dcell (s0_)))) (by show w2.heap.size ≠ w.heap.size + 1; omega)) (by show w2.heap.size ≠ w.heap.size + 1; omega), sc_blk (sc_blk (bcell hb4 (bcell hb3 (dcell (s1_)))) (by show w2.heap.size ≠ w.heap.size + 1; omega)) (by show w2.heap.size ≠ w.heap.size + 1; omega), sc_blk (sc_blk (bcell hb4 (bcell hb3 (dcell (s2_)))) (by show w2.heap.size + 1 ≠ w.heap.size + 1; omega)) (by show w2.heap.size + 1 ≠ w.heap.size + 1; omega), sc_blk (sc_blk (bcell hb4 (bcell hb3 (dcell (s3_)))) (by show w2.heap.size + 1 ≠ w.heap.size + 1; omega)) (by show w2.heap.size + 1 ≠ w.heap.size + 1; omega)⟩ | with_reducible exact ⟨sc_blk (sc_blk (sc_blk (sc_blk (bcell hb4 (bcell hb3 (dcell (s0_)))) (by show w2.heap.size ≠ w.heap.size + 1; omega)) (by show w2.heap.size ≠ w.heap.size + 1; omega)) (by show w2.heap.size ≠ w.heap.size + 1 + 1; omega)) (by show w2.heap.size ≠ w.heap.size + 1 + 1; omega), sc_blk (sc_blk (sc_blk (sc_blk (bcell hb4 (bcell hb3 (dcell (s1_)))) (by show w2.heap.size ≠ w.heap.size + 1; omega)) (by show w2.heap.size ≠ w.heap.size + 1; omega)) (by show w2.heap.size ≠ w.heap.size + 1 + 1; omega)) (by show w2.heap.size ≠ w.heap.size + 1 + 1; omega), sc_blk (sc_blk (sc_blk (sc_blk (bcell hb4 (bcell hb3 (dcell (s2_)))) (by show w2.heap.size + 1 ≠ w.heap.size + 1; omega)) (by show w2.heap.size + 1 ≠ w.heap.size + 1; omega)) (by show w2.heap.size + 1 ≠ w.heap.size + 1 + 1; omega)) (by show w2.heap.size + 1 ≠ w.heap.size + 1 + 1; omega), sc_blk (sc_blk (sc_blk (sc_blk (bcell hb4 (bcell hb3 (dcell (s3_)))) (by show w2.heap.size + 1 ≠ w.heap.size + 1; omega)) (by show w2.heap.size + 1 ≠ w.heap.size + 1; omega)) (by show w2.heap.size + 1 ≠ w.heap.size + 1 + 1; omega)) (by show w2.heap.size + 1 ≠ w.heap.size + 1 + 1; omega)⟩)
    (first | (go_at_call 144; ((with_reducible refine (implOwnType _ ((s.mat k).1.ty) _ _ (hv2.below bal2.drew) HC1.out).mono ?_); rintro e w3 ⟨v3, rfl, hv3, hb3⟩; obtain ⟨kr3, ar3, nr3, qr3, rfl⟩ := hv3.shape)) | (go_at_call 144; ((with_reducible refine (implOwnType _ ((s.mat k).2.1.ty) _ _ (hu2.below (bstep bal2.drew hb3)) HC2.out).mono ?_); rintro e w4 ⟨v4, rfl, hv4, hb4⟩; obtain ⟨kr4, ar4, nr4, qr4, rfl⟩ := hv4.shape; have hp4 := Ty2New.mk hv3 hb3.size hb4 hv4; have f1_0 : w4.frozen? ⟨w.heap.size + 1, 0, none⟩ = false := bfroc hb4 (bcell hb3 (dcell (bcell bal1 (bcell bal1 (c1_0))))) (bfroc hb3 (dcell (bcell bal1 (bcell bal1 (c1_0)))) (dfro (bfroc bal1 (bcell bal1 (c1_0)) (bfroc bal1 (c1_0) (f1_0))))); have c1_0' : w4.cell? ⟨w.heap.size + 1, 0, none⟩ = some (.int .i64 0) := bcell hb4 (bcell hb3 (dcell (bcell bal1 (bcell bal1 (c1_0))))); have d1_ := World.block_lt_of_cell? _ _ c1_0'; have f1_1 : w4.frozen? ⟨w.heap.size + 1, 1, none⟩ = false := bfroc hb4 (bcell hb3 (dcell (bcell bal1 (bcell bal1 (c1_1))))) (bfroc hb3 (dcell (bcell bal1 (bcell bal1 (c1_1)))) (dfro (bfroc bal1 (bcell bal1 (c1_1)) (bfroc bal1 (c1_1) (f1_1))))); have c1_1' : w4.cell? ⟨w.heap.size + 1, 1, none⟩ = some (.slice none 0 0) := bcell hb4 (bcell hb3 (dcell (bcell bal1 (bcell bal1 (c1_1))))); have d1_ := World.block_lt_of_cell? _ _ c1_1'; have f2_0 : w4.frozen? ⟨w.heap.size + 1 + 1, 0, none⟩ = false := bfroc hb4 (bcell hb3 (dcell (bcell bal1 (bcell bal1 (c2_0))))) (bfroc hb3 (dcell (bcell bal1 (bcell bal1 (c2_0)))) (dfro (bfroc bal1 (bcell bal1 (c2_0)) (bfroc bal1 (c2_0) (f2_0))))); have c2_0' : w4.cell? ⟨w.heap.size + 1 + 1, 0, none⟩ = some (.int .i64 0) := bcell hb4 (bcell hb3 (dcell (bcell bal1 (bcell bal1 (c2_0))))); have d2_ := World.block_lt_of_cell? _ _ c2_0'; have f2_1 : w4.frozen? ⟨w.heap.size + 1 + 1, 1, none⟩ = false := bfroc hb4 (bcell hb3 (dcell (bcell bal1 (bcell bal1 (c2_1))))) (bfroc hb3 (dcell (bcell bal1 (bcell bal1 (c2_1)))) (dfro (bfroc bal1 (bcell bal1 (c2_1)) (bfroc bal1 (c2_1) (f2_1))))); have c2_1' : w4.cell? ⟨w.heap.size + 1 + 1, 1, none⟩ = some (.slice none 0 0) := bcell hb4 (bcell hb3 (dcell (bcell bal1 (bcell bal1 (c2_1))))); have d2_ := World.block_lt_of_cell? _ _ c2_1')))
  clear s0_ s1_ s2_ s3_
  replace hB := (bstep (bstep ((hB.alloc hB.size _).alloc (hB.alloc hB.size _).size _).drew hb3) hb4)
  have zw4 := hB.size
  replace c1_0 : w4.cell? ⟨w.heap.size + 1, 0, none⟩ = some (.int .i64 0) := bcell hb4 (bcell hb3 (dcell (bcell bal1 (bcell bal1 (c1_0)))))
  replace c1_1 : w4.cell? ⟨w.heap.size + 1, 1, none⟩ = some (.slice none 0 0) := bcell hb4 (bcell hb3 (dcell (bcell bal1 (bcell bal1 (c1_1)))))
  replace c2_0 : w4.cell? ⟨w.heap.size + 1 + 1, 0, none⟩ = some (.int .i64 0) := bcell hb4 (bcell hb3 (dcell (bcell bal1 (bcell bal1 (c2_0)))))
  replace c2_1 : w4.cell? ⟨w.heap.size + 1 + 1, 1, none⟩ = some (.slice none 0 0) := bcell hb4 (bcell hb3 (dcell (bcell bal1 (bcell bal1 (c2_1)))))
  have d1_w4 := World.block_lt_of_cell? _ _ c1_0
  have d2_w4 := World.block_lt_of_cell? _ _ c2_0
  go_wp2_with fail
  refine bodyPost_ret (v := .tuple #[.agg #[.int .i64 kr3, .slice ar3 nr3 qr3], .agg #[.int .i64 kr4, .slice ar4 nr4 qr4], .bool ((s.mat k).2.2)]) (by simp [results, Try.results123, go_sem, c1_0, c1_1, c2_0, c2_1]) rfl ?_
  exact ⟨_, _, rfl, Ty2New.mono ((((hp4.setCell (by first | (show w.heap.size + 1 < _; omega) | (show w.heap.size + 1 < _; simp; omega) | simp) _).setCell (by first | (show w.heap.size + 1 < _; omega) | (show w.heap.size + 1 < _; simp; omega) | simp) _).setCell (by first | (show w.heap.size + 1 + 1 < _; omega) | (show w.heap.size + 1 + 1 < _; simp; omega) | simp) _).setCell (by first | (show w.heap.size + 1 + 1 < _; omega) | (show w.heap.size + 1 + 1 < _; simp; omega) | simp) _) (by first | exact Nat.le_refl _ | omega | (simp; done) | (simp; omega)), ((((hB.setCell (by show w.heap.size ≤ w.heap.size + 1; omega) _).setCell (by show w.heap.size ≤ w.heap.size + 1; omega) _).setCell (by show w.heap.size ≤ w.heap.size + 1 + 1; omega) _).setCell (by show w.heap.size ≤ w.heap.size + 1 + 1; omega) _)⟩

end Go.Proofs.Ytjkkahlcbhcifaa
