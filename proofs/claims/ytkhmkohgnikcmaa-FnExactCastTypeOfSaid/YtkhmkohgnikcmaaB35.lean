/-
  impl.match: the operands of a type: readings in old or fresh memory.
  Lists of types read off a block's cells.
-/
import Derived.Test.YtkhmkohgnikcmaaB18
import Derived.Test.YtkhmkohgnikcmaaB16
import Derived.Test.YtkhmkohgnikcmaaB33
import Derived.Test.YtkhmkohgnikcmaaB20
namespace Go.Proofs.Ytkhmkohgnikcmaa
open Go.RowKit
set_option linter.unusedVariables false
set_option linter.unusedSimpArgs false
set_option maxRecDepth 100000

def RetRep2G (F : Nat → Prop) (t u : Ty) (b : Bool) (w : World) (e : Ending) (w' : World) : Prop := ∃ y z, e = .returned (.tuple #[y, z, .bool b]) ∧ TyRep (fun x => F x ∨ w.heap.size ≤ x) w' t y ∧ TyRep (fun x => F x ∨ w.heap.size ≤ x) w' u z ∧ Below w.heap.size w w'
set_option maxHeartbeats 4000000 in
theorem implMatchG_eq (F : Nat → Prop) (k : Int) (t1 t2 : Ty) (y : Value) (w : World) (hy : TyRep F w (.mk k [t1, t2]) y) :
    Calls Try.prog 57 #[y, .int .i64 k] w (RetRep2G F t1 t2 true w) := by
  obtain ⟨ys, rfl, hys⟩ := hy
  obtain ⟨b, off, cap, k1, c1, m1, q1, k2, c2, m2, q2, rfl, g2, g3, hb, e0, e1, e2, e3, ht1, ht2⟩ := TysRep.two hys
  simp only [Ty.kind, Ty.kids] at *
  clear hys
  go_enter Try.func57, Try.ntmps57
  go_wp2_with fail
  have s0_ : (World.alloc (World.alloc (World.alloc w (Obj.cells #[.int .i64 k, .slice (some ⟨b, off, none⟩) 2 cap] 31)) (Obj.cells #[.int .i64 0, .slice none 0 0] 31)) (Obj.cells #[.int .i64 0, .slice none 0 0] 31)).cell? ⟨w.heap.size, 1, none⟩ = some (.slice (some ⟨b, off, none⟩) 2 cap) := bcell bal1 (bcell bal1 (cell_new (by simp) 1))
  have s1_ : (World.alloc (World.alloc (World.alloc w (Obj.cells #[.int .i64 k, .slice (some ⟨b, off, none⟩) 2 cap] 31)) (Obj.cells #[.int .i64 0, .slice none 0 0] 31)) (Obj.cells #[.int .i64 0, .slice none 0 0] 31)).cell? ⟨b, off, none⟩ = some (.int .i64 k1) := bcell bal1 (bcell bal1 (bcell bal1 (e0)))
  have s2_ : (World.alloc (World.alloc (World.alloc w (Obj.cells #[.int .i64 k, .slice (some ⟨b, off, none⟩) 2 cap] 31)) (Obj.cells #[.int .i64 0, .slice none 0 0] 31)) (Obj.cells #[.int .i64 0, .slice none 0 0] 31)).cell? ⟨b, off + 1, none⟩ = some (.slice c1 m1 q1) := bcell bal1 (bcell bal1 (bcell bal1 (e1)))
  have s3_ : (World.alloc (World.alloc (World.alloc w (Obj.cells #[.int .i64 k, .slice (some ⟨b, off, none⟩) 2 cap] 31)) (Obj.cells #[.int .i64 0, .slice none 0 0] 31)) (Obj.cells #[.int .i64 0, .slice none 0 0] 31)).cell? ⟨b, off + 2, none⟩ = some (.int .i64 k2) := bcell bal1 (bcell bal1 (bcell bal1 (e2)))
  have s4_ : (World.alloc (World.alloc (World.alloc w (Obj.cells #[.int .i64 k, .slice (some ⟨b, off, none⟩) 2 cap] 31)) (Obj.cells #[.int .i64 0, .slice none 0 0] 31)) (Obj.cells #[.int .i64 0, .slice none 0 0] 31)).cell? ⟨b, off + 3, none⟩ = some (.slice c2 m2 q2) := bcell bal1 (bcell bal1 (bcell bal1 (e3)))
  go_region_held3 (fun w' => w'.cell? ⟨w.heap.size, 1, none⟩ = some (.slice (some ⟨b, off, none⟩) 2 cap) ∧ w'.cell? ⟨b, off, none⟩ = some (.int .i64 k1) ∧ w'.cell? ⟨b, off + 1, none⟩ = some (.slice c1 m1 q1) ∧ w'.cell? ⟨b, off + 2, none⟩ = some (.int .i64 k2) ∧ w'.cell? ⟨b, off + 3, none⟩ = some (.slice c2 m2 q2))
    (first | with_reducible exact ⟨dcell (s0_), dcell (s1_), dcell (s2_), dcell (s3_), dcell (s4_)⟩ | exact ⟨dcell (bcell bal1 (bcell bal1 (cell_new (by simp) 1))), dcell (bcell bal1 (bcell bal1 (bcell bal1 (e0)))), dcell (bcell bal1 (bcell bal1 (bcell bal1 (e1)))), dcell (bcell bal1 (bcell bal1 (bcell bal1 (e2)))), dcell (bcell bal1 (bcell bal1 (bcell bal1 (e3))))⟩ | exact ⟨dcell (bcell bal1 (bcell bal1 (cell_new (by simp) 1))), dcell (bcell bal1 (bcell bal1 (bcell bal1 (e0)))), dcell (bcell bal1 (bcell bal1 (bcell bal1 (e1)))), dcell (bcell bal1 (bcell bal1 (bcell bal1 (e2)))), dcell (bcell bal1 (bcell bal1 (bcell bal1 (e3))))⟩)
    (fail)
  clear s0_ s1_ s2_ s3_ s4_
  go_wp2_with fail
  refine bodyPost_ret (v := .tuple #[.agg #[.int .i64 k1, .slice c1 m1 q1], .agg #[.int .i64 k2, .slice c2 m2 q2], .bool true]) (by simp [results, Try.results57, go_sem]) rfl ?_
  exact ⟨_, _, rfl, (ht1.below bal3.drew).move (.weaken fun b h _ => .inl h), (ht2.below bal3.drew).move (.weaken fun b h _ => .inl h), bal3.drew⟩

set_option maxHeartbeats 4000000 in
theorem implMatchG_any (F : Nat → Prop) (k : Int) (t : Ty) (y : Value) (w : World) (hy : TyRep F w t y) (ht : t.kind = 1) (hk : ((1 : Int) == k) = false) :
    Calls Try.prog 57 #[y, .int .i64 k] w (RetRep2G F (.mk 1 []) (.mk 1 []) true w) := by
  obtain ⟨k1, a1, n1, q1, rfl⟩ := hy.shape
  obtain rfl : k1 = 1 := by obtain ⟨s, he, -⟩ := hy; simp at he; rw [he.1]; exact ht
  go_enter Try.func57, Try.ntmps57
  go_wp2_with fail
  refine (implBaseW 1 _).mono ?_
  rintro e w1 ⟨rfl, hb1⟩
  have fA := blk_below (blk_below (blk_new (w := w.alloc (.cells #[.int .i64 1, .slice a1 n1 q1] 31)) (o := .cells #[.int .i64 0, .slice none 0 0] 31) (b := w.heap.size + 1) (by simp)) (bal1 (o := .cells #[.int .i64 0, .slice none 0 0] 31))) hb1
  have fB := blk_below (blk_new (w := (w.alloc (.cells #[.int .i64 1, .slice a1 n1 q1] 31)).alloc (.cells #[.int .i64 0, .slice none 0 0] 31)) (o := .cells #[.int .i64 0, .slice none 0 0] 31) (b := w.heap.size + 1 + 1) (by simp)) hb1
  have fC := Lib.hid (bstep bal3 hb1)
  clear hb1
  go_wp2_with fail
  refine (implBaseW 1 _).mono ?_
  rintro e w2 ⟨rfl, hb2⟩
  replace fA := blk_below fA hb2
  replace fB := blk_below fB hb2
  replace fC := Lib.hid (bstep fC.out hb2)
  clear hb2
  have a0 := blk_cell fA (o := 0) rfl
  have a1' := blk_cell fA (o := 1) rfl
  have af0 := blk_fro fA 0
  have af1 := blk_fro fA 1
  have b0 := blk_cell fB (o := 0) rfl
  have b1 := blk_cell fB (o := 1) rfl
  have bf0 := blk_fro fB 0
  have bf1 := blk_fro fB 1
  go_wp2_with fail
  have hYA : ((((w2.setCell ⟨w.heap.size + 1, 0, none⟩ (.int .i64 1)).setCell ⟨w.heap.size + 1, 1, none⟩ (.slice none 0 0)).setCell ⟨w.heap.size + 1 + 1, 0, none⟩ (.int .i64 1)).setCell ⟨w.heap.size + 1 + 1, 1, none⟩ (.slice none 0 0)).heap[w.heap.size + 1]? = some (.cells #[.int .i64 1, .slice none 0 0] 31 (0, 0)) := blk_ne (blk_ne (blk_set (blk_set fA rfl) rfl) (by show _ ≠ w.heap.size + 1 + 1; omega)) (by show _ ≠ w.heap.size + 1 + 1; omega)
  have hYB : ((((w2.setCell ⟨w.heap.size + 1, 0, none⟩ (.int .i64 1)).setCell ⟨w.heap.size + 1, 1, none⟩ (.slice none 0 0)).setCell ⟨w.heap.size + 1 + 1, 0, none⟩ (.int .i64 1)).setCell ⟨w.heap.size + 1 + 1, 1, none⟩ (.slice none 0 0)).heap[w.heap.size + 1 + 1]? = some (.cells #[.int .i64 1, .slice none 0 0] 31 (0, 0)) := blk_set (blk_set (blk_ne (blk_ne fB (by show _ ≠ w.heap.size + 1; omega)) (by show _ ≠ w.heap.size + 1; omega)) rfl) rfl
  have ra0 := blk_cell hYA (o := 0) rfl
  have ra1 := blk_cell hYA (o := 1) rfl
  have rb0 := blk_cell hYB (o := 0) rfl
  have rb1 := blk_cell hYB (o := 1) rfl
  refine bodyPost_ret (v := .tuple #[.agg #[.int .i64 1, .slice none 0 0], .agg #[.int .i64 1, .slice none 0 0], .bool true]) (by simp [results, Try.results57, go_sem, ra0, ra1, rb0, rb1]) rfl ?_
  exact ⟨_, _, rfl, TyRep.leafG 1, TyRep.leafG 1, (((fC.out.setCell (p := ⟨w.heap.size + 1, 0, none⟩) (by show w.heap.size ≤ w.heap.size + 1; omega) _).setCell (p := ⟨w.heap.size + 1, 1, none⟩) (by show w.heap.size ≤ w.heap.size + 1; omega) _).setCell (p := ⟨w.heap.size + 1 + 1, 0, none⟩) (by show w.heap.size ≤ w.heap.size + 1 + 1; omega) _).setCell (p := ⟨w.heap.size + 1 + 1, 1, none⟩) (by show w.heap.size ≤ w.heap.size + 1 + 1; omega) _⟩
set_option maxHeartbeats 4000000 in
theorem implMatchG_none (F : Nat → Prop) (k l : Int) (t : Ty) (y : Value) (w : World) (hy : TyRep F w t y) (ht : t.kind = l) (hk : (l == k) = false) (h1 : (l == 1) = false) :
    Calls Try.prog 57 #[y, .int .i64 k] w (RetRep2G F Ty.none Ty.none false w) := by
  obtain ⟨l1, a1, n1, q1, rfl⟩ := hy.shape
  obtain rfl : l1 = l := by obtain ⟨s, he, -⟩ := hy; simp at he; rw [he.1]; exact ht
  go_enter Try.func57, Try.ntmps57
  go_wp2_with fail
  refine bodyPost_ret (v := .tuple #[.agg #[.int .i64 0, .slice none 0 0], .agg #[.int .i64 0, .slice none 0 0], .bool false]) (by simp [results, Try.results57, go_sem]) rfl ?_
  exact ⟨_, _, rfl, TyRep.zeroG, TyRep.zeroG, bal3⟩

theorem implMatchG (F : Nat → Prop) (s : S) (k : Int) (hk : k = 4 ∨ k = 5) (y : Value) (w : World) (hy : TyRep F w s.ty y) :
    Calls Try.prog 57 #[y, .int .i64 k] w (RetRep2G F (s.mat k).1.ty (s.mat k).2.1.ty (s.mat k).2.2 w) := by
  cases s with
  | any => exact implMatchG_any F k _ y w hy rfl (by rcases hk with rfl | rfl <;> rfl)
  | fn a b =>
    rcases hk with rfl | rfl
    · exact implMatchG_eq F 4 _ _ y w hy
    · exact implMatchG_none F 5 4 _ y w hy rfl rfl rfl
  | pr a b =>
    rcases hk with rfl | rfl
    · exact implMatchG_none F 4 5 _ y w hy rfl rfl rfl
    · exact implMatchG_eq F 5 _ _ y w hy
  | zero => exact implMatchG_none F k 0 _ y w hy rfl (by rcases hk with rfl | rfl <;> rfl) rfl
  | int => exact implMatchG_none F k 2 _ y w hy rfl (by rcases hk with rfl | rfl <;> rfl) rfl
  | bool => exact implMatchG_none F k 3 _ y w hy rfl (by rcases hk with rfl | rfl <;> rfl) rfl
end Go.Proofs.Ytkhmkohgnikcmaa
namespace Go.Proofs.Ytkhmkohgnikcmaa
open Go.RowKit
set_option linter.unusedVariables false
set_option linter.unusedSimpArgs false

theorem row_cells {F : Nat → Prop} {w : World} {b o : Nat} {t : Ty} {k1 : Int} {c1 : Value} (e0 : w.cell? ⟨b, o, none⟩ = some (.int .i64 k1)) (e1 : w.cell? ⟨b, o + 1, none⟩ = some c1) (ht : TyRep F w t (.agg #[.int .i64 k1, c1])) : CellsAt F w b o t.row := by
  obtain ⟨p1, p2⟩ := ht.parts
  cases t with | mk k1' ts =>
  simp only [Ty.kind, Ty.kids] at p1 p2
  subst p1
  unfold Ty.row CellsAt
  refine ⟨⟨_, e0, by unfold CRep; rfl⟩, ?_⟩
  unfold CellsAt
  exact ⟨⟨_, e1, p2⟩, by unfold CellsAt; trivial⟩
theorem TysRep.one_mk {F : Nat → Prop} {w : World} {b cap : Nat} {t : Ty} {k1 : Int} {c1 : Value} (hF : F b) (hc : 1 ≤ cap) (hm : cap ≤ maxLen)
    (e0 : w.cell? ⟨b, 0, none⟩ = some (.int .i64 k1)) (e1 : w.cell? ⟨b, 1, none⟩ = some c1) (ht : TyRep F w t (.agg #[.int .i64 k1, c1])) : TysRep F w [t] (.slice (some ⟨b, 0, none⟩) 1 cap) := by
  unfold TysRep CRep
  refine ⟨_, cap, by simp [Ty.rows_length], by rw [Ty.rows_length]; simpa using hc, hm, .inr ⟨b, 0, rfl, hF, World.block_lt_of_cell? _ _ e0, ?_⟩⟩
  simp only [Ty.rows]
  unfold RowsAt
  exact ⟨row_cells e0 e1 ht, by unfold RowsAt; trivial⟩
theorem TysRep.two_mk {F : Nat → Prop} {w : World} {b cap : Nat} {t u : Ty} {k1 k2 : Int} {c1 c2 : Value} (hF : F b) (hc : 2 ≤ cap) (hm : cap ≤ maxLen)
    (e0 : w.cell? ⟨b, 0, none⟩ = some (.int .i64 k1)) (e1 : w.cell? ⟨b, 1, none⟩ = some c1) (e2 : w.cell? ⟨b, 2, none⟩ = some (.int .i64 k2)) (e3 : w.cell? ⟨b, 3, none⟩ = some c2)
    (ht : TyRep F w t (.agg #[.int .i64 k1, c1])) (hu : TyRep F w u (.agg #[.int .i64 k2, c2])) : TysRep F w [t, u] (.slice (some ⟨b, 0, none⟩) 2 cap) := (TyRep.two_mk (k := 0) hF hc hm e0 e1 e2 e3 ht hu).parts.2
theorem TysRep.three_mk {F : Nat → Prop} {w : World} {b cap : Nat} {t u s : Ty} {k1 k2 k3 : Int} {c1 c2 c3 : Value} (hF : F b) (hc : 3 ≤ cap) (hm : cap ≤ maxLen)
    (e0 : w.cell? ⟨b, 0, none⟩ = some (.int .i64 k1)) (e1 : w.cell? ⟨b, 1, none⟩ = some c1) (e2 : w.cell? ⟨b, 2, none⟩ = some (.int .i64 k2)) (e3 : w.cell? ⟨b, 3, none⟩ = some c2) (e4 : w.cell? ⟨b, 4, none⟩ = some (.int .i64 k3)) (e5 : w.cell? ⟨b, 5, none⟩ = some c3)
    (ht : TyRep F w t (.agg #[.int .i64 k1, c1])) (hu : TyRep F w u (.agg #[.int .i64 k2, c2])) (hs : TyRep F w s (.agg #[.int .i64 k3, c3])) : TysRep F w [t, u, s] (.slice (some ⟨b, 0, none⟩) 3 cap) := by
  have lt : t.row.length = 2 := by cases t; rfl
  have lu : u.row.length = 2 := by cases u; rfl
  unfold TysRep CRep
  refine ⟨_, cap, by simp [Ty.rows_length], by rw [Ty.rows_length]; simpa using hc, hm, .inr ⟨b, 0, rfl, hF, World.block_lt_of_cell? _ _ e0, ?_⟩⟩
  simp only [Ty.rows]
  unfold RowsAt
  refine ⟨row_cells e0 e1 ht, ?_⟩
  unfold RowsAt
  refine ⟨row_cells (by rw [lt]; exact e2) (by rw [lt]; exact e3) hu, ?_⟩
  unfold RowsAt
  exact ⟨row_cells (by rw [lt, lu]; exact e4) (by rw [lt, lu]; exact e5) hs, by unfold RowsAt; trivial⟩
end Go.Proofs.Ytkhmkohgnikcmaa
