/-
  Joins by the program.
  impl.meet: the meet of two consistent types, in fresh memory.
-/
import Derived.Test.YtkhmkohgnikcmaaB18
import Derived.Test.YtkhmkohgnikcmaaB35
namespace Go.Proofs.Ytkhmkohgnikcmaa
open Go.RowKit
set_option linter.unusedVariables false
set_option linter.unusedSimpArgs false
set_option maxRecDepth 100000

def S.leaf : S → Bool
  | .fn _ _ => false
  | .pr _ _ => false
  | _ => true
theorem S.leaf_ty {s : S} (h : s.leaf = true) : s.ty = .mk s.kind [] := by cases s <;> simp [S.leaf, S.ty, S.kind] at h ⊢
/-- 'both' of what two calls have made, one behind the other. -/
theorem implBoth' {W w1 w2 : World} {t u : Ty} {y z : Value} (kk : Int) (hy : TyNew W.heap.size w1 t y) (hb1 : Below W.heap.size W w1) (hz : TyNew w1.heap.size w2 u z) (hb2 : Below w1.heap.size w1 w2) :
    Calls Try.prog 56 #[.int .i64 kk, y, z] w2 fun e w' => ∃ v, e = .returned v ∧ TyNew W.heap.size w' (.mk kk [t, u]) v ∧ Below w2.heap.size w2 w' := by
  obtain ⟨f1, ho1, hd1, hx1⟩ := hy
  obtain ⟨f2, ho2, hd2, hx2⟩ := hz
  have hlt : ∀ b ∈ f1, b < w1.heap.size := by
    obtain ⟨s, rfl, h⟩ := ho1
    exact COwn.lt _ _ _ h
  refine implBoth W.heap.size kk t u y z w2 f1 f2 (ho1.below hb2) ho2 ?_ ?_ (Nat.le_trans hb1.size hb2.size)
  · exact List.nodup_append.2 ⟨hd1, hd2, fun x hx y hy e => by have h1 := hlt x hx; have h2 := hx2 y hy; omega⟩
  · intro b hb
    rcases List.mem_append.1 hb with hb | hb
    · exact hx1 b hb
    · have := hx2 b hb; have := hb1.size; omega

end Go.Proofs.Ytkhmkohgnikcmaa
namespace Go.Proofs.Ytkhmkohgnikcmaa
open Go.RowKit
set_option linter.unusedVariables false
set_option linter.unusedSimpArgs false
set_option maxRecDepth 100000

set_option maxHeartbeats 4000000 in
theorem implMeet_any1 (F G : Nat → Prop) (t u : Ty) (y z : Value) (w : World) (h1 : TyRep F w t y) (h2 : TyRep G w u z) (hk1 : t.kind = 1) (hc : u.cnt ≤ 1048576) :
    Calls Try.prog 59 #[y, z] w (RetTy u w) := by
  obtain ⟨k1, a1, n1, q1, rfl⟩ := h1.shape
  obtain ⟨k2, a2, n2, q2, rfl⟩ := h2.shape
  obtain rfl : k1 = 1 := by obtain ⟨s, he, -⟩ := h1; simp at he; rw [he.1]; exact hk1
  have HCu := Lib.hid hc
  go_enter Try.func59, Try.ntmps59
  go_wp2_with fail
  refine (implOwnType _ u _ _ (h2.below bal3) HCu.out).mono ?_
  rintro e w1 ⟨v1, rfl, hv1, hb1⟩
  obtain ⟨kr1, ar1, nr1, qr1, rfl⟩ := hv1.shape
  have hB := (bstep bal3 hb1)
  have zw1 := hB.size
  have f2_0 : w1.frozen? ⟨w.heap.size + 1 + 1, 0, none⟩ = false := bfroc hb1 (cell_new (by simp) 0) (fro_new (by simp) 0)
  have f2_1 : w1.frozen? ⟨w.heap.size + 1 + 1, 1, none⟩ = false := bfroc hb1 (cell_new (by simp) 1) (fro_new (by simp) 1)
  have c2_0 : w1.cell? ⟨w.heap.size + 1 + 1, 0, none⟩ = some (.int .i64 0) := bcell hb1 (cell_new (by simp) 0)
  have c2_1 : w1.cell? ⟨w.heap.size + 1 + 1, 1, none⟩ = some (.slice none 0 0) := bcell hb1 (cell_new (by simp) 1)
  have d2_w1 := World.block_lt_of_cell? _ _ c2_0
  go_wp2_with fail
  refine bodyPost_ret (v := .agg #[.int .i64 kr1, .slice ar1 nr1 qr1]) (by simp [results, Try.results59, go_sem, c2_0, c2_1]) rfl ?_
  exact ⟨_, rfl, TyNew.mono ((hv1.setCell (by first | (show w.heap.size + 1 + 1 < _; omega) | (show w.heap.size + 1 + 1 < _; simp; omega) | simp) _).setCell (by first | (show w.heap.size + 1 + 1 < _; omega) | (show w.heap.size + 1 + 1 < _; simp; omega) | simp) _) (by first | exact Nat.le_refl _ | omega | (simp; done) | (simp; omega)), ((hB.setCell (by show w.heap.size ≤ w.heap.size + 1 + 1; omega) _).setCell (by show w.heap.size ≤ w.heap.size + 1 + 1; omega) _)⟩

set_option maxHeartbeats 4000000 in
theorem implMeet_any2 (F G : Nat → Prop) (t u : Ty) (y z : Value) (w : World) (h1 : TyRep F w t y) (h2 : TyRep G w u z) (hk1 : t.kind ≠ 1) (hk2 : u.kind = 1) (hc : t.cnt ≤ 1048576) :
    Calls Try.prog 59 #[y, z] w (RetTy t w) := by
  obtain ⟨k1, a1, n1, q1, rfl⟩ := h1.shape
  obtain ⟨k2, a2, n2, q2, rfl⟩ := h2.shape
  have hkb : (k1 == 1) = false := by obtain ⟨s, he, -⟩ := h1; simp at he; rw [he.1]; simpa using hk1
  obtain rfl : k2 = 1 := by obtain ⟨s, he, -⟩ := h2; simp at he; rw [he.1]; exact hk2
  have HCt := Lib.hid hc
  clear hk1
  go_enter Try.func59, Try.ntmps59
  go_wp2_with fail
  refine (implOwnType _ t _ _ (h1.below bal3) HCt.out).mono ?_
  rintro e w1 ⟨v1, rfl, hv1, hb1⟩
  obtain ⟨kr1, ar1, nr1, qr1, rfl⟩ := hv1.shape
  have hB := (bstep bal3 hb1)
  have zw1 := hB.size
  have f2_0 : w1.frozen? ⟨w.heap.size + 1 + 1, 0, none⟩ = false := bfroc hb1 (cell_new (by simp) 0) (fro_new (by simp) 0)
  have f2_1 : w1.frozen? ⟨w.heap.size + 1 + 1, 1, none⟩ = false := bfroc hb1 (cell_new (by simp) 1) (fro_new (by simp) 1)
  have c2_0 : w1.cell? ⟨w.heap.size + 1 + 1, 0, none⟩ = some (.int .i64 0) := bcell hb1 (cell_new (by simp) 0)
  have c2_1 : w1.cell? ⟨w.heap.size + 1 + 1, 1, none⟩ = some (.slice none 0 0) := bcell hb1 (cell_new (by simp) 1)
  have d2_w1 := World.block_lt_of_cell? _ _ c2_0
  go_wp2_with fail
  refine bodyPost_ret (v := .agg #[.int .i64 kr1, .slice ar1 nr1 qr1]) (by simp [results, Try.results59, go_sem, c2_0, c2_1]) rfl ?_
  exact ⟨_, rfl, TyNew.mono ((hv1.setCell (by first | (show w.heap.size + 1 + 1 < _; omega) | (show w.heap.size + 1 + 1 < _; simp; omega) | simp) _).setCell (by first | (show w.heap.size + 1 + 1 < _; omega) | (show w.heap.size + 1 + 1 < _; simp; omega) | simp) _) (by first | exact Nat.le_refl _ | omega | (simp; done) | (simp; omega)), ((hB.setCell (by show w.heap.size ≤ w.heap.size + 1 + 1; omega) _).setCell (by show w.heap.size ≤ w.heap.size + 1 + 1; omega) _)⟩

set_option maxHeartbeats 4000000 in
theorem implMeet_leaf (F G : Nat → Prop) (t u : Ty) (y z : Value) (w : World) (h1 : TyRep F w t y) (h2 : TyRep G w u z) (hk1 : t.kind ≠ 1) (hk2 : u.kind ≠ 1) (hn : t.kids = []) (hc : t.cnt ≤ 1048576) :
    Calls Try.prog 59 #[y, z] w (RetTy t w) := by
  obtain ⟨k1, a1, n1, q1, rfl⟩ := h1.shape
  obtain ⟨k2, a2, n2, q2, rfl⟩ := h2.shape
  obtain rfl : n1 = 0 := by obtain ⟨s, he, hs⟩ := h1; simp at he; obtain ⟨_, _, he2, -⟩ := hs.open; rw [he2] at he; simp at he; rw [he.2.2.1, hn]; rfl
  have hkb : (k1 == 1) = false := by obtain ⟨s, he, -⟩ := h1; simp at he; rw [he.1]; simpa using hk1
  have hlb : (k2 == 1) = false := by obtain ⟨s, he, -⟩ := h2; simp at he; rw [he.1]; simpa using hk2
  have HCt := Lib.hid hc
  clear hk1 hk2
  go_enter Try.func59, Try.ntmps59
  go_wp2_with fail
  refine (implOwnType _ t _ _ (h1.below bal3) HCt.out).mono ?_
  rintro e w1 ⟨v1, rfl, hv1, hb1⟩
  obtain ⟨kr1, ar1, nr1, qr1, rfl⟩ := hv1.shape
  have hB := (bstep bal3 hb1)
  have zw1 := hB.size
  have f2_0 : w1.frozen? ⟨w.heap.size + 1 + 1, 0, none⟩ = false := bfroc hb1 (cell_new (by simp) 0) (fro_new (by simp) 0)
  have f2_1 : w1.frozen? ⟨w.heap.size + 1 + 1, 1, none⟩ = false := bfroc hb1 (cell_new (by simp) 1) (fro_new (by simp) 1)
  have c2_0 : w1.cell? ⟨w.heap.size + 1 + 1, 0, none⟩ = some (.int .i64 0) := bcell hb1 (cell_new (by simp) 0)
  have c2_1 : w1.cell? ⟨w.heap.size + 1 + 1, 1, none⟩ = some (.slice none 0 0) := bcell hb1 (cell_new (by simp) 1)
  have d2_w1 := World.block_lt_of_cell? _ _ c2_0
  go_wp2_with fail
  refine bodyPost_ret (v := .agg #[.int .i64 kr1, .slice ar1 nr1 qr1]) (by simp [results, Try.results59, go_sem, c2_0, c2_1]) rfl ?_
  exact ⟨_, rfl, TyNew.mono ((hv1.setCell (by first | (show w.heap.size + 1 + 1 < _; omega) | (show w.heap.size + 1 + 1 < _; simp; omega) | simp) _).setCell (by first | (show w.heap.size + 1 + 1 < _; omega) | (show w.heap.size + 1 + 1 < _; simp; omega) | simp) _) (by first | exact Nat.le_refl _ | omega | (simp; done) | (simp; omega)), ((hB.setCell (by show w.heap.size ≤ w.heap.size + 1 + 1; omega) _).setCell (by show w.heap.size ≤ w.heap.size + 1 + 1; omega) _)⟩

set_option maxHeartbeats 4000000 in
theorem implMeet_two (F G : Nat → Prop) (k : Int) (t1 t2 u1 u2 r1 r2 : Ty) (y z : Value) (w : World)
    (hy : TyRep F w (.mk k [t1, t2]) y) (hz : TyRep G w (.mk k [u1, u2]) z) (hk : (k == 1) = false)
    (IH1 : ∀ (W : World) (y z : Value), TyRep F W t1 y → TyRep G W u1 z → Calls Try.prog 59 #[y, z] W (RetTy r1 W))
    (IH2 : ∀ (W : World) (y z : Value), TyRep F W t2 y → TyRep G W u2 z → Calls Try.prog 59 #[y, z] W (RetTy r2 W)) :
    Calls Try.prog 59 #[y, z] w (RetTy (.mk k [r1, r2]) w) := by
  obtain ⟨ys, rfl, hys⟩ := hy
  obtain ⟨zs, rfl, hzs⟩ := hz
  obtain ⟨b, off, cap, k1, c1, m1, q1, k2, c2, m2, q2, rfl, g2, g3, hb, e0, e1, e2, e3, ht1, ht2⟩ := TysRep.two hys
  obtain ⟨b', off', cap', k1', c1', m1', q1', k2', c2', m2', q2', rfl, g2', g3', hb', e0', e1', e2', e3', ht1', ht2'⟩ := TysRep.two hzs
  simp only [Ty.kind, Ty.kids] at *
  have H1 := Lib.hid IH1
  have H2 := Lib.hid IH2
  clear IH1 IH2 hys hzs
  go_enter Try.func59, Try.ntmps59
  go_wp2_with fail
  have s0_ : (World.alloc (World.alloc (World.alloc w (Obj.cells #[.int .i64 k, .slice (some ⟨b, off, none⟩) 2 cap] 31)) (Obj.cells #[.int .i64 k, .slice (some ⟨b', off', none⟩) 2 cap'] 31)) (Obj.cells #[.int .i64 0, .slice none 0 0] 31)).cell? ⟨w.heap.size, 0, none⟩ = some (.int .i64 k) := bcell bal1 (bcell bal1 (cell_new (by simp) 0))
  have s1_ : (World.alloc (World.alloc (World.alloc w (Obj.cells #[.int .i64 k, .slice (some ⟨b, off, none⟩) 2 cap] 31)) (Obj.cells #[.int .i64 k, .slice (some ⟨b', off', none⟩) 2 cap'] 31)) (Obj.cells #[.int .i64 0, .slice none 0 0] 31)).cell? ⟨w.heap.size, 1, none⟩ = some (.slice (some ⟨b, off, none⟩) 2 cap) := bcell bal1 (bcell bal1 (cell_new (by simp) 1))
  have s2_ : (World.alloc (World.alloc (World.alloc w (Obj.cells #[.int .i64 k, .slice (some ⟨b, off, none⟩) 2 cap] 31)) (Obj.cells #[.int .i64 k, .slice (some ⟨b', off', none⟩) 2 cap'] 31)) (Obj.cells #[.int .i64 0, .slice none 0 0] 31)).cell? ⟨b, off, none⟩ = some (.int .i64 k1) := bcell bal1 (bcell bal1 (bcell bal1 (e0)))
  have s3_ : (World.alloc (World.alloc (World.alloc w (Obj.cells #[.int .i64 k, .slice (some ⟨b, off, none⟩) 2 cap] 31)) (Obj.cells #[.int .i64 k, .slice (some ⟨b', off', none⟩) 2 cap'] 31)) (Obj.cells #[.int .i64 0, .slice none 0 0] 31)).cell? ⟨b, off + 1, none⟩ = some (.slice c1 m1 q1) := bcell bal1 (bcell bal1 (bcell bal1 (e1)))
  have s4_ : (World.alloc (World.alloc (World.alloc w (Obj.cells #[.int .i64 k, .slice (some ⟨b, off, none⟩) 2 cap] 31)) (Obj.cells #[.int .i64 k, .slice (some ⟨b', off', none⟩) 2 cap'] 31)) (Obj.cells #[.int .i64 0, .slice none 0 0] 31)).cell? ⟨w.heap.size + 1, 1, none⟩ = some (.slice (some ⟨b', off', none⟩) 2 cap') := bcell bal1 (cell_new (by simp) 1)
  have s5_ : (World.alloc (World.alloc (World.alloc w (Obj.cells #[.int .i64 k, .slice (some ⟨b, off, none⟩) 2 cap] 31)) (Obj.cells #[.int .i64 k, .slice (some ⟨b', off', none⟩) 2 cap'] 31)) (Obj.cells #[.int .i64 0, .slice none 0 0] 31)).cell? ⟨b', off', none⟩ = some (.int .i64 k1') := bcell bal1 (bcell bal1 (bcell bal1 (e0')))
  have s6_ : (World.alloc (World.alloc (World.alloc w (Obj.cells #[.int .i64 k, .slice (some ⟨b, off, none⟩) 2 cap] 31)) (Obj.cells #[.int .i64 k, .slice (some ⟨b', off', none⟩) 2 cap'] 31)) (Obj.cells #[.int .i64 0, .slice none 0 0] 31)).cell? ⟨b', off' + 1, none⟩ = some (.slice c1' m1' q1') := bcell bal1 (bcell bal1 (bcell bal1 (e1')))
  have s7_ : (World.alloc (World.alloc (World.alloc w (Obj.cells #[.int .i64 k, .slice (some ⟨b, off, none⟩) 2 cap] 31)) (Obj.cells #[.int .i64 k, .slice (some ⟨b', off', none⟩) 2 cap'] 31)) (Obj.cells #[.int .i64 0, .slice none 0 0] 31)).cell? ⟨b, off + 2, none⟩ = some (.int .i64 k2) := bcell bal1 (bcell bal1 (bcell bal1 (e2)))
  have s8_ : (World.alloc (World.alloc (World.alloc w (Obj.cells #[.int .i64 k, .slice (some ⟨b, off, none⟩) 2 cap] 31)) (Obj.cells #[.int .i64 k, .slice (some ⟨b', off', none⟩) 2 cap'] 31)) (Obj.cells #[.int .i64 0, .slice none 0 0] 31)).cell? ⟨b, off + 3, none⟩ = some (.slice c2 m2 q2) := bcell bal1 (bcell bal1 (bcell bal1 (e3)))
  have s9_ : (World.alloc (World.alloc (World.alloc w (Obj.cells #[.int .i64 k, .slice (some ⟨b, off, none⟩) 2 cap] 31)) (Obj.cells #[.int .i64 k, .slice (some ⟨b', off', none⟩) 2 cap'] 31)) (Obj.cells #[.int .i64 0, .slice none 0 0] 31)).cell? ⟨b', off' + 2, none⟩ = some (.int .i64 k2') := bcell bal1 (bcell bal1 (bcell bal1 (e2')))
  have s10_ : (World.alloc (World.alloc (World.alloc w (Obj.cells #[.int .i64 k, .slice (some ⟨b, off, none⟩) 2 cap] 31)) (Obj.cells #[.int .i64 k, .slice (some ⟨b', off', none⟩) 2 cap'] 31)) (Obj.cells #[.int .i64 0, .slice none 0 0] 31)).cell? ⟨b', off' + 3, none⟩ = some (.slice c2' m2' q2') := bcell bal1 (bcell bal1 (bcell bal1 (e3')))
  go_region_held3 (fun w' => w'.cell? ⟨w.heap.size, 0, none⟩ = some (.int .i64 k) ∧ w'.cell? ⟨w.heap.size, 1, none⟩ = some (.slice (some ⟨b, off, none⟩) 2 cap) ∧ w'.cell? ⟨b, off, none⟩ = some (.int .i64 k1) ∧ w'.cell? ⟨b, off + 1, none⟩ = some (.slice c1 m1 q1) ∧ w'.cell? ⟨w.heap.size + 1, 1, none⟩ = some (.slice (some ⟨b', off', none⟩) 2 cap') ∧ w'.cell? ⟨b', off', none⟩ = some (.int .i64 k1') ∧ w'.cell? ⟨b', off' + 1, none⟩ = some (.slice c1' m1' q1') ∧ w'.cell? ⟨b, off + 2, none⟩ = some (.int .i64 k2) ∧ w'.cell? ⟨b, off + 3, none⟩ = some (.slice c2 m2 q2) ∧ w'.cell? ⟨b', off' + 2, none⟩ = some (.int .i64 k2') ∧ w'.cell? ⟨b', off' + 3, none⟩ = some (.slice c2' m2' q2'))
    (first | with_reducible exact ⟨dcell (s0_), dcell (s1_), dcell (s2_), dcell (s3_), dcell (s4_), dcell (s5_), dcell (s6_), dcell (s7_), dcell (s8_), dcell (s9_), dcell (s10_)⟩ | with_reducible exact ⟨bcell hb1 (dcell (s0_)), bcell hb1 (dcell (s1_)), bcell hb1 (dcell (s2_)), bcell hb1 (dcell (s3_)), bcell hb1 (dcell (s4_)), bcell hb1 (dcell (s5_)), bcell hb1 (dcell (s6_)), bcell hb1 (dcell (s7_)), bcell hb1 (dcell (s8_)), bcell hb1 (dcell (s9_)), bcell hb1 (dcell (s10_))⟩ | with_reducible exact ⟨bcell hb2 (bcell hb1 (dcell (s0_))), bcell hb2 (bcell hb1 (dcell (s1_))), bcell hb2 (bcell hb1 (dcell (s2_))), bcell hb2 (bcell hb1 (dcell (s3_))), bcell hb2 (bcell hb1 (dcell (s4_))), bcell hb2 (bcell hb1 (dcell (s5_))), bcell hb2 (bcell hb1 (dcell (s6_))), bcell hb2 (bcell hb1 (dcell (s7_))), bcell hb2 (bcell hb1 (dcell (s8_))), bcell hb2 (bcell hb1 (dcell (s9_))), bcell hb2 (bcell hb1 (dcell (s10_)))⟩ | with_reducible exact ⟨bcell hb3 (bcell hb2 (bcell hb1 (dcell (s0_)))), bcell hb3 (bcell hb2 (bcell hb1 (dcell (s1_)))), bcell hb3 (bcell hb2 (bcell hb1 (dcell (s2_)))), bcell hb3 (bcell hb2 (bcell hb1 (dcell (s3_)))), bcell hb3 (bcell hb2 (bcell hb1 (dcell (s4_)))), bcell hb3 (bcell hb2 (bcell hb1 (dcell (s5_)))), bcell hb3 (bcell hb2 (bcell hb1 (dcell (s6_)))), bcell hb3 (bcell hb2 (bcell hb1 (dcell (s7_)))), bcell hb3 (bcell hb2 (bcell hb1 (dcell (s8_)))), bcell hb3 (bcell hb2 (bcell hb1 (dcell (s9_)))), bcell hb3 (bcell hb2 (bcell hb1 (dcell (s10_))))⟩ | with_reducible exact ⟨sc_blk (sc_blk (bcell hb3 (bcell hb2 (bcell hb1 (dcell (s0_))))) (by show w.heap.size ≠ w.heap.size + 1 + 1; omega)) (by show w.heap.size ≠ w.heap.size + 1 + 1; omega), sc_blk (sc_blk (bcell hb3 (bcell hb2 (bcell hb1 (dcell (s1_))))) (by show w.heap.size ≠ w.heap.size + 1 + 1; omega)) (by show w.heap.size ≠ w.heap.size + 1 + 1; omega), sc_blk (sc_blk (bcell hb3 (bcell hb2 (bcell hb1 (dcell (s2_))))) (by show b ≠ w.heap.size + 1 + 1; omega)) (by show b ≠ w.heap.size + 1 + 1; omega), sc_blk (sc_blk (bcell hb3 (bcell hb2 (bcell hb1 (dcell (s3_))))) (by show b ≠ w.heap.size + 1 + 1; omega)) (by show b ≠ w.heap.size + 1 + 1; omega), sc_blk (sc_blk (bcell hb3 (bcell hb2 (bcell hb1 (dcell (s4_))))) (by show w.heap.size + 1 ≠ w.heap.size + 1 + 1; omega)) (by show w.heap.size + 1 ≠ w.heap.size + 1 + 1; omega), sc_blk (sc_blk (bcell hb3 (bcell hb2 (bcell hb1 (dcell (s5_))))) (by show b' ≠ w.heap.size + 1 + 1; omega)) (by show b' ≠ w.heap.size + 1 + 1; omega), sc_blk (sc_blk (bcell hb3 (bcell hb2 (bcell hb1 (dcell (s6_))))) (by show b' ≠ w.heap.size + 1 + 1; omega)) (by show b' ≠ w.heap.size + 1 + 1; omega), sc_blk (sc_blk (bcell hb3 (bcell hb2 (bcell hb1 (dcell (s7_))))) (by show b ≠ w.heap.size + 1 + 1; omega)) (by show b ≠ w.heap.size + 1 + 1; omega), sc_blk (sc_blk (bcell hb3 (bcell hb2 (bcell hb1 (dcell (s8_))))) (by show b ≠ w.heap.size + 1 + 1; omega)) (by show b ≠ w.heap.size + 1 + 1; omega), sc_blk (sc_blk (bcell hb3 (bcell hb2 (bcell hb1 (dcell (s9_))))) (by show b' ≠ w.heap.size + 1 + 1; omega)) (by show b' ≠ w.heap.size + 1 + 1; omega), sc_blk (sc_blk (bcell hb3 (bcell hb2 (bcell hb1 (dcell (s10_))))) (by show b' ≠ w.heap.size + 1 + 1; omega)) (by show b' ≠ w.heap.size + 1 + 1; omega)⟩)
    (first | (go_at_call 59; ((with_reducible refine (H1.out _ _ _ (ht1.below bal3.drew) (ht1'.below bal3.drew)).mono ?_); rintro e w1 ⟨v1, rfl, hv1, hb1⟩; obtain ⟨kr1, ar1, nr1, qr1, rfl⟩ := hv1.shape)) | (go_at_call 59; ((with_reducible refine (H2.out _ _ _ (ht2.below (bstep bal3.drew hb1)) (ht2'.below (bstep bal3.drew hb1))).mono ?_); rintro e w2 ⟨v2, rfl, hv2, hb2⟩; obtain ⟨kr2, ar2, nr2, qr2, rfl⟩ := hv2.shape)) | (go_at_call 56; ((with_reducible refine (implBoth' k hv1 hb1 hv2 hb2).mono ?_); rintro e w3 ⟨v3, rfl, hv3, hb3⟩; obtain ⟨kr3, ar3, nr3, qr3, rfl⟩ := hv3.shape; have f2_0 : w3.frozen? ⟨w.heap.size + 1 + 1, 0, none⟩ = false := bfroc hb3 (bcell hb2 (bcell hb1 (dcell (cell_new (by simp) 0)))) (bfroc hb2 (bcell hb1 (dcell (cell_new (by simp) 0))) (bfroc hb1 (dcell (cell_new (by simp) 0)) (dfro (fro_new (by simp) 0)))); have c2_0' : w3.cell? ⟨w.heap.size + 1 + 1, 0, none⟩ = some (.int .i64 0) := bcell hb3 (bcell hb2 (bcell hb1 (dcell (cell_new (by simp) 0)))); have d2_ := World.block_lt_of_cell? _ _ c2_0'; have f2_1 : w3.frozen? ⟨w.heap.size + 1 + 1, 1, none⟩ = false := bfroc hb3 (bcell hb2 (bcell hb1 (dcell (cell_new (by simp) 1)))) (bfroc hb2 (bcell hb1 (dcell (cell_new (by simp) 1))) (bfroc hb1 (dcell (cell_new (by simp) 1)) (dfro (fro_new (by simp) 1)))); have c2_1' : w3.cell? ⟨w.heap.size + 1 + 1, 1, none⟩ = some (.slice none 0 0) := bcell hb3 (bcell hb2 (bcell hb1 (dcell (cell_new (by simp) 1)))); have d2_ := World.block_lt_of_cell? _ _ c2_1')))
  clear s0_ s1_ s2_ s3_ s4_ s5_ s6_ s7_ s8_ s9_ s10_
  have hB := (bstep (bstep (bstep bal3.drew hb1) hb2) hb3)
  have zw3 := hB.size
  have c2_0 : w3.cell? ⟨w.heap.size + 1 + 1, 0, none⟩ = some (.int .i64 0) := bcell hb3 (bcell hb2 (bcell hb1 (dcell (cell_new (by simp) 0))))
  have c2_1 : w3.cell? ⟨w.heap.size + 1 + 1, 1, none⟩ = some (.slice none 0 0) := bcell hb3 (bcell hb2 (bcell hb1 (dcell (cell_new (by simp) 1))))
  have d2_w3 := World.block_lt_of_cell? _ _ c2_0
  go_wp2_with fail
  refine bodyPost_ret (v := .agg #[.int .i64 kr3, .slice ar3 nr3 qr3]) (by simp [results, Try.results59, go_sem, c2_0, c2_1]) rfl ?_
  exact ⟨_, rfl, TyNew.mono ((hv3.setCell (by first | (show w.heap.size + 1 + 1 < _; omega) | (show w.heap.size + 1 + 1 < _; simp; omega) | simp) _).setCell (by first | (show w.heap.size + 1 + 1 < _; omega) | (show w.heap.size + 1 + 1 < _; simp; omega) | simp) _) (by first | exact Nat.le_refl _ | omega | (simp; done) | (simp; omega)), ((hB.setCell (by show w.heap.size ≤ w.heap.size + 1 + 1; omega) _).setCell (by show w.heap.size ≤ w.heap.size + 1 + 1; omega) _)⟩

theorem implMeet_leafS (F G : Nat → Prop) (s : S) (hl : s.leaf = true) : ∀ (u : S) (y z : Value) (w : World), TyRep F w s.ty y → TyRep G w u.ty z → u.cnt ≤ 1048576 → s.cons u = true →
    Calls Try.prog 59 #[y, z] w (RetTy (s.meet u).ty w) := by
  intro u y z w hy hz hu hc
  have h0 : s.ty.cnt ≤ 1048576 := by rw [S.leaf_ty hl]; simp [Ty.cnt, Ty.cnts]
  by_cases h1 : s = .any
  · subst h1
    rw [S.any_meet]
    exact implMeet_any1 F G _ _ y z w hy hz rfl (by rw [S.ty_cnt]; exact hu)
  · have hm : s.meet u = s := by cases s <;> simp [S.leaf] at hl h1 <;> cases u <;> rfl
    rw [hm]
    by_cases h2 : u = .any
    · subst h2
      exact implMeet_any2 F G _ _ y z w hy hz (by cases s <;> simp [S.leaf, S.ty, Ty.kind] at hl h1 ⊢) rfl h0
    · exact implMeet_leaf F G _ _ y z w hy hz (by cases s <;> simp [S.leaf, S.ty, Ty.kind] at hl h1 ⊢) (by cases u <;> simp [S.ty, Ty.kind] at h2 ⊢) (by rw [S.leaf_ty hl]; rfl) h0
theorem implMeet (F G : Nat → Prop) (s : S) : ∀ (u : S) (y z : Value) (w : World), TyRep F w s.ty y → TyRep G w u.ty z → s.cnt ≤ 1048576 → u.cnt ≤ 1048576 → s.cons u = true →
    Calls Try.prog 59 #[y, z] w (RetTy (s.meet u).ty w) := by
  induction s with
  | fn a b ha hb =>
    intro u y z w hy hz hs hu hc
    cases u <;> simp [S.cons] at hc
    · exact implMeet_any2 F G (S.fn a b).ty S.any.ty y z w hy hz (by simp [S.ty, Ty.kind]) rfl (by rw [S.ty_cnt]; exact hs)
    · rename_i c d
      simp only [S.cnt] at hs hu
      exact implMeet_two F G 4 a.ty b.ty c.ty d.ty _ _ y z w hy hz rfl (fun W y z p q => ha c y z W p q (by omega) (by omega) hc.1) (fun W y z p q => hb d y z W p q (by omega) (by omega) hc.2)
  | pr a b ha hb =>
    intro u y z w hy hz hs hu hc
    cases u <;> simp [S.cons] at hc
    · exact implMeet_any2 F G (S.pr a b).ty S.any.ty y z w hy hz (by simp [S.ty, Ty.kind]) rfl (by rw [S.ty_cnt]; exact hs)
    · rename_i c d
      simp only [S.cnt] at hs hu
      exact implMeet_two F G 5 a.ty b.ty c.ty d.ty _ _ y z w hy hz rfl (fun W y z p q => ha c y z W p q (by omega) (by omega) hc.1) (fun W y z p q => hb d y z W p q (by omega) (by omega) hc.2)
  | zero => exact fun u y z w hy hz _ hu hc => implMeet_leafS F G _ rfl u y z w hy hz hu hc
  | any => exact fun u y z w hy hz _ hu hc => implMeet_leafS F G _ rfl u y z w hy hz hu hc
  | int => exact fun u y z w hy hz _ hu hc => implMeet_leafS F G _ rfl u y z w hy hz hu hc
  | bool => exact fun u y z w hy hz _ hu hc => implMeet_leafS F G _ rfl u y z w hy hz hu hc
theorem S.vd_cntM {s : S} (h : s.vd = true) : s.cnt ≤ 1048576 := by rw [← S.ty_cnt]; exact Ty.cnt_valid (by rw [S.valid]; exact h)
end Go.Proofs.Ytkhmkohgnikcmaa
