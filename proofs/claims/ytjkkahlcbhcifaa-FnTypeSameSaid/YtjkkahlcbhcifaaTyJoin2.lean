/-
  Joins by the program.
-/
import Derived.Test.YtjkkahlcbhcifaaTyCopy
import Derived.Test.YtjkkahlcbhcifaaWk2
import Derived.Test.YtjkkahlcbhcifaaS
namespace Go.Proofs.Ytjkkahlcbhcifaa
open Go.RowKit
set_option linter.unusedVariables false
set_option linter.unusedSimpArgs false
set_option maxRecDepth 100000

theorem S.join_diff {s u : S} (h : s.kind ≠ u.kind) : s.join u = .any := by
  cases s <;> cases u <;> simp [S.kind, S.join] at h ⊢
def S.leaf : S → Bool
  | .fn _ _ => false
  | .pr _ _ => false
  | _ => true
theorem S.leaf_ty {s : S} (h : s.leaf = true) : s.ty = .mk s.kind [] := by cases s <;> simp [S.leaf, S.ty, S.kind] at h ⊢
theorem S.join_leaf {s u : S} (h : s.kind = u.kind) (hl : s.leaf = true) : s.join u = s := by
  cases s <;> cases u <;> simp [S.kind, S.join, S.leaf] at h hl ⊢
theorem S.kids_of (s : S) : s.leaf = true ∨ ∃ a b, s.ty = .mk s.kind [a.ty, b.ty] ∧ (s = .fn a b ∨ s = .pr a b) := by
  cases s <;> simp [S.leaf, S.ty, S.kind]

set_option maxHeartbeats 4000000 in
theorem implJoin_diff (F G : Nat → Prop) (t u : Ty) (y z : Value) (w : World) (hy : TyRep F w t y) (hz : TyRep G w u z) (hk : t.kind ≠ u.kind) :
    Calls Try.prog 116 #[y, z] w (RetTy (.mk 1 []) w) := by
  obtain ⟨a, cap, rfl, h2, h3, -⟩ := hy.open
  obtain ⟨c, cap', rfl, g2, g3, -⟩ := hz.open
  have hkl : (t.kind != u.kind) = true := by simpa using hk
  clear hk hy hz
  generalize t.kind = k at *
  generalize u.kind = l at *
  generalize t.kids.length = n at *
  generalize u.kids.length = m at *
  go_enter Try.func116, Try.ntmps116
  go_wp2_with fail
  refine (implBase 1 _).mono ?_
  rintro e w1 ⟨v, rfl, hvn, hb1⟩
  obtain ⟨k3, a3, n3, q3, rfl⟩ := hvn.shape
  have c0 : w1.cell? ⟨w.heap.size + 1 + 1, 0, none⟩ = some (.int .i64 0) := bcell hb1 (cell_n2 0)
  have c1 : w1.cell? ⟨w.heap.size + 1 + 1, 1, none⟩ = some (.slice none 0 0) := bcell hb1 (cell_n2 1)
  have f0 := bfro (j := 0) hb1 (by simp) (fro_n2 0)
  have f3 := bfro (j := 1) hb1 (by simp) (fro_n2 1)
  go_wp2_with fail
  refine bodyPost_ret (v := .agg #[.int .i64 k3, .slice a3 n3 q3]) (by simp [results, Try.results116, go_sem, c0, c1]) rfl ?_
  refine ⟨_, rfl, TyNew.mono ((hvn.setCell (by simp) _).setCell (by simp) _) (by simp; omega), ?_⟩
  exact ((bstep bal3 hb1).setCell (by show w.heap.size ≤ w.heap.size + 1 + 1; omega) _).setCell (by show w.heap.size ≤ w.heap.size + 1 + 1; omega) _

set_option maxHeartbeats 4000000 in
theorem implJoin_leaf (F G : Nat → Prop) (k : Int) (u : Ty) (y z : Value) (w : World) (hy : TyRep F w (.mk k []) y) (hz : TyRep G w u z) (hk : k = u.kind) :
    Calls Try.prog 116 #[y, z] w (RetTy (.mk k []) w) := by
  obtain ⟨a, cap, rfl, h2, h3, -⟩ := hy.open
  obtain ⟨c, cap', rfl, g2, g3, -⟩ := hz.open
  simp only [Ty.kind, Ty.kids, List.length_nil] at *
  rw [← hk]
  clear hk hy hz
  generalize u.kids.length = m at *
  go_enter Try.func116, Try.ntmps116
  go_wp2_with fail
  refine (implBase k _).mono ?_
  rintro e w1 ⟨v, rfl, hvn, hb1⟩
  obtain ⟨k3, a3, n3, q3, rfl⟩ := hvn.shape
  have c0 : w1.cell? ⟨w.heap.size + 1 + 1, 0, none⟩ = some (.int .i64 0) := bcell hb1 (cell_n2 0)
  have c1 : w1.cell? ⟨w.heap.size + 1 + 1, 1, none⟩ = some (.slice none 0 0) := bcell hb1 (cell_n2 1)
  have f0 := bfro (j := 0) hb1 (by simp) (fro_n2 0)
  have f3 := bfro (j := 1) hb1 (by simp) (fro_n2 1)
  go_wp2_with fail
  refine bodyPost_ret (v := .agg #[.int .i64 k3, .slice a3 n3 q3]) (by simp [results, Try.results116, go_sem, c0, c1]) rfl ?_
  refine ⟨_, rfl, TyNew.mono ((hvn.setCell (by simp) _).setCell (by simp) _) (by simp; omega), ?_⟩
  exact ((bstep bal3 hb1).setCell (by show w.heap.size ≤ w.heap.size + 1 + 1; omega) _).setCell (by show w.heap.size ≤ w.heap.size + 1 + 1; omega) _

/-- 'both' of what two calls have made, one behind the other. -/
theorem implBoth' {W w1 w2 : World} {t u : Ty} {y z : Value} (kk : Int) (hy : TyNew W.heap.size w1 t y) (hb1 : Below W.heap.size W w1) (hz : TyNew w1.heap.size w2 u z) (hb2 : Below w1.heap.size w1 w2) :
    Calls Try.prog 138 #[.int .i64 kk, y, z] w2 fun e w' => ∃ v, e = .returned v ∧ TyNew W.heap.size w' (.mk kk [t, u]) v ∧ Below w2.heap.size w2 w' := by
  obtain ⟨f1, ho1, hd1, hx1⟩ := hy
  obtain ⟨f2, ho2, hd2, hx2⟩ := hz
  have hlt : ∀ b ∈ f1, b < w1.heap.size := by
    obtain ⟨s, rfl, h⟩ := ho1
    exact COwn.lt _ _ _ h
  refine implBoth W.heap.size kk t u y z w2 f1 f2 (ho1.below hb2) ho2 ?_ ?_ (Nat.le_trans hb1.size hb2.size)
  · exact List.nodup_append.2 ⟨hd1, hd2, fun x hx y hy e => by have h1 := hlt x hx; have h2 := hx2 y hy; omega⟩
  · intro b hb
    rcases List.mem_append.1 hb with hb | hb
    · exact hx1 b hb
    · have := hx2 b hb; have := hb1.size; omega

set_option maxHeartbeats 4000000 in
theorem implJoin_two (F G : Nat → Prop) (k : Int) (t1 t2 u1 u2 r1 r2 : Ty) (y z : Value) (w : World)
    (hy : TyRep F w (.mk k [t1, t2]) y) (hz : TyRep G w (.mk k [u1, u2]) z)
    (IH1 : ∀ (W : World) (y z : Value), TyRep F W t1 y → TyRep G W u1 z → Calls Try.prog 116 #[y, z] W (RetTy r1 W))
    (IH2 : ∀ (W : World) (y z : Value), TyRep F W t2 y → TyRep G W u2 z → Calls Try.prog 116 #[y, z] W (RetTy r2 W)) :
    Calls Try.prog 116 #[y, z] w (RetTy (.mk k [r1, r2]) w) := by
  obtain ⟨ys, rfl, hys⟩ := hy
  obtain ⟨zs, rfl, hzs⟩ := hz
  obtain ⟨b, off, cap, k1, c1, m1, q1, k2, c2, m2, q2, rfl, g2, g3, hb, e0, e1, e2, e3, ht1, ht2⟩ := TysRep.two hys
  obtain ⟨b', off', cap', k1', c1', m1', q1', k2', c2', m2', q2', rfl, g2', g3', hb', e0', e1', e2', e3', ht1', ht2'⟩ := TysRep.two hzs
  simp only [Ty.kind, Ty.kids] at *
  have H1 := Lib.hid IH1
  have H2 := Lib.hid IH2
  clear IH1 IH2 hys hzs
  go_enter Try.func116, Try.ntmps116
  go_wp2_with fail
  have s0_ : (World.alloc (World.alloc (World.alloc w (Obj.cells #[.int .i64 k, .slice (some ⟨b, off, none⟩) 2 cap] 29)) (Obj.cells #[.int .i64 k, .slice (some ⟨b', off', none⟩) 2 cap'] 29)) (Obj.cells #[.int .i64 0, .slice none 0 0] 29)).cell? ⟨w.heap.size, 0, none⟩ = some (.int .i64 k) := bcell bal1 (bcell bal1 (cell_new (by simp) 0))
  have s1_ : (World.alloc (World.alloc (World.alloc w (Obj.cells #[.int .i64 k, .slice (some ⟨b, off, none⟩) 2 cap] 29)) (Obj.cells #[.int .i64 k, .slice (some ⟨b', off', none⟩) 2 cap'] 29)) (Obj.cells #[.int .i64 0, .slice none 0 0] 29)).cell? ⟨w.heap.size, 1, none⟩ = some (.slice (some ⟨b, off, none⟩) 2 cap) := bcell bal1 (bcell bal1 (cell_new (by simp) 1))
  have s2_ : (World.alloc (World.alloc (World.alloc w (Obj.cells #[.int .i64 k, .slice (some ⟨b, off, none⟩) 2 cap] 29)) (Obj.cells #[.int .i64 k, .slice (some ⟨b', off', none⟩) 2 cap'] 29)) (Obj.cells #[.int .i64 0, .slice none 0 0] 29)).cell? ⟨b, off, none⟩ = some (.int .i64 k1) := bcell bal1 (bcell bal1 (bcell bal1 (e0)))
  have s3_ : (World.alloc (World.alloc (World.alloc w (Obj.cells #[.int .i64 k, .slice (some ⟨b, off, none⟩) 2 cap] 29)) (Obj.cells #[.int .i64 k, .slice (some ⟨b', off', none⟩) 2 cap'] 29)) (Obj.cells #[.int .i64 0, .slice none 0 0] 29)).cell? ⟨b, off + 1, none⟩ = some (.slice c1 m1 q1) := bcell bal1 (bcell bal1 (bcell bal1 (e1)))
  have s4_ : (World.alloc (World.alloc (World.alloc w (Obj.cells #[.int .i64 k, .slice (some ⟨b, off, none⟩) 2 cap] 29)) (Obj.cells #[.int .i64 k, .slice (some ⟨b', off', none⟩) 2 cap'] 29)) (Obj.cells #[.int .i64 0, .slice none 0 0] 29)).cell? ⟨w.heap.size + 1, 1, none⟩ = some (.slice (some ⟨b', off', none⟩) 2 cap') := bcell bal1 (cell_new (by simp) 1)
  have s5_ : (World.alloc (World.alloc (World.alloc w (Obj.cells #[.int .i64 k, .slice (some ⟨b, off, none⟩) 2 cap] 29)) (Obj.cells #[.int .i64 k, .slice (some ⟨b', off', none⟩) 2 cap'] 29)) (Obj.cells #[.int .i64 0, .slice none 0 0] 29)).cell? ⟨b', off', none⟩ = some (.int .i64 k1') := bcell bal1 (bcell bal1 (bcell bal1 (e0')))
  have s6_ : (World.alloc (World.alloc (World.alloc w (Obj.cells #[.int .i64 k, .slice (some ⟨b, off, none⟩) 2 cap] 29)) (Obj.cells #[.int .i64 k, .slice (some ⟨b', off', none⟩) 2 cap'] 29)) (Obj.cells #[.int .i64 0, .slice none 0 0] 29)).cell? ⟨b', off' + 1, none⟩ = some (.slice c1' m1' q1') := bcell bal1 (bcell bal1 (bcell bal1 (e1')))
  have s7_ : (World.alloc (World.alloc (World.alloc w (Obj.cells #[.int .i64 k, .slice (some ⟨b, off, none⟩) 2 cap] 29)) (Obj.cells #[.int .i64 k, .slice (some ⟨b', off', none⟩) 2 cap'] 29)) (Obj.cells #[.int .i64 0, .slice none 0 0] 29)).cell? ⟨b, off + 2, none⟩ = some (.int .i64 k2) := bcell bal1 (bcell bal1 (bcell bal1 (e2)))
  have s8_ : (World.alloc (World.alloc (World.alloc w (Obj.cells #[.int .i64 k, .slice (some ⟨b, off, none⟩) 2 cap] 29)) (Obj.cells #[.int .i64 k, .slice (some ⟨b', off', none⟩) 2 cap'] 29)) (Obj.cells #[.int .i64 0, .slice none 0 0] 29)).cell? ⟨b, off + 3, none⟩ = some (.slice c2 m2 q2) := bcell bal1 (bcell bal1 (bcell bal1 (e3)))
  have s9_ : (World.alloc (World.alloc (World.alloc w (Obj.cells #[.int .i64 k, .slice (some ⟨b, off, none⟩) 2 cap] 29)) (Obj.cells #[.int .i64 k, .slice (some ⟨b', off', none⟩) 2 cap'] 29)) (Obj.cells #[.int .i64 0, .slice none 0 0] 29)).cell? ⟨b', off' + 2, none⟩ = some (.int .i64 k2') := bcell bal1 (bcell bal1 (bcell bal1 (e2')))
  have s10_ : (World.alloc (World.alloc (World.alloc w (Obj.cells #[.int .i64 k, .slice (some ⟨b, off, none⟩) 2 cap] 29)) (Obj.cells #[.int .i64 k, .slice (some ⟨b', off', none⟩) 2 cap'] 29)) (Obj.cells #[.int .i64 0, .slice none 0 0] 29)).cell? ⟨b', off' + 3, none⟩ = some (.slice c2' m2' q2') := bcell bal1 (bcell bal1 (bcell bal1 (e3')))
  go_region_held3 (fun w' => w'.cell? ⟨w.heap.size, 0, none⟩ = some (.int .i64 k) ∧ w'.cell? ⟨w.heap.size, 1, none⟩ = some (.slice (some ⟨b, off, none⟩) 2 cap) ∧ w'.cell? ⟨b, off, none⟩ = some (.int .i64 k1) ∧ w'.cell? ⟨b, off + 1, none⟩ = some (.slice c1 m1 q1) ∧ w'.cell? ⟨w.heap.size + 1, 1, none⟩ = some (.slice (some ⟨b', off', none⟩) 2 cap') ∧ w'.cell? ⟨b', off', none⟩ = some (.int .i64 k1') ∧ w'.cell? ⟨b', off' + 1, none⟩ = some (.slice c1' m1' q1') ∧ w'.cell? ⟨b, off + 2, none⟩ = some (.int .i64 k2) ∧ w'.cell? ⟨b, off + 3, none⟩ = some (.slice c2 m2 q2) ∧ w'.cell? ⟨b', off' + 2, none⟩ = some (.int .i64 k2') ∧ w'.cell? ⟨b', off' + 3, none⟩ = some (.slice c2' m2' q2'))
    (first | with_reducible exact ⟨dcell (s0_), dcell (s1_), dcell (s2_), dcell (s3_), dcell (s4_), dcell (s5_), dcell (s6_), dcell (s7_), dcell (s8_), dcell (s9_), dcell (s10_)⟩ | with_reducible exact ⟨bcell hb1 (dcell (s0_)), bcell hb1 (dcell (s1_)), bcell hb1 (dcell (s2_)), bcell hb1 (dcell (s3_)), bcell hb1 (dcell (s4_)), bcell hb1 (dcell (s5_)), bcell hb1 (dcell (s6_)), bcell hb1 (dcell (s7_)), bcell hb1 (dcell (s8_)), bcell hb1 (dcell (s9_)), bcell hb1 (dcell (s10_))⟩ | with_reducible exact ⟨bcell hb2 (bcell hb1 (dcell (s0_))), bcell hb2 (bcell hb1 (dcell (s1_))), bcell hb2 (bcell hb1 (dcell (s2_))), bcell hb2 (bcell hb1 (dcell (s3_))), bcell hb2 (bcell hb1 (dcell (s4_))), bcell hb2 (bcell hb1 (dcell (s5_))), bcell hb2 (bcell hb1 (dcell (s6_))), bcell hb2 (bcell hb1 (dcell (s7_))), bcell hb2 (bcell hb1 (dcell (s8_))), bcell hb2 (bcell hb1 (dcell (s9_))), bcell hb2 (bcell hb1 (dcell (s10_)))⟩ | with_reducible exact ⟨bcell hb3 (bcell hb2 (bcell hb1 (dcell (s0_)))), bcell hb3 (bcell hb2 (bcell hb1 (dcell (s1_)))), bcell hb3 (bcell hb2 (bcell hb1 (dcell (s2_)))), bcell hb3 (bcell hb2 (bcell hb1 (dcell (s3_)))), bcell hb3 (bcell hb2 (bcell hb1 (dcell (s4_)))), bcell hb3 (bcell hb2 (bcell hb1 (dcell (s5_)))), bcell hb3 (bcell hb2 (bcell hb1 (dcell (s6_)))), bcell hb3 (bcell hb2 (bcell hb1 (dcell (s7_)))), bcell hb3 (bcell hb2 (bcell hb1 (dcell (s8_)))), bcell hb3 (bcell hb2 (bcell hb1 (dcell (s9_)))), bcell hb3 (bcell hb2 (bcell hb1 (dcell (s10_))))⟩ | with_reducible exact ⟨sc_blk (sc_blk (bcell hb3 (bcell hb2 (bcell hb1 (dcell (s0_))))) (by show w.heap.size ≠ w.heap.size + 1 + 1; omega)) (by show w.heap.size ≠ w.heap.size + 1 + 1; omega), sc_blk (sc_blk (bcell hb3 (bcell hb2 (bcell hb1 (dcell (s1_))))) (by show w.heap.size ≠ w.heap.size + 1 + 1; omega)) (by show w.heap.size ≠ w.heap.size + 1 + 1; omega), sc_blk (sc_blk (bcell hb3 (bcell hb2 (bcell hb1 (dcell (s2_))))) (by show b ≠ w.heap.size + 1 + 1; omega)) (by show b ≠ w.heap.size + 1 + 1; omega), sc_blk (sc_blk (bcell hb3 (bcell hb2 (bcell hb1 (dcell (s3_))))) (by show b ≠ w.heap.size + 1 + 1; omega)) (by show b ≠ w.heap.size + 1 + 1; omega), sc_blk (sc_blk (bcell hb3 (bcell hb2 (bcell hb1 (dcell (s4_))))) (by show w.heap.size + 1 ≠ w.heap.size + 1 + 1; omega)) (by show w.heap.size + 1 ≠ w.heap.size + 1 + 1; omega), sc_blk (sc_blk (bcell hb3 (bcell hb2 (bcell hb1 (dcell (s5_))))) (by show b' ≠ w.heap.size + 1 + 1; omega)) (by show b' ≠ w.heap.size + 1 + 1; omega), sc_blk (sc_blk (bcell hb3 (bcell hb2 (bcell hb1 (dcell (s6_))))) (by show b' ≠ w.heap.size + 1 + 1; omega)) (by show b' ≠ w.heap.size + 1 + 1; omega), sc_blk (sc_blk (bcell hb3 (bcell hb2 (bcell hb1 (dcell (s7_))))) (by show b ≠ w.heap.size + 1 + 1; omega)) (by show b ≠ w.heap.size + 1 + 1; omega), sc_blk (sc_blk (bcell hb3 (bcell hb2 (bcell hb1 (dcell (s8_))))) (by show b ≠ w.heap.size + 1 + 1; omega)) (by show b ≠ w.heap.size + 1 + 1; omega), sc_blk (sc_blk (bcell hb3 (bcell hb2 (bcell hb1 (dcell (s9_))))) (by show b' ≠ w.heap.size + 1 + 1; omega)) (by show b' ≠ w.heap.size + 1 + 1; omega), sc_blk (sc_blk (bcell hb3 (bcell hb2 (bcell hb1 (dcell (s10_))))) (by show b' ≠ w.heap.size + 1 + 1; omega)) (by show b' ≠ w.heap.size + 1 + 1; omega)⟩)
    (first | (go_at_call 116; ((with_reducible refine (H1.out _ _ _ (ht1.below bal3.drew) (ht1'.below bal3.drew)).mono ?_); rintro e w1 ⟨v1, rfl, hv1, hb1⟩; obtain ⟨kr1, ar1, nr1, qr1, rfl⟩ := hv1.shape)) | (go_at_call 116; ((with_reducible refine (H2.out _ _ _ (ht2.below (bstep bal3.drew hb1)) (ht2'.below (bstep bal3.drew hb1))).mono ?_); rintro e w2 ⟨v2, rfl, hv2, hb2⟩; obtain ⟨kr2, ar2, nr2, qr2, rfl⟩ := hv2.shape)) | (go_at_call 138; ((with_reducible refine (implBoth' k hv1 hb1 hv2 hb2).mono ?_); rintro e w3 ⟨v3, rfl, hv3, hb3⟩; obtain ⟨kr3, ar3, nr3, qr3, rfl⟩ := hv3.shape; have f2_0 : w3.frozen? ⟨w.heap.size + 1 + 1, 0, none⟩ = false := bfroc hb3 (bcell hb2 (bcell hb1 (dcell (cell_new (by simp) 0)))) (bfroc hb2 (bcell hb1 (dcell (cell_new (by simp) 0))) (bfroc hb1 (dcell (cell_new (by simp) 0)) (dfro (fro_new (by simp) 0)))); have c2_0' : w3.cell? ⟨w.heap.size + 1 + 1, 0, none⟩ = some (.int .i64 0) := bcell hb3 (bcell hb2 (bcell hb1 (dcell (cell_new (by simp) 0)))); have d2_ := World.block_lt_of_cell? _ _ c2_0'; have f2_1 : w3.frozen? ⟨w.heap.size + 1 + 1, 1, none⟩ = false := bfroc hb3 (bcell hb2 (bcell hb1 (dcell (cell_new (by simp) 1)))) (bfroc hb2 (bcell hb1 (dcell (cell_new (by simp) 1))) (bfroc hb1 (dcell (cell_new (by simp) 1)) (dfro (fro_new (by simp) 1)))); have c2_1' : w3.cell? ⟨w.heap.size + 1 + 1, 1, none⟩ = some (.slice none 0 0) := bcell hb3 (bcell hb2 (bcell hb1 (dcell (cell_new (by simp) 1)))); have d2_ := World.block_lt_of_cell? _ _ c2_1')))
  clear s0_ s1_ s2_ s3_ s4_ s5_ s6_ s7_ s8_ s9_ s10_
  have hB := (bstep (bstep (bstep bal3.drew hb1) hb2) hb3)
  have zw3 := hB.size
  have c2_0 : w3.cell? ⟨w.heap.size + 1 + 1, 0, none⟩ = some (.int .i64 0) := bcell hb3 (bcell hb2 (bcell hb1 (dcell (cell_new (by simp) 0))))
  have c2_1 : w3.cell? ⟨w.heap.size + 1 + 1, 1, none⟩ = some (.slice none 0 0) := bcell hb3 (bcell hb2 (bcell hb1 (dcell (cell_new (by simp) 1))))
  have d2_w3 := World.block_lt_of_cell? _ _ c2_0
  go_wp2_with fail
  refine bodyPost_ret (v := .agg #[.int .i64 kr3, .slice ar3 nr3 qr3]) (by simp [results, Try.results116, go_sem, c2_0, c2_1]) rfl ?_
  exact ⟨_, rfl, TyNew.mono ((hv3.setCell (by first | (show w.heap.size + 1 + 1 < _; omega) | (show w.heap.size + 1 + 1 < _; simp; omega) | simp) _).setCell (by first | (show w.heap.size + 1 + 1 < _; omega) | (show w.heap.size + 1 + 1 < _; simp; omega) | simp) _) (by first | exact Nat.le_refl _ | omega | (simp; done) | (simp; omega)), ((hB.setCell (by show w.heap.size ≤ w.heap.size + 1 + 1; omega) _).setCell (by show w.heap.size ≤ w.heap.size + 1 + 1; omega) _)⟩

end Go.Proofs.Ytjkkahlcbhcifaa
