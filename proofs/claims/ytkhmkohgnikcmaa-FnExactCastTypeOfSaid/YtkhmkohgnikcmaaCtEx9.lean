/-
  spec.l4Exact: the type of a node of a term with casts by its operands' types.
-/
import Derived.Test.YtkhmkohgnikcmaaB19
import Derived.Test.YtkhmkohgnikcmaaCtTwo
import Derived.Test.YtkhmkohgnikcmaaCtEx7
import Derived.Test.YtkhmkohgnikcmaaB20
import Derived.Test.YtkhmkohgnikcmaaB3
import Derived.Test.YtkhmkohgnikcmaaB9
import Derived.Test.YtkhmkohgnikcmaaB20
import Derived.Test.YtkhmkohgnikcmaaB20
import Derived.Deep.RegionHeld3
namespace Go.Proofs.Ytkhmkohgnikcmaa
open Go.RowKit
set_option linter.unusedVariables false
set_option linter.unusedSimpArgs false
set_option maxRecDepth 100000

theorem if_t {ty src : Ty} {c g h : S} (d1 : c.ty.same (.mk 3 []) = true) (d2 : g.ty.same h.ty = true) : nodeS 9 ty src [c, g, h] = some g := by
  rw [show (Ty.mk 3 []) = S.bool.ty from rfl, S.same, decide_eq_true_eq] at d1
  rw [S.same, decide_eq_true_eq] at d2
  subst d1 d2
  simp [nodeS]
theorem if_f {ty src : Ty} {c g h : S} (d : c.ty.same (.mk 3 []) = false ∨ g.ty.same h.ty = false) : nodeS 9 ty src [c, g, h] = none := by
  simp only [show (Ty.mk 3 []) = S.bool.ty from rfl, S.same, decide_eq_false_iff_not] at d
  have : ¬ (c = .bool ∧ g = h) := by rintro ⟨rfl, rfl⟩; simp at d
  simp [nodeS, this]
def oE13_0 : Oper := ⟨some 79, Op.move (Operand.tmp 1), 29, "l4_casts.go:136", #[], none⟩
def oE13_1 : Oper := ⟨some 80, Op.indexAddr 29 (Operand.tmp 79) (Operand.const (Value.int IntKind.i64 1)), 0, "l4_casts.go:136", #[⟨0, .data⟩], none⟩
def oE13_2 : Oper := ⟨some 81, Op.load 31 (Operand.tmp 80), 31, "l4_casts.go:136", #[⟨1, .data⟩], none⟩
def oE13_3 : Oper := ⟨some 82, Op.call { callee := Callee.value (Operand.func 49), args := #[Operand.tmp 81], argTypes := #[31] }, 31, "l4_casts.go:136", #[⟨2, .data⟩], none⟩
def oE13_4 : Oper := ⟨some 83, Op.move (Operand.tmp 1), 29, "l4_casts.go:136", #[], none⟩
def oE13_5 : Oper := ⟨some 84, Op.indexAddr 29 (Operand.tmp 83) (Operand.const (Value.int IntKind.i64 0)), 0, "l4_casts.go:136", #[⟨4, .data⟩], none⟩
def oE13_6 : Oper := ⟨some 85, Op.load 31 (Operand.tmp 84), 31, "l4_casts.go:136", #[⟨5, .data⟩], none⟩
def oE13_7 : Oper := ⟨some 86, Op.call { callee := Callee.value (Operand.func 47), args := #[], argTypes := #[] }, 31, "l4_casts.go:136", #[⟨3, .chain⟩], none⟩
def oE13_8 : Oper := ⟨some 87, Op.call { callee := Callee.value (Operand.func 51), args := #[Operand.tmp 85, Operand.tmp 86], argTypes := #[31, 31] }, 4, "l4_casts.go:136", #[⟨6, .data⟩, ⟨7, .data⟩, ⟨7, .chain⟩], none⟩
def oE13_9 : Oper := ⟨some 88, Op.move (Operand.tmp 87), 4, "l4_casts.go:136", #[⟨8, .data⟩, ⟨8, .chain⟩], none⟩
def oE13_10 : Oper := ⟨some 89, Op.move (Operand.tmp 1), 29, "l4_casts.go:136", #[⟨9, .guard⟩], some (9, true)⟩
def oE13_11 : Oper := ⟨some 90, Op.indexAddr 29 (Operand.tmp 89) (Operand.const (Value.int IntKind.i64 1)), 0, "l4_casts.go:136", #[⟨10, .data⟩, ⟨9, .guard⟩], some (9, true)⟩
def oE13_12 : Oper := ⟨some 91, Op.load 31 (Operand.tmp 90), 31, "l4_casts.go:136", #[⟨11, .data⟩, ⟨9, .guard⟩], some (9, true)⟩
def oE13_13 : Oper := ⟨some 92, Op.move (Operand.tmp 1), 29, "l4_casts.go:136", #[⟨9, .guard⟩], some (9, true)⟩
def oE13_14 : Oper := ⟨some 93, Op.indexAddr 29 (Operand.tmp 92) (Operand.const (Value.int IntKind.i64 2)), 0, "l4_casts.go:136", #[⟨13, .data⟩, ⟨9, .guard⟩], some (9, true)⟩
def oE13_15 : Oper := ⟨some 94, Op.load 31 (Operand.tmp 93), 31, "l4_casts.go:136", #[⟨14, .data⟩, ⟨9, .guard⟩], some (9, true)⟩
def oE13_16 : Oper := ⟨some 95, Op.call { callee := Callee.value (Operand.func 51), args := #[Operand.tmp 91, Operand.tmp 94], argTypes := #[31, 31] }, 4, "l4_casts.go:136", #[⟨12, .data⟩, ⟨15, .data⟩, ⟨9, .chain⟩, ⟨9, .guard⟩], some (9, true)⟩
def oE13_17 : Oper := ⟨some 96, Op.pick (Operand.tmp 88) (Operand.tmp 95) (Operand.const (Value.bool false)), 4, "l4_casts.go:136", #[⟨9, .data⟩, ⟨16, .data⟩, ⟨18, .gcOnly .lateStores⟩], none⟩
def oE13_18 : Oper := ⟨none, Op.store 31 (Operand.tmp 4) (Operand.tmp 82), 0, "l4_casts.go:136", #[⟨3, .data⟩, ⟨16, .chain⟩, ⟨0, .phase⟩, ⟨1, .phase⟩, ⟨2, .phase⟩, ⟨3, .phase⟩, ⟨4, .textOnly .lateStores⟩, ⟨5, .textOnly .lateStores⟩, ⟨6, .textOnly .lateStores⟩, ⟨7, .textOnly .lateStoresUnsure⟩, ⟨8, .textOnly .lateStoresUnsure⟩, ⟨9, .textOnly .lateStores⟩, ⟨10, .textOnly .lateStores⟩, ⟨11, .textOnly .lateStores⟩, ⟨12, .textOnly .lateStores⟩, ⟨13, .textOnly .lateStores⟩, ⟨14, .textOnly .lateStores⟩, ⟨15, .textOnly .lateStores⟩, ⟨16, .textOnly .lateStoresUnsure⟩, ⟨17, .textOnly .lateStores⟩], none⟩
def oE13_19 : Oper := ⟨some 5, Op.assign (Operand.tmp 96), 4, "l4_casts.go:136", #[⟨17, .data⟩, ⟨18, .chain⟩, ⟨0, .phase⟩, ⟨1, .phase⟩, ⟨2, .phase⟩, ⟨3, .phase⟩, ⟨4, .phase⟩, ⟨5, .phase⟩, ⟨6, .phase⟩, ⟨7, .phase⟩, ⟨8, .phase⟩, ⟨9, .phase⟩, ⟨10, .phase⟩, ⟨11, .phase⟩, ⟨12, .phase⟩, ⟨13, .phase⟩, ⟨14, .phase⟩, ⟨15, .phase⟩, ⟨16, .phase⟩, ⟨17, .phase⟩, ⟨18, .phase⟩], none⟩
set_option maxHeartbeats 4000000 in
theorem specL4Exact_9_f (G1 G2 G3 : Nat → Prop) (nm : ByteArray) (u lb tk fk : Int) (ty src : Ty) (ta fa ca : Option Addr) (tn tq fn fq cm cq : Nat) (w : World) (hty : TyRep G1 w ty (.agg #[.int .i64 tk, .slice ta tn tq])) (hsrc : TyRep G2 w src (.agg #[.int .i64 fk, .slice fa fn fq])) (y : Value) (h1 h2 h3 : S) (hv2 : h2.vd = true) (d1 : h1.ty.same (.mk 3 []) = false) (hy : TysRep G3 w [h1.ty, h2.ty, h3.ty] y) :
    Calls Try.prog 34 #[.agg #[.int .i64 9, .string nm, .int .i64 u, .int .i64 tk, .slice ta tn tq, .int .i64 fk, .slice fa fn fq, .int .i64 lb, .slice ca cm cq], y] w (RetOF ((nodeS 9 ty src [h1, h2, h3]).map S.ty) w) := by
  obtain ⟨b, off, cap, k1, c1, m1, q1, k2, c2, m2, q2, k3, c3, m3, q3, rfl, hlb, e1a, e1b, e2a, e2b, e3a, e3b, ht1, ht2, ht3⟩ := hy.three
  obtain ⟨OO', hOO⟩ : ∃ O : Option Ty, O = ((nodeS 9 ty src [h1, h2, h3]).map S.ty) := ⟨_, rfl⟩
  rw [← hOO]
  have HO := Lib.hid hOO
  clear hOO
  have D1 := Lib.hid d1
  have HCN := Lib.hid (S.cnt_ok hv2)
  clear d1 hv2
  have H1 := Lib.hid ht1.old
  have H2 := Lib.hid ht2.old
  have H3 := Lib.hid ht3.old
  clear hty hsrc hy ht1 ht2 ht3
  go_enter Try.func34, Try.ntmps34
  go_wp2_with fail
  obtain ⟨VV, hVV⟩ : ∃ X, X = ((w.alloc (.cells #[.int .i64 9, .string nm, .int .i64 u, .int .i64 tk, .slice ta tn tq, .int .i64 fk, .slice fa fn fq, .int .i64 lb, .slice ca cm cq] 36)).alloc (.cells #[.int .i64 0, .slice none 0 0] 31)) := ⟨_, rfl⟩
  have fE : VV.heap[w.heap.size]? = some (.cells #[.int .i64 9, .string nm, .int .i64 u, .int .i64 tk, .slice ta tn tq, .int .i64 fk, .slice fa fn fq, .int .i64 lb, .slice ca cm cq] 36 (0, 0)) := by rw [hVV]; exact blk_below (blk_new rfl) bal1
  have fR : VV.heap[w.heap.size + 1]? = some (.cells #[.int .i64 0, .slice none 0 0] 31 (0, 0)) := by rw [hVV]; exact blk_new (by simp)
  have c1a_ : VV.cell? ⟨b, off, none⟩ = some (.int .i64 k1) := by rw [hVV]; exact bcell bal1 (bcell bal1 e1a)
  have c1b_ : VV.cell? ⟨b, off + 1, none⟩ = some (.slice c1 m1 q1) := by rw [hVV]; exact bcell bal1 (bcell bal1 e1b)
  have h1_ : Hid (TyRep (· < w.heap.size) VV h1.ty (.agg #[.int .i64 k1, .slice c1 m1 q1])) := by rw [hVV]; exact Lib.hid ((H1.out.below bal1).below bal1)
  have c2a_ : VV.cell? ⟨b, off + 2, none⟩ = some (.int .i64 k2) := by rw [hVV]; exact bcell bal1 (bcell bal1 e2a)
  have c2b_ : VV.cell? ⟨b, off + 3, none⟩ = some (.slice c2 m2 q2) := by rw [hVV]; exact bcell bal1 (bcell bal1 e2b)
  have h2_ : Hid (TyRep (· < w.heap.size) VV h2.ty (.agg #[.int .i64 k2, .slice c2 m2 q2])) := by rw [hVV]; exact Lib.hid ((H2.out.below bal1).below bal1)
  have c3a_ : VV.cell? ⟨b, off + 4, none⟩ = some (.int .i64 k3) := by rw [hVV]; exact bcell bal1 (bcell bal1 e3a)
  have c3b_ : VV.cell? ⟨b, off + 5, none⟩ = some (.slice c3 m3 q3) := by rw [hVV]; exact bcell bal1 (bcell bal1 e3b)
  have h3_ : Hid (TyRep (· < w.heap.size) VV h3.ty (.agg #[.int .i64 k3, .slice c3 m3 q3])) := by rw [hVV]; exact Lib.hid ((H3.out.below bal1).below bal1)
  have fC : Hid (Below w.heap.size w VV) := by rw [hVV]; exact Lib.hid (bstep bal1 bal1)
  rw [← hVV]
  have zV : VV.heap.size = _ := congrArg (fun X : World => X.heap.size) hVV
  simp only [World.size_alloc] at zV
  refine wp_region_noPanic ?_
  refine wp_region_held_drew (S := fun w' => w'.cell? ⟨b, off, none⟩ = some (.int .i64 k1) ∧ w'.cell? ⟨b, off + 1, none⟩ = some (.slice c1 m1 q1) ∧ w'.cell? ⟨b, off + 2, none⟩ = some (.int .i64 k2) ∧ w'.cell? ⟨b, off + 3, none⟩ = some (.slice c2 m2 q2) ∧ w'.cell? ⟨b, off + 4, none⟩ = some (.int .i64 k3) ∧ w'.cell? ⟨b, off + 5, none⟩ = some (.slice c3 m3 q3)) (by kernel_rfl) ?_ (fun hHeld0 => ?_)
  · exact ⟨c1a_, c1b_, c2a_, c2b_, c3a_, c3b_⟩
  obtain ⟨U13, hU, hb, zU13a, zU13b⟩ := drLet VV
  rw [hU] at hHeld0 ⊢
  replace fE := blk_below fE hb; replace fR := blk_below fR hb; replace c1a_ := bcell hb c1a_; replace c1b_ := bcell hb c1b_
  replace h1_ := Lib.hid (h1_.out.below hb); replace c2a_ := bcell hb c2a_; replace c2b_ := bcell hb c2b_; replace h2_ := Lib.hid (h2_.out.below hb)
  replace c3a_ := bcell hb c3a_; replace c3b_ := bcell hb c3b_; replace h3_ := Lib.hid (h3_.out.below hb); replace fC := Lib.hid (bstep fC.out hb)
  rw [zV] at zU13a zU13b
  clear hU hb hVV zV
  refine hwt 0 oE13_0 (.slice (some ⟨b, off, none⟩) 3 cap) hHeld0 ?_ ?_
  · intro w' hSw; dsimp only [oE13_0]; go_simp
  try simp only [oE13_0, hwA]
  refine hwt 1 oE13_1 (.pointer (some ⟨b, off + 2, none⟩)) hHeld0 ?_ ?_
  · intro w' hSw; dsimp only [oE13_1]; go_simp
  try simp only [oE13_1, hwA]
  refine hwt 2 oE13_2 (.agg #[.int .i64 k2, .slice c2 m2 q2]) hHeld0 ?_ ?_
  · intro w' hSw; dsimp only [oE13_2]; go_simp
  try simp only [oE13_2, hwA]
  refine hwt 4 oE13_4 (.slice (some ⟨b, off, none⟩) 3 cap) hHeld0 ?_ ?_
  · intro w' hSw; dsimp only [oE13_4]; go_simp
  try simp only [oE13_4, hwA]
  refine hwt 5 oE13_5 (.pointer (some ⟨b, off, none⟩)) hHeld0 ?_ ?_
  · intro w' hSw; dsimp only [oE13_5]; go_simp
  try simp only [oE13_5, hwA]
  refine hwt 6 oE13_6 (.agg #[.int .i64 k1, .slice c1 m1 q1]) hHeld0 ?_ ?_
  · intro w' hSw; dsimp only [oE13_6]; go_simp
  try simp only [oE13_6, hwA]
  refine hwr 3 oE13_3 (fun K hK => ?_)
  dsimp only [oE13_3]; go_simp
  go_at_call 49
  refine (specL1Copy _ h2.ty _ _ h2_.out HCN.out).mono ?_
  rintro e X1 ⟨v, rfl, hv, hb⟩
  obtain ⟨ke, ae, ne, qe, rfl⟩ := hv.shape
  have hN1' : Hid (TyRep (fun b => U13.heap.size ≤ b ∧ b < X1.heap.size) X1 h2.ty (.agg #[.int .i64 ke, .slice ae ne qe])) := Lib.hid (hv.rep.move (.weaken fun b h1 h2 => ⟨h1, h2⟩))
  clear hv
  go_wp2_with fail
  have zX1 : U13.heap.size ≤ X1.heap.size := hb.size
  replace fE := blk_below fE hb; replace fR := blk_below fR hb; replace c1a_ := bcell hb c1a_; replace c1b_ := bcell hb c1b_
  replace h1_ := Lib.hid (h1_.out.below hb); replace c2a_ := bcell hb c2a_; replace c2b_ := bcell hb c2b_; replace h2_ := Lib.hid (h2_.out.below hb)
  replace c3a_ := bcell hb c3a_; replace c3b_ := bcell hb c3b_; replace h3_ := Lib.hid (h3_.out.below hb); replace fC := Lib.hid (bstep fC.out hb)
  have hN1 := hN1'
  clear hN1'
  refine hK.out _ _ ⟨c1a_, c1b_, c2a_, c2b_, c3a_, c3b_⟩ (fun hHeld1 => ?_)
  clear hK K hHeld0 hb
  try simp only [oE13_3, hwA]
  refine hwr 7 oE13_7 (fun K hK => ?_)
  dsimp only [oE13_7]; go_simp
  go_at_call 47
  refine (specL3Bool _).mono ?_
  rintro e X2 ⟨rfl, hb⟩
  go_wp2_with fail
  have zX2 : X1.heap.size ≤ X2.heap.size := hb.size
  replace fE := blk_below fE hb; replace fR := blk_below fR hb; replace c1a_ := bcell hb c1a_; replace c1b_ := bcell hb c1b_
  replace h1_ := Lib.hid (h1_.out.below hb); replace c2a_ := bcell hb c2a_; replace c2b_ := bcell hb c2b_; replace h2_ := Lib.hid (h2_.out.below hb)
  replace c3a_ := bcell hb c3a_; replace c3b_ := bcell hb c3b_; replace h3_ := Lib.hid (h3_.out.below hb); replace fC := Lib.hid (bstep fC.out hb)
  replace hN1 := Lib.hid (hN1.out.below hb)
  refine hK.out _ _ ⟨c1a_, c1b_, c2a_, c2b_, c3a_, c3b_⟩ (fun hHeld2 => ?_)
  clear hK K hHeld1 hb
  try simp only [oE13_7, hwA]
  refine hwr 8 oE13_8 (fun K hK => ?_)
  dsimp only [oE13_8]; go_simp
  go_at_call 51
  refine (specTypeSame _ _ _ _ _ _ _ h1_.out (TyRep.leaf 3)).mono ?_
  rintro e X3 ⟨rfl, hb⟩
  rw [D1.out]
  go_wp2_with fail
  have zX3 : X2.heap.size ≤ X3.heap.size := hb.size
  replace fE := blk_below fE hb; replace fR := blk_below fR hb; replace c1a_ := bcell hb c1a_; replace c1b_ := bcell hb c1b_
  replace h1_ := Lib.hid (h1_.out.below hb); replace c2a_ := bcell hb c2a_; replace c2b_ := bcell hb c2b_; replace h2_ := Lib.hid (h2_.out.below hb)
  replace c3a_ := bcell hb c3a_; replace c3b_ := bcell hb c3b_; replace h3_ := Lib.hid (h3_.out.below hb); replace fC := Lib.hid (bstep fC.out hb)
  replace hN1 := Lib.hid (hN1.out.below hb)
  refine hK.out _ _ ⟨c1a_, c1b_, c2a_, c2b_, c3a_, c3b_⟩ (fun hHeld3 => ?_)
  clear hK K hHeld2 hb
  try simp only [oE13_8, hwA]
  refine hwt 9 oE13_9 (.bool false) hHeld3 ?_ ?_
  · intro w' hSw; dsimp only [oE13_9]; go_simp
  try simp only [oE13_9, hwA]
  refine hwn 10 oE13_10 hHeld3 ?_
  try simp only [oE13_10, hwA]
  refine hwn 11 oE13_11 hHeld3 ?_
  try simp only [oE13_11, hwA]
  refine hwn 12 oE13_12 hHeld3 ?_
  try simp only [oE13_12, hwA]
  refine hwn 13 oE13_13 hHeld3 ?_
  try simp only [oE13_13, hwA]
  refine hwn 14 oE13_14 hHeld3 ?_
  try simp only [oE13_14, hwA]
  refine hwn 15 oE13_15 hHeld3 ?_
  try simp only [oE13_15, hwA]
  refine hwn 16 oE13_16 hHeld3 ?_
  try simp only [oE13_16, hwA]
  refine hwt 17 oE13_17 (.bool false) hHeld3 ?_ ?_
  · intro w' hSw; dsimp only [oE13_17]; go_simp
  try simp only [oE13_17, hwA]
  refine hwr 18 oE13_18 (fun K hK => ?_)
  obtain ⟨r0, r1, rf0, rf1⟩ := blkR fR
  dsimp only [oE13_18]; go_simp
  (try go_wp2_with fail)
  have hQq := stLet2 fR (.int .i64 ke) (.slice ae ne qe)
  clear fR r0 r1 rf0 rf1
  obtain ⟨X4, hXq, hsq, fR, zX4a, zX4b⟩ := hQq
  rw [hXq]
  replace fE := hsq.blk (by omega) fE; replace c1a_ := hsq.cell (by show b ≠ w.heap.size + 1; omega) c1a_; replace c1b_ := hsq.cell (by show b ≠ w.heap.size + 1; omega) c1b_; replace h1_ := Lib.hid (hsq.rep (fun b hb => by have : b < w.heap.size := hb; omega) h1_.out)
  replace c2a_ := hsq.cell (by show b ≠ w.heap.size + 1; omega) c2a_; replace c2b_ := hsq.cell (by show b ≠ w.heap.size + 1; omega) c2b_; replace h2_ := Lib.hid (hsq.rep (fun b hb => by have : b < w.heap.size := hb; omega) h2_.out); replace c3a_ := hsq.cell (by show b ≠ w.heap.size + 1; omega) c3a_
  replace c3b_ := hsq.cell (by show b ≠ w.heap.size + 1; omega) c3b_; replace h3_ := Lib.hid (hsq.rep (fun b hb => by have : b < w.heap.size := hb; omega) h3_.out); replace fC := Lib.hid (hsq.bel fC.out (by omega)); replace hN1 := Lib.hid (hsq.rep (fun b hb => by have h1 : U13.heap.size ≤ b := hb.1; have h2 : b < X1.heap.size := hb.2; omega) hN1.out)
  refine hK.out _ _ ⟨c1a_, c1b_, c2a_, c2b_, c3a_, c3b_⟩ (fun hHeld4 => ?_)
  clear hK K hHeld3 hsq hXq
  try simp only [oE13_18, hwA]
  refine hwt 19 oE13_19 (.bool false) hHeld4 ?_ ?_
  · intro w' hSw; dsimp only [oE13_19]; go_simp
  try simp only [oE13_19, hwA]
  refine wpAnyH_done (by kernel_rfl) ?_ _
  refine NoPanic.normal ?_
  clear hHeld4
  have rc0 := blk_cell fR (o := 0) rfl
  have rc1 := blk_cell fR (o := 1) rfl
  go_wp2_with fail
  refine bodyPost_ret (v := .tuple #[.agg #[.int .i64 ke, .slice ae ne qe], .bool false]) (by simp [results, Try.results34, go_sem, rc0, rc1]) rfl ?_
  exact ⟨_, _, _, _, _, h2.ty, rfl, by rw [HO.out, if_f (.inl D1.out)]; rfl, hN1.out.move (.weaken fun b h _ => .inr (by have h1 := h.1; omega)), (by rw [HO.out, if_f (.inl D1.out)]; intro s h; simp at h), fC.out⟩
set_option maxHeartbeats 4000000 in
theorem specL4Exact_9_tf (G1 G2 G3 : Nat → Prop) (nm : ByteArray) (u lb tk fk : Int) (ty src : Ty) (ta fa ca : Option Addr) (tn tq fn fq cm cq : Nat) (w : World) (hty : TyRep G1 w ty (.agg #[.int .i64 tk, .slice ta tn tq])) (hsrc : TyRep G2 w src (.agg #[.int .i64 fk, .slice fa fn fq])) (y : Value) (h1 h2 h3 : S) (hv2 : h2.vd = true) (d1 : h1.ty.same (.mk 3 []) = true) (d2 : h2.ty.same h3.ty = false) (hy : TysRep G3 w [h1.ty, h2.ty, h3.ty] y) :
    Calls Try.prog 34 #[.agg #[.int .i64 9, .string nm, .int .i64 u, .int .i64 tk, .slice ta tn tq, .int .i64 fk, .slice fa fn fq, .int .i64 lb, .slice ca cm cq], y] w (RetOF ((nodeS 9 ty src [h1, h2, h3]).map S.ty) w) := by
  obtain ⟨b, off, cap, k1, c1, m1, q1, k2, c2, m2, q2, k3, c3, m3, q3, rfl, hlb, e1a, e1b, e2a, e2b, e3a, e3b, ht1, ht2, ht3⟩ := hy.three
  obtain ⟨OO', hOO⟩ : ∃ O : Option Ty, O = ((nodeS 9 ty src [h1, h2, h3]).map S.ty) := ⟨_, rfl⟩
  rw [← hOO]
  have HO := Lib.hid hOO
  clear hOO
  have D1 := Lib.hid d1
  have HCN := Lib.hid (S.cnt_ok hv2)
  clear d1 hv2
  have D2 := Lib.hid d2
  clear d2
  have H1 := Lib.hid ht1.old
  have H2 := Lib.hid ht2.old
  have H3 := Lib.hid ht3.old
  clear hty hsrc hy ht1 ht2 ht3
  go_enter Try.func34, Try.ntmps34
  go_wp2_with fail
  obtain ⟨VV, hVV⟩ : ∃ X, X = ((w.alloc (.cells #[.int .i64 9, .string nm, .int .i64 u, .int .i64 tk, .slice ta tn tq, .int .i64 fk, .slice fa fn fq, .int .i64 lb, .slice ca cm cq] 36)).alloc (.cells #[.int .i64 0, .slice none 0 0] 31)) := ⟨_, rfl⟩
  have fE : VV.heap[w.heap.size]? = some (.cells #[.int .i64 9, .string nm, .int .i64 u, .int .i64 tk, .slice ta tn tq, .int .i64 fk, .slice fa fn fq, .int .i64 lb, .slice ca cm cq] 36 (0, 0)) := by rw [hVV]; exact blk_below (blk_new rfl) bal1
  have fR : VV.heap[w.heap.size + 1]? = some (.cells #[.int .i64 0, .slice none 0 0] 31 (0, 0)) := by rw [hVV]; exact blk_new (by simp)
  have c1a_ : VV.cell? ⟨b, off, none⟩ = some (.int .i64 k1) := by rw [hVV]; exact bcell bal1 (bcell bal1 e1a)
  have c1b_ : VV.cell? ⟨b, off + 1, none⟩ = some (.slice c1 m1 q1) := by rw [hVV]; exact bcell bal1 (bcell bal1 e1b)
  have h1_ : Hid (TyRep (· < w.heap.size) VV h1.ty (.agg #[.int .i64 k1, .slice c1 m1 q1])) := by rw [hVV]; exact Lib.hid ((H1.out.below bal1).below bal1)
  have c2a_ : VV.cell? ⟨b, off + 2, none⟩ = some (.int .i64 k2) := by rw [hVV]; exact bcell bal1 (bcell bal1 e2a)
  have c2b_ : VV.cell? ⟨b, off + 3, none⟩ = some (.slice c2 m2 q2) := by rw [hVV]; exact bcell bal1 (bcell bal1 e2b)
  have h2_ : Hid (TyRep (· < w.heap.size) VV h2.ty (.agg #[.int .i64 k2, .slice c2 m2 q2])) := by rw [hVV]; exact Lib.hid ((H2.out.below bal1).below bal1)
  have c3a_ : VV.cell? ⟨b, off + 4, none⟩ = some (.int .i64 k3) := by rw [hVV]; exact bcell bal1 (bcell bal1 e3a)
  have c3b_ : VV.cell? ⟨b, off + 5, none⟩ = some (.slice c3 m3 q3) := by rw [hVV]; exact bcell bal1 (bcell bal1 e3b)
  have h3_ : Hid (TyRep (· < w.heap.size) VV h3.ty (.agg #[.int .i64 k3, .slice c3 m3 q3])) := by rw [hVV]; exact Lib.hid ((H3.out.below bal1).below bal1)
  have fC : Hid (Below w.heap.size w VV) := by rw [hVV]; exact Lib.hid (bstep bal1 bal1)
  rw [← hVV]
  have zV : VV.heap.size = _ := congrArg (fun X : World => X.heap.size) hVV
  simp only [World.size_alloc] at zV
  refine wp_region_noPanic ?_
  refine wp_region_held_drew (S := fun w' => w'.cell? ⟨b, off, none⟩ = some (.int .i64 k1) ∧ w'.cell? ⟨b, off + 1, none⟩ = some (.slice c1 m1 q1) ∧ w'.cell? ⟨b, off + 2, none⟩ = some (.int .i64 k2) ∧ w'.cell? ⟨b, off + 3, none⟩ = some (.slice c2 m2 q2) ∧ w'.cell? ⟨b, off + 4, none⟩ = some (.int .i64 k3) ∧ w'.cell? ⟨b, off + 5, none⟩ = some (.slice c3 m3 q3)) (by kernel_rfl) ?_ (fun hHeld0 => ?_)
  · exact ⟨c1a_, c1b_, c2a_, c2b_, c3a_, c3b_⟩
  obtain ⟨U14, hU, hb, zU14a, zU14b⟩ := drLet VV
  rw [hU] at hHeld0 ⊢
  replace fE := blk_below fE hb; replace fR := blk_below fR hb; replace c1a_ := bcell hb c1a_; replace c1b_ := bcell hb c1b_
  replace h1_ := Lib.hid (h1_.out.below hb); replace c2a_ := bcell hb c2a_; replace c2b_ := bcell hb c2b_; replace h2_ := Lib.hid (h2_.out.below hb)
  replace c3a_ := bcell hb c3a_; replace c3b_ := bcell hb c3b_; replace h3_ := Lib.hid (h3_.out.below hb); replace fC := Lib.hid (bstep fC.out hb)
  rw [zV] at zU14a zU14b
  clear hU hb hVV zV
  refine hwt 0 oE13_0 (.slice (some ⟨b, off, none⟩) 3 cap) hHeld0 ?_ ?_
  · intro w' hSw; dsimp only [oE13_0]; go_simp
  try simp only [oE13_0, hwA]
  refine hwt 1 oE13_1 (.pointer (some ⟨b, off + 2, none⟩)) hHeld0 ?_ ?_
  · intro w' hSw; dsimp only [oE13_1]; go_simp
  try simp only [oE13_1, hwA]
  refine hwt 2 oE13_2 (.agg #[.int .i64 k2, .slice c2 m2 q2]) hHeld0 ?_ ?_
  · intro w' hSw; dsimp only [oE13_2]; go_simp
  try simp only [oE13_2, hwA]
  refine hwt 4 oE13_4 (.slice (some ⟨b, off, none⟩) 3 cap) hHeld0 ?_ ?_
  · intro w' hSw; dsimp only [oE13_4]; go_simp
  try simp only [oE13_4, hwA]
  refine hwt 5 oE13_5 (.pointer (some ⟨b, off, none⟩)) hHeld0 ?_ ?_
  · intro w' hSw; dsimp only [oE13_5]; go_simp
  try simp only [oE13_5, hwA]
  refine hwt 6 oE13_6 (.agg #[.int .i64 k1, .slice c1 m1 q1]) hHeld0 ?_ ?_
  · intro w' hSw; dsimp only [oE13_6]; go_simp
  try simp only [oE13_6, hwA]
  refine hwr 3 oE13_3 (fun K hK => ?_)
  dsimp only [oE13_3]; go_simp
  go_at_call 49
  refine (specL1Copy _ h2.ty _ _ h2_.out HCN.out).mono ?_
  rintro e X1 ⟨v, rfl, hv, hb⟩
  obtain ⟨ke, ae, ne, qe, rfl⟩ := hv.shape
  have hN1' : Hid (TyRep (fun b => U14.heap.size ≤ b ∧ b < X1.heap.size) X1 h2.ty (.agg #[.int .i64 ke, .slice ae ne qe])) := Lib.hid (hv.rep.move (.weaken fun b h1 h2 => ⟨h1, h2⟩))
  clear hv
  go_wp2_with fail
  have zX1 : U14.heap.size ≤ X1.heap.size := hb.size
  replace fE := blk_below fE hb; replace fR := blk_below fR hb; replace c1a_ := bcell hb c1a_; replace c1b_ := bcell hb c1b_
  replace h1_ := Lib.hid (h1_.out.below hb); replace c2a_ := bcell hb c2a_; replace c2b_ := bcell hb c2b_; replace h2_ := Lib.hid (h2_.out.below hb)
  replace c3a_ := bcell hb c3a_; replace c3b_ := bcell hb c3b_; replace h3_ := Lib.hid (h3_.out.below hb); replace fC := Lib.hid (bstep fC.out hb)
  have hN1 := hN1'
  clear hN1'
  refine hK.out _ _ ⟨c1a_, c1b_, c2a_, c2b_, c3a_, c3b_⟩ (fun hHeld1 => ?_)
  clear hK K hHeld0 hb
  try simp only [oE13_3, hwA]
  refine hwr 7 oE13_7 (fun K hK => ?_)
  dsimp only [oE13_7]; go_simp
  go_at_call 47
  refine (specL3Bool _).mono ?_
  rintro e X2 ⟨rfl, hb⟩
  go_wp2_with fail
  have zX2 : X1.heap.size ≤ X2.heap.size := hb.size
  replace fE := blk_below fE hb; replace fR := blk_below fR hb; replace c1a_ := bcell hb c1a_; replace c1b_ := bcell hb c1b_
  replace h1_ := Lib.hid (h1_.out.below hb); replace c2a_ := bcell hb c2a_; replace c2b_ := bcell hb c2b_; replace h2_ := Lib.hid (h2_.out.below hb)
  replace c3a_ := bcell hb c3a_; replace c3b_ := bcell hb c3b_; replace h3_ := Lib.hid (h3_.out.below hb); replace fC := Lib.hid (bstep fC.out hb)
  replace hN1 := Lib.hid (hN1.out.below hb)
  refine hK.out _ _ ⟨c1a_, c1b_, c2a_, c2b_, c3a_, c3b_⟩ (fun hHeld2 => ?_)
  clear hK K hHeld1 hb
  try simp only [oE13_7, hwA]
  refine hwr 8 oE13_8 (fun K hK => ?_)
  dsimp only [oE13_8]; go_simp
  go_at_call 51
  refine (specTypeSame _ _ _ _ _ _ _ h1_.out (TyRep.leaf 3)).mono ?_
  rintro e X3 ⟨rfl, hb⟩
  rw [D1.out]
  go_wp2_with fail
  have zX3 : X2.heap.size ≤ X3.heap.size := hb.size
  replace fE := blk_below fE hb; replace fR := blk_below fR hb; replace c1a_ := bcell hb c1a_; replace c1b_ := bcell hb c1b_
  replace h1_ := Lib.hid (h1_.out.below hb); replace c2a_ := bcell hb c2a_; replace c2b_ := bcell hb c2b_; replace h2_ := Lib.hid (h2_.out.below hb)
  replace c3a_ := bcell hb c3a_; replace c3b_ := bcell hb c3b_; replace h3_ := Lib.hid (h3_.out.below hb); replace fC := Lib.hid (bstep fC.out hb)
  replace hN1 := Lib.hid (hN1.out.below hb)
  refine hK.out _ _ ⟨c1a_, c1b_, c2a_, c2b_, c3a_, c3b_⟩ (fun hHeld3 => ?_)
  clear hK K hHeld2 hb
  try simp only [oE13_8, hwA]
  refine hwt 9 oE13_9 (.bool true) hHeld3 ?_ ?_
  · intro w' hSw; dsimp only [oE13_9]; go_simp
  try simp only [oE13_9, hwA]
  refine hwt 10 oE13_10 (.slice (some ⟨b, off, none⟩) 3 cap) hHeld3 ?_ ?_
  · intro w' hSw; dsimp only [oE13_10]; go_simp
  try simp only [oE13_10, hwA]
  refine hwt 11 oE13_11 (.pointer (some ⟨b, off + 2, none⟩)) hHeld3 ?_ ?_
  · intro w' hSw; dsimp only [oE13_11]; go_simp
  try simp only [oE13_11, hwA]
  refine hwt 12 oE13_12 (.agg #[.int .i64 k2, .slice c2 m2 q2]) hHeld3 ?_ ?_
  · intro w' hSw; dsimp only [oE13_12]; go_simp
  try simp only [oE13_12, hwA]
  refine hwt 13 oE13_13 (.slice (some ⟨b, off, none⟩) 3 cap) hHeld3 ?_ ?_
  · intro w' hSw; dsimp only [oE13_13]; go_simp
  try simp only [oE13_13, hwA]
  refine hwt 14 oE13_14 (.pointer (some ⟨b, off + 4, none⟩)) hHeld3 ?_ ?_
  · intro w' hSw; dsimp only [oE13_14]; go_simp
  try simp only [oE13_14, hwA]
  refine hwt 15 oE13_15 (.agg #[.int .i64 k3, .slice c3 m3 q3]) hHeld3 ?_ ?_
  · intro w' hSw; dsimp only [oE13_15]; go_simp
  try simp only [oE13_15, hwA]
  refine hwr 16 oE13_16 (fun K hK => ?_)
  dsimp only [oE13_16]; go_simp
  go_at_call 51
  refine (specTypeSame _ _ _ _ _ _ _ h2_.out h3_.out).mono ?_
  rintro e X4 ⟨rfl, hb⟩
  rw [D2.out]
  go_wp2_with fail
  have zX4 : X3.heap.size ≤ X4.heap.size := hb.size
  replace fE := blk_below fE hb; replace fR := blk_below fR hb; replace c1a_ := bcell hb c1a_; replace c1b_ := bcell hb c1b_
  replace h1_ := Lib.hid (h1_.out.below hb); replace c2a_ := bcell hb c2a_; replace c2b_ := bcell hb c2b_; replace h2_ := Lib.hid (h2_.out.below hb)
  replace c3a_ := bcell hb c3a_; replace c3b_ := bcell hb c3b_; replace h3_ := Lib.hid (h3_.out.below hb); replace fC := Lib.hid (bstep fC.out hb)
  replace hN1 := Lib.hid (hN1.out.below hb)
  refine hK.out _ _ ⟨c1a_, c1b_, c2a_, c2b_, c3a_, c3b_⟩ (fun hHeld4 => ?_)
  clear hK K hHeld3 hb
  try simp only [oE13_16, hwA]
  refine hwt 17 oE13_17 (.bool false) hHeld4 ?_ ?_
  · intro w' hSw; dsimp only [oE13_17]; go_simp
  try simp only [oE13_17, hwA]
  refine hwr 18 oE13_18 (fun K hK => ?_)
  obtain ⟨r0, r1, rf0, rf1⟩ := blkR fR
  dsimp only [oE13_18]; go_simp
  (try go_wp2_with fail)
  have hQq := stLet2 fR (.int .i64 ke) (.slice ae ne qe)
  clear fR r0 r1 rf0 rf1
  obtain ⟨X5, hXq, hsq, fR, zX5a, zX5b⟩ := hQq
  rw [hXq]
  replace fE := hsq.blk (by omega) fE; replace c1a_ := hsq.cell (by show b ≠ w.heap.size + 1; omega) c1a_; replace c1b_ := hsq.cell (by show b ≠ w.heap.size + 1; omega) c1b_; replace h1_ := Lib.hid (hsq.rep (fun b hb => by have : b < w.heap.size := hb; omega) h1_.out)
  replace c2a_ := hsq.cell (by show b ≠ w.heap.size + 1; omega) c2a_; replace c2b_ := hsq.cell (by show b ≠ w.heap.size + 1; omega) c2b_; replace h2_ := Lib.hid (hsq.rep (fun b hb => by have : b < w.heap.size := hb; omega) h2_.out); replace c3a_ := hsq.cell (by show b ≠ w.heap.size + 1; omega) c3a_
  replace c3b_ := hsq.cell (by show b ≠ w.heap.size + 1; omega) c3b_; replace h3_ := Lib.hid (hsq.rep (fun b hb => by have : b < w.heap.size := hb; omega) h3_.out); replace fC := Lib.hid (hsq.bel fC.out (by omega)); replace hN1 := Lib.hid (hsq.rep (fun b hb => by have h1 : U14.heap.size ≤ b := hb.1; have h2 : b < X1.heap.size := hb.2; omega) hN1.out)
  refine hK.out _ _ ⟨c1a_, c1b_, c2a_, c2b_, c3a_, c3b_⟩ (fun hHeld5 => ?_)
  clear hK K hHeld4 hsq hXq
  try simp only [oE13_18, hwA]
  refine hwt 19 oE13_19 (.bool false) hHeld5 ?_ ?_
  · intro w' hSw; dsimp only [oE13_19]; go_simp
  try simp only [oE13_19, hwA]
  refine wpAnyH_done (by kernel_rfl) ?_ _
  refine NoPanic.normal ?_
  clear hHeld5
  have rc0 := blk_cell fR (o := 0) rfl
  have rc1 := blk_cell fR (o := 1) rfl
  go_wp2_with fail
  refine bodyPost_ret (v := .tuple #[.agg #[.int .i64 ke, .slice ae ne qe], .bool false]) (by simp [results, Try.results34, go_sem, rc0, rc1]) rfl ?_
  exact ⟨_, _, _, _, _, h2.ty, rfl, by rw [HO.out, if_f (.inr D2.out)]; rfl, hN1.out.move (.weaken fun b h _ => .inr (by have h1 := h.1; omega)), (by rw [HO.out, if_f (.inr D2.out)]; intro s h; simp at h), fC.out⟩
set_option maxHeartbeats 4000000 in
theorem specL4Exact_9_tt (G1 G2 G3 : Nat → Prop) (nm : ByteArray) (u lb tk fk : Int) (ty src : Ty) (ta fa ca : Option Addr) (tn tq fn fq cm cq : Nat) (w : World) (hty : TyRep G1 w ty (.agg #[.int .i64 tk, .slice ta tn tq])) (hsrc : TyRep G2 w src (.agg #[.int .i64 fk, .slice fa fn fq])) (y : Value) (h1 h2 h3 : S) (hv2 : h2.vd = true) (d1 : h1.ty.same (.mk 3 []) = true) (d2 : h2.ty.same h3.ty = true) (hy : TysRep G3 w [h1.ty, h2.ty, h3.ty] y) :
    Calls Try.prog 34 #[.agg #[.int .i64 9, .string nm, .int .i64 u, .int .i64 tk, .slice ta tn tq, .int .i64 fk, .slice fa fn fq, .int .i64 lb, .slice ca cm cq], y] w (RetOF ((nodeS 9 ty src [h1, h2, h3]).map S.ty) w) := by
  obtain ⟨b, off, cap, k1, c1, m1, q1, k2, c2, m2, q2, k3, c3, m3, q3, rfl, hlb, e1a, e1b, e2a, e2b, e3a, e3b, ht1, ht2, ht3⟩ := hy.three
  obtain ⟨OO', hOO⟩ : ∃ O : Option Ty, O = ((nodeS 9 ty src [h1, h2, h3]).map S.ty) := ⟨_, rfl⟩
  rw [← hOO]
  have HO := Lib.hid hOO
  clear hOO
  have D1 := Lib.hid d1
  have HCN := Lib.hid (S.cnt_ok hv2)
  clear d1 hv2
  have D2 := Lib.hid d2
  clear d2
  have H1 := Lib.hid ht1.old
  have H2 := Lib.hid ht2.old
  have H3 := Lib.hid ht3.old
  clear hty hsrc hy ht1 ht2 ht3
  go_enter Try.func34, Try.ntmps34
  go_wp2_with fail
  obtain ⟨VV, hVV⟩ : ∃ X, X = ((w.alloc (.cells #[.int .i64 9, .string nm, .int .i64 u, .int .i64 tk, .slice ta tn tq, .int .i64 fk, .slice fa fn fq, .int .i64 lb, .slice ca cm cq] 36)).alloc (.cells #[.int .i64 0, .slice none 0 0] 31)) := ⟨_, rfl⟩
  have fE : VV.heap[w.heap.size]? = some (.cells #[.int .i64 9, .string nm, .int .i64 u, .int .i64 tk, .slice ta tn tq, .int .i64 fk, .slice fa fn fq, .int .i64 lb, .slice ca cm cq] 36 (0, 0)) := by rw [hVV]; exact blk_below (blk_new rfl) bal1
  have fR : VV.heap[w.heap.size + 1]? = some (.cells #[.int .i64 0, .slice none 0 0] 31 (0, 0)) := by rw [hVV]; exact blk_new (by simp)
  have c1a_ : VV.cell? ⟨b, off, none⟩ = some (.int .i64 k1) := by rw [hVV]; exact bcell bal1 (bcell bal1 e1a)
  have c1b_ : VV.cell? ⟨b, off + 1, none⟩ = some (.slice c1 m1 q1) := by rw [hVV]; exact bcell bal1 (bcell bal1 e1b)
  have h1_ : Hid (TyRep (· < w.heap.size) VV h1.ty (.agg #[.int .i64 k1, .slice c1 m1 q1])) := by rw [hVV]; exact Lib.hid ((H1.out.below bal1).below bal1)
  have c2a_ : VV.cell? ⟨b, off + 2, none⟩ = some (.int .i64 k2) := by rw [hVV]; exact bcell bal1 (bcell bal1 e2a)
  have c2b_ : VV.cell? ⟨b, off + 3, none⟩ = some (.slice c2 m2 q2) := by rw [hVV]; exact bcell bal1 (bcell bal1 e2b)
  have h2_ : Hid (TyRep (· < w.heap.size) VV h2.ty (.agg #[.int .i64 k2, .slice c2 m2 q2])) := by rw [hVV]; exact Lib.hid ((H2.out.below bal1).below bal1)
  have c3a_ : VV.cell? ⟨b, off + 4, none⟩ = some (.int .i64 k3) := by rw [hVV]; exact bcell bal1 (bcell bal1 e3a)
  have c3b_ : VV.cell? ⟨b, off + 5, none⟩ = some (.slice c3 m3 q3) := by rw [hVV]; exact bcell bal1 (bcell bal1 e3b)
  have h3_ : Hid (TyRep (· < w.heap.size) VV h3.ty (.agg #[.int .i64 k3, .slice c3 m3 q3])) := by rw [hVV]; exact Lib.hid ((H3.out.below bal1).below bal1)
  have fC : Hid (Below w.heap.size w VV) := by rw [hVV]; exact Lib.hid (bstep bal1 bal1)
  rw [← hVV]
  have zV : VV.heap.size = _ := congrArg (fun X : World => X.heap.size) hVV
  simp only [World.size_alloc] at zV
  refine wp_region_noPanic ?_
  refine wp_region_held_drew (S := fun w' => w'.cell? ⟨b, off, none⟩ = some (.int .i64 k1) ∧ w'.cell? ⟨b, off + 1, none⟩ = some (.slice c1 m1 q1) ∧ w'.cell? ⟨b, off + 2, none⟩ = some (.int .i64 k2) ∧ w'.cell? ⟨b, off + 3, none⟩ = some (.slice c2 m2 q2) ∧ w'.cell? ⟨b, off + 4, none⟩ = some (.int .i64 k3) ∧ w'.cell? ⟨b, off + 5, none⟩ = some (.slice c3 m3 q3)) (by kernel_rfl) ?_ (fun hHeld0 => ?_)
  · exact ⟨c1a_, c1b_, c2a_, c2b_, c3a_, c3b_⟩
  obtain ⟨U15, hU, hb, zU15a, zU15b⟩ := drLet VV
  rw [hU] at hHeld0 ⊢
  replace fE := blk_below fE hb; replace fR := blk_below fR hb; replace c1a_ := bcell hb c1a_; replace c1b_ := bcell hb c1b_
  replace h1_ := Lib.hid (h1_.out.below hb); replace c2a_ := bcell hb c2a_; replace c2b_ := bcell hb c2b_; replace h2_ := Lib.hid (h2_.out.below hb)
  replace c3a_ := bcell hb c3a_; replace c3b_ := bcell hb c3b_; replace h3_ := Lib.hid (h3_.out.below hb); replace fC := Lib.hid (bstep fC.out hb)
  rw [zV] at zU15a zU15b
  clear hU hb hVV zV
  refine hwt 0 oE13_0 (.slice (some ⟨b, off, none⟩) 3 cap) hHeld0 ?_ ?_
  · intro w' hSw; dsimp only [oE13_0]; go_simp
  try simp only [oE13_0, hwA]
  refine hwt 1 oE13_1 (.pointer (some ⟨b, off + 2, none⟩)) hHeld0 ?_ ?_
  · intro w' hSw; dsimp only [oE13_1]; go_simp
  try simp only [oE13_1, hwA]
  refine hwt 2 oE13_2 (.agg #[.int .i64 k2, .slice c2 m2 q2]) hHeld0 ?_ ?_
  · intro w' hSw; dsimp only [oE13_2]; go_simp
  try simp only [oE13_2, hwA]
  refine hwt 4 oE13_4 (.slice (some ⟨b, off, none⟩) 3 cap) hHeld0 ?_ ?_
  · intro w' hSw; dsimp only [oE13_4]; go_simp
  try simp only [oE13_4, hwA]
  refine hwt 5 oE13_5 (.pointer (some ⟨b, off, none⟩)) hHeld0 ?_ ?_
  · intro w' hSw; dsimp only [oE13_5]; go_simp
  try simp only [oE13_5, hwA]
  refine hwt 6 oE13_6 (.agg #[.int .i64 k1, .slice c1 m1 q1]) hHeld0 ?_ ?_
  · intro w' hSw; dsimp only [oE13_6]; go_simp
  try simp only [oE13_6, hwA]
  refine hwr 3 oE13_3 (fun K hK => ?_)
  dsimp only [oE13_3]; go_simp
  go_at_call 49
  refine (specL1Copy _ h2.ty _ _ h2_.out HCN.out).mono ?_
  rintro e X1 ⟨v, rfl, hv, hb⟩
  obtain ⟨ke, ae, ne, qe, rfl⟩ := hv.shape
  have hN1' : Hid (TyRep (fun b => U15.heap.size ≤ b ∧ b < X1.heap.size) X1 h2.ty (.agg #[.int .i64 ke, .slice ae ne qe])) := Lib.hid (hv.rep.move (.weaken fun b h1 h2 => ⟨h1, h2⟩))
  clear hv
  go_wp2_with fail
  have zX1 : U15.heap.size ≤ X1.heap.size := hb.size
  replace fE := blk_below fE hb; replace fR := blk_below fR hb; replace c1a_ := bcell hb c1a_; replace c1b_ := bcell hb c1b_
  replace h1_ := Lib.hid (h1_.out.below hb); replace c2a_ := bcell hb c2a_; replace c2b_ := bcell hb c2b_; replace h2_ := Lib.hid (h2_.out.below hb)
  replace c3a_ := bcell hb c3a_; replace c3b_ := bcell hb c3b_; replace h3_ := Lib.hid (h3_.out.below hb); replace fC := Lib.hid (bstep fC.out hb)
  have hN1 := hN1'
  clear hN1'
  refine hK.out _ _ ⟨c1a_, c1b_, c2a_, c2b_, c3a_, c3b_⟩ (fun hHeld1 => ?_)
  clear hK K hHeld0 hb
  try simp only [oE13_3, hwA]
  refine hwr 7 oE13_7 (fun K hK => ?_)
  dsimp only [oE13_7]; go_simp
  go_at_call 47
  refine (specL3Bool _).mono ?_
  rintro e X2 ⟨rfl, hb⟩
  go_wp2_with fail
  have zX2 : X1.heap.size ≤ X2.heap.size := hb.size
  replace fE := blk_below fE hb; replace fR := blk_below fR hb; replace c1a_ := bcell hb c1a_; replace c1b_ := bcell hb c1b_
  replace h1_ := Lib.hid (h1_.out.below hb); replace c2a_ := bcell hb c2a_; replace c2b_ := bcell hb c2b_; replace h2_ := Lib.hid (h2_.out.below hb)
  replace c3a_ := bcell hb c3a_; replace c3b_ := bcell hb c3b_; replace h3_ := Lib.hid (h3_.out.below hb); replace fC := Lib.hid (bstep fC.out hb)
  replace hN1 := Lib.hid (hN1.out.below hb)
  refine hK.out _ _ ⟨c1a_, c1b_, c2a_, c2b_, c3a_, c3b_⟩ (fun hHeld2 => ?_)
  clear hK K hHeld1 hb
  try simp only [oE13_7, hwA]
  refine hwr 8 oE13_8 (fun K hK => ?_)
  dsimp only [oE13_8]; go_simp
  go_at_call 51
  refine (specTypeSame _ _ _ _ _ _ _ h1_.out (TyRep.leaf 3)).mono ?_
  rintro e X3 ⟨rfl, hb⟩
  rw [D1.out]
  go_wp2_with fail
  have zX3 : X2.heap.size ≤ X3.heap.size := hb.size
  replace fE := blk_below fE hb; replace fR := blk_below fR hb; replace c1a_ := bcell hb c1a_; replace c1b_ := bcell hb c1b_
  replace h1_ := Lib.hid (h1_.out.below hb); replace c2a_ := bcell hb c2a_; replace c2b_ := bcell hb c2b_; replace h2_ := Lib.hid (h2_.out.below hb)
  replace c3a_ := bcell hb c3a_; replace c3b_ := bcell hb c3b_; replace h3_ := Lib.hid (h3_.out.below hb); replace fC := Lib.hid (bstep fC.out hb)
  replace hN1 := Lib.hid (hN1.out.below hb)
  refine hK.out _ _ ⟨c1a_, c1b_, c2a_, c2b_, c3a_, c3b_⟩ (fun hHeld3 => ?_)
  clear hK K hHeld2 hb
  try simp only [oE13_8, hwA]
  refine hwt 9 oE13_9 (.bool true) hHeld3 ?_ ?_
  · intro w' hSw; dsimp only [oE13_9]; go_simp
  try simp only [oE13_9, hwA]
  refine hwt 10 oE13_10 (.slice (some ⟨b, off, none⟩) 3 cap) hHeld3 ?_ ?_
  · intro w' hSw; dsimp only [oE13_10]; go_simp
  try simp only [oE13_10, hwA]
  refine hwt 11 oE13_11 (.pointer (some ⟨b, off + 2, none⟩)) hHeld3 ?_ ?_
  · intro w' hSw; dsimp only [oE13_11]; go_simp
  try simp only [oE13_11, hwA]
  refine hwt 12 oE13_12 (.agg #[.int .i64 k2, .slice c2 m2 q2]) hHeld3 ?_ ?_
  · intro w' hSw; dsimp only [oE13_12]; go_simp
  try simp only [oE13_12, hwA]
  refine hwt 13 oE13_13 (.slice (some ⟨b, off, none⟩) 3 cap) hHeld3 ?_ ?_
  · intro w' hSw; dsimp only [oE13_13]; go_simp
  try simp only [oE13_13, hwA]
  refine hwt 14 oE13_14 (.pointer (some ⟨b, off + 4, none⟩)) hHeld3 ?_ ?_
  · intro w' hSw; dsimp only [oE13_14]; go_simp
  try simp only [oE13_14, hwA]
  refine hwt 15 oE13_15 (.agg #[.int .i64 k3, .slice c3 m3 q3]) hHeld3 ?_ ?_
  · intro w' hSw; dsimp only [oE13_15]; go_simp
  try simp only [oE13_15, hwA]
  refine hwr 16 oE13_16 (fun K hK => ?_)
  dsimp only [oE13_16]; go_simp
  go_at_call 51
  refine (specTypeSame _ _ _ _ _ _ _ h2_.out h3_.out).mono ?_
  rintro e X4 ⟨rfl, hb⟩
  rw [D2.out]
  go_wp2_with fail
  have zX4 : X3.heap.size ≤ X4.heap.size := hb.size
  replace fE := blk_below fE hb; replace fR := blk_below fR hb; replace c1a_ := bcell hb c1a_; replace c1b_ := bcell hb c1b_
  replace h1_ := Lib.hid (h1_.out.below hb); replace c2a_ := bcell hb c2a_; replace c2b_ := bcell hb c2b_; replace h2_ := Lib.hid (h2_.out.below hb)
  replace c3a_ := bcell hb c3a_; replace c3b_ := bcell hb c3b_; replace h3_ := Lib.hid (h3_.out.below hb); replace fC := Lib.hid (bstep fC.out hb)
  replace hN1 := Lib.hid (hN1.out.below hb)
  refine hK.out _ _ ⟨c1a_, c1b_, c2a_, c2b_, c3a_, c3b_⟩ (fun hHeld4 => ?_)
  clear hK K hHeld3 hb
  try simp only [oE13_16, hwA]
  refine hwt 17 oE13_17 (.bool true) hHeld4 ?_ ?_
  · intro w' hSw; dsimp only [oE13_17]; go_simp
  try simp only [oE13_17, hwA]
  refine hwr 18 oE13_18 (fun K hK => ?_)
  obtain ⟨r0, r1, rf0, rf1⟩ := blkR fR
  dsimp only [oE13_18]; go_simp
  (try go_wp2_with fail)
  have hQq := stLet2 fR (.int .i64 ke) (.slice ae ne qe)
  clear fR r0 r1 rf0 rf1
  obtain ⟨X5, hXq, hsq, fR, zX5a, zX5b⟩ := hQq
  rw [hXq]
  replace fE := hsq.blk (by omega) fE; replace c1a_ := hsq.cell (by show b ≠ w.heap.size + 1; omega) c1a_; replace c1b_ := hsq.cell (by show b ≠ w.heap.size + 1; omega) c1b_; replace h1_ := Lib.hid (hsq.rep (fun b hb => by have : b < w.heap.size := hb; omega) h1_.out)
  replace c2a_ := hsq.cell (by show b ≠ w.heap.size + 1; omega) c2a_; replace c2b_ := hsq.cell (by show b ≠ w.heap.size + 1; omega) c2b_; replace h2_ := Lib.hid (hsq.rep (fun b hb => by have : b < w.heap.size := hb; omega) h2_.out); replace c3a_ := hsq.cell (by show b ≠ w.heap.size + 1; omega) c3a_
  replace c3b_ := hsq.cell (by show b ≠ w.heap.size + 1; omega) c3b_; replace h3_ := Lib.hid (hsq.rep (fun b hb => by have : b < w.heap.size := hb; omega) h3_.out); replace fC := Lib.hid (hsq.bel fC.out (by omega)); replace hN1 := Lib.hid (hsq.rep (fun b hb => by have h1 : U15.heap.size ≤ b := hb.1; have h2 : b < X1.heap.size := hb.2; omega) hN1.out)
  refine hK.out _ _ ⟨c1a_, c1b_, c2a_, c2b_, c3a_, c3b_⟩ (fun hHeld5 => ?_)
  clear hK K hHeld4 hsq hXq
  try simp only [oE13_18, hwA]
  refine hwt 19 oE13_19 (.bool true) hHeld5 ?_ ?_
  · intro w' hSw; dsimp only [oE13_19]; go_simp
  try simp only [oE13_19, hwA]
  refine wpAnyH_done (by kernel_rfl) ?_ _
  refine NoPanic.normal ?_
  clear hHeld5
  have rc0 := blk_cell fR (o := 0) rfl
  have rc1 := blk_cell fR (o := 1) rfl
  go_wp2_with fail
  refine bodyPost_ret (v := .tuple #[.agg #[.int .i64 ke, .slice ae ne qe], .bool true]) (by simp [results, Try.results34, go_sem, rc0, rc1]) rfl ?_
  exact ⟨_, _, _, _, _, h2.ty, rfl, by rw [HO.out, if_t D1.out D2.out]; rfl, hN1.out.move (.weaken fun b h _ => .inr (by have h1 := h.1; omega)), (by rw [HO.out, if_t D1.out D2.out]; intro s h; exact Option.some.inj h), fC.out⟩
end Go.Proofs.Ytkhmkohgnikcmaa
