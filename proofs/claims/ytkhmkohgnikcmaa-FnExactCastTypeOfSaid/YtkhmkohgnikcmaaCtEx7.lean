/-
  spec.l4Exact: the type of a node of a term with casts by its operands' types.
-/
import Derived.Test.YtkhmkohgnikcmaaB19
import Derived.Test.YtkhmkohgnikcmaaCtTwo
import Derived.Test.YtkhmkohgnikcmaaB18
import Derived.Test.YtkhmkohgnikcmaaB20
import Derived.Test.YtkhmkohgnikcmaaB3
import Derived.Test.YtkhmkohgnikcmaaB9
import Derived.Test.YtkhmkohgnikcmaaB20
import Derived.Test.YtkhmkohgnikcmaaB20
import Derived.Deep.RegionHeld3
namespace Go.Proofs.Ytkhmkohgnikcmaa
open Go.RowKit
set_option linter.unusedVariables false
set_option linter.unusedSimpArgs false
set_option maxRecDepth 100000

theorem ar_t {k : Int} {ty src : Ty} {g h : S} (hk : k ≠ 6 ∧ k ≠ 10 ∧ k ≠ 9) (d1 : g.ty.same (.mk 2 []) = true) (d2 : h.ty.same (.mk 2 []) = true) : nodeS k ty src [g, h] = some (if k = 8 then .bool else .int) := by
  rw [show (Ty.mk 2 []) = S.int.ty from rfl, S.same, decide_eq_true_eq] at d1 d2
  subst d1 d2
  simp [nodeS, hk.1, hk.2.1]
theorem ar_f {k : Int} {ty src : Ty} {g h : S} (hk : k ≠ 6 ∧ k ≠ 10 ∧ k ≠ 9) (d : g.ty.same (.mk 2 []) = false ∨ h.ty.same (.mk 2 []) = false) : nodeS k ty src [g, h] = none := by
  simp only [show (Ty.mk 2 []) = S.int.ty from rfl, S.same, decide_eq_false_iff_not] at d
  have : ¬ (g = .int ∧ h = .int) := by rintro ⟨rfl, rfl⟩; simp at d
  simp [nodeS, hk.1, hk.2.1, this]
theorem TysRep.three {F : Nat → Prop} {w : World} {t u s : Ty} {y : Value} (h : TysRep F w [t, u, s] y) :
    ∃ b off cap k1 c1 m1 q1 k2 c2 m2 q2 k3 c3 m3 q3, y = .slice (some ⟨b, off, none⟩) 3 cap ∧ b < w.heap.size ∧
      w.cell? ⟨b, off, none⟩ = some (.int .i64 k1) ∧ w.cell? ⟨b, off + 1, none⟩ = some (.slice c1 m1 q1) ∧ w.cell? ⟨b, off + 2, none⟩ = some (.int .i64 k2) ∧ w.cell? ⟨b, off + 3, none⟩ = some (.slice c2 m2 q2) ∧ w.cell? ⟨b, off + 4, none⟩ = some (.int .i64 k3) ∧ w.cell? ⟨b, off + 5, none⟩ = some (.slice c3 m3 q3) ∧
      TyRep F w t (.agg #[.int .i64 k1, .slice c1 m1 q1]) ∧ TyRep F w u (.agg #[.int .i64 k2, .slice c2 m2 q2]) ∧ TyRep F w s (.agg #[.int .i64 k3, .slice c3 m3 q3]) := by
  obtain ⟨a, cap, rfl, h2, h3, hg⟩ := h.open
  obtain ⟨b, off, k1, c1, m1, q1, rfl, e0, e1, ht⟩ := hg 0 (by simp)
  obtain ⟨b', off', k2, c2, m2, q2, he, e2, e3, ht2⟩ := hg 1 (by simp)
  simp only [Option.some.injEq, Addr.mk.injEq, and_true] at he
  obtain ⟨rfl, rfl⟩ := he
  obtain ⟨b', off', k3, c3, m3, q3, he, e4, e5, ht3⟩ := hg 2 (by simp)
  simp only [Option.some.injEq, Addr.mk.injEq, and_true] at he
  obtain ⟨rfl, rfl⟩ := he
  exact ⟨b, off, cap, k1, c1, m1, q1, k2, c2, m2, q2, k3, c3, m3, q3, rfl, World.block_lt_of_cell? _ _ e0, by simpa using e0, by simpa using e1, by simpa using e2, by simpa using e3, by simpa using e4, by simpa using e5, ht, ht2, ht3⟩
theorem TyRep.pairK {F : Nat → Prop} {w : World} {k k1 : Int} {t u : Ty} {a : Option Addr} {n q : Nat} (h : TyRep F w (.mk k [t, u]) (.agg #[.int .i64 k1, .slice a n q])) : k1 = k ∧ TysRep F w [t, u] (.slice a n q) := by
  obtain ⟨s, he, hs⟩ := h
  simp only [Value.agg.injEq, Array.mk.injEq, List.cons.injEq, Value.int.injEq, true_and, and_true] at he
  obtain ⟨rfl, rfl⟩ := he
  exact ⟨rfl, hs⟩
def oE9_0 : Oper := ⟨some 49, Op.call { callee := Callee.value (Operand.func 46), args := #[], argTypes := #[] }, 31, "l4_casts.go:132", #[], none⟩
def oE9_1 : Oper := ⟨some 50, Op.move (Operand.tmp 1), 29, "l4_casts.go:132", #[], none⟩
def oE9_2 : Oper := ⟨some 51, Op.indexAddr 29 (Operand.tmp 50) (Operand.const (Value.int IntKind.i64 0)), 0, "l4_casts.go:132", #[⟨1, .data⟩], none⟩
def oE9_3 : Oper := ⟨some 52, Op.load 31 (Operand.tmp 51), 31, "l4_casts.go:132", #[⟨2, .data⟩], none⟩
def oE9_4 : Oper := ⟨some 53, Op.call { callee := Callee.value (Operand.func 46), args := #[], argTypes := #[] }, 31, "l4_casts.go:132", #[⟨0, .chain⟩], none⟩
def oE9_5 : Oper := ⟨some 54, Op.call { callee := Callee.value (Operand.func 51), args := #[Operand.tmp 52, Operand.tmp 53], argTypes := #[31, 31] }, 4, "l4_casts.go:132", #[⟨3, .data⟩, ⟨4, .data⟩, ⟨4, .chain⟩], none⟩
def oE9_6 : Oper := ⟨some 55, Op.move (Operand.tmp 54), 4, "l4_casts.go:132", #[⟨5, .data⟩, ⟨5, .chain⟩], none⟩
def oE9_7 : Oper := ⟨some 56, Op.move (Operand.tmp 1), 29, "l4_casts.go:132", #[⟨6, .guard⟩], some (6, true)⟩
def oE9_8 : Oper := ⟨some 57, Op.indexAddr 29 (Operand.tmp 56) (Operand.const (Value.int IntKind.i64 1)), 0, "l4_casts.go:132", #[⟨7, .data⟩, ⟨6, .guard⟩], some (6, true)⟩
def oE9_9 : Oper := ⟨some 58, Op.load 31 (Operand.tmp 57), 31, "l4_casts.go:132", #[⟨8, .data⟩, ⟨6, .guard⟩], some (6, true)⟩
def oE9_10 : Oper := ⟨some 59, Op.call { callee := Callee.value (Operand.func 46), args := #[], argTypes := #[] }, 31, "l4_casts.go:132", #[⟨6, .chain⟩, ⟨6, .guard⟩], some (6, true)⟩
def oE9_11 : Oper := ⟨some 60, Op.call { callee := Callee.value (Operand.func 51), args := #[Operand.tmp 58, Operand.tmp 59], argTypes := #[31, 31] }, 4, "l4_casts.go:132", #[⟨9, .data⟩, ⟨10, .data⟩, ⟨10, .chain⟩, ⟨6, .guard⟩], some (6, true)⟩
def oE9_12 : Oper := ⟨some 61, Op.pick (Operand.tmp 55) (Operand.tmp 60) (Operand.const (Value.bool false)), 4, "l4_casts.go:132", #[⟨6, .data⟩, ⟨11, .data⟩, ⟨13, .gcOnly .lateStores⟩], none⟩
def oE9_13 : Oper := ⟨none, Op.store 31 (Operand.tmp 4) (Operand.tmp 49), 0, "l4_casts.go:132", #[⟨0, .data⟩, ⟨11, .chain⟩, ⟨0, .phase⟩, ⟨1, .textOnly .lateStores⟩, ⟨2, .textOnly .lateStores⟩, ⟨3, .textOnly .lateStores⟩, ⟨4, .textOnly .lateStoresUnsure⟩, ⟨5, .textOnly .lateStoresUnsure⟩, ⟨6, .textOnly .lateStores⟩, ⟨7, .textOnly .lateStores⟩, ⟨8, .textOnly .lateStores⟩, ⟨9, .textOnly .lateStores⟩, ⟨10, .textOnly .lateStoresUnsure⟩, ⟨11, .textOnly .lateStoresUnsure⟩, ⟨12, .textOnly .lateStores⟩], none⟩
def oE9_14 : Oper := ⟨some 5, Op.assign (Operand.tmp 61), 4, "l4_casts.go:132", #[⟨12, .data⟩, ⟨13, .chain⟩, ⟨0, .phase⟩, ⟨1, .phase⟩, ⟨2, .phase⟩, ⟨3, .phase⟩, ⟨4, .phase⟩, ⟨5, .phase⟩, ⟨6, .phase⟩, ⟨7, .phase⟩, ⟨8, .phase⟩, ⟨9, .phase⟩, ⟨10, .phase⟩, ⟨11, .phase⟩, ⟨12, .phase⟩, ⟨13, .phase⟩], none⟩
set_option maxHeartbeats 4000000 in
theorem specL4Exact_7_f (G1 G2 G3 : Nat → Prop) (nm : ByteArray) (u lb tk fk : Int) (ty src : Ty) (ta fa ca : Option Addr) (tn tq fn fq cm cq : Nat) (w : World) (hty : TyRep G1 w ty (.agg #[.int .i64 tk, .slice ta tn tq])) (hsrc : TyRep G2 w src (.agg #[.int .i64 fk, .slice fa fn fq])) (y : Value) (h1 h2 : S) (d1 : h1.ty.same (.mk 2 []) = false) (hy : TysRep G3 w [h1.ty, h2.ty] y) :
    Calls Try.prog 34 #[.agg #[.int .i64 7, .string nm, .int .i64 u, .int .i64 tk, .slice ta tn tq, .int .i64 fk, .slice fa fn fq, .int .i64 lb, .slice ca cm cq], y] w (RetOF ((nodeS 7 ty src [h1, h2]).map S.ty) w) := by
  obtain ⟨b, off, cap, k1, c1, m1, q1, k2, c2, m2, q2, rfl, -, -, hlb, e1a, e1b, e2a, e2b, ht1, ht2⟩ := hy.two
  obtain ⟨OO', hOO⟩ : ∃ O : Option Ty, O = ((nodeS 7 ty src [h1, h2]).map S.ty) := ⟨_, rfl⟩
  rw [← hOO]
  have HO := Lib.hid hOO
  clear hOO
  have D1 := Lib.hid d1
  clear d1
  have H1 := Lib.hid ht1.old
  have H2 := Lib.hid ht2.old
  clear hty hsrc hy ht1 ht2
  go_enter Try.func34, Try.ntmps34
  go_wp2_with fail
  obtain ⟨VV, hVV⟩ : ∃ X, X = ((w.alloc (.cells #[.int .i64 7, .string nm, .int .i64 u, .int .i64 tk, .slice ta tn tq, .int .i64 fk, .slice fa fn fq, .int .i64 lb, .slice ca cm cq] 36)).alloc (.cells #[.int .i64 0, .slice none 0 0] 31)) := ⟨_, rfl⟩
  have fE : VV.heap[w.heap.size]? = some (.cells #[.int .i64 7, .string nm, .int .i64 u, .int .i64 tk, .slice ta tn tq, .int .i64 fk, .slice fa fn fq, .int .i64 lb, .slice ca cm cq] 36 (0, 0)) := by rw [hVV]; exact blk_below (blk_new rfl) bal1
  have fR : VV.heap[w.heap.size + 1]? = some (.cells #[.int .i64 0, .slice none 0 0] 31 (0, 0)) := by rw [hVV]; exact blk_new (by simp)
  have c1a_ : VV.cell? ⟨b, off, none⟩ = some (.int .i64 k1) := by rw [hVV]; exact bcell bal1 (bcell bal1 e1a)
  have c1b_ : VV.cell? ⟨b, off + 1, none⟩ = some (.slice c1 m1 q1) := by rw [hVV]; exact bcell bal1 (bcell bal1 e1b)
  have h1_ : Hid (TyRep (· < w.heap.size) VV h1.ty (.agg #[.int .i64 k1, .slice c1 m1 q1])) := by rw [hVV]; exact Lib.hid ((H1.out.below bal1).below bal1)
  have c2a_ : VV.cell? ⟨b, off + 2, none⟩ = some (.int .i64 k2) := by rw [hVV]; exact bcell bal1 (bcell bal1 e2a)
  have c2b_ : VV.cell? ⟨b, off + 3, none⟩ = some (.slice c2 m2 q2) := by rw [hVV]; exact bcell bal1 (bcell bal1 e2b)
  have h2_ : Hid (TyRep (· < w.heap.size) VV h2.ty (.agg #[.int .i64 k2, .slice c2 m2 q2])) := by rw [hVV]; exact Lib.hid ((H2.out.below bal1).below bal1)
  have fC : Hid (Below w.heap.size w VV) := by rw [hVV]; exact Lib.hid (bstep bal1 bal1)
  rw [← hVV]
  have zV : VV.heap.size = _ := congrArg (fun X : World => X.heap.size) hVV
  simp only [World.size_alloc] at zV
  refine wp_region_noPanic ?_
  refine wp_region_held_drew (S := fun w' => w'.cell? ⟨b, off, none⟩ = some (.int .i64 k1) ∧ w'.cell? ⟨b, off + 1, none⟩ = some (.slice c1 m1 q1) ∧ w'.cell? ⟨b, off + 2, none⟩ = some (.int .i64 k2) ∧ w'.cell? ⟨b, off + 3, none⟩ = some (.slice c2 m2 q2)) (by kernel_rfl) ?_ (fun hHeld0 => ?_)
  · exact ⟨c1a_, c1b_, c2a_, c2b_⟩
  obtain ⟨U7, hU, hb, zU7a, zU7b⟩ := drLet VV
  rw [hU] at hHeld0 ⊢
  replace fE := blk_below fE hb; replace fR := blk_below fR hb; replace c1a_ := bcell hb c1a_; replace c1b_ := bcell hb c1b_
  replace h1_ := Lib.hid (h1_.out.below hb); replace c2a_ := bcell hb c2a_; replace c2b_ := bcell hb c2b_; replace h2_ := Lib.hid (h2_.out.below hb)
  replace fC := Lib.hid (bstep fC.out hb)
  rw [zV] at zU7a zU7b
  clear hU hb hVV zV
  refine hwt 1 oE9_1 (.slice (some ⟨b, off, none⟩) 2 cap) hHeld0 ?_ ?_
  · intro w' hSw; dsimp only [oE9_1]; go_simp
  try simp only [oE9_1, hwA]
  refine hwt 2 oE9_2 (.pointer (some ⟨b, off, none⟩)) hHeld0 ?_ ?_
  · intro w' hSw; dsimp only [oE9_2]; go_simp
  try simp only [oE9_2, hwA]
  refine hwt 3 oE9_3 (.agg #[.int .i64 k1, .slice c1 m1 q1]) hHeld0 ?_ ?_
  · intro w' hSw; dsimp only [oE9_3]; go_simp
  try simp only [oE9_3, hwA]
  refine hwr 0 oE9_0 (fun K hK => ?_)
  dsimp only [oE9_0]; go_simp
  go_at_call 46
  refine (specL3Int _).mono ?_
  rintro e X1 ⟨rfl, hb⟩
  go_wp2_with fail
  have zX1 : U7.heap.size ≤ X1.heap.size := hb.size
  replace fE := blk_below fE hb; replace fR := blk_below fR hb; replace c1a_ := bcell hb c1a_; replace c1b_ := bcell hb c1b_
  replace h1_ := Lib.hid (h1_.out.below hb); replace c2a_ := bcell hb c2a_; replace c2b_ := bcell hb c2b_; replace h2_ := Lib.hid (h2_.out.below hb)
  replace fC := Lib.hid (bstep fC.out hb)
  refine hK.out _ _ ⟨c1a_, c1b_, c2a_, c2b_⟩ (fun hHeld1 => ?_)
  clear hK K hHeld0 hb
  try simp only [oE9_0, hwA]
  refine hwr 4 oE9_4 (fun K hK => ?_)
  dsimp only [oE9_4]; go_simp
  go_at_call 46
  refine (specL3Int _).mono ?_
  rintro e X2 ⟨rfl, hb⟩
  go_wp2_with fail
  have zX2 : X1.heap.size ≤ X2.heap.size := hb.size
  replace fE := blk_below fE hb; replace fR := blk_below fR hb; replace c1a_ := bcell hb c1a_; replace c1b_ := bcell hb c1b_
  replace h1_ := Lib.hid (h1_.out.below hb); replace c2a_ := bcell hb c2a_; replace c2b_ := bcell hb c2b_; replace h2_ := Lib.hid (h2_.out.below hb)
  replace fC := Lib.hid (bstep fC.out hb)
  refine hK.out _ _ ⟨c1a_, c1b_, c2a_, c2b_⟩ (fun hHeld2 => ?_)
  clear hK K hHeld1 hb
  try simp only [oE9_4, hwA]
  refine hwr 5 oE9_5 (fun K hK => ?_)
  dsimp only [oE9_5]; go_simp
  go_at_call 51
  refine (specTypeSame _ _ _ _ _ _ _ h1_.out (TyRep.leaf 2)).mono ?_
  rintro e X3 ⟨rfl, hb⟩
  rw [D1.out]
  go_wp2_with fail
  have zX3 : X2.heap.size ≤ X3.heap.size := hb.size
  replace fE := blk_below fE hb; replace fR := blk_below fR hb; replace c1a_ := bcell hb c1a_; replace c1b_ := bcell hb c1b_
  replace h1_ := Lib.hid (h1_.out.below hb); replace c2a_ := bcell hb c2a_; replace c2b_ := bcell hb c2b_; replace h2_ := Lib.hid (h2_.out.below hb)
  replace fC := Lib.hid (bstep fC.out hb)
  refine hK.out _ _ ⟨c1a_, c1b_, c2a_, c2b_⟩ (fun hHeld3 => ?_)
  clear hK K hHeld2 hb
  try simp only [oE9_5, hwA]
  refine hwt 6 oE9_6 (.bool false) hHeld3 ?_ ?_
  · intro w' hSw; dsimp only [oE9_6]; go_simp
  try simp only [oE9_6, hwA]
  refine hwn 7 oE9_7 hHeld3 ?_
  try simp only [oE9_7, hwA]
  refine hwn 8 oE9_8 hHeld3 ?_
  try simp only [oE9_8, hwA]
  refine hwn 9 oE9_9 hHeld3 ?_
  try simp only [oE9_9, hwA]
  refine hwn 10 oE9_10 hHeld3 ?_
  try simp only [oE9_10, hwA]
  refine hwn 11 oE9_11 hHeld3 ?_
  try simp only [oE9_11, hwA]
  refine hwt 12 oE9_12 (.bool false) hHeld3 ?_ ?_
  · intro w' hSw; dsimp only [oE9_12]; go_simp
  try simp only [oE9_12, hwA]
  refine hwr 13 oE9_13 (fun K hK => ?_)
  obtain ⟨r0, r1, rf0, rf1⟩ := blkR fR
  dsimp only [oE9_13]; go_simp
  (try go_wp2_with fail)
  have hQq := stLet2 fR (.int .i64 2) (.slice none 0 0)
  clear fR r0 r1 rf0 rf1
  obtain ⟨X4, hXq, hsq, fR, zX4a, zX4b⟩ := hQq
  rw [hXq]
  replace fE := hsq.blk (by omega) fE; replace c1a_ := hsq.cell (by show b ≠ w.heap.size + 1; omega) c1a_; replace c1b_ := hsq.cell (by show b ≠ w.heap.size + 1; omega) c1b_; replace h1_ := Lib.hid (hsq.rep (fun b hb => by have : b < w.heap.size := hb; omega) h1_.out)
  replace c2a_ := hsq.cell (by show b ≠ w.heap.size + 1; omega) c2a_; replace c2b_ := hsq.cell (by show b ≠ w.heap.size + 1; omega) c2b_; replace h2_ := Lib.hid (hsq.rep (fun b hb => by have : b < w.heap.size := hb; omega) h2_.out); replace fC := Lib.hid (hsq.bel fC.out (by omega))
  refine hK.out _ _ ⟨c1a_, c1b_, c2a_, c2b_⟩ (fun hHeld4 => ?_)
  clear hK K hHeld3 hsq hXq
  try simp only [oE9_13, hwA]
  refine hwt 14 oE9_14 (.bool false) hHeld4 ?_ ?_
  · intro w' hSw; dsimp only [oE9_14]; go_simp
  try simp only [oE9_14, hwA]
  refine wpAnyH_done (by kernel_rfl) ?_ _
  refine NoPanic.normal ?_
  clear hHeld4
  have rc0 := blk_cell fR (o := 0) rfl
  have rc1 := blk_cell fR (o := 1) rfl
  go_wp2_with fail
  refine bodyPost_ret (v := .tuple #[.agg #[.int .i64 2, .slice none 0 0], .bool false]) (by simp [results, Try.results34, go_sem, rc0, rc1]) rfl ?_
  exact ⟨_, _, _, _, _, .mk 2 [], rfl, by rw [HO.out, ar_f (k := 7) ⟨by omega, by omega, by omega⟩ (.inl D1.out)]; rfl, TyRep.leafG 2, (by rw [HO.out, ar_f (k := 7) ⟨by omega, by omega, by omega⟩ (.inl D1.out)]; intro s h; simp at h), fC.out⟩
set_option maxHeartbeats 4000000 in
theorem specL4Exact_7_tf (G1 G2 G3 : Nat → Prop) (nm : ByteArray) (u lb tk fk : Int) (ty src : Ty) (ta fa ca : Option Addr) (tn tq fn fq cm cq : Nat) (w : World) (hty : TyRep G1 w ty (.agg #[.int .i64 tk, .slice ta tn tq])) (hsrc : TyRep G2 w src (.agg #[.int .i64 fk, .slice fa fn fq])) (y : Value) (h1 h2 : S) (d1 : h1.ty.same (.mk 2 []) = true) (d2 : h2.ty.same (.mk 2 []) = false) (hy : TysRep G3 w [h1.ty, h2.ty] y) :
    Calls Try.prog 34 #[.agg #[.int .i64 7, .string nm, .int .i64 u, .int .i64 tk, .slice ta tn tq, .int .i64 fk, .slice fa fn fq, .int .i64 lb, .slice ca cm cq], y] w (RetOF ((nodeS 7 ty src [h1, h2]).map S.ty) w) := by
  obtain ⟨b, off, cap, k1, c1, m1, q1, k2, c2, m2, q2, rfl, -, -, hlb, e1a, e1b, e2a, e2b, ht1, ht2⟩ := hy.two
  obtain ⟨OO', hOO⟩ : ∃ O : Option Ty, O = ((nodeS 7 ty src [h1, h2]).map S.ty) := ⟨_, rfl⟩
  rw [← hOO]
  have HO := Lib.hid hOO
  clear hOO
  have D1 := Lib.hid d1
  clear d1
  have D2 := Lib.hid d2
  clear d2
  have H1 := Lib.hid ht1.old
  have H2 := Lib.hid ht2.old
  clear hty hsrc hy ht1 ht2
  go_enter Try.func34, Try.ntmps34
  go_wp2_with fail
  obtain ⟨VV, hVV⟩ : ∃ X, X = ((w.alloc (.cells #[.int .i64 7, .string nm, .int .i64 u, .int .i64 tk, .slice ta tn tq, .int .i64 fk, .slice fa fn fq, .int .i64 lb, .slice ca cm cq] 36)).alloc (.cells #[.int .i64 0, .slice none 0 0] 31)) := ⟨_, rfl⟩
  have fE : VV.heap[w.heap.size]? = some (.cells #[.int .i64 7, .string nm, .int .i64 u, .int .i64 tk, .slice ta tn tq, .int .i64 fk, .slice fa fn fq, .int .i64 lb, .slice ca cm cq] 36 (0, 0)) := by rw [hVV]; exact blk_below (blk_new rfl) bal1
  have fR : VV.heap[w.heap.size + 1]? = some (.cells #[.int .i64 0, .slice none 0 0] 31 (0, 0)) := by rw [hVV]; exact blk_new (by simp)
  have c1a_ : VV.cell? ⟨b, off, none⟩ = some (.int .i64 k1) := by rw [hVV]; exact bcell bal1 (bcell bal1 e1a)
  have c1b_ : VV.cell? ⟨b, off + 1, none⟩ = some (.slice c1 m1 q1) := by rw [hVV]; exact bcell bal1 (bcell bal1 e1b)
  have h1_ : Hid (TyRep (· < w.heap.size) VV h1.ty (.agg #[.int .i64 k1, .slice c1 m1 q1])) := by rw [hVV]; exact Lib.hid ((H1.out.below bal1).below bal1)
  have c2a_ : VV.cell? ⟨b, off + 2, none⟩ = some (.int .i64 k2) := by rw [hVV]; exact bcell bal1 (bcell bal1 e2a)
  have c2b_ : VV.cell? ⟨b, off + 3, none⟩ = some (.slice c2 m2 q2) := by rw [hVV]; exact bcell bal1 (bcell bal1 e2b)
  have h2_ : Hid (TyRep (· < w.heap.size) VV h2.ty (.agg #[.int .i64 k2, .slice c2 m2 q2])) := by rw [hVV]; exact Lib.hid ((H2.out.below bal1).below bal1)
  have fC : Hid (Below w.heap.size w VV) := by rw [hVV]; exact Lib.hid (bstep bal1 bal1)
  rw [← hVV]
  have zV : VV.heap.size = _ := congrArg (fun X : World => X.heap.size) hVV
  simp only [World.size_alloc] at zV
  refine wp_region_noPanic ?_
  refine wp_region_held_drew (S := fun w' => w'.cell? ⟨b, off, none⟩ = some (.int .i64 k1) ∧ w'.cell? ⟨b, off + 1, none⟩ = some (.slice c1 m1 q1) ∧ w'.cell? ⟨b, off + 2, none⟩ = some (.int .i64 k2) ∧ w'.cell? ⟨b, off + 3, none⟩ = some (.slice c2 m2 q2)) (by kernel_rfl) ?_ (fun hHeld0 => ?_)
  · exact ⟨c1a_, c1b_, c2a_, c2b_⟩
  obtain ⟨U8, hU, hb, zU8a, zU8b⟩ := drLet VV
  rw [hU] at hHeld0 ⊢
  replace fE := blk_below fE hb; replace fR := blk_below fR hb; replace c1a_ := bcell hb c1a_; replace c1b_ := bcell hb c1b_
  replace h1_ := Lib.hid (h1_.out.below hb); replace c2a_ := bcell hb c2a_; replace c2b_ := bcell hb c2b_; replace h2_ := Lib.hid (h2_.out.below hb)
  replace fC := Lib.hid (bstep fC.out hb)
  rw [zV] at zU8a zU8b
  clear hU hb hVV zV
  refine hwt 1 oE9_1 (.slice (some ⟨b, off, none⟩) 2 cap) hHeld0 ?_ ?_
  · intro w' hSw; dsimp only [oE9_1]; go_simp
  try simp only [oE9_1, hwA]
  refine hwt 2 oE9_2 (.pointer (some ⟨b, off, none⟩)) hHeld0 ?_ ?_
  · intro w' hSw; dsimp only [oE9_2]; go_simp
  try simp only [oE9_2, hwA]
  refine hwt 3 oE9_3 (.agg #[.int .i64 k1, .slice c1 m1 q1]) hHeld0 ?_ ?_
  · intro w' hSw; dsimp only [oE9_3]; go_simp
  try simp only [oE9_3, hwA]
  refine hwr 0 oE9_0 (fun K hK => ?_)
  dsimp only [oE9_0]; go_simp
  go_at_call 46
  refine (specL3Int _).mono ?_
  rintro e X1 ⟨rfl, hb⟩
  go_wp2_with fail
  have zX1 : U8.heap.size ≤ X1.heap.size := hb.size
  replace fE := blk_below fE hb; replace fR := blk_below fR hb; replace c1a_ := bcell hb c1a_; replace c1b_ := bcell hb c1b_
  replace h1_ := Lib.hid (h1_.out.below hb); replace c2a_ := bcell hb c2a_; replace c2b_ := bcell hb c2b_; replace h2_ := Lib.hid (h2_.out.below hb)
  replace fC := Lib.hid (bstep fC.out hb)
  refine hK.out _ _ ⟨c1a_, c1b_, c2a_, c2b_⟩ (fun hHeld1 => ?_)
  clear hK K hHeld0 hb
  try simp only [oE9_0, hwA]
  refine hwr 4 oE9_4 (fun K hK => ?_)
  dsimp only [oE9_4]; go_simp
  go_at_call 46
  refine (specL3Int _).mono ?_
  rintro e X2 ⟨rfl, hb⟩
  go_wp2_with fail
  have zX2 : X1.heap.size ≤ X2.heap.size := hb.size
  replace fE := blk_below fE hb; replace fR := blk_below fR hb; replace c1a_ := bcell hb c1a_; replace c1b_ := bcell hb c1b_
  replace h1_ := Lib.hid (h1_.out.below hb); replace c2a_ := bcell hb c2a_; replace c2b_ := bcell hb c2b_; replace h2_ := Lib.hid (h2_.out.below hb)
  replace fC := Lib.hid (bstep fC.out hb)
  refine hK.out _ _ ⟨c1a_, c1b_, c2a_, c2b_⟩ (fun hHeld2 => ?_)
  clear hK K hHeld1 hb
  try simp only [oE9_4, hwA]
  refine hwr 5 oE9_5 (fun K hK => ?_)
  dsimp only [oE9_5]; go_simp
  go_at_call 51
  refine (specTypeSame _ _ _ _ _ _ _ h1_.out (TyRep.leaf 2)).mono ?_
  rintro e X3 ⟨rfl, hb⟩
  rw [D1.out]
  go_wp2_with fail
  have zX3 : X2.heap.size ≤ X3.heap.size := hb.size
  replace fE := blk_below fE hb; replace fR := blk_below fR hb; replace c1a_ := bcell hb c1a_; replace c1b_ := bcell hb c1b_
  replace h1_ := Lib.hid (h1_.out.below hb); replace c2a_ := bcell hb c2a_; replace c2b_ := bcell hb c2b_; replace h2_ := Lib.hid (h2_.out.below hb)
  replace fC := Lib.hid (bstep fC.out hb)
  refine hK.out _ _ ⟨c1a_, c1b_, c2a_, c2b_⟩ (fun hHeld3 => ?_)
  clear hK K hHeld2 hb
  try simp only [oE9_5, hwA]
  refine hwt 6 oE9_6 (.bool true) hHeld3 ?_ ?_
  · intro w' hSw; dsimp only [oE9_6]; go_simp
  try simp only [oE9_6, hwA]
  refine hwt 7 oE9_7 (.slice (some ⟨b, off, none⟩) 2 cap) hHeld3 ?_ ?_
  · intro w' hSw; dsimp only [oE9_7]; go_simp
  try simp only [oE9_7, hwA]
  refine hwt 8 oE9_8 (.pointer (some ⟨b, off + 2, none⟩)) hHeld3 ?_ ?_
  · intro w' hSw; dsimp only [oE9_8]; go_simp
  try simp only [oE9_8, hwA]
  refine hwt 9 oE9_9 (.agg #[.int .i64 k2, .slice c2 m2 q2]) hHeld3 ?_ ?_
  · intro w' hSw; dsimp only [oE9_9]; go_simp
  try simp only [oE9_9, hwA]
  refine hwr 10 oE9_10 (fun K hK => ?_)
  dsimp only [oE9_10]; go_simp
  go_at_call 46
  refine (specL3Int _).mono ?_
  rintro e X4 ⟨rfl, hb⟩
  go_wp2_with fail
  have zX4 : X3.heap.size ≤ X4.heap.size := hb.size
  replace fE := blk_below fE hb; replace fR := blk_below fR hb; replace c1a_ := bcell hb c1a_; replace c1b_ := bcell hb c1b_
  replace h1_ := Lib.hid (h1_.out.below hb); replace c2a_ := bcell hb c2a_; replace c2b_ := bcell hb c2b_; replace h2_ := Lib.hid (h2_.out.below hb)
  replace fC := Lib.hid (bstep fC.out hb)
  refine hK.out _ _ ⟨c1a_, c1b_, c2a_, c2b_⟩ (fun hHeld4 => ?_)
  clear hK K hHeld3 hb
  try simp only [oE9_10, hwA]
  refine hwr 11 oE9_11 (fun K hK => ?_)
  dsimp only [oE9_11]; go_simp
  go_at_call 51
  refine (specTypeSame _ _ _ _ _ _ _ h2_.out (TyRep.leaf 2)).mono ?_
  rintro e X5 ⟨rfl, hb⟩
  rw [D2.out]
  go_wp2_with fail
  have zX5 : X4.heap.size ≤ X5.heap.size := hb.size
  replace fE := blk_below fE hb; replace fR := blk_below fR hb; replace c1a_ := bcell hb c1a_; replace c1b_ := bcell hb c1b_
  replace h1_ := Lib.hid (h1_.out.below hb); replace c2a_ := bcell hb c2a_; replace c2b_ := bcell hb c2b_; replace h2_ := Lib.hid (h2_.out.below hb)
  replace fC := Lib.hid (bstep fC.out hb)
  refine hK.out _ _ ⟨c1a_, c1b_, c2a_, c2b_⟩ (fun hHeld5 => ?_)
  clear hK K hHeld4 hb
  try simp only [oE9_11, hwA]
  refine hwt 12 oE9_12 (.bool false) hHeld5 ?_ ?_
  · intro w' hSw; dsimp only [oE9_12]; go_simp
  try simp only [oE9_12, hwA]
  refine hwr 13 oE9_13 (fun K hK => ?_)
  obtain ⟨r0, r1, rf0, rf1⟩ := blkR fR
  dsimp only [oE9_13]; go_simp
  (try go_wp2_with fail)
  have hQq := stLet2 fR (.int .i64 2) (.slice none 0 0)
  clear fR r0 r1 rf0 rf1
  obtain ⟨X6, hXq, hsq, fR, zX6a, zX6b⟩ := hQq
  rw [hXq]
  replace fE := hsq.blk (by omega) fE; replace c1a_ := hsq.cell (by show b ≠ w.heap.size + 1; omega) c1a_; replace c1b_ := hsq.cell (by show b ≠ w.heap.size + 1; omega) c1b_; replace h1_ := Lib.hid (hsq.rep (fun b hb => by have : b < w.heap.size := hb; omega) h1_.out)
  replace c2a_ := hsq.cell (by show b ≠ w.heap.size + 1; omega) c2a_; replace c2b_ := hsq.cell (by show b ≠ w.heap.size + 1; omega) c2b_; replace h2_ := Lib.hid (hsq.rep (fun b hb => by have : b < w.heap.size := hb; omega) h2_.out); replace fC := Lib.hid (hsq.bel fC.out (by omega))
  refine hK.out _ _ ⟨c1a_, c1b_, c2a_, c2b_⟩ (fun hHeld6 => ?_)
  clear hK K hHeld5 hsq hXq
  try simp only [oE9_13, hwA]
  refine hwt 14 oE9_14 (.bool false) hHeld6 ?_ ?_
  · intro w' hSw; dsimp only [oE9_14]; go_simp
  try simp only [oE9_14, hwA]
  refine wpAnyH_done (by kernel_rfl) ?_ _
  refine NoPanic.normal ?_
  clear hHeld6
  have rc0 := blk_cell fR (o := 0) rfl
  have rc1 := blk_cell fR (o := 1) rfl
  go_wp2_with fail
  refine bodyPost_ret (v := .tuple #[.agg #[.int .i64 2, .slice none 0 0], .bool false]) (by simp [results, Try.results34, go_sem, rc0, rc1]) rfl ?_
  exact ⟨_, _, _, _, _, .mk 2 [], rfl, by rw [HO.out, ar_f (k := 7) ⟨by omega, by omega, by omega⟩ (.inr D2.out)]; rfl, TyRep.leafG 2, (by rw [HO.out, ar_f (k := 7) ⟨by omega, by omega, by omega⟩ (.inr D2.out)]; intro s h; simp at h), fC.out⟩
set_option maxHeartbeats 4000000 in
theorem specL4Exact_7_tt (G1 G2 G3 : Nat → Prop) (nm : ByteArray) (u lb tk fk : Int) (ty src : Ty) (ta fa ca : Option Addr) (tn tq fn fq cm cq : Nat) (w : World) (hty : TyRep G1 w ty (.agg #[.int .i64 tk, .slice ta tn tq])) (hsrc : TyRep G2 w src (.agg #[.int .i64 fk, .slice fa fn fq])) (y : Value) (h1 h2 : S) (d1 : h1.ty.same (.mk 2 []) = true) (d2 : h2.ty.same (.mk 2 []) = true) (hy : TysRep G3 w [h1.ty, h2.ty] y) :
    Calls Try.prog 34 #[.agg #[.int .i64 7, .string nm, .int .i64 u, .int .i64 tk, .slice ta tn tq, .int .i64 fk, .slice fa fn fq, .int .i64 lb, .slice ca cm cq], y] w (RetOF ((nodeS 7 ty src [h1, h2]).map S.ty) w) := by
  obtain ⟨b, off, cap, k1, c1, m1, q1, k2, c2, m2, q2, rfl, -, -, hlb, e1a, e1b, e2a, e2b, ht1, ht2⟩ := hy.two
  obtain ⟨OO', hOO⟩ : ∃ O : Option Ty, O = ((nodeS 7 ty src [h1, h2]).map S.ty) := ⟨_, rfl⟩
  rw [← hOO]
  have HO := Lib.hid hOO
  clear hOO
  have D1 := Lib.hid d1
  clear d1
  have D2 := Lib.hid d2
  clear d2
  have H1 := Lib.hid ht1.old
  have H2 := Lib.hid ht2.old
  clear hty hsrc hy ht1 ht2
  go_enter Try.func34, Try.ntmps34
  go_wp2_with fail
  obtain ⟨VV, hVV⟩ : ∃ X, X = ((w.alloc (.cells #[.int .i64 7, .string nm, .int .i64 u, .int .i64 tk, .slice ta tn tq, .int .i64 fk, .slice fa fn fq, .int .i64 lb, .slice ca cm cq] 36)).alloc (.cells #[.int .i64 0, .slice none 0 0] 31)) := ⟨_, rfl⟩
  have fE : VV.heap[w.heap.size]? = some (.cells #[.int .i64 7, .string nm, .int .i64 u, .int .i64 tk, .slice ta tn tq, .int .i64 fk, .slice fa fn fq, .int .i64 lb, .slice ca cm cq] 36 (0, 0)) := by rw [hVV]; exact blk_below (blk_new rfl) bal1
  have fR : VV.heap[w.heap.size + 1]? = some (.cells #[.int .i64 0, .slice none 0 0] 31 (0, 0)) := by rw [hVV]; exact blk_new (by simp)
  have c1a_ : VV.cell? ⟨b, off, none⟩ = some (.int .i64 k1) := by rw [hVV]; exact bcell bal1 (bcell bal1 e1a)
  have c1b_ : VV.cell? ⟨b, off + 1, none⟩ = some (.slice c1 m1 q1) := by rw [hVV]; exact bcell bal1 (bcell bal1 e1b)
  have h1_ : Hid (TyRep (· < w.heap.size) VV h1.ty (.agg #[.int .i64 k1, .slice c1 m1 q1])) := by rw [hVV]; exact Lib.hid ((H1.out.below bal1).below bal1)
  have c2a_ : VV.cell? ⟨b, off + 2, none⟩ = some (.int .i64 k2) := by rw [hVV]; exact bcell bal1 (bcell bal1 e2a)
  have c2b_ : VV.cell? ⟨b, off + 3, none⟩ = some (.slice c2 m2 q2) := by rw [hVV]; exact bcell bal1 (bcell bal1 e2b)
  have h2_ : Hid (TyRep (· < w.heap.size) VV h2.ty (.agg #[.int .i64 k2, .slice c2 m2 q2])) := by rw [hVV]; exact Lib.hid ((H2.out.below bal1).below bal1)
  have fC : Hid (Below w.heap.size w VV) := by rw [hVV]; exact Lib.hid (bstep bal1 bal1)
  rw [← hVV]
  have zV : VV.heap.size = _ := congrArg (fun X : World => X.heap.size) hVV
  simp only [World.size_alloc] at zV
  refine wp_region_noPanic ?_
  refine wp_region_held_drew (S := fun w' => w'.cell? ⟨b, off, none⟩ = some (.int .i64 k1) ∧ w'.cell? ⟨b, off + 1, none⟩ = some (.slice c1 m1 q1) ∧ w'.cell? ⟨b, off + 2, none⟩ = some (.int .i64 k2) ∧ w'.cell? ⟨b, off + 3, none⟩ = some (.slice c2 m2 q2)) (by kernel_rfl) ?_ (fun hHeld0 => ?_)
  · exact ⟨c1a_, c1b_, c2a_, c2b_⟩
  obtain ⟨U9, hU, hb, zU9a, zU9b⟩ := drLet VV
  rw [hU] at hHeld0 ⊢
  replace fE := blk_below fE hb; replace fR := blk_below fR hb; replace c1a_ := bcell hb c1a_; replace c1b_ := bcell hb c1b_
  replace h1_ := Lib.hid (h1_.out.below hb); replace c2a_ := bcell hb c2a_; replace c2b_ := bcell hb c2b_; replace h2_ := Lib.hid (h2_.out.below hb)
  replace fC := Lib.hid (bstep fC.out hb)
  rw [zV] at zU9a zU9b
  clear hU hb hVV zV
  refine hwt 1 oE9_1 (.slice (some ⟨b, off, none⟩) 2 cap) hHeld0 ?_ ?_
  · intro w' hSw; dsimp only [oE9_1]; go_simp
  try simp only [oE9_1, hwA]
  refine hwt 2 oE9_2 (.pointer (some ⟨b, off, none⟩)) hHeld0 ?_ ?_
  · intro w' hSw; dsimp only [oE9_2]; go_simp
  try simp only [oE9_2, hwA]
  refine hwt 3 oE9_3 (.agg #[.int .i64 k1, .slice c1 m1 q1]) hHeld0 ?_ ?_
  · intro w' hSw; dsimp only [oE9_3]; go_simp
  try simp only [oE9_3, hwA]
  refine hwr 0 oE9_0 (fun K hK => ?_)
  dsimp only [oE9_0]; go_simp
  go_at_call 46
  refine (specL3Int _).mono ?_
  rintro e X1 ⟨rfl, hb⟩
  go_wp2_with fail
  have zX1 : U9.heap.size ≤ X1.heap.size := hb.size
  replace fE := blk_below fE hb; replace fR := blk_below fR hb; replace c1a_ := bcell hb c1a_; replace c1b_ := bcell hb c1b_
  replace h1_ := Lib.hid (h1_.out.below hb); replace c2a_ := bcell hb c2a_; replace c2b_ := bcell hb c2b_; replace h2_ := Lib.hid (h2_.out.below hb)
  replace fC := Lib.hid (bstep fC.out hb)
  refine hK.out _ _ ⟨c1a_, c1b_, c2a_, c2b_⟩ (fun hHeld1 => ?_)
  clear hK K hHeld0 hb
  try simp only [oE9_0, hwA]
  refine hwr 4 oE9_4 (fun K hK => ?_)
  dsimp only [oE9_4]; go_simp
  go_at_call 46
  refine (specL3Int _).mono ?_
  rintro e X2 ⟨rfl, hb⟩
  go_wp2_with fail
  have zX2 : X1.heap.size ≤ X2.heap.size := hb.size
  replace fE := blk_below fE hb; replace fR := blk_below fR hb; replace c1a_ := bcell hb c1a_; replace c1b_ := bcell hb c1b_
  replace h1_ := Lib.hid (h1_.out.below hb); replace c2a_ := bcell hb c2a_; replace c2b_ := bcell hb c2b_; replace h2_ := Lib.hid (h2_.out.below hb)
  replace fC := Lib.hid (bstep fC.out hb)
  refine hK.out _ _ ⟨c1a_, c1b_, c2a_, c2b_⟩ (fun hHeld2 => ?_)
  clear hK K hHeld1 hb
  try simp only [oE9_4, hwA]
  refine hwr 5 oE9_5 (fun K hK => ?_)
  dsimp only [oE9_5]; go_simp
  go_at_call 51
  refine (specTypeSame _ _ _ _ _ _ _ h1_.out (TyRep.leaf 2)).mono ?_
  rintro e X3 ⟨rfl, hb⟩
  rw [D1.out]
  go_wp2_with fail
  have zX3 : X2.heap.size ≤ X3.heap.size := hb.size
  replace fE := blk_below fE hb; replace fR := blk_below fR hb; replace c1a_ := bcell hb c1a_; replace c1b_ := bcell hb c1b_
  replace h1_ := Lib.hid (h1_.out.below hb); replace c2a_ := bcell hb c2a_; replace c2b_ := bcell hb c2b_; replace h2_ := Lib.hid (h2_.out.below hb)
  replace fC := Lib.hid (bstep fC.out hb)
  refine hK.out _ _ ⟨c1a_, c1b_, c2a_, c2b_⟩ (fun hHeld3 => ?_)
  clear hK K hHeld2 hb
  try simp only [oE9_5, hwA]
  refine hwt 6 oE9_6 (.bool true) hHeld3 ?_ ?_
  · intro w' hSw; dsimp only [oE9_6]; go_simp
  try simp only [oE9_6, hwA]
  refine hwt 7 oE9_7 (.slice (some ⟨b, off, none⟩) 2 cap) hHeld3 ?_ ?_
  · intro w' hSw; dsimp only [oE9_7]; go_simp
  try simp only [oE9_7, hwA]
  refine hwt 8 oE9_8 (.pointer (some ⟨b, off + 2, none⟩)) hHeld3 ?_ ?_
  · intro w' hSw; dsimp only [oE9_8]; go_simp
  try simp only [oE9_8, hwA]
  refine hwt 9 oE9_9 (.agg #[.int .i64 k2, .slice c2 m2 q2]) hHeld3 ?_ ?_
  · intro w' hSw; dsimp only [oE9_9]; go_simp
  try simp only [oE9_9, hwA]
  refine hwr 10 oE9_10 (fun K hK => ?_)
  dsimp only [oE9_10]; go_simp
  go_at_call 46
  refine (specL3Int _).mono ?_
  rintro e X4 ⟨rfl, hb⟩
  go_wp2_with fail
  have zX4 : X3.heap.size ≤ X4.heap.size := hb.size
  replace fE := blk_below fE hb; replace fR := blk_below fR hb; replace c1a_ := bcell hb c1a_; replace c1b_ := bcell hb c1b_
  replace h1_ := Lib.hid (h1_.out.below hb); replace c2a_ := bcell hb c2a_; replace c2b_ := bcell hb c2b_; replace h2_ := Lib.hid (h2_.out.below hb)
  replace fC := Lib.hid (bstep fC.out hb)
  refine hK.out _ _ ⟨c1a_, c1b_, c2a_, c2b_⟩ (fun hHeld4 => ?_)
  clear hK K hHeld3 hb
  try simp only [oE9_10, hwA]
  refine hwr 11 oE9_11 (fun K hK => ?_)
  dsimp only [oE9_11]; go_simp
  go_at_call 51
  refine (specTypeSame _ _ _ _ _ _ _ h2_.out (TyRep.leaf 2)).mono ?_
  rintro e X5 ⟨rfl, hb⟩
  rw [D2.out]
  go_wp2_with fail
  have zX5 : X4.heap.size ≤ X5.heap.size := hb.size
  replace fE := blk_below fE hb; replace fR := blk_below fR hb; replace c1a_ := bcell hb c1a_; replace c1b_ := bcell hb c1b_
  replace h1_ := Lib.hid (h1_.out.below hb); replace c2a_ := bcell hb c2a_; replace c2b_ := bcell hb c2b_; replace h2_ := Lib.hid (h2_.out.below hb)
  replace fC := Lib.hid (bstep fC.out hb)
  refine hK.out _ _ ⟨c1a_, c1b_, c2a_, c2b_⟩ (fun hHeld5 => ?_)
  clear hK K hHeld4 hb
  try simp only [oE9_11, hwA]
  refine hwt 12 oE9_12 (.bool true) hHeld5 ?_ ?_
  · intro w' hSw; dsimp only [oE9_12]; go_simp
  try simp only [oE9_12, hwA]
  refine hwr 13 oE9_13 (fun K hK => ?_)
  obtain ⟨r0, r1, rf0, rf1⟩ := blkR fR
  dsimp only [oE9_13]; go_simp
  (try go_wp2_with fail)
  have hQq := stLet2 fR (.int .i64 2) (.slice none 0 0)
  clear fR r0 r1 rf0 rf1
  obtain ⟨X6, hXq, hsq, fR, zX6a, zX6b⟩ := hQq
  rw [hXq]
  replace fE := hsq.blk (by omega) fE; replace c1a_ := hsq.cell (by show b ≠ w.heap.size + 1; omega) c1a_; replace c1b_ := hsq.cell (by show b ≠ w.heap.size + 1; omega) c1b_; replace h1_ := Lib.hid (hsq.rep (fun b hb => by have : b < w.heap.size := hb; omega) h1_.out)
  replace c2a_ := hsq.cell (by show b ≠ w.heap.size + 1; omega) c2a_; replace c2b_ := hsq.cell (by show b ≠ w.heap.size + 1; omega) c2b_; replace h2_ := Lib.hid (hsq.rep (fun b hb => by have : b < w.heap.size := hb; omega) h2_.out); replace fC := Lib.hid (hsq.bel fC.out (by omega))
  refine hK.out _ _ ⟨c1a_, c1b_, c2a_, c2b_⟩ (fun hHeld6 => ?_)
  clear hK K hHeld5 hsq hXq
  try simp only [oE9_13, hwA]
  refine hwt 14 oE9_14 (.bool true) hHeld6 ?_ ?_
  · intro w' hSw; dsimp only [oE9_14]; go_simp
  try simp only [oE9_14, hwA]
  refine wpAnyH_done (by kernel_rfl) ?_ _
  refine NoPanic.normal ?_
  clear hHeld6
  have rc0 := blk_cell fR (o := 0) rfl
  have rc1 := blk_cell fR (o := 1) rfl
  go_wp2_with fail
  refine bodyPost_ret (v := .tuple #[.agg #[.int .i64 2, .slice none 0 0], .bool true]) (by simp [results, Try.results34, go_sem, rc0, rc1]) rfl ?_
  exact ⟨_, _, _, _, _, .mk 2 [], rfl, by rw [HO.out, ar_t (k := 7) ⟨by omega, by omega, by omega⟩ D1.out D2.out]; rfl, TyRep.leafG 2, (by rw [HO.out, ar_t (k := 7) ⟨by omega, by omega, by omega⟩ D1.out D2.out]; intro s h; exact Option.some.inj h), fC.out⟩
def oE11_0 : Oper := ⟨some 64, Op.call { callee := Callee.value (Operand.func 47), args := #[], argTypes := #[] }, 31, "l4_casts.go:134", #[], none⟩
def oE11_1 : Oper := ⟨some 65, Op.move (Operand.tmp 1), 29, "l4_casts.go:134", #[], none⟩
def oE11_2 : Oper := ⟨some 66, Op.indexAddr 29 (Operand.tmp 65) (Operand.const (Value.int IntKind.i64 0)), 0, "l4_casts.go:134", #[⟨1, .data⟩], none⟩
def oE11_3 : Oper := ⟨some 67, Op.load 31 (Operand.tmp 66), 31, "l4_casts.go:134", #[⟨2, .data⟩], none⟩
def oE11_4 : Oper := ⟨some 68, Op.call { callee := Callee.value (Operand.func 46), args := #[], argTypes := #[] }, 31, "l4_casts.go:134", #[⟨0, .chain⟩], none⟩
def oE11_5 : Oper := ⟨some 69, Op.call { callee := Callee.value (Operand.func 51), args := #[Operand.tmp 67, Operand.tmp 68], argTypes := #[31, 31] }, 4, "l4_casts.go:134", #[⟨3, .data⟩, ⟨4, .data⟩, ⟨4, .chain⟩], none⟩
def oE11_6 : Oper := ⟨some 70, Op.move (Operand.tmp 69), 4, "l4_casts.go:134", #[⟨5, .data⟩, ⟨5, .chain⟩], none⟩
def oE11_7 : Oper := ⟨some 71, Op.move (Operand.tmp 1), 29, "l4_casts.go:134", #[⟨6, .guard⟩], some (6, true)⟩
def oE11_8 : Oper := ⟨some 72, Op.indexAddr 29 (Operand.tmp 71) (Operand.const (Value.int IntKind.i64 1)), 0, "l4_casts.go:134", #[⟨7, .data⟩, ⟨6, .guard⟩], some (6, true)⟩
def oE11_9 : Oper := ⟨some 73, Op.load 31 (Operand.tmp 72), 31, "l4_casts.go:134", #[⟨8, .data⟩, ⟨6, .guard⟩], some (6, true)⟩
def oE11_10 : Oper := ⟨some 74, Op.call { callee := Callee.value (Operand.func 46), args := #[], argTypes := #[] }, 31, "l4_casts.go:134", #[⟨6, .chain⟩, ⟨6, .guard⟩], some (6, true)⟩
def oE11_11 : Oper := ⟨some 75, Op.call { callee := Callee.value (Operand.func 51), args := #[Operand.tmp 73, Operand.tmp 74], argTypes := #[31, 31] }, 4, "l4_casts.go:134", #[⟨9, .data⟩, ⟨10, .data⟩, ⟨10, .chain⟩, ⟨6, .guard⟩], some (6, true)⟩
def oE11_12 : Oper := ⟨some 76, Op.pick (Operand.tmp 70) (Operand.tmp 75) (Operand.const (Value.bool false)), 4, "l4_casts.go:134", #[⟨6, .data⟩, ⟨11, .data⟩, ⟨13, .gcOnly .lateStores⟩], none⟩
def oE11_13 : Oper := ⟨none, Op.store 31 (Operand.tmp 4) (Operand.tmp 64), 0, "l4_casts.go:134", #[⟨0, .data⟩, ⟨11, .chain⟩, ⟨0, .phase⟩, ⟨1, .textOnly .lateStores⟩, ⟨2, .textOnly .lateStores⟩, ⟨3, .textOnly .lateStores⟩, ⟨4, .textOnly .lateStoresUnsure⟩, ⟨5, .textOnly .lateStoresUnsure⟩, ⟨6, .textOnly .lateStores⟩, ⟨7, .textOnly .lateStores⟩, ⟨8, .textOnly .lateStores⟩, ⟨9, .textOnly .lateStores⟩, ⟨10, .textOnly .lateStoresUnsure⟩, ⟨11, .textOnly .lateStoresUnsure⟩, ⟨12, .textOnly .lateStores⟩], none⟩
def oE11_14 : Oper := ⟨some 5, Op.assign (Operand.tmp 76), 4, "l4_casts.go:134", #[⟨12, .data⟩, ⟨13, .chain⟩, ⟨0, .phase⟩, ⟨1, .phase⟩, ⟨2, .phase⟩, ⟨3, .phase⟩, ⟨4, .phase⟩, ⟨5, .phase⟩, ⟨6, .phase⟩, ⟨7, .phase⟩, ⟨8, .phase⟩, ⟨9, .phase⟩, ⟨10, .phase⟩, ⟨11, .phase⟩, ⟨12, .phase⟩, ⟨13, .phase⟩], none⟩
set_option maxHeartbeats 4000000 in
theorem specL4Exact_8_f (G1 G2 G3 : Nat → Prop) (nm : ByteArray) (u lb tk fk : Int) (ty src : Ty) (ta fa ca : Option Addr) (tn tq fn fq cm cq : Nat) (w : World) (hty : TyRep G1 w ty (.agg #[.int .i64 tk, .slice ta tn tq])) (hsrc : TyRep G2 w src (.agg #[.int .i64 fk, .slice fa fn fq])) (y : Value) (h1 h2 : S) (d1 : h1.ty.same (.mk 2 []) = false) (hy : TysRep G3 w [h1.ty, h2.ty] y) :
    Calls Try.prog 34 #[.agg #[.int .i64 8, .string nm, .int .i64 u, .int .i64 tk, .slice ta tn tq, .int .i64 fk, .slice fa fn fq, .int .i64 lb, .slice ca cm cq], y] w (RetOF ((nodeS 8 ty src [h1, h2]).map S.ty) w) := by
  obtain ⟨b, off, cap, k1, c1, m1, q1, k2, c2, m2, q2, rfl, -, -, hlb, e1a, e1b, e2a, e2b, ht1, ht2⟩ := hy.two
  obtain ⟨OO', hOO⟩ : ∃ O : Option Ty, O = ((nodeS 8 ty src [h1, h2]).map S.ty) := ⟨_, rfl⟩
  rw [← hOO]
  have HO := Lib.hid hOO
  clear hOO
  have D1 := Lib.hid d1
  clear d1
  have H1 := Lib.hid ht1.old
  have H2 := Lib.hid ht2.old
  clear hty hsrc hy ht1 ht2
  go_enter Try.func34, Try.ntmps34
  go_wp2_with fail
  obtain ⟨VV, hVV⟩ : ∃ X, X = ((w.alloc (.cells #[.int .i64 8, .string nm, .int .i64 u, .int .i64 tk, .slice ta tn tq, .int .i64 fk, .slice fa fn fq, .int .i64 lb, .slice ca cm cq] 36)).alloc (.cells #[.int .i64 0, .slice none 0 0] 31)) := ⟨_, rfl⟩
  have fE : VV.heap[w.heap.size]? = some (.cells #[.int .i64 8, .string nm, .int .i64 u, .int .i64 tk, .slice ta tn tq, .int .i64 fk, .slice fa fn fq, .int .i64 lb, .slice ca cm cq] 36 (0, 0)) := by rw [hVV]; exact blk_below (blk_new rfl) bal1
  have fR : VV.heap[w.heap.size + 1]? = some (.cells #[.int .i64 0, .slice none 0 0] 31 (0, 0)) := by rw [hVV]; exact blk_new (by simp)
  have c1a_ : VV.cell? ⟨b, off, none⟩ = some (.int .i64 k1) := by rw [hVV]; exact bcell bal1 (bcell bal1 e1a)
  have c1b_ : VV.cell? ⟨b, off + 1, none⟩ = some (.slice c1 m1 q1) := by rw [hVV]; exact bcell bal1 (bcell bal1 e1b)
  have h1_ : Hid (TyRep (· < w.heap.size) VV h1.ty (.agg #[.int .i64 k1, .slice c1 m1 q1])) := by rw [hVV]; exact Lib.hid ((H1.out.below bal1).below bal1)
  have c2a_ : VV.cell? ⟨b, off + 2, none⟩ = some (.int .i64 k2) := by rw [hVV]; exact bcell bal1 (bcell bal1 e2a)
  have c2b_ : VV.cell? ⟨b, off + 3, none⟩ = some (.slice c2 m2 q2) := by rw [hVV]; exact bcell bal1 (bcell bal1 e2b)
  have h2_ : Hid (TyRep (· < w.heap.size) VV h2.ty (.agg #[.int .i64 k2, .slice c2 m2 q2])) := by rw [hVV]; exact Lib.hid ((H2.out.below bal1).below bal1)
  have fC : Hid (Below w.heap.size w VV) := by rw [hVV]; exact Lib.hid (bstep bal1 bal1)
  rw [← hVV]
  have zV : VV.heap.size = _ := congrArg (fun X : World => X.heap.size) hVV
  simp only [World.size_alloc] at zV
  refine wp_region_noPanic ?_
  refine wp_region_held_drew (S := fun w' => w'.cell? ⟨b, off, none⟩ = some (.int .i64 k1) ∧ w'.cell? ⟨b, off + 1, none⟩ = some (.slice c1 m1 q1) ∧ w'.cell? ⟨b, off + 2, none⟩ = some (.int .i64 k2) ∧ w'.cell? ⟨b, off + 3, none⟩ = some (.slice c2 m2 q2)) (by kernel_rfl) ?_ (fun hHeld0 => ?_)
  · exact ⟨c1a_, c1b_, c2a_, c2b_⟩
  obtain ⟨U10, hU, hb, zU10a, zU10b⟩ := drLet VV
  rw [hU] at hHeld0 ⊢
  replace fE := blk_below fE hb; replace fR := blk_below fR hb; replace c1a_ := bcell hb c1a_; replace c1b_ := bcell hb c1b_
  replace h1_ := Lib.hid (h1_.out.below hb); replace c2a_ := bcell hb c2a_; replace c2b_ := bcell hb c2b_; replace h2_ := Lib.hid (h2_.out.below hb)
  replace fC := Lib.hid (bstep fC.out hb)
  rw [zV] at zU10a zU10b
  clear hU hb hVV zV
  refine hwt 1 oE11_1 (.slice (some ⟨b, off, none⟩) 2 cap) hHeld0 ?_ ?_
  · intro w' hSw; dsimp only [oE11_1]; go_simp
  try simp only [oE11_1, hwA]
  refine hwt 2 oE11_2 (.pointer (some ⟨b, off, none⟩)) hHeld0 ?_ ?_
  · intro w' hSw; dsimp only [oE11_2]; go_simp
  try simp only [oE11_2, hwA]
  refine hwt 3 oE11_3 (.agg #[.int .i64 k1, .slice c1 m1 q1]) hHeld0 ?_ ?_
  · intro w' hSw; dsimp only [oE11_3]; go_simp
  try simp only [oE11_3, hwA]
  refine hwr 0 oE11_0 (fun K hK => ?_)
  dsimp only [oE11_0]; go_simp
  go_at_call 47
  refine (specL3Bool _).mono ?_
  rintro e X1 ⟨rfl, hb⟩
  go_wp2_with fail
  have zX1 : U10.heap.size ≤ X1.heap.size := hb.size
  replace fE := blk_below fE hb; replace fR := blk_below fR hb; replace c1a_ := bcell hb c1a_; replace c1b_ := bcell hb c1b_
  replace h1_ := Lib.hid (h1_.out.below hb); replace c2a_ := bcell hb c2a_; replace c2b_ := bcell hb c2b_; replace h2_ := Lib.hid (h2_.out.below hb)
  replace fC := Lib.hid (bstep fC.out hb)
  refine hK.out _ _ ⟨c1a_, c1b_, c2a_, c2b_⟩ (fun hHeld1 => ?_)
  clear hK K hHeld0 hb
  try simp only [oE11_0, hwA]
  refine hwr 4 oE11_4 (fun K hK => ?_)
  dsimp only [oE11_4]; go_simp
  go_at_call 46
  refine (specL3Int _).mono ?_
  rintro e X2 ⟨rfl, hb⟩
  go_wp2_with fail
  have zX2 : X1.heap.size ≤ X2.heap.size := hb.size
  replace fE := blk_below fE hb; replace fR := blk_below fR hb; replace c1a_ := bcell hb c1a_; replace c1b_ := bcell hb c1b_
  replace h1_ := Lib.hid (h1_.out.below hb); replace c2a_ := bcell hb c2a_; replace c2b_ := bcell hb c2b_; replace h2_ := Lib.hid (h2_.out.below hb)
  replace fC := Lib.hid (bstep fC.out hb)
  refine hK.out _ _ ⟨c1a_, c1b_, c2a_, c2b_⟩ (fun hHeld2 => ?_)
  clear hK K hHeld1 hb
  try simp only [oE11_4, hwA]
  refine hwr 5 oE11_5 (fun K hK => ?_)
  dsimp only [oE11_5]; go_simp
  go_at_call 51
  refine (specTypeSame _ _ _ _ _ _ _ h1_.out (TyRep.leaf 2)).mono ?_
  rintro e X3 ⟨rfl, hb⟩
  rw [D1.out]
  go_wp2_with fail
  have zX3 : X2.heap.size ≤ X3.heap.size := hb.size
  replace fE := blk_below fE hb; replace fR := blk_below fR hb; replace c1a_ := bcell hb c1a_; replace c1b_ := bcell hb c1b_
  replace h1_ := Lib.hid (h1_.out.below hb); replace c2a_ := bcell hb c2a_; replace c2b_ := bcell hb c2b_; replace h2_ := Lib.hid (h2_.out.below hb)
  replace fC := Lib.hid (bstep fC.out hb)
  refine hK.out _ _ ⟨c1a_, c1b_, c2a_, c2b_⟩ (fun hHeld3 => ?_)
  clear hK K hHeld2 hb
  try simp only [oE11_5, hwA]
  refine hwt 6 oE11_6 (.bool false) hHeld3 ?_ ?_
  · intro w' hSw; dsimp only [oE11_6]; go_simp
  try simp only [oE11_6, hwA]
  refine hwn 7 oE11_7 hHeld3 ?_
  try simp only [oE11_7, hwA]
  refine hwn 8 oE11_8 hHeld3 ?_
  try simp only [oE11_8, hwA]
  refine hwn 9 oE11_9 hHeld3 ?_
  try simp only [oE11_9, hwA]
  refine hwn 10 oE11_10 hHeld3 ?_
  try simp only [oE11_10, hwA]
  refine hwn 11 oE11_11 hHeld3 ?_
  try simp only [oE11_11, hwA]
  refine hwt 12 oE11_12 (.bool false) hHeld3 ?_ ?_
  · intro w' hSw; dsimp only [oE11_12]; go_simp
  try simp only [oE11_12, hwA]
  refine hwr 13 oE11_13 (fun K hK => ?_)
  obtain ⟨r0, r1, rf0, rf1⟩ := blkR fR
  dsimp only [oE11_13]; go_simp
  (try go_wp2_with fail)
  have hQq := stLet2 fR (.int .i64 3) (.slice none 0 0)
  clear fR r0 r1 rf0 rf1
  obtain ⟨X4, hXq, hsq, fR, zX4a, zX4b⟩ := hQq
  rw [hXq]
  replace fE := hsq.blk (by omega) fE; replace c1a_ := hsq.cell (by show b ≠ w.heap.size + 1; omega) c1a_; replace c1b_ := hsq.cell (by show b ≠ w.heap.size + 1; omega) c1b_; replace h1_ := Lib.hid (hsq.rep (fun b hb => by have : b < w.heap.size := hb; omega) h1_.out)
  replace c2a_ := hsq.cell (by show b ≠ w.heap.size + 1; omega) c2a_; replace c2b_ := hsq.cell (by show b ≠ w.heap.size + 1; omega) c2b_; replace h2_ := Lib.hid (hsq.rep (fun b hb => by have : b < w.heap.size := hb; omega) h2_.out); replace fC := Lib.hid (hsq.bel fC.out (by omega))
  refine hK.out _ _ ⟨c1a_, c1b_, c2a_, c2b_⟩ (fun hHeld4 => ?_)
  clear hK K hHeld3 hsq hXq
  try simp only [oE11_13, hwA]
  refine hwt 14 oE11_14 (.bool false) hHeld4 ?_ ?_
  · intro w' hSw; dsimp only [oE11_14]; go_simp
  try simp only [oE11_14, hwA]
  refine wpAnyH_done (by kernel_rfl) ?_ _
  refine NoPanic.normal ?_
  clear hHeld4
  have rc0 := blk_cell fR (o := 0) rfl
  have rc1 := blk_cell fR (o := 1) rfl
  go_wp2_with fail
  refine bodyPost_ret (v := .tuple #[.agg #[.int .i64 3, .slice none 0 0], .bool false]) (by simp [results, Try.results34, go_sem, rc0, rc1]) rfl ?_
  exact ⟨_, _, _, _, _, .mk 3 [], rfl, by rw [HO.out, ar_f (k := 8) ⟨by omega, by omega, by omega⟩ (.inl D1.out)]; rfl, TyRep.leafG 3, (by rw [HO.out, ar_f (k := 8) ⟨by omega, by omega, by omega⟩ (.inl D1.out)]; intro s h; simp at h), fC.out⟩
set_option maxHeartbeats 4000000 in
theorem specL4Exact_8_tf (G1 G2 G3 : Nat → Prop) (nm : ByteArray) (u lb tk fk : Int) (ty src : Ty) (ta fa ca : Option Addr) (tn tq fn fq cm cq : Nat) (w : World) (hty : TyRep G1 w ty (.agg #[.int .i64 tk, .slice ta tn tq])) (hsrc : TyRep G2 w src (.agg #[.int .i64 fk, .slice fa fn fq])) (y : Value) (h1 h2 : S) (d1 : h1.ty.same (.mk 2 []) = true) (d2 : h2.ty.same (.mk 2 []) = false) (hy : TysRep G3 w [h1.ty, h2.ty] y) :
    Calls Try.prog 34 #[.agg #[.int .i64 8, .string nm, .int .i64 u, .int .i64 tk, .slice ta tn tq, .int .i64 fk, .slice fa fn fq, .int .i64 lb, .slice ca cm cq], y] w (RetOF ((nodeS 8 ty src [h1, h2]).map S.ty) w) := by
  obtain ⟨b, off, cap, k1, c1, m1, q1, k2, c2, m2, q2, rfl, -, -, hlb, e1a, e1b, e2a, e2b, ht1, ht2⟩ := hy.two
  obtain ⟨OO', hOO⟩ : ∃ O : Option Ty, O = ((nodeS 8 ty src [h1, h2]).map S.ty) := ⟨_, rfl⟩
  rw [← hOO]
  have HO := Lib.hid hOO
  clear hOO
  have D1 := Lib.hid d1
  clear d1
  have D2 := Lib.hid d2
  clear d2
  have H1 := Lib.hid ht1.old
  have H2 := Lib.hid ht2.old
  clear hty hsrc hy ht1 ht2
  go_enter Try.func34, Try.ntmps34
  go_wp2_with fail
  obtain ⟨VV, hVV⟩ : ∃ X, X = ((w.alloc (.cells #[.int .i64 8, .string nm, .int .i64 u, .int .i64 tk, .slice ta tn tq, .int .i64 fk, .slice fa fn fq, .int .i64 lb, .slice ca cm cq] 36)).alloc (.cells #[.int .i64 0, .slice none 0 0] 31)) := ⟨_, rfl⟩
  have fE : VV.heap[w.heap.size]? = some (.cells #[.int .i64 8, .string nm, .int .i64 u, .int .i64 tk, .slice ta tn tq, .int .i64 fk, .slice fa fn fq, .int .i64 lb, .slice ca cm cq] 36 (0, 0)) := by rw [hVV]; exact blk_below (blk_new rfl) bal1
  have fR : VV.heap[w.heap.size + 1]? = some (.cells #[.int .i64 0, .slice none 0 0] 31 (0, 0)) := by rw [hVV]; exact blk_new (by simp)
  have c1a_ : VV.cell? ⟨b, off, none⟩ = some (.int .i64 k1) := by rw [hVV]; exact bcell bal1 (bcell bal1 e1a)
  have c1b_ : VV.cell? ⟨b, off + 1, none⟩ = some (.slice c1 m1 q1) := by rw [hVV]; exact bcell bal1 (bcell bal1 e1b)
  have h1_ : Hid (TyRep (· < w.heap.size) VV h1.ty (.agg #[.int .i64 k1, .slice c1 m1 q1])) := by rw [hVV]; exact Lib.hid ((H1.out.below bal1).below bal1)
  have c2a_ : VV.cell? ⟨b, off + 2, none⟩ = some (.int .i64 k2) := by rw [hVV]; exact bcell bal1 (bcell bal1 e2a)
  have c2b_ : VV.cell? ⟨b, off + 3, none⟩ = some (.slice c2 m2 q2) := by rw [hVV]; exact bcell bal1 (bcell bal1 e2b)
  have h2_ : Hid (TyRep (· < w.heap.size) VV h2.ty (.agg #[.int .i64 k2, .slice c2 m2 q2])) := by rw [hVV]; exact Lib.hid ((H2.out.below bal1).below bal1)
  have fC : Hid (Below w.heap.size w VV) := by rw [hVV]; exact Lib.hid (bstep bal1 bal1)
  rw [← hVV]
  have zV : VV.heap.size = _ := congrArg (fun X : World => X.heap.size) hVV
  simp only [World.size_alloc] at zV
  refine wp_region_noPanic ?_
  refine wp_region_held_drew (S := fun w' => w'.cell? ⟨b, off, none⟩ = some (.int .i64 k1) ∧ w'.cell? ⟨b, off + 1, none⟩ = some (.slice c1 m1 q1) ∧ w'.cell? ⟨b, off + 2, none⟩ = some (.int .i64 k2) ∧ w'.cell? ⟨b, off + 3, none⟩ = some (.slice c2 m2 q2)) (by kernel_rfl) ?_ (fun hHeld0 => ?_)
  · exact ⟨c1a_, c1b_, c2a_, c2b_⟩
  obtain ⟨U11, hU, hb, zU11a, zU11b⟩ := drLet VV
  rw [hU] at hHeld0 ⊢
  replace fE := blk_below fE hb; replace fR := blk_below fR hb; replace c1a_ := bcell hb c1a_; replace c1b_ := bcell hb c1b_
  replace h1_ := Lib.hid (h1_.out.below hb); replace c2a_ := bcell hb c2a_; replace c2b_ := bcell hb c2b_; replace h2_ := Lib.hid (h2_.out.below hb)
  replace fC := Lib.hid (bstep fC.out hb)
  rw [zV] at zU11a zU11b
  clear hU hb hVV zV
  refine hwt 1 oE11_1 (.slice (some ⟨b, off, none⟩) 2 cap) hHeld0 ?_ ?_
  · intro w' hSw; dsimp only [oE11_1]; go_simp
  try simp only [oE11_1, hwA]
  refine hwt 2 oE11_2 (.pointer (some ⟨b, off, none⟩)) hHeld0 ?_ ?_
  · intro w' hSw; dsimp only [oE11_2]; go_simp
  try simp only [oE11_2, hwA]
  refine hwt 3 oE11_3 (.agg #[.int .i64 k1, .slice c1 m1 q1]) hHeld0 ?_ ?_
  · intro w' hSw; dsimp only [oE11_3]; go_simp
  try simp only [oE11_3, hwA]
  refine hwr 0 oE11_0 (fun K hK => ?_)
  dsimp only [oE11_0]; go_simp
  go_at_call 47
  refine (specL3Bool _).mono ?_
  rintro e X1 ⟨rfl, hb⟩
  go_wp2_with fail
  have zX1 : U11.heap.size ≤ X1.heap.size := hb.size
  replace fE := blk_below fE hb; replace fR := blk_below fR hb; replace c1a_ := bcell hb c1a_; replace c1b_ := bcell hb c1b_
  replace h1_ := Lib.hid (h1_.out.below hb); replace c2a_ := bcell hb c2a_; replace c2b_ := bcell hb c2b_; replace h2_ := Lib.hid (h2_.out.below hb)
  replace fC := Lib.hid (bstep fC.out hb)
  refine hK.out _ _ ⟨c1a_, c1b_, c2a_, c2b_⟩ (fun hHeld1 => ?_)
  clear hK K hHeld0 hb
  try simp only [oE11_0, hwA]
  refine hwr 4 oE11_4 (fun K hK => ?_)
  dsimp only [oE11_4]; go_simp
  go_at_call 46
  refine (specL3Int _).mono ?_
  rintro e X2 ⟨rfl, hb⟩
  go_wp2_with fail
  have zX2 : X1.heap.size ≤ X2.heap.size := hb.size
  replace fE := blk_below fE hb; replace fR := blk_below fR hb; replace c1a_ := bcell hb c1a_; replace c1b_ := bcell hb c1b_
  replace h1_ := Lib.hid (h1_.out.below hb); replace c2a_ := bcell hb c2a_; replace c2b_ := bcell hb c2b_; replace h2_ := Lib.hid (h2_.out.below hb)
  replace fC := Lib.hid (bstep fC.out hb)
  refine hK.out _ _ ⟨c1a_, c1b_, c2a_, c2b_⟩ (fun hHeld2 => ?_)
  clear hK K hHeld1 hb
  try simp only [oE11_4, hwA]
  refine hwr 5 oE11_5 (fun K hK => ?_)
  dsimp only [oE11_5]; go_simp
  go_at_call 51
  refine (specTypeSame _ _ _ _ _ _ _ h1_.out (TyRep.leaf 2)).mono ?_
  rintro e X3 ⟨rfl, hb⟩
  rw [D1.out]
  go_wp2_with fail
  have zX3 : X2.heap.size ≤ X3.heap.size := hb.size
  replace fE := blk_below fE hb; replace fR := blk_below fR hb; replace c1a_ := bcell hb c1a_; replace c1b_ := bcell hb c1b_
  replace h1_ := Lib.hid (h1_.out.below hb); replace c2a_ := bcell hb c2a_; replace c2b_ := bcell hb c2b_; replace h2_ := Lib.hid (h2_.out.below hb)
  replace fC := Lib.hid (bstep fC.out hb)
  refine hK.out _ _ ⟨c1a_, c1b_, c2a_, c2b_⟩ (fun hHeld3 => ?_)
  clear hK K hHeld2 hb
  try simp only [oE11_5, hwA]
  refine hwt 6 oE11_6 (.bool true) hHeld3 ?_ ?_
  · intro w' hSw; dsimp only [oE11_6]; go_simp
  try simp only [oE11_6, hwA]
  refine hwt 7 oE11_7 (.slice (some ⟨b, off, none⟩) 2 cap) hHeld3 ?_ ?_
  · intro w' hSw; dsimp only [oE11_7]; go_simp
  try simp only [oE11_7, hwA]
  refine hwt 8 oE11_8 (.pointer (some ⟨b, off + 2, none⟩)) hHeld3 ?_ ?_
  · intro w' hSw; dsimp only [oE11_8]; go_simp
  try simp only [oE11_8, hwA]
  refine hwt 9 oE11_9 (.agg #[.int .i64 k2, .slice c2 m2 q2]) hHeld3 ?_ ?_
  · intro w' hSw; dsimp only [oE11_9]; go_simp
  try simp only [oE11_9, hwA]
  refine hwr 10 oE11_10 (fun K hK => ?_)
  dsimp only [oE11_10]; go_simp
  go_at_call 46
  refine (specL3Int _).mono ?_
  rintro e X4 ⟨rfl, hb⟩
  go_wp2_with fail
  have zX4 : X3.heap.size ≤ X4.heap.size := hb.size
  replace fE := blk_below fE hb; replace fR := blk_below fR hb; replace c1a_ := bcell hb c1a_; replace c1b_ := bcell hb c1b_
  replace h1_ := Lib.hid (h1_.out.below hb); replace c2a_ := bcell hb c2a_; replace c2b_ := bcell hb c2b_; replace h2_ := Lib.hid (h2_.out.below hb)
  replace fC := Lib.hid (bstep fC.out hb)
  refine hK.out _ _ ⟨c1a_, c1b_, c2a_, c2b_⟩ (fun hHeld4 => ?_)
  clear hK K hHeld3 hb
  try simp only [oE11_10, hwA]
  refine hwr 11 oE11_11 (fun K hK => ?_)
  dsimp only [oE11_11]; go_simp
  go_at_call 51
  refine (specTypeSame _ _ _ _ _ _ _ h2_.out (TyRep.leaf 2)).mono ?_
  rintro e X5 ⟨rfl, hb⟩
  rw [D2.out]
  go_wp2_with fail
  have zX5 : X4.heap.size ≤ X5.heap.size := hb.size
  replace fE := blk_below fE hb; replace fR := blk_below fR hb; replace c1a_ := bcell hb c1a_; replace c1b_ := bcell hb c1b_
  replace h1_ := Lib.hid (h1_.out.below hb); replace c2a_ := bcell hb c2a_; replace c2b_ := bcell hb c2b_; replace h2_ := Lib.hid (h2_.out.below hb)
  replace fC := Lib.hid (bstep fC.out hb)
  refine hK.out _ _ ⟨c1a_, c1b_, c2a_, c2b_⟩ (fun hHeld5 => ?_)
  clear hK K hHeld4 hb
  try simp only [oE11_11, hwA]
  refine hwt 12 oE11_12 (.bool false) hHeld5 ?_ ?_
  · intro w' hSw; dsimp only [oE11_12]; go_simp
  try simp only [oE11_12, hwA]
  refine hwr 13 oE11_13 (fun K hK => ?_)
  obtain ⟨r0, r1, rf0, rf1⟩ := blkR fR
  dsimp only [oE11_13]; go_simp
  (try go_wp2_with fail)
  have hQq := stLet2 fR (.int .i64 3) (.slice none 0 0)
  clear fR r0 r1 rf0 rf1
  obtain ⟨X6, hXq, hsq, fR, zX6a, zX6b⟩ := hQq
  rw [hXq]
  replace fE := hsq.blk (by omega) fE; replace c1a_ := hsq.cell (by show b ≠ w.heap.size + 1; omega) c1a_; replace c1b_ := hsq.cell (by show b ≠ w.heap.size + 1; omega) c1b_; replace h1_ := Lib.hid (hsq.rep (fun b hb => by have : b < w.heap.size := hb; omega) h1_.out)
  replace c2a_ := hsq.cell (by show b ≠ w.heap.size + 1; omega) c2a_; replace c2b_ := hsq.cell (by show b ≠ w.heap.size + 1; omega) c2b_; replace h2_ := Lib.hid (hsq.rep (fun b hb => by have : b < w.heap.size := hb; omega) h2_.out); replace fC := Lib.hid (hsq.bel fC.out (by omega))
  refine hK.out _ _ ⟨c1a_, c1b_, c2a_, c2b_⟩ (fun hHeld6 => ?_)
  clear hK K hHeld5 hsq hXq
  try simp only [oE11_13, hwA]
  refine hwt 14 oE11_14 (.bool false) hHeld6 ?_ ?_
  · intro w' hSw; dsimp only [oE11_14]; go_simp
  try simp only [oE11_14, hwA]
  refine wpAnyH_done (by kernel_rfl) ?_ _
  refine NoPanic.normal ?_
  clear hHeld6
  have rc0 := blk_cell fR (o := 0) rfl
  have rc1 := blk_cell fR (o := 1) rfl
  go_wp2_with fail
  refine bodyPost_ret (v := .tuple #[.agg #[.int .i64 3, .slice none 0 0], .bool false]) (by simp [results, Try.results34, go_sem, rc0, rc1]) rfl ?_
  exact ⟨_, _, _, _, _, .mk 3 [], rfl, by rw [HO.out, ar_f (k := 8) ⟨by omega, by omega, by omega⟩ (.inr D2.out)]; rfl, TyRep.leafG 3, (by rw [HO.out, ar_f (k := 8) ⟨by omega, by omega, by omega⟩ (.inr D2.out)]; intro s h; simp at h), fC.out⟩
set_option maxHeartbeats 4000000 in
theorem specL4Exact_8_tt (G1 G2 G3 : Nat → Prop) (nm : ByteArray) (u lb tk fk : Int) (ty src : Ty) (ta fa ca : Option Addr) (tn tq fn fq cm cq : Nat) (w : World) (hty : TyRep G1 w ty (.agg #[.int .i64 tk, .slice ta tn tq])) (hsrc : TyRep G2 w src (.agg #[.int .i64 fk, .slice fa fn fq])) (y : Value) (h1 h2 : S) (d1 : h1.ty.same (.mk 2 []) = true) (d2 : h2.ty.same (.mk 2 []) = true) (hy : TysRep G3 w [h1.ty, h2.ty] y) :
    Calls Try.prog 34 #[.agg #[.int .i64 8, .string nm, .int .i64 u, .int .i64 tk, .slice ta tn tq, .int .i64 fk, .slice fa fn fq, .int .i64 lb, .slice ca cm cq], y] w (RetOF ((nodeS 8 ty src [h1, h2]).map S.ty) w) := by
  obtain ⟨b, off, cap, k1, c1, m1, q1, k2, c2, m2, q2, rfl, -, -, hlb, e1a, e1b, e2a, e2b, ht1, ht2⟩ := hy.two
  obtain ⟨OO', hOO⟩ : ∃ O : Option Ty, O = ((nodeS 8 ty src [h1, h2]).map S.ty) := ⟨_, rfl⟩
  rw [← hOO]
  have HO := Lib.hid hOO
  clear hOO
  have D1 := Lib.hid d1
  clear d1
  have D2 := Lib.hid d2
  clear d2
  have H1 := Lib.hid ht1.old
  have H2 := Lib.hid ht2.old
  clear hty hsrc hy ht1 ht2
  go_enter Try.func34, Try.ntmps34
  go_wp2_with fail
  obtain ⟨VV, hVV⟩ : ∃ X, X = ((w.alloc (.cells #[.int .i64 8, .string nm, .int .i64 u, .int .i64 tk, .slice ta tn tq, .int .i64 fk, .slice fa fn fq, .int .i64 lb, .slice ca cm cq] 36)).alloc (.cells #[.int .i64 0, .slice none 0 0] 31)) := ⟨_, rfl⟩
  have fE : VV.heap[w.heap.size]? = some (.cells #[.int .i64 8, .string nm, .int .i64 u, .int .i64 tk, .slice ta tn tq, .int .i64 fk, .slice fa fn fq, .int .i64 lb, .slice ca cm cq] 36 (0, 0)) := by rw [hVV]; exact blk_below (blk_new rfl) bal1
  have fR : VV.heap[w.heap.size + 1]? = some (.cells #[.int .i64 0, .slice none 0 0] 31 (0, 0)) := by rw [hVV]; exact blk_new (by simp)
  have c1a_ : VV.cell? ⟨b, off, none⟩ = some (.int .i64 k1) := by rw [hVV]; exact bcell bal1 (bcell bal1 e1a)
  have c1b_ : VV.cell? ⟨b, off + 1, none⟩ = some (.slice c1 m1 q1) := by rw [hVV]; exact bcell bal1 (bcell bal1 e1b)
  have h1_ : Hid (TyRep (· < w.heap.size) VV h1.ty (.agg #[.int .i64 k1, .slice c1 m1 q1])) := by rw [hVV]; exact Lib.hid ((H1.out.below bal1).below bal1)
  have c2a_ : VV.cell? ⟨b, off + 2, none⟩ = some (.int .i64 k2) := by rw [hVV]; exact bcell bal1 (bcell bal1 e2a)
  have c2b_ : VV.cell? ⟨b, off + 3, none⟩ = some (.slice c2 m2 q2) := by rw [hVV]; exact bcell bal1 (bcell bal1 e2b)
  have h2_ : Hid (TyRep (· < w.heap.size) VV h2.ty (.agg #[.int .i64 k2, .slice c2 m2 q2])) := by rw [hVV]; exact Lib.hid ((H2.out.below bal1).below bal1)
  have fC : Hid (Below w.heap.size w VV) := by rw [hVV]; exact Lib.hid (bstep bal1 bal1)
  rw [← hVV]
  have zV : VV.heap.size = _ := congrArg (fun X : World => X.heap.size) hVV
  simp only [World.size_alloc] at zV
  refine wp_region_noPanic ?_
  refine wp_region_held_drew (S := fun w' => w'.cell? ⟨b, off, none⟩ = some (.int .i64 k1) ∧ w'.cell? ⟨b, off + 1, none⟩ = some (.slice c1 m1 q1) ∧ w'.cell? ⟨b, off + 2, none⟩ = some (.int .i64 k2) ∧ w'.cell? ⟨b, off + 3, none⟩ = some (.slice c2 m2 q2)) (by kernel_rfl) ?_ (fun hHeld0 => ?_)
  · exact ⟨c1a_, c1b_, c2a_, c2b_⟩
  obtain ⟨U12, hU, hb, zU12a, zU12b⟩ := drLet VV
  rw [hU] at hHeld0 ⊢
  replace fE := blk_below fE hb; replace fR := blk_below fR hb; replace c1a_ := bcell hb c1a_; replace c1b_ := bcell hb c1b_
  replace h1_ := Lib.hid (h1_.out.below hb); replace c2a_ := bcell hb c2a_; replace c2b_ := bcell hb c2b_; replace h2_ := Lib.hid (h2_.out.below hb)
  replace fC := Lib.hid (bstep fC.out hb)
  rw [zV] at zU12a zU12b
  clear hU hb hVV zV
  refine hwt 1 oE11_1 (.slice (some ⟨b, off, none⟩) 2 cap) hHeld0 ?_ ?_
  · intro w' hSw; dsimp only [oE11_1]; go_simp
  try simp only [oE11_1, hwA]
  refine hwt 2 oE11_2 (.pointer (some ⟨b, off, none⟩)) hHeld0 ?_ ?_
  · intro w' hSw; dsimp only [oE11_2]; go_simp
  try simp only [oE11_2, hwA]
  refine hwt 3 oE11_3 (.agg #[.int .i64 k1, .slice c1 m1 q1]) hHeld0 ?_ ?_
  · intro w' hSw; dsimp only [oE11_3]; go_simp
  try simp only [oE11_3, hwA]
  refine hwr 0 oE11_0 (fun K hK => ?_)
  dsimp only [oE11_0]; go_simp
  go_at_call 47
  refine (specL3Bool _).mono ?_
  rintro e X1 ⟨rfl, hb⟩
  go_wp2_with fail
  have zX1 : U12.heap.size ≤ X1.heap.size := hb.size
  replace fE := blk_below fE hb; replace fR := blk_below fR hb; replace c1a_ := bcell hb c1a_; replace c1b_ := bcell hb c1b_
  replace h1_ := Lib.hid (h1_.out.below hb); replace c2a_ := bcell hb c2a_; replace c2b_ := bcell hb c2b_; replace h2_ := Lib.hid (h2_.out.below hb)
  replace fC := Lib.hid (bstep fC.out hb)
  refine hK.out _ _ ⟨c1a_, c1b_, c2a_, c2b_⟩ (fun hHeld1 => ?_)
  clear hK K hHeld0 hb
  try simp only [oE11_0, hwA]
  refine hwr 4 oE11_4 (fun K hK => ?_)
  dsimp only [oE11_4]; go_simp
  go_at_call 46
  refine (specL3Int _).mono ?_
  rintro e X2 ⟨rfl, hb⟩
  go_wp2_with fail
  have zX2 : X1.heap.size ≤ X2.heap.size := hb.size
  replace fE := blk_below fE hb; replace fR := blk_below fR hb; replace c1a_ := bcell hb c1a_; replace c1b_ := bcell hb c1b_
  replace h1_ := Lib.hid (h1_.out.below hb); replace c2a_ := bcell hb c2a_; replace c2b_ := bcell hb c2b_; replace h2_ := Lib.hid (h2_.out.below hb)
  replace fC := Lib.hid (bstep fC.out hb)
  refine hK.out _ _ ⟨c1a_, c1b_, c2a_, c2b_⟩ (fun hHeld2 => ?_)
  clear hK K hHeld1 hb
  try simp only [oE11_4, hwA]
  refine hwr 5 oE11_5 (fun K hK => ?_)
  dsimp only [oE11_5]; go_simp
  go_at_call 51
  refine (specTypeSame _ _ _ _ _ _ _ h1_.out (TyRep.leaf 2)).mono ?_
  rintro e X3 ⟨rfl, hb⟩
  rw [D1.out]
  go_wp2_with fail
  have zX3 : X2.heap.size ≤ X3.heap.size := hb.size
  replace fE := blk_below fE hb; replace fR := blk_below fR hb; replace c1a_ := bcell hb c1a_; replace c1b_ := bcell hb c1b_
  replace h1_ := Lib.hid (h1_.out.below hb); replace c2a_ := bcell hb c2a_; replace c2b_ := bcell hb c2b_; replace h2_ := Lib.hid (h2_.out.below hb)
  replace fC := Lib.hid (bstep fC.out hb)
  refine hK.out _ _ ⟨c1a_, c1b_, c2a_, c2b_⟩ (fun hHeld3 => ?_)
  clear hK K hHeld2 hb
  try simp only [oE11_5, hwA]
  refine hwt 6 oE11_6 (.bool true) hHeld3 ?_ ?_
  · intro w' hSw; dsimp only [oE11_6]; go_simp
  try simp only [oE11_6, hwA]
  refine hwt 7 oE11_7 (.slice (some ⟨b, off, none⟩) 2 cap) hHeld3 ?_ ?_
  · intro w' hSw; dsimp only [oE11_7]; go_simp
  try simp only [oE11_7, hwA]
  refine hwt 8 oE11_8 (.pointer (some ⟨b, off + 2, none⟩)) hHeld3 ?_ ?_
  · intro w' hSw; dsimp only [oE11_8]; go_simp
  try simp only [oE11_8, hwA]
  refine hwt 9 oE11_9 (.agg #[.int .i64 k2, .slice c2 m2 q2]) hHeld3 ?_ ?_
  · intro w' hSw; dsimp only [oE11_9]; go_simp
  try simp only [oE11_9, hwA]
  refine hwr 10 oE11_10 (fun K hK => ?_)
  dsimp only [oE11_10]; go_simp
  go_at_call 46
  refine (specL3Int _).mono ?_
  rintro e X4 ⟨rfl, hb⟩
  go_wp2_with fail
  have zX4 : X3.heap.size ≤ X4.heap.size := hb.size
  replace fE := blk_below fE hb; replace fR := blk_below fR hb; replace c1a_ := bcell hb c1a_; replace c1b_ := bcell hb c1b_
  replace h1_ := Lib.hid (h1_.out.below hb); replace c2a_ := bcell hb c2a_; replace c2b_ := bcell hb c2b_; replace h2_ := Lib.hid (h2_.out.below hb)
  replace fC := Lib.hid (bstep fC.out hb)
  refine hK.out _ _ ⟨c1a_, c1b_, c2a_, c2b_⟩ (fun hHeld4 => ?_)
  clear hK K hHeld3 hb
  try simp only [oE11_10, hwA]
  refine hwr 11 oE11_11 (fun K hK => ?_)
  dsimp only [oE11_11]; go_simp
  go_at_call 51
  refine (specTypeSame _ _ _ _ _ _ _ h2_.out (TyRep.leaf 2)).mono ?_
  rintro e X5 ⟨rfl, hb⟩
  rw [D2.out]
  go_wp2_with fail
  have zX5 : X4.heap.size ≤ X5.heap.size := hb.size
  replace fE := blk_below fE hb; replace fR := blk_below fR hb; replace c1a_ := bcell hb c1a_; replace c1b_ := bcell hb c1b_
  replace h1_ := Lib.hid (h1_.out.below hb); replace c2a_ := bcell hb c2a_; replace c2b_ := bcell hb c2b_; replace h2_ := Lib.hid (h2_.out.below hb)
  replace fC := Lib.hid (bstep fC.out hb)
  refine hK.out _ _ ⟨c1a_, c1b_, c2a_, c2b_⟩ (fun hHeld5 => ?_)
  clear hK K hHeld4 hb
  try simp only [oE11_11, hwA]
  refine hwt 12 oE11_12 (.bool true) hHeld5 ?_ ?_
  · intro w' hSw; dsimp only [oE11_12]; go_simp
  try simp only [oE11_12, hwA]
  refine hwr 13 oE11_13 (fun K hK => ?_)
  obtain ⟨r0, r1, rf0, rf1⟩ := blkR fR
  dsimp only [oE11_13]; go_simp
  (try go_wp2_with fail)
  have hQq := stLet2 fR (.int .i64 3) (.slice none 0 0)
  clear fR r0 r1 rf0 rf1
  obtain ⟨X6, hXq, hsq, fR, zX6a, zX6b⟩ := hQq
  rw [hXq]
  replace fE := hsq.blk (by omega) fE; replace c1a_ := hsq.cell (by show b ≠ w.heap.size + 1; omega) c1a_; replace c1b_ := hsq.cell (by show b ≠ w.heap.size + 1; omega) c1b_; replace h1_ := Lib.hid (hsq.rep (fun b hb => by have : b < w.heap.size := hb; omega) h1_.out)
  replace c2a_ := hsq.cell (by show b ≠ w.heap.size + 1; omega) c2a_; replace c2b_ := hsq.cell (by show b ≠ w.heap.size + 1; omega) c2b_; replace h2_ := Lib.hid (hsq.rep (fun b hb => by have : b < w.heap.size := hb; omega) h2_.out); replace fC := Lib.hid (hsq.bel fC.out (by omega))
  refine hK.out _ _ ⟨c1a_, c1b_, c2a_, c2b_⟩ (fun hHeld6 => ?_)
  clear hK K hHeld5 hsq hXq
  try simp only [oE11_13, hwA]
  refine hwt 14 oE11_14 (.bool true) hHeld6 ?_ ?_
  · intro w' hSw; dsimp only [oE11_14]; go_simp
  try simp only [oE11_14, hwA]
  refine wpAnyH_done (by kernel_rfl) ?_ _
  refine NoPanic.normal ?_
  clear hHeld6
  have rc0 := blk_cell fR (o := 0) rfl
  have rc1 := blk_cell fR (o := 1) rfl
  go_wp2_with fail
  refine bodyPost_ret (v := .tuple #[.agg #[.int .i64 3, .slice none 0 0], .bool true]) (by simp [results, Try.results34, go_sem, rc0, rc1]) rfl ?_
  exact ⟨_, _, _, _, _, .mk 3 [], rfl, by rw [HO.out, ar_t (k := 8) ⟨by omega, by omega, by omega⟩ D1.out D2.out]; rfl, TyRep.leafG 3, (by rw [HO.out, ar_t (k := 8) ⟨by omega, by omega, by omega⟩ D1.out D2.out]; intro s h; exact Option.some.inj h), fC.out⟩
end Go.Proofs.Ytkhmkohgnikcmaa
