/-
  spec.l4Exact: the type of a node of a term with casts by its operands' types.
-/
import Derived.Test.YtkhmkohgnikcmaaB19
import Derived.Test.YtkhmkohgnikcmaaCtTwo
import Derived.Test.YtkhmkohgnikcmaaCtEx10
import Derived.Test.YtkhmkohgnikcmaaB20
import Derived.Test.YtkhmkohgnikcmaaB3
import Derived.Test.YtkhmkohgnikcmaaB9
import Derived.Test.YtkhmkohgnikcmaaB20
import Derived.Test.YtkhmkohgnikcmaaB20
import Derived.Deep.RegionHeld3
namespace Go.Proofs.Ytkhmkohgnikcmaa
open Go.RowKit
set_option linter.unusedVariables false
set_option linter.unusedSimpArgs false
set_option maxRecDepth 100000

def oE5_0 : Oper := ⟨some 21, Op.move (Operand.tmp 1), 29, "l4_casts.go:127", #[], none⟩
def oE5_1 : Oper := ⟨some 22, Op.indexAddr 29 (Operand.tmp 21) (Operand.const (Value.int IntKind.i64 0)), 0, "l4_casts.go:127", #[⟨0, .data⟩], none⟩
def oE5_2 : Oper := ⟨some 23, Op.fieldAddr 31 (Operand.tmp 22) 0, 0, "l4_casts.go:127", #[⟨1, .data⟩], none⟩
def oE5_3 : Oper := ⟨some 24, Op.load 3 (Operand.tmp 23), 3, "l4_casts.go:127", #[⟨2, .data⟩], none⟩
def oE5_4 : Oper := ⟨some 25, Op.binOp BinOp.neq 3 (Operand.tmp 24) (Operand.const (Value.int IntKind.i64 4)) 3, 4, "l4_casts.go:127", #[⟨3, .data⟩], none⟩
def oE5_5 : Oper := ⟨some 26, Op.move (Operand.tmp 25), 4, "l4_casts.go:127", #[⟨4, .data⟩], none⟩
def oE5_6 : Oper := ⟨some 27, Op.move (Operand.tmp 1), 29, "l4_casts.go:127", #[⟨5, .guard⟩], some (5, false)⟩
def oE5_7 : Oper := ⟨some 28, Op.indexAddr 29 (Operand.tmp 27) (Operand.const (Value.int IntKind.i64 0)), 0, "l4_casts.go:127", #[⟨6, .data⟩, ⟨5, .guard⟩], some (5, false)⟩
def oE5_8 : Oper := ⟨some 29, Op.fieldAddr 31 (Operand.tmp 28) 1, 0, "l4_casts.go:127", #[⟨7, .data⟩, ⟨5, .guard⟩], some (5, false)⟩
def oE5_9 : Oper := ⟨some 30, Op.load 29 (Operand.tmp 29), 29, "l4_casts.go:127", #[⟨8, .data⟩, ⟨5, .guard⟩], some (5, false)⟩
def oE5_10 : Oper := ⟨some 31, Op.indexAddr 29 (Operand.tmp 30) (Operand.const (Value.int IntKind.i64 0)), 0, "l4_casts.go:127", #[⟨9, .data⟩, ⟨5, .guard⟩], some (5, false)⟩
def oE5_11 : Oper := ⟨some 32, Op.load 31 (Operand.tmp 31), 31, "l4_casts.go:127", #[⟨10, .data⟩, ⟨5, .guard⟩], some (5, false)⟩
def oE5_12 : Oper := ⟨some 33, Op.move (Operand.tmp 1), 29, "l4_casts.go:127", #[⟨5, .guard⟩], some (5, false)⟩
def oE5_13 : Oper := ⟨some 34, Op.indexAddr 29 (Operand.tmp 33) (Operand.const (Value.int IntKind.i64 1)), 0, "l4_casts.go:127", #[⟨12, .data⟩, ⟨5, .guard⟩], some (5, false)⟩
def oE5_14 : Oper := ⟨some 35, Op.load 31 (Operand.tmp 34), 31, "l4_casts.go:127", #[⟨13, .data⟩, ⟨5, .guard⟩], some (5, false)⟩
def oE5_15 : Oper := ⟨some 36, Op.call { callee := Callee.value (Operand.func 51), args := #[Operand.tmp 32, Operand.tmp 35], argTypes := #[31, 31] }, 4, "l4_casts.go:127", #[⟨11, .data⟩, ⟨14, .data⟩, ⟨5, .chain⟩, ⟨5, .guard⟩], some (5, false)⟩
def oE5_16 : Oper := ⟨some 37, Op.unOp UnOp.not 4 (Operand.tmp 36), 4, "l4_casts.go:127", #[⟨15, .data⟩, ⟨5, .guard⟩], some (5, false)⟩
def oE5_17 : Oper := ⟨some 38, Op.pick (Operand.tmp 26) (Operand.const (Value.bool true)) (Operand.tmp 37), 4, "l4_casts.go:127", #[⟨5, .data⟩, ⟨16, .data⟩], none⟩
set_option maxHeartbeats 4000000 in
theorem specL4Exact_6_t (G1 G2 G3 : Nat → Prop) (nm : ByteArray) (u lb tk fk : Int) (ty src : Ty) (ta fa ca : Option Addr) (tn tq fn fq cm cq : Nat) (w : World) (hty : TyRep G1 w ty (.agg #[.int .i64 tk, .slice ta tn tq])) (hsrc : TyRep G2 w src (.agg #[.int .i64 fk, .slice fa fn fq])) (y : Value) (p1 p2 h2 : S) (hvp : p2.vd = true) (d1 : p1.ty.same h2.ty = true) (hy : TysRep G3 w [(S.fn p1 p2).ty, h2.ty] y) :
    Calls Try.prog 34 #[.agg #[.int .i64 6, .string nm, .int .i64 u, .int .i64 tk, .slice ta tn tq, .int .i64 fk, .slice fa fn fq, .int .i64 lb, .slice ca cm cq], y] w (RetOF ((nodeS 6 ty src [S.fn p1 p2, h2]).map S.ty) w) := by
  obtain ⟨b, off, cap, k1, c1, m1, q1, k2, c2, m2, q2, rfl, -, -, hlb, e1a, e1b, e2a, e2b, ht1, ht2⟩ := hy.two
  obtain ⟨OO', hOO⟩ : ∃ O : Option Ty, O = ((nodeS 6 ty src [S.fn p1 p2, h2]).map S.ty) := ⟨_, rfl⟩
  rw [← hOO]
  have HO := Lib.hid hOO
  clear hOO
  have D1 := Lib.hid d1
  have HCN := Lib.hid (S.cnt_ok hvp)
  clear d1 hvp
  obtain ⟨rfl, hks⟩ := TyRep.pairK ht1
  obtain ⟨b2, off2, cap2, k5, c5, m5, q5, k6, c6, m6, q6, hsl, -, -, hlb2, e5a, e5b, e6a, e6b, ht5, ht6⟩ := hks.two
  simp only [Value.slice.injEq] at hsl
  obtain ⟨rfl, rfl, rfl⟩ := hsl
  have H1 := Lib.hid ht1.old
  have H2 := Lib.hid ht2.old
  have H5 := Lib.hid ht5.old
  have H6 := Lib.hid ht6.old
  clear hty hsrc hy ht1 ht2 ht5 ht6
  clear hks
  go_enter Try.func34, Try.ntmps34
  go_wp2_with fail
  obtain ⟨VV, hVV⟩ : ∃ X, X = ((w.alloc (.cells #[.int .i64 6, .string nm, .int .i64 u, .int .i64 tk, .slice ta tn tq, .int .i64 fk, .slice fa fn fq, .int .i64 lb, .slice ca cm cq] 36)).alloc (.cells #[.int .i64 0, .slice none 0 0] 31)) := ⟨_, rfl⟩
  have fE : VV.heap[w.heap.size]? = some (.cells #[.int .i64 6, .string nm, .int .i64 u, .int .i64 tk, .slice ta tn tq, .int .i64 fk, .slice fa fn fq, .int .i64 lb, .slice ca cm cq] 36 (0, 0)) := by rw [hVV]; exact blk_below (blk_new rfl) bal1
  have fR : VV.heap[w.heap.size + 1]? = some (.cells #[.int .i64 0, .slice none 0 0] 31 (0, 0)) := by rw [hVV]; exact blk_new (by simp)
  have c1a_ : VV.cell? ⟨b, off, none⟩ = some (.int .i64 4) := by rw [hVV]; exact bcell bal1 (bcell bal1 e1a)
  have c1b_ : VV.cell? ⟨b, off + 1, none⟩ = some (.slice (some ⟨b2, off2, none⟩) 2 q1) := by rw [hVV]; exact bcell bal1 (bcell bal1 e1b)
  have h1_ : Hid (TyRep (· < w.heap.size) VV (S.fn p1 p2).ty (.agg #[.int .i64 4, .slice (some ⟨b2, off2, none⟩) 2 q1])) := by rw [hVV]; exact Lib.hid ((H1.out.below bal1).below bal1)
  have c2a_ : VV.cell? ⟨b, off + 2, none⟩ = some (.int .i64 k2) := by rw [hVV]; exact bcell bal1 (bcell bal1 e2a)
  have c2b_ : VV.cell? ⟨b, off + 3, none⟩ = some (.slice c2 m2 q2) := by rw [hVV]; exact bcell bal1 (bcell bal1 e2b)
  have h2_ : Hid (TyRep (· < w.heap.size) VV h2.ty (.agg #[.int .i64 k2, .slice c2 m2 q2])) := by rw [hVV]; exact Lib.hid ((H2.out.below bal1).below bal1)
  have c5a_ : VV.cell? ⟨b2, off2, none⟩ = some (.int .i64 k5) := by rw [hVV]; exact bcell bal1 (bcell bal1 e5a)
  have c5b_ : VV.cell? ⟨b2, off2 + 1, none⟩ = some (.slice c5 m5 q5) := by rw [hVV]; exact bcell bal1 (bcell bal1 e5b)
  have h5_ : Hid (TyRep (· < w.heap.size) VV p1.ty (.agg #[.int .i64 k5, .slice c5 m5 q5])) := by rw [hVV]; exact Lib.hid ((H5.out.below bal1).below bal1)
  have c6a_ : VV.cell? ⟨b2, off2 + 2, none⟩ = some (.int .i64 k6) := by rw [hVV]; exact bcell bal1 (bcell bal1 e6a)
  have c6b_ : VV.cell? ⟨b2, off2 + 3, none⟩ = some (.slice c6 m6 q6) := by rw [hVV]; exact bcell bal1 (bcell bal1 e6b)
  have h6_ : Hid (TyRep (· < w.heap.size) VV p2.ty (.agg #[.int .i64 k6, .slice c6 m6 q6])) := by rw [hVV]; exact Lib.hid ((H6.out.below bal1).below bal1)
  have fC : Hid (Below w.heap.size w VV) := by rw [hVV]; exact Lib.hid (bstep bal1 bal1)
  rw [← hVV]
  have zV : VV.heap.size = _ := congrArg (fun X : World => X.heap.size) hVV
  simp only [World.size_alloc] at zV
  refine wp_region_noPanic ?_
  refine wp_region_held_drew (S := fun w' => w'.cell? ⟨b, off, none⟩ = some (.int .i64 4) ∧ w'.cell? ⟨b, off + 1, none⟩ = some (.slice (some ⟨b2, off2, none⟩) 2 q1) ∧ w'.cell? ⟨b, off + 2, none⟩ = some (.int .i64 k2) ∧ w'.cell? ⟨b, off + 3, none⟩ = some (.slice c2 m2 q2) ∧ w'.cell? ⟨b2, off2, none⟩ = some (.int .i64 k5) ∧ w'.cell? ⟨b2, off2 + 1, none⟩ = some (.slice c5 m5 q5)) (by kernel_rfl) ?_ (fun hHeld0 => ?_)
  · exact ⟨c1a_, c1b_, c2a_, c2b_, c5a_, c5b_⟩
  obtain ⟨U19, hU, hb, zU19a, zU19b⟩ := drLet VV
  rw [hU] at hHeld0 ⊢
  replace fE := blk_below fE hb; replace fR := blk_below fR hb; replace c1a_ := bcell hb c1a_; replace c1b_ := bcell hb c1b_
  replace h1_ := Lib.hid (h1_.out.below hb); replace c2a_ := bcell hb c2a_; replace c2b_ := bcell hb c2b_; replace h2_ := Lib.hid (h2_.out.below hb)
  replace c5a_ := bcell hb c5a_; replace c5b_ := bcell hb c5b_; replace h5_ := Lib.hid (h5_.out.below hb); replace c6a_ := bcell hb c6a_
  replace c6b_ := bcell hb c6b_; replace h6_ := Lib.hid (h6_.out.below hb); replace fC := Lib.hid (bstep fC.out hb)
  rw [zV] at zU19a zU19b
  clear hU hb hVV zV
  refine hwt 0 oE5_0 (.slice (some ⟨b, off, none⟩) 2 cap) hHeld0 ?_ ?_
  · intro w' hSw; dsimp only [oE5_0]; go_simp
  try simp only [oE5_0, hwA]
  refine hwt 1 oE5_1 (.pointer (some ⟨b, off, none⟩)) hHeld0 ?_ ?_
  · intro w' hSw; dsimp only [oE5_1]; go_simp
  try simp only [oE5_1, hwA]
  refine hwt 2 oE5_2 (.pointer (some ⟨b, off, none⟩)) hHeld0 ?_ ?_
  · intro w' hSw; dsimp only [oE5_2]; go_simp
  try simp only [oE5_2, hwA]
  refine hwt 3 oE5_3 (.int .i64 4) hHeld0 ?_ ?_
  · intro w' hSw; dsimp only [oE5_3]; go_simp
  try simp only [oE5_3, hwA]
  refine hwt 4 oE5_4 (.bool false) hHeld0 ?_ ?_
  · intro w' hSw; dsimp only [oE5_4]; go_simp
  try simp only [oE5_4, hwA]
  refine hwt 5 oE5_5 (.bool false) hHeld0 ?_ ?_
  · intro w' hSw; dsimp only [oE5_5]; go_simp
  try simp only [oE5_5, hwA]
  refine hwt 6 oE5_6 (.slice (some ⟨b, off, none⟩) 2 cap) hHeld0 ?_ ?_
  · intro w' hSw; dsimp only [oE5_6]; go_simp
  try simp only [oE5_6, hwA]
  refine hwt 7 oE5_7 (.pointer (some ⟨b, off, none⟩)) hHeld0 ?_ ?_
  · intro w' hSw; dsimp only [oE5_7]; go_simp
  try simp only [oE5_7, hwA]
  refine hwt 8 oE5_8 (.pointer (some ⟨b, off + 1, none⟩)) hHeld0 ?_ ?_
  · intro w' hSw; dsimp only [oE5_8]; go_simp
  try simp only [oE5_8, hwA]
  refine hwt 9 oE5_9 (.slice (some ⟨b2, off2, none⟩) 2 q1) hHeld0 ?_ ?_
  · intro w' hSw; dsimp only [oE5_9]; go_simp
  try simp only [oE5_9, hwA]
  refine hwt 10 oE5_10 (.pointer (some ⟨b2, off2, none⟩)) hHeld0 ?_ ?_
  · intro w' hSw; dsimp only [oE5_10]; go_simp
  try simp only [oE5_10, hwA]
  refine hwt 11 oE5_11 (.agg #[.int .i64 k5, .slice c5 m5 q5]) hHeld0 ?_ ?_
  · intro w' hSw; dsimp only [oE5_11]; go_simp
  try simp only [oE5_11, hwA]
  refine hwt 12 oE5_12 (.slice (some ⟨b, off, none⟩) 2 cap) hHeld0 ?_ ?_
  · intro w' hSw; dsimp only [oE5_12]; go_simp
  try simp only [oE5_12, hwA]
  refine hwt 13 oE5_13 (.pointer (some ⟨b, off + 2, none⟩)) hHeld0 ?_ ?_
  · intro w' hSw; dsimp only [oE5_13]; go_simp
  try simp only [oE5_13, hwA]
  refine hwt 14 oE5_14 (.agg #[.int .i64 k2, .slice c2 m2 q2]) hHeld0 ?_ ?_
  · intro w' hSw; dsimp only [oE5_14]; go_simp
  try simp only [oE5_14, hwA]
  refine hwr 15 oE5_15 (fun K hK => ?_)
  dsimp only [oE5_15]; go_simp
  go_at_call 51
  refine (specTypeSame _ _ _ _ _ _ _ h5_.out h2_.out).mono ?_
  rintro e X1 ⟨rfl, hb⟩
  rw [D1.out]
  go_wp2_with fail
  have zX1 : U19.heap.size ≤ X1.heap.size := hb.size
  replace fE := blk_below fE hb; replace fR := blk_below fR hb; replace c1a_ := bcell hb c1a_; replace c1b_ := bcell hb c1b_
  replace h1_ := Lib.hid (h1_.out.below hb); replace c2a_ := bcell hb c2a_; replace c2b_ := bcell hb c2b_; replace h2_ := Lib.hid (h2_.out.below hb)
  replace c5a_ := bcell hb c5a_; replace c5b_ := bcell hb c5b_; replace h5_ := Lib.hid (h5_.out.below hb); replace c6a_ := bcell hb c6a_
  replace c6b_ := bcell hb c6b_; replace h6_ := Lib.hid (h6_.out.below hb); replace fC := Lib.hid (bstep fC.out hb)
  refine hK.out _ _ ⟨c1a_, c1b_, c2a_, c2b_, c5a_, c5b_⟩ (fun hHeld1 => ?_)
  clear hK K hHeld0 hb
  try simp only [oE5_15, hwA]
  refine hwt 16 oE5_16 (.bool false) hHeld1 ?_ ?_
  · intro w' hSw; dsimp only [oE5_16]; go_simp
  try simp only [oE5_16, hwA]
  refine hwt 17 oE5_17 (.bool false) hHeld1 ?_ ?_
  · intro w' hSw; dsimp only [oE5_17]; go_simp
  try simp only [oE5_17, hwA]
  refine wpAnyH_done (by kernel_rfl) ?_ _
  refine NoPanic.normal ?_
  clear hHeld1
  go_wp2_with fail
  refine (specL1Copy _ p2.ty _ _ h6_.out HCN.out).mono ?_
  rintro e X9 ⟨v, rfl, hv, hb⟩
  obtain ⟨ke, ae, ne, qe, rfl⟩ := hv.shape
  have HN := Lib.hid hv
  have fR9 := blk_below fR hb
  have fC9 := Lib.hid (bstep fC.out hb)
  have z9 := hb.size
  clear hv hb
  have r0 := blk_cell fR9 (o := 0) rfl
  have r1 := blk_cell fR9 (o := 1) rfl
  have rf0 := blk_fro fR9 0
  have rf1 := blk_fro fR9 1
  go_wp2_with fail
  have hY : ((X9.setCell ⟨w.heap.size + 1, 0, none⟩ (.int .i64 ke)).setCell ⟨w.heap.size + 1, 1, none⟩ (.slice ae ne qe)).heap[w.heap.size + 1]? = some (.cells #[.int .i64 ke, .slice ae ne qe] 31 (0, 0)) := blk_set (blk_set fR9 rfl) rfl
  have rc0 := blk_cell hY (o := 0) rfl
  have rc1 := blk_cell hY (o := 1) rfl
  refine bodyPost_ret (v := .tuple #[.agg #[.int .i64 ke, .slice ae ne qe], .bool true]) (by simp [results, Try.results34, go_sem, rc0, rc1]) rfl ?_
  exact ⟨_, _, _, _, _, p2.ty, rfl, by rw [HO.out, app_t D1.out]; rfl, ((HN.out.setCell (p := ⟨w.heap.size + 1, 0, none⟩) (by show w.heap.size + 1 < X1.heap.size; omega) _).setCell (p := ⟨w.heap.size + 1, 1, none⟩) (by show w.heap.size + 1 < X1.heap.size; omega) _).rep.move (.weaken fun b h _ => .inr (by have h1 : X1.heap.size ≤ b := h; omega)), (by rw [HO.out, app_t D1.out]; intro s h; exact Option.some.inj h), (fC9.out.setCell (p := ⟨w.heap.size + 1, 0, none⟩) (by show w.heap.size ≤ w.heap.size + 1; omega) _).setCell (p := ⟨w.heap.size + 1, 1, none⟩) (by show w.heap.size ≤ w.heap.size + 1; omega) _⟩
set_option maxHeartbeats 4000000 in
theorem specL4Exact_6_f (G1 G2 G3 : Nat → Prop) (nm : ByteArray) (u lb tk fk : Int) (ty src : Ty) (ta fa ca : Option Addr) (tn tq fn fq cm cq : Nat) (w : World) (hty : TyRep G1 w ty (.agg #[.int .i64 tk, .slice ta tn tq])) (hsrc : TyRep G2 w src (.agg #[.int .i64 fk, .slice fa fn fq])) (y : Value) (p1 p2 h2 : S) (hvp : p2.vd = true) (d1 : p1.ty.same h2.ty = false) (hy : TysRep G3 w [(S.fn p1 p2).ty, h2.ty] y) :
    Calls Try.prog 34 #[.agg #[.int .i64 6, .string nm, .int .i64 u, .int .i64 tk, .slice ta tn tq, .int .i64 fk, .slice fa fn fq, .int .i64 lb, .slice ca cm cq], y] w (RetOF ((nodeS 6 ty src [S.fn p1 p2, h2]).map S.ty) w) := by
  obtain ⟨b, off, cap, k1, c1, m1, q1, k2, c2, m2, q2, rfl, -, -, hlb, e1a, e1b, e2a, e2b, ht1, ht2⟩ := hy.two
  obtain ⟨OO', hOO⟩ : ∃ O : Option Ty, O = ((nodeS 6 ty src [S.fn p1 p2, h2]).map S.ty) := ⟨_, rfl⟩
  rw [← hOO]
  have HO := Lib.hid hOO
  clear hOO
  have D1 := Lib.hid d1
  have HCN := Lib.hid (S.cnt_ok hvp)
  clear d1 hvp
  obtain ⟨rfl, hks⟩ := TyRep.pairK ht1
  obtain ⟨b2, off2, cap2, k5, c5, m5, q5, k6, c6, m6, q6, hsl, -, -, hlb2, e5a, e5b, e6a, e6b, ht5, ht6⟩ := hks.two
  simp only [Value.slice.injEq] at hsl
  obtain ⟨rfl, rfl, rfl⟩ := hsl
  have H1 := Lib.hid ht1.old
  have H2 := Lib.hid ht2.old
  have H5 := Lib.hid ht5.old
  have H6 := Lib.hid ht6.old
  clear hty hsrc hy ht1 ht2 ht5 ht6
  clear hks
  go_enter Try.func34, Try.ntmps34
  go_wp2_with fail
  obtain ⟨VV, hVV⟩ : ∃ X, X = ((w.alloc (.cells #[.int .i64 6, .string nm, .int .i64 u, .int .i64 tk, .slice ta tn tq, .int .i64 fk, .slice fa fn fq, .int .i64 lb, .slice ca cm cq] 36)).alloc (.cells #[.int .i64 0, .slice none 0 0] 31)) := ⟨_, rfl⟩
  have fE : VV.heap[w.heap.size]? = some (.cells #[.int .i64 6, .string nm, .int .i64 u, .int .i64 tk, .slice ta tn tq, .int .i64 fk, .slice fa fn fq, .int .i64 lb, .slice ca cm cq] 36 (0, 0)) := by rw [hVV]; exact blk_below (blk_new rfl) bal1
  have fR : VV.heap[w.heap.size + 1]? = some (.cells #[.int .i64 0, .slice none 0 0] 31 (0, 0)) := by rw [hVV]; exact blk_new (by simp)
  have c1a_ : VV.cell? ⟨b, off, none⟩ = some (.int .i64 4) := by rw [hVV]; exact bcell bal1 (bcell bal1 e1a)
  have c1b_ : VV.cell? ⟨b, off + 1, none⟩ = some (.slice (some ⟨b2, off2, none⟩) 2 q1) := by rw [hVV]; exact bcell bal1 (bcell bal1 e1b)
  have h1_ : Hid (TyRep (· < w.heap.size) VV (S.fn p1 p2).ty (.agg #[.int .i64 4, .slice (some ⟨b2, off2, none⟩) 2 q1])) := by rw [hVV]; exact Lib.hid ((H1.out.below bal1).below bal1)
  have c2a_ : VV.cell? ⟨b, off + 2, none⟩ = some (.int .i64 k2) := by rw [hVV]; exact bcell bal1 (bcell bal1 e2a)
  have c2b_ : VV.cell? ⟨b, off + 3, none⟩ = some (.slice c2 m2 q2) := by rw [hVV]; exact bcell bal1 (bcell bal1 e2b)
  have h2_ : Hid (TyRep (· < w.heap.size) VV h2.ty (.agg #[.int .i64 k2, .slice c2 m2 q2])) := by rw [hVV]; exact Lib.hid ((H2.out.below bal1).below bal1)
  have c5a_ : VV.cell? ⟨b2, off2, none⟩ = some (.int .i64 k5) := by rw [hVV]; exact bcell bal1 (bcell bal1 e5a)
  have c5b_ : VV.cell? ⟨b2, off2 + 1, none⟩ = some (.slice c5 m5 q5) := by rw [hVV]; exact bcell bal1 (bcell bal1 e5b)
  have h5_ : Hid (TyRep (· < w.heap.size) VV p1.ty (.agg #[.int .i64 k5, .slice c5 m5 q5])) := by rw [hVV]; exact Lib.hid ((H5.out.below bal1).below bal1)
  have c6a_ : VV.cell? ⟨b2, off2 + 2, none⟩ = some (.int .i64 k6) := by rw [hVV]; exact bcell bal1 (bcell bal1 e6a)
  have c6b_ : VV.cell? ⟨b2, off2 + 3, none⟩ = some (.slice c6 m6 q6) := by rw [hVV]; exact bcell bal1 (bcell bal1 e6b)
  have h6_ : Hid (TyRep (· < w.heap.size) VV p2.ty (.agg #[.int .i64 k6, .slice c6 m6 q6])) := by rw [hVV]; exact Lib.hid ((H6.out.below bal1).below bal1)
  have fC : Hid (Below w.heap.size w VV) := by rw [hVV]; exact Lib.hid (bstep bal1 bal1)
  rw [← hVV]
  have zV : VV.heap.size = _ := congrArg (fun X : World => X.heap.size) hVV
  simp only [World.size_alloc] at zV
  refine wp_region_noPanic ?_
  refine wp_region_held_drew (S := fun w' => w'.cell? ⟨b, off, none⟩ = some (.int .i64 4) ∧ w'.cell? ⟨b, off + 1, none⟩ = some (.slice (some ⟨b2, off2, none⟩) 2 q1) ∧ w'.cell? ⟨b, off + 2, none⟩ = some (.int .i64 k2) ∧ w'.cell? ⟨b, off + 3, none⟩ = some (.slice c2 m2 q2) ∧ w'.cell? ⟨b2, off2, none⟩ = some (.int .i64 k5) ∧ w'.cell? ⟨b2, off2 + 1, none⟩ = some (.slice c5 m5 q5)) (by kernel_rfl) ?_ (fun hHeld0 => ?_)
  · exact ⟨c1a_, c1b_, c2a_, c2b_, c5a_, c5b_⟩
  obtain ⟨U20, hU, hb, zU20a, zU20b⟩ := drLet VV
  rw [hU] at hHeld0 ⊢
  replace fE := blk_below fE hb; replace fR := blk_below fR hb; replace c1a_ := bcell hb c1a_; replace c1b_ := bcell hb c1b_
  replace h1_ := Lib.hid (h1_.out.below hb); replace c2a_ := bcell hb c2a_; replace c2b_ := bcell hb c2b_; replace h2_ := Lib.hid (h2_.out.below hb)
  replace c5a_ := bcell hb c5a_; replace c5b_ := bcell hb c5b_; replace h5_ := Lib.hid (h5_.out.below hb); replace c6a_ := bcell hb c6a_
  replace c6b_ := bcell hb c6b_; replace h6_ := Lib.hid (h6_.out.below hb); replace fC := Lib.hid (bstep fC.out hb)
  rw [zV] at zU20a zU20b
  clear hU hb hVV zV
  refine hwt 0 oE5_0 (.slice (some ⟨b, off, none⟩) 2 cap) hHeld0 ?_ ?_
  · intro w' hSw; dsimp only [oE5_0]; go_simp
  try simp only [oE5_0, hwA]
  refine hwt 1 oE5_1 (.pointer (some ⟨b, off, none⟩)) hHeld0 ?_ ?_
  · intro w' hSw; dsimp only [oE5_1]; go_simp
  try simp only [oE5_1, hwA]
  refine hwt 2 oE5_2 (.pointer (some ⟨b, off, none⟩)) hHeld0 ?_ ?_
  · intro w' hSw; dsimp only [oE5_2]; go_simp
  try simp only [oE5_2, hwA]
  refine hwt 3 oE5_3 (.int .i64 4) hHeld0 ?_ ?_
  · intro w' hSw; dsimp only [oE5_3]; go_simp
  try simp only [oE5_3, hwA]
  refine hwt 4 oE5_4 (.bool false) hHeld0 ?_ ?_
  · intro w' hSw; dsimp only [oE5_4]; go_simp
  try simp only [oE5_4, hwA]
  refine hwt 5 oE5_5 (.bool false) hHeld0 ?_ ?_
  · intro w' hSw; dsimp only [oE5_5]; go_simp
  try simp only [oE5_5, hwA]
  refine hwt 6 oE5_6 (.slice (some ⟨b, off, none⟩) 2 cap) hHeld0 ?_ ?_
  · intro w' hSw; dsimp only [oE5_6]; go_simp
  try simp only [oE5_6, hwA]
  refine hwt 7 oE5_7 (.pointer (some ⟨b, off, none⟩)) hHeld0 ?_ ?_
  · intro w' hSw; dsimp only [oE5_7]; go_simp
  try simp only [oE5_7, hwA]
  refine hwt 8 oE5_8 (.pointer (some ⟨b, off + 1, none⟩)) hHeld0 ?_ ?_
  · intro w' hSw; dsimp only [oE5_8]; go_simp
  try simp only [oE5_8, hwA]
  refine hwt 9 oE5_9 (.slice (some ⟨b2, off2, none⟩) 2 q1) hHeld0 ?_ ?_
  · intro w' hSw; dsimp only [oE5_9]; go_simp
  try simp only [oE5_9, hwA]
  refine hwt 10 oE5_10 (.pointer (some ⟨b2, off2, none⟩)) hHeld0 ?_ ?_
  · intro w' hSw; dsimp only [oE5_10]; go_simp
  try simp only [oE5_10, hwA]
  refine hwt 11 oE5_11 (.agg #[.int .i64 k5, .slice c5 m5 q5]) hHeld0 ?_ ?_
  · intro w' hSw; dsimp only [oE5_11]; go_simp
  try simp only [oE5_11, hwA]
  refine hwt 12 oE5_12 (.slice (some ⟨b, off, none⟩) 2 cap) hHeld0 ?_ ?_
  · intro w' hSw; dsimp only [oE5_12]; go_simp
  try simp only [oE5_12, hwA]
  refine hwt 13 oE5_13 (.pointer (some ⟨b, off + 2, none⟩)) hHeld0 ?_ ?_
  · intro w' hSw; dsimp only [oE5_13]; go_simp
  try simp only [oE5_13, hwA]
  refine hwt 14 oE5_14 (.agg #[.int .i64 k2, .slice c2 m2 q2]) hHeld0 ?_ ?_
  · intro w' hSw; dsimp only [oE5_14]; go_simp
  try simp only [oE5_14, hwA]
  refine hwr 15 oE5_15 (fun K hK => ?_)
  dsimp only [oE5_15]; go_simp
  go_at_call 51
  refine (specTypeSame _ _ _ _ _ _ _ h5_.out h2_.out).mono ?_
  rintro e X1 ⟨rfl, hb⟩
  rw [D1.out]
  go_wp2_with fail
  have zX1 : U20.heap.size ≤ X1.heap.size := hb.size
  replace fE := blk_below fE hb; replace fR := blk_below fR hb; replace c1a_ := bcell hb c1a_; replace c1b_ := bcell hb c1b_
  replace h1_ := Lib.hid (h1_.out.below hb); replace c2a_ := bcell hb c2a_; replace c2b_ := bcell hb c2b_; replace h2_ := Lib.hid (h2_.out.below hb)
  replace c5a_ := bcell hb c5a_; replace c5b_ := bcell hb c5b_; replace h5_ := Lib.hid (h5_.out.below hb); replace c6a_ := bcell hb c6a_
  replace c6b_ := bcell hb c6b_; replace h6_ := Lib.hid (h6_.out.below hb); replace fC := Lib.hid (bstep fC.out hb)
  refine hK.out _ _ ⟨c1a_, c1b_, c2a_, c2b_, c5a_, c5b_⟩ (fun hHeld1 => ?_)
  clear hK K hHeld0 hb
  try simp only [oE5_15, hwA]
  refine hwt 16 oE5_16 (.bool true) hHeld1 ?_ ?_
  · intro w' hSw; dsimp only [oE5_16]; go_simp
  try simp only [oE5_16, hwA]
  refine hwt 17 oE5_17 (.bool true) hHeld1 ?_ ?_
  · intro w' hSw; dsimp only [oE5_17]; go_simp
  try simp only [oE5_17, hwA]
  refine wpAnyH_done (by kernel_rfl) ?_ _
  refine NoPanic.normal ?_
  clear hHeld1
  have r0 := blk_cell fR (o := 0) rfl
  have r1 := blk_cell fR (o := 1) rfl
  have rf0 := blk_fro fR 0
  have rf1 := blk_fro fR 1
  go_wp2_with fail
  have hY : ((X1.setCell ⟨w.heap.size + 1, 0, none⟩ (.int .i64 0)).setCell ⟨w.heap.size + 1, 1, none⟩ (.slice none 0 0)).heap[w.heap.size + 1]? = some (.cells #[.int .i64 0, .slice none 0 0] 31 (0, 0)) := blk_set (blk_set fR rfl) rfl
  have rc0 := blk_cell hY (o := 0) rfl
  have rc1 := blk_cell hY (o := 1) rfl
  refine bodyPost_ret (v := .tuple #[.agg #[.int .i64 0, .slice none 0 0], .bool false]) (by simp [results, Try.results34, go_sem, rc0, rc1]) rfl ?_
  exact ⟨_, _, _, _, _, _, rfl, by rw [HO.out, app_f D1.out]; rfl, TyRep.zeroG, (by rw [HO.out, app_f D1.out]; intro s h; simp at h), (fC.out.setCell (p := ⟨w.heap.size + 1, 0, none⟩) (by show w.heap.size ≤ w.heap.size + 1; omega) _).setCell (p := ⟨w.heap.size + 1, 1, none⟩) (by show w.heap.size ≤ w.heap.size + 1; omega) _⟩
set_option maxHeartbeats 4000000 in
theorem specL4Exact_6_n (G1 G2 G3 : Nat → Prop) (nm : ByteArray) (u lb tk fk : Int) (ty src : Ty) (ta fa ca : Option Addr) (tn tq fn fq cm cq : Nat) (w : World) (hty : TyRep G1 w ty (.agg #[.int .i64 tk, .slice ta tn tq])) (hsrc : TyRep G2 w src (.agg #[.int .i64 fk, .slice fa fn fq])) (y : Value) (h1 h2 : S) (hh : h1.ty.kind ≠ 4) (hy : TysRep G3 w [h1.ty, h2.ty] y) :
    Calls Try.prog 34 #[.agg #[.int .i64 6, .string nm, .int .i64 u, .int .i64 tk, .slice ta tn tq, .int .i64 fk, .slice fa fn fq, .int .i64 lb, .slice ca cm cq], y] w (RetOF ((nodeS 6 ty src [h1, h2]).map S.ty) w) := by
  obtain ⟨b, off, cap, k1, c1, m1, q1, k2, c2, m2, q2, rfl, -, -, hlb, e1a, e1b, e2a, e2b, ht1, ht2⟩ := hy.two
  obtain ⟨OO', hOO⟩ : ∃ O : Option Ty, O = ((nodeS 6 ty src [h1, h2]).map S.ty) := ⟨_, rfl⟩
  rw [← hOO]
  have HO := Lib.hid hOO
  clear hOO
  have hk1 : (k1 == 4) = false := by rw [ht1.kindE]; simpa using hh
  have hk2 : (k1 != 4) = true := by simp only [bne, hk1]; rfl
  have HH := Lib.hid hh
  clear hh
  have H1 := Lib.hid ht1.old
  have H2 := Lib.hid ht2.old
  clear hty hsrc hy ht1 ht2
  go_enter Try.func34, Try.ntmps34
  go_wp2_with fail
  obtain ⟨VV, hVV⟩ : ∃ X, X = ((w.alloc (.cells #[.int .i64 6, .string nm, .int .i64 u, .int .i64 tk, .slice ta tn tq, .int .i64 fk, .slice fa fn fq, .int .i64 lb, .slice ca cm cq] 36)).alloc (.cells #[.int .i64 0, .slice none 0 0] 31)) := ⟨_, rfl⟩
  have fE : VV.heap[w.heap.size]? = some (.cells #[.int .i64 6, .string nm, .int .i64 u, .int .i64 tk, .slice ta tn tq, .int .i64 fk, .slice fa fn fq, .int .i64 lb, .slice ca cm cq] 36 (0, 0)) := by rw [hVV]; exact blk_below (blk_new rfl) bal1
  have fR : VV.heap[w.heap.size + 1]? = some (.cells #[.int .i64 0, .slice none 0 0] 31 (0, 0)) := by rw [hVV]; exact blk_new (by simp)
  have c1a_ : VV.cell? ⟨b, off, none⟩ = some (.int .i64 k1) := by rw [hVV]; exact bcell bal1 (bcell bal1 e1a)
  have c1b_ : VV.cell? ⟨b, off + 1, none⟩ = some (.slice c1 m1 q1) := by rw [hVV]; exact bcell bal1 (bcell bal1 e1b)
  have h1_ : Hid (TyRep (· < w.heap.size) VV h1.ty (.agg #[.int .i64 k1, .slice c1 m1 q1])) := by rw [hVV]; exact Lib.hid ((H1.out.below bal1).below bal1)
  have c2a_ : VV.cell? ⟨b, off + 2, none⟩ = some (.int .i64 k2) := by rw [hVV]; exact bcell bal1 (bcell bal1 e2a)
  have c2b_ : VV.cell? ⟨b, off + 3, none⟩ = some (.slice c2 m2 q2) := by rw [hVV]; exact bcell bal1 (bcell bal1 e2b)
  have h2_ : Hid (TyRep (· < w.heap.size) VV h2.ty (.agg #[.int .i64 k2, .slice c2 m2 q2])) := by rw [hVV]; exact Lib.hid ((H2.out.below bal1).below bal1)
  have fC : Hid (Below w.heap.size w VV) := by rw [hVV]; exact Lib.hid (bstep bal1 bal1)
  rw [← hVV]
  have zV : VV.heap.size = _ := congrArg (fun X : World => X.heap.size) hVV
  simp only [World.size_alloc] at zV
  refine wp_region_noPanic ?_
  refine wp_region_held_drew (S := fun w' => w'.cell? ⟨b, off, none⟩ = some (.int .i64 k1) ∧ w'.cell? ⟨b, off + 1, none⟩ = some (.slice c1 m1 q1)) (by kernel_rfl) ?_ (fun hHeld0 => ?_)
  · exact ⟨c1a_, c1b_⟩
  obtain ⟨U21, hU, hb, zU21a, zU21b⟩ := drLet VV
  rw [hU] at hHeld0 ⊢
  replace fE := blk_below fE hb; replace fR := blk_below fR hb; replace c1a_ := bcell hb c1a_; replace c1b_ := bcell hb c1b_
  replace h1_ := Lib.hid (h1_.out.below hb); replace c2a_ := bcell hb c2a_; replace c2b_ := bcell hb c2b_; replace h2_ := Lib.hid (h2_.out.below hb)
  replace fC := Lib.hid (bstep fC.out hb)
  rw [zV] at zU21a zU21b
  clear hU hb hVV zV
  refine hwt 0 oE5_0 (.slice (some ⟨b, off, none⟩) 2 cap) hHeld0 ?_ ?_
  · intro w' hSw; dsimp only [oE5_0]; go_simp
  try simp only [oE5_0, hwA]
  refine hwt 1 oE5_1 (.pointer (some ⟨b, off, none⟩)) hHeld0 ?_ ?_
  · intro w' hSw; dsimp only [oE5_1]; go_simp
  try simp only [oE5_1, hwA]
  refine hwt 2 oE5_2 (.pointer (some ⟨b, off, none⟩)) hHeld0 ?_ ?_
  · intro w' hSw; dsimp only [oE5_2]; go_simp
  try simp only [oE5_2, hwA]
  refine hwt 3 oE5_3 (.int .i64 k1) hHeld0 ?_ ?_
  · intro w' hSw; dsimp only [oE5_3]; go_simp
  try simp only [oE5_3, hwA]
  refine hwt 4 oE5_4 (.bool true) hHeld0 ?_ ?_
  · intro w' hSw; dsimp only [oE5_4]; go_simp
  try simp only [oE5_4, hwA]
  refine hwt 5 oE5_5 (.bool true) hHeld0 ?_ ?_
  · intro w' hSw; dsimp only [oE5_5]; go_simp
  try simp only [oE5_5, hwA]
  refine hwn 6 oE5_6 hHeld0 ?_
  try simp only [oE5_6, hwA]
  refine hwn 7 oE5_7 hHeld0 ?_
  try simp only [oE5_7, hwA]
  refine hwn 8 oE5_8 hHeld0 ?_
  try simp only [oE5_8, hwA]
  refine hwn 9 oE5_9 hHeld0 ?_
  try simp only [oE5_9, hwA]
  refine hwn 10 oE5_10 hHeld0 ?_
  try simp only [oE5_10, hwA]
  refine hwn 11 oE5_11 hHeld0 ?_
  try simp only [oE5_11, hwA]
  refine hwn 12 oE5_12 hHeld0 ?_
  try simp only [oE5_12, hwA]
  refine hwn 13 oE5_13 hHeld0 ?_
  try simp only [oE5_13, hwA]
  refine hwn 14 oE5_14 hHeld0 ?_
  try simp only [oE5_14, hwA]
  refine hwn 15 oE5_15 hHeld0 ?_
  try simp only [oE5_15, hwA]
  refine hwn 16 oE5_16 hHeld0 ?_
  try simp only [oE5_16, hwA]
  refine hwt 17 oE5_17 (.bool true) hHeld0 ?_ ?_
  · intro w' hSw; dsimp only [oE5_17]; go_simp
  try simp only [oE5_17, hwA]
  refine wpAnyH_done (by kernel_rfl) ?_ _
  refine NoPanic.normal ?_
  clear hHeld0
  have r0 := blk_cell fR (o := 0) rfl
  have r1 := blk_cell fR (o := 1) rfl
  have rf0 := blk_fro fR 0
  have rf1 := blk_fro fR 1
  go_wp2_with fail
  have hY : ((U21.setCell ⟨w.heap.size + 1, 0, none⟩ (.int .i64 0)).setCell ⟨w.heap.size + 1, 1, none⟩ (.slice none 0 0)).heap[w.heap.size + 1]? = some (.cells #[.int .i64 0, .slice none 0 0] 31 (0, 0)) := blk_set (blk_set fR rfl) rfl
  have rc0 := blk_cell hY (o := 0) rfl
  have rc1 := blk_cell hY (o := 1) rfl
  refine bodyPost_ret (v := .tuple #[.agg #[.int .i64 0, .slice none 0 0], .bool false]) (by simp [results, Try.results34, go_sem, rc0, rc1]) rfl ?_
  exact ⟨_, _, _, _, _, _, rfl, by rw [HO.out, app_n HH.out]; rfl, TyRep.zeroG, (by rw [HO.out, app_n HH.out]; intro s h; simp at h), (fC.out.setCell (p := ⟨w.heap.size + 1, 0, none⟩) (by show w.heap.size ≤ w.heap.size + 1; omega) _).setCell (p := ⟨w.heap.size + 1, 1, none⟩) (by show w.heap.size ≤ w.heap.size + 1; omega) _⟩
end Go.Proofs.Ytkhmkohgnikcmaa
