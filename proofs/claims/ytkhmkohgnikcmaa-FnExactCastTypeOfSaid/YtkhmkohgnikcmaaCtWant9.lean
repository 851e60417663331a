/-
  impl.wanted at conditions.
-/
import Derived.Test.YtkhmkohgnikcmaaCtWant11
import Derived.Test.YtkhmkohgnikcmaaB37
namespace Go.Proofs.Ytkhmkohgnikcmaa
open Go.RowKit
set_option linter.unusedVariables false
set_option linter.unusedSimpArgs false
set_option maxRecDepth 100000

theorem want_if {ty : Ty} {c g h : S} : wantS 9 ty [c, g, h] = if (c.cons .bool && g.cons h) = true then some ([.bool, g.meet h, g.meet h], g.meet h) else none := rfl
def oW23_0 : Oper := ⟨some 102, Op.move (Operand.tmp 2), 29, "l3_typing.go:121", #[], none⟩
def oW23_1 : Oper := ⟨some 103, Op.indexAddr 29 (Operand.tmp 102) (Operand.const (Value.int IntKind.i64 0)), 0, "l3_typing.go:121", #[⟨0, .data⟩], none⟩
def oW23_2 : Oper := ⟨some 104, Op.load 31 (Operand.tmp 103), 31, "l3_typing.go:121", #[⟨1, .data⟩], none⟩
def oW23_3 : Oper := ⟨some 105, Op.load 31 (Operand.tmp 10), 31, "l3_typing.go:121", #[], none⟩
def oW23_4 : Oper := ⟨some 106, Op.call { callee := Callee.value (Operand.func 58), args := #[Operand.tmp 104, Operand.tmp 105], argTypes := #[31, 31] }, 4, "l3_typing.go:121", #[⟨2, .data⟩, ⟨3, .data⟩], none⟩
def oW23_5 : Oper := ⟨some 107, Op.unOp UnOp.not 4 (Operand.tmp 106), 4, "l3_typing.go:121", #[⟨4, .data⟩], none⟩
def oW23_6 : Oper := ⟨some 108, Op.move (Operand.tmp 107), 4, "l3_typing.go:121", #[⟨5, .data⟩, ⟨4, .chain⟩], none⟩
def oW23_7 : Oper := ⟨some 109, Op.move (Operand.tmp 2), 29, "l3_typing.go:121", #[⟨6, .guard⟩], some (6, false)⟩
def oW23_8 : Oper := ⟨some 110, Op.indexAddr 29 (Operand.tmp 109) (Operand.const (Value.int IntKind.i64 1)), 0, "l3_typing.go:121", #[⟨7, .data⟩, ⟨6, .guard⟩], some (6, false)⟩
def oW23_9 : Oper := ⟨some 111, Op.load 31 (Operand.tmp 110), 31, "l3_typing.go:121", #[⟨8, .data⟩, ⟨6, .guard⟩], some (6, false)⟩
def oW23_10 : Oper := ⟨some 112, Op.move (Operand.tmp 2), 29, "l3_typing.go:121", #[⟨6, .guard⟩], some (6, false)⟩
def oW23_11 : Oper := ⟨some 113, Op.indexAddr 29 (Operand.tmp 112) (Operand.const (Value.int IntKind.i64 2)), 0, "l3_typing.go:121", #[⟨10, .data⟩, ⟨6, .guard⟩], some (6, false)⟩
def oW23_12 : Oper := ⟨some 114, Op.load 31 (Operand.tmp 113), 31, "l3_typing.go:121", #[⟨11, .data⟩, ⟨6, .guard⟩], some (6, false)⟩
def oW23_13 : Oper := ⟨some 115, Op.call { callee := Callee.value (Operand.func 58), args := #[Operand.tmp 111, Operand.tmp 114], argTypes := #[31, 31] }, 4, "l3_typing.go:121", #[⟨9, .data⟩, ⟨12, .data⟩, ⟨6, .chain⟩, ⟨6, .guard⟩], some (6, false)⟩
def oW23_14 : Oper := ⟨some 116, Op.unOp UnOp.not 4 (Operand.tmp 115), 4, "l3_typing.go:121", #[⟨13, .data⟩, ⟨6, .guard⟩], some (6, false)⟩
def oW23_15 : Oper := ⟨some 117, Op.pick (Operand.tmp 108) (Operand.const (Value.bool true)) (Operand.tmp 116), 4, "l3_typing.go:121", #[⟨6, .data⟩, ⟨14, .data⟩], none⟩
set_option maxHeartbeats 4000000 in
theorem implWanted_9_n (G : Nat → Prop) (c y : Value) (hcs : ∃ a n q, c = .slice a n q) (nm : ByteArray) (u lb tk fk : Int) (ty : Ty) (ta fa ca : Option Addr) (tn tq fn fq cm cq : Nat) (w : World) (h1 h2 h3 : S) (d1 : h1.cons .bool = false) (hy : TysRep G w [h1.ty, h2.ty, h3.ty] y) :
    Calls Try.prog 39 #[c, .agg #[.int .i64 9, .string nm, .int .i64 u, .int .i64 tk, .slice ta tn tq, .int .i64 fk, .slice fa fn fq, .int .i64 lb, .slice ca cm cq], y] w (RetW G (wantS 9 ty [h1, h2, h3]) w) := by
  obtain ⟨b, off, cap, k1, c1, m1, q1, k2, c2, m2, q2, k3, c3, m3, q3, rfl, hlb, e1a, e1b, e2a, e2b, e3a, e3b, ht1, ht2, ht3⟩ := hy.three
  obtain ⟨xa0, xn0, xq0, rfl⟩ := hcs
  have HOO := Lib.hid (show wantS 9 ty [h1, h2, h3] = none by rw [want_if, d1]; simp)
  have H1 := Lib.hid (ht1.move (.weaken (G := (fun x => G x ∧ x < w.heap.size)) fun b h hl => ⟨h, hl⟩))
  have H2 := Lib.hid (ht2.move (.weaken (G := (fun x => G x ∧ x < w.heap.size)) fun b h hl => ⟨h, hl⟩))
  have H3 := Lib.hid (ht3.move (.weaken (G := (fun x => G x ∧ x < w.heap.size)) fun b h hl => ⟨h, hl⟩))
  generalize wantS 9 ty [h1, h2, h3] = O at HOO ⊢
  have HD1 := Lib.hid d1
  clear hy ht1 ht2 ht3 d1
  go_enter Try.func39, Try.ntmps39
  go_wp2_with fail
  refine (implBaseW _ _).mono ?_
  rintro e w1 ⟨rfl, hb1⟩
  have HB1 := Lib.hid (bstep (bstep bal1 bal1) hb1)
  have fR0 := blk_below (blk_new (w := w.alloc (.cells #[.int .i64 9, .string nm, .int .i64 u, .int .i64 tk, .slice ta tn tq, .int .i64 fk, .slice fa fn fq, .int .i64 lb, .slice ca cm cq] 36)) (o := .cells #[.int .i64 0, .slice none 0 0] 31) (b := w.heap.size + 1) (by simp)) hb1
  have fE0 := blk_below (blk_below (blk_new (w := w) (o := .cells #[.int .i64 9, .string nm, .int .i64 u, .int .i64 tk, .slice ta tn tq, .int .i64 fk, .slice fa fn fq, .int .i64 lb, .slice ca cm cq] 36) rfl) (bal1 (o := .cells #[.int .i64 0, .slice none 0 0] 31))) hb1
  clear hb1
  go_wp2_with fail
  refine (implBaseW _ _).mono ?_
  rintro e w2 ⟨rfl, hb2⟩
  replace fE0 := blk_below fE0 hb2
  replace HB1 := Lib.hid (bstep HB1.out hb2)
  replace fR0 := blk_below fR0 hb2
  have hlr := blk_lt fR0
  clear hb2
  have d0 := blk_cell fE0 (o := 0) rfl
  have d1 := blk_cell fE0 (o := 1) rfl
  have lE := blk_lt fE0
  have lE2 : w.heap.size < w2.heap.size + 1 + 1 := by omega
  have lE1 : w.heap.size < w2.heap.size + 1 := by omega
  go_wp2_with fail
  have HBV := Lib.hid (show Below w.heap.size w ((w2.alloc (.cells #[.int .i64 2, .slice none 0 0] 31)).alloc (.cells #[.int .i64 3, .slice none 0 0] 31)) from bstep (bstep HB1.out bal1) bal1)
  obtain ⟨VV, hVV⟩ : ∃ X, X = ((w2.alloc (.cells #[.int .i64 2, .slice none 0 0] 31)).alloc (.cells #[.int .i64 3, .slice none 0 0] 31)) := ⟨_, rfl⟩
  have fR : VV.heap[w.heap.size + 1]? = some (.cells #[.int .i64 0, .slice none 0 0] 31 (0, 0)) := by rw [hVV]; exact blk_below (blk_below fR0 bal1) bal1
  have f3 : VV.heap[w2.heap.size + 1]? = some (.cells #[.int .i64 3, .slice none 0 0] 31 (0, 0)) := by rw [hVV]; exact blk_new (by simp)
  have fC : Hid (Below w.heap.size w VV) := by rw [hVV]; exact Lib.hid HBV.out
  have c1a_ : VV.cell? ⟨b, off, none⟩ = some (.int .i64 k1) := by rw [hVV]; exact bcell HBV.out e1a
  have c1b_ : VV.cell? ⟨b, off + 1, none⟩ = some (.slice c1 m1 q1) := by rw [hVV]; exact bcell HBV.out e1b
  have h1_ : Hid (TyRep (fun x => G x ∧ x < w.heap.size) VV h1.ty (.agg #[.int .i64 k1, .slice c1 m1 q1])) := by rw [hVV]; exact Lib.hid (H1.out.below HBV.out)
  have c2a_ : VV.cell? ⟨b, off + 2, none⟩ = some (.int .i64 k2) := by rw [hVV]; exact bcell HBV.out e2a
  have c2b_ : VV.cell? ⟨b, off + 3, none⟩ = some (.slice c2 m2 q2) := by rw [hVV]; exact bcell HBV.out e2b
  have h2_ : Hid (TyRep (fun x => G x ∧ x < w.heap.size) VV h2.ty (.agg #[.int .i64 k2, .slice c2 m2 q2])) := by rw [hVV]; exact Lib.hid (H2.out.below HBV.out)
  have c3a_ : VV.cell? ⟨b, off + 4, none⟩ = some (.int .i64 k3) := by rw [hVV]; exact bcell HBV.out e3a
  have c3b_ : VV.cell? ⟨b, off + 5, none⟩ = some (.slice c3 m3 q3) := by rw [hVV]; exact bcell HBV.out e3b
  have h3_ : Hid (TyRep (fun x => G x ∧ x < w.heap.size) VV h3.ty (.agg #[.int .i64 k3, .slice c3 m3 q3])) := by rw [hVV]; exact Lib.hid (H3.out.below HBV.out)
  rw [← hVV]
  have zV : VV.heap.size = _ := congrArg (fun X : World => X.heap.size) hVV
  simp only [World.size_alloc] at zV
  refine wp_region_noPanic ?_
  refine wp_region_held_drew (S := fun w' => w'.cell? ⟨w2.heap.size + 1, 0, none⟩ = some (.int .i64 3) ∧ w'.cell? ⟨w2.heap.size + 1, 1, none⟩ = some (.slice none 0 0) ∧ w'.cell? ⟨b, off, none⟩ = some (.int .i64 k1) ∧ w'.cell? ⟨b, off + 1, none⟩ = some (.slice c1 m1 q1) ∧ w'.cell? ⟨b, off + 2, none⟩ = some (.int .i64 k2) ∧ w'.cell? ⟨b, off + 3, none⟩ = some (.slice c2 m2 q2) ∧ w'.cell? ⟨b, off + 4, none⟩ = some (.int .i64 k3) ∧ w'.cell? ⟨b, off + 5, none⟩ = some (.slice c3 m3 q3)) (by kernel_rfl) ?_ (fun hHeld0 => ?_)
  · exact ⟨blk_cell f3 rfl, blk_cell f3 rfl, c1a_, c1b_, c2a_, c2b_, c3a_, c3b_⟩
  obtain ⟨U13, hU, hb, zU13a, zU13b⟩ := drLet VV
  rw [hU] at hHeld0 ⊢
  replace fR := blk_below fR hb; replace f3 := blk_below f3 hb; replace fC := Lib.hid (bstep fC.out hb); replace c1a_ := bcell hb c1a_
  replace c1b_ := bcell hb c1b_; replace h1_ := Lib.hid (h1_.out.below hb); replace c2a_ := bcell hb c2a_; replace c2b_ := bcell hb c2b_
  replace h2_ := Lib.hid (h2_.out.below hb); replace c3a_ := bcell hb c3a_; replace c3b_ := bcell hb c3b_; replace h3_ := Lib.hid (h3_.out.below hb)
  rw [zV] at zU13a zU13b
  clear hU hb hVV zV
  refine hwt 0 oW23_0 (.slice (some ⟨b, off, none⟩) 3 cap) hHeld0 ?_ ?_
  · intro w' hSw; dsimp only [oW23_0]; go_simp
  try simp only [oW23_0, hwA]
  refine hwt 1 oW23_1 (.pointer (some ⟨b, off, none⟩)) hHeld0 ?_ ?_
  · intro w' hSw; dsimp only [oW23_1]; go_simp
  try simp only [oW23_1, hwA]
  refine hwt 2 oW23_2 (.agg #[.int .i64 k1, .slice c1 m1 q1]) hHeld0 ?_ ?_
  · intro w' hSw; dsimp only [oW23_2]; go_simp
  try simp only [oW23_2, hwA]
  refine hwt 3 oW23_3 (.agg #[.int .i64 3, .slice none 0 0]) hHeld0 ?_ ?_
  · intro w' hSw; dsimp only [oW23_3]; go_simp
  try simp only [oW23_3, hwA]
  refine hwr 4 oW23_4 (fun K hK => ?_)
  dsimp only [oW23_4]; go_simp
  go_at_call 58
  refine (implConsistent0 _ (fun _ => True) _ _ _ _ _ h1_.out (TyRep.leaf 3)).mono ?_
  rintro e X1 ⟨rfl, hb⟩
  rw [show (Ty.mk 3 []) = S.bool.ty from rfl, S.ty_cons, HD1.out]
  go_wp2_with fail
  have zX1 : U13.heap.size ≤ X1.heap.size := hb.size
  replace fR := blk_below fR hb; replace f3 := blk_below f3 hb; replace fC := Lib.hid (bstep fC.out hb); replace c1a_ := bcell hb c1a_
  replace c1b_ := bcell hb c1b_; replace h1_ := Lib.hid (h1_.out.below hb); replace c2a_ := bcell hb c2a_; replace c2b_ := bcell hb c2b_
  replace h2_ := Lib.hid (h2_.out.below hb); replace c3a_ := bcell hb c3a_; replace c3b_ := bcell hb c3b_; replace h3_ := Lib.hid (h3_.out.below hb)
  refine hK.out _ _ ⟨blk_cell f3 rfl, blk_cell f3 rfl, c1a_, c1b_, c2a_, c2b_, c3a_, c3b_⟩ (fun hHeld1 => ?_)
  clear hK K hHeld0 hb
  try simp only [oW23_4, hwA]
  refine hwt 5 oW23_5 (.bool true) hHeld1 ?_ ?_
  · intro w' hSw; dsimp only [oW23_5]; go_simp
  try simp only [oW23_5, hwA]
  refine hwt 6 oW23_6 (.bool true) hHeld1 ?_ ?_
  · intro w' hSw; dsimp only [oW23_6]; go_simp
  try simp only [oW23_6, hwA]
  refine hwn 7 oW23_7 hHeld1 ?_
  try simp only [oW23_7, hwA]
  refine hwn 8 oW23_8 hHeld1 ?_
  try simp only [oW23_8, hwA]
  refine hwn 9 oW23_9 hHeld1 ?_
  try simp only [oW23_9, hwA]
  refine hwn 10 oW23_10 hHeld1 ?_
  try simp only [oW23_10, hwA]
  refine hwn 11 oW23_11 hHeld1 ?_
  try simp only [oW23_11, hwA]
  refine hwn 12 oW23_12 hHeld1 ?_
  try simp only [oW23_12, hwA]
  refine hwn 13 oW23_13 hHeld1 ?_
  try simp only [oW23_13, hwA]
  refine hwn 14 oW23_14 hHeld1 ?_
  try simp only [oW23_14, hwA]
  refine hwt 15 oW23_15 (.bool true) hHeld1 ?_ ?_
  · intro w' hSw; dsimp only [oW23_15]; go_simp
  try simp only [oW23_15, hwA]
  refine wpAnyH_done (by kernel_rfl) ?_ _
  refine NoPanic.normal ?_
  clear hHeld1
  have r0 := blk_cell fR (o := 0) rfl
  have r1 := blk_cell fR (o := 1) rfl
  have rf0 := blk_fro fR 0
  have rf1 := blk_fro fR 1
  go_wp2_with fail
  have hY : ((X1.setCell ⟨w.heap.size + 1, 0, none⟩ (.int .i64 0)).setCell ⟨w.heap.size + 1, 1, none⟩ (.slice none 0 0)).heap[w.heap.size + 1]? = some (.cells #[.int .i64 0, .slice none 0 0] 31 (0, 0)) := blk_set (blk_set fR rfl) rfl
  have rc0 := blk_cell hY (o := 0) rfl
  have rc1 := blk_cell hY (o := 1) rfl
  refine bodyPost_ret (v := .tuple #[.slice none 0 0, .agg #[.int .i64 0, .slice none 0 0], .bool false]) (by simp [results, Try.results39, go_sem, rc0, rc1]) rfl ?_
  exact ⟨_, _, _, _, _, _, _, _, rfl, by rw [HOO.out]; rfl, (by rw [HOO.out]; intro ws t h; cases h), (fC.out.setCell (p := ⟨w.heap.size + 1, 0, none⟩) (by show w.heap.size ≤ w.heap.size + 1; omega) _).setCell (p := ⟨w.heap.size + 1, 1, none⟩) (by show w.heap.size ≤ w.heap.size + 1; omega) _⟩
set_option maxHeartbeats 4000000 in
theorem implWanted_9_f (G : Nat → Prop) (c y : Value) (hcs : ∃ a n q, c = .slice a n q) (nm : ByteArray) (u lb tk fk : Int) (ty : Ty) (ta fa ca : Option Addr) (tn tq fn fq cm cq : Nat) (w : World) (h1 h2 h3 : S) (d1 : h1.cons .bool = true) (d2 : h2.cons h3 = false) (hy : TysRep G w [h1.ty, h2.ty, h3.ty] y) :
    Calls Try.prog 39 #[c, .agg #[.int .i64 9, .string nm, .int .i64 u, .int .i64 tk, .slice ta tn tq, .int .i64 fk, .slice fa fn fq, .int .i64 lb, .slice ca cm cq], y] w (RetW G (wantS 9 ty [h1, h2, h3]) w) := by
  obtain ⟨b, off, cap, k1, c1, m1, q1, k2, c2, m2, q2, k3, c3, m3, q3, rfl, hlb, e1a, e1b, e2a, e2b, e3a, e3b, ht1, ht2, ht3⟩ := hy.three
  obtain ⟨xa0, xn0, xq0, rfl⟩ := hcs
  have HOO := Lib.hid (show wantS 9 ty [h1, h2, h3] = none by rw [want_if, d1, d2]; simp)
  have H1 := Lib.hid (ht1.move (.weaken (G := (fun x => G x ∧ x < w.heap.size)) fun b h hl => ⟨h, hl⟩))
  have H2 := Lib.hid (ht2.move (.weaken (G := (fun x => G x ∧ x < w.heap.size)) fun b h hl => ⟨h, hl⟩))
  have H3 := Lib.hid (ht3.move (.weaken (G := (fun x => G x ∧ x < w.heap.size)) fun b h hl => ⟨h, hl⟩))
  generalize wantS 9 ty [h1, h2, h3] = O at HOO ⊢
  have HD1 := Lib.hid d1
  have HD2 := Lib.hid d2
  clear hy ht1 ht2 ht3 d1 d2
  go_enter Try.func39, Try.ntmps39
  go_wp2_with fail
  refine (implBaseW _ _).mono ?_
  rintro e w1 ⟨rfl, hb1⟩
  have HB1 := Lib.hid (bstep (bstep bal1 bal1) hb1)
  have fR0 := blk_below (blk_new (w := w.alloc (.cells #[.int .i64 9, .string nm, .int .i64 u, .int .i64 tk, .slice ta tn tq, .int .i64 fk, .slice fa fn fq, .int .i64 lb, .slice ca cm cq] 36)) (o := .cells #[.int .i64 0, .slice none 0 0] 31) (b := w.heap.size + 1) (by simp)) hb1
  have fE0 := blk_below (blk_below (blk_new (w := w) (o := .cells #[.int .i64 9, .string nm, .int .i64 u, .int .i64 tk, .slice ta tn tq, .int .i64 fk, .slice fa fn fq, .int .i64 lb, .slice ca cm cq] 36) rfl) (bal1 (o := .cells #[.int .i64 0, .slice none 0 0] 31))) hb1
  clear hb1
  go_wp2_with fail
  refine (implBaseW _ _).mono ?_
  rintro e w2 ⟨rfl, hb2⟩
  replace fE0 := blk_below fE0 hb2
  replace HB1 := Lib.hid (bstep HB1.out hb2)
  replace fR0 := blk_below fR0 hb2
  have hlr := blk_lt fR0
  clear hb2
  have d0 := blk_cell fE0 (o := 0) rfl
  have d1 := blk_cell fE0 (o := 1) rfl
  have lE := blk_lt fE0
  have lE2 : w.heap.size < w2.heap.size + 1 + 1 := by omega
  have lE1 : w.heap.size < w2.heap.size + 1 := by omega
  go_wp2_with fail
  have HBV := Lib.hid (show Below w.heap.size w ((w2.alloc (.cells #[.int .i64 2, .slice none 0 0] 31)).alloc (.cells #[.int .i64 3, .slice none 0 0] 31)) from bstep (bstep HB1.out bal1) bal1)
  obtain ⟨VV, hVV⟩ : ∃ X, X = ((w2.alloc (.cells #[.int .i64 2, .slice none 0 0] 31)).alloc (.cells #[.int .i64 3, .slice none 0 0] 31)) := ⟨_, rfl⟩
  have fR : VV.heap[w.heap.size + 1]? = some (.cells #[.int .i64 0, .slice none 0 0] 31 (0, 0)) := by rw [hVV]; exact blk_below (blk_below fR0 bal1) bal1
  have f3 : VV.heap[w2.heap.size + 1]? = some (.cells #[.int .i64 3, .slice none 0 0] 31 (0, 0)) := by rw [hVV]; exact blk_new (by simp)
  have fC : Hid (Below w.heap.size w VV) := by rw [hVV]; exact Lib.hid HBV.out
  have c1a_ : VV.cell? ⟨b, off, none⟩ = some (.int .i64 k1) := by rw [hVV]; exact bcell HBV.out e1a
  have c1b_ : VV.cell? ⟨b, off + 1, none⟩ = some (.slice c1 m1 q1) := by rw [hVV]; exact bcell HBV.out e1b
  have h1_ : Hid (TyRep (fun x => G x ∧ x < w.heap.size) VV h1.ty (.agg #[.int .i64 k1, .slice c1 m1 q1])) := by rw [hVV]; exact Lib.hid (H1.out.below HBV.out)
  have c2a_ : VV.cell? ⟨b, off + 2, none⟩ = some (.int .i64 k2) := by rw [hVV]; exact bcell HBV.out e2a
  have c2b_ : VV.cell? ⟨b, off + 3, none⟩ = some (.slice c2 m2 q2) := by rw [hVV]; exact bcell HBV.out e2b
  have h2_ : Hid (TyRep (fun x => G x ∧ x < w.heap.size) VV h2.ty (.agg #[.int .i64 k2, .slice c2 m2 q2])) := by rw [hVV]; exact Lib.hid (H2.out.below HBV.out)
  have c3a_ : VV.cell? ⟨b, off + 4, none⟩ = some (.int .i64 k3) := by rw [hVV]; exact bcell HBV.out e3a
  have c3b_ : VV.cell? ⟨b, off + 5, none⟩ = some (.slice c3 m3 q3) := by rw [hVV]; exact bcell HBV.out e3b
  have h3_ : Hid (TyRep (fun x => G x ∧ x < w.heap.size) VV h3.ty (.agg #[.int .i64 k3, .slice c3 m3 q3])) := by rw [hVV]; exact Lib.hid (H3.out.below HBV.out)
  rw [← hVV]
  have zV : VV.heap.size = _ := congrArg (fun X : World => X.heap.size) hVV
  simp only [World.size_alloc] at zV
  refine wp_region_noPanic ?_
  refine wp_region_held_drew (S := fun w' => w'.cell? ⟨w2.heap.size + 1, 0, none⟩ = some (.int .i64 3) ∧ w'.cell? ⟨w2.heap.size + 1, 1, none⟩ = some (.slice none 0 0) ∧ w'.cell? ⟨b, off, none⟩ = some (.int .i64 k1) ∧ w'.cell? ⟨b, off + 1, none⟩ = some (.slice c1 m1 q1) ∧ w'.cell? ⟨b, off + 2, none⟩ = some (.int .i64 k2) ∧ w'.cell? ⟨b, off + 3, none⟩ = some (.slice c2 m2 q2) ∧ w'.cell? ⟨b, off + 4, none⟩ = some (.int .i64 k3) ∧ w'.cell? ⟨b, off + 5, none⟩ = some (.slice c3 m3 q3)) (by kernel_rfl) ?_ (fun hHeld0 => ?_)
  · exact ⟨blk_cell f3 rfl, blk_cell f3 rfl, c1a_, c1b_, c2a_, c2b_, c3a_, c3b_⟩
  obtain ⟨U14, hU, hb, zU14a, zU14b⟩ := drLet VV
  rw [hU] at hHeld0 ⊢
  replace fR := blk_below fR hb; replace f3 := blk_below f3 hb; replace fC := Lib.hid (bstep fC.out hb); replace c1a_ := bcell hb c1a_
  replace c1b_ := bcell hb c1b_; replace h1_ := Lib.hid (h1_.out.below hb); replace c2a_ := bcell hb c2a_; replace c2b_ := bcell hb c2b_
  replace h2_ := Lib.hid (h2_.out.below hb); replace c3a_ := bcell hb c3a_; replace c3b_ := bcell hb c3b_; replace h3_ := Lib.hid (h3_.out.below hb)
  rw [zV] at zU14a zU14b
  clear hU hb hVV zV
  refine hwt 0 oW23_0 (.slice (some ⟨b, off, none⟩) 3 cap) hHeld0 ?_ ?_
  · intro w' hSw; dsimp only [oW23_0]; go_simp
  try simp only [oW23_0, hwA]
  refine hwt 1 oW23_1 (.pointer (some ⟨b, off, none⟩)) hHeld0 ?_ ?_
  · intro w' hSw; dsimp only [oW23_1]; go_simp
  try simp only [oW23_1, hwA]
  refine hwt 2 oW23_2 (.agg #[.int .i64 k1, .slice c1 m1 q1]) hHeld0 ?_ ?_
  · intro w' hSw; dsimp only [oW23_2]; go_simp
  try simp only [oW23_2, hwA]
  refine hwt 3 oW23_3 (.agg #[.int .i64 3, .slice none 0 0]) hHeld0 ?_ ?_
  · intro w' hSw; dsimp only [oW23_3]; go_simp
  try simp only [oW23_3, hwA]
  refine hwr 4 oW23_4 (fun K hK => ?_)
  dsimp only [oW23_4]; go_simp
  go_at_call 58
  refine (implConsistent0 _ (fun _ => True) _ _ _ _ _ h1_.out (TyRep.leaf 3)).mono ?_
  rintro e X1 ⟨rfl, hb⟩
  rw [show (Ty.mk 3 []) = S.bool.ty from rfl, S.ty_cons, HD1.out]
  go_wp2_with fail
  have zX1 : U14.heap.size ≤ X1.heap.size := hb.size
  replace fR := blk_below fR hb; replace f3 := blk_below f3 hb; replace fC := Lib.hid (bstep fC.out hb); replace c1a_ := bcell hb c1a_
  replace c1b_ := bcell hb c1b_; replace h1_ := Lib.hid (h1_.out.below hb); replace c2a_ := bcell hb c2a_; replace c2b_ := bcell hb c2b_
  replace h2_ := Lib.hid (h2_.out.below hb); replace c3a_ := bcell hb c3a_; replace c3b_ := bcell hb c3b_; replace h3_ := Lib.hid (h3_.out.below hb)
  refine hK.out _ _ ⟨blk_cell f3 rfl, blk_cell f3 rfl, c1a_, c1b_, c2a_, c2b_, c3a_, c3b_⟩ (fun hHeld1 => ?_)
  clear hK K hHeld0 hb
  try simp only [oW23_4, hwA]
  refine hwt 5 oW23_5 (.bool false) hHeld1 ?_ ?_
  · intro w' hSw; dsimp only [oW23_5]; go_simp
  try simp only [oW23_5, hwA]
  refine hwt 6 oW23_6 (.bool false) hHeld1 ?_ ?_
  · intro w' hSw; dsimp only [oW23_6]; go_simp
  try simp only [oW23_6, hwA]
  refine hwt 7 oW23_7 (.slice (some ⟨b, off, none⟩) 3 cap) hHeld1 ?_ ?_
  · intro w' hSw; dsimp only [oW23_7]; go_simp
  try simp only [oW23_7, hwA]
  refine hwt 8 oW23_8 (.pointer (some ⟨b, off + 2, none⟩)) hHeld1 ?_ ?_
  · intro w' hSw; dsimp only [oW23_8]; go_simp
  try simp only [oW23_8, hwA]
  refine hwt 9 oW23_9 (.agg #[.int .i64 k2, .slice c2 m2 q2]) hHeld1 ?_ ?_
  · intro w' hSw; dsimp only [oW23_9]; go_simp
  try simp only [oW23_9, hwA]
  refine hwt 10 oW23_10 (.slice (some ⟨b, off, none⟩) 3 cap) hHeld1 ?_ ?_
  · intro w' hSw; dsimp only [oW23_10]; go_simp
  try simp only [oW23_10, hwA]
  refine hwt 11 oW23_11 (.pointer (some ⟨b, off + 4, none⟩)) hHeld1 ?_ ?_
  · intro w' hSw; dsimp only [oW23_11]; go_simp
  try simp only [oW23_11, hwA]
  refine hwt 12 oW23_12 (.agg #[.int .i64 k3, .slice c3 m3 q3]) hHeld1 ?_ ?_
  · intro w' hSw; dsimp only [oW23_12]; go_simp
  try simp only [oW23_12, hwA]
  refine hwr 13 oW23_13 (fun K hK => ?_)
  dsimp only [oW23_13]; go_simp
  go_at_call 58
  refine (implConsistent0 _ _ _ _ _ _ _ h2_.out h3_.out).mono ?_
  rintro e X2 ⟨rfl, hb⟩
  rw [S.ty_cons, HD2.out]
  go_wp2_with fail
  have zX2 : X1.heap.size ≤ X2.heap.size := hb.size
  replace fR := blk_below fR hb; replace f3 := blk_below f3 hb; replace fC := Lib.hid (bstep fC.out hb); replace c1a_ := bcell hb c1a_
  replace c1b_ := bcell hb c1b_; replace h1_ := Lib.hid (h1_.out.below hb); replace c2a_ := bcell hb c2a_; replace c2b_ := bcell hb c2b_
  replace h2_ := Lib.hid (h2_.out.below hb); replace c3a_ := bcell hb c3a_; replace c3b_ := bcell hb c3b_; replace h3_ := Lib.hid (h3_.out.below hb)
  refine hK.out _ _ ⟨blk_cell f3 rfl, blk_cell f3 rfl, c1a_, c1b_, c2a_, c2b_, c3a_, c3b_⟩ (fun hHeld2 => ?_)
  clear hK K hHeld1 hb
  try simp only [oW23_13, hwA]
  refine hwt 14 oW23_14 (.bool true) hHeld2 ?_ ?_
  · intro w' hSw; dsimp only [oW23_14]; go_simp
  try simp only [oW23_14, hwA]
  refine hwt 15 oW23_15 (.bool true) hHeld2 ?_ ?_
  · intro w' hSw; dsimp only [oW23_15]; go_simp
  try simp only [oW23_15, hwA]
  refine wpAnyH_done (by kernel_rfl) ?_ _
  refine NoPanic.normal ?_
  clear hHeld2
  have r0 := blk_cell fR (o := 0) rfl
  have r1 := blk_cell fR (o := 1) rfl
  have rf0 := blk_fro fR 0
  have rf1 := blk_fro fR 1
  go_wp2_with fail
  have hY : ((X2.setCell ⟨w.heap.size + 1, 0, none⟩ (.int .i64 0)).setCell ⟨w.heap.size + 1, 1, none⟩ (.slice none 0 0)).heap[w.heap.size + 1]? = some (.cells #[.int .i64 0, .slice none 0 0] 31 (0, 0)) := blk_set (blk_set fR rfl) rfl
  have rc0 := blk_cell hY (o := 0) rfl
  have rc1 := blk_cell hY (o := 1) rfl
  refine bodyPost_ret (v := .tuple #[.slice none 0 0, .agg #[.int .i64 0, .slice none 0 0], .bool false]) (by simp [results, Try.results39, go_sem, rc0, rc1]) rfl ?_
  exact ⟨_, _, _, _, _, _, _, _, rfl, by rw [HOO.out]; rfl, (by rw [HOO.out]; intro ws t h; cases h), (fC.out.setCell (p := ⟨w.heap.size + 1, 0, none⟩) (by show w.heap.size ≤ w.heap.size + 1; omega) _).setCell (p := ⟨w.heap.size + 1, 1, none⟩) (by show w.heap.size ≤ w.heap.size + 1; omega) _⟩
def oW25_0 : Oper := ⟨some 119, Op.move (Operand.tmp 2), 29, "l3_typing.go:124", #[], none⟩
def oW25_1 : Oper := ⟨some 120, Op.indexAddr 29 (Operand.tmp 119) (Operand.const (Value.int IntKind.i64 1)), 0, "l3_typing.go:124", #[⟨0, .data⟩], none⟩
def oW25_2 : Oper := ⟨some 121, Op.load 31 (Operand.tmp 120), 31, "l3_typing.go:124", #[⟨1, .data⟩], none⟩
def oW25_3 : Oper := ⟨some 122, Op.move (Operand.tmp 2), 29, "l3_typing.go:124", #[], none⟩
def oW25_4 : Oper := ⟨some 123, Op.indexAddr 29 (Operand.tmp 122) (Operand.const (Value.int IntKind.i64 2)), 0, "l3_typing.go:124", #[⟨3, .data⟩], none⟩
def oW25_5 : Oper := ⟨some 124, Op.load 31 (Operand.tmp 123), 31, "l3_typing.go:124", #[⟨4, .data⟩], none⟩
def oW25_6 : Oper := ⟨some 125, Op.call { callee := Callee.value (Operand.func 59), args := #[Operand.tmp 121, Operand.tmp 124], argTypes := #[31, 31] }, 31, "l3_typing.go:124", #[⟨2, .data⟩, ⟨5, .data⟩], none⟩
def oW25_7 : Oper := ⟨some 17, Op.alloc 31, 0, "l3_typing.go:124", #[], none⟩
def oW25_8 : Oper := ⟨none, Op.store 31 (Operand.tmp 17) (Operand.tmp 125), 0, "l3_typing.go:124", #[⟨7, .data⟩, ⟨6, .data⟩, ⟨6, .chain⟩, ⟨0, .phase⟩, ⟨1, .phase⟩, ⟨2, .phase⟩, ⟨3, .phase⟩, ⟨4, .phase⟩, ⟨5, .phase⟩, ⟨6, .phase⟩, ⟨7, .phase⟩], none⟩
def oW26_0 : Oper := ⟨some 126, Op.load 31 (Operand.tmp 10), 31, "l3_typing.go:125", #[], none⟩
def oW26_1 : Oper := ⟨some 127, Op.load 31 (Operand.tmp 17), 31, "l3_typing.go:125", #[], none⟩
def oW26_2 : Oper := ⟨some 128, Op.load 31 (Operand.tmp 17), 31, "l3_typing.go:125", #[], none⟩
def oW26_3 : Oper := ⟨some 129, Op.buildSlice 29 3 #[(0, Operand.tmp 126), (1, Operand.tmp 127), (2, Operand.tmp 128)], 29, "l3_typing.go:125", #[⟨0, .data⟩, ⟨1, .data⟩, ⟨2, .data⟩], none⟩
def oW26_4 : Oper := ⟨some 130, Op.load 31 (Operand.tmp 17), 31, "l3_typing.go:125", #[⟨5, .gcOnly .lateStores⟩], none⟩
def oW26_5 : Oper := ⟨some 6, Op.assign (Operand.tmp 129), 29, "l3_typing.go:125", #[⟨3, .data⟩, ⟨0, .phase⟩, ⟨1, .phase⟩, ⟨2, .phase⟩, ⟨3, .phase⟩, ⟨4, .textOnly .lateStores⟩], none⟩
def oW26_6 : Oper := ⟨none, Op.store 31 (Operand.tmp 7) (Operand.tmp 130), 0, "l3_typing.go:125", #[⟨4, .data⟩, ⟨5, .chain⟩, ⟨0, .phase⟩, ⟨1, .phase⟩, ⟨2, .phase⟩, ⟨3, .phase⟩, ⟨4, .phase⟩, ⟨5, .phase⟩], none⟩
def oW26_7 : Oper := ⟨some 8, Op.assign (Operand.const (Value.bool true)), 4, "l3_typing.go:125", #[⟨6, .chain⟩, ⟨0, .phase⟩, ⟨1, .phase⟩, ⟨2, .phase⟩, ⟨3, .phase⟩, ⟨4, .phase⟩, ⟨5, .phase⟩, ⟨6, .phase⟩], none⟩
set_option maxHeartbeats 4000000 in
theorem implWanted_9_t (G : Nat → Prop) (c y : Value) (hcs : ∃ a n q, c = .slice a n q) (nm : ByteArray) (u lb tk fk : Int) (ty : Ty) (ta fa ca : Option Addr) (tn tq fn fq cm cq : Nat) (w : World) (h1 h2 h3 : S) (d1 : h1.cons .bool = true) (d2 : h2.cons h3 = true) (hv2 : h2.vd = true) (hv3 : h3.vd = true) (hy : TysRep G w [h1.ty, h2.ty, h3.ty] y) :
    Calls Try.prog 39 #[c, .agg #[.int .i64 9, .string nm, .int .i64 u, .int .i64 tk, .slice ta tn tq, .int .i64 fk, .slice fa fn fq, .int .i64 lb, .slice ca cm cq], y] w (RetW G (wantS 9 ty [h1, h2, h3]) w) := by
  obtain ⟨b, off, cap, k1, c1, m1, q1, k2, c2, m2, q2, k3, c3, m3, q3, rfl, hlb, e1a, e1b, e2a, e2b, e3a, e3b, ht1, ht2, ht3⟩ := hy.three
  obtain ⟨xa0, xn0, xq0, rfl⟩ := hcs
  have HOO := Lib.hid (show wantS 9 ty [h1, h2, h3] = some ([.bool, h2.meet h3, h2.meet h3], h2.meet h3) by rw [want_if, d1, d2]; rfl)
  have HC2 := Lib.hid (S.vd_cntM hv2)
  have HC3 := Lib.hid (S.vd_cntM hv3)
  have H1 := Lib.hid (ht1.move (.weaken (G := (fun x => G x ∧ x < w.heap.size)) fun b h hl => ⟨h, hl⟩))
  have H2 := Lib.hid (ht2.move (.weaken (G := (fun x => G x ∧ x < w.heap.size)) fun b h hl => ⟨h, hl⟩))
  have H3 := Lib.hid (ht3.move (.weaken (G := (fun x => G x ∧ x < w.heap.size)) fun b h hl => ⟨h, hl⟩))
  generalize wantS 9 ty [h1, h2, h3] = O at HOO ⊢
  have HD1 := Lib.hid d1
  have HD2 := Lib.hid d2
  clear hy ht1 ht2 ht3 d1 d2 hv2 hv3
  go_enter Try.func39, Try.ntmps39
  go_wp2_with fail
  refine (implBaseW _ _).mono ?_
  rintro e w1 ⟨rfl, hb1⟩
  have HB1 := Lib.hid (bstep (bstep bal1 bal1) hb1)
  have fR0 := blk_below (blk_new (w := w.alloc (.cells #[.int .i64 9, .string nm, .int .i64 u, .int .i64 tk, .slice ta tn tq, .int .i64 fk, .slice fa fn fq, .int .i64 lb, .slice ca cm cq] 36)) (o := .cells #[.int .i64 0, .slice none 0 0] 31) (b := w.heap.size + 1) (by simp)) hb1
  have fE0 := blk_below (blk_below (blk_new (w := w) (o := .cells #[.int .i64 9, .string nm, .int .i64 u, .int .i64 tk, .slice ta tn tq, .int .i64 fk, .slice fa fn fq, .int .i64 lb, .slice ca cm cq] 36) rfl) (bal1 (o := .cells #[.int .i64 0, .slice none 0 0] 31))) hb1
  clear hb1
  go_wp2_with fail
  refine (implBaseW _ _).mono ?_
  rintro e w2 ⟨rfl, hb2⟩
  replace fE0 := blk_below fE0 hb2
  replace HB1 := Lib.hid (bstep HB1.out hb2)
  replace fR0 := blk_below fR0 hb2
  have hlr := blk_lt fR0
  clear hb2
  have d0 := blk_cell fE0 (o := 0) rfl
  have d1 := blk_cell fE0 (o := 1) rfl
  have lE := blk_lt fE0
  have lE2 : w.heap.size < w2.heap.size + 1 + 1 := by omega
  have lE1 : w.heap.size < w2.heap.size + 1 := by omega
  go_wp2_with fail
  have HBV := Lib.hid (show Below w.heap.size w ((w2.alloc (.cells #[.int .i64 2, .slice none 0 0] 31)).alloc (.cells #[.int .i64 3, .slice none 0 0] 31)) from bstep (bstep HB1.out bal1) bal1)
  obtain ⟨VV, hVV⟩ : ∃ X, X = ((w2.alloc (.cells #[.int .i64 2, .slice none 0 0] 31)).alloc (.cells #[.int .i64 3, .slice none 0 0] 31)) := ⟨_, rfl⟩
  have fR : VV.heap[w.heap.size + 1]? = some (.cells #[.int .i64 0, .slice none 0 0] 31 (0, 0)) := by rw [hVV]; exact blk_below (blk_below fR0 bal1) bal1
  have f3 : VV.heap[w2.heap.size + 1]? = some (.cells #[.int .i64 3, .slice none 0 0] 31 (0, 0)) := by rw [hVV]; exact blk_new (by simp)
  have fC : Hid (Below w.heap.size w VV) := by rw [hVV]; exact Lib.hid HBV.out
  have c1a_ : VV.cell? ⟨b, off, none⟩ = some (.int .i64 k1) := by rw [hVV]; exact bcell HBV.out e1a
  have c1b_ : VV.cell? ⟨b, off + 1, none⟩ = some (.slice c1 m1 q1) := by rw [hVV]; exact bcell HBV.out e1b
  have h1_ : Hid (TyRep (fun x => G x ∧ x < w.heap.size) VV h1.ty (.agg #[.int .i64 k1, .slice c1 m1 q1])) := by rw [hVV]; exact Lib.hid (H1.out.below HBV.out)
  have c2a_ : VV.cell? ⟨b, off + 2, none⟩ = some (.int .i64 k2) := by rw [hVV]; exact bcell HBV.out e2a
  have c2b_ : VV.cell? ⟨b, off + 3, none⟩ = some (.slice c2 m2 q2) := by rw [hVV]; exact bcell HBV.out e2b
  have h2_ : Hid (TyRep (fun x => G x ∧ x < w.heap.size) VV h2.ty (.agg #[.int .i64 k2, .slice c2 m2 q2])) := by rw [hVV]; exact Lib.hid (H2.out.below HBV.out)
  have c3a_ : VV.cell? ⟨b, off + 4, none⟩ = some (.int .i64 k3) := by rw [hVV]; exact bcell HBV.out e3a
  have c3b_ : VV.cell? ⟨b, off + 5, none⟩ = some (.slice c3 m3 q3) := by rw [hVV]; exact bcell HBV.out e3b
  have h3_ : Hid (TyRep (fun x => G x ∧ x < w.heap.size) VV h3.ty (.agg #[.int .i64 k3, .slice c3 m3 q3])) := by rw [hVV]; exact Lib.hid (H3.out.below HBV.out)
  rw [← hVV]
  have zV : VV.heap.size = _ := congrArg (fun X : World => X.heap.size) hVV
  simp only [World.size_alloc] at zV
  refine wp_region_noPanic ?_
  refine wp_region_held_drew (S := fun w' => w'.cell? ⟨w2.heap.size + 1, 0, none⟩ = some (.int .i64 3) ∧ w'.cell? ⟨w2.heap.size + 1, 1, none⟩ = some (.slice none 0 0) ∧ w'.cell? ⟨b, off, none⟩ = some (.int .i64 k1) ∧ w'.cell? ⟨b, off + 1, none⟩ = some (.slice c1 m1 q1) ∧ w'.cell? ⟨b, off + 2, none⟩ = some (.int .i64 k2) ∧ w'.cell? ⟨b, off + 3, none⟩ = some (.slice c2 m2 q2) ∧ w'.cell? ⟨b, off + 4, none⟩ = some (.int .i64 k3) ∧ w'.cell? ⟨b, off + 5, none⟩ = some (.slice c3 m3 q3)) (by kernel_rfl) ?_ (fun hHeld0 => ?_)
  · exact ⟨blk_cell f3 rfl, blk_cell f3 rfl, c1a_, c1b_, c2a_, c2b_, c3a_, c3b_⟩
  obtain ⟨U15, hU, hb, zU15a, zU15b⟩ := drLet VV
  rw [hU] at hHeld0 ⊢
  replace fR := blk_below fR hb; replace f3 := blk_below f3 hb; replace fC := Lib.hid (bstep fC.out hb); replace c1a_ := bcell hb c1a_
  replace c1b_ := bcell hb c1b_; replace h1_ := Lib.hid (h1_.out.below hb); replace c2a_ := bcell hb c2a_; replace c2b_ := bcell hb c2b_
  replace h2_ := Lib.hid (h2_.out.below hb); replace c3a_ := bcell hb c3a_; replace c3b_ := bcell hb c3b_; replace h3_ := Lib.hid (h3_.out.below hb)
  rw [zV] at zU15a zU15b
  clear hU hb hVV zV
  refine hwt 0 oW23_0 (.slice (some ⟨b, off, none⟩) 3 cap) hHeld0 ?_ ?_
  · intro w' hSw; dsimp only [oW23_0]; go_simp
  try simp only [oW23_0, hwA]
  refine hwt 1 oW23_1 (.pointer (some ⟨b, off, none⟩)) hHeld0 ?_ ?_
  · intro w' hSw; dsimp only [oW23_1]; go_simp
  try simp only [oW23_1, hwA]
  refine hwt 2 oW23_2 (.agg #[.int .i64 k1, .slice c1 m1 q1]) hHeld0 ?_ ?_
  · intro w' hSw; dsimp only [oW23_2]; go_simp
  try simp only [oW23_2, hwA]
  refine hwt 3 oW23_3 (.agg #[.int .i64 3, .slice none 0 0]) hHeld0 ?_ ?_
  · intro w' hSw; dsimp only [oW23_3]; go_simp
  try simp only [oW23_3, hwA]
  refine hwr 4 oW23_4 (fun K hK => ?_)
  dsimp only [oW23_4]; go_simp
  go_at_call 58
  refine (implConsistent0 _ (fun _ => True) _ _ _ _ _ h1_.out (TyRep.leaf 3)).mono ?_
  rintro e X1 ⟨rfl, hb⟩
  rw [show (Ty.mk 3 []) = S.bool.ty from rfl, S.ty_cons, HD1.out]
  go_wp2_with fail
  have zX1 : U15.heap.size ≤ X1.heap.size := hb.size
  replace fR := blk_below fR hb; replace f3 := blk_below f3 hb; replace fC := Lib.hid (bstep fC.out hb); replace c1a_ := bcell hb c1a_
  replace c1b_ := bcell hb c1b_; replace h1_ := Lib.hid (h1_.out.below hb); replace c2a_ := bcell hb c2a_; replace c2b_ := bcell hb c2b_
  replace h2_ := Lib.hid (h2_.out.below hb); replace c3a_ := bcell hb c3a_; replace c3b_ := bcell hb c3b_; replace h3_ := Lib.hid (h3_.out.below hb)
  refine hK.out _ _ ⟨blk_cell f3 rfl, blk_cell f3 rfl, c1a_, c1b_, c2a_, c2b_, c3a_, c3b_⟩ (fun hHeld1 => ?_)
  clear hK K hHeld0 hb
  try simp only [oW23_4, hwA]
  refine hwt 5 oW23_5 (.bool false) hHeld1 ?_ ?_
  · intro w' hSw; dsimp only [oW23_5]; go_simp
  try simp only [oW23_5, hwA]
  refine hwt 6 oW23_6 (.bool false) hHeld1 ?_ ?_
  · intro w' hSw; dsimp only [oW23_6]; go_simp
  try simp only [oW23_6, hwA]
  refine hwt 7 oW23_7 (.slice (some ⟨b, off, none⟩) 3 cap) hHeld1 ?_ ?_
  · intro w' hSw; dsimp only [oW23_7]; go_simp
  try simp only [oW23_7, hwA]
  refine hwt 8 oW23_8 (.pointer (some ⟨b, off + 2, none⟩)) hHeld1 ?_ ?_
  · intro w' hSw; dsimp only [oW23_8]; go_simp
  try simp only [oW23_8, hwA]
  refine hwt 9 oW23_9 (.agg #[.int .i64 k2, .slice c2 m2 q2]) hHeld1 ?_ ?_
  · intro w' hSw; dsimp only [oW23_9]; go_simp
  try simp only [oW23_9, hwA]
  refine hwt 10 oW23_10 (.slice (some ⟨b, off, none⟩) 3 cap) hHeld1 ?_ ?_
  · intro w' hSw; dsimp only [oW23_10]; go_simp
  try simp only [oW23_10, hwA]
  refine hwt 11 oW23_11 (.pointer (some ⟨b, off + 4, none⟩)) hHeld1 ?_ ?_
  · intro w' hSw; dsimp only [oW23_11]; go_simp
  try simp only [oW23_11, hwA]
  refine hwt 12 oW23_12 (.agg #[.int .i64 k3, .slice c3 m3 q3]) hHeld1 ?_ ?_
  · intro w' hSw; dsimp only [oW23_12]; go_simp
  try simp only [oW23_12, hwA]
  refine hwr 13 oW23_13 (fun K hK => ?_)
  dsimp only [oW23_13]; go_simp
  go_at_call 58
  refine (implConsistent0 _ _ _ _ _ _ _ h2_.out h3_.out).mono ?_
  rintro e X2 ⟨rfl, hb⟩
  rw [S.ty_cons, HD2.out]
  go_wp2_with fail
  have zX2 : X1.heap.size ≤ X2.heap.size := hb.size
  replace fR := blk_below fR hb; replace f3 := blk_below f3 hb; replace fC := Lib.hid (bstep fC.out hb); replace c1a_ := bcell hb c1a_
  replace c1b_ := bcell hb c1b_; replace h1_ := Lib.hid (h1_.out.below hb); replace c2a_ := bcell hb c2a_; replace c2b_ := bcell hb c2b_
  replace h2_ := Lib.hid (h2_.out.below hb); replace c3a_ := bcell hb c3a_; replace c3b_ := bcell hb c3b_; replace h3_ := Lib.hid (h3_.out.below hb)
  refine hK.out _ _ ⟨blk_cell f3 rfl, blk_cell f3 rfl, c1a_, c1b_, c2a_, c2b_, c3a_, c3b_⟩ (fun hHeld2 => ?_)
  clear hK K hHeld1 hb
  try simp only [oW23_13, hwA]
  refine hwt 14 oW23_14 (.bool false) hHeld2 ?_ ?_
  · intro w' hSw; dsimp only [oW23_14]; go_simp
  try simp only [oW23_14, hwA]
  refine hwt 15 oW23_15 (.bool false) hHeld2 ?_ ?_
  · intro w' hSw; dsimp only [oW23_15]; go_simp
  try simp only [oW23_15, hwA]
  refine wpAnyH_done (by kernel_rfl) ?_ _
  refine NoPanic.normal ?_
  clear hHeld2
  go_wp2_with fail
  refine wp_region_noPanic ?_
  refine wp_region_held_drew (S := fun w' => w'.cell? ⟨b, off, none⟩ = some (.int .i64 k1) ∧ w'.cell? ⟨b, off + 1, none⟩ = some (.slice c1 m1 q1) ∧ w'.cell? ⟨b, off + 2, none⟩ = some (.int .i64 k2) ∧ w'.cell? ⟨b, off + 3, none⟩ = some (.slice c2 m2 q2) ∧ w'.cell? ⟨b, off + 4, none⟩ = some (.int .i64 k3) ∧ w'.cell? ⟨b, off + 5, none⟩ = some (.slice c3 m3 q3)) (by kernel_rfl) ?_ (fun hHeld0 => ?_)
  · exact ⟨c1a_, c1b_, c2a_, c2b_, c3a_, c3b_⟩
  obtain ⟨U16, hU, hb, zU16a, zU16b⟩ := drLet X2
  rw [hU] at hHeld0 ⊢
  replace fR := blk_below fR hb; replace f3 := blk_below f3 hb; replace fC := Lib.hid (bstep fC.out hb); replace c1a_ := bcell hb c1a_
  replace c1b_ := bcell hb c1b_; replace h1_ := Lib.hid (h1_.out.below hb); replace c2a_ := bcell hb c2a_; replace c2b_ := bcell hb c2b_
  replace h2_ := Lib.hid (h2_.out.below hb); replace c3a_ := bcell hb c3a_; replace c3b_ := bcell hb c3b_; replace h3_ := Lib.hid (h3_.out.below hb)
  (try simp only [World.size_alloc] at zU16a zU16b)
  clear hU hb
  refine hwt 0 oW25_0 (.slice (some ⟨b, off, none⟩) 3 cap) hHeld0 ?_ ?_
  · intro w' hSw; dsimp only [oW25_0]; go_simp
  try simp only [oW25_0, hwA]
  refine hwt 1 oW25_1 (.pointer (some ⟨b, off + 2, none⟩)) hHeld0 ?_ ?_
  · intro w' hSw; dsimp only [oW25_1]; go_simp
  try simp only [oW25_1, hwA]
  refine hwt 2 oW25_2 (.agg #[.int .i64 k2, .slice c2 m2 q2]) hHeld0 ?_ ?_
  · intro w' hSw; dsimp only [oW25_2]; go_simp
  try simp only [oW25_2, hwA]
  refine hwt 3 oW25_3 (.slice (some ⟨b, off, none⟩) 3 cap) hHeld0 ?_ ?_
  · intro w' hSw; dsimp only [oW25_3]; go_simp
  try simp only [oW25_3, hwA]
  refine hwt 4 oW25_4 (.pointer (some ⟨b, off + 4, none⟩)) hHeld0 ?_ ?_
  · intro w' hSw; dsimp only [oW25_4]; go_simp
  try simp only [oW25_4, hwA]
  refine hwt 5 oW25_5 (.agg #[.int .i64 k3, .slice c3 m3 q3]) hHeld0 ?_ ?_
  · intro w' hSw; dsimp only [oW25_5]; go_simp
  try simp only [oW25_5, hwA]
  refine wpAnyH_ready (rs := [6, 7]) (by kernel_rfl) (by simp) ?_
  refine (AllReadyH.cons (o := oW25_6) rfl (fun K hK => ?_) (AllReadyH.cons (o := oW25_7) rfl (fun K hK => ?_) AllReadyH.nil))
  ·skip
   dsimp only [oW25_6]; go_simp
   go_at_call 59
   refine (implMeet _ _ h2 h3 _ _ _ h2_.out h3_.out HC2.out HC3.out HD2.out).mono ?_
   rintro e X23 ⟨v, rfl, hv, hb⟩
   obtain ⟨km, am, nx, qm, rfl⟩ := hv.shape
   have hM' : Hid (TyRep (fun b => U16.heap.size ≤ b ∧ b < X23.heap.size) X23 (h2.meet h3).ty (.agg #[.int .i64 km, .slice am nx qm])) := Lib.hid (hv.rep.move (.weaken fun b h1 h2 => ⟨h1, h2⟩))
   clear hv
   go_wp2_with fail
   have zX23 : U16.heap.size ≤ X23.heap.size := hb.size
   replace fR := blk_below fR hb; replace f3 := blk_below f3 hb; replace fC := Lib.hid (bstep fC.out hb); replace c1a_ := bcell hb c1a_
   replace c1b_ := bcell hb c1b_; replace h1_ := Lib.hid (h1_.out.below hb); replace c2a_ := bcell hb c2a_; replace c2b_ := bcell hb c2b_
   replace h2_ := Lib.hid (h2_.out.below hb); replace c3a_ := bcell hb c3a_; replace c3b_ := bcell hb c3b_; replace h3_ := Lib.hid (h3_.out.below hb)
   have hM := hM'
   clear hM'
   refine hK.out _ _ ⟨c1a_, c1b_, c2a_, c2b_, c3a_, c3b_⟩ (fun hHeld43 => ?_)
   clear hK K hHeld0 hb
   try simp only [oW25_6, hwA]
   refine hwr 7 oW25_7 (fun K hK => ?_)
   dsimp only [oW25_7]; go_simp
   (try go_wp2_with fail)
   obtain ⟨X24, hXq, hb, fV, zX24a, zX24b⟩ := alLet X23 (.cells #[.int .i64 0, .slice none 0 0] 31)
   rw [hXq]
   replace fR := blk_below fR hb; replace f3 := blk_below f3 hb; replace fC := Lib.hid (bstep fC.out hb); replace c1a_ := bcell hb c1a_
   replace c1b_ := bcell hb c1b_; replace h1_ := Lib.hid (h1_.out.below hb); replace c2a_ := bcell hb c2a_; replace c2b_ := bcell hb c2b_
   replace h2_ := Lib.hid (h2_.out.below hb); replace c3a_ := bcell hb c3a_; replace c3b_ := bcell hb c3b_; replace h3_ := Lib.hid (h3_.out.below hb)
   replace hM := Lib.hid (hM.out.below hb)
   refine hK.out _ _ ⟨c1a_, c1b_, c2a_, c2b_, c3a_, c3b_⟩ (fun hHeld44 => ?_)
   clear hK K hHeld43 hb hXq
   try simp only [oW25_7, hwA]
   refine hwr 8 oW25_8 (fun K hK => ?_)
   obtain ⟨r0, r1, rf0, rf1⟩ := blkR fV
   dsimp only [oW25_8]; go_simp
   (try go_wp2_with fail)
   have hQq := stLet2 fV (.int .i64 km) (.slice am nx qm)
   clear fV r0 r1 rf0 rf1
   obtain ⟨X25, hXq, hsq, fV, zX25a, zX25b⟩ := hQq
   rw [hXq]
   replace fR := hsq.blk (by omega) fR; replace f3 := hsq.blk (by omega) f3; replace fC := Lib.hid (hsq.bel fC.out (by omega)); replace c1a_ := hsq.cell (by show b ≠ X23.heap.size; omega) c1a_
   replace c1b_ := hsq.cell (by show b ≠ X23.heap.size; omega) c1b_; replace h1_ := Lib.hid (hsq.rep (fun b hb => by have h1 := hb.2; omega) h1_.out); replace c2a_ := hsq.cell (by show b ≠ X23.heap.size; omega) c2a_; replace c2b_ := hsq.cell (by show b ≠ X23.heap.size; omega) c2b_
   replace h2_ := Lib.hid (hsq.rep (fun b hb => by have h1 := hb.2; omega) h2_.out); replace c3a_ := hsq.cell (by show b ≠ X23.heap.size; omega) c3a_; replace c3b_ := hsq.cell (by show b ≠ X23.heap.size; omega) c3b_; replace h3_ := Lib.hid (hsq.rep (fun b hb => by have h1 := hb.2; omega) h3_.out)
   replace hM := Lib.hid (hsq.rep (fun b hb => by have h1 : U16.heap.size ≤ b := hb.1; have h2 : b < X23.heap.size := hb.2; omega) hM.out)
   refine hK.out _ _ ⟨c1a_, c1b_, c2a_, c2b_, c3a_, c3b_⟩ (fun hHeld45 => ?_)
   clear hK K hHeld44 hsq hXq
   try simp only [oW25_8, hwA]
   refine wpAnyH_done (by kernel_rfl) ?_ _
   refine NoPanic.normal ?_
   clear hHeld45
   go_wp2_with fail
   refine wp_region_noPanic ?_
   refine wp_region_held_drew (S := fun w' => w'.cell? ⟨w2.heap.size + 1, 0, none⟩ = some (.int .i64 3) ∧ w'.cell? ⟨w2.heap.size + 1, 1, none⟩ = some (.slice none 0 0) ∧ w'.cell? ⟨X23.heap.size, 0, none⟩ = some (.int .i64 km) ∧ w'.cell? ⟨X23.heap.size, 1, none⟩ = some (.slice am nx qm)) (by kernel_rfl) ?_ (fun hHeld0 => ?_)
   · exact ⟨blk_cell f3 rfl, blk_cell f3 rfl, blk_cell fV rfl, blk_cell fV rfl⟩
   obtain ⟨U17, hU, hb, zU17a, zU17b⟩ := drLet X25
   rw [hU] at hHeld0 ⊢
   replace fR := blk_below fR hb; replace f3 := blk_below f3 hb; replace fC := Lib.hid (bstep fC.out hb); replace c1a_ := bcell hb c1a_
   replace c1b_ := bcell hb c1b_; replace h1_ := Lib.hid (h1_.out.below hb); replace c2a_ := bcell hb c2a_; replace c2b_ := bcell hb c2b_
   replace h2_ := Lib.hid (h2_.out.below hb); replace c3a_ := bcell hb c3a_; replace c3b_ := bcell hb c3b_; replace h3_ := Lib.hid (h3_.out.below hb)
   replace hM := Lib.hid (hM.out.below hb); replace fV := blk_below fV hb
   (try simp only [World.size_alloc] at zU17a zU17b)
   clear hU hb
   refine hwt 0 oW26_0 (.agg #[.int .i64 3, .slice none 0 0]) hHeld0 ?_ ?_
   · intro w' hSw; dsimp only [oW26_0]; go_simp
   try simp only [oW26_0, hwA]
   refine hwt 1 oW26_1 (.agg #[.int .i64 km, .slice am nx qm]) hHeld0 ?_ ?_
   · intro w' hSw; dsimp only [oW26_1]; go_simp
   try simp only [oW26_1, hwA]
   refine hwt 2 oW26_2 (.agg #[.int .i64 km, .slice am nx qm]) hHeld0 ?_ ?_
   · intro w' hSw; dsimp only [oW26_2]; go_simp
   try simp only [oW26_2, hwA]
   refine hwt 4 oW26_4 (.agg #[.int .i64 km, .slice am nx qm]) hHeld0 ?_ ?_
   · intro w' hSw; dsimp only [oW26_4]; go_simp
   try simp only [oW26_4, hwA]
   refine hwr 3 oW26_3 (fun K hK => ?_)
   dsimp only [oW26_3]; go_simp
   (try go_wp2_with fail)
   obtain ⟨X46, hXq, hb, fL, zX46a, zX46b⟩ := alLet U17 (.cells #[.int .i64 3, .slice none 0 0, .int .i64 km, .slice am nx qm, .int .i64 km, .slice am nx qm] 31)
   rw [hXq]
   replace fR := blk_below fR hb; replace f3 := blk_below f3 hb; replace fC := Lib.hid (bstep fC.out hb); replace c1a_ := bcell hb c1a_
   replace c1b_ := bcell hb c1b_; replace h1_ := Lib.hid (h1_.out.below hb); replace c2a_ := bcell hb c2a_; replace c2b_ := bcell hb c2b_
   replace h2_ := Lib.hid (h2_.out.below hb); replace c3a_ := bcell hb c3a_; replace c3b_ := bcell hb c3b_; replace h3_ := Lib.hid (h3_.out.below hb)
   replace hM := Lib.hid (hM.out.below hb); replace fV := blk_below fV hb
   refine hK.out _ _ ⟨blk_cell f3 rfl, blk_cell f3 rfl, blk_cell fV rfl, blk_cell fV rfl⟩ (fun hHeld86 => ?_)
   clear hK K hHeld0 hb hXq
   try simp only [oW26_3, hwA]
   refine hwt 5 oW26_5 (.slice (some ⟨U17.heap.size, 0, none⟩) 3 3) hHeld86 ?_ ?_
   · intro w' hSw; dsimp only [oW26_5]; go_simp
   try simp only [oW26_5, hwA]
   refine hwr 6 oW26_6 (fun K hK => ?_)
   obtain ⟨r0, r1, rf0, rf1⟩ := blkR fR
   dsimp only [oW26_6]; go_simp
   (try go_wp2_with fail)
   have hQq := stLet2 fR (.int .i64 km) (.slice am nx qm)
   clear fR r0 r1 rf0 rf1
   obtain ⟨X47, hXq, hsq, fR, zX47a, zX47b⟩ := hQq
   rw [hXq]
   replace f3 := hsq.blk (by omega) f3; replace fC := Lib.hid (hsq.bel fC.out (by omega)); replace c1a_ := hsq.cell (by show b ≠ w.heap.size + 1; omega) c1a_; replace c1b_ := hsq.cell (by show b ≠ w.heap.size + 1; omega) c1b_
   replace h1_ := Lib.hid (hsq.rep (fun b hb => by have h1 := hb.2; omega) h1_.out); replace c2a_ := hsq.cell (by show b ≠ w.heap.size + 1; omega) c2a_; replace c2b_ := hsq.cell (by show b ≠ w.heap.size + 1; omega) c2b_; replace h2_ := Lib.hid (hsq.rep (fun b hb => by have h1 := hb.2; omega) h2_.out)
   replace c3a_ := hsq.cell (by show b ≠ w.heap.size + 1; omega) c3a_; replace c3b_ := hsq.cell (by show b ≠ w.heap.size + 1; omega) c3b_; replace h3_ := Lib.hid (hsq.rep (fun b hb => by have h1 := hb.2; omega) h3_.out); replace hM := Lib.hid (hsq.rep (fun b hb => by have h1 : U16.heap.size ≤ b := hb.1; have h2 : b < X23.heap.size := hb.2; omega) hM.out)
   replace fV := hsq.blk (by omega) fV; replace fL := hsq.blk (by omega) fL
   refine hK.out _ _ ⟨blk_cell f3 rfl, blk_cell f3 rfl, blk_cell fV rfl, blk_cell fV rfl⟩ (fun hHeld87 => ?_)
   clear hK K hHeld86 hsq hXq
   try simp only [oW26_6, hwA]
   refine hwt 7 oW26_7 (.bool true) hHeld87 ?_ ?_
   · intro w' hSw; dsimp only [oW26_7]; go_simp
   try simp only [oW26_7, hwA]
   refine wpAnyH_done (by kernel_rfl) ?_ _
   refine NoPanic.normal ?_
   clear hHeld87
   have rc0 := blk_cell fR (o := 0) rfl
   have rc1 := blk_cell fR (o := 1) rfl
   go_wp2_with fail
   refine bodyPost_ret (v := .tuple #[.slice (some ⟨U17.heap.size, 0, none⟩) 3 3, .agg #[.int .i64 km, .slice am nx qm], .bool true]) (by simp [results, Try.results39, go_sem, rc0, rc1]) rfl ?_
   have hw2 : w.heap.size ≤ w2.heap.size := HB1.out.size
   refine ⟨_, _, _, _, _, _, _, _, rfl, by rw [HOO.out]; rfl, ?_, fC.out⟩
   intro ws t h
   rw [HOO.out] at h
   simp only [Option.some.injEq, Prod.mk.injEq] at h
   obtain ⟨rfl, rfl⟩ := h
   have hMM := hM.out.move (.weaken (G := fun x => G x ∨ w.heap.size ≤ x) fun b h _ => .inr (by have h1 := h.1; omega))
   exact ⟨TysRep.three_mk (b := U17.heap.size) (cap := 3) (k1 := 3) (k2 := km) (k3 := km) (c1 := .slice none 0 0) (c2 := .slice am nx qm) (c3 := .slice am nx qm) (.inr (by omega)) (Nat.le_refl 3) (by unfold maxLen; omega) (blk_cell fL (o := 0) rfl) (blk_cell fL (o := 1) rfl) (blk_cell fL (o := 2) rfl) (blk_cell fL (o := 3) rfl) (blk_cell fL (o := 4) rfl) (blk_cell fL (o := 5) rfl) (TyRep.leafG 3) hMM hMM, hMM⟩
  ·skip
   dsimp only [oW25_7]; go_simp
   (try go_wp2_with fail)
   obtain ⟨X48, hXq, hb, fV, zX48a, zX48b⟩ := alLet U16 (.cells #[.int .i64 0, .slice none 0 0] 31)
   rw [hXq]
   replace fR := blk_below fR hb; replace f3 := blk_below f3 hb; replace fC := Lib.hid (bstep fC.out hb); replace c1a_ := bcell hb c1a_
   replace c1b_ := bcell hb c1b_; replace h1_ := Lib.hid (h1_.out.below hb); replace c2a_ := bcell hb c2a_; replace c2b_ := bcell hb c2b_
   replace h2_ := Lib.hid (h2_.out.below hb); replace c3a_ := bcell hb c3a_; replace c3b_ := bcell hb c3b_; replace h3_ := Lib.hid (h3_.out.below hb)
   refine hK.out _ _ ⟨c1a_, c1b_, c2a_, c2b_, c3a_, c3b_⟩ (fun hHeld43 => ?_)
   clear hK K hHeld0 hb hXq
   try simp only [oW25_7, hwA]
   refine hwr 6 oW25_6 (fun K hK => ?_)
   dsimp only [oW25_6]; go_simp
   go_at_call 59
   refine (implMeet _ _ h2 h3 _ _ _ h2_.out h3_.out HC2.out HC3.out HD2.out).mono ?_
   rintro e X49 ⟨v, rfl, hv, hb⟩
   obtain ⟨km, am, nx, qm, rfl⟩ := hv.shape
   have hM' : Hid (TyRep (fun b => X48.heap.size ≤ b ∧ b < X49.heap.size) X49 (h2.meet h3).ty (.agg #[.int .i64 km, .slice am nx qm])) := Lib.hid (hv.rep.move (.weaken fun b h1 h2 => ⟨h1, h2⟩))
   clear hv
   go_wp2_with fail
   have zX49 : X48.heap.size ≤ X49.heap.size := hb.size
   replace fR := blk_below fR hb; replace f3 := blk_below f3 hb; replace fC := Lib.hid (bstep fC.out hb); replace c1a_ := bcell hb c1a_
   replace c1b_ := bcell hb c1b_; replace h1_ := Lib.hid (h1_.out.below hb); replace c2a_ := bcell hb c2a_; replace c2b_ := bcell hb c2b_
   replace h2_ := Lib.hid (h2_.out.below hb); replace c3a_ := bcell hb c3a_; replace c3b_ := bcell hb c3b_; replace h3_ := Lib.hid (h3_.out.below hb)
   replace fV := blk_below fV hb
   have hM := hM'
   clear hM'
   refine hK.out _ _ ⟨c1a_, c1b_, c2a_, c2b_, c3a_, c3b_⟩ (fun hHeld88 => ?_)
   clear hK K hHeld43 hb
   try simp only [oW25_6, hwA]
   refine hwr 8 oW25_8 (fun K hK => ?_)
   obtain ⟨r0, r1, rf0, rf1⟩ := blkR fV
   dsimp only [oW25_8]; go_simp
   (try go_wp2_with fail)
   have hQq := stLet2 fV (.int .i64 km) (.slice am nx qm)
   clear fV r0 r1 rf0 rf1
   obtain ⟨X50, hXq, hsq, fV, zX50a, zX50b⟩ := hQq
   rw [hXq]
   replace fR := hsq.blk (by omega) fR; replace f3 := hsq.blk (by omega) f3; replace fC := Lib.hid (hsq.bel fC.out (by omega)); replace c1a_ := hsq.cell (by show b ≠ U16.heap.size; omega) c1a_
   replace c1b_ := hsq.cell (by show b ≠ U16.heap.size; omega) c1b_; replace h1_ := Lib.hid (hsq.rep (fun b hb => by have h1 := hb.2; omega) h1_.out); replace c2a_ := hsq.cell (by show b ≠ U16.heap.size; omega) c2a_; replace c2b_ := hsq.cell (by show b ≠ U16.heap.size; omega) c2b_
   replace h2_ := Lib.hid (hsq.rep (fun b hb => by have h1 := hb.2; omega) h2_.out); replace c3a_ := hsq.cell (by show b ≠ U16.heap.size; omega) c3a_; replace c3b_ := hsq.cell (by show b ≠ U16.heap.size; omega) c3b_; replace h3_ := Lib.hid (hsq.rep (fun b hb => by have h1 := hb.2; omega) h3_.out)
   replace hM := Lib.hid (hsq.rep (fun b hb => by have h1 : X48.heap.size ≤ b := hb.1; have h2 : b < X49.heap.size := hb.2; omega) hM.out)
   refine hK.out _ _ ⟨c1a_, c1b_, c2a_, c2b_, c3a_, c3b_⟩ (fun hHeld89 => ?_)
   clear hK K hHeld88 hsq hXq
   try simp only [oW25_8, hwA]
   refine wpAnyH_done (by kernel_rfl) ?_ _
   refine NoPanic.normal ?_
   clear hHeld89
   go_wp2_with fail
   refine wp_region_noPanic ?_
   refine wp_region_held_drew (S := fun w' => w'.cell? ⟨w2.heap.size + 1, 0, none⟩ = some (.int .i64 3) ∧ w'.cell? ⟨w2.heap.size + 1, 1, none⟩ = some (.slice none 0 0) ∧ w'.cell? ⟨U16.heap.size, 0, none⟩ = some (.int .i64 km) ∧ w'.cell? ⟨U16.heap.size, 1, none⟩ = some (.slice am nx qm)) (by kernel_rfl) ?_ (fun hHeld0 => ?_)
   · exact ⟨blk_cell f3 rfl, blk_cell f3 rfl, blk_cell fV rfl, blk_cell fV rfl⟩
   obtain ⟨U18, hU, hb, zU18a, zU18b⟩ := drLet X50
   rw [hU] at hHeld0 ⊢
   replace fR := blk_below fR hb; replace f3 := blk_below f3 hb; replace fC := Lib.hid (bstep fC.out hb); replace c1a_ := bcell hb c1a_
   replace c1b_ := bcell hb c1b_; replace h1_ := Lib.hid (h1_.out.below hb); replace c2a_ := bcell hb c2a_; replace c2b_ := bcell hb c2b_
   replace h2_ := Lib.hid (h2_.out.below hb); replace c3a_ := bcell hb c3a_; replace c3b_ := bcell hb c3b_; replace h3_ := Lib.hid (h3_.out.below hb)
   replace fV := blk_below fV hb; replace hM := Lib.hid (hM.out.below hb)
   (try simp only [World.size_alloc] at zU18a zU18b)
   clear hU hb
   refine hwt 0 oW26_0 (.agg #[.int .i64 3, .slice none 0 0]) hHeld0 ?_ ?_
   · intro w' hSw; dsimp only [oW26_0]; go_simp
   try simp only [oW26_0, hwA]
   refine hwt 1 oW26_1 (.agg #[.int .i64 km, .slice am nx qm]) hHeld0 ?_ ?_
   · intro w' hSw; dsimp only [oW26_1]; go_simp
   try simp only [oW26_1, hwA]
   refine hwt 2 oW26_2 (.agg #[.int .i64 km, .slice am nx qm]) hHeld0 ?_ ?_
   · intro w' hSw; dsimp only [oW26_2]; go_simp
   try simp only [oW26_2, hwA]
   refine hwt 4 oW26_4 (.agg #[.int .i64 km, .slice am nx qm]) hHeld0 ?_ ?_
   · intro w' hSw; dsimp only [oW26_4]; go_simp
   try simp only [oW26_4, hwA]
   refine hwr 3 oW26_3 (fun K hK => ?_)
   dsimp only [oW26_3]; go_simp
   (try go_wp2_with fail)
   obtain ⟨X71, hXq, hb, fL, zX71a, zX71b⟩ := alLet U18 (.cells #[.int .i64 3, .slice none 0 0, .int .i64 km, .slice am nx qm, .int .i64 km, .slice am nx qm] 31)
   rw [hXq]
   replace fR := blk_below fR hb; replace f3 := blk_below f3 hb; replace fC := Lib.hid (bstep fC.out hb); replace c1a_ := bcell hb c1a_
   replace c1b_ := bcell hb c1b_; replace h1_ := Lib.hid (h1_.out.below hb); replace c2a_ := bcell hb c2a_; replace c2b_ := bcell hb c2b_
   replace h2_ := Lib.hid (h2_.out.below hb); replace c3a_ := bcell hb c3a_; replace c3b_ := bcell hb c3b_; replace h3_ := Lib.hid (h3_.out.below hb)
   replace fV := blk_below fV hb; replace hM := Lib.hid (hM.out.below hb)
   refine hK.out _ _ ⟨blk_cell f3 rfl, blk_cell f3 rfl, blk_cell fV rfl, blk_cell fV rfl⟩ (fun hHeld130 => ?_)
   clear hK K hHeld0 hb hXq
   try simp only [oW26_3, hwA]
   refine hwt 5 oW26_5 (.slice (some ⟨U18.heap.size, 0, none⟩) 3 3) hHeld130 ?_ ?_
   · intro w' hSw; dsimp only [oW26_5]; go_simp
   try simp only [oW26_5, hwA]
   refine hwr 6 oW26_6 (fun K hK => ?_)
   obtain ⟨r0, r1, rf0, rf1⟩ := blkR fR
   dsimp only [oW26_6]; go_simp
   (try go_wp2_with fail)
   have hQq := stLet2 fR (.int .i64 km) (.slice am nx qm)
   clear fR r0 r1 rf0 rf1
   obtain ⟨X72, hXq, hsq, fR, zX72a, zX72b⟩ := hQq
   rw [hXq]
   replace f3 := hsq.blk (by omega) f3; replace fC := Lib.hid (hsq.bel fC.out (by omega)); replace c1a_ := hsq.cell (by show b ≠ w.heap.size + 1; omega) c1a_; replace c1b_ := hsq.cell (by show b ≠ w.heap.size + 1; omega) c1b_
   replace h1_ := Lib.hid (hsq.rep (fun b hb => by have h1 := hb.2; omega) h1_.out); replace c2a_ := hsq.cell (by show b ≠ w.heap.size + 1; omega) c2a_; replace c2b_ := hsq.cell (by show b ≠ w.heap.size + 1; omega) c2b_; replace h2_ := Lib.hid (hsq.rep (fun b hb => by have h1 := hb.2; omega) h2_.out)
   replace c3a_ := hsq.cell (by show b ≠ w.heap.size + 1; omega) c3a_; replace c3b_ := hsq.cell (by show b ≠ w.heap.size + 1; omega) c3b_; replace h3_ := Lib.hid (hsq.rep (fun b hb => by have h1 := hb.2; omega) h3_.out); replace fV := hsq.blk (by omega) fV
   replace hM := Lib.hid (hsq.rep (fun b hb => by have h1 : X48.heap.size ≤ b := hb.1; have h2 : b < X49.heap.size := hb.2; omega) hM.out); replace fL := hsq.blk (by omega) fL
   refine hK.out _ _ ⟨blk_cell f3 rfl, blk_cell f3 rfl, blk_cell fV rfl, blk_cell fV rfl⟩ (fun hHeld131 => ?_)
   clear hK K hHeld130 hsq hXq
   try simp only [oW26_6, hwA]
   refine hwt 7 oW26_7 (.bool true) hHeld131 ?_ ?_
   · intro w' hSw; dsimp only [oW26_7]; go_simp
   try simp only [oW26_7, hwA]
   refine wpAnyH_done (by kernel_rfl) ?_ _
   refine NoPanic.normal ?_
   clear hHeld131
   have rc0 := blk_cell fR (o := 0) rfl
   have rc1 := blk_cell fR (o := 1) rfl
   go_wp2_with fail
   refine bodyPost_ret (v := .tuple #[.slice (some ⟨U18.heap.size, 0, none⟩) 3 3, .agg #[.int .i64 km, .slice am nx qm], .bool true]) (by simp [results, Try.results39, go_sem, rc0, rc1]) rfl ?_
   have hw2 : w.heap.size ≤ w2.heap.size := HB1.out.size
   refine ⟨_, _, _, _, _, _, _, _, rfl, by rw [HOO.out]; rfl, ?_, fC.out⟩
   intro ws t h
   rw [HOO.out] at h
   simp only [Option.some.injEq, Prod.mk.injEq] at h
   obtain ⟨rfl, rfl⟩ := h
   have hMM := hM.out.move (.weaken (G := fun x => G x ∨ w.heap.size ≤ x) fun b h _ => .inr (by have h1 := h.1; omega))
   exact ⟨TysRep.three_mk (b := U18.heap.size) (cap := 3) (k1 := 3) (k2 := km) (k3 := km) (c1 := .slice none 0 0) (c2 := .slice am nx qm) (c3 := .slice am nx qm) (.inr (by omega)) (Nat.le_refl 3) (by unfold maxLen; omega) (blk_cell fL (o := 0) rfl) (blk_cell fL (o := 1) rfl) (blk_cell fL (o := 2) rfl) (blk_cell fL (o := 3) rfl) (blk_cell fL (o := 4) rfl) (blk_cell fL (o := 5) rfl) (TyRep.leafG 3) hMM hMM, hMM⟩
end Go.Proofs.Ytkhmkohgnikcmaa
