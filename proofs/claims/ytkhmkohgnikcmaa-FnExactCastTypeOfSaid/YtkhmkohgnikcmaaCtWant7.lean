/-
  impl.wanted at sums and comparisons.
-/
import Derived.Test.YtkhmkohgnikcmaaCtWant11
namespace Go.Proofs.Ytkhmkohgnikcmaa
open Go.RowKit
set_option linter.unusedVariables false
set_option linter.unusedSimpArgs false
set_option maxRecDepth 100000

theorem want_ar {k : Int} {ty : Ty} {g h : S} (hk : k = 7 ∨ k = 8) : wantS k ty [g, h] = if (g.cons .int && h.cons .int) = true then some ([.int, .int], if k = 8 then .bool else .int) else none := by
  have h6 : ¬ k = 6 := by omega
  have h10 : ¬ k = 10 := by omega
  simp only [wantS, if_neg h6, if_neg h10]
def oW21_0 : Oper := ⟨some 84, Op.load 31 (Operand.tmp 9), 31, "l3_typing.go:119", #[], none⟩
def oW21_1 : Oper := ⟨some 85, Op.load 31 (Operand.tmp 9), 31, "l3_typing.go:119", #[], none⟩
def oW21_2 : Oper := ⟨some 86, Op.buildSlice 29 2 #[(0, Operand.tmp 84), (1, Operand.tmp 85)], 29, "l3_typing.go:119", #[⟨0, .data⟩, ⟨1, .data⟩], none⟩
def oW21_3 : Oper := ⟨some 87, Op.load 31 (Operand.tmp 16), 31, "l3_typing.go:119", #[⟨16, .gcOnly .lateStores⟩], none⟩
def oW21_4 : Oper := ⟨some 88, Op.move (Operand.tmp 2), 29, "l3_typing.go:119", #[], none⟩
def oW21_5 : Oper := ⟨some 89, Op.indexAddr 29 (Operand.tmp 88) (Operand.const (Value.int IntKind.i64 0)), 0, "l3_typing.go:119", #[⟨4, .data⟩], none⟩
def oW21_6 : Oper := ⟨some 90, Op.load 31 (Operand.tmp 89), 31, "l3_typing.go:119", #[⟨5, .data⟩], none⟩
def oW21_7 : Oper := ⟨some 91, Op.load 31 (Operand.tmp 9), 31, "l3_typing.go:119", #[], none⟩
def oW21_8 : Oper := ⟨some 92, Op.call { callee := Callee.value (Operand.func 58), args := #[Operand.tmp 90, Operand.tmp 91], argTypes := #[31, 31] }, 4, "l3_typing.go:119", #[⟨6, .data⟩, ⟨7, .data⟩], none⟩
def oW21_9 : Oper := ⟨some 93, Op.move (Operand.tmp 92), 4, "l3_typing.go:119", #[⟨8, .data⟩, ⟨8, .chain⟩], none⟩
def oW21_10 : Oper := ⟨some 94, Op.move (Operand.tmp 2), 29, "l3_typing.go:119", #[⟨9, .guard⟩], some (9, true)⟩
def oW21_11 : Oper := ⟨some 95, Op.indexAddr 29 (Operand.tmp 94) (Operand.const (Value.int IntKind.i64 1)), 0, "l3_typing.go:119", #[⟨10, .data⟩, ⟨9, .guard⟩], some (9, true)⟩
def oW21_12 : Oper := ⟨some 96, Op.load 31 (Operand.tmp 95), 31, "l3_typing.go:119", #[⟨11, .data⟩, ⟨9, .guard⟩], some (9, true)⟩
def oW21_13 : Oper := ⟨some 97, Op.load 31 (Operand.tmp 9), 31, "l3_typing.go:119", #[⟨9, .guard⟩], some (9, true)⟩
def oW21_14 : Oper := ⟨some 98, Op.call { callee := Callee.value (Operand.func 58), args := #[Operand.tmp 96, Operand.tmp 97], argTypes := #[31, 31] }, 4, "l3_typing.go:119", #[⟨12, .data⟩, ⟨13, .data⟩, ⟨9, .chain⟩, ⟨9, .guard⟩], some (9, true)⟩
def oW21_15 : Oper := ⟨some 99, Op.pick (Operand.tmp 93) (Operand.tmp 98) (Operand.const (Value.bool false)), 4, "l3_typing.go:119", #[⟨9, .data⟩, ⟨14, .data⟩, ⟨17, .gcOnly .lateStores⟩], none⟩
def oW21_16 : Oper := ⟨some 6, Op.assign (Operand.tmp 86), 29, "l3_typing.go:119", #[⟨2, .data⟩, ⟨14, .chain⟩, ⟨0, .phase⟩, ⟨1, .phase⟩, ⟨2, .phase⟩, ⟨3, .textOnly .lateStores⟩, ⟨4, .textOnly .lateStores⟩, ⟨5, .textOnly .lateStores⟩, ⟨6, .textOnly .lateStores⟩, ⟨7, .textOnly .lateStores⟩, ⟨8, .textOnly .lateStoresUnsure⟩, ⟨9, .textOnly .lateStores⟩, ⟨10, .textOnly .lateStores⟩, ⟨11, .textOnly .lateStores⟩, ⟨12, .textOnly .lateStores⟩, ⟨13, .textOnly .lateStores⟩, ⟨14, .textOnly .lateStoresUnsure⟩, ⟨15, .textOnly .lateStores⟩], none⟩
def oW21_17 : Oper := ⟨none, Op.store 31 (Operand.tmp 7) (Operand.tmp 87), 0, "l3_typing.go:119", #[⟨3, .data⟩, ⟨16, .chain⟩, ⟨0, .phase⟩, ⟨1, .phase⟩, ⟨2, .phase⟩, ⟨3, .phase⟩, ⟨4, .textOnly .lateStores⟩, ⟨5, .textOnly .lateStores⟩, ⟨6, .textOnly .lateStores⟩, ⟨7, .textOnly .lateStores⟩, ⟨8, .textOnly .lateStoresUnsure⟩, ⟨9, .textOnly .lateStores⟩, ⟨10, .textOnly .lateStores⟩, ⟨11, .textOnly .lateStores⟩, ⟨12, .textOnly .lateStores⟩, ⟨13, .textOnly .lateStores⟩, ⟨14, .textOnly .lateStoresUnsure⟩, ⟨15, .textOnly .lateStores⟩, ⟨16, .phase⟩], none⟩
def oW21_18 : Oper := ⟨some 8, Op.assign (Operand.tmp 99), 4, "l3_typing.go:119", #[⟨15, .data⟩, ⟨17, .chain⟩, ⟨0, .phase⟩, ⟨1, .phase⟩, ⟨2, .phase⟩, ⟨3, .phase⟩, ⟨4, .phase⟩, ⟨5, .phase⟩, ⟨6, .phase⟩, ⟨7, .phase⟩, ⟨8, .phase⟩, ⟨9, .phase⟩, ⟨10, .phase⟩, ⟨11, .phase⟩, ⟨12, .phase⟩, ⟨13, .phase⟩, ⟨14, .phase⟩, ⟨15, .phase⟩, ⟨16, .phase⟩, ⟨17, .phase⟩], none⟩
set_option maxHeartbeats 4000000 in
theorem implWanted_7_f (G : Nat → Prop) (c y : Value) (hcs : ∃ a n q, c = .slice a n q) (nm : ByteArray) (u lb tk fk : Int) (ty : Ty) (ta fa ca : Option Addr) (tn tq fn fq cm cq : Nat) (w : World) (h1 h2 : S) (hd : h1.cons .int = false) (hy : TysRep G w [h1.ty, h2.ty] y) :
    Calls Try.prog 39 #[c, .agg #[.int .i64 7, .string nm, .int .i64 u, .int .i64 tk, .slice ta tn tq, .int .i64 fk, .slice fa fn fq, .int .i64 lb, .slice ca cm cq], y] w (RetW G (wantS 7 ty [h1, h2]) w) := by
  obtain ⟨b, off, cap, k1, c1, m1, q1, k2, c2, m2, q2, rfl, -, -, hlb, e1a, e1b, e2a, e2b, ht1, ht2⟩ := hy.two
  obtain ⟨xa0, xn0, xq0, rfl⟩ := hcs
  have HOO := Lib.hid (want_ar (k := 7) (ty := ty) (g := h1) (h := h2) (by omega))
  have H1 := Lib.hid (ht1.move (.weaken (G := (fun x => G x ∧ x < w.heap.size)) fun b h hl => ⟨h, hl⟩))
  have H2 := Lib.hid (ht2.move (.weaken (G := (fun x => G x ∧ x < w.heap.size)) fun b h hl => ⟨h, hl⟩))
  generalize wantS 7 ty [h1, h2] = O at HOO ⊢
  obtain ⟨d2, hd2⟩ : ∃ d2, h2.cons .int = d2 := ⟨_, rfl⟩
  have HD1 := Lib.hid hd
  have HD2 := Lib.hid hd2
  clear hy ht1 ht2 hd hd2
  go_enter Try.func39, Try.ntmps39
  go_wp2_with fail
  refine (implBaseW _ _).mono ?_
  rintro e w1 ⟨rfl, hb1⟩
  have HB1 := Lib.hid (bstep (bstep bal1 bal1) hb1)
  have fR0 := blk_below (blk_new (w := w.alloc (.cells #[.int .i64 7, .string nm, .int .i64 u, .int .i64 tk, .slice ta tn tq, .int .i64 fk, .slice fa fn fq, .int .i64 lb, .slice ca cm cq] 36)) (o := .cells #[.int .i64 0, .slice none 0 0] 31) (b := w.heap.size + 1) (by simp)) hb1
  have fE0 := blk_below (blk_below (blk_new (w := w) (o := .cells #[.int .i64 7, .string nm, .int .i64 u, .int .i64 tk, .slice ta tn tq, .int .i64 fk, .slice fa fn fq, .int .i64 lb, .slice ca cm cq] 36) rfl) (bal1 (o := .cells #[.int .i64 0, .slice none 0 0] 31))) hb1
  clear hb1
  go_wp2_with fail
  refine (implBaseW _ _).mono ?_
  rintro e w2 ⟨rfl, hb2⟩
  replace fE0 := blk_below fE0 hb2
  replace HB1 := Lib.hid (bstep HB1.out hb2)
  replace fR0 := blk_below fR0 hb2
  have hlr := blk_lt fR0
  clear hb2
  have d0 := blk_cell fE0 (o := 0) rfl
  have d1 := blk_cell fE0 (o := 1) rfl
  have lE := blk_lt fE0
  have lE2 : w.heap.size < w2.heap.size + 1 + 1 := by omega
  have lE1 : w.heap.size < w2.heap.size + 1 := by omega
  have HBV := Lib.hid (show Below w.heap.size w ((w2.alloc (.cells #[.int .i64 2, .slice none 0 0] 31)).alloc (.cells #[.int .i64 3, .slice none 0 0] 31)) from bstep (bstep HB1.out bal1) bal1)
  have lE3 : w.heap.size < w2.heap.size + 1 + 1 + 1 := by omega
  go_wp2_with fail
  obtain ⟨VV, hVV⟩ : ∃ X, X = (((w2.alloc (.cells #[.int .i64 2, .slice none 0 0] 31)).alloc (.cells #[.int .i64 3, .slice none 0 0] 31)).alloc (.cells #[.int .i64 2, .slice none 0 0] 31)) := ⟨_, rfl⟩
  have fR : VV.heap[w.heap.size + 1]? = some (.cells #[.int .i64 0, .slice none 0 0] 31 (0, 0)) := by rw [hVV]; exact blk_below (blk_below (blk_below fR0 bal1) bal1) bal1
  have f2 : VV.heap[w2.heap.size]? = some (.cells #[.int .i64 2, .slice none 0 0] 31 (0, 0)) := by rw [hVV]; exact blk_below (blk_below (blk_new rfl) bal1) bal1
  have fT : VV.heap[w2.heap.size + 1 + 1]? = some (.cells #[.int .i64 2, .slice none 0 0] 31 (0, 0)) := by rw [hVV]; exact blk_new (by simp)
  have fC : Hid (Below w.heap.size w VV) := by rw [hVV]; exact Lib.hid (bstep HBV.out bal1)
  have c1a_ : VV.cell? ⟨b, off, none⟩ = some (.int .i64 k1) := by rw [hVV]; exact bcell bal1 (bcell HBV.out e1a)
  have c1b_ : VV.cell? ⟨b, off + 1, none⟩ = some (.slice c1 m1 q1) := by rw [hVV]; exact bcell bal1 (bcell HBV.out e1b)
  have h1_ : Hid (TyRep (fun x => G x ∧ x < w.heap.size) VV h1.ty (.agg #[.int .i64 k1, .slice c1 m1 q1])) := by rw [hVV]; exact Lib.hid ((H1.out.below HBV.out).below bal1)
  have c2a_ : VV.cell? ⟨b, off + 2, none⟩ = some (.int .i64 k2) := by rw [hVV]; exact bcell bal1 (bcell HBV.out e2a)
  have c2b_ : VV.cell? ⟨b, off + 3, none⟩ = some (.slice c2 m2 q2) := by rw [hVV]; exact bcell bal1 (bcell HBV.out e2b)
  have h2_ : Hid (TyRep (fun x => G x ∧ x < w.heap.size) VV h2.ty (.agg #[.int .i64 k2, .slice c2 m2 q2])) := by rw [hVV]; exact Lib.hid ((H2.out.below HBV.out).below bal1)
  rw [← hVV]
  have zV : VV.heap.size = _ := congrArg (fun X : World => X.heap.size) hVV
  simp only [World.size_alloc] at zV
  refine wp_region_noPanic ?_
  refine wp_region_held_drew (S := fun w' => w'.cell? ⟨w2.heap.size, 0, none⟩ = some (.int .i64 2) ∧ w'.cell? ⟨w2.heap.size, 1, none⟩ = some (.slice none 0 0) ∧ w'.cell? ⟨w2.heap.size + 1 + 1, 0, none⟩ = some (.int .i64 2) ∧ w'.cell? ⟨w2.heap.size + 1 + 1, 1, none⟩ = some (.slice none 0 0) ∧ w'.cell? ⟨b, off, none⟩ = some (.int .i64 k1) ∧ w'.cell? ⟨b, off + 1, none⟩ = some (.slice c1 m1 q1) ∧ w'.cell? ⟨b, off + 2, none⟩ = some (.int .i64 k2) ∧ w'.cell? ⟨b, off + 3, none⟩ = some (.slice c2 m2 q2)) (by kernel_rfl) ?_ (fun hHeld0 => ?_)
  · exact ⟨blk_cell f2 rfl, blk_cell f2 rfl, blk_cell fT rfl, blk_cell fT rfl, c1a_, c1b_, c2a_, c2b_⟩
  obtain ⟨U9, hU, hb, zU9a, zU9b⟩ := drLet VV
  rw [hU] at hHeld0 ⊢
  replace fR := blk_below fR hb; replace f2 := blk_below f2 hb; replace fT := blk_below fT hb; replace fC := Lib.hid (bstep fC.out hb)
  replace c1a_ := bcell hb c1a_; replace c1b_ := bcell hb c1b_; replace h1_ := Lib.hid (h1_.out.below hb); replace c2a_ := bcell hb c2a_
  replace c2b_ := bcell hb c2b_; replace h2_ := Lib.hid (h2_.out.below hb)
  rw [zV] at zU9a zU9b
  clear hU hb hVV zV
  refine hwt 0 oW21_0 (.agg #[.int .i64 2, .slice none 0 0]) hHeld0 ?_ ?_
  · intro w' hSw; dsimp only [oW21_0]; go_simp
  try simp only [oW21_0, hwA]
  refine hwt 1 oW21_1 (.agg #[.int .i64 2, .slice none 0 0]) hHeld0 ?_ ?_
  · intro w' hSw; dsimp only [oW21_1]; go_simp
  try simp only [oW21_1, hwA]
  refine hwt 3 oW21_3 (.agg #[.int .i64 2, .slice none 0 0]) hHeld0 ?_ ?_
  · intro w' hSw; dsimp only [oW21_3]; go_simp
  try simp only [oW21_3, hwA]
  refine hwt 4 oW21_4 (.slice (some ⟨b, off, none⟩) 2 cap) hHeld0 ?_ ?_
  · intro w' hSw; dsimp only [oW21_4]; go_simp
  try simp only [oW21_4, hwA]
  refine hwt 5 oW21_5 (.pointer (some ⟨b, off, none⟩)) hHeld0 ?_ ?_
  · intro w' hSw; dsimp only [oW21_5]; go_simp
  try simp only [oW21_5, hwA]
  refine hwt 6 oW21_6 (.agg #[.int .i64 k1, .slice c1 m1 q1]) hHeld0 ?_ ?_
  · intro w' hSw; dsimp only [oW21_6]; go_simp
  try simp only [oW21_6, hwA]
  refine hwt 7 oW21_7 (.agg #[.int .i64 2, .slice none 0 0]) hHeld0 ?_ ?_
  · intro w' hSw; dsimp only [oW21_7]; go_simp
  try simp only [oW21_7, hwA]
  refine wpAnyH_ready (rs := [2, 8]) (by kernel_rfl) (by simp) ?_
  refine (AllReadyH.cons (o := oW21_2) rfl (fun K hK => ?_) (AllReadyH.cons (o := oW21_8) rfl (fun K hK => ?_) AllReadyH.nil))
  ·skip
   dsimp only [oW21_2]; go_simp
   (try go_wp2_with fail)
   obtain ⟨X1, hXq, hb, fL, zX1a, zX1b⟩ := alLet U9 (.cells #[.int .i64 2, .slice none 0 0, .int .i64 2, .slice none 0 0] 31)
   rw [hXq]
   replace fR := blk_below fR hb; replace f2 := blk_below f2 hb; replace fT := blk_below fT hb; replace fC := Lib.hid (bstep fC.out hb)
   replace c1a_ := bcell hb c1a_; replace c1b_ := bcell hb c1b_; replace h1_ := Lib.hid (h1_.out.below hb); replace c2a_ := bcell hb c2a_
   replace c2b_ := bcell hb c2b_; replace h2_ := Lib.hid (h2_.out.below hb)
   refine hK.out _ _ ⟨blk_cell f2 rfl, blk_cell f2 rfl, blk_cell fT rfl, blk_cell fT rfl, c1a_, c1b_, c2a_, c2b_⟩ (fun hHeld1 => ?_)
   clear hK K hHeld0 hb hXq
   try simp only [oW21_2, hwA]
   refine hwr 8 oW21_8 (fun K hK => ?_)
   dsimp only [oW21_8]; go_simp
   go_at_call 58
   refine (implConsistent0 _ (fun _ => True) _ (.mk 2 []) _ _ _ h1_.out (TyRep.leaf 2)).mono ?_
   rintro e X2 ⟨rfl, hb⟩
   rw [show (Ty.mk 2 []) = S.int.ty from rfl, S.ty_cons, HD1.out]
   go_wp2_with fail
   have zX2 : X1.heap.size ≤ X2.heap.size := hb.size
   replace fR := blk_below fR hb; replace f2 := blk_below f2 hb; replace fT := blk_below fT hb; replace fC := Lib.hid (bstep fC.out hb)
   replace c1a_ := bcell hb c1a_; replace c1b_ := bcell hb c1b_; replace h1_ := Lib.hid (h1_.out.below hb); replace c2a_ := bcell hb c2a_
   replace c2b_ := bcell hb c2b_; replace h2_ := Lib.hid (h2_.out.below hb); replace fL := blk_below fL hb
   refine hK.out _ _ ⟨blk_cell f2 rfl, blk_cell f2 rfl, blk_cell fT rfl, blk_cell fT rfl, c1a_, c1b_, c2a_, c2b_⟩ (fun hHeld2 => ?_)
   clear hK K hHeld1 hb
   try simp only [oW21_8, hwA]
   refine hwt 9 oW21_9 (.bool false) hHeld2 ?_ ?_
   · intro w' hSw; dsimp only [oW21_9]; go_simp
   try simp only [oW21_9, hwA]
   refine hwn 10 oW21_10 hHeld2 ?_
   try simp only [oW21_10, hwA]
   refine hwn 11 oW21_11 hHeld2 ?_
   try simp only [oW21_11, hwA]
   refine hwn 12 oW21_12 hHeld2 ?_
   try simp only [oW21_12, hwA]
   refine hwn 13 oW21_13 hHeld2 ?_
   try simp only [oW21_13, hwA]
   refine hwn 14 oW21_14 hHeld2 ?_
   try simp only [oW21_14, hwA]
   refine hwt 15 oW21_15 (.bool false) hHeld2 ?_ ?_
   · intro w' hSw; dsimp only [oW21_15]; go_simp
   try simp only [oW21_15, hwA]
   refine hwt 16 oW21_16 (.slice (some ⟨U9.heap.size, 0, none⟩) 2 2) hHeld2 ?_ ?_
   · intro w' hSw; dsimp only [oW21_16]; go_simp
   try simp only [oW21_16, hwA]
   refine hwr 17 oW21_17 (fun K hK => ?_)
   obtain ⟨r0, r1, rf0, rf1⟩ := blkR fR
   dsimp only [oW21_17]; go_simp
   (try go_wp2_with fail)
   have hQq := stLet2 fR (.int .i64 2) (.slice none 0 0)
   clear fR r0 r1 rf0 rf1
   obtain ⟨X3, hXq, hsq, fR, zX3a, zX3b⟩ := hQq
   rw [hXq]
   replace f2 := hsq.blk (by omega) f2; replace fT := hsq.blk (by omega) fT; replace fC := Lib.hid (hsq.bel fC.out (by omega)); replace c1a_ := hsq.cell (by show b ≠ w.heap.size + 1; omega) c1a_
   replace c1b_ := hsq.cell (by show b ≠ w.heap.size + 1; omega) c1b_; replace h1_ := Lib.hid (hsq.rep (fun b hb => by have h1 := hb.2; omega) h1_.out); replace c2a_ := hsq.cell (by show b ≠ w.heap.size + 1; omega) c2a_; replace c2b_ := hsq.cell (by show b ≠ w.heap.size + 1; omega) c2b_
   replace h2_ := Lib.hid (hsq.rep (fun b hb => by have h1 := hb.2; omega) h2_.out); replace fL := hsq.blk (by omega) fL
   refine hK.out _ _ ⟨blk_cell f2 rfl, blk_cell f2 rfl, blk_cell fT rfl, blk_cell fT rfl, c1a_, c1b_, c2a_, c2b_⟩ (fun hHeld3 => ?_)
   clear hK K hHeld2 hsq hXq
   try simp only [oW21_17, hwA]
   refine hwt 18 oW21_18 (.bool false) hHeld3 ?_ ?_
   · intro w' hSw; dsimp only [oW21_18]; go_simp
   try simp only [oW21_18, hwA]
   refine wpAnyH_done (by kernel_rfl) ?_ _
   refine NoPanic.normal ?_
   clear hHeld3
   have rc0 := blk_cell fR (o := 0) rfl
   have rc1 := blk_cell fR (o := 1) rfl
   go_wp2_with fail
   refine bodyPost_ret (v := .tuple #[.slice (some ⟨U9.heap.size, 0, none⟩) 2 2, .agg #[.int .i64 2, .slice none 0 0], .bool false]) (by simp [results, Try.results39, go_sem, rc0, rc1]) rfl ?_
   have hw2 : w.heap.size ≤ w2.heap.size := HB1.out.size
   have HN : O = none := by rw [HOO.out, HD1.out]; rfl
   exact ⟨_, _, _, _, _, _, _, _, rfl, by rw [HN]; rfl, (by rw [HN]; intro ws t h; cases h), fC.out⟩
  ·skip
   dsimp only [oW21_8]; go_simp
   go_at_call 58
   refine (implConsistent0 _ (fun _ => True) _ (.mk 2 []) _ _ _ h1_.out (TyRep.leaf 2)).mono ?_
   rintro e X4 ⟨rfl, hb⟩
   rw [show (Ty.mk 2 []) = S.int.ty from rfl, S.ty_cons, HD1.out]
   go_wp2_with fail
   have zX4 : U9.heap.size ≤ X4.heap.size := hb.size
   replace fR := blk_below fR hb; replace f2 := blk_below f2 hb; replace fT := blk_below fT hb; replace fC := Lib.hid (bstep fC.out hb)
   replace c1a_ := bcell hb c1a_; replace c1b_ := bcell hb c1b_; replace h1_ := Lib.hid (h1_.out.below hb); replace c2a_ := bcell hb c2a_
   replace c2b_ := bcell hb c2b_; replace h2_ := Lib.hid (h2_.out.below hb)
   refine hK.out _ _ ⟨blk_cell f2 rfl, blk_cell f2 rfl, blk_cell fT rfl, blk_cell fT rfl, c1a_, c1b_, c2a_, c2b_⟩ (fun hHeld1 => ?_)
   clear hK K hHeld0 hb
   try simp only [oW21_8, hwA]
   refine hwt 9 oW21_9 (.bool false) hHeld1 ?_ ?_
   · intro w' hSw; dsimp only [oW21_9]; go_simp
   try simp only [oW21_9, hwA]
   refine hwn 10 oW21_10 hHeld1 ?_
   try simp only [oW21_10, hwA]
   refine hwn 11 oW21_11 hHeld1 ?_
   try simp only [oW21_11, hwA]
   refine hwn 12 oW21_12 hHeld1 ?_
   try simp only [oW21_12, hwA]
   refine hwn 13 oW21_13 hHeld1 ?_
   try simp only [oW21_13, hwA]
   refine hwn 14 oW21_14 hHeld1 ?_
   try simp only [oW21_14, hwA]
   refine hwt 15 oW21_15 (.bool false) hHeld1 ?_ ?_
   · intro w' hSw; dsimp only [oW21_15]; go_simp
   try simp only [oW21_15, hwA]
   refine hwr 2 oW21_2 (fun K hK => ?_)
   dsimp only [oW21_2]; go_simp
   (try go_wp2_with fail)
   obtain ⟨X5, hXq, hb, fL, zX5a, zX5b⟩ := alLet X4 (.cells #[.int .i64 2, .slice none 0 0, .int .i64 2, .slice none 0 0] 31)
   rw [hXq]
   replace fR := blk_below fR hb; replace f2 := blk_below f2 hb; replace fT := blk_below fT hb; replace fC := Lib.hid (bstep fC.out hb)
   replace c1a_ := bcell hb c1a_; replace c1b_ := bcell hb c1b_; replace h1_ := Lib.hid (h1_.out.below hb); replace c2a_ := bcell hb c2a_
   replace c2b_ := bcell hb c2b_; replace h2_ := Lib.hid (h2_.out.below hb)
   refine hK.out _ _ ⟨blk_cell f2 rfl, blk_cell f2 rfl, blk_cell fT rfl, blk_cell fT rfl, c1a_, c1b_, c2a_, c2b_⟩ (fun hHeld4 => ?_)
   clear hK K hHeld1 hb hXq
   try simp only [oW21_2, hwA]
   refine hwt 16 oW21_16 (.slice (some ⟨X4.heap.size, 0, none⟩) 2 2) hHeld4 ?_ ?_
   · intro w' hSw; dsimp only [oW21_16]; go_simp
   try simp only [oW21_16, hwA]
   refine hwr 17 oW21_17 (fun K hK => ?_)
   obtain ⟨r0, r1, rf0, rf1⟩ := blkR fR
   dsimp only [oW21_17]; go_simp
   (try go_wp2_with fail)
   have hQq := stLet2 fR (.int .i64 2) (.slice none 0 0)
   clear fR r0 r1 rf0 rf1
   obtain ⟨X6, hXq, hsq, fR, zX6a, zX6b⟩ := hQq
   rw [hXq]
   replace f2 := hsq.blk (by omega) f2; replace fT := hsq.blk (by omega) fT; replace fC := Lib.hid (hsq.bel fC.out (by omega)); replace c1a_ := hsq.cell (by show b ≠ w.heap.size + 1; omega) c1a_
   replace c1b_ := hsq.cell (by show b ≠ w.heap.size + 1; omega) c1b_; replace h1_ := Lib.hid (hsq.rep (fun b hb => by have h1 := hb.2; omega) h1_.out); replace c2a_ := hsq.cell (by show b ≠ w.heap.size + 1; omega) c2a_; replace c2b_ := hsq.cell (by show b ≠ w.heap.size + 1; omega) c2b_
   replace h2_ := Lib.hid (hsq.rep (fun b hb => by have h1 := hb.2; omega) h2_.out); replace fL := hsq.blk (by omega) fL
   refine hK.out _ _ ⟨blk_cell f2 rfl, blk_cell f2 rfl, blk_cell fT rfl, blk_cell fT rfl, c1a_, c1b_, c2a_, c2b_⟩ (fun hHeld5 => ?_)
   clear hK K hHeld4 hsq hXq
   try simp only [oW21_17, hwA]
   refine hwt 18 oW21_18 (.bool false) hHeld5 ?_ ?_
   · intro w' hSw; dsimp only [oW21_18]; go_simp
   try simp only [oW21_18, hwA]
   refine wpAnyH_done (by kernel_rfl) ?_ _
   refine NoPanic.normal ?_
   clear hHeld5
   have rc0 := blk_cell fR (o := 0) rfl
   have rc1 := blk_cell fR (o := 1) rfl
   go_wp2_with fail
   refine bodyPost_ret (v := .tuple #[.slice (some ⟨X4.heap.size, 0, none⟩) 2 2, .agg #[.int .i64 2, .slice none 0 0], .bool false]) (by simp [results, Try.results39, go_sem, rc0, rc1]) rfl ?_
   have hw2 : w.heap.size ≤ w2.heap.size := HB1.out.size
   have HN : O = none := by rw [HOO.out, HD1.out]; rfl
   exact ⟨_, _, _, _, _, _, _, _, rfl, by rw [HN]; rfl, (by rw [HN]; intro ws t h; cases h), fC.out⟩
set_option maxHeartbeats 4000000 in
theorem implWanted_7_t (G : Nat → Prop) (c y : Value) (hcs : ∃ a n q, c = .slice a n q) (nm : ByteArray) (u lb tk fk : Int) (ty : Ty) (ta fa ca : Option Addr) (tn tq fn fq cm cq : Nat) (w : World) (h1 h2 : S) (hd : h1.cons .int = true) (hy : TysRep G w [h1.ty, h2.ty] y) :
    Calls Try.prog 39 #[c, .agg #[.int .i64 7, .string nm, .int .i64 u, .int .i64 tk, .slice ta tn tq, .int .i64 fk, .slice fa fn fq, .int .i64 lb, .slice ca cm cq], y] w (RetW G (wantS 7 ty [h1, h2]) w) := by
  obtain ⟨b, off, cap, k1, c1, m1, q1, k2, c2, m2, q2, rfl, -, -, hlb, e1a, e1b, e2a, e2b, ht1, ht2⟩ := hy.two
  obtain ⟨xa0, xn0, xq0, rfl⟩ := hcs
  have HOO := Lib.hid (want_ar (k := 7) (ty := ty) (g := h1) (h := h2) (by omega))
  have H1 := Lib.hid (ht1.move (.weaken (G := (fun x => G x ∧ x < w.heap.size)) fun b h hl => ⟨h, hl⟩))
  have H2 := Lib.hid (ht2.move (.weaken (G := (fun x => G x ∧ x < w.heap.size)) fun b h hl => ⟨h, hl⟩))
  generalize wantS 7 ty [h1, h2] = O at HOO ⊢
  obtain ⟨d2, hd2⟩ : ∃ d2, h2.cons .int = d2 := ⟨_, rfl⟩
  have HD1 := Lib.hid hd
  have HD2 := Lib.hid hd2
  clear hy ht1 ht2 hd hd2
  go_enter Try.func39, Try.ntmps39
  go_wp2_with fail
  refine (implBaseW _ _).mono ?_
  rintro e w1 ⟨rfl, hb1⟩
  have HB1 := Lib.hid (bstep (bstep bal1 bal1) hb1)
  have fR0 := blk_below (blk_new (w := w.alloc (.cells #[.int .i64 7, .string nm, .int .i64 u, .int .i64 tk, .slice ta tn tq, .int .i64 fk, .slice fa fn fq, .int .i64 lb, .slice ca cm cq] 36)) (o := .cells #[.int .i64 0, .slice none 0 0] 31) (b := w.heap.size + 1) (by simp)) hb1
  have fE0 := blk_below (blk_below (blk_new (w := w) (o := .cells #[.int .i64 7, .string nm, .int .i64 u, .int .i64 tk, .slice ta tn tq, .int .i64 fk, .slice fa fn fq, .int .i64 lb, .slice ca cm cq] 36) rfl) (bal1 (o := .cells #[.int .i64 0, .slice none 0 0] 31))) hb1
  clear hb1
  go_wp2_with fail
  refine (implBaseW _ _).mono ?_
  rintro e w2 ⟨rfl, hb2⟩
  replace fE0 := blk_below fE0 hb2
  replace HB1 := Lib.hid (bstep HB1.out hb2)
  replace fR0 := blk_below fR0 hb2
  have hlr := blk_lt fR0
  clear hb2
  have d0 := blk_cell fE0 (o := 0) rfl
  have d1 := blk_cell fE0 (o := 1) rfl
  have lE := blk_lt fE0
  have lE2 : w.heap.size < w2.heap.size + 1 + 1 := by omega
  have lE1 : w.heap.size < w2.heap.size + 1 := by omega
  have HBV := Lib.hid (show Below w.heap.size w ((w2.alloc (.cells #[.int .i64 2, .slice none 0 0] 31)).alloc (.cells #[.int .i64 3, .slice none 0 0] 31)) from bstep (bstep HB1.out bal1) bal1)
  have lE3 : w.heap.size < w2.heap.size + 1 + 1 + 1 := by omega
  go_wp2_with fail
  obtain ⟨VV, hVV⟩ : ∃ X, X = (((w2.alloc (.cells #[.int .i64 2, .slice none 0 0] 31)).alloc (.cells #[.int .i64 3, .slice none 0 0] 31)).alloc (.cells #[.int .i64 2, .slice none 0 0] 31)) := ⟨_, rfl⟩
  have fR : VV.heap[w.heap.size + 1]? = some (.cells #[.int .i64 0, .slice none 0 0] 31 (0, 0)) := by rw [hVV]; exact blk_below (blk_below (blk_below fR0 bal1) bal1) bal1
  have f2 : VV.heap[w2.heap.size]? = some (.cells #[.int .i64 2, .slice none 0 0] 31 (0, 0)) := by rw [hVV]; exact blk_below (blk_below (blk_new rfl) bal1) bal1
  have fT : VV.heap[w2.heap.size + 1 + 1]? = some (.cells #[.int .i64 2, .slice none 0 0] 31 (0, 0)) := by rw [hVV]; exact blk_new (by simp)
  have fC : Hid (Below w.heap.size w VV) := by rw [hVV]; exact Lib.hid (bstep HBV.out bal1)
  have c1a_ : VV.cell? ⟨b, off, none⟩ = some (.int .i64 k1) := by rw [hVV]; exact bcell bal1 (bcell HBV.out e1a)
  have c1b_ : VV.cell? ⟨b, off + 1, none⟩ = some (.slice c1 m1 q1) := by rw [hVV]; exact bcell bal1 (bcell HBV.out e1b)
  have h1_ : Hid (TyRep (fun x => G x ∧ x < w.heap.size) VV h1.ty (.agg #[.int .i64 k1, .slice c1 m1 q1])) := by rw [hVV]; exact Lib.hid ((H1.out.below HBV.out).below bal1)
  have c2a_ : VV.cell? ⟨b, off + 2, none⟩ = some (.int .i64 k2) := by rw [hVV]; exact bcell bal1 (bcell HBV.out e2a)
  have c2b_ : VV.cell? ⟨b, off + 3, none⟩ = some (.slice c2 m2 q2) := by rw [hVV]; exact bcell bal1 (bcell HBV.out e2b)
  have h2_ : Hid (TyRep (fun x => G x ∧ x < w.heap.size) VV h2.ty (.agg #[.int .i64 k2, .slice c2 m2 q2])) := by rw [hVV]; exact Lib.hid ((H2.out.below HBV.out).below bal1)
  rw [← hVV]
  have zV : VV.heap.size = _ := congrArg (fun X : World => X.heap.size) hVV
  simp only [World.size_alloc] at zV
  refine wp_region_noPanic ?_
  refine wp_region_held_drew (S := fun w' => w'.cell? ⟨w2.heap.size, 0, none⟩ = some (.int .i64 2) ∧ w'.cell? ⟨w2.heap.size, 1, none⟩ = some (.slice none 0 0) ∧ w'.cell? ⟨w2.heap.size + 1 + 1, 0, none⟩ = some (.int .i64 2) ∧ w'.cell? ⟨w2.heap.size + 1 + 1, 1, none⟩ = some (.slice none 0 0) ∧ w'.cell? ⟨b, off, none⟩ = some (.int .i64 k1) ∧ w'.cell? ⟨b, off + 1, none⟩ = some (.slice c1 m1 q1) ∧ w'.cell? ⟨b, off + 2, none⟩ = some (.int .i64 k2) ∧ w'.cell? ⟨b, off + 3, none⟩ = some (.slice c2 m2 q2)) (by kernel_rfl) ?_ (fun hHeld0 => ?_)
  · exact ⟨blk_cell f2 rfl, blk_cell f2 rfl, blk_cell fT rfl, blk_cell fT rfl, c1a_, c1b_, c2a_, c2b_⟩
  obtain ⟨U10, hU, hb, zU10a, zU10b⟩ := drLet VV
  rw [hU] at hHeld0 ⊢
  replace fR := blk_below fR hb; replace f2 := blk_below f2 hb; replace fT := blk_below fT hb; replace fC := Lib.hid (bstep fC.out hb)
  replace c1a_ := bcell hb c1a_; replace c1b_ := bcell hb c1b_; replace h1_ := Lib.hid (h1_.out.below hb); replace c2a_ := bcell hb c2a_
  replace c2b_ := bcell hb c2b_; replace h2_ := Lib.hid (h2_.out.below hb)
  rw [zV] at zU10a zU10b
  clear hU hb hVV zV
  refine hwt 0 oW21_0 (.agg #[.int .i64 2, .slice none 0 0]) hHeld0 ?_ ?_
  · intro w' hSw; dsimp only [oW21_0]; go_simp
  try simp only [oW21_0, hwA]
  refine hwt 1 oW21_1 (.agg #[.int .i64 2, .slice none 0 0]) hHeld0 ?_ ?_
  · intro w' hSw; dsimp only [oW21_1]; go_simp
  try simp only [oW21_1, hwA]
  refine hwt 3 oW21_3 (.agg #[.int .i64 2, .slice none 0 0]) hHeld0 ?_ ?_
  · intro w' hSw; dsimp only [oW21_3]; go_simp
  try simp only [oW21_3, hwA]
  refine hwt 4 oW21_4 (.slice (some ⟨b, off, none⟩) 2 cap) hHeld0 ?_ ?_
  · intro w' hSw; dsimp only [oW21_4]; go_simp
  try simp only [oW21_4, hwA]
  refine hwt 5 oW21_5 (.pointer (some ⟨b, off, none⟩)) hHeld0 ?_ ?_
  · intro w' hSw; dsimp only [oW21_5]; go_simp
  try simp only [oW21_5, hwA]
  refine hwt 6 oW21_6 (.agg #[.int .i64 k1, .slice c1 m1 q1]) hHeld0 ?_ ?_
  · intro w' hSw; dsimp only [oW21_6]; go_simp
  try simp only [oW21_6, hwA]
  refine hwt 7 oW21_7 (.agg #[.int .i64 2, .slice none 0 0]) hHeld0 ?_ ?_
  · intro w' hSw; dsimp only [oW21_7]; go_simp
  try simp only [oW21_7, hwA]
  refine wpAnyH_ready (rs := [2, 8]) (by kernel_rfl) (by simp) ?_
  refine (AllReadyH.cons (o := oW21_2) rfl (fun K hK => ?_) (AllReadyH.cons (o := oW21_8) rfl (fun K hK => ?_) AllReadyH.nil))
  ·skip
   dsimp only [oW21_2]; go_simp
   (try go_wp2_with fail)
   obtain ⟨X1, hXq, hb, fL, zX1a, zX1b⟩ := alLet U10 (.cells #[.int .i64 2, .slice none 0 0, .int .i64 2, .slice none 0 0] 31)
   rw [hXq]
   replace fR := blk_below fR hb; replace f2 := blk_below f2 hb; replace fT := blk_below fT hb; replace fC := Lib.hid (bstep fC.out hb)
   replace c1a_ := bcell hb c1a_; replace c1b_ := bcell hb c1b_; replace h1_ := Lib.hid (h1_.out.below hb); replace c2a_ := bcell hb c2a_
   replace c2b_ := bcell hb c2b_; replace h2_ := Lib.hid (h2_.out.below hb)
   refine hK.out _ _ ⟨blk_cell f2 rfl, blk_cell f2 rfl, blk_cell fT rfl, blk_cell fT rfl, c1a_, c1b_, c2a_, c2b_⟩ (fun hHeld1 => ?_)
   clear hK K hHeld0 hb hXq
   try simp only [oW21_2, hwA]
   refine hwr 8 oW21_8 (fun K hK => ?_)
   dsimp only [oW21_8]; go_simp
   go_at_call 58
   refine (implConsistent0 _ (fun _ => True) _ (.mk 2 []) _ _ _ h1_.out (TyRep.leaf 2)).mono ?_
   rintro e X2 ⟨rfl, hb⟩
   rw [show (Ty.mk 2 []) = S.int.ty from rfl, S.ty_cons, HD1.out]
   go_wp2_with fail
   have zX2 : X1.heap.size ≤ X2.heap.size := hb.size
   replace fR := blk_below fR hb; replace f2 := blk_below f2 hb; replace fT := blk_below fT hb; replace fC := Lib.hid (bstep fC.out hb)
   replace c1a_ := bcell hb c1a_; replace c1b_ := bcell hb c1b_; replace h1_ := Lib.hid (h1_.out.below hb); replace c2a_ := bcell hb c2a_
   replace c2b_ := bcell hb c2b_; replace h2_ := Lib.hid (h2_.out.below hb); replace fL := blk_below fL hb
   refine hK.out _ _ ⟨blk_cell f2 rfl, blk_cell f2 rfl, blk_cell fT rfl, blk_cell fT rfl, c1a_, c1b_, c2a_, c2b_⟩ (fun hHeld2 => ?_)
   clear hK K hHeld1 hb
   try simp only [oW21_8, hwA]
   refine hwt 9 oW21_9 (.bool true) hHeld2 ?_ ?_
   · intro w' hSw; dsimp only [oW21_9]; go_simp
   try simp only [oW21_9, hwA]
   refine hwt 10 oW21_10 (.slice (some ⟨b, off, none⟩) 2 cap) hHeld2 ?_ ?_
   · intro w' hSw; dsimp only [oW21_10]; go_simp
   try simp only [oW21_10, hwA]
   refine hwt 11 oW21_11 (.pointer (some ⟨b, off + 2, none⟩)) hHeld2 ?_ ?_
   · intro w' hSw; dsimp only [oW21_11]; go_simp
   try simp only [oW21_11, hwA]
   refine hwt 12 oW21_12 (.agg #[.int .i64 k2, .slice c2 m2 q2]) hHeld2 ?_ ?_
   · intro w' hSw; dsimp only [oW21_12]; go_simp
   try simp only [oW21_12, hwA]
   refine hwt 13 oW21_13 (.agg #[.int .i64 2, .slice none 0 0]) hHeld2 ?_ ?_
   · intro w' hSw; dsimp only [oW21_13]; go_simp
   try simp only [oW21_13, hwA]
   refine hwr 14 oW21_14 (fun K hK => ?_)
   dsimp only [oW21_14]; go_simp
   go_at_call 58
   refine (implConsistent0 _ (fun _ => True) _ (.mk 2 []) _ _ _ h2_.out (TyRep.leaf 2)).mono ?_
   rintro e X3 ⟨rfl, hb⟩
   rw [show (Ty.mk 2 []) = S.int.ty from rfl, S.ty_cons, HD2.out]
   go_wp2_with fail
   have zX3 : X2.heap.size ≤ X3.heap.size := hb.size
   replace fR := blk_below fR hb; replace f2 := blk_below f2 hb; replace fT := blk_below fT hb; replace fC := Lib.hid (bstep fC.out hb)
   replace c1a_ := bcell hb c1a_; replace c1b_ := bcell hb c1b_; replace h1_ := Lib.hid (h1_.out.below hb); replace c2a_ := bcell hb c2a_
   replace c2b_ := bcell hb c2b_; replace h2_ := Lib.hid (h2_.out.below hb); replace fL := blk_below fL hb
   refine hK.out _ _ ⟨blk_cell f2 rfl, blk_cell f2 rfl, blk_cell fT rfl, blk_cell fT rfl, c1a_, c1b_, c2a_, c2b_⟩ (fun hHeld3 => ?_)
   clear hK K hHeld2 hb
   try simp only [oW21_14, hwA]
   refine hwt 15 oW21_15 (.bool d2) hHeld3 ?_ ?_
   · intro w' hSw; dsimp only [oW21_15]; go_simp
   try simp only [oW21_15, hwA]
   refine hwt 16 oW21_16 (.slice (some ⟨U10.heap.size, 0, none⟩) 2 2) hHeld3 ?_ ?_
   · intro w' hSw; dsimp only [oW21_16]; go_simp
   try simp only [oW21_16, hwA]
   refine hwr 17 oW21_17 (fun K hK => ?_)
   obtain ⟨r0, r1, rf0, rf1⟩ := blkR fR
   dsimp only [oW21_17]; go_simp
   (try go_wp2_with fail)
   have hQq := stLet2 fR (.int .i64 2) (.slice none 0 0)
   clear fR r0 r1 rf0 rf1
   obtain ⟨X4, hXq, hsq, fR, zX4a, zX4b⟩ := hQq
   rw [hXq]
   replace f2 := hsq.blk (by omega) f2; replace fT := hsq.blk (by omega) fT; replace fC := Lib.hid (hsq.bel fC.out (by omega)); replace c1a_ := hsq.cell (by show b ≠ w.heap.size + 1; omega) c1a_
   replace c1b_ := hsq.cell (by show b ≠ w.heap.size + 1; omega) c1b_; replace h1_ := Lib.hid (hsq.rep (fun b hb => by have h1 := hb.2; omega) h1_.out); replace c2a_ := hsq.cell (by show b ≠ w.heap.size + 1; omega) c2a_; replace c2b_ := hsq.cell (by show b ≠ w.heap.size + 1; omega) c2b_
   replace h2_ := Lib.hid (hsq.rep (fun b hb => by have h1 := hb.2; omega) h2_.out); replace fL := hsq.blk (by omega) fL
   refine hK.out _ _ ⟨blk_cell f2 rfl, blk_cell f2 rfl, blk_cell fT rfl, blk_cell fT rfl, c1a_, c1b_, c2a_, c2b_⟩ (fun hHeld4 => ?_)
   clear hK K hHeld3 hsq hXq
   try simp only [oW21_17, hwA]
   refine hwt 18 oW21_18 (.bool d2) hHeld4 ?_ ?_
   · intro w' hSw; dsimp only [oW21_18]; go_simp
   try simp only [oW21_18, hwA]
   refine wpAnyH_done (by kernel_rfl) ?_ _
   refine NoPanic.normal ?_
   clear hHeld4
   have rc0 := blk_cell fR (o := 0) rfl
   have rc1 := blk_cell fR (o := 1) rfl
   go_wp2_with fail
   refine bodyPost_ret (v := .tuple #[.slice (some ⟨U10.heap.size, 0, none⟩) 2 2, .agg #[.int .i64 2, .slice none 0 0], .bool d2]) (by simp [results, Try.results39, go_sem, rc0, rc1]) rfl ?_
   have hw2 : w.heap.size ≤ w2.heap.size := HB1.out.size
   have HN : O = if d2 = true then some ([S.int, S.int], S.int) else none := by rw [HOO.out, HD1.out, HD2.out, Bool.true_and]; simp
   refine ⟨_, _, _, _, _, _, _, _, rfl, by rw [HN]; cases d2 <;> rfl, ?_, fC.out⟩
   intro ws t h
   rw [HN] at h
   cases d2 with
   | false => cases h
   | true =>
     simp only [if_true, Option.some.injEq, Prod.mk.injEq] at h
     obtain ⟨rfl, rfl⟩ := h
     exact ⟨TysRep.two_mk (b := U10.heap.size) (cap := 2) (k1 := 2) (k2 := 2) (c1 := .slice none 0 0) (c2 := .slice none 0 0) (.inr (by omega)) (Nat.le_refl 2) (by unfold maxLen; omega) (blk_cell fL (o := 0) rfl) (blk_cell fL (o := 1) rfl) (blk_cell fL (o := 2) rfl) (blk_cell fL (o := 3) rfl) (TyRep.leafG 2) (TyRep.leafG 2), TyRep.leafG 2⟩
  ·skip
   dsimp only [oW21_8]; go_simp
   go_at_call 58
   refine (implConsistent0 _ (fun _ => True) _ (.mk 2 []) _ _ _ h1_.out (TyRep.leaf 2)).mono ?_
   rintro e X5 ⟨rfl, hb⟩
   rw [show (Ty.mk 2 []) = S.int.ty from rfl, S.ty_cons, HD1.out]
   go_wp2_with fail
   have zX5 : U10.heap.size ≤ X5.heap.size := hb.size
   replace fR := blk_below fR hb; replace f2 := blk_below f2 hb; replace fT := blk_below fT hb; replace fC := Lib.hid (bstep fC.out hb)
   replace c1a_ := bcell hb c1a_; replace c1b_ := bcell hb c1b_; replace h1_ := Lib.hid (h1_.out.below hb); replace c2a_ := bcell hb c2a_
   replace c2b_ := bcell hb c2b_; replace h2_ := Lib.hid (h2_.out.below hb)
   refine hK.out _ _ ⟨blk_cell f2 rfl, blk_cell f2 rfl, blk_cell fT rfl, blk_cell fT rfl, c1a_, c1b_, c2a_, c2b_⟩ (fun hHeld1 => ?_)
   clear hK K hHeld0 hb
   try simp only [oW21_8, hwA]
   refine hwt 9 oW21_9 (.bool true) hHeld1 ?_ ?_
   · intro w' hSw; dsimp only [oW21_9]; go_simp
   try simp only [oW21_9, hwA]
   refine hwt 10 oW21_10 (.slice (some ⟨b, off, none⟩) 2 cap) hHeld1 ?_ ?_
   · intro w' hSw; dsimp only [oW21_10]; go_simp
   try simp only [oW21_10, hwA]
   refine hwt 11 oW21_11 (.pointer (some ⟨b, off + 2, none⟩)) hHeld1 ?_ ?_
   · intro w' hSw; dsimp only [oW21_11]; go_simp
   try simp only [oW21_11, hwA]
   refine hwt 12 oW21_12 (.agg #[.int .i64 k2, .slice c2 m2 q2]) hHeld1 ?_ ?_
   · intro w' hSw; dsimp only [oW21_12]; go_simp
   try simp only [oW21_12, hwA]
   refine hwt 13 oW21_13 (.agg #[.int .i64 2, .slice none 0 0]) hHeld1 ?_ ?_
   · intro w' hSw; dsimp only [oW21_13]; go_simp
   try simp only [oW21_13, hwA]
   refine wpAnyH_ready (rs := [2, 14]) (by kernel_rfl) (by simp) ?_
   refine (AllReadyH.cons (o := oW21_2) rfl (fun K hK => ?_) (AllReadyH.cons (o := oW21_14) rfl (fun K hK => ?_) AllReadyH.nil))
   ·skip
    dsimp only [oW21_2]; go_simp
    (try go_wp2_with fail)
    obtain ⟨X6, hXq, hb, fL, zX6a, zX6b⟩ := alLet X5 (.cells #[.int .i64 2, .slice none 0 0, .int .i64 2, .slice none 0 0] 31)
    rw [hXq]
    replace fR := blk_below fR hb; replace f2 := blk_below f2 hb; replace fT := blk_below fT hb; replace fC := Lib.hid (bstep fC.out hb)
    replace c1a_ := bcell hb c1a_; replace c1b_ := bcell hb c1b_; replace h1_ := Lib.hid (h1_.out.below hb); replace c2a_ := bcell hb c2a_
    replace c2b_ := bcell hb c2b_; replace h2_ := Lib.hid (h2_.out.below hb)
    refine hK.out _ _ ⟨blk_cell f2 rfl, blk_cell f2 rfl, blk_cell fT rfl, blk_cell fT rfl, c1a_, c1b_, c2a_, c2b_⟩ (fun hHeld5 => ?_)
    clear hK K hHeld1 hb hXq
    try simp only [oW21_2, hwA]
    refine hwr 14 oW21_14 (fun K hK => ?_)
    dsimp only [oW21_14]; go_simp
    go_at_call 58
    refine (implConsistent0 _ (fun _ => True) _ (.mk 2 []) _ _ _ h2_.out (TyRep.leaf 2)).mono ?_
    rintro e X7 ⟨rfl, hb⟩
    rw [show (Ty.mk 2 []) = S.int.ty from rfl, S.ty_cons, HD2.out]
    go_wp2_with fail
    have zX7 : X6.heap.size ≤ X7.heap.size := hb.size
    replace fR := blk_below fR hb; replace f2 := blk_below f2 hb; replace fT := blk_below fT hb; replace fC := Lib.hid (bstep fC.out hb)
    replace c1a_ := bcell hb c1a_; replace c1b_ := bcell hb c1b_; replace h1_ := Lib.hid (h1_.out.below hb); replace c2a_ := bcell hb c2a_
    replace c2b_ := bcell hb c2b_; replace h2_ := Lib.hid (h2_.out.below hb); replace fL := blk_below fL hb
    refine hK.out _ _ ⟨blk_cell f2 rfl, blk_cell f2 rfl, blk_cell fT rfl, blk_cell fT rfl, c1a_, c1b_, c2a_, c2b_⟩ (fun hHeld6 => ?_)
    clear hK K hHeld5 hb
    try simp only [oW21_14, hwA]
    refine hwt 15 oW21_15 (.bool d2) hHeld6 ?_ ?_
    · intro w' hSw; dsimp only [oW21_15]; go_simp
    try simp only [oW21_15, hwA]
    refine hwt 16 oW21_16 (.slice (some ⟨X5.heap.size, 0, none⟩) 2 2) hHeld6 ?_ ?_
    · intro w' hSw; dsimp only [oW21_16]; go_simp
    try simp only [oW21_16, hwA]
    refine hwr 17 oW21_17 (fun K hK => ?_)
    obtain ⟨r0, r1, rf0, rf1⟩ := blkR fR
    dsimp only [oW21_17]; go_simp
    (try go_wp2_with fail)
    have hQq := stLet2 fR (.int .i64 2) (.slice none 0 0)
    clear fR r0 r1 rf0 rf1
    obtain ⟨X8, hXq, hsq, fR, zX8a, zX8b⟩ := hQq
    rw [hXq]
    replace f2 := hsq.blk (by omega) f2; replace fT := hsq.blk (by omega) fT; replace fC := Lib.hid (hsq.bel fC.out (by omega)); replace c1a_ := hsq.cell (by show b ≠ w.heap.size + 1; omega) c1a_
    replace c1b_ := hsq.cell (by show b ≠ w.heap.size + 1; omega) c1b_; replace h1_ := Lib.hid (hsq.rep (fun b hb => by have h1 := hb.2; omega) h1_.out); replace c2a_ := hsq.cell (by show b ≠ w.heap.size + 1; omega) c2a_; replace c2b_ := hsq.cell (by show b ≠ w.heap.size + 1; omega) c2b_
    replace h2_ := Lib.hid (hsq.rep (fun b hb => by have h1 := hb.2; omega) h2_.out); replace fL := hsq.blk (by omega) fL
    refine hK.out _ _ ⟨blk_cell f2 rfl, blk_cell f2 rfl, blk_cell fT rfl, blk_cell fT rfl, c1a_, c1b_, c2a_, c2b_⟩ (fun hHeld7 => ?_)
    clear hK K hHeld6 hsq hXq
    try simp only [oW21_17, hwA]
    refine hwt 18 oW21_18 (.bool d2) hHeld7 ?_ ?_
    · intro w' hSw; dsimp only [oW21_18]; go_simp
    try simp only [oW21_18, hwA]
    refine wpAnyH_done (by kernel_rfl) ?_ _
    refine NoPanic.normal ?_
    clear hHeld7
    have rc0 := blk_cell fR (o := 0) rfl
    have rc1 := blk_cell fR (o := 1) rfl
    go_wp2_with fail
    refine bodyPost_ret (v := .tuple #[.slice (some ⟨X5.heap.size, 0, none⟩) 2 2, .agg #[.int .i64 2, .slice none 0 0], .bool d2]) (by simp [results, Try.results39, go_sem, rc0, rc1]) rfl ?_
    have hw2 : w.heap.size ≤ w2.heap.size := HB1.out.size
    have HN : O = if d2 = true then some ([S.int, S.int], S.int) else none := by rw [HOO.out, HD1.out, HD2.out, Bool.true_and]; simp
    refine ⟨_, _, _, _, _, _, _, _, rfl, by rw [HN]; cases d2 <;> rfl, ?_, fC.out⟩
    intro ws t h
    rw [HN] at h
    cases d2 with
    | false => cases h
    | true =>
      simp only [if_true, Option.some.injEq, Prod.mk.injEq] at h
      obtain ⟨rfl, rfl⟩ := h
      exact ⟨TysRep.two_mk (b := X5.heap.size) (cap := 2) (k1 := 2) (k2 := 2) (c1 := .slice none 0 0) (c2 := .slice none 0 0) (.inr (by omega)) (Nat.le_refl 2) (by unfold maxLen; omega) (blk_cell fL (o := 0) rfl) (blk_cell fL (o := 1) rfl) (blk_cell fL (o := 2) rfl) (blk_cell fL (o := 3) rfl) (TyRep.leafG 2) (TyRep.leafG 2), TyRep.leafG 2⟩
   ·skip
    dsimp only [oW21_14]; go_simp
    go_at_call 58
    refine (implConsistent0 _ (fun _ => True) _ (.mk 2 []) _ _ _ h2_.out (TyRep.leaf 2)).mono ?_
    rintro e X9 ⟨rfl, hb⟩
    rw [show (Ty.mk 2 []) = S.int.ty from rfl, S.ty_cons, HD2.out]
    go_wp2_with fail
    have zX9 : X5.heap.size ≤ X9.heap.size := hb.size
    replace fR := blk_below fR hb; replace f2 := blk_below f2 hb; replace fT := blk_below fT hb; replace fC := Lib.hid (bstep fC.out hb)
    replace c1a_ := bcell hb c1a_; replace c1b_ := bcell hb c1b_; replace h1_ := Lib.hid (h1_.out.below hb); replace c2a_ := bcell hb c2a_
    replace c2b_ := bcell hb c2b_; replace h2_ := Lib.hid (h2_.out.below hb)
    refine hK.out _ _ ⟨blk_cell f2 rfl, blk_cell f2 rfl, blk_cell fT rfl, blk_cell fT rfl, c1a_, c1b_, c2a_, c2b_⟩ (fun hHeld5 => ?_)
    clear hK K hHeld1 hb
    try simp only [oW21_14, hwA]
    refine hwt 15 oW21_15 (.bool d2) hHeld5 ?_ ?_
    · intro w' hSw; dsimp only [oW21_15]; go_simp
    try simp only [oW21_15, hwA]
    refine hwr 2 oW21_2 (fun K hK => ?_)
    dsimp only [oW21_2]; go_simp
    (try go_wp2_with fail)
    obtain ⟨X10, hXq, hb, fL, zX10a, zX10b⟩ := alLet X9 (.cells #[.int .i64 2, .slice none 0 0, .int .i64 2, .slice none 0 0] 31)
    rw [hXq]
    replace fR := blk_below fR hb; replace f2 := blk_below f2 hb; replace fT := blk_below fT hb; replace fC := Lib.hid (bstep fC.out hb)
    replace c1a_ := bcell hb c1a_; replace c1b_ := bcell hb c1b_; replace h1_ := Lib.hid (h1_.out.below hb); replace c2a_ := bcell hb c2a_
    replace c2b_ := bcell hb c2b_; replace h2_ := Lib.hid (h2_.out.below hb)
    refine hK.out _ _ ⟨blk_cell f2 rfl, blk_cell f2 rfl, blk_cell fT rfl, blk_cell fT rfl, c1a_, c1b_, c2a_, c2b_⟩ (fun hHeld8 => ?_)
    clear hK K hHeld5 hb hXq
    try simp only [oW21_2, hwA]
    refine hwt 16 oW21_16 (.slice (some ⟨X9.heap.size, 0, none⟩) 2 2) hHeld8 ?_ ?_
    · intro w' hSw; dsimp only [oW21_16]; go_simp
    try simp only [oW21_16, hwA]
    refine hwr 17 oW21_17 (fun K hK => ?_)
    obtain ⟨r0, r1, rf0, rf1⟩ := blkR fR
    dsimp only [oW21_17]; go_simp
    (try go_wp2_with fail)
    have hQq := stLet2 fR (.int .i64 2) (.slice none 0 0)
    clear fR r0 r1 rf0 rf1
    obtain ⟨X11, hXq, hsq, fR, zX11a, zX11b⟩ := hQq
    rw [hXq]
    replace f2 := hsq.blk (by omega) f2; replace fT := hsq.blk (by omega) fT; replace fC := Lib.hid (hsq.bel fC.out (by omega)); replace c1a_ := hsq.cell (by show b ≠ w.heap.size + 1; omega) c1a_
    replace c1b_ := hsq.cell (by show b ≠ w.heap.size + 1; omega) c1b_; replace h1_ := Lib.hid (hsq.rep (fun b hb => by have h1 := hb.2; omega) h1_.out); replace c2a_ := hsq.cell (by show b ≠ w.heap.size + 1; omega) c2a_; replace c2b_ := hsq.cell (by show b ≠ w.heap.size + 1; omega) c2b_
    replace h2_ := Lib.hid (hsq.rep (fun b hb => by have h1 := hb.2; omega) h2_.out); replace fL := hsq.blk (by omega) fL
    refine hK.out _ _ ⟨blk_cell f2 rfl, blk_cell f2 rfl, blk_cell fT rfl, blk_cell fT rfl, c1a_, c1b_, c2a_, c2b_⟩ (fun hHeld9 => ?_)
    clear hK K hHeld8 hsq hXq
    try simp only [oW21_17, hwA]
    refine hwt 18 oW21_18 (.bool d2) hHeld9 ?_ ?_
    · intro w' hSw; dsimp only [oW21_18]; go_simp
    try simp only [oW21_18, hwA]
    refine wpAnyH_done (by kernel_rfl) ?_ _
    refine NoPanic.normal ?_
    clear hHeld9
    have rc0 := blk_cell fR (o := 0) rfl
    have rc1 := blk_cell fR (o := 1) rfl
    go_wp2_with fail
    refine bodyPost_ret (v := .tuple #[.slice (some ⟨X9.heap.size, 0, none⟩) 2 2, .agg #[.int .i64 2, .slice none 0 0], .bool d2]) (by simp [results, Try.results39, go_sem, rc0, rc1]) rfl ?_
    have hw2 : w.heap.size ≤ w2.heap.size := HB1.out.size
    have HN : O = if d2 = true then some ([S.int, S.int], S.int) else none := by rw [HOO.out, HD1.out, HD2.out, Bool.true_and]; simp
    refine ⟨_, _, _, _, _, _, _, _, rfl, by rw [HN]; cases d2 <;> rfl, ?_, fC.out⟩
    intro ws t h
    rw [HN] at h
    cases d2 with
    | false => cases h
    | true =>
      simp only [if_true, Option.some.injEq, Prod.mk.injEq] at h
      obtain ⟨rfl, rfl⟩ := h
      exact ⟨TysRep.two_mk (b := X9.heap.size) (cap := 2) (k1 := 2) (k2 := 2) (c1 := .slice none 0 0) (c2 := .slice none 0 0) (.inr (by omega)) (Nat.le_refl 2) (by unfold maxLen; omega) (blk_cell fL (o := 0) rfl) (blk_cell fL (o := 1) rfl) (blk_cell fL (o := 2) rfl) (blk_cell fL (o := 3) rfl) (TyRep.leafG 2) (TyRep.leafG 2), TyRep.leafG 2⟩
set_option maxHeartbeats 4000000 in
theorem implWanted_8_f (G : Nat → Prop) (c y : Value) (hcs : ∃ a n q, c = .slice a n q) (nm : ByteArray) (u lb tk fk : Int) (ty : Ty) (ta fa ca : Option Addr) (tn tq fn fq cm cq : Nat) (w : World) (h1 h2 : S) (hd : h1.cons .int = false) (hy : TysRep G w [h1.ty, h2.ty] y) :
    Calls Try.prog 39 #[c, .agg #[.int .i64 8, .string nm, .int .i64 u, .int .i64 tk, .slice ta tn tq, .int .i64 fk, .slice fa fn fq, .int .i64 lb, .slice ca cm cq], y] w (RetW G (wantS 8 ty [h1, h2]) w) := by
  obtain ⟨b, off, cap, k1, c1, m1, q1, k2, c2, m2, q2, rfl, -, -, hlb, e1a, e1b, e2a, e2b, ht1, ht2⟩ := hy.two
  obtain ⟨xa0, xn0, xq0, rfl⟩ := hcs
  have HOO := Lib.hid (want_ar (k := 8) (ty := ty) (g := h1) (h := h2) (by omega))
  have H1 := Lib.hid (ht1.move (.weaken (G := (fun x => G x ∧ x < w.heap.size)) fun b h hl => ⟨h, hl⟩))
  have H2 := Lib.hid (ht2.move (.weaken (G := (fun x => G x ∧ x < w.heap.size)) fun b h hl => ⟨h, hl⟩))
  generalize wantS 8 ty [h1, h2] = O at HOO ⊢
  obtain ⟨d2, hd2⟩ : ∃ d2, h2.cons .int = d2 := ⟨_, rfl⟩
  have HD1 := Lib.hid hd
  have HD2 := Lib.hid hd2
  clear hy ht1 ht2 hd hd2
  go_enter Try.func39, Try.ntmps39
  go_wp2_with fail
  refine (implBaseW _ _).mono ?_
  rintro e w1 ⟨rfl, hb1⟩
  have HB1 := Lib.hid (bstep (bstep bal1 bal1) hb1)
  have fR0 := blk_below (blk_new (w := w.alloc (.cells #[.int .i64 8, .string nm, .int .i64 u, .int .i64 tk, .slice ta tn tq, .int .i64 fk, .slice fa fn fq, .int .i64 lb, .slice ca cm cq] 36)) (o := .cells #[.int .i64 0, .slice none 0 0] 31) (b := w.heap.size + 1) (by simp)) hb1
  have fE0 := blk_below (blk_below (blk_new (w := w) (o := .cells #[.int .i64 8, .string nm, .int .i64 u, .int .i64 tk, .slice ta tn tq, .int .i64 fk, .slice fa fn fq, .int .i64 lb, .slice ca cm cq] 36) rfl) (bal1 (o := .cells #[.int .i64 0, .slice none 0 0] 31))) hb1
  clear hb1
  go_wp2_with fail
  refine (implBaseW _ _).mono ?_
  rintro e w2 ⟨rfl, hb2⟩
  replace fE0 := blk_below fE0 hb2
  replace HB1 := Lib.hid (bstep HB1.out hb2)
  replace fR0 := blk_below fR0 hb2
  have hlr := blk_lt fR0
  clear hb2
  have d0 := blk_cell fE0 (o := 0) rfl
  have d1 := blk_cell fE0 (o := 1) rfl
  have lE := blk_lt fE0
  have lE2 : w.heap.size < w2.heap.size + 1 + 1 := by omega
  have lE1 : w.heap.size < w2.heap.size + 1 := by omega
  have HBV := Lib.hid (show Below w.heap.size w ((w2.alloc (.cells #[.int .i64 2, .slice none 0 0] 31)).alloc (.cells #[.int .i64 3, .slice none 0 0] 31)) from bstep (bstep HB1.out bal1) bal1)
  have lE3 : w.heap.size < w2.heap.size + 1 + 1 + 1 := by omega
  go_wp2_with fail
  obtain ⟨VV, hVV⟩ : ∃ X, X = (((w2.alloc (.cells #[.int .i64 2, .slice none 0 0] 31)).alloc (.cells #[.int .i64 3, .slice none 0 0] 31)).alloc (.cells #[.int .i64 3, .slice none 0 0] 31)) := ⟨_, rfl⟩
  have fR : VV.heap[w.heap.size + 1]? = some (.cells #[.int .i64 0, .slice none 0 0] 31 (0, 0)) := by rw [hVV]; exact blk_below (blk_below (blk_below fR0 bal1) bal1) bal1
  have f2 : VV.heap[w2.heap.size]? = some (.cells #[.int .i64 2, .slice none 0 0] 31 (0, 0)) := by rw [hVV]; exact blk_below (blk_below (blk_new rfl) bal1) bal1
  have fT : VV.heap[w2.heap.size + 1 + 1]? = some (.cells #[.int .i64 3, .slice none 0 0] 31 (0, 0)) := by rw [hVV]; exact blk_new (by simp)
  have fC : Hid (Below w.heap.size w VV) := by rw [hVV]; exact Lib.hid (bstep HBV.out bal1)
  have c1a_ : VV.cell? ⟨b, off, none⟩ = some (.int .i64 k1) := by rw [hVV]; exact bcell bal1 (bcell HBV.out e1a)
  have c1b_ : VV.cell? ⟨b, off + 1, none⟩ = some (.slice c1 m1 q1) := by rw [hVV]; exact bcell bal1 (bcell HBV.out e1b)
  have h1_ : Hid (TyRep (fun x => G x ∧ x < w.heap.size) VV h1.ty (.agg #[.int .i64 k1, .slice c1 m1 q1])) := by rw [hVV]; exact Lib.hid ((H1.out.below HBV.out).below bal1)
  have c2a_ : VV.cell? ⟨b, off + 2, none⟩ = some (.int .i64 k2) := by rw [hVV]; exact bcell bal1 (bcell HBV.out e2a)
  have c2b_ : VV.cell? ⟨b, off + 3, none⟩ = some (.slice c2 m2 q2) := by rw [hVV]; exact bcell bal1 (bcell HBV.out e2b)
  have h2_ : Hid (TyRep (fun x => G x ∧ x < w.heap.size) VV h2.ty (.agg #[.int .i64 k2, .slice c2 m2 q2])) := by rw [hVV]; exact Lib.hid ((H2.out.below HBV.out).below bal1)
  rw [← hVV]
  have zV : VV.heap.size = _ := congrArg (fun X : World => X.heap.size) hVV
  simp only [World.size_alloc] at zV
  refine wp_region_noPanic ?_
  refine wp_region_held_drew (S := fun w' => w'.cell? ⟨w2.heap.size, 0, none⟩ = some (.int .i64 2) ∧ w'.cell? ⟨w2.heap.size, 1, none⟩ = some (.slice none 0 0) ∧ w'.cell? ⟨w2.heap.size + 1 + 1, 0, none⟩ = some (.int .i64 3) ∧ w'.cell? ⟨w2.heap.size + 1 + 1, 1, none⟩ = some (.slice none 0 0) ∧ w'.cell? ⟨b, off, none⟩ = some (.int .i64 k1) ∧ w'.cell? ⟨b, off + 1, none⟩ = some (.slice c1 m1 q1) ∧ w'.cell? ⟨b, off + 2, none⟩ = some (.int .i64 k2) ∧ w'.cell? ⟨b, off + 3, none⟩ = some (.slice c2 m2 q2)) (by kernel_rfl) ?_ (fun hHeld0 => ?_)
  · exact ⟨blk_cell f2 rfl, blk_cell f2 rfl, blk_cell fT rfl, blk_cell fT rfl, c1a_, c1b_, c2a_, c2b_⟩
  obtain ⟨U11, hU, hb, zU11a, zU11b⟩ := drLet VV
  rw [hU] at hHeld0 ⊢
  replace fR := blk_below fR hb; replace f2 := blk_below f2 hb; replace fT := blk_below fT hb; replace fC := Lib.hid (bstep fC.out hb)
  replace c1a_ := bcell hb c1a_; replace c1b_ := bcell hb c1b_; replace h1_ := Lib.hid (h1_.out.below hb); replace c2a_ := bcell hb c2a_
  replace c2b_ := bcell hb c2b_; replace h2_ := Lib.hid (h2_.out.below hb)
  rw [zV] at zU11a zU11b
  clear hU hb hVV zV
  refine hwt 0 oW21_0 (.agg #[.int .i64 2, .slice none 0 0]) hHeld0 ?_ ?_
  · intro w' hSw; dsimp only [oW21_0]; go_simp
  try simp only [oW21_0, hwA]
  refine hwt 1 oW21_1 (.agg #[.int .i64 2, .slice none 0 0]) hHeld0 ?_ ?_
  · intro w' hSw; dsimp only [oW21_1]; go_simp
  try simp only [oW21_1, hwA]
  refine hwt 3 oW21_3 (.agg #[.int .i64 3, .slice none 0 0]) hHeld0 ?_ ?_
  · intro w' hSw; dsimp only [oW21_3]; go_simp
  try simp only [oW21_3, hwA]
  refine hwt 4 oW21_4 (.slice (some ⟨b, off, none⟩) 2 cap) hHeld0 ?_ ?_
  · intro w' hSw; dsimp only [oW21_4]; go_simp
  try simp only [oW21_4, hwA]
  refine hwt 5 oW21_5 (.pointer (some ⟨b, off, none⟩)) hHeld0 ?_ ?_
  · intro w' hSw; dsimp only [oW21_5]; go_simp
  try simp only [oW21_5, hwA]
  refine hwt 6 oW21_6 (.agg #[.int .i64 k1, .slice c1 m1 q1]) hHeld0 ?_ ?_
  · intro w' hSw; dsimp only [oW21_6]; go_simp
  try simp only [oW21_6, hwA]
  refine hwt 7 oW21_7 (.agg #[.int .i64 2, .slice none 0 0]) hHeld0 ?_ ?_
  · intro w' hSw; dsimp only [oW21_7]; go_simp
  try simp only [oW21_7, hwA]
  refine wpAnyH_ready (rs := [2, 8]) (by kernel_rfl) (by simp) ?_
  refine (AllReadyH.cons (o := oW21_2) rfl (fun K hK => ?_) (AllReadyH.cons (o := oW21_8) rfl (fun K hK => ?_) AllReadyH.nil))
  ·skip
   dsimp only [oW21_2]; go_simp
   (try go_wp2_with fail)
   obtain ⟨X1, hXq, hb, fL, zX1a, zX1b⟩ := alLet U11 (.cells #[.int .i64 2, .slice none 0 0, .int .i64 2, .slice none 0 0] 31)
   rw [hXq]
   replace fR := blk_below fR hb; replace f2 := blk_below f2 hb; replace fT := blk_below fT hb; replace fC := Lib.hid (bstep fC.out hb)
   replace c1a_ := bcell hb c1a_; replace c1b_ := bcell hb c1b_; replace h1_ := Lib.hid (h1_.out.below hb); replace c2a_ := bcell hb c2a_
   replace c2b_ := bcell hb c2b_; replace h2_ := Lib.hid (h2_.out.below hb)
   refine hK.out _ _ ⟨blk_cell f2 rfl, blk_cell f2 rfl, blk_cell fT rfl, blk_cell fT rfl, c1a_, c1b_, c2a_, c2b_⟩ (fun hHeld1 => ?_)
   clear hK K hHeld0 hb hXq
   try simp only [oW21_2, hwA]
   refine hwr 8 oW21_8 (fun K hK => ?_)
   dsimp only [oW21_8]; go_simp
   go_at_call 58
   refine (implConsistent0 _ (fun _ => True) _ (.mk 2 []) _ _ _ h1_.out (TyRep.leaf 2)).mono ?_
   rintro e X2 ⟨rfl, hb⟩
   rw [show (Ty.mk 2 []) = S.int.ty from rfl, S.ty_cons, HD1.out]
   go_wp2_with fail
   have zX2 : X1.heap.size ≤ X2.heap.size := hb.size
   replace fR := blk_below fR hb; replace f2 := blk_below f2 hb; replace fT := blk_below fT hb; replace fC := Lib.hid (bstep fC.out hb)
   replace c1a_ := bcell hb c1a_; replace c1b_ := bcell hb c1b_; replace h1_ := Lib.hid (h1_.out.below hb); replace c2a_ := bcell hb c2a_
   replace c2b_ := bcell hb c2b_; replace h2_ := Lib.hid (h2_.out.below hb); replace fL := blk_below fL hb
   refine hK.out _ _ ⟨blk_cell f2 rfl, blk_cell f2 rfl, blk_cell fT rfl, blk_cell fT rfl, c1a_, c1b_, c2a_, c2b_⟩ (fun hHeld2 => ?_)
   clear hK K hHeld1 hb
   try simp only [oW21_8, hwA]
   refine hwt 9 oW21_9 (.bool false) hHeld2 ?_ ?_
   · intro w' hSw; dsimp only [oW21_9]; go_simp
   try simp only [oW21_9, hwA]
   refine hwn 10 oW21_10 hHeld2 ?_
   try simp only [oW21_10, hwA]
   refine hwn 11 oW21_11 hHeld2 ?_
   try simp only [oW21_11, hwA]
   refine hwn 12 oW21_12 hHeld2 ?_
   try simp only [oW21_12, hwA]
   refine hwn 13 oW21_13 hHeld2 ?_
   try simp only [oW21_13, hwA]
   refine hwn 14 oW21_14 hHeld2 ?_
   try simp only [oW21_14, hwA]
   refine hwt 15 oW21_15 (.bool false) hHeld2 ?_ ?_
   · intro w' hSw; dsimp only [oW21_15]; go_simp
   try simp only [oW21_15, hwA]
   refine hwt 16 oW21_16 (.slice (some ⟨U11.heap.size, 0, none⟩) 2 2) hHeld2 ?_ ?_
   · intro w' hSw; dsimp only [oW21_16]; go_simp
   try simp only [oW21_16, hwA]
   refine hwr 17 oW21_17 (fun K hK => ?_)
   obtain ⟨r0, r1, rf0, rf1⟩ := blkR fR
   dsimp only [oW21_17]; go_simp
   (try go_wp2_with fail)
   have hQq := stLet2 fR (.int .i64 3) (.slice none 0 0)
   clear fR r0 r1 rf0 rf1
   obtain ⟨X3, hXq, hsq, fR, zX3a, zX3b⟩ := hQq
   rw [hXq]
   replace f2 := hsq.blk (by omega) f2; replace fT := hsq.blk (by omega) fT; replace fC := Lib.hid (hsq.bel fC.out (by omega)); replace c1a_ := hsq.cell (by show b ≠ w.heap.size + 1; omega) c1a_
   replace c1b_ := hsq.cell (by show b ≠ w.heap.size + 1; omega) c1b_; replace h1_ := Lib.hid (hsq.rep (fun b hb => by have h1 := hb.2; omega) h1_.out); replace c2a_ := hsq.cell (by show b ≠ w.heap.size + 1; omega) c2a_; replace c2b_ := hsq.cell (by show b ≠ w.heap.size + 1; omega) c2b_
   replace h2_ := Lib.hid (hsq.rep (fun b hb => by have h1 := hb.2; omega) h2_.out); replace fL := hsq.blk (by omega) fL
   refine hK.out _ _ ⟨blk_cell f2 rfl, blk_cell f2 rfl, blk_cell fT rfl, blk_cell fT rfl, c1a_, c1b_, c2a_, c2b_⟩ (fun hHeld3 => ?_)
   clear hK K hHeld2 hsq hXq
   try simp only [oW21_17, hwA]
   refine hwt 18 oW21_18 (.bool false) hHeld3 ?_ ?_
   · intro w' hSw; dsimp only [oW21_18]; go_simp
   try simp only [oW21_18, hwA]
   refine wpAnyH_done (by kernel_rfl) ?_ _
   refine NoPanic.normal ?_
   clear hHeld3
   have rc0 := blk_cell fR (o := 0) rfl
   have rc1 := blk_cell fR (o := 1) rfl
   go_wp2_with fail
   refine bodyPost_ret (v := .tuple #[.slice (some ⟨U11.heap.size, 0, none⟩) 2 2, .agg #[.int .i64 3, .slice none 0 0], .bool false]) (by simp [results, Try.results39, go_sem, rc0, rc1]) rfl ?_
   have hw2 : w.heap.size ≤ w2.heap.size := HB1.out.size
   have HN : O = none := by rw [HOO.out, HD1.out]; rfl
   exact ⟨_, _, _, _, _, _, _, _, rfl, by rw [HN]; rfl, (by rw [HN]; intro ws t h; cases h), fC.out⟩
  ·skip
   dsimp only [oW21_8]; go_simp
   go_at_call 58
   refine (implConsistent0 _ (fun _ => True) _ (.mk 2 []) _ _ _ h1_.out (TyRep.leaf 2)).mono ?_
   rintro e X4 ⟨rfl, hb⟩
   rw [show (Ty.mk 2 []) = S.int.ty from rfl, S.ty_cons, HD1.out]
   go_wp2_with fail
   have zX4 : U11.heap.size ≤ X4.heap.size := hb.size
   replace fR := blk_below fR hb; replace f2 := blk_below f2 hb; replace fT := blk_below fT hb; replace fC := Lib.hid (bstep fC.out hb)
   replace c1a_ := bcell hb c1a_; replace c1b_ := bcell hb c1b_; replace h1_ := Lib.hid (h1_.out.below hb); replace c2a_ := bcell hb c2a_
   replace c2b_ := bcell hb c2b_; replace h2_ := Lib.hid (h2_.out.below hb)
   refine hK.out _ _ ⟨blk_cell f2 rfl, blk_cell f2 rfl, blk_cell fT rfl, blk_cell fT rfl, c1a_, c1b_, c2a_, c2b_⟩ (fun hHeld1 => ?_)
   clear hK K hHeld0 hb
   try simp only [oW21_8, hwA]
   refine hwt 9 oW21_9 (.bool false) hHeld1 ?_ ?_
   · intro w' hSw; dsimp only [oW21_9]; go_simp
   try simp only [oW21_9, hwA]
   refine hwn 10 oW21_10 hHeld1 ?_
   try simp only [oW21_10, hwA]
   refine hwn 11 oW21_11 hHeld1 ?_
   try simp only [oW21_11, hwA]
   refine hwn 12 oW21_12 hHeld1 ?_
   try simp only [oW21_12, hwA]
   refine hwn 13 oW21_13 hHeld1 ?_
   try simp only [oW21_13, hwA]
   refine hwn 14 oW21_14 hHeld1 ?_
   try simp only [oW21_14, hwA]
   refine hwt 15 oW21_15 (.bool false) hHeld1 ?_ ?_
   · intro w' hSw; dsimp only [oW21_15]; go_simp
   try simp only [oW21_15, hwA]
   refine hwr 2 oW21_2 (fun K hK => ?_)
   dsimp only [oW21_2]; go_simp
   (try go_wp2_with fail)
   obtain ⟨X5, hXq, hb, fL, zX5a, zX5b⟩ := alLet X4 (.cells #[.int .i64 2, .slice none 0 0, .int .i64 2, .slice none 0 0] 31)
   rw [hXq]
   replace fR := blk_below fR hb; replace f2 := blk_below f2 hb; replace fT := blk_below fT hb; replace fC := Lib.hid (bstep fC.out hb)
   replace c1a_ := bcell hb c1a_; replace c1b_ := bcell hb c1b_; replace h1_ := Lib.hid (h1_.out.below hb); replace c2a_ := bcell hb c2a_
   replace c2b_ := bcell hb c2b_; replace h2_ := Lib.hid (h2_.out.below hb)
   refine hK.out _ _ ⟨blk_cell f2 rfl, blk_cell f2 rfl, blk_cell fT rfl, blk_cell fT rfl, c1a_, c1b_, c2a_, c2b_⟩ (fun hHeld4 => ?_)
   clear hK K hHeld1 hb hXq
   try simp only [oW21_2, hwA]
   refine hwt 16 oW21_16 (.slice (some ⟨X4.heap.size, 0, none⟩) 2 2) hHeld4 ?_ ?_
   · intro w' hSw; dsimp only [oW21_16]; go_simp
   try simp only [oW21_16, hwA]
   refine hwr 17 oW21_17 (fun K hK => ?_)
   obtain ⟨r0, r1, rf0, rf1⟩ := blkR fR
   dsimp only [oW21_17]; go_simp
   (try go_wp2_with fail)
   have hQq := stLet2 fR (.int .i64 3) (.slice none 0 0)
   clear fR r0 r1 rf0 rf1
   obtain ⟨X6, hXq, hsq, fR, zX6a, zX6b⟩ := hQq
   rw [hXq]
   replace f2 := hsq.blk (by omega) f2; replace fT := hsq.blk (by omega) fT; replace fC := Lib.hid (hsq.bel fC.out (by omega)); replace c1a_ := hsq.cell (by show b ≠ w.heap.size + 1; omega) c1a_
   replace c1b_ := hsq.cell (by show b ≠ w.heap.size + 1; omega) c1b_; replace h1_ := Lib.hid (hsq.rep (fun b hb => by have h1 := hb.2; omega) h1_.out); replace c2a_ := hsq.cell (by show b ≠ w.heap.size + 1; omega) c2a_; replace c2b_ := hsq.cell (by show b ≠ w.heap.size + 1; omega) c2b_
   replace h2_ := Lib.hid (hsq.rep (fun b hb => by have h1 := hb.2; omega) h2_.out); replace fL := hsq.blk (by omega) fL
   refine hK.out _ _ ⟨blk_cell f2 rfl, blk_cell f2 rfl, blk_cell fT rfl, blk_cell fT rfl, c1a_, c1b_, c2a_, c2b_⟩ (fun hHeld5 => ?_)
   clear hK K hHeld4 hsq hXq
   try simp only [oW21_17, hwA]
   refine hwt 18 oW21_18 (.bool false) hHeld5 ?_ ?_
   · intro w' hSw; dsimp only [oW21_18]; go_simp
   try simp only [oW21_18, hwA]
   refine wpAnyH_done (by kernel_rfl) ?_ _
   refine NoPanic.normal ?_
   clear hHeld5
   have rc0 := blk_cell fR (o := 0) rfl
   have rc1 := blk_cell fR (o := 1) rfl
   go_wp2_with fail
   refine bodyPost_ret (v := .tuple #[.slice (some ⟨X4.heap.size, 0, none⟩) 2 2, .agg #[.int .i64 3, .slice none 0 0], .bool false]) (by simp [results, Try.results39, go_sem, rc0, rc1]) rfl ?_
   have hw2 : w.heap.size ≤ w2.heap.size := HB1.out.size
   have HN : O = none := by rw [HOO.out, HD1.out]; rfl
   exact ⟨_, _, _, _, _, _, _, _, rfl, by rw [HN]; rfl, (by rw [HN]; intro ws t h; cases h), fC.out⟩
set_option maxHeartbeats 4000000 in
theorem implWanted_8_t (G : Nat → Prop) (c y : Value) (hcs : ∃ a n q, c = .slice a n q) (nm : ByteArray) (u lb tk fk : Int) (ty : Ty) (ta fa ca : Option Addr) (tn tq fn fq cm cq : Nat) (w : World) (h1 h2 : S) (hd : h1.cons .int = true) (hy : TysRep G w [h1.ty, h2.ty] y) :
    Calls Try.prog 39 #[c, .agg #[.int .i64 8, .string nm, .int .i64 u, .int .i64 tk, .slice ta tn tq, .int .i64 fk, .slice fa fn fq, .int .i64 lb, .slice ca cm cq], y] w (RetW G (wantS 8 ty [h1, h2]) w) := by
  obtain ⟨b, off, cap, k1, c1, m1, q1, k2, c2, m2, q2, rfl, -, -, hlb, e1a, e1b, e2a, e2b, ht1, ht2⟩ := hy.two
  obtain ⟨xa0, xn0, xq0, rfl⟩ := hcs
  have HOO := Lib.hid (want_ar (k := 8) (ty := ty) (g := h1) (h := h2) (by omega))
  have H1 := Lib.hid (ht1.move (.weaken (G := (fun x => G x ∧ x < w.heap.size)) fun b h hl => ⟨h, hl⟩))
  have H2 := Lib.hid (ht2.move (.weaken (G := (fun x => G x ∧ x < w.heap.size)) fun b h hl => ⟨h, hl⟩))
  generalize wantS 8 ty [h1, h2] = O at HOO ⊢
  obtain ⟨d2, hd2⟩ : ∃ d2, h2.cons .int = d2 := ⟨_, rfl⟩
  have HD1 := Lib.hid hd
  have HD2 := Lib.hid hd2
  clear hy ht1 ht2 hd hd2
  go_enter Try.func39, Try.ntmps39
  go_wp2_with fail
  refine (implBaseW _ _).mono ?_
  rintro e w1 ⟨rfl, hb1⟩
  have HB1 := Lib.hid (bstep (bstep bal1 bal1) hb1)
  have fR0 := blk_below (blk_new (w := w.alloc (.cells #[.int .i64 8, .string nm, .int .i64 u, .int .i64 tk, .slice ta tn tq, .int .i64 fk, .slice fa fn fq, .int .i64 lb, .slice ca cm cq] 36)) (o := .cells #[.int .i64 0, .slice none 0 0] 31) (b := w.heap.size + 1) (by simp)) hb1
  have fE0 := blk_below (blk_below (blk_new (w := w) (o := .cells #[.int .i64 8, .string nm, .int .i64 u, .int .i64 tk, .slice ta tn tq, .int .i64 fk, .slice fa fn fq, .int .i64 lb, .slice ca cm cq] 36) rfl) (bal1 (o := .cells #[.int .i64 0, .slice none 0 0] 31))) hb1
  clear hb1
  go_wp2_with fail
  refine (implBaseW _ _).mono ?_
  rintro e w2 ⟨rfl, hb2⟩
  replace fE0 := blk_below fE0 hb2
  replace HB1 := Lib.hid (bstep HB1.out hb2)
  replace fR0 := blk_below fR0 hb2
  have hlr := blk_lt fR0
  clear hb2
  have d0 := blk_cell fE0 (o := 0) rfl
  have d1 := blk_cell fE0 (o := 1) rfl
  have lE := blk_lt fE0
  have lE2 : w.heap.size < w2.heap.size + 1 + 1 := by omega
  have lE1 : w.heap.size < w2.heap.size + 1 := by omega
  have HBV := Lib.hid (show Below w.heap.size w ((w2.alloc (.cells #[.int .i64 2, .slice none 0 0] 31)).alloc (.cells #[.int .i64 3, .slice none 0 0] 31)) from bstep (bstep HB1.out bal1) bal1)
  have lE3 : w.heap.size < w2.heap.size + 1 + 1 + 1 := by omega
  go_wp2_with fail
  obtain ⟨VV, hVV⟩ : ∃ X, X = (((w2.alloc (.cells #[.int .i64 2, .slice none 0 0] 31)).alloc (.cells #[.int .i64 3, .slice none 0 0] 31)).alloc (.cells #[.int .i64 3, .slice none 0 0] 31)) := ⟨_, rfl⟩
  have fR : VV.heap[w.heap.size + 1]? = some (.cells #[.int .i64 0, .slice none 0 0] 31 (0, 0)) := by rw [hVV]; exact blk_below (blk_below (blk_below fR0 bal1) bal1) bal1
  have f2 : VV.heap[w2.heap.size]? = some (.cells #[.int .i64 2, .slice none 0 0] 31 (0, 0)) := by rw [hVV]; exact blk_below (blk_below (blk_new rfl) bal1) bal1
  have fT : VV.heap[w2.heap.size + 1 + 1]? = some (.cells #[.int .i64 3, .slice none 0 0] 31 (0, 0)) := by rw [hVV]; exact blk_new (by simp)
  have fC : Hid (Below w.heap.size w VV) := by rw [hVV]; exact Lib.hid (bstep HBV.out bal1)
  have c1a_ : VV.cell? ⟨b, off, none⟩ = some (.int .i64 k1) := by rw [hVV]; exact bcell bal1 (bcell HBV.out e1a)
  have c1b_ : VV.cell? ⟨b, off + 1, none⟩ = some (.slice c1 m1 q1) := by rw [hVV]; exact bcell bal1 (bcell HBV.out e1b)
  have h1_ : Hid (TyRep (fun x => G x ∧ x < w.heap.size) VV h1.ty (.agg #[.int .i64 k1, .slice c1 m1 q1])) := by rw [hVV]; exact Lib.hid ((H1.out.below HBV.out).below bal1)
  have c2a_ : VV.cell? ⟨b, off + 2, none⟩ = some (.int .i64 k2) := by rw [hVV]; exact bcell bal1 (bcell HBV.out e2a)
  have c2b_ : VV.cell? ⟨b, off + 3, none⟩ = some (.slice c2 m2 q2) := by rw [hVV]; exact bcell bal1 (bcell HBV.out e2b)
  have h2_ : Hid (TyRep (fun x => G x ∧ x < w.heap.size) VV h2.ty (.agg #[.int .i64 k2, .slice c2 m2 q2])) := by rw [hVV]; exact Lib.hid ((H2.out.below HBV.out).below bal1)
  rw [← hVV]
  have zV : VV.heap.size = _ := congrArg (fun X : World => X.heap.size) hVV
  simp only [World.size_alloc] at zV
  refine wp_region_noPanic ?_
  refine wp_region_held_drew (S := fun w' => w'.cell? ⟨w2.heap.size, 0, none⟩ = some (.int .i64 2) ∧ w'.cell? ⟨w2.heap.size, 1, none⟩ = some (.slice none 0 0) ∧ w'.cell? ⟨w2.heap.size + 1 + 1, 0, none⟩ = some (.int .i64 3) ∧ w'.cell? ⟨w2.heap.size + 1 + 1, 1, none⟩ = some (.slice none 0 0) ∧ w'.cell? ⟨b, off, none⟩ = some (.int .i64 k1) ∧ w'.cell? ⟨b, off + 1, none⟩ = some (.slice c1 m1 q1) ∧ w'.cell? ⟨b, off + 2, none⟩ = some (.int .i64 k2) ∧ w'.cell? ⟨b, off + 3, none⟩ = some (.slice c2 m2 q2)) (by kernel_rfl) ?_ (fun hHeld0 => ?_)
  · exact ⟨blk_cell f2 rfl, blk_cell f2 rfl, blk_cell fT rfl, blk_cell fT rfl, c1a_, c1b_, c2a_, c2b_⟩
  obtain ⟨U12, hU, hb, zU12a, zU12b⟩ := drLet VV
  rw [hU] at hHeld0 ⊢
  replace fR := blk_below fR hb; replace f2 := blk_below f2 hb; replace fT := blk_below fT hb; replace fC := Lib.hid (bstep fC.out hb)
  replace c1a_ := bcell hb c1a_; replace c1b_ := bcell hb c1b_; replace h1_ := Lib.hid (h1_.out.below hb); replace c2a_ := bcell hb c2a_
  replace c2b_ := bcell hb c2b_; replace h2_ := Lib.hid (h2_.out.below hb)
  rw [zV] at zU12a zU12b
  clear hU hb hVV zV
  refine hwt 0 oW21_0 (.agg #[.int .i64 2, .slice none 0 0]) hHeld0 ?_ ?_
  · intro w' hSw; dsimp only [oW21_0]; go_simp
  try simp only [oW21_0, hwA]
  refine hwt 1 oW21_1 (.agg #[.int .i64 2, .slice none 0 0]) hHeld0 ?_ ?_
  · intro w' hSw; dsimp only [oW21_1]; go_simp
  try simp only [oW21_1, hwA]
  refine hwt 3 oW21_3 (.agg #[.int .i64 3, .slice none 0 0]) hHeld0 ?_ ?_
  · intro w' hSw; dsimp only [oW21_3]; go_simp
  try simp only [oW21_3, hwA]
  refine hwt 4 oW21_4 (.slice (some ⟨b, off, none⟩) 2 cap) hHeld0 ?_ ?_
  · intro w' hSw; dsimp only [oW21_4]; go_simp
  try simp only [oW21_4, hwA]
  refine hwt 5 oW21_5 (.pointer (some ⟨b, off, none⟩)) hHeld0 ?_ ?_
  · intro w' hSw; dsimp only [oW21_5]; go_simp
  try simp only [oW21_5, hwA]
  refine hwt 6 oW21_6 (.agg #[.int .i64 k1, .slice c1 m1 q1]) hHeld0 ?_ ?_
  · intro w' hSw; dsimp only [oW21_6]; go_simp
  try simp only [oW21_6, hwA]
  refine hwt 7 oW21_7 (.agg #[.int .i64 2, .slice none 0 0]) hHeld0 ?_ ?_
  · intro w' hSw; dsimp only [oW21_7]; go_simp
  try simp only [oW21_7, hwA]
  refine wpAnyH_ready (rs := [2, 8]) (by kernel_rfl) (by simp) ?_
  refine (AllReadyH.cons (o := oW21_2) rfl (fun K hK => ?_) (AllReadyH.cons (o := oW21_8) rfl (fun K hK => ?_) AllReadyH.nil))
  ·skip
   dsimp only [oW21_2]; go_simp
   (try go_wp2_with fail)
   obtain ⟨X1, hXq, hb, fL, zX1a, zX1b⟩ := alLet U12 (.cells #[.int .i64 2, .slice none 0 0, .int .i64 2, .slice none 0 0] 31)
   rw [hXq]
   replace fR := blk_below fR hb; replace f2 := blk_below f2 hb; replace fT := blk_below fT hb; replace fC := Lib.hid (bstep fC.out hb)
   replace c1a_ := bcell hb c1a_; replace c1b_ := bcell hb c1b_; replace h1_ := Lib.hid (h1_.out.below hb); replace c2a_ := bcell hb c2a_
   replace c2b_ := bcell hb c2b_; replace h2_ := Lib.hid (h2_.out.below hb)
   refine hK.out _ _ ⟨blk_cell f2 rfl, blk_cell f2 rfl, blk_cell fT rfl, blk_cell fT rfl, c1a_, c1b_, c2a_, c2b_⟩ (fun hHeld1 => ?_)
   clear hK K hHeld0 hb hXq
   try simp only [oW21_2, hwA]
   refine hwr 8 oW21_8 (fun K hK => ?_)
   dsimp only [oW21_8]; go_simp
   go_at_call 58
   refine (implConsistent0 _ (fun _ => True) _ (.mk 2 []) _ _ _ h1_.out (TyRep.leaf 2)).mono ?_
   rintro e X2 ⟨rfl, hb⟩
   rw [show (Ty.mk 2 []) = S.int.ty from rfl, S.ty_cons, HD1.out]
   go_wp2_with fail
   have zX2 : X1.heap.size ≤ X2.heap.size := hb.size
   replace fR := blk_below fR hb; replace f2 := blk_below f2 hb; replace fT := blk_below fT hb; replace fC := Lib.hid (bstep fC.out hb)
   replace c1a_ := bcell hb c1a_; replace c1b_ := bcell hb c1b_; replace h1_ := Lib.hid (h1_.out.below hb); replace c2a_ := bcell hb c2a_
   replace c2b_ := bcell hb c2b_; replace h2_ := Lib.hid (h2_.out.below hb); replace fL := blk_below fL hb
   refine hK.out _ _ ⟨blk_cell f2 rfl, blk_cell f2 rfl, blk_cell fT rfl, blk_cell fT rfl, c1a_, c1b_, c2a_, c2b_⟩ (fun hHeld2 => ?_)
   clear hK K hHeld1 hb
   try simp only [oW21_8, hwA]
   refine hwt 9 oW21_9 (.bool true) hHeld2 ?_ ?_
   · intro w' hSw; dsimp only [oW21_9]; go_simp
   try simp only [oW21_9, hwA]
   refine hwt 10 oW21_10 (.slice (some ⟨b, off, none⟩) 2 cap) hHeld2 ?_ ?_
   · intro w' hSw; dsimp only [oW21_10]; go_simp
   try simp only [oW21_10, hwA]
   refine hwt 11 oW21_11 (.pointer (some ⟨b, off + 2, none⟩)) hHeld2 ?_ ?_
   · intro w' hSw; dsimp only [oW21_11]; go_simp
   try simp only [oW21_11, hwA]
   refine hwt 12 oW21_12 (.agg #[.int .i64 k2, .slice c2 m2 q2]) hHeld2 ?_ ?_
   · intro w' hSw; dsimp only [oW21_12]; go_simp
   try simp only [oW21_12, hwA]
   refine hwt 13 oW21_13 (.agg #[.int .i64 2, .slice none 0 0]) hHeld2 ?_ ?_
   · intro w' hSw; dsimp only [oW21_13]; go_simp
   try simp only [oW21_13, hwA]
   refine hwr 14 oW21_14 (fun K hK => ?_)
   dsimp only [oW21_14]; go_simp
   go_at_call 58
   refine (implConsistent0 _ (fun _ => True) _ (.mk 2 []) _ _ _ h2_.out (TyRep.leaf 2)).mono ?_
   rintro e X3 ⟨rfl, hb⟩
   rw [show (Ty.mk 2 []) = S.int.ty from rfl, S.ty_cons, HD2.out]
   go_wp2_with fail
   have zX3 : X2.heap.size ≤ X3.heap.size := hb.size
   replace fR := blk_below fR hb; replace f2 := blk_below f2 hb; replace fT := blk_below fT hb; replace fC := Lib.hid (bstep fC.out hb)
   replace c1a_ := bcell hb c1a_; replace c1b_ := bcell hb c1b_; replace h1_ := Lib.hid (h1_.out.below hb); replace c2a_ := bcell hb c2a_
   replace c2b_ := bcell hb c2b_; replace h2_ := Lib.hid (h2_.out.below hb); replace fL := blk_below fL hb
   refine hK.out _ _ ⟨blk_cell f2 rfl, blk_cell f2 rfl, blk_cell fT rfl, blk_cell fT rfl, c1a_, c1b_, c2a_, c2b_⟩ (fun hHeld3 => ?_)
   clear hK K hHeld2 hb
   try simp only [oW21_14, hwA]
   refine hwt 15 oW21_15 (.bool d2) hHeld3 ?_ ?_
   · intro w' hSw; dsimp only [oW21_15]; go_simp
   try simp only [oW21_15, hwA]
   refine hwt 16 oW21_16 (.slice (some ⟨U12.heap.size, 0, none⟩) 2 2) hHeld3 ?_ ?_
   · intro w' hSw; dsimp only [oW21_16]; go_simp
   try simp only [oW21_16, hwA]
   refine hwr 17 oW21_17 (fun K hK => ?_)
   obtain ⟨r0, r1, rf0, rf1⟩ := blkR fR
   dsimp only [oW21_17]; go_simp
   (try go_wp2_with fail)
   have hQq := stLet2 fR (.int .i64 3) (.slice none 0 0)
   clear fR r0 r1 rf0 rf1
   obtain ⟨X4, hXq, hsq, fR, zX4a, zX4b⟩ := hQq
   rw [hXq]
   replace f2 := hsq.blk (by omega) f2; replace fT := hsq.blk (by omega) fT; replace fC := Lib.hid (hsq.bel fC.out (by omega)); replace c1a_ := hsq.cell (by show b ≠ w.heap.size + 1; omega) c1a_
   replace c1b_ := hsq.cell (by show b ≠ w.heap.size + 1; omega) c1b_; replace h1_ := Lib.hid (hsq.rep (fun b hb => by have h1 := hb.2; omega) h1_.out); replace c2a_ := hsq.cell (by show b ≠ w.heap.size + 1; omega) c2a_; replace c2b_ := hsq.cell (by show b ≠ w.heap.size + 1; omega) c2b_
   replace h2_ := Lib.hid (hsq.rep (fun b hb => by have h1 := hb.2; omega) h2_.out); replace fL := hsq.blk (by omega) fL
   refine hK.out _ _ ⟨blk_cell f2 rfl, blk_cell f2 rfl, blk_cell fT rfl, blk_cell fT rfl, c1a_, c1b_, c2a_, c2b_⟩ (fun hHeld4 => ?_)
   clear hK K hHeld3 hsq hXq
   try simp only [oW21_17, hwA]
   refine hwt 18 oW21_18 (.bool d2) hHeld4 ?_ ?_
   · intro w' hSw; dsimp only [oW21_18]; go_simp
   try simp only [oW21_18, hwA]
   refine wpAnyH_done (by kernel_rfl) ?_ _
   refine NoPanic.normal ?_
   clear hHeld4
   have rc0 := blk_cell fR (o := 0) rfl
   have rc1 := blk_cell fR (o := 1) rfl
   go_wp2_with fail
   refine bodyPost_ret (v := .tuple #[.slice (some ⟨U12.heap.size, 0, none⟩) 2 2, .agg #[.int .i64 3, .slice none 0 0], .bool d2]) (by simp [results, Try.results39, go_sem, rc0, rc1]) rfl ?_
   have hw2 : w.heap.size ≤ w2.heap.size := HB1.out.size
   have HN : O = if d2 = true then some ([S.int, S.int], S.bool) else none := by rw [HOO.out, HD1.out, HD2.out, Bool.true_and]; simp
   refine ⟨_, _, _, _, _, _, _, _, rfl, by rw [HN]; cases d2 <;> rfl, ?_, fC.out⟩
   intro ws t h
   rw [HN] at h
   cases d2 with
   | false => cases h
   | true =>
     simp only [if_true, Option.some.injEq, Prod.mk.injEq] at h
     obtain ⟨rfl, rfl⟩ := h
     exact ⟨TysRep.two_mk (b := U12.heap.size) (cap := 2) (k1 := 2) (k2 := 2) (c1 := .slice none 0 0) (c2 := .slice none 0 0) (.inr (by omega)) (Nat.le_refl 2) (by unfold maxLen; omega) (blk_cell fL (o := 0) rfl) (blk_cell fL (o := 1) rfl) (blk_cell fL (o := 2) rfl) (blk_cell fL (o := 3) rfl) (TyRep.leafG 2) (TyRep.leafG 2), TyRep.leafG 3⟩
  ·skip
   dsimp only [oW21_8]; go_simp
   go_at_call 58
   refine (implConsistent0 _ (fun _ => True) _ (.mk 2 []) _ _ _ h1_.out (TyRep.leaf 2)).mono ?_
   rintro e X5 ⟨rfl, hb⟩
   rw [show (Ty.mk 2 []) = S.int.ty from rfl, S.ty_cons, HD1.out]
   go_wp2_with fail
   have zX5 : U12.heap.size ≤ X5.heap.size := hb.size
   replace fR := blk_below fR hb; replace f2 := blk_below f2 hb; replace fT := blk_below fT hb; replace fC := Lib.hid (bstep fC.out hb)
   replace c1a_ := bcell hb c1a_; replace c1b_ := bcell hb c1b_; replace h1_ := Lib.hid (h1_.out.below hb); replace c2a_ := bcell hb c2a_
   replace c2b_ := bcell hb c2b_; replace h2_ := Lib.hid (h2_.out.below hb)
   refine hK.out _ _ ⟨blk_cell f2 rfl, blk_cell f2 rfl, blk_cell fT rfl, blk_cell fT rfl, c1a_, c1b_, c2a_, c2b_⟩ (fun hHeld1 => ?_)
   clear hK K hHeld0 hb
   try simp only [oW21_8, hwA]
   refine hwt 9 oW21_9 (.bool true) hHeld1 ?_ ?_
   · intro w' hSw; dsimp only [oW21_9]; go_simp
   try simp only [oW21_9, hwA]
   refine hwt 10 oW21_10 (.slice (some ⟨b, off, none⟩) 2 cap) hHeld1 ?_ ?_
   · intro w' hSw; dsimp only [oW21_10]; go_simp
   try simp only [oW21_10, hwA]
   refine hwt 11 oW21_11 (.pointer (some ⟨b, off + 2, none⟩)) hHeld1 ?_ ?_
   · intro w' hSw; dsimp only [oW21_11]; go_simp
   try simp only [oW21_11, hwA]
   refine hwt 12 oW21_12 (.agg #[.int .i64 k2, .slice c2 m2 q2]) hHeld1 ?_ ?_
   · intro w' hSw; dsimp only [oW21_12]; go_simp
   try simp only [oW21_12, hwA]
   refine hwt 13 oW21_13 (.agg #[.int .i64 2, .slice none 0 0]) hHeld1 ?_ ?_
   · intro w' hSw; dsimp only [oW21_13]; go_simp
   try simp only [oW21_13, hwA]
   refine wpAnyH_ready (rs := [2, 14]) (by kernel_rfl) (by simp) ?_
   refine (AllReadyH.cons (o := oW21_2) rfl (fun K hK => ?_) (AllReadyH.cons (o := oW21_14) rfl (fun K hK => ?_) AllReadyH.nil))
   ·skip
    dsimp only [oW21_2]; go_simp
    (try go_wp2_with fail)
    obtain ⟨X6, hXq, hb, fL, zX6a, zX6b⟩ := alLet X5 (.cells #[.int .i64 2, .slice none 0 0, .int .i64 2, .slice none 0 0] 31)
    rw [hXq]
    replace fR := blk_below fR hb; replace f2 := blk_below f2 hb; replace fT := blk_below fT hb; replace fC := Lib.hid (bstep fC.out hb)
    replace c1a_ := bcell hb c1a_; replace c1b_ := bcell hb c1b_; replace h1_ := Lib.hid (h1_.out.below hb); replace c2a_ := bcell hb c2a_
    replace c2b_ := bcell hb c2b_; replace h2_ := Lib.hid (h2_.out.below hb)
    refine hK.out _ _ ⟨blk_cell f2 rfl, blk_cell f2 rfl, blk_cell fT rfl, blk_cell fT rfl, c1a_, c1b_, c2a_, c2b_⟩ (fun hHeld5 => ?_)
    clear hK K hHeld1 hb hXq
    try simp only [oW21_2, hwA]
    refine hwr 14 oW21_14 (fun K hK => ?_)
    dsimp only [oW21_14]; go_simp
    go_at_call 58
    refine (implConsistent0 _ (fun _ => True) _ (.mk 2 []) _ _ _ h2_.out (TyRep.leaf 2)).mono ?_
    rintro e X7 ⟨rfl, hb⟩
    rw [show (Ty.mk 2 []) = S.int.ty from rfl, S.ty_cons, HD2.out]
    go_wp2_with fail
    have zX7 : X6.heap.size ≤ X7.heap.size := hb.size
    replace fR := blk_below fR hb; replace f2 := blk_below f2 hb; replace fT := blk_below fT hb; replace fC := Lib.hid (bstep fC.out hb)
    replace c1a_ := bcell hb c1a_; replace c1b_ := bcell hb c1b_; replace h1_ := Lib.hid (h1_.out.below hb); replace c2a_ := bcell hb c2a_
    replace c2b_ := bcell hb c2b_; replace h2_ := Lib.hid (h2_.out.below hb); replace fL := blk_below fL hb
    refine hK.out _ _ ⟨blk_cell f2 rfl, blk_cell f2 rfl, blk_cell fT rfl, blk_cell fT rfl, c1a_, c1b_, c2a_, c2b_⟩ (fun hHeld6 => ?_)
    clear hK K hHeld5 hb
    try simp only [oW21_14, hwA]
    refine hwt 15 oW21_15 (.bool d2) hHeld6 ?_ ?_
    · intro w' hSw; dsimp only [oW21_15]; go_simp
    try simp only [oW21_15, hwA]
    refine hwt 16 oW21_16 (.slice (some ⟨X5.heap.size, 0, none⟩) 2 2) hHeld6 ?_ ?_
    · intro w' hSw; dsimp only [oW21_16]; go_simp
    try simp only [oW21_16, hwA]
    refine hwr 17 oW21_17 (fun K hK => ?_)
    obtain ⟨r0, r1, rf0, rf1⟩ := blkR fR
    dsimp only [oW21_17]; go_simp
    (try go_wp2_with fail)
    have hQq := stLet2 fR (.int .i64 3) (.slice none 0 0)
    clear fR r0 r1 rf0 rf1
    obtain ⟨X8, hXq, hsq, fR, zX8a, zX8b⟩ := hQq
    rw [hXq]
    replace f2 := hsq.blk (by omega) f2; replace fT := hsq.blk (by omega) fT; replace fC := Lib.hid (hsq.bel fC.out (by omega)); replace c1a_ := hsq.cell (by show b ≠ w.heap.size + 1; omega) c1a_
    replace c1b_ := hsq.cell (by show b ≠ w.heap.size + 1; omega) c1b_; replace h1_ := Lib.hid (hsq.rep (fun b hb => by have h1 := hb.2; omega) h1_.out); replace c2a_ := hsq.cell (by show b ≠ w.heap.size + 1; omega) c2a_; replace c2b_ := hsq.cell (by show b ≠ w.heap.size + 1; omega) c2b_
    replace h2_ := Lib.hid (hsq.rep (fun b hb => by have h1 := hb.2; omega) h2_.out); replace fL := hsq.blk (by omega) fL
    refine hK.out _ _ ⟨blk_cell f2 rfl, blk_cell f2 rfl, blk_cell fT rfl, blk_cell fT rfl, c1a_, c1b_, c2a_, c2b_⟩ (fun hHeld7 => ?_)
    clear hK K hHeld6 hsq hXq
    try simp only [oW21_17, hwA]
    refine hwt 18 oW21_18 (.bool d2) hHeld7 ?_ ?_
    · intro w' hSw; dsimp only [oW21_18]; go_simp
    try simp only [oW21_18, hwA]
    refine wpAnyH_done (by kernel_rfl) ?_ _
    refine NoPanic.normal ?_
    clear hHeld7
    have rc0 := blk_cell fR (o := 0) rfl
    have rc1 := blk_cell fR (o := 1) rfl
    go_wp2_with fail
    refine bodyPost_ret (v := .tuple #[.slice (some ⟨X5.heap.size, 0, none⟩) 2 2, .agg #[.int .i64 3, .slice none 0 0], .bool d2]) (by simp [results, Try.results39, go_sem, rc0, rc1]) rfl ?_
    have hw2 : w.heap.size ≤ w2.heap.size := HB1.out.size
    have HN : O = if d2 = true then some ([S.int, S.int], S.bool) else none := by rw [HOO.out, HD1.out, HD2.out, Bool.true_and]; simp
    refine ⟨_, _, _, _, _, _, _, _, rfl, by rw [HN]; cases d2 <;> rfl, ?_, fC.out⟩
    intro ws t h
    rw [HN] at h
    cases d2 with
    | false => cases h
    | true =>
      simp only [if_true, Option.some.injEq, Prod.mk.injEq] at h
      obtain ⟨rfl, rfl⟩ := h
      exact ⟨TysRep.two_mk (b := X5.heap.size) (cap := 2) (k1 := 2) (k2 := 2) (c1 := .slice none 0 0) (c2 := .slice none 0 0) (.inr (by omega)) (Nat.le_refl 2) (by unfold maxLen; omega) (blk_cell fL (o := 0) rfl) (blk_cell fL (o := 1) rfl) (blk_cell fL (o := 2) rfl) (blk_cell fL (o := 3) rfl) (TyRep.leafG 2) (TyRep.leafG 2), TyRep.leafG 3⟩
   ·skip
    dsimp only [oW21_14]; go_simp
    go_at_call 58
    refine (implConsistent0 _ (fun _ => True) _ (.mk 2 []) _ _ _ h2_.out (TyRep.leaf 2)).mono ?_
    rintro e X9 ⟨rfl, hb⟩
    rw [show (Ty.mk 2 []) = S.int.ty from rfl, S.ty_cons, HD2.out]
    go_wp2_with fail
    have zX9 : X5.heap.size ≤ X9.heap.size := hb.size
    replace fR := blk_below fR hb; replace f2 := blk_below f2 hb; replace fT := blk_below fT hb; replace fC := Lib.hid (bstep fC.out hb)
    replace c1a_ := bcell hb c1a_; replace c1b_ := bcell hb c1b_; replace h1_ := Lib.hid (h1_.out.below hb); replace c2a_ := bcell hb c2a_
    replace c2b_ := bcell hb c2b_; replace h2_ := Lib.hid (h2_.out.below hb)
    refine hK.out _ _ ⟨blk_cell f2 rfl, blk_cell f2 rfl, blk_cell fT rfl, blk_cell fT rfl, c1a_, c1b_, c2a_, c2b_⟩ (fun hHeld5 => ?_)
    clear hK K hHeld1 hb
    try simp only [oW21_14, hwA]
    refine hwt 15 oW21_15 (.bool d2) hHeld5 ?_ ?_
    · intro w' hSw; dsimp only [oW21_15]; go_simp
    try simp only [oW21_15, hwA]
    refine hwr 2 oW21_2 (fun K hK => ?_)
    dsimp only [oW21_2]; go_simp
    (try go_wp2_with fail)
    obtain ⟨X10, hXq, hb, fL, zX10a, zX10b⟩ := alLet X9 (.cells #[.int .i64 2, .slice none 0 0, .int .i64 2, .slice none 0 0] 31)
    rw [hXq]
    replace fR := blk_below fR hb; replace f2 := blk_below f2 hb; replace fT := blk_below fT hb; replace fC := Lib.hid (bstep fC.out hb)
    replace c1a_ := bcell hb c1a_; replace c1b_ := bcell hb c1b_; replace h1_ := Lib.hid (h1_.out.below hb); replace c2a_ := bcell hb c2a_
    replace c2b_ := bcell hb c2b_; replace h2_ := Lib.hid (h2_.out.below hb)
    refine hK.out _ _ ⟨blk_cell f2 rfl, blk_cell f2 rfl, blk_cell fT rfl, blk_cell fT rfl, c1a_, c1b_, c2a_, c2b_⟩ (fun hHeld8 => ?_)
    clear hK K hHeld5 hb hXq
    try simp only [oW21_2, hwA]
    refine hwt 16 oW21_16 (.slice (some ⟨X9.heap.size, 0, none⟩) 2 2) hHeld8 ?_ ?_
    · intro w' hSw; dsimp only [oW21_16]; go_simp
    try simp only [oW21_16, hwA]
    refine hwr 17 oW21_17 (fun K hK => ?_)
    obtain ⟨r0, r1, rf0, rf1⟩ := blkR fR
    dsimp only [oW21_17]; go_simp
    (try go_wp2_with fail)
    have hQq := stLet2 fR (.int .i64 3) (.slice none 0 0)
    clear fR r0 r1 rf0 rf1
    obtain ⟨X11, hXq, hsq, fR, zX11a, zX11b⟩ := hQq
    rw [hXq]
    replace f2 := hsq.blk (by omega) f2; replace fT := hsq.blk (by omega) fT; replace fC := Lib.hid (hsq.bel fC.out (by omega)); replace c1a_ := hsq.cell (by show b ≠ w.heap.size + 1; omega) c1a_
    replace c1b_ := hsq.cell (by show b ≠ w.heap.size + 1; omega) c1b_; replace h1_ := Lib.hid (hsq.rep (fun b hb => by have h1 := hb.2; omega) h1_.out); replace c2a_ := hsq.cell (by show b ≠ w.heap.size + 1; omega) c2a_; replace c2b_ := hsq.cell (by show b ≠ w.heap.size + 1; omega) c2b_
    replace h2_ := Lib.hid (hsq.rep (fun b hb => by have h1 := hb.2; omega) h2_.out); replace fL := hsq.blk (by omega) fL
    refine hK.out _ _ ⟨blk_cell f2 rfl, blk_cell f2 rfl, blk_cell fT rfl, blk_cell fT rfl, c1a_, c1b_, c2a_, c2b_⟩ (fun hHeld9 => ?_)
    clear hK K hHeld8 hsq hXq
    try simp only [oW21_17, hwA]
    refine hwt 18 oW21_18 (.bool d2) hHeld9 ?_ ?_
    · intro w' hSw; dsimp only [oW21_18]; go_simp
    try simp only [oW21_18, hwA]
    refine wpAnyH_done (by kernel_rfl) ?_ _
    refine NoPanic.normal ?_
    clear hHeld9
    have rc0 := blk_cell fR (o := 0) rfl
    have rc1 := blk_cell fR (o := 1) rfl
    go_wp2_with fail
    refine bodyPost_ret (v := .tuple #[.slice (some ⟨X9.heap.size, 0, none⟩) 2 2, .agg #[.int .i64 3, .slice none 0 0], .bool d2]) (by simp [results, Try.results39, go_sem, rc0, rc1]) rfl ?_
    have hw2 : w.heap.size ≤ w2.heap.size := HB1.out.size
    have HN : O = if d2 = true then some ([S.int, S.int], S.bool) else none := by rw [HOO.out, HD1.out, HD2.out, Bool.true_and]; simp
    refine ⟨_, _, _, _, _, _, _, _, rfl, by rw [HN]; cases d2 <;> rfl, ?_, fC.out⟩
    intro ws t h
    rw [HN] at h
    cases d2 with
    | false => cases h
    | true =>
      simp only [if_true, Option.some.injEq, Prod.mk.injEq] at h
      obtain ⟨rfl, rfl⟩ := h
      exact ⟨TysRep.two_mk (b := X9.heap.size) (cap := 2) (k1 := 2) (k2 := 2) (c1 := .slice none 0 0) (c2 := .slice none 0 0) (.inr (by omega)) (Nat.le_refl 2) (by unfold maxLen; omega) (blk_cell fL (o := 0) rfl) (blk_cell fL (o := 1) rfl) (blk_cell fL (o := 2) rfl) (blk_cell fL (o := 3) rfl) (TyRep.leafG 2) (TyRep.leafG 2), TyRep.leafG 3⟩
end Go.Proofs.Ytkhmkohgnikcmaa
