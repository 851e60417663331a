/-
  impl.wanted at applications.
-/
import Derived.Test.YtkhmkohgnikcmaaCtWant11
import Derived.Test.YtkhmkohgnikcmaaB37
namespace Go.Proofs.Ytkhmkohgnikcmaa
open Go.RowKit
set_option linter.unusedVariables false
set_option linter.unusedSimpArgs false
set_option maxRecDepth 100000

theorem want_app {ty : Ty} {g h : S} : wantS 6 ty [g, h] = if ((g.mat 4).2.2 && h.cons (g.mat 4).1) = true then some ([.fn (g.mat 4).1 (g.mat 4).2.1, (g.mat 4).1], (g.mat 4).2.1) else none := by
  simp only [wantS, if_true]
  cases g <;> simp [S.mat]
def oW15_0 : Oper := ⟨some 62, Op.load 31 (Operand.tmp 13), 31, "l3_typing.go:113", #[], none⟩
def oW15_1 : Oper := ⟨some 63, Op.load 31 (Operand.tmp 14), 31, "l3_typing.go:113", #[], none⟩
def oW15_2 : Oper := ⟨some 64, Op.call { callee := Callee.value (Operand.func 56), args := #[Operand.const (Value.int IntKind.i64 4), Operand.tmp 62, Operand.tmp 63], argTypes := #[3, 31, 31] }, 31, "l3_typing.go:113", #[⟨0, .data⟩, ⟨1, .data⟩], none⟩
def oW15_3 : Oper := ⟨some 65, Op.load 31 (Operand.tmp 13), 31, "l3_typing.go:113", #[], none⟩
def oW15_4 : Oper := ⟨some 66, Op.buildSlice 29 2 #[(0, Operand.tmp 64), (1, Operand.tmp 65)], 29, "l3_typing.go:113", #[⟨2, .data⟩, ⟨3, .data⟩], none⟩
def oW15_5 : Oper := ⟨some 67, Op.load 31 (Operand.tmp 14), 31, "l3_typing.go:113", #[⟨14, .gcOnly .lateStores⟩], none⟩
def oW15_6 : Oper := ⟨some 68, Op.move (Operand.tmp 15), 4, "l3_typing.go:113", #[], none⟩
def oW15_7 : Oper := ⟨some 69, Op.move (Operand.tmp 68), 4, "l3_typing.go:113", #[⟨6, .data⟩, ⟨2, .chain⟩], none⟩
def oW15_8 : Oper := ⟨some 70, Op.move (Operand.tmp 2), 29, "l3_typing.go:113", #[⟨7, .guard⟩], some (7, true)⟩
def oW15_9 : Oper := ⟨some 71, Op.indexAddr 29 (Operand.tmp 70) (Operand.const (Value.int IntKind.i64 1)), 0, "l3_typing.go:113", #[⟨8, .data⟩, ⟨7, .guard⟩], some (7, true)⟩
def oW15_10 : Oper := ⟨some 72, Op.load 31 (Operand.tmp 71), 31, "l3_typing.go:113", #[⟨9, .data⟩, ⟨7, .guard⟩], some (7, true)⟩
def oW15_11 : Oper := ⟨some 73, Op.load 31 (Operand.tmp 13), 31, "l3_typing.go:113", #[⟨7, .guard⟩], some (7, true)⟩
def oW15_12 : Oper := ⟨some 74, Op.call { callee := Callee.value (Operand.func 58), args := #[Operand.tmp 72, Operand.tmp 73], argTypes := #[31, 31] }, 4, "l3_typing.go:113", #[⟨10, .data⟩, ⟨11, .data⟩, ⟨7, .chain⟩, ⟨7, .guard⟩], some (7, true)⟩
def oW15_13 : Oper := ⟨some 75, Op.pick (Operand.tmp 69) (Operand.tmp 74) (Operand.const (Value.bool false)), 4, "l3_typing.go:113", #[⟨7, .data⟩, ⟨12, .data⟩, ⟨15, .gcOnly .lateStores⟩], none⟩
def oW15_14 : Oper := ⟨some 6, Op.assign (Operand.tmp 66), 29, "l3_typing.go:113", #[⟨4, .data⟩, ⟨12, .chain⟩, ⟨0, .phase⟩, ⟨1, .phase⟩, ⟨2, .phase⟩, ⟨3, .phase⟩, ⟨4, .phase⟩, ⟨5, .textOnly .lateStores⟩, ⟨6, .textOnly .lateStores⟩, ⟨7, .textOnly .lateStores⟩, ⟨8, .textOnly .lateStores⟩, ⟨9, .textOnly .lateStores⟩, ⟨10, .textOnly .lateStores⟩, ⟨11, .textOnly .lateStores⟩, ⟨12, .textOnly .lateStoresUnsure⟩, ⟨13, .textOnly .lateStores⟩], none⟩
def oW15_15 : Oper := ⟨none, Op.store 31 (Operand.tmp 7) (Operand.tmp 67), 0, "l3_typing.go:113", #[⟨5, .data⟩, ⟨14, .chain⟩, ⟨0, .phase⟩, ⟨1, .phase⟩, ⟨2, .phase⟩, ⟨3, .phase⟩, ⟨4, .phase⟩, ⟨5, .phase⟩, ⟨6, .textOnly .lateStores⟩, ⟨7, .textOnly .lateStores⟩, ⟨8, .textOnly .lateStores⟩, ⟨9, .textOnly .lateStores⟩, ⟨10, .textOnly .lateStores⟩, ⟨11, .textOnly .lateStores⟩, ⟨12, .textOnly .lateStoresUnsure⟩, ⟨13, .textOnly .lateStores⟩, ⟨14, .phase⟩], none⟩
def oW15_16 : Oper := ⟨some 8, Op.assign (Operand.tmp 75), 4, "l3_typing.go:113", #[⟨13, .data⟩, ⟨15, .chain⟩, ⟨0, .phase⟩, ⟨1, .phase⟩, ⟨2, .phase⟩, ⟨3, .phase⟩, ⟨4, .phase⟩, ⟨5, .phase⟩, ⟨6, .phase⟩, ⟨7, .phase⟩, ⟨8, .phase⟩, ⟨9, .phase⟩, ⟨10, .phase⟩, ⟨11, .phase⟩, ⟨12, .phase⟩, ⟨13, .phase⟩, ⟨14, .phase⟩, ⟨15, .phase⟩], none⟩
set_option maxHeartbeats 4000000 in
theorem implWanted_6_f (G : Nat → Prop) (c y : Value) (hcs : ∃ a n q, c = .slice a n q) (nm : ByteArray) (u lb tk fk : Int) (ty : Ty) (ta fa ca : Option Addr) (tn tq fn fq cm cq : Nat) (w : World) (h1 h2 : S) (hd : (h1.mat 4).2.2 = false) (hy : TysRep G w [h1.ty, h2.ty] y) :
    Calls Try.prog 39 #[c, .agg #[.int .i64 6, .string nm, .int .i64 u, .int .i64 tk, .slice ta tn tq, .int .i64 fk, .slice fa fn fq, .int .i64 lb, .slice ca cm cq], y] w (RetW G (wantS 6 ty [h1, h2]) w) := by
  obtain ⟨b, off, cap, k1, c1, m1, q1, k2, c2, m2, q2, rfl, -, -, hlb, e1a, e1b, e2a, e2b, ht1, ht2⟩ := hy.two
  obtain ⟨xa0, xn0, xq0, rfl⟩ := hcs
  have HOO := Lib.hid (want_app (ty := ty) (g := h1) (h := h2))
  have H1 := Lib.hid (ht1.move (.weaken (G := (fun x => G x ∧ x < w.heap.size)) fun b h hl => ⟨h, hl⟩))
  have H2 := Lib.hid (ht2.move (.weaken (G := (fun x => G x ∧ x < w.heap.size)) fun b h hl => ⟨h, hl⟩))
  have HM := Lib.hid (fun W (h : Below w.heap.size w W) => implMatchG _ h1 4 (.inl rfl) _ W (H1.out.below h))
  generalize wantS 6 ty [h1, h2] = O at HOO ⊢
  generalize h1.mat 4 = mm at HOO HM hd
  obtain ⟨ma, mb, okk⟩ := mm
  simp only at HOO HM hd
  obtain ⟨d2, hd2⟩ : ∃ d2, h2.cons ma = d2 := ⟨_, rfl⟩
  rw [hd, hd2] at HOO
  rw [hd] at HM
  have HD2 := Lib.hid hd2
  clear hy ht1 ht2 hd hd2
  go_enter Try.func39, Try.ntmps39
  go_wp2_with fail
  refine (implBaseW _ _).mono ?_
  rintro e w1 ⟨rfl, hb1⟩
  have HB1 := Lib.hid (bstep (bstep bal1 bal1) hb1)
  have fR0 := blk_below (blk_new (w := w.alloc (.cells #[.int .i64 6, .string nm, .int .i64 u, .int .i64 tk, .slice ta tn tq, .int .i64 fk, .slice fa fn fq, .int .i64 lb, .slice ca cm cq] 36)) (o := .cells #[.int .i64 0, .slice none 0 0] 31) (b := w.heap.size + 1) (by simp)) hb1
  have fE0 := blk_below (blk_below (blk_new (w := w) (o := .cells #[.int .i64 6, .string nm, .int .i64 u, .int .i64 tk, .slice ta tn tq, .int .i64 fk, .slice fa fn fq, .int .i64 lb, .slice ca cm cq] 36) rfl) (bal1 (o := .cells #[.int .i64 0, .slice none 0 0] 31))) hb1
  clear hb1
  go_wp2_with fail
  refine (implBaseW _ _).mono ?_
  rintro e w2 ⟨rfl, hb2⟩
  replace fE0 := blk_below fE0 hb2
  replace HB1 := Lib.hid (bstep HB1.out hb2)
  replace fR0 := blk_below fR0 hb2
  have hlr := blk_lt fR0
  clear hb2
  have d0 := blk_cell fE0 (o := 0) rfl
  have d1 := blk_cell fE0 (o := 1) rfl
  have lE := blk_lt fE0
  have lE2 : w.heap.size < w2.heap.size + 1 + 1 := by omega
  have lE1 : w.heap.size < w2.heap.size + 1 := by omega
  have HBV := Lib.hid (show Below w.heap.size w ((w2.alloc (.cells #[.int .i64 2, .slice none 0 0] 31)).alloc (.cells #[.int .i64 3, .slice none 0 0] 31)) from bstep (bstep HB1.out bal1) bal1)
  have m0 := bcell HB1.out e1a
  have m1 := bcell HB1.out e1b
  have lb0 : b < w2.heap.size := by have := HB1.out.size; omega
  have lb1 : b < w2.heap.size + 1 := by omega
  have lb2 : b < w2.heap.size + 1 + 1 := by omega
  go_wp2_with fail
  refine (HM.out _ HBV.out).mono ?_
  rintro e w3 ⟨ya, yb, rfl, hya, hyb, hst⟩
  obtain ⟨k3, a3, n3, q3, rfl⟩ := hya.shape
  obtain ⟨k4, a4, n4, q4, rfl⟩ := hyb.shape
  have HYA := Lib.hid (hya.move (.weaken (G := (fun x => (G x ∧ x < w.heap.size) ∨ w2.heap.size ≤ x ∧ x < w3.heap.size)) fun b h hl => h.elim .inl fun h2 => .inr ⟨by simp at h2; omega, hl⟩))
  have HYB := Lib.hid (hyb.move (.weaken (G := (fun x => (G x ∧ x < w.heap.size) ∨ w2.heap.size ≤ x ∧ x < w3.heap.size)) fun b h hl => h.elim .inl fun h2 => .inr ⟨by simp at h2; omega, hl⟩))
  have fR3 := blk_below (blk_below (blk_below fR0 bal1) bal1) hst
  have fC3 := Lib.hid (bstep HBV.out hst)
  have z3 := hst.size
  simp only [World.size_alloc] at z3
  clear hya hyb hst d0 d1 m0 m1
  go_wp2_with fail
  obtain ⟨VV, hVV⟩ : ∃ X, X = ((w3.alloc (.cells #[.int .i64 k3, .slice a3 n3 q3] 31)).alloc (.cells #[.int .i64 k4, .slice a4 n4 q4] 31)) := ⟨_, rfl⟩
  have fR : VV.heap[w.heap.size + 1]? = some (.cells #[.int .i64 0, .slice none 0 0] 31 (0, 0)) := by rw [hVV]; exact blk_below (blk_below fR3 bal1) bal1
  have fA : VV.heap[w3.heap.size]? = some (.cells #[.int .i64 k3, .slice a3 n3 q3] 31 (0, 0)) := by rw [hVV]; exact blk_below (blk_new rfl) bal1
  have fB : VV.heap[w3.heap.size + 1]? = some (.cells #[.int .i64 k4, .slice a4 n4 q4] 31 (0, 0)) := by rw [hVV]; exact blk_new (by simp)
  have fC : Hid (Below w.heap.size w VV) := by rw [hVV]; exact Lib.hid (bstep (bstep fC3.out bal1) bal1)
  have hA : Hid (TyRep (fun x => (G x ∧ x < w.heap.size) ∨ w2.heap.size ≤ x ∧ x < w3.heap.size) VV ma.ty (.agg #[.int .i64 k3, .slice a3 n3 q3])) := by rw [hVV]; exact Lib.hid ((HYA.out.below bal1).below bal1)
  have hB_ : Hid (TyRep (fun x => (G x ∧ x < w.heap.size) ∨ w2.heap.size ≤ x ∧ x < w3.heap.size) VV mb.ty (.agg #[.int .i64 k4, .slice a4 n4 q4])) := by rw [hVV]; exact Lib.hid ((HYB.out.below bal1).below bal1)
  rw [← hVV]
  have zV : VV.heap.size = _ := congrArg (fun X : World => X.heap.size) hVV
  simp only [World.size_alloc] at zV
  refine wp_region_noPanic ?_
  refine wp_region_held_drew (S := fun w' => w'.cell? ⟨w3.heap.size, 0, none⟩ = some (.int .i64 k3) ∧ w'.cell? ⟨w3.heap.size, 1, none⟩ = some (.slice a3 n3 q3) ∧ w'.cell? ⟨w3.heap.size + 1, 0, none⟩ = some (.int .i64 k4) ∧ w'.cell? ⟨w3.heap.size + 1, 1, none⟩ = some (.slice a4 n4 q4)) (by kernel_rfl) ?_ (fun hHeld0 => ?_)
  · exact ⟨blk_cell fA rfl, blk_cell fA rfl, blk_cell fB rfl, blk_cell fB rfl⟩
  obtain ⟨U19, hU, hb, zU19a, zU19b⟩ := drLet VV
  rw [hU] at hHeld0 ⊢
  replace fR := blk_below fR hb; replace fA := blk_below fA hb; replace fB := blk_below fB hb; replace fC := Lib.hid (bstep fC.out hb)
  replace hA := Lib.hid (hA.out.below hb); replace hB_ := Lib.hid (hB_.out.below hb)
  rw [zV] at zU19a zU19b
  clear hU hb hVV zV
  refine hwt 0 oW15_0 (.agg #[.int .i64 k3, .slice a3 n3 q3]) hHeld0 ?_ ?_
  · intro w' hSw; dsimp only [oW15_0]; go_simp
  try simp only [oW15_0, hwA]
  refine hwt 1 oW15_1 (.agg #[.int .i64 k4, .slice a4 n4 q4]) hHeld0 ?_ ?_
  · intro w' hSw; dsimp only [oW15_1]; go_simp
  try simp only [oW15_1, hwA]
  refine hwt 3 oW15_3 (.agg #[.int .i64 k3, .slice a3 n3 q3]) hHeld0 ?_ ?_
  · intro w' hSw; dsimp only [oW15_3]; go_simp
  try simp only [oW15_3, hwA]
  refine hwt 5 oW15_5 (.agg #[.int .i64 k4, .slice a4 n4 q4]) hHeld0 ?_ ?_
  · intro w' hSw; dsimp only [oW15_5]; go_simp
  try simp only [oW15_5, hwA]
  refine hwt 6 oW15_6 (.bool false) hHeld0 ?_ ?_
  · intro w' hSw; dsimp only [oW15_6]; go_simp
  try simp only [oW15_6, hwA]
  refine hwr 2 oW15_2 (fun K hK => ?_)
  dsimp only [oW15_2]; go_simp
  go_at_call 56
  refine (implBothW _ 4 _ _ ma.ty mb.ty _ _ _ _ _ _ _ hA.out hB_.out).mono ?_
  rintro e X1 ⟨ab, nb, qb, rfl, hr, hb⟩
  have hN' : Hid (TyRep (fun x => ((G x ∧ x < w.heap.size) ∨ w2.heap.size ≤ x ∧ x < w3.heap.size) ∨ U19.heap.size ≤ x ∧ x < X1.heap.size) X1 (.mk 4 [ma.ty, mb.ty]) (.agg #[.int .i64 4, .slice ab nb qb])) := Lib.hid (hr.move (.weaken fun b h hl => h.elim .inl fun h2 => .inr ⟨h2, hl⟩))
  clear hr
  go_wp2_with fail
  have zX1 : U19.heap.size ≤ X1.heap.size := hb.size
  replace fR := blk_below fR hb; replace fA := blk_below fA hb; replace fB := blk_below fB hb; replace fC := Lib.hid (bstep fC.out hb)
  replace hA := Lib.hid (hA.out.below hb); replace hB_ := Lib.hid (hB_.out.below hb)
  have hN := hN'
  clear hN'
  refine hK.out _ _ ⟨blk_cell fA rfl, blk_cell fA rfl, blk_cell fB rfl, blk_cell fB rfl⟩ (fun hHeld1 => ?_)
  clear hK K hHeld0 hb
  try simp only [oW15_2, hwA]
  refine hwt 7 oW15_7 (.bool false) hHeld1 ?_ ?_
  · intro w' hSw; dsimp only [oW15_7]; go_simp
  try simp only [oW15_7, hwA]
  refine hwn 8 oW15_8 hHeld1 ?_
  try simp only [oW15_8, hwA]
  refine hwn 9 oW15_9 hHeld1 ?_
  try simp only [oW15_9, hwA]
  refine hwn 10 oW15_10 hHeld1 ?_
  try simp only [oW15_10, hwA]
  refine hwn 11 oW15_11 hHeld1 ?_
  try simp only [oW15_11, hwA]
  refine hwn 12 oW15_12 hHeld1 ?_
  try simp only [oW15_12, hwA]
  refine hwt 13 oW15_13 (.bool false) hHeld1 ?_ ?_
  · intro w' hSw; dsimp only [oW15_13]; go_simp
  try simp only [oW15_13, hwA]
  refine hwr 4 oW15_4 (fun K hK => ?_)
  dsimp only [oW15_4]; go_simp
  (try go_wp2_with fail)
  obtain ⟨X2, hXq, hb, fL, zX2a, zX2b⟩ := alLet X1 (.cells #[.int .i64 4, .slice ab nb qb, .int .i64 k3, .slice a3 n3 q3] 31)
  rw [hXq]
  replace fR := blk_below fR hb; replace fA := blk_below fA hb; replace fB := blk_below fB hb; replace fC := Lib.hid (bstep fC.out hb)
  replace hA := Lib.hid (hA.out.below hb); replace hB_ := Lib.hid (hB_.out.below hb); replace hN := Lib.hid (hN.out.below hb)
  refine hK.out _ _ ⟨blk_cell fA rfl, blk_cell fA rfl, blk_cell fB rfl, blk_cell fB rfl⟩ (fun hHeld2 => ?_)
  clear hK K hHeld1 hb hXq
  try simp only [oW15_4, hwA]
  refine hwt 14 oW15_14 (.slice (some ⟨X1.heap.size, 0, none⟩) 2 2) hHeld2 ?_ ?_
  · intro w' hSw; dsimp only [oW15_14]; go_simp
  try simp only [oW15_14, hwA]
  refine hwr 15 oW15_15 (fun K hK => ?_)
  obtain ⟨r0, r1, rf0, rf1⟩ := blkR fR
  dsimp only [oW15_15]; go_simp
  (try go_wp2_with fail)
  have hQq := stLet2 fR (.int .i64 k4) (.slice a4 n4 q4)
  clear fR r0 r1 rf0 rf1
  obtain ⟨X3, hXq, hsq, fR, zX3a, zX3b⟩ := hQq
  rw [hXq]
  replace fA := hsq.blk (by omega) fA; replace fB := hsq.blk (by omega) fB; replace fC := Lib.hid (hsq.bel fC.out (by omega)); replace hA := Lib.hid (hsq.rep (fun b hb => by rcases hb with ⟨-, h1⟩ | ⟨h1, -⟩ <;> omega) hA.out)
  replace hB_ := Lib.hid (hsq.rep (fun b hb => by rcases hb with ⟨-, h1⟩ | ⟨h1, -⟩ <;> omega) hB_.out); replace hN := Lib.hid (hsq.rep (fun b hb => by rcases hb with (⟨-, h1⟩ | ⟨h1, -⟩) | ⟨h1, -⟩ <;> omega) hN.out); replace fL := hsq.blk (by omega) fL
  refine hK.out _ _ ⟨blk_cell fA rfl, blk_cell fA rfl, blk_cell fB rfl, blk_cell fB rfl⟩ (fun hHeld3 => ?_)
  clear hK K hHeld2 hsq hXq
  try simp only [oW15_15, hwA]
  refine hwt 16 oW15_16 (.bool false) hHeld3 ?_ ?_
  · intro w' hSw; dsimp only [oW15_16]; go_simp
  try simp only [oW15_16, hwA]
  refine wpAnyH_done (by kernel_rfl) ?_ _
  refine NoPanic.normal ?_
  clear hHeld3
  have rc0 := blk_cell fR (o := 0) rfl
  have rc1 := blk_cell fR (o := 1) rfl
  go_wp2_with fail
  refine bodyPost_ret (v := .tuple #[.slice (some ⟨X1.heap.size, 0, none⟩) 2 2, .agg #[.int .i64 k4, .slice a4 n4 q4], .bool false]) (by simp [results, Try.results39, go_sem, rc0, rc1]) rfl ?_
  have hw2 : w.heap.size ≤ w2.heap.size := HB1.out.size
  have HN : O = none := by rw [HOO.out]; rfl
  exact ⟨_, _, _, _, _, _, _, _, rfl, by rw [HN]; rfl, (by rw [HN]; intro ws t h; cases h), fC.out⟩
set_option maxHeartbeats 4000000 in
theorem implWanted_6_t (G : Nat → Prop) (c y : Value) (hcs : ∃ a n q, c = .slice a n q) (nm : ByteArray) (u lb tk fk : Int) (ty : Ty) (ta fa ca : Option Addr) (tn tq fn fq cm cq : Nat) (w : World) (h1 h2 : S) (hd : (h1.mat 4).2.2 = true) (hy : TysRep G w [h1.ty, h2.ty] y) :
    Calls Try.prog 39 #[c, .agg #[.int .i64 6, .string nm, .int .i64 u, .int .i64 tk, .slice ta tn tq, .int .i64 fk, .slice fa fn fq, .int .i64 lb, .slice ca cm cq], y] w (RetW G (wantS 6 ty [h1, h2]) w) := by
  obtain ⟨b, off, cap, k1, c1, m1, q1, k2, c2, m2, q2, rfl, -, -, hlb, e1a, e1b, e2a, e2b, ht1, ht2⟩ := hy.two
  obtain ⟨xa0, xn0, xq0, rfl⟩ := hcs
  have HOO := Lib.hid (want_app (ty := ty) (g := h1) (h := h2))
  have H1 := Lib.hid (ht1.move (.weaken (G := (fun x => G x ∧ x < w.heap.size)) fun b h hl => ⟨h, hl⟩))
  have H2 := Lib.hid (ht2.move (.weaken (G := (fun x => G x ∧ x < w.heap.size)) fun b h hl => ⟨h, hl⟩))
  have HM := Lib.hid (fun W (h : Below w.heap.size w W) => implMatchG _ h1 4 (.inl rfl) _ W (H1.out.below h))
  generalize wantS 6 ty [h1, h2] = O at HOO ⊢
  generalize h1.mat 4 = mm at HOO HM hd
  obtain ⟨ma, mb, okk⟩ := mm
  simp only at HOO HM hd
  obtain ⟨d2, hd2⟩ : ∃ d2, h2.cons ma = d2 := ⟨_, rfl⟩
  rw [hd, hd2] at HOO
  rw [hd] at HM
  have HD2 := Lib.hid hd2
  clear hy ht1 ht2 hd hd2
  go_enter Try.func39, Try.ntmps39
  go_wp2_with fail
  refine (implBaseW _ _).mono ?_
  rintro e w1 ⟨rfl, hb1⟩
  have HB1 := Lib.hid (bstep (bstep bal1 bal1) hb1)
  have fR0 := blk_below (blk_new (w := w.alloc (.cells #[.int .i64 6, .string nm, .int .i64 u, .int .i64 tk, .slice ta tn tq, .int .i64 fk, .slice fa fn fq, .int .i64 lb, .slice ca cm cq] 36)) (o := .cells #[.int .i64 0, .slice none 0 0] 31) (b := w.heap.size + 1) (by simp)) hb1
  have fE0 := blk_below (blk_below (blk_new (w := w) (o := .cells #[.int .i64 6, .string nm, .int .i64 u, .int .i64 tk, .slice ta tn tq, .int .i64 fk, .slice fa fn fq, .int .i64 lb, .slice ca cm cq] 36) rfl) (bal1 (o := .cells #[.int .i64 0, .slice none 0 0] 31))) hb1
  clear hb1
  go_wp2_with fail
  refine (implBaseW _ _).mono ?_
  rintro e w2 ⟨rfl, hb2⟩
  replace fE0 := blk_below fE0 hb2
  replace HB1 := Lib.hid (bstep HB1.out hb2)
  replace fR0 := blk_below fR0 hb2
  have hlr := blk_lt fR0
  clear hb2
  have d0 := blk_cell fE0 (o := 0) rfl
  have d1 := blk_cell fE0 (o := 1) rfl
  have lE := blk_lt fE0
  have lE2 : w.heap.size < w2.heap.size + 1 + 1 := by omega
  have lE1 : w.heap.size < w2.heap.size + 1 := by omega
  have HBV := Lib.hid (show Below w.heap.size w ((w2.alloc (.cells #[.int .i64 2, .slice none 0 0] 31)).alloc (.cells #[.int .i64 3, .slice none 0 0] 31)) from bstep (bstep HB1.out bal1) bal1)
  have m0 := bcell HB1.out e1a
  have m1 := bcell HB1.out e1b
  have lb0 : b < w2.heap.size := by have := HB1.out.size; omega
  have lb1 : b < w2.heap.size + 1 := by omega
  have lb2 : b < w2.heap.size + 1 + 1 := by omega
  go_wp2_with fail
  refine (HM.out _ HBV.out).mono ?_
  rintro e w3 ⟨ya, yb, rfl, hya, hyb, hst⟩
  obtain ⟨k3, a3, n3, q3, rfl⟩ := hya.shape
  obtain ⟨k4, a4, n4, q4, rfl⟩ := hyb.shape
  have HYA := Lib.hid (hya.move (.weaken (G := (fun x => (G x ∧ x < w.heap.size) ∨ w2.heap.size ≤ x ∧ x < w3.heap.size)) fun b h hl => h.elim .inl fun h2 => .inr ⟨by simp at h2; omega, hl⟩))
  have HYB := Lib.hid (hyb.move (.weaken (G := (fun x => (G x ∧ x < w.heap.size) ∨ w2.heap.size ≤ x ∧ x < w3.heap.size)) fun b h hl => h.elim .inl fun h2 => .inr ⟨by simp at h2; omega, hl⟩))
  have fR3 := blk_below (blk_below (blk_below fR0 bal1) bal1) hst
  have fC3 := Lib.hid (bstep HBV.out hst)
  have z3 := hst.size
  simp only [World.size_alloc] at z3
  clear hya hyb hst d0 d1 m0 m1
  go_wp2_with fail
  obtain ⟨VV, hVV⟩ : ∃ X, X = ((w3.alloc (.cells #[.int .i64 k3, .slice a3 n3 q3] 31)).alloc (.cells #[.int .i64 k4, .slice a4 n4 q4] 31)) := ⟨_, rfl⟩
  have fR : VV.heap[w.heap.size + 1]? = some (.cells #[.int .i64 0, .slice none 0 0] 31 (0, 0)) := by rw [hVV]; exact blk_below (blk_below fR3 bal1) bal1
  have fA : VV.heap[w3.heap.size]? = some (.cells #[.int .i64 k3, .slice a3 n3 q3] 31 (0, 0)) := by rw [hVV]; exact blk_below (blk_new rfl) bal1
  have fB : VV.heap[w3.heap.size + 1]? = some (.cells #[.int .i64 k4, .slice a4 n4 q4] 31 (0, 0)) := by rw [hVV]; exact blk_new (by simp)
  have fC : Hid (Below w.heap.size w VV) := by rw [hVV]; exact Lib.hid (bstep (bstep fC3.out bal1) bal1)
  have hA : Hid (TyRep (fun x => (G x ∧ x < w.heap.size) ∨ w2.heap.size ≤ x ∧ x < w3.heap.size) VV ma.ty (.agg #[.int .i64 k3, .slice a3 n3 q3])) := by rw [hVV]; exact Lib.hid ((HYA.out.below bal1).below bal1)
  have hB_ : Hid (TyRep (fun x => (G x ∧ x < w.heap.size) ∨ w2.heap.size ≤ x ∧ x < w3.heap.size) VV mb.ty (.agg #[.int .i64 k4, .slice a4 n4 q4])) := by rw [hVV]; exact Lib.hid ((HYB.out.below bal1).below bal1)
  have c2a_ : VV.cell? ⟨b, off + 2, none⟩ = some (.int .i64 k2) := by rw [hVV]; exact bcell bal1 (bcell bal1 (bcell fC3.out e2a))
  have c2b_ : VV.cell? ⟨b, off + 3, none⟩ = some (.slice c2 m2 q2) := by rw [hVV]; exact bcell bal1 (bcell bal1 (bcell fC3.out e2b))
  have h2_ : Hid (TyRep (fun x => G x ∧ x < w.heap.size) VV h2.ty (.agg #[.int .i64 k2, .slice c2 m2 q2])) := by rw [hVV]; exact Lib.hid (((H2.out.below fC3.out).below bal1).below bal1)
  rw [← hVV]
  have zV : VV.heap.size = _ := congrArg (fun X : World => X.heap.size) hVV
  simp only [World.size_alloc] at zV
  refine wp_region_noPanic ?_
  refine wp_region_held_drew (S := fun w' => w'.cell? ⟨w3.heap.size, 0, none⟩ = some (.int .i64 k3) ∧ w'.cell? ⟨w3.heap.size, 1, none⟩ = some (.slice a3 n3 q3) ∧ w'.cell? ⟨w3.heap.size + 1, 0, none⟩ = some (.int .i64 k4) ∧ w'.cell? ⟨w3.heap.size + 1, 1, none⟩ = some (.slice a4 n4 q4) ∧ w'.cell? ⟨b, off + 2, none⟩ = some (.int .i64 k2) ∧ w'.cell? ⟨b, off + 3, none⟩ = some (.slice c2 m2 q2)) (by kernel_rfl) ?_ (fun hHeld0 => ?_)
  · exact ⟨blk_cell fA rfl, blk_cell fA rfl, blk_cell fB rfl, blk_cell fB rfl, c2a_, c2b_⟩
  obtain ⟨U20, hU, hb, zU20a, zU20b⟩ := drLet VV
  rw [hU] at hHeld0 ⊢
  replace fR := blk_below fR hb; replace fA := blk_below fA hb; replace fB := blk_below fB hb; replace fC := Lib.hid (bstep fC.out hb)
  replace hA := Lib.hid (hA.out.below hb); replace hB_ := Lib.hid (hB_.out.below hb); replace c2a_ := bcell hb c2a_; replace c2b_ := bcell hb c2b_
  replace h2_ := Lib.hid (h2_.out.below hb)
  rw [zV] at zU20a zU20b
  clear hU hb hVV zV
  refine hwt 0 oW15_0 (.agg #[.int .i64 k3, .slice a3 n3 q3]) hHeld0 ?_ ?_
  · intro w' hSw; dsimp only [oW15_0]; go_simp
  try simp only [oW15_0, hwA]
  refine hwt 1 oW15_1 (.agg #[.int .i64 k4, .slice a4 n4 q4]) hHeld0 ?_ ?_
  · intro w' hSw; dsimp only [oW15_1]; go_simp
  try simp only [oW15_1, hwA]
  refine hwt 3 oW15_3 (.agg #[.int .i64 k3, .slice a3 n3 q3]) hHeld0 ?_ ?_
  · intro w' hSw; dsimp only [oW15_3]; go_simp
  try simp only [oW15_3, hwA]
  refine hwt 5 oW15_5 (.agg #[.int .i64 k4, .slice a4 n4 q4]) hHeld0 ?_ ?_
  · intro w' hSw; dsimp only [oW15_5]; go_simp
  try simp only [oW15_5, hwA]
  refine hwt 6 oW15_6 (.bool true) hHeld0 ?_ ?_
  · intro w' hSw; dsimp only [oW15_6]; go_simp
  try simp only [oW15_6, hwA]
  refine hwr 2 oW15_2 (fun K hK => ?_)
  dsimp only [oW15_2]; go_simp
  go_at_call 56
  refine (implBothW _ 4 _ _ ma.ty mb.ty _ _ _ _ _ _ _ hA.out hB_.out).mono ?_
  rintro e X1 ⟨ab, nb, qb, rfl, hr, hb⟩
  have hN' : Hid (TyRep (fun x => ((G x ∧ x < w.heap.size) ∨ w2.heap.size ≤ x ∧ x < w3.heap.size) ∨ U20.heap.size ≤ x ∧ x < X1.heap.size) X1 (.mk 4 [ma.ty, mb.ty]) (.agg #[.int .i64 4, .slice ab nb qb])) := Lib.hid (hr.move (.weaken fun b h hl => h.elim .inl fun h2 => .inr ⟨h2, hl⟩))
  clear hr
  go_wp2_with fail
  have zX1 : U20.heap.size ≤ X1.heap.size := hb.size
  replace fR := blk_below fR hb; replace fA := blk_below fA hb; replace fB := blk_below fB hb; replace fC := Lib.hid (bstep fC.out hb)
  replace hA := Lib.hid (hA.out.below hb); replace hB_ := Lib.hid (hB_.out.below hb); replace c2a_ := bcell hb c2a_; replace c2b_ := bcell hb c2b_
  replace h2_ := Lib.hid (h2_.out.below hb)
  have hN := hN'
  clear hN'
  refine hK.out _ _ ⟨blk_cell fA rfl, blk_cell fA rfl, blk_cell fB rfl, blk_cell fB rfl, c2a_, c2b_⟩ (fun hHeld1 => ?_)
  clear hK K hHeld0 hb
  try simp only [oW15_2, hwA]
  refine hwt 7 oW15_7 (.bool true) hHeld1 ?_ ?_
  · intro w' hSw; dsimp only [oW15_7]; go_simp
  try simp only [oW15_7, hwA]
  refine hwt 8 oW15_8 (.slice (some ⟨b, off, none⟩) 2 cap) hHeld1 ?_ ?_
  · intro w' hSw; dsimp only [oW15_8]; go_simp
  try simp only [oW15_8, hwA]
  refine hwt 9 oW15_9 (.pointer (some ⟨b, off + 2, none⟩)) hHeld1 ?_ ?_
  · intro w' hSw; dsimp only [oW15_9]; go_simp
  try simp only [oW15_9, hwA]
  refine hwt 10 oW15_10 (.agg #[.int .i64 k2, .slice c2 m2 q2]) hHeld1 ?_ ?_
  · intro w' hSw; dsimp only [oW15_10]; go_simp
  try simp only [oW15_10, hwA]
  refine hwt 11 oW15_11 (.agg #[.int .i64 k3, .slice a3 n3 q3]) hHeld1 ?_ ?_
  · intro w' hSw; dsimp only [oW15_11]; go_simp
  try simp only [oW15_11, hwA]
  refine wpAnyH_ready (rs := [4, 12]) (by kernel_rfl) (by simp) ?_
  refine (AllReadyH.cons (o := oW15_4) rfl (fun K hK => ?_) (AllReadyH.cons (o := oW15_12) rfl (fun K hK => ?_) AllReadyH.nil))
  ·skip
   dsimp only [oW15_4]; go_simp
   (try go_wp2_with fail)
   obtain ⟨X2, hXq, hb, fL, zX2a, zX2b⟩ := alLet X1 (.cells #[.int .i64 4, .slice ab nb qb, .int .i64 k3, .slice a3 n3 q3] 31)
   rw [hXq]
   replace fR := blk_below fR hb; replace fA := blk_below fA hb; replace fB := blk_below fB hb; replace fC := Lib.hid (bstep fC.out hb)
   replace hA := Lib.hid (hA.out.below hb); replace hB_ := Lib.hid (hB_.out.below hb); replace c2a_ := bcell hb c2a_; replace c2b_ := bcell hb c2b_
   replace h2_ := Lib.hid (h2_.out.below hb); replace hN := Lib.hid (hN.out.below hb)
   refine hK.out _ _ ⟨blk_cell fA rfl, blk_cell fA rfl, blk_cell fB rfl, blk_cell fB rfl, c2a_, c2b_⟩ (fun hHeld2 => ?_)
   clear hK K hHeld1 hb hXq
   try simp only [oW15_4, hwA]
   refine hwr 12 oW15_12 (fun K hK => ?_)
   dsimp only [oW15_12]; go_simp
   go_at_call 58
   refine (implConsistent0 _ _ _ _ _ _ _ h2_.out hA.out).mono ?_
   rintro e X3 ⟨rfl, hb⟩
   rw [S.ty_cons, HD2.out]
   go_wp2_with fail
   have zX3 : X2.heap.size ≤ X3.heap.size := hb.size
   replace fR := blk_below fR hb; replace fA := blk_below fA hb; replace fB := blk_below fB hb; replace fC := Lib.hid (bstep fC.out hb)
   replace hA := Lib.hid (hA.out.below hb); replace hB_ := Lib.hid (hB_.out.below hb); replace c2a_ := bcell hb c2a_; replace c2b_ := bcell hb c2b_
   replace h2_ := Lib.hid (h2_.out.below hb); replace hN := Lib.hid (hN.out.below hb); replace fL := blk_below fL hb
   refine hK.out _ _ ⟨blk_cell fA rfl, blk_cell fA rfl, blk_cell fB rfl, blk_cell fB rfl, c2a_, c2b_⟩ (fun hHeld3 => ?_)
   clear hK K hHeld2 hb
   try simp only [oW15_12, hwA]
   refine hwt 13 oW15_13 (.bool d2) hHeld3 ?_ ?_
   · intro w' hSw; dsimp only [oW15_13]; go_simp
   try simp only [oW15_13, hwA]
   refine hwt 14 oW15_14 (.slice (some ⟨X1.heap.size, 0, none⟩) 2 2) hHeld3 ?_ ?_
   · intro w' hSw; dsimp only [oW15_14]; go_simp
   try simp only [oW15_14, hwA]
   refine hwr 15 oW15_15 (fun K hK => ?_)
   obtain ⟨r0, r1, rf0, rf1⟩ := blkR fR
   dsimp only [oW15_15]; go_simp
   (try go_wp2_with fail)
   have hQq := stLet2 fR (.int .i64 k4) (.slice a4 n4 q4)
   clear fR r0 r1 rf0 rf1
   obtain ⟨X4, hXq, hsq, fR, zX4a, zX4b⟩ := hQq
   rw [hXq]
   replace fA := hsq.blk (by omega) fA; replace fB := hsq.blk (by omega) fB; replace fC := Lib.hid (hsq.bel fC.out (by omega)); replace hA := Lib.hid (hsq.rep (fun b hb => by rcases hb with ⟨-, h1⟩ | ⟨h1, -⟩ <;> omega) hA.out)
   replace hB_ := Lib.hid (hsq.rep (fun b hb => by rcases hb with ⟨-, h1⟩ | ⟨h1, -⟩ <;> omega) hB_.out); replace c2a_ := hsq.cell (by show b ≠ w.heap.size + 1; omega) c2a_; replace c2b_ := hsq.cell (by show b ≠ w.heap.size + 1; omega) c2b_; replace h2_ := Lib.hid (hsq.rep (fun b hb => by have h1 := hb.2; omega) h2_.out)
   replace hN := Lib.hid (hsq.rep (fun b hb => by rcases hb with (⟨-, h1⟩ | ⟨h1, -⟩) | ⟨h1, -⟩ <;> omega) hN.out); replace fL := hsq.blk (by omega) fL
   refine hK.out _ _ ⟨blk_cell fA rfl, blk_cell fA rfl, blk_cell fB rfl, blk_cell fB rfl, c2a_, c2b_⟩ (fun hHeld4 => ?_)
   clear hK K hHeld3 hsq hXq
   try simp only [oW15_15, hwA]
   refine hwt 16 oW15_16 (.bool d2) hHeld4 ?_ ?_
   · intro w' hSw; dsimp only [oW15_16]; go_simp
   try simp only [oW15_16, hwA]
   refine wpAnyH_done (by kernel_rfl) ?_ _
   refine NoPanic.normal ?_
   clear hHeld4
   have rc0 := blk_cell fR (o := 0) rfl
   have rc1 := blk_cell fR (o := 1) rfl
   go_wp2_with fail
   refine bodyPost_ret (v := .tuple #[.slice (some ⟨X1.heap.size, 0, none⟩) 2 2, .agg #[.int .i64 k4, .slice a4 n4 q4], .bool d2]) (by simp [results, Try.results39, go_sem, rc0, rc1]) rfl ?_
   have hw2 : w.heap.size ≤ w2.heap.size := HB1.out.size
   refine ⟨_, _, _, _, _, _, _, _, rfl, by rw [HOO.out]; cases d2 <;> rfl, ?_, fC.out⟩
   intro ws t h
   rw [HOO.out] at h
   cases d2 with
   | false => cases h
   | true =>
     simp only [Bool.and_self, if_true, Option.some.injEq, Prod.mk.injEq] at h
     obtain ⟨rfl, rfl⟩ := h
     refine ⟨TysRep.two_mk (b := X1.heap.size) (cap := 2) (k1 := 4) (k2 := k3) (c1 := .slice ab nb qb) (c2 := .slice a3 n3 q3) (.inr (by omega)) (Nat.le_refl 2) (by unfold maxLen; omega) (blk_cell fL (o := 0) rfl) (blk_cell fL (o := 1) rfl) (blk_cell fL (o := 2) rfl) (blk_cell fL (o := 3) rfl) (hN.out.move (.weaken fun b h _ => by rcases h with (⟨h1, -⟩ | ⟨h1, -⟩) | ⟨h1, -⟩; exact .inl h1; exact .inr (by omega); exact .inr (by omega))) (hA.out.move (.weaken fun b h _ => by rcases h with ⟨h1, -⟩ | ⟨h1, -⟩; exact .inl h1; exact .inr (by omega))), ?_⟩
     exact hB_.out.move (.weaken fun b h _ => by rcases h with ⟨h1, -⟩ | ⟨h1, -⟩; exact .inl h1; exact .inr (by omega))
  ·skip
   dsimp only [oW15_12]; go_simp
   go_at_call 58
   refine (implConsistent0 _ _ _ _ _ _ _ h2_.out hA.out).mono ?_
   rintro e X5 ⟨rfl, hb⟩
   rw [S.ty_cons, HD2.out]
   go_wp2_with fail
   have zX5 : X1.heap.size ≤ X5.heap.size := hb.size
   replace fR := blk_below fR hb; replace fA := blk_below fA hb; replace fB := blk_below fB hb; replace fC := Lib.hid (bstep fC.out hb)
   replace hA := Lib.hid (hA.out.below hb); replace hB_ := Lib.hid (hB_.out.below hb); replace c2a_ := bcell hb c2a_; replace c2b_ := bcell hb c2b_
   replace h2_ := Lib.hid (h2_.out.below hb); replace hN := Lib.hid (hN.out.below hb)
   refine hK.out _ _ ⟨blk_cell fA rfl, blk_cell fA rfl, blk_cell fB rfl, blk_cell fB rfl, c2a_, c2b_⟩ (fun hHeld2 => ?_)
   clear hK K hHeld1 hb
   try simp only [oW15_12, hwA]
   refine hwt 13 oW15_13 (.bool d2) hHeld2 ?_ ?_
   · intro w' hSw; dsimp only [oW15_13]; go_simp
   try simp only [oW15_13, hwA]
   refine hwr 4 oW15_4 (fun K hK => ?_)
   dsimp only [oW15_4]; go_simp
   (try go_wp2_with fail)
   obtain ⟨X6, hXq, hb, fL, zX6a, zX6b⟩ := alLet X5 (.cells #[.int .i64 4, .slice ab nb qb, .int .i64 k3, .slice a3 n3 q3] 31)
   rw [hXq]
   replace fR := blk_below fR hb; replace fA := blk_below fA hb; replace fB := blk_below fB hb; replace fC := Lib.hid (bstep fC.out hb)
   replace hA := Lib.hid (hA.out.below hb); replace hB_ := Lib.hid (hB_.out.below hb); replace c2a_ := bcell hb c2a_; replace c2b_ := bcell hb c2b_
   replace h2_ := Lib.hid (h2_.out.below hb); replace hN := Lib.hid (hN.out.below hb)
   refine hK.out _ _ ⟨blk_cell fA rfl, blk_cell fA rfl, blk_cell fB rfl, blk_cell fB rfl, c2a_, c2b_⟩ (fun hHeld5 => ?_)
   clear hK K hHeld2 hb hXq
   try simp only [oW15_4, hwA]
   refine hwt 14 oW15_14 (.slice (some ⟨X5.heap.size, 0, none⟩) 2 2) hHeld5 ?_ ?_
   · intro w' hSw; dsimp only [oW15_14]; go_simp
   try simp only [oW15_14, hwA]
   refine hwr 15 oW15_15 (fun K hK => ?_)
   obtain ⟨r0, r1, rf0, rf1⟩ := blkR fR
   dsimp only [oW15_15]; go_simp
   (try go_wp2_with fail)
   have hQq := stLet2 fR (.int .i64 k4) (.slice a4 n4 q4)
   clear fR r0 r1 rf0 rf1
   obtain ⟨X7, hXq, hsq, fR, zX7a, zX7b⟩ := hQq
   rw [hXq]
   replace fA := hsq.blk (by omega) fA; replace fB := hsq.blk (by omega) fB; replace fC := Lib.hid (hsq.bel fC.out (by omega)); replace hA := Lib.hid (hsq.rep (fun b hb => by rcases hb with ⟨-, h1⟩ | ⟨h1, -⟩ <;> omega) hA.out)
   replace hB_ := Lib.hid (hsq.rep (fun b hb => by rcases hb with ⟨-, h1⟩ | ⟨h1, -⟩ <;> omega) hB_.out); replace c2a_ := hsq.cell (by show b ≠ w.heap.size + 1; omega) c2a_; replace c2b_ := hsq.cell (by show b ≠ w.heap.size + 1; omega) c2b_; replace h2_ := Lib.hid (hsq.rep (fun b hb => by have h1 := hb.2; omega) h2_.out)
   replace hN := Lib.hid (hsq.rep (fun b hb => by rcases hb with (⟨-, h1⟩ | ⟨h1, -⟩) | ⟨h1, -⟩ <;> omega) hN.out); replace fL := hsq.blk (by omega) fL
   refine hK.out _ _ ⟨blk_cell fA rfl, blk_cell fA rfl, blk_cell fB rfl, blk_cell fB rfl, c2a_, c2b_⟩ (fun hHeld6 => ?_)
   clear hK K hHeld5 hsq hXq
   try simp only [oW15_15, hwA]
   refine hwt 16 oW15_16 (.bool d2) hHeld6 ?_ ?_
   · intro w' hSw; dsimp only [oW15_16]; go_simp
   try simp only [oW15_16, hwA]
   refine wpAnyH_done (by kernel_rfl) ?_ _
   refine NoPanic.normal ?_
   clear hHeld6
   have rc0 := blk_cell fR (o := 0) rfl
   have rc1 := blk_cell fR (o := 1) rfl
   go_wp2_with fail
   refine bodyPost_ret (v := .tuple #[.slice (some ⟨X5.heap.size, 0, none⟩) 2 2, .agg #[.int .i64 k4, .slice a4 n4 q4], .bool d2]) (by simp [results, Try.results39, go_sem, rc0, rc1]) rfl ?_
   have hw2 : w.heap.size ≤ w2.heap.size := HB1.out.size
   refine ⟨_, _, _, _, _, _, _, _, rfl, by rw [HOO.out]; cases d2 <;> rfl, ?_, fC.out⟩
   intro ws t h
   rw [HOO.out] at h
   cases d2 with
   | false => cases h
   | true =>
     simp only [Bool.and_self, if_true, Option.some.injEq, Prod.mk.injEq] at h
     obtain ⟨rfl, rfl⟩ := h
     refine ⟨TysRep.two_mk (b := X5.heap.size) (cap := 2) (k1 := 4) (k2 := k3) (c1 := .slice ab nb qb) (c2 := .slice a3 n3 q3) (.inr (by omega)) (Nat.le_refl 2) (by unfold maxLen; omega) (blk_cell fL (o := 0) rfl) (blk_cell fL (o := 1) rfl) (blk_cell fL (o := 2) rfl) (blk_cell fL (o := 3) rfl) (hN.out.move (.weaken fun b h _ => by rcases h with (⟨h1, -⟩ | ⟨h1, -⟩) | ⟨h1, -⟩; exact .inl h1; exact .inr (by omega); exact .inr (by omega))) (hA.out.move (.weaken fun b h _ => by rcases h with ⟨h1, -⟩ | ⟨h1, -⟩; exact .inl h1; exact .inr (by omega))), ?_⟩
     exact hB_.out.move (.weaken fun b h _ => by rcases h with ⟨h1, -⟩ | ⟨h1, -⟩; exact .inl h1; exact .inr (by omega))
end Go.Proofs.Ytkhmkohgnikcmaa
