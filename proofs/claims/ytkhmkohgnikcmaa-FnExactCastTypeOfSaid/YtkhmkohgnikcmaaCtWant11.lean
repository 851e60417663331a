/-
  impl.wanted at projections.
-/
import Derived.Test.YtkhmkohgnikcmaaB34
import Derived.Test.YtkhmkohgnikcmaaB35
import Derived.Test.YtkhmkohgnikcmaaB35
namespace Go.Proofs.Ytkhmkohgnikcmaa
open Go.RowKit
set_option linter.unusedVariables false
set_option linter.unusedSimpArgs false
set_option maxRecDepth 100000

theorem want_proj {k : Int} {ty : Ty} {h : S} (hk : k = 11 ∨ k = 12) : wantS k ty [h] = if (h.mat 5).2.2 = true then some ([.pr (h.mat 5).1 (h.mat 5).2.1], if k = 12 then (h.mat 5).2.1 else (h.mat 5).1) else none := by
  have h5 : ¬ k = 5 := by omega
  simp only [wantS, if_neg h5]
  cases h <;> simp [S.mat]
def oW35_0 : Oper := ⟨some 166, Op.load 31 (Operand.tmp 18), 31, "l3_typing.go:136", #[], none⟩
def oW35_1 : Oper := ⟨some 167, Op.load 31 (Operand.tmp 19), 31, "l3_typing.go:136", #[], none⟩
def oW35_2 : Oper := ⟨some 168, Op.call { callee := Callee.value (Operand.func 56), args := #[Operand.const (Value.int IntKind.i64 5), Operand.tmp 166, Operand.tmp 167], argTypes := #[3, 31, 31] }, 31, "l3_typing.go:136", #[⟨0, .data⟩, ⟨1, .data⟩], none⟩
def oW35_3 : Oper := ⟨some 169, Op.buildSlice 29 1 #[(0, Operand.tmp 168)], 29, "l3_typing.go:136", #[⟨2, .data⟩], none⟩
def oW35_4 : Oper := ⟨some 170, Op.load 31 (Operand.tmp 21), 31, "l3_typing.go:136", #[⟨6, .gcOnly .lateStores⟩], none⟩
def oW35_5 : Oper := ⟨some 171, Op.move (Operand.tmp 20), 4, "l3_typing.go:136", #[⟨7, .gcOnly .lateStores⟩], none⟩
def oW35_6 : Oper := ⟨some 6, Op.assign (Operand.tmp 169), 29, "l3_typing.go:136", #[⟨3, .data⟩, ⟨2, .chain⟩, ⟨0, .phase⟩, ⟨1, .phase⟩, ⟨2, .phase⟩, ⟨3, .phase⟩, ⟨4, .textOnly .lateStores⟩, ⟨5, .textOnly .lateStores⟩], none⟩
def oW35_7 : Oper := ⟨none, Op.store 31 (Operand.tmp 7) (Operand.tmp 170), 0, "l3_typing.go:136", #[⟨4, .data⟩, ⟨6, .chain⟩, ⟨0, .phase⟩, ⟨1, .phase⟩, ⟨2, .phase⟩, ⟨3, .phase⟩, ⟨4, .phase⟩, ⟨5, .textOnly .lateStores⟩, ⟨6, .phase⟩], none⟩
def oW35_8 : Oper := ⟨some 8, Op.assign (Operand.tmp 171), 4, "l3_typing.go:136", #[⟨5, .data⟩, ⟨7, .chain⟩, ⟨0, .phase⟩, ⟨1, .phase⟩, ⟨2, .phase⟩, ⟨3, .phase⟩, ⟨4, .phase⟩, ⟨5, .phase⟩, ⟨6, .phase⟩, ⟨7, .phase⟩], none⟩
set_option maxHeartbeats 4000000 in
theorem implWanted_11 (G : Nat → Prop) (c y : Value) (hcs : ∃ a n q, c = .slice a n q) (nm : ByteArray) (u lb tk fk : Int) (ty : Ty) (ta fa ca : Option Addr) (tn tq fn fq cm cq : Nat) (w : World) (h1 : S) (hy : TysRep G w [h1.ty] y) :
    Calls Try.prog 39 #[c, .agg #[.int .i64 11, .string nm, .int .i64 u, .int .i64 tk, .slice ta tn tq, .int .i64 fk, .slice fa fn fq, .int .i64 lb, .slice ca cm cq], y] w (RetW G (wantS 11 ty [h1]) w) := by
  obtain ⟨b, off, cap, k1, c1, m1, q1, rfl, hlb, e1a, e1b, ht1⟩ := hy.one
  obtain ⟨xa0, xn0, xq0, rfl⟩ := hcs
  have HOO := Lib.hid (want_proj (k := 11) (ty := ty) (h := h1) (by omega))
  have H1 := Lib.hid (ht1.move (.weaken (G := (fun x => G x ∧ x < w.heap.size)) fun b h hl => ⟨h, hl⟩))
  have HM := Lib.hid (fun W (h : Below w.heap.size w W) => implMatchG _ h1 5 (.inr rfl) _ W (H1.out.below h))
  generalize wantS 11 ty [h1] = O at HOO ⊢
  generalize h1.mat 5 = mm at HOO HM
  obtain ⟨ma, mb, okk⟩ := mm
  simp only at HOO HM
  clear hy ht1
  go_enter Try.func39, Try.ntmps39
  go_wp2_with fail
  refine (implBaseW _ _).mono ?_
  rintro e w1 ⟨rfl, hb1⟩
  have HB1 := Lib.hid (bstep (bstep bal1 bal1) hb1)
  have fR0 := blk_below (blk_new (w := w.alloc (.cells #[.int .i64 11, .string nm, .int .i64 u, .int .i64 tk, .slice ta tn tq, .int .i64 fk, .slice fa fn fq, .int .i64 lb, .slice ca cm cq] 36)) (o := .cells #[.int .i64 0, .slice none 0 0] 31) (b := w.heap.size + 1) (by simp)) hb1
  have fE0 := blk_below (blk_below (blk_new (w := w) (o := .cells #[.int .i64 11, .string nm, .int .i64 u, .int .i64 tk, .slice ta tn tq, .int .i64 fk, .slice fa fn fq, .int .i64 lb, .slice ca cm cq] 36) rfl) (bal1 (o := .cells #[.int .i64 0, .slice none 0 0] 31))) hb1
  clear hb1
  go_wp2_with fail
  refine (implBaseW _ _).mono ?_
  rintro e w2 ⟨rfl, hb2⟩
  replace fE0 := blk_below fE0 hb2
  replace HB1 := Lib.hid (bstep HB1.out hb2)
  replace fR0 := blk_below fR0 hb2
  have hlr := blk_lt fR0
  clear hb2
  have d0 := blk_cell fE0 (o := 0) rfl
  have d1 := blk_cell fE0 (o := 1) rfl
  have lE := blk_lt fE0
  have lE2 : w.heap.size < w2.heap.size + 1 + 1 := by omega
  have lE1 : w.heap.size < w2.heap.size + 1 := by omega
  have HBV := Lib.hid (show Below w.heap.size w ((w2.alloc (.cells #[.int .i64 2, .slice none 0 0] 31)).alloc (.cells #[.int .i64 3, .slice none 0 0] 31)) from bstep (bstep HB1.out bal1) bal1)
  have m0 := bcell HB1.out e1a
  have m1 := bcell HB1.out e1b
  have lb0 : b < w2.heap.size := by have := HB1.out.size; omega
  have lb1 : b < w2.heap.size + 1 := by omega
  have lb2 : b < w2.heap.size + 1 + 1 := by omega
  go_wp2_with fail
  refine (HM.out _ HBV.out).mono ?_
  rintro e w3 ⟨ya, yb, rfl, hya, hyb, hst⟩
  obtain ⟨k3, a3, n3, q3, rfl⟩ := hya.shape
  obtain ⟨k4, a4, n4, q4, rfl⟩ := hyb.shape
  have HYA := Lib.hid (hya.move (.weaken (G := (fun x => (G x ∧ x < w.heap.size) ∨ w2.heap.size ≤ x ∧ x < w3.heap.size)) fun b h hl => h.elim .inl fun h2 => .inr ⟨by simp at h2; omega, hl⟩))
  have HYB := Lib.hid (hyb.move (.weaken (G := (fun x => (G x ∧ x < w.heap.size) ∨ w2.heap.size ≤ x ∧ x < w3.heap.size)) fun b h hl => h.elim .inl fun h2 => .inr ⟨by simp at h2; omega, hl⟩))
  have fE3 := blk_below (blk_below (blk_below fE0 bal1) bal1) hst
  have fR3 := blk_below (blk_below (blk_below fR0 bal1) bal1) hst
  have fC3 := Lib.hid (bstep HBV.out hst)
  have z3 := hst.size
  simp only [World.size_alloc] at z3
  clear hya hyb hst d0 d1 m0 m1
  have d0 := blk_cell fE3 (o := 0) rfl
  have lE3 := blk_lt fE3
  have lE4 : w.heap.size < w3.heap.size + 1 := by omega
  have lE5 : w.heap.size < w3.heap.size + 1 + 1 := by omega
  have lE6 : w.heap.size < w3.heap.size + 1 + 1 + 1 := by omega
  go_wp2_with fail
  obtain ⟨VV, hVV⟩ : ∃ X, X = (((w3.alloc (.cells #[.int .i64 k3, .slice a3 n3 q3] 31)).alloc (.cells #[.int .i64 k4, .slice a4 n4 q4] 31)).alloc (.cells #[.int .i64 k3, .slice a3 n3 q3] 31)) := ⟨_, rfl⟩
  have fR : VV.heap[w.heap.size + 1]? = some (.cells #[.int .i64 0, .slice none 0 0] 31 (0, 0)) := by rw [hVV]; exact blk_below (blk_below (blk_below fR3 bal1) bal1) bal1
  have fA : VV.heap[w3.heap.size]? = some (.cells #[.int .i64 k3, .slice a3 n3 q3] 31 (0, 0)) := by rw [hVV]; exact blk_below (blk_below (blk_new rfl) bal1) bal1
  have fB : VV.heap[w3.heap.size + 1]? = some (.cells #[.int .i64 k4, .slice a4 n4 q4] 31 (0, 0)) := by rw [hVV]; exact blk_below (blk_new (by simp)) bal1
  have fT : VV.heap[w3.heap.size + 1 + 1]? = some (.cells #[.int .i64 k3, .slice a3 n3 q3] 31 (0, 0)) := by rw [hVV]; exact blk_new (by simp)
  have fC : Hid (Below w.heap.size w VV) := by rw [hVV]; exact Lib.hid (bstep (bstep (bstep fC3.out bal1) bal1) bal1)
  have hA : Hid (TyRep (fun x => (G x ∧ x < w.heap.size) ∨ w2.heap.size ≤ x ∧ x < w3.heap.size) VV ma.ty (.agg #[.int .i64 k3, .slice a3 n3 q3])) := by rw [hVV]; exact Lib.hid (((HYA.out.below bal1).below bal1).below bal1)
  have hB_ : Hid (TyRep (fun x => (G x ∧ x < w.heap.size) ∨ w2.heap.size ≤ x ∧ x < w3.heap.size) VV mb.ty (.agg #[.int .i64 k4, .slice a4 n4 q4])) := by rw [hVV]; exact Lib.hid (((HYB.out.below bal1).below bal1).below bal1)
  rw [← hVV]
  have zV : VV.heap.size = _ := congrArg (fun X : World => X.heap.size) hVV
  simp only [World.size_alloc] at zV
  refine wp_region_noPanic ?_
  refine wp_region_held_drew (S := fun w' => w'.cell? ⟨w3.heap.size, 0, none⟩ = some (.int .i64 k3) ∧ w'.cell? ⟨w3.heap.size, 1, none⟩ = some (.slice a3 n3 q3) ∧ w'.cell? ⟨w3.heap.size + 1, 0, none⟩ = some (.int .i64 k4) ∧ w'.cell? ⟨w3.heap.size + 1, 1, none⟩ = some (.slice a4 n4 q4) ∧ w'.cell? ⟨w3.heap.size + 1 + 1, 0, none⟩ = some (.int .i64 k3) ∧ w'.cell? ⟨w3.heap.size + 1 + 1, 1, none⟩ = some (.slice a3 n3 q3)) (by kernel_rfl) ?_ (fun hHeld0 => ?_)
  · exact ⟨blk_cell fA rfl, blk_cell fA rfl, blk_cell fB rfl, blk_cell fB rfl, blk_cell fT rfl, blk_cell fT rfl⟩
  obtain ⟨U7, hU, hb, zU7a, zU7b⟩ := drLet VV
  rw [hU] at hHeld0 ⊢
  replace fR := blk_below fR hb; replace fA := blk_below fA hb; replace fB := blk_below fB hb; replace fT := blk_below fT hb
  replace fC := Lib.hid (bstep fC.out hb); replace hA := Lib.hid (hA.out.below hb); replace hB_ := Lib.hid (hB_.out.below hb)
  rw [zV] at zU7a zU7b
  clear hU hb hVV zV
  refine hwt 0 oW35_0 (.agg #[.int .i64 k3, .slice a3 n3 q3]) hHeld0 ?_ ?_
  · intro w' hSw; dsimp only [oW35_0]; go_simp
  try simp only [oW35_0, hwA]
  refine hwt 1 oW35_1 (.agg #[.int .i64 k4, .slice a4 n4 q4]) hHeld0 ?_ ?_
  · intro w' hSw; dsimp only [oW35_1]; go_simp
  try simp only [oW35_1, hwA]
  refine hwt 4 oW35_4 (.agg #[.int .i64 k3, .slice a3 n3 q3]) hHeld0 ?_ ?_
  · intro w' hSw; dsimp only [oW35_4]; go_simp
  try simp only [oW35_4, hwA]
  refine hwt 5 oW35_5 (.bool okk) hHeld0 ?_ ?_
  · intro w' hSw; dsimp only [oW35_5]; go_simp
  try simp only [oW35_5, hwA]
  refine hwr 2 oW35_2 (fun K hK => ?_)
  dsimp only [oW35_2]; go_simp
  go_at_call 56
  refine (implBothW _ 5 _ _ ma.ty mb.ty _ _ _ _ _ _ _ hA.out hB_.out).mono ?_
  rintro e X1 ⟨ab, nb, qb, rfl, hr, hb⟩
  have hN' : Hid (TyRep (fun x => ((G x ∧ x < w.heap.size) ∨ w2.heap.size ≤ x ∧ x < w3.heap.size) ∨ U7.heap.size ≤ x ∧ x < X1.heap.size) X1 (.mk 5 [ma.ty, mb.ty]) (.agg #[.int .i64 5, .slice ab nb qb])) := Lib.hid (hr.move (.weaken fun b h hl => h.elim .inl fun h2 => .inr ⟨h2, hl⟩))
  clear hr
  go_wp2_with fail
  have zX1 : U7.heap.size ≤ X1.heap.size := hb.size
  replace fR := blk_below fR hb; replace fA := blk_below fA hb; replace fB := blk_below fB hb; replace fT := blk_below fT hb
  replace fC := Lib.hid (bstep fC.out hb); replace hA := Lib.hid (hA.out.below hb); replace hB_ := Lib.hid (hB_.out.below hb)
  have hN := hN'
  clear hN'
  refine hK.out _ _ ⟨blk_cell fA rfl, blk_cell fA rfl, blk_cell fB rfl, blk_cell fB rfl, blk_cell fT rfl, blk_cell fT rfl⟩ (fun hHeld1 => ?_)
  clear hK K hHeld0 hb
  try simp only [oW35_2, hwA]
  refine hwr 3 oW35_3 (fun K hK => ?_)
  dsimp only [oW35_3]; go_simp
  (try go_wp2_with fail)
  obtain ⟨X2, hXq, hb, fL, zX2a, zX2b⟩ := alLet X1 (.cells #[.int .i64 5, .slice ab nb qb] 31)
  rw [hXq]
  replace fR := blk_below fR hb; replace fA := blk_below fA hb; replace fB := blk_below fB hb; replace fT := blk_below fT hb
  replace fC := Lib.hid (bstep fC.out hb); replace hA := Lib.hid (hA.out.below hb); replace hB_ := Lib.hid (hB_.out.below hb); replace hN := Lib.hid (hN.out.below hb)
  refine hK.out _ _ ⟨blk_cell fA rfl, blk_cell fA rfl, blk_cell fB rfl, blk_cell fB rfl, blk_cell fT rfl, blk_cell fT rfl⟩ (fun hHeld2 => ?_)
  clear hK K hHeld1 hb hXq
  try simp only [oW35_3, hwA]
  refine hwt 6 oW35_6 (.slice (some ⟨X1.heap.size, 0, none⟩) 1 1) hHeld2 ?_ ?_
  · intro w' hSw; dsimp only [oW35_6]; go_simp
  try simp only [oW35_6, hwA]
  refine hwr 7 oW35_7 (fun K hK => ?_)
  obtain ⟨r0, r1, rf0, rf1⟩ := blkR fR
  dsimp only [oW35_7]; go_simp
  (try go_wp2_with fail)
  have hQq := stLet2 fR (.int .i64 k3) (.slice a3 n3 q3)
  clear fR r0 r1 rf0 rf1
  obtain ⟨X3, hXq, hsq, fR, zX3a, zX3b⟩ := hQq
  rw [hXq]
  replace fA := hsq.blk (by omega) fA; replace fB := hsq.blk (by omega) fB; replace fT := hsq.blk (by omega) fT; replace fC := Lib.hid (hsq.bel fC.out (by omega))
  replace hA := Lib.hid (hsq.rep (fun b hb => by rcases hb with ⟨-, h1⟩ | ⟨h1, -⟩ <;> omega) hA.out); replace hB_ := Lib.hid (hsq.rep (fun b hb => by rcases hb with ⟨-, h1⟩ | ⟨h1, -⟩ <;> omega) hB_.out); replace hN := Lib.hid (hsq.rep (fun b hb => by rcases hb with (⟨-, h1⟩ | ⟨h1, -⟩) | ⟨h1, -⟩ <;> omega) hN.out); replace fL := hsq.blk (by omega) fL
  refine hK.out _ _ ⟨blk_cell fA rfl, blk_cell fA rfl, blk_cell fB rfl, blk_cell fB rfl, blk_cell fT rfl, blk_cell fT rfl⟩ (fun hHeld3 => ?_)
  clear hK K hHeld2 hsq hXq
  try simp only [oW35_7, hwA]
  refine hwt 8 oW35_8 (.bool okk) hHeld3 ?_ ?_
  · intro w' hSw; dsimp only [oW35_8]; go_simp
  try simp only [oW35_8, hwA]
  refine wpAnyH_done (by kernel_rfl) ?_ _
  refine NoPanic.normal ?_
  clear hHeld3
  have rc0 := blk_cell fR (o := 0) rfl
  have rc1 := blk_cell fR (o := 1) rfl
  go_wp2_with fail
  refine bodyPost_ret (v := .tuple #[.slice (some ⟨X1.heap.size, 0, none⟩) 1 1, .agg #[.int .i64 k3, .slice a3 n3 q3], .bool okk]) (by simp [results, Try.results39, go_sem, rc0, rc1]) rfl ?_
  have hw2 : w.heap.size ≤ w2.heap.size := HB1.out.size
  refine ⟨_, _, _, _, _, _, _, _, rfl, by rw [HOO.out]; cases okk <;> rfl, ?_, fC.out⟩
  intro ws t h
  rw [HOO.out] at h
  cases okk with
  | false => cases h
  | true =>
    simp only [if_true, Option.some.injEq, Prod.mk.injEq] at h
    obtain ⟨rfl, rfl⟩ := h
    refine ⟨TysRep.one_mk (b := X1.heap.size) (cap := 1) (k1 := 5) (c1 := .slice ab nb qb) (.inr (by omega)) (Nat.le_refl 1) (by unfold maxLen; omega) (blk_cell fL (o := 0) rfl) (blk_cell fL (o := 1) rfl) (hN.out.move (.weaken fun b h _ => by rcases h with (⟨h1, -⟩ | ⟨h1, -⟩) | ⟨h1, -⟩; exact .inl h1; exact .inr (by omega); exact .inr (by omega))), ?_⟩
    exact hA.out.move (.weaken fun b h _ => by rcases h with ⟨h1, -⟩ | ⟨h1, -⟩; exact .inl h1; exact .inr (by omega))
set_option maxHeartbeats 4000000 in
theorem implWanted_12 (G : Nat → Prop) (c y : Value) (hcs : ∃ a n q, c = .slice a n q) (nm : ByteArray) (u lb tk fk : Int) (ty : Ty) (ta fa ca : Option Addr) (tn tq fn fq cm cq : Nat) (w : World) (h1 : S) (hy : TysRep G w [h1.ty] y) :
    Calls Try.prog 39 #[c, .agg #[.int .i64 12, .string nm, .int .i64 u, .int .i64 tk, .slice ta tn tq, .int .i64 fk, .slice fa fn fq, .int .i64 lb, .slice ca cm cq], y] w (RetW G (wantS 12 ty [h1]) w) := by
  obtain ⟨b, off, cap, k1, c1, m1, q1, rfl, hlb, e1a, e1b, ht1⟩ := hy.one
  obtain ⟨xa0, xn0, xq0, rfl⟩ := hcs
  have HOO := Lib.hid (want_proj (k := 12) (ty := ty) (h := h1) (by omega))
  have H1 := Lib.hid (ht1.move (.weaken (G := (fun x => G x ∧ x < w.heap.size)) fun b h hl => ⟨h, hl⟩))
  have HM := Lib.hid (fun W (h : Below w.heap.size w W) => implMatchG _ h1 5 (.inr rfl) _ W (H1.out.below h))
  generalize wantS 12 ty [h1] = O at HOO ⊢
  generalize h1.mat 5 = mm at HOO HM
  obtain ⟨ma, mb, okk⟩ := mm
  simp only at HOO HM
  clear hy ht1
  go_enter Try.func39, Try.ntmps39
  go_wp2_with fail
  refine (implBaseW _ _).mono ?_
  rintro e w1 ⟨rfl, hb1⟩
  have HB1 := Lib.hid (bstep (bstep bal1 bal1) hb1)
  have fR0 := blk_below (blk_new (w := w.alloc (.cells #[.int .i64 12, .string nm, .int .i64 u, .int .i64 tk, .slice ta tn tq, .int .i64 fk, .slice fa fn fq, .int .i64 lb, .slice ca cm cq] 36)) (o := .cells #[.int .i64 0, .slice none 0 0] 31) (b := w.heap.size + 1) (by simp)) hb1
  have fE0 := blk_below (blk_below (blk_new (w := w) (o := .cells #[.int .i64 12, .string nm, .int .i64 u, .int .i64 tk, .slice ta tn tq, .int .i64 fk, .slice fa fn fq, .int .i64 lb, .slice ca cm cq] 36) rfl) (bal1 (o := .cells #[.int .i64 0, .slice none 0 0] 31))) hb1
  clear hb1
  go_wp2_with fail
  refine (implBaseW _ _).mono ?_
  rintro e w2 ⟨rfl, hb2⟩
  replace fE0 := blk_below fE0 hb2
  replace HB1 := Lib.hid (bstep HB1.out hb2)
  replace fR0 := blk_below fR0 hb2
  have hlr := blk_lt fR0
  clear hb2
  have d0 := blk_cell fE0 (o := 0) rfl
  have d1 := blk_cell fE0 (o := 1) rfl
  have lE := blk_lt fE0
  have lE2 : w.heap.size < w2.heap.size + 1 + 1 := by omega
  have lE1 : w.heap.size < w2.heap.size + 1 := by omega
  have HBV := Lib.hid (show Below w.heap.size w ((w2.alloc (.cells #[.int .i64 2, .slice none 0 0] 31)).alloc (.cells #[.int .i64 3, .slice none 0 0] 31)) from bstep (bstep HB1.out bal1) bal1)
  have m0 := bcell HB1.out e1a
  have m1 := bcell HB1.out e1b
  have lb0 : b < w2.heap.size := by have := HB1.out.size; omega
  have lb1 : b < w2.heap.size + 1 := by omega
  have lb2 : b < w2.heap.size + 1 + 1 := by omega
  go_wp2_with fail
  refine (HM.out _ HBV.out).mono ?_
  rintro e w3 ⟨ya, yb, rfl, hya, hyb, hst⟩
  obtain ⟨k3, a3, n3, q3, rfl⟩ := hya.shape
  obtain ⟨k4, a4, n4, q4, rfl⟩ := hyb.shape
  have HYA := Lib.hid (hya.move (.weaken (G := (fun x => (G x ∧ x < w.heap.size) ∨ w2.heap.size ≤ x ∧ x < w3.heap.size)) fun b h hl => h.elim .inl fun h2 => .inr ⟨by simp at h2; omega, hl⟩))
  have HYB := Lib.hid (hyb.move (.weaken (G := (fun x => (G x ∧ x < w.heap.size) ∨ w2.heap.size ≤ x ∧ x < w3.heap.size)) fun b h hl => h.elim .inl fun h2 => .inr ⟨by simp at h2; omega, hl⟩))
  have fE3 := blk_below (blk_below (blk_below fE0 bal1) bal1) hst
  have fR3 := blk_below (blk_below (blk_below fR0 bal1) bal1) hst
  have fC3 := Lib.hid (bstep HBV.out hst)
  have z3 := hst.size
  simp only [World.size_alloc] at z3
  clear hya hyb hst d0 d1 m0 m1
  have d0 := blk_cell fE3 (o := 0) rfl
  have lE3 := blk_lt fE3
  have lE4 : w.heap.size < w3.heap.size + 1 := by omega
  have lE5 : w.heap.size < w3.heap.size + 1 + 1 := by omega
  have lE6 : w.heap.size < w3.heap.size + 1 + 1 + 1 := by omega
  go_wp2_with fail
  obtain ⟨VV, hVV⟩ : ∃ X, X = (((w3.alloc (.cells #[.int .i64 k3, .slice a3 n3 q3] 31)).alloc (.cells #[.int .i64 k4, .slice a4 n4 q4] 31)).alloc (.cells #[.int .i64 k4, .slice a4 n4 q4] 31)) := ⟨_, rfl⟩
  have fR : VV.heap[w.heap.size + 1]? = some (.cells #[.int .i64 0, .slice none 0 0] 31 (0, 0)) := by rw [hVV]; exact blk_below (blk_below (blk_below fR3 bal1) bal1) bal1
  have fA : VV.heap[w3.heap.size]? = some (.cells #[.int .i64 k3, .slice a3 n3 q3] 31 (0, 0)) := by rw [hVV]; exact blk_below (blk_below (blk_new rfl) bal1) bal1
  have fB : VV.heap[w3.heap.size + 1]? = some (.cells #[.int .i64 k4, .slice a4 n4 q4] 31 (0, 0)) := by rw [hVV]; exact blk_below (blk_new (by simp)) bal1
  have fT : VV.heap[w3.heap.size + 1 + 1]? = some (.cells #[.int .i64 k4, .slice a4 n4 q4] 31 (0, 0)) := by rw [hVV]; exact blk_new (by simp)
  have fC : Hid (Below w.heap.size w VV) := by rw [hVV]; exact Lib.hid (bstep (bstep (bstep fC3.out bal1) bal1) bal1)
  have hA : Hid (TyRep (fun x => (G x ∧ x < w.heap.size) ∨ w2.heap.size ≤ x ∧ x < w3.heap.size) VV ma.ty (.agg #[.int .i64 k3, .slice a3 n3 q3])) := by rw [hVV]; exact Lib.hid (((HYA.out.below bal1).below bal1).below bal1)
  have hB_ : Hid (TyRep (fun x => (G x ∧ x < w.heap.size) ∨ w2.heap.size ≤ x ∧ x < w3.heap.size) VV mb.ty (.agg #[.int .i64 k4, .slice a4 n4 q4])) := by rw [hVV]; exact Lib.hid (((HYB.out.below bal1).below bal1).below bal1)
  rw [← hVV]
  have zV : VV.heap.size = _ := congrArg (fun X : World => X.heap.size) hVV
  simp only [World.size_alloc] at zV
  refine wp_region_noPanic ?_
  refine wp_region_held_drew (S := fun w' => w'.cell? ⟨w3.heap.size, 0, none⟩ = some (.int .i64 k3) ∧ w'.cell? ⟨w3.heap.size, 1, none⟩ = some (.slice a3 n3 q3) ∧ w'.cell? ⟨w3.heap.size + 1, 0, none⟩ = some (.int .i64 k4) ∧ w'.cell? ⟨w3.heap.size + 1, 1, none⟩ = some (.slice a4 n4 q4) ∧ w'.cell? ⟨w3.heap.size + 1 + 1, 0, none⟩ = some (.int .i64 k4) ∧ w'.cell? ⟨w3.heap.size + 1 + 1, 1, none⟩ = some (.slice a4 n4 q4)) (by kernel_rfl) ?_ (fun hHeld0 => ?_)
  · exact ⟨blk_cell fA rfl, blk_cell fA rfl, blk_cell fB rfl, blk_cell fB rfl, blk_cell fT rfl, blk_cell fT rfl⟩
  obtain ⟨U8, hU, hb, zU8a, zU8b⟩ := drLet VV
  rw [hU] at hHeld0 ⊢
  replace fR := blk_below fR hb; replace fA := blk_below fA hb; replace fB := blk_below fB hb; replace fT := blk_below fT hb
  replace fC := Lib.hid (bstep fC.out hb); replace hA := Lib.hid (hA.out.below hb); replace hB_ := Lib.hid (hB_.out.below hb)
  rw [zV] at zU8a zU8b
  clear hU hb hVV zV
  refine hwt 0 oW35_0 (.agg #[.int .i64 k3, .slice a3 n3 q3]) hHeld0 ?_ ?_
  · intro w' hSw; dsimp only [oW35_0]; go_simp
  try simp only [oW35_0, hwA]
  refine hwt 1 oW35_1 (.agg #[.int .i64 k4, .slice a4 n4 q4]) hHeld0 ?_ ?_
  · intro w' hSw; dsimp only [oW35_1]; go_simp
  try simp only [oW35_1, hwA]
  refine hwt 4 oW35_4 (.agg #[.int .i64 k4, .slice a4 n4 q4]) hHeld0 ?_ ?_
  · intro w' hSw; dsimp only [oW35_4]; go_simp
  try simp only [oW35_4, hwA]
  refine hwt 5 oW35_5 (.bool okk) hHeld0 ?_ ?_
  · intro w' hSw; dsimp only [oW35_5]; go_simp
  try simp only [oW35_5, hwA]
  refine hwr 2 oW35_2 (fun K hK => ?_)
  dsimp only [oW35_2]; go_simp
  go_at_call 56
  refine (implBothW _ 5 _ _ ma.ty mb.ty _ _ _ _ _ _ _ hA.out hB_.out).mono ?_
  rintro e X1 ⟨ab, nb, qb, rfl, hr, hb⟩
  have hN' : Hid (TyRep (fun x => ((G x ∧ x < w.heap.size) ∨ w2.heap.size ≤ x ∧ x < w3.heap.size) ∨ U8.heap.size ≤ x ∧ x < X1.heap.size) X1 (.mk 5 [ma.ty, mb.ty]) (.agg #[.int .i64 5, .slice ab nb qb])) := Lib.hid (hr.move (.weaken fun b h hl => h.elim .inl fun h2 => .inr ⟨h2, hl⟩))
  clear hr
  go_wp2_with fail
  have zX1 : U8.heap.size ≤ X1.heap.size := hb.size
  replace fR := blk_below fR hb; replace fA := blk_below fA hb; replace fB := blk_below fB hb; replace fT := blk_below fT hb
  replace fC := Lib.hid (bstep fC.out hb); replace hA := Lib.hid (hA.out.below hb); replace hB_ := Lib.hid (hB_.out.below hb)
  have hN := hN'
  clear hN'
  refine hK.out _ _ ⟨blk_cell fA rfl, blk_cell fA rfl, blk_cell fB rfl, blk_cell fB rfl, blk_cell fT rfl, blk_cell fT rfl⟩ (fun hHeld1 => ?_)
  clear hK K hHeld0 hb
  try simp only [oW35_2, hwA]
  refine hwr 3 oW35_3 (fun K hK => ?_)
  dsimp only [oW35_3]; go_simp
  (try go_wp2_with fail)
  obtain ⟨X2, hXq, hb, fL, zX2a, zX2b⟩ := alLet X1 (.cells #[.int .i64 5, .slice ab nb qb] 31)
  rw [hXq]
  replace fR := blk_below fR hb; replace fA := blk_below fA hb; replace fB := blk_below fB hb; replace fT := blk_below fT hb
  replace fC := Lib.hid (bstep fC.out hb); replace hA := Lib.hid (hA.out.below hb); replace hB_ := Lib.hid (hB_.out.below hb); replace hN := Lib.hid (hN.out.below hb)
  refine hK.out _ _ ⟨blk_cell fA rfl, blk_cell fA rfl, blk_cell fB rfl, blk_cell fB rfl, blk_cell fT rfl, blk_cell fT rfl⟩ (fun hHeld2 => ?_)
  clear hK K hHeld1 hb hXq
  try simp only [oW35_3, hwA]
  refine hwt 6 oW35_6 (.slice (some ⟨X1.heap.size, 0, none⟩) 1 1) hHeld2 ?_ ?_
  · intro w' hSw; dsimp only [oW35_6]; go_simp
  try simp only [oW35_6, hwA]
  refine hwr 7 oW35_7 (fun K hK => ?_)
  obtain ⟨r0, r1, rf0, rf1⟩ := blkR fR
  dsimp only [oW35_7]; go_simp
  (try go_wp2_with fail)
  have hQq := stLet2 fR (.int .i64 k4) (.slice a4 n4 q4)
  clear fR r0 r1 rf0 rf1
  obtain ⟨X3, hXq, hsq, fR, zX3a, zX3b⟩ := hQq
  rw [hXq]
  replace fA := hsq.blk (by omega) fA; replace fB := hsq.blk (by omega) fB; replace fT := hsq.blk (by omega) fT; replace fC := Lib.hid (hsq.bel fC.out (by omega))
  replace hA := Lib.hid (hsq.rep (fun b hb => by rcases hb with ⟨-, h1⟩ | ⟨h1, -⟩ <;> omega) hA.out); replace hB_ := Lib.hid (hsq.rep (fun b hb => by rcases hb with ⟨-, h1⟩ | ⟨h1, -⟩ <;> omega) hB_.out); replace hN := Lib.hid (hsq.rep (fun b hb => by rcases hb with (⟨-, h1⟩ | ⟨h1, -⟩) | ⟨h1, -⟩ <;> omega) hN.out); replace fL := hsq.blk (by omega) fL
  refine hK.out _ _ ⟨blk_cell fA rfl, blk_cell fA rfl, blk_cell fB rfl, blk_cell fB rfl, blk_cell fT rfl, blk_cell fT rfl⟩ (fun hHeld3 => ?_)
  clear hK K hHeld2 hsq hXq
  try simp only [oW35_7, hwA]
  refine hwt 8 oW35_8 (.bool okk) hHeld3 ?_ ?_
  · intro w' hSw; dsimp only [oW35_8]; go_simp
  try simp only [oW35_8, hwA]
  refine wpAnyH_done (by kernel_rfl) ?_ _
  refine NoPanic.normal ?_
  clear hHeld3
  have rc0 := blk_cell fR (o := 0) rfl
  have rc1 := blk_cell fR (o := 1) rfl
  go_wp2_with fail
  refine bodyPost_ret (v := .tuple #[.slice (some ⟨X1.heap.size, 0, none⟩) 1 1, .agg #[.int .i64 k4, .slice a4 n4 q4], .bool okk]) (by simp [results, Try.results39, go_sem, rc0, rc1]) rfl ?_
  have hw2 : w.heap.size ≤ w2.heap.size := HB1.out.size
  refine ⟨_, _, _, _, _, _, _, _, rfl, by rw [HOO.out]; cases okk <;> rfl, ?_, fC.out⟩
  intro ws t h
  rw [HOO.out] at h
  cases okk with
  | false => cases h
  | true =>
    simp only [if_true, Option.some.injEq, Prod.mk.injEq] at h
    obtain ⟨rfl, rfl⟩ := h
    refine ⟨TysRep.one_mk (b := X1.heap.size) (cap := 1) (k1 := 5) (c1 := .slice ab nb qb) (.inr (by omega)) (Nat.le_refl 1) (by unfold maxLen; omega) (blk_cell fL (o := 0) rfl) (blk_cell fL (o := 1) rfl) (hN.out.move (.weaken fun b h _ => by rcases h with (⟨h1, -⟩ | ⟨h1, -⟩) | ⟨h1, -⟩; exact .inl h1; exact .inr (by omega); exact .inr (by omega))), ?_⟩
    exact hB_.out.move (.weaken fun b h _ => by rcases h with ⟨h1, -⟩ | ⟨h1, -⟩; exact .inl h1; exact .inr (by omega))
end Go.Proofs.Ytkhmkohgnikcmaa
