/-
  impl.both: a type of two operands that are readings.
  impl.wanted at functions, at pairs.
-/
import Derived.Test.YtkhmkohgnikcmaaCtTwo
import Derived.Test.YtkhmkohgnikcmaaB33
import Derived.Test.YtkhmkohgnikcmaaB27
namespace Go.Proofs.Ytkhmkohgnikcmaa
open Go.RowKit
set_option linter.unusedVariables false
set_option linter.unusedSimpArgs false
set_option maxRecDepth 100000

set_option maxHeartbeats 2000000 in
theorem implBothW (Q : Nat → Prop) (kk k1 k2 : Int) (t u : Ty) (a1 a2 : Option Addr) (n1 q1 n2 q2 : Nat) (w : World) (h1 : TyRep Q w t (.agg #[.int .i64 k1, .slice a1 n1 q1])) (h2 : TyRep Q w u (.agg #[.int .i64 k2, .slice a2 n2 q2])) :
    Calls Try.prog 56 #[.int .i64 kk, .agg #[.int .i64 k1, .slice a1 n1 q1], .agg #[.int .i64 k2, .slice a2 n2 q2]] w fun e w' => ∃ (a : Option Addr) (n q : Nat), e = .returned (.agg #[.int .i64 kk, .slice a n q]) ∧ TyRep (fun x => Q x ∨ w.heap.size ≤ x) w' (.mk kk [t, u]) (.agg #[.int .i64 kk, .slice a n q]) ∧ Below w.heap.size w w' := by
  have H1 := Lib.hid h1
  have H2 := Lib.hid h2
  clear h1 h2
  go_enter Try.func56, Try.ntmps56
  go_wp2_with fail
  refine bodyPost_ret (v := .agg #[.int .i64 kk, .slice (some ⟨w.heap.size + 1 + 1 + 1, 0, none⟩) 2 2]) (by simp [results, Try.results56, go_sem]) rfl ?_
  refine ⟨_, _, _, rfl, ?_, bstep bal3 bal1⟩
  have hb : ∀ o1 o2 o3 o4, Below w.heap.size w ((((w.alloc o1).alloc o2).alloc o3).alloc o4) := fun _ _ _ _ => bstep bal3 bal1
  have r1 := (H1.out.below (hb (.cells #[.int .i64 k1, .slice a1 n1 q1] 31) (.cells #[.int .i64 k2, .slice a2 n2 q2] 31) (.cells #[.int .i64 kk, .slice (some ⟨w.heap.size + 1 + 1 + 1, 0, none⟩) 2 2] 31) (.cells #[.int .i64 k1, .slice a1 n1 q1, .int .i64 k2, .slice a2 n2 q2] 31))).move (.weaken (G := fun x => Q x ∨ w.heap.size ≤ x) fun b h _ => .inl h)
  have r2 := (H2.out.below (hb (.cells #[.int .i64 k1, .slice a1 n1 q1] 31) (.cells #[.int .i64 k2, .slice a2 n2 q2] 31) (.cells #[.int .i64 kk, .slice (some ⟨w.heap.size + 1 + 1 + 1, 0, none⟩) 2 2] 31) (.cells #[.int .i64 k1, .slice a1 n1 q1, .int .i64 k2, .slice a2 n2 q2] 31))).move (.weaken (G := fun x => Q x ∨ w.heap.size ≤ x) fun b h _ => .inl h)
  have fN := blk_new (w := ((w.alloc (.cells #[.int .i64 k1, .slice a1 n1 q1] 31)).alloc (.cells #[.int .i64 k2, .slice a2 n2 q2] 31)).alloc (.cells #[.int .i64 kk, .slice (some ⟨w.heap.size + 1 + 1 + 1, 0, none⟩) 2 2] 31)) (o := .cells #[.int .i64 k1, .slice a1 n1 q1, .int .i64 k2, .slice a2 n2 q2] 31) (b := w.heap.size + 1 + 1 + 1) (by simp)
  exact TyRep.two_mk (b := w.heap.size + 1 + 1 + 1) (cap := 2) (k := kk) (t := t) (u := u) (k1 := k1) (k2 := k2) (c1 := .slice a1 n1 q1) (c2 := .slice a2 n2 q2) (.inr (by omega)) (Nat.le_refl 2) (by unfold maxLen; omega) (blk_cell fN (o := 0) rfl) (blk_cell fN (o := 1) rfl) (blk_cell fN (o := 2) rfl) (blk_cell fN (o := 3) rfl) r1 r2
end Go.Proofs.Ytkhmkohgnikcmaa
namespace Go.Proofs.Ytkhmkohgnikcmaa
open Go.RowKit
set_option linter.unusedVariables false
set_option linter.unusedSimpArgs false
set_option maxRecDepth 100000

def oW12_0 : Oper := ⟨some 46, Op.fieldAddr 36 (Operand.tmp 4) 3, 0, "l3_typing.go:110", #[], none⟩
def oW12_1 : Oper := ⟨some 47, Op.load 31 (Operand.tmp 46), 31, "l3_typing.go:110", #[⟨0, .data⟩], none⟩
def oW12_2 : Oper := ⟨some 48, Op.move (Operand.tmp 2), 29, "l3_typing.go:110", #[], none⟩
def oW12_3 : Oper := ⟨some 49, Op.indexAddr 29 (Operand.tmp 48) (Operand.const (Value.int IntKind.i64 0)), 0, "l3_typing.go:110", #[⟨2, .data⟩], none⟩
def oW12_4 : Oper := ⟨some 50, Op.load 31 (Operand.tmp 49), 31, "l3_typing.go:110", #[⟨3, .data⟩], none⟩
def oW12_5 : Oper := ⟨some 51, Op.call { callee := Callee.value (Operand.func 56), args := #[Operand.const (Value.int IntKind.i64 4), Operand.tmp 47, Operand.tmp 50], argTypes := #[3, 31, 31] }, 31, "l3_typing.go:110", #[⟨1, .data⟩, ⟨4, .data⟩], none⟩
def oW12_6 : Oper := ⟨some 6, Op.assign (Operand.const (Value.slice none 0 0)), 29, "l3_typing.go:110", #[⟨5, .chain⟩, ⟨0, .textOnly .lateStores⟩, ⟨1, .textOnly .lateStores⟩, ⟨2, .textOnly .lateStores⟩, ⟨3, .textOnly .lateStores⟩, ⟨4, .textOnly .lateStores⟩, ⟨5, .textOnly .lateStoresUnsure⟩], none⟩
def oW12_7 : Oper := ⟨none, Op.store 31 (Operand.tmp 7) (Operand.tmp 51), 0, "l3_typing.go:110", #[⟨5, .data⟩, ⟨6, .chain⟩, ⟨0, .phase⟩, ⟨1, .phase⟩, ⟨2, .phase⟩, ⟨3, .phase⟩, ⟨4, .phase⟩, ⟨5, .phase⟩, ⟨6, .phase⟩], none⟩
def oW12_8 : Oper := ⟨some 8, Op.assign (Operand.const (Value.bool true)), 4, "l3_typing.go:110", #[⟨7, .chain⟩, ⟨0, .phase⟩, ⟨1, .phase⟩, ⟨2, .phase⟩, ⟨3, .phase⟩, ⟨4, .phase⟩, ⟨5, .phase⟩, ⟨6, .phase⟩, ⟨7, .phase⟩], none⟩
set_option maxHeartbeats 4000000 in
theorem implWanted_5 (G : Nat → Prop) (c y : Value) (hcs : ∃ a n q, c = .slice a n q) (nm : ByteArray) (u lb tk fk : Int) (ty : Ty) (ta fa ca : Option Addr) (tn tq fn fq cm cq : Nat) (w : World) (hty : TyRep G w ty (.agg #[.int .i64 tk, .slice ta tn tq])) (hv : ty.valid = true) (h1 : S) (hy : TysRep G w [h1.ty] y) :
    Calls Try.prog 39 #[c, .agg #[.int .i64 5, .string nm, .int .i64 u, .int .i64 tk, .slice ta tn tq, .int .i64 fk, .slice fa fn fq, .int .i64 lb, .slice ca cm cq], y] w (RetW G (wantS 5 ty [h1]) w) := by
  obtain ⟨b, off, cap, k1, c1, m1, q1, rfl, hlb, e1a, e1b, ht1⟩ := hy.one
  obtain ⟨xa0, xn0, xq0, rfl⟩ := hcs
  obtain ⟨O, hO⟩ : ∃ O : Option (List S × S), O = (wantS 5 ty [h1]) := ⟨_, rfl⟩
  rw [← hO]
  have HO := Lib.hid hO
  have HTY := Lib.hid (hty.move (.weaken (G := (fun x => G x ∧ x < w.heap.size)) fun b h hl => ⟨h, hl⟩))
  have HVT := Lib.hid hv
  clear hv
  have H1 := Lib.hid (ht1.move (.weaken (G := (fun x => G x ∧ x < w.heap.size)) fun b h hl => ⟨h, hl⟩))
  clear hO hty hy ht1
  go_enter Try.func39, Try.ntmps39
  go_wp2_with fail
  refine (implBaseW _ _).mono ?_
  rintro e w1 ⟨rfl, hb1⟩
  have HB1 := Lib.hid (bstep (bstep bal1 bal1) hb1)
  have fR0 := blk_below (blk_new (w := w.alloc (.cells #[.int .i64 5, .string nm, .int .i64 u, .int .i64 tk, .slice ta tn tq, .int .i64 fk, .slice fa fn fq, .int .i64 lb, .slice ca cm cq] 36)) (o := .cells #[.int .i64 0, .slice none 0 0] 31) (b := w.heap.size + 1) (by simp)) hb1
  have fE0 := blk_below (blk_below (blk_new (w := w) (o := .cells #[.int .i64 5, .string nm, .int .i64 u, .int .i64 tk, .slice ta tn tq, .int .i64 fk, .slice fa fn fq, .int .i64 lb, .slice ca cm cq] 36) rfl) (bal1 (o := .cells #[.int .i64 0, .slice none 0 0] 31))) hb1
  clear hb1
  go_wp2_with fail
  refine (implBaseW _ _).mono ?_
  rintro e w2 ⟨rfl, hb2⟩
  replace fE0 := blk_below fE0 hb2
  replace HB1 := Lib.hid (bstep HB1.out hb2)
  replace fR0 := blk_below fR0 hb2
  have hlr := blk_lt fR0
  clear hb2
  have d0 := blk_cell fE0 (o := 0) rfl
  have d1 := blk_cell fE0 (o := 1) rfl
  have lE := blk_lt fE0
  have lE2 : w.heap.size < w2.heap.size + 1 + 1 := by omega
  have lE1 : w.heap.size < w2.heap.size + 1 := by omega
  go_wp2_with fail
  have HBV := Lib.hid (show Below w.heap.size w ((w2.alloc (.cells #[.int .i64 2, .slice none 0 0] 31)).alloc (.cells #[.int .i64 3, .slice none 0 0] 31)) from bstep (bstep HB1.out bal1) bal1)
  obtain ⟨VV, hVV⟩ : ∃ X, X = ((w2.alloc (.cells #[.int .i64 2, .slice none 0 0] 31)).alloc (.cells #[.int .i64 3, .slice none 0 0] 31)) := ⟨_, rfl⟩
  have fE : VV.heap[w.heap.size]? = some (.cells #[.int .i64 5, .string nm, .int .i64 u, .int .i64 tk, .slice ta tn tq, .int .i64 fk, .slice fa fn fq, .int .i64 lb, .slice ca cm cq] 36 (0, 0)) := by rw [hVV]; exact blk_below (blk_below fE0 bal1) bal1
  have fR : VV.heap[w.heap.size + 1]? = some (.cells #[.int .i64 0, .slice none 0 0] 31 (0, 0)) := by rw [hVV]; exact blk_below (blk_below fR0 bal1) bal1
  have fC : Hid (Below w.heap.size w VV) := by rw [hVV]; exact Lib.hid HBV.out
  have c1a_ : VV.cell? ⟨b, off, none⟩ = some (.int .i64 k1) := by rw [hVV]; exact bcell HBV.out e1a
  have c1b_ : VV.cell? ⟨b, off + 1, none⟩ = some (.slice c1 m1 q1) := by rw [hVV]; exact bcell HBV.out e1b
  have h1_ : Hid (TyRep (fun x => G x ∧ x < w.heap.size) VV h1.ty (.agg #[.int .i64 k1, .slice c1 m1 q1])) := by rw [hVV]; exact Lib.hid (H1.out.below HBV.out)
  have hT : Hid (TyRep (fun x => G x ∧ x < w.heap.size) VV ty (.agg #[.int .i64 tk, .slice ta tn tq])) := by rw [hVV]; exact Lib.hid (HTY.out.below HBV.out)
  rw [← hVV]
  have zV : VV.heap.size = _ := congrArg (fun X : World => X.heap.size) hVV
  simp only [World.size_alloc] at zV
  refine wp_region_noPanic ?_
  refine wp_region_held_drew (S := fun w' => w'.cell? ⟨w.heap.size, 3, none⟩ = some (.int .i64 tk) ∧ w'.cell? ⟨w.heap.size, 4, none⟩ = some (.slice ta tn tq) ∧ w'.cell? ⟨b, off, none⟩ = some (.int .i64 k1) ∧ w'.cell? ⟨b, off + 1, none⟩ = some (.slice c1 m1 q1)) (by kernel_rfl) ?_ (fun hHeld0 => ?_)
  · exact ⟨blk_cell fE rfl, blk_cell fE rfl, c1a_, c1b_⟩
  obtain ⟨U5, hU, hb, zU5a, zU5b⟩ := drLet VV
  rw [hU] at hHeld0 ⊢
  replace fE := blk_below fE hb; replace fR := blk_below fR hb; replace fC := Lib.hid (bstep fC.out hb); replace c1a_ := bcell hb c1a_
  replace c1b_ := bcell hb c1b_; replace h1_ := Lib.hid (h1_.out.below hb); replace hT := Lib.hid (hT.out.below hb)
  rw [zV] at zU5a zU5b
  clear hU hb hVV zV
  refine hwt 0 oW12_0 (.pointer (some ⟨w.heap.size, 3, none⟩)) hHeld0 ?_ ?_
  · intro w' hSw; dsimp only [oW12_0]; go_simp
  try simp only [oW12_0, hwA]
  refine hwt 1 oW12_1 (.agg #[.int .i64 tk, .slice ta tn tq]) hHeld0 ?_ ?_
  · intro w' hSw; dsimp only [oW12_1]; go_simp
  try simp only [oW12_1, hwA]
  refine hwt 2 oW12_2 (.slice (some ⟨b, off, none⟩) 1 cap) hHeld0 ?_ ?_
  · intro w' hSw; dsimp only [oW12_2]; go_simp
  try simp only [oW12_2, hwA]
  refine hwt 3 oW12_3 (.pointer (some ⟨b, off, none⟩)) hHeld0 ?_ ?_
  · intro w' hSw; dsimp only [oW12_3]; go_simp
  try simp only [oW12_3, hwA]
  refine hwt 4 oW12_4 (.agg #[.int .i64 k1, .slice c1 m1 q1]) hHeld0 ?_ ?_
  · intro w' hSw; dsimp only [oW12_4]; go_simp
  try simp only [oW12_4, hwA]
  refine hwr 5 oW12_5 (fun K hK => ?_)
  dsimp only [oW12_5]; go_simp
  go_at_call 56
  refine (implBothW _ 4 _ _ ty h1.ty _ _ _ _ _ _ _ hT.out h1_.out).mono ?_
  rintro e X1 ⟨ab, nb, qb, rfl, hr, hb⟩
  have hN' : Hid (TyRep (fun x => (G x ∧ x < w.heap.size) ∨ U5.heap.size ≤ x ∧ x < X1.heap.size) X1 (.mk 4 [ty, h1.ty]) (.agg #[.int .i64 4, .slice ab nb qb])) := Lib.hid (hr.move (.weaken fun b h hl => h.elim .inl fun h2 => .inr ⟨h2, hl⟩))
  clear hr
  go_wp2_with fail
  have zX1 : U5.heap.size ≤ X1.heap.size := hb.size
  replace fE := blk_below fE hb; replace fR := blk_below fR hb; replace fC := Lib.hid (bstep fC.out hb); replace c1a_ := bcell hb c1a_
  replace c1b_ := bcell hb c1b_; replace h1_ := Lib.hid (h1_.out.below hb); replace hT := Lib.hid (hT.out.below hb)
  have hN := hN'
  clear hN'
  refine hK.out _ _ ⟨blk_cell fE rfl, blk_cell fE rfl, c1a_, c1b_⟩ (fun hHeld1 => ?_)
  clear hK K hHeld0 hb
  try simp only [oW12_5, hwA]
  refine hwt 6 oW12_6 (.slice none 0 0) hHeld1 ?_ ?_
  · intro w' hSw; dsimp only [oW12_6]; go_simp
  try simp only [oW12_6, hwA]
  refine hwr 7 oW12_7 (fun K hK => ?_)
  obtain ⟨r0, r1, rf0, rf1⟩ := blkR fR
  dsimp only [oW12_7]; go_simp
  (try go_wp2_with fail)
  have hQq := stLet2 fR (.int .i64 4) (.slice ab nb qb)
  clear fR r0 r1 rf0 rf1
  obtain ⟨X2, hXq, hsq, fR, zX2a, zX2b⟩ := hQq
  rw [hXq]
  replace fE := hsq.blk (by omega) fE; replace fC := Lib.hid (hsq.bel fC.out (by omega)); replace c1a_ := hsq.cell (by show b ≠ w.heap.size + 1; omega) c1a_; replace c1b_ := hsq.cell (by show b ≠ w.heap.size + 1; omega) c1b_
  replace h1_ := Lib.hid (hsq.rep (fun b hb => by have h1 := hb.2; omega) h1_.out); replace hT := Lib.hid (hsq.rep (fun b hb => by have h1 := hb.2; omega) hT.out); replace hN := Lib.hid (hsq.rep (fun b hb => by rcases hb with ⟨-, h1⟩ | ⟨h1, -⟩ <;> omega) hN.out)
  refine hK.out _ _ ⟨blk_cell fE rfl, blk_cell fE rfl, c1a_, c1b_⟩ (fun hHeld2 => ?_)
  clear hK K hHeld1 hsq hXq
  try simp only [oW12_7, hwA]
  refine hwt 8 oW12_8 (.bool true) hHeld2 ?_ ?_
  · intro w' hSw; dsimp only [oW12_8]; go_simp
  try simp only [oW12_8, hwA]
  refine wpAnyH_done (by kernel_rfl) ?_ _
  refine NoPanic.normal ?_
  clear hHeld2
  have rc0 := blk_cell fR (o := 0) rfl
  have rc1 := blk_cell fR (o := 1) rfl
  go_wp2_with fail
  refine bodyPost_ret (v := .tuple #[.slice none 0 0, .agg #[.int .i64 4, .slice ab nb qb], .bool true]) (by simp [results, Try.results39, go_sem, rc0, rc1]) rfl ?_
  have hw2 : w.heap.size ≤ w2.heap.size := HB1.out.size
  have HOS : O = some ([], S.fn ty.toS h1) := by rw [HO.out]; simp [wantS]
  refine ⟨_, _, _, _, _, _, _, _, rfl, by rw [HOS]; rfl, ?_, fC.out⟩
  intro ws t h
  rw [HOS] at h
  simp only [Option.some.injEq, Prod.mk.injEq] at h
  obtain ⟨rfl, rfl⟩ := h
  rw [show (S.fn ty.toS h1).ty = .mk 4 [ty, h1.ty] from by rw [S.ty, Ty.toS_ty HVT.out]]
  exact ⟨TysRep.nilG, hN.out.move (.weaken fun b h _ => by rcases h with ⟨h1, -⟩ | ⟨h1, -⟩; exact .inl h1; exact .inr (by omega))⟩
def oW28_0 : Oper := ⟨some 133, Op.move (Operand.tmp 2), 29, "l3_typing.go:127", #[], none⟩
def oW28_1 : Oper := ⟨some 134, Op.indexAddr 29 (Operand.tmp 133) (Operand.const (Value.int IntKind.i64 0)), 0, "l3_typing.go:127", #[⟨0, .data⟩], none⟩
def oW28_2 : Oper := ⟨some 135, Op.load 31 (Operand.tmp 134), 31, "l3_typing.go:127", #[⟨1, .data⟩], none⟩
def oW28_3 : Oper := ⟨some 136, Op.move (Operand.tmp 2), 29, "l3_typing.go:127", #[], none⟩
def oW28_4 : Oper := ⟨some 137, Op.indexAddr 29 (Operand.tmp 136) (Operand.const (Value.int IntKind.i64 1)), 0, "l3_typing.go:127", #[⟨3, .data⟩], none⟩
def oW28_5 : Oper := ⟨some 138, Op.load 31 (Operand.tmp 137), 31, "l3_typing.go:127", #[⟨4, .data⟩], none⟩
def oW28_6 : Oper := ⟨some 139, Op.call { callee := Callee.value (Operand.func 56), args := #[Operand.const (Value.int IntKind.i64 5), Operand.tmp 135, Operand.tmp 138], argTypes := #[3, 31, 31] }, 31, "l3_typing.go:127", #[⟨2, .data⟩, ⟨5, .data⟩], none⟩
def oW28_7 : Oper := ⟨some 6, Op.assign (Operand.const (Value.slice none 0 0)), 29, "l3_typing.go:127", #[⟨6, .chain⟩, ⟨0, .textOnly .lateStores⟩, ⟨1, .textOnly .lateStores⟩, ⟨2, .textOnly .lateStores⟩, ⟨3, .textOnly .lateStores⟩, ⟨4, .textOnly .lateStores⟩, ⟨5, .textOnly .lateStores⟩, ⟨6, .textOnly .lateStoresUnsure⟩], none⟩
def oW28_8 : Oper := ⟨none, Op.store 31 (Operand.tmp 7) (Operand.tmp 139), 0, "l3_typing.go:127", #[⟨6, .data⟩, ⟨7, .chain⟩, ⟨0, .phase⟩, ⟨1, .phase⟩, ⟨2, .phase⟩, ⟨3, .phase⟩, ⟨4, .phase⟩, ⟨5, .phase⟩, ⟨6, .phase⟩, ⟨7, .phase⟩], none⟩
def oW28_9 : Oper := ⟨some 8, Op.assign (Operand.const (Value.bool true)), 4, "l3_typing.go:127", #[⟨8, .chain⟩, ⟨0, .phase⟩, ⟨1, .phase⟩, ⟨2, .phase⟩, ⟨3, .phase⟩, ⟨4, .phase⟩, ⟨5, .phase⟩, ⟨6, .phase⟩, ⟨7, .phase⟩, ⟨8, .phase⟩], none⟩
set_option maxHeartbeats 4000000 in
theorem implWanted_10 (G : Nat → Prop) (c y : Value) (hcs : ∃ a n q, c = .slice a n q) (nm : ByteArray) (u lb tk fk : Int) (ty : Ty) (ta fa ca : Option Addr) (tn tq fn fq cm cq : Nat) (w : World) (hty : TyRep G w ty (.agg #[.int .i64 tk, .slice ta tn tq]))  (h1 h2 : S) (hy : TysRep G w [h1.ty, h2.ty] y) :
    Calls Try.prog 39 #[c, .agg #[.int .i64 10, .string nm, .int .i64 u, .int .i64 tk, .slice ta tn tq, .int .i64 fk, .slice fa fn fq, .int .i64 lb, .slice ca cm cq], y] w (RetW G (wantS 10 ty [h1, h2]) w) := by
  obtain ⟨b, off, cap, k1, c1, m1, q1, k2, c2, m2, q2, rfl, -, -, hlb, e1a, e1b, e2a, e2b, ht1, ht2⟩ := hy.two
  obtain ⟨xa0, xn0, xq0, rfl⟩ := hcs
  obtain ⟨O, hO⟩ : ∃ O : Option (List S × S), O = (wantS 10 ty [h1, h2]) := ⟨_, rfl⟩
  rw [← hO]
  have HO := Lib.hid hO
  have HTY := Lib.hid (hty.move (.weaken (G := (fun x => G x ∧ x < w.heap.size)) fun b h hl => ⟨h, hl⟩))
  have H1 := Lib.hid (ht1.move (.weaken (G := (fun x => G x ∧ x < w.heap.size)) fun b h hl => ⟨h, hl⟩))
  have H2 := Lib.hid (ht2.move (.weaken (G := (fun x => G x ∧ x < w.heap.size)) fun b h hl => ⟨h, hl⟩))
  clear hO hty hy ht1 ht2
  go_enter Try.func39, Try.ntmps39
  go_wp2_with fail
  refine (implBaseW _ _).mono ?_
  rintro e w1 ⟨rfl, hb1⟩
  have HB1 := Lib.hid (bstep (bstep bal1 bal1) hb1)
  have fR0 := blk_below (blk_new (w := w.alloc (.cells #[.int .i64 10, .string nm, .int .i64 u, .int .i64 tk, .slice ta tn tq, .int .i64 fk, .slice fa fn fq, .int .i64 lb, .slice ca cm cq] 36)) (o := .cells #[.int .i64 0, .slice none 0 0] 31) (b := w.heap.size + 1) (by simp)) hb1
  have fE0 := blk_below (blk_below (blk_new (w := w) (o := .cells #[.int .i64 10, .string nm, .int .i64 u, .int .i64 tk, .slice ta tn tq, .int .i64 fk, .slice fa fn fq, .int .i64 lb, .slice ca cm cq] 36) rfl) (bal1 (o := .cells #[.int .i64 0, .slice none 0 0] 31))) hb1
  clear hb1
  go_wp2_with fail
  refine (implBaseW _ _).mono ?_
  rintro e w2 ⟨rfl, hb2⟩
  replace fE0 := blk_below fE0 hb2
  replace HB1 := Lib.hid (bstep HB1.out hb2)
  replace fR0 := blk_below fR0 hb2
  have hlr := blk_lt fR0
  clear hb2
  have d0 := blk_cell fE0 (o := 0) rfl
  have d1 := blk_cell fE0 (o := 1) rfl
  have lE := blk_lt fE0
  have lE2 : w.heap.size < w2.heap.size + 1 + 1 := by omega
  have lE1 : w.heap.size < w2.heap.size + 1 := by omega
  go_wp2_with fail
  have HBV := Lib.hid (show Below w.heap.size w ((w2.alloc (.cells #[.int .i64 2, .slice none 0 0] 31)).alloc (.cells #[.int .i64 3, .slice none 0 0] 31)) from bstep (bstep HB1.out bal1) bal1)
  obtain ⟨VV, hVV⟩ : ∃ X, X = ((w2.alloc (.cells #[.int .i64 2, .slice none 0 0] 31)).alloc (.cells #[.int .i64 3, .slice none 0 0] 31)) := ⟨_, rfl⟩
  have fE : VV.heap[w.heap.size]? = some (.cells #[.int .i64 10, .string nm, .int .i64 u, .int .i64 tk, .slice ta tn tq, .int .i64 fk, .slice fa fn fq, .int .i64 lb, .slice ca cm cq] 36 (0, 0)) := by rw [hVV]; exact blk_below (blk_below fE0 bal1) bal1
  have fR : VV.heap[w.heap.size + 1]? = some (.cells #[.int .i64 0, .slice none 0 0] 31 (0, 0)) := by rw [hVV]; exact blk_below (blk_below fR0 bal1) bal1
  have fC : Hid (Below w.heap.size w VV) := by rw [hVV]; exact Lib.hid HBV.out
  have c1a_ : VV.cell? ⟨b, off, none⟩ = some (.int .i64 k1) := by rw [hVV]; exact bcell HBV.out e1a
  have c1b_ : VV.cell? ⟨b, off + 1, none⟩ = some (.slice c1 m1 q1) := by rw [hVV]; exact bcell HBV.out e1b
  have h1_ : Hid (TyRep (fun x => G x ∧ x < w.heap.size) VV h1.ty (.agg #[.int .i64 k1, .slice c1 m1 q1])) := by rw [hVV]; exact Lib.hid (H1.out.below HBV.out)
  have c2a_ : VV.cell? ⟨b, off + 2, none⟩ = some (.int .i64 k2) := by rw [hVV]; exact bcell HBV.out e2a
  have c2b_ : VV.cell? ⟨b, off + 3, none⟩ = some (.slice c2 m2 q2) := by rw [hVV]; exact bcell HBV.out e2b
  have h2_ : Hid (TyRep (fun x => G x ∧ x < w.heap.size) VV h2.ty (.agg #[.int .i64 k2, .slice c2 m2 q2])) := by rw [hVV]; exact Lib.hid (H2.out.below HBV.out)
  have hT : Hid (TyRep (fun x => G x ∧ x < w.heap.size) VV ty (.agg #[.int .i64 tk, .slice ta tn tq])) := by rw [hVV]; exact Lib.hid (HTY.out.below HBV.out)
  rw [← hVV]
  have zV : VV.heap.size = _ := congrArg (fun X : World => X.heap.size) hVV
  simp only [World.size_alloc] at zV
  refine wp_region_noPanic ?_
  refine wp_region_held_drew (S := fun w' => w'.cell? ⟨b, off, none⟩ = some (.int .i64 k1) ∧ w'.cell? ⟨b, off + 1, none⟩ = some (.slice c1 m1 q1) ∧ w'.cell? ⟨b, off + 2, none⟩ = some (.int .i64 k2) ∧ w'.cell? ⟨b, off + 3, none⟩ = some (.slice c2 m2 q2)) (by kernel_rfl) ?_ (fun hHeld0 => ?_)
  · exact ⟨c1a_, c1b_, c2a_, c2b_⟩
  obtain ⟨U6, hU, hb, zU6a, zU6b⟩ := drLet VV
  rw [hU] at hHeld0 ⊢
  replace fE := blk_below fE hb; replace fR := blk_below fR hb; replace fC := Lib.hid (bstep fC.out hb); replace c1a_ := bcell hb c1a_
  replace c1b_ := bcell hb c1b_; replace h1_ := Lib.hid (h1_.out.below hb); replace c2a_ := bcell hb c2a_; replace c2b_ := bcell hb c2b_
  replace h2_ := Lib.hid (h2_.out.below hb); replace hT := Lib.hid (hT.out.below hb)
  rw [zV] at zU6a zU6b
  clear hU hb hVV zV
  refine hwt 0 oW28_0 (.slice (some ⟨b, off, none⟩) 2 cap) hHeld0 ?_ ?_
  · intro w' hSw; dsimp only [oW28_0]; go_simp
  try simp only [oW28_0, hwA]
  refine hwt 1 oW28_1 (.pointer (some ⟨b, off, none⟩)) hHeld0 ?_ ?_
  · intro w' hSw; dsimp only [oW28_1]; go_simp
  try simp only [oW28_1, hwA]
  refine hwt 2 oW28_2 (.agg #[.int .i64 k1, .slice c1 m1 q1]) hHeld0 ?_ ?_
  · intro w' hSw; dsimp only [oW28_2]; go_simp
  try simp only [oW28_2, hwA]
  refine hwt 3 oW28_3 (.slice (some ⟨b, off, none⟩) 2 cap) hHeld0 ?_ ?_
  · intro w' hSw; dsimp only [oW28_3]; go_simp
  try simp only [oW28_3, hwA]
  refine hwt 4 oW28_4 (.pointer (some ⟨b, off + 2, none⟩)) hHeld0 ?_ ?_
  · intro w' hSw; dsimp only [oW28_4]; go_simp
  try simp only [oW28_4, hwA]
  refine hwt 5 oW28_5 (.agg #[.int .i64 k2, .slice c2 m2 q2]) hHeld0 ?_ ?_
  · intro w' hSw; dsimp only [oW28_5]; go_simp
  try simp only [oW28_5, hwA]
  refine hwr 6 oW28_6 (fun K hK => ?_)
  dsimp only [oW28_6]; go_simp
  go_at_call 56
  refine (implBothW _ 5 _ _ h1.ty h2.ty _ _ _ _ _ _ _ h1_.out h2_.out).mono ?_
  rintro e X1 ⟨ab, nb, qb, rfl, hr, hb⟩
  have hN' : Hid (TyRep (fun x => (G x ∧ x < w.heap.size) ∨ U6.heap.size ≤ x ∧ x < X1.heap.size) X1 (.mk 5 [h1.ty, h2.ty]) (.agg #[.int .i64 5, .slice ab nb qb])) := Lib.hid (hr.move (.weaken fun b h hl => h.elim .inl fun h2 => .inr ⟨h2, hl⟩))
  clear hr
  go_wp2_with fail
  have zX1 : U6.heap.size ≤ X1.heap.size := hb.size
  replace fE := blk_below fE hb; replace fR := blk_below fR hb; replace fC := Lib.hid (bstep fC.out hb); replace c1a_ := bcell hb c1a_
  replace c1b_ := bcell hb c1b_; replace h1_ := Lib.hid (h1_.out.below hb); replace c2a_ := bcell hb c2a_; replace c2b_ := bcell hb c2b_
  replace h2_ := Lib.hid (h2_.out.below hb); replace hT := Lib.hid (hT.out.below hb)
  have hN := hN'
  clear hN'
  refine hK.out _ _ ⟨c1a_, c1b_, c2a_, c2b_⟩ (fun hHeld1 => ?_)
  clear hK K hHeld0 hb
  try simp only [oW28_6, hwA]
  refine hwt 7 oW28_7 (.slice none 0 0) hHeld1 ?_ ?_
  · intro w' hSw; dsimp only [oW28_7]; go_simp
  try simp only [oW28_7, hwA]
  refine hwr 8 oW28_8 (fun K hK => ?_)
  obtain ⟨r0, r1, rf0, rf1⟩ := blkR fR
  dsimp only [oW28_8]; go_simp
  (try go_wp2_with fail)
  have hQq := stLet2 fR (.int .i64 5) (.slice ab nb qb)
  clear fR r0 r1 rf0 rf1
  obtain ⟨X2, hXq, hsq, fR, zX2a, zX2b⟩ := hQq
  rw [hXq]
  replace fE := hsq.blk (by omega) fE; replace fC := Lib.hid (hsq.bel fC.out (by omega)); replace c1a_ := hsq.cell (by show b ≠ w.heap.size + 1; omega) c1a_; replace c1b_ := hsq.cell (by show b ≠ w.heap.size + 1; omega) c1b_
  replace h1_ := Lib.hid (hsq.rep (fun b hb => by have h1 := hb.2; omega) h1_.out); replace c2a_ := hsq.cell (by show b ≠ w.heap.size + 1; omega) c2a_; replace c2b_ := hsq.cell (by show b ≠ w.heap.size + 1; omega) c2b_; replace h2_ := Lib.hid (hsq.rep (fun b hb => by have h1 := hb.2; omega) h2_.out)
  replace hT := Lib.hid (hsq.rep (fun b hb => by have h1 := hb.2; omega) hT.out); replace hN := Lib.hid (hsq.rep (fun b hb => by rcases hb with ⟨-, h1⟩ | ⟨h1, -⟩ <;> omega) hN.out)
  refine hK.out _ _ ⟨c1a_, c1b_, c2a_, c2b_⟩ (fun hHeld2 => ?_)
  clear hK K hHeld1 hsq hXq
  try simp only [oW28_8, hwA]
  refine hwt 9 oW28_9 (.bool true) hHeld2 ?_ ?_
  · intro w' hSw; dsimp only [oW28_9]; go_simp
  try simp only [oW28_9, hwA]
  refine wpAnyH_done (by kernel_rfl) ?_ _
  refine NoPanic.normal ?_
  clear hHeld2
  have rc0 := blk_cell fR (o := 0) rfl
  have rc1 := blk_cell fR (o := 1) rfl
  go_wp2_with fail
  refine bodyPost_ret (v := .tuple #[.slice none 0 0, .agg #[.int .i64 5, .slice ab nb qb], .bool true]) (by simp [results, Try.results39, go_sem, rc0, rc1]) rfl ?_
  have hw2 : w.heap.size ≤ w2.heap.size := HB1.out.size
  have HOS : O = some ([], S.pr h1 h2) := by rw [HO.out]; simp [wantS]
  refine ⟨_, _, _, _, _, _, _, _, rfl, by rw [HOS]; rfl, ?_, fC.out⟩
  intro ws t h
  rw [HOS] at h
  simp only [Option.some.injEq, Prod.mk.injEq] at h
  obtain ⟨rfl, rfl⟩ := h
  exact ⟨TysRep.nilG, hN.out.move (.weaken fun b h _ => by rcases h with ⟨h1, -⟩ | ⟨h1, -⟩; exact .inl h1; exact .inr (by omega))⟩
end Go.Proofs.Ytkhmkohgnikcmaa
