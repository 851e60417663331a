/-
  spec.l4Exact: the type of a node of a term with casts by its operands' types.
-/
import Derived.Test.YtkhmkohgnikcmaaB19
import Derived.Test.YtkhmkohgnikcmaaCtTwo
import Derived.Test.YtkhmkohgnikcmaaB20
import Derived.Test.YtkhmkohgnikcmaaB3
import Derived.Test.YtkhmkohgnikcmaaB9
import Derived.Test.YtkhmkohgnikcmaaB20
import Derived.Test.YtkhmkohgnikcmaaB20
import Derived.Deep.RegionHeld3
namespace Go.Proofs.Ytkhmkohgnikcmaa
open Go.RowKit
set_option linter.unusedVariables false
set_option linter.unusedSimpArgs false
set_option maxRecDepth 100000

theorem Ty.toS_ty {t : Ty} (h : t.valid = true) : t.toS.ty = t := by
  obtain ⟨s, rfl, hs⟩ := Ty.valid_S h
  rw [S.ty_toS s (S.vd_ok hs)]
def oE3_0 : Oper := ⟨some 10, Op.fieldAddr 36 (Operand.tmp 2) 3, 0, "l4_casts.go:125", #[], none⟩
def oE3_1 : Oper := ⟨some 11, Op.load 31 (Operand.tmp 10), 31, "l4_casts.go:125", #[⟨0, .data⟩], none⟩
def oE3_2 : Oper := ⟨some 12, Op.call { callee := Callee.value (Operand.func 49), args := #[Operand.tmp 11], argTypes := #[31] }, 31, "l4_casts.go:125", #[⟨1, .data⟩], none⟩
def oE3_3 : Oper := ⟨some 13, Op.move (Operand.tmp 1), 29, "l4_casts.go:125", #[], none⟩
def oE3_4 : Oper := ⟨some 14, Op.indexAddr 29 (Operand.tmp 13) (Operand.const (Value.int IntKind.i64 0)), 0, "l4_casts.go:125", #[⟨3, .data⟩], none⟩
def oE3_5 : Oper := ⟨some 15, Op.load 31 (Operand.tmp 14), 31, "l4_casts.go:125", #[⟨4, .data⟩], none⟩
def oE3_6 : Oper := ⟨some 16, Op.fieldAddr 36 (Operand.tmp 2) 4, 0, "l4_casts.go:125", #[], none⟩
def oE3_7 : Oper := ⟨some 17, Op.load 31 (Operand.tmp 16), 31, "l4_casts.go:125", #[⟨6, .data⟩], none⟩
def oE3_8 : Oper := ⟨some 18, Op.call { callee := Callee.value (Operand.func 51), args := #[Operand.tmp 15, Operand.tmp 17], argTypes := #[31, 31] }, 4, "l4_casts.go:125", #[⟨5, .data⟩, ⟨7, .data⟩, ⟨2, .chain⟩], none⟩
def oE3_9 : Oper := ⟨none, Op.store 31 (Operand.tmp 4) (Operand.tmp 12), 0, "l4_casts.go:125", #[⟨2, .data⟩, ⟨8, .chain⟩, ⟨0, .phase⟩, ⟨1, .phase⟩, ⟨2, .phase⟩, ⟨3, .textOnly .lateStores⟩, ⟨4, .textOnly .lateStores⟩, ⟨5, .textOnly .lateStores⟩, ⟨6, .textOnly .lateStores⟩, ⟨7, .textOnly .lateStores⟩, ⟨8, .textOnly .lateStoresUnsure⟩], none⟩
def oE3_10 : Oper := ⟨some 5, Op.assign (Operand.tmp 18), 4, "l4_casts.go:125", #[⟨8, .data⟩, ⟨9, .chain⟩, ⟨0, .phase⟩, ⟨1, .phase⟩, ⟨2, .phase⟩, ⟨3, .phase⟩, ⟨4, .phase⟩, ⟨5, .phase⟩, ⟨6, .phase⟩, ⟨7, .phase⟩, ⟨8, .phase⟩, ⟨9, .phase⟩], none⟩
set_option maxHeartbeats 4000000 in
theorem specL4Exact_14 (G1 G2 G3 : Nat → Prop) (nm : ByteArray) (u lb tk fk : Int) (ty src : Ty) (ta fa ca : Option Addr) (tn tq fn fq cm cq : Nat) (w : World) (hty : TyRep G1 w ty (.agg #[.int .i64 tk, .slice ta tn tq])) (hsrc : TyRep G2 w src (.agg #[.int .i64 fk, .slice fa fn fq])) (hv : ty.valid = true) (h1 : S) (y : Value) (hy : TysRep G3 w [h1.ty] y) :
    Calls Try.prog 34 #[.agg #[.int .i64 14, .string nm, .int .i64 u, .int .i64 tk, .slice ta tn tq, .int .i64 fk, .slice fa fn fq, .int .i64 lb, .slice ca cm cq], y] w (RetOF ((nodeS 14 ty src [h1]).map S.ty) w) := by
  obtain ⟨b, off, cap, k1, c1, m1, q1, rfl, hlb, e0, e1, ht1⟩ := hy.one
  have HT := Lib.hid hty.old
  have HS := Lib.hid hsrc.old
  have H1 := Lib.hid ht1.old
  have HCN := Lib.hid (Ty.cnt_valid hv)
  have HVT := Lib.hid hv
  clear hty hsrc hy ht1 hv
  go_enter Try.func34, Try.ntmps34
  go_wp2_with fail
  obtain ⟨VV, hVV⟩ : ∃ X, X = ((w.alloc (.cells #[.int .i64 14, .string nm, .int .i64 u, .int .i64 tk, .slice ta tn tq, .int .i64 fk, .slice fa fn fq, .int .i64 lb, .slice ca cm cq] 36)).alloc (.cells #[.int .i64 0, .slice none 0 0] 31)) := ⟨_, rfl⟩
  have fE : VV.heap[w.heap.size]? = some (.cells #[.int .i64 14, .string nm, .int .i64 u, .int .i64 tk, .slice ta tn tq, .int .i64 fk, .slice fa fn fq, .int .i64 lb, .slice ca cm cq] 36 (0, 0)) := by rw [hVV]; exact blk_below (blk_new rfl) bal1
  have fR : VV.heap[w.heap.size + 1]? = some (.cells #[.int .i64 0, .slice none 0 0] 31 (0, 0)) := by rw [hVV]; exact blk_new (by simp)
  have c0 : VV.cell? ⟨b, off, none⟩ = some (.int .i64 k1) := by rw [hVV]; exact bcell bal1 (bcell bal1 e0)
  have c1_ : VV.cell? ⟨b, off + 1, none⟩ = some (.slice c1 m1 q1) := by rw [hVV]; exact bcell bal1 (bcell bal1 e1)
  have fC : Hid (Below w.heap.size w VV) := by rw [hVV]; exact Lib.hid (bstep bal1 bal1)
  have hT : Hid (TyRep (· < w.heap.size) VV ty (.agg #[.int .i64 tk, .slice ta tn tq])) := by rw [hVV]; exact Lib.hid ((HT.out.below bal1).below bal1)
  have hS : Hid (TyRep (· < w.heap.size) VV src (.agg #[.int .i64 fk, .slice fa fn fq])) := by rw [hVV]; exact Lib.hid ((HS.out.below bal1).below bal1)
  have h1_ : Hid (TyRep (· < w.heap.size) VV h1.ty (.agg #[.int .i64 k1, .slice c1 m1 q1])) := by rw [hVV]; exact Lib.hid ((H1.out.below bal1).below bal1)
  rw [← hVV]
  have zV : VV.heap.size = _ := congrArg (fun X : World => X.heap.size) hVV
  simp only [World.size_alloc] at zV
  refine wp_region_noPanic ?_
  refine wp_region_held_drew (S := fun w' => w'.cell? ⟨w.heap.size, 3, none⟩ = some (.int .i64 tk) ∧ w'.cell? ⟨w.heap.size, 4, none⟩ = some (.slice ta tn tq) ∧ w'.cell? ⟨w.heap.size, 5, none⟩ = some (.int .i64 fk) ∧ w'.cell? ⟨w.heap.size, 6, none⟩ = some (.slice fa fn fq) ∧ w'.cell? ⟨b, off, none⟩ = some (.int .i64 k1) ∧ w'.cell? ⟨b, off + 1, none⟩ = some (.slice c1 m1 q1)) (by kernel_rfl) ?_ (fun hHeld0 => ?_)
  · exact ⟨blk_cell fE rfl, blk_cell fE rfl, blk_cell fE rfl, blk_cell fE rfl, c0, c1_⟩
  obtain ⟨U6, hU, hb, zU6a, zU6b⟩ := drLet VV
  rw [hU] at hHeld0 ⊢
  replace fE := blk_below fE hb; replace fR := blk_below fR hb; replace c0 := bcell hb c0; replace c1_ := bcell hb c1_
  replace fC := Lib.hid (bstep fC.out hb); replace hT := Lib.hid (hT.out.below hb); replace hS := Lib.hid (hS.out.below hb); replace h1_ := Lib.hid (h1_.out.below hb)
  rw [zV] at zU6a zU6b
  clear hU hb hVV zV
  refine hwt 0 oE3_0 (.pointer (some ⟨w.heap.size, 3, none⟩)) hHeld0 ?_ ?_
  · intro w' hSw; dsimp only [oE3_0]; go_simp
  try simp only [oE3_0, hwA]
  refine hwt 1 oE3_1 (.agg #[.int .i64 tk, .slice ta tn tq]) hHeld0 ?_ ?_
  · intro w' hSw; dsimp only [oE3_1]; go_simp
  try simp only [oE3_1, hwA]
  refine hwt 3 oE3_3 (.slice (some ⟨b, off, none⟩) 1 cap) hHeld0 ?_ ?_
  · intro w' hSw; dsimp only [oE3_3]; go_simp
  try simp only [oE3_3, hwA]
  refine hwt 4 oE3_4 (.pointer (some ⟨b, off, none⟩)) hHeld0 ?_ ?_
  · intro w' hSw; dsimp only [oE3_4]; go_simp
  try simp only [oE3_4, hwA]
  refine hwt 5 oE3_5 (.agg #[.int .i64 k1, .slice c1 m1 q1]) hHeld0 ?_ ?_
  · intro w' hSw; dsimp only [oE3_5]; go_simp
  try simp only [oE3_5, hwA]
  refine hwt 6 oE3_6 (.pointer (some ⟨w.heap.size, 5, none⟩)) hHeld0 ?_ ?_
  · intro w' hSw; dsimp only [oE3_6]; go_simp
  try simp only [oE3_6, hwA]
  refine hwt 7 oE3_7 (.agg #[.int .i64 fk, .slice fa fn fq]) hHeld0 ?_ ?_
  · intro w' hSw; dsimp only [oE3_7]; go_simp
  try simp only [oE3_7, hwA]
  refine hwr 2 oE3_2 (fun K hK => ?_)
  dsimp only [oE3_2]; go_simp
  go_at_call 49
  refine (specL1Copy _ ty _ _ hT.out HCN.out).mono ?_
  rintro e X1 ⟨v, rfl, hv, hb⟩
  obtain ⟨kc, ac, nc, qc, rfl⟩ := hv.shape
  have hN' : Hid (TyRep (U6.heap.size ≤ ·) X1 ty (.agg #[.int .i64 kc, .slice ac nc qc])) := Lib.hid hv.rep
  clear hv
  go_wp2_with fail
  have zX1 : U6.heap.size ≤ X1.heap.size := hb.size
  replace fE := blk_below fE hb; replace fR := blk_below fR hb; replace c0 := bcell hb c0; replace c1_ := bcell hb c1_
  replace fC := Lib.hid (bstep fC.out hb); replace hT := Lib.hid (hT.out.below hb); replace hS := Lib.hid (hS.out.below hb); replace h1_ := Lib.hid (h1_.out.below hb)
  have hN := hN'
  clear hN'
  refine hK.out _ _ ⟨blk_cell fE rfl, blk_cell fE rfl, blk_cell fE rfl, blk_cell fE rfl, c0, c1_⟩ (fun hHeld1 => ?_)
  clear hK K hHeld0 hb
  try simp only [oE3_2, hwA]
  refine hwr 8 oE3_8 (fun K hK => ?_)
  dsimp only [oE3_8]; go_simp
  go_at_call 51
  refine (specTypeSame _ _ _ _ _ _ _ h1_.out hS.out).mono ?_
  rintro e X2 ⟨rfl, hb⟩
  go_wp2_with fail
  have zX2 : X1.heap.size ≤ X2.heap.size := hb.size
  replace fE := blk_below fE hb; replace fR := blk_below fR hb; replace c0 := bcell hb c0; replace c1_ := bcell hb c1_
  replace fC := Lib.hid (bstep fC.out hb); replace hT := Lib.hid (hT.out.below hb); replace hS := Lib.hid (hS.out.below hb); replace h1_ := Lib.hid (h1_.out.below hb)
  replace hN := Lib.hid (hN.out.below hb)
  refine hK.out _ _ ⟨blk_cell fE rfl, blk_cell fE rfl, blk_cell fE rfl, blk_cell fE rfl, c0, c1_⟩ (fun hHeld2 => ?_)
  clear hK K hHeld1 hb
  try simp only [oE3_8, hwA]
  refine hwr 9 oE3_9 (fun K hK => ?_)
  obtain ⟨r0, r1, rf0, rf1⟩ := blkR fR
  dsimp only [oE3_9]; go_simp
  (try go_wp2_with fail)
  have hQq := stLet2 fR (.int .i64 kc) (.slice ac nc qc)
  clear fR r0 r1 rf0 rf1
  obtain ⟨X3, hXq, hsq, fR, zX3a, zX3b⟩ := hQq
  rw [hXq]
  replace fE := hsq.blk (by omega) fE; replace c0 := hsq.cell (by show b ≠ w.heap.size + 1; omega) c0; replace c1_ := hsq.cell (by show b ≠ w.heap.size + 1; omega) c1_; replace fC := Lib.hid (hsq.bel fC.out (by omega))
  replace hT := Lib.hid (hsq.rep (fun b hb => by have : b < w.heap.size := hb; omega) hT.out); replace hS := Lib.hid (hsq.rep (fun b hb => by have : b < w.heap.size := hb; omega) hS.out); replace h1_ := Lib.hid (hsq.rep (fun b hb => by have : b < w.heap.size := hb; omega) h1_.out); replace hN := Lib.hid (hsq.rep (fun b hb => by have : U6.heap.size ≤ b := hb; omega) hN.out)
  refine hK.out _ _ ⟨blk_cell fE rfl, blk_cell fE rfl, blk_cell fE rfl, blk_cell fE rfl, c0, c1_⟩ (fun hHeld3 => ?_)
  clear hK K hHeld2 hsq hXq
  try simp only [oE3_9, hwA]
  refine hwt 10 oE3_10 (.bool (h1.ty.same src)) hHeld3 ?_ ?_
  · intro w' hSw; dsimp only [oE3_10]; go_simp
  try simp only [oE3_10, hwA]
  refine wpAnyH_done (by kernel_rfl) ?_ _
  refine NoPanic.normal ?_
  clear hHeld3
  have rc0 := blk_cell fR (o := 0) rfl
  have rc1 := blk_cell fR (o := 1) rfl
  go_wp2_with fail
  refine bodyPost_ret (v := .tuple #[.agg #[.int .i64 kc, .slice ac nc qc], .bool (h1.ty.same src)]) (by simp [results, Try.results34, go_sem, rc0, rc1]) rfl ?_
  have hnode : nodeS 14 ty src [h1] = if h1.ty.same src then some ty.toS else none := by simp [nodeS]
  exact ⟨_, _, _, _, _, ty, rfl, by rw [hnode]; cases h1.ty.same src <;> rfl, hN.out.move (.weaken fun b h _ => .inr (by have h1 : _ ≤ b := h; omega)), (by rw [hnode]; intro t h; cases hs : h1.ty.same src <;> rw [hs] at h <;> simp at h; exact (Ty.toS_ty HVT.out).symm.trans h), fC.out⟩
end Go.Proofs.Ytkhmkohgnikcmaa
