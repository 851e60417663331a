/-
  spec.l4Exact: the type of a node of a term with casts by its operands' types.
-/
import Derived.Test.YtkhmkohgnikcmaaB19
import Derived.Test.YtkhmkohgnikcmaaCtTwo
import Derived.Test.YtkhmkohgnikcmaaCtEx7
import Derived.Test.YtkhmkohgnikcmaaB20
import Derived.Test.YtkhmkohgnikcmaaB3
import Derived.Test.YtkhmkohgnikcmaaB9
import Derived.Test.YtkhmkohgnikcmaaB20
import Derived.Test.YtkhmkohgnikcmaaB20
import Derived.Deep.RegionHeld3
namespace Go.Proofs.Ytkhmkohgnikcmaa
open Go.RowKit
set_option linter.unusedVariables false
set_option linter.unusedSimpArgs false
set_option maxRecDepth 100000

theorem pair_o {ty src : Ty} {g h : S} : (nodeS 10 ty src [g, h]).map S.ty = if (Ty.mk 5 [g.ty, h.ty]).valid = true then some (.mk 5 [g.ty, h.ty]) else none := by
  rw [show (Ty.mk 5 [g.ty, h.ty]) = (S.pr g h).ty from rfl, S.valid]
  simp only [nodeS]
  cases (S.pr g h).vd <;> simp
theorem proj_t {k : Int} {ty src : Ty} {a b : S} (hk : k = 11 ∨ k = 12) : nodeS k ty src [.pr a b] = some (if k = 12 then b else a) := by
  have h5 : ¬ k = 5 := by omega
  have h14 : ¬ k = 14 := by omega
  simp [nodeS, h5, h14]
theorem proj_f {k : Int} {ty src : Ty} {h : S} (hk : k = 11 ∨ k = 12) (hh : h.ty.kind ≠ 5) : nodeS k ty src [h] = none := by
  have h5 : ¬ k = 5 := by omega
  have h14 : ¬ k = 14 := by omega
  cases h with
  | pr a b => exact absurd rfl hh
  | _ => simp [nodeS, h5, h14]
theorem app_t {ty src : Ty} {a b h : S} (d : a.ty.same h.ty = true) : nodeS 6 ty src [.fn a b, h] = some b := by
  rw [S.same, decide_eq_true_eq] at d
  subst d
  simp [nodeS]
theorem app_f {ty src : Ty} {a b h : S} (d : a.ty.same h.ty = false) : nodeS 6 ty src [.fn a b, h] = none := by
  rw [S.same, decide_eq_false_iff_not] at d
  simp [nodeS, d]
theorem app_n {ty src : Ty} {g h : S} (hh : g.ty.kind ≠ 4) : nodeS 6 ty src [g, h] = none := by
  cases g with
  | fn a b => exact absurd rfl hh
  | _ => simp [nodeS]
theorem TyRep.kindE {F : Nat → Prop} {w : World} {t : Ty} {k : Int} {s : Value} (h : TyRep F w t (.agg #[.int .i64 k, s])) : k = t.kind := by
  obtain ⟨s', he, -⟩ := h
  simp only [Value.agg.injEq, Array.mk.injEq, List.cons.injEq, Value.int.injEq, true_and] at he
  exact he.1
def oE15_0 : Oper := ⟨some 99, Op.move (Operand.tmp 1), 29, "l4_casts.go:138", #[], none⟩
def oE15_1 : Oper := ⟨some 100, Op.indexAddr 29 (Operand.tmp 99) (Operand.const (Value.int IntKind.i64 0)), 0, "l4_casts.go:138", #[⟨0, .data⟩], none⟩
def oE15_2 : Oper := ⟨some 101, Op.load 31 (Operand.tmp 100), 31, "l4_casts.go:138", #[⟨1, .data⟩], none⟩
def oE15_3 : Oper := ⟨some 102, Op.move (Operand.tmp 1), 29, "l4_casts.go:138", #[], none⟩
def oE15_4 : Oper := ⟨some 103, Op.indexAddr 29 (Operand.tmp 102) (Operand.const (Value.int IntKind.i64 1)), 0, "l4_casts.go:138", #[⟨3, .data⟩], none⟩
def oE15_5 : Oper := ⟨some 104, Op.load 31 (Operand.tmp 103), 31, "l4_casts.go:138", #[⟨4, .data⟩], none⟩
def oE15_6 : Oper := ⟨some 105, Op.call { callee := Callee.value (Operand.func 33), args := #[Operand.const (Value.int IntKind.i64 5), Operand.tmp 101, Operand.tmp 104], argTypes := #[3, 31, 31] }, 32, "l4_casts.go:138", #[⟨2, .data⟩, ⟨5, .data⟩], none⟩
def oE15_7 : Oper := ⟨some 106, Op.extract (Operand.tmp 105) 0, 31, "l4_casts.go:138", #[⟨6, .data⟩], none⟩
def oE15_8 : Oper := ⟨some 107, Op.extract (Operand.tmp 105) 1, 4, "l4_casts.go:138", #[⟨6, .data⟩], none⟩
def oE15_9 : Oper := ⟨none, Op.store 31 (Operand.tmp 4) (Operand.tmp 106), 0, "l4_casts.go:138", #[⟨7, .data⟩, ⟨6, .chain⟩, ⟨0, .phase⟩, ⟨1, .phase⟩, ⟨2, .phase⟩, ⟨3, .phase⟩, ⟨4, .phase⟩, ⟨5, .phase⟩, ⟨6, .phase⟩, ⟨7, .phase⟩, ⟨8, .phase⟩], none⟩
def oE15_10 : Oper := ⟨some 5, Op.assign (Operand.tmp 107), 4, "l4_casts.go:138", #[⟨8, .data⟩, ⟨9, .chain⟩, ⟨0, .phase⟩, ⟨1, .phase⟩, ⟨2, .phase⟩, ⟨3, .phase⟩, ⟨4, .phase⟩, ⟨5, .phase⟩, ⟨6, .phase⟩, ⟨7, .phase⟩, ⟨8, .phase⟩, ⟨9, .phase⟩], none⟩
set_option maxHeartbeats 4000000 in
theorem specL4Exact_10 (G1 G2 G3 : Nat → Prop) (nm : ByteArray) (u lb tk fk : Int) (ty src : Ty) (ta fa ca : Option Addr) (tn tq fn fq cm cq : Nat) (w : World) (hty : TyRep G1 w ty (.agg #[.int .i64 tk, .slice ta tn tq])) (hsrc : TyRep G2 w src (.agg #[.int .i64 fk, .slice fa fn fq])) (y : Value) (h1 h2 : S) (hv1 : h1.vd = true) (hv2 : h2.vd = true) (hy : TysRep G3 w [h1.ty, h2.ty] y) :
    Calls Try.prog 34 #[.agg #[.int .i64 10, .string nm, .int .i64 u, .int .i64 tk, .slice ta tn tq, .int .i64 fk, .slice fa fn fq, .int .i64 lb, .slice ca cm cq], y] w (RetOF ((nodeS 10 ty src [h1, h2]).map S.ty) w) := by
  obtain ⟨b, off, cap, k1, c1, m1, q1, k2, c2, m2, q2, rfl, -, -, hlb, e1a, e1b, e2a, e2b, ht1, ht2⟩ := hy.two
  obtain ⟨OO', hOO⟩ : ∃ O : Option Ty, O = ((nodeS 10 ty src [h1, h2]).map S.ty) := ⟨_, rfl⟩
  rw [← hOO]
  have HO := Lib.hid hOO
  clear hOO
  have HC1 := Lib.hid (S.cnt_ok hv1)
  have HC2 := Lib.hid (S.cnt_ok hv2)
  clear hv1 hv2
  have H1 := Lib.hid ht1.old
  have H2 := Lib.hid ht2.old
  clear hty hsrc hy ht1 ht2
  go_enter Try.func34, Try.ntmps34
  go_wp2_with fail
  obtain ⟨VV, hVV⟩ : ∃ X, X = ((w.alloc (.cells #[.int .i64 10, .string nm, .int .i64 u, .int .i64 tk, .slice ta tn tq, .int .i64 fk, .slice fa fn fq, .int .i64 lb, .slice ca cm cq] 36)).alloc (.cells #[.int .i64 0, .slice none 0 0] 31)) := ⟨_, rfl⟩
  have fE : VV.heap[w.heap.size]? = some (.cells #[.int .i64 10, .string nm, .int .i64 u, .int .i64 tk, .slice ta tn tq, .int .i64 fk, .slice fa fn fq, .int .i64 lb, .slice ca cm cq] 36 (0, 0)) := by rw [hVV]; exact blk_below (blk_new rfl) bal1
  have fR : VV.heap[w.heap.size + 1]? = some (.cells #[.int .i64 0, .slice none 0 0] 31 (0, 0)) := by rw [hVV]; exact blk_new (by simp)
  have c1a_ : VV.cell? ⟨b, off, none⟩ = some (.int .i64 k1) := by rw [hVV]; exact bcell bal1 (bcell bal1 e1a)
  have c1b_ : VV.cell? ⟨b, off + 1, none⟩ = some (.slice c1 m1 q1) := by rw [hVV]; exact bcell bal1 (bcell bal1 e1b)
  have h1_ : Hid (TyRep (· < w.heap.size) VV h1.ty (.agg #[.int .i64 k1, .slice c1 m1 q1])) := by rw [hVV]; exact Lib.hid ((H1.out.below bal1).below bal1)
  have c2a_ : VV.cell? ⟨b, off + 2, none⟩ = some (.int .i64 k2) := by rw [hVV]; exact bcell bal1 (bcell bal1 e2a)
  have c2b_ : VV.cell? ⟨b, off + 3, none⟩ = some (.slice c2 m2 q2) := by rw [hVV]; exact bcell bal1 (bcell bal1 e2b)
  have h2_ : Hid (TyRep (· < w.heap.size) VV h2.ty (.agg #[.int .i64 k2, .slice c2 m2 q2])) := by rw [hVV]; exact Lib.hid ((H2.out.below bal1).below bal1)
  have fC : Hid (Below w.heap.size w VV) := by rw [hVV]; exact Lib.hid (bstep bal1 bal1)
  rw [← hVV]
  have zV : VV.heap.size = _ := congrArg (fun X : World => X.heap.size) hVV
  simp only [World.size_alloc] at zV
  refine wp_region_noPanic ?_
  refine wp_region_held_drew (S := fun w' => w'.cell? ⟨b, off, none⟩ = some (.int .i64 k1) ∧ w'.cell? ⟨b, off + 1, none⟩ = some (.slice c1 m1 q1) ∧ w'.cell? ⟨b, off + 2, none⟩ = some (.int .i64 k2) ∧ w'.cell? ⟨b, off + 3, none⟩ = some (.slice c2 m2 q2)) (by kernel_rfl) ?_ (fun hHeld0 => ?_)
  · exact ⟨c1a_, c1b_, c2a_, c2b_⟩
  obtain ⟨U16, hU, hb, zU16a, zU16b⟩ := drLet VV
  rw [hU] at hHeld0 ⊢
  replace fE := blk_below fE hb; replace fR := blk_below fR hb; replace c1a_ := bcell hb c1a_; replace c1b_ := bcell hb c1b_
  replace h1_ := Lib.hid (h1_.out.below hb); replace c2a_ := bcell hb c2a_; replace c2b_ := bcell hb c2b_; replace h2_ := Lib.hid (h2_.out.below hb)
  replace fC := Lib.hid (bstep fC.out hb)
  rw [zV] at zU16a zU16b
  clear hU hb hVV zV
  refine hwt 0 oE15_0 (.slice (some ⟨b, off, none⟩) 2 cap) hHeld0 ?_ ?_
  · intro w' hSw; dsimp only [oE15_0]; go_simp
  try simp only [oE15_0, hwA]
  refine hwt 1 oE15_1 (.pointer (some ⟨b, off, none⟩)) hHeld0 ?_ ?_
  · intro w' hSw; dsimp only [oE15_1]; go_simp
  try simp only [oE15_1, hwA]
  refine hwt 2 oE15_2 (.agg #[.int .i64 k1, .slice c1 m1 q1]) hHeld0 ?_ ?_
  · intro w' hSw; dsimp only [oE15_2]; go_simp
  try simp only [oE15_2, hwA]
  refine hwt 3 oE15_3 (.slice (some ⟨b, off, none⟩) 2 cap) hHeld0 ?_ ?_
  · intro w' hSw; dsimp only [oE15_3]; go_simp
  try simp only [oE15_3, hwA]
  refine hwt 4 oE15_4 (.pointer (some ⟨b, off + 2, none⟩)) hHeld0 ?_ ?_
  · intro w' hSw; dsimp only [oE15_4]; go_simp
  try simp only [oE15_4, hwA]
  refine hwt 5 oE15_5 (.agg #[.int .i64 k2, .slice c2 m2 q2]) hHeld0 ?_ ?_
  · intro w' hSw; dsimp only [oE15_5]; go_simp
  try simp only [oE15_5, hwA]
  refine hwr 6 oE15_6 (fun K hK => ?_)
  dsimp only [oE15_6]; go_simp
  go_at_call 33
  refine (specL3Two _ _ 5 h1.ty h2.ty _ _ _ _ _ _ _ _ _ h1_.out h2_.out HC1.out HC2.out).mono ?_
  rintro e X1 ⟨kr, ar, nr, qr, br, tr, rfl, hbr, htr, hor, hb⟩
  have hN1' : Hid (TyRep (fun b => U16.heap.size ≤ b ∧ b < X1.heap.size) X1 tr (.agg #[.int .i64 kr, .slice ar nr qr])) := Lib.hid (htr.move (.weaken fun b h1 h2 => ⟨h1.elim False.elim id, h2⟩))
  have HBR := Lib.hid hbr
  have HOR := Lib.hid hor
  clear hbr htr hor
  go_wp2_with fail
  have zX1 : U16.heap.size ≤ X1.heap.size := hb.size
  replace fE := blk_below fE hb; replace fR := blk_below fR hb; replace c1a_ := bcell hb c1a_; replace c1b_ := bcell hb c1b_
  replace h1_ := Lib.hid (h1_.out.below hb); replace c2a_ := bcell hb c2a_; replace c2b_ := bcell hb c2b_; replace h2_ := Lib.hid (h2_.out.below hb)
  replace fC := Lib.hid (bstep fC.out hb)
  have hN1 := hN1'
  clear hN1'
  refine hK.out _ _ ⟨c1a_, c1b_, c2a_, c2b_⟩ (fun hHeld1 => ?_)
  clear hK K hHeld0 hb
  try simp only [oE15_6, hwA]
  refine hwt 7 oE15_7 (.agg #[.int .i64 kr, .slice ar nr qr]) hHeld1 ?_ ?_
  · intro w' hSw; dsimp only [oE15_7]; go_simp
  try simp only [oE15_7, hwA]
  refine hwt 8 oE15_8 (.bool br) hHeld1 ?_ ?_
  · intro w' hSw; dsimp only [oE15_8]; go_simp
  try simp only [oE15_8, hwA]
  refine hwr 9 oE15_9 (fun K hK => ?_)
  obtain ⟨r0, r1, rf0, rf1⟩ := blkR fR
  dsimp only [oE15_9]; go_simp
  (try go_wp2_with fail)
  have hQq := stLet2 fR (.int .i64 kr) (.slice ar nr qr)
  clear fR r0 r1 rf0 rf1
  obtain ⟨X2, hXq, hsq, fR, zX2a, zX2b⟩ := hQq
  rw [hXq]
  replace fE := hsq.blk (by omega) fE; replace c1a_ := hsq.cell (by show b ≠ w.heap.size + 1; omega) c1a_; replace c1b_ := hsq.cell (by show b ≠ w.heap.size + 1; omega) c1b_; replace h1_ := Lib.hid (hsq.rep (fun b hb => by have : b < w.heap.size := hb; omega) h1_.out)
  replace c2a_ := hsq.cell (by show b ≠ w.heap.size + 1; omega) c2a_; replace c2b_ := hsq.cell (by show b ≠ w.heap.size + 1; omega) c2b_; replace h2_ := Lib.hid (hsq.rep (fun b hb => by have : b < w.heap.size := hb; omega) h2_.out); replace fC := Lib.hid (hsq.bel fC.out (by omega))
  replace hN1 := Lib.hid (hsq.rep (fun b hb => by have h1 : U16.heap.size ≤ b := hb.1; have h2 : b < X1.heap.size := hb.2; omega) hN1.out)
  refine hK.out _ _ ⟨c1a_, c1b_, c2a_, c2b_⟩ (fun hHeld2 => ?_)
  clear hK K hHeld1 hsq hXq
  try simp only [oE15_9, hwA]
  refine hwt 10 oE15_10 (.bool br) hHeld2 ?_ ?_
  · intro w' hSw; dsimp only [oE15_10]; go_simp
  try simp only [oE15_10, hwA]
  refine wpAnyH_done (by kernel_rfl) ?_ _
  refine NoPanic.normal ?_
  clear hHeld2
  have rc0 := blk_cell fR (o := 0) rfl
  have rc1 := blk_cell fR (o := 1) rfl
  go_wp2_with fail
  refine bodyPost_ret (v := .tuple #[.agg #[.int .i64 kr, .slice ar nr qr], .bool br]) (by simp [results, Try.results34, go_sem, rc0, rc1]) rfl ?_
  exact ⟨_, _, _, _, _, tr, rfl, by rw [HO.out, pair_o, HBR.out], hN1.out.move (.weaken fun b h _ => .inr (by have h1 := h.1; omega)), (by rw [HO.out, pair_o]; intro s h; exact HOR.out s h), fC.out⟩
def oE18_0 : Oper := ⟨some 114, Op.move (Operand.tmp 1), 29, "l4_casts.go:143", #[], none⟩
def oE18_1 : Oper := ⟨some 115, Op.indexAddr 29 (Operand.tmp 114) (Operand.const (Value.int IntKind.i64 0)), 0, "l4_casts.go:143", #[⟨0, .data⟩], none⟩
def oE18_2 : Oper := ⟨some 116, Op.fieldAddr 31 (Operand.tmp 115) 1, 0, "l4_casts.go:143", #[⟨1, .data⟩], none⟩
def oE18_3 : Oper := ⟨some 117, Op.load 29 (Operand.tmp 116), 29, "l4_casts.go:143", #[⟨2, .data⟩], none⟩
def oE18_4 : Oper := ⟨some 118, Op.fieldAddr 36 (Operand.tmp 2) 0, 0, "l4_casts.go:143", #[], none⟩
def oE18_5 : Oper := ⟨some 119, Op.load 3 (Operand.tmp 118), 3, "l4_casts.go:143", #[⟨4, .data⟩], none⟩
def oE18_6 : Oper := ⟨some 120, Op.binOp BinOp.sub 3 (Operand.tmp 119) (Operand.const (Value.int IntKind.i64 11)) 3, 3, "l4_casts.go:143", #[⟨5, .data⟩], none⟩
def oE18_7 : Oper := ⟨some 121, Op.indexAddr 29 (Operand.tmp 117) (Operand.tmp 120), 0, "l4_casts.go:143", #[⟨3, .data⟩, ⟨6, .data⟩], none⟩
def oE18_8 : Oper := ⟨some 122, Op.load 31 (Operand.tmp 121), 31, "l4_casts.go:143", #[⟨7, .data⟩], none⟩
def oE18_9 : Oper := ⟨some 123, Op.call { callee := Callee.value (Operand.func 49), args := #[Operand.tmp 122], argTypes := #[31] }, 31, "l4_casts.go:143", #[⟨8, .data⟩], none⟩
def oE18_10 : Oper := ⟨none, Op.store 31 (Operand.tmp 4) (Operand.tmp 123), 0, "l4_casts.go:143", #[⟨9, .data⟩, ⟨9, .chain⟩, ⟨0, .phase⟩, ⟨1, .phase⟩, ⟨2, .phase⟩, ⟨3, .phase⟩, ⟨4, .phase⟩, ⟨5, .phase⟩, ⟨6, .phase⟩, ⟨7, .phase⟩, ⟨8, .phase⟩, ⟨9, .phase⟩], none⟩
def oE18_11 : Oper := ⟨some 5, Op.assign (Operand.const (Value.bool true)), 4, "l4_casts.go:143", #[⟨10, .chain⟩, ⟨0, .phase⟩, ⟨1, .phase⟩, ⟨2, .phase⟩, ⟨3, .phase⟩, ⟨4, .phase⟩, ⟨5, .phase⟩, ⟨6, .phase⟩, ⟨7, .phase⟩, ⟨8, .phase⟩, ⟨9, .phase⟩, ⟨10, .phase⟩], none⟩
set_option maxHeartbeats 4000000 in
theorem specL4Exact_11 (G1 G2 G3 : Nat → Prop) (nm : ByteArray) (u lb tk fk : Int) (ty src : Ty) (ta fa ca : Option Addr) (tn tq fn fq cm cq : Nat) (w : World) (hty : TyRep G1 w ty (.agg #[.int .i64 tk, .slice ta tn tq])) (hsrc : TyRep G2 w src (.agg #[.int .i64 fk, .slice fa fn fq])) (y : Value) (p1 p2 : S) (hvp : p1.vd = true) (hy : TysRep G3 w [(S.pr p1 p2).ty] y) :
    Calls Try.prog 34 #[.agg #[.int .i64 11, .string nm, .int .i64 u, .int .i64 tk, .slice ta tn tq, .int .i64 fk, .slice fa fn fq, .int .i64 lb, .slice ca cm cq], y] w (RetOF ((nodeS 11 ty src [S.pr p1 p2]).map S.ty) w) := by
  obtain ⟨b, off, cap, k1, c1, m1, q1, rfl, hlb, e1a, e1b, ht1⟩ := hy.one
  obtain ⟨OO', hOO⟩ : ∃ O : Option Ty, O = ((nodeS 11 ty src [S.pr p1 p2]).map S.ty) := ⟨_, rfl⟩
  rw [← hOO]
  have HO := Lib.hid hOO
  clear hOO
  have HCN := Lib.hid (S.cnt_ok hvp)
  clear hvp
  obtain ⟨rfl, hks⟩ := TyRep.pairK ht1
  obtain ⟨b2, off2, cap2, k5, c5, m5, q5, k6, c6, m6, q6, hsl, -, -, hlb2, e5a, e5b, e6a, e6b, ht5, ht6⟩ := hks.two
  simp only [Value.slice.injEq] at hsl
  obtain ⟨rfl, rfl, rfl⟩ := hsl
  have H1 := Lib.hid ht1.old
  have H5 := Lib.hid ht5.old
  have H6 := Lib.hid ht6.old
  clear hty hsrc hy ht1 ht5 ht6
  clear hks
  go_enter Try.func34, Try.ntmps34
  go_wp2_with fail
  obtain ⟨VV, hVV⟩ : ∃ X, X = ((w.alloc (.cells #[.int .i64 11, .string nm, .int .i64 u, .int .i64 tk, .slice ta tn tq, .int .i64 fk, .slice fa fn fq, .int .i64 lb, .slice ca cm cq] 36)).alloc (.cells #[.int .i64 0, .slice none 0 0] 31)) := ⟨_, rfl⟩
  have fE : VV.heap[w.heap.size]? = some (.cells #[.int .i64 11, .string nm, .int .i64 u, .int .i64 tk, .slice ta tn tq, .int .i64 fk, .slice fa fn fq, .int .i64 lb, .slice ca cm cq] 36 (0, 0)) := by rw [hVV]; exact blk_below (blk_new rfl) bal1
  have fR : VV.heap[w.heap.size + 1]? = some (.cells #[.int .i64 0, .slice none 0 0] 31 (0, 0)) := by rw [hVV]; exact blk_new (by simp)
  have c1a_ : VV.cell? ⟨b, off, none⟩ = some (.int .i64 5) := by rw [hVV]; exact bcell bal1 (bcell bal1 e1a)
  have c1b_ : VV.cell? ⟨b, off + 1, none⟩ = some (.slice (some ⟨b2, off2, none⟩) 2 q1) := by rw [hVV]; exact bcell bal1 (bcell bal1 e1b)
  have h1_ : Hid (TyRep (· < w.heap.size) VV (S.pr p1 p2).ty (.agg #[.int .i64 5, .slice (some ⟨b2, off2, none⟩) 2 q1])) := by rw [hVV]; exact Lib.hid ((H1.out.below bal1).below bal1)
  have c5a_ : VV.cell? ⟨b2, off2, none⟩ = some (.int .i64 k5) := by rw [hVV]; exact bcell bal1 (bcell bal1 e5a)
  have c5b_ : VV.cell? ⟨b2, off2 + 1, none⟩ = some (.slice c5 m5 q5) := by rw [hVV]; exact bcell bal1 (bcell bal1 e5b)
  have h5_ : Hid (TyRep (· < w.heap.size) VV p1.ty (.agg #[.int .i64 k5, .slice c5 m5 q5])) := by rw [hVV]; exact Lib.hid ((H5.out.below bal1).below bal1)
  have c6a_ : VV.cell? ⟨b2, off2 + 2, none⟩ = some (.int .i64 k6) := by rw [hVV]; exact bcell bal1 (bcell bal1 e6a)
  have c6b_ : VV.cell? ⟨b2, off2 + 3, none⟩ = some (.slice c6 m6 q6) := by rw [hVV]; exact bcell bal1 (bcell bal1 e6b)
  have h6_ : Hid (TyRep (· < w.heap.size) VV p2.ty (.agg #[.int .i64 k6, .slice c6 m6 q6])) := by rw [hVV]; exact Lib.hid ((H6.out.below bal1).below bal1)
  have fC : Hid (Below w.heap.size w VV) := by rw [hVV]; exact Lib.hid (bstep bal1 bal1)
  rw [← hVV]
  have zV : VV.heap.size = _ := congrArg (fun X : World => X.heap.size) hVV
  simp only [World.size_alloc] at zV
  refine wp_region_noPanic ?_
  refine wp_region_held_drew (S := fun w' => w'.cell? ⟨b, off, none⟩ = some (.int .i64 5) ∧ w'.cell? ⟨b, off + 1, none⟩ = some (.slice (some ⟨b2, off2, none⟩) 2 q1) ∧ w'.cell? ⟨b2, off2, none⟩ = some (.int .i64 k5) ∧ w'.cell? ⟨b2, off2 + 1, none⟩ = some (.slice c5 m5 q5) ∧ w'.cell? ⟨w.heap.size, 0, none⟩ = some (.int .i64 11)) (by kernel_rfl) ?_ (fun hHeld0 => ?_)
  · exact ⟨c1a_, c1b_, c5a_, c5b_, blk_cell fE rfl⟩
  obtain ⟨U17, hU, hb, zU17a, zU17b⟩ := drLet VV
  rw [hU] at hHeld0 ⊢
  replace fE := blk_below fE hb; replace fR := blk_below fR hb; replace c1a_ := bcell hb c1a_; replace c1b_ := bcell hb c1b_
  replace h1_ := Lib.hid (h1_.out.below hb); replace c5a_ := bcell hb c5a_; replace c5b_ := bcell hb c5b_; replace h5_ := Lib.hid (h5_.out.below hb)
  replace c6a_ := bcell hb c6a_; replace c6b_ := bcell hb c6b_; replace h6_ := Lib.hid (h6_.out.below hb); replace fC := Lib.hid (bstep fC.out hb)
  rw [zV] at zU17a zU17b
  clear hU hb hVV zV
  refine hwt 0 oE18_0 (.slice (some ⟨b, off, none⟩) 1 cap) hHeld0 ?_ ?_
  · intro w' hSw; dsimp only [oE18_0]; go_simp
  try simp only [oE18_0, hwA]
  refine hwt 1 oE18_1 (.pointer (some ⟨b, off, none⟩)) hHeld0 ?_ ?_
  · intro w' hSw; dsimp only [oE18_1]; go_simp
  try simp only [oE18_1, hwA]
  refine hwt 2 oE18_2 (.pointer (some ⟨b, off + 1, none⟩)) hHeld0 ?_ ?_
  · intro w' hSw; dsimp only [oE18_2]; go_simp
  try simp only [oE18_2, hwA]
  refine hwt 3 oE18_3 (.slice (some ⟨b2, off2, none⟩) 2 q1) hHeld0 ?_ ?_
  · intro w' hSw; dsimp only [oE18_3]; go_simp
  try simp only [oE18_3, hwA]
  refine hwt 4 oE18_4 (.pointer (some ⟨w.heap.size, 0, none⟩)) hHeld0 ?_ ?_
  · intro w' hSw; dsimp only [oE18_4]; go_simp
  try simp only [oE18_4, hwA]
  refine hwt 5 oE18_5 (.int .i64 11) hHeld0 ?_ ?_
  · intro w' hSw; dsimp only [oE18_5]; go_simp
  try simp only [oE18_5, hwA]
  refine hwt 6 oE18_6 (.int .i64 0) hHeld0 ?_ ?_
  · intro w' hSw; dsimp only [oE18_6]; go_simp; rfl
  try simp only [oE18_6, hwA]
  refine hwt 7 oE18_7 (.pointer (some ⟨b2, off2, none⟩)) hHeld0 ?_ ?_
  · intro w' hSw; dsimp only [oE18_7]; go_simp
  try simp only [oE18_7, hwA]
  refine hwt 8 oE18_8 (.agg #[.int .i64 k5, .slice c5 m5 q5]) hHeld0 ?_ ?_
  · intro w' hSw; dsimp only [oE18_8]; go_simp
  try simp only [oE18_8, hwA]
  refine hwr 9 oE18_9 (fun K hK => ?_)
  dsimp only [oE18_9]; go_simp
  go_at_call 49
  refine (specL1Copy _ p1.ty _ _ h5_.out HCN.out).mono ?_
  rintro e X1 ⟨v, rfl, hv, hb⟩
  obtain ⟨ke, ae, ne, qe, rfl⟩ := hv.shape
  have hN1' : Hid (TyRep (fun b => U17.heap.size ≤ b ∧ b < X1.heap.size) X1 p1.ty (.agg #[.int .i64 ke, .slice ae ne qe])) := Lib.hid (hv.rep.move (.weaken fun b h1 h2 => ⟨h1, h2⟩))
  clear hv
  go_wp2_with fail
  have zX1 : U17.heap.size ≤ X1.heap.size := hb.size
  replace fE := blk_below fE hb; replace fR := blk_below fR hb; replace c1a_ := bcell hb c1a_; replace c1b_ := bcell hb c1b_
  replace h1_ := Lib.hid (h1_.out.below hb); replace c5a_ := bcell hb c5a_; replace c5b_ := bcell hb c5b_; replace h5_ := Lib.hid (h5_.out.below hb)
  replace c6a_ := bcell hb c6a_; replace c6b_ := bcell hb c6b_; replace h6_ := Lib.hid (h6_.out.below hb); replace fC := Lib.hid (bstep fC.out hb)
  have hN1 := hN1'
  clear hN1'
  refine hK.out _ _ ⟨c1a_, c1b_, c5a_, c5b_, blk_cell fE rfl⟩ (fun hHeld1 => ?_)
  clear hK K hHeld0 hb
  try simp only [oE18_9, hwA]
  refine hwr 10 oE18_10 (fun K hK => ?_)
  obtain ⟨r0, r1, rf0, rf1⟩ := blkR fR
  dsimp only [oE18_10]; go_simp
  (try go_wp2_with fail)
  have hQq := stLet2 fR (.int .i64 ke) (.slice ae ne qe)
  clear fR r0 r1 rf0 rf1
  obtain ⟨X2, hXq, hsq, fR, zX2a, zX2b⟩ := hQq
  rw [hXq]
  replace fE := hsq.blk (by omega) fE; replace c1a_ := hsq.cell (by show b ≠ w.heap.size + 1; omega) c1a_; replace c1b_ := hsq.cell (by show b ≠ w.heap.size + 1; omega) c1b_; replace h1_ := Lib.hid (hsq.rep (fun b hb => by have : b < w.heap.size := hb; omega) h1_.out)
  replace c5a_ := hsq.cell (by show b2 ≠ w.heap.size + 1; omega) c5a_; replace c5b_ := hsq.cell (by show b2 ≠ w.heap.size + 1; omega) c5b_; replace h5_ := Lib.hid (hsq.rep (fun b hb => by have : b < w.heap.size := hb; omega) h5_.out); replace c6a_ := hsq.cell (by show b2 ≠ w.heap.size + 1; omega) c6a_
  replace c6b_ := hsq.cell (by show b2 ≠ w.heap.size + 1; omega) c6b_; replace h6_ := Lib.hid (hsq.rep (fun b hb => by have : b < w.heap.size := hb; omega) h6_.out); replace fC := Lib.hid (hsq.bel fC.out (by omega)); replace hN1 := Lib.hid (hsq.rep (fun b hb => by have h1 : U17.heap.size ≤ b := hb.1; have h2 : b < X1.heap.size := hb.2; omega) hN1.out)
  refine hK.out _ _ ⟨c1a_, c1b_, c5a_, c5b_, blk_cell fE rfl⟩ (fun hHeld2 => ?_)
  clear hK K hHeld1 hsq hXq
  try simp only [oE18_10, hwA]
  refine hwt 11 oE18_11 (.bool true) hHeld2 ?_ ?_
  · intro w' hSw; dsimp only [oE18_11]; go_simp
  try simp only [oE18_11, hwA]
  refine wpAnyH_done (by kernel_rfl) ?_ _
  refine NoPanic.normal ?_
  clear hHeld2
  have rc0 := blk_cell fR (o := 0) rfl
  have rc1 := blk_cell fR (o := 1) rfl
  go_wp2_with fail
  refine bodyPost_ret (v := .tuple #[.agg #[.int .i64 ke, .slice ae ne qe], .bool true]) (by simp [results, Try.results34, go_sem, rc0, rc1]) rfl ?_
  exact ⟨_, _, _, _, _, p1.ty, rfl, by rw [HO.out, proj_t (k := 11) (by omega)]; rfl, hN1.out.move (.weaken fun b h _ => .inr (by have h1 := h.1; omega)), (by rw [HO.out, proj_t (k := 11) (by omega)]; intro s h; exact Option.some.inj h), fC.out⟩
set_option maxHeartbeats 4000000 in
theorem specL4Exact_11_n (G1 G2 G3 : Nat → Prop) (nm : ByteArray) (u lb tk fk : Int) (ty src : Ty) (ta fa ca : Option Addr) (tn tq fn fq cm cq : Nat) (w : World) (hty : TyRep G1 w ty (.agg #[.int .i64 tk, .slice ta tn tq])) (hsrc : TyRep G2 w src (.agg #[.int .i64 fk, .slice fa fn fq])) (y : Value) (h1 : S) (hh : h1.ty.kind ≠ 5) (hy : TysRep G3 w [h1.ty] y) :
    Calls Try.prog 34 #[.agg #[.int .i64 11, .string nm, .int .i64 u, .int .i64 tk, .slice ta tn tq, .int .i64 fk, .slice fa fn fq, .int .i64 lb, .slice ca cm cq], y] w (RetOF ((nodeS 11 ty src [h1]).map S.ty) w) := by
  obtain ⟨b, off, cap, k1, c1, m1, q1, rfl, hlb, e1a, e1b, ht1⟩ := hy.one
  have hk1 : (k1 == 5) = false := by rw [ht1.kindE]; simpa using hh
  have hk2 : (k1 != 5) = true := by simp only [bne, hk1]; rfl
  rw [proj_f (k := 11) (by omega) hh]
  have e1a' := bcell (bal1 (o := .cells #[.int .i64 11, .string nm, .int .i64 u, .int .i64 tk, .slice ta tn tq, .int .i64 fk, .slice fa fn fq, .int .i64 lb, .slice ca cm cq] 36)) e1a
  have hlb1 : b < w.heap.size + 1 := by omega
  clear hty hsrc hy ht1 hh
  go_enter Try.func34, Try.ntmps34
  go_wp2_with fail
  refine bodyPost_ret (v := .tuple #[.agg #[.int .i64 0, .slice none 0 0], .bool false]) (by simp [results, Try.results34, go_sem]) rfl ?_
  exact ⟨_, _, _, _, _, _, rfl, rfl, TyRep.zeroG, (by intro s h; cases h), bstep bal1 bal1⟩
set_option maxHeartbeats 4000000 in
theorem specL4Exact_12 (G1 G2 G3 : Nat → Prop) (nm : ByteArray) (u lb tk fk : Int) (ty src : Ty) (ta fa ca : Option Addr) (tn tq fn fq cm cq : Nat) (w : World) (hty : TyRep G1 w ty (.agg #[.int .i64 tk, .slice ta tn tq])) (hsrc : TyRep G2 w src (.agg #[.int .i64 fk, .slice fa fn fq])) (y : Value) (p1 p2 : S) (hvp : p2.vd = true) (hy : TysRep G3 w [(S.pr p1 p2).ty] y) :
    Calls Try.prog 34 #[.agg #[.int .i64 12, .string nm, .int .i64 u, .int .i64 tk, .slice ta tn tq, .int .i64 fk, .slice fa fn fq, .int .i64 lb, .slice ca cm cq], y] w (RetOF ((nodeS 12 ty src [S.pr p1 p2]).map S.ty) w) := by
  obtain ⟨b, off, cap, k1, c1, m1, q1, rfl, hlb, e1a, e1b, ht1⟩ := hy.one
  obtain ⟨OO', hOO⟩ : ∃ O : Option Ty, O = ((nodeS 12 ty src [S.pr p1 p2]).map S.ty) := ⟨_, rfl⟩
  rw [← hOO]
  have HO := Lib.hid hOO
  clear hOO
  have HCN := Lib.hid (S.cnt_ok hvp)
  clear hvp
  obtain ⟨rfl, hks⟩ := TyRep.pairK ht1
  obtain ⟨b2, off2, cap2, k5, c5, m5, q5, k6, c6, m6, q6, hsl, -, -, hlb2, e5a, e5b, e6a, e6b, ht5, ht6⟩ := hks.two
  simp only [Value.slice.injEq] at hsl
  obtain ⟨rfl, rfl, rfl⟩ := hsl
  have H1 := Lib.hid ht1.old
  have H5 := Lib.hid ht5.old
  have H6 := Lib.hid ht6.old
  clear hty hsrc hy ht1 ht5 ht6
  clear hks
  go_enter Try.func34, Try.ntmps34
  go_wp2_with fail
  obtain ⟨VV, hVV⟩ : ∃ X, X = ((w.alloc (.cells #[.int .i64 12, .string nm, .int .i64 u, .int .i64 tk, .slice ta tn tq, .int .i64 fk, .slice fa fn fq, .int .i64 lb, .slice ca cm cq] 36)).alloc (.cells #[.int .i64 0, .slice none 0 0] 31)) := ⟨_, rfl⟩
  have fE : VV.heap[w.heap.size]? = some (.cells #[.int .i64 12, .string nm, .int .i64 u, .int .i64 tk, .slice ta tn tq, .int .i64 fk, .slice fa fn fq, .int .i64 lb, .slice ca cm cq] 36 (0, 0)) := by rw [hVV]; exact blk_below (blk_new rfl) bal1
  have fR : VV.heap[w.heap.size + 1]? = some (.cells #[.int .i64 0, .slice none 0 0] 31 (0, 0)) := by rw [hVV]; exact blk_new (by simp)
  have c1a_ : VV.cell? ⟨b, off, none⟩ = some (.int .i64 5) := by rw [hVV]; exact bcell bal1 (bcell bal1 e1a)
  have c1b_ : VV.cell? ⟨b, off + 1, none⟩ = some (.slice (some ⟨b2, off2, none⟩) 2 q1) := by rw [hVV]; exact bcell bal1 (bcell bal1 e1b)
  have h1_ : Hid (TyRep (· < w.heap.size) VV (S.pr p1 p2).ty (.agg #[.int .i64 5, .slice (some ⟨b2, off2, none⟩) 2 q1])) := by rw [hVV]; exact Lib.hid ((H1.out.below bal1).below bal1)
  have c5a_ : VV.cell? ⟨b2, off2, none⟩ = some (.int .i64 k5) := by rw [hVV]; exact bcell bal1 (bcell bal1 e5a)
  have c5b_ : VV.cell? ⟨b2, off2 + 1, none⟩ = some (.slice c5 m5 q5) := by rw [hVV]; exact bcell bal1 (bcell bal1 e5b)
  have h5_ : Hid (TyRep (· < w.heap.size) VV p1.ty (.agg #[.int .i64 k5, .slice c5 m5 q5])) := by rw [hVV]; exact Lib.hid ((H5.out.below bal1).below bal1)
  have c6a_ : VV.cell? ⟨b2, off2 + 2, none⟩ = some (.int .i64 k6) := by rw [hVV]; exact bcell bal1 (bcell bal1 e6a)
  have c6b_ : VV.cell? ⟨b2, off2 + 3, none⟩ = some (.slice c6 m6 q6) := by rw [hVV]; exact bcell bal1 (bcell bal1 e6b)
  have h6_ : Hid (TyRep (· < w.heap.size) VV p2.ty (.agg #[.int .i64 k6, .slice c6 m6 q6])) := by rw [hVV]; exact Lib.hid ((H6.out.below bal1).below bal1)
  have fC : Hid (Below w.heap.size w VV) := by rw [hVV]; exact Lib.hid (bstep bal1 bal1)
  rw [← hVV]
  have zV : VV.heap.size = _ := congrArg (fun X : World => X.heap.size) hVV
  simp only [World.size_alloc] at zV
  refine wp_region_noPanic ?_
  refine wp_region_held_drew (S := fun w' => w'.cell? ⟨b, off, none⟩ = some (.int .i64 5) ∧ w'.cell? ⟨b, off + 1, none⟩ = some (.slice (some ⟨b2, off2, none⟩) 2 q1) ∧ w'.cell? ⟨b2, off2 + 2, none⟩ = some (.int .i64 k6) ∧ w'.cell? ⟨b2, off2 + 3, none⟩ = some (.slice c6 m6 q6) ∧ w'.cell? ⟨w.heap.size, 0, none⟩ = some (.int .i64 12)) (by kernel_rfl) ?_ (fun hHeld0 => ?_)
  · exact ⟨c1a_, c1b_, c6a_, c6b_, blk_cell fE rfl⟩
  obtain ⟨U18, hU, hb, zU18a, zU18b⟩ := drLet VV
  rw [hU] at hHeld0 ⊢
  replace fE := blk_below fE hb; replace fR := blk_below fR hb; replace c1a_ := bcell hb c1a_; replace c1b_ := bcell hb c1b_
  replace h1_ := Lib.hid (h1_.out.below hb); replace c5a_ := bcell hb c5a_; replace c5b_ := bcell hb c5b_; replace h5_ := Lib.hid (h5_.out.below hb)
  replace c6a_ := bcell hb c6a_; replace c6b_ := bcell hb c6b_; replace h6_ := Lib.hid (h6_.out.below hb); replace fC := Lib.hid (bstep fC.out hb)
  rw [zV] at zU18a zU18b
  clear hU hb hVV zV
  refine hwt 0 oE18_0 (.slice (some ⟨b, off, none⟩) 1 cap) hHeld0 ?_ ?_
  · intro w' hSw; dsimp only [oE18_0]; go_simp
  try simp only [oE18_0, hwA]
  refine hwt 1 oE18_1 (.pointer (some ⟨b, off, none⟩)) hHeld0 ?_ ?_
  · intro w' hSw; dsimp only [oE18_1]; go_simp
  try simp only [oE18_1, hwA]
  refine hwt 2 oE18_2 (.pointer (some ⟨b, off + 1, none⟩)) hHeld0 ?_ ?_
  · intro w' hSw; dsimp only [oE18_2]; go_simp
  try simp only [oE18_2, hwA]
  refine hwt 3 oE18_3 (.slice (some ⟨b2, off2, none⟩) 2 q1) hHeld0 ?_ ?_
  · intro w' hSw; dsimp only [oE18_3]; go_simp
  try simp only [oE18_3, hwA]
  refine hwt 4 oE18_4 (.pointer (some ⟨w.heap.size, 0, none⟩)) hHeld0 ?_ ?_
  · intro w' hSw; dsimp only [oE18_4]; go_simp
  try simp only [oE18_4, hwA]
  refine hwt 5 oE18_5 (.int .i64 12) hHeld0 ?_ ?_
  · intro w' hSw; dsimp only [oE18_5]; go_simp
  try simp only [oE18_5, hwA]
  refine hwt 6 oE18_6 (.int .i64 1) hHeld0 ?_ ?_
  · intro w' hSw; dsimp only [oE18_6]; go_simp; rfl
  try simp only [oE18_6, hwA]
  refine hwt 7 oE18_7 (.pointer (some ⟨b2, off2 + 2, none⟩)) hHeld0 ?_ ?_
  · intro w' hSw; dsimp only [oE18_7]; go_simp
  try simp only [oE18_7, hwA]
  refine hwt 8 oE18_8 (.agg #[.int .i64 k6, .slice c6 m6 q6]) hHeld0 ?_ ?_
  · intro w' hSw; dsimp only [oE18_8]; go_simp
  try simp only [oE18_8, hwA]
  refine hwr 9 oE18_9 (fun K hK => ?_)
  dsimp only [oE18_9]; go_simp
  go_at_call 49
  refine (specL1Copy _ p2.ty _ _ h6_.out HCN.out).mono ?_
  rintro e X1 ⟨v, rfl, hv, hb⟩
  obtain ⟨ke, ae, ne, qe, rfl⟩ := hv.shape
  have hN1' : Hid (TyRep (fun b => U18.heap.size ≤ b ∧ b < X1.heap.size) X1 p2.ty (.agg #[.int .i64 ke, .slice ae ne qe])) := Lib.hid (hv.rep.move (.weaken fun b h1 h2 => ⟨h1, h2⟩))
  clear hv
  go_wp2_with fail
  have zX1 : U18.heap.size ≤ X1.heap.size := hb.size
  replace fE := blk_below fE hb; replace fR := blk_below fR hb; replace c1a_ := bcell hb c1a_; replace c1b_ := bcell hb c1b_
  replace h1_ := Lib.hid (h1_.out.below hb); replace c5a_ := bcell hb c5a_; replace c5b_ := bcell hb c5b_; replace h5_ := Lib.hid (h5_.out.below hb)
  replace c6a_ := bcell hb c6a_; replace c6b_ := bcell hb c6b_; replace h6_ := Lib.hid (h6_.out.below hb); replace fC := Lib.hid (bstep fC.out hb)
  have hN1 := hN1'
  clear hN1'
  refine hK.out _ _ ⟨c1a_, c1b_, c6a_, c6b_, blk_cell fE rfl⟩ (fun hHeld1 => ?_)
  clear hK K hHeld0 hb
  try simp only [oE18_9, hwA]
  refine hwr 10 oE18_10 (fun K hK => ?_)
  obtain ⟨r0, r1, rf0, rf1⟩ := blkR fR
  dsimp only [oE18_10]; go_simp
  (try go_wp2_with fail)
  have hQq := stLet2 fR (.int .i64 ke) (.slice ae ne qe)
  clear fR r0 r1 rf0 rf1
  obtain ⟨X2, hXq, hsq, fR, zX2a, zX2b⟩ := hQq
  rw [hXq]
  replace fE := hsq.blk (by omega) fE; replace c1a_ := hsq.cell (by show b ≠ w.heap.size + 1; omega) c1a_; replace c1b_ := hsq.cell (by show b ≠ w.heap.size + 1; omega) c1b_; replace h1_ := Lib.hid (hsq.rep (fun b hb => by have : b < w.heap.size := hb; omega) h1_.out)
  replace c5a_ := hsq.cell (by show b2 ≠ w.heap.size + 1; omega) c5a_; replace c5b_ := hsq.cell (by show b2 ≠ w.heap.size + 1; omega) c5b_; replace h5_ := Lib.hid (hsq.rep (fun b hb => by have : b < w.heap.size := hb; omega) h5_.out); replace c6a_ := hsq.cell (by show b2 ≠ w.heap.size + 1; omega) c6a_
  replace c6b_ := hsq.cell (by show b2 ≠ w.heap.size + 1; omega) c6b_; replace h6_ := Lib.hid (hsq.rep (fun b hb => by have : b < w.heap.size := hb; omega) h6_.out); replace fC := Lib.hid (hsq.bel fC.out (by omega)); replace hN1 := Lib.hid (hsq.rep (fun b hb => by have h1 : U18.heap.size ≤ b := hb.1; have h2 : b < X1.heap.size := hb.2; omega) hN1.out)
  refine hK.out _ _ ⟨c1a_, c1b_, c6a_, c6b_, blk_cell fE rfl⟩ (fun hHeld2 => ?_)
  clear hK K hHeld1 hsq hXq
  try simp only [oE18_10, hwA]
  refine hwt 11 oE18_11 (.bool true) hHeld2 ?_ ?_
  · intro w' hSw; dsimp only [oE18_11]; go_simp
  try simp only [oE18_11, hwA]
  refine wpAnyH_done (by kernel_rfl) ?_ _
  refine NoPanic.normal ?_
  clear hHeld2
  have rc0 := blk_cell fR (o := 0) rfl
  have rc1 := blk_cell fR (o := 1) rfl
  go_wp2_with fail
  refine bodyPost_ret (v := .tuple #[.agg #[.int .i64 ke, .slice ae ne qe], .bool true]) (by simp [results, Try.results34, go_sem, rc0, rc1]) rfl ?_
  exact ⟨_, _, _, _, _, p2.ty, rfl, by rw [HO.out, proj_t (k := 12) (by omega)]; rfl, hN1.out.move (.weaken fun b h _ => .inr (by have h1 := h.1; omega)), (by rw [HO.out, proj_t (k := 12) (by omega)]; intro s h; exact Option.some.inj h), fC.out⟩
set_option maxHeartbeats 4000000 in
theorem specL4Exact_12_n (G1 G2 G3 : Nat → Prop) (nm : ByteArray) (u lb tk fk : Int) (ty src : Ty) (ta fa ca : Option Addr) (tn tq fn fq cm cq : Nat) (w : World) (hty : TyRep G1 w ty (.agg #[.int .i64 tk, .slice ta tn tq])) (hsrc : TyRep G2 w src (.agg #[.int .i64 fk, .slice fa fn fq])) (y : Value) (h1 : S) (hh : h1.ty.kind ≠ 5) (hy : TysRep G3 w [h1.ty] y) :
    Calls Try.prog 34 #[.agg #[.int .i64 12, .string nm, .int .i64 u, .int .i64 tk, .slice ta tn tq, .int .i64 fk, .slice fa fn fq, .int .i64 lb, .slice ca cm cq], y] w (RetOF ((nodeS 12 ty src [h1]).map S.ty) w) := by
  obtain ⟨b, off, cap, k1, c1, m1, q1, rfl, hlb, e1a, e1b, ht1⟩ := hy.one
  have hk1 : (k1 == 5) = false := by rw [ht1.kindE]; simpa using hh
  have hk2 : (k1 != 5) = true := by simp only [bne, hk1]; rfl
  rw [proj_f (k := 12) (by omega) hh]
  have e1a' := bcell (bal1 (o := .cells #[.int .i64 12, .string nm, .int .i64 u, .int .i64 tk, .slice ta tn tq, .int .i64 fk, .slice fa fn fq, .int .i64 lb, .slice ca cm cq] 36)) e1a
  have hlb1 : b < w.heap.size + 1 := by omega
  clear hty hsrc hy ht1 hh
  go_enter Try.func34, Try.ntmps34
  go_wp2_with fail
  refine bodyPost_ret (v := .tuple #[.agg #[.int .i64 0, .slice none 0 0], .bool false]) (by simp [results, Try.results34, go_sem]) rfl ?_
  exact ⟨_, _, _, _, _, _, rfl, rfl, TyRep.zeroG, (by intro s h; cases h), bstep bal1 bal1⟩
end Go.Proofs.Ytkhmkohgnikcmaa
