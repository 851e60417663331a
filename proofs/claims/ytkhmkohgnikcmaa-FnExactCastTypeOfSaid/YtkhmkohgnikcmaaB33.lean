/-
  spec.l4Type: the recursion.
  impl.wanted: what a node wants of its operands: numbers and truth values.
-/
import Derived.Test.YtkhmkohgnikcmaaCtVd
import Derived.Test.YtkhmkohgnikcmaaCtLamN
import Derived.Test.YtkhmkohgnikcmaaCtLamS
import Derived.Test.YtkhmkohgnikcmaaCtTwo
namespace Go.Proofs.Ytkhmkohgnikcmaa
open Go.RowKit
set_option linter.unusedVariables false
set_option linter.unusedSimpArgs false
set_option maxRecDepth 100000

/-- A context's value: nil if it is empty, else with an address. -/
def CtxV (l : List Bd) (y : Value) : Prop := (l = [] ∧ y = .slice none 0 0) ∨ (1 ≤ l.length ∧ ∃ a m q, y = .slice (some a) m q)
theorem CtxV.shape {l : List Bd} {y : Value} (h : CtxV l y) : ∃ a n q, y = .slice a n q := by
  rcases h with ⟨-, rfl⟩ | ⟨-, a, m, q, rfl⟩ <;> exact ⟨_, _, _, rfl⟩
def L4 (t : Tm) (d : Int) : Prop := ∀ (l : List Bd) (c y : Value) (W : World) (F G : Nat → Prop), t.shape 13 d = true → (l.length : Int) + d ≤ 1000 → CtxOk l → CtxV l c → BdsRep F W l c → TmRep G W t y → Calls Try.prog 17 #[c, y] W (RetOF ((t.castS l).map S.ty) W)
theorem specL4TypeStep (t : Tm) (d : Int) (IH : ∀ t' ∈ t.kids, L4 t' (d - 1)) : L4 t d := by
  intro l c y W F G hsh hld hc hcv hb he
  cases t with
  | mk k nm u ty src lb ts =>
    obtain ⟨hd, hk13, hlen, hown, hkids⟩ := Tm.shape_parts hsh
    have hcnt : ∀ b ∈ l, b.ty.cnt ≤ 1048576 := fun b hb => Ty.cnt_valid (hc b hb)
    obtain ⟨k', nm', u', tk, ta, tn, tq, fk, fa, fn, fq, lb', ca, cm, cq, rfl⟩ := he.shape
    obtain ⟨e1, e2, e3, -, -, -, -, e8, hcm, hnm, -, -, hty, hsrc, hks⟩ := he.parts
    simp only [Tm.kind, Tm.name, Tm.num, Tm.label, Tm.type] at e1 e2 e3 e8 hty
    subst e1 e2 e3 e8
    have hl0 : (0 : Int) ≤ tops k' := by rw [hlen]; omega
    by_cases h1 : k' = 1
    · subst h1
      have hL := specL4Type_1 c nm' u' lb' tk fk ta fa ca tn tq fn fq cm cq W (lookN l nm' l.length) (Lib.hid fun W' hW => specL3Type_1 F l c nm' u' lb' tk fk ta fa ca tn tq fn fq cm cq W' (hb.below hW) hcnt) hcv.shape
      rw [Tm.castS, if_pos rfl, look_ty hc]
      exact hL
    by_cases h2 : k' = 2
    · subst h2
      rw [Tm.castS, if_neg (by omega), if_pos rfl]
      exact specL4Type_2 c nm' u' lb' tk fk ta fa ca tn tq fn fq cm cq W _ (Lib.hid fun W' _ => specL3Type_2 c nm' u' lb' tk fk ta fa ca tn tq fn fq cm cq W') hcv.shape
    by_cases h3 : k' = 3
    · subst h3
      rw [Tm.castS, if_neg (by omega), if_neg (by omega), if_pos (by omega)]
      exact specL4Type_3 c nm' u' lb' tk fk ta fa ca tn tq fn fq cm cq W _ (Lib.hid fun W' _ => specL3Type_3 c nm' u' lb' tk fk ta fa ca tn tq fn fq cm cq W') hcv.shape
    by_cases h4 : k' = 4
    · subst h4
      rw [Tm.castS, if_neg (by omega), if_neg (by omega), if_pos (by omega)]
      exact specL4Type_4 c nm' u' lb' tk fk ta fa ca tn tq fn fq cm cq W _ (Lib.hid fun W' _ => specL3Type_4 c nm' u' lb' tk fk ta fa ca tn tq fn fq cm cq W') hcv.shape
    by_cases h5 : k' = 5
    · subst h5
      have hv := own_ty hown (.inl rfl)
      obtain ⟨t1, rfl⟩ : ∃ t1, ts = [t1] := List.length_eq_one_iff.1 (by simp [tops] at hlen; omega)
      have hc2 := hc.snoc (nm := nm') hv
      have hs1 : t1.shape 13 (d - 1) = true := Tm.shapes_mem hkids (by simp)
      obtain ⟨xa, xn, xq, rfl⟩ := hcv.shape
      have HM : Hid (∀ W', Below W.heap.size W W' → Calls Try.prog 32 #[.slice xa xn xq, .string nm', .agg #[.int .i64 tk, .slice ta tn tq]] W' (RetC (l ++ [⟨nm', ty⟩]) W')) := Lib.hid fun W' hW => by
        rcases hcv with ⟨rfl, hx⟩ | ⟨hl1, a, m, q, hx⟩
        · rw [hx]; exact specL3MoreNil F G nm' ty tk ta tn tq W' hnm (hty.below hW)
        · simp only [Value.slice.injEq] at hx
          obtain ⟨rfl, rfl, rfl⟩ := hx
          exact specL3More F G l a xn xq nm' ty tk ta tn tq W' (hb.below hW) (by omega) hl1 hnm (hty.below hW)
      have IHL : Hid (∀ (W' : World) (c' y' : Value), Below W.heap.size W W' → BdsRep (fun _ => True) W' (l ++ [⟨nm', ty⟩]) c' → TmRep G W' t1 y' → (∃ a m q, c' = .slice (some a) m q) → Calls Try.prog 17 #[c', y'] W' (RetOF ((t1.castS (l ++ [⟨nm', ty⟩])).map S.ty) W')) := Lib.hid fun W' c' y' hW hb' he' hx =>
        IH t1 (by simp [Tm.kids]) _ c' y' W' _ G hs1 (by simp; omega) hc2 (.inr ⟨by simp, hx⟩) hb' he'
      cases hco : t1.castS (l ++ [⟨nm', ty⟩]) with
      | none => exact specL4Type_5_n G nm' u' lb' tk fk ty src t1 l xa ta fa ca xn xq tn tq fn fq cm cq W he hv HM IHL hco
      | some h1' => exact specL4Type_5_s G nm' u' lb' tk fk ty src t1 l xa ta fa ca xn xq tn tq fn fq cm cq W he hv HM IHL h1' (castS_vd t1 _ _ hs1 hc2 _ hco) hco
    have hk : 6 ≤ k' ∧ k' ≤ 12 ∨ k' = 14 := by
      unfold tops at hl0
      split at hl0
      · omega
      split at hl0
      · omega
      split at hl0
      · omega
      split at hl0
      · omega
      · omega
    have hsm : ts.length ≤ 3 := by
      have : tops k' ≤ 3 := by unfold tops; repeat' split <;> omega
      omega
    obtain ⟨xa, xn, xq, rfl⟩ := hcv.shape
    exact specL4TypeL G k' nm' u' lb' tk fk ty src ts l xa ta fa ca xn xq tn tq fn fq cm cq W he
      (fun t' ht' W' y' hW he' => IH t' ht' l _ y' W' F G (Tm.shapes_mem hkids ht') (by omega) hc hcv (hb.below hW) he')
      (fun t' ht' h e => castS_vd t' _ l (Tm.shapes_mem hkids ht') hc h e) hk hlen (fun h14 => own_ty hown (.inr h14)) hsm
theorem specL4Type : ∀ (t : Tm) (d : Int), L4 t d
  | t, d => specL4TypeStep t d fun t' ht' => specL4Type t' (d - 1)
termination_by t => SizeOf.sizeOf t
decreasing_by exact Tm.kid_lt ht'
end Go.Proofs.Ytkhmkohgnikcmaa
namespace Go.Proofs.Ytkhmkohgnikcmaa
open Go.RowKit
set_option linter.unusedVariables false
set_option linter.unusedSimpArgs false
set_option maxRecDepth 100000

/-- What wanted answers: the operands' types, the node's type, whether there is one; old blocks by G. -/
def RetW (G : Nat → Prop) (o : Option (List S × S)) (w : World) (e : Ending) (w' : World) : Prop := ∃ (k : Int) (a : Option Addr) (n q : Nat) (xa : Option Addr) (xn xq : Nat) (b : Bool), e = .returned (.tuple #[.slice xa xn xq, .agg #[.int .i64 k, .slice a n q], .bool b]) ∧ b = o.isSome ∧
  (∀ ws t, o = some (ws, t) → TysRep (fun x => G x ∨ w.heap.size ≤ x) w' (ws.map S.ty) (.slice xa xn xq) ∧ TyRep (fun x => G x ∨ w.heap.size ≤ x) w' t.ty (.agg #[.int .i64 k, .slice a n q])) ∧ Below w.heap.size w w'
theorem TysRep.nilG {H : Nat → Prop} {w : World} : TysRep H w [] (.slice none 0 0) := by
  unfold TysRep CRep
  exact ⟨none, 0, rfl, Nat.le_refl _, by unfold maxLen; omega, .inl rfl⟩
theorem implBaseW (k : Int) (w : World) : Calls Try.prog 54 #[.int .i64 k] w fun e w' => e = .returned (.agg #[.int .i64 k, .slice none 0 0]) ∧ Below w.heap.size w w' := by
  go_enter Try.func54, Try.ntmps54
  go_wp2_with fail
  refine bodyPost_ret (v := .agg #[.int .i64 k, .slice none 0 0]) (by simp [results, Try.results54, go_sem]) rfl ?_
  exact ⟨rfl, bal1⟩
def oW7_0 : Oper := ⟨some 39, Op.load 31 (Operand.tmp 9), 31, "l3_typing.go:106", #[⟨1, .gcOnly .lateStores⟩], none⟩
def oW7_1 : Oper := ⟨some 6, Op.assign (Operand.const (Value.slice none 0 0)), 29, "l3_typing.go:106", #[⟨0, .textOnly .lateStores⟩], none⟩
def oW7_2 : Oper := ⟨none, Op.store 31 (Operand.tmp 7) (Operand.tmp 39), 0, "l3_typing.go:106", #[⟨0, .data⟩, ⟨1, .chain⟩, ⟨0, .phase⟩, ⟨1, .phase⟩], none⟩
def oW7_3 : Oper := ⟨some 8, Op.assign (Operand.const (Value.bool true)), 4, "l3_typing.go:106", #[⟨2, .chain⟩, ⟨0, .phase⟩, ⟨1, .phase⟩, ⟨2, .phase⟩], none⟩
set_option maxHeartbeats 4000000 in
theorem implWanted_2 (G : Nat → Prop) (c y : Value) (hc : ∃ a n q, c = .slice a n q) (hy : ∃ a n q, y = .slice a n q) (nm : ByteArray) (u lb tk fk : Int) (ta fa ca : Option Addr) (tn tq fn fq cm cq : Nat) (w : World) :
    Calls Try.prog 39 #[c, .agg #[.int .i64 2, .string nm, .int .i64 u, .int .i64 tk, .slice ta tn tq, .int .i64 fk, .slice fa fn fq, .int .i64 lb, .slice ca cm cq], y] w (RetW G (some ([], S.int)) w) := by
  obtain ⟨xa0, xn0, xq0, rfl⟩ := hc
  obtain ⟨ya0, yn0, yq0, rfl⟩ := hy
  obtain ⟨O, hO⟩ : ∃ O : Option (List S × S), O = some ([], S.int) := ⟨_, rfl⟩
  rw [← hO]
  have HO := Lib.hid hO
  clear hO
  go_enter Try.func39, Try.ntmps39
  go_wp2_with fail
  refine (implBaseW _ _).mono ?_
  rintro e w1 ⟨rfl, hb1⟩
  have HB1 := Lib.hid (bstep (bstep bal1 bal1) hb1)
  have fR0 := blk_below (blk_new (w := w.alloc (.cells #[.int .i64 2, .string nm, .int .i64 u, .int .i64 tk, .slice ta tn tq, .int .i64 fk, .slice fa fn fq, .int .i64 lb, .slice ca cm cq] 36)) (o := .cells #[.int .i64 0, .slice none 0 0] 31) (b := w.heap.size + 1) (by simp)) hb1
  have fE0 := blk_below (blk_below (blk_new (w := w) (o := .cells #[.int .i64 2, .string nm, .int .i64 u, .int .i64 tk, .slice ta tn tq, .int .i64 fk, .slice fa fn fq, .int .i64 lb, .slice ca cm cq] 36) rfl) (bal1 (o := .cells #[.int .i64 0, .slice none 0 0] 31))) hb1
  clear hb1
  go_wp2_with fail
  refine (implBaseW _ _).mono ?_
  rintro e w2 ⟨rfl, hb2⟩
  replace fE0 := blk_below fE0 hb2
  replace HB1 := Lib.hid (bstep HB1.out hb2)
  replace fR0 := blk_below fR0 hb2
  have hlr := blk_lt fR0
  clear hb2
  have d0 := blk_cell fE0 (o := 0) rfl
  have d1 := blk_cell fE0 (o := 1) rfl
  have lE := blk_lt fE0
  have lE2 : w.heap.size < w2.heap.size + 1 + 1 := by omega
  have lE1 : w.heap.size < w2.heap.size + 1 := by omega
  go_wp2_with fail
  obtain ⟨VV, hVV⟩ : ∃ X, X = ((w2.alloc (.cells #[.int .i64 2, .slice none 0 0] 31)).alloc (.cells #[.int .i64 3, .slice none 0 0] 31)) := ⟨_, rfl⟩
  have fR : VV.heap[w.heap.size + 1]? = some (.cells #[.int .i64 0, .slice none 0 0] 31 (0, 0)) := by rw [hVV]; exact blk_below (blk_below fR0 bal1) bal1
  have f2 : VV.heap[w2.heap.size]? = some (.cells #[.int .i64 2, .slice none 0 0] 31 (0, 0)) := by rw [hVV]; exact blk_below (blk_new rfl) bal1
  have f3 : VV.heap[w2.heap.size + 1]? = some (.cells #[.int .i64 3, .slice none 0 0] 31 (0, 0)) := by rw [hVV]; exact blk_new (by simp)
  have fC : Hid (Below w.heap.size w VV) := by rw [hVV]; exact Lib.hid (bstep (bstep HB1.out bal1) bal1)
  rw [← hVV]
  have zV : VV.heap.size = _ := congrArg (fun X : World => X.heap.size) hVV
  simp only [World.size_alloc] at zV
  refine wp_region_noPanic ?_
  refine wp_region_held_drew (S := fun w' => w'.cell? ⟨w2.heap.size, 0, none⟩ = some (.int .i64 2) ∧ w'.cell? ⟨w2.heap.size, 1, none⟩ = some (.slice none 0 0)) (by kernel_rfl) ?_ (fun hHeld0 => ?_)
  · exact ⟨blk_cell f2 rfl, blk_cell f2 rfl⟩
  obtain ⟨U1, hU, hb, zU1a, zU1b⟩ := drLet VV
  rw [hU] at hHeld0 ⊢
  replace fR := blk_below fR hb; replace f2 := blk_below f2 hb; replace f3 := blk_below f3 hb; replace fC := Lib.hid (bstep fC.out hb)
  rw [zV] at zU1a zU1b
  clear hU hb hVV zV
  refine hwt 0 oW7_0 (.agg #[.int .i64 2, .slice none 0 0]) hHeld0 ?_ ?_
  · intro w' hSw; dsimp only [oW7_0]; go_simp
  try simp only [oW7_0, hwA]
  refine hwt 1 oW7_1 (.slice none 0 0) hHeld0 ?_ ?_
  · intro w' hSw; dsimp only [oW7_1]; go_simp
  try simp only [oW7_1, hwA]
  refine hwr 2 oW7_2 (fun K hK => ?_)
  obtain ⟨r0, r1, rf0, rf1⟩ := blkR fR
  dsimp only [oW7_2]; go_simp
  (try go_wp2_with fail)
  have hQq := stLet2 fR (.int .i64 2) (.slice none 0 0)
  clear fR r0 r1 rf0 rf1
  obtain ⟨X1, hXq, hsq, fR, zX1a, zX1b⟩ := hQq
  rw [hXq]
  replace f2 := hsq.blk (by omega) f2; replace f3 := hsq.blk (by omega) f3; replace fC := Lib.hid (hsq.bel fC.out (by omega))
  refine hK.out _ _ ⟨blk_cell f2 rfl, blk_cell f2 rfl⟩ (fun hHeld1 => ?_)
  clear hK K hHeld0 hsq hXq
  try simp only [oW7_2, hwA]
  refine hwt 3 oW7_3 (.bool true) hHeld1 ?_ ?_
  · intro w' hSw; dsimp only [oW7_3]; go_simp
  try simp only [oW7_3, hwA]
  refine wpAnyH_done (by kernel_rfl) ?_ _
  refine NoPanic.normal ?_
  clear hHeld1
  have rc0 := blk_cell fR (o := 0) rfl
  have rc1 := blk_cell fR (o := 1) rfl
  go_wp2_with fail
  refine bodyPost_ret (v := .tuple #[.slice none 0 0, .agg #[.int .i64 2, .slice none 0 0], .bool true]) (by simp [results, Try.results39, go_sem, rc0, rc1]) rfl ?_
  exact ⟨_, _, _, _, _, _, _, _, rfl, by rw [HO.out]; rfl, (by rw [HO.out]; intro ws t h; simp only [Option.some.injEq, Prod.mk.injEq] at h; obtain ⟨rfl, rfl⟩ := h; exact ⟨TysRep.nilG, TyRep.leafG 2⟩), fC.out⟩
def oW10_0 : Oper := ⟨some 43, Op.load 31 (Operand.tmp 10), 31, "l3_typing.go:108", #[⟨1, .gcOnly .lateStores⟩], none⟩
def oW10_1 : Oper := ⟨some 6, Op.assign (Operand.const (Value.slice none 0 0)), 29, "l3_typing.go:108", #[⟨0, .textOnly .lateStores⟩], none⟩
def oW10_2 : Oper := ⟨none, Op.store 31 (Operand.tmp 7) (Operand.tmp 43), 0, "l3_typing.go:108", #[⟨0, .data⟩, ⟨1, .chain⟩, ⟨0, .phase⟩, ⟨1, .phase⟩], none⟩
def oW10_3 : Oper := ⟨some 8, Op.assign (Operand.const (Value.bool true)), 4, "l3_typing.go:108", #[⟨2, .chain⟩, ⟨0, .phase⟩, ⟨1, .phase⟩, ⟨2, .phase⟩], none⟩
set_option maxHeartbeats 4000000 in
theorem implWanted_3 (G : Nat → Prop) (c y : Value) (hc : ∃ a n q, c = .slice a n q) (hy : ∃ a n q, y = .slice a n q) (nm : ByteArray) (u lb tk fk : Int) (ta fa ca : Option Addr) (tn tq fn fq cm cq : Nat) (w : World) :
    Calls Try.prog 39 #[c, .agg #[.int .i64 3, .string nm, .int .i64 u, .int .i64 tk, .slice ta tn tq, .int .i64 fk, .slice fa fn fq, .int .i64 lb, .slice ca cm cq], y] w (RetW G (some ([], S.bool)) w) := by
  obtain ⟨xa0, xn0, xq0, rfl⟩ := hc
  obtain ⟨ya0, yn0, yq0, rfl⟩ := hy
  obtain ⟨O, hO⟩ : ∃ O : Option (List S × S), O = some ([], S.bool) := ⟨_, rfl⟩
  rw [← hO]
  have HO := Lib.hid hO
  clear hO
  go_enter Try.func39, Try.ntmps39
  go_wp2_with fail
  refine (implBaseW _ _).mono ?_
  rintro e w1 ⟨rfl, hb1⟩
  have HB1 := Lib.hid (bstep (bstep bal1 bal1) hb1)
  have fR0 := blk_below (blk_new (w := w.alloc (.cells #[.int .i64 3, .string nm, .int .i64 u, .int .i64 tk, .slice ta tn tq, .int .i64 fk, .slice fa fn fq, .int .i64 lb, .slice ca cm cq] 36)) (o := .cells #[.int .i64 0, .slice none 0 0] 31) (b := w.heap.size + 1) (by simp)) hb1
  have fE0 := blk_below (blk_below (blk_new (w := w) (o := .cells #[.int .i64 3, .string nm, .int .i64 u, .int .i64 tk, .slice ta tn tq, .int .i64 fk, .slice fa fn fq, .int .i64 lb, .slice ca cm cq] 36) rfl) (bal1 (o := .cells #[.int .i64 0, .slice none 0 0] 31))) hb1
  clear hb1
  go_wp2_with fail
  refine (implBaseW _ _).mono ?_
  rintro e w2 ⟨rfl, hb2⟩
  replace fE0 := blk_below fE0 hb2
  replace HB1 := Lib.hid (bstep HB1.out hb2)
  replace fR0 := blk_below fR0 hb2
  have hlr := blk_lt fR0
  clear hb2
  have d0 := blk_cell fE0 (o := 0) rfl
  have d1 := blk_cell fE0 (o := 1) rfl
  have lE := blk_lt fE0
  have lE2 : w.heap.size < w2.heap.size + 1 + 1 := by omega
  have lE1 : w.heap.size < w2.heap.size + 1 := by omega
  go_wp2_with fail
  obtain ⟨VV, hVV⟩ : ∃ X, X = ((w2.alloc (.cells #[.int .i64 2, .slice none 0 0] 31)).alloc (.cells #[.int .i64 3, .slice none 0 0] 31)) := ⟨_, rfl⟩
  have fR : VV.heap[w.heap.size + 1]? = some (.cells #[.int .i64 0, .slice none 0 0] 31 (0, 0)) := by rw [hVV]; exact blk_below (blk_below fR0 bal1) bal1
  have f2 : VV.heap[w2.heap.size]? = some (.cells #[.int .i64 2, .slice none 0 0] 31 (0, 0)) := by rw [hVV]; exact blk_below (blk_new rfl) bal1
  have f3 : VV.heap[w2.heap.size + 1]? = some (.cells #[.int .i64 3, .slice none 0 0] 31 (0, 0)) := by rw [hVV]; exact blk_new (by simp)
  have fC : Hid (Below w.heap.size w VV) := by rw [hVV]; exact Lib.hid (bstep (bstep HB1.out bal1) bal1)
  rw [← hVV]
  have zV : VV.heap.size = _ := congrArg (fun X : World => X.heap.size) hVV
  simp only [World.size_alloc] at zV
  refine wp_region_noPanic ?_
  refine wp_region_held_drew (S := fun w' => w'.cell? ⟨w2.heap.size + 1, 0, none⟩ = some (.int .i64 3) ∧ w'.cell? ⟨w2.heap.size + 1, 1, none⟩ = some (.slice none 0 0)) (by kernel_rfl) ?_ (fun hHeld0 => ?_)
  · exact ⟨blk_cell f3 rfl, blk_cell f3 rfl⟩
  obtain ⟨U2, hU, hb, zU2a, zU2b⟩ := drLet VV
  rw [hU] at hHeld0 ⊢
  replace fR := blk_below fR hb; replace f2 := blk_below f2 hb; replace f3 := blk_below f3 hb; replace fC := Lib.hid (bstep fC.out hb)
  rw [zV] at zU2a zU2b
  clear hU hb hVV zV
  refine hwt 0 oW10_0 (.agg #[.int .i64 3, .slice none 0 0]) hHeld0 ?_ ?_
  · intro w' hSw; dsimp only [oW10_0]; go_simp
  try simp only [oW10_0, hwA]
  refine hwt 1 oW10_1 (.slice none 0 0) hHeld0 ?_ ?_
  · intro w' hSw; dsimp only [oW10_1]; go_simp
  try simp only [oW10_1, hwA]
  refine hwr 2 oW10_2 (fun K hK => ?_)
  obtain ⟨r0, r1, rf0, rf1⟩ := blkR fR
  dsimp only [oW10_2]; go_simp
  (try go_wp2_with fail)
  have hQq := stLet2 fR (.int .i64 3) (.slice none 0 0)
  clear fR r0 r1 rf0 rf1
  obtain ⟨X1, hXq, hsq, fR, zX1a, zX1b⟩ := hQq
  rw [hXq]
  replace f2 := hsq.blk (by omega) f2; replace f3 := hsq.blk (by omega) f3; replace fC := Lib.hid (hsq.bel fC.out (by omega))
  refine hK.out _ _ ⟨blk_cell f3 rfl, blk_cell f3 rfl⟩ (fun hHeld1 => ?_)
  clear hK K hHeld0 hsq hXq
  try simp only [oW10_2, hwA]
  refine hwt 3 oW10_3 (.bool true) hHeld1 ?_ ?_
  · intro w' hSw; dsimp only [oW10_3]; go_simp
  try simp only [oW10_3, hwA]
  refine wpAnyH_done (by kernel_rfl) ?_ _
  refine NoPanic.normal ?_
  clear hHeld1
  have rc0 := blk_cell fR (o := 0) rfl
  have rc1 := blk_cell fR (o := 1) rfl
  go_wp2_with fail
  refine bodyPost_ret (v := .tuple #[.slice none 0 0, .agg #[.int .i64 3, .slice none 0 0], .bool true]) (by simp [results, Try.results39, go_sem, rc0, rc1]) rfl ?_
  exact ⟨_, _, _, _, _, _, _, _, rfl, by rw [HO.out]; rfl, (by rw [HO.out]; intro ws t h; simp only [Option.some.injEq, Prod.mk.injEq] at h; obtain ⟨rfl, rfl⟩ := h; exact ⟨TysRep.nilG, TyRep.leafG 3⟩), fC.out⟩
set_option maxHeartbeats 4000000 in
theorem implWanted_4 (G : Nat → Prop) (c y : Value) (hc : ∃ a n q, c = .slice a n q) (hy : ∃ a n q, y = .slice a n q) (nm : ByteArray) (u lb tk fk : Int) (ta fa ca : Option Addr) (tn tq fn fq cm cq : Nat) (w : World) :
    Calls Try.prog 39 #[c, .agg #[.int .i64 4, .string nm, .int .i64 u, .int .i64 tk, .slice ta tn tq, .int .i64 fk, .slice fa fn fq, .int .i64 lb, .slice ca cm cq], y] w (RetW G (some ([], S.bool)) w) := by
  obtain ⟨xa0, xn0, xq0, rfl⟩ := hc
  obtain ⟨ya0, yn0, yq0, rfl⟩ := hy
  obtain ⟨O, hO⟩ : ∃ O : Option (List S × S), O = some ([], S.bool) := ⟨_, rfl⟩
  rw [← hO]
  have HO := Lib.hid hO
  clear hO
  go_enter Try.func39, Try.ntmps39
  go_wp2_with fail
  refine (implBaseW _ _).mono ?_
  rintro e w1 ⟨rfl, hb1⟩
  have HB1 := Lib.hid (bstep (bstep bal1 bal1) hb1)
  have fR0 := blk_below (blk_new (w := w.alloc (.cells #[.int .i64 4, .string nm, .int .i64 u, .int .i64 tk, .slice ta tn tq, .int .i64 fk, .slice fa fn fq, .int .i64 lb, .slice ca cm cq] 36)) (o := .cells #[.int .i64 0, .slice none 0 0] 31) (b := w.heap.size + 1) (by simp)) hb1
  have fE0 := blk_below (blk_below (blk_new (w := w) (o := .cells #[.int .i64 4, .string nm, .int .i64 u, .int .i64 tk, .slice ta tn tq, .int .i64 fk, .slice fa fn fq, .int .i64 lb, .slice ca cm cq] 36) rfl) (bal1 (o := .cells #[.int .i64 0, .slice none 0 0] 31))) hb1
  clear hb1
  go_wp2_with fail
  refine (implBaseW _ _).mono ?_
  rintro e w2 ⟨rfl, hb2⟩
  replace fE0 := blk_below fE0 hb2
  replace HB1 := Lib.hid (bstep HB1.out hb2)
  replace fR0 := blk_below fR0 hb2
  have hlr := blk_lt fR0
  clear hb2
  have d0 := blk_cell fE0 (o := 0) rfl
  have d1 := blk_cell fE0 (o := 1) rfl
  have lE := blk_lt fE0
  have lE2 : w.heap.size < w2.heap.size + 1 + 1 := by omega
  have lE1 : w.heap.size < w2.heap.size + 1 := by omega
  go_wp2_with fail
  obtain ⟨VV, hVV⟩ : ∃ X, X = ((w2.alloc (.cells #[.int .i64 2, .slice none 0 0] 31)).alloc (.cells #[.int .i64 3, .slice none 0 0] 31)) := ⟨_, rfl⟩
  have fR : VV.heap[w.heap.size + 1]? = some (.cells #[.int .i64 0, .slice none 0 0] 31 (0, 0)) := by rw [hVV]; exact blk_below (blk_below fR0 bal1) bal1
  have f2 : VV.heap[w2.heap.size]? = some (.cells #[.int .i64 2, .slice none 0 0] 31 (0, 0)) := by rw [hVV]; exact blk_below (blk_new rfl) bal1
  have f3 : VV.heap[w2.heap.size + 1]? = some (.cells #[.int .i64 3, .slice none 0 0] 31 (0, 0)) := by rw [hVV]; exact blk_new (by simp)
  have fC : Hid (Below w.heap.size w VV) := by rw [hVV]; exact Lib.hid (bstep (bstep HB1.out bal1) bal1)
  rw [← hVV]
  have zV : VV.heap.size = _ := congrArg (fun X : World => X.heap.size) hVV
  simp only [World.size_alloc] at zV
  refine wp_region_noPanic ?_
  refine wp_region_held_drew (S := fun w' => w'.cell? ⟨w2.heap.size + 1, 0, none⟩ = some (.int .i64 3) ∧ w'.cell? ⟨w2.heap.size + 1, 1, none⟩ = some (.slice none 0 0)) (by kernel_rfl) ?_ (fun hHeld0 => ?_)
  · exact ⟨blk_cell f3 rfl, blk_cell f3 rfl⟩
  obtain ⟨U3, hU, hb, zU3a, zU3b⟩ := drLet VV
  rw [hU] at hHeld0 ⊢
  replace fR := blk_below fR hb; replace f2 := blk_below f2 hb; replace f3 := blk_below f3 hb; replace fC := Lib.hid (bstep fC.out hb)
  rw [zV] at zU3a zU3b
  clear hU hb hVV zV
  refine hwt 0 oW10_0 (.agg #[.int .i64 3, .slice none 0 0]) hHeld0 ?_ ?_
  · intro w' hSw; dsimp only [oW10_0]; go_simp
  try simp only [oW10_0, hwA]
  refine hwt 1 oW10_1 (.slice none 0 0) hHeld0 ?_ ?_
  · intro w' hSw; dsimp only [oW10_1]; go_simp
  try simp only [oW10_1, hwA]
  refine hwr 2 oW10_2 (fun K hK => ?_)
  obtain ⟨r0, r1, rf0, rf1⟩ := blkR fR
  dsimp only [oW10_2]; go_simp
  (try go_wp2_with fail)
  have hQq := stLet2 fR (.int .i64 3) (.slice none 0 0)
  clear fR r0 r1 rf0 rf1
  obtain ⟨X1, hXq, hsq, fR, zX1a, zX1b⟩ := hQq
  rw [hXq]
  replace f2 := hsq.blk (by omega) f2; replace f3 := hsq.blk (by omega) f3; replace fC := Lib.hid (hsq.bel fC.out (by omega))
  refine hK.out _ _ ⟨blk_cell f3 rfl, blk_cell f3 rfl⟩ (fun hHeld1 => ?_)
  clear hK K hHeld0 hsq hXq
  try simp only [oW10_2, hwA]
  refine hwt 3 oW10_3 (.bool true) hHeld1 ?_ ?_
  · intro w' hSw; dsimp only [oW10_3]; go_simp
  try simp only [oW10_3, hwA]
  refine wpAnyH_done (by kernel_rfl) ?_ _
  refine NoPanic.normal ?_
  clear hHeld1
  have rc0 := blk_cell fR (o := 0) rfl
  have rc1 := blk_cell fR (o := 1) rfl
  go_wp2_with fail
  refine bodyPost_ret (v := .tuple #[.slice none 0 0, .agg #[.int .i64 3, .slice none 0 0], .bool true]) (by simp [results, Try.results39, go_sem, rc0, rc1]) rfl ?_
  exact ⟨_, _, _, _, _, _, _, _, rfl, by rw [HO.out]; rfl, (by rw [HO.out]; intro ws t h; simp only [Option.some.injEq, Prod.mk.injEq] at h; obtain ⟨rfl, rfl⟩ := h; exact ⟨TysRep.nilG, TyRep.leafG 3⟩), fC.out⟩
def oW5_0 : Oper := ⟨some 35, Op.load 31 (Operand.tmp 11), 31, "l3_typing.go:104", #[⟨2, .gcOnly .lateStores⟩], none⟩
def oW5_1 : Oper := ⟨some 36, Op.move (Operand.tmp 12), 4, "l3_typing.go:104", #[⟨3, .gcOnly .lateStores⟩], none⟩
def oW5_2 : Oper := ⟨some 6, Op.assign (Operand.const (Value.slice none 0 0)), 29, "l3_typing.go:104", #[⟨0, .textOnly .lateStores⟩, ⟨1, .textOnly .lateStores⟩], none⟩
def oW5_3 : Oper := ⟨none, Op.store 31 (Operand.tmp 7) (Operand.tmp 35), 0, "l3_typing.go:104", #[⟨0, .data⟩, ⟨2, .chain⟩, ⟨0, .phase⟩, ⟨1, .textOnly .lateStores⟩, ⟨2, .phase⟩], none⟩
def oW5_4 : Oper := ⟨some 8, Op.assign (Operand.tmp 36), 4, "l3_typing.go:104", #[⟨1, .data⟩, ⟨3, .chain⟩, ⟨0, .phase⟩, ⟨1, .phase⟩, ⟨2, .phase⟩, ⟨3, .phase⟩], none⟩
set_option maxHeartbeats 4000000 in
theorem implWanted_1 (F : Nat → Prop) (l : List Bd) (c y : Value) (hcs : ∃ a n q, c = .slice a n q) (hy : ∃ a n q, y = .slice a n q) (nm : ByteArray) (u lb tk fk : Int) (ta fa ca : Option Addr) (tn tq fn fq cm cq : Nat) (w : World) (hb : BdsRep F w l c) (hc : CtxOk l) :
    Calls Try.prog 39 #[c, .agg #[.int .i64 1, .string nm, .int .i64 u, .int .i64 tk, .slice ta tn tq, .int .i64 fk, .slice fa fn fq, .int .i64 lb, .slice ca cm cq], y] w (RetW F ((lookN l nm l.length).map fun t => ([], t.toS)) w) := by
  have HL := Lib.hid (fun W (h : Below w.heap.size w W) => implLookup _ l nm c W ((hb.move (.weaken (G := fun x => F x ∧ x < w.heap.size) fun b h hl => ⟨h, hl⟩)).below h))
  have HVV := Lib.hid (look_vd (nm := nm) hc l.length)
  obtain ⟨xa0, xn0, xq0, rfl⟩ := hcs
  obtain ⟨ya0, yn0, yq0, rfl⟩ := hy
  clear hb hc
  generalize lookN l nm l.length = LO at HL HVV ⊢
  obtain ⟨O, hO⟩ : ∃ O : Option (List S × S), O = (LO.map fun t => ([], t.toS)) := ⟨_, rfl⟩
  rw [← hO]
  have HO := Lib.hid hO
  clear hO
  go_enter Try.func39, Try.ntmps39
  go_wp2_with fail
  refine (implBaseW _ _).mono ?_
  rintro e w1 ⟨rfl, hb1⟩
  have HB1 := Lib.hid (bstep (bstep bal1 bal1) hb1)
  have fR0 := blk_below (blk_new (w := w.alloc (.cells #[.int .i64 1, .string nm, .int .i64 u, .int .i64 tk, .slice ta tn tq, .int .i64 fk, .slice fa fn fq, .int .i64 lb, .slice ca cm cq] 36)) (o := .cells #[.int .i64 0, .slice none 0 0] 31) (b := w.heap.size + 1) (by simp)) hb1
  have fE0 := blk_below (blk_below (blk_new (w := w) (o := .cells #[.int .i64 1, .string nm, .int .i64 u, .int .i64 tk, .slice ta tn tq, .int .i64 fk, .slice fa fn fq, .int .i64 lb, .slice ca cm cq] 36) rfl) (bal1 (o := .cells #[.int .i64 0, .slice none 0 0] 31))) hb1
  clear hb1
  go_wp2_with fail
  refine (implBaseW _ _).mono ?_
  rintro e w2 ⟨rfl, hb2⟩
  replace fE0 := blk_below fE0 hb2
  replace HB1 := Lib.hid (bstep HB1.out hb2)
  replace fR0 := blk_below fR0 hb2
  have hlr := blk_lt fR0
  clear hb2
  have d0 := blk_cell fE0 (o := 0) rfl
  have d1 := blk_cell fE0 (o := 1) rfl
  have lE := blk_lt fE0
  have lE2 : w.heap.size < w2.heap.size + 1 + 1 := by omega
  have lE1 : w.heap.size < w2.heap.size + 1 := by omega
  go_wp2_with fail
  refine (HL.out _ (bstep (bstep HB1.out bal1) bal1)).mono ?_
  rintro e w3 ⟨k3, a3, n3, q3, b3, t3, rfl, hb3, ht3, ho3, hst⟩
  have HBT := Lib.hid hb3
  have HOT := Lib.hid ho3
  have fR3 := blk_below (blk_below (blk_below fR0 bal1) bal1) hst
  have fC3 := Lib.hid (bstep (bstep (bstep HB1.out bal1) bal1) hst)
  have HT3 := Lib.hid (ht3.move (.weaken (G := fun x => (F x ∧ x < w.heap.size) ∨ w2.heap.size ≤ x ∧ x < w3.heap.size) fun b h hl => h.elim .inl fun h2 => .inr ⟨by simp at h2; omega, hl⟩))
  have z3 := hst.size
  simp only [World.size_alloc] at z3
  have lE3 : w.heap.size < w3.heap.size := by omega
  clear hb3 ht3 ho3 hst
  go_wp2_with fail
  obtain ⟨VV, hVV⟩ : ∃ X, X = (w3.alloc (.cells #[.int .i64 k3, .slice a3 n3 q3] 31)) := ⟨_, rfl⟩
  have fR : VV.heap[w.heap.size + 1]? = some (.cells #[.int .i64 0, .slice none 0 0] 31 (0, 0)) := by rw [hVV]; exact blk_below fR3 bal1
  have fV : VV.heap[w3.heap.size]? = some (.cells #[.int .i64 k3, .slice a3 n3 q3] 31 (0, 0)) := by rw [hVV]; exact blk_new rfl
  have fC : Hid (Below w.heap.size w VV) := by rw [hVV]; exact Lib.hid (bstep fC3.out bal1)
  have hT : Hid (TyRep (fun x => (F x ∧ x < w.heap.size) ∨ w2.heap.size ≤ x ∧ x < w3.heap.size) VV t3 (.agg #[.int .i64 k3, .slice a3 n3 q3])) := by rw [hVV]; exact Lib.hid (HT3.out.below bal1)
  rw [← hVV]
  have zV : VV.heap.size = _ := congrArg (fun X : World => X.heap.size) hVV
  simp only [World.size_alloc] at zV
  refine wp_region_noPanic ?_
  refine wp_region_held_drew (S := fun w' => w'.cell? ⟨w3.heap.size, 0, none⟩ = some (.int .i64 k3) ∧ w'.cell? ⟨w3.heap.size, 1, none⟩ = some (.slice a3 n3 q3)) (by kernel_rfl) ?_ (fun hHeld0 => ?_)
  · exact ⟨blk_cell fV rfl, blk_cell fV rfl⟩
  obtain ⟨U4, hU, hb, zU4a, zU4b⟩ := drLet VV
  rw [hU] at hHeld0 ⊢
  replace fR := blk_below fR hb; replace fV := blk_below fV hb; replace fC := Lib.hid (bstep fC.out hb); replace hT := Lib.hid (hT.out.below hb)
  rw [zV] at zU4a zU4b
  clear hU hb hVV zV
  refine hwt 0 oW5_0 (.agg #[.int .i64 k3, .slice a3 n3 q3]) hHeld0 ?_ ?_
  · intro w' hSw; dsimp only [oW5_0]; go_simp
  try simp only [oW5_0, hwA]
  refine hwt 1 oW5_1 (.bool b3) hHeld0 ?_ ?_
  · intro w' hSw; dsimp only [oW5_1]; go_simp
  try simp only [oW5_1, hwA]
  refine hwt 2 oW5_2 (.slice none 0 0) hHeld0 ?_ ?_
  · intro w' hSw; dsimp only [oW5_2]; go_simp
  try simp only [oW5_2, hwA]
  refine hwr 3 oW5_3 (fun K hK => ?_)
  obtain ⟨r0, r1, rf0, rf1⟩ := blkR fR
  dsimp only [oW5_3]; go_simp
  (try go_wp2_with fail)
  have hQq := stLet2 fR (.int .i64 k3) (.slice a3 n3 q3)
  clear fR r0 r1 rf0 rf1
  obtain ⟨X1, hXq, hsq, fR, zX1a, zX1b⟩ := hQq
  rw [hXq]
  replace fV := hsq.blk (by omega) fV; replace fC := Lib.hid (hsq.bel fC.out (by omega)); replace hT := Lib.hid (hsq.rep (fun b hb => by rcases hb with ⟨-, h1⟩ | ⟨h1, -⟩ <;> omega) hT.out)
  refine hK.out _ _ ⟨blk_cell fV rfl, blk_cell fV rfl⟩ (fun hHeld1 => ?_)
  clear hK K hHeld0 hsq hXq
  try simp only [oW5_3, hwA]
  refine hwt 4 oW5_4 (.bool b3) hHeld1 ?_ ?_
  · intro w' hSw; dsimp only [oW5_4]; go_simp
  try simp only [oW5_4, hwA]
  refine wpAnyH_done (by kernel_rfl) ?_ _
  refine NoPanic.normal ?_
  clear hHeld1
  have rc0 := blk_cell fR (o := 0) rfl
  have rc1 := blk_cell fR (o := 1) rfl
  go_wp2_with fail
  refine bodyPost_ret (v := .tuple #[.slice none 0 0, .agg #[.int .i64 k3, .slice a3 n3 q3], .bool b3]) (by simp [results, Try.results39, go_sem, rc0, rc1]) rfl ?_
  have hw2 : w.heap.size ≤ w2.heap.size := HB1.out.size
  refine ⟨_, _, _, _, _, _, _, _, rfl, by rw [HO.out, HBT.out]; cases LO <;> rfl, ?_, fC.out⟩
  intro ws t h
  rw [HO.out] at h
  cases hl : LO with
  | none => rw [hl] at h; cases h
  | some t' =>
    rw [hl] at h
    simp only [Option.map_some, Option.some.injEq, Prod.mk.injEq] at h
    obtain ⟨rfl, rfl⟩ := h
    rw [Ty.toS_ty (HVV.out t' hl)]
    obtain rfl := HOT.out t' hl
    exact ⟨TysRep.nilG, hT.out.move (.weaken fun b h _ => by rcases h with ⟨h1, -⟩ | ⟨h1, -⟩; exact .inl h1; exact .inr (by omega))⟩
end Go.Proofs.Ytkhmkohgnikcmaa
