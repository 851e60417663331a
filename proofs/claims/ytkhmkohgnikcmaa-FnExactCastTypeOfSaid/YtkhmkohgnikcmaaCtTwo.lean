/-
  spec.l3Two, l3Int, l3Bool.
-/
import Derived.Test.YtkhmkohgnikcmaaB19
import Derived.Test.YtkhmkohgnikcmaaB20
import Derived.Test.YtkhmkohgnikcmaaB3
import Derived.Test.YtkhmkohgnikcmaaB9
import Derived.Test.YtkhmkohgnikcmaaB20
import Derived.Test.YtkhmkohgnikcmaaB20
import Derived.Deep.RegionHeld3
namespace Go.Proofs.Ytkhmkohgnikcmaa
open Go.RowKit
set_option linter.unusedVariables false
set_option linter.unusedSimpArgs false
set_option maxRecDepth 100000

theorem TyRep.setN {F : Nat → Prop} {w : World} {t : Ty} {y : Value} {g o : Nat} {v : Value} (h : TyRep F w t y) (hn : ∀ b, F b → b ≠ g) : TyRep F (w.setCell ⟨g, o, none⟩ v) t y :=
  h.move ⟨by simp [World.setCell], fun b hb _ => hb, fun b hb _ => Below.heap_setCell w ⟨g, o, none⟩ v b (hn b hb)⟩
theorem TysRep.one {F : Nat → Prop} {w : World} {t : Ty} {y : Value} (h : TysRep F w [t] y) :
    ∃ b off cap k1 c1 m1 q1, y = .slice (some ⟨b, off, none⟩) 1 cap ∧ b < w.heap.size ∧ w.cell? ⟨b, off, none⟩ = some (.int .i64 k1) ∧ w.cell? ⟨b, off + 1, none⟩ = some (.slice c1 m1 q1) ∧ TyRep F w t (.agg #[.int .i64 k1, .slice c1 m1 q1]) := by
  obtain ⟨a, cap, rfl, h2, h3, hg⟩ := h.open
  obtain ⟨b, off, k1, c1, m1, q1, rfl, e0, e1, ht⟩ := hg 0 (by simp)
  exact ⟨b, off, cap, k1, c1, m1, q1, rfl, World.block_lt_of_cell? _ _ e0, by simpa using e0, by simpa using e1, ht⟩
theorem TyRep.leafG {H : Nat → Prop} {w : World} (k : Int) : TyRep H w (.mk k []) (.agg #[.int .i64 k, .slice none 0 0]) := by
  refine ⟨_, rfl, ?_⟩
  unfold TysRep CRep
  exact ⟨none, 0, rfl, Nat.le_refl _, by unfold maxLen; omega, .inl rfl⟩
theorem S.cnt_ok {s : S} (h : s.vd = true) : s.ty.cnt ≤ 1048576 := Ty.cnt_valid (by rw [S.valid]; exact h)
theorem specL3Int (w : World) : Calls Try.prog 46 #[] w fun e w' => e = .returned (.agg #[.int .i64 2, .slice none 0 0]) ∧ Below w.heap.size w w' := by
  go_enter Try.func46, Try.ntmps46
  go_wp2_with fail
  refine bodyPost_ret (v := .agg #[.int .i64 2, .slice none 0 0]) (by simp [results, Try.results46, go_sem]) rfl ?_
  exact ⟨rfl, bal1⟩
theorem specL3Bool (w : World) : Calls Try.prog 47 #[] w fun e w' => e = .returned (.agg #[.int .i64 3, .slice none 0 0]) ∧ Below w.heap.size w w' := by
  go_enter Try.func47, Try.ntmps47
  go_wp2_with fail
  refine bodyPost_ret (v := .agg #[.int .i64 3, .slice none 0 0]) (by simp [results, Try.results47, go_sem]) rfl ?_
  exact ⟨rfl, bal1⟩
def oT1_0 : Oper := ⟨some 9, Op.move (Operand.tmp 0), 3, "l3_typing.go:17", #[], none⟩
def oT1_1 : Oper := ⟨some 10, Op.load 31 (Operand.tmp 4), 31, "l3_typing.go:17", #[], none⟩
def oT1_2 : Oper := ⟨some 11, Op.call { callee := Callee.value (Operand.func 49), args := #[Operand.tmp 10], argTypes := #[31] }, 31, "l3_typing.go:17", #[⟨1, .data⟩], none⟩
def oT1_3 : Oper := ⟨some 12, Op.load 31 (Operand.tmp 5), 31, "l3_typing.go:17", #[], none⟩
def oT1_4 : Oper := ⟨some 13, Op.call { callee := Callee.value (Operand.func 49), args := #[Operand.tmp 12], argTypes := #[31] }, 31, "l3_typing.go:17", #[⟨3, .data⟩, ⟨2, .chain⟩], none⟩
def oT1_5 : Oper := ⟨some 14, Op.buildSlice 29 2 #[(0, Operand.tmp 11), (1, Operand.tmp 13)], 29, "l3_typing.go:17", #[⟨2, .data⟩, ⟨4, .data⟩], none⟩
def oT1_6 : Oper := ⟨some 15, Op.build 31 #[(0, Operand.tmp 9), (1, Operand.tmp 14)], 31, "l3_typing.go:17", #[⟨0, .data⟩, ⟨5, .data⟩], none⟩
def oT1_7 : Oper := ⟨some 8, Op.alloc 31, 0, "l3_typing.go:17", #[], none⟩
def oT1_8 : Oper := ⟨none, Op.store 31 (Operand.tmp 8) (Operand.tmp 15), 0, "l3_typing.go:17", #[⟨7, .data⟩, ⟨6, .data⟩, ⟨4, .chain⟩, ⟨0, .phase⟩, ⟨1, .phase⟩, ⟨2, .phase⟩, ⟨3, .phase⟩, ⟨4, .phase⟩, ⟨5, .phase⟩, ⟨6, .phase⟩, ⟨7, .phase⟩], none⟩
def oT2_0 : Oper := ⟨some 16, Op.load 31 (Operand.tmp 8), 31, "l3_typing.go:18", #[], none⟩
def oT2_1 : Oper := ⟨some 17, Op.load 31 (Operand.tmp 8), 31, "l3_typing.go:18", #[], none⟩
def oT2_2 : Oper := ⟨some 18, Op.call { callee := Callee.value (Operand.func 50), args := #[Operand.tmp 17], argTypes := #[31] }, 4, "l3_typing.go:18", #[⟨1, .data⟩], none⟩
def oT2_3 : Oper := ⟨none, Op.store 31 (Operand.tmp 6) (Operand.tmp 16), 0, "l3_typing.go:18", #[⟨0, .data⟩, ⟨2, .chain⟩, ⟨0, .phase⟩, ⟨1, .textOnly .lateStores⟩, ⟨2, .textOnly .lateStoresUnsure⟩], none⟩
def oT2_4 : Oper := ⟨some 7, Op.assign (Operand.tmp 18), 4, "l3_typing.go:18", #[⟨2, .data⟩, ⟨3, .chain⟩, ⟨0, .phase⟩, ⟨1, .phase⟩, ⟨2, .phase⟩, ⟨3, .phase⟩], none⟩
set_option maxHeartbeats 4000000 in
theorem specL3Two (G1 G2 : Nat → Prop) (k : Int) (t u : Ty) (ak bk : Int) (aa ba : Option Addr) (an aq bn bq : Nat) (w : World) (ht : TyRep G1 w t (.agg #[.int .i64 ak, .slice aa an aq])) (hu : TyRep G2 w u (.agg #[.int .i64 bk, .slice ba bn bq])) (hct : t.cnt ≤ 1048576) (hcu : u.cnt ≤ 1048576) :
    Calls Try.prog 33 #[.int .i64 k, .agg #[.int .i64 ak, .slice aa an aq], .agg #[.int .i64 bk, .slice ba bn bq]] w (RetOF (if (Ty.mk k [t, u]).valid then some (.mk k [t, u]) else none) w) := by
  have HT := Lib.hid ht.old
  have HU := Lib.hid hu.old
  have HCT := Lib.hid hct
  have HCU := Lib.hid hcu
  clear ht hu hct hcu
  generalize hvv : (Ty.mk k [t, u]).valid = vv
  have HVV := Lib.hid hvv
  obtain ⟨O, hO⟩ : ∃ O : Option Ty, O = if vv = true then some (.mk k [t, u]) else none := ⟨_, rfl⟩
  rw [← hO]
  have HO := Lib.hid hO
  clear hvv hO
  go_enter Try.func33, Try.ntmps33
  go_wp2_with fail
  obtain ⟨VV, hVV⟩ : ∃ X, X = (((w.alloc (.cells #[.int .i64 ak, .slice aa an aq] 31)).alloc (.cells #[.int .i64 bk, .slice ba bn bq] 31)).alloc (.cells #[.int .i64 0, .slice none 0 0] 31)) := ⟨_, rfl⟩
  have fA : VV.heap[w.heap.size]? = some (.cells #[.int .i64 ak, .slice aa an aq] 31 (0, 0)) := by rw [hVV]; exact blk_below (blk_below (blk_new rfl) bal1) bal1
  have fB : VV.heap[w.heap.size + 1]? = some (.cells #[.int .i64 bk, .slice ba bn bq] 31 (0, 0)) := by rw [hVV]; exact blk_below (blk_new (by simp)) bal1
  have fR : VV.heap[w.heap.size + 1 + 1]? = some (.cells #[.int .i64 0, .slice none 0 0] 31 (0, 0)) := by rw [hVV]; exact blk_new (by simp)
  have fC : Hid (Below w.heap.size w VV) := by rw [hVV]; exact Lib.hid (bstep (bstep bal1 bal1) bal1)
  have hT : Hid (TyRep (· < w.heap.size) VV t (.agg #[.int .i64 ak, .slice aa an aq])) := by rw [hVV]; exact Lib.hid (((HT.out.below bal1).below bal1).below bal1)
  have hU_ : Hid (TyRep (· < w.heap.size) VV u (.agg #[.int .i64 bk, .slice ba bn bq])) := by rw [hVV]; exact Lib.hid (((HU.out.below bal1).below bal1).below bal1)
  rw [← hVV]
  have zV : VV.heap.size = _ := congrArg (fun X : World => X.heap.size) hVV
  simp only [World.size_alloc] at zV
  refine wp_region_noPanic ?_
  refine wp_region_held_drew (S := fun w' => w'.cell? ⟨w.heap.size, 0, none⟩ = some (.int .i64 ak) ∧ w'.cell? ⟨w.heap.size, 1, none⟩ = some (.slice aa an aq) ∧ w'.cell? ⟨w.heap.size + 1, 0, none⟩ = some (.int .i64 bk) ∧ w'.cell? ⟨w.heap.size + 1, 1, none⟩ = some (.slice ba bn bq)) (by kernel_rfl) ?_ (fun hHeld0 => ?_)
  · exact ⟨blk_cell fA rfl, blk_cell fA rfl, blk_cell fB rfl, blk_cell fB rfl⟩
  obtain ⟨U1, hU, hb, zU1a, zU1b⟩ := drLet VV
  rw [hU] at hHeld0 ⊢
  replace fA := blk_below fA hb; replace fB := blk_below fB hb; replace fR := blk_below fR hb; replace fC := Lib.hid (bstep fC.out hb)
  replace hT := Lib.hid (hT.out.below hb); replace hU_ := Lib.hid (hU_.out.below hb)
  rw [zV] at zU1a zU1b
  clear hU hb hVV zV
  refine hwt 0 oT1_0 (.int .i64 k) hHeld0 ?_ ?_
  · intro w' hSw; dsimp only [oT1_0]; go_simp
  try simp only [oT1_0, hwA]
  refine hwt 1 oT1_1 (.agg #[.int .i64 ak, .slice aa an aq]) hHeld0 ?_ ?_
  · intro w' hSw; dsimp only [oT1_1]; go_simp
  try simp only [oT1_1, hwA]
  refine hwt 3 oT1_3 (.agg #[.int .i64 bk, .slice ba bn bq]) hHeld0 ?_ ?_
  · intro w' hSw; dsimp only [oT1_3]; go_simp
  try simp only [oT1_3, hwA]
  refine wpAnyH_ready (rs := [2, 7]) (by kernel_rfl) (by simp) ?_
  refine (AllReadyH.cons (o := oT1_2) rfl (fun K hK => ?_) (AllReadyH.cons (o := oT1_7) rfl (fun K hK => ?_) AllReadyH.nil))
  ·skip
   dsimp only [oT1_2]; go_simp
   go_at_call 49
   refine (specL1Copy _ t _ _ hT.out HCT.out).mono ?_
   rintro e X1 ⟨v, rfl, hv, hb⟩
   obtain ⟨kc, ac, nc, qc, rfl⟩ := hv.shape
   have hN1' : Hid (TyRep (fun b => U1.heap.size ≤ b ∧ b < X1.heap.size) X1 t (.agg #[.int .i64 kc, .slice ac nc qc])) := Lib.hid (hv.rep.move (.weaken fun b h1 h2 => ⟨h1, h2⟩))
   clear hv
   go_wp2_with fail
   have zX1 : U1.heap.size ≤ X1.heap.size := hb.size
   replace fA := blk_below fA hb; replace fB := blk_below fB hb; replace fR := blk_below fR hb; replace fC := Lib.hid (bstep fC.out hb)
   replace hT := Lib.hid (hT.out.below hb); replace hU_ := Lib.hid (hU_.out.below hb)
   have hN1 := hN1'
   clear hN1'
   refine hK.out _ _ ⟨blk_cell fA rfl, blk_cell fA rfl, blk_cell fB rfl, blk_cell fB rfl⟩ (fun hHeld1 => ?_)
   clear hK K hHeld0 hb
   try simp only [oT1_2, hwA]
   refine wpAnyH_ready (rs := [4, 7]) (by kernel_rfl) (by simp) ?_
   refine (AllReadyH.cons (o := oT1_4) rfl (fun K hK => ?_) (AllReadyH.cons (o := oT1_7) rfl (fun K hK => ?_) AllReadyH.nil))
   ·skip
    dsimp only [oT1_4]; go_simp
    go_at_call 49
    refine (specL1Copy _ u _ _ hU_.out HCU.out).mono ?_
    rintro e X2 ⟨v, rfl, hv, hb⟩
    obtain ⟨kd, ad, nd, qd, rfl⟩ := hv.shape
    have hN2' : Hid (TyRep (fun b => X1.heap.size ≤ b ∧ b < X2.heap.size) X2 u (.agg #[.int .i64 kd, .slice ad nd qd])) := Lib.hid (hv.rep.move (.weaken fun b h1 h2 => ⟨h1, h2⟩))
    clear hv
    go_wp2_with fail
    have zX2 : X1.heap.size ≤ X2.heap.size := hb.size
    replace fA := blk_below fA hb; replace fB := blk_below fB hb; replace fR := blk_below fR hb; replace fC := Lib.hid (bstep fC.out hb)
    replace hT := Lib.hid (hT.out.below hb); replace hU_ := Lib.hid (hU_.out.below hb); replace hN1 := Lib.hid (hN1.out.below hb)
    have hN2 := hN2'
    clear hN2'
    refine hK.out _ _ ⟨blk_cell fA rfl, blk_cell fA rfl, blk_cell fB rfl, blk_cell fB rfl⟩ (fun hHeld2 => ?_)
    clear hK K hHeld1 hb
    try simp only [oT1_4, hwA]
    refine wpAnyH_ready (rs := [5, 7]) (by kernel_rfl) (by simp) ?_
    refine (AllReadyH.cons (o := oT1_5) rfl (fun K hK => ?_) (AllReadyH.cons (o := oT1_7) rfl (fun K hK => ?_) AllReadyH.nil))
    ·skip
     dsimp only [oT1_5]; go_simp
     (try go_wp2_with fail)
     obtain ⟨X3, hXq, hb, fN, zX3a, zX3b⟩ := alLet X2 (.cells #[.int .i64 kc, .slice ac nc qc, .int .i64 kd, .slice ad nd qd] 31)
     rw [hXq]
     replace fA := blk_below fA hb; replace fB := blk_below fB hb; replace fR := blk_below fR hb; replace fC := Lib.hid (bstep fC.out hb)
     replace hT := Lib.hid (hT.out.below hb); replace hU_ := Lib.hid (hU_.out.below hb); replace hN1 := Lib.hid (hN1.out.below hb); replace hN2 := Lib.hid (hN2.out.below hb)
     refine hK.out _ _ ⟨blk_cell fA rfl, blk_cell fA rfl, blk_cell fB rfl, blk_cell fB rfl⟩ (fun hHeld3 => ?_)
     clear hK K hHeld2 hb hXq
     try simp only [oT1_5, hwA]
     refine hwt 6 oT1_6 (.agg #[.int .i64 k, .slice (some ⟨X2.heap.size, 0, none⟩) 2 2]) hHeld3 ?_ ?_
     · intro w' hSw; dsimp only [oT1_6]; go_simp
     try simp only [oT1_6, hwA]
     refine hwr 7 oT1_7 (fun K hK => ?_)
     dsimp only [oT1_7]; go_simp
     (try go_wp2_with fail)
     obtain ⟨X4, hXq, hb, fV, zX4a, zX4b⟩ := alLet X3 (.cells #[.int .i64 0, .slice none 0 0] 31)
     rw [hXq]
     replace fA := blk_below fA hb; replace fB := blk_below fB hb; replace fR := blk_below fR hb; replace fC := Lib.hid (bstep fC.out hb)
     replace hT := Lib.hid (hT.out.below hb); replace hU_ := Lib.hid (hU_.out.below hb); replace hN1 := Lib.hid (hN1.out.below hb); replace hN2 := Lib.hid (hN2.out.below hb)
     replace fN := blk_below fN hb
     refine hK.out _ _ ⟨blk_cell fA rfl, blk_cell fA rfl, blk_cell fB rfl, blk_cell fB rfl⟩ (fun hHeld4 => ?_)
     clear hK K hHeld3 hb hXq
     try simp only [oT1_7, hwA]
     refine hwr 8 oT1_8 (fun K hK => ?_)
     obtain ⟨r0, r1, rf0, rf1⟩ := blkR fV
     dsimp only [oT1_8]; go_simp
     (try go_wp2_with fail)
     have hQq := stLet2 fV (.int .i64 k) (.slice (some ⟨X2.heap.size, 0, none⟩) 2 2)
     clear fV r0 r1 rf0 rf1
     obtain ⟨X5, hXq, hsq, fV, zX5a, zX5b⟩ := hQq
     rw [hXq]
     replace fA := hsq.blk (by omega) fA; replace fB := hsq.blk (by omega) fB; replace fR := hsq.blk (by omega) fR; replace fC := Lib.hid (hsq.bel fC.out (by omega))
     replace hT := Lib.hid (hsq.rep (fun b hb => by have : b < w.heap.size := hb; omega) hT.out); replace hU_ := Lib.hid (hsq.rep (fun b hb => by have : b < w.heap.size := hb; omega) hU_.out); replace hN1 := Lib.hid (hsq.rep (fun b hb => by have h1 : U1.heap.size ≤ b := hb.1; have h2 : b < X1.heap.size := hb.2; omega) hN1.out); replace hN2 := Lib.hid (hsq.rep (fun b hb => by have h1 : X1.heap.size ≤ b := hb.1; have h2 : b < X2.heap.size := hb.2; omega) hN2.out)
     replace fN := hsq.blk (by omega) fN
     refine hK.out _ _ ⟨blk_cell fA rfl, blk_cell fA rfl, blk_cell fB rfl, blk_cell fB rfl⟩ (fun hHeld5 => ?_)
     clear hK K hHeld4 hsq hXq
     try simp only [oT1_8, hwA]
     refine wpAnyH_done (by kernel_rfl) ?_ _
     refine NoPanic.normal ?_
     clear hHeld5
     go_wp2_with fail
     refine wp_region_noPanic ?_
     refine wp_region_held_drew (S := fun w' => w'.cell? ⟨X3.heap.size, 0, none⟩ = some (.int .i64 k) ∧ w'.cell? ⟨X3.heap.size, 1, none⟩ = some (.slice (some ⟨X2.heap.size, 0, none⟩) 2 2)) (by kernel_rfl) ?_ (fun hHeld0 => ?_)
     · exact ⟨blk_cell fV rfl, blk_cell fV rfl⟩
     obtain ⟨U2, hU, hb, zU2a, zU2b⟩ := drLet X5
     rw [hU] at hHeld0 ⊢
     replace fA := blk_below fA hb; replace fB := blk_below fB hb; replace fR := blk_below fR hb; replace fC := Lib.hid (bstep fC.out hb)
     replace hT := Lib.hid (hT.out.below hb); replace hU_ := Lib.hid (hU_.out.below hb); replace hN1 := Lib.hid (hN1.out.below hb); replace hN2 := Lib.hid (hN2.out.below hb)
     replace fN := blk_below fN hb; replace fV := blk_below fV hb
     (try simp only [World.size_alloc] at zU2a zU2b)
     clear hU hb
     refine hwt 0 oT2_0 (.agg #[.int .i64 k, .slice (some ⟨X2.heap.size, 0, none⟩) 2 2]) hHeld0 ?_ ?_
     · intro w' hSw; dsimp only [oT2_0]; go_simp
     try simp only [oT2_0, hwA]
     refine hwt 1 oT2_1 (.agg #[.int .i64 k, .slice (some ⟨X2.heap.size, 0, none⟩) 2 2]) hHeld0 ?_ ?_
     · intro w' hSw; dsimp only [oT2_1]; go_simp
     try simp only [oT2_1, hwA]
     refine hwr 2 oT2_2 (fun K hK => ?_)
     dsimp only [oT2_2]; go_simp
     go_at_call 50
     have hrd : TyRep (fun b => False ∨ w.heap.size ≤ b) U2 (.mk k [t, u]) (.agg #[.int .i64 k, .slice (some ⟨X2.heap.size, 0, none⟩) 2 2]) := TyRep.two_mk (F := fun b => False ∨ w.heap.size ≤ b) (w := U2) (b := X2.heap.size) (cap := 2) (k := k) (t := t) (u := u) (k1 := kc) (k2 := kd) (c1 := .slice ac nc qc) (c2 := .slice ad nd qd) (.inr (by omega)) (Nat.le_refl 2) (by unfold maxLen; omega) (blk_cell fN (o := 0) rfl) (blk_cell fN (o := 1) rfl) (blk_cell fN (o := 2) rfl) (blk_cell fN (o := 3) rfl) (hN1.out.move (.weaken fun b h _ => .inr (by have h1 := h.1; omega))) (hN2.out.move (.weaken fun b h _ => .inr (by have h1 := h.1; omega)))
     refine (specTypeValid _ (.mk k [t, u]) _ _ hrd).mono ?_
     rintro e X26 ⟨rfl, hb⟩
     rw [HVV.out]
     clear hrd
     go_wp2_with fail
     have zX26 : U2.heap.size ≤ X26.heap.size := hb.size
     replace fA := blk_below fA hb; replace fB := blk_below fB hb; replace fR := blk_below fR hb; replace fC := Lib.hid (bstep fC.out hb)
     replace hT := Lib.hid (hT.out.below hb); replace hU_ := Lib.hid (hU_.out.below hb); replace hN1 := Lib.hid (hN1.out.below hb); replace hN2 := Lib.hid (hN2.out.below hb)
     replace fN := blk_below fN hb; replace fV := blk_below fV hb
     refine hK.out _ _ ⟨blk_cell fV rfl, blk_cell fV rfl⟩ (fun hHeld46 => ?_)
     clear hK K hHeld0 hb
     try simp only [oT2_2, hwA]
     refine hwr 3 oT2_3 (fun K hK => ?_)
     obtain ⟨r0, r1, rf0, rf1⟩ := blkR fR
     dsimp only [oT2_3]; go_simp
     (try go_wp2_with fail)
     have hQq := stLet2 fR (.int .i64 k) (.slice (some ⟨X2.heap.size, 0, none⟩) 2 2)
     clear fR r0 r1 rf0 rf1
     obtain ⟨X27, hXq, hsq, fR, zX27a, zX27b⟩ := hQq
     rw [hXq]
     replace fA := hsq.blk (by omega) fA; replace fB := hsq.blk (by omega) fB; replace fC := Lib.hid (hsq.bel fC.out (by omega)); replace hT := Lib.hid (hsq.rep (fun b hb => by have : b < w.heap.size := hb; omega) hT.out)
     replace hU_ := Lib.hid (hsq.rep (fun b hb => by have : b < w.heap.size := hb; omega) hU_.out); replace hN1 := Lib.hid (hsq.rep (fun b hb => by have h1 : U1.heap.size ≤ b := hb.1; have h2 : b < X1.heap.size := hb.2; omega) hN1.out); replace hN2 := Lib.hid (hsq.rep (fun b hb => by have h1 : X1.heap.size ≤ b := hb.1; have h2 : b < X2.heap.size := hb.2; omega) hN2.out); replace fN := hsq.blk (by omega) fN
     replace fV := hsq.blk (by omega) fV
     refine hK.out _ _ ⟨blk_cell fV rfl, blk_cell fV rfl⟩ (fun hHeld47 => ?_)
     clear hK K hHeld46 hsq hXq
     try simp only [oT2_3, hwA]
     refine hwt 4 oT2_4 (.bool vv) hHeld47 ?_ ?_
     · intro w' hSw; dsimp only [oT2_4]; go_simp
     try simp only [oT2_4, hwA]
     refine wpAnyH_done (by kernel_rfl) ?_ _
     refine NoPanic.normal ?_
     clear hHeld47
     have rc0 := blk_cell fR (o := 0) rfl
     have rc1 := blk_cell fR (o := 1) rfl
     go_wp2_with fail
     refine bodyPost_ret (v := .tuple #[.agg #[.int .i64 k, .slice (some ⟨X2.heap.size, 0, none⟩) 2 2], .bool vv]) (by simp [results, Try.results33, go_sem, rc0, rc1]) rfl ?_
     have hrd : TyRep (fun b => False ∨ w.heap.size ≤ b) X27 (.mk k [t, u]) (.agg #[.int .i64 k, .slice (some ⟨X2.heap.size, 0, none⟩) 2 2]) := TyRep.two_mk (F := fun b => False ∨ w.heap.size ≤ b) (w := X27) (b := X2.heap.size) (cap := 2) (k := k) (t := t) (u := u) (k1 := kc) (k2 := kd) (c1 := .slice ac nc qc) (c2 := .slice ad nd qd) (.inr (by omega)) (Nat.le_refl 2) (by unfold maxLen; omega) (blk_cell fN (o := 0) rfl) (blk_cell fN (o := 1) rfl) (blk_cell fN (o := 2) rfl) (blk_cell fN (o := 3) rfl) (hN1.out.move (.weaken fun b h _ => .inr (by have h1 := h.1; omega))) (hN2.out.move (.weaken fun b h _ => .inr (by have h1 := h.1; omega)))
     exact ⟨_, _, _, _, _, .mk k [t, u], rfl, (by rw [HO.out]; cases vv <;> rfl), hrd, (by rw [HO.out]; intro s h; cases vv <;> simp at h; exact h), fC.out⟩
    ·skip
     dsimp only [oT1_7]; go_simp
     (try go_wp2_with fail)
     obtain ⟨X28, hXq, hb, fV, zX28a, zX28b⟩ := alLet X2 (.cells #[.int .i64 0, .slice none 0 0] 31)
     rw [hXq]
     replace fA := blk_below fA hb; replace fB := blk_below fB hb; replace fR := blk_below fR hb; replace fC := Lib.hid (bstep fC.out hb)
     replace hT := Lib.hid (hT.out.below hb); replace hU_ := Lib.hid (hU_.out.below hb); replace hN1 := Lib.hid (hN1.out.below hb); replace hN2 := Lib.hid (hN2.out.below hb)
     refine hK.out _ _ ⟨blk_cell fA rfl, blk_cell fA rfl, blk_cell fB rfl, blk_cell fB rfl⟩ (fun hHeld3 => ?_)
     clear hK K hHeld2 hb hXq
     try simp only [oT1_7, hwA]
     refine hwr 5 oT1_5 (fun K hK => ?_)
     dsimp only [oT1_5]; go_simp
     (try go_wp2_with fail)
     obtain ⟨X29, hXq, hb, fN, zX29a, zX29b⟩ := alLet X28 (.cells #[.int .i64 kc, .slice ac nc qc, .int .i64 kd, .slice ad nd qd] 31)
     rw [hXq]
     replace fA := blk_below fA hb; replace fB := blk_below fB hb; replace fR := blk_below fR hb; replace fC := Lib.hid (bstep fC.out hb)
     replace hT := Lib.hid (hT.out.below hb); replace hU_ := Lib.hid (hU_.out.below hb); replace hN1 := Lib.hid (hN1.out.below hb); replace hN2 := Lib.hid (hN2.out.below hb)
     replace fV := blk_below fV hb
     refine hK.out _ _ ⟨blk_cell fA rfl, blk_cell fA rfl, blk_cell fB rfl, blk_cell fB rfl⟩ (fun hHeld48 => ?_)
     clear hK K hHeld3 hb hXq
     try simp only [oT1_5, hwA]
     refine hwt 6 oT1_6 (.agg #[.int .i64 k, .slice (some ⟨X28.heap.size, 0, none⟩) 2 2]) hHeld48 ?_ ?_
     · intro w' hSw; dsimp only [oT1_6]; go_simp
     try simp only [oT1_6, hwA]
     refine hwr 8 oT1_8 (fun K hK => ?_)
     obtain ⟨r0, r1, rf0, rf1⟩ := blkR fV
     dsimp only [oT1_8]; go_simp
     (try go_wp2_with fail)
     have hQq := stLet2 fV (.int .i64 k) (.slice (some ⟨X28.heap.size, 0, none⟩) 2 2)
     clear fV r0 r1 rf0 rf1
     obtain ⟨X30, hXq, hsq, fV, zX30a, zX30b⟩ := hQq
     rw [hXq]
     replace fA := hsq.blk (by omega) fA; replace fB := hsq.blk (by omega) fB; replace fR := hsq.blk (by omega) fR; replace fC := Lib.hid (hsq.bel fC.out (by omega))
     replace hT := Lib.hid (hsq.rep (fun b hb => by have : b < w.heap.size := hb; omega) hT.out); replace hU_ := Lib.hid (hsq.rep (fun b hb => by have : b < w.heap.size := hb; omega) hU_.out); replace hN1 := Lib.hid (hsq.rep (fun b hb => by have h1 : U1.heap.size ≤ b := hb.1; have h2 : b < X1.heap.size := hb.2; omega) hN1.out); replace hN2 := Lib.hid (hsq.rep (fun b hb => by have h1 : X1.heap.size ≤ b := hb.1; have h2 : b < X2.heap.size := hb.2; omega) hN2.out)
     replace fN := hsq.blk (by omega) fN
     refine hK.out _ _ ⟨blk_cell fA rfl, blk_cell fA rfl, blk_cell fB rfl, blk_cell fB rfl⟩ (fun hHeld49 => ?_)
     clear hK K hHeld48 hsq hXq
     try simp only [oT1_8, hwA]
     refine wpAnyH_done (by kernel_rfl) ?_ _
     refine NoPanic.normal ?_
     clear hHeld49
     go_wp2_with fail
     refine wp_region_noPanic ?_
     refine wp_region_held_drew (S := fun w' => w'.cell? ⟨X2.heap.size, 0, none⟩ = some (.int .i64 k) ∧ w'.cell? ⟨X2.heap.size, 1, none⟩ = some (.slice (some ⟨X28.heap.size, 0, none⟩) 2 2)) (by kernel_rfl) ?_ (fun hHeld0 => ?_)
     · exact ⟨blk_cell fV rfl, blk_cell fV rfl⟩
     obtain ⟨U3, hU, hb, zU3a, zU3b⟩ := drLet X30
     rw [hU] at hHeld0 ⊢
     replace fA := blk_below fA hb; replace fB := blk_below fB hb; replace fR := blk_below fR hb; replace fC := Lib.hid (bstep fC.out hb)
     replace hT := Lib.hid (hT.out.below hb); replace hU_ := Lib.hid (hU_.out.below hb); replace hN1 := Lib.hid (hN1.out.below hb); replace hN2 := Lib.hid (hN2.out.below hb)
     replace fV := blk_below fV hb; replace fN := blk_below fN hb
     (try simp only [World.size_alloc] at zU3a zU3b)
     clear hU hb
     refine hwt 0 oT2_0 (.agg #[.int .i64 k, .slice (some ⟨X28.heap.size, 0, none⟩) 2 2]) hHeld0 ?_ ?_
     · intro w' hSw; dsimp only [oT2_0]; go_simp
     try simp only [oT2_0, hwA]
     refine hwt 1 oT2_1 (.agg #[.int .i64 k, .slice (some ⟨X28.heap.size, 0, none⟩) 2 2]) hHeld0 ?_ ?_
     · intro w' hSw; dsimp only [oT2_1]; go_simp
     try simp only [oT2_1, hwA]
     refine hwr 2 oT2_2 (fun K hK => ?_)
     dsimp only [oT2_2]; go_simp
     go_at_call 50
     have hrd : TyRep (fun b => False ∨ w.heap.size ≤ b) U3 (.mk k [t, u]) (.agg #[.int .i64 k, .slice (some ⟨X28.heap.size, 0, none⟩) 2 2]) := TyRep.two_mk (F := fun b => False ∨ w.heap.size ≤ b) (w := U3) (b := X28.heap.size) (cap := 2) (k := k) (t := t) (u := u) (k1 := kc) (k2 := kd) (c1 := .slice ac nc qc) (c2 := .slice ad nd qd) (.inr (by omega)) (Nat.le_refl 2) (by unfold maxLen; omega) (blk_cell fN (o := 0) rfl) (blk_cell fN (o := 1) rfl) (blk_cell fN (o := 2) rfl) (blk_cell fN (o := 3) rfl) (hN1.out.move (.weaken fun b h _ => .inr (by have h1 := h.1; omega))) (hN2.out.move (.weaken fun b h _ => .inr (by have h1 := h.1; omega)))
     refine (specTypeValid _ (.mk k [t, u]) _ _ hrd).mono ?_
     rintro e X51 ⟨rfl, hb⟩
     rw [HVV.out]
     clear hrd
     go_wp2_with fail
     have zX51 : U3.heap.size ≤ X51.heap.size := hb.size
     replace fA := blk_below fA hb; replace fB := blk_below fB hb; replace fR := blk_below fR hb; replace fC := Lib.hid (bstep fC.out hb)
     replace hT := Lib.hid (hT.out.below hb); replace hU_ := Lib.hid (hU_.out.below hb); replace hN1 := Lib.hid (hN1.out.below hb); replace hN2 := Lib.hid (hN2.out.below hb)
     replace fV := blk_below fV hb; replace fN := blk_below fN hb
     refine hK.out _ _ ⟨blk_cell fV rfl, blk_cell fV rfl⟩ (fun hHeld90 => ?_)
     clear hK K hHeld0 hb
     try simp only [oT2_2, hwA]
     refine hwr 3 oT2_3 (fun K hK => ?_)
     obtain ⟨r0, r1, rf0, rf1⟩ := blkR fR
     dsimp only [oT2_3]; go_simp
     (try go_wp2_with fail)
     have hQq := stLet2 fR (.int .i64 k) (.slice (some ⟨X28.heap.size, 0, none⟩) 2 2)
     clear fR r0 r1 rf0 rf1
     obtain ⟨X52, hXq, hsq, fR, zX52a, zX52b⟩ := hQq
     rw [hXq]
     replace fA := hsq.blk (by omega) fA; replace fB := hsq.blk (by omega) fB; replace fC := Lib.hid (hsq.bel fC.out (by omega)); replace hT := Lib.hid (hsq.rep (fun b hb => by have : b < w.heap.size := hb; omega) hT.out)
     replace hU_ := Lib.hid (hsq.rep (fun b hb => by have : b < w.heap.size := hb; omega) hU_.out); replace hN1 := Lib.hid (hsq.rep (fun b hb => by have h1 : U1.heap.size ≤ b := hb.1; have h2 : b < X1.heap.size := hb.2; omega) hN1.out); replace hN2 := Lib.hid (hsq.rep (fun b hb => by have h1 : X1.heap.size ≤ b := hb.1; have h2 : b < X2.heap.size := hb.2; omega) hN2.out); replace fV := hsq.blk (by omega) fV
     replace fN := hsq.blk (by omega) fN
     refine hK.out _ _ ⟨blk_cell fV rfl, blk_cell fV rfl⟩ (fun hHeld91 => ?_)
     clear hK K hHeld90 hsq hXq
     try simp only [oT2_3, hwA]
     refine hwt 4 oT2_4 (.bool vv) hHeld91 ?_ ?_
     · intro w' hSw; dsimp only [oT2_4]; go_simp
     try simp only [oT2_4, hwA]
     refine wpAnyH_done (by kernel_rfl) ?_ _
     refine NoPanic.normal ?_
     clear hHeld91
     have rc0 := blk_cell fR (o := 0) rfl
     have rc1 := blk_cell fR (o := 1) rfl
     go_wp2_with fail
     refine bodyPost_ret (v := .tuple #[.agg #[.int .i64 k, .slice (some ⟨X28.heap.size, 0, none⟩) 2 2], .bool vv]) (by simp [results, Try.results33, go_sem, rc0, rc1]) rfl ?_
     have hrd : TyRep (fun b => False ∨ w.heap.size ≤ b) X52 (.mk k [t, u]) (.agg #[.int .i64 k, .slice (some ⟨X28.heap.size, 0, none⟩) 2 2]) := TyRep.two_mk (F := fun b => False ∨ w.heap.size ≤ b) (w := X52) (b := X28.heap.size) (cap := 2) (k := k) (t := t) (u := u) (k1 := kc) (k2 := kd) (c1 := .slice ac nc qc) (c2 := .slice ad nd qd) (.inr (by omega)) (Nat.le_refl 2) (by unfold maxLen; omega) (blk_cell fN (o := 0) rfl) (blk_cell fN (o := 1) rfl) (blk_cell fN (o := 2) rfl) (blk_cell fN (o := 3) rfl) (hN1.out.move (.weaken fun b h _ => .inr (by have h1 := h.1; omega))) (hN2.out.move (.weaken fun b h _ => .inr (by have h1 := h.1; omega)))
     exact ⟨_, _, _, _, _, .mk k [t, u], rfl, (by rw [HO.out]; cases vv <;> rfl), hrd, (by rw [HO.out]; intro s h; cases vv <;> simp at h; exact h), fC.out⟩
   ·skip
    dsimp only [oT1_7]; go_simp
    (try go_wp2_with fail)
    obtain ⟨X53, hXq, hb, fV, zX53a, zX53b⟩ := alLet X1 (.cells #[.int .i64 0, .slice none 0 0] 31)
    rw [hXq]
    replace fA := blk_below fA hb; replace fB := blk_below fB hb; replace fR := blk_below fR hb; replace fC := Lib.hid (bstep fC.out hb)
    replace hT := Lib.hid (hT.out.below hb); replace hU_ := Lib.hid (hU_.out.below hb); replace hN1 := Lib.hid (hN1.out.below hb)
    refine hK.out _ _ ⟨blk_cell fA rfl, blk_cell fA rfl, blk_cell fB rfl, blk_cell fB rfl⟩ (fun hHeld2 => ?_)
    clear hK K hHeld1 hb hXq
    try simp only [oT1_7, hwA]
    refine hwr 4 oT1_4 (fun K hK => ?_)
    dsimp only [oT1_4]; go_simp
    go_at_call 49
    refine (specL1Copy _ u _ _ hU_.out HCU.out).mono ?_
    rintro e X54 ⟨v, rfl, hv, hb⟩
    obtain ⟨kd, ad, nd, qd, rfl⟩ := hv.shape
    have hN2' : Hid (TyRep (fun b => X53.heap.size ≤ b ∧ b < X54.heap.size) X54 u (.agg #[.int .i64 kd, .slice ad nd qd])) := Lib.hid (hv.rep.move (.weaken fun b h1 h2 => ⟨h1, h2⟩))
    clear hv
    go_wp2_with fail
    have zX54 : X53.heap.size ≤ X54.heap.size := hb.size
    replace fA := blk_below fA hb; replace fB := blk_below fB hb; replace fR := blk_below fR hb; replace fC := Lib.hid (bstep fC.out hb)
    replace hT := Lib.hid (hT.out.below hb); replace hU_ := Lib.hid (hU_.out.below hb); replace hN1 := Lib.hid (hN1.out.below hb); replace fV := blk_below fV hb
    have hN2 := hN2'
    clear hN2'
    refine hK.out _ _ ⟨blk_cell fA rfl, blk_cell fA rfl, blk_cell fB rfl, blk_cell fB rfl⟩ (fun hHeld92 => ?_)
    clear hK K hHeld2 hb
    try simp only [oT1_4, hwA]
    refine hwr 5 oT1_5 (fun K hK => ?_)
    dsimp only [oT1_5]; go_simp
    (try go_wp2_with fail)
    obtain ⟨X55, hXq, hb, fN, zX55a, zX55b⟩ := alLet X54 (.cells #[.int .i64 kc, .slice ac nc qc, .int .i64 kd, .slice ad nd qd] 31)
    rw [hXq]
    replace fA := blk_below fA hb; replace fB := blk_below fB hb; replace fR := blk_below fR hb; replace fC := Lib.hid (bstep fC.out hb)
    replace hT := Lib.hid (hT.out.below hb); replace hU_ := Lib.hid (hU_.out.below hb); replace hN1 := Lib.hid (hN1.out.below hb); replace fV := blk_below fV hb
    replace hN2 := Lib.hid (hN2.out.below hb)
    refine hK.out _ _ ⟨blk_cell fA rfl, blk_cell fA rfl, blk_cell fB rfl, blk_cell fB rfl⟩ (fun hHeld93 => ?_)
    clear hK K hHeld92 hb hXq
    try simp only [oT1_5, hwA]
    refine hwt 6 oT1_6 (.agg #[.int .i64 k, .slice (some ⟨X54.heap.size, 0, none⟩) 2 2]) hHeld93 ?_ ?_
    · intro w' hSw; dsimp only [oT1_6]; go_simp
    try simp only [oT1_6, hwA]
    refine hwr 8 oT1_8 (fun K hK => ?_)
    obtain ⟨r0, r1, rf0, rf1⟩ := blkR fV
    dsimp only [oT1_8]; go_simp
    (try go_wp2_with fail)
    have hQq := stLet2 fV (.int .i64 k) (.slice (some ⟨X54.heap.size, 0, none⟩) 2 2)
    clear fV r0 r1 rf0 rf1
    obtain ⟨X56, hXq, hsq, fV, zX56a, zX56b⟩ := hQq
    rw [hXq]
    replace fA := hsq.blk (by omega) fA; replace fB := hsq.blk (by omega) fB; replace fR := hsq.blk (by omega) fR; replace fC := Lib.hid (hsq.bel fC.out (by omega))
    replace hT := Lib.hid (hsq.rep (fun b hb => by have : b < w.heap.size := hb; omega) hT.out); replace hU_ := Lib.hid (hsq.rep (fun b hb => by have : b < w.heap.size := hb; omega) hU_.out); replace hN1 := Lib.hid (hsq.rep (fun b hb => by have h1 : U1.heap.size ≤ b := hb.1; have h2 : b < X1.heap.size := hb.2; omega) hN1.out); replace hN2 := Lib.hid (hsq.rep (fun b hb => by have h1 : X53.heap.size ≤ b := hb.1; have h2 : b < X54.heap.size := hb.2; omega) hN2.out)
    replace fN := hsq.blk (by omega) fN
    refine hK.out _ _ ⟨blk_cell fA rfl, blk_cell fA rfl, blk_cell fB rfl, blk_cell fB rfl⟩ (fun hHeld94 => ?_)
    clear hK K hHeld93 hsq hXq
    try simp only [oT1_8, hwA]
    refine wpAnyH_done (by kernel_rfl) ?_ _
    refine NoPanic.normal ?_
    clear hHeld94
    go_wp2_with fail
    refine wp_region_noPanic ?_
    refine wp_region_held_drew (S := fun w' => w'.cell? ⟨X1.heap.size, 0, none⟩ = some (.int .i64 k) ∧ w'.cell? ⟨X1.heap.size, 1, none⟩ = some (.slice (some ⟨X54.heap.size, 0, none⟩) 2 2)) (by kernel_rfl) ?_ (fun hHeld0 => ?_)
    · exact ⟨blk_cell fV rfl, blk_cell fV rfl⟩
    obtain ⟨U4, hU, hb, zU4a, zU4b⟩ := drLet X56
    rw [hU] at hHeld0 ⊢
    replace fA := blk_below fA hb; replace fB := blk_below fB hb; replace fR := blk_below fR hb; replace fC := Lib.hid (bstep fC.out hb)
    replace hT := Lib.hid (hT.out.below hb); replace hU_ := Lib.hid (hU_.out.below hb); replace hN1 := Lib.hid (hN1.out.below hb); replace fV := blk_below fV hb
    replace hN2 := Lib.hid (hN2.out.below hb); replace fN := blk_below fN hb
    (try simp only [World.size_alloc] at zU4a zU4b)
    clear hU hb
    refine hwt 0 oT2_0 (.agg #[.int .i64 k, .slice (some ⟨X54.heap.size, 0, none⟩) 2 2]) hHeld0 ?_ ?_
    · intro w' hSw; dsimp only [oT2_0]; go_simp
    try simp only [oT2_0, hwA]
    refine hwt 1 oT2_1 (.agg #[.int .i64 k, .slice (some ⟨X54.heap.size, 0, none⟩) 2 2]) hHeld0 ?_ ?_
    · intro w' hSw; dsimp only [oT2_1]; go_simp
    try simp only [oT2_1, hwA]
    refine hwr 2 oT2_2 (fun K hK => ?_)
    dsimp only [oT2_2]; go_simp
    go_at_call 50
    have hrd : TyRep (fun b => False ∨ w.heap.size ≤ b) U4 (.mk k [t, u]) (.agg #[.int .i64 k, .slice (some ⟨X54.heap.size, 0, none⟩) 2 2]) := TyRep.two_mk (F := fun b => False ∨ w.heap.size ≤ b) (w := U4) (b := X54.heap.size) (cap := 2) (k := k) (t := t) (u := u) (k1 := kc) (k2 := kd) (c1 := .slice ac nc qc) (c2 := .slice ad nd qd) (.inr (by omega)) (Nat.le_refl 2) (by unfold maxLen; omega) (blk_cell fN (o := 0) rfl) (blk_cell fN (o := 1) rfl) (blk_cell fN (o := 2) rfl) (blk_cell fN (o := 3) rfl) (hN1.out.move (.weaken fun b h _ => .inr (by have h1 := h.1; omega))) (hN2.out.move (.weaken fun b h _ => .inr (by have h1 := h.1; omega)))
    refine (specTypeValid _ (.mk k [t, u]) _ _ hrd).mono ?_
    rintro e X77 ⟨rfl, hb⟩
    rw [HVV.out]
    clear hrd
    go_wp2_with fail
    have zX77 : U4.heap.size ≤ X77.heap.size := hb.size
    replace fA := blk_below fA hb; replace fB := blk_below fB hb; replace fR := blk_below fR hb; replace fC := Lib.hid (bstep fC.out hb)
    replace hT := Lib.hid (hT.out.below hb); replace hU_ := Lib.hid (hU_.out.below hb); replace hN1 := Lib.hid (hN1.out.below hb); replace fV := blk_below fV hb
    replace hN2 := Lib.hid (hN2.out.below hb); replace fN := blk_below fN hb
    refine hK.out _ _ ⟨blk_cell fV rfl, blk_cell fV rfl⟩ (fun hHeld135 => ?_)
    clear hK K hHeld0 hb
    try simp only [oT2_2, hwA]
    refine hwr 3 oT2_3 (fun K hK => ?_)
    obtain ⟨r0, r1, rf0, rf1⟩ := blkR fR
    dsimp only [oT2_3]; go_simp
    (try go_wp2_with fail)
    have hQq := stLet2 fR (.int .i64 k) (.slice (some ⟨X54.heap.size, 0, none⟩) 2 2)
    clear fR r0 r1 rf0 rf1
    obtain ⟨X78, hXq, hsq, fR, zX78a, zX78b⟩ := hQq
    rw [hXq]
    replace fA := hsq.blk (by omega) fA; replace fB := hsq.blk (by omega) fB; replace fC := Lib.hid (hsq.bel fC.out (by omega)); replace hT := Lib.hid (hsq.rep (fun b hb => by have : b < w.heap.size := hb; omega) hT.out)
    replace hU_ := Lib.hid (hsq.rep (fun b hb => by have : b < w.heap.size := hb; omega) hU_.out); replace hN1 := Lib.hid (hsq.rep (fun b hb => by have h1 : U1.heap.size ≤ b := hb.1; have h2 : b < X1.heap.size := hb.2; omega) hN1.out); replace fV := hsq.blk (by omega) fV; replace hN2 := Lib.hid (hsq.rep (fun b hb => by have h1 : X53.heap.size ≤ b := hb.1; have h2 : b < X54.heap.size := hb.2; omega) hN2.out)
    replace fN := hsq.blk (by omega) fN
    refine hK.out _ _ ⟨blk_cell fV rfl, blk_cell fV rfl⟩ (fun hHeld136 => ?_)
    clear hK K hHeld135 hsq hXq
    try simp only [oT2_3, hwA]
    refine hwt 4 oT2_4 (.bool vv) hHeld136 ?_ ?_
    · intro w' hSw; dsimp only [oT2_4]; go_simp
    try simp only [oT2_4, hwA]
    refine wpAnyH_done (by kernel_rfl) ?_ _
    refine NoPanic.normal ?_
    clear hHeld136
    have rc0 := blk_cell fR (o := 0) rfl
    have rc1 := blk_cell fR (o := 1) rfl
    go_wp2_with fail
    refine bodyPost_ret (v := .tuple #[.agg #[.int .i64 k, .slice (some ⟨X54.heap.size, 0, none⟩) 2 2], .bool vv]) (by simp [results, Try.results33, go_sem, rc0, rc1]) rfl ?_
    have hrd : TyRep (fun b => False ∨ w.heap.size ≤ b) X78 (.mk k [t, u]) (.agg #[.int .i64 k, .slice (some ⟨X54.heap.size, 0, none⟩) 2 2]) := TyRep.two_mk (F := fun b => False ∨ w.heap.size ≤ b) (w := X78) (b := X54.heap.size) (cap := 2) (k := k) (t := t) (u := u) (k1 := kc) (k2 := kd) (c1 := .slice ac nc qc) (c2 := .slice ad nd qd) (.inr (by omega)) (Nat.le_refl 2) (by unfold maxLen; omega) (blk_cell fN (o := 0) rfl) (blk_cell fN (o := 1) rfl) (blk_cell fN (o := 2) rfl) (blk_cell fN (o := 3) rfl) (hN1.out.move (.weaken fun b h _ => .inr (by have h1 := h.1; omega))) (hN2.out.move (.weaken fun b h _ => .inr (by have h1 := h.1; omega)))
    exact ⟨_, _, _, _, _, .mk k [t, u], rfl, (by rw [HO.out]; cases vv <;> rfl), hrd, (by rw [HO.out]; intro s h; cases vv <;> simp at h; exact h), fC.out⟩
  ·skip
   dsimp only [oT1_7]; go_simp
   (try go_wp2_with fail)
   obtain ⟨X79, hXq, hb, fV, zX79a, zX79b⟩ := alLet U1 (.cells #[.int .i64 0, .slice none 0 0] 31)
   rw [hXq]
   replace fA := blk_below fA hb; replace fB := blk_below fB hb; replace fR := blk_below fR hb; replace fC := Lib.hid (bstep fC.out hb)
   replace hT := Lib.hid (hT.out.below hb); replace hU_ := Lib.hid (hU_.out.below hb)
   refine hK.out _ _ ⟨blk_cell fA rfl, blk_cell fA rfl, blk_cell fB rfl, blk_cell fB rfl⟩ (fun hHeld1 => ?_)
   clear hK K hHeld0 hb hXq
   try simp only [oT1_7, hwA]
   refine hwr 2 oT1_2 (fun K hK => ?_)
   dsimp only [oT1_2]; go_simp
   go_at_call 49
   refine (specL1Copy _ t _ _ hT.out HCT.out).mono ?_
   rintro e X80 ⟨v, rfl, hv, hb⟩
   obtain ⟨kc, ac, nc, qc, rfl⟩ := hv.shape
   have hN1' : Hid (TyRep (fun b => X79.heap.size ≤ b ∧ b < X80.heap.size) X80 t (.agg #[.int .i64 kc, .slice ac nc qc])) := Lib.hid (hv.rep.move (.weaken fun b h1 h2 => ⟨h1, h2⟩))
   clear hv
   go_wp2_with fail
   have zX80 : X79.heap.size ≤ X80.heap.size := hb.size
   replace fA := blk_below fA hb; replace fB := blk_below fB hb; replace fR := blk_below fR hb; replace fC := Lib.hid (bstep fC.out hb)
   replace hT := Lib.hid (hT.out.below hb); replace hU_ := Lib.hid (hU_.out.below hb); replace fV := blk_below fV hb
   have hN1 := hN1'
   clear hN1'
   refine hK.out _ _ ⟨blk_cell fA rfl, blk_cell fA rfl, blk_cell fB rfl, blk_cell fB rfl⟩ (fun hHeld137 => ?_)
   clear hK K hHeld1 hb
   try simp only [oT1_2, hwA]
   refine hwr 4 oT1_4 (fun K hK => ?_)
   dsimp only [oT1_4]; go_simp
   go_at_call 49
   refine (specL1Copy _ u _ _ hU_.out HCU.out).mono ?_
   rintro e X81 ⟨v, rfl, hv, hb⟩
   obtain ⟨kd, ad, nd, qd, rfl⟩ := hv.shape
   have hN2' : Hid (TyRep (fun b => X80.heap.size ≤ b ∧ b < X81.heap.size) X81 u (.agg #[.int .i64 kd, .slice ad nd qd])) := Lib.hid (hv.rep.move (.weaken fun b h1 h2 => ⟨h1, h2⟩))
   clear hv
   go_wp2_with fail
   have zX81 : X80.heap.size ≤ X81.heap.size := hb.size
   replace fA := blk_below fA hb; replace fB := blk_below fB hb; replace fR := blk_below fR hb; replace fC := Lib.hid (bstep fC.out hb)
   replace hT := Lib.hid (hT.out.below hb); replace hU_ := Lib.hid (hU_.out.below hb); replace fV := blk_below fV hb; replace hN1 := Lib.hid (hN1.out.below hb)
   have hN2 := hN2'
   clear hN2'
   refine hK.out _ _ ⟨blk_cell fA rfl, blk_cell fA rfl, blk_cell fB rfl, blk_cell fB rfl⟩ (fun hHeld138 => ?_)
   clear hK K hHeld137 hb
   try simp only [oT1_4, hwA]
   refine hwr 5 oT1_5 (fun K hK => ?_)
   dsimp only [oT1_5]; go_simp
   (try go_wp2_with fail)
   obtain ⟨X82, hXq, hb, fN, zX82a, zX82b⟩ := alLet X81 (.cells #[.int .i64 kc, .slice ac nc qc, .int .i64 kd, .slice ad nd qd] 31)
   rw [hXq]
   replace fA := blk_below fA hb; replace fB := blk_below fB hb; replace fR := blk_below fR hb; replace fC := Lib.hid (bstep fC.out hb)
   replace hT := Lib.hid (hT.out.below hb); replace hU_ := Lib.hid (hU_.out.below hb); replace fV := blk_below fV hb; replace hN1 := Lib.hid (hN1.out.below hb)
   replace hN2 := Lib.hid (hN2.out.below hb)
   refine hK.out _ _ ⟨blk_cell fA rfl, blk_cell fA rfl, blk_cell fB rfl, blk_cell fB rfl⟩ (fun hHeld139 => ?_)
   clear hK K hHeld138 hb hXq
   try simp only [oT1_5, hwA]
   refine hwt 6 oT1_6 (.agg #[.int .i64 k, .slice (some ⟨X81.heap.size, 0, none⟩) 2 2]) hHeld139 ?_ ?_
   · intro w' hSw; dsimp only [oT1_6]; go_simp
   try simp only [oT1_6, hwA]
   refine hwr 8 oT1_8 (fun K hK => ?_)
   obtain ⟨r0, r1, rf0, rf1⟩ := blkR fV
   dsimp only [oT1_8]; go_simp
   (try go_wp2_with fail)
   have hQq := stLet2 fV (.int .i64 k) (.slice (some ⟨X81.heap.size, 0, none⟩) 2 2)
   clear fV r0 r1 rf0 rf1
   obtain ⟨X83, hXq, hsq, fV, zX83a, zX83b⟩ := hQq
   rw [hXq]
   replace fA := hsq.blk (by omega) fA; replace fB := hsq.blk (by omega) fB; replace fR := hsq.blk (by omega) fR; replace fC := Lib.hid (hsq.bel fC.out (by omega))
   replace hT := Lib.hid (hsq.rep (fun b hb => by have : b < w.heap.size := hb; omega) hT.out); replace hU_ := Lib.hid (hsq.rep (fun b hb => by have : b < w.heap.size := hb; omega) hU_.out); replace hN1 := Lib.hid (hsq.rep (fun b hb => by have h1 : X79.heap.size ≤ b := hb.1; have h2 : b < X80.heap.size := hb.2; omega) hN1.out); replace hN2 := Lib.hid (hsq.rep (fun b hb => by have h1 : X80.heap.size ≤ b := hb.1; have h2 : b < X81.heap.size := hb.2; omega) hN2.out)
   replace fN := hsq.blk (by omega) fN
   refine hK.out _ _ ⟨blk_cell fA rfl, blk_cell fA rfl, blk_cell fB rfl, blk_cell fB rfl⟩ (fun hHeld140 => ?_)
   clear hK K hHeld139 hsq hXq
   try simp only [oT1_8, hwA]
   refine wpAnyH_done (by kernel_rfl) ?_ _
   refine NoPanic.normal ?_
   clear hHeld140
   go_wp2_with fail
   refine wp_region_noPanic ?_
   refine wp_region_held_drew (S := fun w' => w'.cell? ⟨U1.heap.size, 0, none⟩ = some (.int .i64 k) ∧ w'.cell? ⟨U1.heap.size, 1, none⟩ = some (.slice (some ⟨X81.heap.size, 0, none⟩) 2 2)) (by kernel_rfl) ?_ (fun hHeld0 => ?_)
   · exact ⟨blk_cell fV rfl, blk_cell fV rfl⟩
   obtain ⟨U5, hU, hb, zU5a, zU5b⟩ := drLet X83
   rw [hU] at hHeld0 ⊢
   replace fA := blk_below fA hb; replace fB := blk_below fB hb; replace fR := blk_below fR hb; replace fC := Lib.hid (bstep fC.out hb)
   replace hT := Lib.hid (hT.out.below hb); replace hU_ := Lib.hid (hU_.out.below hb); replace fV := blk_below fV hb; replace hN1 := Lib.hid (hN1.out.below hb)
   replace hN2 := Lib.hid (hN2.out.below hb); replace fN := blk_below fN hb
   (try simp only [World.size_alloc] at zU5a zU5b)
   clear hU hb
   refine hwt 0 oT2_0 (.agg #[.int .i64 k, .slice (some ⟨X81.heap.size, 0, none⟩) 2 2]) hHeld0 ?_ ?_
   · intro w' hSw; dsimp only [oT2_0]; go_simp
   try simp only [oT2_0, hwA]
   refine hwt 1 oT2_1 (.agg #[.int .i64 k, .slice (some ⟨X81.heap.size, 0, none⟩) 2 2]) hHeld0 ?_ ?_
   · intro w' hSw; dsimp only [oT2_1]; go_simp
   try simp only [oT2_1, hwA]
   refine hwr 2 oT2_2 (fun K hK => ?_)
   dsimp only [oT2_2]; go_simp
   go_at_call 50
   have hrd : TyRep (fun b => False ∨ w.heap.size ≤ b) U5 (.mk k [t, u]) (.agg #[.int .i64 k, .slice (some ⟨X81.heap.size, 0, none⟩) 2 2]) := TyRep.two_mk (F := fun b => False ∨ w.heap.size ≤ b) (w := U5) (b := X81.heap.size) (cap := 2) (k := k) (t := t) (u := u) (k1 := kc) (k2 := kd) (c1 := .slice ac nc qc) (c2 := .slice ad nd qd) (.inr (by omega)) (Nat.le_refl 2) (by unfold maxLen; omega) (blk_cell fN (o := 0) rfl) (blk_cell fN (o := 1) rfl) (blk_cell fN (o := 2) rfl) (blk_cell fN (o := 3) rfl) (hN1.out.move (.weaken fun b h _ => .inr (by have h1 := h.1; omega))) (hN2.out.move (.weaken fun b h _ => .inr (by have h1 := h.1; omega)))
   refine (specTypeValid _ (.mk k [t, u]) _ _ hrd).mono ?_
   rintro e X104 ⟨rfl, hb⟩
   rw [HVV.out]
   clear hrd
   go_wp2_with fail
   have zX104 : U5.heap.size ≤ X104.heap.size := hb.size
   replace fA := blk_below fA hb; replace fB := blk_below fB hb; replace fR := blk_below fR hb; replace fC := Lib.hid (bstep fC.out hb)
   replace hT := Lib.hid (hT.out.below hb); replace hU_ := Lib.hid (hU_.out.below hb); replace fV := blk_below fV hb; replace hN1 := Lib.hid (hN1.out.below hb)
   replace hN2 := Lib.hid (hN2.out.below hb); replace fN := blk_below fN hb
   refine hK.out _ _ ⟨blk_cell fV rfl, blk_cell fV rfl⟩ (fun hHeld181 => ?_)
   clear hK K hHeld0 hb
   try simp only [oT2_2, hwA]
   refine hwr 3 oT2_3 (fun K hK => ?_)
   obtain ⟨r0, r1, rf0, rf1⟩ := blkR fR
   dsimp only [oT2_3]; go_simp
   (try go_wp2_with fail)
   have hQq := stLet2 fR (.int .i64 k) (.slice (some ⟨X81.heap.size, 0, none⟩) 2 2)
   clear fR r0 r1 rf0 rf1
   obtain ⟨X105, hXq, hsq, fR, zX105a, zX105b⟩ := hQq
   rw [hXq]
   replace fA := hsq.blk (by omega) fA; replace fB := hsq.blk (by omega) fB; replace fC := Lib.hid (hsq.bel fC.out (by omega)); replace hT := Lib.hid (hsq.rep (fun b hb => by have : b < w.heap.size := hb; omega) hT.out)
   replace hU_ := Lib.hid (hsq.rep (fun b hb => by have : b < w.heap.size := hb; omega) hU_.out); replace fV := hsq.blk (by omega) fV; replace hN1 := Lib.hid (hsq.rep (fun b hb => by have h1 : X79.heap.size ≤ b := hb.1; have h2 : b < X80.heap.size := hb.2; omega) hN1.out); replace hN2 := Lib.hid (hsq.rep (fun b hb => by have h1 : X80.heap.size ≤ b := hb.1; have h2 : b < X81.heap.size := hb.2; omega) hN2.out)
   replace fN := hsq.blk (by omega) fN
   refine hK.out _ _ ⟨blk_cell fV rfl, blk_cell fV rfl⟩ (fun hHeld182 => ?_)
   clear hK K hHeld181 hsq hXq
   try simp only [oT2_3, hwA]
   refine hwt 4 oT2_4 (.bool vv) hHeld182 ?_ ?_
   · intro w' hSw; dsimp only [oT2_4]; go_simp
   try simp only [oT2_4, hwA]
   refine wpAnyH_done (by kernel_rfl) ?_ _
   refine NoPanic.normal ?_
   clear hHeld182
   have rc0 := blk_cell fR (o := 0) rfl
   have rc1 := blk_cell fR (o := 1) rfl
   go_wp2_with fail
   refine bodyPost_ret (v := .tuple #[.agg #[.int .i64 k, .slice (some ⟨X81.heap.size, 0, none⟩) 2 2], .bool vv]) (by simp [results, Try.results33, go_sem, rc0, rc1]) rfl ?_
   have hrd : TyRep (fun b => False ∨ w.heap.size ≤ b) X105 (.mk k [t, u]) (.agg #[.int .i64 k, .slice (some ⟨X81.heap.size, 0, none⟩) 2 2]) := TyRep.two_mk (F := fun b => False ∨ w.heap.size ≤ b) (w := X105) (b := X81.heap.size) (cap := 2) (k := k) (t := t) (u := u) (k1 := kc) (k2 := kd) (c1 := .slice ac nc qc) (c2 := .slice ad nd qd) (.inr (by omega)) (Nat.le_refl 2) (by unfold maxLen; omega) (blk_cell fN (o := 0) rfl) (blk_cell fN (o := 1) rfl) (blk_cell fN (o := 2) rfl) (blk_cell fN (o := 3) rfl) (hN1.out.move (.weaken fun b h _ => .inr (by have h1 := h.1; omega))) (hN2.out.move (.weaken fun b h _ => .inr (by have h1 := h.1; omega)))
   exact ⟨_, _, _, _, _, .mk k [t, u], rfl, (by rw [HO.out]; cases vv <;> rfl), hrd, (by rw [HO.out]; intro s h; cases vv <;> simp at h; exact h), fC.out⟩
end Go.Proofs.Ytkhmkohgnikcmaa
