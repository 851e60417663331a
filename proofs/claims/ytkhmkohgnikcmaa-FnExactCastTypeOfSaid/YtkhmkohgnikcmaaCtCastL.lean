/-
  impl.castType at functions.
-/
import Derived.Test.YtkhmkohgnikcmaaCtCastA
import Derived.Test.YtkhmkohgnikcmaaB29
import Derived.Deep.AppendLies
import Derived.Deep.DeepCutAuto
namespace Go.Proofs.Ytkhmkohgnikcmaa
open Go.RowKit
set_option linter.unusedVariables false
set_option linter.unusedSimpArgs false
set_option maxRecDepth 100000

theorem BdG.mono {F F' : Nat → Prop} {B B' : Nat} {w : World} {v : Value} {bs : List Bd} (h : BdG F B w v bs) (hF : ∀ x, F x → F' x) (hB : B' ≤ B) : BdG F' B' w v bs := by
  obtain ⟨xs, h1, h2⟩ := h
  refine ⟨xs, ⟨h1.1, h1.2.imp id fun ⟨g, cap, cur, a, b, c⟩ => ⟨g, cap, cur, a, Nat.le_trans hB b, c⟩⟩, h2.move (.weaken fun b hb _ => ⟨hF b hb.1, hb.2⟩) _ _⟩
/-- Where the walk joins again behind the new context. -/
def CutCx (G : Nat → Prop) (l : List Bd) (E : Array Value) (w : World) (s : Value) (wx : World) : Prop := ∃ (ga : Addr) (gn gq B : Nat), s = .slice (some ga) gn gq ∧ Below w.heap.size w wx ∧ wx.heap[w.heap.size]? = some (.cells E 36 (0, 0)) ∧ wx.heap[w.heap.size + 1]? = some (.cells #[.int .i64 0, .slice none 0 0] 31 (0, 0)) ∧
  w.heap.size + 1 + 1 ≤ B ∧ B ≤ wx.heap.size ∧ BdsRep (fun x => (G x ∧ x < w.heap.size) ∨ w.heap.size + 1 + 1 ≤ x ∧ x < B) wx l (.slice (some ga) gn gq)
def oC3_0 : Oper := ⟨some 21, Op.move (Operand.tmp 0), 57, "l4_casts.go:45", #[], none⟩
def oC3_1 : Oper := ⟨some 22, Op.call { callee := Callee.value (Operand.func 37), args := #[Operand.tmp 21], argTypes := #[57] }, 57, "l4_casts.go:45", #[⟨0, .data⟩], none⟩
def oC3_2 : Oper := ⟨some 23, Op.fieldAddr 36 (Operand.tmp 3) 1, 0, "l4_casts.go:45", #[], none⟩
def oC3_3 : Oper := ⟨some 24, Op.load 9 (Operand.tmp 23), 9, "l4_casts.go:45", #[⟨2, .data⟩], none⟩
def oC3_4 : Oper := ⟨some 25, Op.fieldAddr 36 (Operand.tmp 3) 3, 0, "l4_casts.go:45", #[], none⟩
def oC3_5 : Oper := ⟨some 26, Op.load 31 (Operand.tmp 25), 31, "l4_casts.go:45", #[⟨4, .data⟩], none⟩
def oC3_6 : Oper := ⟨some 27, Op.build 66 #[(0, Operand.tmp 24), (1, Operand.tmp 26)], 66, "l4_casts.go:45", #[⟨3, .data⟩, ⟨5, .data⟩], none⟩
def oC3_7 : Oper := ⟨some 28, Op.buildSlice 57 1 #[(0, Operand.tmp 27)], 57, "l4_casts.go:45", #[⟨6, .data⟩], none⟩
def oC3_8 : Oper := ⟨some 29, Op.call { callee := Callee.builtin Builtin.append, args := #[Operand.tmp 22, Operand.tmp 28], argTypes := #[57, 57] }, 57, "l4_casts.go:45", #[⟨1, .data⟩, ⟨7, .data⟩, ⟨1, .chain⟩], none⟩
def oC3_9 : Oper := ⟨some 6, Op.assign (Operand.tmp 29), 57, "l4_casts.go:45", #[⟨8, .data⟩, ⟨8, .chain⟩, ⟨0, .phase⟩, ⟨1, .phase⟩, ⟨2, .phase⟩, ⟨3, .phase⟩, ⟨4, .phase⟩, ⟨5, .phase⟩, ⟨6, .phase⟩, ⟨7, .phase⟩, ⟨8, .phase⟩], none⟩
set_option maxHeartbeats 8000000 in
theorem implCT_l (G : Nat → Prop)  (nm : ByteArray) (u lb tk fk : Int) (ty src : Ty) (ts : List Tm) (l : List Bd) (xa ta fa ca : Option Addr) (xn xq tn tq fn fq cm cq : Nat) (w : World) (WO : List S → Option (List S × S))
    (he : TmRep G w (.mk 5 nm u ty src lb ts) (.agg #[.int .i64 5, .string nm, .int .i64 u, .int .i64 tk, .slice ta tn tq, .int .i64 fk, .slice fa fn fq, .int .i64 lb, .slice ca cm cq]))
    (hb : BdsRep G w l (.slice xa xn xq)) (hl : l.length ≤ 1000000) (HCL : ∀ W, Below w.heap.size w W → BdsRep (fun x => G x ∧ x < w.heap.size) W l (.slice xa xn xq) → Calls Try.prog 37 #[.slice xa xn xq] W (RetMG (fun x => G x ∧ x < w.heap.size) l W))
    (IH : ∀ t' ∈ ts, ∀ (W : World) (c' y' : Value) (P : Nat → Prop), BdsRep P W (l ++ [⟨nm, ty⟩]) c' → (∃ a m q, c' = .slice (some a) m q) → TmRep P W t' y' → Calls Try.prog 21 #[c', y'] W (RetOG P ((t'.castS (l ++ [⟨nm, ty⟩])).map S.ty) W))
    (IV : ∀ t' ∈ ts, ∀ h, t'.castS (l ++ [⟨nm, ty⟩]) = some h → h.vd = true)
    (HW : ∀ (hs : List S), hs.length = ts.length → (∀ h ∈ hs, h.vd = true) → ∀ (W : World) (H : Nat → Prop) (y : Value), TyRep H W ty (.agg #[.int .i64 tk, .slice ta tn tq]) → BdsRep H W l (.slice xa xn xq) → TysRep H W (hs.map S.ty) y → Calls Try.prog 39 #[.slice xa xn xq, .agg #[.int .i64 5, .string nm, .int .i64 u, .int .i64 tk, .slice ta tn tq, .int .i64 fk, .slice fa fn fq, .int .i64 lb, .slice ca cm cq], y] W (RetW H (WO hs) W))
    (HWL : ∀ hs ws t, WO hs = some (ws, t) → ws.length ≤ hs.length) (hsm : ts.length ≤ 3) :
    Calls Try.prog 21 #[.slice xa xn xq, .agg #[.int .i64 5, .string nm, .int .i64 u, .int .i64 tk, .slice ta tn tq, .int .i64 fk, .slice fa fn fq, .int .i64 lb, .slice ca cm cq]] w (RetOG G (((Tm.castsS ts (l ++ [⟨nm, ty⟩])).bind fun hs => progS (WO hs) hs).map S.ty) w) := by
  obtain ⟨-, -, -, -, -, -, -, -, hm, hnm, hmq, hqm, hty, hsrc, hks⟩ := he.parts
  simp only [Tm.type, Tm.src, Tm.kids, Tm.name] at hm hty hsrc hks hnm
  obtain ⟨i0, hi, hz0, hz1, hz2⟩ := info_parts Try.infoTy
  have Z0 := Lib.hid hz0
  have Z1 := Lib.hid hz1
  have Z2 := Lib.hid hz2
  have HI := Lib.hid hi
  have hm3 : cm ≤ 3 := by omega
  have HM := Lib.hid hm
  have HIH := Lib.hid IH
  have HIV := Lib.hid IV
  obtain ⟨i1, hi1, hy0, hy1, hy2⟩ := info_parts Try.infoBdC
  have Y0 := Lib.hid hy0
  have Y1 := Lib.hid hy1
  have Y2 := Lib.hid hy2
  have HI1 := Lib.hid hi1
  have HTYG := Lib.hid (hty.move (.weaken (G := (fun x => G x ∧ x < w.heap.size)) fun b h hl => ⟨h, hl⟩))
  have HXG := Lib.hid (hb.move (.weaken (G := (fun x => G x ∧ x < w.heap.size)) fun b h hl => ⟨h, hl⟩))
  have HCLN := Lib.hid (fun W (hW : Below w.heap.size w W) => HCL W hW (HXG.out.below hW))
  have HHL := Lib.hid hl
  have HTY0 := Lib.hid hty
  have HB0 := Lib.hid hb
  have HKS0 := Lib.hid hks
  have HWL0 := Lib.hid HW
  have HWLH := Lib.hid HWL
  obtain ⟨O, hO⟩ : ∃ O : Option Ty, O = ((Tm.castsS ts (l ++ [⟨nm, ty⟩])).bind fun hs => progS (WO hs) hs).map S.ty := ⟨_, rfl⟩
  rw [← hO]
  have HO := Lib.hid hO
  clear hO he hb IH IV HW HWL hty hsrc hks hi hz0 hz1 hz2 hm hi1 hy0 hy1 hy2 HCL hl
  go_enter Try.func21, Try.ntmps21
  go_upto_region 3 with fail
  go_cut [6] (fun s6 wx => CutCx G (l ++ [⟨nm, ty⟩]) #[.int .i64 5, .string nm, .int .i64 u, .int .i64 tk, .slice ta tn tq, .int .i64 fk, .slice fa fn fq, .int .i64 lb, .slice ca cm cq] w s6 wx)
  case first =>
    obtain ⟨VV, hVV⟩ : ∃ X, X = ((w.alloc (.cells #[.int .i64 5, .string nm, .int .i64 u, .int .i64 tk, .slice ta tn tq, .int .i64 fk, .slice fa fn fq, .int .i64 lb, .slice ca cm cq] 36)).alloc (.cells #[.int .i64 0, .slice none 0 0] 31)) := ⟨_, rfl⟩
    have fE : VV.heap[w.heap.size]? = some (.cells #[.int .i64 5, .string nm, .int .i64 u, .int .i64 tk, .slice ta tn tq, .int .i64 fk, .slice fa fn fq, .int .i64 lb, .slice ca cm cq] 36 (0, 0)) := by rw [hVV]; exact blk_below (blk_new rfl) bal1
    have fR : VV.heap[w.heap.size + 1]? = some (.cells #[.int .i64 0, .slice none 0 0] 31 (0, 0)) := by rw [hVV]; exact blk_new (by simp)
    have fC : Hid (Below w.heap.size w VV) := by rw [hVV]; exact Lib.hid (bstep bal1 bal1)
    rw [← hVV]
    have zV : VV.heap.size = _ := congrArg (fun X : World => X.heap.size) hVV
    simp only [World.size_alloc] at zV
    refine wp_region_noPanic ?_
    refine wp_region_held_drew (S := fun w' => w'.cell? ⟨w.heap.size, 1, none⟩ = some (.string nm) ∧ w'.cell? ⟨w.heap.size, 3, none⟩ = some (.int .i64 tk) ∧ w'.cell? ⟨w.heap.size, 4, none⟩ = some (.slice ta tn tq)) (by kernel_rfl) ?_ (fun hHeld0 => ?_)
    · exact ⟨blk_cell fE rfl, blk_cell fE rfl, blk_cell fE rfl⟩
    obtain ⟨U3, hU, hb, zU3a, zU3b⟩ := drLet VV
    rw [hU] at hHeld0 ⊢
    replace fE := blk_below fE hb; replace fR := blk_below fR hb; replace fC := Lib.hid (bstep fC.out hb)
    rw [zV] at zU3a zU3b
    clear hU hb hVV zV
    refine hwt 0 oC3_0 (.slice xa xn xq) hHeld0 ?_ ?_
    · intro w' hSw; dsimp only [oC3_0]; go_simp
    try simp only [oC3_0, hwA]
    refine hwt 2 oC3_2 (.pointer (some ⟨w.heap.size, 1, none⟩)) hHeld0 ?_ ?_
    · intro w' hSw; dsimp only [oC3_2]; go_simp
    try simp only [oC3_2, hwA]
    refine hwt 3 oC3_3 (.string nm) hHeld0 ?_ ?_
    · intro w' hSw; dsimp only [oC3_3]; go_simp
    try simp only [oC3_3, hwA]
    refine hwt 4 oC3_4 (.pointer (some ⟨w.heap.size, 3, none⟩)) hHeld0 ?_ ?_
    · intro w' hSw; dsimp only [oC3_4]; go_simp
    try simp only [oC3_4, hwA]
    refine hwt 5 oC3_5 (.agg #[.int .i64 tk, .slice ta tn tq]) hHeld0 ?_ ?_
    · intro w' hSw; dsimp only [oC3_5]; go_simp
    try simp only [oC3_5, hwA]
    refine hwt 6 oC3_6 (.agg #[.string nm, .int .i64 tk, .slice ta tn tq]) hHeld0 ?_ ?_
    · intro w' hSw; dsimp only [oC3_6]; go_simp
    try simp only [oC3_6, hwA]
    refine wpAnyH_ready (rs := [1, 7]) (by kernel_rfl) (by simp) ?_
    refine (AllReadyH.cons (o := oC3_1) rfl (fun K hK => ?_) (AllReadyH.cons (o := oC3_7) rfl (fun K hK => ?_) AllReadyH.nil))
    ·skip
     dsimp only [oC3_1]; go_simp
     go_at_call 37
     refine (HCLN.out _ fC.out).mono ?_
     rintro e X401 ⟨ax, qx, rfl, hm0, hb⟩
     have hM' : Hid (BdG (fun x => G x ∧ x < w.heap.size) (w.heap.size + 1 + 1) X401 (.slice ax l.length qx) l) := Lib.hid (hm0.mono (fun x h => h.1) (by omega))
     clear hm0
     go_wp2_with fail
     have zX401 : U3.heap.size ≤ X401.heap.size := hb.size
     replace fE := blk_below fE hb; replace fR := blk_below fR hb; replace fC := Lib.hid (bstep fC.out hb)
     have hM := hM'
     clear hM'
     refine hK.out _ _ ⟨blk_cell fE rfl, blk_cell fE rfl, blk_cell fE rfl⟩ (fun hHeld701 => ?_)
     clear hK K hHeld0 hb
     try simp only [oC3_1, hwA]
     refine hwr 7 oC3_7 (fun K hK => ?_)
     dsimp only [oC3_7]; go_simp
     (try go_wp2_with fail)
     obtain ⟨X402, hXq, hb, fN, zX402a, zX402b⟩ := alLet X401 (.cells #[.string nm, .int .i64 tk, .slice ta tn tq] 66)
     rw [hXq]
     replace fE := blk_below fE hb; replace fR := blk_below fR hb; replace fC := Lib.hid (bstep fC.out hb); replace hM := Lib.hid (hM.out.below hb)
     refine hK.out _ _ ⟨blk_cell fE rfl, blk_cell fE rfl, blk_cell fE rfl⟩ (fun hHeld702 => ?_)
     clear hK K hHeld701 hb hXq
     try simp only [oC3_7, hwA]
     refine hwr 8 oC3_8 (fun K hK => ?_)
     obtain ⟨xs5, ho5, hv5⟩ := hM.out
     have hv1 : BdVals (fun b => (G b ∧ b < w.heap.size) ∧ (Value.slice ax l.length qx).ownBlock ≠ some b) X402 [⟨nm, ty⟩] [.string nm, .int .i64 tk, .slice ta tn tq] := bdvals_one hnm ((HTYG.out.below fC.out).move (.weaken fun b hb _ => ⟨hb, fun e => by have := (ho5.lt b e).1; have := hb.2; omega⟩))
     have hl1 : l.length ≤ 1000000 := HHL.out
     refine step_append_lies _ (by rfl) (.tmp 22) (.tmp 28) 57 (by rfl) (w.heap.size + 1 + 1) 66 i1 _ 3 48 Try.underlying57 HI1.out Y0.out Y1.out Y2.out rfl (by omega) (.slice ax l.length qx) l.length xs5 (by rfl) ho5 ⟨X401.heap.size, 0, none⟩ 1 1 [.string nm, .int .i64 tk, .slice ta tn tq] (by rfl) (by rfl) (World.news_of_block (cs := #[.string nm, .int .i64 tk, .slice ta tn tq]) (t := 66) (fr := (0, 0)) fN) (by simp [Value.oneCell']) (by omega) (by unfold maxLen; omega) (by omega) (by omega) _ rfl ?_
     intro g6 cap6 w6 hown hgrow hat hlt3
     have M6 : BdG (fun x => G x ∧ x < w.heap.size) (w.heap.size + 1 + 1) w6 (.slice (some ⟨g6, 0, none⟩) (l.length + 1) cap6) (l ++ [⟨nm, ty⟩]) := BdG.push (W := X402) (v := .slice ax l.length qx) hv5 hv1 hown hgrow (by rcases hat with h | h; exact .inl (h.symm ▸ rfl); exact .inr (by rw [h]; rfl))
     have hb56 : Below (w.heap.size + 1 + 1) X402 w6 := Below.grown (Below.refl _ _) hgrow (by omega) (fun k hk => (ho5.lt k hk).1)
     have RF := Lib.hid (show BdsRep (fun x => (G x ∧ x < w.heap.size) ∨ w.heap.size + 1 + 1 ≤ x ∧ x < w6.heap.size) w6 (l ++ [⟨nm, ty⟩]) (.slice (some ⟨g6, 0, none⟩) (l.length + 1) cap6) from M6.rep.move (.weaken fun b h hl => h.imp id fun q => ⟨q, hl⟩))
     have fC2 := Lib.hid (fC.out.trans (hb56.mono (by omega)))
     have fE2 : w6.heap[w.heap.size]? = some (.cells #[.int .i64 5, .string nm, .int .i64 u, .int .i64 tk, .slice ta tn tq, .int .i64 fk, .slice fa fn fq, .int .i64 lb, .slice ca cm cq] 36 (0, 0)) := (hb56.block _ (by omega)).trans fE
     have fR2 : w6.heap[w.heap.size + 1]? = some (.cells #[.int .i64 0, .slice none 0 0] 31 (0, 0)) := (hb56.block _ (by omega)).trans fR
     have zz6 : X402.heap.size ≤ w6.heap.size := hgrow.size
     refine hK.out _ _ ⟨blk_cell fE2 (o := 1) rfl, blk_cell fE2 (o := 3) rfl, blk_cell fE2 (o := 4) rfl⟩ (fun hHeld703 => ?_)
     clear hK K hHeld702 fE fC fR fN hM ho5 hv5 hv1 hown hgrow hat M6 hb56
     try simp only [oC3_8, hwA]
     have fC := fC2
     have fE := fE2
     have fR := fR2
     clear fC2 fE2 fR2
     refine hwt 9 oC3_9 (.slice (some ⟨g6, 0, none⟩) (l.length + 1) cap6) hHeld703 ?_ ?_
     · intro w' hSw; dsimp only [oC3_9]; go_simp
     try simp only [oC3_9, hwA]
     refine wpAnyH_done (by kernel_rfl) ?_ _
     refine NoPanic.normal ?_
     clear hHeld703
     go_wp2_with fail
     go_meet
     exact ⟨_, _, _, w6.heap.size, rfl, fC.out, fE, fR, by omega, Nat.le_refl _, RF.out⟩
    ·skip
     dsimp only [oC3_7]; go_simp
     (try go_wp2_with fail)
     obtain ⟨X404, hXq, hb, fN, zX404a, zX404b⟩ := alLet U3 (.cells #[.string nm, .int .i64 tk, .slice ta tn tq] 66)
     rw [hXq]
     replace fE := blk_below fE hb; replace fR := blk_below fR hb; replace fC := Lib.hid (bstep fC.out hb)
     refine hK.out _ _ ⟨blk_cell fE rfl, blk_cell fE rfl, blk_cell fE rfl⟩ (fun hHeld701 => ?_)
     clear hK K hHeld0 hb hXq
     try simp only [oC3_7, hwA]
     refine hwr 1 oC3_1 (fun K hK => ?_)
     dsimp only [oC3_1]; go_simp
     go_at_call 37
     refine (HCLN.out _ fC.out).mono ?_
     rintro e X405 ⟨ax, qx, rfl, hm0, hb⟩
     have hM' : Hid (BdG (fun x => G x ∧ x < w.heap.size) (w.heap.size + 1 + 1) X405 (.slice ax l.length qx) l) := Lib.hid (hm0.mono (fun x h => h.1) (by omega))
     clear hm0
     go_wp2_with fail
     have zX405 : X404.heap.size ≤ X405.heap.size := hb.size
     replace fE := blk_below fE hb; replace fR := blk_below fR hb; replace fC := Lib.hid (bstep fC.out hb); replace fN := blk_below fN hb
     have hM := hM'
     clear hM'
     refine hK.out _ _ ⟨blk_cell fE rfl, blk_cell fE rfl, blk_cell fE rfl⟩ (fun hHeld704 => ?_)
     clear hK K hHeld701 hb
     try simp only [oC3_1, hwA]
     refine hwr 8 oC3_8 (fun K hK => ?_)
     obtain ⟨xs5, ho5, hv5⟩ := hM.out
     have hv1 : BdVals (fun b => (G b ∧ b < w.heap.size) ∧ (Value.slice ax l.length qx).ownBlock ≠ some b) X405 [⟨nm, ty⟩] [.string nm, .int .i64 tk, .slice ta tn tq] := bdvals_one hnm ((HTYG.out.below fC.out).move (.weaken fun b hb _ => ⟨hb, fun e => by have := (ho5.lt b e).1; have := hb.2; omega⟩))
     have hl1 : l.length ≤ 1000000 := HHL.out
     refine step_append_lies _ (by rfl) (.tmp 22) (.tmp 28) 57 (by rfl) (w.heap.size + 1 + 1) 66 i1 _ 3 48 Try.underlying57 HI1.out Y0.out Y1.out Y2.out rfl (by omega) (.slice ax l.length qx) l.length xs5 (by rfl) ho5 ⟨U3.heap.size, 0, none⟩ 1 1 [.string nm, .int .i64 tk, .slice ta tn tq] (by rfl) (by rfl) (World.news_of_block (cs := #[.string nm, .int .i64 tk, .slice ta tn tq]) (t := 66) (fr := (0, 0)) fN) (by simp [Value.oneCell']) (by omega) (by unfold maxLen; omega) (by omega) (by omega) _ rfl ?_
     intro g6 cap6 w6 hown hgrow hat hlt3
     have M6 : BdG (fun x => G x ∧ x < w.heap.size) (w.heap.size + 1 + 1) w6 (.slice (some ⟨g6, 0, none⟩) (l.length + 1) cap6) (l ++ [⟨nm, ty⟩]) := BdG.push (W := X405) (v := .slice ax l.length qx) hv5 hv1 hown hgrow (by rcases hat with h | h; exact .inl (h.symm ▸ rfl); exact .inr (by rw [h]; rfl))
     have hb56 : Below (w.heap.size + 1 + 1) X405 w6 := Below.grown (Below.refl _ _) hgrow (by omega) (fun k hk => (ho5.lt k hk).1)
     have RF := Lib.hid (show BdsRep (fun x => (G x ∧ x < w.heap.size) ∨ w.heap.size + 1 + 1 ≤ x ∧ x < w6.heap.size) w6 (l ++ [⟨nm, ty⟩]) (.slice (some ⟨g6, 0, none⟩) (l.length + 1) cap6) from M6.rep.move (.weaken fun b h hl => h.imp id fun q => ⟨q, hl⟩))
     have fC2 := Lib.hid (fC.out.trans (hb56.mono (by omega)))
     have fE2 : w6.heap[w.heap.size]? = some (.cells #[.int .i64 5, .string nm, .int .i64 u, .int .i64 tk, .slice ta tn tq, .int .i64 fk, .slice fa fn fq, .int .i64 lb, .slice ca cm cq] 36 (0, 0)) := (hb56.block _ (by omega)).trans fE
     have fR2 : w6.heap[w.heap.size + 1]? = some (.cells #[.int .i64 0, .slice none 0 0] 31 (0, 0)) := (hb56.block _ (by omega)).trans fR
     have zz6 : X405.heap.size ≤ w6.heap.size := hgrow.size
     refine hK.out _ _ ⟨blk_cell fE2 (o := 1) rfl, blk_cell fE2 (o := 3) rfl, blk_cell fE2 (o := 4) rfl⟩ (fun hHeld705 => ?_)
     clear hK K hHeld704 fE fC fR fN hM ho5 hv5 hv1 hown hgrow hat M6 hb56
     try simp only [oC3_8, hwA]
     have fC := fC2
     have fE := fE2
     have fR := fR2
     clear fC2 fE2 fR2
     refine hwt 9 oC3_9 (.slice (some ⟨g6, 0, none⟩) (l.length + 1) cap6) hHeld705 ?_ ?_
     · intro w' hSw; dsimp only [oC3_9]; go_simp
     try simp only [oC3_9, hwA]
     refine wpAnyH_done (by kernel_rfl) ?_ _
     refine NoPanic.normal ?_
     clear hHeld705
     go_wp2_with fail
     go_meet
     exact ⟨_, _, _, w6.heap.size, rfl, fC.out, fE, fR, by omega, Nat.le_refl _, RF.out⟩
  case rest =>
    obtain ⟨ga, gn, gq, B, rfl, hbc, hEc, hRc, hBl, hBu, hctx⟩ := hcut
    obtain ⟨PP, FF, hPF, hPQ⟩ : ∃ (PP FF : Nat → Prop), CtPF G w.heap.size B PP FF ∧ PP = (fun x => (G x ∧ x < w.heap.size) ∨ w.heap.size + 1 + 1 ≤ x ∧ x < B) := ⟨_, _, CtPF.more G w.heap.size B hBl, rfl⟩
    rw [← hPQ] at hctx
    have HPF := Lib.hid hPF
    have HB := Lib.hid hBl
    have HKS := Lib.hid (HKS0.out.move (.weaken (G := PP) fun b h hl => hPF.1 b h hl))
    have HCX0 := Lib.hid hctx
    have HBC := Lib.hid hbc
    have fE := Lib.hid hEc
    have fR := Lib.hid hRc
    have HWW := Lib.hid (fun hs h1 h2 W (hW : Below w.heap.size w W) y (hy : TysRep FF W (hs.map S.ty) y) => HWL0.out hs h1 h2 W FF y ((HTY0.out.move (.weaken (G := FF) fun b h hl => hPF.2.1 b (hPF.1 b h hl))).below hW) ((HB0.out.move (.weaken (G := FF) fun b h hl => hPF.2.1 b (hPF.1 b h hl))).below hW) hy)
    have y8 : wc.cell? ⟨w.heap.size, 8, none⟩ = some (.slice ca cm cq) := blk_cell hEc rfl
    have lEc := blk_lt hEc
    clear hPF hPQ hctx hbc hEc hRc HTY0 HB0 HKS0 HWL0 HTYG HXG HCLN
    go_wp2_with fail
    go_loopw [7, 33] (fun s7 s33 wr => ∃ (j : Nat) (hs : List S) (cv : Option Addr) (qv : Nat), j ≤ cm ∧ s7 = .slice cv j qv ∧ s33 = .int .i64 j ∧ Hid (Below w.heap.size w wr) ∧ B ≤ wr.heap.size ∧
        Hid (wr.heap[w.heap.size]? = some (.cells #[.int .i64 5, .string nm, .int .i64 u, .int .i64 tk, .slice ta tn tq, .int .i64 fk, .slice fa fn fq, .int .i64 lb, .slice ca cm cq] 36 (0, 0))) ∧ Hid (wr.heap[w.heap.size + 1]? = some (.cells #[.int .i64 0, .slice none 0 0] 31 (0, 0))) ∧ Hid (RowG FF B 31 2 wr (.slice cv j qv) j (Ty.rows (hs.map S.ty))) ∧ Hid (BdsRep PP wr (l ++ [⟨nm, ty⟩]) (.slice (some ga) gn gq)) ∧
        Hid (hs.length = j ∧ (∀ h ∈ hs, h.vd = true) ∧ Tm.castsS ts (l ++ [⟨nm, ty⟩]) = (Tm.castsS (ts.drop j) (l ++ [⟨nm, ty⟩])).map (hs ++ ·))) (fun _ i _ => cm - (intOf i).toNat)
    case atStart => exact ⟨0, [], _, _, by omega, rfl, rfl, HBC, hBu, fE, fR, Lib.hid RowG.nil, HCX0, Lib.hid ⟨rfl, by simp, by simp⟩⟩
    case round =>
      obtain ⟨j, hs, cv, qv, hj, rfl, rfl, hbw, hsz, hE, hR, hrow, hcx, hrel2⟩ := hrel
      clear fE fR HCX0 HBC y8
      have x0 : wr.cell? ⟨w.heap.size, 0, none⟩ = some (.int .i64 5) := blk_cell hE.out rfl
      have hB1 := HB.out
      have lx8 : w.heap.size < wr.heap.size := by omega
      by_cases hlt : j < cm
      · have hjt : j < ts.length := by rw [← HM.out]; exact hlt
        obtain ⟨b, off, kk0, nn0, uu0, tk0, ta0, tn0, tq0, fk0, fa0, fn0, fq0, ll0, a0, m0, q0, rfl, lb_, e0, e1, e2, e3, e4, e5, e6, e7, e8, ht⟩ := HKS.out.at hbw.out hjt
        have HC := Lib.hid (fun W (hW : Below wr.heap.size wr W) => HIH.out ts[j] (List.getElem_mem hjt) W (.slice (some ga) gn gq) _ PP (hcx.out.below hW) ⟨_, _, _, rfl⟩ (ht.below hW))
        have HCV := Lib.hid (HIV.out ts[j] (List.getElem_mem hjt))
        have HCD := Lib.hid (casts_drop (l := (l ++ [⟨nm, ty⟩])) hjt)
        generalize hoj : ts[j].castS (l ++ [⟨nm, ty⟩]) = oj at HC HCV HCD
        have lr := blk_lt hR.out
        have hz3 : j + 1 ≤ 3 := by omega
        clear hoj ht x0
        cases oj with
        | none =>
          have HREL := Lib.hid (show O = none from by rw [HO.out, hrel2.out.2.2, HCD.out]; rfl)
          go_wp2_with fail
          refine (HC.out _ bal1).mono ?_
          rintro e w1 ⟨kt, at_, nt, qt, bt, tt, rfl, hbt, htt, hot, hst⟩
          obtain rfl : bt = false := hbt
          have hR1 := blk_below (blk_below hR.out bal1) hst
          have HB1 := Lib.hid (bstep (bstep hbw.out bal1) hst)
          have hz1 := hst.size
          simp only [World.size_alloc] at hz1
          clear htt hot hst hcx hE hR hrow
          have r0 : w1.cell? ⟨w.heap.size + 1, 0, none⟩ = some (.int .i64 0) := blk_cell hR1 rfl
          have r1 : w1.cell? ⟨w.heap.size + 1, 1, none⟩ = some (.slice none 0 0) := blk_cell hR1 rfl
          have rf0 := blk_fro hR1 0
          have rf1 := blk_fro hR1 1
          have lr1 := blk_lt hR1
          have lr2 : w.heap.size + 1 < w1.heap.size + 1 := by omega
          go_wp2_with fail
          have hY : (((w1.setCell ⟨w.heap.size + 1, 0, none⟩ (.int .i64 0)).setCell ⟨w.heap.size + 1, 1, none⟩ (.slice none 0 0)).alloc (.cells #[.int .i64 kt, .slice at_ nt qt] 31)).heap[w.heap.size + 1]? = some (.cells #[.int .i64 0, .slice none 0 0] 31 (0, 0)) := blk_below (blk_set (blk_set hR1 rfl) rfl) bal1
          have rc0 := blk_cell hY (o := 0) rfl
          have rc1 := blk_cell hY (o := 1) rfl
          refine bodyPost_ret (v := .tuple #[.agg #[.int .i64 0, .slice none 0 0], .bool false]) (by simp [results, Try.results21, go_sem, rc0, rc1]) rfl ?_
          exact ⟨_, _, _, _, _, _, rfl, by rw [HREL.out]; rfl, TyRep.zeroG, (by rw [HREL.out]; intro s h; cases h), bstep ((HB1.out.setCell (p := ⟨w.heap.size + 1, 0, none⟩) (by show w.heap.size ≤ w.heap.size + 1; omega) _).setCell (p := ⟨w.heap.size + 1, 1, none⟩) (by show w.heap.size ≤ w.heap.size + 1; omega) _) bal1⟩
        | some hh =>
          have HVD := Lib.hid (HCV.out hh rfl)
          have HNX := Lib.hid (show Tm.castsS ts (l ++ [⟨nm, ty⟩]) = (Tm.castsS (ts.drop (j + 1)) (l ++ [⟨nm, ty⟩])).map ((hs ++ [hh]) ++ ·) from by
            rw [hrel2.out.2.2, HCD.out]
            cases Tm.castsS (ts.drop (j + 1)) (l ++ [⟨nm, ty⟩]) <;> simp)
          obtain ⟨hlenr, xs, ho, hvals⟩ := hrow.out
          have HLEN := Lib.hid hlenr
          have HOW := Lib.hid ho
          have HV := Lib.hid hvals
          clear hlenr ho hvals hrow
          go_wp2_with fail
          refine (HC.out _ bal1).mono ?_
          rintro e w1 ⟨kt, at_, nt, qt, bt, tt, rfl, hbt, htt, hot, hst⟩
          obtain rfl : bt = true := hbt
          obtain rfl : tt = hh.ty := hot _ rfl
          have HST := Lib.hid (bstep bal1 hst)
          have HT1 := Lib.hid (htt.move (.weaken (G := fun b => FF b ∧ (Value.slice cv j qv).ownBlock ≠ some b) fun b h _ => by
            rcases h with h | h
            · have h2 := HPF.out.2.2.2.2.2.1 b h
              exact ⟨HPF.out.2.1 b h, fun e => by have := (HOW.out.lt b e).1; omega⟩
            · simp only [World.size_alloc] at h
              exact ⟨HPF.out.2.2.1 b (by omega), fun e => by have := (HOW.out.lt b e).2; omega⟩))
          have hz1 := hst.size
          simp only [World.size_alloc] at hz1
          have hW := Lib.hid (show Below wr.heap.size wr ((w1.alloc (.cells #[.int .i64 kt, .slice at_ nt qt] 31)).alloc (.cells #[.int .i64 kt, .slice at_ nt qt] 31)) from bstep (bstep HST.out bal1) bal1)
          clear htt hot hst
          go_wp2_with (first | (at_builtin; refine wpList_append_lies _ rfl (.tmp 46) (.tmp 48) 29 rfl B 31 i0 _ 2 32 Try.underlying29 HI.out Z0.out Z1.out Z2.out rfl (by omega) (.slice cv j qv) j xs rfl (ownsRow_below HOW.out hW.out) ⟨w1.heap.size + 1, 0, none⟩ 1 1 [.int .i64 kt, .slice at_ nt qt] rfl rfl (World.news_of_block (cs := #[.int .i64 kt, .slice at_ nt qt]) (t := 31) (fr := (0, 0)) (blk_new (by simp))) (by simp [Value.oneCell']) (by omega) (by unfold maxLen; omega) (by omega) (by simp; omega) _ rfl ?_) | fail)
          intro gg cap2 w6 hown2 hgrow hat hlt2
          have HROW := Lib.hid (RowG.push HLEN.out HV.out hW.out ((HT1.out.below bal1).below bal1).srep hown2 hgrow (by simpa using hat))
          have HBEL := Lib.hid (grown_below hbw.out hW.out HOW.out (by omega) hgrow)
          have hfar := grown_far hW.out HOW.out hgrow
          have HFAR := Lib.hid hfar
          have hsz6 : wr.heap.size ≤ w6.heap.size := Nat.le_trans hW.out.size hgrow.size
          have HCX6 := Lib.hid (show BdsRep PP w6 (l ++ [⟨nm, ty⟩]) (.slice (some ga) gn gq) from hcx.out.move ⟨hsz6, fun _ h _ => h, fun b h hl => HFAR.out b hl (HPF.out.2.2.2.2.2.1 b h)⟩)
          clear hown2 hgrow hat hfar hcx
          go_wp2_with fail
          go_roundw
          case rel => exact ⟨j + 1, hs ++ [hh], _, _, by omega, rfl, by go_num, HBEL, by omega, Lib.hid ((HFAR.out w.heap.size (by omega) (by omega)).trans hE.out), Lib.hid ((HFAR.out (w.heap.size + 1) (by omega) (by omega)).trans hR.out), (by
              unfold Hid
              have e1 : Ty.rows ((hs ++ [hh]).map S.ty) = Ty.rows (hs.map S.ty) ++ [hh.ty.row] := by simp [Ty.rows_eq]
              rw [e1]
              exact HROW.out), HCX6, Lib.hid ⟨by simp [hrel2.out.1], fun h hm => (List.mem_append.1 hm).elim (hrel2.out.2.1 h) (fun q => by simp at q; subst q; exact HVD.out), HNX.out⟩⟩
          case measure => simp [intOf]; omega
      · have HJE := Lib.hid (show j = cm by omega)
        have HJL := Lib.hid (show ts.drop j = [] from List.drop_eq_nil_of_le (by have := HM.out; have := HJE.out; omega))
        have HREL0 := Lib.hid (show O = (progS (WO hs) hs).map S.ty from by
          rw [HO.out, hrel2.out.2.2, HJL.out, Tm.castsS]
          simp)
        have HTY := Lib.hid (show TysRep FF wr (hs.map S.ty) (.slice cv j qv) from hrow.out.rep HPF.out.2.2.1)
        have HLJ := Lib.hid (show hs.length = j from hrel2.out.1)
        have HCX := Lib.hid (HWW.out hs (by have := hrel2.out.1; have := HM.out; have := HJE.out; omega) hrel2.out.2.1 wr hbw.out _ HTY.out)
        have HWB := Lib.hid (HWLH.out hs)
        have d1 : wr.cell? ⟨w.heap.size, 1, none⟩ = some (.string nm) := blk_cell hE.out rfl
        have d2 : wr.cell? ⟨w.heap.size, 2, none⟩ = some (.int .i64 u) := blk_cell hE.out rfl
        have d3 : wr.cell? ⟨w.heap.size, 3, none⟩ = some (.int .i64 tk) := blk_cell hE.out rfl
        have d4 : wr.cell? ⟨w.heap.size, 4, none⟩ = some (.slice ta tn tq) := blk_cell hE.out rfl
        have d5 : wr.cell? ⟨w.heap.size, 5, none⟩ = some (.int .i64 fk) := blk_cell hE.out rfl
        have d6 : wr.cell? ⟨w.heap.size, 6, none⟩ = some (.slice fa fn fq) := blk_cell hE.out rfl
        have d7 : wr.cell? ⟨w.heap.size, 7, none⟩ = some (.int .i64 lb) := blk_cell hE.out rfl
        have d8 : wr.cell? ⟨w.heap.size, 8, none⟩ = some (.slice ca cm cq) := blk_cell hE.out rfl
        clear hrow hcx hrel2
        go_wp2_with fail
        refine HCX.out.mono ?_
        rintro e w1 ⟨kt, at_, nt, qt, za, zn, zq, bt, rfl, hbt, hot, hst⟩
        have hR1 := blk_below hR.out hst
        have HB1 := Lib.hid (bstep hbw.out hst)
        have HTYW := Lib.hid (fun W (hW : Below w1.heap.size w1 W) => HTY.out.below (bstep hst hW))
        have hz1 := hst.size
        have HOT := Lib.hid hot
        clear hot hst hE hR d1 d2 d3 d4 d5 d6 d7 d8 x0 HCX HWW
        generalize WO hs = wo at HREL0 HOT HWB hbt
        cases wo with
        | none =>
          obtain rfl : bt = false := hbt
          have HREL := Lib.hid (show O = none from HREL0.out)
          have r0 : w1.cell? ⟨w.heap.size + 1, 0, none⟩ = some (.int .i64 0) := blk_cell hR1 rfl
          have r1 : w1.cell? ⟨w.heap.size + 1, 1, none⟩ = some (.slice none 0 0) := blk_cell hR1 rfl
          have rf0 := blk_fro hR1 0
          have rf1 := blk_fro hR1 1
          have lr1 := blk_lt hR1
          have lr2 : w.heap.size + 1 < w1.heap.size + 1 := by omega
          go_wp2_with fail
          have hY : (((w1.setCell ⟨w.heap.size + 1, 0, none⟩ (.int .i64 0)).setCell ⟨w.heap.size + 1, 1, none⟩ (.slice none 0 0)).alloc (.cells #[.int .i64 kt, .slice at_ nt qt] 31)).heap[w.heap.size + 1]? = some (.cells #[.int .i64 0, .slice none 0 0] 31 (0, 0)) := blk_below (blk_set (blk_set hR1 rfl) rfl) bal1
          have rc0 := blk_cell hY (o := 0) rfl
          have rc1 := blk_cell hY (o := 1) rfl
          refine bodyPost_ret (v := .tuple #[.agg #[.int .i64 0, .slice none 0 0], .bool false]) (by simp [results, Try.results21, go_sem, rc0, rc1]) rfl ?_
          exact ⟨_, _, _, _, _, _, rfl, by rw [HREL.out]; rfl, TyRep.zeroG, (by rw [HREL.out]; intro s h; cases h), bstep ((HB1.out.setCell (p := ⟨w.heap.size + 1, 0, none⟩) (by show w.heap.size ≤ w.heap.size + 1; omega) _).setCell (p := ⟨w.heap.size + 1, 1, none⟩) (by show w.heap.size ≤ w.heap.size + 1; omega) _) bal1⟩
        | some p =>
          obtain ⟨ws, t⟩ := p
          obtain rfl : bt = true := hbt
          obtain ⟨hwsR, htR⟩ := HOT.out ws t rfl
          have HLW := Lib.hid (HWB.out ws t rfl)
          have HTR := Lib.hid (htR.move (.weaken (G := FF) fun b h _ => h.elim id fun q => HPF.out.2.2.1 b (by omega)))
          have HWS := Lib.hid (hwsR.move (.weaken (G := FF) fun b h _ => h.elim id fun q => HPF.out.2.2.1 b (by omega)))
          have hzn : zn = ws.length := by
            obtain ⟨a', cap', he, -⟩ := hwsR.open
            simp only [Value.slice.injEq, List.length_map] at he
            exact he.2.1
          have HZN := Lib.hid hzn
          clear hwsR htR hzn HOT HWB
          have fV0 := blk_new (w := w1) (o := .cells #[.int .i64 kt, .slice at_ nt qt] 31) (b := w1.heap.size) rfl
          obtain ⟨vd, hvd⟩ : ∃ vd, t.vd = vd := ⟨_, rfl⟩
          have HVD := Lib.hid hvd
          have HTV := Lib.hid (fun W (hW : Below w1.heap.size w1 W) => (S.valid t).trans hvd ▸ implTypeValid FF t.ty _ W (HTR.out.below hW))
          clear hvd
          go_wp2_with fail
          refine (HTV.out _ bal1).mono ?_
          rintro e w2 ⟨rfl, hst2⟩
          have hR2 := blk_below (blk_below hR1 bal1) hst2
          have HB2 := Lib.hid (bstep (bstep HB1.out bal1) hst2)
          have fV2 := blk_below fV0 hst2
          have HST2 := Lib.hid (show Below w1.heap.size w1 w2 from bstep bal1 hst2)
          have hz2 := hst2.size
          simp only [World.size_alloc] at hz2
          have lr1 := blk_lt hR2
          clear hst2 hR1 fV0
          cases vd with
          | false =>
            have HREL := Lib.hid (show O = none from by rw [HREL0.out, prog_v HVD.out]; rfl)
            have r0 : w2.cell? ⟨w.heap.size + 1, 0, none⟩ = some (.int .i64 0) := blk_cell hR2 rfl
            have r1 : w2.cell? ⟨w.heap.size + 1, 1, none⟩ = some (.slice none 0 0) := blk_cell hR2 rfl
            have rf0 := blk_fro hR2 0
            have rf1 := blk_fro hR2 1
            go_wp2_with fail
            have hY : ((w2.setCell ⟨w.heap.size + 1, 0, none⟩ (.int .i64 0)).setCell ⟨w.heap.size + 1, 1, none⟩ (.slice none 0 0)).heap[w.heap.size + 1]? = some (.cells #[.int .i64 0, .slice none 0 0] 31 (0, 0)) := blk_set (blk_set hR2 rfl) rfl
            have rc0 := blk_cell hY (o := 0) rfl
            have rc1 := blk_cell hY (o := 1) rfl
            refine bodyPost_ret (v := .tuple #[.agg #[.int .i64 0, .slice none 0 0], .bool false]) (by simp [results, Try.results21, go_sem, rc0, rc1]) rfl ?_
            exact ⟨_, _, _, _, _, _, rfl, by rw [HREL.out]; rfl, TyRep.zeroG, (by rw [HREL.out]; intro s h; cases h), (HB2.out.setCell (p := ⟨w.heap.size + 1, 0, none⟩) (by show w.heap.size ≤ w.heap.size + 1; omega) _).setCell (p := ⟨w.heap.size + 1, 1, none⟩) (by show w.heap.size ≤ w.heap.size + 1; omega) _⟩
          | true =>
            have hz30 : zn ≤ 1048576 := by have := HZN.out; have := HLW.out; have := HLJ.out; omega
            have fV20 := blk_cell fV2 (o := 0) rfl
            have fV21 := blk_cell fV2 (o := 1) rfl
            go_wp2_with fail
            go_loopw [80] (fun s80 wr => ∃ i : Nat, i ≤ zn ∧ s80 = .int .i64 i ∧ Hid (Below w2.heap.size w2 wr) ∧ Hid (∀ x, x < i → ws[x]? = hs[x]?)) (fun i _ => zn - (intOf i).toNat)
            case atStart => exact ⟨0, by omega, rfl, Lib.hid (Below.refl _ _), Lib.hid (fun x h => absurd h (Nat.not_lt_zero _))⟩
            case round =>
              obtain ⟨i, hi, rfl, hbx, hpre⟩ := hrel
              have hRx := blk_below hR2 hbx.out
              have fVx := blk_below fV2 hbx.out
              have hzx := hbx.out.size
              have HBX := Lib.hid (bstep HB2.out hbx.out)
              have HSX := Lib.hid (bstep HST2.out hbx.out)
              clear fV20 fV21
              have lrx := blk_lt hRx
              have lrx1 : w.heap.size + 1 < wr.heap.size + 1 := by omega
              by_cases hli : i < zn
              · have hiw : i < ws.length := by have := HZN.out; omega
                have hih : i < hs.length := by have := HLW.out; omega
                have hij : i < j := by have := HLJ.out; omega
                obtain ⟨bw, ow, kw, cw, mw, qw, rfl, lbw, w0_, w1_, htw⟩ := HWS.out.at HSX.out (i := i) (by simpa using hiw)
                obtain ⟨bh, oh, kh, ch, mh, qh, rfl, lbh, h0_, h1_, hth⟩ := (HTYW.out wr HSX.out).at (Below.refl _ _) (i := i) (by simpa using hih)
                rw [List.getElem_map] at htw hth
                have HTW := Lib.hid htw
                have HTH := Lib.hid hth
                obtain ⟨bs, hbs⟩ : ∃ bs, ws[i].ty.same hs[i].ty = bs := ⟨_, rfl⟩
                have HSM := Lib.hid (fun W (hW : Below wr.heap.size wr W) => hbs ▸ implTypeSame FF FF ws[i].ty hs[i].ty _ _ W (htw.below hW) (hth.below hW))
                have HBS := Lib.hid (show bs = decide (ws[i] = hs[i]) from by rw [← hbs, S.same])
                clear htw hth hbs
                go_wp2_with fail
                have HBW := Lib.hid (show Below wr.heap.size wr (wr.alloc (.cells #[.int .i64 kw, .slice cw mw qw] 31)) from bal1)
                obtain ⟨VV, hVV⟩ : ∃ X, X = (wr.alloc (.cells #[.int .i64 kw, .slice cw mw qw] 31)) := ⟨_, rfl⟩
                have fT : VV.heap[wr.heap.size]? = some (.cells #[.int .i64 kw, .slice cw mw qw] 31 (0, 0)) := by rw [hVV]; exact blk_new rfl
                have fR : VV.heap[w.heap.size + 1]? = some (.cells #[.int .i64 0, .slice none 0 0] 31 (0, 0)) := by rw [hVV]; exact blk_below hRx bal1
                have ca_ : VV.cell? ⟨bh, oh + i * 2, none⟩ = some (.int .i64 kh) := by rw [hVV]; exact bcell bal1 h0_
                have cb_ : VV.cell? ⟨bh, oh + i * 2 + 1, none⟩ = some (.slice ch mh qh) := by rw [hVV]; exact bcell bal1 h1_
                have fC : Hid (Below wr.heap.size wr VV) := by rw [hVV]; exact HBW
                rw [← hVV]
                have zV : VV.heap.size = _ := congrArg (fun X : World => X.heap.size) hVV
                simp only [World.size_alloc] at zV
                refine wp_region_noPanic ?_
                refine wp_region_held_drew (S := fun w' => w'.cell? ⟨wr.heap.size, 0, none⟩ = some (.int .i64 kw) ∧ w'.cell? ⟨wr.heap.size, 1, none⟩ = some (.slice cw mw qw) ∧ w'.cell? ⟨bh, oh + i * 2, none⟩ = some (.int .i64 kh) ∧ w'.cell? ⟨bh, oh + i * 2 + 1, none⟩ = some (.slice ch mh qh)) (by kernel_rfl) ?_ (fun hHeld0 => ?_)
                · exact ⟨blk_cell fT rfl, blk_cell fT rfl, ca_, cb_⟩
                obtain ⟨U2, hU, hb, zU2a, zU2b⟩ := drLet VV
                rw [hU] at hHeld0 ⊢
                replace fT := blk_below fT hb; replace fR := blk_below fR hb; replace ca_ := bcell hb ca_; replace cb_ := bcell hb cb_
                replace fC := Lib.hid (bstep fC.out hb)
                rw [zV] at zU2a zU2b
                clear hU hb hVV zV
                refine hwt 0 oC21_0 (.agg #[.int .i64 kw, .slice cw mw qw]) hHeld0 ?_ ?_
                · intro w' hSw; dsimp only [oC21_0]; go_simp
                try simp only [oC21_0, hwA]
                refine hwt 1 oC21_1 (.slice (some ⟨bh, oh, none⟩) j qv) hHeld0 ?_ ?_
                · intro w' hSw; dsimp only [oC21_1]; go_simp
                try simp only [oC21_1, hwA]
                refine hwt 2 oC21_2 (.int .i64 i) hHeld0 ?_ ?_
                · intro w' hSw; dsimp only [oC21_2]; go_simp
                try simp only [oC21_2, hwA]
                refine hwt 3 oC21_3 (.pointer (some ⟨bh, oh + i * 2, none⟩)) hHeld0 ?_ ?_
                · intro w' hSw; dsimp only [oC21_3]; go_simp
                try simp only [oC21_3, hwA]
                refine hwt 4 oC21_4 (.agg #[.int .i64 kh, .slice ch mh qh]) hHeld0 ?_ ?_
                · intro w' hSw; dsimp only [oC21_4]; go_simp
                try simp only [oC21_4, hwA]
                refine hwr 5 oC21_5 (fun K hK => ?_)
                dsimp only [oC21_5]; go_simp
                go_at_call 38
                refine (HSM.out _ fC.out).mono ?_
                rintro e X1 ⟨rfl, hb⟩
                go_wp2_with fail
                have zX1 : U2.heap.size ≤ X1.heap.size := hb.size
                replace fT := blk_below fT hb; replace fR := blk_below fR hb; replace ca_ := bcell hb ca_; replace cb_ := bcell hb cb_
                replace fC := Lib.hid (bstep fC.out hb)
                refine hK.out _ _ ⟨blk_cell fT rfl, blk_cell fT rfl, ca_, cb_⟩ (fun hHeld1 => ?_)
                clear hK K hHeld0 hb
                try simp only [oC21_5, hwA]
                refine hwt 6 oC21_6 (.bool (!bs)) hHeld1 ?_ ?_
                · intro w' hSw; dsimp only [oC21_6]; go_simp
                try simp only [oC21_6, hwA]
                refine wpAnyH_done (by kernel_rfl) ?_ _
                refine NoPanic.normal ?_
                clear hHeld1
                cases bs with
                | false =>
                  have HREL := Lib.hid (show O = none from by rw [HREL0.out, prog_f hiw hih (by have := HBS.out; simpa using this)]; rfl)
                  have r0 : X1.cell? ⟨w.heap.size + 1, 0, none⟩ = some (.int .i64 0) := blk_cell fR rfl
                  have r1 : X1.cell? ⟨w.heap.size + 1, 1, none⟩ = some (.slice none 0 0) := blk_cell fR rfl
                  have rf0 := blk_fro fR 0
                  have rf1 := blk_fro fR 1
                  go_wp2_with fail
                  have hY : ((X1.setCell ⟨w.heap.size + 1, 0, none⟩ (.int .i64 0)).setCell ⟨w.heap.size + 1, 1, none⟩ (.slice none 0 0)).heap[w.heap.size + 1]? = some (.cells #[.int .i64 0, .slice none 0 0] 31 (0, 0)) := blk_set (blk_set fR rfl) rfl
                  have rc0 := blk_cell hY (o := 0) rfl
                  have rc1 := blk_cell hY (o := 1) rfl
                  refine bodyPost_ret (v := .tuple #[.agg #[.int .i64 0, .slice none 0 0], .bool false]) (by simp [results, Try.results21, go_sem, rc0, rc1]) rfl ?_
                  exact ⟨_, _, _, _, _, _, rfl, by rw [HREL.out]; rfl, TyRep.zeroG, (by rw [HREL.out]; intro s h; cases h), ((bstep HBX.out fC.out).setCell (p := ⟨w.heap.size + 1, 0, none⟩) (by show w.heap.size ≤ w.heap.size + 1; omega) _).setCell (p := ⟨w.heap.size + 1, 1, none⟩) (by show w.heap.size ≤ w.heap.size + 1; omega) _⟩
                | true =>
                  have HNX := Lib.hid (show ∀ x, x < i + 1 → ws[x]? = hs[x]? from fun x hx => by
                    by_cases q : x = i
                    · subst q
                      rw [List.getElem?_eq_getElem hiw, List.getElem?_eq_getElem hih]
                      have := HBS.out
                      simp at this
                      rw [this]
                    · exact hpre.out x (by omega))
                  go_wp2_with fail
                  go_roundw
                  case rel => exact ⟨i + 1, by omega, by go_num, Lib.hid (bstep hbx.out fC.out), HNX⟩
                  case measure => simp [intOf]; omega
              · have HIE := Lib.hid (show i = zn by omega)
                have HREL := Lib.hid (show O = some t.ty from by rw [HREL0.out, prog_t HVD.out (show i = ws.length from HIE.out.trans HZN.out) HLW.out hpre.out]; rfl)
                have r0 : wr.cell? ⟨w.heap.size + 1, 0, none⟩ = some (.int .i64 0) := blk_cell hRx rfl
                have r1 : wr.cell? ⟨w.heap.size + 1, 1, none⟩ = some (.slice none 0 0) := blk_cell hRx rfl
                have rf0 := blk_fro hRx 0
                have rf1 := blk_fro hRx 1
                have x0 := blk_cell fVx (o := 0) rfl
                have x1 := blk_cell fVx (o := 1) rfl
                clear hpre
                go_wp2_with fail
                have hY : ((wr.setCell ⟨w.heap.size + 1, 0, none⟩ (.int .i64 kt)).setCell ⟨w.heap.size + 1, 1, none⟩ (.slice at_ nt qt)).heap[w.heap.size + 1]? = some (.cells #[.int .i64 kt, .slice at_ nt qt] 31 (0, 0)) := blk_set (blk_set hRx rfl) rfl
                have rc0 := blk_cell hY (o := 0) rfl
                have rc1 := blk_cell hY (o := 1) rfl
                refine bodyPost_ret (v := .tuple #[.agg #[.int .i64 kt, .slice at_ nt qt], .bool true]) (by simp [results, Try.results21, go_sem, rc0, rc1]) rfl ?_
                have hne : ∀ b, FF b → b ≠ w.heap.size + 1 := HPF.out.2.2.2.1
                exact ⟨_, _, _, _, _, t.ty, rfl, by rw [HREL.out]; rfl, (TyRep.setN (TyRep.setN (HTR.out.below HSX.out) hne) hne).move (.weaken fun b h _ => HPF.out.2.2.2.2.1 b h), (by rw [HREL.out]; intro s h; exact Option.some.inj h), (HBX.out.setCell (p := ⟨w.heap.size + 1, 0, none⟩) (by show w.heap.size ≤ w.heap.size + 1; omega) _).setCell (p := ⟨w.heap.size + 1, 1, none⟩) (by show w.heap.size ≤ w.heap.size + 1; omega) _⟩
end Go.Proofs.Ytkhmkohgnikcmaa
