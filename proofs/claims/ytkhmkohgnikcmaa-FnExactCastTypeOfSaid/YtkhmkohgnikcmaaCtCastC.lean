/-
  impl.castType at casts.
-/
import Derived.Test.YtkhmkohgnikcmaaCtCastA
import Derived.Deep.AppendLies
import Derived.Deep.DeepCutAuto
namespace Go.Proofs.Ytkhmkohgnikcmaa
open Go.RowKit
set_option linter.unusedVariables false
set_option linter.unusedSimpArgs false
set_option maxRecDepth 100000

theorem TysRep.blkF {F : Nat → Prop} {w : World} {t : Ty} {b off n q : Nat} (h : TysRep F w [t] (.slice (some ⟨b, off, none⟩) n q)) : F b := by
  unfold TysRep CRep at h
  obtain ⟨a, cap, he, -, -, h4⟩ := h
  simp only [Value.slice.injEq] at he
  rcases h4 with h4 | ⟨b', off', ha, hF, -⟩
  · simp [Ty.rows] at h4
  · rw [← he.1] at ha
    simp only [Option.some.injEq, Addr.mk.injEq] at ha
    rw [ha.1]; exact hF
def oC14_0 : Oper := ⟨some 54, Op.fieldAddr 36 (Operand.tmp 3) 3, 0, "l4_casts.go:56", #[], none⟩
def oC14_1 : Oper := ⟨some 55, Op.load 31 (Operand.tmp 54), 31, "l4_casts.go:56", #[⟨0, .data⟩], none⟩
def oC14_2 : Oper := ⟨some 56, Op.move (Operand.tmp 7), 29, "l4_casts.go:56", #[], none⟩
def oC14_3 : Oper := ⟨some 57, Op.indexAddr 29 (Operand.tmp 56) (Operand.const (Value.int IntKind.i64 0)), 0, "l4_casts.go:56", #[⟨2, .data⟩], none⟩
def oC14_4 : Oper := ⟨some 58, Op.load 31 (Operand.tmp 57), 31, "l4_casts.go:56", #[⟨3, .data⟩], none⟩
def oC14_5 : Oper := ⟨some 59, Op.fieldAddr 36 (Operand.tmp 3) 4, 0, "l4_casts.go:56", #[], none⟩
def oC14_6 : Oper := ⟨some 60, Op.load 31 (Operand.tmp 59), 31, "l4_casts.go:56", #[⟨5, .data⟩], none⟩
def oC14_7 : Oper := ⟨some 61, Op.call { callee := Callee.value (Operand.func 38), args := #[Operand.tmp 58, Operand.tmp 60], argTypes := #[31, 31] }, 4, "l4_casts.go:56", #[⟨4, .data⟩, ⟨6, .data⟩], none⟩
def oC14_8 : Oper := ⟨none, Op.store 31 (Operand.tmp 4) (Operand.tmp 55), 0, "l4_casts.go:56", #[⟨1, .data⟩, ⟨7, .chain⟩, ⟨0, .phase⟩, ⟨1, .phase⟩, ⟨2, .textOnly .lateStores⟩, ⟨3, .textOnly .lateStores⟩, ⟨4, .textOnly .lateStores⟩, ⟨5, .textOnly .lateStores⟩, ⟨6, .textOnly .lateStores⟩, ⟨7, .textOnly .lateStoresUnsure⟩], none⟩
def oC14_9 : Oper := ⟨some 5, Op.assign (Operand.tmp 61), 4, "l4_casts.go:56", #[⟨7, .data⟩, ⟨8, .chain⟩, ⟨0, .phase⟩, ⟨1, .phase⟩, ⟨2, .phase⟩, ⟨3, .phase⟩, ⟨4, .phase⟩, ⟨5, .phase⟩, ⟨6, .phase⟩, ⟨7, .phase⟩, ⟨8, .phase⟩], none⟩
set_option maxHeartbeats 8000000 in
theorem implCT_c (G : Nat → Prop)  (nm : ByteArray) (u lb tk fk : Int) (ty src : Ty) (ts : List Tm) (l : List Bd) (xa ta fa ca : Option Addr) (xn xq tn tq fn fq cm cq : Nat) (w : World) 
    (he : TmRep G w (.mk 14 nm u ty src lb ts) (.agg #[.int .i64 14, .string nm, .int .i64 u, .int .i64 tk, .slice ta tn tq, .int .i64 fk, .slice fa fn fq, .int .i64 lb, .slice ca cm cq]))
    (hb : BdsRep G w l (.slice xa xn xq)) (hv : ty.valid = true) (hlen : ts.length = 1)
    (IH : ∀ t' ∈ ts, ∀ (W : World) (c' y' : Value) (P : Nat → Prop), BdsRep P W l c' → (c' = .slice xa xn xq) → TmRep P W t' y' → Calls Try.prog 21 #[c', y'] W (RetOG P ((t'.castS l).map S.ty) W))
    (IV : ∀ t' ∈ ts, ∀ h, t'.castS l = some h → h.vd = true) :
    Calls Try.prog 21 #[.slice xa xn xq, .agg #[.int .i64 14, .string nm, .int .i64 u, .int .i64 tk, .slice ta tn tq, .int .i64 fk, .slice fa fn fq, .int .i64 lb, .slice ca cm cq]] w (RetOG G (((Tm.mk 14 nm u ty src lb ts).castS l).map S.ty) w) := by
  have hsm : ts.length ≤ 3 := by omega
  obtain ⟨-, -, -, -, -, -, -, -, hm, hnm, hmq, hqm, hty, hsrc, hks⟩ := he.parts
  simp only [Tm.type, Tm.src, Tm.kids, Tm.name] at hm hty hsrc hks hnm
  obtain ⟨i0, hi, hz0, hz1, hz2⟩ := info_parts Try.infoTy
  have Z0 := Lib.hid hz0
  have Z1 := Lib.hid hz1
  have Z2 := Lib.hid hz2
  have HI := Lib.hid hi
  have hm3 : cm ≤ 3 := by omega
  have HM := Lib.hid hm
  have HIH := Lib.hid IH
  have HIV := Lib.hid IV
  obtain ⟨PP, FF, B, hPF, hPQ⟩ : ∃ (PP FF : Nat → Prop) (B : Nat), CtPF G w.heap.size B PP FF ∧ (w.heap.size + 1 + 1 ≤ B ∧ B ≤ w.heap.size + 1 + 1) := ⟨_, _, _, CtPF.start G w.heap.size, Nat.le_refl _, Nat.le_refl _⟩
  have HPF := Lib.hid hPF
  have HB := Lib.hid hPQ.1
  have hBB := hPQ.2
  have HKS := Lib.hid (hks.move (.weaken (G := PP) fun b h hl => hPF.1 b h hl))
  have HCX0 := Lib.hid (hb.move (.weaken (G := PP) fun b h hl => hPF.1 b h hl))
  have HTYF := Lib.hid (hty.move (.weaken (G := FF) fun b h hl => hPF.2.1 b (hPF.1 b h hl)))
  have HSRF := Lib.hid (hsrc.move (.weaken (G := FF) fun b h hl => hPF.2.1 b (hPF.1 b h hl)))
  have HVT := Lib.hid hv
  have HLEN1 := Lib.hid hlen
  obtain ⟨O, hO⟩ : ∃ O : Option Ty, O = ((Tm.mk 14 nm u ty src lb ts).castS l).map S.ty := ⟨_, rfl⟩
  rw [← hO]
  have HO := Lib.hid (show O = (match Tm.castsS ts l with
    | some hs => nodeS 14 ty src hs
    | none => none : Option S).map S.ty from by rw [hO, castS_node (by omega)]; cases Tm.castsS ts l <;> rfl)
  have fE := Lib.hid (blk_below (blk_new (w := w) (o := .cells #[.int .i64 14, .string nm, .int .i64 u, .int .i64 tk, .slice ta tn tq, .int .i64 fk, .slice fa fn fq, .int .i64 lb, .slice ca cm cq] 36) rfl) (bal1 (o := .cells #[.int .i64 0, .slice none 0 0] 31)))
  have fR := Lib.hid (blk_new (w := w.alloc (.cells #[.int .i64 14, .string nm, .int .i64 u, .int .i64 tk, .slice ta tn tq, .int .i64 fk, .slice fa fn fq, .int .i64 lb, .slice ca cm cq] 36)) (o := .cells #[.int .i64 0, .slice none 0 0] 31) (b := w.heap.size + 1) (by simp))
  clear hO he hb IH IV hty hsrc hks hi hz0 hz1 hz2 hm hPF hPQ hv hlen
  go_enter Try.func21, Try.ntmps21
  go_wp2_with fail
  go_loopw [7, 33] (fun s7 s33 wr => ∃ (j : Nat) (hs : List S) (cv : Option Addr) (qv : Nat), j ≤ cm ∧ s7 = .slice cv j qv ∧ s33 = .int .i64 j ∧ Hid (Below w.heap.size w wr) ∧ B ≤ wr.heap.size ∧
      Hid (wr.heap[w.heap.size]? = some (.cells #[.int .i64 14, .string nm, .int .i64 u, .int .i64 tk, .slice ta tn tq, .int .i64 fk, .slice fa fn fq, .int .i64 lb, .slice ca cm cq] 36 (0, 0))) ∧ Hid (wr.heap[w.heap.size + 1]? = some (.cells #[.int .i64 0, .slice none 0 0] 31 (0, 0))) ∧ Hid (RowG FF B 31 2 wr (.slice cv j qv) j (Ty.rows (hs.map S.ty))) ∧ Hid (BdsRep PP wr l (.slice xa xn xq)) ∧
      Hid (hs.length = j ∧ (∀ h ∈ hs, h.vd = true) ∧ Tm.castsS ts l = (Tm.castsS (ts.drop j) l).map (hs ++ ·))) (fun _ i _ => cm - (intOf i).toNat)
  case atStart => exact ⟨0, [], _, _, by omega, rfl, rfl, Lib.hid (bstep bal1 bal1), by simp; omega, fE, fR, Lib.hid RowG.nil, Lib.hid ((HCX0.out.below bal1).below bal1), Lib.hid ⟨rfl, by simp, by simp⟩⟩
  case round =>
    obtain ⟨j, hs, cv, qv, hj, rfl, rfl, hbw, hsz, hE, hR, hrow, hcx, hrel2⟩ := hrel
    clear fE fR HCX0
    have x0 : wr.cell? ⟨w.heap.size, 0, none⟩ = some (.int .i64 14) := blk_cell hE.out rfl
    have hB1 := HB.out
    have lx8 : w.heap.size < wr.heap.size := by omega
    by_cases hlt : j < cm
    · have hjt : j < ts.length := by rw [← HM.out]; exact hlt
      obtain ⟨b, off, kk0, nn0, uu0, tk0, ta0, tn0, tq0, fk0, fa0, fn0, fq0, ll0, a0, m0, q0, rfl, lb_, e0, e1, e2, e3, e4, e5, e6, e7, e8, ht⟩ := HKS.out.at hbw.out hjt
      have HC := Lib.hid (fun W (hW : Below wr.heap.size wr W) => HIH.out ts[j] (List.getElem_mem hjt) W (.slice xa xn xq) _ PP (hcx.out.below hW) rfl (ht.below hW))
      have HCV := Lib.hid (HIV.out ts[j] (List.getElem_mem hjt))
      have HCD := Lib.hid (casts_drop (l := l) hjt)
      generalize hoj : ts[j].castS l = oj at HC HCV HCD
      have lr := blk_lt hR.out
      have hz3 : j + 1 ≤ 3 := by omega
      clear hoj ht x0
      cases oj with
      | none =>
        have HREL := Lib.hid (show O = none from by rw [HO.out, hrel2.out.2.2, HCD.out]; rfl)
        go_wp2_with fail
        refine (HC.out _ bal1).mono ?_
        rintro e w1 ⟨kt, at_, nt, qt, bt, tt, rfl, hbt, htt, hot, hst⟩
        obtain rfl : bt = false := hbt
        have hR1 := blk_below (blk_below hR.out bal1) hst
        have HB1 := Lib.hid (bstep (bstep hbw.out bal1) hst)
        have hz1 := hst.size
        simp only [World.size_alloc] at hz1
        clear htt hot hst hcx hE hR hrow
        have r0 : w1.cell? ⟨w.heap.size + 1, 0, none⟩ = some (.int .i64 0) := blk_cell hR1 rfl
        have r1 : w1.cell? ⟨w.heap.size + 1, 1, none⟩ = some (.slice none 0 0) := blk_cell hR1 rfl
        have rf0 := blk_fro hR1 0
        have rf1 := blk_fro hR1 1
        have lr1 := blk_lt hR1
        have lr2 : w.heap.size + 1 < w1.heap.size + 1 := by omega
        go_wp2_with fail
        have hY : (((w1.setCell ⟨w.heap.size + 1, 0, none⟩ (.int .i64 0)).setCell ⟨w.heap.size + 1, 1, none⟩ (.slice none 0 0)).alloc (.cells #[.int .i64 kt, .slice at_ nt qt] 31)).heap[w.heap.size + 1]? = some (.cells #[.int .i64 0, .slice none 0 0] 31 (0, 0)) := blk_below (blk_set (blk_set hR1 rfl) rfl) bal1
        have rc0 := blk_cell hY (o := 0) rfl
        have rc1 := blk_cell hY (o := 1) rfl
        refine bodyPost_ret (v := .tuple #[.agg #[.int .i64 0, .slice none 0 0], .bool false]) (by simp [results, Try.results21, go_sem, rc0, rc1]) rfl ?_
        exact ⟨_, _, _, _, _, _, rfl, by rw [HREL.out]; rfl, TyRep.zeroG, (by rw [HREL.out]; intro s h; cases h), bstep ((HB1.out.setCell (p := ⟨w.heap.size + 1, 0, none⟩) (by show w.heap.size ≤ w.heap.size + 1; omega) _).setCell (p := ⟨w.heap.size + 1, 1, none⟩) (by show w.heap.size ≤ w.heap.size + 1; omega) _) bal1⟩
      | some hh =>
        have HVD := Lib.hid (HCV.out hh rfl)
        have HNX := Lib.hid (show Tm.castsS ts l = (Tm.castsS (ts.drop (j + 1)) l).map ((hs ++ [hh]) ++ ·) from by
          rw [hrel2.out.2.2, HCD.out]
          cases Tm.castsS (ts.drop (j + 1)) l <;> simp)
        obtain ⟨hlenr, xs, ho, hvals⟩ := hrow.out
        have HLEN := Lib.hid hlenr
        have HOW := Lib.hid ho
        have HV := Lib.hid hvals
        clear hlenr ho hvals hrow
        go_wp2_with fail
        refine (HC.out _ bal1).mono ?_
        rintro e w1 ⟨kt, at_, nt, qt, bt, tt, rfl, hbt, htt, hot, hst⟩
        obtain rfl : bt = true := hbt
        obtain rfl : tt = hh.ty := hot _ rfl
        have HST := Lib.hid (bstep bal1 hst)
        have HT1 := Lib.hid (htt.move (.weaken (G := fun b => FF b ∧ (Value.slice cv j qv).ownBlock ≠ some b) fun b h _ => by
          rcases h with h | h
          · have h2 := HPF.out.2.2.2.2.2.1 b h
            exact ⟨HPF.out.2.1 b h, fun e => by have := (HOW.out.lt b e).1; omega⟩
          · simp only [World.size_alloc] at h
            exact ⟨HPF.out.2.2.1 b (by omega), fun e => by have := (HOW.out.lt b e).2; omega⟩))
        have hz1 := hst.size
        simp only [World.size_alloc] at hz1
        have hW := Lib.hid (show Below wr.heap.size wr ((w1.alloc (.cells #[.int .i64 kt, .slice at_ nt qt] 31)).alloc (.cells #[.int .i64 kt, .slice at_ nt qt] 31)) from bstep (bstep HST.out bal1) bal1)
        clear htt hot hst
        go_wp2_with (first | (at_builtin; refine wpList_append_lies _ rfl (.tmp 46) (.tmp 48) 29 rfl B 31 i0 _ 2 32 Try.underlying29 HI.out Z0.out Z1.out Z2.out rfl (by omega) (.slice cv j qv) j xs rfl (ownsRow_below HOW.out hW.out) ⟨w1.heap.size + 1, 0, none⟩ 1 1 [.int .i64 kt, .slice at_ nt qt] rfl rfl (World.news_of_block (cs := #[.int .i64 kt, .slice at_ nt qt]) (t := 31) (fr := (0, 0)) (blk_new (by simp))) (by simp [Value.oneCell']) (by omega) (by unfold maxLen; omega) (by omega) (by simp; omega) _ rfl ?_) | fail)
        intro gg cap2 w6 hown2 hgrow hat hlt2
        have HROW := Lib.hid (RowG.push HLEN.out HV.out hW.out ((HT1.out.below bal1).below bal1).srep hown2 hgrow (by simpa using hat))
        have HBEL := Lib.hid (grown_below hbw.out hW.out HOW.out (by omega) hgrow)
        have hfar := grown_far hW.out HOW.out hgrow
        have HFAR := Lib.hid hfar
        have hsz6 : wr.heap.size ≤ w6.heap.size := Nat.le_trans hW.out.size hgrow.size
        have HCX6 := Lib.hid (show BdsRep PP w6 l (.slice xa xn xq) from hcx.out.move ⟨hsz6, fun _ h _ => h, fun b h hl => HFAR.out b hl (HPF.out.2.2.2.2.2.1 b h)⟩)
        clear hown2 hgrow hat hfar hcx
        go_wp2_with fail
        go_roundw
        case rel => exact ⟨j + 1, hs ++ [hh], _, _, by omega, rfl, by go_num, HBEL, by omega, Lib.hid ((HFAR.out w.heap.size (by omega) (by omega)).trans hE.out), Lib.hid ((HFAR.out (w.heap.size + 1) (by omega) (by omega)).trans hR.out), (by
            unfold Hid
            have e1 : Ty.rows ((hs ++ [hh]).map S.ty) = Ty.rows (hs.map S.ty) ++ [hh.ty.row] := by simp [Ty.rows_eq]
            rw [e1]
            exact HROW.out), HCX6, Lib.hid ⟨by simp [hrel2.out.1], fun h hm => (List.mem_append.1 hm).elim (hrel2.out.2.1 h) (fun q => by simp at q; subst q; exact HVD.out), HNX.out⟩⟩
        case measure => simp [intOf]; omega
    · have HJE := Lib.hid (show j = cm by omega)
      have HJL := Lib.hid (show ts.drop j = [] from List.drop_eq_nil_of_le (by have := HM.out; have := HJE.out; omega))
      have HREL0 := Lib.hid (show O = (nodeS 14 ty src hs).map S.ty from by
        rw [HO.out, hrel2.out.2.2, HJL.out, Tm.castsS]
        simp)
      go_wp2_with fail
      have hTY : TysRep FF wr (hs.map S.ty) (.slice cv j qv) := hrow.out.rep HPF.out.2.2.1
      obtain ⟨h1, rfl⟩ : ∃ h1, hs = [h1] := List.length_eq_one_iff.1 (by have := hrel2.out.1; have := HM.out; have := HJE.out; have := HLEN1.out; omega)
      obtain ⟨b, off, cap, k1, c1, m1, q1, hsl, hlb, e1a, e1b, ht1⟩ := hTY.one
      simp only [Value.slice.injEq] at hsl
      obtain ⟨rfl, hj1, rfl⟩ := hsl
      have hbne : b ≠ w.heap.size + 1 := HPF.out.2.2.2.1 b hTY.blkF
      clear hTY hrow hcx hrel2 hlt hj
      subst hj1
      have fE : wr.heap[w.heap.size]? = some (.cells #[.int .i64 14, .string nm, .int .i64 u, .int .i64 tk, .slice ta tn tq, .int .i64 fk, .slice fa fn fq, .int .i64 lb, .slice ca cm cq] 36 (0, 0)) := hE.out
      have fR : wr.heap[w.heap.size + 1]? = some (.cells #[.int .i64 0, .slice none 0 0] 31 (0, 0)) := hR.out
      have fC : Hid (Below w.heap.size w wr) := hbw
      have c1a_ : wr.cell? ⟨b, off, none⟩ = some (.int .i64 k1) := e1a
      have c1b_ : wr.cell? ⟨b, off + 1, none⟩ = some (.slice c1 m1 q1) := e1b
      have h1_ : Hid (TyRep FF wr h1.ty (.agg #[.int .i64 k1, .slice c1 m1 q1])) := Lib.hid ht1
      have hT : Hid (TyRep FF wr ty (.agg #[.int .i64 tk, .slice ta tn tq])) := Lib.hid (HTYF.out.below hbw.out)
      have hS : Hid (TyRep FF wr src (.agg #[.int .i64 fk, .slice fa fn fq])) := Lib.hid (HSRF.out.below hbw.out)
      refine wp_region_noPanic ?_
      refine wp_region_held_drew (S := fun w' => w'.cell? ⟨w.heap.size, 3, none⟩ = some (.int .i64 tk) ∧ w'.cell? ⟨w.heap.size, 4, none⟩ = some (.slice ta tn tq) ∧ w'.cell? ⟨w.heap.size, 5, none⟩ = some (.int .i64 fk) ∧ w'.cell? ⟨w.heap.size, 6, none⟩ = some (.slice fa fn fq) ∧ w'.cell? ⟨b, off, none⟩ = some (.int .i64 k1) ∧ w'.cell? ⟨b, off + 1, none⟩ = some (.slice c1 m1 q1)) (by kernel_rfl) ?_ (fun hHeld0 => ?_)
      · exact ⟨blk_cell fE rfl, blk_cell fE rfl, blk_cell fE rfl, blk_cell fE rfl, c1a_, c1b_⟩
      obtain ⟨U4, hU, hb, zU4a, zU4b⟩ := drLet wr
      rw [hU] at hHeld0 ⊢
      replace fE := blk_below fE hb; replace fR := blk_below fR hb; replace fC := Lib.hid (bstep fC.out hb); replace c1a_ := bcell hb c1a_
      replace c1b_ := bcell hb c1b_; replace h1_ := Lib.hid (h1_.out.below hb); replace hT := Lib.hid (hT.out.below hb); replace hS := Lib.hid (hS.out.below hb)
      (try simp only [World.size_alloc] at zU4a zU4b)
      clear hU hb
      refine hwt 0 oC14_0 (.pointer (some ⟨w.heap.size, 3, none⟩)) hHeld0 ?_ ?_
      · intro w' hSw; dsimp only [oC14_0]; go_simp
      try simp only [oC14_0, hwA]
      refine hwt 1 oC14_1 (.agg #[.int .i64 tk, .slice ta tn tq]) hHeld0 ?_ ?_
      · intro w' hSw; dsimp only [oC14_1]; go_simp
      try simp only [oC14_1, hwA]
      refine hwt 2 oC14_2 (.slice (some ⟨b, off, none⟩) 1 qv) hHeld0 ?_ ?_
      · intro w' hSw; dsimp only [oC14_2]; go_simp
      try simp only [oC14_2, hwA]
      refine hwt 3 oC14_3 (.pointer (some ⟨b, off, none⟩)) hHeld0 ?_ ?_
      · intro w' hSw; dsimp only [oC14_3]; go_simp
      try simp only [oC14_3, hwA]
      refine hwt 4 oC14_4 (.agg #[.int .i64 k1, .slice c1 m1 q1]) hHeld0 ?_ ?_
      · intro w' hSw; dsimp only [oC14_4]; go_simp
      try simp only [oC14_4, hwA]
      refine hwt 5 oC14_5 (.pointer (some ⟨w.heap.size, 5, none⟩)) hHeld0 ?_ ?_
      · intro w' hSw; dsimp only [oC14_5]; go_simp
      try simp only [oC14_5, hwA]
      refine hwt 6 oC14_6 (.agg #[.int .i64 fk, .slice fa fn fq]) hHeld0 ?_ ?_
      · intro w' hSw; dsimp only [oC14_6]; go_simp
      try simp only [oC14_6, hwA]
      refine hwr 7 oC14_7 (fun K hK => ?_)
      dsimp only [oC14_7]; go_simp
      go_at_call 38
      refine (implTypeSame _ _ _ _ _ _ _ h1_.out hS.out).mono ?_
      rintro e X1 ⟨rfl, hb⟩
      go_wp2_with fail
      have zX1 : U4.heap.size ≤ X1.heap.size := hb.size
      replace fE := blk_below fE hb; replace fR := blk_below fR hb; replace fC := Lib.hid (bstep fC.out hb); replace c1a_ := bcell hb c1a_
      replace c1b_ := bcell hb c1b_; replace h1_ := Lib.hid (h1_.out.below hb); replace hT := Lib.hid (hT.out.below hb); replace hS := Lib.hid (hS.out.below hb)
      refine hK.out _ _ ⟨blk_cell fE rfl, blk_cell fE rfl, blk_cell fE rfl, blk_cell fE rfl, c1a_, c1b_⟩ (fun hHeld1 => ?_)
      clear hK K hHeld0 hb
      try simp only [oC14_7, hwA]
      refine hwr 8 oC14_8 (fun K hK => ?_)
      obtain ⟨r0, r1, rf0, rf1⟩ := blkR fR
      dsimp only [oC14_8]; go_simp
      (try go_wp2_with fail)
      have hQq := stLet2 fR (.int .i64 tk) (.slice ta tn tq)
      clear fR r0 r1 rf0 rf1
      obtain ⟨X2, hXq, hsq, fR, zX2a, zX2b⟩ := hQq
      rw [hXq]
      replace fE := hsq.blk (by omega) fE; replace fC := Lib.hid (hsq.bel fC.out (by omega)); replace c1a_ := hsq.cell (by show b ≠ w.heap.size + 1; omega) c1a_; replace c1b_ := hsq.cell (by show b ≠ w.heap.size + 1; omega) c1b_
      replace h1_ := Lib.hid (hsq.rep (HPF.out.2.2.2.1) h1_.out); replace hT := Lib.hid (hsq.rep (HPF.out.2.2.2.1) hT.out); replace hS := Lib.hid (hsq.rep (HPF.out.2.2.2.1) hS.out)
      refine hK.out _ _ ⟨blk_cell fE rfl, blk_cell fE rfl, blk_cell fE rfl, blk_cell fE rfl, c1a_, c1b_⟩ (fun hHeld2 => ?_)
      clear hK K hHeld1 hsq hXq
      try simp only [oC14_8, hwA]
      refine hwt 9 oC14_9 (.bool (h1.ty.same src)) hHeld2 ?_ ?_
      · intro w' hSw; dsimp only [oC14_9]; go_simp
      try simp only [oC14_9, hwA]
      refine wpAnyH_done (by kernel_rfl) ?_ _
      refine NoPanic.normal ?_
      clear hHeld2
      have rc0 := blk_cell fR (o := 0) rfl
      have rc1 := blk_cell fR (o := 1) rfl
      go_wp2_with fail
      refine bodyPost_ret (v := .tuple #[.agg #[.int .i64 tk, .slice ta tn tq], .bool (h1.ty.same src)]) (by simp [results, Try.results21, go_sem, rc0, rc1]) rfl ?_
      have hnode : O = if h1.ty.same src = true then some ty else none := by rw [HREL0.out]; simp only [nodeS]; cases h1.ty.same src <;> simp [Ty.toS_ty HVT.out]
      exact ⟨_, _, _, _, _, ty, rfl, by rw [hnode]; cases h1.ty.same src <;> rfl, hT.out.move (.weaken fun b h _ => HPF.out.2.2.2.2.1 b h), (by rw [hnode]; intro t h; cases hs : h1.ty.same src <;> rw [hs] at h <;> simp at h; exact h), fC.out⟩
end Go.Proofs.Ytkhmkohgnikcmaa
