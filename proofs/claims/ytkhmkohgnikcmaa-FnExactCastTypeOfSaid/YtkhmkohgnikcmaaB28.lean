/-
  spec.l4Type at a node with operands.
  A list of binds that grows by append: the rows lie in a block of one's own, the types are readings.
  CtxValid of the program and of the reference.
  Lists of binds that are appended to one another.
  slices.Clone of a context.
-/
import Derived.Test.YtkhmkohgnikcmaaB27
import Derived.Test.YtkhmkohgnikcmaaTyCopyB
import Derived.Deep.AppendLies
import Derived.Test.YtkhmkohgnikcmaaB19
import Derived.Test.YtkhmkohgnikcmaaB5
import Derived.Test.YtkhmkohgnikcmaaB3
import Derived.Maps.AppendAt
import Derived.Lib.SliceRun
namespace Go.Proofs.Ytkhmkohgnikcmaa
open Go.RowKit
set_option linter.unusedVariables false
set_option linter.unusedSimpArgs false
set_option maxRecDepth 100000

theorem TyRep.srep {F : Nat → Prop} {w : World} {t : Ty} {k : Int} {c : Option Addr} {m q : Nat} (h : TyRep F w t (.agg #[.int .i64 k, .slice c m q])) : SRep F w t.row [.int .i64 k, .slice c m q] := by
  obtain ⟨s, he, hs⟩ := h
  simp only [Value.agg.injEq, Array.mk.injEq, List.cons.injEq, Value.int.injEq, and_true] at he
  obtain ⟨⟨-, rfl⟩, rfl⟩ := he
  cases t with
  | mk kk us =>
    unfold Ty.row
    exact ⟨_, _, rfl, (by unfold CRep; rfl), _, _, rfl, hs, rfl⟩
theorem casts_drop {ts : List Tm} {l : List Bd} {j : Nat} (h : j < ts.length) : Tm.castsS (ts.drop j) l = match ts[j].castS l with
    | none => none
    | some h => (match Tm.castsS (ts.drop (j + 1)) l with
      | none => none
      | some hs => some (h :: hs)) := by
  rw [List.drop_eq_getElem_cons h, Tm.castsS]
  cases ts[j].castS l with
  | none => rfl
  | some x => cases Tm.castsS (ts.drop (j + 1)) l <;> rfl
theorem castS_node {k : Int} {nm : ByteArray} {u lb : Int} {ty src : Ty} {ts : List Tm} {l : List Bd} (hk : 6 ≤ k) : (Tm.mk k nm u ty src lb ts).castS l = match Tm.castsS ts l with
    | some hs => nodeS k ty src hs
    | none => none := by
  rw [Tm.castS, if_neg (by omega), if_neg (by omega), if_neg (by omega), if_neg (by omega)]
  cases Tm.castsS ts l <;> rfl
set_option maxHeartbeats 8000000 in
theorem specL4TypeL (G : Nat → Prop) (k : Int) (nm : ByteArray) (u lb tk fk : Int) (ty src : Ty) (ts : List Tm) (l : List Bd) (xa ta fa ca : Option Addr) (xn xq tn tq fn fq cm cq : Nat) (w : World)
    (he : TmRep G w (.mk k nm u ty src lb ts) (.agg #[.int .i64 k, .string nm, .int .i64 u, .int .i64 tk, .slice ta tn tq, .int .i64 fk, .slice fa fn fq, .int .i64 lb, .slice ca cm cq]))
    (IH : ∀ t' ∈ ts, ∀ (W : World) (y' : Value), Below w.heap.size w W → TmRep G W t' y' → Calls Try.prog 17 #[.slice xa xn xq, y'] W (RetOF ((t'.castS l).map S.ty) W))
    (IV : ∀ t' ∈ ts, ∀ h, t'.castS l = some h → h.vd = true)
    (hk : 6 ≤ k ∧ k ≤ 12 ∨ k = 14) (hlen : tops k = (ts.length : Int)) (hvt : k = 14 → ty.valid = true) (hsm : ts.length ≤ 3) :
    Calls Try.prog 17 #[.slice xa xn xq, .agg #[.int .i64 k, .string nm, .int .i64 u, .int .i64 tk, .slice ta tn tq, .int .i64 fk, .slice fa fn fq, .int .i64 lb, .slice ca cm cq]] w (RetOF (((Tm.mk k nm u ty src lb ts).castS l).map S.ty) w) := by
  obtain ⟨-, -, -, -, -, -, -, -, hm, hnm, hmq, hqm, hty, hsrc, hks⟩ := he.parts
  simp only [Tm.type, Tm.src, Tm.kids] at hm hty hsrc hks
  obtain ⟨i0, hi, hz0, hz1, hz2⟩ := info_parts Try.infoTy
  have Z0 := Lib.hid hz0
  have Z1 := Lib.hid hz1
  have Z2 := Lib.hid hz2
  have HI := Lib.hid hi
  have q1 : (k == 1) = false := by rw [beq_eq_false_iff_ne]; omega
  have q2 : (k == 2) = false := by rw [beq_eq_false_iff_ne]; omega
  have q3 : (k == 3) = false := by rw [beq_eq_false_iff_ne]; omega
  have q4 : (k == 4) = false := by rw [beq_eq_false_iff_ne]; omega
  have q5 : (k == 5) = false := by rw [beq_eq_false_iff_ne]; omega
  have hm3 : cm ≤ 3 := by omega
  have HM := Lib.hid hm
  have HKS := Lib.hid hks
  have HIH := Lib.hid IH
  have HIV := Lib.hid IV
  have HEX := Lib.hid (fun (hs : List S) (h1 : hs.length = ts.length) (h2 : ∀ h ∈ hs, h.vd = true) (W : World) (hW : Below w.heap.size w W) (G3 : Nat → Prop) (y : Value) (hy : TysRep G3 W (hs.map S.ty) y) => specL4Exact k hs hk (by rw [h1]; exact hlen) h2 G G G3 nm u lb tk fk ty src ta fa ca tn tq fn fq cm cq W (hty.below hW) (hsrc.below hW) hvt y hy)
  obtain ⟨O, hO⟩ : ∃ O : Option Ty, O = ((Tm.mk k nm u ty src lb ts).castS l).map S.ty := ⟨_, rfl⟩
  rw [← hO]
  have HO := Lib.hid (show O = (match Tm.castsS ts l with
    | some hs => nodeS k ty src hs
    | none => none : Option S).map S.ty from by rw [hO, castS_node (by omega)])
  have fE := Lib.hid (blk_below (blk_below (blk_new (w := w) (o := .cells #[.int .i64 k, .string nm, .int .i64 u, .int .i64 tk, .slice ta tn tq, .int .i64 fk, .slice fa fn fq, .int .i64 lb, .slice ca cm cq] 36) rfl) (bal1 (o := .cells #[.int .i64 0, .slice none 0 0] 31))) (bal1 (o := .cells #[] 31)))
  have fR := Lib.hid (blk_below (blk_new (w := w.alloc (.cells #[.int .i64 k, .string nm, .int .i64 u, .int .i64 tk, .slice ta tn tq, .int .i64 fk, .slice fa fn fq, .int .i64 lb, .slice ca cm cq] 36)) (o := .cells #[.int .i64 0, .slice none 0 0] 31) (b := w.heap.size + 1) (by simp)) (bal1 (o := .cells #[] 31)))
  have fK := Lib.hid (blk_new (w := (w.alloc (.cells #[.int .i64 k, .string nm, .int .i64 u, .int .i64 tk, .slice ta tn tq, .int .i64 fk, .slice fa fn fq, .int .i64 lb, .slice ca cm cq] 36)).alloc (.cells #[.int .i64 0, .slice none 0 0] 31)) (o := .cells #[] 31) (b := w.heap.size + 1 + 1) (by simp))
  clear hO he IH IV hty hsrc hks hi hz0 hz1 hz2 hm hlen hvt hk
  go_enter Try.func17, Try.ntmps17
  go_wp2_with fail
  go_loopw [8, 9] (fun s8 s9 wr => ∃ (j : Nat) (hs : List S) (cv : Option Addr) (qv : Nat), j ≤ cm ∧ s8 = .slice cv j qv ∧ s9 = .int .i64 j ∧ Hid (Below w.heap.size w wr) ∧ w.heap.size + 1 + 1 < wr.heap.size ∧
      Hid (wr.heap[w.heap.size]? = some (.cells #[.int .i64 k, .string nm, .int .i64 u, .int .i64 tk, .slice ta tn tq, .int .i64 fk, .slice fa fn fq, .int .i64 lb, .slice ca cm cq] 36 (0, 0))) ∧ Hid (wr.heap[w.heap.size + 1]? = some (.cells #[.int .i64 0, .slice none 0 0] 31 (0, 0))) ∧ Hid (RowL (w.heap.size + 1 + 1) 31 2 wr (.slice cv j qv) j (Ty.rows (hs.map S.ty))) ∧
      Hid (hs.length = j ∧ (∀ h ∈ hs, h.vd = true) ∧ Tm.castsS ts l = (Tm.castsS (ts.drop j) l).map (hs ++ ·))) (fun _ i _ => cm - (intOf i).toNat)
  case atStart => exact ⟨0, [], _, _, by omega, rfl, rfl, Lib.hid (bstep (bstep bal1 bal1) bal1), by simp, fE, fR, Lib.hid ⟨rfl, [], ⟨rfl, .inr ⟨_, 0, #[], rfl, Nat.le_refl _, fK.out, Nat.le_refl _, by unfold maxLen; omega, rfl, by simp⟩⟩, rfl⟩, Lib.hid ⟨rfl, by simp, by simp⟩⟩
  case round =>
    obtain ⟨j, hs, cv, qv, hj, rfl, rfl, hbw, hsz, hE, hR, hrow, hrel2⟩ := hrel
    clear fE fR fK
    have x0 : wr.cell? ⟨w.heap.size, 6, none⟩ = some (.slice fa fn fq) := blk_cell hE.out rfl
    have x8 : wr.cell? ⟨w.heap.size, 8, none⟩ = some (.slice ca cm cq) := blk_cell hE.out rfl
    have lx8 : w.heap.size < wr.heap.size := by omega
    by_cases hlt : j < cm
    · have hjt : j < ts.length := by rw [← HM.out]; exact hlt
      obtain ⟨b, off, kk0, nn0, uu0, tk0, ta0, tn0, tq0, fk0, fa0, fn0, fq0, ll0, a0, m0, q0, rfl, lb_, e0, e1, e2, e3, e4, e5, e6, e7, e8, ht⟩ := HKS.out.at hbw.out hjt
      have HC := Lib.hid (HIH.out ts[j] (List.getElem_mem hjt) wr _ hbw.out ht)
      have HCV := Lib.hid (HIV.out ts[j] (List.getElem_mem hjt))
      have HCD := Lib.hid (casts_drop (l := l) hjt)
      generalize hoj : ts[j].castS l = oj at HC HCV HCD
      have lr := blk_lt hR.out
      have hz3 : j + 1 ≤ 3 := by omega
      clear hoj ht
      cases oj with
      | none =>
        have HREL := Lib.hid (show O = none from by rw [HO.out, hrel2.out.2.2, HCD.out]; rfl)
        have r0 : wr.cell? ⟨w.heap.size + 1, 0, none⟩ = some (.int .i64 0) := blk_cell hR.out rfl
        go_wp2_with fail
        refine HC.out.mono ?_
        rintro e w1 ⟨kt, at_, nt, qt, bt, tt, rfl, hbt, htt, hot, hst⟩
        obtain rfl : bt = false := hbt
        have hR1 := blk_below hR.out hst
        have HB1 := Lib.hid (bstep hbw.out hst)
        have hz1 := hst.size
        clear htt hot hst r0
        have r0 : w1.cell? ⟨w.heap.size + 1, 0, none⟩ = some (.int .i64 0) := blk_cell hR1 rfl
        have r1 : w1.cell? ⟨w.heap.size + 1, 1, none⟩ = some (.slice none 0 0) := blk_cell hR1 rfl
        have rf0 := blk_fro hR1 0
        have rf1 := blk_fro hR1 1
        have lr1 := blk_lt hR1
        have lr2 : w.heap.size + 1 < w1.heap.size + 1 := by omega
        go_wp2_with fail
        have hY : (((w1.setCell ⟨w.heap.size + 1, 0, none⟩ (.int .i64 0)).setCell ⟨w.heap.size + 1, 1, none⟩ (.slice none 0 0)).alloc (.cells #[.int .i64 kt, .slice at_ nt qt] 31)).heap[w.heap.size + 1]? = some (.cells #[.int .i64 0, .slice none 0 0] 31 (0, 0)) := blk_below (blk_set (blk_set hR1 rfl) rfl) bal1
        have rc0 := blk_cell hY (o := 0) rfl
        have rc1 := blk_cell hY (o := 1) rfl
        refine bodyPost_ret (v := .tuple #[.agg #[.int .i64 0, .slice none 0 0], .bool false]) (by simp [results, Try.results17, go_sem, rc0, rc1]) rfl ?_
        exact ⟨_, _, _, _, _, _, rfl, by rw [HREL.out]; rfl, TyRep.zeroG, (by rw [HREL.out]; intro s h; cases h), bstep ((HB1.out.setCell (p := ⟨w.heap.size + 1, 0, none⟩) (by show w.heap.size ≤ w.heap.size + 1; omega) _).setCell (p := ⟨w.heap.size + 1, 1, none⟩) (by show w.heap.size ≤ w.heap.size + 1; omega) _) bal1⟩
      | some hh =>
        have HVD := Lib.hid (HCV.out hh rfl)
        have HNX := Lib.hid (show Tm.castsS ts l = (Tm.castsS (ts.drop (j + 1)) l).map ((hs ++ [hh]) ++ ·) from by
          rw [hrel2.out.2.2, HCD.out]
          cases Tm.castsS (ts.drop (j + 1)) l <;> simp)
        obtain ⟨hlenr, xs, ho, hvals⟩ := hrow.out
        have HLEN := Lib.hid hlenr
        have HOW := Lib.hid ho
        have HV := Lib.hid hvals
        clear hlenr ho hvals hrow
        go_wp2_with fail
        refine HC.out.mono ?_
        rintro e w1 ⟨kt, at_, nt, qt, bt, tt, rfl, hbt, htt, hot, hst⟩
        obtain rfl : bt = true := hbt
        obtain rfl : tt = hh.ty := hot _ rfl
        have HT1 := Lib.hid htt
        have HST := Lib.hid hst
        have hE1 := blk_below hE.out hst
        have hR1 := blk_below hR.out hst
        have HB1 := Lib.hid (bstep hbw.out hst)
        have hz1 := hst.size
        have hW := Lib.hid (show Below wr.heap.size wr ((w1.alloc (.cells #[.int .i64 kt, .slice at_ nt qt] 31)).alloc (.cells #[.int .i64 kt, .slice at_ nt qt] 31)) from bstep (bstep hst bal1) bal1)
        clear htt hot hst
        go_wp2_with (first | (at_builtin; refine wpList_append_lies _ rfl (.tmp 70) (.tmp 72) 29 rfl (w.heap.size + 1 + 1) 31 i0 _ 2 32 Try.underlying29 HI.out Z0.out Z1.out Z2.out rfl (by omega) (.slice cv j qv) j xs rfl (ownsRow_below HOW.out hW.out) ⟨w1.heap.size + 1, 0, none⟩ 1 1 [.int .i64 kt, .slice at_ nt qt] rfl rfl (World.news_of_block (cs := #[.int .i64 kt, .slice at_ nt qt]) (t := 31) (fr := (0, 0)) (blk_new (by simp))) (by simp [Value.oneCell']) (by omega) (by unfold maxLen; omega) (by omega) (by simp; omega) _ rfl ?_) | fail)
        intro gg cap2 w6 hown2 hgrow hat hlt2
        have HROW := Lib.hid (RowL.push (r := w.heap.size) HLEN.out HOW.out HV.out (by omega) (Chg.of_below hW.out) (((HT1.out.move (.weaken fun b h _ => h.elim False.elim id)).below bal1).below bal1).srep (by omega) hown2 hgrow (by simpa using hat))
        have HBEL := Lib.hid (grown_below hbw.out hW.out HOW.out (by omega) hgrow)
        have hfar := grown_far hW.out HOW.out hgrow
        have HFAR := Lib.hid hfar
        have hsz6 : wr.heap.size ≤ w6.heap.size := Nat.le_trans hW.out.size hgrow.size
        clear hown2 hgrow hat hfar
        go_wp2_with fail
        go_roundw
        case rel => exact ⟨j + 1, hs ++ [hh], _, _, by omega, rfl, by go_num, HBEL, by omega, Lib.hid ((HFAR.out w.heap.size (by omega) (by omega)).trans hE.out), Lib.hid ((HFAR.out (w.heap.size + 1) (by omega) (by omega)).trans hR.out), (by
            unfold Hid
            have e1 : Ty.rows ((hs ++ [hh]).map S.ty) = Ty.rows (hs.map S.ty) ++ [hh.ty.row] := by simp [Ty.rows_eq]
            rw [e1]
            exact HROW.out), Lib.hid ⟨by simp [hrel2.out.1], fun h hm => (List.mem_append.1 hm).elim (hrel2.out.2.1 h) (fun q => by simp at q; subst q; exact HVD.out), HNX.out⟩⟩
        case measure => simp [intOf]; omega
    · have HJE := Lib.hid (show j = cm by omega)
      have HJL := Lib.hid (show ts.drop j = [] from List.drop_eq_nil_of_le (by have := HM.out; have := HJE.out; omega))
      have HREL := Lib.hid (show O = (nodeS k ty src hs).map S.ty from by
        rw [HO.out, hrel2.out.2.2, HJL.out, Tm.castsS]
        simp)
      have HTY := Lib.hid (show TysRep (w.heap.size + 1 + 1 ≤ ·) wr (hs.map S.ty) (.slice cv j qv) from hrow.out.rep)
      have HCX := Lib.hid (HEX.out hs (by have := hrel2.out.1; have := HM.out; have := HJE.out; omega) hrel2.out.2.1 wr hbw.out _ _ HTY.out)
      have d0 : wr.cell? ⟨w.heap.size, 0, none⟩ = some (.int .i64 k) := blk_cell hE.out rfl
      have d1 : wr.cell? ⟨w.heap.size, 1, none⟩ = some (.string nm) := blk_cell hE.out rfl
      have d2 : wr.cell? ⟨w.heap.size, 2, none⟩ = some (.int .i64 u) := blk_cell hE.out rfl
      have d3 : wr.cell? ⟨w.heap.size, 3, none⟩ = some (.int .i64 tk) := blk_cell hE.out rfl
      have d4 : wr.cell? ⟨w.heap.size, 4, none⟩ = some (.slice ta tn tq) := blk_cell hE.out rfl
      have d5 : wr.cell? ⟨w.heap.size, 5, none⟩ = some (.int .i64 fk) := blk_cell hE.out rfl
      have d7 : wr.cell? ⟨w.heap.size, 7, none⟩ = some (.int .i64 lb) := blk_cell hE.out rfl
      clear hrow
      go_wp2_with fail
      refine HCX.out.mono ?_
      rintro e w1 ⟨kt, at_, nt, qt, bt, tt, rfl, hbt, htt, hot, hst⟩
      have HBT := Lib.hid hbt
      have HTT := Lib.hid htt
      have HOT := Lib.hid hot
      have hR1 := blk_below hR.out hst
      have HB1 := Lib.hid (bstep hbw.out hst)
      have hz1 := hst.size
      clear htt hot hst hbt d0 d1 d2 d3 d4 d5 d7 x0 x8
      have r0 : w1.cell? ⟨w.heap.size + 1, 0, none⟩ = some (.int .i64 0) := blk_cell hR1 rfl
      have r1 : w1.cell? ⟨w.heap.size + 1, 1, none⟩ = some (.slice none 0 0) := blk_cell hR1 rfl
      have rf0 := blk_fro hR1 0
      have rf1 := blk_fro hR1 1
      go_wp2_with fail
      have hY : ((w1.setCell ⟨w.heap.size + 1, 0, none⟩ (.int .i64 kt)).setCell ⟨w.heap.size + 1, 1, none⟩ (.slice at_ nt qt)).heap[w.heap.size + 1]? = some (.cells #[.int .i64 kt, .slice at_ nt qt] 31 (0, 0)) := blk_set (blk_set hR1 rfl) rfl
      have rc0 := blk_cell hY (o := 0) rfl
      have rc1 := blk_cell hY (o := 1) rfl
      refine bodyPost_ret (v := .tuple #[.agg #[.int .i64 kt, .slice at_ nt qt], .bool bt]) (by simp [results, Try.results17, go_sem, rc0, rc1]) rfl ?_
      have hne : ∀ b, (False ∨ wr.heap.size ≤ b) → b ≠ w.heap.size + 1 := fun b h => by
        have h1 := h.elim False.elim id
        omega
      exact ⟨_, _, _, _, _, tt, rfl, by rw [HREL.out]; exact HBT.out, (TyRep.setN (TyRep.setN HTT.out hne) hne).move (.weaken fun b h _ => .inr (by have h1 := h.elim False.elim id; omega)), (by rw [HREL.out]; exact HOT.out), (HB1.out.setCell (p := ⟨w.heap.size + 1, 0, none⟩) (by show w.heap.size ≤ w.heap.size + 1; omega) _).setCell (p := ⟨w.heap.size + 1, 1, none⟩) (by show w.heap.size ≤ w.heap.size + 1; omega) _⟩
end Go.Proofs.Ytkhmkohgnikcmaa
namespace Go.Proofs.Ytkhmkohgnikcmaa
open Go.RowKit
set_option linter.unusedVariables false
set_option linter.unusedSimpArgs false

def BdVals (F : Nat → Prop) (w : World) : List Bd → List Value → Prop
  | [], xs => xs = []
  | b :: bs, xs => ∃ k sl rest, xs = .string b.name :: .int .i64 k :: sl :: rest ∧ b.name.size ≤ maxLen ∧ TyRep F w b.ty (.agg #[.int .i64 k, sl]) ∧ BdVals F w bs rest
theorem BdVals.move {F G : Nat → Prop} {w w' : World} (k : Keeps F G w w') : ∀ (bs : List Bd) (xs : List Value), BdVals F w bs xs → BdVals G w' bs xs
  | [], _, h => h
  | b :: bs, _, ⟨kk, sl, rest, h1, h2, h3, h4⟩ => ⟨kk, sl, rest, h1, h2, h3.move k, BdVals.move k bs rest h4⟩
theorem BdVals.append {F : Nat → Prop} {w : World} : ∀ (bs cs : List Bd) (xs ys : List Value), BdVals F w bs xs → BdVals F w cs ys → BdVals F w (bs ++ cs) (xs ++ ys)
  | [], cs, xs, ys, h, h' => by
    have h0 : xs = [] := h
    subst h0; simpa using h'
  | b :: bs, cs, _, ys, ⟨kk, sl, rest, h1, h2, h3, h4⟩, h' => by
    subst h1
    exact ⟨kk, sl, rest ++ ys, rfl, h2, h3, BdVals.append bs cs rest ys h4 h'⟩
theorem BdVals.len {F : Nat → Prop} {w : World} : ∀ (bs : List Bd) (xs : List Value), BdVals F w bs xs → xs.length = bs.length * 3
  | [], xs, h => by
    have h0 : xs = [] := h
    subst h0; rfl
  | b :: bs, _, ⟨kk, sl, rest, h1, h2, h3, h4⟩ => by
    subst h1
    have := BdVals.len bs rest h4
    simp only [List.length_cons]; omega
/-- The rows as the cells of a block hold them. -/
theorem BdVals.rows {F : Nat → Prop} {w : World} {g : Nat} : ∀ (bs : List Bd) (xs : List Value) (off : Nat), BdVals F w bs xs → (∀ j u, xs[j]? = some u → w.cell? ⟨g, off + j, none⟩ = some u) → RowsAt F w g off (Bd.rows bs)
  | [], _, _, _, _ => by unfold Bd.rows RowsAt; trivial
  | b :: bs, _, off, ⟨kk, sl, rest, h1, h2, h3, h4⟩, hc => by
    subst h1
    obtain ⟨s, he, hs⟩ := h3
    simp only [Value.agg.injEq, Array.mk.injEq, List.cons.injEq, Value.int.injEq, true_and, and_true] at he
    obtain ⟨rfl, rfl⟩ := he
    have e0 := hc 0 _ rfl
    have e1 := hc 1 _ rfl
    have e2 := hc 2 _ rfl
    show RowsAt F w g off (b.row :: Bd.rows bs)
    unfold RowsAt
    refine ⟨?_, BdVals.rows bs rest _ h4 fun j u hj => ?_⟩
    · unfold Bd.row CellsAt
      refine ⟨⟨_, e0, by unfold CRep; exact ⟨rfl, h2⟩⟩, ?_⟩
      unfold CellsAt
      refine ⟨⟨_, e1, by unfold CRep; rfl⟩, ?_⟩
      unfold CellsAt
      exact ⟨⟨_, e2, hs⟩, by unfold CellsAt; trivial⟩
    · have := hc (j + 3) u (by simpa using hj)
      rw [Bd.row_length, Nat.add_assoc, Nat.add_comm 3 j]; exact this

theorem ownsRow_cells' {w : World} {B : Nat} {e : TypeId} {size n q g : Nat} {xs : List Value} (h : w.ownsRow B e size (.slice (some ⟨g, 0, none⟩) n q) n xs) : ∀ j u, xs[j]? = some u → w.cell? ⟨g, j, none⟩ = some u := by
  obtain ⟨h1, h2 | ⟨g', cap, cur, h2, hB, hg, hn, hc, hs, ht⟩⟩ := h
  · exact absurd h2.1 (by simp)
  · simp only [Value.slice.injEq, Option.some.injEq, Addr.mk.injEq, and_true] at h2
    obtain ⟨rfl, -, rfl⟩ := h2
    intro j u hj
    subst ht
    simp only [World.cell?, hg]
    rw [List.getElem?_take] at hj
    split at hj
    · simpa using hj
    · cases hj

def BdL (r B : Nat) (w : World) (v : Value) (bs : List Bd) : Prop := r < B ∧ (∃ g, v.ownBlock = some g) ∧ ∃ xs, w.ownsRow B 66 3 v bs.length xs ∧ BdVals (fun b => b ≠ r ∧ v.ownBlock ≠ some b) w bs xs

theorem BdL.nil {r B : Nat} {w : World} {g : Nat} {cs : Array Value} (hr : r < B) (hB : B ≤ g) (h : w.heap[g]? = some (.cells cs 66 (0, 0))) (h0 : cs.size = 0) : BdL r B w (.slice (some ⟨g, 0, none⟩) 0 0) [] :=
  ⟨hr, ⟨g, rfl⟩, [], ⟨rfl, .inr ⟨g, 0, cs, rfl, hB, h, Nat.le_refl _, by unfold maxLen; omega, by simpa using h0, by simp⟩⟩, rfl⟩
theorem BdL.chg {r B : Nat} {w w' : World} {v : Value} {bs : List Bd} (h : BdL r B w v bs) (k : Chg [r] w w') : BdL r B w' v bs := by
  obtain ⟨hr, hso, xs, h1, h2⟩ := h
  exact ⟨hr, hso, xs, ownsRow_chg h1 k hr, h2.move (k.keeps fun b hb => by simpa using hb.1) _ _⟩
theorem BdL.below {r B : Nat} {w w' : World} {v : Value} {bs : List Bd} (h : BdL r B w v bs) (k : Below w.heap.size w w') : BdL r B w' v bs := by
  obtain ⟨hr, hso, xs, h1, h2⟩ := h
  exact ⟨hr, hso, xs, ownsRow_below h1 k, h2.move (.below k) _ _⟩
theorem BdL.shape {r B : Nat} {w : World} {v : Value} {bs : List Bd} (h : BdL r B w v bs) : ∃ a q, v = .slice a bs.length q := by
  obtain ⟨hr, hso, xs, ⟨h1, h2 | ⟨g, cap, cur, h2, hB, hg, hn, hc, hs, ht⟩⟩, -⟩ := h
  · exact ⟨none, 0, by rw [h2.1, h2.2]⟩
  · exact ⟨_, cap, h2⟩
/-- Behind an append of one row. -/
theorem BdL.push {r B g cap : Nat} {W w2 : World} {v : Value} {bs : List Bd} {xs : List Value} {nm : ByteArray} {k : Int} {sl : Value} {t : Ty} (hr : r < B) (hv : BdVals (fun b => b ≠ r ∧ v.ownBlock ≠ some b) W bs xs) (hn : nm.size ≤ maxLen)
    (ht : TyRep (fun b => b ≠ r ∧ v.ownBlock ≠ some b) W t (.agg #[.int .i64 k, sl])) (hown : w2.ownsRow B 66 3 (.slice (some ⟨g, 0, none⟩) (bs.length + 1) cap) (bs.length + 1) (xs ++ [.string nm, .int .i64 k, sl])) (hgrow : W.grownBy w2 v.ownBlock) (hat : v.ownBlock = some g ∨ g = W.heap.size) :
    BdL r B w2 (.slice (some ⟨g, 0, none⟩) (bs.length + 1) cap) (bs ++ [⟨nm, t⟩]) := by
  have kk : Keeps (fun b => b ≠ r ∧ v.ownBlock ≠ some b) (fun b => b ≠ r ∧ (Value.slice (some ⟨g, 0, none⟩) (bs.length + 1) cap).ownBlock ≠ some b) W w2 := by
    refine ⟨hgrow.size, fun b hb hl => ⟨hb.1, fun e => ?_⟩, fun b hb hl => hgrow.block b hl (fun e => hb.2 e.symm)⟩
    simp only [Value.ownBlock, Option.some.injEq] at e
    subst e
    rcases hat with h | h
    · exact hb.2 h
    · omega
  refine ⟨hr, ⟨g, rfl⟩, xs ++ [.string nm, .int .i64 k, sl], by simpa using hown, BdVals.append bs [⟨nm, t⟩] xs _ (hv.move kk _ _) ⟨k, sl, [], rfl, hn, ht.move kk, rfl⟩⟩
theorem BdL.rep {r B : Nat} {w : World} {v : Value} {bs : List Bd} (h : BdL r B w v bs) : BdsRep (fun _ => True) w bs v := by
  obtain ⟨a, q, rfl⟩ := h.shape
  obtain ⟨hr, hso, xs, h1, h2⟩ := h
  have h1' := h1
  obtain ⟨hx, h3 | ⟨g, cap, cur, h3, hB, hg, hn, hc, hs, ht⟩⟩ := h1
  · obtain ⟨h3, h4⟩ := h3
    simp only [Value.slice.injEq] at h3
    obtain ⟨rfl, -, rfl⟩ := h3
    have : bs = [] := List.length_eq_zero_iff.1 h4
    subst this
    unfold BdsRep CRep
    exact ⟨none, 0, rfl, Nat.le_refl _, by unfold maxLen; omega, .inl rfl⟩
  · simp only [Value.slice.injEq] at h3
    obtain ⟨rfl, -, rfl⟩ := h3
    have hcl := ownsRow_cells' h1'
    unfold BdsRep CRep
    refine ⟨_, q, by rw [Bd.rows_length], by rw [Bd.rows_length]; exact hn, hc, .inr ⟨g, 0, rfl, trivial, (Array.getElem?_eq_some_iff.1 hg).1, ?_⟩⟩
    exact BdVals.rows bs xs 0 (h2.move (.weaken fun _ _ _ => trivial) _ _) (fun j u hj => by simpa using hcl j u hj)
end Go.Proofs.Ytkhmkohgnikcmaa
namespace Go.Proofs.Ytkhmkohgnikcmaa
open Go.RowKit
set_option linter.unusedVariables false
set_option linter.unusedSimpArgs false
set_option maxRecDepth 100000

end Go.Proofs.Ytkhmkohgnikcmaa
namespace Go.Proofs.Ytkhmkohgnikcmaa
open Go.RowKit
set_option linter.unusedVariables false
set_option linter.unusedSimpArgs false

def BdM (B : Nat) (w : World) (v : Value) (bs : List Bd) : Prop := ∃ xs, w.ownsRow B 66 3 v bs.length xs ∧ BdVals (fun b => v.ownBlock ≠ some b) w bs xs
theorem BdM.nil {B : Nat} {w : World} {g : Nat} {cs : Array Value} (hB : B ≤ g) (h : w.heap[g]? = some (.cells cs 66 (0, 0))) (h0 : cs.size = 0) : BdM B w (.slice (some ⟨g, 0, none⟩) 0 0) [] :=
  ⟨[], ⟨rfl, .inr ⟨g, 0, cs, rfl, hB, h, Nat.le_refl _, by unfold maxLen; omega, by simpa using h0, by simp⟩⟩, rfl⟩
theorem BdM.push {B : Nat} {W w2 : World} {v v' : Value} {bs cs : List Bd} {xs ys : List Value} (hv : BdVals (fun b => v.ownBlock ≠ some b) W bs xs) (hc : BdVals (fun b => v.ownBlock ≠ some b) W cs ys)
    (hown : w2.ownsRow B 66 3 v' (bs.length + cs.length) (xs ++ ys)) (hgrow : W.grownBy w2 v.ownBlock) (hat : v'.ownBlock = v.ownBlock ∨ v'.ownBlock = some W.heap.size) :
    BdM B w2 v' (bs ++ cs) := by
  have kk : Keeps (fun b => v.ownBlock ≠ some b) (fun b => v'.ownBlock ≠ some b) W w2 := by
    refine ⟨hgrow.size, fun b hb hl e => ?_, fun b hb hl => hgrow.block b hl (fun e => hb e.symm)⟩
    rcases hat with h | h
    · exact hb (h ▸ e)
    · rw [h] at e
      simp only [Option.some.injEq] at e
      omega
  exact ⟨xs ++ ys, by simpa using hown, BdVals.append bs cs xs ys (hv.move kk _ _) (hc.move kk _ _)⟩
theorem BdM.shape {B : Nat} {w : World} {v : Value} {bs : List Bd} (h : BdM B w v bs) : ∃ a q, v = .slice a bs.length q := by
  obtain ⟨xs, ⟨h1, h2 | ⟨g, cap, cur, h2, hB, hg, hn, hc, hs, ht⟩⟩, -⟩ := h
  · exact ⟨none, 0, by rw [h2.1, h2.2]⟩
  · exact ⟨_, cap, h2⟩
theorem BdM.rep {B : Nat} {w : World} {v : Value} {bs : List Bd} (h : BdM B w v bs) : BdsRep (fun _ => True) w bs v := by
  obtain ⟨a, q, rfl⟩ := h.shape
  obtain ⟨xs, h1, h2⟩ := h
  have h1' := h1
  obtain ⟨hx, h3 | ⟨g, cap, cur, h3, hB, hg, hn, hc, hs, ht⟩⟩ := h1
  · obtain ⟨h3, h4⟩ := h3
    simp only [Value.slice.injEq] at h3
    obtain ⟨rfl, -, rfl⟩ := h3
    have : bs = [] := List.length_eq_zero_iff.1 h4
    subst this
    unfold BdsRep CRep
    exact ⟨none, 0, rfl, Nat.le_refl _, by unfold maxLen; omega, .inl rfl⟩
  · simp only [Value.slice.injEq] at h3
    obtain ⟨rfl, -, rfl⟩ := h3
    have hcl := ownsRow_cells' h1'
    unfold BdsRep CRep
    refine ⟨_, q, by rw [Bd.rows_length], by rw [Bd.rows_length]; exact hn, hc, .inr ⟨g, 0, rfl, trivial, (Array.getElem?_eq_some_iff.1 hg).1, ?_⟩⟩
    exact BdVals.rows bs xs 0 (h2.move (.weaken fun _ _ _ => trivial) _ _) (fun j u hj => by simpa using hcl j u hj)
theorem BdVals.of_rows {F : Nat → Prop} {w : World} {b : Nat} : ∀ (bs : List Bd) (off : Nat), RowsAt F w b off (Bd.rows bs) → ∃ xs, BdVals F w bs xs ∧ (∀ j u, xs[j]? = some u → w.cell? ⟨b, off + j, none⟩ = some u) ∧ ∀ u ∈ xs, u.oneCell' = true
  | [], _, _ => ⟨[], rfl, by simp, by simp⟩
  | d :: bs, off, h => by
    have h' : RowsAt F w b off (d.row :: Bd.rows bs) := h
    unfold RowsAt at h'
    obtain ⟨h1, h2⟩ := h'
    obtain ⟨rest, r1, r2, r3⟩ := BdVals.of_rows bs _ h2
    rw [Bd.row_length] at r2
    unfold Bd.row CellsAt at h1
    obtain ⟨⟨y0, e0, c0⟩, h1⟩ := h1
    unfold CellsAt at h1
    obtain ⟨⟨y1, e1, c1⟩, h1⟩ := h1
    unfold CellsAt at h1
    obtain ⟨⟨y2, e2, c2⟩, -⟩ := h1
    unfold CRep at c0
    obtain ⟨rfl, hz⟩ := c0
    obtain rfl := CRep.int_eq c1
    obtain ⟨a, q, hs, -⟩ := CRep.rows c2
    subst hs
    refine ⟨_ :: _ :: _ :: rest, ⟨_, _, rest, rfl, hz, ⟨_, rfl, c2⟩, r1⟩, fun j u hj => ?_, fun u hu => ?_⟩
    · match j with
      | 0 => simp at hj; subst hj; exact e0
      | 1 => simp at hj; subst hj; exact e1
      | 2 => simp at hj; subst hj; exact e2
      | j + 3 =>
        have := r2 j u (by simpa using hj)
        rw [show off + (j + 3) = off + 3 + j from by omega]; exact this
    · simp only [List.mem_cons] at hu
      rcases hu with rfl | rfl | rfl | hu
      · rfl
      · rfl
      · rfl
      · exact r3 u hu
theorem BdsRep.cells {F : Nat → Prop} {w : World} {bs : List Bd} {a : Option Addr} {n q : Nat} (h : BdsRep F w bs (.slice a n q)) (hn : 0 < n) : ∃ ad xs, a = some ad ∧ BdVals F w bs xs ∧ (∀ j u, xs[j]? = some u → w.cell? (ad.add j) = some u) ∧ ∀ u ∈ xs, u.oneCell' = true := by
  unfold BdsRep CRep at h
  obtain ⟨a', q', he, h1, h2, h3⟩ := h
  simp only [Value.slice.injEq] at he
  obtain ⟨rfl, rfl, rfl⟩ := he
  rcases h3 with h3 | ⟨b, off, rfl, -, -, h3⟩
  · rw [h3] at hn; exact absurd hn (by simp)
  · obtain ⟨xs, r1, r2, r3⟩ := BdVals.of_rows bs off h3
    exact ⟨_, xs, rfl, r1, fun j u hj => by have := r2 j u hj; cases j <;> simpa [Addr.add] using this, r3⟩
theorem BdsRep.n_eq {F : Nat → Prop} {w : World} {bs : List Bd} {a : Option Addr} {n q : Nat} (h : BdsRep F w bs (.slice a n q)) : n = bs.length := by
  unfold BdsRep CRep at h
  obtain ⟨a', q', he, -⟩ := h
  simp only [Value.slice.injEq] at he
  rw [he.2.1, Bd.rows_length]
theorem BdsRep.cellsAny {F : Nat → Prop} {w : World} {bs : List Bd} {ad : Addr} {n q : Nat} (h : BdsRep F w bs (.slice (some ad) n q)) : ∃ ad' xs, some ad = some ad' ∧ BdVals F w bs xs ∧ (∀ j u, xs[j]? = some u → w.cell? (ad'.add j) = some u) ∧ ∀ u ∈ xs, u.oneCell' = true := by
  by_cases hn : 0 < n
  · exact h.cells hn
  · have := h.n_eq
    have : bs = [] := List.length_eq_zero_iff.1 (by omega)
    subst this
    exact ⟨ad, [], rfl, rfl, by simp, by simp⟩
theorem BdsRep.old {F : Nat → Prop} {w : World} {bs : List Bd} {y : Value} (r : BdsRep F w bs y) : BdsRep (· < w.heap.size) w bs y := r.move (.weaken fun _ _ h => h)
end Go.Proofs.Ytkhmkohgnikcmaa
namespace Go.Proofs.Ytkhmkohgnikcmaa
open Go.RowKit
set_option linter.unusedVariables false
set_option linter.unusedSimpArgs false
set_option maxRecDepth 100000

theorem Try.infoBdC : (Try.prog.info? 66).map (fun i => (i.zero, i.size, i.bytes)) = some (some (.agg #[.string ByteArray.empty, .int .i64 0, .slice none 0 0]), 3, 48) := by kernel_rfl
theorem BdM.none {B : Nat} {w : World} : BdM B w (.slice none 0 0) [] := ⟨[], World.ownsRow_nil w B _ _, rfl⟩
end Go.Proofs.Ytkhmkohgnikcmaa
