/-
  Contexts are drawn.
-/
import Derived.Test.YtgbjoalpjoihmaaBdL
import Derived.Test.YtgbjoalpjoihmaaMut
import Derived.Laws.AppendOwnNone
namespace Go.Proofs.Ytgbjoalpjoihmaa
open Go.RowKit
set_option linter.unusedVariables false
set_option linter.unusedSimpArgs false
set_option maxRecDepth 100000

theorem Try.infoBdL : (Try.prog.info? 44).map (fun i => (i.zero, i.size, i.bytes)) = some (some (.agg #[.string ByteArray.empty, .int .i64 0, .slice none 0 0]), 3, 48) := by kernel_rfl
theorem strs_cell {X : World} {B : Nat} (xs : List ByteArray) {T : TypeId} (hB : X.heap.size = B) (Q : ByteArray → Prop) (hQ : ∀ x ∈ xs, Q x) (i : Nat) (hi : i < xs.length) :
    ∃ x, (X.alloc (.cells (xs.map Value.string).toArray T)).cell? ⟨B, i, none⟩ = some (.string x) ∧ Q x := by
  refine ⟨xs[i], ?_, hQ _ (List.getElem_mem hi)⟩
  rw [cell_new hB]
  simp [hi]
theorem BdL.own_lt {r B g : Nat} {w : World} {v : Value} {bs : List Bd} (h : BdL r B w v bs) (hg : v.ownBlock = some g) : B ≤ g ∧ g < w.heap.size := by
  obtain ⟨hr, hso, xs, ⟨h1, h2 | ⟨g', cap, cur, h2, hB, hb, -⟩⟩, -⟩ := h
  · rw [h2.1] at hg; cases hg
  · rw [h2] at hg
    simp only [Value.ownBlock, Option.some.injEq] at hg
    subst hg
    exact ⟨hB, (Array.getElem?_eq_some_iff.1 hb).1⟩
theorem BdL.fro {r B g n q : Nat} {w : World} {bs : List Bd} (h : BdL r B w (.slice (some ⟨g, 0, none⟩) n q) bs) (o : Nat) : w.frozen? ⟨g, o, none⟩ = false := by
  obtain ⟨hr, hso, xs, ⟨h1, h2 | ⟨g', cap, cur, h2, hB, hb, -⟩⟩, -⟩ := h
  · simp at h2
  · simp only [Value.slice.injEq, Option.some.injEq, Addr.mk.injEq, and_true] at h2
    obtain ⟨rfl, -⟩ := h2
    simp [World.frozen?, hb]
theorem BdL.cell {r B g n q : Nat} {w : World} {b : Bd} {bs : List Bd} (h : BdL r B w (.slice (some ⟨g, 0, none⟩) n q) (b :: bs)) (o : Nat) (ho : o < 3) : ∃ u, w.cell? ⟨g, o, none⟩ = some u := by
  obtain ⟨a, q', he⟩ := h.shape
  simp only [Value.slice.injEq] at he
  obtain ⟨-, rfl, -⟩ := he
  obtain ⟨hr, hso, xs, h1, kk, sl, rest, rfl, -⟩ := h
  have hc := ownsRow_cells' h1
  have : o = 0 ∨ o = 1 ∨ o = 2 := by omega
  rcases this with rfl | rfl | rfl
  · exact ⟨_, hc 0 _ rfl⟩
  · exact ⟨_, hc 1 _ rfl⟩
  · exact ⟨_, hc 2 _ rfl⟩
theorem BdL.form {r B : Nat} {w : World} {v : Value} {b : Bd} {bs : List Bd} (h : BdL r B w v (b :: bs)) : ∃ g q, v = .slice (some ⟨g, 0, none⟩) (b :: bs).length q := by
  obtain ⟨hr, hso, xs, ⟨h1, h2 | ⟨g', cap, cur, h2, hB, hb, -⟩⟩, -⟩ := h
  · simp at h2
  · exact ⟨g', cap, h2⟩
def CtxPost (r : Nat) (w : World) (e : Ending) (w' : World) : Prop := ∃ bs ad q, e = .returned (.slice (some ad) bs.length q) ∧ bs.length ≤ 3 ∧ BdsRep (fun _ => True) w' bs (.slice (some ad) bs.length q) ∧ Chg [r] w w'
theorem BdL.post {r B : Nat} {w0 w : World} {a : Option Addr} {n q : Nat} {bs : List Bd} (h : BdL r B w (.slice a n q) bs) (hn : bs.length ≤ 3) (hc : Chg [r] w0 w) : CtxPost r w0 (.returned (.slice a n q)) w := by
  obtain ⟨a', q', he⟩ := h.shape
  simp only [Value.slice.injEq] at he
  obtain ⟨rfl, rfl, rfl⟩ := he
  obtain ⟨g, hg⟩ := h.2.1
  cases a with
  | none => simp [Value.ownBlock] at hg
  | some ad => exact ⟨bs, ad, q, rfl, hn, h.rep, hc⟩

set_option maxHeartbeats 4000000 in
theorem specL3Ctx (r : Nat) (w : World) (h : RdAt w r 0) : Calls Try.prog 21 #[.pointer (some ⟨r, 0, none⟩)] w (CtxPost r w) := by
  have hrl := h.1
  obtain ⟨i0, hi, hz0, hz1, hz2⟩ := info_parts Try.infoBdL
  have Z0 := Lib.hid hz0
  have Z1 := Lib.hid hz1
  have Z2 := Lib.hid hz2
  have HI := Lib.hid hi
  clear hz0 hz1 hz2 hi
  go_enter Try.func21, Try.ntmps21
  go_wp2_with fail
  refine (specNum (fun k => 0 ≤ k ∧ k ≤ 3) r 0 _ 4 4 _ (h.below bal2) (by omega) (by omega) (by omega) (Nat.le_refl _) (by omega) (ints_cell [2, 1, 3, 0] (by simp) _ (by decide))).mono ?_
  rintro e w1 ⟨k, rfl, ⟨k0, k3⟩, hrd1, hch1⟩
  obtain ⟨m0, rfl⟩ := Int.eq_ofNat_of_zero_le k0
  have hm03 : m0 ≤ 3 := by omega
  have HL0 := Lib.hid (((BdL.nil (r := r) (B := w.heap.size) (g := w.heap.size) (cs := #[]) hrl (Nat.le_refl _) (heap_alloc_new w _) rfl).below bal1).chg hch1)
  have hch := (Chg.of_below bal2).trans hch1
  clear k0 k3 hch1
  go_wp2_with fail
  go_loopw [4, 3] (fun i p wr => ∃ m : Nat, m ≤ 3 ∧ i = .int .i64 m ∧ (∃ q : Nat, q + 300 * m ≤ 1000 ∧ RdAt wr r q) ∧ Hid (∃ bs, bs.length + m ≤ 3 ∧ BdL r w.heap.size wr p bs) ∧ Chg [r] w wr) (fun i _ _ => (intOf i).toNat)
  case atStart => exact ⟨m0, hm03, rfl, ⟨1, by omega, hrd1⟩, ⟨[], by simpa using hm03, HL0.out⟩, hch⟩
  case round =>
    obtain ⟨m, hm, rfl, ⟨q, hq, hrd⟩, hL, hcw⟩ := hrel
    obtain ⟨bs, hbm, hbl⟩ := hL.out
    clear hL
    obtain ⟨cv, qv, rfl⟩ := hbl.shape
    have hwr := hcw.size
    by_cases hm0 : 0 < m
    · have hd : decide ((m : Int) > 0) = true := by simp; omega
      obtain ⟨nn, hnn⟩ : ∃ x, bs.length = x := ⟨_, rfl⟩
      have HNN := Lib.hid hnn
      have HBL := Lib.hid hbl
      have hnn3 : nn + m ≤ 3 := by omega
      rw [hnn]
      rw [hnn] at HBL
      clear hbl hnn hbm
      go_wp2_with fail
      refine (specOf (fun s => s.size ≤ maxLen) r q _ 4 4 _ (hrd.below bal1) (by omega) (by omega) (by omega) (Nat.le_refl _) (by omega) (strs_cell [⟨#[120]⟩, ⟨#[122]⟩, ⟨#[120]⟩, ⟨#[121]⟩] (by simp) _ (by unfold maxLen; decide))).mono ?_
      rintro e w2 ⟨nm, rfl, hnm, hrd2, hch2⟩
      have hs2 : wr.heap.size + 1 ≤ w2.heap.size := by have := hch2.size; simp at this; omega
      go_wp2_with fail
      refine (specL1Type r (q + 1) _ hrd2 (by omega)).mono ?_
      rintro e w3 ⟨t, v, q3, rfl, hcn, hv, hq3, hrd3, hch3⟩
      obtain ⟨kt, ct, nt, qt, rfl⟩ := hv.shape
      have hs3 := hch3.size
      have HB3 := ((HBL.out.below bal1).chg hch2).chg hch3
      obtain ⟨hrB, -, xs, ho, hvs⟩ := HB3.below (bal1 (o := .cells #[.string nm, .int .i64 kt, .slice ct nt qt] 44))
      rw [HNN.out] at ho
      have HO := Lib.hid ho
      have HVS := Lib.hid hvs
      have HNM := Lib.hid hnm
      have HF := Lib.hid (show ∀ b, w2.heap.size ≤ b → b < w3.heap.size → b ≠ r ∧ (Value.slice cv nn qv).ownBlock ≠ some b from fun b hb _ => ⟨by omega, fun e => by have := (HBL.out.own_lt e).2; omega⟩)
      have HV := Lib.hid ((hv.move (.weaken HF.out)).below (bal1 (o := .cells #[.string nm, .int .i64 kt, .slice ct nt qt] 44)))
      have HO3 := Lib.hid (HB3.2)
      have HCH := Lib.hid ((((Chg.refl [r] wr).trans (Chg.of_below bal1)).trans hch2).trans hch3)
      have HRD3 := Lib.hid hrd3
      clear ho hvs hnm hrB hv HB3 hrd2 hch2 hrd3 hch3 hrd
      go_wp2_with (first | (at_builtin; refine wpList_append_lies _ rfl (.tmp 13) (.tmp 20) 23 rfl w.heap.size 44 i0 _ 3 48 Try.underlying23 HI.out Z0.out Z1.out Z2.out rfl (by omega) (.slice cv nn qv) nn xs rfl HO.out ⟨w3.heap.size, 0, none⟩ 1 1 [.string nm, .int .i64 kt, .slice ct nt qt] rfl rfl (World.news_of_block (cs := #[.string nm, .int .i64 kt, .slice ct nt qt]) (t := 44) (fr := (0, 0)) (heap_alloc_new w3 _)) (by simp [Value.oneCell']) (by omega) (by unfold maxLen; omega) (by omega) (by simp; omega) _ rfl ?_) | fail)
      intro gg cap2 w4 hown hgrow hat hlt
      have hnew : BdL r w.heap.size w4 (.slice (some ⟨gg, 0, none⟩) (nn + 1) cap2) (bs ++ [⟨nm, t⟩]) := by
        have := BdL.push (g := gg) (cap := cap2) (W := w3.alloc (.cells #[.string nm, .int .i64 kt, .slice ct nt qt] 44)) (w2 := w4) (bs := bs) (v := .slice cv nn qv) hrl HVS.out HNM.out HV.out (by rw [HNN.out]; exact hown) hgrow (hat.elim .inl (fun h => .inr (by rw [h]; simp)))
        rw [HNN.out] at this
        exact this
      have hrd4 : RdAt w4 r q3 := RdAt.grown (HRD3.out.below bal1) HO.out hrl hgrow
      obtain ⟨ho3r, -, xs3, ho3, -⟩ := HBL.out
      have hcw4 : Chg [r] w w4 := grown_chg hcw (HCH.out.trans (Chg.of_below bal1)) ho3 (Nat.le_refl _) hgrow
      have HNEW := Lib.hid hnew
      clear hnew hown hgrow hat ho3
      obtain ⟨m', rfl⟩ : ∃ x, m = x + 1 := ⟨m - 1, by omega⟩
      have hwr2 := IntWalk.i64_in (((m' + 1 : Nat) : Int) - 1) (by omega)
      go_wp2_with fail
      go_roundw
      case rel => exact ⟨m', by omega, by go_num, ⟨q3, by omega, hrd4⟩, ⟨_, by rw [List.length_append, HNN.out]; simp; omega, HNEW.out⟩, hcw4⟩
      case measure => simp [intOf]
    · have hm00 : m = 0 := by omega
      subst hm00
      have hd : decide (((0 : Nat) : Int) > 0) = false := by simp
      cases bs with
      | nil =>
        have HBL := Lib.hid hbl
        clear hbl
        simp only [List.length_nil]
        go_wp2_with fail
        go_ret
        exact HBL.out.post (by simp) hcw
      | cons b0 bs =>
        obtain ⟨g, qg, he⟩ := hbl.form
        simp only [Value.slice.injEq] at he
        obtain ⟨rfl, -, rfl⟩ := he
        have hgB := hbl.own_lt (g := g) rfl
        have HLEN := Lib.hid (show (b0 :: bs).length ≤ 3 by omega)
        obtain ⟨nn, hnn⟩ : ∃ x, (b0 :: bs).length = x := ⟨_, rfl⟩
        have hpos : 0 < nn := by rw [← hnn]; simp
        have hnn3 : nn ≤ 3 := by omega
        rw [hnn] at hbl ⊢
        have HBL := Lib.hid hbl
        clear hbl hnn hbm
        have hdn : decide ((nn : Int) > 0) = true := by simp; omega
        go_wp2_with fail
        refine (specPick r q 30 _ hrd (by omega) (by omega)).mono ?_
        rintro e w2 ⟨k, rfl, k0, -, hrd2, hch2⟩
        have hs2 := hch2.size
        have hcw2 := hcw.trans hch2
        have HB2 := Lib.hid (HBL.out.chg hch2)
        clear hch2 HBL hrd hcw
        by_cases hk : k = 0
        · subst hk
          go_wp2_with fail
          refine (specOf (fun s => s.size ≤ maxLen) r (q + 1) _ 3 3 _ (hrd2.below bal1) (by omega) (by omega) (by omega) (Nat.le_refl _) (by omega) (strs_cell [⟨#[88]⟩, ⟨#[]⟩, ⟨#[120]⟩] (by simp) _ (by unfold maxLen; decide))).mono ?_
          rintro e w3 ⟨nm, rfl, hnm, hrd3, hch3⟩
          have hs3 : w2.heap.size + 1 ≤ w3.heap.size := by have := hch3.size; simp at this; omega
          go_wp2_with fail
          refine (specL1Type r (q + 1 + 1) _ hrd3 (by omega)).mono ?_
          rintro e w4 ⟨t, v, q4, rfl, hcn, hv, hq4, hrd4, hch4⟩
          obtain ⟨kt, ct, nt, qt, rfl⟩ := hv.shape
          have hs4 := hch4.size
          go_wp2_with fail
          refine (specL1Mutate r q4 14 t _ _ hrd4 (hv.ne (by omega)) hcn (by omega) (by omega)).mono ?_
          rintro e w5 ⟨u, v, q5, rfl, hcu, hu, hq5, hrd5, hch5⟩
          obtain ⟨ku, cu, nu, qu, rfl⟩ := hu.shape
          have hs5 := hch5.size
          have hB5 := (((HB2.out.below bal1).chg hch3).chg hch4).chg hch5
          have hcw5 := (((hcw2.trans (Chg.of_below bal1)).trans hch3).trans hch4).trans hch5
          have hg5 : g < w5.heap.size := by omega
          obtain ⟨u0, c0⟩ := hB5.cell 0 (by omega)
          obtain ⟨u1, c1⟩ := hB5.cell 1 (by omega)
          obtain ⟨u2, c2⟩ := hB5.cell 2 (by omega)
          have f0 := hB5.fro 0
          have f1 := hB5.fro 1
          have f2 := hB5.fro 2
          have HSET := Lib.hid (hB5.set0 hnm (hu.move (.weaken fun b hb _ => (⟨by omega, by omega⟩ : b ≠ r ∧ b ≠ g))))
          clear hB5 hnm hu hv HB2 hch3 hch4 hch5 hrd2 hrd3 hrd4
          go_wp2_with fail
          go_ret
          exact HSET.out.post (by have := HLEN.out; simp at this ⊢; omega) (((hcw5.trans' (by show w.heap.size ≤ g; omega) _).trans' (by show w.heap.size ≤ g; omega) _).trans' (by show w.heap.size ≤ g; omega) _)
        · have hk0 : (k == 0) = false := by simpa using hk
          clear hk
          go_wp2_with fail
          go_ret
          exact HB2.out.post HLEN.out hcw2

set_option maxHeartbeats 1000000 in
theorem specDrawCtxValid (r : Nat) (y : Value) (w : World) (h : ByRep w r y) (hr : r ≤ w.heap.size) : Calls Try.prog 6 #[y] w fun e w' => ∃ bs ad q, e = .returned (.slice (some ad) bs.length q) ∧ bs.length ≤ 3 ∧ BdsRep (fun _ => True) w' bs (.slice (some ad) bs.length q) ∧ Below w.heap.size w w' := by
  obtain ⟨a, n, q, rfl⟩ := h.shape
  go_enter Try.func6, Try.ntmps6
  go_wp2_with fail
  refine (specOpen r _ _ h hr).mono ?_
  rintro e w1 ⟨rb, rfl, hrb, hrd, hb1⟩
  go_wp2_with fail
  refine (specL3Ctx rb _ hrd).mono ?_
  rintro e w2 ⟨bs, ad, qq, rfl, hn, hv, hch⟩
  have HV := Lib.hid hv
  have HN := Lib.hid hn
  obtain ⟨nn, hnn⟩ : ∃ x, bs.length = x := ⟨_, rfl⟩
  have HNN := Lib.hid hnn
  rw [hnn]
  clear hv hn hnn
  go_wp2_with fail
  go_ret
  exact ⟨bs, ad, qq, by rw [HNN.out]; rfl, HN.out, HV.out, hb1.trans (hch.below (fun b hb => by simp at hb; omega) hb1.size)⟩
end Go.Proofs.Ytgbjoalpjoihmaa
