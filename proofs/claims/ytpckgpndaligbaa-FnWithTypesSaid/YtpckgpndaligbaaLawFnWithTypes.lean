/-
  FnWithTypes returns true: the walk.
-/
import Derived.Test.YtpckgpndaligbaaTmDrawW
import Derived.Test.YtpckgpndaligbaaB42
import Derived.Test.YtpckgpndaligbaaB29
import Derived.Test.YtpckgpndaligbaaTmWithI
import Derived.Test.YtpckgpndaligbaaTmWithT
import Derived.Deep.DeepCutAuto
import Derived.Deep.RegionHeld3
namespace Go.Proofs.Ytpckgpndaligbaa
open Go.RowKit
set_option linter.unusedVariables false
set_option linter.unusedSimpArgs false
set_option maxRecDepth 100000


/-- What a statement 'x, ok := f(..)' leaves where the result is a term, in whatever order its parts come up. -/
def CutTm (t : Tm) (bb : Bool) (w : World) (s s' : Value) (wx : World) : Prop := ∃ (g : Nat) (k : Int) (nm : ByteArray) (u tk : Int) (ta : Option Addr) (tn tq : Nat) (fk : Int) (fa : Option Addr) (fn fq : Nat) (l : Int) (c : Option Addr) (m q : Nat), s = .pointer (some ⟨g, 0, none⟩) ∧ s' = .bool bb ∧ wx.heap[g]? = some (.cells #[.int .i64 k, .string nm, .int .i64 u, .int .i64 tk, .slice ta tn tq, .int .i64 fk, .slice fa fn fq, .int .i64 l, .slice c m q] 28 (0, 0)) ∧ TmRep (fun _ => True) wx t (.agg #[.int .i64 k, .string nm, .int .i64 u, .int .i64 tk, .slice ta tn tq, .int .i64 fk, .slice fa fn fq, .int .i64 l, .slice c m q]) ∧ Below w.heap.size w wx
theorem CutTm_late {w ws x : World} {t : Tm} {bb : Bool} {k u tk fk l : Int} {nm : ByteArray} {ta fa c : Option Addr} {tn tq fn fq m q : Nat} (hb : Below w.heap.size w ws) (hv : TmNew x.heap.size ws t (.agg #[.int .i64 k, .string nm, .int .i64 u, .int .i64 tk, .slice ta tn tq, .int .i64 fk, .slice fa fn fq, .int .i64 l, .slice c m q])) :
    CutTm t bb w (.pointer (some ⟨ws.heap.size, 0, none⟩)) (.bool bb) (ws.alloc (.cells #[.int .i64 k, .string nm, .int .i64 u, .int .i64 tk, .slice ta tn tq, .int .i64 fk, .slice fa fn fq, .int .i64 l, .slice c m q] 28)) :=
  ⟨ws.heap.size, k, nm, u, tk, ta, tn, tq, fk, fa, fn, fq, l, c, m, q, rfl, rfl, blk_new rfl, (hv.rep.below bal1).move (.weaken fun _ _ _ => trivial), bstep hb bal1⟩
theorem CutTm_early {w ws x : World} {t : Tm} {bb : Bool} {k u tk fk l : Int} {nm : ByteArray} {ta fa c : Option Addr} {tn tq fn fq m q g : Nat} (hb : Below w.heap.size w ws) (h0 : ws.heap[g]? = some (.cells #[.int .i64 0, .string { data := #[] }, .int .i64 0, .int .i64 0, .slice none 0 0, .int .i64 0, .slice none 0 0, .int .i64 0, .slice none 0 0] 28 (0, 0))) (hg : w.heap.size ≤ g) (hx : g < x.heap.size) (hv : TmNew x.heap.size ws t (.agg #[.int .i64 k, .string nm, .int .i64 u, .int .i64 tk, .slice ta tn tq, .int .i64 fk, .slice fa fn fq, .int .i64 l, .slice c m q])) :
    CutTm t bb w (.pointer (some ⟨g, 0, none⟩)) (.bool bb) (((((((((ws.setCell ⟨g, 0, none⟩ (.int .i64 k)).setCell ⟨g, 1, none⟩ (.string nm)).setCell ⟨g, 2, none⟩ (.int .i64 u)).setCell ⟨g, 3, none⟩ (.int .i64 tk)).setCell ⟨g, 4, none⟩ (.slice ta tn tq)).setCell ⟨g, 5, none⟩ (.int .i64 fk)).setCell ⟨g, 6, none⟩ (.slice fa fn fq)).setCell ⟨g, 7, none⟩ (.int .i64 l)).setCell ⟨g, 8, none⟩ (.slice c m q)) := by
  have h1 : (ws.setCell ⟨g, 0, none⟩ (.int .i64 k)).heap[g]? = some (.cells #[.int .i64 k, .string { data := #[] }, .int .i64 0, .int .i64 0, .slice none 0 0, .int .i64 0, .slice none 0 0, .int .i64 0, .slice none 0 0] 28 (0, 0)) := blk_set h0 rfl
  have h2 : ((ws.setCell ⟨g, 0, none⟩ (.int .i64 k)).setCell ⟨g, 1, none⟩ (.string nm)).heap[g]? = some (.cells #[.int .i64 k, .string nm, .int .i64 0, .int .i64 0, .slice none 0 0, .int .i64 0, .slice none 0 0, .int .i64 0, .slice none 0 0] 28 (0, 0)) := blk_set h1 rfl
  have h3 : (((ws.setCell ⟨g, 0, none⟩ (.int .i64 k)).setCell ⟨g, 1, none⟩ (.string nm)).setCell ⟨g, 2, none⟩ (.int .i64 u)).heap[g]? = some (.cells #[.int .i64 k, .string nm, .int .i64 u, .int .i64 0, .slice none 0 0, .int .i64 0, .slice none 0 0, .int .i64 0, .slice none 0 0] 28 (0, 0)) := blk_set h2 rfl
  have h4 : ((((ws.setCell ⟨g, 0, none⟩ (.int .i64 k)).setCell ⟨g, 1, none⟩ (.string nm)).setCell ⟨g, 2, none⟩ (.int .i64 u)).setCell ⟨g, 3, none⟩ (.int .i64 tk)).heap[g]? = some (.cells #[.int .i64 k, .string nm, .int .i64 u, .int .i64 tk, .slice none 0 0, .int .i64 0, .slice none 0 0, .int .i64 0, .slice none 0 0] 28 (0, 0)) := blk_set h3 rfl
  have h5 : (((((ws.setCell ⟨g, 0, none⟩ (.int .i64 k)).setCell ⟨g, 1, none⟩ (.string nm)).setCell ⟨g, 2, none⟩ (.int .i64 u)).setCell ⟨g, 3, none⟩ (.int .i64 tk)).setCell ⟨g, 4, none⟩ (.slice ta tn tq)).heap[g]? = some (.cells #[.int .i64 k, .string nm, .int .i64 u, .int .i64 tk, .slice ta tn tq, .int .i64 0, .slice none 0 0, .int .i64 0, .slice none 0 0] 28 (0, 0)) := blk_set h4 rfl
  have h6 : ((((((ws.setCell ⟨g, 0, none⟩ (.int .i64 k)).setCell ⟨g, 1, none⟩ (.string nm)).setCell ⟨g, 2, none⟩ (.int .i64 u)).setCell ⟨g, 3, none⟩ (.int .i64 tk)).setCell ⟨g, 4, none⟩ (.slice ta tn tq)).setCell ⟨g, 5, none⟩ (.int .i64 fk)).heap[g]? = some (.cells #[.int .i64 k, .string nm, .int .i64 u, .int .i64 tk, .slice ta tn tq, .int .i64 fk, .slice none 0 0, .int .i64 0, .slice none 0 0] 28 (0, 0)) := blk_set h5 rfl
  have h7 : (((((((ws.setCell ⟨g, 0, none⟩ (.int .i64 k)).setCell ⟨g, 1, none⟩ (.string nm)).setCell ⟨g, 2, none⟩ (.int .i64 u)).setCell ⟨g, 3, none⟩ (.int .i64 tk)).setCell ⟨g, 4, none⟩ (.slice ta tn tq)).setCell ⟨g, 5, none⟩ (.int .i64 fk)).setCell ⟨g, 6, none⟩ (.slice fa fn fq)).heap[g]? = some (.cells #[.int .i64 k, .string nm, .int .i64 u, .int .i64 tk, .slice ta tn tq, .int .i64 fk, .slice fa fn fq, .int .i64 0, .slice none 0 0] 28 (0, 0)) := blk_set h6 rfl
  have h8 : ((((((((ws.setCell ⟨g, 0, none⟩ (.int .i64 k)).setCell ⟨g, 1, none⟩ (.string nm)).setCell ⟨g, 2, none⟩ (.int .i64 u)).setCell ⟨g, 3, none⟩ (.int .i64 tk)).setCell ⟨g, 4, none⟩ (.slice ta tn tq)).setCell ⟨g, 5, none⟩ (.int .i64 fk)).setCell ⟨g, 6, none⟩ (.slice fa fn fq)).setCell ⟨g, 7, none⟩ (.int .i64 l)).heap[g]? = some (.cells #[.int .i64 k, .string nm, .int .i64 u, .int .i64 tk, .slice ta tn tq, .int .i64 fk, .slice fa fn fq, .int .i64 l, .slice none 0 0] 28 (0, 0)) := blk_set h7 rfl
  have h9 : (((((((((ws.setCell ⟨g, 0, none⟩ (.int .i64 k)).setCell ⟨g, 1, none⟩ (.string nm)).setCell ⟨g, 2, none⟩ (.int .i64 u)).setCell ⟨g, 3, none⟩ (.int .i64 tk)).setCell ⟨g, 4, none⟩ (.slice ta tn tq)).setCell ⟨g, 5, none⟩ (.int .i64 fk)).setCell ⟨g, 6, none⟩ (.slice fa fn fq)).setCell ⟨g, 7, none⟩ (.int .i64 l)).setCell ⟨g, 8, none⟩ (.slice c m q)).heap[g]? = some (.cells #[.int .i64 k, .string nm, .int .i64 u, .int .i64 tk, .slice ta tn tq, .int .i64 fk, .slice fa fn fq, .int .i64 l, .slice c m q] 28 (0, 0)) := blk_set h8 rfl
  exact ⟨g, k, nm, u, tk, ta, tn, tq, fk, fa, fn, fq, l, c, m, q, rfl, rfl, h9, ((((((((((hv.rep.setB (p := ⟨g, 0, none⟩) (by show g < x.heap.size; omega) _).setB (p := ⟨g, 1, none⟩) (by show g < x.heap.size; omega) _).setB (p := ⟨g, 2, none⟩) (by show g < x.heap.size; omega) _).setB (p := ⟨g, 3, none⟩) (by show g < x.heap.size; omega) _).setB (p := ⟨g, 4, none⟩) (by show g < x.heap.size; omega) _).setB (p := ⟨g, 5, none⟩) (by show g < x.heap.size; omega) _).setB (p := ⟨g, 6, none⟩) (by show g < x.heap.size; omega) _).setB (p := ⟨g, 7, none⟩) (by show g < x.heap.size; omega) _).setB (p := ⟨g, 8, none⟩) (by show g < x.heap.size; omega) _)).move (.weaken fun _ _ _ => trivial), (((((((((hb.setCell (p := ⟨g, 0, none⟩) (by show w.heap.size ≤ g; omega) _).setCell (p := ⟨g, 1, none⟩) (by show w.heap.size ≤ g; omega) _).setCell (p := ⟨g, 2, none⟩) (by show w.heap.size ≤ g; omega) _).setCell (p := ⟨g, 3, none⟩) (by show w.heap.size ≤ g; omega) _).setCell (p := ⟨g, 4, none⟩) (by show w.heap.size ≤ g; omega) _).setCell (p := ⟨g, 5, none⟩) (by show w.heap.size ≤ g; omega) _).setCell (p := ⟨g, 6, none⟩) (by show w.heap.size ≤ g; omega) _).setCell (p := ⟨g, 7, none⟩) (by show w.heap.size ≤ g; omega) _).setCell (p := ⟨g, 8, none⟩) (by show w.heap.size ≤ g; omega) _)⟩

set_option maxHeartbeats 16000000 in
theorem walk_FnWithTypes (y0 : Value) (w : World) (r0 : ByRep w w.heap.size y0) : Calls Try.prog 3 #[y0] w fun e w' => e = .returned (.bool true) ∧ Below w.heap.size w w' := by
  have HD := Lib.hid (specDrawWithTypes y0 w r0)
  obtain ⟨a0, n0, q0, rfl⟩ := r0.shape
  clear r0
  rcases Bool.eq_false_or_eq_true (decide ((n0 : Int) > 1048576)) with hq | hq
  · go_enter Try.func3, Try.ntmps3
    go_wp2_with fail
    go_ret
    exact ⟨rfl, Below.refl _ _⟩
  go_enter Try.func3, Try.ntmps3
  go_wp2_with fail
  refine HD.out.mono ?_
  rintro e w1 ⟨t, L, v, lv, rfl, hcn, hv, hl, hb1⟩
  obtain ⟨ka, nma, ua, tka, taa, tna, tqa, fka, faa, fna, fqa, la, ca, ma, qa, rfl⟩ := hv.shape
  obtain ⟨ga, gn, gq, rfl⟩ := hl.shape
  have hllen : gn = L.length ∧ gn ≤ gq ∧ gq ≤ maxLen := by
    obtain ⟨a', q', he, h1, h2, -⟩ := hl.open
    simp only [Value.slice.injEq] at he
    obtain ⟨rfl, rfl, rfl⟩ := he
    exact ⟨rfl, h1, h2⟩
  obtain ⟨hln, hlq, hlq2⟩ := hllen
  unfold maxLen at hlq2
  have HLN := Lib.hid hln
  have HB1 := Lib.hid hb1
  have HI := Lib.hid (fun W (k : Below w1.heap.size w1 W) => implWithTypes _ _ t L _ _ W (hv.below k) (hl.below k) (by omega))
  have HS := Lib.hid (fun W (k : Below w1.heap.size w1 W) => specWithTypes _ _ t L _ _ W (hv.below k) (hl.below k) (by omega))
  have HT := Lib.hid (fun W (k : Below w1.heap.size w1 W) => implTermTypes _ t _ W (hv.below k))
  have HV := Lib.hid hv
  have HL := Lib.hid hl
  have HCN := Lib.hid hcn
  clear hb1 hq HD hcn hln
  have hlaw : t.withB L = true → _ := fun h => Tm.with_law h
  have HLAW := Lib.hid hlaw
  clear hlaw
  generalize hbb : t.withB L = bb at HI HS HLAW
  clear hbb
  go_wp2_with fail
  refine (HI.out _ bal1).mono ?_
  rintro e w2 ⟨v2, rfl, hv2, hb2⟩
  obtain ⟨kx, nmx, ux, tkx, tax, tnx, tqx, fkx, fax, fnx, fqx, lx, cx, mx, qx, rfl⟩ := hv2.shape
  have hE2 : w2.heap[w1.heap.size]? = some (.cells #[.int .i64 ka, .string nma, .int .i64 ua, .int .i64 tka, .slice taa tna tqa, .int .i64 fka, .slice faa fna fqa, .int .i64 la, .slice ca ma qa] 28 (0, 0)) := blk_below (blk_new rfl) hb2
  have hB2 := bstep (bal1 (o := .cells #[.int .i64 ka, .string nma, .int .i64 ua, .int .i64 tka, .slice taa tna tqa, .int .i64 fka, .slice faa fna fqa, .int .i64 la, .slice ca ma qa] 28)) hb2
  have HV2 := Lib.hid hv2
  clear hb2 hv2
  have e0 : w2.cell? ⟨w1.heap.size, 0, none⟩ = some (.int .i64 ka) := blk_cell hE2 rfl
  have e1 : w2.cell? ⟨w1.heap.size, 1, none⟩ = some (.string nma) := blk_cell hE2 rfl
  have e2 : w2.cell? ⟨w1.heap.size, 2, none⟩ = some (.int .i64 ua) := blk_cell hE2 rfl
  have e3 : w2.cell? ⟨w1.heap.size, 3, none⟩ = some (.int .i64 tka) := blk_cell hE2 rfl
  have e4 : w2.cell? ⟨w1.heap.size, 4, none⟩ = some (.slice taa tna tqa) := blk_cell hE2 rfl
  have e5 : w2.cell? ⟨w1.heap.size, 5, none⟩ = some (.int .i64 fka) := blk_cell hE2 rfl
  have e6 : w2.cell? ⟨w1.heap.size, 6, none⟩ = some (.slice faa fna fqa) := blk_cell hE2 rfl
  have e7 : w2.cell? ⟨w1.heap.size, 7, none⟩ = some (.int .i64 la) := blk_cell hE2 rfl
  have e8 : w2.cell? ⟨w1.heap.size, 8, none⟩ = some (.slice ca ma qa) := blk_cell hE2 rfl
  have lE2 := blk_lt hE2
  go_wp2_with fail
  refine (HS.out _ (bstep hB2 bal1)).mono ?_
  rintro e w3 ⟨v3, rfl, hv3, hb3⟩
  obtain ⟨ky, nmy, uy, tky, tay, tny, tqy, fky, fay, fny, fqy, ly, cy, my, qy, rfl⟩ := hv3.shape
  have hX3 : w3.heap[w2.heap.size]? = some (.cells #[.int .i64 kx, .string nmx, .int .i64 ux, .int .i64 tkx, .slice tax tnx tqx, .int .i64 fkx, .slice fax fnx fqx, .int .i64 lx, .slice cx mx qx] 28 (0, 0)) := blk_below (blk_new rfl) hb3
  have hE3 := blk_below (blk_below hE2 (bal1 (o := .cells #[.int .i64 kx, .string nmx, .int .i64 ux, .int .i64 tkx, .slice tax tnx tqx, .int .i64 fkx, .slice fax fnx fqx, .int .i64 lx, .slice cx mx qx] 28))) hb3
  have hB3 := bstep (bstep hB2 (bal1 (o := .cells #[.int .i64 kx, .string nmx, .int .i64 ux, .int .i64 tkx, .slice tax tnx tqx, .int .i64 fkx, .slice fax fnx fqx, .int .i64 lx, .slice cx mx qx] 28))) hb3
  have HX3 := Lib.hid ((HV2.out.rep.below (bal1 (o := .cells #[.int .i64 kx, .string nmx, .int .i64 ux, .int .i64 tkx, .slice tax tnx tqx, .int .i64 fkx, .slice fax fnx fqx, .int .i64 lx, .slice cx mx qx] 28))).below hb3)
  have HY3 := Lib.hid hv3.rep
  clear hb3 hv3 hE2 hB2 lE2 e0 e1 e2 e3 e4 e5 e6 e7 e8
  have x0 : w3.cell? ⟨w2.heap.size, 0, none⟩ = some (.int .i64 kx) := blk_cell hX3 rfl
  have x1 : w3.cell? ⟨w2.heap.size, 1, none⟩ = some (.string nmx) := blk_cell hX3 rfl
  have x2 : w3.cell? ⟨w2.heap.size, 2, none⟩ = some (.int .i64 ux) := blk_cell hX3 rfl
  have x3 : w3.cell? ⟨w2.heap.size, 3, none⟩ = some (.int .i64 tkx) := blk_cell hX3 rfl
  have x4 : w3.cell? ⟨w2.heap.size, 4, none⟩ = some (.slice tax tnx tqx) := blk_cell hX3 rfl
  have x5 : w3.cell? ⟨w2.heap.size, 5, none⟩ = some (.int .i64 fkx) := blk_cell hX3 rfl
  have x6 : w3.cell? ⟨w2.heap.size, 6, none⟩ = some (.slice fax fnx fqx) := blk_cell hX3 rfl
  have x7 : w3.cell? ⟨w2.heap.size, 7, none⟩ = some (.int .i64 lx) := blk_cell hX3 rfl
  have x8 : w3.cell? ⟨w2.heap.size, 8, none⟩ = some (.slice cx mx qx) := blk_cell hX3 rfl
  have e0 : w3.cell? ⟨w1.heap.size, 0, none⟩ = some (.int .i64 ka) := blk_cell hE3 rfl
  have e1 : w3.cell? ⟨w1.heap.size, 1, none⟩ = some (.string nma) := blk_cell hE3 rfl
  have e2 : w3.cell? ⟨w1.heap.size, 2, none⟩ = some (.int .i64 ua) := blk_cell hE3 rfl
  have e3 : w3.cell? ⟨w1.heap.size, 3, none⟩ = some (.int .i64 tka) := blk_cell hE3 rfl
  have e4 : w3.cell? ⟨w1.heap.size, 4, none⟩ = some (.slice taa tna tqa) := blk_cell hE3 rfl
  have e5 : w3.cell? ⟨w1.heap.size, 5, none⟩ = some (.int .i64 fka) := blk_cell hE3 rfl
  have e6 : w3.cell? ⟨w1.heap.size, 6, none⟩ = some (.slice faa fna fqa) := blk_cell hE3 rfl
  have e7 : w3.cell? ⟨w1.heap.size, 7, none⟩ = some (.int .i64 la) := blk_cell hE3 rfl
  have e8 : w3.cell? ⟨w1.heap.size, 8, none⟩ = some (.slice ca ma qa) := blk_cell hE3 rfl
  have lX3 := blk_lt hX3
  have lE3 := blk_lt hE3
  have hsame := fun W (k : Below (w3.alloc (.cells #[.int .i64 ky, .string nmy, .int .i64 uy, .int .i64 tky, .slice tay tny tqy, .int .i64 fky, .slice fay fny fqy, .int .i64 ly, .slice cy my qy] 28)).heap.size (w3.alloc (.cells #[.int .i64 ky, .string nmy, .int .i64 uy, .int .i64 tky, .slice tay tny tqy, .int .i64 fky, .slice fay fny fqy, .int .i64 ly, .slice cy my qy] 28)) W) => implTermSame _ _ (t.withT L) (t.withT L) _ _ W ((HX3.out.below bal1).below k) ((HY3.out.below bal1).below k)
  rw [Tm.same_refl] at hsame
  have HSM := Lib.hid hsame
  clear hsame
  cases bb
  · go_wp2_with fail
    refine (HSM.out _ (Below.refl _ _)).mono ?_
    rintro e w4 ⟨rfl, hb4⟩
    replace hX3 := blk_below (blk_below hX3 (bal1 (o := .cells #[.int .i64 ky, .string nmy, .int .i64 uy, .int .i64 tky, .slice tay tny tqy, .int .i64 fky, .slice fay fny fqy, .int .i64 ly, .slice cy my qy] 28))) hb4
    have hY4 : w4.heap[w3.heap.size]? = some (.cells #[.int .i64 ky, .string nmy, .int .i64 uy, .int .i64 tky, .slice tay tny tqy, .int .i64 fky, .slice fay fny fqy, .int .i64 ly, .slice cy my qy] 28 (0, 0)) := blk_below (blk_new rfl) hb4
    replace hB3 := bstep (bstep hB3 (bal1 (o := .cells #[.int .i64 ky, .string nmy, .int .i64 uy, .int .i64 tky, .slice tay tny tqy, .int .i64 fky, .slice fay fny fqy, .int .i64 ly, .slice cy my qy] 28))) hb4
    have HB4 := Lib.hid hb4
    clear x0 x1 x2 x3 x4 x5 x6 x7 x8 e0 e1 e2 e3 e4 e5 e6 e7 e8 hb4
    have x0 : w4.cell? ⟨w2.heap.size, 0, none⟩ = some (.int .i64 kx) := blk_cell hX3 rfl
    have x1 : w4.cell? ⟨w2.heap.size, 1, none⟩ = some (.string nmx) := blk_cell hX3 rfl
    have x2 : w4.cell? ⟨w2.heap.size, 2, none⟩ = some (.int .i64 ux) := blk_cell hX3 rfl
    have x3 : w4.cell? ⟨w2.heap.size, 3, none⟩ = some (.int .i64 tkx) := blk_cell hX3 rfl
    have x4 : w4.cell? ⟨w2.heap.size, 4, none⟩ = some (.slice tax tnx tqx) := blk_cell hX3 rfl
    have x5 : w4.cell? ⟨w2.heap.size, 5, none⟩ = some (.int .i64 fkx) := blk_cell hX3 rfl
    have x6 : w4.cell? ⟨w2.heap.size, 6, none⟩ = some (.slice fax fnx fqx) := blk_cell hX3 rfl
    have x7 : w4.cell? ⟨w2.heap.size, 7, none⟩ = some (.int .i64 lx) := blk_cell hX3 rfl
    have x8 : w4.cell? ⟨w2.heap.size, 8, none⟩ = some (.slice cx mx qx) := blk_cell hX3 rfl
    have y0 : w4.cell? ⟨w3.heap.size, 0, none⟩ = some (.int .i64 ky) := blk_cell hY4 rfl
    have y1 : w4.cell? ⟨w3.heap.size, 1, none⟩ = some (.string nmy) := blk_cell hY4 rfl
    have y2 : w4.cell? ⟨w3.heap.size, 2, none⟩ = some (.int .i64 uy) := blk_cell hY4 rfl
    have y3 : w4.cell? ⟨w3.heap.size, 3, none⟩ = some (.int .i64 tky) := blk_cell hY4 rfl
    have y4 : w4.cell? ⟨w3.heap.size, 4, none⟩ = some (.slice tay tny tqy) := blk_cell hY4 rfl
    have y5 : w4.cell? ⟨w3.heap.size, 5, none⟩ = some (.int .i64 fky) := blk_cell hY4 rfl
    have y6 : w4.cell? ⟨w3.heap.size, 6, none⟩ = some (.slice fay fny fqy) := blk_cell hY4 rfl
    have y7 : w4.cell? ⟨w3.heap.size, 7, none⟩ = some (.int .i64 ly) := blk_cell hY4 rfl
    have y8 : w4.cell? ⟨w3.heap.size, 8, none⟩ = some (.slice cy my qy) := blk_cell hY4 rfl
    have lX4 := blk_lt hX3
    have lY4 := blk_lt hY4
    go_wp2_with fail
    refine (HSM.out _ HB4.out).mono ?_
    rintro e w5 ⟨rfl, hb5⟩
    go_wp2_with fail
    go_ret
    exact ⟨rfl, bstep HB1.out (bstep hB3 hb5)⟩
  · obtain ⟨l1, l2, l3, l4⟩ := HLAW.out rfl
    have hvx := fun W (k : Below w3.heap.size w3 W) => implTermValid _ (t.withT L) _ W (HX3.out.below k)
    rw [l1] at hvx
    have htx := fun W (k : Below w3.heap.size w3 W) => implTermTypes _ (t.withT L) _ W (HX3.out.below k)
    rw [l2] at htx
    have HVX := Lib.hid hvx
    have HTX := Lib.hid htx
    have HL3 := Lib.hid l3
    have HL4 := Lib.hid l4
    clear hvx htx l1 l2 l3 l4 HLAW
    go_wp2_with fail
    refine (HSM.out _ (Below.refl _ _)).mono ?_
    rintro e w4 ⟨rfl, hb4⟩
    have HB34 := Lib.hid (bstep (bal1 (o := .cells #[.int .i64 ky, .string nmy, .int .i64 uy, .int .i64 tky, .slice tay tny tqy, .int .i64 fky, .slice fay fny fqy, .int .i64 ly, .slice cy my qy] 28)) hb4)
    replace hX3 := blk_below hX3 HB34.out
    replace hE3 := blk_below hE3 HB34.out
    replace hB3 := bstep hB3 HB34.out
    clear x0 x1 x2 x3 x4 x5 x6 x7 x8 e0 e1 e2 e3 e4 e5 e6 e7 e8 hb4 HSM
    have x0 : w4.cell? ⟨w2.heap.size, 0, none⟩ = some (.int .i64 kx) := blk_cell hX3 rfl
    have x1 : w4.cell? ⟨w2.heap.size, 1, none⟩ = some (.string nmx) := blk_cell hX3 rfl
    have x2 : w4.cell? ⟨w2.heap.size, 2, none⟩ = some (.int .i64 ux) := blk_cell hX3 rfl
    have x3 : w4.cell? ⟨w2.heap.size, 3, none⟩ = some (.int .i64 tkx) := blk_cell hX3 rfl
    have x4 : w4.cell? ⟨w2.heap.size, 4, none⟩ = some (.slice tax tnx tqx) := blk_cell hX3 rfl
    have x5 : w4.cell? ⟨w2.heap.size, 5, none⟩ = some (.int .i64 fkx) := blk_cell hX3 rfl
    have x6 : w4.cell? ⟨w2.heap.size, 6, none⟩ = some (.slice fax fnx fqx) := blk_cell hX3 rfl
    have x7 : w4.cell? ⟨w2.heap.size, 7, none⟩ = some (.int .i64 lx) := blk_cell hX3 rfl
    have x8 : w4.cell? ⟨w2.heap.size, 8, none⟩ = some (.slice cx mx qx) := blk_cell hX3 rfl
    have e0 : w4.cell? ⟨w1.heap.size, 0, none⟩ = some (.int .i64 ka) := blk_cell hE3 rfl
    have e1 : w4.cell? ⟨w1.heap.size, 1, none⟩ = some (.string nma) := blk_cell hE3 rfl
    have e2 : w4.cell? ⟨w1.heap.size, 2, none⟩ = some (.int .i64 ua) := blk_cell hE3 rfl
    have e3 : w4.cell? ⟨w1.heap.size, 3, none⟩ = some (.int .i64 tka) := blk_cell hE3 rfl
    have e4 : w4.cell? ⟨w1.heap.size, 4, none⟩ = some (.slice taa tna tqa) := blk_cell hE3 rfl
    have e5 : w4.cell? ⟨w1.heap.size, 5, none⟩ = some (.int .i64 fka) := blk_cell hE3 rfl
    have e6 : w4.cell? ⟨w1.heap.size, 6, none⟩ = some (.slice faa fna fqa) := blk_cell hE3 rfl
    have e7 : w4.cell? ⟨w1.heap.size, 7, none⟩ = some (.int .i64 la) := blk_cell hE3 rfl
    have e8 : w4.cell? ⟨w1.heap.size, 8, none⟩ = some (.slice ca ma qa) := blk_cell hE3 rfl
    have lX4 := blk_lt hX3
    have lE4 := blk_lt hE3
    go_wp2_with fail
    refine (HTX.out _ HB34.out).mono ?_
    rintro e w5 ⟨gv, rfl, hgv, hb5⟩
    obtain ⟨va, vq, rfl⟩ := hgv.open_slice
    have hgr := hgv.rep
    rw [← HLN.out] at hgr ⊢
    obtain ⟨-, hvq1, hvq2⟩ : gn = L.length ∧ gn ≤ vq ∧ vq ≤ maxLen := by
      obtain ⟨a', q', he, h1, h2, -⟩ := hgr.open
      simp only [Value.slice.injEq] at he
      obtain ⟨-, h3, rfl⟩ := he
      exact ⟨h3, by omega, h2⟩
    unfold maxLen at hvq2
    have HB35 := Lib.hid (bstep HB34.out hb5)
    have HX5 := Lib.hid (blk_below hX3 hb5)
    have HE5 := Lib.hid (blk_below hE3 hb5)
    have HB5 := Lib.hid (bstep hB3 hb5)
    have HG := Lib.hid hgr
    clear hX3 hE3 hB3 x0 x1 x2 x3 x4 x5 x6 x7 x8 e0 e1 e2 e3 e4 e5 e6 e7 e8 lX4 lE4 hgv hgr hb5
    go_wp2_with fail
    go_loopw [10] (fun i wr => ∃ j : Nat, j ≤ gn ∧ i = .int .i64 j ∧ Hid (Below w5.heap.size w5 wr)) (fun i _ => gn - (intOf i).toNat)
    case atStart => exact ⟨0, by omega, rfl, Below.refl _ _⟩
    case round =>
      obtain ⟨j, hj, rfl, hbw⟩ := hrel
      by_cases hlt : j < gn
      · have hjt : j < L.length := by rw [← HLN.out]; exact hlt
        obtain ⟨b, off, z0, z1, z2, z3, rfl, lb, e0, e1, ht⟩ := HG.out.at hbw.out hjt
        obtain ⟨b', off', z0', z1', z2', z3', rfl, lb', e0', e1', ht'⟩ := HL.out.at (bstep HB5.out hbw.out) hjt
        have hc := fun W (k : Below wr.heap.size wr W) => implTypeSame _ _ L[j] L[j] _ _ W (ht.below k) (ht'.below k)
        rw [Ty.same_refl] at hc
        have HC := Lib.hid hc
        clear hc ht ht'
        go_wp2_with fail
        go_region_held3 (fun w' => w'.cell? ⟨b, off + j * 2, none⟩ = some (.int .i64 z0) ∧ w'.cell? ⟨b, off + j * 2 + 1, none⟩ = some (.slice z1 z2 z3) ∧ w'.cell? ⟨b', off' + j * 2, none⟩ = some (.int .i64 z0') ∧ w'.cell? ⟨b', off' + j * 2 + 1, none⟩ = some (.slice z1' z2' z3'))
          (first | go_keep | exact ⟨bcelld hb6 e0, bcelld hb6 e1, bcelld hb6 e0', bcelld hb6 e1'⟩)
          (first | (go_at_call 9; refine (HC.out _ bdr).mono ?_; rintro e w6 ⟨rfl, hb6⟩))
        go_wp2_with fail
        go_roundw
        case rel => exact ⟨j + 1, by omega, by go_num, bstep hbw.out (bstep bdr hb6)⟩
        case measure => simp [intOf]; omega
      · have hXr := blk_below HX5.out hbw.out
        have hEr := blk_below HE5.out hbw.out
        have HBR := Lib.hid (bstep HB5.out hbw.out)
        have HB3R := Lib.hid (bstep HB35.out hbw.out)
        have x0 : wr.cell? ⟨w2.heap.size, 0, none⟩ = some (.int .i64 kx) := blk_cell hXr rfl
        have x1 : wr.cell? ⟨w2.heap.size, 1, none⟩ = some (.string nmx) := blk_cell hXr rfl
        have x2 : wr.cell? ⟨w2.heap.size, 2, none⟩ = some (.int .i64 ux) := blk_cell hXr rfl
        have x3 : wr.cell? ⟨w2.heap.size, 3, none⟩ = some (.int .i64 tkx) := blk_cell hXr rfl
        have x4 : wr.cell? ⟨w2.heap.size, 4, none⟩ = some (.slice tax tnx tqx) := blk_cell hXr rfl
        have x5 : wr.cell? ⟨w2.heap.size, 5, none⟩ = some (.int .i64 fkx) := blk_cell hXr rfl
        have x6 : wr.cell? ⟨w2.heap.size, 6, none⟩ = some (.slice fax fnx fqx) := blk_cell hXr rfl
        have x7 : wr.cell? ⟨w2.heap.size, 7, none⟩ = some (.int .i64 lx) := blk_cell hXr rfl
        have x8 : wr.cell? ⟨w2.heap.size, 8, none⟩ = some (.slice cx mx qx) := blk_cell hXr rfl
        have e0 : wr.cell? ⟨w1.heap.size, 0, none⟩ = some (.int .i64 ka) := blk_cell hEr rfl
        have e1 : wr.cell? ⟨w1.heap.size, 1, none⟩ = some (.string nma) := blk_cell hEr rfl
        have e2 : wr.cell? ⟨w1.heap.size, 2, none⟩ = some (.int .i64 ua) := blk_cell hEr rfl
        have e3 : wr.cell? ⟨w1.heap.size, 3, none⟩ = some (.int .i64 tka) := blk_cell hEr rfl
        have e4 : wr.cell? ⟨w1.heap.size, 4, none⟩ = some (.slice taa tna tqa) := blk_cell hEr rfl
        have e5 : wr.cell? ⟨w1.heap.size, 5, none⟩ = some (.int .i64 fka) := blk_cell hEr rfl
        have e6 : wr.cell? ⟨w1.heap.size, 6, none⟩ = some (.slice faa fna fqa) := blk_cell hEr rfl
        have e7 : wr.cell? ⟨w1.heap.size, 7, none⟩ = some (.int .i64 la) := blk_cell hEr rfl
        have e8 : wr.cell? ⟨w1.heap.size, 8, none⟩ = some (.slice ca ma qa) := blk_cell hEr rfl
        have lXr := blk_lt hXr
        have lEr := blk_lt hEr
        have hwt := fun (gv : Value) W (k : Below w3.heap.size w3 W) (hg : TysRep (fun _ => True) W t.types gv) => implWithTypesN _ _ (t.withT L) t.types _ gv W (HX3.out.below k) hg
        rw [HL3.out, HL4.out] at hwt
        have HWT := Lib.hid hwt
        clear hwt
        have hS0 := Lib.hid (show wr.cell? ⟨w2.heap.size, 0, none⟩ = some (.int .i64 kx) ∧ wr.cell? ⟨w2.heap.size, 1, none⟩ = some (.string nmx) ∧ wr.cell? ⟨w2.heap.size, 2, none⟩ = some (.int .i64 ux) ∧ wr.cell? ⟨w2.heap.size, 3, none⟩ = some (.int .i64 tkx) ∧ wr.cell? ⟨w2.heap.size, 4, none⟩ = some (.slice tax tnx tqx) ∧ wr.cell? ⟨w2.heap.size, 5, none⟩ = some (.int .i64 fkx) ∧ wr.cell? ⟨w2.heap.size, 6, none⟩ = some (.slice fax fnx fqx) ∧ wr.cell? ⟨w2.heap.size, 7, none⟩ = some (.int .i64 lx) ∧ wr.cell? ⟨w2.heap.size, 8, none⟩ = some (.slice cx mx qx) ∧ wr.cell? ⟨w1.heap.size, 0, none⟩ = some (.int .i64 ka) ∧ wr.cell? ⟨w1.heap.size, 1, none⟩ = some (.string nma) ∧ wr.cell? ⟨w1.heap.size, 2, none⟩ = some (.int .i64 ua) ∧ wr.cell? ⟨w1.heap.size, 3, none⟩ = some (.int .i64 tka) ∧ wr.cell? ⟨w1.heap.size, 4, none⟩ = some (.slice taa tna tqa) ∧ wr.cell? ⟨w1.heap.size, 5, none⟩ = some (.int .i64 fka) ∧ wr.cell? ⟨w1.heap.size, 6, none⟩ = some (.slice faa fna fqa) ∧ wr.cell? ⟨w1.heap.size, 7, none⟩ = some (.int .i64 la) ∧ wr.cell? ⟨w1.heap.size, 8, none⟩ = some (.slice ca ma qa) from ⟨x0, x1, x2, x3, x4, x5, x6, x7, x8, e0, e1, e2, e3, e4, e5, e6, e7, e8⟩)
        have hSb := Lib.hid (show ∀ X Y : World, Below X.heap.size X Y → (X.cell? ⟨w2.heap.size, 0, none⟩ = some (.int .i64 kx) ∧ X.cell? ⟨w2.heap.size, 1, none⟩ = some (.string nmx) ∧ X.cell? ⟨w2.heap.size, 2, none⟩ = some (.int .i64 ux) ∧ X.cell? ⟨w2.heap.size, 3, none⟩ = some (.int .i64 tkx) ∧ X.cell? ⟨w2.heap.size, 4, none⟩ = some (.slice tax tnx tqx) ∧ X.cell? ⟨w2.heap.size, 5, none⟩ = some (.int .i64 fkx) ∧ X.cell? ⟨w2.heap.size, 6, none⟩ = some (.slice fax fnx fqx) ∧ X.cell? ⟨w2.heap.size, 7, none⟩ = some (.int .i64 lx) ∧ X.cell? ⟨w2.heap.size, 8, none⟩ = some (.slice cx mx qx) ∧ X.cell? ⟨w1.heap.size, 0, none⟩ = some (.int .i64 ka) ∧ X.cell? ⟨w1.heap.size, 1, none⟩ = some (.string nma) ∧ X.cell? ⟨w1.heap.size, 2, none⟩ = some (.int .i64 ua) ∧ X.cell? ⟨w1.heap.size, 3, none⟩ = some (.int .i64 tka) ∧ X.cell? ⟨w1.heap.size, 4, none⟩ = some (.slice taa tna tqa) ∧ X.cell? ⟨w1.heap.size, 5, none⟩ = some (.int .i64 fka) ∧ X.cell? ⟨w1.heap.size, 6, none⟩ = some (.slice faa fna fqa) ∧ X.cell? ⟨w1.heap.size, 7, none⟩ = some (.int .i64 la) ∧ X.cell? ⟨w1.heap.size, 8, none⟩ = some (.slice ca ma qa)) → (Y.cell? ⟨w2.heap.size, 0, none⟩ = some (.int .i64 kx) ∧ Y.cell? ⟨w2.heap.size, 1, none⟩ = some (.string nmx) ∧ Y.cell? ⟨w2.heap.size, 2, none⟩ = some (.int .i64 ux) ∧ Y.cell? ⟨w2.heap.size, 3, none⟩ = some (.int .i64 tkx) ∧ Y.cell? ⟨w2.heap.size, 4, none⟩ = some (.slice tax tnx tqx) ∧ Y.cell? ⟨w2.heap.size, 5, none⟩ = some (.int .i64 fkx) ∧ Y.cell? ⟨w2.heap.size, 6, none⟩ = some (.slice fax fnx fqx) ∧ Y.cell? ⟨w2.heap.size, 7, none⟩ = some (.int .i64 lx) ∧ Y.cell? ⟨w2.heap.size, 8, none⟩ = some (.slice cx mx qx) ∧ Y.cell? ⟨w1.heap.size, 0, none⟩ = some (.int .i64 ka) ∧ Y.cell? ⟨w1.heap.size, 1, none⟩ = some (.string nma) ∧ Y.cell? ⟨w1.heap.size, 2, none⟩ = some (.int .i64 ua) ∧ Y.cell? ⟨w1.heap.size, 3, none⟩ = some (.int .i64 tka) ∧ Y.cell? ⟨w1.heap.size, 4, none⟩ = some (.slice taa tna tqa) ∧ Y.cell? ⟨w1.heap.size, 5, none⟩ = some (.int .i64 fka) ∧ Y.cell? ⟨w1.heap.size, 6, none⟩ = some (.slice faa fna fqa) ∧ Y.cell? ⟨w1.heap.size, 7, none⟩ = some (.int .i64 la) ∧ Y.cell? ⟨w1.heap.size, 8, none⟩ = some (.slice ca ma qa)) from fun X Y h s => ⟨bcell h s.1, bcell h s.2.1, bcell h s.2.2.1, bcell h s.2.2.2.1, bcell h s.2.2.2.2.1, bcell h s.2.2.2.2.2.1, bcell h s.2.2.2.2.2.2.1, bcell h s.2.2.2.2.2.2.2.1, bcell h s.2.2.2.2.2.2.2.2.1, bcell h s.2.2.2.2.2.2.2.2.2.1, bcell h s.2.2.2.2.2.2.2.2.2.2.1, bcell h s.2.2.2.2.2.2.2.2.2.2.2.1, bcell h s.2.2.2.2.2.2.2.2.2.2.2.2.1, bcell h s.2.2.2.2.2.2.2.2.2.2.2.2.2.1, bcell h s.2.2.2.2.2.2.2.2.2.2.2.2.2.2.1, bcell h s.2.2.2.2.2.2.2.2.2.2.2.2.2.2.2.1, bcell h s.2.2.2.2.2.2.2.2.2.2.2.2.2.2.2.2.1, bcell h s.2.2.2.2.2.2.2.2.2.2.2.2.2.2.2.2.2⟩)
        have hSd := Lib.hid (show ∀ X : World, (X.cell? ⟨w2.heap.size, 0, none⟩ = some (.int .i64 kx) ∧ X.cell? ⟨w2.heap.size, 1, none⟩ = some (.string nmx) ∧ X.cell? ⟨w2.heap.size, 2, none⟩ = some (.int .i64 ux) ∧ X.cell? ⟨w2.heap.size, 3, none⟩ = some (.int .i64 tkx) ∧ X.cell? ⟨w2.heap.size, 4, none⟩ = some (.slice tax tnx tqx) ∧ X.cell? ⟨w2.heap.size, 5, none⟩ = some (.int .i64 fkx) ∧ X.cell? ⟨w2.heap.size, 6, none⟩ = some (.slice fax fnx fqx) ∧ X.cell? ⟨w2.heap.size, 7, none⟩ = some (.int .i64 lx) ∧ X.cell? ⟨w2.heap.size, 8, none⟩ = some (.slice cx mx qx) ∧ X.cell? ⟨w1.heap.size, 0, none⟩ = some (.int .i64 ka) ∧ X.cell? ⟨w1.heap.size, 1, none⟩ = some (.string nma) ∧ X.cell? ⟨w1.heap.size, 2, none⟩ = some (.int .i64 ua) ∧ X.cell? ⟨w1.heap.size, 3, none⟩ = some (.int .i64 tka) ∧ X.cell? ⟨w1.heap.size, 4, none⟩ = some (.slice taa tna tqa) ∧ X.cell? ⟨w1.heap.size, 5, none⟩ = some (.int .i64 fka) ∧ X.cell? ⟨w1.heap.size, 6, none⟩ = some (.slice faa fna fqa) ∧ X.cell? ⟨w1.heap.size, 7, none⟩ = some (.int .i64 la) ∧ X.cell? ⟨w1.heap.size, 8, none⟩ = some (.slice ca ma qa)) → ((World.drew X).cell? ⟨w2.heap.size, 0, none⟩ = some (.int .i64 kx) ∧ (World.drew X).cell? ⟨w2.heap.size, 1, none⟩ = some (.string nmx) ∧ (World.drew X).cell? ⟨w2.heap.size, 2, none⟩ = some (.int .i64 ux) ∧ (World.drew X).cell? ⟨w2.heap.size, 3, none⟩ = some (.int .i64 tkx) ∧ (World.drew X).cell? ⟨w2.heap.size, 4, none⟩ = some (.slice tax tnx tqx) ∧ (World.drew X).cell? ⟨w2.heap.size, 5, none⟩ = some (.int .i64 fkx) ∧ (World.drew X).cell? ⟨w2.heap.size, 6, none⟩ = some (.slice fax fnx fqx) ∧ (World.drew X).cell? ⟨w2.heap.size, 7, none⟩ = some (.int .i64 lx) ∧ (World.drew X).cell? ⟨w2.heap.size, 8, none⟩ = some (.slice cx mx qx) ∧ (World.drew X).cell? ⟨w1.heap.size, 0, none⟩ = some (.int .i64 ka) ∧ (World.drew X).cell? ⟨w1.heap.size, 1, none⟩ = some (.string nma) ∧ (World.drew X).cell? ⟨w1.heap.size, 2, none⟩ = some (.int .i64 ua) ∧ (World.drew X).cell? ⟨w1.heap.size, 3, none⟩ = some (.int .i64 tka) ∧ (World.drew X).cell? ⟨w1.heap.size, 4, none⟩ = some (.slice taa tna tqa) ∧ (World.drew X).cell? ⟨w1.heap.size, 5, none⟩ = some (.int .i64 fka) ∧ (World.drew X).cell? ⟨w1.heap.size, 6, none⟩ = some (.slice faa fna fqa) ∧ (World.drew X).cell? ⟨w1.heap.size, 7, none⟩ = some (.int .i64 la) ∧ (World.drew X).cell? ⟨w1.heap.size, 8, none⟩ = some (.slice ca ma qa)) from fun X s => ⟨dcell s.1, dcell s.2.1, dcell s.2.2.1, dcell s.2.2.2.1, dcell s.2.2.2.2.1, dcell s.2.2.2.2.2.1, dcell s.2.2.2.2.2.2.1, dcell s.2.2.2.2.2.2.2.1, dcell s.2.2.2.2.2.2.2.2.1, dcell s.2.2.2.2.2.2.2.2.2.1, dcell s.2.2.2.2.2.2.2.2.2.2.1, dcell s.2.2.2.2.2.2.2.2.2.2.2.1, dcell s.2.2.2.2.2.2.2.2.2.2.2.2.1, dcell s.2.2.2.2.2.2.2.2.2.2.2.2.2.1, dcell s.2.2.2.2.2.2.2.2.2.2.2.2.2.2.1, dcell s.2.2.2.2.2.2.2.2.2.2.2.2.2.2.2.1, dcell s.2.2.2.2.2.2.2.2.2.2.2.2.2.2.2.2.1, dcell s.2.2.2.2.2.2.2.2.2.2.2.2.2.2.2.2.2⟩)
        have hSs := Lib.hid (show ∀ (X : World) (g o : Nat) (v : Value), wr.heap.size ≤ g → (X.cell? ⟨w2.heap.size, 0, none⟩ = some (.int .i64 kx) ∧ X.cell? ⟨w2.heap.size, 1, none⟩ = some (.string nmx) ∧ X.cell? ⟨w2.heap.size, 2, none⟩ = some (.int .i64 ux) ∧ X.cell? ⟨w2.heap.size, 3, none⟩ = some (.int .i64 tkx) ∧ X.cell? ⟨w2.heap.size, 4, none⟩ = some (.slice tax tnx tqx) ∧ X.cell? ⟨w2.heap.size, 5, none⟩ = some (.int .i64 fkx) ∧ X.cell? ⟨w2.heap.size, 6, none⟩ = some (.slice fax fnx fqx) ∧ X.cell? ⟨w2.heap.size, 7, none⟩ = some (.int .i64 lx) ∧ X.cell? ⟨w2.heap.size, 8, none⟩ = some (.slice cx mx qx) ∧ X.cell? ⟨w1.heap.size, 0, none⟩ = some (.int .i64 ka) ∧ X.cell? ⟨w1.heap.size, 1, none⟩ = some (.string nma) ∧ X.cell? ⟨w1.heap.size, 2, none⟩ = some (.int .i64 ua) ∧ X.cell? ⟨w1.heap.size, 3, none⟩ = some (.int .i64 tka) ∧ X.cell? ⟨w1.heap.size, 4, none⟩ = some (.slice taa tna tqa) ∧ X.cell? ⟨w1.heap.size, 5, none⟩ = some (.int .i64 fka) ∧ X.cell? ⟨w1.heap.size, 6, none⟩ = some (.slice faa fna fqa) ∧ X.cell? ⟨w1.heap.size, 7, none⟩ = some (.int .i64 la) ∧ X.cell? ⟨w1.heap.size, 8, none⟩ = some (.slice ca ma qa)) → ((World.setCell X ⟨g, o, none⟩ v).cell? ⟨w2.heap.size, 0, none⟩ = some (.int .i64 kx) ∧ (World.setCell X ⟨g, o, none⟩ v).cell? ⟨w2.heap.size, 1, none⟩ = some (.string nmx) ∧ (World.setCell X ⟨g, o, none⟩ v).cell? ⟨w2.heap.size, 2, none⟩ = some (.int .i64 ux) ∧ (World.setCell X ⟨g, o, none⟩ v).cell? ⟨w2.heap.size, 3, none⟩ = some (.int .i64 tkx) ∧ (World.setCell X ⟨g, o, none⟩ v).cell? ⟨w2.heap.size, 4, none⟩ = some (.slice tax tnx tqx) ∧ (World.setCell X ⟨g, o, none⟩ v).cell? ⟨w2.heap.size, 5, none⟩ = some (.int .i64 fkx) ∧ (World.setCell X ⟨g, o, none⟩ v).cell? ⟨w2.heap.size, 6, none⟩ = some (.slice fax fnx fqx) ∧ (World.setCell X ⟨g, o, none⟩ v).cell? ⟨w2.heap.size, 7, none⟩ = some (.int .i64 lx) ∧ (World.setCell X ⟨g, o, none⟩ v).cell? ⟨w2.heap.size, 8, none⟩ = some (.slice cx mx qx) ∧ (World.setCell X ⟨g, o, none⟩ v).cell? ⟨w1.heap.size, 0, none⟩ = some (.int .i64 ka) ∧ (World.setCell X ⟨g, o, none⟩ v).cell? ⟨w1.heap.size, 1, none⟩ = some (.string nma) ∧ (World.setCell X ⟨g, o, none⟩ v).cell? ⟨w1.heap.size, 2, none⟩ = some (.int .i64 ua) ∧ (World.setCell X ⟨g, o, none⟩ v).cell? ⟨w1.heap.size, 3, none⟩ = some (.int .i64 tka) ∧ (World.setCell X ⟨g, o, none⟩ v).cell? ⟨w1.heap.size, 4, none⟩ = some (.slice taa tna tqa) ∧ (World.setCell X ⟨g, o, none⟩ v).cell? ⟨w1.heap.size, 5, none⟩ = some (.int .i64 fka) ∧ (World.setCell X ⟨g, o, none⟩ v).cell? ⟨w1.heap.size, 6, none⟩ = some (.slice faa fna fqa) ∧ (World.setCell X ⟨g, o, none⟩ v).cell? ⟨w1.heap.size, 7, none⟩ = some (.int .i64 la) ∧ (World.setCell X ⟨g, o, none⟩ v).cell? ⟨w1.heap.size, 8, none⟩ = some (.slice ca ma qa)) from fun X g o v hg s => ⟨sc_blk s.1 (by show w2.heap.size ≠ g; omega), sc_blk s.2.1 (by show w2.heap.size ≠ g; omega), sc_blk s.2.2.1 (by show w2.heap.size ≠ g; omega), sc_blk s.2.2.2.1 (by show w2.heap.size ≠ g; omega), sc_blk s.2.2.2.2.1 (by show w2.heap.size ≠ g; omega), sc_blk s.2.2.2.2.2.1 (by show w2.heap.size ≠ g; omega), sc_blk s.2.2.2.2.2.2.1 (by show w2.heap.size ≠ g; omega), sc_blk s.2.2.2.2.2.2.2.1 (by show w2.heap.size ≠ g; omega), sc_blk s.2.2.2.2.2.2.2.2.1 (by show w2.heap.size ≠ g; omega), sc_blk s.2.2.2.2.2.2.2.2.2.1 (by show w1.heap.size ≠ g; omega), sc_blk s.2.2.2.2.2.2.2.2.2.2.1 (by show w1.heap.size ≠ g; omega), sc_blk s.2.2.2.2.2.2.2.2.2.2.2.1 (by show w1.heap.size ≠ g; omega), sc_blk s.2.2.2.2.2.2.2.2.2.2.2.2.1 (by show w1.heap.size ≠ g; omega), sc_blk s.2.2.2.2.2.2.2.2.2.2.2.2.2.1 (by show w1.heap.size ≠ g; omega), sc_blk s.2.2.2.2.2.2.2.2.2.2.2.2.2.2.1 (by show w1.heap.size ≠ g; omega), sc_blk s.2.2.2.2.2.2.2.2.2.2.2.2.2.2.2.1 (by show w1.heap.size ≠ g; omega), sc_blk s.2.2.2.2.2.2.2.2.2.2.2.2.2.2.2.2.1 (by show w1.heap.size ≠ g; omega), sc_blk s.2.2.2.2.2.2.2.2.2.2.2.2.2.2.2.2.2 (by show w1.heap.size ≠ g; omega)⟩)
        go_upto_region 14 with fail
        go_cut [11, 12] (fun s11 s12 wx => CutTm t true wr s11 s12 wx)
        case first =>
          go_region_held3 (fun w' => w'.cell? ⟨w2.heap.size, 0, none⟩ = some (.int .i64 kx) ∧ w'.cell? ⟨w2.heap.size, 1, none⟩ = some (.string nmx) ∧ w'.cell? ⟨w2.heap.size, 2, none⟩ = some (.int .i64 ux) ∧ w'.cell? ⟨w2.heap.size, 3, none⟩ = some (.int .i64 tkx) ∧ w'.cell? ⟨w2.heap.size, 4, none⟩ = some (.slice tax tnx tqx) ∧ w'.cell? ⟨w2.heap.size, 5, none⟩ = some (.int .i64 fkx) ∧ w'.cell? ⟨w2.heap.size, 6, none⟩ = some (.slice fax fnx fqx) ∧ w'.cell? ⟨w2.heap.size, 7, none⟩ = some (.int .i64 lx) ∧ w'.cell? ⟨w2.heap.size, 8, none⟩ = some (.slice cx mx qx) ∧ w'.cell? ⟨w1.heap.size, 0, none⟩ = some (.int .i64 ka) ∧ w'.cell? ⟨w1.heap.size, 1, none⟩ = some (.string nma) ∧ w'.cell? ⟨w1.heap.size, 2, none⟩ = some (.int .i64 ua) ∧ w'.cell? ⟨w1.heap.size, 3, none⟩ = some (.int .i64 tka) ∧ w'.cell? ⟨w1.heap.size, 4, none⟩ = some (.slice taa tna tqa) ∧ w'.cell? ⟨w1.heap.size, 5, none⟩ = some (.int .i64 fka) ∧ w'.cell? ⟨w1.heap.size, 6, none⟩ = some (.slice faa fna fqa) ∧ w'.cell? ⟨w1.heap.size, 7, none⟩ = some (.int .i64 la) ∧ w'.cell? ⟨w1.heap.size, 8, none⟩ = some (.slice ca ma qa))
            (repeat (first | with_reducible exact hS0.out | with_reducible refine hSs.out _ _ _ _ (by omega) ?_ | with_reducible refine hSb.out _ _ hb7 ?_ | with_reducible refine hSb.out _ _ hb6 ?_ | with_reducible refine hSb.out _ _ bal1 ?_ | with_reducible refine hSd.out _ ?_))
            (first | (go_at_call 8; ((with_reducible refine (HT.out _ (by first | exact bstep HBR.out bdr | exact bstep HBR.out bal1.drew | exact bstep HBR.out (bstep bdr bal1))).mono ?_); rintro e w6 ⟨gw, rfl, hgw, hb6⟩; obtain ⟨ua, uq, rfl⟩ := hgw.open_slice; have hz6 := hb6.size; (try simp at hz6))) | (go_at_call 5; ((with_reducible refine (HWT.out _ _ (by first | exact bstep HB3R.out (bstep bdr hb6) | exact bstep HB3R.out (bstep bal1.drew hb6) | exact bstep HB3R.out (bstep (bstep bdr hb6) bal1) | exact bstep HB3R.out (bstep (bstep bdr bal1) hb6)) ((hgw.rep.move (.weaken fun _ _ _ => trivial)).below (by first | exact Below.refl _ _ | exact bal1))).mono ?_); rintro e w7 ⟨v7, rfl, hv7, hb7⟩; obtain ⟨kb, nmb, ub, tkb, tab, tnb, tqb, fkb, fab, fnb, fqb, lb, cb, mb, qb, rfl⟩ := hv7.shape; have hz7 := hb7.size; (try simp at hz7); (first | (have GB : w7.heap[wr.heap.size]? = some (.cells #[.int .i64 0, .string { data := #[] }, .int .i64 0, .int .i64 0, .slice none 0 0, .int .i64 0, .slice none 0 0, .int .i64 0, .slice none 0 0] 28 (0, 0)) := blk_below (blk_below (x := .cells #[.int .i64 0, .string { data := #[] }, .int .i64 0, .int .i64 0, .slice none 0 0, .int .i64 0, .slice none 0 0, .int .i64 0, .slice none 0 0] 28 (0, 0)) (show (World.drew _).heap[wr.heap.size]? = _ from blk_new rfl) hb6) hb7; have G0 := blk_cell GB (o := 0) rfl; have GF0 := blk_fro GB 0; have G1 := blk_cell GB (o := 1) rfl; have GF1 := blk_fro GB 1; have G2 := blk_cell GB (o := 2) rfl; have GF2 := blk_fro GB 2; have G3 := blk_cell GB (o := 3) rfl; have GF3 := blk_fro GB 3; have G4 := blk_cell GB (o := 4) rfl; have GF4 := blk_fro GB 4; have G5 := blk_cell GB (o := 5) rfl; have GF5 := blk_fro GB 5; have G6 := blk_cell GB (o := 6) rfl; have GF6 := blk_fro GB 6; have G7 := blk_cell GB (o := 7) rfl; have GF7 := blk_fro GB 7; have G8 := blk_cell GB (o := 8) rfl; have GF8 := blk_fro GB 8) | (have GB : w7.heap[w6.heap.size]? = some (.cells #[.int .i64 0, .string { data := #[] }, .int .i64 0, .int .i64 0, .slice none 0 0, .int .i64 0, .slice none 0 0, .int .i64 0, .slice none 0 0] 28 (0, 0)) := blk_below (x := .cells #[.int .i64 0, .string { data := #[] }, .int .i64 0, .int .i64 0, .slice none 0 0, .int .i64 0, .slice none 0 0, .int .i64 0, .slice none 0 0] 28 (0, 0)) (blk_new rfl) hb7; have G0 := blk_cell GB (o := 0) rfl; have GF0 := blk_fro GB 0; have G1 := blk_cell GB (o := 1) rfl; have GF1 := blk_fro GB 1; have G2 := blk_cell GB (o := 2) rfl; have GF2 := blk_fro GB 2; have G3 := blk_cell GB (o := 3) rfl; have GF3 := blk_fro GB 3; have G4 := blk_cell GB (o := 4) rfl; have GF4 := blk_fro GB 4; have G5 := blk_cell GB (o := 5) rfl; have GF5 := blk_fro GB 5; have G6 := blk_cell GB (o := 6) rfl; have GF6 := blk_fro GB 6; have G7 := blk_cell GB (o := 7) rfl; have GF7 := blk_fro GB 7; have G8 := blk_cell GB (o := 8) rfl; have GF8 := blk_fro GB 8) | skip))))
          all_goals (go_wp2_with fail; go_meet)
          · exact CutTm_late (bstep (bstep bdr hb6) hb7) hv7
          · exact CutTm_early (bstep (bstep (bstep bdr hb6) bal1) hb7) GB (by omega) (by simp) hv7
          · exact CutTm_early (bstep (bstep bal1.drew hb6) hb7) GB (Nat.le_refl _) (by omega) hv7
        case rest =>
          obtain ⟨g, kr, nmr, ur, tkr, tar, tnr, tqr, fkr, far, fnr, fqr, lr, cr, mr, qr, rfl, rfl, hBz, hbk, hbg⟩ := hcut
          have hXz := blk_below hXr hbg
          have hEz := blk_below hEr hbg
          have HBZ := Lib.hid (bstep HBR.out hbg)
          have HB3Z := Lib.hid (bstep HB3R.out hbg)
          have hsm := fun W (k : Below wc.heap.size wc W) => implTermSame _ _ t t _ _ W (hbk.below k) (HV.out.below (bstep HBZ.out k))
          rw [Tm.same_refl] at hsm
          have HSN := Lib.hid hsm
          clear hsm hSs hSb hSd hS0 x0 x1 x2 x3 x4 x5 x6 x7 x8 e0 e1 e2 e3 e4 e5 e6 e7 e8 lXr lEr hXr hEr hbk hbg
          have x0 : wc.cell? ⟨w2.heap.size, 0, none⟩ = some (.int .i64 kx) := blk_cell hXz rfl
          have x1 : wc.cell? ⟨w2.heap.size, 1, none⟩ = some (.string nmx) := blk_cell hXz rfl
          have x2 : wc.cell? ⟨w2.heap.size, 2, none⟩ = some (.int .i64 ux) := blk_cell hXz rfl
          have x3 : wc.cell? ⟨w2.heap.size, 3, none⟩ = some (.int .i64 tkx) := blk_cell hXz rfl
          have x4 : wc.cell? ⟨w2.heap.size, 4, none⟩ = some (.slice tax tnx tqx) := blk_cell hXz rfl
          have x5 : wc.cell? ⟨w2.heap.size, 5, none⟩ = some (.int .i64 fkx) := blk_cell hXz rfl
          have x6 : wc.cell? ⟨w2.heap.size, 6, none⟩ = some (.slice fax fnx fqx) := blk_cell hXz rfl
          have x7 : wc.cell? ⟨w2.heap.size, 7, none⟩ = some (.int .i64 lx) := blk_cell hXz rfl
          have x8 : wc.cell? ⟨w2.heap.size, 8, none⟩ = some (.slice cx mx qx) := blk_cell hXz rfl
          have e0 : wc.cell? ⟨w1.heap.size, 0, none⟩ = some (.int .i64 ka) := blk_cell hEz rfl
          have e1 : wc.cell? ⟨w1.heap.size, 1, none⟩ = some (.string nma) := blk_cell hEz rfl
          have e2 : wc.cell? ⟨w1.heap.size, 2, none⟩ = some (.int .i64 ua) := blk_cell hEz rfl
          have e3 : wc.cell? ⟨w1.heap.size, 3, none⟩ = some (.int .i64 tka) := blk_cell hEz rfl
          have e4 : wc.cell? ⟨w1.heap.size, 4, none⟩ = some (.slice taa tna tqa) := blk_cell hEz rfl
          have e5 : wc.cell? ⟨w1.heap.size, 5, none⟩ = some (.int .i64 fka) := blk_cell hEz rfl
          have e6 : wc.cell? ⟨w1.heap.size, 6, none⟩ = some (.slice faa fna fqa) := blk_cell hEz rfl
          have e7 : wc.cell? ⟨w1.heap.size, 7, none⟩ = some (.int .i64 la) := blk_cell hEz rfl
          have e8 : wc.cell? ⟨w1.heap.size, 8, none⟩ = some (.slice ca ma qa) := blk_cell hEz rfl
          have b0 : wc.cell? ⟨g, 0, none⟩ = some (.int .i64 kr) := blk_cell hBz rfl
          have b1 : wc.cell? ⟨g, 1, none⟩ = some (.string nmr) := blk_cell hBz rfl
          have b2 : wc.cell? ⟨g, 2, none⟩ = some (.int .i64 ur) := blk_cell hBz rfl
          have b3 : wc.cell? ⟨g, 3, none⟩ = some (.int .i64 tkr) := blk_cell hBz rfl
          have b4 : wc.cell? ⟨g, 4, none⟩ = some (.slice tar tnr tqr) := blk_cell hBz rfl
          have b5 : wc.cell? ⟨g, 5, none⟩ = some (.int .i64 fkr) := blk_cell hBz rfl
          have b6 : wc.cell? ⟨g, 6, none⟩ = some (.slice far fnr fqr) := blk_cell hBz rfl
          have b7 : wc.cell? ⟨g, 7, none⟩ = some (.int .i64 lr) := blk_cell hBz rfl
          have b8 : wc.cell? ⟨g, 8, none⟩ = some (.slice cr mr qr) := blk_cell hBz rfl
          have lXz := blk_lt hXz
          have lEz := blk_lt hEz
          have lBz := blk_lt hBz
          go_wp2_with fail
          refine (HVX.out _ HB3Z.out).mono ?_
          rintro e w6 ⟨rfl, hb6⟩
          have hE6 := blk_below hEz hb6
          have hB6 := blk_below hBz hb6
          clear x0 x1 x2 x3 x4 x5 x6 x7 x8 e0 e1 e2 e3 e4 e5 e6 e7 e8 lXz lEz lBz b0 b1 b2 b3 b4 b5 b6 b7 b8
          have e0 : w6.cell? ⟨w1.heap.size, 0, none⟩ = some (.int .i64 ka) := blk_cell hE6 rfl
          have e1 : w6.cell? ⟨w1.heap.size, 1, none⟩ = some (.string nma) := blk_cell hE6 rfl
          have e2 : w6.cell? ⟨w1.heap.size, 2, none⟩ = some (.int .i64 ua) := blk_cell hE6 rfl
          have e3 : w6.cell? ⟨w1.heap.size, 3, none⟩ = some (.int .i64 tka) := blk_cell hE6 rfl
          have e4 : w6.cell? ⟨w1.heap.size, 4, none⟩ = some (.slice taa tna tqa) := blk_cell hE6 rfl
          have e5 : w6.cell? ⟨w1.heap.size, 5, none⟩ = some (.int .i64 fka) := blk_cell hE6 rfl
          have e6 : w6.cell? ⟨w1.heap.size, 6, none⟩ = some (.slice faa fna fqa) := blk_cell hE6 rfl
          have e7 : w6.cell? ⟨w1.heap.size, 7, none⟩ = some (.int .i64 la) := blk_cell hE6 rfl
          have e8 : w6.cell? ⟨w1.heap.size, 8, none⟩ = some (.slice ca ma qa) := blk_cell hE6 rfl
          have b0 : w6.cell? ⟨g, 0, none⟩ = some (.int .i64 kr) := blk_cell hB6 rfl
          have b1 : w6.cell? ⟨g, 1, none⟩ = some (.string nmr) := blk_cell hB6 rfl
          have b2 : w6.cell? ⟨g, 2, none⟩ = some (.int .i64 ur) := blk_cell hB6 rfl
          have b3 : w6.cell? ⟨g, 3, none⟩ = some (.int .i64 tkr) := blk_cell hB6 rfl
          have b4 : w6.cell? ⟨g, 4, none⟩ = some (.slice tar tnr tqr) := blk_cell hB6 rfl
          have b5 : w6.cell? ⟨g, 5, none⟩ = some (.int .i64 fkr) := blk_cell hB6 rfl
          have b6 : w6.cell? ⟨g, 6, none⟩ = some (.slice far fnr fqr) := blk_cell hB6 rfl
          have b7 : w6.cell? ⟨g, 7, none⟩ = some (.int .i64 lr) := blk_cell hB6 rfl
          have b8 : w6.cell? ⟨g, 8, none⟩ = some (.slice cr mr qr) := blk_cell hB6 rfl
          have lE6 := blk_lt hE6
          have lB6 := blk_lt hB6
          have HB6 := Lib.hid hb6
          clear hb6
          go_wp2_with fail
          refine (HSN.out _ HB6.out).mono ?_
          rintro e w7 ⟨rfl, hb7⟩
          go_wp2_with fail
          go_ret
          exact ⟨rfl, bstep HB1.out (bstep HBZ.out (bstep HB6.out hb7))⟩
end Go.Proofs.Ytpckgpndaligbaa
