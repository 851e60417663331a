/-
  The laws' helpers at bindings: size, copy, equality.
-/
import Derived.Test.YtjkkahlcbhcifaaBd
import Derived.IntWalk
namespace Go.Proofs.Ytjkkahlcbhcifaa
open Go.RowKit
set_option linter.unusedVariables false
set_option linter.unusedSimpArgs false
set_option maxRecDepth 100000

theorem Try.infoBd : (Try.prog.info? 71).map (fun i => (i.zero, i.size, i.bytes)) = some (some (.agg #[.string ByteArray.empty, .int .i64 0, .slice none 0 0]), 3, 48) := by kernel_rfl

set_option maxHeartbeats 1000000 in
theorem toBind_any (F : Nat → Prop) (b : Bd) (y : Value) (w : World) (hy : BdRep F w b y) (hcn : b.ty.cnt ≤ 1048576) : Calls Try.prog 121 #[y] w (RetBd b w) := by
  obtain ⟨k, c, m, q, rfl, hz, ht⟩ := hy
  have HC := Lib.hid fun W (h : Below w.heap.size w W) => toType_any F b.ty _ W (ht.below h) hcn
  go_enter Try.func121, Try.ntmps121
  go_wp2_with fail
  refine (HC.out _ (by exact bal3)).mono ?_
  rintro e w1 ⟨v, rfl, hv, hb1⟩
  obtain ⟨k1, c1, m1, q1, fp, rfl, -, -, hs, hd, hx⟩ := hv.open
  have hbd : BdNew _ w1 b (.agg #[.string b.name, .int .i64 k1, .slice c1 m1 q1]) := ⟨k1, c1, m1, q1, fp, rfl, TyOwn.bd hz hs, hd, hx⟩
  have HBD := Lib.hid hbd
  clear hbd hs hd hx hv
  obtain ⟨hc1, hf1⟩ := brules hb1
  go_wp2_with fail
  refine bodyPost_ret (v := .agg #[.string b.name, .int .i64 k1, .slice c1 m1 q1]) (by simp [results, Try.results121, go_sem, hc1, hf1]) rfl ?_
  refine ⟨_, rfl, BdNew.mono (((((HBD.out.setCell (by simp) _).setCell (by simp) _).setCell (by simp) _).setCell (by simp) _).setCell (by simp) _) (by simp; omega), ?_⟩
  exact (((((bstep bal3 hb1).setCell (by simp <;> omega) _).setCell (by simp <;> omega) _).setCell (by simp <;> omega) _).setCell (by simp <;> omega) _).setCell (by simp <;> omega) _

set_option maxHeartbeats 1000000 in
theorem toBindS_any (F : Nat → Prop) (ts : List Bd) (ys : Value) (w : World) (hy : BdsRep F w ts ys) (hcn : Bd.cnts ts ≤ 1048576) :
    Calls Try.prog 70 #[ys] w (RetBds ts w) := by
  obtain ⟨i0, hi, hz0, hz1, hz2⟩ := info_parts Try.infoBd
  obtain ⟨a, cap, rfl, h2, h3, _⟩ := hy.open
  have IHH := Lib.hid (fun t (ht : t ∈ ts) (y : Value) (W : World) (h : BdRep F W t y) => toBind_any F t y W h (by have := Bd.cnt_mem ht; unfold Bd.cnts Bd.cnt at *; omega))
  have hn : ts.length ≤ 1048576 := by unfold Bd.cnts at hcn; omega
  clear hcn
  unfold maxLen at h3
  obtain ⟨n, hnn⟩ : ∃ n, ts.length = n := ⟨_, rfl⟩
  rw [hnn] at hn h2 hy ⊢
  have HN := Lib.hid hnn
  clear hnn
  have hmk := fun W => run_make_rowN (P := Try.prog) 36 71 i0 _ Try.underlying36 hi hz0 .i64 .i64 n n (Nat.le_refl _) (by rw [hz2]; omega) (by omega) W
  rw [hz1] at hmk
  clear hz0 hz1 hz2 hi
  go_enter Try.func70, Try.ntmps70
  go_wp2_with fail
  go_loopw [4] (fun i wr => ∃ j : Nat, j ≤ n ∧ i = .int .i64 j ∧ Below w.heap.size w wr ∧ RowsNew w.heap.size w.heap.size (n * 3) 71 wr (Bd.rows (ts.take j))) (fun i _ => n - (intOf i).toNat)
  case atStart => exact ⟨0, by omega, rfl, bal1, by simpa [Bd.rows] using RowsNew.made (by simp [madeCells])⟩
  case round =>
    obtain ⟨j, hj, rfl, hbw, hown⟩ := hrel
    by_cases hlt : j < n
    · have hjt : j < ts.length := by rw [HN.out]; exact hlt
      obtain ⟨b, off, k0, a0, m0, q0, rfl, l0, e0, ez, e1, e2, ht⟩ := hy.at hbw hjt
      have HT := Lib.hid (show BdRep F wr ts[j] (.agg #[.string ts[j].name, .int .i64 k0, .slice a0 m0 q0]) from ⟨_, _, _, _, rfl, ez, ht⟩)
      clear ht ez
      obtain ⟨nm, hnm⟩ : ∃ nm, ts[j].name = nm := ⟨_, rfl⟩
      rw [hnm] at e0 HT
      have HC := Lib.hid (IHH.out _ (List.getElem_mem hjt) _ _ HT.out)
      have HNM := Lib.hid hnm
      clear hnm
      go_wp2_with fail
      refine HC.out.mono ?_
      rintro e w1 ⟨v, rfl, hv, hb1⟩
      obtain ⟨k1, c1, m1, q1, fp, rfl, hs, hd, hx⟩ := hv
      rw [HNM.out] at hs
      rw [HNM.out]
      obtain ⟨⟨x0, f0⟩, f1⟩ := (hown.below hb1).cell (j * 3) (by omega)
      obtain ⟨⟨x1, f2⟩, f3⟩ := (hown.below hb1).cell (j * 3 + 1) (by omega)
      obtain ⟨⟨x2, f4⟩, f5⟩ := (hown.below hb1).cell (j * 3 + 2) (by omega)
      have hnew := hown.store hb1 hs hd hx hbw.size (o := j * 3) (by rw [Bd.flatten_length]; simp; omega) (by rw [Bd.row_length]; omega)
      have HNEW := Lib.hid hnew
      clear hnew hown
      go_wp2_with fail
      go_roundw
      case rel => exact ⟨j + 1, by omega, by go_num, setRow_below [_, _, _] w1 w _ _ _ (Nat.le_refl _) (bstep hbw hb1), by unfold Bd.rows; rw [List.take_succ_eq_append_getElem hjt, List.map_append]; exact HNEW.out⟩
      case measure => simp [intOf]; omega
    · go_wp2_with fail
      go_ret
      rw [List.take_of_length_le (by rw [HN.out]; omega)] at hown
      obtain ⟨fp, h4, h5, h6⟩ := hown.slice (n := n) (cap := n) (by rw [Bd.rows_length]; exact HN.out) (Nat.le_refl _) (by unfold maxLen; omega)
      exact ⟨_, rfl, ⟨fp, h4, h5, h6⟩, hbw⟩

theorem szr_step {l : Int} {a b : Nat} (h : (a : Int) ≤ l) : szr (l - a) b = szr l (a + b) := by
  unfold szr
  by_cases hb : (b : Int) ≤ l - a
  · rw [if_pos hb, if_pos (by omega)]; omega
  · rw [if_neg hb, if_neg (by omega)]
set_option maxHeartbeats 1000000 in
theorem szBind_any (F : Nat → Prop) (b : Bd) (y : Value) (l : Int) (w : World) (hy : BdRep F w b y) (h0 : 0 ≤ l) (h1 : l ≤ 1048576) :
    Calls Try.prog 120 #[y, .int .i64 l] w fun e w' => e = .returned (.int .i64 (szr l b.cnt)) ∧ Below w.heap.size w w' := by
  obtain ⟨k, c, m, q, rfl, hz, ht⟩ := hy
  unfold maxLen at hz
  unfold Bd.cnt
  obtain ⟨nm, hnm⟩ : ∃ nm, b.name = nm := ⟨_, rfl⟩
  rw [hnm] at hz ⊢
  clear hnm
  obtain ⟨s, hs⟩ : ∃ s, nm.size = s := ⟨_, rfl⟩
  rw [hs] at hz ⊢
  have hwr : IntKind.i64.wrap (l - (s : Int)) = l - (s : Int) := IntWalk.i64_in _ (by omega)
  have HT := Lib.hid (szType_any F b.ty)
  have HR := Lib.hid ht
  clear ht
  generalize b.ty.cnt = c0 at *
  by_cases hl : (s : Int) ≤ l
  · have hl0 : 0 ≤ l - (s : Int) := by omega
    have hl1 : l - (s : Int) ≤ 1048576 := by omega
    have HC := fun W (h : Below w.heap.size w W) => HT.out _ (l - (s : Int)) W (HR.out.below h) hl0 hl1
    rw [szr_step hl] at HC
    have hln : ¬ (l - (s : Int) < 0) := by omega
    obtain ⟨r, hr⟩ : ∃ r, szr l (s + c0) = r := ⟨_, rfl⟩
    rw [hr] at HC ⊢
    have hrs : r < 0 → r = -1 := by rw [← hr]; unfold szr; split <;> omega
    have H := Lib.hid HC
    clear HC hr hl
    by_cases hr0 : r < 0
    · obtain rfl := hrs hr0
      go_enter Try.func120, Try.ntmps120
      go_wp2_with fail
      refine (H.out _ (by exact bal1)).mono ?_
      rintro e w1 ⟨rfl, hb1⟩
      go_wp2_with fail
      go_ret
      exact ⟨rfl, bstep bal1 hb1⟩
    · have hr1 : 0 ≤ r := by omega
      clear hrs hr0
      go_enter Try.func120, Try.ntmps120
      go_wp2_with fail
      refine (H.out _ (by exact bal1)).mono ?_
      rintro e w1 ⟨rfl, hb1⟩
      go_wp2_with fail
      go_ret
      exact ⟨rfl, bstep bal1 hb1⟩
  · have hr : szr l (s + c0) = -1 := by unfold szr; rw [if_neg (by omega)]
    have hln : l - (s : Int) < 0 := by omega
    rw [hr]
    clear hr hl
    go_enter Try.func120, Try.ntmps120
    go_wp2_with fail
    go_ret
    exact ⟨rfl, bal1⟩

set_option maxHeartbeats 1000000 in
theorem szBindS_any (F : Nat → Prop) (ts : List Bd) (ys : Value) (l : Int) (w : World) (hy : BdsRep F w ts ys) (h0 : 0 ≤ l) (h1 : l ≤ 1048576) :
    Calls Try.prog 69 #[ys, .int .i64 l] w fun e w' => e = .returned (.int .i64 (szr l (Bd.cnts ts))) ∧ Below w.heap.size w w' := by
  obtain ⟨a, cap, rfl, h2, h3, _⟩ := hy.open
  have IHH := Lib.hid (szBind_any F)
  unfold Bd.cnts
  unfold maxLen at h3
  obtain ⟨n, hnn⟩ : ∃ n, ts.length = n := ⟨_, rfl⟩
  rw [hnn] at h2 hy ⊢
  have HN := Lib.hid hnn
  clear hnn
  by_cases hl : l - n < 0
  · go_enter Try.func69, Try.ntmps69
    go_wp2_with fail
    go_ret
    exact ⟨ret_int (by unfold szr; rw [if_neg (by omega)]), Below.refl _ _⟩
  · have hl' : 0 ≤ l - n := by omega
    go_enter Try.func69, Try.ntmps69
    go_wp2_with fail
    go_loopw [5, 1] (fun i p wr => ∃ j : Nat, j ≤ n ∧ i = .int .i64 j ∧ (∃ m : Int, p = .int .i64 m ∧ 0 ≤ m ∧ m ≤ 1048576 ∧ Hid (m = l - n - Bd.cs (ts.take j))) ∧ Below w.heap.size w wr) (fun i _ _ => n - (intOf i).toNat)
    case atStart => exact ⟨0, by omega, rfl, ⟨_, rfl, by omega, by omega, by simp [Hid, Bd.cs]⟩, Below.refl _ _⟩
    case round =>
      obtain ⟨j, hj, rfl, ⟨m, rfl, hm0, hm1, hm⟩, hbw⟩ := hrel
      by_cases hlt : j < n
      · have hjt : j < ts.length := by rw [HN.out]; exact hlt
        obtain ⟨b, off, k0, a0, m0, q0, rfl, l0, e0, ez, e1, e2, ht⟩ := hy.at hbw hjt
        have hts := Bd.cs_take_succ ts j hjt
        have htl := Bd.cs_take_le ts (j + 1)
        have HC := Lib.hid (IHH.out ts[j] _ m _ ⟨_, _, _, _, rfl, ez, ht⟩ hm0 hm1)
        generalize ts[j].cnt = c at hts HC
        generalize ts[j].name = nm at e0 HC ez
        clear ht ez
        by_cases hc : (c : Int) ≤ m
        · have hr : szr m c = m - c := by unfold szr; rw [if_pos hc]
          rw [hr] at HC
          have HT := Lib.hid hts
          clear hr hts htl
          have hlo : 0 ≤ m - (c : Int) := by omega
          go_wp2_with fail
          refine HC.out.mono ?_
          rintro e w1 ⟨rfl, hb1⟩
          go_wp2_with fail
          go_roundw
          case rel => exact ⟨j + 1, by omega, by go_num, ⟨_, rfl, by omega, by omega, by have := hm.out; have := HT.out; unfold Hid; omega⟩, bstep hbw hb1⟩
          case measure => simp [intOf]; omega
        · have hr : szr m c = -1 := by unfold szr; rw [if_neg hc]
          rw [hr] at HC
          have HT := Lib.hid hts
          have HTL := Lib.hid htl
          clear hr hts htl
          go_wp2_with fail
          refine HC.out.mono ?_
          rintro e w1 ⟨rfl, hb1⟩
          go_wp2_with fail
          go_ret
          exact ⟨ret_int (by unfold szr; have := hm.out; have := HT.out; have := HTL.out; rw [if_neg (by omega)]), bstep hbw hb1⟩
      · go_wp2_with fail
        go_ret
        exact ⟨ret_int (by have := hm.out; rw [List.take_of_length_le (by rw [HN.out]; omega)] at this; unfold szr; rw [if_pos (by omega)]; omega), hbw⟩

set_option maxHeartbeats 1000000 in
theorem eqBind_refl (F G : Nat → Prop) (b : Bd) (y z : Value) (w : World) (hy : BdRep F w b y) (hz : BdRep G w b z) :
    Calls Try.prog 122 #[y, z] w fun e w' => e = .returned (.bool true) ∧ Below w.heap.size w w' := by
  obtain ⟨k, c, m, q, rfl, -, ht⟩ := hy
  obtain ⟨k', c', m', q', rfl, -, hu⟩ := hz
  have H := Lib.hid fun W (h : Below w.heap.size w W) => eqType_refl F G b.ty _ _ W (ht.below h) (hu.below h)
  generalize b.name = nm
  clear ht hu
  go_enter Try.func122, Try.ntmps122
  go_wp2_with fail
  refine (H.out _ bal2).mono ?_
  rintro e w1 ⟨rfl, hb1⟩
  go_wp2_with fail
  go_ret
  exact ⟨rfl, bstep bal2 hb1⟩

set_option maxHeartbeats 1000000 in
theorem eqBindS_refl (F G : Nat → Prop) (ts : List Bd) (ys zs : Value) (w : World) (hy : BdsRep F w ts ys) (hz : BdsRep G w ts zs) :
    Calls Try.prog 71 #[ys, zs] w fun e w' => e = .returned (.bool true) ∧ Below w.heap.size w w' := by
  have HG := Lib.hid (eqBind_refl F G)
  obtain ⟨a, cap, rfl, h2, h3, -⟩ := hy.open
  obtain ⟨c, cap', rfl, g2, g3, -⟩ := hz.open
  unfold maxLen at h3 g3
  obtain ⟨n, hn⟩ : ∃ n, ts.length = n := ⟨_, rfl⟩
  rw [hn] at h2 hy g2 hz ⊢
  have HN := Lib.hid hn
  clear hn
  go_enter Try.func71, Try.ntmps71
  go_wp2_with fail
  go_loopw [5] (fun i wr => ∃ j : Nat, j ≤ n ∧ i = .int .i64 j ∧ Below w.heap.size w wr) (fun i _ => n - (intOf i).toNat)
  case atStart => exact ⟨0, by omega, rfl, Below.refl _ _⟩
  case round =>
    obtain ⟨j, hj, rfl, hbw⟩ := hrel
    by_cases hlt : j < n
    · have hkt : j < ts.length := by rw [HN.out]; exact hlt
      obtain ⟨b, off, k0, a0, m0, q0, rfl, l0, e0, ez, e1, e2, ht⟩ := hy.at hbw hkt
      obtain ⟨b', off', k0', a0', m0', q0', rfl, l0', e0', ez', e1', e2', hu⟩ := hz.at hbw hkt
      have HC := Lib.hid (fun W (h : Below wr.heap.size wr W) => HG.out ts[j] _ _ W ⟨_, _, _, _, rfl, ez, ht.below h⟩ ⟨_, _, _, _, rfl, ez', hu.below h⟩)
      generalize ts[j].name = nm at e0 e0' HC
      clear ht hu ez ez'
      go_wp2_with fail
      go_region_held3 (fun w' => w'.cell? ⟨b, off + j * 3, none⟩ = some (.string nm) ∧ w'.cell? ⟨b, off + j * 3 + 1, none⟩ = some (.int .i64 k0) ∧ w'.cell? ⟨b, off + j * 3 + 2, none⟩ = some (.slice a0 m0 q0) ∧ w'.cell? ⟨b', off' + j * 3, none⟩ = some (.string nm) ∧ w'.cell? ⟨b', off' + j * 3 + 1, none⟩ = some (.int .i64 k0') ∧ w'.cell? ⟨b', off' + j * 3 + 2, none⟩ = some (.slice a0' m0' q0'))
        (first | go_keep | exact ⟨bcelld hb1 e0, bcelld hb1 e1, bcelld hb1 e2, bcelld hb1 e0', bcelld hb1 e1', bcelld hb1 e2'⟩)
        (first | (go_at_call 122; refine (HC.out _ bdr).mono ?_; rintro e w1 ⟨rfl, hb1⟩))
      go_wp2_with fail
      go_roundw
      case rel => exact ⟨j + 1, by omega, by go_num, bdrew hbw hb1⟩
      case measure => simp [intOf]; omega
    · go_wp2_with fail
      go_ret
      exact ⟨rfl, hbw⟩
end Go.Proofs.Ytjkkahlcbhcifaa
