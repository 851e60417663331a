/-
  The reader's types: no bracket ahead.
-/
import Derived.Test.YtikkneahhgmdjaaPrsI1
import Derived.Test.YtikkneahhgmdjaaResB
namespace Go.Proofs.Ytikkneahhgmdjaa
open Go.RowKit
set_option linter.unusedVariables false
set_option linter.unusedSimpArgs false
set_option maxRecDepth 100000


def gP (bad : Bool) (d : Nat) (l : List UInt8) : Option (Ty × List UInt8) := if bad then none else ps d l
def TypP (r : Nat) (d : Nat) (s : ByteArray) (bad : Bool) (w : World) (e : Ending) (w' : World) : Prop := ∃ (k : Int) (a : Option Addr) (n q : Nat) (s' : ByteArray) (bad' : Bool), e = .returned (.agg #[.int .i64 k, .slice a n q]) ∧ rdB w' r s' bad' ∧ Chg [r] w w' ∧
  ∀ o, o = gP bad d s.data.toList → match o with
    | some (t, l) => bad' = false ∧ s'.data.toList = l ∧ TyNew w.heap.size w' t (.agg #[.int .i64 k, .slice a n q])
    | none => bad' = true
theorem TyNew.chg {B r : Nat} {w w' : World} {t : Ty} {y : Value} (h : TyNew B w t y) (k : Chg [r] w w') (hr : r < B) : TyNew B w' t y := by
  obtain ⟨f, o, d, l⟩ := h
  exact ⟨f, TyOwn.chg k (fun b hb => by have := l b hb; simp; omega) o, d, l⟩
theorem rdB.lt {w : World} {r : Nat} {s : ByteArray} {b : Bool} (h : rdB w r s b) : r < w.heap.size := blk_lt h
theorem rdB.al {w : World} {r : Nat} {s : ByteArray} {b : Bool} {o : Obj} (h : rdB w r s b) : rdB (w.alloc o) r s b := blk_below h bal1
theorem rdB.set {w : World} {r g o : Nat} {s : ByteArray} {b : Bool} {v : Value} (h : rdB w r s b) (hn : r ≠ g) : rdB (w.setCell ⟨g, o, none⟩ v) r s b := blk_ne h hn
theorem rdB.bad {w : World} {r : Nat} {s : ByteArray} {b v : Bool} (h : rdB w r s b) : rdB (w.setCell ⟨r, 1, none⟩ (.bool v)) r s v := blk_set h rfl
set_option maxHeartbeats 2000000 in
theorem implTyp0 (r : Nat) (s : ByteArray) (bad : Bool) (w : World) (hr : rdB w r s bad) :
    Calls Try.prog 18 #[.pointer (some ⟨r, 0, none⟩), .int .i64 5] w (TypP r 0 s bad w) := by
  have hrl := hr.lt
  have hq : (hdC true s.data.toList == 40) = false := by cases s.data.toList <;> rfl
  have nq : (hdC true s.data.toList != 40) = true := by simp only [bne, hq]; rfl
  have hr0 : rdB ((w.setCell ⟨r, 1, none⟩ (.bool true)).alloc (.cells #[.int .i64 0, .slice none 0 0] 24)) r s true := hr.bad.al
  have HN := Lib.hid (implNext r s true _ hr0)
  have HK := Lib.hid (implKind r s true 1 3 _ hr0)
  have hZ : ((w.setCell ⟨r, 1, none⟩ (.bool true)).alloc (.cells #[.int .i64 0, .slice none 0 0] 24)).heap[w.heap.size]? = some (.cells #[.int .i64 0, .slice none 0 0] 24 (0, 0)) := blk_new (by simp [World.setCell])
  have HC0 := Lib.hid (show Chg [r] w ((w.setCell ⟨r, 1, none⟩ (.bool true)).alloc (.cells #[.int .i64 0, .slice none 0 0] 24)) from chg_set.trans (Chg.of_below bal1))
  have hs0 : ((w.setCell ⟨r, 1, none⟩ (.bool true)).alloc (.cells #[.int .i64 0, .slice none 0 0] 24)).heap.size = w.heap.size + 1 := by simp [World.setCell]
  have c0 : w.cell? ⟨r, 0, none⟩ = some (.string s) := blk_cell hr rfl
  have c1 : w.cell? ⟨r, 1, none⟩ = some (.bool bad) := blk_cell hr rfl
  have f0 : w.frozen? ⟨r, 0, none⟩ = false := blk_fro hr 0
  have f1 : w.frozen? ⟨r, 1, none⟩ = false := blk_fro hr 1
  clear hr hr0
  go_enter Try.func18, Try.ntmps18
  go_wp2_with fail
  refine HN.out.mono ?_
  rintro e w1 ⟨rfl, rfl⟩
  go_wp2_with fail
  refine HK.out.mono ?_
  rintro e w2 ⟨s2, rfl, hr2, hl2, hc2⟩
  have hZ2 := blk_chg hZ hc2 (by omega)
  have HC2 := Lib.hid (HC0.out.trans hc2)
  have hz2 := hc2.size
  rw [hs0] at hz2
  have HR2 := Lib.hid hr2
  have HL2 := Lib.hid hl2
  clear hr2 hl2 hc2 hZ HK HN HC0 hs0
  go_wp2_with fail
  refine (implBase _ _).mono ?_
  rintro e w3 ⟨v3, rfl, hv3, hb3⟩
  obtain ⟨k3, a3, n3, q3, rfl⟩ := hv3.shape
  have hZ3 := blk_below hZ2 hb3
  have z0 : w3.cell? ⟨w.heap.size, 0, none⟩ = some (.int .i64 0) := blk_cell hZ3 rfl
  have z1 : w3.cell? ⟨w.heap.size, 1, none⟩ = some (.slice none 0 0) := blk_cell hZ3 rfl
  have zf0 : w3.frozen? ⟨w.heap.size, 0, none⟩ = false := blk_fro hZ3 0
  have zf1 : w3.frozen? ⟨w.heap.size, 1, none⟩ = false := blk_fro hZ3 1
  have HV3 := Lib.hid hv3
  have HB3 := Lib.hid hb3
  have hz3 := hb3.size
  have lz := blk_lt hZ3
  clear hv3 hb3 hZ2
  go_wp2_with fail
  have hY1 := blk_set (v := .int .i64 k3) hZ3 (rfl : (#[Value.int .i64 0, .slice none 0 0] : Array Value).setIfInBounds 0 (.int .i64 k3) = #[.int .i64 k3, .slice none 0 0])
  have hY2 := blk_set (v := .slice a3 n3 q3) hY1 (rfl : (#[Value.int .i64 k3, .slice none 0 0] : Array Value).setIfInBounds 1 (.slice a3 n3 q3) = #[.int .i64 k3, .slice a3 n3 q3])
  have rc0 := blk_cell hY2 (o := 0) rfl
  have rc1 := blk_cell hY2 (o := 1) rfl
  refine bodyPost_ret (v := .agg #[.int .i64 k3, .slice a3 n3 q3]) (by simp [results, Try.results18, go_sem, rc0, rc1]) rfl ?_
  have hch := HC2.out.trans (Chg.of_below (fp := [r]) HB3.out)
  refine ⟨k3, a3, n3, q3, s2, _, rfl, ((HR2.out.chg HB3.out).set (by omega)).set (by omega), ⟨hch.os, hch.tape, hch.output, by simpa [World.setCell] using hch.size, fun b hb hn => ?_⟩, ?_⟩
  · rw [Below.heap_setCell _ _ _ _ (by show b ≠ w.heap.size; omega), Below.heap_setCell _ _ _ _ (by show b ≠ w.heap.size; omega)]
    exact hch.block b hb hn
  rintro o rfl
  have e : gP bad 0 s.data.toList = none := by unfold gP ps; cases bad <;> rfl
  rw [e]
  simp
set_option maxHeartbeats 2000000 in
theorem implTypL (r : Nat) (s : ByteArray) (bad : Bool) (w : World) (hr : rdB w r s bad) (d : Nat) (deep : Int) (hd : decide (deep > 4) = false) (hq : (hdC bad s.data.toList == 40) = false) :
    Calls Try.prog 18 #[.pointer (some ⟨r, 0, none⟩), .int .i64 deep] w (TypP r (d + 1) s bad w) := by
  have hrl := hr.lt
  have nq : (hdC bad s.data.toList != 40) = true := by simp only [bne, hq]; rfl
  have hr0 : rdB (w.alloc (.cells #[.int .i64 0, .slice none 0 0] 24)) r s bad := hr.al
  have HN := Lib.hid (implNext r s bad _ hr0)
  have HK := Lib.hid (implKind r s bad 1 3 _ hr0)
  have hZ : (w.alloc (.cells #[.int .i64 0, .slice none 0 0] 24)).heap[w.heap.size]? = some (.cells #[.int .i64 0, .slice none 0 0] 24 (0, 0)) := blk_new rfl
  have HC0 := Lib.hid (show Chg [r] w (w.alloc (.cells #[.int .i64 0, .slice none 0 0] 24)) from Chg.of_below bal1)
  have hs0 : (w.alloc (.cells #[.int .i64 0, .slice none 0 0] 24)).heap.size = w.heap.size + 1 := by simp [World.setCell]
  have c0 : w.cell? ⟨r, 0, none⟩ = some (.string s) := blk_cell hr rfl
  have c1 : w.cell? ⟨r, 1, none⟩ = some (.bool bad) := blk_cell hr rfl
  have f0 : w.frozen? ⟨r, 0, none⟩ = false := blk_fro hr 0
  have f1 : w.frozen? ⟨r, 1, none⟩ = false := blk_fro hr 1
  clear hr hr0
  go_enter Try.func18, Try.ntmps18
  go_wp2_with fail
  refine HN.out.mono ?_
  rintro e w1 ⟨rfl, rfl⟩
  go_wp2_with fail
  refine HK.out.mono ?_
  rintro e w2 ⟨s2, rfl, hr2, hl2, hc2⟩
  have hZ2 := blk_chg hZ hc2 (by omega)
  have HC2 := Lib.hid (HC0.out.trans hc2)
  have hz2 := hc2.size
  rw [hs0] at hz2
  have HR2 := Lib.hid hr2
  have HL2 := Lib.hid hl2
  clear hr2 hl2 hc2 hZ HK HN HC0 hs0
  go_wp2_with fail
  refine (implBase _ _).mono ?_
  rintro e w3 ⟨v3, rfl, hv3, hb3⟩
  obtain ⟨k3, a3, n3, q3, rfl⟩ := hv3.shape
  have hZ3 := blk_below hZ2 hb3
  have z0 : w3.cell? ⟨w.heap.size, 0, none⟩ = some (.int .i64 0) := blk_cell hZ3 rfl
  have z1 : w3.cell? ⟨w.heap.size, 1, none⟩ = some (.slice none 0 0) := blk_cell hZ3 rfl
  have zf0 : w3.frozen? ⟨w.heap.size, 0, none⟩ = false := blk_fro hZ3 0
  have zf1 : w3.frozen? ⟨w.heap.size, 1, none⟩ = false := blk_fro hZ3 1
  have HV3 := Lib.hid hv3
  have HB3 := Lib.hid hb3
  have hz3 := hb3.size
  have lz := blk_lt hZ3
  clear hv3 hb3 hZ2
  go_wp2_with fail
  have hY1 := blk_set (v := .int .i64 k3) hZ3 (rfl : (#[Value.int .i64 0, .slice none 0 0] : Array Value).setIfInBounds 0 (.int .i64 k3) = #[.int .i64 k3, .slice none 0 0])
  have hY2 := blk_set (v := .slice a3 n3 q3) hY1 (rfl : (#[Value.int .i64 k3, .slice none 0 0] : Array Value).setIfInBounds 1 (.slice a3 n3 q3) = #[.int .i64 k3, .slice a3 n3 q3])
  have rc0 := blk_cell hY2 (o := 0) rfl
  have rc1 := blk_cell hY2 (o := 1) rfl
  refine bodyPost_ret (v := .agg #[.int .i64 k3, .slice a3 n3 q3]) (by simp [results, Try.results18, go_sem, rc0, rc1]) rfl ?_
  have hch := HC2.out.trans (Chg.of_below (fp := [r]) HB3.out)
  refine ⟨k3, a3, n3, q3, s2, _, rfl, ((HR2.out.chg HB3.out).set (by omega)).set (by omega), ⟨hch.os, hch.tape, hch.output, by simpa [World.setCell] using hch.size, fun b hb hn => ?_⟩, ?_⟩
  · rw [Below.heap_setCell _ _ _ _ (by show b ≠ w.heap.size; omega), Below.heap_setCell _ _ _ _ (by show b ≠ w.heap.size; omega)]
    exact hch.block b hb hn
  rintro o rfl
  have hv4 : TyNew w.heap.size _ _ _ := (((HV3.out.mono (B' := w.heap.size + 1) (by omega)).setCell (p := ⟨w.heap.size, 0, none⟩) (by show w.heap.size < w.heap.size + 1; omega) (.int .i64 k3)).setCell (p := ⟨w.heap.size, 1, none⟩) (by show w.heap.size < w.heap.size + 1; omega) (.slice a3 n3 q3)).mono (by omega)
  have hl2 := HL2.out
  cases bad
  · cases hl : s.data.toList with
    | nil => simp [gP, ps]
    | cons c cs =>
      rw [hl] at hl2 hv4 hq
      have hc : c ≠ 40 := by
        rintro rfl
        simp [hdC] at hq
      unfold gP ps
      rw [if_neg (by simp), if_neg hc]
      simp only [hdC] at hv4 ⊢
      by_cases hk : 1 ≤ kindV c.toNat ∧ kindV c.toNat ≤ 3
      · rw [if_pos hk]
        refine ⟨?_, hl2, hv4⟩
        simp [hk.1, hk.2]
      · rw [if_neg hk]
        simp
        omega
  · simp [gP]
end Go.Proofs.Ytikkneahhgmdjaa
