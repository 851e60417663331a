/-
  The reader's small steps.
-/
import Derived.Test.YtikkneahhgmdjaaB8
import Derived.Test.YtikkneahhgmdjaaB5
import Derived.Test.YtikkneahhgmdjaaTyNewB
import Derived.Test.YtikkneahhgmdjaaB1
import Derived.Test.YtikkneahhgmdjaaShelfB
namespace Go.Proofs.Ytikkneahhgmdjaa
open Go.RowKit
set_option linter.unusedVariables false
set_option linter.unusedSimpArgs false
set_option maxRecDepth 100000


/-- A reader's block: what is left of the text, whether it has failed. -/
def rdB (w : World) (r : Nat) (s : ByteArray) (bad : Bool) : Prop := w.heap[r]? = some (.cells #[.string s, .bool bad] 40 (0, 0))
def hdC (bad : Bool) : List UInt8 → Int
  | [] => 0
  | c :: _ => if bad then 0 else (c.toNat : Int)
def rest1 (bad : Bool) (l : List UInt8) : List UInt8 := if bad then l else l.tail
def kindV (c : Int) : Int := 1 + Lib.indexByte [63, 73, 66, 62, 42] c.toNat.toUInt8
/-- The type ahead in a text, and what is left of the text. -/
def ps : Nat → List UInt8 → Option (Ty × List UInt8)
  | 0, _ => none
  | _ + 1, [] => none
  | d + 1, c :: cs =>
    if c = 40 then
      match ps d cs with
      | some (a, m :: r1) =>
        if 4 ≤ kindV m.toNat ∧ kindV m.toNat ≤ 5 then
          match ps d r1 with
          | some (b, e :: r2) => if e = 41 then some (.mk (kindV m.toNat) [a, b], r2) else none
          | _ => none
        else none
      | _ => none
    else if 1 ≤ kindV c.toNat ∧ kindV c.toNat ≤ 3 then some (.mk (kindV c.toNat) [], cs) else none
theorem bs_nil {s : ByteArray} (h : s.data.toList = []) : s.toList.isEmpty = true ∧ s.size = 0 := by
  refine ⟨by rw [ByteArray.toList_eq, h]; rfl, ?_⟩
  have : s.data.toList.length = 0 := by rw [h]; rfl
  simpa using this
theorem bs_cons {s : ByteArray} {c : UInt8} {cs : List UInt8} (h : s.data.toList = c :: cs) : s.toList.isEmpty = false ∧ 0 < s.size ∧ (∀ k : 0 < s.size, s[0] = c) ∧ (s.extract 1 s.size).data.toList = cs := by
  have hz : 0 < s.size := by
    have : s.data.toList.length = cs.length + 1 := by rw [h]; rfl
    have e : s.data.size = s.size := rfl
    simp at this
    omega
  refine ⟨by rw [ByteArray.toList_eq, h]; rfl, hz, fun k => ?_, ?_⟩
  · have h1 : s.data.toList[0]? = some c := by rw [h]; rfl
    have h2 : s.data[0]? = some c := by simpa using h1
    have h3 := (Array.getElem?_eq_some_iff.1 h2).2
    exact h3
  · have e : (s.extract 1 s.size).data = s.data.extract 1 s.size := by simp
    rw [e]
    have : (s.data.extract 1 s.size).toList = (s.data.toList.drop 1).take (s.size - 1) := by simp [List.drop_take]
    rw [this, h]
    have hl : s.size = cs.length + 1 := by
      have h1 : s.data.toList.length = cs.length + 1 := by rw [h]; rfl
      have e : s.data.toList.length = s.size := by simp
      omega
    rw [hl]
    simp
theorem rdB.chg {r : Nat} {w w' : World} {s : ByteArray} {b : Bool} (h : rdB w r s b) (k : Below w.heap.size w w') : rdB w' r s b := blk_below h k
theorem chg_set {r o : Nat} {w : World} {v : Value} : Chg [r] w (w.setCell ⟨r, o, none⟩ v) :=
  ⟨rfl, rfl, rfl, by simp [World.setCell], fun k _ hk => Below.heap_setCell w _ v k (by simpa using hk)⟩
set_option maxHeartbeats 1000000 in
theorem implOne (r : Nat) (s : ByteArray) (bad : Bool) (w : World) (hr : rdB w r s bad) :
    Calls Try.prog 47 #[.pointer (some ⟨r, 0, none⟩)] w fun e w' => ∃ s', e = .returned (.int .u8 (hdC bad s.data.toList)) ∧ rdB w' r s' (bad || s.data.toList.isEmpty) ∧ s'.data.toList = rest1 bad s.data.toList ∧ Chg [r] w w' := by
  unfold rdB at hr
  cases bad
  · cases hl : s.data.toList with
    | nil =>
      have c0 : w.cell? ⟨r, 0, none⟩ = some (.string s) := blk_cell hr rfl
      have c1 : w.cell? ⟨r, 1, none⟩ = some (.bool false) := blk_cell hr rfl
      have f0 : w.frozen? ⟨r, 0, none⟩ = false := blk_fro hr 0
      have f1 : w.frozen? ⟨r, 1, none⟩ = false := blk_fro hr 1
      obtain ⟨he, hz⟩ := bs_nil hl
      have HL := Lib.hid hl
      clear hl
      go_enter Try.func47, Try.ntmps47
      go_wp2_with fail
      go_ret
      exact ⟨s, rfl, blk_set hr rfl, HL.out, chg_set⟩
    | cons c cs =>
      have c0 : w.cell? ⟨r, 0, none⟩ = some (.string s) := blk_cell hr rfl
      have c1 : w.cell? ⟨r, 1, none⟩ = some (.bool false) := blk_cell hr rfl
      have f0 : w.frozen? ⟨r, 0, none⟩ = false := blk_fro hr 0
      have f1 : w.frozen? ⟨r, 1, none⟩ = false := blk_fro hr 1
      obtain ⟨he, hz, h0, hx⟩ := bs_cons hl
      have HL := Lib.hid hl
      clear hl
      have hz0 : (0 : Int) < (s.size : Int) := by omega
      have hz1 : (1 : Int) ≤ (s.size : Int) := by omega
      go_enter Try.func47, Try.ntmps47
      go_wp2_with fail
      go_ret
      exact ⟨_, rfl, blk_set hr rfl, hx, chg_set⟩
  · have c0 : w.cell? ⟨r, 0, none⟩ = some (.string s) := blk_cell hr rfl
    have c1 : w.cell? ⟨r, 1, none⟩ = some (.bool true) := blk_cell hr rfl
    have f0 : w.frozen? ⟨r, 0, none⟩ = false := blk_fro hr 0
    have f1 : w.frozen? ⟨r, 1, none⟩ = false := blk_fro hr 1
    go_enter Try.func47, Try.ntmps47
    go_wp2_with fail
    go_ret
    exact ⟨s, by cases s.data.toList <;> rfl, blk_set hr rfl, rfl, chg_set⟩
set_option maxHeartbeats 1000000 in
theorem implNext (r : Nat) (s : ByteArray) (bad : Bool) (w : World) (hr : rdB w r s bad) :
    Calls Try.prog 32 #[.pointer (some ⟨r, 0, none⟩)] w fun e w' => e = .returned (.int .u8 (hdC bad s.data.toList)) ∧ w' = w := by
  unfold rdB at hr
  cases bad
  · cases hl : s.data.toList with
    | nil =>
      have c0 : w.cell? ⟨r, 0, none⟩ = some (.string s) := blk_cell hr rfl
      have c1 : w.cell? ⟨r, 1, none⟩ = some (.bool false) := blk_cell hr rfl
      have f0 : w.frozen? ⟨r, 0, none⟩ = false := blk_fro hr 0
      have f1 : w.frozen? ⟨r, 1, none⟩ = false := blk_fro hr 1
      obtain ⟨he, hz⟩ := bs_nil hl
      clear hl
      go_enter Try.func32, Try.ntmps32
      go_wp2_with fail
      go_ret
      exact ⟨rfl, rfl⟩
    | cons c cs =>
      have c0 : w.cell? ⟨r, 0, none⟩ = some (.string s) := blk_cell hr rfl
      have c1 : w.cell? ⟨r, 1, none⟩ = some (.bool false) := blk_cell hr rfl
      have f0 : w.frozen? ⟨r, 0, none⟩ = false := blk_fro hr 0
      have f1 : w.frozen? ⟨r, 1, none⟩ = false := blk_fro hr 1
      obtain ⟨he, hz, h0, hx⟩ := bs_cons hl
      clear hl
      have hz0 : (0 : Int) < (s.size : Int) := by omega
      go_enter Try.func32, Try.ntmps32
      go_wp2_with fail
      go_ret
      exact ⟨rfl, rfl⟩
  · have c0 : w.cell? ⟨r, 0, none⟩ = some (.string s) := blk_cell hr rfl
    have c1 : w.cell? ⟨r, 1, none⟩ = some (.bool true) := blk_cell hr rfl
    have f0 : w.frozen? ⟨r, 0, none⟩ = false := blk_fro hr 0
    have f1 : w.frozen? ⟨r, 1, none⟩ = false := blk_fro hr 1
    go_enter Try.func32, Try.ntmps32
    go_wp2_with fail
    go_ret
    exact ⟨by cases s.data.toList <;> rfl, rfl⟩
set_option maxHeartbeats 1000000 in
theorem implSkip (r : Nat) (s : ByteArray) (bad : Bool) (b : Int) (w : World) (hr : rdB w r s bad) :
    Calls Try.prog 35 #[.pointer (some ⟨r, 0, none⟩), .int .u8 b] w fun e w' => ∃ s', e = .returned (.tuple #[]) ∧ rdB w' r s' (!(hdC bad s.data.toList == b) || (bad || s.data.toList.isEmpty)) ∧ s'.data.toList = rest1 bad s.data.toList ∧ Chg [r] w w' := by
  have H := Lib.hid (implOne r s bad w hr)
  clear hr
  generalize hdC bad s.data.toList = c at H ⊢
  generalize (bad || s.data.toList.isEmpty) = b1 at H ⊢
  generalize rest1 bad s.data.toList = l1 at H ⊢
  go_enter Try.func35, Try.ntmps35
  go_wp2_with fail
  refine H.out.mono ?_
  rintro e w1 ⟨s1, rfl, hr1, hl1, hc1⟩
  unfold rdB at hr1
  have x0 : w1.cell? ⟨r, 0, none⟩ = some (.string s1) := blk_cell hr1 rfl
  have x1 : w1.cell? ⟨r, 1, none⟩ = some (.bool b1) := blk_cell hr1 rfl
  have xf0 : w1.frozen? ⟨r, 0, none⟩ = false := blk_fro hr1 0
  have xf1 : w1.frozen? ⟨r, 1, none⟩ = false := blk_fro hr1 1
  have HL := Lib.hid hl1
  clear hl1
  rcases Bool.eq_false_or_eq_true (c == b) with q | q
  · have nq : (c != b) = false := by simp only [bne, q]; rfl
    cases b1
    · go_wp2_with fail
      refine bodyPost_end (v := .tuple #[]) (by simp [results, Try.results35, go_sem]) rfl ?_
      exact ⟨s1, rfl, by rw [q]; exact blk_set hr1 rfl, HL.out, hc1.trans chg_set⟩
    · go_wp2_with fail
      refine bodyPost_end (v := .tuple #[]) (by simp [results, Try.results35, go_sem]) rfl ?_
      exact ⟨s1, rfl, by rw [q]; exact blk_set hr1 rfl, HL.out, hc1.trans chg_set⟩
  · have nq : (c != b) = true := by simp only [bne, q]; rfl
    go_wp2_with fail
    refine bodyPost_end (v := .tuple #[]) (by simp [results, Try.results35, go_sem]) rfl ?_
    exact ⟨s1, rfl, by rw [q]; exact blk_set hr1 rfl, HL.out, hc1.trans chg_set⟩
theorem implWithinT (n a b : Int) (w : World) : Calls Try.prog 48 #[.int .i64 n, .int .i64 a, .int .i64 b] w fun e w' => e = .returned (.bool (decide (a ≤ n) && decide (n ≤ b))) ∧ Below w.heap.size w w' := by
  by_cases h1 : a ≤ n
  · by_cases h2 : n ≤ b
    · go_enter Try.func48, Try.ntmps48
      go_wp2_with fail
      go_ret
      exact ⟨by simp [h1, h2], Below.refl _ _⟩
    · go_enter Try.func48, Try.ntmps48
      go_wp2_with fail
      go_ret
      exact ⟨by simp [h1, h2], Below.refl _ _⟩
  · go_enter Try.func48, Try.ntmps48
    go_wp2_with fail
    go_ret
    exact ⟨by rw [show decide (a ≤ n) = false by simpa using h1]; rfl, Below.refl _ _⟩
theorem kind_wrap (c : Int) : -1 ≤ kindV c - 1 ∧ kindV c - 1 ≤ 4 := by
  unfold kindV
  have h1 := Lib.indexByte_ge [63, 73, 66, 62, 42] c.toNat.toUInt8
  refine ⟨by omega, ?_⟩
  simp only [Lib.indexByte]
  repeat' split
  all_goals omega
set_option maxHeartbeats 1000000 in
theorem implKind (r : Nat) (s : ByteArray) (bad : Bool) (f t : Int) (w : World) (hr : rdB w r s bad) :
    Calls Try.prog 34 #[.pointer (some ⟨r, 0, none⟩), .int .i64 f, .int .i64 t] w fun e w' => ∃ s', e = .returned (.int .i64 (kindV (hdC bad s.data.toList))) ∧ rdB w' r s' ((bad || s.data.toList.isEmpty) || !(decide (f ≤ kindV (hdC bad s.data.toList)) && decide (kindV (hdC bad s.data.toList) ≤ t))) ∧ s'.data.toList = rest1 bad s.data.toList ∧ Chg [r] w w' := by
  have H := Lib.hid (implOne r s bad w hr)
  clear hr
  generalize hdC bad s.data.toList = c at H ⊢
  generalize (bad || s.data.toList.isEmpty) = b1 at H ⊢
  generalize rest1 bad s.data.toList = l1 at H ⊢
  have hk : Lib.indexByte [63, 73, 66, 62, 42] c.toNat.toUInt8 = kindV c - 1 := by unfold kindV; omega
  have hw := kind_wrap c
  have HIX : Hid (∀ W, Calls Try.prog 46 #[.string { data := #[63, 73, 66, 62, 42] }, .int .u8 c] W fun e w' => e = .returned (.int .i64 (kindV c - 1)) ∧ w' = W) := Lib.hid fun W => by rw [← hk]; exact Try.strings_IndexByte { data := #[63, 73, 66, 62, 42] } c W
  clear hk
  generalize hkv : kindV c = kv at HIX hw ⊢
  clear hkv
  have hwr : wrap64 (1 + (kv - 1)) = kv := by have := hw.1; have := hw.2; unfold wrap64; omega
  have HWI := Lib.hid fun W => implWithinT kv f t W
  clear hw
  go_enter Try.func34, Try.ntmps34
  go_wp2_with fail
  refine H.out.mono ?_
  rintro e w1 ⟨s1, rfl, hr1, hl1, hc1⟩
  unfold rdB at hr1
  have x0 : w1.cell? ⟨r, 0, none⟩ = some (.string s1) := blk_cell hr1 rfl
  have x1 : w1.cell? ⟨r, 1, none⟩ = some (.bool b1) := blk_cell hr1 rfl
  have xf0 : w1.frozen? ⟨r, 0, none⟩ = false := blk_fro hr1 0
  have xf1 : w1.frozen? ⟨r, 1, none⟩ = false := blk_fro hr1 1
  have HL := Lib.hid hl1
  clear hl1
  go_wp2_with fail
  refine (HIX.out _).mono ?_
  rintro e w2 ⟨rfl, rfl⟩
  cases b1
  · go_wp2_with fail
    refine (HWI.out _).mono ?_
    rintro e w3 ⟨rfl, hb3⟩
    replace hr1 := blk_below hr1 hb3
    clear x0 x1 xf0 xf1
    have x0 : w3.cell? ⟨r, 0, none⟩ = some (.string s1) := blk_cell hr1 rfl
    have x1 : w3.cell? ⟨r, 1, none⟩ = some (.bool false) := blk_cell hr1 rfl
    have xf0 : w3.frozen? ⟨r, 0, none⟩ = false := blk_fro hr1 0
    have xf1 : w3.frozen? ⟨r, 1, none⟩ = false := blk_fro hr1 1
    rcases Bool.eq_false_or_eq_true (decide (f ≤ kv) && decide (kv ≤ t)) with q | q
    · have Q := Lib.hid q
      rw [q]
      clear q
      go_wp2_with fail
      go_ret
      exact ⟨s1, by first | rfl | (show Ending.returned (.int .i64 (wrap64 (1 + (kv - 1)))) = _; rw [hwr]), by rw [Q.out]; exact blk_set hr1 rfl, HL.out, (hc1.trans (Chg.of_below hb3)).trans chg_set⟩
    · have Q := Lib.hid q
      rw [q]
      clear q
      go_wp2_with fail
      go_ret
      exact ⟨s1, by first | rfl | (show Ending.returned (.int .i64 (wrap64 (1 + (kv - 1)))) = _; rw [hwr]), by rw [Q.out]; exact blk_set hr1 rfl, HL.out, (hc1.trans (Chg.of_below hb3)).trans chg_set⟩
  · go_wp2_with fail
    go_ret
    exact ⟨s1, by first | rfl | (show Ending.returned (.int .i64 (wrap64 (1 + (kv - 1)))) = _; rw [hwr]), blk_set hr1 rfl, HL.out, hc1.trans chg_set⟩
end Go.Proofs.Ytikkneahhgmdjaa
