/-
  The reference's parser: the cases without a bracket.
-/
import Derived.Test.YtikkneahhgmdjaaPrsI2
namespace Go.Proofs.Ytikkneahhgmdjaa
open Go.RowKit
set_option linter.unusedVariables false
set_option linter.unusedSimpArgs false
set_option maxRecDepth 100000


theorem kindV_c (c : UInt8) : kindV c.toNat = 1 + Lib.indexByte [63, 73, 66, 62, 42] c := by
  have e : ((c.toNat : Int)).toNat.toUInt8 = c := by simp
  unfold kindV
  rw [e]
theorem kindV_other {c : UInt8} (h1 : c ≠ 63) (h2 : c ≠ 73) (h3 : c ≠ 66) (h4 : c ≠ 62) (h5 : c ≠ 42) : kindV c.toNat = 0 := by
  have e1 : ((63 : UInt8) == c) = false := by simpa using Ne.symm h1
  have e2 : ((73 : UInt8) == c) = false := by simpa using Ne.symm h2
  have e3 : ((66 : UInt8) == c) = false := by simpa using Ne.symm h3
  have e4 : ((62 : UInt8) == c) = false := by simpa using Ne.symm h4
  have e5 : ((42 : UInt8) == c) = false := by simpa using Ne.symm h5
  rw [kindV_c]
  simp only [Lib.indexByte, e1, e2, e3, e4, e5]
  rfl
theorem kindV_63 : kindV (63 : UInt8).toNat = 1 := by rw [kindV_c]; rfl
theorem kindV_73 : kindV (73 : UInt8).toNat = 2 := by rw [kindV_c]; rfl
theorem kindV_66 : kindV (66 : UInt8).toNat = 3 := by rw [kindV_c]; rfl
theorem kindV_62 : kindV (62 : UInt8).toNat = 4 := by rw [kindV_c]; rfl
theorem kindV_42 : kindV (42 : UInt8).toNat = 5 := by rw [kindV_c]; rfl
theorem int_ne {c b : UInt8} (h : c ≠ b) : ((c.toNat : Int) == (b.toNat : Int)) = false := by
  rcases Bool.eq_false_or_eq_true ((c.toNat : Int) == (b.toNat : Int)) with q | q
  · exfalso
    apply h
    have h1 : (c.toNat : Int) = (b.toNat : Int) := by simpa using q
    exact UInt8.toNat_inj.1 (by omega)
  · exact q
/-- What the reference's parser leaves: the type and where the text goes on, or -1. -/
def PsP (s : ByteArray) (d : Nat) (l : List UInt8) (w : World) (e : Ending) (w' : World) : Prop := ∃ (k : Int) (a : Option Addr) (n q : Nat) (nx : Int), e = .returned (.tuple #[.agg #[.int .i64 k, .slice a n q], .int .i64 nx]) ∧ Below w.heap.size w w' ∧
  ∀ o, o = ps d l → match o with
    | some (t, r) => (∃ j : Nat, nx = j ∧ j ≤ s.size ∧ r = s.data.toList.drop j) ∧ TyNew w.heap.size w' t (.agg #[.int .i64 k, .slice a n q])
    | none => nx = -1
theorem drop_nil {s : ByteArray} {j : Nat} (h : s.data.toList.drop j = []) : s.size ≤ j := by
  have h1 := congrArg List.length h
  have e : s.data.toList.length = s.size := by simp
  simp only [List.length_drop, List.length_nil] at h1
  omega
theorem drop_cons {s : ByteArray} {j : Nat} {c : UInt8} {cs : List UInt8} (h : s.data.toList.drop j = c :: cs) : j < s.size ∧ (∀ k : j < s.size, s[j] = c) ∧ cs = s.data.toList.drop (j + 1) := by
  have h1 := congrArg List.length h
  have e : s.data.toList.length = s.size := by simp
  simp only [List.length_drop, List.length_cons] at h1
  refine ⟨by omega, fun k => ?_, ?_⟩
  · have h2 : (s.data.toList.drop j)[0]? = some c := by rw [h]; rfl
    simp only [List.getElem?_drop, Nat.add_zero] at h2
    have h3 : s.data[j]? = some c := by simpa using h2
    exact (Array.getElem?_eq_some_iff.1 h3).2
  · have := congrArg List.tail h
    simpa using this.symm
set_option maxHeartbeats 2000000 in
theorem specParse0 (s : ByteArray) (at_ : Nat) (w : World) : Calls Try.prog 17 #[.string s, .int .i64 at_, .int .i64 0] w (PsP s 0 (s.data.toList.drop at_) w) := by
  go_enter Try.func17, Try.ntmps17
  go_wp2_with fail
  refine bodyPost_ret (v := .tuple #[.agg #[.int .i64 0, .slice none 0 0], .int .i64 (-1)]) (by simp [results, Try.results17, go_sem]) rfl ?_
  refine ⟨_, _, _, _, _, rfl, bal1, ?_⟩
  rintro o rfl
  simp [ps]
set_option maxHeartbeats 2000000 in
theorem specParseE (s : ByteArray) (at_ : Nat) (dd : Int) (d : Nat) (w : World) (hd : decide (dd < 1) = false) (h : s.size ≤ at_) : Calls Try.prog 17 #[.string s, .int .i64 at_, .int .i64 dd] w (PsP s (d + 1) (s.data.toList.drop at_) w) := by
  have h0 : decide ((at_ : Int) < 0) = false := by simp
  have h1 : decide ((at_ : Int) ≥ (s.size : Int)) = true := by simp; omega
  have h2 : ¬ ((at_ : Int) < (s.size : Int)) := by omega
  have hx : s.data.toList.drop at_ = [] := by
    have e : s.data.toList.length = s.size := by simp
    exact List.drop_eq_nil_of_le (by omega)
  rw [hx]
  clear hx
  go_enter Try.func17, Try.ntmps17
  go_wp2_with fail
  refine bodyPost_ret (v := .tuple #[.agg #[.int .i64 0, .slice none 0 0], .int .i64 (-1)]) (by simp [results, Try.results17, go_sem]) rfl ?_
  refine ⟨_, _, _, _, _, rfl, bal1, ?_⟩
  rintro o rfl
  simp [ps]
set_option maxHeartbeats 2000000 in
theorem specParse1 (s : ByteArray) (at_ : Nat) (dd : Int) (d : Nat) (cs : List UInt8) (w : World) (hd : decide (dd < 1) = false) (hsz : s.size ≤ 1048576) (hl : s.data.toList.drop at_ = 63 :: cs) : Calls Try.prog 17 #[.string s, .int .i64 at_, .int .i64 dd] w (PsP s (d + 1) (s.data.toList.drop at_) w) := by
  obtain ⟨hj, hc, hcs⟩ := drop_cons hl
  have h0 : decide ((at_ : Int) < 0) = false := by simp
  have h2 : (at_ : Int) < (s.size : Int) := by omega
  have hcv := hc hj
  have hw : wrap64 ((at_ : Int) + 1) = ((at_ + 1 : Nat) : Int) := by unfold wrap64; omega
  have HL := Lib.hid hl
  have HCS := Lib.hid hcs
  have HJ := Lib.hid hj
  clear hl hcs hc
  go_enter Try.func17, Try.ntmps17
  go_wp2_with fail
  refine bodyPost_ret (v := .tuple #[.agg #[.int .i64 1, .slice none 0 0], .int .i64 ((at_ : Int) + 1)]) (by simp [results, Try.results17, go_sem]) rfl ?_
  refine ⟨_, _, _, _, _, rfl, bal1, ?_⟩
  rintro o rfl
  rw [HL.out]
  unfold ps
  rw [if_neg (by decide), kindV_63, if_pos (by omega)]
  exact ⟨⟨at_ + 1, by omega, HJ.out, HCS.out⟩, TysNew.ty (TysNew.nil _ _)⟩
set_option maxHeartbeats 2000000 in
theorem specParse2 (s : ByteArray) (at_ : Nat) (dd : Int) (d : Nat) (cs : List UInt8) (w : World) (hd : decide (dd < 1) = false) (hsz : s.size ≤ 1048576) (hl : s.data.toList.drop at_ = 73 :: cs) : Calls Try.prog 17 #[.string s, .int .i64 at_, .int .i64 dd] w (PsP s (d + 1) (s.data.toList.drop at_) w) := by
  obtain ⟨hj, hc, hcs⟩ := drop_cons hl
  have h0 : decide ((at_ : Int) < 0) = false := by simp
  have h2 : (at_ : Int) < (s.size : Int) := by omega
  have hcv := hc hj
  have hw : wrap64 ((at_ : Int) + 1) = ((at_ + 1 : Nat) : Int) := by unfold wrap64; omega
  have HL := Lib.hid hl
  have HCS := Lib.hid hcs
  have HJ := Lib.hid hj
  clear hl hcs hc
  go_enter Try.func17, Try.ntmps17
  go_wp2_with fail
  refine bodyPost_ret (v := .tuple #[.agg #[.int .i64 2, .slice none 0 0], .int .i64 ((at_ : Int) + 1)]) (by simp [results, Try.results17, go_sem]) rfl ?_
  refine ⟨_, _, _, _, _, rfl, bal1, ?_⟩
  rintro o rfl
  rw [HL.out]
  unfold ps
  rw [if_neg (by decide), kindV_73, if_pos (by omega)]
  exact ⟨⟨at_ + 1, by omega, HJ.out, HCS.out⟩, TysNew.ty (TysNew.nil _ _)⟩
set_option maxHeartbeats 2000000 in
theorem specParse3 (s : ByteArray) (at_ : Nat) (dd : Int) (d : Nat) (cs : List UInt8) (w : World) (hd : decide (dd < 1) = false) (hsz : s.size ≤ 1048576) (hl : s.data.toList.drop at_ = 66 :: cs) : Calls Try.prog 17 #[.string s, .int .i64 at_, .int .i64 dd] w (PsP s (d + 1) (s.data.toList.drop at_) w) := by
  obtain ⟨hj, hc, hcs⟩ := drop_cons hl
  have h0 : decide ((at_ : Int) < 0) = false := by simp
  have h2 : (at_ : Int) < (s.size : Int) := by omega
  have hcv := hc hj
  have hw : wrap64 ((at_ : Int) + 1) = ((at_ + 1 : Nat) : Int) := by unfold wrap64; omega
  have HL := Lib.hid hl
  have HCS := Lib.hid hcs
  have HJ := Lib.hid hj
  clear hl hcs hc
  go_enter Try.func17, Try.ntmps17
  go_wp2_with fail
  refine bodyPost_ret (v := .tuple #[.agg #[.int .i64 3, .slice none 0 0], .int .i64 ((at_ : Int) + 1)]) (by simp [results, Try.results17, go_sem]) rfl ?_
  refine ⟨_, _, _, _, _, rfl, bal1, ?_⟩
  rintro o rfl
  rw [HL.out]
  unfold ps
  rw [if_neg (by decide), kindV_66, if_pos (by omega)]
  exact ⟨⟨at_ + 1, by omega, HJ.out, HCS.out⟩, TysNew.ty (TysNew.nil _ _)⟩
set_option maxHeartbeats 2000000 in
theorem specParseX (s : ByteArray) (at_ : Nat) (dd : Int) (d : Nat) (c : UInt8) (cs : List UInt8) (w : World) (hd : decide (dd < 1) = false) (hl : s.data.toList.drop at_ = c :: cs) (n1 : c ≠ 63) (n2 : c ≠ 73) (n3 : c ≠ 66) (n4 : c ≠ 40) : Calls Try.prog 17 #[.string s, .int .i64 at_, .int .i64 dd] w (PsP s (d + 1) (s.data.toList.drop at_) w) := by
  obtain ⟨hj, hc, hcs⟩ := drop_cons hl
  have h0 : decide ((at_ : Int) < 0) = false := by simp
  have h2 : (at_ : Int) < (s.size : Int) := by omega
  have hcv := hc hj
  have e1 : ((c.toNat : Int) == 63) = false := int_ne (b := 63) n1
  have e2 : ((c.toNat : Int) == 73) = false := int_ne (b := 73) n2
  have e3 : ((c.toNat : Int) == 66) = false := int_ne (b := 66) n3
  have e4 : ((c.toNat : Int) == 40) = false := int_ne (b := 40) n4
  have HL := Lib.hid hl
  have HJ := Lib.hid hj
  have hn := Lib.hid (And.intro n1 (And.intro n2 (And.intro n3 n4)))
  clear hl hcs hc n1 n2 n3 n4
  go_enter Try.func17, Try.ntmps17
  go_wp2_with fail
  refine bodyPost_ret (v := .tuple #[.agg #[.int .i64 0, .slice none 0 0], .int .i64 (-1)]) (by simp [results, Try.results17, go_sem]) rfl ?_
  refine ⟨_, _, _, _, _, rfl, bal1, ?_⟩
  rintro o rfl
  obtain ⟨n1, n2, n3, n4⟩ := hn.out
  rw [HL.out]
  unfold ps
  rw [if_neg n4]
  by_cases m1 : c = 62
  · subst m1
    rw [kindV_62, if_neg (by omega)]
  · by_cases m2 : c = 42
    · subst m2
      rw [kindV_42, if_neg (by omega)]
    · rw [kindV_other n1 n2 n3 m1 m2, if_neg (by omega)]
end Go.Proofs.Ytikkneahhgmdjaa
