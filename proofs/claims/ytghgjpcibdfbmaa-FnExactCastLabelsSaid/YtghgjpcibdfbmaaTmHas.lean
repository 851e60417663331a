/-
  Nodes that have a type of their own; terms that are alike: plain facts.
-/
import Derived.Test.YtghgjpcibdfbmaaK5
import Derived.Test.YtghgjpcibdfbmaaK2
import Derived.Test.YtghgjpcibdfbmaaTmSame
namespace Go.Proofs.Ytghgjpcibdfbmaa
open Go.RowKit
set_option linter.unusedVariables false
set_option linter.unusedSimpArgs false
set_option maxRecDepth 100000

mutual
def Tm.alike : Tm → Tm → Bool
  | .mk k s u t f l ts, .mk k' s' u' t' f' l' us => k == k' && s.toList == s'.toList && u == u' && (!(k == 5 || k == 13) || t.prec t') && Tm.alikes ts us
def Tm.alikes : List Tm → List Tm → Bool
  | [], [] => true
  | t :: ts, u :: us => t.alike u && Tm.alikes ts us
  | _, _ => false
end
theorem Tm.alikes_all2 : ∀ ts us : List Tm, tall2 Tm.alike ts us = Tm.alikes ts us
  | [], [] => by unfold Tm.alikes; rfl
  | [], _ :: _ => by unfold Tm.alikes; rfl
  | _ :: _, [] => by unfold Tm.alikes; rfl
  | t :: ts, u :: us => by unfold Tm.alikes tall2; rw [Tm.alikes_all2 ts us]
def Tm.precB (t u : Tm) : Bool := t.valid && u.valid && t.alike u
theorem Tm.own_type {k u l : Int} {s : ByteArray} {t f : Ty} {ts : List Tm} (h : (Tm.mk k s u t f l ts).ownB = true) (hk : (k == 5) = true ∨ (k == 13) = true) : t.valid = true := by
  have hk' : (k == 5 || k == 13 || k == 14) = true := by rcases hk with h | h <;> simp [h]
  have h1 : Go.Proofs.Ytghgjpcibdfbmaa.ownB k u l s t.valid t.noneB f.noneB (f.valid && t.valid && f.cons t) = true := h
  unfold Go.Proofs.Ytghgjpcibdfbmaa.ownB at h1
  rw [if_pos hk'] at h1
  simp only [Bool.and_eq_true] at h1
  exact h1.1.2
def hasT (k : Int) : Bool := k == 5 || k == 13
theorem leaf_alike1_0 (r : Bool) : (r : Bool) = (r) := by
  rfl

theorem leaf_alike_1 (k u k' u' : Int) (nm nm' : ByteArray) (r1 r3 : Bool) (h0 : (hasT k) = true) (h1 : (k == k') = true) (h2 : (r1) = true) (h3 : (nm.toList == nm'.toList) = true) (h4 : (u == u') = true) : (r3 : Bool) = (k == k' && nm.toList == nm'.toList && u == u' && (!(k == 5 || k == 13) || r1) && r3) := by
  first | (simp_all [hasT]; done) | grind [hasT]

theorem leaf_alike_2 (k u k' u' : Int) (nm nm' : ByteArray) (r1 r3 : Bool) (h0 : (hasT k) = true) (h1 : (k == k') = true) (h2 : (r1) = true) (h3 : (nm.toList == nm'.toList) = true) (h4 : (u == u') = false) : (false : Bool) = (k == k' && nm.toList == nm'.toList && u == u' && (!(k == 5 || k == 13) || r1) && r3) := by
  first | (simp_all [hasT]; done) | grind [hasT]

theorem leaf_alike_3 (k u k' u' : Int) (nm nm' : ByteArray) (r1 r3 : Bool) (h0 : (hasT k) = true) (h1 : (k == k') = true) (h2 : (r1) = true) (h3 : (nm.toList == nm'.toList) = false) : (false : Bool) = (k == k' && nm.toList == nm'.toList && u == u' && (!(k == 5 || k == 13) || r1) && r3) := by
  first | (simp_all [hasT]; done) | grind [hasT]

theorem leaf_alike_4 (k u k' u' : Int) (nm nm' : ByteArray) (r1 r3 : Bool) (h0 : (hasT k) = true) (h1 : (k == k') = true) (h2 : (r1) = false) : (false : Bool) = (k == k' && nm.toList == nm'.toList && u == u' && (!(k == 5 || k == 13) || r1) && r3) := by
  first | (simp_all [hasT]; done) | grind [hasT]

theorem leaf_alike_5 (k u k' u' : Int) (nm nm' : ByteArray) (r1 r3 : Bool) (h0 : (hasT k) = true) (h1 : (k == k') = false) : (false : Bool) = (k == k' && nm.toList == nm'.toList && u == u' && (!(k == 5 || k == 13) || r1) && r3) := by
  first | (simp_all [hasT]; done) | grind [hasT]

theorem leaf_alike_6 (k u k' u' : Int) (nm nm' : ByteArray) (r1 r3 : Bool) (h0 : (hasT k) = false) (h1 : (k == k') = true) (h2 : (nm.toList == nm'.toList) = true) (h3 : (u == u') = true) : (r3 : Bool) = (k == k' && nm.toList == nm'.toList && u == u' && (!(k == 5 || k == 13) || r1) && r3) := by
  first | (simp_all [hasT]; done) | grind [hasT]

theorem leaf_alike_7 (k u k' u' : Int) (nm nm' : ByteArray) (r1 r3 : Bool) (h0 : (hasT k) = false) (h1 : (k == k') = true) (h2 : (nm.toList == nm'.toList) = true) (h3 : (u == u') = false) : (false : Bool) = (k == k' && nm.toList == nm'.toList && u == u' && (!(k == 5 || k == 13) || r1) && r3) := by
  first | (simp_all [hasT]; done) | grind [hasT]

theorem leaf_alike_8 (k u k' u' : Int) (nm nm' : ByteArray) (r1 r3 : Bool) (h0 : (hasT k) = false) (h1 : (k == k') = true) (h2 : (nm.toList == nm'.toList) = false) : (false : Bool) = (k == k' && nm.toList == nm'.toList && u == u' && (!(k == 5 || k == 13) || r1) && r3) := by
  first | (simp_all [hasT]; done) | grind [hasT]

theorem leaf_alike_9 (k u k' u' : Int) (nm nm' : ByteArray) (r1 r3 : Bool) (h0 : (hasT k) = false) (h1 : (k == k') = false) : (false : Bool) = (k == k' && nm.toList == nm'.toList && u == u' && (!(k == 5 || k == 13) || r1) && r3) := by
  first | (simp_all [hasT]; done) | grind [hasT]

theorem leaf_hasT_10 (k : Int) (h0 : (k == 5) = true) : (true : Bool) = (hasT k) := by
  simp_all [hasT]

theorem leaf_hasT_11 (k : Int) (h0 : (k == 5) = false) : (k == 13 : Bool) = (hasT k) := by
  simp_all [hasT]

theorem leaf_sprec_12 (k u k' u' : Int) (nm nm' : ByteArray) (r1 r3 : Bool) (m m' : Nat) (h0 : (k == k') = true) (h1 : (nm.toList == nm'.toList) = true) (h2 : (u == u') = true) (h3 : ((m : Int) == (m' : Int)) = true) (h4 : (k == 5) = true) (h5 : (r1) = true) (h6 : r3 = false) : (false : Bool) = (k == k' && nm.toList == nm'.toList && u == u' && (!(k == 5 || k == 13) || r1) && r3) := by
  first | (simp_all; done) | grind

theorem leaf_sprec_13 (k u k' u' : Int) (nm nm' : ByteArray) (r1 r3 : Bool) (m m' : Nat) (h0 : (k == k') = true) (h1 : (nm.toList == nm'.toList) = true) (h2 : (u == u') = true) (h3 : ((m : Int) == (m' : Int)) = true) (h4 : (k == 5) = true) (h5 : (r1) = true) (h6 : r3 = true) : (true : Bool) = (k == k' && nm.toList == nm'.toList && u == u' && (!(k == 5 || k == 13) || r1) && r3) := by
  first | (simp_all; done) | grind

theorem leaf_sprec_14 (k u k' u' : Int) (nm nm' : ByteArray) (r1 r3 : Bool) (m m' : Nat) (h0 : (k == k') = true) (h1 : (nm.toList == nm'.toList) = true) (h2 : (u == u') = true) (h3 : ((m : Int) == (m' : Int)) = true) (h4 : (k == 5) = true) (h5 : (r1) = false) : (false : Bool) = (k == k' && nm.toList == nm'.toList && u == u' && (!(k == 5 || k == 13) || r1) && r3) := by
  first | (simp_all; done) | grind

theorem leaf_sprec_15 (k u k' u' : Int) (nm nm' : ByteArray) (r1 r3 : Bool) (m m' : Nat) (h0 : (k == k') = true) (h1 : (nm.toList == nm'.toList) = true) (h2 : (u == u') = true) (h3 : ((m : Int) == (m' : Int)) = true) (h4 : (k == 5) = false) (h5 : (k == 13) = true) (h6 : (r1) = true) (h7 : r3 = false) : (false : Bool) = (k == k' && nm.toList == nm'.toList && u == u' && (!(k == 5 || k == 13) || r1) && r3) := by
  first | (simp_all; done) | grind

theorem leaf_sprec_16 (k u k' u' : Int) (nm nm' : ByteArray) (r1 r3 : Bool) (m m' : Nat) (h0 : (k == k') = true) (h1 : (nm.toList == nm'.toList) = true) (h2 : (u == u') = true) (h3 : ((m : Int) == (m' : Int)) = true) (h4 : (k == 5) = false) (h5 : (k == 13) = true) (h6 : (r1) = true) (h7 : r3 = true) : (true : Bool) = (k == k' && nm.toList == nm'.toList && u == u' && (!(k == 5 || k == 13) || r1) && r3) := by
  first | (simp_all; done) | grind

theorem leaf_sprec_17 (k u k' u' : Int) (nm nm' : ByteArray) (r1 r3 : Bool) (m m' : Nat) (h0 : (k == k') = true) (h1 : (nm.toList == nm'.toList) = true) (h2 : (u == u') = true) (h3 : ((m : Int) == (m' : Int)) = true) (h4 : (k == 5) = false) (h5 : (k == 13) = true) (h6 : (r1) = false) : (false : Bool) = (k == k' && nm.toList == nm'.toList && u == u' && (!(k == 5 || k == 13) || r1) && r3) := by
  first | (simp_all; done) | grind

theorem leaf_sprec_18 (k u k' u' : Int) (nm nm' : ByteArray) (r1 r3 : Bool) (m m' : Nat) (h0 : (k == k') = true) (h1 : (nm.toList == nm'.toList) = true) (h2 : (u == u') = true) (h3 : ((m : Int) == (m' : Int)) = true) (h4 : (k == 5) = false) (h5 : (k == 13) = false) (h6 : r3 = false) : (false : Bool) = (k == k' && nm.toList == nm'.toList && u == u' && (!(k == 5 || k == 13) || r1) && r3) := by
  first | (simp_all; done) | grind

theorem leaf_sprec_19 (k u k' u' : Int) (nm nm' : ByteArray) (r1 r3 : Bool) (m m' : Nat) (h0 : (k == k') = true) (h1 : (nm.toList == nm'.toList) = true) (h2 : (u == u') = true) (h3 : ((m : Int) == (m' : Int)) = true) (h4 : (k == 5) = false) (h5 : (k == 13) = false) (h6 : r3 = true) : (true : Bool) = (k == k' && nm.toList == nm'.toList && u == u' && (!(k == 5 || k == 13) || r1) && r3) := by
  first | (simp_all; done) | grind

theorem leaf_sprec_20 (k u k' u' : Int) (nm nm' : ByteArray) (r1 r3 : Bool) (m m' : Nat) (h0 : (k == k') = true) (h1 : (nm.toList == nm'.toList) = true) (h2 : (u == u') = true) (h3 : ((m : Int) == (m' : Int)) = false) (h4 : r3 = false) : (false : Bool) = (k == k' && nm.toList == nm'.toList && u == u' && (!(k == 5 || k == 13) || r1) && r3) := by
  first | (simp_all; done) | grind

theorem leaf_sprec_21 (k u k' u' : Int) (nm nm' : ByteArray) (r1 r3 : Bool) (m m' : Nat) (h0 : (k == k') = true) (h1 : (nm.toList == nm'.toList) = true) (h2 : (u == u') = false) : (false : Bool) = (k == k' && nm.toList == nm'.toList && u == u' && (!(k == 5 || k == 13) || r1) && r3) := by
  first | (simp_all; done) | grind

theorem leaf_sprec_22 (k u k' u' : Int) (nm nm' : ByteArray) (r1 r3 : Bool) (m m' : Nat) (h0 : (k == k') = true) (h1 : (nm.toList == nm'.toList) = false) : (false : Bool) = (k == k' && nm.toList == nm'.toList && u == u' && (!(k == 5 || k == 13) || r1) && r3) := by
  first | (simp_all; done) | grind

theorem leaf_sprec_23 (k u k' u' : Int) (nm nm' : ByteArray) (r1 r3 : Bool) (m m' : Nat) (h0 : (k == k') = false) : (false : Bool) = (k == k' && nm.toList == nm'.toList && u == u' && (!(k == 5 || k == 13) || r1) && r3) := by
  first | (simp_all; done) | grind

theorem leaf_pmainspec_24 (v v' r : Bool) (h0 : (v) = true) (h1 : (v') = true) : (r : Bool) = (v && v' && r) := by
  simp_all

theorem leaf_pmainspec_25 (v v' r : Bool) (h0 : (v) = true) (h1 : (v') = false) : (false : Bool) = (v && v' && r) := by
  simp_all

theorem leaf_pmainspec_26 (v v' r : Bool) (h0 : (v) = false) : (false : Bool) = (v && v' && r) := by
  simp_all

theorem leaf_pmainimpl_27 (v v' r : Bool) (h0 : (v) = true) (h1 : (v') = true) : (r : Bool) = (v && v' && r) := by
  simp_all

theorem leaf_pmainimpl_28 (v v' r : Bool) (h0 : (v) = true) (h1 : (v') = false) : (false : Bool) = (v && v' && r) := by
  simp_all

theorem leaf_pmainimpl_29 (v v' r : Bool) (h0 : (v) = false) : (false : Bool) = (v && v' && r) := by
  simp_all

theorem implHasType (k : Int) (nm : ByteArray) (u tk : Int) (ta : Option Addr) (tn tq : Nat) (fk : Int) (fa : Option Addr) (fn fq : Nat) (l : Int) (c : Option Addr) (m q : Nat) (w : World) : Calls Try.prog 95 #[.agg #[.int .i64 k, .string nm, .int .i64 u, .int .i64 tk, .slice ta tn tq, .int .i64 fk, .slice fa fn fq, .int .i64 l, .slice c m q]] w fun e w' => e = .returned (.bool (hasT k)) ∧ Below w.heap.size w w' := by
  obtain ⟨rr, hrr⟩ : ∃ rr0 : Bool, (hasT k) = rr0 := ⟨_, rfl⟩
  rw [hrr]
  have HT := Lib.hid hrr
  clear hrr
  go_enter Try.func95, Try.ntmps95
  rcases Bool.eq_false_or_eq_true (k == 5) with q1 | q1
  · skip
    have nq1 : (k != 5) = false := by simp only [bne, q1]; rfl
    go_wp2_with fail
    refine bodyPost_ret (v := .bool (true)) (by simp [results, Try.results95, go_sem, bne]) rfl ?_
    exact ⟨ret_bool ((leaf_hasT_10 k q1).trans HT.out), bal1⟩
  · skip
    have nq1 : (k != 5) = true := by simp only [bne, q1]; rfl
    go_wp2_with fail
    refine bodyPost_ret (v := .bool (k == 13)) (by simp [results, Try.results95, go_sem, bne]) rfl ?_
    exact ⟨ret_bool ((leaf_hasT_11 k q1).trans HT.out), bal1⟩
end Go.Proofs.Ytghgjpcibdfbmaa
