/-
  The laws' helpers that look whether a type is as written.
-/
import Derived.Test.YtikkneahhgmdjaaMarkM
namespace Go.Proofs.Ytikkneahhgmdjaa
open Go.RowKit
set_option linter.unusedVariables false
set_option linter.unusedSimpArgs false
set_option maxRecDepth 100000

theorem Ty.marks_cons (t : Ty) (ts : List Ty) (m : Int) : Ty.marks (t :: ts) m = t.marked m :: Ty.marks ts (m + 1 + t.cnt) := by conv => lhs; unfold Ty.marks

set_option maxHeartbeats 1000000 in
theorem heldTypeS_any (F : Nat → Prop) (ts : List Ty) : ∀ (m : Int) (s : Value) (w : World), TysRep F w (Ty.marks ts m) s → 0 ≤ m → m + Ty.scnt ts ≤ 1099511627776 →
    Calls Try.prog 22 #[s, .int .i64 m] w fun e w' => e = .returned (.int .i64 (m + Ty.scnt ts)) ∧ Below w.heap.size w w' := by
  intro m s w hy hm0 hmb
  have IH : ∀ t ∈ ts, ∀ (m : Int) (s : Value) (w : World), TysRep F w (Ty.marks t.kids m) s → 0 ≤ m → m + Ty.scnt t.kids ≤ 1099511627776 →
    Calls Try.prog 22 #[s, .int .i64 m] w fun e w' => e = .returned (.int .i64 (m + Ty.scnt t.kids)) ∧ Below w.heap.size w w' := fun t ht m s w a b c => heldTypeS_any F t.kids m s w a b c
  have IHH := Lib.hid IH
  clear IH
  obtain ⟨a, cap, rfl, h2, h3, -⟩ := hy.open
  rw [Ty.marks_length] at h2 hy ⊢
  unfold maxLen at h3
  obtain ⟨n, hn⟩ : ∃ n, ts.length = n := ⟨_, rfl⟩
  rw [hn] at h2 hy ⊢
  have HN := Lib.hid hn
  have HMB := Lib.hid hmb
  clear hn hmb
  go_enter Try.func22, Try.ntmps22
  go_wp2_with fail
  go_loopw [5, 1] (fun i p wr => ∃ j : Nat, j ≤ n ∧ i = .int .i64 j ∧ (∃ q : Int, p = .int .i64 q ∧ 0 ≤ q ∧ q ≤ 1099511627776 ∧ Hid (q = m + j + Ty.cnts (ts.take j))) ∧ Below w.heap.size w wr) (fun i _ _ => n - (intOf i).toNat)
  case atStart => exact ⟨0, by omega, rfl, ⟨m, rfl, hm0, by have := HMB.out; omega, by simp [Hid, Ty.cnts]⟩, Below.refl _ _⟩
  case round =>
    obtain ⟨j, hj, rfl, ⟨q, rfl, hq0, hq1, hq⟩, hbw⟩ := hrel
    by_cases hlt : j < n
    · have hjt : j < ts.length := by rw [HN.out]; exact hlt
      obtain ⟨b, off, k0, a0, m0, q0, rfl, l0, e0, e1, ht⟩ := hy.at hbw (i := j) (by rw [Ty.marks_length]; exact hjt)
      rw [Ty.marks_get ts m j hjt, ← hq.out, Ty.marked_eq] at ht
      obtain ⟨s', he, hs'⟩ := ht
      simp only [Ty.kind, Ty.kids, Value.agg.injEq, Array.mk.injEq, List.cons.injEq, Value.int.injEq, true_and, and_true] at he hs'
      obtain ⟨rfl, rfl⟩ := he
      have hcs := Ty.cnts_take_succ ts j hjt
      have hcl := Ty.cnts_take_le ts (j + 1)
      rw [Ty.cnt_eq] at hcs
      have hbd : k0 + 1 + (Ty.scnt ts[j].kids : Nat) ≤ 1099511627776 := by
        have h1 := hq.out; have h2 := HMB.out; have h3 := HN.out
        unfold Ty.scnt at h2
        omega
      have HC := Lib.hid (IHH.out ts[j] (List.getElem_mem hjt) (k0 + 1) _ wr hs' (by omega) hbd)
      have HS := Lib.hid hcs
      clear hcs hcl hs'
      generalize Ty.scnt ts[j].kids = c at *
      have hlo : 0 ≤ k0 + 1 + (c : Int) := by omega
      go_wp2_with fail
      refine HC.out.mono ?_
      rintro e w1 ⟨rfl, hb1⟩
      go_wp2_with fail
      go_roundw
      case rel => exact ⟨j + 1, by omega, by go_num, ⟨_, rfl, hlo, hbd, by have h1 := hq.out; have h2 := HS.out; unfold Hid; omega⟩, bstep hbw hb1⟩
      case measure => simp [intOf]; omega
    · go_wp2_with fail
      go_ret
      exact ⟨ret_int (by have h1 := hq.out; have h2 := HN.out; rw [List.take_of_length_le (by rw [HN.out]; omega)] at h1; unfold Ty.scnt; omega), hbw⟩
termination_by SizeOf.sizeOf ts
decreasing_by exact Ty.kids_lt_list ht

set_option maxHeartbeats 400000 in
theorem heldType_any (F : Nat → Prop) (t : Ty) (m : Int) (y : Value) (w : World) (hy : TyRep F w (.mk t.kind (Ty.marks t.kids m)) y) (hm0 : 0 ≤ m) (hmb : m + t.cnt ≤ 1099511627776) :
    Calls Try.prog 9 #[y, .int .i64 m] w fun e w' => e = .returned (.int .i64 (m + t.cnt)) ∧ Below w.heap.size w w' := by
  rw [Ty.cnt_eq] at hmb ⊢
  obtain ⟨s, rfl, hs⟩ := hy
  cases t with | mk kk us =>
  simp only [Ty.kind, Ty.kids] at *
  have HC := Lib.hid (fun W (h : Below w.heap.size w W) => heldTypeS_any F us m s W (hs.below h) hm0 hmb)
  obtain ⟨a, q, rfl, -⟩ := hs.open
  clear hs
  generalize (Ty.marks us m).length = n at *
  generalize Ty.scnt us = c at *
  have hlo : 0 ≤ m + (c : Int) := by omega
  go_enter Try.func9, Try.ntmps9
  go_wp2_with fail
  refine (HC.out _ bal1).mono ?_
  rintro e w1 ⟨rfl, hb1⟩
  go_wp2_with fail
  go_ret
  exact ⟨rfl, bstep bal1 hb1⟩
end Go.Proofs.Ytikkneahhgmdjaa
