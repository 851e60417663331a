/-
  Free names by the program.
  FreeNames of both sides.
  The free names of a term and of a function: plain laws.
-/
import Derived.Test.YtblpdpkjgbbhkaaTmFreeS
import Derived.Test.YtblpdpkjgbbhkaaTmScan
import Derived.Test.YtblpdpkjgbbhkaaShelf
import Derived.Lib.IndexAny
import Derived.Deep.Cut
import Derived.Test.YtblpdpkjgbbhkaaM2
namespace Go.Proofs.Ytblpdpkjgbbhkaa
open Go.RowKit
set_option linter.unusedVariables false
set_option linter.unusedSimpArgs false
set_option maxRecDepth 100000

theorem TmRep.oldFr {F : Nat → Prop} {w : World} {t : Tm} {y : Value} (r : TmRep F w t y) : TmRep (· < w.heap.size) w t y := r.move (.weaken fun _ _ h => h)
theorem containsOne (b : List UInt8) (x : UInt8) (w : World) : Calls Try.prog 136 #[.string (bs b), .string (bs [x])] w fun e w' => e = .returned (.bool (b.contains x)) ∧ w' = w := by
  have h := Try.strings_Contains_one (bs b) x w
  rw [← Lib.contains_iff_indexByte] at h
  exact h
/-- Which names are marked in a set of 26. -/
def SetAt (w : World) (r : Nat) (p : UInt8 → Bool) : Prop := ∀ i, i < 26 → w.cell? ⟨r, i, none⟩ = some (.bool (p (UInt8.ofNat (97 + i)))) ∧ w.frozen? ⟨r, i, none⟩ = false
theorem SetAt.below {w w' : World} {r : Nat} {p : UInt8 → Bool} (h : SetAt w r p) (k : Below w.heap.size w w') : SetAt w' r p := fun i hi =>
  ⟨bcell k (h i hi).1, bfroc k (h i hi).1 (h i hi).2⟩
theorem SetAt.congr {w : World} {r : Nat} {p p' : UInt8 → Bool} (h : SetAt w r p) (e : p = p') : SetAt w r p' := e ▸ h
theorem SetAt.store {w : World} {r i0 : Nat} {p : UInt8 → Bool} (h : SetAt w r p) (hi0 : i0 < 26) : SetAt (w.setCell ⟨r, i0, none⟩ (.bool true)) r (fun c => p c || c == UInt8.ofNat (97 + i0)) := fun i hi => by
  refine ⟨?_, (sc_fro _ _ _ _).trans (h i hi).2⟩
  by_cases e : i = i0
  · subst e
    rw [sc_self (h i hi).1]
    simp
  · have h2 : (UInt8.ofNat (97 + i) == UInt8.ofNat (97 + i0)) = false := by
      rw [beq_eq_false_iff_ne]
      intro h3
      have h4 := congrArg UInt8.toNat h3
      simp at h4
      omega
    rw [sc_far (h i hi).1 (fun e' => e (by cases e'; rfl))]
    show some (Value.bool _) = some (Value.bool (p _ || _ == _))
    rw [h2, Bool.or_false]
def FreeI (r : Nat) (t : Tm) : Prop := ∀ (d : Int) (p : UInt8 → Bool) (b : List UInt8) (y : Value) (w : World), TmRep (· ≠ r) w t y → t.shape 14 d = true → r < w.heap.size → SetAt w r p → (b.length : Int) + d ≤ 40 →
    Calls Try.prog 106 #[y, .string (bs b), .pointer (some ⟨r, 0, none⟩)] w fun e w' => e = .returned (.tuple #[]) ∧ SetAt w' r (fun c => p c || t.fr (fun c => b.contains c) c) ∧ Chg [r] w w'
set_option maxHeartbeats 8000000 in
theorem implFreeStep (r : Nat) (t : Tm) (IH0 : ∀ t' ∈ t.kids, FreeI r t') : FreeI r t := by
  intro d p b0 y w hy hsh hrw hset hbd
  obtain ⟨k, nm, u, tk, ta, tn, tq, fk, fa, fn, fq, l, c, m, q, rfl⟩ := hy.shape
  obtain ⟨r1, r2, r3, r4, r5, r6, r7, r8, r9, rn, rm, rq, hty, hsr, hks⟩ := hy.parts
  cases t with | mk kk nn uu tt ff ll ts =>
  simp only [Tm.kind, Tm.name, Tm.num, Tm.type, Tm.src, Tm.label, Tm.kids] at *
  subst r1 r2 r3 r8
  obtain ⟨hd1, -, htop, -, hsh5⟩ := Tm.shape_parts hsh
  have IH : ∀ t' ∈ ts, ∀ (p : UInt8 → Bool) (b : List UInt8) (y : Value) (W : World), TmRep (· ≠ r) W t' y → r < W.heap.size → SetAt W r p → (b.length : Int) + d ≤ 41 → Calls Try.prog 106 #[y, .string (bs b), .pointer (some ⟨r, 0, none⟩)] W fun e W' => e = .returned (.tuple #[]) ∧ SetAt W' r (fun c => p c || t'.fr (fun c => b.contains c) c) ∧ Chg [r] W W' :=
    fun t' ht p b y W h h2 h3 h4 => IH0 t' ht (d - 1) p b y W h (Tm.shapes_mem hsh5 ht) h2 h3 (by omega)
  clear IH0
  obtain ⟨R, hR⟩ : ∃ R, (fun c => p c || (Tm.mk k nm u tt ff l ts).fr (fun c => b0.contains c) c) = R := ⟨_, rfl⟩
  rw [hR]
  unfold Tm.fr at hR
  have HN := Lib.hid r9
  have IHH := Lib.hid IH
  have HSET := Lib.hid hset
  have HKS := Lib.hid hks
  have HBD := Lib.hid hbd
  unfold maxLen at rq
  clear IH hy r9 r4 r5 r6 r7 rn hty hsr hset hks hbd
  by_cases hk1 : k = 1
  · obtain ⟨x, rfl, hx⟩ := Tm.shape_name hsh (.inl hk1)
    subst hk1
    have hfr : ∀ c, (((1 : Int) == 1 && !(b0.contains c) && (bs [x]).data.toList == [c]) || Tm.frs ts (if (1 : Int) == 5 then fun d => b0.contains d || (bs [x]).data.toList == [d] else fun c => b0.contains c) c) = ((!(b0.contains c) && c == x) || Tm.frs ts (fun c => b0.contains c) c) := fun c => by rw [bs_eq1]; rfl
    have hR2 : (fun c => p c || ((!(b0.contains c) && c == x) || Tm.frs ts (fun c => b0.contains c) c)) = R := by rw [← hR]; funext c; rw [hfr c]
    have hH := fun W => containsOne b0 x W
    clear hR hfr hsh htop hsh5
    rcases Bool.eq_false_or_eq_true (b0.contains x) with hb0 | hb0
    · rw [hb0] at hH
      have hR3 : (fun c => p c || Tm.frs ts (fun c => b0.contains c) c) = R := by
        rw [← hR2]; funext c
        by_cases hc : c = x
        · subst hc; rw [hb0]; simp
        · have : (c == x) = false := by simpa using hc
          rw [this, Bool.and_false, Bool.false_or]
      have HRR := Lib.hid hR3
      have HH := Lib.hid hH
      clear hR2 hR3 hH hb0
      go_enter Try.func106, Try.ntmps106
      go_wp2_with fail
      refine (HH.out _).mono ?_
      rintro e w1 ⟨rfl, rfl⟩
      go_wp2_with fail
      go_loopw [35] (fun i wr => ∃ j : Nat, j ≤ m ∧ i = .int .i64 j ∧ Hid (SetAt wr r (fun c => p c || Tm.frs (ts.take j) (fun c => b0.contains c) c)) ∧ Hid (Chg [r] w wr) ∧ w.heap.size ≤ wr.heap.size) (fun i _ => m - (intOf i).toNat)
      case atStart => exact ⟨0, by omega, rfl, HSET.out.below bal1 |>.congr (by funext c; simp [Tm.frs]), Chg.of_below bal1, by simp⟩
      case round =>
        obtain ⟨j, hj, rfl, hS, hC, hsz⟩ := hrel
        by_cases hlt : j < m
        · have hjt : j < ts.length := by rw [← HN.out]; exact hlt
          obtain ⟨b, off, k0, nm0, u0, tk0, ta0, tn0, tq0, fk0, fa0, fn0, fq0, l0, a0, m0, q0, rfl, lb9, e0, e1, e2, e3, e4, e5, e6, e7, e8, ht⟩ := (HKS.out.chgA hC.out).at (Below.refl _ _) hjt
          have HCA := Lib.hid (fun W (h : Below wr.heap.size wr W) => IHH.out ts[j] (List.getElem_mem hjt) _ b0 _ W (ht.below h) (by have := h.size; omega) (hS.out.below h) (by have := HBD.out; omega))
          have hP2 : (fun c => (p c || Tm.frs (ts.take j) (fun c => b0.contains c) c) || ts[j].fr (fun c => b0.contains c) c) = fun c => p c || Tm.frs (ts.take (j + 1)) (fun c => b0.contains c) c := by funext c; rw [Tm.frs_take_succ ts _ c j hjt, Bool.or_assoc]
          have HP2 := Lib.hid hP2
          clear ht hP2 hS
          go_wp2_with fail
          refine (HCA.out _ bal1).mono ?_
          rintro e w4 ⟨rfl, hS4, hC4⟩
          have HS4 := Lib.hid (hS4.congr HP2.out)
          have HC4 := Lib.hid (hC.out.trans ((Chg.of_below bal1).trans hC4))
          have hsz4 := HC4.out.size
          clear hS4 hC4
          go_wp2_with fail
          go_roundw
          case rel => exact ⟨j + 1, by omega, by go_num, HS4.out, HC4.out, hsz4⟩
          case measure => simp [intOf]; omega
        · have HF := Lib.hid (hS.out.congr (show _ = R by rw [← HRR.out, List.take_of_length_le (by have := HN.out; omega)]))
          clear hS
          go_wp2_with fail
          refine bodyPost_end (v := .tuple #[]) (by simp [results, Try.results106, go_sem]) rfl ?_
          exact ⟨rfl, HF.out, hC.out⟩
    · rw [hb0] at hH
      have hR3 : (fun c => (p c || c == x) || Tm.frs ts (fun c => b0.contains c) c) = R := by
        rw [← hR2]; funext c
        by_cases hc : c = x
        · subst hc; rw [hb0]; simp
        · have : (c == x) = false := by simpa using hc
          rw [this, Bool.and_false, Bool.false_or, Bool.or_false]
      have HRR := Lib.hid hR3
      have HH := Lib.hid hH
      clear hR2 hR3 hH hb0
      obtain ⟨i0, hi0, rfl⟩ := alpha_idx hx
      have hS0 : 0 < (bs [UInt8.ofNat (97 + i0)]).size := by rw [bs_size]; simp
      have hget : (((bs [UInt8.ofNat (97 + i0)])[0]'hS0).toNat : Int) = 97 + (i0 : Int) := by
        show ((UInt8.ofNat (97 + i0)).toNat : Int) = _
        simp
        omega
      generalize bs [UInt8.ofNat (97 + i0)] = S at HH hS0 hget ⊢
      have hw : IntKind.u8.wrap (97 + (i0 : Int) - 97) = (i0 : Int) := by
        rw [show (97 + (i0 : Int) - 97) = i0 by omega]
        unfold IntKind.wrap
        simp [IntKind.bits, IntKind.signed]
        omega
      have hi1 : (i0 : Int) < 26 := by omega
      have hset := (HSET.out i0 hi0).1
      have hfro := (HSET.out i0 hi0).2
      have ha : ∀ o, (w.alloc o).cell? ⟨r, i0, none⟩ = some (.bool (p (UInt8.ofNat (97 + i0)))) := fun o => bcell bal1 hset
      have hb : ∀ o, (w.alloc o).frozen? ⟨r, i0, none⟩ = false := fun o => bfroc bal1 hset hfro
      go_enter Try.func106, Try.ntmps106
      go_wp2_with fail
      refine (HH.out _).mono ?_
      rintro e w1 ⟨rfl, rfl⟩
      go_wp2_with fail
      go_region_law (first | fail)
      go_wp2_with fail
      go_loopw [35] (fun i wr => ∃ j : Nat, j ≤ m ∧ i = .int .i64 j ∧ Hid (SetAt wr r (fun c => (fun c => p c || c == UInt8.ofNat (97 + i0)) c || Tm.frs (ts.take j) (fun c => b0.contains c) c)) ∧ Hid (Chg [r] w wr) ∧ w.heap.size ≤ wr.heap.size) (fun i _ => m - (intOf i).toNat)
      case atStart => exact ⟨0, by omega, rfl, ((HSET.out.store hi0).below bal1.drew).congr (by funext c; simp [Tm.frs]), ((Chg.refl [r] w).setCell (by simp) _).trans (Chg.of_below bal1.drew), by simp [World.setCell]⟩
      case round =>
        obtain ⟨j, hj, rfl, hS, hC, hsz⟩ := hrel
        by_cases hlt : j < m
        · have hjt : j < ts.length := by rw [← HN.out]; exact hlt
          obtain ⟨b, off, k0, nm0, u0, tk0, ta0, tn0, tq0, fk0, fa0, fn0, fq0, l0, a0, m0, q0, rfl, lb9, e0, e1, e2, e3, e4, e5, e6, e7, e8, ht⟩ := (HKS.out.chgA hC.out).at (Below.refl _ _) hjt
          have HCA := Lib.hid (fun W (h : Below wr.heap.size wr W) => IHH.out ts[j] (List.getElem_mem hjt) _ b0 _ W (ht.below h) (by have := h.size; omega) (hS.out.below h) (by have := HBD.out; omega))
          have hP2 : (fun c => ((fun c => p c || c == UInt8.ofNat (97 + i0)) c || Tm.frs (ts.take j) (fun c => b0.contains c) c) || ts[j].fr (fun c => b0.contains c) c) = fun c => (fun c => p c || c == UInt8.ofNat (97 + i0)) c || Tm.frs (ts.take (j + 1)) (fun c => b0.contains c) c := by funext c; rw [Tm.frs_take_succ ts _ c j hjt, Bool.or_assoc]
          have HP2 := Lib.hid hP2
          clear ht hP2 hS
          go_wp2_with fail
          refine (HCA.out _ bal1).mono ?_
          rintro e w4 ⟨rfl, hS4, hC4⟩
          have HS4 := Lib.hid (hS4.congr HP2.out)
          have HC4 := Lib.hid (hC.out.trans ((Chg.of_below bal1).trans hC4))
          have hsz4 := HC4.out.size
          clear hS4 hC4
          go_wp2_with fail
          go_roundw
          case rel => exact ⟨j + 1, by omega, by go_num, HS4.out, HC4.out, hsz4⟩
          case measure => simp [intOf]; omega
        · have HF := Lib.hid (hS.out.congr (show _ = R by rw [← HRR.out, List.take_of_length_le (by have := HN.out; omega)]))
          clear hS
          go_wp2_with fail
          refine bodyPost_end (v := .tuple #[]) (by simp [results, Try.results106, go_sem]) rfl ?_
          exact ⟨rfl, HF.out, hC.out⟩
  · by_cases hk5 : k = 5
    · obtain ⟨x, rfl, hx⟩ := Tm.shape_name hsh (.inr hk5)
      subst hk5
      have hR3 : (fun c => p c || Tm.frs ts (fun c => (b0 ++ [x]).contains c) c) = R := by
        rw [← hR]; funext c
        have he : (if (5 : Int) == 5 then fun d => b0.contains d || (bs [x]).data.toList == [d] else fun c => b0.contains c) = fun c => (b0 ++ [x]).contains c := by
          rw [if_pos (show ((5 : Int) == 5) = true from rfl)]; funext d; rw [bs_eq1]
          rw [Bool.eq_iff_iff]
          simp
        rw [he]; rfl
      have hsz1 : (bs b0).size = b0.length := bs_size _
      have hsz2 : (bs [x]).size = 1 := rfl
      have hst : ¬ (9223372036854775807 < (bs b0).size + (bs [x]).size) := by have := HBD.out; omega
      have hst2 : ¬ (9223372036854775807 < (bs b0).size + 1) := by have := HBD.out; omega
      have hcat := bs_append b0 [x]
      have HCAT := Lib.hid hcat
      have HRR := Lib.hid hR3
      clear hR hR3 hsh htop hsh5 hk1 hcat hsz1 hsz2
      go_enter Try.func106, Try.ntmps106
      go_wp2_with fail
      rw [HCAT.out]
      go_loopw [35] (fun i wr => ∃ j : Nat, j ≤ m ∧ i = .int .i64 j ∧ Hid (SetAt wr r (fun c => p c || Tm.frs (ts.take j) (fun c => (b0 ++ [x]).contains c) c)) ∧ Hid (Chg [r] w wr) ∧ w.heap.size ≤ wr.heap.size) (fun i _ => m - (intOf i).toNat)
      case atStart => exact ⟨0, by omega, rfl, HSET.out.below bal1 |>.congr (by funext c; simp [Tm.frs]), Chg.of_below bal1, by simp⟩
      case round =>
        obtain ⟨j, hj, rfl, hS, hC, hsz⟩ := hrel
        by_cases hlt : j < m
        · have hjt : j < ts.length := by rw [← HN.out]; exact hlt
          obtain ⟨b, off, k0, nm0, u0, tk0, ta0, tn0, tq0, fk0, fa0, fn0, fq0, l0, a0, m0, q0, rfl, lb9, e0, e1, e2, e3, e4, e5, e6, e7, e8, ht⟩ := (HKS.out.chgA hC.out).at (Below.refl _ _) hjt
          have HCA := Lib.hid (fun W (h : Below wr.heap.size wr W) => IHH.out ts[j] (List.getElem_mem hjt) _ (b0 ++ [x]) _ W (ht.below h) (by have := h.size; omega) (hS.out.below h) (by have := HBD.out; rw [List.length_append, List.length_singleton]; omega))
          have hP2 : (fun c => (p c || Tm.frs (ts.take j) (fun c => (b0 ++ [x]).contains c) c) || ts[j].fr (fun c => (b0 ++ [x]).contains c) c) = fun c => p c || Tm.frs (ts.take (j + 1)) (fun c => (b0 ++ [x]).contains c) c := by funext c; rw [Tm.frs_take_succ ts _ c j hjt, Bool.or_assoc]
          have HP2 := Lib.hid hP2
          clear ht hP2 hS
          go_wp2_with fail
          refine (HCA.out _ bal1).mono ?_
          rintro e w4 ⟨rfl, hS4, hC4⟩
          have HS4 := Lib.hid (hS4.congr HP2.out)
          have HC4 := Lib.hid (hC.out.trans ((Chg.of_below bal1).trans hC4))
          have hsz4 := HC4.out.size
          clear hS4 hC4
          go_wp2_with fail
          go_roundw
          case rel => exact ⟨j + 1, by omega, by go_num, HS4.out, HC4.out, hsz4⟩
          case measure => simp [intOf]; omega
        · have HF := Lib.hid (hS.out.congr (show _ = R by rw [← HRR.out, List.take_of_length_le (by have := HN.out; omega)]))
          clear hS
          go_wp2_with fail
          refine bodyPost_end (v := .tuple #[]) (by simp [results, Try.results106, go_sem]) rfl ?_
          exact ⟨rfl, HF.out, hC.out⟩
    · have k1 : (k == 1) = false := by simpa using hk1
      have k5 : (k == 5) = false := by simpa using hk5
      have hR3 : (fun c => p c || Tm.frs ts (fun c => b0.contains c) c) = R := by
        rw [← hR]; funext c
        rw [k1, k5]; rfl
      have HRR := Lib.hid hR3
      clear hR hR3 hsh htop hsh5 hk1 hk5
      go_enter Try.func106, Try.ntmps106
      go_wp2_with fail
      go_loopw [35] (fun i wr => ∃ j : Nat, j ≤ m ∧ i = .int .i64 j ∧ Hid (SetAt wr r (fun c => p c || Tm.frs (ts.take j) (fun c => b0.contains c) c)) ∧ Hid (Chg [r] w wr) ∧ w.heap.size ≤ wr.heap.size) (fun i _ => m - (intOf i).toNat)
      case atStart => exact ⟨0, by omega, rfl, HSET.out.below bal1 |>.congr (by funext c; simp [Tm.frs]), Chg.of_below bal1, by simp⟩
      case round =>
        obtain ⟨j, hj, rfl, hS, hC, hsz⟩ := hrel
        by_cases hlt : j < m
        · have hjt : j < ts.length := by rw [← HN.out]; exact hlt
          obtain ⟨b, off, k0, nm0, u0, tk0, ta0, tn0, tq0, fk0, fa0, fn0, fq0, l0, a0, m0, q0, rfl, lb9, e0, e1, e2, e3, e4, e5, e6, e7, e8, ht⟩ := (HKS.out.chgA hC.out).at (Below.refl _ _) hjt
          have HCA := Lib.hid (fun W (h : Below wr.heap.size wr W) => IHH.out ts[j] (List.getElem_mem hjt) _ b0 _ W (ht.below h) (by have := h.size; omega) (hS.out.below h) (by have := HBD.out; omega))
          have hP2 : (fun c => (p c || Tm.frs (ts.take j) (fun c => b0.contains c) c) || ts[j].fr (fun c => b0.contains c) c) = fun c => p c || Tm.frs (ts.take (j + 1)) (fun c => b0.contains c) c := by funext c; rw [Tm.frs_take_succ ts _ c j hjt, Bool.or_assoc]
          have HP2 := Lib.hid hP2
          clear ht hP2 hS
          go_wp2_with fail
          refine (HCA.out _ bal1).mono ?_
          rintro e w4 ⟨rfl, hS4, hC4⟩
          have HS4 := Lib.hid (hS4.congr HP2.out)
          have HC4 := Lib.hid (hC.out.trans ((Chg.of_below bal1).trans hC4))
          have hsz4 := HC4.out.size
          clear hS4 hC4
          go_wp2_with fail
          go_roundw
          case rel => exact ⟨j + 1, by omega, by go_num, HS4.out, HC4.out, hsz4⟩
          case measure => simp [intOf]; omega
        · have HF := Lib.hid (hS.out.congr (show _ = R by rw [← HRR.out, List.take_of_length_le (by have := HN.out; omega)]))
          clear hS
          go_wp2_with fail
          refine bodyPost_end (v := .tuple #[]) (by simp [results, Try.results106, go_sem]) rfl ?_
          exact ⟨rfl, HF.out, hC.out⟩
theorem implFree (r : Nat) (t : Tm) : FreeI r t :=
  implFreeStep r t (fun t' ht => implFree r t')
termination_by SizeOf.sizeOf t
decreasing_by exact Tm.kid_lt ht
theorem wpList_load_agg {P : Program} (w : World) {ops : Array Oper} {rest : List Oper} {o : Oper} {a : Act} {Q : Exit → Act → World → Prop}
    (hg : o.guard = none) (p : Operand) (t : TypeId) (hop : o.op = Op.load t p) (b : Nat) (hp : a.eval p = .pointer (some ⟨b, 0, none⟩)) (hagg : ∀ W, (isAgg t).run P W = .ok true W) (n : Nat) (hsz : ∀ W, (sizeOf t).run P W = .ok n W)
    (f : Nat → Value) (hc : ∀ j, j < n → w.cell? ⟨b, j, none⟩ = some (f j)) (hK : wpList P ops Q rest (a.put o.dst (.agg ((List.range n).map f).toArray)) w) : wpList P ops Q (o :: rest) a w := by
  refine wpList_plain hg fun K hK' => ?_
  have h1 := run_loadCellsFrom (P := P) w ⟨b, 0, none⟩ f n 0 #[] (fun j hj => by
    rw [Nat.zero_add]
    have e1 : (⟨b, 0, none⟩ : Addr).add j = ⟨b, j, none⟩ := by
      by_cases h : j = 0
      · subst h; rfl
      · simp [Addr.add, h]
    rw [e1]
    exact hc j hj)
  simp only [Nat.zero_add, Array.empty_append] at h1
  unfold Oper.wp
  simp [execOp, hop, hp, Instr.loadAt, Instr.sureAddr, loadVar, loadCells, hagg, hsz, h1, Result.andThen, asAddr]
  exact hK' _ _ hK
theorem run_index26 (arr : Array Value) (j : Nat) (v : Value) (W : World) (hj : j < 26) (hv : arr[j]? = some v) : (Instr.index 105 (.agg arr) (.int .i64 (j : Int))).run Try.prog W = .ok v W := by
  have h1 : (j : Int) < 26 := by omega
  simp [Instr.index, go_sem, Try.underlying105, h1]
  rw [if_pos hj, hv]
  simp [go_sem]
set_option maxHeartbeats 4000000 in
theorem implFreeNames0 (F : Nat → Prop) (t : Tm) (y : Value) (w : World) (hy : TmRep F w t y) (hsh : t.shape 14 12 = true) :
    Calls Try.prog 63 #[y] w fun e w' => e = .returned (.string (bs (encL fun c => t.fr (fun _ => false) c))) ∧ Below w.heap.size w w' := by
  have hF := fun W (h : Below w.heap.size w W) (hr : w.heap.size + 1 < W.heap.size) (hs : SetAt W (w.heap.size + 1) (fun _ => false)) =>
    implFree (w.heap.size + 1) t 12 (fun _ => false) [] y W ((hy.oldFr.below h).move (.weaken fun b hb _ => by show b ≠ w.heap.size + 1; have hb' : b < w.heap.size := hb; omega)) hsh hr hs (by simp)
  have he : (fun c : UInt8 => ([] : List UInt8).contains c) = fun _ => false := by funext c; rfl
  rw [he] at hF
  have he2 : (fun c => (false || t.fr (fun _ => false) c)) = fun c => t.fr (fun _ => false) c := by funext c; rfl
  simp only [he2] at hF
  obtain ⟨k, nm, u, tk, ta, tn, tq, fk, fa, fn, fq, l, c, m, q, rfl⟩ := hy.shape
  generalize (fun c => t.fr (fun _ => false) c) = P at *
  have HF := Lib.hid hF
  clear hF hsh hy he he2
  go_enter Try.func63, Try.ntmps63
  go_wp2_with fail
  refine (HF.out _ bal2 (by simp) (fun i hi => ⟨?_, fro_n1 i⟩)).mono ?_
  · rw [cell_n1]
    have h26 : i = 0 ∨ i = 1 ∨ i = 2 ∨ i = 3 ∨ i = 4 ∨ i = 5 ∨ i = 6 ∨ i = 7 ∨ i = 8 ∨ i = 9 ∨ i = 10 ∨ i = 11 ∨ i = 12 ∨ i = 13 ∨ i = 14 ∨ i = 15 ∨ i = 16 ∨ i = 17 ∨ i = 18 ∨ i = 19 ∨ i = 20 ∨ i = 21 ∨ i = 22 ∨ i = 23 ∨ i = 24 ∨ i = 25 := by omega
    rcases h26 with rfl | rfl | rfl | rfl | rfl | rfl | rfl | rfl | rfl | rfl | rfl | rfl | rfl | rfl | rfl | rfl | rfl | rfl | rfl | rfl | rfl | rfl | rfl | rfl | rfl | rfl <;> rfl
  rintro e w1 ⟨rfl, hS1, hC1⟩
  have HB1 := Lib.hid (bchg bal2 hC1 (by omega) (by simp))
  have HS1 := Lib.hid hS1
  obtain ⟨b, hb⟩ : ∃ b : Nat → Bool, ∀ i, b i = P (UInt8.ofNat (97 + i)) := ⟨fun i => P (UInt8.ofNat (97 + i)), fun _ => rfl⟩
  have HBB := Lib.hid hb
  have lw1 := World.block_lt_of_cell? _ _ (hS1 0 (by omega)).1
  clear hS1 hC1 hb
  go_upto_region 4 with fail
  refine wp_region_lit ?_
  refine wpList_load_agg _ rfl (.tmp 3) _ rfl (w.heap.size + 1) rfl Try.isAgg105 26 Try.sizeOf105 (fun j => .bool (b j)) (fun j hj => by rw [HBB.out]; exact (HS1.out j hj).1) ?_
  have harr : ∀ i, i < 26 → ((List.range 26).map (fun j => Value.bool (b j))).toArray[i]? = some (.bool (b i)) := fun i hi => by simp [hi]
  generalize ((List.range 26).map (fun j => Value.bool (b j))).toArray = arr at harr ⊢
  have HARR := Lib.hid harr
  clear harr
  go_wp2_with fail
  go_loopw [10, 4] (fun i o wr => ∃ j : Nat, j ≤ 26 ∧ i = .int .i64 j ∧ (∃ s : ByteArray, o = .string s ∧ s.size ≤ j ∧ Hid (s = bs ((alpha.take j).filter P))) ∧ Hid (Below w.heap.size w wr)) (fun i _ _ => 26 - (intOf i).toNat)
  case atStart => exact ⟨0, by omega, rfl, ⟨_, rfl, by decide, rfl⟩, HB1.out⟩
  case round =>
    obtain ⟨j, hj, rfl, ⟨s, rfl, hss, hs⟩, hbw⟩ := hrel
    by_cases hlt : j < 26
    · have hlt' : (j : Int) < 26 := by omega
      have hg := fun W => run_index26 arr j _ W hlt (HARR.out j hlt)
      have htk : alpha.take (j + 1) = alpha.take j ++ [UInt8.ofNat (97 + j)] := by
        have h26 : ∀ i, i < 26 → alpha.take (i + 1) = alpha.take i ++ [UInt8.ofNat (97 + i)] := by decide +kernel
        exact h26 j hlt
      have hbj := HBB.out j
      have htn : ((UInt8.ofNat (97 + j)).toNat : Int) = 97 + (j : Int) := by simp; omega
      have hcv : (convert 22 9 (.slice (some ⟨wr.heap.size, 0, none⟩) 1 1)).run Try.prog (wr.alloc (.cells #[.int .u8 (97 + (j : Int))] 5)) = .ok (.string (bs [UInt8.ofNat (97 + j)])) (wr.alloc (.cells #[.int .u8 (97 + (j : Int))] 5)) :=
        run_convert_bytes_back (P := Try.prog) _ _ _ _ ⟨wr.heap.size, 0, none⟩ 1 [UInt8.ofNat (97 + j)] Try.underlying22 Try.underlying5 Try.underlying9 (fun i hi => by
          obtain rfl : i = 0 := by simpa using hi
          show (wr.alloc _).cell? ⟨wr.heap.size, 0, none⟩ = _
          rw [cell_n0]
          show some _ = some (Value.int .u8 ((UInt8.ofNat (97 + j)).toNat : Int))
          rw [htn]; rfl)
      have hs1 : (bs [UInt8.ofNat (97 + j)]).size = 1 := rfl
      have hfil : (alpha.take (j + 1)).filter P = (alpha.take j).filter P ++ if b j = true then [UInt8.ofNat (97 + j)] else [] := by
        rw [htk, List.filter_append, hbj]
        congr 1
        by_cases h : P (UInt8.ofNat (97 + j)) = true
        · rw [List.filter_cons_of_pos h, if_pos h]; rfl
        · rw [List.filter_cons_of_neg h, if_neg h]; rfl
      have HFIL := Lib.hid hfil
      have HAPP := Lib.hid (bs_append ((alpha.take j).filter P) [UInt8.ofNat (97 + j)])
      obtain ⟨X, hX⟩ : ∃ X, bs [UInt8.ofNat (97 + j)] = X := ⟨_, rfl⟩
      rw [hX] at hcv hs1 HAPP
      have i1 := IntWalk.i64_in (97 + (j : Int)) (by omega)
      have i2 := IntWalk.u8_in (97 + (j : Int)) (by omega)
      have i3 := IntWalk.i64_in ((j : Int) + 1) (by omega)
      have hst : ¬ (9223372036854775807 < s.size + X.size) := by omega
      have hst2 : ¬ (9223372036854775807 < s.size + 1) := by omega
      have hsx : (s ++ X).size ≤ j + 1 := by rw [ByteArray.size_append]; omega
      have HSX := Lib.hid hsx
      have HHS := Lib.hid hs.out
      obtain ⟨bj, hbj'⟩ : ∃ x, b j = x := ⟨_, rfl⟩
      rw [hbj'] at hg
      have HBJ := Lib.hid hbj'
      clear htk hbj htn hfil hs hbj' hX hsx
      cases bj
      · go_wp2_with fail
        go_roundw
        case rel => exact ⟨j + 1, by omega, by go_num, ⟨_, rfl, by omega, by unfold Hid; rw [HHS.out, HFIL.out, HBJ.out]; simp⟩, hbw⟩
        case measure => simp [intOf]; omega
      · go_wp2_with fail
        go_roundw
        case rel => exact ⟨j + 1, by omega, by go_num, ⟨_, rfl, HSX.out, by unfold Hid; rw [HHS.out, HFIL.out, HBJ.out]; exact HAPP.out⟩, bstep hbw.out bal1⟩
        case measure => simp [intOf]; omega
    · have hP : s = bs (encL P) := by rw [hs.out, show alpha.take j = alpha from List.take_of_length_le (by show 26 ≤ j; omega)]; rfl
      have HPP := Lib.hid hP
      clear hP hs
      have hlt' : ¬ ((j : Int) < 26) := by omega
      go_wp2_with fail
      go_ret
      exact ⟨ret_str HPP.out, hbw.out⟩
end Go.Proofs.Ytblpdpkjgbbhkaa
namespace Go.Proofs.Ytblpdpkjgbbhkaa
open Go.RowKit
set_option linter.unusedVariables false
set_option linter.unusedSimpArgs false
set_option maxRecDepth 100000

def Tm.freeS (t : Tm) : ByteArray := if t.valid then bs (encL fun c => t.fr (fun _ => false) c) else { data := #[] }
theorem implFreeNames (F : Nat → Prop) (t : Tm) (y : Value) (w : World) (hy : TmRep F w t y) :
    Calls Try.prog 23 #[y] w fun e w' => e = .returned (.string t.freeS) ∧ Below w.heap.size w w' := by
  have hv := fun W (h : Below w.heap.size w W) => implTermValid F t y W (hy.below h)
  have hf := fun (hok : t.valid = true) W (h : Below w.heap.size w W) => implFreeNames0 F t y W (hy.below h) (Tm.valid_shape hok)
  obtain ⟨k, nm, u, tk, ta, tn, tq, fk, fa, fn, fq, l, c, m, q, rfl⟩ := hy.shape
  unfold Tm.freeS
  generalize bs (encL fun c => t.fr (fun _ => false) c) = S at *
  generalize t.valid = va at *
  have HV := Lib.hid hv
  have HF := Lib.hid hf
  clear hv hf hy
  cases va
  · simp only [Bool.false_eq_true, if_false]
    go_enter Try.func23, Try.ntmps23
    go_wp2_with fail
    refine (HV.out _ bal1).mono ?_
    rintro e w1 ⟨rfl, hb1⟩
    go_wp2_with fail
    go_ret
    exact ⟨rfl, bstep bal1 hb1⟩
  · simp only [if_true]
    go_enter Try.func23, Try.ntmps23
    go_wp2_with fail
    refine (HV.out _ bal1).mono ?_
    rintro e w1 ⟨rfl, hb1⟩
    have g0 : w1.cell? ⟨w.heap.size, 0, none⟩ = some (.int .i64 k) := bcell hb1 (cell_n0 0)
    have g1 : w1.cell? ⟨w.heap.size, 1, none⟩ = some (.string nm) := bcell hb1 (cell_n0 1)
    have g2 : w1.cell? ⟨w.heap.size, 2, none⟩ = some (.int .i64 u) := bcell hb1 (cell_n0 2)
    have g3 : w1.cell? ⟨w.heap.size, 3, none⟩ = some (.int .i64 tk) := bcell hb1 (cell_n0 3)
    have g4 : w1.cell? ⟨w.heap.size, 4, none⟩ = some (.slice ta tn tq) := bcell hb1 (cell_n0 4)
    have g5 : w1.cell? ⟨w.heap.size, 5, none⟩ = some (.int .i64 fk) := bcell hb1 (cell_n0 5)
    have g6 : w1.cell? ⟨w.heap.size, 6, none⟩ = some (.slice fa fn fq) := bcell hb1 (cell_n0 6)
    have g7 : w1.cell? ⟨w.heap.size, 7, none⟩ = some (.int .i64 l) := bcell hb1 (cell_n0 7)
    have g8 : w1.cell? ⟨w.heap.size, 8, none⟩ = some (.slice c m q) := bcell hb1 (cell_n0 8)
    have lg := World.block_lt_of_cell? _ _ g0
    go_wp2_with fail
    refine (HF.out (by simp) _ (bstep bal1 hb1)).mono ?_
    rintro e w2 ⟨rfl, hb2⟩
    go_wp2_with fail
    go_ret
    exact ⟨rfl, bstep (bstep bal1 hb1) hb2⟩
theorem specFreeNames (F : Nat → Prop) (t : Tm) (y : Value) (w : World) (hy : TmRep F w t y) :
    Calls Try.prog 24 #[y] w fun e w' => e = .returned (.string t.freeS) ∧ Below w.heap.size w w' := by
  have hv := fun W (h : Below w.heap.size w W) => specTermValid F t y W (hy.below h)
  have hf := fun (hok : t.valid = true) W (h : Below w.heap.size w W) => specL2Free F t 12 (fun _ => false) (fun _ => false) y W (hy.below h) (Tm.valid_shape hok)
  have he : bs (encL fun _ => false) = { data := #[] } := rfl
  have he2 : (fun c => (false || t.fr (fun _ => false) c)) = fun c => t.fr (fun _ => false) c := by funext c; rfl
  rw [he] at hf
  simp only [he2] at hf
  obtain ⟨k, nm, u, tk, ta, tn, tq, fk, fa, fn, fq, l, c, m, q, rfl⟩ := hy.shape
  unfold Tm.freeS
  generalize bs (encL fun c => t.fr (fun _ => false) c) = S at *
  generalize t.valid = va at *
  have HV := Lib.hid hv
  have HF := Lib.hid hf
  clear hv hf hy he he2
  cases va
  · simp only [Bool.false_eq_true, if_false]
    go_enter Try.func24, Try.ntmps24
    go_wp2_with fail
    refine (HV.out _ bal1).mono ?_
    rintro e w1 ⟨rfl, hb1⟩
    go_wp2_with fail
    go_ret
    exact ⟨rfl, bstep bal1 hb1⟩
  · simp only [if_true]
    go_enter Try.func24, Try.ntmps24
    go_wp2_with fail
    refine (HV.out _ bal1).mono ?_
    rintro e w1 ⟨rfl, hb1⟩
    have g0 : w1.cell? ⟨w.heap.size, 0, none⟩ = some (.int .i64 k) := bcell hb1 (cell_n0 0)
    have g1 : w1.cell? ⟨w.heap.size, 1, none⟩ = some (.string nm) := bcell hb1 (cell_n0 1)
    have g2 : w1.cell? ⟨w.heap.size, 2, none⟩ = some (.int .i64 u) := bcell hb1 (cell_n0 2)
    have g3 : w1.cell? ⟨w.heap.size, 3, none⟩ = some (.int .i64 tk) := bcell hb1 (cell_n0 3)
    have g4 : w1.cell? ⟨w.heap.size, 4, none⟩ = some (.slice ta tn tq) := bcell hb1 (cell_n0 4)
    have g5 : w1.cell? ⟨w.heap.size, 5, none⟩ = some (.int .i64 fk) := bcell hb1 (cell_n0 5)
    have g6 : w1.cell? ⟨w.heap.size, 6, none⟩ = some (.slice fa fn fq) := bcell hb1 (cell_n0 6)
    have g7 : w1.cell? ⟨w.heap.size, 7, none⟩ = some (.int .i64 l) := bcell hb1 (cell_n0 7)
    have g8 : w1.cell? ⟨w.heap.size, 8, none⟩ = some (.slice c m q) := bcell hb1 (cell_n0 8)
    have lg := World.block_lt_of_cell? _ _ g0
    go_wp2_with fail
    refine (HF.out (by simp) _ (bstep bal1 hb1)).mono ?_
    rintro e w2 ⟨rfl, hb2⟩
    go_wp2_with fail
    go_ret
    exact ⟨rfl, bstep (bstep bal1 hb1) hb2⟩
end Go.Proofs.Ytblpdpkjgbbhkaa
namespace Go.Proofs.Ytblpdpkjgbbhkaa
open Go.RowKit
set_option linter.unusedVariables false
set_option linter.unusedSimpArgs false
set_option maxRecDepth 100000

mutual
/-- One more name bound. -/
theorem Tm.fr_more : ∀ (t : Tm) (q : UInt8 → Bool) (x c : UInt8), t.fr (fun d => q d || d == x) c = (t.fr q c && !(c == x))
  | .mk k s u ty f l ts, q, x, c => by
    rw [Tm.fr, Tm.fr]
    have h : ∀ q', Tm.frs ts (fun d => q' d || d == x) c = (Tm.frs ts q' c && !(c == x)) := fun q' => Tm.frs_more ts q' x c
    by_cases h5 : k = 5
    · subst h5
      have e : (fun d => (q d || d == x) || s.data.toList == [d]) = (fun d => (q d || s.data.toList == [d]) || d == x) := by
        funext d; cases q d <;> cases (d == x) <;> cases (s.data.toList == [d]) <;> rfl
      simp only [beq_self_eq_true, if_true]
      rw [e, h]
      simp
    · have e5 : (k == 5) = false := by simpa using h5
      simp only [e5, Bool.false_eq_true, if_false]
      rw [h]
      cases (k == 1) <;> cases q c <;> cases (c == x) <;> cases (s.data.toList == [c]) <;> simp
theorem Tm.frs_more : ∀ (ts : List Tm) (q : UInt8 → Bool) (x c : UInt8), Tm.frs ts (fun d => q d || d == x) c = (Tm.frs ts q c && !(c == x))
  | [], q, x, c => by rw [Tm.frs, Tm.frs]; rfl
  | t :: ts, q, x, c => by
    rw [Tm.frs, Tm.frs, Tm.fr_more t q x c, Tm.frs_more ts q x c]
    cases t.fr q c <;> cases Tm.frs ts q c <;> cases (c == x) <;> rfl
end
/-- The names of a list other than one. -/
def without (x : UInt8) (l : List UInt8) : List UInt8 := l.filter (fun c => !(c == x))
def Tm.free (t : Tm) : List UInt8 := encL fun c => t.fr (fun _ => false) c
theorem Tm.freeS_eq {t : Tm} (h : t.valid = true) : t.freeS = bs t.free := by unfold Tm.freeS; rw [if_pos h]; rfl
theorem Tm.freeS_no {t : Tm} (h : t.valid = false) : t.freeS = bs [] := by unfold Tm.freeS; rw [h]; rfl
/-- A function of x: its free names. -/
theorem Tm.free_lam {t : Tm} {u l : Int} {ty f : Ty} {x : UInt8} : (Tm.mk 5 (bs [x]) u ty f l [t]).free = without x t.free := by
  unfold Tm.free without encL
  rw [List.filter_filter]
  congr 1
  funext c
  rw [Tm.fr, Tm.frs, Tm.frs]
  have e : (fun d => (fun _ : UInt8 => false) d || (bs [x]).data.toList == [d]) = (fun d : UInt8 => (fun _ : UInt8 => false) d || d == x) := by
    funext d
    show (false || [x] == [d]) = (false || d == x)
    by_cases h : d = x
    · subst h; simp
    · have h' : ¬ x = d := fun e => h e.symm
      have e1 : (x == d) = false := by simpa using h'
      have e2 : (d == x) = false := by simpa using h
      rw [e2]
      simp [e1]
  simp only [beq_self_eq_true, if_true]
  rw [e, Tm.fr_more]
  simp [Bool.and_comm]
end Go.Proofs.Ytblpdpkjgbbhkaa
