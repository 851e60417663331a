/-
  How many unknown parts a type has, and how deep it is.
-/
import Derived.Test.YtghgjpcibdfbmaaTyValid
namespace Go.Proofs.Ytghgjpcibdfbmaa
open Go.RowKit
set_option linter.unusedVariables false
set_option linter.unusedSimpArgs false
set_option maxRecDepth 100000

mutual
def Ty.any : Ty → Nat
  | .mk k ts => if k = 1 then 1 else Ty.anys ts
def Ty.anys : List Ty → Nat
  | [] => 0
  | t :: ts => t.any + Ty.anys ts
end
mutual
def Ty.depth : Ty → Nat
  | .mk _ ts => Ty.depths ts + 1
def Ty.depths : List Ty → Nat
  | [] => 0
  | t :: ts => max t.depth (Ty.depths ts)
end
mutual
theorem Ty.any_le : ∀ t : Ty, t.any ≤ t.cnt + 1
  | .mk k ts => by
    have := Ty.anys_le ts
    unfold Ty.any Ty.cnt
    split <;> omega
theorem Ty.anys_le : ∀ ts : List Ty, Ty.anys ts ≤ ts.length + Ty.cnts ts
  | [] => by simp [Ty.anys]
  | t :: ts => by
    have h1 := Ty.any_le t
    have h2 := Ty.anys_le ts
    simp only [Ty.anys, Ty.cnts, List.length_cons]
    omega
end
mutual
theorem Ty.depth_le : ∀ t : Ty, t.depth ≤ t.cnt + 1
  | .mk k ts => by
    have := Ty.depths_le ts
    unfold Ty.depth Ty.cnt
    omega
theorem Ty.depths_le : ∀ ts : List Ty, Ty.depths ts ≤ ts.length + Ty.cnts ts
  | [] => by simp [Ty.depths]
  | t :: ts => by
    have h1 := Ty.depth_le t
    have h2 := Ty.depths_le ts
    simp only [Ty.depths, Ty.cnts, List.length_cons]
    omega
end
theorem Ty.anys_take : ∀ (ts : List Ty) (j : Nat) (h : j < ts.length), Ty.anys (ts.take (j + 1)) = Ty.anys (ts.take j) + ts[j].any
  | [], _, h => absurd h (Nat.not_lt_zero _)
  | t :: ts, 0, _ => by simp [Ty.anys]
  | t :: ts, j + 1, h => by
    have := Ty.anys_take ts j (by simpa using h)
    simp only [List.take_succ_cons, Ty.anys, List.getElem_cons_succ]
    omega
theorem Ty.anys_take_le : ∀ (ts : List Ty) (j : Nat), Ty.anys (ts.take j) ≤ Ty.anys ts
  | [], _ => by simp
  | t :: ts, 0 => by simp [Ty.anys]
  | t :: ts, j + 1 => by
    have := Ty.anys_take_le ts j
    simp only [List.take_succ_cons, Ty.anys]
    omega
theorem Ty.depths_take : ∀ (ts : List Ty) (j : Nat) (h : j < ts.length), Ty.depths (ts.take (j + 1)) = max (Ty.depths (ts.take j)) ts[j].depth
  | [], _, h => absurd h (Nat.not_lt_zero _)
  | t :: ts, 0, _ => by simp [Ty.depths]
  | t :: ts, j + 1, h => by
    have := Ty.depths_take ts j (by simpa using h)
    simp only [List.take_succ_cons, Ty.depths, List.getElem_cons_succ]
    omega
theorem Ty.depths_take_le : ∀ (ts : List Ty) (j : Nat), Ty.depths (ts.take j) ≤ Ty.depths ts
  | [], _ => by simp
  | t :: ts, 0 => by simp [Ty.depths]
  | t :: ts, j + 1 => by
    have := Ty.depths_take_le ts j
    simp only [List.take_succ_cons, Ty.depths]
    omega

set_option maxHeartbeats 1000000 in
theorem implCountAny0 (F : Nat → Prop) (t : Ty) : ∀ (y : Value) (w : World), TyRep F w t y → t.cnt ≤ 1048576 →
    Calls Try.prog 86 #[y] w fun e w' => e = .returned (.int .i64 t.any) ∧ Below w.heap.size w w' := by
  intro y w hy hc
  have IH : ∀ t' ∈ t.kids, ∀ (y : Value) (W : World), TyRep F W t' y → Calls Try.prog 86 #[y] W fun e W' => e = .returned (.int .i64 t'.any) ∧ Below W.heap.size W W' :=
    fun t' ht y W h => implCountAny0 F t' y W h (by have := Ty.cnt_kid ht; omega)
  have hbd := Ty.any_le t
  obtain ⟨a, cap, rfl, h2, h3, hr⟩ := hy.open
  cases t with | mk k ts =>
  simp only [Ty.kind, Ty.kids] at *
  unfold maxLen at h3
  have IHH := Lib.hid IH
  clear IH hy
  obtain ⟨n, hn⟩ : ∃ n, ts.length = n := ⟨_, rfl⟩
  rw [hn] at h2 hr ⊢
  have HN := Lib.hid hn
  clear hn
  unfold Ty.any at hbd ⊢
  by_cases hk : k = 1
  · subst hk
    rw [if_pos rfl]
    go_enter Try.func86, Try.ntmps86
    go_wp2_with fail
    go_ret
    exact ⟨rfl, bal1⟩
  · rw [if_neg hk] at hbd ⊢
    have hkk : (k == 1) = false := by simpa using hk
    have HBD := Lib.hid hbd
    have HCN := Lib.hid hc
    clear hk hbd hc
    go_enter Try.func86, Try.ntmps86
    go_wp2_with fail
    go_loopw [12, 3] (fun i p wr => ∃ j : Nat, j ≤ n ∧ i = .int .i64 j ∧ (∃ m : Nat, p = .int .i64 m ∧ m ≤ 1048577 ∧ Hid (m = Ty.anys (ts.take j))) ∧ Below w.heap.size w wr) (fun i _ _ => n - (intOf i).toNat)
    case atStart => exact ⟨0, by omega, rfl, ⟨0, rfl, by omega, by simp [Hid, Ty.anys]⟩, bal1⟩
    case round =>
      obtain ⟨j, hj, rfl, ⟨m, rfl, hm1, hm⟩, hbw⟩ := hrel
      by_cases hlt : j < n
      · have hjt : j < ts.length := by rw [HN.out]; exact hlt
        obtain ⟨b, off, k0, a0, m0, q0, rfl, l0, e0, e1, ht⟩ := hr.at hbw hjt
        have HC := Lib.hid (fun W (h : Below wr.heap.size wr W) => IHH.out ts[j] (List.getElem_mem hjt) _ W (ht.below h))
        have hts := Ty.anys_take ts j hjt
        have htl := Ty.anys_take_le ts (j + 1)
        have hm2 : m + ts[j].any ≤ 1048577 := by have := hm.out; have := HBD.out; have := HCN.out; omega
        generalize ts[j].any = c at hts HC hm2
        have HT := Lib.hid hts
        clear hts htl
        go_wp2_with fail
        refine (HC.out _ bal1).mono ?_
        rintro e w1 ⟨rfl, hb1⟩
        go_wp2_with fail
        go_roundw
        case rel => exact ⟨j + 1, by omega, by go_num, ⟨m + c, by go_num, hm2, by have := hm.out; have := HT.out; unfold Hid; omega⟩, bstep (bstep hbw bal1) hb1⟩
        case measure => simp [intOf]; omega
      · go_wp2_with fail
        go_ret
        exact ⟨ret_int (by have := hm.out; rw [List.take_of_length_le (by rw [HN.out]; omega)] at this; rw [this]), hbw⟩
termination_by SizeOf.sizeOf t
decreasing_by exact Ty.kid_lt ht

set_option maxHeartbeats 1000000 in
theorem specL1Count (F : Nat → Prop) (t : Ty) : ∀ (y : Value) (w : World), TyRep F w t y → t.cnt ≤ 1048576 →
    Calls Try.prog 82 #[y] w fun e w' => e = .returned (.int .i64 t.any) ∧ Below w.heap.size w w' := by
  intro y w hy hc
  have IH : ∀ t' ∈ t.kids, ∀ (y : Value) (W : World), TyRep F W t' y → Calls Try.prog 82 #[y] W fun e W' => e = .returned (.int .i64 t'.any) ∧ Below W.heap.size W W' :=
    fun t' ht y W h => specL1Count F t' y W h (by have := Ty.cnt_kid ht; omega)
  have hbd := Ty.any_le t
  obtain ⟨a, cap, rfl, h2, h3, hr⟩ := hy.open
  cases t with | mk k ts =>
  simp only [Ty.kind, Ty.kids] at *
  unfold maxLen at h3
  have IHH := Lib.hid IH
  clear IH hy
  obtain ⟨n, hn⟩ : ∃ n, ts.length = n := ⟨_, rfl⟩
  rw [hn] at h2 hr ⊢
  have HN := Lib.hid hn
  clear hn
  unfold Ty.any at hbd ⊢
  by_cases hk : k = 1
  · subst hk
    rw [if_pos rfl]
    go_enter Try.func82, Try.ntmps82
    go_wp2_with fail
    go_ret
    exact ⟨rfl, bal1⟩
  · rw [if_neg hk] at hbd ⊢
    have hkk : (k == 1) = false := by simpa using hk
    have HBD := Lib.hid hbd
    have HCN := Lib.hid hc
    clear hk hbd hc
    go_enter Try.func82, Try.ntmps82
    go_wp2_with fail
    go_loopw [4, 3] (fun i p wr => ∃ j : Nat, j ≤ n ∧ i = .int .i64 j ∧ (∃ m : Nat, p = .int .i64 m ∧ m ≤ 1048577 ∧ Hid (m = Ty.anys (ts.take j))) ∧ Below w.heap.size w wr ∧ wr.cell? ⟨w.heap.size, 1, none⟩ = some (.slice a n cap)) (fun i _ _ => n - (intOf i).toNat)
    case atStart => exact ⟨0, by omega, rfl, ⟨0, rfl, by omega, by simp [Hid, Ty.anys]⟩, bal1, by simp⟩
    case round =>
      obtain ⟨j, hj, rfl, ⟨m, rfl, hm1, hm⟩, hbw, hc1⟩ := hrel
      by_cases hlt : j < n
      · have hjt : j < ts.length := by rw [HN.out]; exact hlt
        obtain ⟨b, off, k0, a0, m0, q0, rfl, l0, e0, e1, ht⟩ := hr.at hbw hjt
        have HC := Lib.hid (IHH.out ts[j] (List.getElem_mem hjt) _ wr ht)
        have hts := Ty.anys_take ts j hjt
        have htl := Ty.anys_take_le ts (j + 1)
        have hm2 : m + ts[j].any ≤ 1048577 := by have := hm.out; have := HBD.out; have := HCN.out; omega
        generalize ts[j].any = c at hts HC hm2
        have HT := Lib.hid hts
        clear hts htl
        go_wp2_with fail
        refine HC.out.mono ?_
        rintro e w1 ⟨rfl, hb1⟩
        go_wp2_with fail
        go_roundw
        case rel => exact ⟨j + 1, by omega, by go_num, ⟨m + c, by go_num, hm2, by have := hm.out; have := HT.out; unfold Hid; omega⟩, bstep hbw hb1, bcell hb1 hc1⟩
        case measure => simp [intOf]; omega
      · go_wp2_with fail
        go_ret
        exact ⟨ret_int (by have := hm.out; rw [List.take_of_length_le (by rw [HN.out]; omega)] at this; rw [this]), hbw⟩
termination_by SizeOf.sizeOf t
decreasing_by exact Ty.kid_lt ht
end Go.Proofs.Ytghgjpcibdfbmaa
