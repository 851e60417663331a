/-
  The depth of a type; the listed functions on counts and depths.
-/
import Derived.Test.YtjkkahlcbhcifaaTyCount
namespace Go.Proofs.Ytjkkahlcbhcifaa
open Go.RowKit
set_option maxRecDepth 100000
set_option linter.unusedVariables false
set_option linter.unusedSimpArgs false

set_option maxHeartbeats 1000000 in
theorem implTypeDepth0 (F : Nat → Prop) (t : Ty) : ∀ (y : Value) (w : World), TyRep F w t y → t.cnt ≤ 1048576 →
    Calls Try.prog 93 #[y] w fun e w' => e = .returned (.int .i64 t.depth) ∧ Below w.heap.size w w' := by
  intro y w hy hc
  have IH : ∀ t' ∈ t.kids, ∀ (y : Value) (W : World), TyRep F W t' y → Calls Try.prog 93 #[y] W fun e W' => e = .returned (.int .i64 t'.depth) ∧ Below W.heap.size W W' :=
    fun t' ht y W h => implTypeDepth0 F t' y W h (by have := Ty.cnt_kid ht; omega)
  have hbd := Ty.depth_le t
  obtain ⟨a, cap, rfl, h2, h3, hr⟩ := hy.open
  cases t with | mk k ts =>
  simp only [Ty.kind, Ty.kids] at *
  unfold maxLen at h3
  have IHH := Lib.hid IH
  clear IH hy
  obtain ⟨n, hn⟩ : ∃ n, ts.length = n := ⟨_, rfl⟩
  rw [hn] at h2 hr ⊢
  have HN := Lib.hid hn
  clear hn
  unfold Ty.depth at hbd ⊢
  have HBD := Lib.hid hbd
  have HCN := Lib.hid hc
  clear hbd hc
  go_enter Try.func93, Try.ntmps93
  go_wp2_with fail
  go_loopw [9, 3] (fun i p wr => ∃ j : Nat, j ≤ n ∧ i = .int .i64 j ∧ (∃ m : Nat, p = .int .i64 m ∧ m ≤ 1048577 ∧ Hid (m = Ty.depths (ts.take j))) ∧ Below w.heap.size w wr) (fun i _ _ => n - (intOf i).toNat)
  case atStart => exact ⟨0, by omega, rfl, ⟨0, rfl, by omega, by simp [Hid, Ty.depths]⟩, bal1⟩
  case round =>
      obtain ⟨j, hj, rfl, ⟨m, rfl, hm1, hm⟩, hbw⟩ := hrel
      by_cases hlt : j < n
      · have hjt : j < ts.length := by rw [HN.out]; exact hlt
        obtain ⟨b, off, k0, a0, m0, q0, rfl, l0, e0, e1, ht⟩ := hr.at hbw hjt
        have HC := Lib.hid (fun W (h : Below wr.heap.size wr W) => IHH.out ts[j] (List.getElem_mem hjt) _ W (ht.below h))
        have hts := Ty.depths_take ts j hjt
        have htl := Ty.depths_take_le ts (j + 1)
        have hm2 : ts[j].depth ≤ 1048577 := by have := hm.out; have := HBD.out; have := HCN.out; omega
        rw [← hm.out] at hts
        generalize ts[j].depth = c at hts HC hm2
        have HT := Lib.hid hts
        clear hts htl
        by_cases hmc : c ≤ m
        · have hmax : max m c = m := by omega
          rw [hmax] at HT
          have hle : ¬ ((m : Int) < c) := by omega
          have hMX : (max (m : Int) (c : Int)) = m := by omega
          have HMX := Lib.hid hMX
          clear hmax hMX hmc
          go_wp2_with fail
          refine (HC.out _ bal1).mono ?_
          rintro e w1 ⟨rfl, hb1⟩
          go_wp2_with fail
          go_roundw
          case rel => exact ⟨j + 1, by omega, by go_num, ⟨m, by first | rfl | (rw [HMX.out]) | (simp [HMX.out]), by omega, by have := HT.out; unfold Hid; omega⟩, bstep (bstep hbw bal1) hb1⟩
          case measure => simp [intOf]; omega
        · have hmax : max m c = c := by omega
          rw [hmax] at HT
          have hle : ((m : Int) < c) := by omega
          have hMX : (max (m : Int) (c : Int)) = c := by omega
          have HMX := Lib.hid hMX
          clear hmax hMX hmc
          go_wp2_with fail
          refine (HC.out _ bal1).mono ?_
          rintro e w1 ⟨rfl, hb1⟩
          go_wp2_with fail
          go_roundw
          case rel => exact ⟨j + 1, by omega, by go_num, ⟨c, by first | rfl | (rw [HMX.out]) | (simp [HMX.out]), by omega, by have := HT.out; unfold Hid; omega⟩, bstep (bstep hbw bal1) hb1⟩
          case measure => simp [intOf]; omega
      · go_wp2_with fail
        go_ret
        exact ⟨ret_int (by have := hm.out; rw [List.take_of_length_le (by rw [HN.out]; omega)] at this; rw [this]; go_num), hbw⟩
termination_by SizeOf.sizeOf t
decreasing_by exact Ty.kid_lt ht

set_option maxHeartbeats 1000000 in
theorem specL1Depth (F : Nat → Prop) (t : Ty) : ∀ (y : Value) (w : World), TyRep F w t y → t.cnt ≤ 1048576 →
    Calls Try.prog 92 #[y] w fun e w' => e = .returned (.int .i64 t.depth) ∧ Below w.heap.size w w' := by
  intro y w hy hc
  have IH : ∀ t' ∈ t.kids, ∀ (y : Value) (W : World), TyRep F W t' y → Calls Try.prog 92 #[y] W fun e W' => e = .returned (.int .i64 t'.depth) ∧ Below W.heap.size W W' :=
    fun t' ht y W h => specL1Depth F t' y W h (by have := Ty.cnt_kid ht; omega)
  have hbd := Ty.depth_le t
  obtain ⟨a, cap, rfl, h2, h3, hr⟩ := hy.open
  cases t with | mk k ts =>
  simp only [Ty.kind, Ty.kids] at *
  unfold maxLen at h3
  have IHH := Lib.hid IH
  clear IH hy
  obtain ⟨n, hn⟩ : ∃ n, ts.length = n := ⟨_, rfl⟩
  rw [hn] at h2 hr ⊢
  have HN := Lib.hid hn
  clear hn
  unfold Ty.depth at hbd ⊢
  have HBD := Lib.hid hbd
  have HCN := Lib.hid hc
  clear hbd hc
  go_enter Try.func92, Try.ntmps92
  go_wp2_with fail
  go_loopw [4, 3] (fun i p wr => ∃ j : Nat, j ≤ n ∧ i = .int .i64 j ∧ (∃ m : Nat, p = .int .i64 m ∧ m ≤ 1048577 ∧ Hid (m = Ty.depths (ts.take j))) ∧ Below w.heap.size w wr ∧ wr.cell? ⟨w.heap.size, 1, none⟩ = some (.slice a n cap)) (fun i _ _ => n - (intOf i).toNat)
  case atStart => exact ⟨0, by omega, rfl, ⟨0, rfl, by omega, by simp [Hid, Ty.depths]⟩, bal1, by simp⟩
  case round =>
      obtain ⟨j, hj, rfl, ⟨m, rfl, hm1, hm⟩, hbw, hc1⟩ := hrel
      by_cases hlt : j < n
      · have hjt : j < ts.length := by rw [HN.out]; exact hlt
        obtain ⟨b, off, k0, a0, m0, q0, rfl, l0, e0, e1, ht⟩ := hr.at hbw hjt
        have HC := Lib.hid (IHH.out ts[j] (List.getElem_mem hjt) _ wr ht)
        have hts := Ty.depths_take ts j hjt
        have htl := Ty.depths_take_le ts (j + 1)
        have hm2 : ts[j].depth ≤ 1048577 := by have := hm.out; have := HBD.out; have := HCN.out; omega
        rw [← hm.out] at hts
        generalize ts[j].depth = c at hts HC hm2
        have HT := Lib.hid hts
        clear hts htl
        by_cases hmc : m < c
        · have hmax : max m c = c := by omega
          rw [hmax] at HT
          have hle : ((m : Int) < c) := by omega
          clear hmax hmc
          go_wp2_with fail
          refine HC.out.mono ?_
          rintro e w1 ⟨rfl, hb1⟩
          go_wp2_with fail
          go_roundw
          case rel => exact ⟨j + 1, by omega, by go_num, ⟨c, rfl, by omega, by have := HT.out; unfold Hid; omega⟩, bstep hbw hb1, bcell hb1 hc1⟩
          case measure => simp [intOf]; omega
        · have hmax : max m c = m := by omega
          rw [hmax] at HT
          have hle : ¬ ((m : Int) < c) := by omega
          clear hmax hmc
          go_wp2_with fail
          refine HC.out.mono ?_
          rintro e w1 ⟨rfl, hb1⟩
          go_wp2_with fail
          go_roundw
          case rel => exact ⟨j + 1, by omega, by go_num, ⟨m, rfl, by omega, by have := HT.out; unfold Hid; omega⟩, bstep hbw hb1, bcell hb1 hc1⟩
          case measure => simp [intOf]; omega
      · go_wp2_with fail
        go_ret
        exact ⟨ret_int (by have := hm.out; rw [List.take_of_length_le (by rw [HN.out]; omega)] at this; rw [this]; go_num), hbw⟩
termination_by SizeOf.sizeOf t
decreasing_by exact Ty.kid_lt ht


theorem Ty.shape_mk {k : Int} {ts : List Ty} {d : Int} (h : (Ty.mk k ts).shape d = true) : 1 ≤ d ∧ tkids k = ts.length ∧ Ty.shapes ts (d - 1) = true := by
  unfold Ty.shape at h
  simpa using h
theorem Ty.shapes_mem : ∀ {ts : List Ty} {d : Int} {t : Ty}, Ty.shapes ts d = true → t ∈ ts → t.shape d = true
  | u :: ts, d, t, h, ht => by
    unfold Ty.shapes at h
    simp only [Bool.and_eq_true] at h
    rcases List.mem_cons.1 ht with rfl | ht
    · exact h.1
    · exact Ty.shapes_mem h.2 ht
theorem tkids_le (k : Int) : tkids k ≤ 2 := by unfold tkids; split; omega; split <;> omega
mutual
theorem Ty.cnt_shape : ∀ (t : Ty) (n : Nat), t.shape n = true → t.cnt + 2 ≤ 2 ^ n
  | .mk k ts, n, h => by
    obtain ⟨h1, h2, h3⟩ := Ty.shape_mk h
    obtain ⟨m, rfl⟩ : ∃ m, n = m + 1 := ⟨n - 1, by omega⟩
    rw [show ((m + 1 : Nat) : Int) - 1 = (m : Int) from by omega] at h3
    have h4 := Ty.cnts_shape ts m h3
    have h5 := tkids_le k
    unfold Ty.cnt
    have : 2 ^ (m + 1) = 2 * 2 ^ m := by rw [Nat.pow_succ]; omega
    have h6 : ts.length = 0 ∨ ts.length = 1 ∨ ts.length = 2 := by omega
    have h7 : 1 ≤ 2 ^ m := Nat.one_le_two_pow
    rcases h6 with h6 | h6 | h6 <;> rw [h6] at h4 ⊢ <;> omega
theorem Ty.cnts_shape : ∀ (ts : List Ty) (n : Nat), Ty.shapes ts n = true → Ty.cnts ts + 2 * ts.length ≤ ts.length * 2 ^ n
  | [], _, _ => by simp [Ty.cnts]
  | t :: ts, n, h => by
    unfold Ty.shapes at h
    simp only [Bool.and_eq_true] at h
    have h1 := Ty.cnt_shape t n h.1
    have h2 := Ty.cnts_shape ts n h.2
    simp only [Ty.cnts, List.length_cons, Nat.add_mul]
    omega
end
def Ty.depthV (t : Ty) : Int := if t.valid = true then (t.depth : Int) else 0
def Ty.anyV (t : Ty) : Int := if t.valid = true then (t.any : Int) else 0
theorem Ty.cnt_valid {t : Ty} (h : t.valid = true) : t.cnt ≤ 1048576 := by
  have := Ty.cnt_shape t 4 h
  omega

set_option maxHeartbeats 400000 in
theorem implTypeDepth (F : Nat → Prop) (t : Ty) (y : Value) (w : World) (hy : TyRep F w t y) :
    Calls Try.prog 44 #[y] w fun e w' => e = .returned (.int .i64 (t.depthV)) ∧ Below w.heap.size w w' := by
  obtain ⟨k, a, n, q, rfl⟩ := hy.shape
  have HV := fun W (h : Below w.heap.size w W) => implTypeValid F t _ W (hy.below h)
  have HI := fun (hv : t.valid = true) W (h : Below w.heap.size w W) => implTypeDepth0 F t _ W (hy.below h) (Ty.cnt_valid hv)
  clear hy
  unfold Ty.depthV
  cases hv : t.valid
  · rw [hv] at HV
    have HH := Lib.hid HV
    clear HV HI hv
    go_enter Try.func44, Try.ntmps44
    go_wp2_with fail
    refine (HH.out _ bal1).mono ?_
    rintro e w1 ⟨rfl, hb1⟩
    go_wp2_with fail
    go_ret
    exact ⟨rfl, bstep bal1 hb1⟩
  · rw [hv] at HV
    have HI := HI hv
    generalize t.depth = r at *
    have HH := Lib.hid HV
    have HJ := Lib.hid HI
    clear HV HI hv
    go_enter Try.func44, Try.ntmps44
    go_wp2_with fail
    refine (HH.out _ bal1).mono ?_
    rintro e w1 ⟨rfl, hb1⟩
    obtain ⟨hc, hf⟩ := brules hb1
    go_wp2_with fail
    refine (HJ.out _ (bstep bal1 hb1)).mono ?_
    rintro e w2 ⟨rfl, hb2⟩
    go_wp2_with fail
    go_ret
    exact ⟨rfl, bstep (bstep bal1 hb1) hb2⟩

set_option maxHeartbeats 400000 in
theorem specTypeDepth (F : Nat → Prop) (t : Ty) (y : Value) (w : World) (hy : TyRep F w t y) :
    Calls Try.prog 43 #[y] w fun e w' => e = .returned (.int .i64 (t.depthV)) ∧ Below w.heap.size w w' := by
  obtain ⟨k, a, n, q, rfl⟩ := hy.shape
  have HV := fun W (h : Below w.heap.size w W) => specTypeValid F t _ W (hy.below h)
  have HI := fun (hv : t.valid = true) W (h : Below w.heap.size w W) => specL1Depth F t _ W (hy.below h) (Ty.cnt_valid hv)
  clear hy
  unfold Ty.depthV
  cases hv : t.valid
  · rw [hv] at HV
    have HH := Lib.hid HV
    clear HV HI hv
    go_enter Try.func43, Try.ntmps43
    go_wp2_with fail
    refine (HH.out _ bal1).mono ?_
    rintro e w1 ⟨rfl, hb1⟩
    go_wp2_with fail
    go_ret
    exact ⟨rfl, bstep bal1 hb1⟩
  · rw [hv] at HV
    have HI := HI hv
    generalize t.depth = r at *
    have HH := Lib.hid HV
    have HJ := Lib.hid HI
    clear HV HI hv
    go_enter Try.func43, Try.ntmps43
    go_wp2_with fail
    refine (HH.out _ bal1).mono ?_
    rintro e w1 ⟨rfl, hb1⟩
    obtain ⟨hc, hf⟩ := brules hb1
    go_wp2_with fail
    refine (HJ.out _ (bstep bal1 hb1)).mono ?_
    rintro e w2 ⟨rfl, hb2⟩
    go_wp2_with fail
    go_ret
    exact ⟨rfl, bstep (bstep bal1 hb1) hb2⟩

set_option maxHeartbeats 400000 in
theorem implCountAny (F : Nat → Prop) (t : Ty) (y : Value) (w : World) (hy : TyRep F w t y) :
    Calls Try.prog 49 #[y] w fun e w' => e = .returned (.int .i64 (t.anyV)) ∧ Below w.heap.size w w' := by
  obtain ⟨k, a, n, q, rfl⟩ := hy.shape
  have HV := fun W (h : Below w.heap.size w W) => implTypeValid F t _ W (hy.below h)
  have HI := fun (hv : t.valid = true) W (h : Below w.heap.size w W) => implCountAny0 F t _ W (hy.below h) (Ty.cnt_valid hv)
  clear hy
  unfold Ty.anyV
  cases hv : t.valid
  · rw [hv] at HV
    have HH := Lib.hid HV
    clear HV HI hv
    go_enter Try.func49, Try.ntmps49
    go_wp2_with fail
    refine (HH.out _ bal1).mono ?_
    rintro e w1 ⟨rfl, hb1⟩
    go_wp2_with fail
    go_ret
    exact ⟨rfl, bstep bal1 hb1⟩
  · rw [hv] at HV
    have HI := HI hv
    generalize t.any = r at *
    have HH := Lib.hid HV
    have HJ := Lib.hid HI
    clear HV HI hv
    go_enter Try.func49, Try.ntmps49
    go_wp2_with fail
    refine (HH.out _ bal1).mono ?_
    rintro e w1 ⟨rfl, hb1⟩
    obtain ⟨hc, hf⟩ := brules hb1
    go_wp2_with fail
    refine (HJ.out _ (bstep bal1 hb1)).mono ?_
    rintro e w2 ⟨rfl, hb2⟩
    go_wp2_with fail
    go_ret
    exact ⟨rfl, bstep (bstep bal1 hb1) hb2⟩

set_option maxHeartbeats 400000 in
theorem specCountAny (F : Nat → Prop) (t : Ty) (y : Value) (w : World) (hy : TyRep F w t y) :
    Calls Try.prog 48 #[y] w fun e w' => e = .returned (.int .i64 (t.anyV)) ∧ Below w.heap.size w w' := by
  obtain ⟨k, a, n, q, rfl⟩ := hy.shape
  have HV := fun W (h : Below w.heap.size w W) => specTypeValid F t _ W (hy.below h)
  have HI := fun (hv : t.valid = true) W (h : Below w.heap.size w W) => specL1Count F t _ W (hy.below h) (Ty.cnt_valid hv)
  clear hy
  unfold Ty.anyV
  cases hv : t.valid
  · rw [hv] at HV
    have HH := Lib.hid HV
    clear HV HI hv
    go_enter Try.func48, Try.ntmps48
    go_wp2_with fail
    refine (HH.out _ bal1).mono ?_
    rintro e w1 ⟨rfl, hb1⟩
    go_wp2_with fail
    go_ret
    exact ⟨rfl, bstep bal1 hb1⟩
  · rw [hv] at HV
    have HI := HI hv
    generalize t.any = r at *
    have HH := Lib.hid HV
    have HJ := Lib.hid HI
    clear HV HI hv
    go_enter Try.func48, Try.ntmps48
    go_wp2_with fail
    refine (HH.out _ bal1).mono ?_
    rintro e w1 ⟨rfl, hb1⟩
    obtain ⟨hc, hf⟩ := brules hb1
    go_wp2_with fail
    refine (HJ.out _ (bstep bal1 hb1)).mono ?_
    rintro e w2 ⟨rfl, hb2⟩
    go_wp2_with fail
    go_ret
    exact ⟨rfl, bstep (bstep bal1 hb1) hb2⟩

set_option maxHeartbeats 400000 in
theorem implIsStatic (F : Nat → Prop) (t : Ty) (y : Value) (w : World) (hy : TyRep F w t y) :
    Calls Try.prog 42 #[y] w fun e w' => e = .returned (.bool (t.valid && (t.any == 0))) ∧ Below w.heap.size w w' := by
  obtain ⟨k, a, n, q, rfl⟩ := hy.shape
  have HV := fun W (h : Below w.heap.size w W) => implTypeValid F t _ W (hy.below h)
  have HI := fun (hv : t.valid = true) W (h : Below w.heap.size w W) => implCountAny0 F t _ W (hy.below h) (Ty.cnt_valid hv)
  clear hy
  cases hv : t.valid
  · rw [hv] at HV
    have HH := Lib.hid HV
    clear HV HI hv
    go_enter Try.func42, Try.ntmps42
    go_wp2_with fail
    refine (HH.out _ bal1).mono ?_
    rintro e w1 ⟨rfl, hb1⟩
    go_wp2_with fail
    go_ret
    exact ⟨ret_bool (by simp), bstep bal1 hb1⟩
  · rw [hv] at HV
    have HI := HI hv
    generalize t.any = r at *
    have HH := Lib.hid HV
    have HJ := Lib.hid HI
    clear HV HI hv
    go_enter Try.func42, Try.ntmps42
    go_wp2_with fail
    refine (HH.out _ bal1).mono ?_
    rintro e w1 ⟨rfl, hb1⟩
    obtain ⟨hc, hf⟩ := brules hb1
    go_wp2_with fail
    refine (HJ.out _ (bstep bal1 hb1)).mono ?_
    rintro e w2 ⟨rfl, hb2⟩
    go_wp2_with fail
    go_ret
    exact ⟨ret_bool (by rw [Bool.eq_iff_iff]; simp), bstep (bstep bal1 hb1) hb2⟩

set_option maxHeartbeats 400000 in
theorem specIsStatic (F : Nat → Prop) (t : Ty) (y : Value) (w : World) (hy : TyRep F w t y) :
    Calls Try.prog 41 #[y] w fun e w' => e = .returned (.bool (t.valid && (t.any == 0))) ∧ Below w.heap.size w w' := by
  obtain ⟨k, a, n, q, rfl⟩ := hy.shape
  have HV := fun W (h : Below w.heap.size w W) => specTypeValid F t _ W (hy.below h)
  have HI := fun (hv : t.valid = true) W (h : Below w.heap.size w W) => specL1Count F t _ W (hy.below h) (Ty.cnt_valid hv)
  clear hy
  cases hv : t.valid
  · rw [hv] at HV
    have HH := Lib.hid HV
    clear HV HI hv
    go_enter Try.func41, Try.ntmps41
    go_wp2_with fail
    refine (HH.out _ bal1).mono ?_
    rintro e w1 ⟨rfl, hb1⟩
    go_wp2_with fail
    go_ret
    exact ⟨ret_bool (by simp), bstep bal1 hb1⟩
  · rw [hv] at HV
    have HI := HI hv
    generalize t.any = r at *
    have HH := Lib.hid HV
    have HJ := Lib.hid HI
    clear HV HI hv
    go_enter Try.func41, Try.ntmps41
    go_wp2_with fail
    refine (HH.out _ bal1).mono ?_
    rintro e w1 ⟨rfl, hb1⟩
    obtain ⟨hc, hf⟩ := brules hb1
    go_wp2_with fail
    refine (HJ.out _ (bstep bal1 hb1)).mono ?_
    rintro e w2 ⟨rfl, hb2⟩
    go_wp2_with fail
    go_ret
    exact ⟨ret_bool (by rw [Bool.eq_iff_iff]; simp), bstep (bstep bal1 hb1) hb2⟩

end Go.Proofs.Ytjkkahlcbhcifaa
