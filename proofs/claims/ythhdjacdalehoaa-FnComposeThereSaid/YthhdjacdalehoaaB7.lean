/-
  The check of a coercion by the reference.
  CoercionValid of the program and of the reference.
-/
import Derived.Test.YthhdjacdalehoaaCoTailA
import Derived.Test.YthhdjacdalehoaaCoTailB
import Derived.Test.YthhdjacdalehoaaCoTailC
import Derived.Test.YthhdjacdalehoaaCoScan
namespace Go.Proofs.Ythhdjacdalehoaa
open Go.RowKit
set_option linter.unusedVariables false
set_option linter.unusedSimpArgs false
set_option maxRecDepth 100000

end Go.Proofs.Ythhdjacdalehoaa
namespace Go.Proofs.Ythhdjacdalehoaa
open Go.RowKit
set_option linter.unusedVariables false
set_option linter.unusedSimpArgs false
set_option maxRecDepth 100000

def IdxPostC (R : Co → Bool) (ts : List Co) (w : World) (e : Ending) (w' : World) : Prop := ∃ i : Int, e = .returned (.int .i64 i) ∧ decide (0 ≤ i) = ts.any R ∧ Below w.heap.size w w'
theorem any_dropC (R : Co → Bool) (ts : List Co) (k : Nat) (h : k < ts.length) : (ts.drop k).any R = (R ts[k] || (ts.drop (k + 1)).any R) := by
  rw [List.drop_eq_getElem_cons h]; rfl
set_option maxHeartbeats 1000000 in
theorem indexFunc_Co (g : FuncId) (p : Value) (R : Co → Bool) (F : Nat → Prop) (ts : List Co) (ys : Value) (w : World) (hy : CosRep F w ts ys)
    (hcf : ∀ xs W, (callFunc g xs).run Try.prog W = .ok (.enter g xs) W)
    (hg : ∀ t ∈ ts, ∀ (W : World) (y : Value), Below w.heap.size w W → CoRep F W t y → Calls Try.prog g #[y, p] W fun e W' => e = .returned (.bool (R t)) ∧ Below W.heap.size W W') :
    Calls Try.prog 76 #[ys, .func (.func g) #[] #[p]] w (IdxPostC R ts w) := by
  have HG := Lib.hid hg
  clear hg
  obtain ⟨a, cap, rfl, h2, h3, -⟩ := hy.open
  unfold maxLen at h3
  obtain ⟨n, hn⟩ : ∃ n, ts.length = n := ⟨_, rfl⟩
  rw [hn] at h2 hy ⊢
  have HN := Lib.hid hn
  clear hn
  go_enter Try.func76, Try.ntmps76
  go_wp2_with fail
  go_loopw [8] (fun i wr => ∃ k : Nat, k ≤ n ∧ i = .int .i64 k ∧ Below w.heap.size w wr ∧ Hid (ts.any R = (ts.drop k).any R)) (fun i _ => n - (intOf i).toNat)
  case atStart => exact ⟨0, by omega, rfl, Below.refl _ _, rfl⟩
  case round =>
    obtain ⟨k, hk, rfl, hbw, hR⟩ := hrel
    by_cases hlt : k < n
    · have hkt : k < ts.length := by rw [HN.out]; exact hlt
      obtain ⟨b, off, k0, g0, l0, a0, m0, q0, rfl, lb, e0, e1, e2, e3, ht⟩ := hy.at hbw hkt
      have hcall := HG.out ts[k] (List.getElem_mem hkt) wr _ hbw ht
      have hstep := hR.out.trans (any_dropC R ts k hkt)
      generalize R ts[k] = r at hcall hstep
      have HC := Lib.hid hcall
      have HS := Lib.hid hstep
      clear hcall hstep hR
      cases r
      all_goals
        go_wp2_with fail
        refine HC.out.mono ?_
        rintro e w1 ⟨rfl, hb1⟩
        go_wp2_with fail
      · go_roundw
        case rel => exact ⟨k + 1, by omega, by go_num, bstep hbw hb1, by rw [Hid, HS.out]; rfl⟩
        case measure => simp [intOf]; omega
      · go_ret
        exact ⟨_, rfl, by rw [HS.out]; simp, bstep hbw hb1⟩
    · go_wp2_with fail
      go_ret
      exact ⟨_, rfl, by rw [hR.out, List.drop_eq_nil_of_le (by rw [HN.out]; omega)]; rfl, hbw⟩
set_option maxHeartbeats 400000 in
theorem containsFunc_Co (g : FuncId) (p : Value) (R : Co → Bool) (F : Nat → Prop) (ts : List Co) (ys : Value) (w : World) (hy : CosRep F w ts ys)
    (hcf : ∀ xs W, (callFunc g xs).run Try.prog W = .ok (.enter g xs) W)
    (hg : ∀ t ∈ ts, ∀ (W : World) (y : Value), Below w.heap.size w W → CoRep F W t y → Calls Try.prog g #[y, p] W fun e W' => e = .returned (.bool (R t)) ∧ Below W.heap.size W W') :
    Calls Try.prog 62 #[ys, .func (.func g) #[] #[p]] w fun e w' => e = .returned (.bool (ts.any R)) ∧ Below w.heap.size w w' := by
  have H := Lib.hid (indexFunc_Co g p R F ts ys w hy hcf hg)
  clear hg hcf hy
  go_enter Try.func62, Try.ntmps62
  go_wp2_with fail
  refine H.out.mono ?_
  rintro e w1 ⟨i, rfl, hi, hb1⟩
  have HI := Lib.hid hi
  clear hi
  go_wp2_with fail
  go_ret
  exact ⟨ret_bool HI.out, hb1⟩
theorem Co.shapes_any : ∀ (ts : List Co) (d : Int), ts.any (fun t => !t.shape d) = !Co.shapes ts d
  | [], _ => by unfold Co.shapes; rfl
  | t :: ts, d => by unfold Co.shapes; rw [List.any_cons, Co.shapes_any ts d]; cases t.shape d <;> rfl

set_option maxHeartbeats 1000000 in
theorem coScan1_of (F : Nat → Prop) (t : Co) (y : Value) (b : Nat) (d : Int) (w : World) (hy : CoRep F w t y) (hd0 : 1 ≤ d) (hd : d ≤ 9) (hc : w.cell? ⟨b, 0, none⟩ = some (.int .i64 d))
    (IH : ∀ (W : World), Below w.heap.size w W → Calls Try.prog 45 #[y, .int .i64 (d + 1)] W fun e W' => e = .returned (.bool (t.shape (10 - (d + 1)))) ∧ Below W.heap.size W W') :
    Calls Try.prog 68 #[y, .pointer (some ⟨b, 0, none⟩)] w fun e w' => e = .returned (.bool (!t.shape (10 - (d + 1)))) ∧ Below w.heap.size w w' := by
  obtain ⟨k, g, l, a, n, q, rfl⟩ := hy.shape
  have hb := World.block_lt_of_cell? w _ hc
  have H := Lib.hid IH
  clear IH hy
  generalize t.shape (10 - (d + 1)) = r at *
  cases r
  all_goals
    go_enter Try.func68, Try.ntmps68
    go_wp2_with fail
    refine (H.out _ bal1).mono ?_
    rintro e w1 ⟨rfl, hb1⟩
    go_wp2_with fail
    go_ret
    exact ⟨rfl, bstep bal1 hb1⟩

theorem implCoScan (F : Nat → Prop) (t : Co) : ∀ (d : Int) (y : Value) (w : World), CoRep F w t y → 1 ≤ d → d ≤ 10 →
    Calls Try.prog 45 #[y, .int .i64 d] w fun e w' => e = .returned (.bool (t.shape (10 - d))) ∧ Below w.heap.size w w' := by
  intro d y w hy hd0 hd5
  have IH : ∀ t' ∈ t.kids, ∀ (d : Int) (y : Value) (W : World), CoRep F W t' y → 1 ≤ d → d ≤ 10 → Calls Try.prog 45 #[y, .int .i64 d] W fun e W' => e = .returned (.bool (t'.shape (10 - d))) ∧ Below W.heap.size W W' :=
    fun t' ht d y W a b c => implCoScan F t' d y W a b c
  obtain ⟨a, cap, rfl, h2, h3, hr⟩ := hy.open
  cases t with | mk k g l ts =>
  simp only [Co.kind, Co.tag, Co.label, Co.kids] at *
  unfold maxLen at h3
  have H4 : d ≤ 9 → ∀ (W : World) (b : Nat), Below w.heap.size w W → W.cell? ⟨b, 0, none⟩ = some (.int .i64 d) →
      Calls Try.prog 62 #[.slice a ts.length cap, .func (.func 68) #[] #[.pointer (some ⟨b, 0, none⟩)]] W fun e w' => e = .returned (.bool (!Co.shapes ts (10 - (d + 1)))) ∧ Below W.heap.size W w' := by
    intro hd W b hW hcell
    have h := containsFunc_Co 68 (.pointer (some ⟨b, 0, none⟩)) (fun t => !t.shape (10 - (d + 1))) F ts _ W (hr.below hW) Try.call68
      (fun t' ht' W2 y' hb2 hy' => coScan1_of F t' y' b d W2 hy' hd0 hd (bcell hb2 hcell) (fun W3 hb3 => IH t' ht' (d + 1) y' W3 (hy'.below hb3) (by omega) (by omega)))
    rw [Co.shapes_any] at h
    exact h
  unfold Co.shape
  have e10 : (10 : Int) - d - 1 = 10 - (d + 1) := by omega
  rw [e10]
  cases ts with
  | nil =>
    have h := scan_nil k g l d a cap (!Co.shapes [] (10 - (d + 1))) w hd0 hd5 H4
    simp only [Bool.not_not] at h
    exact h
  | cons t0 ts =>
    obtain ⟨b, off, k0, g0, l0, a0, m0, q0, rfl, lb, e0, e1, e2, e3, ht⟩ := hr.at (Below.refl _ _) (i := 0) (by simp)
    have hk : k0 = t0.kind ∧ g0 = t0.tag := by
      obtain ⟨s, he, -⟩ := ht
      simp at he
      exact ⟨he.1, he.2.1⟩
    obtain ⟨rfl, rfl⟩ := hk
    have h := scan_cons k g l d t0.kind t0.tag l0 b off (t0 :: ts).length cap a0 m0 q0 (!Co.shapes (t0 :: ts) (10 - (d + 1))) w (by simp) h2 h3 lb (by simpa using e0) (by simpa using e1) (by simpa using e2) (by simpa using e3) hd0 hd5 H4
    simp only [Bool.not_not] at h
    exact h
termination_by SizeOf.sizeOf t
decreasing_by exact Co.kid_lt ht

theorem implCoercionValid (F : Nat → Prop) (t : Co) (y : Value) (w : World) (hy : CoRep F w t y) :
    Calls Try.prog 23 #[y] w fun e w' => e = .returned (.bool t.valid) ∧ Below w.heap.size w w' := by
  have H := Lib.hid fun W (h : Below w.heap.size w W) => implCoScan F t 1 y W (hy.below h) (by omega) (by omega)
  obtain ⟨k, g, l, a, n, q, rfl⟩ := hy.shape
  clear hy
  go_enter Try.func23, Try.ntmps23
  go_wp2_with fail
  refine (H.out _ bal1).mono ?_
  rintro e w1 ⟨rfl, hb1⟩
  go_wp2_with fail
  go_ret
  exact ⟨ret_bool rfl, bstep bal1 hb1⟩
end Go.Proofs.Ythhdjacdalehoaa
