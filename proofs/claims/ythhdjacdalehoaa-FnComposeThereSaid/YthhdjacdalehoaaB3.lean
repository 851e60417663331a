/-
  Shapes of types: plain facts.
  Functions that make types.
-/
import Derived.Test.YthhdjacdalehoaaTyValid
import Derived.Test.YthhdjacdalehoaaB1
namespace Go.Proofs.Ythhdjacdalehoaa
open Go.RowKit
set_option linter.unusedVariables false
set_option linter.unusedSimpArgs false

theorem Ty.shapes_mem : ∀ {ts : List Ty} {d : Int} {t : Ty}, Ty.shapes ts d = true → t ∈ ts → t.shape d = true
  | u :: ts, d, t, h, ht => by
    unfold Ty.shapes at h
    simp only [Bool.and_eq_true] at h
    rcases List.mem_cons.1 ht with rfl | ht
    · exact h.1
    · exact Ty.shapes_mem h.2 ht
theorem tkids_le (k : Int) : tkids k ≤ 2 := by unfold tkids; split; omega; split <;> omega
mutual
theorem Ty.cnt_shape : ∀ (t : Ty) (n : Nat), t.shape n = true → t.cnt + 2 ≤ 2 ^ n
  | .mk k ts, n, h => by
    obtain ⟨h1, h2, h3⟩ := Ty.shape_mk h
    obtain ⟨m, rfl⟩ : ∃ m, n = m + 1 := ⟨n - 1, by omega⟩
    rw [show ((m + 1 : Nat) : Int) - 1 = (m : Int) from by omega] at h3
    have h4 := Ty.cnts_shape ts m h3
    have h5 := tkids_le k
    unfold Ty.cnt
    have : 2 ^ (m + 1) = 2 * 2 ^ m := by rw [Nat.pow_succ]; omega
    have h6 : ts.length = 0 ∨ ts.length = 1 ∨ ts.length = 2 := by omega
    have h7 : 1 ≤ 2 ^ m := Nat.one_le_two_pow
    rcases h6 with h6 | h6 | h6 <;> rw [h6] at h4 ⊢ <;> omega
theorem Ty.cnts_shape : ∀ (ts : List Ty) (n : Nat), Ty.shapes ts n = true → Ty.cnts ts + 2 * ts.length ≤ ts.length * 2 ^ n
  | [], _, _ => by simp [Ty.cnts]
  | t :: ts, n, h => by
    unfold Ty.shapes at h
    simp only [Bool.and_eq_true] at h
    have h1 := Ty.cnt_shape t n h.1
    have h2 := Ty.cnts_shape ts n h.2
    simp only [Ty.cnts, List.length_cons, Nat.add_mul]
    omega
end
theorem Ty.cnt_valid {t : Ty} (h : t.valid = true) : t.cnt ≤ 1048576 := by
  have := Ty.cnt_shape t 4 h
  omega

end Go.Proofs.Ythhdjacdalehoaa
namespace Go.Proofs.Ythhdjacdalehoaa
open Go.RowKit
set_option linter.unusedVariables false
set_option linter.unusedSimpArgs false
set_option maxRecDepth 100000

theorem TysNew.nil (B : Nat) (w : World) : TysNew B w [] (.slice none 0 0) := ⟨[], COwn.sl_nil (by unfold maxLen; omega), List.nodup_nil, by simp⟩
theorem Ty.kids_nil (k : Int) : (Ty.mk k []).kids = [] := rfl

set_option maxHeartbeats 400000 in
theorem implBase (k : Int) (w : World) : Calls Try.prog 74 #[.int .i64 k] w (RetTy (.mk k []) w) := by
  go_enter Try.func74, Try.ntmps74
  go_wp2_with fail
  refine bodyPost_ret (v := .agg #[.int .i64 k, .slice none 0 0]) (by simp [results, Try.results74, go_sem]) rfl ?_
  exact ⟨_, rfl, TyNew.mono (TysNew.ty (TysNew.nil _ _)) (Nat.le_refl _), bal1⟩

set_option maxHeartbeats 400000 in
theorem specL1Any (w : World) : Calls Try.prog 72 #[] w (RetTy (.mk 1 []) w) := by
  go_enter Try.func72, Try.ntmps72
  go_wp2_with fail
  refine bodyPost_ret (v := .agg #[.int .i64 1, .slice none 0 0]) (by simp [results, Try.results72, go_sem]) rfl ?_
  exact ⟨_, rfl, TyNew.mono (TysNew.ty (TysNew.nil _ _)) (Nat.le_refl _), bal1⟩

/-- Two types of one's own, in one new block. -/
theorem TysNew.two {B : Nat} {w w' : World} {t u : Ty} {k1 k2 : Int} {s1 s2 : Value} {T : TypeId} {f1 f2 : List Nat} (h1 : SOwn w t.row [.int .i64 k1, s1] f1) (h2 : SOwn w u.row [.int .i64 k2, s2] f2) (hd : (f1 ++ f2).Nodup) (hB : ∀ b ∈ f1 ++ f2, B ≤ b) (hBw : B ≤ w.heap.size)
    (hk : Below w.heap.size w w') (hh : w'.heap[w.heap.size]? = some (.cells #[.int .i64 k1, s1, .int .i64 k2, s2] T (0, 0))) : TysNew B w' [t, u] (.slice (some ⟨w.heap.size, 0, none⟩) 2 2) := by
  have hr : SRows w (Ty.rows [t, u]) [.int .i64 k1, s1, .int .i64 k2, s2] (f1 ++ f2) := by
    unfold Ty.rows
    refine ⟨[_, _], [_, _], f1, f2, rfl, rfl, h1, ?_⟩
    unfold Ty.rows
    refine ⟨[_, _], [], f2, [], rfl, by simp, h2, ?_⟩
    unfold Ty.rows
    exact ⟨rfl, rfl⟩
  have hlt := SRows.lt _ _ _ hr
  have hr' := hr.move _ _ _ fun b hb => hk.block b (hlt b hb)
  have ho : RowsOwn w' w.heap.size 0 (Ty.rows [t, u]) (f1 ++ f2) := hr'.rows _ _ _ 0 (fun i hi => by
    simp only [World.cell?, hh]
    simp)
  obtain ⟨fp, k1, k2, k3⟩ := COwn.sl_mk (n := 2) (cap := 2) hh (by rw [Ty.rows_length]; rfl) (Nat.le_refl _) (by unfold maxLen; omega) ho
  exact ⟨fp, k1, k3 hd (fun h => by have := hlt _ h; omega), fun b hb => by rcases k2 b hb with rfl | hb; exact hBw; exact hB b hb⟩

set_option maxHeartbeats 1000000 in
theorem implBoth (B : Nat) (kk : Int) (t u : Ty) (y z : Value) (w : World) (f1 f2 : List Nat) (hy : TyOwn w t y f1) (hz : TyOwn w u z f2) (hd : (f1 ++ f2).Nodup) (hB : ∀ b ∈ f1 ++ f2, B ≤ b) (hBw : B ≤ w.heap.size) :
    Calls Try.prog 73 #[.int .i64 kk, y, z] w fun e w' => ∃ v, e = .returned v ∧ TyNew B w' (.mk kk [t, u]) v ∧ Below w.heap.size w w' := by
  obtain ⟨k1, a1, n1, q1, rfl, -, -⟩ := hy.shape
  obtain ⟨k2, a2, n2, q2, rfl, -, -⟩ := hz.shape
  have h1 := TyOwn.cells (hy.below (bal3 (o := .cells #[.int .i64 k1, .slice a1 n1 q1] 38) (o' := .cells #[.int .i64 k2, .slice a2 n2 q2] 38) (o2 := .cells #[.int .i64 kk, .slice (some ⟨w.heap.size + 1 + 1 + 1, 0, none⟩) 2 2] 38)))
  have h2 := TyOwn.cells (hz.below (bal3 (o := .cells #[.int .i64 k1, .slice a1 n1 q1] 38) (o' := .cells #[.int .i64 k2, .slice a2 n2 q2] 38) (o2 := .cells #[.int .i64 kk, .slice (some ⟨w.heap.size + 1 + 1 + 1, 0, none⟩) 2 2] 38)))
  have h := TysNew.two (B := B) (T := 38) h1 h2 hd hB (by simp; omega) (bal1 (o := .cells #[.int .i64 k1, .slice a1 n1 q1, .int .i64 k2, .slice a2 n2 q2] 38)) (heap_alloc_new _ _)
  have e : ∀ o1 o2 o3, (((w.alloc o1).alloc o2).alloc o3).heap.size = w.heap.size + 1 + 1 + 1 := by intros; simp
  rw [e] at h
  have HH := Lib.hid h
  clear h h1 h2 e hy hz hd hB
  go_enter Try.func73, Try.ntmps73
  go_wp2_with fail
  refine bodyPost_ret (v := .agg #[.int .i64 kk, .slice (some ⟨w.heap.size + 1 + 1 + 1, 0, none⟩) 2 2]) (by simp [results, Try.results73, go_sem]) rfl ?_
  exact ⟨_, rfl, TysNew.ty HH.out, bstep bal3 bal1⟩

def ground (k : Int) : Ty := if k = 4 ∨ k = 5 then .mk k [.mk 1 [], .mk 1 []] else .mk k []

end Go.Proofs.Ythhdjacdalehoaa
