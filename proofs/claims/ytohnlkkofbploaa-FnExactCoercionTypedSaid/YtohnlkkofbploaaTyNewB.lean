/-
  Functions that make types.
-/
import Derived.Test.YtohnlkkofbploaaAcc
import Derived.Test.YtohnlkkofbploaaLaTy
import Derived.Test.YtohnlkkofbploaaTyPlain
namespace Go.Proofs.Ytohnlkkofbploaa
open Go.RowKit
set_option linter.unusedVariables false
set_option linter.unusedSimpArgs false
set_option maxRecDepth 100000

theorem TysNew.nil (B : Nat) (w : World) : TysNew B w [] (.slice none 0 0) := ⟨[], COwn.sl_nil (by unfold maxLen; omega), List.nodup_nil, by simp⟩
theorem Ty.kids_nil (k : Int) : (Ty.mk k []).kids = [] := rfl

set_option maxHeartbeats 400000 in
theorem implBase (k : Int) (w : World) : Calls Try.prog 94 #[.int .i64 k] w (RetTy (.mk k []) w) := by
  go_enter Try.func94, Try.ntmps94
  go_wp2_with fail
  refine bodyPost_ret (v := .agg #[.int .i64 k, .slice none 0 0]) (by simp [results, Try.results94, go_sem]) rfl ?_
  exact ⟨_, rfl, TyNew.mono (TysNew.ty (TysNew.nil _ _)) (Nat.le_refl _), bal1⟩

set_option maxHeartbeats 400000 in
theorem specL1Any (w : World) : Calls Try.prog 81 #[] w (RetTy (.mk 1 []) w) := by
  go_enter Try.func81, Try.ntmps81
  go_wp2_with fail
  refine bodyPost_ret (v := .agg #[.int .i64 1, .slice none 0 0]) (by simp [results, Try.results81, go_sem]) rfl ?_
  exact ⟨_, rfl, TyNew.mono (TysNew.ty (TysNew.nil _ _)) (Nat.le_refl _), bal1⟩

/-- Two types of one's own, in one new block. -/
theorem TysNew.two {B : Nat} {w w' : World} {t u : Ty} {k1 k2 : Int} {s1 s2 : Value} {T : TypeId} {f1 f2 : List Nat} (h1 : SOwn w t.row [.int .i64 k1, s1] f1) (h2 : SOwn w u.row [.int .i64 k2, s2] f2) (hd : (f1 ++ f2).Nodup) (hB : ∀ b ∈ f1 ++ f2, B ≤ b) (hBw : B ≤ w.heap.size)
    (hk : Below w.heap.size w w') (hh : w'.heap[w.heap.size]? = some (.cells #[.int .i64 k1, s1, .int .i64 k2, s2] T (0, 0))) : TysNew B w' [t, u] (.slice (some ⟨w.heap.size, 0, none⟩) 2 2) := by
  have hr : SRows w (Ty.rows [t, u]) [.int .i64 k1, s1, .int .i64 k2, s2] (f1 ++ f2) := by
    unfold Ty.rows
    refine ⟨[_, _], [_, _], f1, f2, rfl, rfl, h1, ?_⟩
    unfold Ty.rows
    refine ⟨[_, _], [], f2, [], rfl, by simp, h2, ?_⟩
    unfold Ty.rows
    exact ⟨rfl, rfl⟩
  have hlt := SRows.lt _ _ _ hr
  have hr' := hr.move _ _ _ fun b hb => hk.block b (hlt b hb)
  have ho : RowsOwn w' w.heap.size 0 (Ty.rows [t, u]) (f1 ++ f2) := hr'.rows _ _ _ 0 (fun i hi => by
    simp only [World.cell?, hh]
    simp)
  obtain ⟨fp, k1, k2, k3⟩ := COwn.sl_mk (n := 2) (cap := 2) hh (by rw [Ty.rows_length]; rfl) (Nat.le_refl _) (by unfold maxLen; omega) ho
  exact ⟨fp, k1, k3 hd (fun h => by have := hlt _ h; omega), fun b hb => by rcases k2 b hb with rfl | hb; exact hBw; exact hB b hb⟩

set_option maxHeartbeats 1000000 in
theorem implBoth (B : Nat) (kk : Int) (t u : Ty) (y z : Value) (w : World) (f1 f2 : List Nat) (hy : TyOwn w t y f1) (hz : TyOwn w u z f2) (hd : (f1 ++ f2).Nodup) (hB : ∀ b ∈ f1 ++ f2, B ≤ b) (hBw : B ≤ w.heap.size) :
    Calls Try.prog 93 #[.int .i64 kk, y, z] w fun e w' => ∃ v, e = .returned v ∧ TyNew B w' (.mk kk [t, u]) v ∧ Below w.heap.size w w' := by
  obtain ⟨k1, a1, n1, q1, rfl, -, -⟩ := hy.shape
  obtain ⟨k2, a2, n2, q2, rfl, -, -⟩ := hz.shape
  have h1 := TyOwn.cells (hy.below (bal3 (o := .cells #[.int .i64 k1, .slice a1 n1 q1] 42) (o' := .cells #[.int .i64 k2, .slice a2 n2 q2] 42) (o2 := .cells #[.int .i64 kk, .slice (some ⟨w.heap.size + 1 + 1 + 1, 0, none⟩) 2 2] 42)))
  have h2 := TyOwn.cells (hz.below (bal3 (o := .cells #[.int .i64 k1, .slice a1 n1 q1] 42) (o' := .cells #[.int .i64 k2, .slice a2 n2 q2] 42) (o2 := .cells #[.int .i64 kk, .slice (some ⟨w.heap.size + 1 + 1 + 1, 0, none⟩) 2 2] 42)))
  have h := TysNew.two (B := B) (T := 42) h1 h2 hd hB (by simp; omega) (bal1 (o := .cells #[.int .i64 k1, .slice a1 n1 q1, .int .i64 k2, .slice a2 n2 q2] 42)) (heap_alloc_new _ _)
  have e : ∀ o1 o2 o3, (((w.alloc o1).alloc o2).alloc o3).heap.size = w.heap.size + 1 + 1 + 1 := by intros; simp
  rw [e] at h
  have HH := Lib.hid h
  clear h h1 h2 e hy hz hd hB
  go_enter Try.func93, Try.ntmps93
  go_wp2_with fail
  refine bodyPost_ret (v := .agg #[.int .i64 kk, .slice (some ⟨w.heap.size + 1 + 1 + 1, 0, none⟩) 2 2]) (by simp [results, Try.results93, go_sem]) rfl ?_
  exact ⟨_, rfl, TysNew.ty HH.out, bstep bal3 bal1⟩

def ground (k : Int) : Ty := if k = 4 ∨ k = 5 then .mk k [.mk 1 [], .mk 1 []] else .mk k []

set_option maxHeartbeats 1000000 in
theorem implGround (k : Int) (w : World) : Calls Try.prog 77 #[.int .i64 k] w (RetTy (ground k) w) := by
  by_cases h : k = 4 ∨ k = 5
  · have hg : ground k = .mk k [.mk 1 [], .mk 1 []] := by unfold ground; rw [if_pos h]
    rw [hg]
    clear hg
    rcases h with rfl | rfl
    all_goals
      go_enter Try.func77, Try.ntmps77
      go_wp2_with fail
      refine (implBase 1 _).mono ?_
      rintro e w1 ⟨v1, rfl, ⟨f1, ho1, hd1, hx1⟩, hb1⟩
      obtain ⟨k1, a1, n1, q1, rfl, -, -⟩ := ho1.shape
      go_wp2_with fail
      refine (implBase 1 _).mono ?_
      rintro e w2 ⟨v2, rfl, ⟨f2, ho2, hd2, hx2⟩, hb2⟩
      obtain ⟨k2, a2, n2, q2, rfl, -, -⟩ := ho2.shape
      have hlt := (ho1.cells).lt
      have HD := Lib.hid (List.nodup_append.2 ⟨hd1, hd2, fun x hx y hy e => by have h1 := (ho1.cells).lt _ _ _ x hx; have h2 := hx2 y hy; omega⟩)
      have HO1 := Lib.hid (ho1.below hb2)
      have HO2 := Lib.hid ho2
      have HB := Lib.hid (fun b (hb : b ∈ f1 ++ f2) => show (w.alloc (.cells #[.int .i64 0, .slice none 0 0] 42)).heap.size ≤ b by
        rcases List.mem_append.1 hb with hb | hb
        · exact hx1 b hb
        · have := hx2 b hb; have := hb1.size; omega)
      have HS := Lib.hid (Nat.le_trans hb1.size hb2.size)
      have hW := bstep hb1 hb2
      have c0 : w2.cell? ⟨w.heap.size, 0, none⟩ = some (.int .i64 0) := bcell hW (cell_n0 0)
      have c1 : w2.cell? ⟨w.heap.size, 1, none⟩ = some (.slice none 0 0) := bcell hW (cell_n0 1)
      have f0 := bfro (j := 0) hW (by simp) (fro_n0 0)
      have f3 := bfro (j := 1) hW (by simp) (fro_n0 1)
      have hW0 := bstep bal1 hW
      have HBOTH := Lib.hid (fun kk => implBoth _ kk _ _ _ _ w2 f1 f2 HO1.out HO2.out HD.out HB.out HS.out)
      clear hlt ho1 ho2 hd1 hd2 hx1 hx2
      go_wp2_with fail
      refine (HBOTH.out _).mono ?_
      rintro e w3 ⟨v3, rfl, hv3, hb3⟩
      obtain ⟨k3, a3, n3, q3, rfl⟩ := hv3.shape
      replace c0 := bcell hb3 c0
      replace c1 := bcell hb3 c1
      have hl2 : w.heap.size < w2.heap.size := by have := HS.out; simp at this; omega
      replace f0 := bfro hb3 hl2 f0
      replace f3 := bfro hb3 hl2 f3
      go_wp2_with fail
      refine bodyPost_ret (v := .agg #[.int .i64 k3, .slice a3 n3 q3]) (by simp [results, Try.results77, go_sem, c0, c1]) rfl ?_
      refine ⟨_, rfl, TyNew.mono ((hv3.setCell (by simp) _).setCell (by simp) _) (by simp), ?_⟩
      exact ((bstep hW0 hb3).setCell (by show w.heap.size ≤ w.heap.size; omega) _).setCell (by show w.heap.size ≤ w.heap.size; omega) _
  · have hg : ground k = .mk k [] := by unfold ground; rw [if_neg h]
    have g4 : (k == 4) = false := by simp; omega
    have g5 : (k == 5) = false := by simp; omega
    rw [hg]
    clear h hg
    go_enter Try.func77, Try.ntmps77
    go_wp2_with fail
    refine (implBase k _).mono ?_
    rintro e w1 ⟨v1, rfl, hv1, hb1⟩
    obtain ⟨k3, a3, n3, q3, rfl⟩ := hv1.shape
    have c0 : w1.cell? ⟨w.heap.size, 0, none⟩ = some (.int .i64 0) := bcell hb1 (cell_n0 0)
    have c1 : w1.cell? ⟨w.heap.size, 1, none⟩ = some (.slice none 0 0) := bcell hb1 (cell_n0 1)
    have f0 := bfro (j := 0) hb1 (by simp) (fro_n0 0)
    have f3 := bfro (j := 1) hb1 (by simp) (fro_n0 1)
    go_wp2_with fail
    refine bodyPost_ret (v := .agg #[.int .i64 k3, .slice a3 n3 q3]) (by simp [results, Try.results77, go_sem, c0, c1]) rfl ?_
    refine ⟨_, rfl, TyNew.mono ((hv1.setCell (by simp) _).setCell (by simp) _) (by simp), ?_⟩
    exact ((bstep bal1 hb1).setCell (by show w.heap.size ≤ w.heap.size; omega) _).setCell (by show w.heap.size ≤ w.heap.size; omega) _

end Go.Proofs.Ytohnlkkofbploaa
