/-
  The reference's ground types.
  Functions that make types.
  Where coercions lead: the kinds of the nodes.
-/
import Derived.Test.YthhdjacdalehoaaB3
import Derived.Test.YthhdjacdalehoaaB8
import Derived.Deep.RegionHeld3
import Derived.Deep.QuietTactic
namespace Go.Proofs.Ythhdjacdalehoaa
open Go.RowKit
set_option linter.unusedVariables false
set_option linter.unusedSimpArgs false
set_option maxRecDepth 100000

set_option maxHeartbeats 4000000 in
theorem specL1Ground (F : Nat → Prop) (t : Ty) (y : Value) (w : World) (hy : TyRep F w t y) (hcnt : t.cnt ≤ 1048576) :
    Calls Try.prog 61 #[y] w (RetTy (.mk t.kind (List.replicate t.kids.length (.mk 1 []))) w) := by
  obtain ⟨i0, hi, hz0, hz1, hz2⟩ := info_parts Try.infoTy
  obtain ⟨a, cap, rfl, h2, h3, hr⟩ := hy.open
  cases t with | mk k ts =>
  simp only [Ty.kind, Ty.kids] at *
  unfold maxLen at h3
  have HCN := Lib.hid (show ts.length ≤ 1048576 by simp only [Ty.cnt] at hcnt; omega)
  clear hy hcnt hr
  generalize ts.length = n at *
  have Z0 := Lib.hid hz0
  have Z1 := Lib.hid hz1
  have Z2 := Lib.hid hz2
  have HI := Lib.hid hi
  clear hz0 hz1 hz2 hi
  go_enter Try.func61, Try.ntmps61
  go_wp2_with fail
  go_loopw [4] (fun i wr => ∃ j : Nat, j ≤ n ∧ i = .int .i64 j ∧ Below w.heap.size w wr ∧ w.heap.size + 1 + 1 < wr.heap.size ∧ (∃ u, wr.cell? ⟨w.heap.size + 1, 0, none⟩ = some u) ∧ (∃ u, wr.cell? ⟨w.heap.size + 1, 1, none⟩ = some u) ∧
      (∀ o, wr.frozen? ⟨w.heap.size + 1, o, none⟩ = false) ∧ (∀ o, wr.frozen? ⟨w.heap.size + 1 + 1, o, none⟩ = false) ∧ wr.cell? ⟨w.heap.size + 1 + 1, 0, none⟩ = some (.int .i64 k) ∧ wr.cell? ⟨w.heap.size, 1, none⟩ = some (.slice a n cap) ∧
      ∃ v, wr.cell? ⟨w.heap.size + 1 + 1, 1, none⟩ = some v ∧ AccNew (w.heap.size + 1 + 1 + 1) 38 2 wr v j (Ty.rows (List.replicate j (Ty.mk 1 [])))) (fun i _ => n - (intOf i).toNat)
  case atStart => exact ⟨0, by omega, rfl, bal3, by simp, ⟨.int .i64 0, bcell bal1 (cell_n1 0)⟩, ⟨.slice none 0 0, bcell bal1 (cell_n1 1)⟩, fun o => bfro bal1 (by simp) (fro_n1 o), fun o => fro_n2 o, cell_n2 0, bcell bal1 (bcell bal1 (cell_n0 1)), .slice none 0 0, cell_n2 1, by simpa [Ty.rows] using AccNew.nil _ _ _ _⟩
  case round =>
    obtain ⟨j, hj, rfl, hbw, hsz, ⟨u0, hu0⟩, ⟨u1, hu1⟩, hf1, hf2, hk0, hlb0, v, hv, hacc⟩ := hrel
    by_cases hlt : j < n
    · skip
      obtain ⟨xs, fps, ho, hl, hs, hd, hfp⟩ := hacc
      have HO := Lib.hid ho
      have HS := Lib.hid hs
      have HD := Lib.hid hd
      have HFP := Lib.hid hfp
      have HL := Lib.hid hl
      clear ho hs hd hfp hl
      obtain ⟨cv, qv, rfl⟩ : ∃ c q, v = .slice c j q := by
        rcases HO.out.2 with ⟨h, h0⟩ | ⟨g, cap, cur, h, _⟩
        · exact ⟨none, 0, by rw [h, h0]⟩
        · exact ⟨_, cap, h⟩
      go_wp2_with fail
      have hB3 : w.heap.size + 1 + 1 + 1 ≤ wr.heap.size := by omega
      go_region_law (first
        | (go_simp; go_at_call 72; refine (specL1Any _).mono ?_; rintro e w1 ⟨v1, rfl, hv1, hb1⟩; obtain ⟨k1, c1, m1, q1, fp1, rfl, -, -, hs1, hd1, hx1⟩ := hv1.open; have hq1 : w1.cell? ⟨w.heap.size + 1 + 1, 1, none⟩ = some (.slice cv j qv) := bcell (bstep bdr hb1) hv; have hbz := hb1.size; have hl1 : w.heap.size + 1 + 1 < w1.heap.size := World.block_lt_of_cell? _ _ hq1)
        | (refine step_append_lies _ (by rfl) (.tmp 16) (.tmp 18) 36 (by rfl) (w.heap.size + 1 + 1 + 1) 38 i0 _ 2 32 Try.underlying36 HI.out Z0.out Z1.out Z2.out rfl (by omega) (.slice cv j qv) j xs (by rfl) (ownsRow_below HO.out (bstep (bstep bdr hb1) bal1))
            ⟨w1.heap.size, 0, none⟩ 1 1 [.int .i64 k1, .slice c1 m1 q1] (by rfl) (by rfl) (World.news_of_block (cs := #[.int .i64 k1, .slice c1 m1 q1]) (t := 38) (fr := (0, 0)) (heap_alloc_new w1 _)) (by simp [Value.oneCell'])
            (by omega) (by have := HCN.out; unfold maxLen; omega) (by have := HCN.out; omega) (by simp at hbz ⊢; omega) _ rfl ?_
           intro gg cap2 w2 hown2 hgrow hat hlt2
           have hfar := grown_far (bstep (bstep bdr hb1) bal1) HO.out hgrow
           have hq : w2.cell? ⟨w.heap.size + 1 + 1, 1, none⟩ = some (.slice cv j qv) := (World.cell?_of_block (a := ⟨w.heap.size + 1 + 1, 1, none⟩) (hfar (w.heap.size + 1 + 1) (by omega) (by omega))).trans hv
           have hqf : w2.frozen? ⟨w.heap.size + 1 + 1, 1, none⟩ = false := (World.frozen?_of_block (a := ⟨w.heap.size + 1 + 1, 1, none⟩) (hfar (w.heap.size + 1 + 1) (by omega) (by omega))).trans (hf2 _)
           have HFAR := Lib.hid hfar
           have hacc2 := AccNew.push HL.out HO.out HS.out HD.out HFP.out hB3 (bstep (bstep bdr hb1) bal1) (by simp) (hs1.move _ _ _ fun b hb => heap_alloc_old w1 _ (SOwn.lt _ _ _ hs1 b hb)) hd1 hx1 hown2 hgrow hat
           have HACC := Lib.hid hacc2
           have hbel := grown_below hbw (bstep (bstep bdr hb1) bal1) HO.out (by omega) hgrow
           have hsz2 : wr.heap.size ≤ w2.heap.size := Nat.le_trans (bstep (bstep bdr hb1) bal1).size hgrow.size
           clear hfar hacc2 hown2 hgrow hat hq1))
      all_goals
        go_wp2_with fail
        go_roundw
        case rel =>
          have c1 : (w2.setCell ⟨w.heap.size + 1 + 1, 1, none⟩ (.slice (some ⟨gg, 0, none⟩) (j + 1) cap2)).heap[w.heap.size + 1]? = wr.heap[w.heap.size + 1]? :=
            (Below.heap_setCell w2 ⟨w.heap.size + 1 + 1, 1, none⟩ _ _ (by show w.heap.size + 1 ≠ w.heap.size + 1 + 1; omega)).trans (HFAR.out (w.heap.size + 1) (by omega) (by omega))
          have hk2 := (World.cell?_of_block (a := ⟨w.heap.size + 1 + 1, 0, none⟩) (HFAR.out (w.heap.size + 1 + 1) (by omega) (by omega))).trans hk0
          have hf4 := fun o => (World.frozen?_of_block (a := ⟨w.heap.size + 1 + 1, o, none⟩) (HFAR.out (w.heap.size + 1 + 1) (by omega) (by omega))).trans (hf2 o)
          refine ⟨j + 1, by omega, by go_num, hbel.setCell (by show w.heap.size ≤ w.heap.size + 1 + 1; omega) _, by simp [World.setCell]; omega, ⟨u0, (World.cell?_of_block (a := ⟨w.heap.size + 1, 0, none⟩) c1).trans hu0⟩, ⟨u1, (World.cell?_of_block (a := ⟨w.heap.size + 1, 1, none⟩) c1).trans hu1⟩,
            fun o => (World.frozen?_of_block (a := ⟨w.heap.size + 1, o, none⟩) c1).trans (hf1 o), fun o => (sc_fro _ _ _ _).trans (hf4 o), sc_far hk2 (by simp), (World.cell?_of_block (a := ⟨w.heap.size, 1, none⟩) ((Below.heap_setCell w2 ⟨w.heap.size + 1 + 1, 1, none⟩ _ _ (by show w.heap.size ≠ w.heap.size + 1 + 1; omega)).trans (HFAR.out (w.heap.size) (by omega) (by omega)))).trans hlb0, _, sc_self hq, ?_⟩
          have h := HACC.out.setCell (p := ⟨w.heap.size + 1 + 1, 1, none⟩) (by show w.heap.size + 1 + 1 < w.heap.size + 1 + 1 + 1; omega) (.slice (some ⟨gg, 0, none⟩) (j + 1) cap2)
          rw [Ty.rows_eq] at h ⊢
          simp only [List.replicate_succ', List.map_append]
          exact h
        case measure => simp [intOf]; omega
    · obtain ⟨cv, qv, rfl⟩ := hacc.shape
      have f0 := hf1 0
      have f1 := hf1 1
      go_wp2_with fail
      refine bodyPost_ret (v := .agg #[.int .i64 k, .slice cv j qv]) (by simp [results, Try.results61, go_sem, hu0, hu1]) rfl ?_
      have hjn : j = n := by omega
      subst hjn
      refine ⟨_, rfl, TyNew.mono (TysNew.ty ((hacc.tys.setCell (by show w.heap.size + 1 < w.heap.size + 1 + 1 + 1; omega) _).setCell (by show w.heap.size + 1 < w.heap.size + 1 + 1 + 1; omega) _)) (by omega), ?_⟩
      exact (hbw.setCell (by show w.heap.size ≤ w.heap.size + 1; omega) _).setCell (by show w.heap.size ≤ w.heap.size + 1; omega) _
end Go.Proofs.Ythhdjacdalehoaa
namespace Go.Proofs.Ythhdjacdalehoaa
open Go.RowKit
set_option linter.unusedVariables false
set_option linter.unusedSimpArgs false
set_option maxRecDepth 100000

set_option maxHeartbeats 1000000 in
theorem implGround (k : Int) (w : World) : Calls Try.prog 56 #[.int .i64 k] w (RetTy (ground k) w) := by
  by_cases h : k = 4 ∨ k = 5
  · have hg : ground k = .mk k [.mk 1 [], .mk 1 []] := by unfold ground; rw [if_pos h]
    rw [hg]
    clear hg
    rcases h with rfl | rfl
    all_goals
      go_enter Try.func56, Try.ntmps56
      go_wp2_with fail
      refine (implBase 1 _).mono ?_
      rintro e w1 ⟨v1, rfl, ⟨f1, ho1, hd1, hx1⟩, hb1⟩
      obtain ⟨k1, a1, n1, q1, rfl, -, -⟩ := ho1.shape
      go_wp2_with fail
      refine (implBase 1 _).mono ?_
      rintro e w2 ⟨v2, rfl, ⟨f2, ho2, hd2, hx2⟩, hb2⟩
      obtain ⟨k2, a2, n2, q2, rfl, -, -⟩ := ho2.shape
      have hlt := (ho1.cells).lt
      have HD := Lib.hid (List.nodup_append.2 ⟨hd1, hd2, fun x hx y hy e => by have h1 := (ho1.cells).lt _ _ _ x hx; have h2 := hx2 y hy; omega⟩)
      have HO1 := Lib.hid (ho1.below hb2)
      have HO2 := Lib.hid ho2
      have HB := Lib.hid (fun b (hb : b ∈ f1 ++ f2) => show (w.alloc (.cells #[.int .i64 0, .slice none 0 0] 38)).heap.size ≤ b by
        rcases List.mem_append.1 hb with hb | hb
        · exact hx1 b hb
        · have := hx2 b hb; have := hb1.size; omega)
      have HS := Lib.hid (Nat.le_trans hb1.size hb2.size)
      have hW := bstep hb1 hb2
      have c0 : w2.cell? ⟨w.heap.size, 0, none⟩ = some (.int .i64 0) := bcell hW (cell_n0 0)
      have c1 : w2.cell? ⟨w.heap.size, 1, none⟩ = some (.slice none 0 0) := bcell hW (cell_n0 1)
      have f0 := bfro (j := 0) hW (by simp) (fro_n0 0)
      have f3 := bfro (j := 1) hW (by simp) (fro_n0 1)
      have hW0 := bstep bal1 hW
      have HBOTH := Lib.hid (fun kk => implBoth _ kk _ _ _ _ w2 f1 f2 HO1.out HO2.out HD.out HB.out HS.out)
      clear hlt ho1 ho2 hd1 hd2 hx1 hx2
      go_wp2_with fail
      refine (HBOTH.out _).mono ?_
      rintro e w3 ⟨v3, rfl, hv3, hb3⟩
      obtain ⟨k3, a3, n3, q3, rfl⟩ := hv3.shape
      replace c0 := bcell hb3 c0
      replace c1 := bcell hb3 c1
      have hl2 : w.heap.size < w2.heap.size := by have := HS.out; simp at this; omega
      replace f0 := bfro hb3 hl2 f0
      replace f3 := bfro hb3 hl2 f3
      go_wp2_with fail
      refine bodyPost_ret (v := .agg #[.int .i64 k3, .slice a3 n3 q3]) (by simp [results, Try.results56, go_sem, c0, c1]) rfl ?_
      refine ⟨_, rfl, TyNew.mono ((hv3.setCell (by simp) _).setCell (by simp) _) (by simp), ?_⟩
      exact ((bstep hW0 hb3).setCell (by show w.heap.size ≤ w.heap.size; omega) _).setCell (by show w.heap.size ≤ w.heap.size; omega) _
  · have hg : ground k = .mk k [] := by unfold ground; rw [if_neg h]
    have g4 : (k == 4) = false := by simp; omega
    have g5 : (k == 5) = false := by simp; omega
    rw [hg]
    clear h hg
    go_enter Try.func56, Try.ntmps56
    go_wp2_with fail
    refine (implBase k _).mono ?_
    rintro e w1 ⟨v1, rfl, hv1, hb1⟩
    obtain ⟨k3, a3, n3, q3, rfl⟩ := hv1.shape
    have c0 : w1.cell? ⟨w.heap.size, 0, none⟩ = some (.int .i64 0) := bcell hb1 (cell_n0 0)
    have c1 : w1.cell? ⟨w.heap.size, 1, none⟩ = some (.slice none 0 0) := bcell hb1 (cell_n0 1)
    have f0 := bfro (j := 0) hb1 (by simp) (fro_n0 0)
    have f3 := bfro (j := 1) hb1 (by simp) (fro_n0 1)
    go_wp2_with fail
    refine bodyPost_ret (v := .agg #[.int .i64 k3, .slice a3 n3 q3]) (by simp [results, Try.results56, go_sem, c0, c1]) rfl ?_
    refine ⟨_, rfl, TyNew.mono ((hv1.setCell (by simp) _).setCell (by simp) _) (by simp), ?_⟩
    exact ((bstep bal1 hb1).setCell (by show w.heap.size ≤ w.heap.size; omega) _).setCell (by show w.heap.size ≤ w.heap.size; omega) _

end Go.Proofs.Ythhdjacdalehoaa
namespace Go.Proofs.Ythhdjacdalehoaa
open Go.RowKit
set_option linter.unusedVariables false
set_option linter.unusedSimpArgs false
set_option maxRecDepth 100000

def Ty.kid (t : Ty) (i : Nat) : Ty := t.kids.getD i (.mk 0 [])
mutual
def Co.leads : Co → Ty → Ty → Bool
  | .mk k g _ ts, f, t =>
    if k == 1 then f.kind == g && t.kind == g
    else if k == 2 then f.kind == 4 && t.kind == 4 && Co.leads2 ts (t.kid 0) (f.kid 0) (f.kid 1) (t.kid 1)
    else if k == 3 then f.kind == 5 && t.kind == 5 && Co.leads2 ts (f.kid 0) (t.kid 0) (f.kid 1) (t.kid 1)
    else if k == 4 then t.kind == 1 && f.kind == Co.tagVs ts && Co.leads1 ts f (ground f.kind)
    else if k == 5 then f.kind == 1 && Co.leads1 ts (ground (Co.tagVs ts)) t
    else f.kind == g
def Co.leads1 : List Co → Ty → Ty → Bool
  | [], _, _ => false
  | a :: _, f, t => a.leads f t
def Co.leads2 : List Co → Ty → Ty → Ty → Ty → Bool
  | [], _, _, _, _ => false
  | a :: ts, f0, t0, f1, t1 => a.leads f0 t0 && Co.leads1 ts f1 t1
end
theorem ground_kind (k : Int) : (ground k).kind = k := by unfold ground; split <;> rfl
theorem ground_ok {k : Int} (h : 1 ≤ k ∧ k ≤ 5) : (ground k).valid = true := by
  have : k = 1 ∨ k = 2 ∨ k = 3 ∨ k = 4 ∨ k = 5 := by omega
  rcases this with rfl | rfl | rfl | rfl | rfl <;> decide
end Go.Proofs.Ythhdjacdalehoaa
