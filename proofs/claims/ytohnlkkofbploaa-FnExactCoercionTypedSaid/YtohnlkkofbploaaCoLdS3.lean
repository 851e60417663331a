/-
  Where coercions lead, by the reference: projections.
-/
import Derived.Test.YtohnlkkofbploaaCoLdDef
import Derived.Deep.RegionHeld3
import Derived.Deep.RegionLaw
import Derived.Deep.AppendLies
namespace Go.Proofs.Ytohnlkkofbploaa
open Go.RowKit
set_option linter.unusedVariables false
set_option linter.unusedSimpArgs false
set_option maxRecDepth 100000

theorem leaf_ldspec5_0 (fk : Int) (r0 : Bool) (h0 : (fk == 1) = true) : (r0 : Bool) = (fk == 1 && r0) := by
  simp_all

theorem leaf_ldspec5_1 (fk : Int) (r0 : Bool) (h0 : (fk == 1) = false) : (false : Bool) = (fk == 1 && r0) := by
  simp_all

set_option maxHeartbeats 4000000 in
theorem specLd5 (g l fk tk : Int) (fa ta : Option Addr) (fn fq tn tq : Nat) (tg k0 g0 l0 : Int) (b off n q nn : Nat) (a0 : Option Addr) (n0 q0 : Nat) (r0 : Bool) (w : World) (hn : 0 < n) (hq : n ≤ q) (hq2 : q ≤ 9223372036854775807) (e0 : w.cell? ⟨b, off, none⟩ = some (.int .i64 k0)) (e1 : w.cell? ⟨b, off + 1, none⟩ = some (.int .i64 g0)) (e2 : w.cell? ⟨b, off + 2, none⟩ = some (.int .i64 l0)) (e3 : w.cell? ⟨b, off + 3, none⟩ = some (.slice a0 n0 q0)) (HTg : Hid (∀ W, Below w.heap.size w W → Calls Try.prog 79 #[.agg #[.int .i64 k0, .int .i64 g0, .int .i64 l0, .slice a0 n0 q0]] W fun e W' => e = .returned (.int .i64 (tg)) ∧ Below W.heap.size W W')) (H0 : Hid (∀ W, Below w.heap.size w W → ∀ (G : Nat → Prop) (y : Value), TyRep G W (ground tg) y → Calls Try.prog 55 #[.agg #[.int .i64 k0, .int .i64 g0, .int .i64 l0, .slice a0 n0 q0], y, .agg #[.int .i64 tk, .slice ta tn tq]] W fun e W' => e = .returned (.bool (r0)) ∧ Below W.heap.size W W')) (HNN : Hid ((nn : Int) = tkids tg)) (HN2 : Hid (nn ≤ 2)) (HGR : Hid (ground tg = .mk tg (List.replicate nn (.mk 1 [])))) :
    Calls Try.prog 55 #[.agg #[.int .i64 5, .int .i64 g, .int .i64 l, .slice (some ⟨b, off, none⟩) n q], .agg #[.int .i64 fk, .slice fa fn fq], .agg #[.int .i64 tk, .slice ta tn tq]] w fun e w' => e = .returned (.bool (fk == 1 && r0)) ∧ Below w.heap.size w w' := by
  obtain ⟨rr, hrr⟩ : ∃ rr0 : Bool, (fk == 1 && r0) = rr0 := ⟨_, rfl⟩
  rw [hrr]
  have HT := Lib.hid hrr
  clear hrr
  have hn0 : (0 : Int) < (n : Int) := by omega
  obtain ⟨i0, hi, hz0, hz1, hz2⟩ := info_parts Try.infoTy
  have Z0 := Lib.hid hz0
  have Z1 := Lib.hid hz1
  have Z2 := Lib.hid hz2
  have HI := Lib.hid hi
  have hnn2 := HN2.out
  clear hz0 hz1 hz2 hi
  have lb : b < w.heap.size := World.block_lt_of_cell? _ _ e0
  have lb_1 : b < w.heap.size + 1 := by omega
  have lb_2 : b < w.heap.size + 1 + 1 := by omega
  go_enter Try.func55, Try.ntmps55
  go_wp2_with fail
  refine (HTg.out _ bal3).mono ?_
  rintro e w1 ⟨rfl, hb1⟩
  have hB := (bstep bal3 hb1)
  have zw1 := hB.size
  have c0_3 : w1.cell? ⟨w.heap.size, 3, none⟩ = some (.slice (some ⟨b, off, none⟩) n q) := bcell hb1 (bcell bal1 (bcell bal1 (cell_new (by simp) 3)))
  have c1_0 : w1.cell? ⟨w.heap.size + 1, 0, none⟩ = some (.int .i64 fk) := bcell hb1 (bcell bal1 (cell_new (by simp) 0))
  have c1_1 : w1.cell? ⟨w.heap.size + 1, 1, none⟩ = some (.slice fa fn fq) := bcell hb1 (bcell bal1 (cell_new (by simp) 1))
  have c2_0 : w1.cell? ⟨w.heap.size + 1 + 1, 0, none⟩ = some (.int .i64 tk) := bcell hb1 (cell_new (by simp) 0)
  have c2_1 : w1.cell? ⟨w.heap.size + 1 + 1, 1, none⟩ = some (.slice ta tn tq) := bcell hb1 (cell_new (by simp) 1)
  replace e0 : w1.cell? ⟨b, off, none⟩ = some (.int .i64 k0) := bcell hb1 (bcell bal1 (bcell bal1 (bcell bal1 (e0))))
  replace e1 : w1.cell? ⟨b, off + 1, none⟩ = some (.int .i64 g0) := bcell hb1 (bcell bal1 (bcell bal1 (bcell bal1 (e1))))
  replace e2 : w1.cell? ⟨b, off + 2, none⟩ = some (.int .i64 l0) := bcell hb1 (bcell bal1 (bcell bal1 (bcell bal1 (e2))))
  replace e3 : w1.cell? ⟨b, off + 3, none⟩ = some (.slice a0 n0 q0) := bcell hb1 (bcell bal1 (bcell bal1 (bcell bal1 (e3))))
  have d0_w1 := World.block_lt_of_cell? _ _ c0_3
  have d1_w1 := World.block_lt_of_cell? _ _ c1_0
  have d2_w1 := World.block_lt_of_cell? _ _ c2_0
  have db_w1 := World.block_lt_of_cell? _ _ e0
  go_wp2_with fail
  go_loopw [9] (fun i wr => ∃ j : Nat, j ≤ nn ∧ i = .int .i64 j ∧ Below w.heap.size w wr ∧ w1.heap.size < wr.heap.size ∧ (∀ o, wr.frozen? ⟨w1.heap.size, o, none⟩ = false) ∧ wr.cell? ⟨w1.heap.size, 0, none⟩ = some (.int .i64 tg) ∧ wr.cell? ⟨w.heap.size, 3, none⟩ = some (.slice (some ⟨b, off, none⟩) n q) ∧ wr.cell? ⟨w.heap.size + 1, 0, none⟩ = some (.int .i64 fk) ∧ wr.cell? ⟨w.heap.size + 1, 1, none⟩ = some (.slice fa fn fq) ∧ wr.cell? ⟨w.heap.size + 1 + 1, 0, none⟩ = some (.int .i64 tk) ∧ wr.cell? ⟨w.heap.size + 1 + 1, 1, none⟩ = some (.slice ta tn tq) ∧ wr.cell? ⟨b, off, none⟩ = some (.int .i64 k0) ∧ wr.cell? ⟨b, off + 1, none⟩ = some (.int .i64 g0) ∧ wr.cell? ⟨b, off + 2, none⟩ = some (.int .i64 l0) ∧ wr.cell? ⟨b, off + 3, none⟩ = some (.slice a0 n0 q0) ∧ ∃ v, wr.cell? ⟨w1.heap.size, 1, none⟩ = some v ∧ AccNew (w1.heap.size + 1) 42 2 wr v j (Ty.rows (List.replicate j (Ty.mk 1 [])))) (fun i _ => nn - (intOf i).toNat)
  case atStart => exact ⟨0, by omega, rfl, (hB.alloc hB.size _), by simp, fun o => fro_n0 o, cell_n0 0, bcell bal1 (c0_3), bcell bal1 (c1_0), bcell bal1 (c1_1), bcell bal1 (c2_0), bcell bal1 (c2_1), bcell bal1 (e0), bcell bal1 (e1), bcell bal1 (e2), bcell bal1 (e3), .slice none 0 0, cell_n0 1, by simpa [Ty.rows] using AccNew.nil _ _ _ _⟩
  case round =>
    obtain ⟨j, hj, rfl, hbw, hsz, hf2, hk0, x0, x1, x2, x3, x4, x5, x6, x7, x8, v, hv, hacc⟩ := hrel
    by_cases hlt : j < nn
    · obtain ⟨xs, fps, ho, hl, hs, hd, hfp⟩ := hacc
      have HO := Lib.hid ho
      have HS := Lib.hid hs
      have HD := Lib.hid hd
      have HFP := Lib.hid hfp
      have HL := Lib.hid hl
      clear ho hs hd hfp hl
      obtain ⟨cv, qv, rfl⟩ : ∃ c q, v = .slice c j q := by
        rcases HO.out.2 with ⟨h, h0⟩ | ⟨g, cap, cur, h, _⟩
        · exact ⟨none, 0, by rw [h, h0]⟩
        · exact ⟨_, cap, h⟩
      go_wp2_with fail
      refine (specL1Kids tg _).mono ?_
      rintro e w0 ⟨rfl, rfl⟩
      rw [← HNN.out]
      go_wp2_with fail
      have hB3 : w1.heap.size + 1 ≤ wr.heap.size := by omega
      go_region_law (first
        | (go_simp; go_at_call 81; refine (specL1Any _).mono ?_; rintro e w8 ⟨v1, rfl, hv1, hb8⟩; obtain ⟨k8, c8, m8, q8, fp1, rfl, -, -, hs1, hd1, hx1⟩ := hv1.open; have hq1 : w8.cell? ⟨w1.heap.size, 1, none⟩ = some (.slice cv j qv) := bcell (bstep bdr hb8) hv; have hbz := hb8.size; have hl1 : w1.heap.size < w8.heap.size := World.block_lt_of_cell? _ _ hq1)
        | (refine step_append_lies _ (by rfl) (.tmp 144) (.tmp 146) 40 (by rfl) (w1.heap.size + 1) 42 i0 _ 2 32 Try.underlying40 HI.out Z0.out Z1.out Z2.out rfl (by omega) (.slice cv j qv) j xs (by rfl) (ownsRow_below HO.out (bstep (bstep bdr hb8) bal1))
            ⟨w8.heap.size, 0, none⟩ 1 1 [.int .i64 k8, .slice c8 m8 q8] (by rfl) (by rfl) (World.news_of_block (cs := #[.int .i64 k8, .slice c8 m8 q8]) (t := 42) (fr := (0, 0)) (heap_alloc_new w8 _)) (by simp [Value.oneCell'])
            (by omega) (by have := HN2.out; unfold maxLen; omega) (by have := HN2.out; omega) (by simp at hbz ⊢; omega) _ rfl ?_
           intro gg cap2 w2 hown2 hgrow hat hlt2
           have hfar := grown_far (bstep (bstep bdr hb8) bal1) HO.out hgrow
           have hq : w2.cell? ⟨w1.heap.size, 1, none⟩ = some (.slice cv j qv) := (World.cell?_of_block (a := ⟨w1.heap.size, 1, none⟩) (hfar (w1.heap.size) (by omega) (by omega))).trans hv
           have hqf : w2.frozen? ⟨w1.heap.size, 1, none⟩ = false := (World.frozen?_of_block (a := ⟨w1.heap.size, 1, none⟩) (hfar (w1.heap.size) (by omega) (by omega))).trans (hf2 _)
           have HFAR := Lib.hid hfar
           have hacc2 := AccNew.push HL.out HO.out HS.out HD.out HFP.out hB3 (bstep (bstep bdr hb8) bal1) (by simp) (hs1.move _ _ _ fun b hb => heap_alloc_old w8 _ (SOwn.lt _ _ _ hs1 b hb)) hd1 hx1 hown2 hgrow hat
           have HACC := Lib.hid hacc2
           have hbel := grown_below hbw (bstep (bstep bdr hb8) bal1) HO.out (by omega) hgrow
           have hsz2 : wr.heap.size ≤ w2.heap.size := Nat.le_trans (bstep (bstep bdr hb8) bal1).size hgrow.size
           clear hfar hacc2 hown2 hgrow hat hq1))
      all_goals
        go_wp2_with fail
        go_roundw
        case rel =>
          have hk2 := (World.cell?_of_block (a := ⟨w1.heap.size, 0, none⟩) (HFAR.out (w1.heap.size) (by omega) (by omega))).trans hk0
          have hf4 := fun o => (World.frozen?_of_block (a := ⟨w1.heap.size, o, none⟩) (HFAR.out (w1.heap.size) (by omega) (by omega))).trans (hf2 o)
          refine ⟨j + 1, by omega, by go_num, hbel.setCell (by show w.heap.size ≤ w1.heap.size; omega) _, by simp [World.setCell]; omega, fun o => (sc_fro _ _ _ _).trans (hf4 o), sc_far hk2 (by simp), (World.cell?_of_block (a := ⟨w.heap.size, 3, none⟩) ((Below.heap_setCell w2 ⟨w1.heap.size, 1, none⟩ _ _ (by show w.heap.size ≠ w1.heap.size; omega)).trans (HFAR.out (w.heap.size) (by omega) (by omega)))).trans x0, (World.cell?_of_block (a := ⟨w.heap.size + 1, 0, none⟩) ((Below.heap_setCell w2 ⟨w1.heap.size, 1, none⟩ _ _ (by show w.heap.size + 1 ≠ w1.heap.size; omega)).trans (HFAR.out (w.heap.size + 1) (by omega) (by omega)))).trans x1, (World.cell?_of_block (a := ⟨w.heap.size + 1, 1, none⟩) ((Below.heap_setCell w2 ⟨w1.heap.size, 1, none⟩ _ _ (by show w.heap.size + 1 ≠ w1.heap.size; omega)).trans (HFAR.out (w.heap.size + 1) (by omega) (by omega)))).trans x2, (World.cell?_of_block (a := ⟨w.heap.size + 1 + 1, 0, none⟩) ((Below.heap_setCell w2 ⟨w1.heap.size, 1, none⟩ _ _ (by show w.heap.size + 1 + 1 ≠ w1.heap.size; omega)).trans (HFAR.out (w.heap.size + 1 + 1) (by omega) (by omega)))).trans x3, (World.cell?_of_block (a := ⟨w.heap.size + 1 + 1, 1, none⟩) ((Below.heap_setCell w2 ⟨w1.heap.size, 1, none⟩ _ _ (by show w.heap.size + 1 + 1 ≠ w1.heap.size; omega)).trans (HFAR.out (w.heap.size + 1 + 1) (by omega) (by omega)))).trans x4, (World.cell?_of_block (a := ⟨b, off, none⟩) ((Below.heap_setCell w2 ⟨w1.heap.size, 1, none⟩ _ _ (by show b ≠ w1.heap.size; omega)).trans (HFAR.out (b) (by omega) (by omega)))).trans x5, (World.cell?_of_block (a := ⟨b, off + 1, none⟩) ((Below.heap_setCell w2 ⟨w1.heap.size, 1, none⟩ _ _ (by show b ≠ w1.heap.size; omega)).trans (HFAR.out (b) (by omega) (by omega)))).trans x6, (World.cell?_of_block (a := ⟨b, off + 2, none⟩) ((Below.heap_setCell w2 ⟨w1.heap.size, 1, none⟩ _ _ (by show b ≠ w1.heap.size; omega)).trans (HFAR.out (b) (by omega) (by omega)))).trans x7, (World.cell?_of_block (a := ⟨b, off + 3, none⟩) ((Below.heap_setCell w2 ⟨w1.heap.size, 1, none⟩ _ _ (by show b ≠ w1.heap.size; omega)).trans (HFAR.out (b) (by omega) (by omega)))).trans x8, _, sc_self hq, ?_⟩
          have h := HACC.out.setCell (p := ⟨w1.heap.size, 1, none⟩) (by show w1.heap.size < w1.heap.size + 1; omega) (.slice (some ⟨gg, 0, none⟩) (j + 1) cap2)
          rw [Ty.rows_eq] at h ⊢
          simp only [List.replicate_succ', List.map_append]
          exact h
        case measure => simp [intOf]; omega
    · obtain ⟨cv, qv, rfl⟩ := hacc.shape
      have hjn : j = nn := by omega
      subst hjn
      have hgr : TyNew (w1.heap.size + 1) wr (ground tg) (.agg #[.int .i64 tg, .slice cv j qv]) := by
        rw [HGR.out]
        exact TysNew.ty hacc.tys
      have hacc2 := Lib.hid hacc
      clear hacc
      go_wp2_with fail
      refine (specL1Kids tg _).mono ?_
      rintro e w0 ⟨rfl, rfl⟩
      rw [← HNN.out]
      rcases Bool.eq_false_or_eq_true (fk == 1) with q1 | q1
      · skip
        have nq1 : (fk != 1) = false := by simp only [bne, q1]; rfl
        go_wp2_with fail
        have hS0 := Lib.hid (show (World.drew wr).cell? ⟨w.heap.size + 1, 0, none⟩ = some (.int .i64 fk) ∧ (World.drew wr).cell? ⟨w.heap.size, 3, none⟩ = some (.slice (some ⟨b, off, none⟩) n q) ∧ (World.drew wr).cell? ⟨b, off, none⟩ = some (.int .i64 k0) ∧ (World.drew wr).cell? ⟨b, off + 1, none⟩ = some (.int .i64 g0) ∧ (World.drew wr).cell? ⟨b, off + 2, none⟩ = some (.int .i64 l0) ∧ (World.drew wr).cell? ⟨b, off + 3, none⟩ = some (.slice a0 n0 q0) ∧ (World.drew wr).cell? ⟨w1.heap.size, 0, none⟩ = some (.int .i64 tg) ∧ (World.drew wr).cell? ⟨w1.heap.size, 1, none⟩ = some (.slice cv j qv) ∧ (World.drew wr).cell? ⟨w.heap.size + 1 + 1, 0, none⟩ = some (.int .i64 tk) ∧ (World.drew wr).cell? ⟨w.heap.size + 1 + 1, 1, none⟩ = some (.slice ta tn tq) from ⟨dcell (x1), dcell (x0), dcell (x5), dcell (x6), dcell (x7), dcell (x8), dcell (hk0), dcell (hv), dcell (x3), dcell (x4)⟩)
        have hSb := Lib.hid (show ∀ X Y : World, Below X.heap.size X Y → (X.cell? ⟨w.heap.size + 1, 0, none⟩ = some (.int .i64 fk) ∧ X.cell? ⟨w.heap.size, 3, none⟩ = some (.slice (some ⟨b, off, none⟩) n q) ∧ X.cell? ⟨b, off, none⟩ = some (.int .i64 k0) ∧ X.cell? ⟨b, off + 1, none⟩ = some (.int .i64 g0) ∧ X.cell? ⟨b, off + 2, none⟩ = some (.int .i64 l0) ∧ X.cell? ⟨b, off + 3, none⟩ = some (.slice a0 n0 q0) ∧ X.cell? ⟨w1.heap.size, 0, none⟩ = some (.int .i64 tg) ∧ X.cell? ⟨w1.heap.size, 1, none⟩ = some (.slice cv j qv) ∧ X.cell? ⟨w.heap.size + 1 + 1, 0, none⟩ = some (.int .i64 tk) ∧ X.cell? ⟨w.heap.size + 1 + 1, 1, none⟩ = some (.slice ta tn tq)) → (Y.cell? ⟨w.heap.size + 1, 0, none⟩ = some (.int .i64 fk) ∧ Y.cell? ⟨w.heap.size, 3, none⟩ = some (.slice (some ⟨b, off, none⟩) n q) ∧ Y.cell? ⟨b, off, none⟩ = some (.int .i64 k0) ∧ Y.cell? ⟨b, off + 1, none⟩ = some (.int .i64 g0) ∧ Y.cell? ⟨b, off + 2, none⟩ = some (.int .i64 l0) ∧ Y.cell? ⟨b, off + 3, none⟩ = some (.slice a0 n0 q0) ∧ Y.cell? ⟨w1.heap.size, 0, none⟩ = some (.int .i64 tg) ∧ Y.cell? ⟨w1.heap.size, 1, none⟩ = some (.slice cv j qv) ∧ Y.cell? ⟨w.heap.size + 1 + 1, 0, none⟩ = some (.int .i64 tk) ∧ Y.cell? ⟨w.heap.size + 1 + 1, 1, none⟩ = some (.slice ta tn tq)) from fun X Y h s => ⟨bcell h s.1, bcell h s.2.1, bcell h s.2.2.1, bcell h s.2.2.2.1, bcell h s.2.2.2.2.1, bcell h s.2.2.2.2.2.1, bcell h s.2.2.2.2.2.2.1, bcell h s.2.2.2.2.2.2.2.1, bcell h s.2.2.2.2.2.2.2.2.1, bcell h s.2.2.2.2.2.2.2.2.2⟩)
        go_region_held3 (fun w' => w'.cell? ⟨w.heap.size + 1, 0, none⟩ = some (.int .i64 fk) ∧ w'.cell? ⟨w.heap.size, 3, none⟩ = some (.slice (some ⟨b, off, none⟩) n q) ∧ w'.cell? ⟨b, off, none⟩ = some (.int .i64 k0) ∧ w'.cell? ⟨b, off + 1, none⟩ = some (.int .i64 g0) ∧ w'.cell? ⟨b, off + 2, none⟩ = some (.int .i64 l0) ∧ w'.cell? ⟨b, off + 3, none⟩ = some (.slice a0 n0 q0) ∧ w'.cell? ⟨w1.heap.size, 0, none⟩ = some (.int .i64 tg) ∧ w'.cell? ⟨w1.heap.size, 1, none⟩ = some (.slice cv j qv) ∧ w'.cell? ⟨w.heap.size + 1 + 1, 0, none⟩ = some (.int .i64 tk) ∧ w'.cell? ⟨w.heap.size + 1 + 1, 1, none⟩ = some (.slice ta tn tq))
          (repeat (first | with_reducible refine hSb.out _ _ hb2 ?_ | with_reducible exact hS0.out))
          (first | (go_at_call 55; ((with_reducible refine (H0.out _ hbw.drew _ _ ((hgr.below bdr).rep)).mono ?_); rintro e w2 ⟨rfl, hb2⟩)))
        replace hB := (bstep hbw.drew hb2)
        have zw2 := hB.size
        go_wp2_with fail
        refine bodyPost_ret (v := .bool (r0)) (by simp [results, Try.results55, go_sem, bne]) rfl ?_
        exact ⟨ret_bool ((leaf_ldspec5_0 fk r0 q1).trans HT.out), hB⟩
      · skip
        have nq1 : (fk != 1) = true := by simp only [bne, q1]; rfl
        go_wp2_with fail
        refine wp_region_noPanic ?_
        refine wp_region_held_drew (S := fun w' => w'.cell? ⟨w.heap.size + 1, 0, none⟩ = some (.int .i64 fk)) (by kernel_rfl) ?_ (fun hHeld0 => ?_)
        · exact dcell (x1)
        refine wpAnyH_take (i := 0) (oi := { dst := some 149, op := Op.fieldAddr 42 (Operand.tmp 4) 0, type := 0, pos := "l6_coercions.go:281", after := #[], guard := none }) (v := .pointer (some ⟨w.heap.size + 1, 0, none⟩)) rfl (by kernel_rfl) (by kernel_rfl) (by kernel_rfl) (fun _ _ _ h => h) (Or.inl ⟨by rfl, ?_⟩) hHeld0 ?_
        · intro w' hSw; (try dsimp only at hSw); go_simp
        (try simp only [Act.put, List.setIfInBounds_toArray, List.set_cons_zero, List.set_cons_succ])
        refine wpAnyH_take (i := 1) (oi := { dst := some 150, op := Op.load 3 (Operand.tmp 149), type := 3, pos := "l6_coercions.go:281", after := #[{ on := 0, ground := Ground.data }], guard := none }) (v := .int .i64 fk) rfl (by kernel_rfl) (by kernel_rfl) (by kernel_rfl) (fun _ _ _ h => h) (Or.inl ⟨by rfl, ?_⟩) hHeld0 ?_
        · intro w' hSw; (try dsimp only at hSw); go_simp
        (try simp only [Act.put, List.setIfInBounds_toArray, List.set_cons_zero, List.set_cons_succ])
        refine wpAnyH_take (i := 2) (oi := { dst := some 151, op := Op.binOp BinOp.eql 3 (Operand.tmp 150) (Operand.const (Value.int IntKind.i64 1)) 3, type := 4, pos := "l6_coercions.go:281", after := #[{ on := 1, ground := Ground.data }], guard := none }) (v := .bool false) rfl (by kernel_rfl) (by kernel_rfl) (by kernel_rfl) (fun _ _ _ h => h) (Or.inl ⟨by rfl, ?_⟩) hHeld0 ?_
        · intro w' hSw; (try dsimp only at hSw); go_simp
        (try simp only [Act.put, List.setIfInBounds_toArray, List.set_cons_zero, List.set_cons_succ])
        refine wpAnyH_take (i := 3) (oi := { dst := some 152, op := Op.move (Operand.tmp 151), type := 4, pos := "l6_coercions.go:281", after := #[{ on := 2, ground := Ground.data }], guard := none }) (v := .bool false) rfl (by kernel_rfl) (by kernel_rfl) (by kernel_rfl) (fun _ _ _ h => h) (Or.inl ⟨by rfl, ?_⟩) hHeld0 ?_
        · intro w' hSw; (try dsimp only at hSw); go_simp
        (try simp only [Act.put, List.setIfInBounds_toArray, List.set_cons_zero, List.set_cons_succ])
        refine wpAnyH_take (i := 4) (oi := { dst := some 153, op := Op.fieldAddr 29 (Operand.tmp 3) 3, type := 0, pos := "l6_coercions.go:281", after := #[{ on := 3, ground := Ground.guard }], guard := some (3, true) }) (v := undef) rfl (by kernel_rfl) (by kernel_rfl) (by kernel_rfl) (fun _ _ _ h => h) (Or.inr ⟨by rfl, rfl⟩) hHeld0 ?_
        (try simp only [Act.put, List.setIfInBounds_toArray, List.set_cons_zero, List.set_cons_succ])
        refine wpAnyH_take (i := 5) (oi := { dst := some 154, op := Op.load 27 (Operand.tmp 153), type := 27, pos := "l6_coercions.go:281", after := #[{ on := 4, ground := Ground.data }, { on := 3, ground := Ground.guard }], guard := some (3, true) }) (v := undef) rfl (by kernel_rfl) (by kernel_rfl) (by kernel_rfl) (fun _ _ _ h => h) (Or.inr ⟨by rfl, rfl⟩) hHeld0 ?_
        (try simp only [Act.put, List.setIfInBounds_toArray, List.set_cons_zero, List.set_cons_succ])
        refine wpAnyH_take (i := 6) (oi := { dst := some 155, op := Op.indexAddr 27 (Operand.tmp 154) (Operand.const (Value.int IntKind.i64 0)), type := 0, pos := "l6_coercions.go:281", after := #[{ on := 5, ground := Ground.data }, { on := 3, ground := Ground.guard }], guard := some (3, true) }) (v := undef) rfl (by kernel_rfl) (by kernel_rfl) (by kernel_rfl) (fun _ _ _ h => h) (Or.inr ⟨by rfl, rfl⟩) hHeld0 ?_
        (try simp only [Act.put, List.setIfInBounds_toArray, List.set_cons_zero, List.set_cons_succ])
        refine wpAnyH_take (i := 7) (oi := { dst := some 156, op := Op.load 29 (Operand.tmp 155), type := 29, pos := "l6_coercions.go:281", after := #[{ on := 6, ground := Ground.data }, { on := 3, ground := Ground.guard }], guard := some (3, true) }) (v := undef) rfl (by kernel_rfl) (by kernel_rfl) (by kernel_rfl) (fun _ _ _ h => h) (Or.inr ⟨by rfl, rfl⟩) hHeld0 ?_
        (try simp only [Act.put, List.setIfInBounds_toArray, List.set_cons_zero, List.set_cons_succ])
        refine wpAnyH_take (i := 8) (oi := { dst := some 157, op := Op.load 42 (Operand.tmp 8), type := 42, pos := "l6_coercions.go:281", after := #[{ on := 3, ground := Ground.guard }], guard := some (3, true) }) (v := undef) rfl (by kernel_rfl) (by kernel_rfl) (by kernel_rfl) (fun _ _ _ h => h) (Or.inr ⟨by rfl, rfl⟩) hHeld0 ?_
        (try simp only [Act.put, List.setIfInBounds_toArray, List.set_cons_zero, List.set_cons_succ])
        refine wpAnyH_take (i := 9) (oi := { dst := some 158, op := Op.load 42 (Operand.tmp 5), type := 42, pos := "l6_coercions.go:281", after := #[{ on := 3, ground := Ground.guard }], guard := some (3, true) }) (v := undef) rfl (by kernel_rfl) (by kernel_rfl) (by kernel_rfl) (fun _ _ _ h => h) (Or.inr ⟨by rfl, rfl⟩) hHeld0 ?_
        (try simp only [Act.put, List.setIfInBounds_toArray, List.set_cons_zero, List.set_cons_succ])
        refine wpAnyH_take (i := 10) (oi := { dst := some 159, op := Op.call { callee := Callee.value (Operand.func 55), args := #[Operand.tmp 156, Operand.tmp 157, Operand.tmp 158], argTypes := #[29, 42, 42] }, type := 4, pos := "l6_coercions.go:281", after := #[{ on := 7, ground := Ground.data }, { on := 8, ground := Ground.data }, { on := 9, ground := Ground.data }, { on := 3, ground := Ground.chain }, { on := 3, ground := Ground.guard }], guard := some (3, true) }) (v := undef) rfl (by kernel_rfl) (by kernel_rfl) (by kernel_rfl) (fun _ _ _ h => h) (Or.inr ⟨by rfl, rfl⟩) hHeld0 ?_
        (try simp only [Act.put, List.setIfInBounds_toArray, List.set_cons_zero, List.set_cons_succ])
        refine wpAnyH_take (i := 11) (oi := { dst := some 160, op := Op.pick (Operand.tmp 152) (Operand.tmp 159) (Operand.const (Value.bool false)), type := 4, pos := "l6_coercions.go:281", after := #[{ on := 3, ground := Ground.data }, { on := 10, ground := Ground.data }], guard := none }) (v := .bool false) rfl (by kernel_rfl) (by kernel_rfl) (by kernel_rfl) (fun _ _ _ h => h) (Or.inl ⟨by rfl, ?_⟩) hHeld0 ?_
        · intro w' hSw; (try dsimp only at hSw); go_simp
        (try simp only [Act.put, List.setIfInBounds_toArray, List.set_cons_zero, List.set_cons_succ])
        refine wpAnyH_take (i := 12) (oi := { dst := some 6, op := Op.assign (Operand.tmp 160), type := 4, pos := "l6_coercions.go:281", after := #[{ on := 11, ground := Ground.data }, { on := 10, ground := Ground.chain }, { on := 0, ground := Ground.phase }, { on := 1, ground := Ground.phase }, { on := 2, ground := Ground.phase }, { on := 3, ground := Ground.phase }, { on := 4, ground := Ground.phase }, { on := 5, ground := Ground.phase }, { on := 6, ground := Ground.phase }, { on := 7, ground := Ground.phase }, { on := 8, ground := Ground.phase }, { on := 9, ground := Ground.phase }, { on := 10, ground := Ground.phase }, { on := 11, ground := Ground.phase }], guard := none }) (v := .bool false) rfl (by kernel_rfl) (by kernel_rfl) (by kernel_rfl) (fun _ _ _ h => h) (Or.inl ⟨by rfl, ?_⟩) hHeld0 ?_
        · intro w' hSw; (try dsimp only at hSw); go_simp
        (try simp only [Act.put, List.setIfInBounds_toArray, List.set_cons_zero, List.set_cons_succ])
        refine wpAnyH_done (by kernel_rfl) ?_ _
        refine NoPanic.normal ?_
        clear hHeld0
        go_wp2_with fail
        refine bodyPost_ret (v := .bool (false)) (by simp [results, Try.results55, go_sem, bne]) rfl ?_
        exact ⟨ret_bool ((leaf_ldspec5_1 fk r0 q1).trans HT.out), hbw.drew⟩
end Go.Proofs.Ytohnlkkofbploaa
