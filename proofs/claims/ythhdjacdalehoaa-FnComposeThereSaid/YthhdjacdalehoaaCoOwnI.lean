/-
  own: a coercion that shares nothing.
-/
import Derived.Test.YthhdjacdalehoaaCoCopy
import Derived.Deep.AppendLies
namespace Go.Proofs.Ythhdjacdalehoaa
open Go.RowKit
set_option linter.unusedVariables false
set_option linter.unusedSimpArgs false
set_option maxRecDepth 100000

set_option maxHeartbeats 4000000 in
theorem implOwnCo (F : Nat → Prop) (t : Co) : ∀ (y : Value) (w : World), CoRep F w t y → t.cnt ≤ 1048576 →
    Calls Try.prog 25 #[y] w (RetCo t w) := by
  intro y w hy hcnt
  have IH : ∀ t' ∈ t.kids, ∀ (y : Value) (W : World), CoRep F W t' y → Calls Try.prog 25 #[y] W (RetCo t' W) :=
    fun t' ht y W h => implOwnCo F t' y W h (by have := Co.cnt_kid ht; omega)
  obtain ⟨a, cap, rfl, h2, h3, hr⟩ := hy.open
  cases t with | mk k g l ts =>
  simp only [Co.kind, Co.tag, Co.label, Co.kids] at *
  unfold maxLen at h3
  have IHH := Lib.hid IH
  have HCN := Lib.hid (show ts.length ≤ 1048576 by simp only [Co.cnt] at hcnt; omega)
  clear IH hy hcnt
  obtain ⟨n, hn⟩ : ∃ n, ts.length = n := ⟨_, rfl⟩
  rw [hn] at h2 hr HCN
  rw [hn]
  have HN := Lib.hid hn
  clear hn
  obtain ⟨i0, hi, hz0, hz1, hz2⟩ := info_parts Try.infoCo
  have Z0 := Lib.hid hz0
  have Z1 := Lib.hid hz1
  have Z2 := Lib.hid hz2
  have HI := Lib.hid hi
  clear hz0 hz1 hz2 hi
  go_enter Try.func25, Try.ntmps25
  go_wp2_with fail
  go_loopw [9, 3] (fun i p wr => ∃ j : Nat, j ≤ n ∧ i = .int .i64 j ∧ Below w.heap.size w wr ∧ w.heap.size + 1 + 1 ≤ wr.heap.size ∧
      Hid (∀ x, x < w.heap.size + 1 + 1 → wr.heap[x]? = ((w.alloc (.cells #[.int .i64 k, .int .i64 g, .int .i64 l, .slice a n cap] 28)).alloc (.cells #[.int .i64 0, .int .i64 0, .int .i64 0, .slice none 0 0] 28)).heap[x]?) ∧
      Hid (AccNew (w.heap.size + 1 + 1) 28 4 wr p j (Co.rows (ts.take j)))) (fun i _ _ => n - (intOf i).toNat)
  case atStart => exact ⟨0, by omega, rfl, bal2, by simp, fun _ _ => rfl, by simpa [Hid, Co.rows] using AccNew.nil _ _ _ _⟩
  case round =>
    obtain ⟨j, hj, rfl, hbw, hsz, hold, hacc⟩ := hrel
    by_cases hlt : j < n
    · have hjt : j < ts.length := by rw [HN.out]; exact hlt
      obtain ⟨b, off, k0, g0, l0, a0, m0, q0, rfl, lb, e0, e1, e2, e3, ht⟩ := hr.at hbw hjt
      have HC := Lib.hid (fun W (h : Below wr.heap.size wr W) => IHH.out ts[j] (List.getElem_mem hjt) _ W (ht.below h))
      obtain ⟨cv, qv, rfl⟩ := hacc.out.shape
      obtain ⟨xs, fps, ho, hl, hs, hd, hfp⟩ := hacc.out
      have HO := Lib.hid ho
      have HS := Lib.hid hs
      have HD := Lib.hid hd
      have HFP := Lib.hid hfp
      have HL := Lib.hid hl
      clear ho hs hd hfp hl hacc ht
      go_wp2_with fail
      refine (HC.out _ bal1).mono ?_
      rintro e w1 ⟨v1, rfl, hv1, hb1⟩
      obtain ⟨k1, g1, l1, c1, m1, q1, fp1, rfl, -, -, hs1, hd1, hx1⟩ := hv1.open
      have hbz : wr.heap.size + 1 ≤ w1.heap.size := by have := hb1.size; simp at this; omega
      have HBA := Lib.hid (bstep (bal1 (o := .cells #[.int .i64 k0, .int .i64 g0, .int .i64 l0, .slice a0 m0 q0] 28)) hb1)
      have HS1 := Lib.hid hs1
      have HD1 := Lib.hid hd1
      have HX1 := Lib.hid hx1
      clear hs1 hd1 hx1 hb1 hv1
      go_wp2_with (first | (at_builtin; refine wpList_append_lies _ rfl (.tmp 13) (.tmp 16) 26 rfl (w.heap.size + 1 + 1) 28 i0 _ 4 48 Try.underlying26 HI.out Z0.out Z1.out Z2.out rfl (by omega) (.slice cv j qv) j xs rfl (ownsRow_below HO.out (bstep HBA.out bal1)) ⟨w1.heap.size, 0, none⟩ 1 1 [.int .i64 k1, .int .i64 g1, .int .i64 l1, .slice c1 m1 q1] rfl rfl (World.news_of_block (cs := #[.int .i64 k1, .int .i64 g1, .int .i64 l1, .slice c1 m1 q1]) (t := 28) (fr := (0, 0)) (heap_alloc_new w1 _)) (by simp [Value.oneCell']) (by omega) (by have := HCN.out; unfold maxLen; omega) (by have := HCN.out; omega) (by simp; omega) _ rfl ?_) | fail)
      intro gg cap2 w2 hown2 hgrow hat hlt2
      have hacc2 := AccNew.push (W0 := wr) HL.out HO.out HS.out HD.out HFP.out (by omega) (bstep HBA.out bal1) (Nat.le_refl _) (HS1.out.move _ _ _ fun b hb => heap_alloc_old w1 _ (SOwn.lt _ _ _ HS1.out b hb)) HD1.out (fun x hx => by have h1 := HX1.out x hx; simp at h1; omega) hown2 hgrow (hat.elim .inl (fun h => .inr (by rw [h]; simp)))
      have hfar := grown_far (bstep HBA.out bal1) HO.out hgrow
      have hbel := grown_below hbw (bstep HBA.out bal1) HO.out (by omega) hgrow
      have hold2 := Lib.hid (fun x (hx : x < w.heap.size + 1 + 1) => (hfar x (by omega) hx).trans (hold.out x hx))
      have hsz2 : wr.heap.size ≤ w2.heap.size := Nat.le_trans (bstep HBA.out bal1).size hgrow.size
      have HACC := Lib.hid hacc2
      clear hacc2 hfar hown2 hgrow hat
      go_wp2_with fail
      go_roundw
      case rel =>
        refine ⟨j + 1, by omega, by go_num, hbel, by omega, hold2.out, ?_⟩
        have h := HACC.out
        rw [Co.rows_eq] at h
        show AccNew _ _ _ _ _ _ _
        rw [Co.rows_eq, List.take_succ_eq_append_getElem hjt, List.map_append]
        exact h
      case measure => simp [intOf]; omega
    · obtain ⟨cv, qv, rfl⟩ := hacc.out.shape
      have hjn : j = n := by omega
      subst hjn
      have HA := hacc.out
      rw [List.take_of_length_le (by rw [HN.out]; omega)] at HA
      have HACC := Lib.hid HA
      clear HA hacc
      have fw1 := hold.out w.heap.size (by omega)
      have fw2 := hold.out (w.heap.size + 1) (by omega)
      have c0 : wr.cell? ⟨w.heap.size, 0, none⟩ = some (.int .i64 k) := (World.cell?_of_block (a := ⟨w.heap.size, 0, none⟩) fw1).trans (bcell bal1 (cell_n0 0))
      have c1 : wr.cell? ⟨w.heap.size, 1, none⟩ = some (.int .i64 g) := (World.cell?_of_block (a := ⟨w.heap.size, 1, none⟩) fw1).trans (bcell bal1 (cell_n0 1))
      have c2 : wr.cell? ⟨w.heap.size, 2, none⟩ = some (.int .i64 l) := (World.cell?_of_block (a := ⟨w.heap.size, 2, none⟩) fw1).trans (bcell bal1 (cell_n0 2))
      have c3 : wr.cell? ⟨w.heap.size, 3, none⟩ = some (.slice a j cap) := (World.cell?_of_block (a := ⟨w.heap.size, 3, none⟩) fw1).trans (bcell bal1 (cell_n0 3))
      have r0 : wr.cell? ⟨w.heap.size + 1, 0, none⟩ = some (.int .i64 0) := (World.cell?_of_block (a := ⟨w.heap.size + 1, 0, none⟩) fw2).trans (cell_n1 0)
      have r1 : wr.cell? ⟨w.heap.size + 1, 1, none⟩ = some (.int .i64 0) := (World.cell?_of_block (a := ⟨w.heap.size + 1, 1, none⟩) fw2).trans (cell_n1 1)
      have r2 : wr.cell? ⟨w.heap.size + 1, 2, none⟩ = some (.int .i64 0) := (World.cell?_of_block (a := ⟨w.heap.size + 1, 2, none⟩) fw2).trans (cell_n1 2)
      have r3 : wr.cell? ⟨w.heap.size + 1, 3, none⟩ = some (.slice none 0 0) := (World.cell?_of_block (a := ⟨w.heap.size + 1, 3, none⟩) fw2).trans (cell_n1 3)
      have f3 : wr.frozen? ⟨w.heap.size, 3, none⟩ = false := (World.frozen?_of_block (a := ⟨w.heap.size, 3, none⟩) fw1).trans (bfro bal1 (by simp) (fro_n0 3))
      have g0 : wr.frozen? ⟨w.heap.size + 1, 0, none⟩ = false := (World.frozen?_of_block (a := ⟨w.heap.size + 1, 0, none⟩) fw2).trans (fro_n1 0)
      have g1 : wr.frozen? ⟨w.heap.size + 1, 1, none⟩ = false := (World.frozen?_of_block (a := ⟨w.heap.size + 1, 1, none⟩) fw2).trans (fro_n1 1)
      have g2 : wr.frozen? ⟨w.heap.size + 1, 2, none⟩ = false := (World.frozen?_of_block (a := ⟨w.heap.size + 1, 2, none⟩) fw2).trans (fro_n1 2)
      have g3 : wr.frozen? ⟨w.heap.size + 1, 3, none⟩ = false := (World.frozen?_of_block (a := ⟨w.heap.size + 1, 3, none⟩) fw2).trans (fro_n1 3)
      clear fw1 fw2 hold
      go_wp2_with fail
      refine bodyPost_ret (v := .agg #[.int .i64 k, .int .i64 g, .int .i64 l, .slice cv j qv]) (by simp [results, Try.results25, go_sem, r0, r1, r2, r3]) rfl ?_
      refine ⟨_, rfl, CoNew.mono (CosNew.co (((((HACC.out.cos.setCell (by show w.heap.size < w.heap.size + 1 + 1; omega) _).setCell (by show w.heap.size + 1 < w.heap.size + 1 + 1; omega) _).setCell (by show w.heap.size + 1 < w.heap.size + 1 + 1; omega) _).setCell (by show w.heap.size + 1 < w.heap.size + 1 + 1; omega) _).setCell (by show w.heap.size + 1 < w.heap.size + 1 + 1; omega) _)) (by omega), ?_⟩
      exact ((((hbw.setCell (by show w.heap.size ≤ w.heap.size; omega) _).setCell (by show w.heap.size ≤ w.heap.size + 1; omega) _).setCell (by show w.heap.size ≤ w.heap.size + 1; omega) _).setCell (by show w.heap.size ≤ w.heap.size + 1; omega) _).setCell (by show w.heap.size ≤ w.heap.size + 1; omega) _
termination_by SizeOf.sizeOf t
decreasing_by exact Co.kid_lt ht
end Go.Proofs.Ythhdjacdalehoaa
