/-
  The labels of a term with casts, by the reference: a number added to a list.
-/
import Derived.Test.YtghgjpcibdfbmaaTmLabI
namespace Go.Proofs.Ytghgjpcibdfbmaa
open Go.RowKit
set_option linter.unusedVariables false
set_option linter.unusedSimpArgs false
set_option maxRecDepth 100000

theorem ownsRow_mono {w : World} {B B' n size : Nat} {e : TypeId} {v : Value} {xs : List Value} (h : w.ownsRow B e size v n xs) (hb : B' ≤ B) : w.ownsRow B' e size v n xs := by
  obtain ⟨h0, h1⟩ := h
  rcases h1 with h1 | ⟨g, cap, cur, e1, e2, e3⟩
  · exact ⟨h0, .inl h1⟩
  · exact ⟨h0, .inr ⟨g, cap, cur, e1, Nat.le_trans hb e2, e3⟩⟩
theorem ownsRow_empty {B g : Nat} {e : TypeId} {size : Nat} {w : World} (hB : B ≤ g) (h : w.heap[g]? = some (.cells #[] e (0, 0))) : w.ownsRow B e size (.slice (some ⟨g, 0, none⟩) 0 0) 0 [] :=
  ⟨by simp, .inr ⟨g, 0, #[], rfl, hB, h, Nat.le_refl _, by unfold maxLen; omega, by simp, by simp⟩⟩
theorem sins_done {n : Int} {l O : List Int} {d : Bool} (h : n ∉ l) (hs : sfold n l = (O, d)) : sins n l = if d then O else O ++ [n] := by
  unfold sins
  rw [if_neg (fun hc => h (List.contains_iff_mem.1 hc)), hs]
set_option maxHeartbeats 8000000 in
theorem specL4Sorted (B : Nat) (l : List Int) (n : Nat) (nn : Int) (v : Value) (w : World) (hown : w.ownsRow B 3 1 v n (l.map (Value.int .i64))) (hn : n ≤ 100000) (hBw : B ≤ w.heap.size) :
    Calls Try.prog 108 #[v, .int .i64 nn] w fun e w' => ∃ v', e = .returned v' ∧ w'.ownsRow B 3 1 v' (sins nn l).length ((sins nn l).map (Value.int .i64)) ∧ Below w.heap.size w w' := by
  have hl : l.length = n := by have := hown.1; simpa using this
  obtain ⟨i0, hi, hz0, hz1, hz2⟩ := info_parts Try.infoInt
  obtain ⟨lv, lq, rfl⟩ := ownsRow_shape hown
  have Z0 := Lib.hid hz0
  have Z1 := Lib.hid hz1
  have Z2 := Lib.hid hz2
  have HI := Lib.hid hi
  have HL := Lib.hid hl
  have HOWN := Lib.hid hown
  have hlq : n ≤ lq := by
    rcases hown.2 with ⟨he, h0⟩ | ⟨g, cap, cur, he, -, -, h1, -⟩
    · omega
    · cases he; exact h1
  have hlm : lq ≤ maxLen := by
    rcases hown.2 with ⟨he, h0⟩ | ⟨g, cap, cur, he, -, -, h1, h2, -⟩
    · cases he; exact Nat.zero_le _
    · cases he; exact h2
  unfold maxLen at hlm
  obtain ⟨RR, hRR⟩ : ∃ x, sins nn l = x := ⟨_, rfl⟩
  rw [hRR]
  have HRR := Lib.hid hRR
  clear hz0 hz1 hz2 hi hl hown hRR
  go_enter Try.func108, Try.ntmps108
  go_wp2_with fail
  go_loopw [7, 5, 6] (fun i o dn wr => ∃ j : Nat, j ≤ n ∧ i = .int .i64 j ∧ (∃ (O : List Int) (N : Nat) (d : Bool) (ov : Value), ov = o ∧ dn = .bool d ∧ N ≤ 2 * j ∧ Hid (wr.ownsRow w.heap.size 3 1 ov N (O.map (Value.int .i64))) ∧ Hid (sfold nn (l.take j) = (O, d))) ∧ Hid (nn ∉ l.take j) ∧ Hid (Below w.heap.size w wr) ∧ w.heap.size ≤ wr.heap.size) (fun i _ _ _ => n - (intOf i).toNat)
  case atStart => exact ⟨0, by omega, rfl, ⟨[], 0, false, _, rfl, rfl, by omega, ownsRow_empty (Nat.le_refl _) (heap_alloc_new w _), by simp [Hid, sfold]⟩, by simp [Hid], bal1, by simp⟩
  case round =>
    obtain ⟨j, hj, rfl, ⟨O, N, d, ov, rfl, rfl, hNj, hown, hsf⟩, hni, hbw, hsz⟩ := hrel
    obtain ⟨cv, qv, rfl⟩ := ownsRow_shape hown.out
    by_cases hlt : j < n
    · have hjt : j < l.length := by rw [HL.out]; exact hlt
      have hlt' : (j : Int) < (n : Int) := by omega
      obtain ⟨g, rfl, hgB, hgl⟩ : ∃ g, lv = some ⟨g, 0, none⟩ ∧ B ≤ g ∧ g < w.heap.size := by
        rcases HOWN.out.2 with ⟨he, h0⟩ | ⟨g, cap, cur, he, hb, hg, -⟩
        · omega
        · cases he; exact ⟨g, rfl, hb, (Array.getElem?_eq_some_iff.1 hg).1⟩
      have e0w : w.cell? ⟨g, j, none⟩ = some (.int .i64 l[j]) := by
        have h := ownsRow_cells HOWN.out j (.int .i64 l[j]) (by simp [hjt])
        have e1 : (⟨g, 0, none⟩ : Addr).add j = ⟨g, j, none⟩ := by
          by_cases hj : j = 0
          · subst hj; rfl
          · simp [Addr.add, hj]
        rw [e1] at h
        exact h
      have e0 := bcell hbw.out e0w
      have htk : l.take (j + 1) = l.take j ++ [l[j]] := List.take_succ_eq_append_getElem hjt
      have hmem : l[j] ∈ l := List.getElem_mem hjt
      have hsn := sfold_snoc nn (l.take j) l[j]
      rw [← htk, hsf.out] at hsn
      generalize l[j] = x at e0 e0w htk hmem hsn
      have lg := World.block_lt_of_cell? _ _ e0
      have E0 := Lib.hid e0
      have HTK := Lib.hid htk
      have HMEM := Lib.hid hmem
      have HSN := Lib.hid hsn
      clear htk hmem hsn e0w
      by_cases hx : x = nn
      · subst hx
        have hres : RR = l := by rw [← HRR.out]; unfold sins; rw [if_pos (List.contains_iff_mem.2 HMEM.out)]
        have HRES := Lib.hid hres
        clear hres
        go_wp2_with fail
        go_ret
        exact ⟨_, rfl, by rw [HRES.out, HL.out]; exact ownsRow_below HOWN.out hbw.out, hbw.out⟩
      · have hxe : (x == nn) = false := by simpa using hx
        have hni2 : nn ∉ l.take (j + 1) := by
          rw [HTK.out]
          intro h
          rcases List.mem_append.1 h with h | h
          · exact hni.out h
          · rw [List.mem_singleton] at h; exact hx h.symm
        have HNI2 := Lib.hid hni2
        obtain ⟨xs, hxs⟩ : ∃ y, O.map (Value.int .i64) = y := ⟨_, rfl⟩
        rw [hxs] at hown
        have HXS := Lib.hid hxs
        clear hni2 hxs hx
        by_cases hdx : (!d && decide (x > nn)) = true
        · have hd : d = false := by cases d; rfl; cases hdx
          subst hd
          have hgt : x > nn := by simpa using hdx
          have hgt' : decide (x > nn) = true := decide_eq_true hgt
          have hs2 : sfold nn (l.take (j + 1)) = (O ++ [nn] ++ [x], true) := by rw [HSN.out]; unfold sstep; rw [if_pos hdx]
          have HS2 := Lib.hid hs2
          clear hs2 hdx hgt
          have HOA := Lib.hid (ownsRow_below hown.out (bal1 (o := .cells #[.int .i64 nn] 3)))
          go_wp2_with (first | (at_builtin; refine wpList_append_lies _ rfl (.tmp 32) (.tmp 34) 29 rfl w.heap.size 3 i0 _ 1 8 Try.underlying29 HI.out Z0.out Z1.out Z2.out rfl (by omega) (.slice cv N qv) N xs rfl HOA.out ⟨wr.heap.size, 0, none⟩ 1 1 [.int .i64 nn] rfl rfl (World.news_of_block (cs := #[.int .i64 nn]) (t := 3) (fr := (0, 0)) (heap_alloc_new wr _)) (by simp [Value.oneCell']) (by omega) (by unfold maxLen; omega) (by omega) (by simp; omega) _ rfl ?_) | fail)
          intro g5 cap5 w5 hown2 hgrow hat hlt2
          have HOw5 := Lib.hid hown2
          have hfar := grown_far bal1 hown.out hgrow
          clear HOA
          have e5 : w5.cell? ⟨g, j, none⟩ = some (.int .i64 x) := (World.cell?_of_block (a := ⟨g, j, none⟩) (hfar g (by omega) hgl)).trans E0.out
          have lg5 := World.block_lt_of_cell? _ _ e5
          have HB5 := Lib.hid (grown_below hbw.out bal1 hown.out (Nat.le_refl _) hgrow)
          have hsz5 := HB5.out.size
          clear hown2 hgrow hat hfar e0 lg
          have HOA := Lib.hid (ownsRow_below HOw5.out (bal1 (o := .cells #[.int .i64 x] 3)))
          go_wp2_with (first | (at_builtin; refine wpList_append_lies _ rfl (.tmp 36) (.tmp 41) 29 rfl w.heap.size 3 i0 _ 1 8 Try.underlying29 HI.out Z0.out Z1.out Z2.out rfl (by omega) (.slice (some ⟨g5, 0, none⟩) (N + 1) cap5) (N + 1) (xs ++ [.int .i64 nn]) rfl HOA.out ⟨w5.heap.size, 0, none⟩ 1 1 [.int .i64 x] rfl rfl (World.news_of_block (cs := #[.int .i64 x]) (t := 3) (fr := (0, 0)) (heap_alloc_new w5 _)) (by simp [Value.oneCell']) (by omega) (by unfold maxLen; omega) (by omega) (by simp; omega) _ rfl ?_) | fail)
          intro g6 cap6 w6 hown2 hgrow hat hlt2
          have HOw6 := Lib.hid hown2
          have hfar := grown_far bal1 HOw5.out hgrow
          clear HOA
          have HB6 := Lib.hid (grown_below HB5.out bal1 HOw5.out (Nat.le_refl _) hgrow)
          have hsz6 := HB6.out.size
          clear hown2 hgrow hat hfar e5
          go_wp2_with fail
          go_roundw
          case rel => exact ⟨j + 1, by omega, by go_num, ⟨O ++ [nn] ++ [x], N + 1 + 1, true, _, rfl, rfl, by omega, by unfold Hid; rw [List.map_append, List.map_append, HXS.out, List.append_assoc]; exact HOw6.out, HS2.out⟩, HNI2.out, HB6.out, hsz6⟩
          case measure => simp [intOf]; omega
        · have hs2 : sfold nn (l.take (j + 1)) = (O ++ [x], d) := by rw [HSN.out]; unfold sstep; rw [if_neg hdx]
          have HS2 := Lib.hid hs2
          clear hs2
          cases d
          · have hgt' : decide (x > nn) = false := by simpa using hdx
            clear hdx
            have HOA := Lib.hid (ownsRow_below hown.out (bal1 (o := .cells #[.int .i64 x] 3)))
            go_wp2_with (first | (at_builtin; refine wpList_append_lies _ rfl (.tmp 36) (.tmp 41) 29 rfl w.heap.size 3 i0 _ 1 8 Try.underlying29 HI.out Z0.out Z1.out Z2.out rfl (by omega) (.slice cv N qv) N xs rfl HOA.out ⟨wr.heap.size, 0, none⟩ 1 1 [.int .i64 x] rfl rfl (World.news_of_block (cs := #[.int .i64 x]) (t := 3) (fr := (0, 0)) (heap_alloc_new wr _)) (by simp [Value.oneCell']) (by omega) (by unfold maxLen; omega) (by omega) (by simp; omega) _ rfl ?_) | fail)
            intro g5 cap5 w5 hown2 hgrow hat hlt2
            have HOw5 := Lib.hid hown2
            have hfar := grown_far bal1 hown.out hgrow
            clear HOA
            have HB5 := Lib.hid (grown_below hbw.out bal1 hown.out (Nat.le_refl _) hgrow)
            have hsz5 := HB5.out.size
            clear hown2 hgrow hat hfar e0 lg
            go_wp2_with fail
            go_roundw
            case rel => exact ⟨j + 1, by omega, by go_num, ⟨O ++ [x], N + 1, false, _, rfl, rfl, by omega, by unfold Hid; rw [List.map_append, HXS.out]; exact HOw5.out, HS2.out⟩, HNI2.out, HB5.out, hsz5⟩
            case measure => simp [intOf]; omega
          · clear hdx
            have HOA := Lib.hid (ownsRow_below hown.out (bal1 (o := .cells #[.int .i64 x] 3)))
            go_wp2_with (first | (at_builtin; refine wpList_append_lies _ rfl (.tmp 36) (.tmp 41) 29 rfl w.heap.size 3 i0 _ 1 8 Try.underlying29 HI.out Z0.out Z1.out Z2.out rfl (by omega) (.slice cv N qv) N xs rfl HOA.out ⟨wr.heap.size, 0, none⟩ 1 1 [.int .i64 x] rfl rfl (World.news_of_block (cs := #[.int .i64 x]) (t := 3) (fr := (0, 0)) (heap_alloc_new wr _)) (by simp [Value.oneCell']) (by omega) (by unfold maxLen; omega) (by omega) (by simp; omega) _ rfl ?_) | fail)
            intro g5 cap5 w5 hown2 hgrow hat hlt2
            have HOw5 := Lib.hid hown2
            have hfar := grown_far bal1 hown.out hgrow
            clear HOA
            have HB5 := Lib.hid (grown_below hbw.out bal1 hown.out (Nat.le_refl _) hgrow)
            have hsz5 := HB5.out.size
            clear hown2 hgrow hat hfar e0 lg
            go_wp2_with fail
            go_roundw
            case rel => exact ⟨j + 1, by omega, by go_num, ⟨O ++ [x], N + 1, true, _, rfl, rfl, by omega, by unfold Hid; rw [List.map_append, HXS.out]; exact HOw5.out, HS2.out⟩, HNI2.out, HB5.out, hsz5⟩
            case measure => simp [intOf]; omega
    · have hje : l.take j = l := List.take_of_length_le (by have := HL.out; omega)
      have hres := sins_done hni.out hsf.out
      rw [hje, HRR.out] at hres
      obtain ⟨xs, hxs⟩ : ∃ y, O.map (Value.int .i64) = y := ⟨_, rfl⟩
      rw [hxs] at hown
      have hol : O.length = N := by have := hown.out.1; rw [← hxs] at this; simpa using this
      have HXS := Lib.hid hxs
      have HRES := Lib.hid hres
      have HOL := Lib.hid hol
      clear hres hxs hje hol
      cases d
      · skip
        have HOA := Lib.hid (ownsRow_below hown.out (bal1 (o := .cells #[.int .i64 nn] 3)))
        go_wp2_with (first | (at_builtin; refine wpList_append_lies _ rfl (.tmp 45) (.tmp 47) 29 rfl w.heap.size 3 i0 _ 1 8 Try.underlying29 HI.out Z0.out Z1.out Z2.out rfl (by omega) (.slice cv N qv) N xs rfl HOA.out ⟨wr.heap.size, 0, none⟩ 1 1 [.int .i64 nn] rfl rfl (World.news_of_block (cs := #[.int .i64 nn]) (t := 3) (fr := (0, 0)) (heap_alloc_new wr _)) (by simp [Value.oneCell']) (by omega) (by unfold maxLen; omega) (by omega) (by simp; omega) _ rfl ?_) | fail)
        intro g5 cap5 w5 hown2 hgrow hat hlt2
        have HOw5 := Lib.hid hown2
        have hfar := grown_far bal1 hown.out hgrow
        clear HOA
        have HB5 := Lib.hid (grown_below hbw.out bal1 hown.out (Nat.le_refl _) hgrow)
        clear hown2 hgrow hat hfar
        go_wp2_with fail
        go_ret
        refine ⟨_, rfl, ?_, HB5.out⟩
        rw [HRES.out]
        simp only [Bool.false_eq_true, if_false]
        rw [List.map_append, HXS.out, List.length_append, HOL.out, List.length_singleton]
        exact ownsRow_mono HOw5.out hBw
      · go_wp2_with fail
        go_ret
        refine ⟨_, rfl, ?_, hbw.out⟩
        rw [HRES.out]
        simp only [if_true]
        rw [HXS.out, HOL.out]
        exact ownsRow_mono hown.out hBw
end Go.Proofs.Ytghgjpcibdfbmaa
