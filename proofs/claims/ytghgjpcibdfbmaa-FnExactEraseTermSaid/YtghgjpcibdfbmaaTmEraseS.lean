/-
  EraseTerm of the reference.
-/
import Derived.Test.YtghgjpcibdfbmaaTmEraseP
import Derived.Test.YtghgjpcibdfbmaaK8
namespace Go.Proofs.Ytghgjpcibdfbmaa
open Go.RowKit
set_option linter.unusedVariables false
set_option linter.unusedSimpArgs false
set_option maxRecDepth 100000

theorem rowsAt_any1 {w : World} {b : Nat} : ∀ (n off : Nat), (∀ i, i < n → ∃ a q, w.cell? ⟨b, off + i * 2, none⟩ = some (.int .i64 1) ∧ w.cell? ⟨b, off + i * 2 + 1, none⟩ = some (.slice a 0 q) ∧ q ≤ maxLen) → RowsAt (fun _ => True) w b off (Ty.rows (List.replicate n .any1))
  | 0, _, _ => by simp only [List.replicate_zero]; unfold Ty.rows RowsAt; trivial
  | n + 1, off, h => by
    rw [List.replicate_succ]
    unfold Ty.rows RowsAt
    rw [Ty.row_length]
    refine ⟨?_, rowsAt_any1 n (off + 2) (fun i hi => ?_)⟩
    · obtain ⟨a, q, h1, h2, h3⟩ := h 0 (by omega)
      unfold Ty.any1 Ty.row
      unfold CellsAt
      refine ⟨⟨_, by simpa using h1, by unfold CRep; rfl⟩, ?_⟩
      unfold CellsAt
      refine ⟨⟨_, by simpa using h2, ?_⟩, by unfold CellsAt; trivial⟩
      unfold Ty.rows CRep
      exact ⟨a, q, rfl, Nat.zero_le _, h3, .inl rfl⟩
    · obtain ⟨a, q, h1, h2, h3⟩ := h (i + 1) (by omega)
      refine ⟨a, q, ?_, ?_, h3⟩
      · rw [show off + 2 + i * 2 = off + (i + 1) * 2 from by omega]; exact h1
      · rw [show off + 2 + i * 2 + 1 = off + (i + 1) * 2 + 1 from by omega]; exact h2
theorem TysNew.blk {B : Nat} {w : World} {ts : List Ty} {a : Option Addr} {n q : Nat} (h : TysNew B w ts (.slice a n q)) (hn : 0 < n) : n = ts.length ∧ n ≤ q ∧ q ≤ maxLen ∧ ∃ b, a = some ⟨b, 0, none⟩ ∧ B ≤ b ∧ b < w.heap.size ∧ (∀ o, w.frozen? ⟨b, o, none⟩ = false) ∧ ∀ i, i < n → ∃ k a' m' q', w.cell? ⟨b, i * 2, none⟩ = some (.int .i64 k) ∧ w.cell? ⟨b, i * 2 + 1, none⟩ = some (.slice a' m' q') := by
  have hr := h.rep
  obtain ⟨fp, ho, -, hx⟩ := h
  unfold TysOwn COwn at ho
  obtain ⟨a0, cap, he, h1, h2, h3⟩ := ho
  rw [Ty.rows_length] at he h1
  simp only [Value.slice.injEq] at he
  obtain ⟨rfl, rfl, rfl⟩ := he
  rcases h3 with ⟨h3, -⟩ | ⟨b, fps, cs, T, rfl, rfl, hb, -⟩
  · have : ts.length = 0 := by rw [← Ty.rows_length, h3]; rfl
    omega
  · refine ⟨rfl, h1, h2, b, rfl, hx b (by simp), (Array.getElem?_eq_some_iff.1 hb).1, fun o => by unfold World.frozen?; rw [hb]; simp, fun i hi => ?_⟩
    obtain ⟨b', off, k0, a', m', q', he, -, e0, e1, -⟩ := hr.at (Below.refl _ _) hi
    simp only [Option.some.injEq, Addr.mk.injEq, and_true] at he
    obtain ⟨rfl, rfl⟩ := he
    simp only [Nat.zero_add] at e0 e1
    exact ⟨k0, a', m', q', e0, e1⟩
set_option maxHeartbeats 8000000 in
theorem specEraseTerm (F : Nat → Prop) (t : Tm) (y : Value) (w : World) (hy : TmRep F w t y) (hcnt : t.cnt ≤ 1048576) :
    Calls Try.prog 47 #[y] w (RetTmB t.eraseT t.valid w) := by
  have hT := fun W (h : Below w.heap.size w W) => specTermTypes F t y W (hy.below h)
  have hW := fun W (lv : Value) (h : Below w.heap.size w W) (hl : TysRep (fun _ => True) W (List.replicate t.types.length .any1) lv) => specWithTypes F (fun _ => True) t (List.replicate t.types.length .any1) y lv W (hy.below h) hl hcnt
  rw [t.withB_erase.1, t.withB_erase.2] at hW
  obtain ⟨k, nm, u, tk, ta, tn, tq, fk, fa, fn, fq, l, c, m, q, rfl⟩ := hy.shape
  have hn30 : t.types.length ≤ 30 := by
    unfold Tm.types
    split
    · rename_i h; exact (Tm.tys_ok h).1
    · simp
  generalize t.types = us at *
  generalize t.eraseT = bt at *
  generalize t.valid = va at *
  obtain ⟨n, hn⟩ : ∃ x, us.length = x := ⟨_, rfl⟩
  rw [hn] at hW hn30
  have HN := Lib.hid hn
  have HT := Lib.hid hT
  have HW := Lib.hid hW
  clear hT hW hy hcnt hn
  go_enter Try.func47, Try.ntmps47
  go_wp2_with fail
  refine (HT.out _ bal2).mono ?_
  rintro e w1 ⟨v1, rfl, hv1, hb1⟩
  have hr1 := hv1.rep
  obtain ⟨a1, q1, rfl, h2, h3, -⟩ := hr1.open
  rw [HN.out] at h2 hr1 hv1 ⊢
  have HZw1 := Lib.hid hb1
  have hsz1 : w.heap.size + 1 + 1 ≤ w1.heap.size := by have := hb1.size; simp at this; omega
  have HV1 := Lib.hid hv1
  have HB1 := Lib.hid (bstep bal2 hb1)
  have HQ3 := Lib.hid h3
  unfold maxLen at h3
  clear hv1 hb1 hr1
  by_cases hn0 : n = 0
  · subst hn0
    have HW0 := Lib.hid (HW.out w1 (.slice a1 0 q1) HB1.out (by simp only [List.replicate_zero]; unfold TysRep Ty.rows CRep; exact ⟨a1, q1, rfl, Nat.zero_le _, HQ3.out, .inl rfl⟩))
    have g0 : w1.cell? ⟨w.heap.size, 0, none⟩ = some (.int .i64 k) := bcell HZw1.out (bcell bal1 (cell_n0 0))
    have g1 : w1.cell? ⟨w.heap.size, 1, none⟩ = some (.string nm) := bcell HZw1.out (bcell bal1 (cell_n0 1))
    have g2 : w1.cell? ⟨w.heap.size, 2, none⟩ = some (.int .i64 u) := bcell HZw1.out (bcell bal1 (cell_n0 2))
    have g3 : w1.cell? ⟨w.heap.size, 3, none⟩ = some (.int .i64 tk) := bcell HZw1.out (bcell bal1 (cell_n0 3))
    have g4 : w1.cell? ⟨w.heap.size, 4, none⟩ = some (.slice ta tn tq) := bcell HZw1.out (bcell bal1 (cell_n0 4))
    have g5 : w1.cell? ⟨w.heap.size, 5, none⟩ = some (.int .i64 fk) := bcell HZw1.out (bcell bal1 (cell_n0 5))
    have g6 : w1.cell? ⟨w.heap.size, 6, none⟩ = some (.slice fa fn fq) := bcell HZw1.out (bcell bal1 (cell_n0 6))
    have g7 : w1.cell? ⟨w.heap.size, 7, none⟩ = some (.int .i64 l) := bcell HZw1.out (bcell bal1 (cell_n0 7))
    have g8 : w1.cell? ⟨w.heap.size, 8, none⟩ = some (.slice c m q) := bcell HZw1.out (bcell bal1 (cell_n0 8))
    have lg1 := World.block_lt_of_cell? _ _ g0
    go_wp2_with fail
    go_loopw [5] (fun i wr => i = .int .i64 0 ∧ wr = w1) (fun i _ => 0 - (intOf i).toNat)
    case atStart => exact ⟨rfl, rfl⟩
    case round =>
      obtain ⟨rfl, rfl⟩ := hrel
      go_wp2_with fail
      refine HW0.out.mono ?_
      rintro e w3 ⟨v1, rfl, hv1, hb3⟩
      obtain ⟨k5, nm5, u5', tk5, ta5, tn5, tq5, fk5, fa5, fn5, fq5, l5, c5', m5, q5, rfl⟩ := hv1.shape
      have HZw3 := Lib.hid (bstep HZw1.out hb3)
      have HV5 := Lib.hid (show TmNew (w.heap.size + 1 + 1) w3 bt _ from hv1.mono (by omega))
      clear lg1 g0 g1 g2 g3 g4 g5 g6 g7 g8 hv1 hb3
      have z0 : w3.cell? ⟨w.heap.size + 1, 0, none⟩ = some (.int .i64 0) := bcell HZw3.out (cell_n1 0)
      have y0 : w3.frozen? ⟨w.heap.size + 1, 0, none⟩ = false := bfroc HZw3.out (cell_n1 0) (fro_n1 0)
      have z1 : w3.cell? ⟨w.heap.size + 1, 1, none⟩ = some (.string { data := #[] }) := bcell HZw3.out (cell_n1 1)
      have y1 : w3.frozen? ⟨w.heap.size + 1, 1, none⟩ = false := bfroc HZw3.out (cell_n1 1) (fro_n1 1)
      have z2 : w3.cell? ⟨w.heap.size + 1, 2, none⟩ = some (.int .i64 0) := bcell HZw3.out (cell_n1 2)
      have y2 : w3.frozen? ⟨w.heap.size + 1, 2, none⟩ = false := bfroc HZw3.out (cell_n1 2) (fro_n1 2)
      have z3 : w3.cell? ⟨w.heap.size + 1, 3, none⟩ = some (.int .i64 0) := bcell HZw3.out (cell_n1 3)
      have y3 : w3.frozen? ⟨w.heap.size + 1, 3, none⟩ = false := bfroc HZw3.out (cell_n1 3) (fro_n1 3)
      have z4 : w3.cell? ⟨w.heap.size + 1, 4, none⟩ = some (.slice none 0 0) := bcell HZw3.out (cell_n1 4)
      have y4 : w3.frozen? ⟨w.heap.size + 1, 4, none⟩ = false := bfroc HZw3.out (cell_n1 4) (fro_n1 4)
      have z5 : w3.cell? ⟨w.heap.size + 1, 5, none⟩ = some (.int .i64 0) := bcell HZw3.out (cell_n1 5)
      have y5 : w3.frozen? ⟨w.heap.size + 1, 5, none⟩ = false := bfroc HZw3.out (cell_n1 5) (fro_n1 5)
      have z6 : w3.cell? ⟨w.heap.size + 1, 6, none⟩ = some (.slice none 0 0) := bcell HZw3.out (cell_n1 6)
      have y6 : w3.frozen? ⟨w.heap.size + 1, 6, none⟩ = false := bfroc HZw3.out (cell_n1 6) (fro_n1 6)
      have z7 : w3.cell? ⟨w.heap.size + 1, 7, none⟩ = some (.int .i64 0) := bcell HZw3.out (cell_n1 7)
      have y7 : w3.frozen? ⟨w.heap.size + 1, 7, none⟩ = false := bfroc HZw3.out (cell_n1 7) (fro_n1 7)
      have z8 : w3.cell? ⟨w.heap.size + 1, 8, none⟩ = some (.slice none 0 0) := bcell HZw3.out (cell_n1 8)
      have y8 : w3.frozen? ⟨w.heap.size + 1, 8, none⟩ = false := bfroc HZw3.out (cell_n1 8) (fro_n1 8)
      have lz0 := World.block_lt_of_cell? _ _ z0
      have HB6 := Lib.hid (bstep bal2 HZw3.out)
      go_wp2_with fail
      refine bodyPost_ret (v := .tuple #[.agg #[.int .i64 k5, .string nm5, .int .i64 u5', .int .i64 tk5, .slice ta5 tn5 tq5, .int .i64 fk5, .slice fa5 fn5 fq5, .int .i64 l5, .slice c5' m5 q5], .bool va]) (by simp [results, Try.results47, go_sem, z0, z1, z2, z3, z4, z5, z6, z7, z8]) rfl ?_
      exact ⟨_, rfl, TmNew.mono ((((((((((HV5.out).setCell (by show w.heap.size + 1 < w.heap.size + 1 + 1; omega) _).setCell (by show w.heap.size + 1 < w.heap.size + 1 + 1; omega) _).setCell (by show w.heap.size + 1 < w.heap.size + 1 + 1; omega) _).setCell (by show w.heap.size + 1 < w.heap.size + 1 + 1; omega) _).setCell (by show w.heap.size + 1 < w.heap.size + 1 + 1; omega) _).setCell (by show w.heap.size + 1 < w.heap.size + 1 + 1; omega) _).setCell (by show w.heap.size + 1 < w.heap.size + 1 + 1; omega) _).setCell (by show w.heap.size + 1 < w.heap.size + 1 + 1; omega) _).setCell (by show w.heap.size + 1 < w.heap.size + 1 + 1; omega) _) (by omega), (((((((((HB6.out).setCell (by show w.heap.size ≤ w.heap.size + 1; omega) _).setCell (by show w.heap.size ≤ w.heap.size + 1; omega) _).setCell (by show w.heap.size ≤ w.heap.size + 1; omega) _).setCell (by show w.heap.size ≤ w.heap.size + 1; omega) _).setCell (by show w.heap.size ≤ w.heap.size + 1; omega) _).setCell (by show w.heap.size ≤ w.heap.size + 1; omega) _).setCell (by show w.heap.size ≤ w.heap.size + 1; omega) _).setCell (by show w.heap.size ≤ w.heap.size + 1; omega) _).setCell (by show w.heap.size ≤ w.heap.size + 1; omega) _⟩
  · obtain ⟨hnl, -, -, b, rfl, hbB, hbl, hfz, hcells⟩ := HV1.out.blk (by omega)
    simp only [World.size_alloc] at hbB
    have hbB2 : w.heap.size + 1 + 1 ≤ b := by simpa using hbB
    have HFZ := Lib.hid hfz
    have HCE := Lib.hid hcells
    clear hbB hfz hcells hnl
    go_wp2_with fail
    go_loopw [5] (fun i wr => ∃ j : Nat, j ≤ n ∧ i = .int .i64 j ∧ Hid (Below w.heap.size w wr) ∧ w1.heap.size ≤ wr.heap.size ∧ Hid (∀ z, z < w1.heap.size → z ≠ b → wr.heap[z]? = w1.heap[z]?) ∧ Hid (∀ o, wr.frozen? ⟨b, o, none⟩ = false) ∧
        Hid (∀ i, i < n → ∃ k a' m' q', wr.cell? ⟨b, i * 2, none⟩ = some (.int .i64 k) ∧ wr.cell? ⟨b, i * 2 + 1, none⟩ = some (.slice a' m' q') ∧ (i < j → k = 1 ∧ m' = 0 ∧ q' ≤ maxLen))) (fun i _ => n - (intOf i).toNat)
    case atStart => exact ⟨0, by omega, rfl, HB1.out, Nat.le_refl _, fun _ _ _ => rfl, HFZ.out, fun i hi => by obtain ⟨k, a', m', q', h1, h2⟩ := HCE.out i hi; exact ⟨k, a', m', q', h1, h2, fun h => by omega⟩⟩
    case round =>
      obtain ⟨j, hj, rfl, hbw, hsz, hR, hF, hC⟩ := hrel
      by_cases hlt : j < n
      · obtain ⟨k1, a', m', q', e0, e1, -⟩ := hC.out j hlt
        have lbr := World.block_lt_of_cell? _ _ e0
        go_wp2_with fail
        refine (specL1Any wr).mono ?_
        rintro e w2 ⟨v2, rfl, hv2, hb2⟩
        obtain ⟨a2, q2, rfl, hq2⟩ := hv2.leaf
        have HQ2 := Lib.hid hq2
        have d0 := bcell hb2 e0
        have d1 := bcell hb2 e1
        have f0 := bfroc hb2 e0 (hF.out (j * 2))
        have f1 := bfroc hb2 e1 (hF.out (j * 2 + 1))
        have lb2 := World.block_lt_of_cell? _ _ d0
        have HB2 := Lib.hid hb2
        clear e0 e1 hv2 hb2 hq2
        go_wp2_with fail
        go_roundw
        case rel =>
          refine ⟨j + 1, by omega, by go_num, ((bstep hbw.out HB2.out).setCell (by show w.heap.size ≤ b; omega) _).setCell (by show w.heap.size ≤ b; omega) _, by have := HB2.out.size; simp [World.setCell]; omega,
            fun z hz hn => (Below.heap_setCell _ ⟨b, j * 2 + 1, none⟩ _ z hn).trans ((Below.heap_setCell _ ⟨b, j * 2, none⟩ _ z hn).trans ((HB2.out.block z (by omega)).trans (hR.out z hz hn))),
            fun o => (sc_fro _ _ _ _).trans ((sc_fro _ _ _ _).trans (bfro HB2.out lbr (hF.out o))), fun i hi => ?_⟩
          by_cases hij : i = j
          · subst hij
            exact ⟨1, a2, 0, q2, sc_far (sc_self d0) (by simp), sc_self (sc_far d1 (by simp)), fun _ => ⟨rfl, rfl, HQ2.out⟩⟩
          · obtain ⟨k3, a3, m3, q3, h1, h2, h3⟩ := hC.out i hi
            refine ⟨k3, a3, m3, q3, sc_far (sc_far (bcell HB2.out h1) (by first | (simp; done) | (simp; omega))) (by first | (simp; done) | (simp; omega)), sc_far (sc_far (bcell HB2.out h2) (by first | (simp; done) | (simp; omega))) (by first | (simp; done) | (simp; omega)), fun h => h3 (by omega)⟩
        case measure => simp [intOf]; omega
      · have hjn : j = n := by omega
        subst hjn
        have hl : TysRep (fun _ => True) wr (List.replicate j .any1) (.slice (some ⟨b, 0, none⟩) j q1) := by
          unfold TysRep CRep
          rw [Ty.rows_length, List.length_replicate]
          refine ⟨_, q1, rfl, h2, HQ3.out, .inr ⟨b, 0, rfl, trivial, by omega, rowsAt_any1 j 0 (fun i hi => ?_)⟩⟩
          obtain ⟨k3, a3, m3, q3, g1, g2, g3⟩ := hC.out i hi
          obtain ⟨rfl, rfl, hq⟩ := g3 hi
          exact ⟨a3, q3, by simpa using g1, by simpa using g2, hq⟩
        have HW0 := Lib.hid (HW.out wr _ hbw.out hl)
        have hkb : ∀ z, z < w.heap.size + 1 + 1 → wr.heap[z]? = w1.heap[z]? := fun z hz => hR.out z (by omega) (by omega)
        have g0 : wr.cell? ⟨w.heap.size, 0, none⟩ = some (.int .i64 k) := (World.cell?_of_block (a := ⟨w.heap.size, 0, none⟩) (hkb w.heap.size (by omega))).trans (bcell HZw1.out (bcell bal1 (cell_n0 0)))
        have g1 : wr.cell? ⟨w.heap.size, 1, none⟩ = some (.string nm) := (World.cell?_of_block (a := ⟨w.heap.size, 1, none⟩) (hkb w.heap.size (by omega))).trans (bcell HZw1.out (bcell bal1 (cell_n0 1)))
        have g2 : wr.cell? ⟨w.heap.size, 2, none⟩ = some (.int .i64 u) := (World.cell?_of_block (a := ⟨w.heap.size, 2, none⟩) (hkb w.heap.size (by omega))).trans (bcell HZw1.out (bcell bal1 (cell_n0 2)))
        have g3 : wr.cell? ⟨w.heap.size, 3, none⟩ = some (.int .i64 tk) := (World.cell?_of_block (a := ⟨w.heap.size, 3, none⟩) (hkb w.heap.size (by omega))).trans (bcell HZw1.out (bcell bal1 (cell_n0 3)))
        have g4 : wr.cell? ⟨w.heap.size, 4, none⟩ = some (.slice ta tn tq) := (World.cell?_of_block (a := ⟨w.heap.size, 4, none⟩) (hkb w.heap.size (by omega))).trans (bcell HZw1.out (bcell bal1 (cell_n0 4)))
        have g5 : wr.cell? ⟨w.heap.size, 5, none⟩ = some (.int .i64 fk) := (World.cell?_of_block (a := ⟨w.heap.size, 5, none⟩) (hkb w.heap.size (by omega))).trans (bcell HZw1.out (bcell bal1 (cell_n0 5)))
        have g6 : wr.cell? ⟨w.heap.size, 6, none⟩ = some (.slice fa fn fq) := (World.cell?_of_block (a := ⟨w.heap.size, 6, none⟩) (hkb w.heap.size (by omega))).trans (bcell HZw1.out (bcell bal1 (cell_n0 6)))
        have g7 : wr.cell? ⟨w.heap.size, 7, none⟩ = some (.int .i64 l) := (World.cell?_of_block (a := ⟨w.heap.size, 7, none⟩) (hkb w.heap.size (by omega))).trans (bcell HZw1.out (bcell bal1 (cell_n0 7)))
        have g8 : wr.cell? ⟨w.heap.size, 8, none⟩ = some (.slice c m q) := (World.cell?_of_block (a := ⟨w.heap.size, 8, none⟩) (hkb w.heap.size (by omega))).trans (bcell HZw1.out (bcell bal1 (cell_n0 8)))
        have HZwr : Hid (∀ i, i < 9 → ∃ uu : Value, wr.cell? ⟨w.heap.size + 1, i, none⟩ = some uu ∧ wr.frozen? ⟨w.heap.size + 1, i, none⟩ = false) := fun i hi => by
          have h9 : i = 0 ∨ i = 1 ∨ i = 2 ∨ i = 3 ∨ i = 4 ∨ i = 5 ∨ i = 6 ∨ i = 7 ∨ i = 8 := by omega
          have hc := hkb (w.heap.size + 1) (by omega)
          rcases h9 with rfl | rfl | rfl | rfl | rfl | rfl | rfl | rfl | rfl <;> exact ⟨_, (World.cell?_of_block (a := ⟨w.heap.size + 1, _, none⟩) hc).trans (bcell HZw1.out (cell_n1 _)), (World.frozen?_of_block (a := ⟨w.heap.size + 1, _, none⟩) hc).trans (bfroc HZw1.out (cell_n1 _) (fro_n1 _))⟩
        have lg1 := World.block_lt_of_cell? _ _ g0
        clear hkb hl hR hF hC
        go_wp2_with fail
        refine HW0.out.mono ?_
        rintro e w3 ⟨v1, rfl, hv1, hb3⟩
        obtain ⟨k5, nm5, u5', tk5, ta5, tn5, tq5, fk5, fa5, fn5, fq5, l5, c5', m5, q5, rfl⟩ := hv1.shape
        have HV5 := Lib.hid (show TmNew (w.heap.size + 1 + 1) w3 bt _ from hv1.mono (by omega))
        have HB6 := Lib.hid (bstep hbw.out hb3)
        clear lg1 g0 g1 g2 g3 g4 g5 g6 g7 g8 hv1
        obtain ⟨uu0, z0, y0⟩ := HZwr.out 0 (by omega)
        replace y0 := bfroc hb3 z0 y0
        replace z0 := bcell hb3 z0
        obtain ⟨uu1, z1, y1⟩ := HZwr.out 1 (by omega)
        replace y1 := bfroc hb3 z1 y1
        replace z1 := bcell hb3 z1
        obtain ⟨uu2, z2, y2⟩ := HZwr.out 2 (by omega)
        replace y2 := bfroc hb3 z2 y2
        replace z2 := bcell hb3 z2
        obtain ⟨uu3, z3, y3⟩ := HZwr.out 3 (by omega)
        replace y3 := bfroc hb3 z3 y3
        replace z3 := bcell hb3 z3
        obtain ⟨uu4, z4, y4⟩ := HZwr.out 4 (by omega)
        replace y4 := bfroc hb3 z4 y4
        replace z4 := bcell hb3 z4
        obtain ⟨uu5, z5, y5⟩ := HZwr.out 5 (by omega)
        replace y5 := bfroc hb3 z5 y5
        replace z5 := bcell hb3 z5
        obtain ⟨uu6, z6, y6⟩ := HZwr.out 6 (by omega)
        replace y6 := bfroc hb3 z6 y6
        replace z6 := bcell hb3 z6
        obtain ⟨uu7, z7, y7⟩ := HZwr.out 7 (by omega)
        replace y7 := bfroc hb3 z7 y7
        replace z7 := bcell hb3 z7
        obtain ⟨uu8, z8, y8⟩ := HZwr.out 8 (by omega)
        replace y8 := bfroc hb3 z8 y8
        replace z8 := bcell hb3 z8
        have lz0 := World.block_lt_of_cell? _ _ z0
        clear hb3
        go_wp2_with fail
        refine bodyPost_ret (v := .tuple #[.agg #[.int .i64 k5, .string nm5, .int .i64 u5', .int .i64 tk5, .slice ta5 tn5 tq5, .int .i64 fk5, .slice fa5 fn5 fq5, .int .i64 l5, .slice c5' m5 q5], .bool va]) (by simp [results, Try.results47, go_sem, z0, z1, z2, z3, z4, z5, z6, z7, z8]) rfl ?_
        exact ⟨_, rfl, TmNew.mono ((((((((((HV5.out).setCell (by show w.heap.size + 1 < w.heap.size + 1 + 1; omega) _).setCell (by show w.heap.size + 1 < w.heap.size + 1 + 1; omega) _).setCell (by show w.heap.size + 1 < w.heap.size + 1 + 1; omega) _).setCell (by show w.heap.size + 1 < w.heap.size + 1 + 1; omega) _).setCell (by show w.heap.size + 1 < w.heap.size + 1 + 1; omega) _).setCell (by show w.heap.size + 1 < w.heap.size + 1 + 1; omega) _).setCell (by show w.heap.size + 1 < w.heap.size + 1 + 1; omega) _).setCell (by show w.heap.size + 1 < w.heap.size + 1 + 1; omega) _).setCell (by show w.heap.size + 1 < w.heap.size + 1 + 1; omega) _) (by omega), (((((((((HB6.out).setCell (by show w.heap.size ≤ w.heap.size + 1; omega) _).setCell (by show w.heap.size ≤ w.heap.size + 1; omega) _).setCell (by show w.heap.size ≤ w.heap.size + 1; omega) _).setCell (by show w.heap.size ≤ w.heap.size + 1; omega) _).setCell (by show w.heap.size ≤ w.heap.size + 1; omega) _).setCell (by show w.heap.size ≤ w.heap.size + 1; omega) _).setCell (by show w.heap.size ≤ w.heap.size + 1; omega) _).setCell (by show w.heap.size ≤ w.heap.size + 1; omega) _).setCell (by show w.heap.size ≤ w.heap.size + 1; omega) _⟩
end Go.Proofs.Ytghgjpcibdfbmaa
