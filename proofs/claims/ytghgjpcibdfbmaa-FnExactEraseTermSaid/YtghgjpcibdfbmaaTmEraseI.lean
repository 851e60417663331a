/-
  EraseTerm of the program.
-/
import Derived.Test.YtghgjpcibdfbmaaTmEraseP
import Derived.Test.YtghgjpcibdfbmaaK5
namespace Go.Proofs.Ytghgjpcibdfbmaa
open Go.RowKit
set_option linter.unusedVariables false
set_option linter.unusedSimpArgs false
set_option maxRecDepth 100000

set_option maxHeartbeats 8000000 in
theorem cloErase : MapC 94 gE (fun _ => True) := by
  intro B t y w hy _ hB
  cases t with | mk kk nn uu tt ff ll ts =>
  obtain ⟨k, nm, u, tk, ta, tn, tq, fk, fa, fn, fq, l, c, m, q, rfl⟩ := hy.shape
  obtain ⟨r1, r2, r3, r4, r5, r6, r7, r8, r9, rn, rm, rq, hty, hsr, hks⟩ := hy.rep.parts
  simp only [Tm.kind, Tm.name, Tm.num, Tm.type, Tm.src, Tm.label, Tm.kids] at *
  subst r1 r2 r3 r8
  unfold maxLen at rq
  clear r4 r5 r6 r7 r9 rn hty hsr hks
  by_cases hk : hasT k = true
  · have hg : gE (.mk k nm u tt ff l ts) = .mk k nm u .any1 ff l ts := by rw [gE_mk, if_pos hk]
    rw [hg]
    have HY := Lib.hid hy
    have HK := Lib.hid hk
    clear hy hg hk
    go_enter Try.func94, Try.ntmps94
    go_wp2_with fail
    refine (implHasType k nm u tk ta tn tq fk fa fn fq l c m q _).mono ?_
    rintro e w1 ⟨rfl, hb1⟩
    rw [HK.out]
    have HZw1 := Lib.hid hb1
    clear hb1
    go_wp2_with fail
    refine (implBase 1 _).mono ?_
    rintro e w2 ⟨v1, rfl, hv1, hb2⟩
    obtain ⟨a1, q1, rfl, hq1⟩ := hv1.leaf
    have HZw2 := Lib.hid (bstep HZw1.out hb2)
    have g0 : w2.cell? ⟨w.heap.size, 0, none⟩ = some (.int .i64 k) := bcell HZw2.out (bcell bal1 (cell_n0 0))
    have g1 : w2.cell? ⟨w.heap.size, 1, none⟩ = some (.string nm) := bcell HZw2.out (bcell bal1 (cell_n0 1))
    have g2 : w2.cell? ⟨w.heap.size, 2, none⟩ = some (.int .i64 u) := bcell HZw2.out (bcell bal1 (cell_n0 2))
    have g3 : w2.cell? ⟨w.heap.size, 3, none⟩ = some (.int .i64 tk) := bcell HZw2.out (bcell bal1 (cell_n0 3))
    have g4 : w2.cell? ⟨w.heap.size, 4, none⟩ = some (.slice ta tn tq) := bcell HZw2.out (bcell bal1 (cell_n0 4))
    have g5 : w2.cell? ⟨w.heap.size, 5, none⟩ = some (.int .i64 fk) := bcell HZw2.out (bcell bal1 (cell_n0 5))
    have g6 : w2.cell? ⟨w.heap.size, 6, none⟩ = some (.slice fa fn fq) := bcell HZw2.out (bcell bal1 (cell_n0 6))
    have g7 : w2.cell? ⟨w.heap.size, 7, none⟩ = some (.int .i64 l) := bcell HZw2.out (bcell bal1 (cell_n0 7))
    have g8 : w2.cell? ⟨w.heap.size, 8, none⟩ = some (.slice c m q) := bcell HZw2.out (bcell bal1 (cell_n0 8))
    have z0 : w2.cell? ⟨w.heap.size + 1, 0, none⟩ = some (.int .i64 0) := bcell HZw2.out (cell_n1 0)
    have y0 : w2.frozen? ⟨w.heap.size + 1, 0, none⟩ = false := bfroc HZw2.out (cell_n1 0) (fro_n1 0)
    have z1 : w2.cell? ⟨w.heap.size + 1, 1, none⟩ = some (.string { data := #[] }) := bcell HZw2.out (cell_n1 1)
    have y1 : w2.frozen? ⟨w.heap.size + 1, 1, none⟩ = false := bfroc HZw2.out (cell_n1 1) (fro_n1 1)
    have z2 : w2.cell? ⟨w.heap.size + 1, 2, none⟩ = some (.int .i64 0) := bcell HZw2.out (cell_n1 2)
    have y2 : w2.frozen? ⟨w.heap.size + 1, 2, none⟩ = false := bfroc HZw2.out (cell_n1 2) (fro_n1 2)
    have z3 : w2.cell? ⟨w.heap.size + 1, 3, none⟩ = some (.int .i64 0) := bcell HZw2.out (cell_n1 3)
    have y3 : w2.frozen? ⟨w.heap.size + 1, 3, none⟩ = false := bfroc HZw2.out (cell_n1 3) (fro_n1 3)
    have z4 : w2.cell? ⟨w.heap.size + 1, 4, none⟩ = some (.slice none 0 0) := bcell HZw2.out (cell_n1 4)
    have y4 : w2.frozen? ⟨w.heap.size + 1, 4, none⟩ = false := bfroc HZw2.out (cell_n1 4) (fro_n1 4)
    have z5 : w2.cell? ⟨w.heap.size + 1, 5, none⟩ = some (.int .i64 0) := bcell HZw2.out (cell_n1 5)
    have y5 : w2.frozen? ⟨w.heap.size + 1, 5, none⟩ = false := bfroc HZw2.out (cell_n1 5) (fro_n1 5)
    have z6 : w2.cell? ⟨w.heap.size + 1, 6, none⟩ = some (.slice none 0 0) := bcell HZw2.out (cell_n1 6)
    have y6 : w2.frozen? ⟨w.heap.size + 1, 6, none⟩ = false := bfroc HZw2.out (cell_n1 6) (fro_n1 6)
    have z7 : w2.cell? ⟨w.heap.size + 1, 7, none⟩ = some (.int .i64 0) := bcell HZw2.out (cell_n1 7)
    have y7 : w2.frozen? ⟨w.heap.size + 1, 7, none⟩ = false := bfroc HZw2.out (cell_n1 7) (fro_n1 7)
    have z8 : w2.cell? ⟨w.heap.size + 1, 8, none⟩ = some (.slice none 0 0) := bcell HZw2.out (cell_n1 8)
    have y8 : w2.frozen? ⟨w.heap.size + 1, 8, none⟩ = false := bfroc HZw2.out (cell_n1 8) (fro_n1 8)
    have p3 : w2.frozen? ⟨w.heap.size, 3, none⟩ = false := bfroc HZw2.out (bcell bal1 (cell_n0 3)) (bfro bal1 (by simp) (fro_n0 3))
    have p4 : w2.frozen? ⟨w.heap.size, 4, none⟩ = false := bfroc HZw2.out (bcell bal1 (cell_n0 4)) (bfro bal1 (by simp) (fro_n0 4))
    have lw1 := World.block_lt_of_cell? _ _ g0
    have HB1 := Lib.hid (bstep bal2 HZw2.out)
    have HQ1 := Lib.hid hq1
    clear hv1 hb2 hq1
    go_wp2_with fail
    refine bodyPost_ret (v := .agg #[.int .i64 k, .string nm, .int .i64 u, .int .i64 1, .slice a1 0 q1, .int .i64 fk, .slice fa fn fq, .int .i64 l, .slice c m q]) (by simp [results, Try.results94, go_sem, z0, z1, z2, z3, z4, z5, z6, z7, z8]) rfl ?_
    refine ⟨_, rfl, (HY.out.retype' HQ1.out).below ?_, ?_⟩ <;> exact (((((((((((HB1.out).setCell (by show w.heap.size ≤ w.heap.size; omega) _).setCell (by show w.heap.size ≤ w.heap.size; omega) _).setCell (by show w.heap.size ≤ w.heap.size + 1; omega) _).setCell (by show w.heap.size ≤ w.heap.size + 1; omega) _).setCell (by show w.heap.size ≤ w.heap.size + 1; omega) _).setCell (by show w.heap.size ≤ w.heap.size + 1; omega) _).setCell (by show w.heap.size ≤ w.heap.size + 1; omega) _).setCell (by show w.heap.size ≤ w.heap.size + 1; omega) _).setCell (by show w.heap.size ≤ w.heap.size + 1; omega) _).setCell (by show w.heap.size ≤ w.heap.size + 1; omega) _).setCell (by show w.heap.size ≤ w.heap.size + 1; omega) _
  · have hg : gE (.mk k nm u tt ff l ts) = .mk k nm u tt ff l ts := by rw [gE_mk, if_neg hk]
    have hkf : hasT k = false := by simpa using hk
    rw [hg]
    have HY := Lib.hid hy
    have HK := Lib.hid hkf
    clear hy hg hk hkf
    go_enter Try.func94, Try.ntmps94
    go_wp2_with fail
    refine (implHasType k nm u tk ta tn tq fk fa fn fq l c m q _).mono ?_
    rintro e w1 ⟨rfl, hb1⟩
    rw [HK.out]
    have HZw1 := Lib.hid hb1
    clear hb1
    have g0 : w1.cell? ⟨w.heap.size, 0, none⟩ = some (.int .i64 k) := bcell HZw1.out (bcell bal1 (cell_n0 0))
    have g1 : w1.cell? ⟨w.heap.size, 1, none⟩ = some (.string nm) := bcell HZw1.out (bcell bal1 (cell_n0 1))
    have g2 : w1.cell? ⟨w.heap.size, 2, none⟩ = some (.int .i64 u) := bcell HZw1.out (bcell bal1 (cell_n0 2))
    have g3 : w1.cell? ⟨w.heap.size, 3, none⟩ = some (.int .i64 tk) := bcell HZw1.out (bcell bal1 (cell_n0 3))
    have g4 : w1.cell? ⟨w.heap.size, 4, none⟩ = some (.slice ta tn tq) := bcell HZw1.out (bcell bal1 (cell_n0 4))
    have g5 : w1.cell? ⟨w.heap.size, 5, none⟩ = some (.int .i64 fk) := bcell HZw1.out (bcell bal1 (cell_n0 5))
    have g6 : w1.cell? ⟨w.heap.size, 6, none⟩ = some (.slice fa fn fq) := bcell HZw1.out (bcell bal1 (cell_n0 6))
    have g7 : w1.cell? ⟨w.heap.size, 7, none⟩ = some (.int .i64 l) := bcell HZw1.out (bcell bal1 (cell_n0 7))
    have g8 : w1.cell? ⟨w.heap.size, 8, none⟩ = some (.slice c m q) := bcell HZw1.out (bcell bal1 (cell_n0 8))
    have z0 : w1.cell? ⟨w.heap.size + 1, 0, none⟩ = some (.int .i64 0) := bcell HZw1.out (cell_n1 0)
    have y0 : w1.frozen? ⟨w.heap.size + 1, 0, none⟩ = false := bfroc HZw1.out (cell_n1 0) (fro_n1 0)
    have z1 : w1.cell? ⟨w.heap.size + 1, 1, none⟩ = some (.string { data := #[] }) := bcell HZw1.out (cell_n1 1)
    have y1 : w1.frozen? ⟨w.heap.size + 1, 1, none⟩ = false := bfroc HZw1.out (cell_n1 1) (fro_n1 1)
    have z2 : w1.cell? ⟨w.heap.size + 1, 2, none⟩ = some (.int .i64 0) := bcell HZw1.out (cell_n1 2)
    have y2 : w1.frozen? ⟨w.heap.size + 1, 2, none⟩ = false := bfroc HZw1.out (cell_n1 2) (fro_n1 2)
    have z3 : w1.cell? ⟨w.heap.size + 1, 3, none⟩ = some (.int .i64 0) := bcell HZw1.out (cell_n1 3)
    have y3 : w1.frozen? ⟨w.heap.size + 1, 3, none⟩ = false := bfroc HZw1.out (cell_n1 3) (fro_n1 3)
    have z4 : w1.cell? ⟨w.heap.size + 1, 4, none⟩ = some (.slice none 0 0) := bcell HZw1.out (cell_n1 4)
    have y4 : w1.frozen? ⟨w.heap.size + 1, 4, none⟩ = false := bfroc HZw1.out (cell_n1 4) (fro_n1 4)
    have z5 : w1.cell? ⟨w.heap.size + 1, 5, none⟩ = some (.int .i64 0) := bcell HZw1.out (cell_n1 5)
    have y5 : w1.frozen? ⟨w.heap.size + 1, 5, none⟩ = false := bfroc HZw1.out (cell_n1 5) (fro_n1 5)
    have z6 : w1.cell? ⟨w.heap.size + 1, 6, none⟩ = some (.slice none 0 0) := bcell HZw1.out (cell_n1 6)
    have y6 : w1.frozen? ⟨w.heap.size + 1, 6, none⟩ = false := bfroc HZw1.out (cell_n1 6) (fro_n1 6)
    have z7 : w1.cell? ⟨w.heap.size + 1, 7, none⟩ = some (.int .i64 0) := bcell HZw1.out (cell_n1 7)
    have y7 : w1.frozen? ⟨w.heap.size + 1, 7, none⟩ = false := bfroc HZw1.out (cell_n1 7) (fro_n1 7)
    have z8 : w1.cell? ⟨w.heap.size + 1, 8, none⟩ = some (.slice none 0 0) := bcell HZw1.out (cell_n1 8)
    have y8 : w1.frozen? ⟨w.heap.size + 1, 8, none⟩ = false := bfroc HZw1.out (cell_n1 8) (fro_n1 8)
    have lw1 := World.block_lt_of_cell? _ _ g0
    have HB1 := Lib.hid (bstep bal2 HZw1.out)
    go_wp2_with fail
    refine bodyPost_ret (v := .agg #[.int .i64 k, .string nm, .int .i64 u, .int .i64 tk, .slice ta tn tq, .int .i64 fk, .slice fa fn fq, .int .i64 l, .slice c m q]) (by simp [results, Try.results94, go_sem, z0, z1, z2, z3, z4, z5, z6, z7, z8]) rfl ?_
    refine ⟨_, rfl, HY.out.below ?_, ?_⟩ <;> exact (((((((((HB1.out).setCell (by show w.heap.size ≤ w.heap.size + 1; omega) _).setCell (by show w.heap.size ≤ w.heap.size + 1; omega) _).setCell (by show w.heap.size ≤ w.heap.size + 1; omega) _).setCell (by show w.heap.size ≤ w.heap.size + 1; omega) _).setCell (by show w.heap.size ≤ w.heap.size + 1; omega) _).setCell (by show w.heap.size ≤ w.heap.size + 1; omega) _).setCell (by show w.heap.size ≤ w.heap.size + 1; omega) _).setCell (by show w.heap.size ≤ w.heap.size + 1; omega) _).setCell (by show w.heap.size ≤ w.heap.size + 1; omega) _
set_option maxHeartbeats 8000000 in
theorem implEraseTerm (F : Nat → Prop) (t : Tm) (y : Value) (w : World) (hy : TmRep F w t y) (hcnt : t.cnt ≤ 1048576) :
    Calls Try.prog 48 #[y] w (RetTmB t.eraseT t.valid w) := by
  have hv := fun W (h : Below w.heap.size w W) => implTermValid F t y W (hy.below h)
  have hm := fun W (h : Below w.heap.size w W) => implMapped 94 (fun _ _ => by rfl) gE (fun _ => True) cloErase F t y W (hy.below h) hcnt (Tm.mapOk_true gE t)
  rw [Tm.map_erase t t.tys.length (Nat.le_refl _)] at hm
  unfold Tm.eraseT Tm.erased
  obtain ⟨k, nm, u, tk, ta, tn, tq, fk, fa, fn, fq, l, c, m, q, rfl⟩ := hy.shape
  generalize t.rety (List.replicate t.tys.length .any1) = bt at *
  generalize t.valid = va at *
  have HV := Lib.hid hv
  have HBR := Lib.hid hm
  clear hv hm hy hcnt
  cases va
  · simp only [Bool.false_eq_true, if_false]
    go_enter Try.func48, Try.ntmps48
    go_wp2_with fail
    refine (HV.out _ bal2).mono ?_
    rintro e w1 ⟨rfl, hb1⟩
    have HZw1 := Lib.hid hb1
    clear hb1
    have z0 : w1.cell? ⟨w.heap.size + 1, 0, none⟩ = some (.int .i64 0) := bcell HZw1.out (cell_n1 0)
    have y0 : w1.frozen? ⟨w.heap.size + 1, 0, none⟩ = false := bfroc HZw1.out (cell_n1 0) (fro_n1 0)
    have z1 : w1.cell? ⟨w.heap.size + 1, 1, none⟩ = some (.string { data := #[] }) := bcell HZw1.out (cell_n1 1)
    have y1 : w1.frozen? ⟨w.heap.size + 1, 1, none⟩ = false := bfroc HZw1.out (cell_n1 1) (fro_n1 1)
    have z2 : w1.cell? ⟨w.heap.size + 1, 2, none⟩ = some (.int .i64 0) := bcell HZw1.out (cell_n1 2)
    have y2 : w1.frozen? ⟨w.heap.size + 1, 2, none⟩ = false := bfroc HZw1.out (cell_n1 2) (fro_n1 2)
    have z3 : w1.cell? ⟨w.heap.size + 1, 3, none⟩ = some (.int .i64 0) := bcell HZw1.out (cell_n1 3)
    have y3 : w1.frozen? ⟨w.heap.size + 1, 3, none⟩ = false := bfroc HZw1.out (cell_n1 3) (fro_n1 3)
    have z4 : w1.cell? ⟨w.heap.size + 1, 4, none⟩ = some (.slice none 0 0) := bcell HZw1.out (cell_n1 4)
    have y4 : w1.frozen? ⟨w.heap.size + 1, 4, none⟩ = false := bfroc HZw1.out (cell_n1 4) (fro_n1 4)
    have z5 : w1.cell? ⟨w.heap.size + 1, 5, none⟩ = some (.int .i64 0) := bcell HZw1.out (cell_n1 5)
    have y5 : w1.frozen? ⟨w.heap.size + 1, 5, none⟩ = false := bfroc HZw1.out (cell_n1 5) (fro_n1 5)
    have z6 : w1.cell? ⟨w.heap.size + 1, 6, none⟩ = some (.slice none 0 0) := bcell HZw1.out (cell_n1 6)
    have y6 : w1.frozen? ⟨w.heap.size + 1, 6, none⟩ = false := bfroc HZw1.out (cell_n1 6) (fro_n1 6)
    have z7 : w1.cell? ⟨w.heap.size + 1, 7, none⟩ = some (.int .i64 0) := bcell HZw1.out (cell_n1 7)
    have y7 : w1.frozen? ⟨w.heap.size + 1, 7, none⟩ = false := bfroc HZw1.out (cell_n1 7) (fro_n1 7)
    have z8 : w1.cell? ⟨w.heap.size + 1, 8, none⟩ = some (.slice none 0 0) := bcell HZw1.out (cell_n1 8)
    have y8 : w1.frozen? ⟨w.heap.size + 1, 8, none⟩ = false := bfroc HZw1.out (cell_n1 8) (fro_n1 8)
    have lz0 := World.block_lt_of_cell? _ _ z0
    have HB6 := Lib.hid (bstep bal2 HZw1.out)
    go_wp2_with fail
    refine bodyPost_ret (v := .tuple #[.agg #[.int .i64 0, .string { data := #[] }, .int .i64 0, .int .i64 0, .slice none 0 0, .int .i64 0, .slice none 0 0, .int .i64 0, .slice none 0 0], .bool false]) (by simp [results, Try.results48, go_sem, z0, z1, z2, z3, z4, z5, z6, z7, z8]) rfl ?_
    exact ⟨_, rfl, TmNew.nil (by show 0 ≤ _; omega), (((((((((HB6.out).setCell (by show w.heap.size ≤ w.heap.size + 1; omega) _).setCell (by show w.heap.size ≤ w.heap.size + 1; omega) _).setCell (by show w.heap.size ≤ w.heap.size + 1; omega) _).setCell (by show w.heap.size ≤ w.heap.size + 1; omega) _).setCell (by show w.heap.size ≤ w.heap.size + 1; omega) _).setCell (by show w.heap.size ≤ w.heap.size + 1; omega) _).setCell (by show w.heap.size ≤ w.heap.size + 1; omega) _).setCell (by show w.heap.size ≤ w.heap.size + 1; omega) _).setCell (by show w.heap.size ≤ w.heap.size + 1; omega) _⟩
  · simp only [if_true]
    go_enter Try.func48, Try.ntmps48
    go_wp2_with fail
    refine (HV.out _ bal2).mono ?_
    rintro e w1 ⟨rfl, hb1⟩
    have HZw1 := Lib.hid hb1
    have g0 : w1.cell? ⟨w.heap.size, 0, none⟩ = some (.int .i64 k) := bcell HZw1.out (bcell bal1 (cell_n0 0))
    have g1 : w1.cell? ⟨w.heap.size, 1, none⟩ = some (.string nm) := bcell HZw1.out (bcell bal1 (cell_n0 1))
    have g2 : w1.cell? ⟨w.heap.size, 2, none⟩ = some (.int .i64 u) := bcell HZw1.out (bcell bal1 (cell_n0 2))
    have g3 : w1.cell? ⟨w.heap.size, 3, none⟩ = some (.int .i64 tk) := bcell HZw1.out (bcell bal1 (cell_n0 3))
    have g4 : w1.cell? ⟨w.heap.size, 4, none⟩ = some (.slice ta tn tq) := bcell HZw1.out (bcell bal1 (cell_n0 4))
    have g5 : w1.cell? ⟨w.heap.size, 5, none⟩ = some (.int .i64 fk) := bcell HZw1.out (bcell bal1 (cell_n0 5))
    have g6 : w1.cell? ⟨w.heap.size, 6, none⟩ = some (.slice fa fn fq) := bcell HZw1.out (bcell bal1 (cell_n0 6))
    have g7 : w1.cell? ⟨w.heap.size, 7, none⟩ = some (.int .i64 l) := bcell HZw1.out (bcell bal1 (cell_n0 7))
    have g8 : w1.cell? ⟨w.heap.size, 8, none⟩ = some (.slice c m q) := bcell HZw1.out (bcell bal1 (cell_n0 8))
    have lg1 := World.block_lt_of_cell? _ _ g0
    clear hb1
    go_wp2_with fail
    refine (HBR.out _ (bstep bal2 HZw1.out)).mono ?_
    rintro e w3 ⟨v1, rfl, hv1, hb3⟩
    obtain ⟨k5, nm5, u5', tk5, ta5, tn5, tq5, fk5, fa5, fn5, fq5, l5, c5', m5, q5, rfl⟩ := hv1.shape
    have HZw3 := Lib.hid (bstep HZw1.out hb3)
    have hsz := HZw1.out.size
    simp at hsz
    have HV5 := Lib.hid (show TmNew (w.heap.size + 1 + 1) w3 bt _ from hv1.mono (by omega))
    clear lg1 g0 g1 g2 g3 g4 g5 g6 g7 g8 hv1 hb3
    have z0 : w3.cell? ⟨w.heap.size + 1, 0, none⟩ = some (.int .i64 0) := bcell HZw3.out (cell_n1 0)
    have y0 : w3.frozen? ⟨w.heap.size + 1, 0, none⟩ = false := bfroc HZw3.out (cell_n1 0) (fro_n1 0)
    have z1 : w3.cell? ⟨w.heap.size + 1, 1, none⟩ = some (.string { data := #[] }) := bcell HZw3.out (cell_n1 1)
    have y1 : w3.frozen? ⟨w.heap.size + 1, 1, none⟩ = false := bfroc HZw3.out (cell_n1 1) (fro_n1 1)
    have z2 : w3.cell? ⟨w.heap.size + 1, 2, none⟩ = some (.int .i64 0) := bcell HZw3.out (cell_n1 2)
    have y2 : w3.frozen? ⟨w.heap.size + 1, 2, none⟩ = false := bfroc HZw3.out (cell_n1 2) (fro_n1 2)
    have z3 : w3.cell? ⟨w.heap.size + 1, 3, none⟩ = some (.int .i64 0) := bcell HZw3.out (cell_n1 3)
    have y3 : w3.frozen? ⟨w.heap.size + 1, 3, none⟩ = false := bfroc HZw3.out (cell_n1 3) (fro_n1 3)
    have z4 : w3.cell? ⟨w.heap.size + 1, 4, none⟩ = some (.slice none 0 0) := bcell HZw3.out (cell_n1 4)
    have y4 : w3.frozen? ⟨w.heap.size + 1, 4, none⟩ = false := bfroc HZw3.out (cell_n1 4) (fro_n1 4)
    have z5 : w3.cell? ⟨w.heap.size + 1, 5, none⟩ = some (.int .i64 0) := bcell HZw3.out (cell_n1 5)
    have y5 : w3.frozen? ⟨w.heap.size + 1, 5, none⟩ = false := bfroc HZw3.out (cell_n1 5) (fro_n1 5)
    have z6 : w3.cell? ⟨w.heap.size + 1, 6, none⟩ = some (.slice none 0 0) := bcell HZw3.out (cell_n1 6)
    have y6 : w3.frozen? ⟨w.heap.size + 1, 6, none⟩ = false := bfroc HZw3.out (cell_n1 6) (fro_n1 6)
    have z7 : w3.cell? ⟨w.heap.size + 1, 7, none⟩ = some (.int .i64 0) := bcell HZw3.out (cell_n1 7)
    have y7 : w3.frozen? ⟨w.heap.size + 1, 7, none⟩ = false := bfroc HZw3.out (cell_n1 7) (fro_n1 7)
    have z8 : w3.cell? ⟨w.heap.size + 1, 8, none⟩ = some (.slice none 0 0) := bcell HZw3.out (cell_n1 8)
    have y8 : w3.frozen? ⟨w.heap.size + 1, 8, none⟩ = false := bfroc HZw3.out (cell_n1 8) (fro_n1 8)
    have lz0 := World.block_lt_of_cell? _ _ z0
    have HB6 := Lib.hid (bstep bal2 HZw3.out)
    go_wp2_with fail
    refine bodyPost_ret (v := .tuple #[.agg #[.int .i64 k5, .string nm5, .int .i64 u5', .int .i64 tk5, .slice ta5 tn5 tq5, .int .i64 fk5, .slice fa5 fn5 fq5, .int .i64 l5, .slice c5' m5 q5], .bool true]) (by simp [results, Try.results48, go_sem, z0, z1, z2, z3, z4, z5, z6, z7, z8]) rfl ?_
    exact ⟨_, rfl, TmNew.mono ((((((((((HV5.out).setCell (by show w.heap.size + 1 < w.heap.size + 1 + 1; omega) _).setCell (by show w.heap.size + 1 < w.heap.size + 1 + 1; omega) _).setCell (by show w.heap.size + 1 < w.heap.size + 1 + 1; omega) _).setCell (by show w.heap.size + 1 < w.heap.size + 1 + 1; omega) _).setCell (by show w.heap.size + 1 < w.heap.size + 1 + 1; omega) _).setCell (by show w.heap.size + 1 < w.heap.size + 1 + 1; omega) _).setCell (by show w.heap.size + 1 < w.heap.size + 1 + 1; omega) _).setCell (by show w.heap.size + 1 < w.heap.size + 1 + 1; omega) _).setCell (by show w.heap.size + 1 < w.heap.size + 1 + 1; omega) _) (by omega), (((((((((HB6.out).setCell (by show w.heap.size ≤ w.heap.size + 1; omega) _).setCell (by show w.heap.size ≤ w.heap.size + 1; omega) _).setCell (by show w.heap.size ≤ w.heap.size + 1; omega) _).setCell (by show w.heap.size ≤ w.heap.size + 1; omega) _).setCell (by show w.heap.size ≤ w.heap.size + 1; omega) _).setCell (by show w.heap.size ≤ w.heap.size + 1; omega) _).setCell (by show w.heap.size ≤ w.heap.size + 1; omega) _).setCell (by show w.heap.size ≤ w.heap.size + 1; omega) _).setCell (by show w.heap.size ≤ w.heap.size + 1; omega) _⟩
end Go.Proofs.Ytghgjpcibdfbmaa
