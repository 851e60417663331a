/-
  WithTypes of the program.
-/
import Derived.Test.YtpckgpndaligbaaB42
namespace Go.Proofs.Ytpckgpndaligbaa
open Go.RowKit
set_option linter.unusedVariables false
set_option linter.unusedSimpArgs false
set_option maxRecDepth 100000

set_option maxHeartbeats 4000000 in
theorem implWithTypesN (F G : Nat → Prop) (t : Tm) (L : List Ty) (y lv : Value) (w : World) (hy : TmRep F w t y) (hl : TysRep G w L lv) :
    Calls Try.prog 5 #[y, lv] w (RetTmB (t.withT L) (t.withB L) w) := by
  have hlB : TysRep (· < w.heap.size) w L lv := hl.move (.weaken fun _ _ h => h)
  have hv := fun W (h : Below w.heap.size w W) => implTermValid F t y W (hy.below h)
  have hT := fun (hok : t.valid = true) W (h : Below w.heap.size w W) => implTypes F t (by have := (Tm.tys_ok hok).1; omega) (Tm.tys_ok hok).2 y W (hy.below h)
  have hC := fun W (h : Below w.heap.size w W) => containsFunc_Ty0 _ (fun x => !x.valid) _ L lv W (hlB.below h) Try.call21 (fun x hx W' y' hb' hr' => with1 _ x y' W' hr')
  have hR := fun (hok : t.valid = true) (hn : t.tys.length = L.length) (ha : L.any (fun x => !x.valid) = false) W (h : Below w.heap.size w W) =>
    implRetyped F w.heap.size t L 12 y lv W (hy.below h) (hlB.below h) h.size (Tm.valid_shape hok) (fun x hx => Ty.cnt_valid (by simp at ha; exact ha x hx)) (by omega)
  obtain ⟨k, nm, u, tk, ta, tn, tq, fk, fa, fn, fq, l, c, m, q, rfl⟩ := hy.shape
  obtain ⟨la, lq, rfl, -, -, -⟩ := hl.open
  unfold Tm.withT Tm.withB
  generalize t.rety L = bt at *
  generalize (L.any fun x => !x.valid) = r at *
  generalize t.valid = va at *
  generalize t.tys = us at *
  generalize L.length = n at *
  have HV := Lib.hid hv
  have HT := Lib.hid hT
  have HC := Lib.hid hC
  have HR := Lib.hid hR
  clear hv hT hC hR hy hl hlB
  have hsz0 : ∀ W : World, w.heap.size + 1 + 1 ≤ W.heap.size → True := fun _ _ => trivial
  cases va
  · simp only [Bool.false_and, Bool.false_eq_true, if_false]
    go_enter Try.func5, Try.ntmps5
    go_wp2_with fail
    refine (HV.out _ bal2).mono ?_
    rintro e w1 ⟨rfl, hb1⟩
    have HZw1 := Lib.hid hb1
    clear hb1
    have z0 : w1.cell? ⟨w.heap.size + 1, 0, none⟩ = some (.int .i64 0) := bcell HZw1.out (cell_n1 0)
    have y0 : w1.frozen? ⟨w.heap.size + 1, 0, none⟩ = false := bfroc HZw1.out (cell_n1 0) (fro_n1 0)
    have z1 : w1.cell? ⟨w.heap.size + 1, 1, none⟩ = some (.string { data := #[] }) := bcell HZw1.out (cell_n1 1)
    have y1 : w1.frozen? ⟨w.heap.size + 1, 1, none⟩ = false := bfroc HZw1.out (cell_n1 1) (fro_n1 1)
    have z2 : w1.cell? ⟨w.heap.size + 1, 2, none⟩ = some (.int .i64 0) := bcell HZw1.out (cell_n1 2)
    have y2 : w1.frozen? ⟨w.heap.size + 1, 2, none⟩ = false := bfroc HZw1.out (cell_n1 2) (fro_n1 2)
    have z3 : w1.cell? ⟨w.heap.size + 1, 3, none⟩ = some (.int .i64 0) := bcell HZw1.out (cell_n1 3)
    have y3 : w1.frozen? ⟨w.heap.size + 1, 3, none⟩ = false := bfroc HZw1.out (cell_n1 3) (fro_n1 3)
    have z4 : w1.cell? ⟨w.heap.size + 1, 4, none⟩ = some (.slice none 0 0) := bcell HZw1.out (cell_n1 4)
    have y4 : w1.frozen? ⟨w.heap.size + 1, 4, none⟩ = false := bfroc HZw1.out (cell_n1 4) (fro_n1 4)
    have z5 : w1.cell? ⟨w.heap.size + 1, 5, none⟩ = some (.int .i64 0) := bcell HZw1.out (cell_n1 5)
    have y5 : w1.frozen? ⟨w.heap.size + 1, 5, none⟩ = false := bfroc HZw1.out (cell_n1 5) (fro_n1 5)
    have z6 : w1.cell? ⟨w.heap.size + 1, 6, none⟩ = some (.slice none 0 0) := bcell HZw1.out (cell_n1 6)
    have y6 : w1.frozen? ⟨w.heap.size + 1, 6, none⟩ = false := bfroc HZw1.out (cell_n1 6) (fro_n1 6)
    have z7 : w1.cell? ⟨w.heap.size + 1, 7, none⟩ = some (.int .i64 0) := bcell HZw1.out (cell_n1 7)
    have y7 : w1.frozen? ⟨w.heap.size + 1, 7, none⟩ = false := bfroc HZw1.out (cell_n1 7) (fro_n1 7)
    have z8 : w1.cell? ⟨w.heap.size + 1, 8, none⟩ = some (.slice none 0 0) := bcell HZw1.out (cell_n1 8)
    have y8 : w1.frozen? ⟨w.heap.size + 1, 8, none⟩ = false := bfroc HZw1.out (cell_n1 8) (fro_n1 8)
    have lz0 := World.block_lt_of_cell? _ _ z0
    have HB6 := Lib.hid (bstep bal2 HZw1.out)
    go_wp2_with fail
    refine bodyPost_ret (v := .tuple #[.agg #[.int .i64 0, .string { data := #[] }, .int .i64 0, .int .i64 0, .slice none 0 0, .int .i64 0, .slice none 0 0, .int .i64 0, .slice none 0 0], .bool false]) (by simp [results, Try.results5, go_sem, z0, z1, z2, z3, z4, z5, z6, z7, z8]) rfl ?_
    exact ⟨_, rfl, TmNew.nil (by show 0 ≤ _; omega), (((((((((HB6.out).setCell (by show w.heap.size ≤ w.heap.size + 1; omega) _).setCell (by show w.heap.size ≤ w.heap.size + 1; omega) _).setCell (by show w.heap.size ≤ w.heap.size + 1; omega) _).setCell (by show w.heap.size ≤ w.heap.size + 1; omega) _).setCell (by show w.heap.size ≤ w.heap.size + 1; omega) _).setCell (by show w.heap.size ≤ w.heap.size + 1; omega) _).setCell (by show w.heap.size ≤ w.heap.size + 1; omega) _).setCell (by show w.heap.size ≤ w.heap.size + 1; omega) _).setCell (by show w.heap.size ≤ w.heap.size + 1; omega) _⟩
  · obtain ⟨N, hN⟩ : ∃ x, us.length = x := ⟨_, rfl⟩
    have HT2 := Lib.hid (HT.out rfl)
    have HR2 := Lib.hid (HR.out rfl)
    rw [hN] at HT2 HR2 ⊢
    clear HT HR hN
    by_cases hn : N = n
    · subst hn
      cases r
      · simp only [Bool.true_and, decide_true, Bool.not_false, if_true]
        go_enter Try.func5, Try.ntmps5
        go_wp2_with fail
        refine (HV.out _ bal2).mono ?_
        rintro e w1 ⟨rfl, hb1⟩
        have HZw1 := Lib.hid hb1
        have g0 : w1.cell? ⟨w.heap.size, 0, none⟩ = some (.int .i64 k) := bcell HZw1.out (bcell bal1 (cell_n0 0))
        have g1 : w1.cell? ⟨w.heap.size, 1, none⟩ = some (.string nm) := bcell HZw1.out (bcell bal1 (cell_n0 1))
        have g2 : w1.cell? ⟨w.heap.size, 2, none⟩ = some (.int .i64 u) := bcell HZw1.out (bcell bal1 (cell_n0 2))
        have g3 : w1.cell? ⟨w.heap.size, 3, none⟩ = some (.int .i64 tk) := bcell HZw1.out (bcell bal1 (cell_n0 3))
        have g4 : w1.cell? ⟨w.heap.size, 4, none⟩ = some (.slice ta tn tq) := bcell HZw1.out (bcell bal1 (cell_n0 4))
        have g5 : w1.cell? ⟨w.heap.size, 5, none⟩ = some (.int .i64 fk) := bcell HZw1.out (bcell bal1 (cell_n0 5))
        have g6 : w1.cell? ⟨w.heap.size, 6, none⟩ = some (.slice fa fn fq) := bcell HZw1.out (bcell bal1 (cell_n0 6))
        have g7 : w1.cell? ⟨w.heap.size, 7, none⟩ = some (.int .i64 l) := bcell HZw1.out (bcell bal1 (cell_n0 7))
        have g8 : w1.cell? ⟨w.heap.size, 8, none⟩ = some (.slice c m q) := bcell HZw1.out (bcell bal1 (cell_n0 8))
        have lg1 := World.block_lt_of_cell? _ _ g0
        clear hb1
        go_wp2_with fail
        refine (HT2.out _ (bstep bal2 HZw1.out)).mono ?_
        rintro e w2 ⟨v2, rfl, hv2, -, hb2⟩
        obtain ⟨c2, q2, rfl⟩ := hv2.shape
        have HZw2 := Lib.hid (bstep HZw1.out hb2)
        clear hv2 hb2 lg1 g0 g1 g2 g3 g4 g5 g6 g7 g8
        have g0 : w2.cell? ⟨w.heap.size, 0, none⟩ = some (.int .i64 k) := bcell HZw2.out (bcell bal1 (cell_n0 0))
        have g1 : w2.cell? ⟨w.heap.size, 1, none⟩ = some (.string nm) := bcell HZw2.out (bcell bal1 (cell_n0 1))
        have g2 : w2.cell? ⟨w.heap.size, 2, none⟩ = some (.int .i64 u) := bcell HZw2.out (bcell bal1 (cell_n0 2))
        have g3 : w2.cell? ⟨w.heap.size, 3, none⟩ = some (.int .i64 tk) := bcell HZw2.out (bcell bal1 (cell_n0 3))
        have g4 : w2.cell? ⟨w.heap.size, 4, none⟩ = some (.slice ta tn tq) := bcell HZw2.out (bcell bal1 (cell_n0 4))
        have g5 : w2.cell? ⟨w.heap.size, 5, none⟩ = some (.int .i64 fk) := bcell HZw2.out (bcell bal1 (cell_n0 5))
        have g6 : w2.cell? ⟨w.heap.size, 6, none⟩ = some (.slice fa fn fq) := bcell HZw2.out (bcell bal1 (cell_n0 6))
        have g7 : w2.cell? ⟨w.heap.size, 7, none⟩ = some (.int .i64 l) := bcell HZw2.out (bcell bal1 (cell_n0 7))
        have g8 : w2.cell? ⟨w.heap.size, 8, none⟩ = some (.slice c m q) := bcell HZw2.out (bcell bal1 (cell_n0 8))
        have lg2 := World.block_lt_of_cell? _ _ g0
        clear g0 g1 g2 g3 g4 g5 g6 g7 g8
        go_wp2_with fail
        refine (HC.out _ (bstep bal2 HZw2.out)).mono ?_
        rintro e w3 ⟨rfl, hb3⟩
        have HZw3 := Lib.hid (bstep HZw2.out hb3)
        clear hb3 lg2
        have g0 : w3.cell? ⟨w.heap.size, 0, none⟩ = some (.int .i64 k) := bcell HZw3.out (bcell bal1 (cell_n0 0))
        have g1 : w3.cell? ⟨w.heap.size, 1, none⟩ = some (.string nm) := bcell HZw3.out (bcell bal1 (cell_n0 1))
        have g2 : w3.cell? ⟨w.heap.size, 2, none⟩ = some (.int .i64 u) := bcell HZw3.out (bcell bal1 (cell_n0 2))
        have g3 : w3.cell? ⟨w.heap.size, 3, none⟩ = some (.int .i64 tk) := bcell HZw3.out (bcell bal1 (cell_n0 3))
        have g4 : w3.cell? ⟨w.heap.size, 4, none⟩ = some (.slice ta tn tq) := bcell HZw3.out (bcell bal1 (cell_n0 4))
        have g5 : w3.cell? ⟨w.heap.size, 5, none⟩ = some (.int .i64 fk) := bcell HZw3.out (bcell bal1 (cell_n0 5))
        have g6 : w3.cell? ⟨w.heap.size, 6, none⟩ = some (.slice fa fn fq) := bcell HZw3.out (bcell bal1 (cell_n0 6))
        have g7 : w3.cell? ⟨w.heap.size, 7, none⟩ = some (.int .i64 l) := bcell HZw3.out (bcell bal1 (cell_n0 7))
        have g8 : w3.cell? ⟨w.heap.size, 8, none⟩ = some (.slice c m q) := bcell HZw3.out (bcell bal1 (cell_n0 8))
        have lg3 := World.block_lt_of_cell? _ _ g0
        go_wp2_with fail
        refine (HR2.out (by simp) (by simp) _ (bstep bal2 HZw3.out)).mono ?_
        rintro e w4 ⟨v1, lv2, rfl, hv1, -, hb4⟩
        obtain ⟨k5, nm5, u5', tk5, ta5, tn5, tq5, fk5, fa5, fn5, fq5, l5, c5', m5, q5, rfl⟩ := hv1.shape
        have HZw4 := Lib.hid (bstep (bstep HZw3.out hb4) (bal1 (o := .cells #[.int .i64 k5, .string nm5, .int .i64 u5', .int .i64 tk5, .slice ta5 tn5 tq5, .int .i64 fk5, .slice fa5 fn5 fq5, .int .i64 l5, .slice c5' m5 q5] 28)))
        have hsz := HZw3.out.size
        simp at hsz
        have HV5 := Lib.hid (show TmNew (w.heap.size + 1 + 1) (w4.alloc (.cells #[.int .i64 k5, .string nm5, .int .i64 u5', .int .i64 tk5, .slice ta5 tn5 tq5, .int .i64 fk5, .slice fa5 fn5 fq5, .int .i64 l5, .slice c5' m5 q5] 28)) bt _ from (hv1.below bal1).mono (by omega))
        clear lg3 g0 g1 g2 g3 g4 g5 g6 g7 g8 hv1
        have z0 : (w4.alloc (.cells #[.int .i64 k5, .string nm5, .int .i64 u5', .int .i64 tk5, .slice ta5 tn5 tq5, .int .i64 fk5, .slice fa5 fn5 fq5, .int .i64 l5, .slice c5' m5 q5] 28)).cell? ⟨w.heap.size + 1, 0, none⟩ = some (.int .i64 0) := bcell HZw4.out (cell_n1 0)
        have y0 : (w4.alloc (.cells #[.int .i64 k5, .string nm5, .int .i64 u5', .int .i64 tk5, .slice ta5 tn5 tq5, .int .i64 fk5, .slice fa5 fn5 fq5, .int .i64 l5, .slice c5' m5 q5] 28)).frozen? ⟨w.heap.size + 1, 0, none⟩ = false := bfroc HZw4.out (cell_n1 0) (fro_n1 0)
        have z1 : (w4.alloc (.cells #[.int .i64 k5, .string nm5, .int .i64 u5', .int .i64 tk5, .slice ta5 tn5 tq5, .int .i64 fk5, .slice fa5 fn5 fq5, .int .i64 l5, .slice c5' m5 q5] 28)).cell? ⟨w.heap.size + 1, 1, none⟩ = some (.string { data := #[] }) := bcell HZw4.out (cell_n1 1)
        have y1 : (w4.alloc (.cells #[.int .i64 k5, .string nm5, .int .i64 u5', .int .i64 tk5, .slice ta5 tn5 tq5, .int .i64 fk5, .slice fa5 fn5 fq5, .int .i64 l5, .slice c5' m5 q5] 28)).frozen? ⟨w.heap.size + 1, 1, none⟩ = false := bfroc HZw4.out (cell_n1 1) (fro_n1 1)
        have z2 : (w4.alloc (.cells #[.int .i64 k5, .string nm5, .int .i64 u5', .int .i64 tk5, .slice ta5 tn5 tq5, .int .i64 fk5, .slice fa5 fn5 fq5, .int .i64 l5, .slice c5' m5 q5] 28)).cell? ⟨w.heap.size + 1, 2, none⟩ = some (.int .i64 0) := bcell HZw4.out (cell_n1 2)
        have y2 : (w4.alloc (.cells #[.int .i64 k5, .string nm5, .int .i64 u5', .int .i64 tk5, .slice ta5 tn5 tq5, .int .i64 fk5, .slice fa5 fn5 fq5, .int .i64 l5, .slice c5' m5 q5] 28)).frozen? ⟨w.heap.size + 1, 2, none⟩ = false := bfroc HZw4.out (cell_n1 2) (fro_n1 2)
        have z3 : (w4.alloc (.cells #[.int .i64 k5, .string nm5, .int .i64 u5', .int .i64 tk5, .slice ta5 tn5 tq5, .int .i64 fk5, .slice fa5 fn5 fq5, .int .i64 l5, .slice c5' m5 q5] 28)).cell? ⟨w.heap.size + 1, 3, none⟩ = some (.int .i64 0) := bcell HZw4.out (cell_n1 3)
        have y3 : (w4.alloc (.cells #[.int .i64 k5, .string nm5, .int .i64 u5', .int .i64 tk5, .slice ta5 tn5 tq5, .int .i64 fk5, .slice fa5 fn5 fq5, .int .i64 l5, .slice c5' m5 q5] 28)).frozen? ⟨w.heap.size + 1, 3, none⟩ = false := bfroc HZw4.out (cell_n1 3) (fro_n1 3)
        have z4 : (w4.alloc (.cells #[.int .i64 k5, .string nm5, .int .i64 u5', .int .i64 tk5, .slice ta5 tn5 tq5, .int .i64 fk5, .slice fa5 fn5 fq5, .int .i64 l5, .slice c5' m5 q5] 28)).cell? ⟨w.heap.size + 1, 4, none⟩ = some (.slice none 0 0) := bcell HZw4.out (cell_n1 4)
        have y4 : (w4.alloc (.cells #[.int .i64 k5, .string nm5, .int .i64 u5', .int .i64 tk5, .slice ta5 tn5 tq5, .int .i64 fk5, .slice fa5 fn5 fq5, .int .i64 l5, .slice c5' m5 q5] 28)).frozen? ⟨w.heap.size + 1, 4, none⟩ = false := bfroc HZw4.out (cell_n1 4) (fro_n1 4)
        have z5 : (w4.alloc (.cells #[.int .i64 k5, .string nm5, .int .i64 u5', .int .i64 tk5, .slice ta5 tn5 tq5, .int .i64 fk5, .slice fa5 fn5 fq5, .int .i64 l5, .slice c5' m5 q5] 28)).cell? ⟨w.heap.size + 1, 5, none⟩ = some (.int .i64 0) := bcell HZw4.out (cell_n1 5)
        have y5 : (w4.alloc (.cells #[.int .i64 k5, .string nm5, .int .i64 u5', .int .i64 tk5, .slice ta5 tn5 tq5, .int .i64 fk5, .slice fa5 fn5 fq5, .int .i64 l5, .slice c5' m5 q5] 28)).frozen? ⟨w.heap.size + 1, 5, none⟩ = false := bfroc HZw4.out (cell_n1 5) (fro_n1 5)
        have z6 : (w4.alloc (.cells #[.int .i64 k5, .string nm5, .int .i64 u5', .int .i64 tk5, .slice ta5 tn5 tq5, .int .i64 fk5, .slice fa5 fn5 fq5, .int .i64 l5, .slice c5' m5 q5] 28)).cell? ⟨w.heap.size + 1, 6, none⟩ = some (.slice none 0 0) := bcell HZw4.out (cell_n1 6)
        have y6 : (w4.alloc (.cells #[.int .i64 k5, .string nm5, .int .i64 u5', .int .i64 tk5, .slice ta5 tn5 tq5, .int .i64 fk5, .slice fa5 fn5 fq5, .int .i64 l5, .slice c5' m5 q5] 28)).frozen? ⟨w.heap.size + 1, 6, none⟩ = false := bfroc HZw4.out (cell_n1 6) (fro_n1 6)
        have z7 : (w4.alloc (.cells #[.int .i64 k5, .string nm5, .int .i64 u5', .int .i64 tk5, .slice ta5 tn5 tq5, .int .i64 fk5, .slice fa5 fn5 fq5, .int .i64 l5, .slice c5' m5 q5] 28)).cell? ⟨w.heap.size + 1, 7, none⟩ = some (.int .i64 0) := bcell HZw4.out (cell_n1 7)
        have y7 : (w4.alloc (.cells #[.int .i64 k5, .string nm5, .int .i64 u5', .int .i64 tk5, .slice ta5 tn5 tq5, .int .i64 fk5, .slice fa5 fn5 fq5, .int .i64 l5, .slice c5' m5 q5] 28)).frozen? ⟨w.heap.size + 1, 7, none⟩ = false := bfroc HZw4.out (cell_n1 7) (fro_n1 7)
        have z8 : (w4.alloc (.cells #[.int .i64 k5, .string nm5, .int .i64 u5', .int .i64 tk5, .slice ta5 tn5 tq5, .int .i64 fk5, .slice fa5 fn5 fq5, .int .i64 l5, .slice c5' m5 q5] 28)).cell? ⟨w.heap.size + 1, 8, none⟩ = some (.slice none 0 0) := bcell HZw4.out (cell_n1 8)
        have y8 : (w4.alloc (.cells #[.int .i64 k5, .string nm5, .int .i64 u5', .int .i64 tk5, .slice ta5 tn5 tq5, .int .i64 fk5, .slice fa5 fn5 fq5, .int .i64 l5, .slice c5' m5 q5] 28)).frozen? ⟨w.heap.size + 1, 8, none⟩ = false := bfroc HZw4.out (cell_n1 8) (fro_n1 8)
        have lz0 := World.block_lt_of_cell? _ _ z0
        simp only [World.size_alloc] at lz0
        have HB6 := Lib.hid (bstep bal2 HZw4.out)
        have hz4 : w.heap.size + 1 + 1 ≤ w4.heap.size := by have := (bstep HZw3.out hb4).size; simp at this; omega
        clear hb4
        go_wp2_with fail
        refine bodyPost_ret (v := .tuple #[.agg #[.int .i64 k5, .string nm5, .int .i64 u5', .int .i64 tk5, .slice ta5 tn5 tq5, .int .i64 fk5, .slice fa5 fn5 fq5, .int .i64 l5, .slice c5' m5 q5], .bool true]) (by simp [results, Try.results5, go_sem, z0, z1, z2, z3, z4, z5, z6, z7, z8]) rfl ?_
        exact ⟨_, rfl, TmNew.mono ((((((((((HV5.out).setCell (by show w.heap.size + 1 < w.heap.size + 1 + 1; omega) _).setCell (by show w.heap.size + 1 < w.heap.size + 1 + 1; omega) _).setCell (by show w.heap.size + 1 < w.heap.size + 1 + 1; omega) _).setCell (by show w.heap.size + 1 < w.heap.size + 1 + 1; omega) _).setCell (by show w.heap.size + 1 < w.heap.size + 1 + 1; omega) _).setCell (by show w.heap.size + 1 < w.heap.size + 1 + 1; omega) _).setCell (by show w.heap.size + 1 < w.heap.size + 1 + 1; omega) _).setCell (by show w.heap.size + 1 < w.heap.size + 1 + 1; omega) _).setCell (by show w.heap.size + 1 < w.heap.size + 1 + 1; omega) _) (by omega), (((((((((HB6.out).setCell (by show w.heap.size ≤ w.heap.size + 1; omega) _).setCell (by show w.heap.size ≤ w.heap.size + 1; omega) _).setCell (by show w.heap.size ≤ w.heap.size + 1; omega) _).setCell (by show w.heap.size ≤ w.heap.size + 1; omega) _).setCell (by show w.heap.size ≤ w.heap.size + 1; omega) _).setCell (by show w.heap.size ≤ w.heap.size + 1; omega) _).setCell (by show w.heap.size ≤ w.heap.size + 1; omega) _).setCell (by show w.heap.size ≤ w.heap.size + 1; omega) _).setCell (by show w.heap.size ≤ w.heap.size + 1; omega) _⟩
      · simp only [Bool.true_and, decide_true, Bool.not_true, Bool.false_eq_true, if_false]
        go_enter Try.func5, Try.ntmps5
        go_wp2_with fail
        refine (HV.out _ bal2).mono ?_
        rintro e w1 ⟨rfl, hb1⟩
        have HZw1 := Lib.hid hb1
        have g0 : w1.cell? ⟨w.heap.size, 0, none⟩ = some (.int .i64 k) := bcell HZw1.out (bcell bal1 (cell_n0 0))
        have g1 : w1.cell? ⟨w.heap.size, 1, none⟩ = some (.string nm) := bcell HZw1.out (bcell bal1 (cell_n0 1))
        have g2 : w1.cell? ⟨w.heap.size, 2, none⟩ = some (.int .i64 u) := bcell HZw1.out (bcell bal1 (cell_n0 2))
        have g3 : w1.cell? ⟨w.heap.size, 3, none⟩ = some (.int .i64 tk) := bcell HZw1.out (bcell bal1 (cell_n0 3))
        have g4 : w1.cell? ⟨w.heap.size, 4, none⟩ = some (.slice ta tn tq) := bcell HZw1.out (bcell bal1 (cell_n0 4))
        have g5 : w1.cell? ⟨w.heap.size, 5, none⟩ = some (.int .i64 fk) := bcell HZw1.out (bcell bal1 (cell_n0 5))
        have g6 : w1.cell? ⟨w.heap.size, 6, none⟩ = some (.slice fa fn fq) := bcell HZw1.out (bcell bal1 (cell_n0 6))
        have g7 : w1.cell? ⟨w.heap.size, 7, none⟩ = some (.int .i64 l) := bcell HZw1.out (bcell bal1 (cell_n0 7))
        have g8 : w1.cell? ⟨w.heap.size, 8, none⟩ = some (.slice c m q) := bcell HZw1.out (bcell bal1 (cell_n0 8))
        have lg1 := World.block_lt_of_cell? _ _ g0
        clear hb1
        go_wp2_with fail
        refine (HT2.out _ (bstep bal2 HZw1.out)).mono ?_
        rintro e w2 ⟨v2, rfl, hv2, -, hb2⟩
        obtain ⟨c2, q2, rfl⟩ := hv2.shape
        have HZw2 := Lib.hid (bstep HZw1.out hb2)
        clear hv2 hb2 lg1 g0 g1 g2 g3 g4 g5 g6 g7 g8
        have g0 : w2.cell? ⟨w.heap.size, 0, none⟩ = some (.int .i64 k) := bcell HZw2.out (bcell bal1 (cell_n0 0))
        have g1 : w2.cell? ⟨w.heap.size, 1, none⟩ = some (.string nm) := bcell HZw2.out (bcell bal1 (cell_n0 1))
        have g2 : w2.cell? ⟨w.heap.size, 2, none⟩ = some (.int .i64 u) := bcell HZw2.out (bcell bal1 (cell_n0 2))
        have g3 : w2.cell? ⟨w.heap.size, 3, none⟩ = some (.int .i64 tk) := bcell HZw2.out (bcell bal1 (cell_n0 3))
        have g4 : w2.cell? ⟨w.heap.size, 4, none⟩ = some (.slice ta tn tq) := bcell HZw2.out (bcell bal1 (cell_n0 4))
        have g5 : w2.cell? ⟨w.heap.size, 5, none⟩ = some (.int .i64 fk) := bcell HZw2.out (bcell bal1 (cell_n0 5))
        have g6 : w2.cell? ⟨w.heap.size, 6, none⟩ = some (.slice fa fn fq) := bcell HZw2.out (bcell bal1 (cell_n0 6))
        have g7 : w2.cell? ⟨w.heap.size, 7, none⟩ = some (.int .i64 l) := bcell HZw2.out (bcell bal1 (cell_n0 7))
        have g8 : w2.cell? ⟨w.heap.size, 8, none⟩ = some (.slice c m q) := bcell HZw2.out (bcell bal1 (cell_n0 8))
        have lg2 := World.block_lt_of_cell? _ _ g0
        clear g0 g1 g2 g3 g4 g5 g6 g7 g8
        go_wp2_with fail
        refine (HC.out _ (bstep bal2 HZw2.out)).mono ?_
        rintro e w3 ⟨rfl, hb3⟩
        have HZw3 := Lib.hid (bstep HZw2.out hb3)
        clear hb3 lg2
        have z0 : w3.cell? ⟨w.heap.size + 1, 0, none⟩ = some (.int .i64 0) := bcell HZw3.out (cell_n1 0)
        have y0 : w3.frozen? ⟨w.heap.size + 1, 0, none⟩ = false := bfroc HZw3.out (cell_n1 0) (fro_n1 0)
        have z1 : w3.cell? ⟨w.heap.size + 1, 1, none⟩ = some (.string { data := #[] }) := bcell HZw3.out (cell_n1 1)
        have y1 : w3.frozen? ⟨w.heap.size + 1, 1, none⟩ = false := bfroc HZw3.out (cell_n1 1) (fro_n1 1)
        have z2 : w3.cell? ⟨w.heap.size + 1, 2, none⟩ = some (.int .i64 0) := bcell HZw3.out (cell_n1 2)
        have y2 : w3.frozen? ⟨w.heap.size + 1, 2, none⟩ = false := bfroc HZw3.out (cell_n1 2) (fro_n1 2)
        have z3 : w3.cell? ⟨w.heap.size + 1, 3, none⟩ = some (.int .i64 0) := bcell HZw3.out (cell_n1 3)
        have y3 : w3.frozen? ⟨w.heap.size + 1, 3, none⟩ = false := bfroc HZw3.out (cell_n1 3) (fro_n1 3)
        have z4 : w3.cell? ⟨w.heap.size + 1, 4, none⟩ = some (.slice none 0 0) := bcell HZw3.out (cell_n1 4)
        have y4 : w3.frozen? ⟨w.heap.size + 1, 4, none⟩ = false := bfroc HZw3.out (cell_n1 4) (fro_n1 4)
        have z5 : w3.cell? ⟨w.heap.size + 1, 5, none⟩ = some (.int .i64 0) := bcell HZw3.out (cell_n1 5)
        have y5 : w3.frozen? ⟨w.heap.size + 1, 5, none⟩ = false := bfroc HZw3.out (cell_n1 5) (fro_n1 5)
        have z6 : w3.cell? ⟨w.heap.size + 1, 6, none⟩ = some (.slice none 0 0) := bcell HZw3.out (cell_n1 6)
        have y6 : w3.frozen? ⟨w.heap.size + 1, 6, none⟩ = false := bfroc HZw3.out (cell_n1 6) (fro_n1 6)
        have z7 : w3.cell? ⟨w.heap.size + 1, 7, none⟩ = some (.int .i64 0) := bcell HZw3.out (cell_n1 7)
        have y7 : w3.frozen? ⟨w.heap.size + 1, 7, none⟩ = false := bfroc HZw3.out (cell_n1 7) (fro_n1 7)
        have z8 : w3.cell? ⟨w.heap.size + 1, 8, none⟩ = some (.slice none 0 0) := bcell HZw3.out (cell_n1 8)
        have y8 : w3.frozen? ⟨w.heap.size + 1, 8, none⟩ = false := bfroc HZw3.out (cell_n1 8) (fro_n1 8)
        have lz0 := World.block_lt_of_cell? _ _ z0
        have HB6 := Lib.hid (bstep bal2 HZw3.out)
        go_wp2_with fail
        refine bodyPost_ret (v := .tuple #[.agg #[.int .i64 0, .string { data := #[] }, .int .i64 0, .int .i64 0, .slice none 0 0, .int .i64 0, .slice none 0 0, .int .i64 0, .slice none 0 0], .bool false]) (by simp [results, Try.results5, go_sem, z0, z1, z2, z3, z4, z5, z6, z7, z8]) rfl ?_
        exact ⟨_, rfl, TmNew.nil (by show 0 ≤ _; omega), (((((((((HB6.out).setCell (by show w.heap.size ≤ w.heap.size + 1; omega) _).setCell (by show w.heap.size ≤ w.heap.size + 1; omega) _).setCell (by show w.heap.size ≤ w.heap.size + 1; omega) _).setCell (by show w.heap.size ≤ w.heap.size + 1; omega) _).setCell (by show w.heap.size ≤ w.heap.size + 1; omega) _).setCell (by show w.heap.size ≤ w.heap.size + 1; omega) _).setCell (by show w.heap.size ≤ w.heap.size + 1; omega) _).setCell (by show w.heap.size ≤ w.heap.size + 1; omega) _).setCell (by show w.heap.size ≤ w.heap.size + 1; omega) _⟩
    · have hd : decide (N = n) = false := decide_eq_false hn
      rw [hd]
      simp only [Bool.true_and, Bool.false_and, Bool.and_false, Bool.false_eq_true, if_false]
      have hne : ((n : Int) == (N : Int)) = false := by simp; omega
      have hne2 : ((n : Int) != (N : Int)) = true := by simp only [bne, hne]; rfl
      have hne3 : ¬ ((n : Int) = (N : Int)) := by omega
      clear hn hd
      go_enter Try.func5, Try.ntmps5
      go_wp2_with fail
      refine (HV.out _ bal2).mono ?_
      rintro e w1 ⟨rfl, hb1⟩
      have HZw1 := Lib.hid hb1
      have g0 : w1.cell? ⟨w.heap.size, 0, none⟩ = some (.int .i64 k) := bcell HZw1.out (bcell bal1 (cell_n0 0))
      have g1 : w1.cell? ⟨w.heap.size, 1, none⟩ = some (.string nm) := bcell HZw1.out (bcell bal1 (cell_n0 1))
      have g2 : w1.cell? ⟨w.heap.size, 2, none⟩ = some (.int .i64 u) := bcell HZw1.out (bcell bal1 (cell_n0 2))
      have g3 : w1.cell? ⟨w.heap.size, 3, none⟩ = some (.int .i64 tk) := bcell HZw1.out (bcell bal1 (cell_n0 3))
      have g4 : w1.cell? ⟨w.heap.size, 4, none⟩ = some (.slice ta tn tq) := bcell HZw1.out (bcell bal1 (cell_n0 4))
      have g5 : w1.cell? ⟨w.heap.size, 5, none⟩ = some (.int .i64 fk) := bcell HZw1.out (bcell bal1 (cell_n0 5))
      have g6 : w1.cell? ⟨w.heap.size, 6, none⟩ = some (.slice fa fn fq) := bcell HZw1.out (bcell bal1 (cell_n0 6))
      have g7 : w1.cell? ⟨w.heap.size, 7, none⟩ = some (.int .i64 l) := bcell HZw1.out (bcell bal1 (cell_n0 7))
      have g8 : w1.cell? ⟨w.heap.size, 8, none⟩ = some (.slice c m q) := bcell HZw1.out (bcell bal1 (cell_n0 8))
      have lg1 := World.block_lt_of_cell? _ _ g0
      clear hb1
      go_wp2_with fail
      refine (HT2.out _ (bstep bal2 HZw1.out)).mono ?_
      rintro e w2 ⟨v2, rfl, hv2, -, hb2⟩
      obtain ⟨c2, q2, rfl⟩ := hv2.shape
      have HZw2 := Lib.hid (bstep HZw1.out hb2)
      clear hv2 hb2 lg1 g0 g1 g2 g3 g4 g5 g6 g7 g8
      have g0 : w2.cell? ⟨w.heap.size, 0, none⟩ = some (.int .i64 k) := bcell HZw2.out (bcell bal1 (cell_n0 0))
      have g1 : w2.cell? ⟨w.heap.size, 1, none⟩ = some (.string nm) := bcell HZw2.out (bcell bal1 (cell_n0 1))
      have g2 : w2.cell? ⟨w.heap.size, 2, none⟩ = some (.int .i64 u) := bcell HZw2.out (bcell bal1 (cell_n0 2))
      have g3 : w2.cell? ⟨w.heap.size, 3, none⟩ = some (.int .i64 tk) := bcell HZw2.out (bcell bal1 (cell_n0 3))
      have g4 : w2.cell? ⟨w.heap.size, 4, none⟩ = some (.slice ta tn tq) := bcell HZw2.out (bcell bal1 (cell_n0 4))
      have g5 : w2.cell? ⟨w.heap.size, 5, none⟩ = some (.int .i64 fk) := bcell HZw2.out (bcell bal1 (cell_n0 5))
      have g6 : w2.cell? ⟨w.heap.size, 6, none⟩ = some (.slice fa fn fq) := bcell HZw2.out (bcell bal1 (cell_n0 6))
      have g7 : w2.cell? ⟨w.heap.size, 7, none⟩ = some (.int .i64 l) := bcell HZw2.out (bcell bal1 (cell_n0 7))
      have g8 : w2.cell? ⟨w.heap.size, 8, none⟩ = some (.slice c m q) := bcell HZw2.out (bcell bal1 (cell_n0 8))
      have lg2 := World.block_lt_of_cell? _ _ g0
      clear g0 g1 g2 g3 g4 g5 g6 g7 g8
      have z0 : w2.cell? ⟨w.heap.size + 1, 0, none⟩ = some (.int .i64 0) := bcell HZw2.out (cell_n1 0)
      have y0 : w2.frozen? ⟨w.heap.size + 1, 0, none⟩ = false := bfroc HZw2.out (cell_n1 0) (fro_n1 0)
      have z1 : w2.cell? ⟨w.heap.size + 1, 1, none⟩ = some (.string { data := #[] }) := bcell HZw2.out (cell_n1 1)
      have y1 : w2.frozen? ⟨w.heap.size + 1, 1, none⟩ = false := bfroc HZw2.out (cell_n1 1) (fro_n1 1)
      have z2 : w2.cell? ⟨w.heap.size + 1, 2, none⟩ = some (.int .i64 0) := bcell HZw2.out (cell_n1 2)
      have y2 : w2.frozen? ⟨w.heap.size + 1, 2, none⟩ = false := bfroc HZw2.out (cell_n1 2) (fro_n1 2)
      have z3 : w2.cell? ⟨w.heap.size + 1, 3, none⟩ = some (.int .i64 0) := bcell HZw2.out (cell_n1 3)
      have y3 : w2.frozen? ⟨w.heap.size + 1, 3, none⟩ = false := bfroc HZw2.out (cell_n1 3) (fro_n1 3)
      have z4 : w2.cell? ⟨w.heap.size + 1, 4, none⟩ = some (.slice none 0 0) := bcell HZw2.out (cell_n1 4)
      have y4 : w2.frozen? ⟨w.heap.size + 1, 4, none⟩ = false := bfroc HZw2.out (cell_n1 4) (fro_n1 4)
      have z5 : w2.cell? ⟨w.heap.size + 1, 5, none⟩ = some (.int .i64 0) := bcell HZw2.out (cell_n1 5)
      have y5 : w2.frozen? ⟨w.heap.size + 1, 5, none⟩ = false := bfroc HZw2.out (cell_n1 5) (fro_n1 5)
      have z6 : w2.cell? ⟨w.heap.size + 1, 6, none⟩ = some (.slice none 0 0) := bcell HZw2.out (cell_n1 6)
      have y6 : w2.frozen? ⟨w.heap.size + 1, 6, none⟩ = false := bfroc HZw2.out (cell_n1 6) (fro_n1 6)
      have z7 : w2.cell? ⟨w.heap.size + 1, 7, none⟩ = some (.int .i64 0) := bcell HZw2.out (cell_n1 7)
      have y7 : w2.frozen? ⟨w.heap.size + 1, 7, none⟩ = false := bfroc HZw2.out (cell_n1 7) (fro_n1 7)
      have z8 : w2.cell? ⟨w.heap.size + 1, 8, none⟩ = some (.slice none 0 0) := bcell HZw2.out (cell_n1 8)
      have y8 : w2.frozen? ⟨w.heap.size + 1, 8, none⟩ = false := bfroc HZw2.out (cell_n1 8) (fro_n1 8)
      have lz0 := World.block_lt_of_cell? _ _ z0
      have HB6 := Lib.hid (bstep bal2 HZw2.out)
      go_wp2_with fail
      refine bodyPost_ret (v := .tuple #[.agg #[.int .i64 0, .string { data := #[] }, .int .i64 0, .int .i64 0, .slice none 0 0, .int .i64 0, .slice none 0 0, .int .i64 0, .slice none 0 0], .bool false]) (by simp [results, Try.results5, go_sem, z0, z1, z2, z3, z4, z5, z6, z7, z8]) rfl ?_
      exact ⟨_, rfl, TmNew.nil (by show 0 ≤ _; omega), (((((((((HB6.out).setCell (by show w.heap.size ≤ w.heap.size + 1; omega) _).setCell (by show w.heap.size ≤ w.heap.size + 1; omega) _).setCell (by show w.heap.size ≤ w.heap.size + 1; omega) _).setCell (by show w.heap.size ≤ w.heap.size + 1; omega) _).setCell (by show w.heap.size ≤ w.heap.size + 1; omega) _).setCell (by show w.heap.size ≤ w.heap.size + 1; omega) _).setCell (by show w.heap.size ≤ w.heap.size + 1; omega) _).setCell (by show w.heap.size ≤ w.heap.size + 1; omega) _).setCell (by show w.heap.size ≤ w.heap.size + 1; omega) _⟩
theorem implWithTypes (F G : Nat → Prop) (t : Tm) (L : List Ty) (y lv : Value) (w : World) (hy : TmRep F w t y) (hl : TysRep G w L lv) (_hcnt : t.cnt ≤ 1048576) :
    Calls Try.prog 5 #[y, lv] w (RetTmB (t.withT L) (t.withB L) w) := implWithTypesN F G t L y lv w hy hl
end Go.Proofs.Ytpckgpndaligbaa
