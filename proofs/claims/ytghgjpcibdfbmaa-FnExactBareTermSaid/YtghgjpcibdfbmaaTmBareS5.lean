/-
  A term without casts and types, by the reference: functions.
-/
import Derived.Test.YtghgjpcibdfbmaaTmBareP
namespace Go.Proofs.Ytghgjpcibdfbmaa
open Go.RowKit
set_option linter.unusedVariables false
set_option linter.unusedSimpArgs false
set_option maxRecDepth 100000

set_option maxHeartbeats 8000000 in
theorem bareS5 (nt : Int) (F : Nat → Prop) (t : Tm) (hk5 : t.kind = 5) (IH0 : ∀ t' ∈ t.kids, BareC nt F t') : BareC nt F t := by
  intro d y w hsh hy hcnt
  have IH : ∀ t' ∈ t.kids, ∀ (y : Value) (W : World), TmRep F W t' y → Calls Try.prog 103 #[y] W (RetTm t'.bare W) :=
    fun t' ht y W h => IH0 t' ht (d - 1) y W (by cases t with | mk k s u ty f l ts => exact Tm.shapes_mem (Tm.shape_parts hsh).2.2.2.2 ht) h (by have := Tm.cnt_kid ht; omega)
  clear IH0
  obtain ⟨k, nm, u, tk, ta, tn, tq, fk, fa, fn, fq, l, c, m, q, rfl⟩ := hy.shape
  obtain ⟨r1, r2, r3, r4, r5, r6, r7, r8, r9, rn, rm, rq, hty, hsr, hks⟩ := hy.parts
  obtain ⟨i0, hi, hz0, hz1, hz2⟩ := info_parts Try.infoTm
  cases t with | mk kk nn uu tt ff ll ts =>
  obtain ⟨-, -, htop, -, -⟩ := Tm.shape_parts hsh
  simp only [Tm.kind, Tm.name, Tm.num, Tm.type, Tm.src, Tm.label, Tm.kids] at *
  subst r1 r2 r3 r8
  unfold Tm.cnt at hcnt
  have hcl : m ≤ 1048576 := by omega
  have HN := Lib.hid r9
  have HRN := Lib.hid rn
  have IHH := Lib.hid IH
  have Z0 := Lib.hid hz0
  have Z1 := Lib.hid hz1
  have Z2 := Lib.hid hz2
  have HI := Lib.hid hi
  unfold maxLen at rq
  subst hk5
  have hbare : (Tm.mk 5 nm u tt ff l ts).bare = .mk 5 nm u .any1 .no 0 (Tm.bares ts) := by unfold Tm.bare bareN; rfl
  rw [hbare]
  clear IH hy r9 r4 r5 r6 r7 rn hsh hz0 hz1 hz2 hi hcnt htop hbare hty hsr
  go_enter Try.func103, Try.ntmps103
  go_wp2_with fail
  refine (specL1Any _).mono ?_
  rintro e w3 ⟨v3, rfl, hv3, hb3⟩
  obtain ⟨k3, c3, m3, q3, fp3, rfl, hk3, hm3, hs3, hd3, hx3⟩ := hv3.open
  simp only [Ty.kind] at hk3
  have hm3' : m3 = 0 := hm3
  subst hk3 hm3'
  have hq3 : q3 ≤ maxLen := by
    unfold Ty.row at hs3
    unfold SOwn at hs3
    obtain ⟨z, zs, f1, f2, e, -, h1, h2⟩ := hs3
    unfold SOwn at h2
    obtain ⟨z', zs', f1', f2', e', -, h1', h2'⟩ := h2
    simp only [List.cons.injEq] at e
    obtain ⟨-, rfl⟩ := e
    simp only [List.cons.injEq] at e'
    obtain ⟨rfl, -⟩ := e'
    unfold COwn at h1'
    obtain ⟨a', q', e, -, hq, -⟩ := h1'
    simp only [Value.slice.injEq] at e
    omega
  have HQ3 := Lib.hid hq3
  clear hm3 hs3 hd3 hx3 hv3 hq3
  have o0 : w3.cell? ⟨w.heap.size + 1 + 1, 0, none⟩ = some (.int .i64 5) := bcell hb3 (cell_n2 0)
  have o1 : w3.cell? ⟨w.heap.size + 1 + 1, 1, none⟩ = some (.string nm) := bcell hb3 (cell_n2 1)
  have o2 : w3.cell? ⟨w.heap.size + 1 + 1, 2, none⟩ = some (.int .i64 u) := bcell hb3 (cell_n2 2)
  have o3 : w3.cell? ⟨w.heap.size + 1 + 1, 3, none⟩ = some (.int .i64 0) := bcell hb3 (cell_n2 3)
  have o4 : w3.cell? ⟨w.heap.size + 1 + 1, 4, none⟩ = some (.slice none 0 0) := bcell hb3 (cell_n2 4)
  have o5 : w3.cell? ⟨w.heap.size + 1 + 1, 5, none⟩ = some (.int .i64 0) := bcell hb3 (cell_n2 5)
  have o6 : w3.cell? ⟨w.heap.size + 1 + 1, 6, none⟩ = some (.slice none 0 0) := bcell hb3 (cell_n2 6)
  have o7 : w3.cell? ⟨w.heap.size + 1 + 1, 7, none⟩ = some (.int .i64 0) := bcell hb3 (cell_n2 7)
  have o8 : w3.cell? ⟨w.heap.size + 1 + 1, 8, none⟩ = some (.slice none 0 0) := bcell hb3 (cell_n2 8)
  have p3 : w3.frozen? ⟨w.heap.size + 1 + 1, 3, none⟩ = false := bfroc hb3 (cell_n2 3) (fro_n2 3)
  have p4 : w3.frozen? ⟨w.heap.size + 1 + 1, 4, none⟩ = false := bfroc hb3 (cell_n2 4) (fro_n2 4)
  have lw3 := World.block_lt_of_cell? _ _ o0
  have x8 : w3.cell? ⟨w.heap.size, 8, none⟩ = some (.slice c m q) := bcell hb3 (bcell bal1 (bcell bal1 (cell_n0 8)))
  have x0 : w3.cell? ⟨w.heap.size, 0, none⟩ = some (.int .i64 5) := bcell hb3 (bcell bal1 (bcell bal1 (cell_n0 0)))
  have HB3 := Lib.hid hb3
  clear hb3
  go_wp2_with fail
  have hB1 : Below w.heap.size w ((w3.setCell ⟨w.heap.size + 1 + 1, 3, none⟩ (.int .i64 1)).setCell ⟨w.heap.size + 1 + 1, 4, none⟩ (.slice c3 0 q3)) := ((bstep (bstep bal1 bal2) HB3.out).setCell (by show w.heap.size ≤ w.heap.size + 1 + 1; omega) _).setCell (by show w.heap.size ≤ w.heap.size + 1 + 1; omega) _
  have hS1 : w.heap.size + 1 + 1 + 1 ≤ ((w3.setCell ⟨w.heap.size + 1 + 1, 3, none⟩ (.int .i64 1)).setCell ⟨w.heap.size + 1 + 1, 4, none⟩ (.slice c3 0 q3)).heap.size := by simp [World.setCell]; omega
  have hE8 : ((w3.setCell ⟨w.heap.size + 1 + 1, 3, none⟩ (.int .i64 1)).setCell ⟨w.heap.size + 1 + 1, 4, none⟩ (.slice c3 0 q3)).cell? ⟨w.heap.size, 8, none⟩ = some (.slice c m q) := sc_far (sc_far x8 (by simp)) (by simp)
  have z0 : ∃ uu : Value, ((w3.setCell ⟨w.heap.size + 1 + 1, 3, none⟩ (.int .i64 1)).setCell ⟨w.heap.size + 1 + 1, 4, none⟩ (.slice c3 0 q3)).cell? ⟨w.heap.size + 1, 0, none⟩ = some uu := ⟨_, sc_far (sc_far (bcell HB3.out (bcell bal1 (cell_n1 0))) (by simp)) (by simp)⟩
  have z1 : ∃ uu : Value, ((w3.setCell ⟨w.heap.size + 1 + 1, 3, none⟩ (.int .i64 1)).setCell ⟨w.heap.size + 1 + 1, 4, none⟩ (.slice c3 0 q3)).cell? ⟨w.heap.size + 1, 1, none⟩ = some uu := ⟨_, sc_far (sc_far (bcell HB3.out (bcell bal1 (cell_n1 1))) (by simp)) (by simp)⟩
  have z2 : ∃ uu : Value, ((w3.setCell ⟨w.heap.size + 1 + 1, 3, none⟩ (.int .i64 1)).setCell ⟨w.heap.size + 1 + 1, 4, none⟩ (.slice c3 0 q3)).cell? ⟨w.heap.size + 1, 2, none⟩ = some uu := ⟨_, sc_far (sc_far (bcell HB3.out (bcell bal1 (cell_n1 2))) (by simp)) (by simp)⟩
  have z3 : ∃ uu : Value, ((w3.setCell ⟨w.heap.size + 1 + 1, 3, none⟩ (.int .i64 1)).setCell ⟨w.heap.size + 1 + 1, 4, none⟩ (.slice c3 0 q3)).cell? ⟨w.heap.size + 1, 3, none⟩ = some uu := ⟨_, sc_far (sc_far (bcell HB3.out (bcell bal1 (cell_n1 3))) (by simp)) (by simp)⟩
  have z4 : ∃ uu : Value, ((w3.setCell ⟨w.heap.size + 1 + 1, 3, none⟩ (.int .i64 1)).setCell ⟨w.heap.size + 1 + 1, 4, none⟩ (.slice c3 0 q3)).cell? ⟨w.heap.size + 1, 4, none⟩ = some uu := ⟨_, sc_far (sc_far (bcell HB3.out (bcell bal1 (cell_n1 4))) (by simp)) (by simp)⟩
  have z5 : ∃ uu : Value, ((w3.setCell ⟨w.heap.size + 1 + 1, 3, none⟩ (.int .i64 1)).setCell ⟨w.heap.size + 1 + 1, 4, none⟩ (.slice c3 0 q3)).cell? ⟨w.heap.size + 1, 5, none⟩ = some uu := ⟨_, sc_far (sc_far (bcell HB3.out (bcell bal1 (cell_n1 5))) (by simp)) (by simp)⟩
  have z6 : ∃ uu : Value, ((w3.setCell ⟨w.heap.size + 1 + 1, 3, none⟩ (.int .i64 1)).setCell ⟨w.heap.size + 1 + 1, 4, none⟩ (.slice c3 0 q3)).cell? ⟨w.heap.size + 1, 6, none⟩ = some uu := ⟨_, sc_far (sc_far (bcell HB3.out (bcell bal1 (cell_n1 6))) (by simp)) (by simp)⟩
  have z7 : ∃ uu : Value, ((w3.setCell ⟨w.heap.size + 1 + 1, 3, none⟩ (.int .i64 1)).setCell ⟨w.heap.size + 1 + 1, 4, none⟩ (.slice c3 0 q3)).cell? ⟨w.heap.size + 1, 7, none⟩ = some uu := ⟨_, sc_far (sc_far (bcell HB3.out (bcell bal1 (cell_n1 7))) (by simp)) (by simp)⟩
  have z8 : ∃ uu : Value, ((w3.setCell ⟨w.heap.size + 1 + 1, 3, none⟩ (.int .i64 1)).setCell ⟨w.heap.size + 1 + 1, 4, none⟩ (.slice c3 0 q3)).cell? ⟨w.heap.size + 1, 8, none⟩ = some uu := ⟨_, sc_far (sc_far (bcell HB3.out (bcell bal1 (cell_n1 8))) (by simp)) (by simp)⟩
  have hFZ : ∀ o, ((w3.setCell ⟨w.heap.size + 1 + 1, 3, none⟩ (.int .i64 1)).setCell ⟨w.heap.size + 1 + 1, 4, none⟩ (.slice c3 0 q3)).frozen? ⟨w.heap.size + 1, o, none⟩ = false := fun o => (sc_fro _ _ _ _).trans ((sc_fro _ _ _ _).trans (bfro HB3.out (by simp) (bfro bal1 (by simp) (fro_n1 o))))
  have hFO : ∀ o, ((w3.setCell ⟨w.heap.size + 1 + 1, 3, none⟩ (.int .i64 1)).setCell ⟨w.heap.size + 1 + 1, 4, none⟩ (.slice c3 0 q3)).frozen? ⟨w.heap.size + 1 + 1, o, none⟩ = false := fun o => (sc_fro _ _ _ _).trans ((sc_fro _ _ _ _).trans (bfro HB3.out (by simp) (fro_n2 o)))
  have g0 : ((w3.setCell ⟨w.heap.size + 1 + 1, 3, none⟩ (.int .i64 1)).setCell ⟨w.heap.size + 1 + 1, 4, none⟩ (.slice c3 0 q3)).cell? ⟨w.heap.size + 1 + 1, 0, none⟩ = some (.int .i64 5) := sc_far (sc_far o0 (by simp)) (by simp)
  have g1 : ((w3.setCell ⟨w.heap.size + 1 + 1, 3, none⟩ (.int .i64 1)).setCell ⟨w.heap.size + 1 + 1, 4, none⟩ (.slice c3 0 q3)).cell? ⟨w.heap.size + 1 + 1, 1, none⟩ = some (.string nm) := sc_far (sc_far o1 (by simp)) (by simp)
  have g2 : ((w3.setCell ⟨w.heap.size + 1 + 1, 3, none⟩ (.int .i64 1)).setCell ⟨w.heap.size + 1 + 1, 4, none⟩ (.slice c3 0 q3)).cell? ⟨w.heap.size + 1 + 1, 2, none⟩ = some (.int .i64 u) := sc_far (sc_far o2 (by simp)) (by simp)
  have g3 : ((w3.setCell ⟨w.heap.size + 1 + 1, 3, none⟩ (.int .i64 1)).setCell ⟨w.heap.size + 1 + 1, 4, none⟩ (.slice c3 0 q3)).cell? ⟨w.heap.size + 1 + 1, 3, none⟩ = some (.int .i64 1) := sc_far (sc_self o3) (by simp)
  have g4 : ((w3.setCell ⟨w.heap.size + 1 + 1, 3, none⟩ (.int .i64 1)).setCell ⟨w.heap.size + 1 + 1, 4, none⟩ (.slice c3 0 q3)).cell? ⟨w.heap.size + 1 + 1, 4, none⟩ = some (.slice c3 0 q3) := sc_self (sc_far o4 (by simp))
  have g5 : ((w3.setCell ⟨w.heap.size + 1 + 1, 3, none⟩ (.int .i64 1)).setCell ⟨w.heap.size + 1 + 1, 4, none⟩ (.slice c3 0 q3)).cell? ⟨w.heap.size + 1 + 1, 5, none⟩ = some (.int .i64 0) := sc_far (sc_far o5 (by simp)) (by simp)
  have g6 : ((w3.setCell ⟨w.heap.size + 1 + 1, 3, none⟩ (.int .i64 1)).setCell ⟨w.heap.size + 1 + 1, 4, none⟩ (.slice c3 0 q3)).cell? ⟨w.heap.size + 1 + 1, 6, none⟩ = some (.slice none 0 0) := sc_far (sc_far o6 (by simp)) (by simp)
  have g7 : ((w3.setCell ⟨w.heap.size + 1 + 1, 3, none⟩ (.int .i64 1)).setCell ⟨w.heap.size + 1 + 1, 4, none⟩ (.slice c3 0 q3)).cell? ⟨w.heap.size + 1 + 1, 7, none⟩ = some (.int .i64 0) := sc_far (sc_far o7 (by simp)) (by simp)
  have g8 : ((w3.setCell ⟨w.heap.size + 1 + 1, 3, none⟩ (.int .i64 1)).setCell ⟨w.heap.size + 1 + 1, 4, none⟩ (.slice c3 0 q3)).cell? ⟨w.heap.size + 1 + 1, 8, none⟩ = some (.slice none 0 0) := sc_far (sc_far o8 (by simp)) (by simp)
  clear x8 x0 lw3 p3 p4 o0 o1 o2 o3 o4 o5 o6 o7 o8
  obtain ⟨W1, hW1⟩ : ∃ x, ((w3.setCell ⟨w.heap.size + 1 + 1, 3, none⟩ (.int .i64 1)).setCell ⟨w.heap.size + 1 + 1, 4, none⟩ (.slice c3 0 q3)) = x := ⟨_, rfl⟩
  rw [hW1] at hB1 hS1 hE8 hFZ hFO z0 z1 z2 z3 z4 z5 z6 z7 z8 g0 g1 g2 g3 g4 g5 g6 g7 g8 ⊢
  clear hW1
  have ZC : Hid ((∃ uu : Value, W1.cell? ⟨w.heap.size + 1, 0, none⟩ = some uu) ∧ (∃ uu : Value, W1.cell? ⟨w.heap.size + 1, 1, none⟩ = some uu) ∧ (∃ uu : Value, W1.cell? ⟨w.heap.size + 1, 2, none⟩ = some uu) ∧ (∃ uu : Value, W1.cell? ⟨w.heap.size + 1, 3, none⟩ = some uu) ∧ (∃ uu : Value, W1.cell? ⟨w.heap.size + 1, 4, none⟩ = some uu) ∧ (∃ uu : Value, W1.cell? ⟨w.heap.size + 1, 5, none⟩ = some uu) ∧ (∃ uu : Value, W1.cell? ⟨w.heap.size + 1, 6, none⟩ = some uu) ∧ (∃ uu : Value, W1.cell? ⟨w.heap.size + 1, 7, none⟩ = some uu) ∧ (∃ uu : Value, W1.cell? ⟨w.heap.size + 1, 8, none⟩ = some uu)) := Lib.hid ⟨z0, z1, z2, z3, z4, z5, z6, z7, z8⟩
  have GC : Hid (W1.cell? ⟨w.heap.size + 1 + 1, 0, none⟩ = some (.int .i64 5) ∧ W1.cell? ⟨w.heap.size + 1 + 1, 1, none⟩ = some (.string nm) ∧ W1.cell? ⟨w.heap.size + 1 + 1, 2, none⟩ = some (.int .i64 u) ∧ W1.cell? ⟨w.heap.size + 1 + 1, 3, none⟩ = some (.int .i64 1) ∧ W1.cell? ⟨w.heap.size + 1 + 1, 4, none⟩ = some (.slice c3 0 q3) ∧ W1.cell? ⟨w.heap.size + 1 + 1, 5, none⟩ = some (.int .i64 0) ∧ W1.cell? ⟨w.heap.size + 1 + 1, 6, none⟩ = some (.slice none 0 0) ∧ W1.cell? ⟨w.heap.size + 1 + 1, 7, none⟩ = some (.int .i64 0)) := Lib.hid ⟨g0, g1, g2, g3, g4, g5, g6, g7⟩
  have HB1 := Lib.hid hB1
  have HFZ := Lib.hid hFZ
  have HFO := Lib.hid hFO
  clear hB1 hFZ hFO z0 z1 z2 z3 z4 z5 z6 z7 z8 g0 g1 g2 g3 g4 g5 g6 g7
  go_loopw [4] (fun i wr => ∃ j : Nat, j ≤ m ∧ i = .int .i64 j ∧ Hid (Below w.heap.size w wr) ∧ w.heap.size + 1 + 1 + 1 ≤ wr.heap.size ∧ wr.cell? ⟨w.heap.size, 8, none⟩ = some (.slice c m q) ∧ Hid (wr.heap[w.heap.size + 1]? = W1.heap[w.heap.size + 1]?) ∧ Hid (∀ o, o ≠ 8 → wr.cell? ⟨w.heap.size + 1 + 1, o, none⟩ = W1.cell? ⟨w.heap.size + 1 + 1, o, none⟩) ∧ Hid (∀ o, wr.frozen? ⟨w.heap.size + 1 + 1, o, none⟩ = false) ∧
      ∃ v, wr.cell? ⟨w.heap.size + 1 + 1, 8, none⟩ = some v ∧ AccNew (w.heap.size + 1 + 1 + 1) 36 9 wr v j (Tm.rows (Tm.bares (ts.take j)))) (fun i _ => m - (intOf i).toNat)
  case atStart => exact ⟨0, by omega, rfl, HB1.out, hS1, hE8, rfl, fun _ _ => rfl, HFO.out, _, g8, by simpa [Tm.bares, Tm.rows] using AccNew.nil _ _ _ _⟩
  case round =>
    obtain ⟨j, hj, rfl, hbw, hsz, x8, hR, hO, hF, v, hv, hacc⟩ := hrel
    have lx8 := World.block_lt_of_cell? _ _ x8
    have lhv := World.block_lt_of_cell? _ _ hv
    by_cases hlt : j < m
    · have hjt : j < ts.length := by rw [← HN.out]; exact hlt
      obtain ⟨b, off, k0, nm0, u0, tk0, ta0, tn0, tq0, fk0, fa0, fn0, fq0, l0, a0, m0, q0, rfl, lb, e0, e1, e2, e3, e4, e5, e6, e7, e8, ht⟩ := hks.at hbw.out hjt
      have HC := Lib.hid (fun W (h : Below wr.heap.size wr W) => IHH.out ts[j] (List.getElem_mem hjt) _ W (ht.below h))
      have hts := Tm.bares_take_succ ts j hjt
      generalize ts[j].bare = gt at HC hts
      have HTS := Lib.hid hts
      obtain ⟨cv, qv, rfl⟩ := hacc.shape
      obtain ⟨xs, fps, ho, hl, hs, hd, hfp⟩ := hacc
      have HO := Lib.hid ho
      have HS := Lib.hid hs
      have HD := Lib.hid hd
      have HFP := Lib.hid hfp
      have HL := Lib.hid hl
      clear ho hs hd hfp hl hts ht
      go_wp2_with fail
      go_region_law (first
        | (go_simp; go_at_call 103; refine (HC.out _ bdr).mono ?_; rintro e w1 ⟨v1, rfl, hv1, hb1⟩; obtain ⟨k1, nm1, u1, tk1, ta1, tn1, tq1, fk1, fa1, fn1, fq1, l1, c1, m1, q1, fp1, rfl, hs1, hd1, hx1⟩ := hv1.open; have hq1 : w1.cell? ⟨w.heap.size + 1 + 1, 8, none⟩ = some (.slice cv j qv) := bcell (bstep bdr hb1) hv; have hbz : wr.heap.size ≤ w1.heap.size := hb1.size; have hl1 : w.heap.size + 1 + 1 < w1.heap.size := World.block_lt_of_cell? _ _ hq1)
        | (refine step_append_lies _ (by rfl) (.tmp 38) (.tmp 45) 34 (by rfl) (w.heap.size + 1 + 1 + 1) 36 i0 _ 9 128 Try.underlying34 HI.out Z0.out Z1.out Z2.out rfl (by omega) (.slice cv j qv) j xs (by rfl) (ownsRow_below HO.out (bstep (bstep bdr hb1) bal1))
            ⟨w1.heap.size, 0, none⟩ 1 1 [.int .i64 k1, .string nm1, .int .i64 u1, .int .i64 tk1, .slice ta1 tn1 tq1, .int .i64 fk1, .slice fa1 fn1 fq1, .int .i64 l1, .slice c1 m1 q1] (by rfl) (by rfl) (World.news_of_block (cs := #[.int .i64 k1, .string nm1, .int .i64 u1, .int .i64 tk1, .slice ta1 tn1 tq1, .int .i64 fk1, .slice fa1 fn1 fq1, .int .i64 l1, .slice c1 m1 q1]) (t := 36) (fr := (0, 0)) (heap_alloc_new w1 _)) (by simp [Value.oneCell'])
            (by omega) (by unfold maxLen; omega) (by omega) (by simp; omega) _ rfl ?_
           intro gg cap2 w2 hown2 hgrow hat hlt2
           have hfar := grown_far (bstep (bstep bdr hb1) bal1) HO.out hgrow
           have hq : w2.cell? ⟨w.heap.size + 1 + 1, 8, none⟩ = some (.slice cv j qv) := (World.cell?_of_block (a := ⟨w.heap.size + 1 + 1, 8, none⟩) (hfar (w.heap.size + 1 + 1) (by omega) (by omega))).trans hv
           have hqf : w2.frozen? ⟨w.heap.size + 1 + 1, 8, none⟩ = false := (World.frozen?_of_block (a := ⟨w.heap.size + 1 + 1, 8, none⟩) (hfar (w.heap.size + 1 + 1) (by omega) (by omega))).trans (hF.out _)
           have HFAR := Lib.hid hfar
           have hacc2 := AccNew.push HL.out HO.out HS.out HD.out HFP.out hsz (bstep (bstep bdr hb1) bal1) (Nat.le_refl _) (hs1.move _ _ _ fun b hb => heap_alloc_old w1 _ (SOwn.lt _ _ _ hs1 b hb)) hd1 hx1 hown2 hgrow hat
           have HACC := Lib.hid hacc2
           have HBEL := Lib.hid (grown_below hbw.out (bstep (bstep bdr hb1) bal1) HO.out (by omega) hgrow)
           have hsz2 : wr.heap.size ≤ w2.heap.size := Nat.le_trans (bstep (bstep bdr hb1) bal1).size hgrow.size
           clear hfar hacc2 hown2 hgrow hat hq1 hs1 hd1 hx1 hv1 hb1))
      all_goals
        go_wp2_with fail
        go_roundw
        case rel =>
          refine ⟨j + 1, by omega, by go_num, HBEL.out.setCell (by show w.heap.size ≤ w.heap.size + 1 + 1; omega) _, by simp [World.setCell]; omega, (sc_far ((World.cell?_of_block (a := ⟨w.heap.size, 8, none⟩) (HFAR.out w.heap.size (by omega) (by omega))).trans x8) (by simp)),
            (Below.heap_setCell w2 ⟨w.heap.size + 1 + 1, 8, none⟩ _ _ (by show w.heap.size + 1 ≠ w.heap.size + 1 + 1; omega)).trans ((HFAR.out (w.heap.size + 1) (by omega) (by omega)).trans hR.out),
            fun o ho => (World.cell?_setCell_other w2 _ _ _ (fun e => by cases e; exact ho rfl)).trans ((World.cell?_of_block (a := ⟨w.heap.size + 1 + 1, o, none⟩) (HFAR.out (w.heap.size + 1 + 1) (by omega) (by omega))).trans (hO.out o ho)),
            fun o => (sc_fro _ _ _ _).trans ((World.frozen?_of_block (a := ⟨w.heap.size + 1 + 1, o, none⟩) (HFAR.out (w.heap.size + 1 + 1) (by omega) (by omega))).trans (hF.out o)), _, sc_self hq, ?_⟩
          have h := HACC.out.setCell (p := ⟨w.heap.size + 1 + 1, 8, none⟩) (by show w.heap.size + 1 + 1 < w.heap.size + 1 + 1 + 1; omega) (.slice (some ⟨gg, 0, none⟩) (j + 1) cap2)
          rw [HTS.out, Tm.rows_eq, List.map_append, ← Tm.rows_eq]
          exact h
        case measure => simp [intOf]; omega
    · have hje : Tm.bares (ts.take j) = Tm.bares ts := by rw [List.take_of_length_le (by have := HN.out; omega)]
      rw [hje] at hacc
      obtain ⟨cv, qv, rfl⟩ := hacc.shape
      have HACC := Lib.hid hacc
      clear hacc hje
      obtain ⟨u0', z0⟩ := ZC.out.1
      replace z0 := (World.cell?_of_block (a := ⟨w.heap.size + 1, 0, none⟩) hR.out).trans z0
      have y0 := (World.frozen?_of_block (a := ⟨w.heap.size + 1, 0, none⟩) hR.out).trans (HFZ.out 0)
      obtain ⟨u1', z1⟩ := ZC.out.2.1
      replace z1 := (World.cell?_of_block (a := ⟨w.heap.size + 1, 1, none⟩) hR.out).trans z1
      have y1 := (World.frozen?_of_block (a := ⟨w.heap.size + 1, 1, none⟩) hR.out).trans (HFZ.out 1)
      obtain ⟨u2', z2⟩ := ZC.out.2.2.1
      replace z2 := (World.cell?_of_block (a := ⟨w.heap.size + 1, 2, none⟩) hR.out).trans z2
      have y2 := (World.frozen?_of_block (a := ⟨w.heap.size + 1, 2, none⟩) hR.out).trans (HFZ.out 2)
      obtain ⟨u3', z3⟩ := ZC.out.2.2.2.1
      replace z3 := (World.cell?_of_block (a := ⟨w.heap.size + 1, 3, none⟩) hR.out).trans z3
      have y3 := (World.frozen?_of_block (a := ⟨w.heap.size + 1, 3, none⟩) hR.out).trans (HFZ.out 3)
      obtain ⟨u4', z4⟩ := ZC.out.2.2.2.2.1
      replace z4 := (World.cell?_of_block (a := ⟨w.heap.size + 1, 4, none⟩) hR.out).trans z4
      have y4 := (World.frozen?_of_block (a := ⟨w.heap.size + 1, 4, none⟩) hR.out).trans (HFZ.out 4)
      obtain ⟨u5', z5⟩ := ZC.out.2.2.2.2.2.1
      replace z5 := (World.cell?_of_block (a := ⟨w.heap.size + 1, 5, none⟩) hR.out).trans z5
      have y5 := (World.frozen?_of_block (a := ⟨w.heap.size + 1, 5, none⟩) hR.out).trans (HFZ.out 5)
      obtain ⟨u6', z6⟩ := ZC.out.2.2.2.2.2.2.1
      replace z6 := (World.cell?_of_block (a := ⟨w.heap.size + 1, 6, none⟩) hR.out).trans z6
      have y6 := (World.frozen?_of_block (a := ⟨w.heap.size + 1, 6, none⟩) hR.out).trans (HFZ.out 6)
      obtain ⟨u7', z7⟩ := ZC.out.2.2.2.2.2.2.2.1
      replace z7 := (World.cell?_of_block (a := ⟨w.heap.size + 1, 7, none⟩) hR.out).trans z7
      have y7 := (World.frozen?_of_block (a := ⟨w.heap.size + 1, 7, none⟩) hR.out).trans (HFZ.out 7)
      obtain ⟨u8', z8⟩ := ZC.out.2.2.2.2.2.2.2.2
      replace z8 := (World.cell?_of_block (a := ⟨w.heap.size + 1, 8, none⟩) hR.out).trans z8
      have y8 := (World.frozen?_of_block (a := ⟨w.heap.size + 1, 8, none⟩) hR.out).trans (HFZ.out 8)
      have g0 := (hO.out 0 (by omega)).trans GC.out.1
      have g1 := (hO.out 1 (by omega)).trans GC.out.2.1
      have g2 := (hO.out 2 (by omega)).trans GC.out.2.2.1
      have g3 := (hO.out 3 (by omega)).trans GC.out.2.2.2.1
      have g4 := (hO.out 4 (by omega)).trans GC.out.2.2.2.2.1
      have g5 := (hO.out 5 (by omega)).trans GC.out.2.2.2.2.2.1
      have g6 := (hO.out 6 (by omega)).trans GC.out.2.2.2.2.2.2.1
      have g7 := (hO.out 7 (by omega)).trans GC.out.2.2.2.2.2.2.2
      have lz0 := World.block_lt_of_cell? _ _ z0
      go_wp2_with fail
      refine bodyPost_ret (v := .agg #[.int .i64 5, .string nm, .int .i64 u, .int .i64 1, (.slice c3 0 q3), .int .i64 0, .slice none 0 0, .int .i64 0, .slice cv j qv]) (by simp [results, Try.results103, go_sem, z0, z1, z2, z3, z4, z5, z6, z7, z8]) rfl ?_
      obtain ⟨fp3, ho3, hd3, hx3⟩ := HACC.out.tms
      have hnew : TmNew (w.heap.size + 1 + 1 + 1) wr (Tm.mk 5 nm u .any1 .no 0 (Tm.bares ts)) (.agg #[.int .i64 5, .string nm, .int .i64 u, .int .i64 1, (.slice c3 0 q3), .int .i64 0, .slice none 0 0, .int .i64 0, .slice cv j qv]) :=
        TmNew.of (f1 := []) (f2 := []) HRN.out rfl rfl (by unfold Ty.any1 Ty.kids Ty.rows; exact COwn.sl_nil HQ3.out) (by unfold Ty.no Ty.kids Ty.rows; exact COwn.sl_nil (by unfold maxLen; omega)) ho3 (by simpa using hd3) (by simpa using hx3)
      exact ⟨_, rfl, TmNew.mono ((((((((((hnew).setCell (by show w.heap.size + 1 < w.heap.size + 1 + 1 + 1; omega) _).setCell (by show w.heap.size + 1 < w.heap.size + 1 + 1 + 1; omega) _).setCell (by show w.heap.size + 1 < w.heap.size + 1 + 1 + 1; omega) _).setCell (by show w.heap.size + 1 < w.heap.size + 1 + 1 + 1; omega) _).setCell (by show w.heap.size + 1 < w.heap.size + 1 + 1 + 1; omega) _).setCell (by show w.heap.size + 1 < w.heap.size + 1 + 1 + 1; omega) _).setCell (by show w.heap.size + 1 < w.heap.size + 1 + 1 + 1; omega) _).setCell (by show w.heap.size + 1 < w.heap.size + 1 + 1 + 1; omega) _).setCell (by show w.heap.size + 1 < w.heap.size + 1 + 1 + 1; omega) _) (by omega), (((((((((hbw.out).setCell (by show w.heap.size ≤ w.heap.size + 1; omega) _).setCell (by show w.heap.size ≤ w.heap.size + 1; omega) _).setCell (by show w.heap.size ≤ w.heap.size + 1; omega) _).setCell (by show w.heap.size ≤ w.heap.size + 1; omega) _).setCell (by show w.heap.size ≤ w.heap.size + 1; omega) _).setCell (by show w.heap.size ≤ w.heap.size + 1; omega) _).setCell (by show w.heap.size ≤ w.heap.size + 1; omega) _).setCell (by show w.heap.size ≤ w.heap.size + 1; omega) _).setCell (by show w.heap.size ≤ w.heap.size + 1; omega) _⟩
end Go.Proofs.Ytghgjpcibdfbmaa
