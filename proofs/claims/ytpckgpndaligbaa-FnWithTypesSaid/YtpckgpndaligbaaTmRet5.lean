/-
  A term with other types, by the program (5).
-/
import Derived.Test.YtpckgpndaligbaaB37
namespace Go.Proofs.Ytpckgpndaligbaa
open Go.RowKit
set_option linter.unusedVariables false
set_option linter.unusedSimpArgs false
set_option maxRecDepth 100000

set_option maxHeartbeats 8000000 in
theorem rety5 (F : Nat → Prop) (B : Nat) (t : Tm) (hk0 : t.kind = 5) (IH0 : ∀ t' ∈ t.kids, RetyC F B t') : RetyC F B t := by
  intro L d y lv w hy hlv hBw hsh hLc hLn
  obtain ⟨k, nm, u, tk, ta, tn, tq, fk, fa, fn, fq, l, c, m, q, rfl⟩ := hy.shape
  obtain ⟨r1, r2, r3, r4, r5, r6, r7, r8, r9, rn, rm, rq, hty, hsr, hks⟩ := hy.parts
  obtain ⟨i0, hi, hz0, hz1, hz2⟩ := info_parts Try.infoTm
  obtain ⟨la, lq, rfl, hl1, hl2, -⟩ := hlv.open
  obtain ⟨ta', tq', hta, htq0, htq, -⟩ := hty.open
  obtain ⟨fa', fq', hfa, hfq0, hfq, -⟩ := hsr.open
  simp only [Value.agg.injEq, Array.mk.injEq, List.cons.injEq, Value.slice.injEq, and_true, true_and] at hta hfa
  obtain ⟨-, rfl, -, rfl⟩ := hta
  obtain ⟨-, rfl, -, rfl⟩ := hfa
  cases t with | mk kk nn uu tt ff ll ts =>
  simp only [Tm.kind, Tm.name, Tm.num, Tm.type, Tm.src, Tm.label, Tm.kids] at *
  subst r1 r2 r3 r8
  obtain ⟨hl0, hff, htt⟩ := Tm.shape_no hsh
  obtain ⟨-, -, htop, -, hsh5⟩ := Tm.shape_parts hsh
  have hcl : m ≤ 1048576 := by have := tops_le k; omega
  subst hl0 hff
  have hfn : fn = 0 := r7
  subst hfn
  have IH : ∀ t' ∈ ts, ∀ (L : List Ty) (y lv : Value) (W : World), TmRep F W t' y → TysRep (· < B) W L lv → B ≤ W.heap.size → (∀ x ∈ L, x.cnt ≤ 1048576) → t'.tys.length ≤ L.length → Calls Try.prog 23 #[y, lv] W fun e W' => ∃ v lv', e = .returned (.tuple #[v, lv']) ∧ TmNew W.heap.size W' (t'.rety L) v ∧ TysRep (· < B) W' (L.drop t'.tys.length) lv' ∧ Below W.heap.size W W' :=
    fun t' ht L y lv W h h2 hB h3 h4 => IH0 t' ht L (d - 1) y lv W h h2 hB (Tm.shapes_mem hsh5 ht) h3 h4
  clear IH0 hsh hsh5 htop
  have HN := Lib.hid r9
  have HRN := Lib.hid rn
  have HTQ := Lib.hid htq
  have HFQ := Lib.hid hfq
  have IHH := Lib.hid IH
  have Z0 := Lib.hid hz0
  have Z1 := Lib.hid hz1
  have Z2 := Lib.hid hz2
  have HI := Lib.hid hi
  have HR4 := Lib.hid r4
  have HR6 := Lib.hid r6
  unfold maxLen at rq hl2
  subst hk0
  obtain ⟨x, L', rfl⟩ : ∃ x L', L = x :: L' := by
    cases L with
    | nil => unfold Tm.tys at hLn; rw [if_pos (by rfl)] at hLn; simp at hLn
    | cons x L' => exact ⟨x, L', rfl⟩
  have hre : (Tm.mk 5 nm u tt .no 0 ts).rety (x :: L') = .mk 5 nm u x .no 0 (Tm.retys ts L') := by
    unfold Tm.rety
    rw [if_pos (by rfl), if_pos (by rfl)]; rfl
  have htl : (Tm.mk 5 nm u tt .no 0 ts).tys.length = (Tm.tyss ts).length + 1 := by unfold Tm.tys; rw [if_pos (by rfl), List.length_append]; show 1 + _ = _; omega
  rw [hre, htl]
  rw [List.drop_succ_cons]
  have hat1 : (Tm.tyss ts).length ≤ L'.length := by rw [htl] at hLn; simpa using hLn
  have hlcx := hLc x (List.mem_cons_self ..)
  have hlc1 : ∀ z ∈ L', z.cnt ≤ 1048576 := fun z hz => hLc z (List.mem_cons_of_mem _ hz)
  obtain ⟨LB, LO, rfl, -, hq1, -, htail⟩ := hlv.tail
  have HLCX := Lib.hid hlcx
  have HLC := Lib.hid hlc1
  have HAT1 := Lib.hid hat1
  obtain ⟨LN, hln⟩ : ∃ x, L'.length = x := ⟨_, rfl⟩
  rw [hln] at htail
  have HTAIL := Lib.hid htail
  have hlen : (x :: L').length = LN + 1 := by simp [hln]
  rw [hlen] at hlv hq1 hl1 ⊢
  obtain ⟨lb, loff, lk0, la0, lm0, lq0, hla, ll0, le0, le1, lt⟩ := hlv.at (i := 0) (Below.refl _ _) (by simp)
  simp only [Option.some.injEq, Addr.mk.injEq, and_true] at hla
  obtain ⟨rfl, rfl⟩ := hla
  simp only [Nat.zero_mul, Nat.add_zero, List.getElem_cons_zero] at le0 le1 lt
  have HLT := Lib.hid lt
  have HLN := Lib.hid hln
  clear hre htl hat1 hlcx hlc1 htail lt hlv hlen hLn hLc hl1 hln
  clear IH hy r9 r4 r5 r6 r7 rn hz0 hz1 hz2 hi htt hfq hfq0 htq htq0 hty hsr
  go_enter Try.func23, Try.ntmps23
  go_wp2_with fail
  refine (implHasType 5 nm u tk ta tn tq fk fa 0 fq 0 c m q _).mono ?_
  rintro e w1 ⟨rfl, hb1⟩
  rw [show hasT 5 = true from rfl]
  have HB1 := Lib.hid (bstep bal3 hb1)
  have t0 := bcell (bstep bal3 hb1) le0
  have t1 := bcell (bstep bal3 hb1) le1
  have o0 : w1.cell? ⟨w.heap.size + 1 + 1, 0, none⟩ = some (.int .i64 5) := bcell hb1 (cell_n2 0)
  have o1 : w1.cell? ⟨w.heap.size + 1 + 1, 1, none⟩ = some (.string nm) := bcell hb1 (cell_n2 1)
  have o2 : w1.cell? ⟨w.heap.size + 1 + 1, 2, none⟩ = some (.int .i64 u) := bcell hb1 (cell_n2 2)
  have o3 : w1.cell? ⟨w.heap.size + 1 + 1, 3, none⟩ = some (.int .i64 tk) := bcell hb1 (cell_n2 3)
  have o4 : w1.cell? ⟨w.heap.size + 1 + 1, 4, none⟩ = some (.slice ta tn tq) := bcell hb1 (cell_n2 4)
  have o5 : w1.cell? ⟨w.heap.size + 1 + 1, 5, none⟩ = some (.int .i64 fk) := bcell hb1 (cell_n2 5)
  have o6 : w1.cell? ⟨w.heap.size + 1 + 1, 6, none⟩ = some (.slice fa 0 fq) := bcell hb1 (cell_n2 6)
  have o7 : w1.cell? ⟨w.heap.size + 1 + 1, 7, none⟩ = some (.int .i64 0) := bcell hb1 (cell_n2 7)
  have o8 : w1.cell? ⟨w.heap.size + 1 + 1, 8, none⟩ = some (.slice none 0 0) := bcell hb1 (cell_n2 8)
  have x8 : w1.cell? ⟨w.heap.size, 8, none⟩ = some (.slice c m q) := bcell hb1 (bcell bal1 (bcell bal1 (cell_n0 8)))
  have hz1 : w.heap.size + 1 + 1 + 1 ≤ w1.heap.size := by have := hb1.size; simp at this; omega
  have lw1 := World.block_lt_of_cell? _ _ o0
  have lx1 := World.block_lt_of_cell? _ _ x8
  have HRZ := Lib.hid (show ∀ i : Nat, i < 9 → ∃ uu : Value, w1.cell? ⟨w.heap.size + 1, i, none⟩ = some uu from fun i hi => by
    have h9 : i = 0 ∨ i = 1 ∨ i = 2 ∨ i = 3 ∨ i = 4 ∨ i = 5 ∨ i = 6 ∨ i = 7 ∨ i = 8 := by omega
    rcases h9 with rfl | rfl | rfl | rfl | rfl | rfl | rfl | rfl | rfl <;> exact ⟨_, bcell hb1 (bcell bal1 (cell_n1 _))⟩)
  have HRF := Lib.hid (show ∀ o, w1.frozen? ⟨w.heap.size + 1, o, none⟩ = false from fun o => bfro hb1 (by simp) (bfro bal1 (by simp) (fro_n1 o)))
  have HOF := Lib.hid (show ∀ o, w1.frozen? ⟨w.heap.size + 1 + 1, o, none⟩ = false from fun o => bfro hb1 (by simp) (fro_n2 o))
  have hge : (1 : Int) ≤ (LN : Int) + 1 := by omega
  have p3 := HOF.out 3
  have p4 := HOF.out 4
  have HC1 := Lib.hid (fun W (h : Below w1.heap.size w1 W) => implOwnType (· < B) x _ W ((HLT.out.below HB1.out).below h) HLCX.out)
  clear hb1 le0 le1
  go_wp2_with fail
  go_region_law (first
    | (go_simp; go_at_call 40; refine (HC1.out _ bdr).mono ?_; rintro e w3 ⟨v1, rfl, ⟨fp3, hv3, hd3, hx3⟩, hb3⟩; obtain ⟨k3, c3', m3, q3, rfl, hk3, ho3⟩ := hv3.shape; have HK3 := Lib.hid hk3; clear hk3; have HBX := Lib.hid (bstep bdr hb3); have o3x := bcelld hb3 o3; have o4x := bcelld hb3 o4; have p3x := bfroc HBX.out o3 p3; have p4x := bfroc HBX.out o4 p4; have lw3 := World.block_lt_of_cell? _ _ o3x; have hz3 : w1.heap.size ≤ w3.heap.size := HBX.out.size))
  all_goals
    generalize (if lq = 1 then (some (⟨LB, LO, none⟩ : Addr)) else some ⟨LB, LO + 2, none⟩) = LA at HTAIL ⊢
    have hKW : ∀ b, b ≠ w.heap.size + 1 + 1 → ((w3.setCell ⟨w.heap.size + 1 + 1, 3, none⟩ (.int .i64 k3)).setCell ⟨w.heap.size + 1 + 1, 4, none⟩ (.slice c3' m3 q3)).heap[b]? = w3.heap[b]? := fun b hn => (Below.heap_setCell _ ⟨w.heap.size + 1 + 1, 4, none⟩ _ b hn).trans (Below.heap_setCell _ ⟨w.heap.size + 1 + 1, 3, none⟩ _ b hn)
    have hB1 : Below w.heap.size w ((w3.setCell ⟨w.heap.size + 1 + 1, 3, none⟩ (.int .i64 k3)).setCell ⟨w.heap.size + 1 + 1, 4, none⟩ (.slice c3' m3 q3)) := ((bstep HB1.out HBX.out).setCell (by show w.heap.size ≤ w.heap.size + 1 + 1; omega) _).setCell (by show w.heap.size ≤ w.heap.size + 1 + 1; omega) _
    have hS1 : w.heap.size + 1 + 1 + 1 ≤ ((w3.setCell ⟨w.heap.size + 1 + 1, 3, none⟩ (.int .i64 k3)).setCell ⟨w.heap.size + 1 + 1, 4, none⟩ (.slice c3' m3 q3)).heap.size := by simp [World.setCell]; omega
    have g0 : ((w3.setCell ⟨w.heap.size + 1 + 1, 3, none⟩ (.int .i64 k3)).setCell ⟨w.heap.size + 1 + 1, 4, none⟩ (.slice c3' m3 q3)).cell? ⟨w.heap.size + 1 + 1, 0, none⟩ = some (.int .i64 5) := sc_far (sc_far (bcell HBX.out o0) (by simp)) (by simp)
    have g1 : ((w3.setCell ⟨w.heap.size + 1 + 1, 3, none⟩ (.int .i64 k3)).setCell ⟨w.heap.size + 1 + 1, 4, none⟩ (.slice c3' m3 q3)).cell? ⟨w.heap.size + 1 + 1, 1, none⟩ = some (.string nm) := sc_far (sc_far (bcell HBX.out o1) (by simp)) (by simp)
    have g2 : ((w3.setCell ⟨w.heap.size + 1 + 1, 3, none⟩ (.int .i64 k3)).setCell ⟨w.heap.size + 1 + 1, 4, none⟩ (.slice c3' m3 q3)).cell? ⟨w.heap.size + 1 + 1, 2, none⟩ = some (.int .i64 u) := sc_far (sc_far (bcell HBX.out o2) (by simp)) (by simp)
    have g3 : ((w3.setCell ⟨w.heap.size + 1 + 1, 3, none⟩ (.int .i64 k3)).setCell ⟨w.heap.size + 1 + 1, 4, none⟩ (.slice c3' m3 q3)).cell? ⟨w.heap.size + 1 + 1, 3, none⟩ = some (.int .i64 k3) := sc_far (sc_self o3x) (by simp)
    have g4 : ((w3.setCell ⟨w.heap.size + 1 + 1, 3, none⟩ (.int .i64 k3)).setCell ⟨w.heap.size + 1 + 1, 4, none⟩ (.slice c3' m3 q3)).cell? ⟨w.heap.size + 1 + 1, 4, none⟩ = some (.slice c3' m3 q3) := sc_self (sc_far o4x (by simp))
    have g5 : ((w3.setCell ⟨w.heap.size + 1 + 1, 3, none⟩ (.int .i64 k3)).setCell ⟨w.heap.size + 1 + 1, 4, none⟩ (.slice c3' m3 q3)).cell? ⟨w.heap.size + 1 + 1, 5, none⟩ = some (.int .i64 fk) := sc_far (sc_far (bcell HBX.out o5) (by simp)) (by simp)
    have g6 : ((w3.setCell ⟨w.heap.size + 1 + 1, 3, none⟩ (.int .i64 k3)).setCell ⟨w.heap.size + 1 + 1, 4, none⟩ (.slice c3' m3 q3)).cell? ⟨w.heap.size + 1 + 1, 6, none⟩ = some (.slice fa 0 fq) := sc_far (sc_far (bcell HBX.out o6) (by simp)) (by simp)
    have g7 : ((w3.setCell ⟨w.heap.size + 1 + 1, 3, none⟩ (.int .i64 k3)).setCell ⟨w.heap.size + 1 + 1, 4, none⟩ (.slice c3' m3 q3)).cell? ⟨w.heap.size + 1 + 1, 7, none⟩ = some (.int .i64 0) := sc_far (sc_far (bcell HBX.out o7) (by simp)) (by simp)
    have g8 : ((w3.setCell ⟨w.heap.size + 1 + 1, 3, none⟩ (.int .i64 k3)).setCell ⟨w.heap.size + 1 + 1, 4, none⟩ (.slice c3' m3 q3)).cell? ⟨w.heap.size + 1 + 1, 8, none⟩ = some (.slice none 0 0) := sc_far (sc_far (bcell HBX.out o8) (by simp)) (by simp)
    have hE8 : ((w3.setCell ⟨w.heap.size + 1 + 1, 3, none⟩ (.int .i64 k3)).setCell ⟨w.heap.size + 1 + 1, 4, none⟩ (.slice c3' m3 q3)).cell? ⟨w.heap.size, 8, none⟩ = some (.slice c m q) := sc_far (sc_far (bcell HBX.out x8) (by simp)) (by simp)
    have hFO : ∀ o, ((w3.setCell ⟨w.heap.size + 1 + 1, 3, none⟩ (.int .i64 k3)).setCell ⟨w.heap.size + 1 + 1, 4, none⟩ (.slice c3' m3 q3)).frozen? ⟨w.heap.size + 1 + 1, o, none⟩ = false := fun o => (sc_fro _ _ _ _).trans ((sc_fro _ _ _ _).trans (bfro HBX.out (by omega) (HOF.out o)))
    have hRZ : ∀ i : Nat, i < 9 → ∃ uu : Value, ((w3.setCell ⟨w.heap.size + 1 + 1, 3, none⟩ (.int .i64 k3)).setCell ⟨w.heap.size + 1 + 1, 4, none⟩ (.slice c3' m3 q3)).cell? ⟨w.heap.size + 1, i, none⟩ = some uu := fun i hi => by
      obtain ⟨uu, h⟩ := HRZ.out i hi
      exact ⟨uu, (World.cell?_of_block (a := ⟨w.heap.size + 1, i, none⟩) (hKW (w.heap.size + 1) (by omega))).trans (bcell HBX.out h)⟩
    have hRF : ∀ o, ((w3.setCell ⟨w.heap.size + 1 + 1, 3, none⟩ (.int .i64 k3)).setCell ⟨w.heap.size + 1 + 1, 4, none⟩ (.slice c3' m3 q3)).frozen? ⟨w.heap.size + 1, o, none⟩ = false := fun o => (World.frozen?_of_block (a := ⟨w.heap.size + 1, o, none⟩) (hKW (w.heap.size + 1) (by omega))).trans (bfro HBX.out (by omega) (HRF.out o))
    have hT1 : COwn ((w3.setCell ⟨w.heap.size + 1 + 1, 3, none⟩ (.int .i64 k3)).setCell ⟨w.heap.size + 1 + 1, 4, none⟩ (.slice c3' m3 q3)) (.sl (Ty.rows x.kids)) (.slice c3' m3 q3) fp3 := COwn.move _ _ _ (fun b hb => hKW b (by have := hx3 b hb; simp at this; omega)) ho3
    have hXX : ∀ x ∈ fp3, w.heap.size + 1 + 1 + 1 ≤ x := fun x hx => by have := hx3 x hx; simp at this; omega
    have hTL : TysRep (· < B) ((w3.setCell ⟨w.heap.size + 1 + 1, 3, none⟩ (.int .i64 k3)).setCell ⟨w.heap.size + 1 + 1, 4, none⟩ (.slice c3' m3 q3)) L' _ := HTAIL.out.below hB1
    clear hKW
    obtain ⟨W1, hW1⟩ : ∃ x, ((w3.setCell ⟨w.heap.size + 1 + 1, 3, none⟩ (.int .i64 k3)).setCell ⟨w.heap.size + 1 + 1, 4, none⟩ (.slice c3' m3 q3)) = x := ⟨_, rfl⟩
    rw [hW1] at hB1 hS1 hE8 hFO hRZ hRF hT1 hTL g0 g1 g2 g3 g4 g5 g6 g7 g8 ⊢
    clear hW1 o0 o1 o2 o3 o4 o5 o6 o7 o8 x8 t0 t1 p3 p4 o3x o4x p3x p4x lw1 lx1 lw3 hz1 hz3 hb3 ho3 hv3
    have GC : Hid (W1.cell? ⟨w.heap.size + 1 + 1, 0, none⟩ = some (.int .i64 5) ∧ W1.cell? ⟨w.heap.size + 1 + 1, 1, none⟩ = some (.string nm) ∧ W1.cell? ⟨w.heap.size + 1 + 1, 2, none⟩ = some (.int .i64 u) ∧ W1.cell? ⟨w.heap.size + 1 + 1, 3, none⟩ = some (.int .i64 k3) ∧ W1.cell? ⟨w.heap.size + 1 + 1, 4, none⟩ = some (.slice c3' m3 q3) ∧ W1.cell? ⟨w.heap.size + 1 + 1, 5, none⟩ = some (.int .i64 fk) ∧ W1.cell? ⟨w.heap.size + 1 + 1, 6, none⟩ = some (.slice fa 0 fq) ∧ W1.cell? ⟨w.heap.size + 1 + 1, 7, none⟩ = some (.int .i64 0)) := Lib.hid ⟨g0, g1, g2, g3, g4, g5, g6, g7⟩
    have HB1L := Lib.hid hB1
    have HFO := Lib.hid hFO
    have RZ := Lib.hid hRZ
    have RF := Lib.hid hRF
    have HT1 := Lib.hid hT1
    have HXX := Lib.hid hXX
    have HE8 := Lib.hid hE8
    have HDD := Lib.hid hd3
    have HKX := Lib.hid HK3.out
    have HTLL := Lib.hid hTL
    have lg8 := World.block_lt_of_cell? _ _ g8
    have lE8 := World.block_lt_of_cell? _ _ hE8
    clear hB1 hFO hRZ hRF hT1 hXX hTL hd3  g0 g1 g2 g3 g4 g5 g6 g7
    go_wp2_with fail
    go_loopw [25, 1] (fun i p wr => ∃ j : Nat, j ≤ m ∧ i = .int .i64 j ∧ (∃ pv, pv = p ∧ Hid (TysRep (· < B) wr (L'.drop (Tm.tyss (ts.take j)).length) pv)) ∧ Hid (Below w.heap.size w wr) ∧ W1.heap.size ≤ wr.heap.size ∧ Hid (∀ b, b < W1.heap.size → b ≠ w.heap.size + 1 + 1 → wr.heap[b]? = W1.heap[b]?) ∧ Hid (∀ o, o ≠ 8 → wr.cell? ⟨w.heap.size + 1 + 1, o, none⟩ = W1.cell? ⟨w.heap.size + 1 + 1, o, none⟩) ∧ Hid (∀ o, wr.frozen? ⟨w.heap.size + 1 + 1, o, none⟩ = false) ∧
        ∃ v, wr.cell? ⟨w.heap.size + 1 + 1, 8, none⟩ = some v ∧ AccNew W1.heap.size 28 9 wr v j (Tm.rows (Tm.retys (ts.take j) L'))) (fun i _ _ => m - (intOf i).toNat)
    case atStart => exact ⟨0, by omega, rfl, ⟨_, rfl, by simpa [Hid, Tm.tyss] using HTLL.out⟩, HB1L.out, Nat.le_refl _, fun _ _ _ => rfl, fun _ _ => rfl, HFO.out, _, g8, by simpa [Tm.retys, Tm.rows] using AccNew.nil _ _ _ _⟩
    case round =>
      obtain ⟨j, hj, rfl, ⟨p, rfl, hp⟩, hbw, hsz, hR, hO, hF, v, hv, hacc⟩ := hrel
      have x8 : wr.cell? ⟨w.heap.size, 8, none⟩ = some (.slice c m q) := (World.cell?_of_block (a := ⟨w.heap.size, 8, none⟩) (hR.out w.heap.size (by omega) (by omega))).trans HE8.out
      have lx8 := World.block_lt_of_cell? _ _ x8
      have lhv := World.block_lt_of_cell? _ _ hv
      by_cases hlt : j < m
      · have hjt : j < ts.length := by rw [← HN.out]; exact hlt
        obtain ⟨b, off, k0, nm0, u0, tk0, ta0, tn0, tq0, fk0, fa0, fn0, fq0, l0, a0, m0, q0, rfl, lb9, e0, e1, e2, e3, e4, e5, e6, e7, e8, ht⟩ := hks.at hbw.out hjt
        have hts := Tm.retys_take_succ ts L' j hjt
        have htk := Tm.tyss_take_succ ts j hjt
        have htl := Tm.tyss_take_le ts (j + 1)
        rw [htk, List.length_append] at htl
        have HC := Lib.hid (fun W (h : Below wr.heap.size wr W) => IHH.out ts[j] (List.getElem_mem hjt) (L'.drop (Tm.tyss (ts.take j)).length) _ _ W (ht.below h) (hp.out.below h) (Nat.le_trans hBw (bstep hbw.out h).size) (fun z hz => HLC.out z (List.mem_of_mem_drop hz)) (by rw [List.length_drop]; have := HAT1.out; omega))
        rw [List.drop_drop, ← List.length_append, ← htk] at HC
        generalize ts[j].rety (L'.drop (Tm.tyss (ts.take j)).length) = gt at HC hts
        have HTS := Lib.hid hts
        obtain ⟨cv, qv, rfl⟩ := hacc.shape
        obtain ⟨xs, fps, ho, hl, hs, hd, hfp⟩ := hacc
        have HO := Lib.hid ho
        have HS := Lib.hid hs
        have HD := Lib.hid hd
        have HFP := Lib.hid hfp
        have HL := Lib.hid hl
        clear ho hs hd hfp hl hts ht htk htl hp
        go_wp2_with fail
        refine (HC.out _ bal1).mono ?_
        rintro e w4 ⟨v1, p2, rfl, hv1, hp2, hb1⟩
        obtain ⟨k9, nm9, u9', tk9, ta9, tn9, tq9, fk9, fa9, fn9, fq9, l9, c9, m9, q9, fp9, rfl, hs1, hd1, hx1⟩ := hv1.open
        have hq1 : w4.cell? ⟨w.heap.size + 1 + 1, 8, none⟩ = some (.slice cv j qv) := bcell (bstep bal1 hb1) hv
        have hbz : wr.heap.size + 1 ≤ w4.heap.size := by have := hb1.size; simp at this; omega
        have hWS : Below wr.heap.size wr (w4.alloc (.cells #[.int .i64 k9, .string nm9, .int .i64 u9', .int .i64 tk9, .slice ta9 tn9 tq9, .int .i64 fk9, .slice fa9 fn9 fq9, .int .i64 l9, .slice c9 m9 q9] 28)) := bstep (bstep bal1 hb1) bal1
        have hsW : (w4.alloc (.cells #[.int .i64 k9, .string nm9, .int .i64 u9', .int .i64 tk9, .slice ta9 tn9 tq9, .int .i64 fk9, .slice fa9 fn9 fq9, .int .i64 l9, .slice c9 m9 q9] 28)).heap.size = w4.heap.size + 1 := by simp
        have ho' := ownsRow_below HO.out (bstep hWS bal1) (w' := (w4.alloc (.cells #[.int .i64 k9, .string nm9, .int .i64 u9', .int .i64 tk9, .slice ta9 tn9 tq9, .int .i64 fk9, .slice fa9 fn9 fq9, .int .i64 l9, .slice c9 m9 q9] 28)).alloc (.cells #[.int .i64 k9, .string nm9, .int .i64 u9', .int .i64 tk9, .slice ta9 tn9 tq9, .int .i64 fk9, .slice fa9 fn9 fq9, .int .i64 l9, .slice c9 m9 q9] 28))
        have HO' := Lib.hid ho'
        have HWS := Lib.hid hWS
        have HSW := Lib.hid hsW
        have HS1 := Lib.hid (hs1.move (w' := (w4.alloc (.cells #[.int .i64 k9, .string nm9, .int .i64 u9', .int .i64 tk9, .slice ta9 tn9 tq9, .int .i64 fk9, .slice fa9 fn9 fq9, .int .i64 l9, .slice c9 m9 q9] 28)).alloc (.cells #[.int .i64 k9, .string nm9, .int .i64 u9', .int .i64 tk9, .slice ta9 tn9 tq9, .int .i64 fk9, .slice fa9 fn9 fq9, .int .i64 l9, .slice c9 m9 q9] 28)) _ _ _ fun b hb => (heap_alloc_old _ _ (by rw [hsW]; have := SOwn.lt _ _ _ hs1 b hb; omega)).trans (heap_alloc_old _ _ (SOwn.lt _ _ _ hs1 b hb)))
        have HD1' := Lib.hid hd1
        have HX1' := Lib.hid (show ∀ x ∈ fp9, wr.heap.size ≤ x from fun x hx => by have := hx1 x hx; simp at this; omega)
        have HP2 := Lib.hid hp2
        have lq1 := World.block_lt_of_cell? _ _ hq1
        clear ho' hWS hsW hv1 hs1 hd1 hx1 hp2
        go_wp2_with (first | (at_builtin; refine wpList_append_lies _ rfl (.tmp 36) (.tmp 38) 26 rfl W1.heap.size 28 i0 _ 9 128 Try.underlying26 HI.out Z0.out Z1.out Z2.out rfl (by omega) (.slice cv j qv) j xs rfl HO'.out ⟨w4.heap.size + 1, 0, none⟩ 1 1 [.int .i64 k9, .string nm9, .int .i64 u9', .int .i64 tk9, .slice ta9 tn9 tq9, .int .i64 fk9, .slice fa9 fn9 fq9, .int .i64 l9, .slice c9 m9 q9] rfl rfl (by rw [← HSW.out]; exact World.news_of_block (cs := #[.int .i64 k9, .string nm9, .int .i64 u9', .int .i64 tk9, .slice ta9 tn9 tq9, .int .i64 fk9, .slice fa9 fn9 fq9, .int .i64 l9, .slice c9 m9 q9]) (t := 28) (fr := (0, 0)) (heap_alloc_new (w4.alloc (.cells #[.int .i64 k9, .string nm9, .int .i64 u9', .int .i64 tk9, .slice ta9 tn9 tq9, .int .i64 fk9, .slice fa9 fn9 fq9, .int .i64 l9, .slice c9 m9 q9] 28)) _)) (by simp [Value.oneCell']) (by omega) (by unfold maxLen; omega) (by omega) (by simp; omega) _ rfl ?_) | fail)
        intro gg cap2 w5 hown2 hgrow hat hlt2
        have hfar := grown_far (bstep HWS.out bal1) HO.out hgrow
        have hq : w5.cell? ⟨w.heap.size + 1 + 1, 8, none⟩ = some (.slice cv j qv) := (World.cell?_of_block (a := ⟨w.heap.size + 1 + 1, 8, none⟩) (hfar (w.heap.size + 1 + 1) (by omega) (by omega))).trans hv
        have hqf : w5.frozen? ⟨w.heap.size + 1 + 1, 8, none⟩ = false := (World.frozen?_of_block (a := ⟨w.heap.size + 1 + 1, 8, none⟩) (hfar (w.heap.size + 1 + 1) (by omega) (by omega))).trans (hF.out _)
        have HFAR := Lib.hid hfar
        have hacc2 := AccNew.push (W0 := wr) HL.out HO.out HS.out HD.out HFP.out hsz (bstep HWS.out bal1) (Nat.le_refl _) HS1.out HD1'.out HX1'.out hown2 hgrow (hat.elim .inl (fun h => .inr (by first | exact h | (rw [h]; simp; done) | (rw [h]))))
        have HACC := Lib.hid hacc2
        have HBEL := Lib.hid (grown_below hbw.out (bstep HWS.out bal1) HO.out (by omega) hgrow)
        have hsz2 : wr.heap.size ≤ w5.heap.size := Nat.le_trans (bstep HWS.out bal1).size hgrow.size
        have HP5 := Lib.hid (HP2.out.moveB (w' := w5.setCell ⟨w.heap.size + 1 + 1, 8, none⟩ (.slice (some ⟨gg, 0, none⟩) (j + 1) cap2)) (by have := hgrow.size; simp [World.setCell] at this ⊢; omega) (fun b hb => (Below.heap_setCell w5 ⟨w.heap.size + 1 + 1, 8, none⟩ _ b (by show b ≠ w.heap.size + 1 + 1; omega)).trans ((hfar b (by omega) (by omega)).trans ((bstep bal1 hb1).block b (by omega)).symm)))
        clear hfar hacc2 hown2 hgrow hat hq1 hb1
        go_wp2_with fail
        go_roundw
        case rel =>
          refine ⟨j + 1, by omega, by go_num, ⟨_, rfl, HP5.out⟩, HBEL.out.setCell (by show w.heap.size ≤ w.heap.size + 1 + 1; omega) _, by simp [World.setCell]; omega,
            fun b hb hn => (Below.heap_setCell w5 ⟨w.heap.size + 1 + 1, 8, none⟩ _ b hn).trans ((HFAR.out b (by omega) hb).trans (hR.out b hb hn)),
            fun o ho => (World.cell?_setCell_other w5 _ _ _ (fun e => by cases e; exact ho rfl)).trans ((World.cell?_of_block (a := ⟨w.heap.size + 1 + 1, o, none⟩) (HFAR.out (w.heap.size + 1 + 1) (by omega) (by omega))).trans (hO.out o ho)),
            fun o => (sc_fro _ _ _ _).trans ((World.frozen?_of_block (a := ⟨w.heap.size + 1 + 1, o, none⟩) (HFAR.out (w.heap.size + 1 + 1) (by omega) (by omega))).trans (hF.out o)), _, sc_self hq, ?_⟩
          have h := HACC.out.setCell (p := ⟨w.heap.size + 1 + 1, 8, none⟩) (by show w.heap.size + 1 + 1 < W1.heap.size; omega) (.slice (some ⟨gg, 0, none⟩) (j + 1) cap2)
          rw [HTS.out, Tm.rows_eq, List.map_append, ← Tm.rows_eq]
          exact h
        case measure => simp [intOf]; omega
      · have hje : ts.take j = ts := List.take_of_length_le (by have := HN.out; omega)
        rw [hje] at hacc hp
        obtain ⟨cv, qv, rfl⟩ := hacc.shape
        have HACC := Lib.hid hacc
        have HPE := Lib.hid hp.out
        clear hacc hje hp
        obtain ⟨uu0, z0⟩ := RZ.out 0 (by omega)
        replace z0 := (World.cell?_of_block (a := ⟨w.heap.size + 1, 0, none⟩) (hR.out (w.heap.size + 1) (by omega) (by omega))).trans z0
        have y0 := (World.frozen?_of_block (a := ⟨w.heap.size + 1, 0, none⟩) (hR.out (w.heap.size + 1) (by omega) (by omega))).trans (RF.out 0)
        obtain ⟨uu1, z1⟩ := RZ.out 1 (by omega)
        replace z1 := (World.cell?_of_block (a := ⟨w.heap.size + 1, 1, none⟩) (hR.out (w.heap.size + 1) (by omega) (by omega))).trans z1
        have y1 := (World.frozen?_of_block (a := ⟨w.heap.size + 1, 1, none⟩) (hR.out (w.heap.size + 1) (by omega) (by omega))).trans (RF.out 1)
        obtain ⟨uu2, z2⟩ := RZ.out 2 (by omega)
        replace z2 := (World.cell?_of_block (a := ⟨w.heap.size + 1, 2, none⟩) (hR.out (w.heap.size + 1) (by omega) (by omega))).trans z2
        have y2 := (World.frozen?_of_block (a := ⟨w.heap.size + 1, 2, none⟩) (hR.out (w.heap.size + 1) (by omega) (by omega))).trans (RF.out 2)
        obtain ⟨uu3, z3⟩ := RZ.out 3 (by omega)
        replace z3 := (World.cell?_of_block (a := ⟨w.heap.size + 1, 3, none⟩) (hR.out (w.heap.size + 1) (by omega) (by omega))).trans z3
        have y3 := (World.frozen?_of_block (a := ⟨w.heap.size + 1, 3, none⟩) (hR.out (w.heap.size + 1) (by omega) (by omega))).trans (RF.out 3)
        obtain ⟨uu4, z4⟩ := RZ.out 4 (by omega)
        replace z4 := (World.cell?_of_block (a := ⟨w.heap.size + 1, 4, none⟩) (hR.out (w.heap.size + 1) (by omega) (by omega))).trans z4
        have y4 := (World.frozen?_of_block (a := ⟨w.heap.size + 1, 4, none⟩) (hR.out (w.heap.size + 1) (by omega) (by omega))).trans (RF.out 4)
        obtain ⟨uu5, z5⟩ := RZ.out 5 (by omega)
        replace z5 := (World.cell?_of_block (a := ⟨w.heap.size + 1, 5, none⟩) (hR.out (w.heap.size + 1) (by omega) (by omega))).trans z5
        have y5 := (World.frozen?_of_block (a := ⟨w.heap.size + 1, 5, none⟩) (hR.out (w.heap.size + 1) (by omega) (by omega))).trans (RF.out 5)
        obtain ⟨uu6, z6⟩ := RZ.out 6 (by omega)
        replace z6 := (World.cell?_of_block (a := ⟨w.heap.size + 1, 6, none⟩) (hR.out (w.heap.size + 1) (by omega) (by omega))).trans z6
        have y6 := (World.frozen?_of_block (a := ⟨w.heap.size + 1, 6, none⟩) (hR.out (w.heap.size + 1) (by omega) (by omega))).trans (RF.out 6)
        obtain ⟨uu7, z7⟩ := RZ.out 7 (by omega)
        replace z7 := (World.cell?_of_block (a := ⟨w.heap.size + 1, 7, none⟩) (hR.out (w.heap.size + 1) (by omega) (by omega))).trans z7
        have y7 := (World.frozen?_of_block (a := ⟨w.heap.size + 1, 7, none⟩) (hR.out (w.heap.size + 1) (by omega) (by omega))).trans (RF.out 7)
        obtain ⟨uu8, z8⟩ := RZ.out 8 (by omega)
        replace z8 := (World.cell?_of_block (a := ⟨w.heap.size + 1, 8, none⟩) (hR.out (w.heap.size + 1) (by omega) (by omega))).trans z8
        have y8 := (World.frozen?_of_block (a := ⟨w.heap.size + 1, 8, none⟩) (hR.out (w.heap.size + 1) (by omega) (by omega))).trans (RF.out 8)
        have g0 := (hO.out 0 (by omega)).trans GC.out.1
        have g1 := (hO.out 1 (by omega)).trans GC.out.2.1
        have g2 := (hO.out 2 (by omega)).trans GC.out.2.2.1
        have g3 := (hO.out 3 (by omega)).trans GC.out.2.2.2.1
        have g4 := (hO.out 4 (by omega)).trans GC.out.2.2.2.2.1
        have g5 := (hO.out 5 (by omega)).trans GC.out.2.2.2.2.2.1
        have g6 := (hO.out 6 (by omega)).trans GC.out.2.2.2.2.2.2.1
        have g7 := (hO.out 7 (by omega)).trans GC.out.2.2.2.2.2.2.2
        have lz0 := World.block_lt_of_cell? _ _ z0
        go_wp2_with fail
        refine bodyPost_ret (v := .tuple #[.agg #[.int .i64 5, .string nm, .int .i64 u, .int .i64 k3, (.slice c3' m3 q3), .int .i64 fk, .slice fa 0 fq, .int .i64 0, .slice cv j qv], p]) (by simp [results, Try.results23, go_sem, z0, z1, z2, z3, z4, z5, z6, z7, z8]) rfl ?_
        obtain ⟨fpk, hok, hdk, hxk⟩ := HACC.out.tms
        have hltk : ∀ x ∈ (fp3 : List Nat), x < W1.heap.size := COwn.lt _ _ _ HT1.out
        have hnew : TmNew (w.heap.size + 1 + 1 + 1) wr (Tm.mk 5 nm u x .no 0 (Tm.retys ts L')) (.agg #[.int .i64 5, .string nm, .int .i64 u, .int .i64 k3, (.slice c3' m3 q3), .int .i64 fk, .slice fa 0 fq, .int .i64 0, .slice cv j qv]) :=
          TmNew.of (f1 := fp3) (f2 := []) HRN.out HKX.out HR6.out (COwn.move _ _ _ (fun b hb => hR.out b (hltk b hb) (by have := HXX.out b hb; omega)) HT1.out) (by unfold Ty.no Ty.kids Ty.rows; exact COwn.sl_nil HFQ.out) hok
            (by rw [List.nil_append]; exact List.nodup_append.2 ⟨HDD.out, hdk, fun x hx z hz e => by have h1 := hltk x hx; have h2 := hxk z hz; omega⟩)
            (fun x hx => by
              rw [List.nil_append] at hx
              rcases List.mem_append.1 hx with hx | hx
              · exact HXX.out x hx
              · have := hxk x hx; omega)
        exact ⟨_, _, rfl, TmNew.mono ((((((((((hnew).setCell (by show w.heap.size + 1 < w.heap.size + 1 + 1 + 1; omega) _).setCell (by show w.heap.size + 1 < w.heap.size + 1 + 1 + 1; omega) _).setCell (by show w.heap.size + 1 < w.heap.size + 1 + 1 + 1; omega) _).setCell (by show w.heap.size + 1 < w.heap.size + 1 + 1 + 1; omega) _).setCell (by show w.heap.size + 1 < w.heap.size + 1 + 1 + 1; omega) _).setCell (by show w.heap.size + 1 < w.heap.size + 1 + 1 + 1; omega) _).setCell (by show w.heap.size + 1 < w.heap.size + 1 + 1 + 1; omega) _).setCell (by show w.heap.size + 1 < w.heap.size + 1 + 1 + 1; omega) _).setCell (by show w.heap.size + 1 < w.heap.size + 1 + 1 + 1; omega) _) (by omega), HPE.out.belowB hBw (((((((((((Below.refl w.heap.size wr)).setCell (by show w.heap.size ≤ w.heap.size + 1; omega) _).setCell (by show w.heap.size ≤ w.heap.size + 1; omega) _).setCell (by show w.heap.size ≤ w.heap.size + 1; omega) _).setCell (by show w.heap.size ≤ w.heap.size + 1; omega) _).setCell (by show w.heap.size ≤ w.heap.size + 1; omega) _).setCell (by show w.heap.size ≤ w.heap.size + 1; omega) _).setCell (by show w.heap.size ≤ w.heap.size + 1; omega) _).setCell (by show w.heap.size ≤ w.heap.size + 1; omega) _).setCell (by show w.heap.size ≤ w.heap.size + 1; omega) _), (((((((((hbw.out).setCell (by show w.heap.size ≤ w.heap.size + 1; omega) _).setCell (by show w.heap.size ≤ w.heap.size + 1; omega) _).setCell (by show w.heap.size ≤ w.heap.size + 1; omega) _).setCell (by show w.heap.size ≤ w.heap.size + 1; omega) _).setCell (by show w.heap.size ≤ w.heap.size + 1; omega) _).setCell (by show w.heap.size ≤ w.heap.size + 1; omega) _).setCell (by show w.heap.size ≤ w.heap.size + 1; omega) _).setCell (by show w.heap.size ≤ w.heap.size + 1; omega) _).setCell (by show w.heap.size ≤ w.heap.size + 1; omega) _⟩
end Go.Proofs.Ytpckgpndaligbaa
