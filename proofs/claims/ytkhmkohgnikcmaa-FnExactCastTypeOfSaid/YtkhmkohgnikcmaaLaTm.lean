/-
  The laws' helpers at terms: size, copy, equality.
-/
import Derived.Test.YtkhmkohgnikcmaaRows
import Derived.Test.YtkhmkohgnikcmaaB1
import Derived.Test.YtkhmkohgnikcmaaB2
import Derived.Test.YtkhmkohgnikcmaaB1
import Derived.Handy
import Derived.IntWalk
import Derived.Deep.RegionHeld3
import Derived.Test.YtkhmkohgnikcmaaB3
namespace Go.Proofs.Ytkhmkohgnikcmaa
open Go.RowKit
set_option linter.unusedVariables false
set_option linter.unusedSimpArgs false
set_option maxRecDepth 100000

def RetTm (t : Tm) (w : World) (e : Ending) (w' : World) : Prop := ∃ v, e = .returned v ∧ TmNew w.heap.size w' t v ∧ Below w.heap.size w w'
def RetTms (ts : List Tm) (w : World) (e : Ending) (w' : World) : Prop := ∃ v, e = .returned v ∧ TmsNew w.heap.size w' ts v ∧ Below w.heap.size w w'
theorem Try.infoTm : (Try.prog.info? 36).map (fun i => (i.zero, i.size, i.bytes)) = some (some (.agg #[.int .i64 0, .string ByteArray.empty, .int .i64 0, .int .i64 0, .slice none 0 0, .int .i64 0, .slice none 0 0, .int .i64 0, .slice none 0 0]), 9, 128) := by kernel_rfl
theorem szr_le {l : Int} {c : Nat} (h : 0 ≤ l) : szr l c ≤ l := by unfold szr; split <;> omega
/-- New, between two marks. -/
def TyIn (B E : Nat) (w : World) (t : Ty) (y : Value) : Prop := ∃ fp, TyOwn w t y fp ∧ fp.Nodup ∧ ∀ b ∈ fp, B ≤ b ∧ b < E
def TmsIn (B E : Nat) (w : World) (ts : List Tm) (y : Value) : Prop := ∃ fp, TmsOwn w ts y fp ∧ fp.Nodup ∧ ∀ b ∈ fp, B ≤ b ∧ b < E
theorem TyNew.in {B : Nat} {w : World} {t : Ty} {y : Value} (h : TyNew B w t y) : TyIn B w.heap.size w t y := by
  obtain ⟨fp, h1, h2, h3⟩ := h
  obtain ⟨s, rfl, h1⟩ := h1
  exact ⟨fp, ⟨s, rfl, h1⟩, h2, fun b hb => ⟨h3 b hb, COwn.lt _ _ _ h1 b hb⟩⟩
theorem TmsNew.in {B : Nat} {w : World} {ts : List Tm} {y : Value} (h : TmsNew B w ts y) : TmsIn B w.heap.size w ts y := by
  obtain ⟨fp, h1, h2, h3⟩ := h
  exact ⟨fp, h1, h2, fun b hb => ⟨h3 b hb, COwn.lt _ _ _ h1 b hb⟩⟩
theorem TyIn.below {B E : Nat} {w w' : World} {t : Ty} {y : Value} (h : TyIn B E w t y) (k : Below w.heap.size w w') : TyIn B E w' t y :=
  let ⟨fp, h1, h2, h3⟩ := h; ⟨fp, h1.below k, h2, h3⟩
theorem TmsIn.below {B E : Nat} {w w' : World} {t : List Tm} {y : Value} (h : TmsIn B E w t y) (k : Below w.heap.size w w') : TmsIn B E w' t y :=
  let ⟨fp, h1, h2, h3⟩ := h; ⟨fp, COwn.move _ _ _ (fun b hb => k.block b (COwn.lt _ _ _ h1 b hb)) h1, h2, h3⟩
theorem TyIn.setCell {B E : Nat} {w : World} {t : Ty} {y : Value} (h : TyIn B E w t y) {p : Addr} (hp : p.block < B) (v : Value) : TyIn B E (w.setCell p v) t y := by
  obtain ⟨fp, ⟨s, hs, h1⟩, h2, h3⟩ := h
  exact ⟨fp, ⟨s, hs, COwn.move _ _ _ (fun b hb => Below.heap_setCell w p v b (by have := h3 b hb; omega)) h1⟩, h2, h3⟩
theorem TmsIn.setCell {B E : Nat} {w : World} {t : List Tm} {y : Value} (h : TmsIn B E w t y) {p : Addr} (hp : p.block < B) (v : Value) : TmsIn B E (w.setCell p v) t y := by
  obtain ⟨fp, h1, h2, h3⟩ := h
  exact ⟨fp, COwn.move _ _ _ (fun b hb => Below.heap_setCell w p v b (by have := h3 b hb; omega)) h1, h2, h3⟩
theorem TmNew.mk3 {B B1 E1 B2 E2 B3 E3 : Nat} {w : World} {k u l tk fk : Int} {nm : ByteArray} {t f : Ty} {ts : List Tm} {s1 s2 s3 : Value} (h1 : TyIn B1 E1 w t (.agg #[.int .i64 tk, s1])) (h2 : TyIn B2 E2 w f (.agg #[.int .i64 fk, s2])) (h3 : TmsIn B3 E3 w ts s3)
    (o1 : E1 ≤ B2 ∧ E1 ≤ B3) (o2 : E2 ≤ B3 ∧ B ≤ B2 ∧ B ≤ B3) (o3 : B ≤ B1) (hn : nm.size ≤ maxLen) : TmNew B w (.mk k nm u t f l ts) (.agg #[.int .i64 k, .string nm, .int .i64 u, .int .i64 tk, s1, .int .i64 fk, s2, .int .i64 l, s3]) := by
  obtain ⟨f1, ⟨z1, e1, p1⟩, d1, x1⟩ := h1
  obtain ⟨f2, ⟨z2, e2, p2⟩, d2, x2⟩ := h2
  obtain ⟨f3, p3, d3, x3⟩ := h3
  simp only [Value.agg.injEq, Array.mk.injEq, List.cons.injEq, Value.int.injEq, true_and, and_true] at e1 e2
  obtain ⟨rfl, rfl⟩ := e1
  obtain ⟨rfl, rfl⟩ := e2
  refine ⟨f1 ++ (f2 ++ f3), ⟨s1, s2, s3, f1, f2, f3, rfl, rfl, hn, p1, p2, p3⟩, ?_, ?_⟩
  · refine List.nodup_append.2 ⟨d1, List.nodup_append.2 ⟨d2, d3, fun a ha b hb e => ?_⟩, fun a ha b hb e => ?_⟩
    · subst e; have := x2 a ha; have := x3 a hb; omega
    · subst e
      have := x1 a ha
      rcases List.mem_append.1 hb with hb | hb
      · have := x2 a hb; omega
      · have := x3 a hb; omega
  · intro b hb
    rcases List.mem_append.1 hb with hb | hb
    · have := x1 b hb; omega
    · rcases List.mem_append.1 hb with hb | hb
      · have := x2 b hb; omega
      · have := x3 b hb; omega
set_option maxHeartbeats 2000000 in
theorem toTermS_of (F : Nat → Prop) (ts : List Tm) (ys : Value) (w : World) (hy : TmsRep F w ts ys) (hn : ts.length ≤ 1048576)
    (IH : ∀ t ∈ ts, ∀ (y : Value) (W : World), TmRep F W t y → Calls Try.prog 6 #[y] W (RetTm t W)) :
    Calls Try.prog 19 #[ys] w (RetTms ts w) := by
  obtain ⟨i0, hi, hz0, hz1, hz2⟩ := info_parts Try.infoTm
  obtain ⟨a, cap, rfl, h2, h3, _⟩ := hy.open
  have IHH := Lib.hid IH
  clear IH
  unfold maxLen at h3
  obtain ⟨n, hnn⟩ : ∃ n, ts.length = n := ⟨_, rfl⟩
  rw [hnn] at hn h2 hy ⊢
  have HN := Lib.hid hnn
  clear hnn
  have hmk := fun W => run_make_rowN (P := Try.prog) 34 36 i0 _ Try.underlying34 hi hz0 .i64 .i64 n n (Nat.le_refl _) (by rw [hz2]; omega) (by omega) W
  rw [hz1] at hmk
  clear hz0 hz1 hz2 hi
  go_enter Try.func19, Try.ntmps19
  go_wp2_with fail
  go_loopw [4] (fun i wr => ∃ j : Nat, j ≤ n ∧ i = .int .i64 j ∧ Below w.heap.size w wr ∧ RowsNew w.heap.size w.heap.size (n * 9) 36 wr (Tm.rows (ts.take j))) (fun i _ => n - (intOf i).toNat)
  case atStart => exact ⟨0, by omega, rfl, bal1, by simpa [Tm.rows] using RowsNew.made (by simp [madeCells])⟩
  case round =>
    obtain ⟨j, hj, rfl, hbw, hown⟩ := hrel
    by_cases hlt : j < n
    · have hjt : j < ts.length := by rw [HN.out]; exact hlt
      obtain ⟨b, off, k0, nm0, u0, tk0, ta0, tn0, tq0, fk0, fa0, fn0, fq0, l0, a0, m0, q0, rfl, lb, e0, e1, e2, e3, e4, e5, e6, e7, e8, ht⟩ := hy.at hbw hjt
      go_wp2_with fail
      refine (IHH.out _ (List.getElem_mem hjt) _ _ ht).mono ?_
      rintro e w1 ⟨v, rfl, hv, hb1⟩
      obtain ⟨k1, nm1, u1, tk1, ta1, tn1, tq1, fk1, fa1, fn1, fq1, l1, c1, m1, q1, fp, rfl, hs, hd, hx⟩ := hv.open
      obtain ⟨⟨x0, f0⟩, f1⟩ := (hown.below hb1).cell (j * 9) (by omega)
      obtain ⟨⟨x1, f2⟩, f3⟩ := (hown.below hb1).cell (j * 9 + 1) (by omega)
      obtain ⟨⟨x2, f4⟩, f5⟩ := (hown.below hb1).cell (j * 9 + 2) (by omega)
      obtain ⟨⟨x3, f6⟩, f7⟩ := (hown.below hb1).cell (j * 9 + 3) (by omega)
      obtain ⟨⟨x4, f8⟩, f9⟩ := (hown.below hb1).cell (j * 9 + 4) (by omega)
      obtain ⟨⟨x5, f10⟩, f11⟩ := (hown.below hb1).cell (j * 9 + 5) (by omega)
      obtain ⟨⟨x6, f12⟩, f13⟩ := (hown.below hb1).cell (j * 9 + 6) (by omega)
      obtain ⟨⟨x7, f14⟩, f15⟩ := (hown.below hb1).cell (j * 9 + 7) (by omega)
      obtain ⟨⟨x8, f16⟩, f17⟩ := (hown.below hb1).cell (j * 9 + 8) (by omega)
      have hnew := hown.store hb1 hs hd hx hbw.size (o := j * 9) (by rw [Tm.flatten_length]; simp; omega) (by rw [Tm.row_length]; omega)
      have HNEW := Lib.hid hnew
      clear hnew hown
      go_wp2_with fail
      go_roundw
      case rel => exact ⟨j + 1, by omega, by go_num, setRow_below [_, _, _, _, _, _, _, _, _] w1 w _ _ _ (Nat.le_refl _) (bstep hbw hb1), by rw [Tm.rows_eq, List.take_succ_eq_append_getElem hjt, List.map_append]; have h := HNEW.out; rw [Tm.rows_eq] at h; exact h⟩
      case measure => simp [intOf]; omega
    · go_wp2_with fail
      go_ret
      rw [List.take_of_length_le (by rw [HN.out]; omega)] at hown
      obtain ⟨fp, h4, h5, h6⟩ := hown.slice (n := n) (cap := n) (by rw [Tm.rows_length]; exact HN.out) (Nat.le_refl _) (by unfold maxLen; omega)
      exact ⟨_, rfl, ⟨fp, h4, h5, h6⟩, hbw⟩

set_option maxHeartbeats 2000000 in
theorem toTerm_any (F : Nat → Prop) (t : Tm) : ∀ (y : Value) (w : World), TmRep F w t y → t.cnt ≤ 1048576 → Calls Try.prog 6 #[y] w (RetTm t w) := by
  intro y w hy hc
  have IH : ∀ t' ∈ t.kids, ∀ (y : Value) (W : World), TmRep F W t' y → Calls Try.prog 6 #[y] W (RetTm t' W) :=
    fun t' ht y W h => toTerm_any F t' y W h (by have := Tm.cnt_kid ht; omega)
  obtain ⟨k, nm, u, tk, ta, tn, tq, fk, fa, fn, fq, l, c, m, q, rfl⟩ := hy.shape
  obtain ⟨r1, r2, r3, r4, r5, r6, r7, r8, r9, rn, rm, rq, hty, hsr, hks⟩ := hy.parts
  have hcp := t.cnt_parts
  cases t with | mk kk nn uu t f ll ts =>
  simp only [Tm.kind, Tm.name, Tm.num, Tm.type, Tm.src, Tm.label, Tm.kids] at *
  subst r1 r2 r3 r8
  have h3 := fun W (h : Below w.heap.size w W) => toTermS_of F ts _ W (hks.below h) (by omega) IH
  have H3 := Lib.hid h3
  have bt : t.cnt ≤ 1048576 := by omega
  have bf : f.cnt ≤ 1048576 := by omega
  clear h3 IH hks hy hcp hc r4 r5 r6 r7 r9
  go_enter Try.func6, Try.ntmps6
  go_wp2_with fail
  refine (toType_any F t _ _ (hty.below bal3) bt).mono ?_
  rintro e w1 ⟨v1, rfl, hv1, hb1⟩
  obtain ⟨kr1, ar1, nr1, qr1, rfl⟩ := hv1.shape
  have hi1 := hv1.in
  have hB := (bstep bal3 hb1)
  have zw1 := hB.size
  have f2_3 : w1.frozen? ⟨w.heap.size + 1 + 1, 3, none⟩ = false := bfroc hb1 (cell_new (by simp) 3) (fro_new (by simp) 3)
  have f2_4 : w1.frozen? ⟨w.heap.size + 1 + 1, 4, none⟩ = false := bfroc hb1 (cell_new (by simp) 4) (fro_new (by simp) 4)
  have f2_5 : w1.frozen? ⟨w.heap.size + 1 + 1, 5, none⟩ = false := bfroc hb1 (cell_new (by simp) 5) (fro_new (by simp) 5)
  have f2_6 : w1.frozen? ⟨w.heap.size + 1 + 1, 6, none⟩ = false := bfroc hb1 (cell_new (by simp) 6) (fro_new (by simp) 6)
  have f2_7 : w1.frozen? ⟨w.heap.size + 1 + 1, 7, none⟩ = false := bfroc hb1 (cell_new (by simp) 7) (fro_new (by simp) 7)
  have f2_8 : w1.frozen? ⟨w.heap.size + 1 + 1, 8, none⟩ = false := bfroc hb1 (cell_new (by simp) 8) (fro_new (by simp) 8)
  have f1_0 : w1.frozen? ⟨w.heap.size + 1, 0, none⟩ = false := bfroc hb1 (bcell bal1 (cell_new (by simp) 0)) (bfroc bal1 (cell_new (by simp) 0) (fro_new (by simp) 0))
  have f1_1 : w1.frozen? ⟨w.heap.size + 1, 1, none⟩ = false := bfroc hb1 (bcell bal1 (cell_new (by simp) 1)) (bfroc bal1 (cell_new (by simp) 1) (fro_new (by simp) 1))
  have f1_2 : w1.frozen? ⟨w.heap.size + 1, 2, none⟩ = false := bfroc hb1 (bcell bal1 (cell_new (by simp) 2)) (bfroc bal1 (cell_new (by simp) 2) (fro_new (by simp) 2))
  have f1_3 : w1.frozen? ⟨w.heap.size + 1, 3, none⟩ = false := bfroc hb1 (bcell bal1 (cell_new (by simp) 3)) (bfroc bal1 (cell_new (by simp) 3) (fro_new (by simp) 3))
  have f1_4 : w1.frozen? ⟨w.heap.size + 1, 4, none⟩ = false := bfroc hb1 (bcell bal1 (cell_new (by simp) 4)) (bfroc bal1 (cell_new (by simp) 4) (fro_new (by simp) 4))
  have f1_5 : w1.frozen? ⟨w.heap.size + 1, 5, none⟩ = false := bfroc hb1 (bcell bal1 (cell_new (by simp) 5)) (bfroc bal1 (cell_new (by simp) 5) (fro_new (by simp) 5))
  have f1_6 : w1.frozen? ⟨w.heap.size + 1, 6, none⟩ = false := bfroc hb1 (bcell bal1 (cell_new (by simp) 6)) (bfroc bal1 (cell_new (by simp) 6) (fro_new (by simp) 6))
  have f1_7 : w1.frozen? ⟨w.heap.size + 1, 7, none⟩ = false := bfroc hb1 (bcell bal1 (cell_new (by simp) 7)) (bfroc bal1 (cell_new (by simp) 7) (fro_new (by simp) 7))
  have f1_8 : w1.frozen? ⟨w.heap.size + 1, 8, none⟩ = false := bfroc hb1 (bcell bal1 (cell_new (by simp) 8)) (bfroc bal1 (cell_new (by simp) 8) (fro_new (by simp) 8))
  have c2_3 : w1.cell? ⟨w.heap.size + 1 + 1, 3, none⟩ = some (.int .i64 0) := bcell hb1 (cell_new (by simp) 3)
  have c2_4 : w1.cell? ⟨w.heap.size + 1 + 1, 4, none⟩ = some (.slice none 0 0) := bcell hb1 (cell_new (by simp) 4)
  have c0_5 : w1.cell? ⟨w.heap.size, 5, none⟩ = some (.int .i64 fk) := bcell hb1 (bcell bal1 (bcell bal1 (cell_new (by simp) 5)))
  have c0_6 : w1.cell? ⟨w.heap.size, 6, none⟩ = some (.slice fa fn fq) := bcell hb1 (bcell bal1 (bcell bal1 (cell_new (by simp) 6)))
  have c2_5 : w1.cell? ⟨w.heap.size + 1 + 1, 5, none⟩ = some (.int .i64 0) := bcell hb1 (cell_new (by simp) 5)
  have c2_6 : w1.cell? ⟨w.heap.size + 1 + 1, 6, none⟩ = some (.slice none 0 0) := bcell hb1 (cell_new (by simp) 6)
  have c0_7 : w1.cell? ⟨w.heap.size, 7, none⟩ = some (.int .i64 l) := bcell hb1 (bcell bal1 (bcell bal1 (cell_new (by simp) 7)))
  have c2_7 : w1.cell? ⟨w.heap.size + 1 + 1, 7, none⟩ = some (.int .i64 0) := bcell hb1 (cell_new (by simp) 7)
  have c0_8 : w1.cell? ⟨w.heap.size, 8, none⟩ = some (.slice c m q) := bcell hb1 (bcell bal1 (bcell bal1 (cell_new (by simp) 8)))
  have c2_8 : w1.cell? ⟨w.heap.size + 1 + 1, 8, none⟩ = some (.slice none 0 0) := bcell hb1 (cell_new (by simp) 8)
  have c2_0 : w1.cell? ⟨w.heap.size + 1 + 1, 0, none⟩ = some (.int .i64 k) := bcell hb1 (cell_new (by simp) 0)
  have c2_1 : w1.cell? ⟨w.heap.size + 1 + 1, 1, none⟩ = some (.string nm) := bcell hb1 (cell_new (by simp) 1)
  have c2_2 : w1.cell? ⟨w.heap.size + 1 + 1, 2, none⟩ = some (.int .i64 u) := bcell hb1 (cell_new (by simp) 2)
  have c1_0 : w1.cell? ⟨w.heap.size + 1, 0, none⟩ = some (.int .i64 0) := bcell hb1 (bcell bal1 (cell_new (by simp) 0))
  have c1_1 : w1.cell? ⟨w.heap.size + 1, 1, none⟩ = some (.string ByteArray.empty) := bcell hb1 (bcell bal1 (cell_new (by simp) 1))
  have c1_2 : w1.cell? ⟨w.heap.size + 1, 2, none⟩ = some (.int .i64 0) := bcell hb1 (bcell bal1 (cell_new (by simp) 2))
  have c1_3 : w1.cell? ⟨w.heap.size + 1, 3, none⟩ = some (.int .i64 0) := bcell hb1 (bcell bal1 (cell_new (by simp) 3))
  have c1_4 : w1.cell? ⟨w.heap.size + 1, 4, none⟩ = some (.slice none 0 0) := bcell hb1 (bcell bal1 (cell_new (by simp) 4))
  have c1_5 : w1.cell? ⟨w.heap.size + 1, 5, none⟩ = some (.int .i64 0) := bcell hb1 (bcell bal1 (cell_new (by simp) 5))
  have c1_6 : w1.cell? ⟨w.heap.size + 1, 6, none⟩ = some (.slice none 0 0) := bcell hb1 (bcell bal1 (cell_new (by simp) 6))
  have c1_7 : w1.cell? ⟨w.heap.size + 1, 7, none⟩ = some (.int .i64 0) := bcell hb1 (bcell bal1 (cell_new (by simp) 7))
  have c1_8 : w1.cell? ⟨w.heap.size + 1, 8, none⟩ = some (.slice none 0 0) := bcell hb1 (bcell bal1 (cell_new (by simp) 8))
  have d2_w1 := World.block_lt_of_cell? _ _ c2_3
  have d0_w1 := World.block_lt_of_cell? _ _ c0_5
  have d1_w1 := World.block_lt_of_cell? _ _ c1_0
  go_wp2_with fail
  refine (toType_any F f _ _ (hsr.below ((hB.setCell (by show w.heap.size ≤ w.heap.size + 1 + 1; omega) _).setCell (by show w.heap.size ≤ w.heap.size + 1 + 1; omega) _)) bf).mono ?_
  rintro e w2 ⟨v2, rfl, hv2, hb2⟩
  obtain ⟨kr2, ar2, nr2, qr2, rfl⟩ := hv2.shape
  have hi2 := hv2.in
  replace hB := (bstep ((hB.setCell (by show w.heap.size ≤ w.heap.size + 1 + 1; omega) _).setCell (by show w.heap.size ≤ w.heap.size + 1 + 1; omega) _) hb2)
  have zw2 := hB.size
  replace f2_5 : w2.frozen? ⟨w.heap.size + 1 + 1, 5, none⟩ = false := bfroc hb2 (sc_far (sc_far (c2_5) (by simp)) (by simp)) (sfro (sfro (f2_5)))
  replace f2_6 : w2.frozen? ⟨w.heap.size + 1 + 1, 6, none⟩ = false := bfroc hb2 (sc_far (sc_far (c2_6) (by simp)) (by simp)) (sfro (sfro (f2_6)))
  replace f2_7 : w2.frozen? ⟨w.heap.size + 1 + 1, 7, none⟩ = false := bfroc hb2 (sc_far (sc_far (c2_7) (by simp)) (by simp)) (sfro (sfro (f2_7)))
  replace f2_8 : w2.frozen? ⟨w.heap.size + 1 + 1, 8, none⟩ = false := bfroc hb2 (sc_far (sc_far (c2_8) (by simp)) (by simp)) (sfro (sfro (f2_8)))
  replace f1_0 : w2.frozen? ⟨w.heap.size + 1, 0, none⟩ = false := bfroc hb2 (sc_blk (sc_blk (c1_0) (by show w.heap.size + 1 ≠ w.heap.size + 1 + 1; omega)) (by show w.heap.size + 1 ≠ w.heap.size + 1 + 1; omega)) (sfro (sfro (f1_0)))
  replace f1_1 : w2.frozen? ⟨w.heap.size + 1, 1, none⟩ = false := bfroc hb2 (sc_blk (sc_blk (c1_1) (by show w.heap.size + 1 ≠ w.heap.size + 1 + 1; omega)) (by show w.heap.size + 1 ≠ w.heap.size + 1 + 1; omega)) (sfro (sfro (f1_1)))
  replace f1_2 : w2.frozen? ⟨w.heap.size + 1, 2, none⟩ = false := bfroc hb2 (sc_blk (sc_blk (c1_2) (by show w.heap.size + 1 ≠ w.heap.size + 1 + 1; omega)) (by show w.heap.size + 1 ≠ w.heap.size + 1 + 1; omega)) (sfro (sfro (f1_2)))
  replace f1_3 : w2.frozen? ⟨w.heap.size + 1, 3, none⟩ = false := bfroc hb2 (sc_blk (sc_blk (c1_3) (by show w.heap.size + 1 ≠ w.heap.size + 1 + 1; omega)) (by show w.heap.size + 1 ≠ w.heap.size + 1 + 1; omega)) (sfro (sfro (f1_3)))
  replace f1_4 : w2.frozen? ⟨w.heap.size + 1, 4, none⟩ = false := bfroc hb2 (sc_blk (sc_blk (c1_4) (by show w.heap.size + 1 ≠ w.heap.size + 1 + 1; omega)) (by show w.heap.size + 1 ≠ w.heap.size + 1 + 1; omega)) (sfro (sfro (f1_4)))
  replace f1_5 : w2.frozen? ⟨w.heap.size + 1, 5, none⟩ = false := bfroc hb2 (sc_blk (sc_blk (c1_5) (by show w.heap.size + 1 ≠ w.heap.size + 1 + 1; omega)) (by show w.heap.size + 1 ≠ w.heap.size + 1 + 1; omega)) (sfro (sfro (f1_5)))
  replace f1_6 : w2.frozen? ⟨w.heap.size + 1, 6, none⟩ = false := bfroc hb2 (sc_blk (sc_blk (c1_6) (by show w.heap.size + 1 ≠ w.heap.size + 1 + 1; omega)) (by show w.heap.size + 1 ≠ w.heap.size + 1 + 1; omega)) (sfro (sfro (f1_6)))
  replace f1_7 : w2.frozen? ⟨w.heap.size + 1, 7, none⟩ = false := bfroc hb2 (sc_blk (sc_blk (c1_7) (by show w.heap.size + 1 ≠ w.heap.size + 1 + 1; omega)) (by show w.heap.size + 1 ≠ w.heap.size + 1 + 1; omega)) (sfro (sfro (f1_7)))
  replace f1_8 : w2.frozen? ⟨w.heap.size + 1, 8, none⟩ = false := bfroc hb2 (sc_blk (sc_blk (c1_8) (by show w.heap.size + 1 ≠ w.heap.size + 1 + 1; omega)) (by show w.heap.size + 1 ≠ w.heap.size + 1 + 1; omega)) (sfro (sfro (f1_8)))
  replace c2_5 : w2.cell? ⟨w.heap.size + 1 + 1, 5, none⟩ = some (.int .i64 0) := bcell hb2 (sc_far (sc_far (c2_5) (by simp)) (by simp))
  replace c2_6 : w2.cell? ⟨w.heap.size + 1 + 1, 6, none⟩ = some (.slice none 0 0) := bcell hb2 (sc_far (sc_far (c2_6) (by simp)) (by simp))
  replace c0_7 : w2.cell? ⟨w.heap.size, 7, none⟩ = some (.int .i64 l) := bcell hb2 (sc_blk (sc_blk (c0_7) (by show w.heap.size ≠ w.heap.size + 1 + 1; omega)) (by show w.heap.size ≠ w.heap.size + 1 + 1; omega))
  replace c2_7 : w2.cell? ⟨w.heap.size + 1 + 1, 7, none⟩ = some (.int .i64 0) := bcell hb2 (sc_far (sc_far (c2_7) (by simp)) (by simp))
  replace c0_8 : w2.cell? ⟨w.heap.size, 8, none⟩ = some (.slice c m q) := bcell hb2 (sc_blk (sc_blk (c0_8) (by show w.heap.size ≠ w.heap.size + 1 + 1; omega)) (by show w.heap.size ≠ w.heap.size + 1 + 1; omega))
  replace c2_8 : w2.cell? ⟨w.heap.size + 1 + 1, 8, none⟩ = some (.slice none 0 0) := bcell hb2 (sc_far (sc_far (c2_8) (by simp)) (by simp))
  replace c2_0 : w2.cell? ⟨w.heap.size + 1 + 1, 0, none⟩ = some (.int .i64 k) := bcell hb2 (sc_far (sc_far (c2_0) (by simp)) (by simp))
  replace c2_1 : w2.cell? ⟨w.heap.size + 1 + 1, 1, none⟩ = some (.string nm) := bcell hb2 (sc_far (sc_far (c2_1) (by simp)) (by simp))
  replace c2_2 : w2.cell? ⟨w.heap.size + 1 + 1, 2, none⟩ = some (.int .i64 u) := bcell hb2 (sc_far (sc_far (c2_2) (by simp)) (by simp))
  replace c2_3 : w2.cell? ⟨w.heap.size + 1 + 1, 3, none⟩ = some (.int .i64 kr1) := bcell hb2 (sc_far (sc_self (c2_3)) (by simp))
  replace c2_4 : w2.cell? ⟨w.heap.size + 1 + 1, 4, none⟩ = some (.slice ar1 nr1 qr1) := bcell hb2 (sc_self (sc_far (c2_4) (by simp)))
  replace c1_0 : w2.cell? ⟨w.heap.size + 1, 0, none⟩ = some (.int .i64 0) := bcell hb2 (sc_blk (sc_blk (c1_0) (by show w.heap.size + 1 ≠ w.heap.size + 1 + 1; omega)) (by show w.heap.size + 1 ≠ w.heap.size + 1 + 1; omega))
  replace c1_1 : w2.cell? ⟨w.heap.size + 1, 1, none⟩ = some (.string ByteArray.empty) := bcell hb2 (sc_blk (sc_blk (c1_1) (by show w.heap.size + 1 ≠ w.heap.size + 1 + 1; omega)) (by show w.heap.size + 1 ≠ w.heap.size + 1 + 1; omega))
  replace c1_2 : w2.cell? ⟨w.heap.size + 1, 2, none⟩ = some (.int .i64 0) := bcell hb2 (sc_blk (sc_blk (c1_2) (by show w.heap.size + 1 ≠ w.heap.size + 1 + 1; omega)) (by show w.heap.size + 1 ≠ w.heap.size + 1 + 1; omega))
  replace c1_3 : w2.cell? ⟨w.heap.size + 1, 3, none⟩ = some (.int .i64 0) := bcell hb2 (sc_blk (sc_blk (c1_3) (by show w.heap.size + 1 ≠ w.heap.size + 1 + 1; omega)) (by show w.heap.size + 1 ≠ w.heap.size + 1 + 1; omega))
  replace c1_4 : w2.cell? ⟨w.heap.size + 1, 4, none⟩ = some (.slice none 0 0) := bcell hb2 (sc_blk (sc_blk (c1_4) (by show w.heap.size + 1 ≠ w.heap.size + 1 + 1; omega)) (by show w.heap.size + 1 ≠ w.heap.size + 1 + 1; omega))
  replace c1_5 : w2.cell? ⟨w.heap.size + 1, 5, none⟩ = some (.int .i64 0) := bcell hb2 (sc_blk (sc_blk (c1_5) (by show w.heap.size + 1 ≠ w.heap.size + 1 + 1; omega)) (by show w.heap.size + 1 ≠ w.heap.size + 1 + 1; omega))
  replace c1_6 : w2.cell? ⟨w.heap.size + 1, 6, none⟩ = some (.slice none 0 0) := bcell hb2 (sc_blk (sc_blk (c1_6) (by show w.heap.size + 1 ≠ w.heap.size + 1 + 1; omega)) (by show w.heap.size + 1 ≠ w.heap.size + 1 + 1; omega))
  replace c1_7 : w2.cell? ⟨w.heap.size + 1, 7, none⟩ = some (.int .i64 0) := bcell hb2 (sc_blk (sc_blk (c1_7) (by show w.heap.size + 1 ≠ w.heap.size + 1 + 1; omega)) (by show w.heap.size + 1 ≠ w.heap.size + 1 + 1; omega))
  replace c1_8 : w2.cell? ⟨w.heap.size + 1, 8, none⟩ = some (.slice none 0 0) := bcell hb2 (sc_blk (sc_blk (c1_8) (by show w.heap.size + 1 ≠ w.heap.size + 1 + 1; omega)) (by show w.heap.size + 1 ≠ w.heap.size + 1 + 1; omega))
  replace hi1 := (((hi1.setCell (by first | (show w.heap.size + 1 + 1 < _; omega) | (show w.heap.size + 1 + 1 < _; simp; omega) | simp) _).setCell (by first | (show w.heap.size + 1 + 1 < _; omega) | (show w.heap.size + 1 + 1 < _; simp; omega) | simp) _).below hb2)
  have d2_w2 := World.block_lt_of_cell? _ _ c2_5
  have d0_w2 := World.block_lt_of_cell? _ _ c0_7
  have d1_w2 := World.block_lt_of_cell? _ _ c1_0
  go_wp2_with fail
  refine (H3.out _ (((hB.setCell (by show w.heap.size ≤ w.heap.size + 1 + 1; omega) _).setCell (by show w.heap.size ≤ w.heap.size + 1 + 1; omega) _).setCell (by show w.heap.size ≤ w.heap.size + 1 + 1; omega) _)).mono ?_
  rintro e w3 ⟨v3, rfl, hv3, hb3⟩
  obtain ⟨ar3, qr3, rfl⟩ := hv3.open_slice
  have hi3 := hv3.in
  replace hB := (bstep (((hB.setCell (by show w.heap.size ≤ w.heap.size + 1 + 1; omega) _).setCell (by show w.heap.size ≤ w.heap.size + 1 + 1; omega) _).setCell (by show w.heap.size ≤ w.heap.size + 1 + 1; omega) _) hb3)
  have zw3 := hB.size
  replace f2_8 : w3.frozen? ⟨w.heap.size + 1 + 1, 8, none⟩ = false := bfroc hb3 (sc_far (sc_far (sc_far (c2_8) (by simp)) (by simp)) (by simp)) (sfro (sfro (sfro (f2_8))))
  replace f1_0 : w3.frozen? ⟨w.heap.size + 1, 0, none⟩ = false := bfroc hb3 (sc_blk (sc_blk (sc_blk (c1_0) (by show w.heap.size + 1 ≠ w.heap.size + 1 + 1; omega)) (by show w.heap.size + 1 ≠ w.heap.size + 1 + 1; omega)) (by show w.heap.size + 1 ≠ w.heap.size + 1 + 1; omega)) (sfro (sfro (sfro (f1_0))))
  replace f1_1 : w3.frozen? ⟨w.heap.size + 1, 1, none⟩ = false := bfroc hb3 (sc_blk (sc_blk (sc_blk (c1_1) (by show w.heap.size + 1 ≠ w.heap.size + 1 + 1; omega)) (by show w.heap.size + 1 ≠ w.heap.size + 1 + 1; omega)) (by show w.heap.size + 1 ≠ w.heap.size + 1 + 1; omega)) (sfro (sfro (sfro (f1_1))))
  replace f1_2 : w3.frozen? ⟨w.heap.size + 1, 2, none⟩ = false := bfroc hb3 (sc_blk (sc_blk (sc_blk (c1_2) (by show w.heap.size + 1 ≠ w.heap.size + 1 + 1; omega)) (by show w.heap.size + 1 ≠ w.heap.size + 1 + 1; omega)) (by show w.heap.size + 1 ≠ w.heap.size + 1 + 1; omega)) (sfro (sfro (sfro (f1_2))))
  replace f1_3 : w3.frozen? ⟨w.heap.size + 1, 3, none⟩ = false := bfroc hb3 (sc_blk (sc_blk (sc_blk (c1_3) (by show w.heap.size + 1 ≠ w.heap.size + 1 + 1; omega)) (by show w.heap.size + 1 ≠ w.heap.size + 1 + 1; omega)) (by show w.heap.size + 1 ≠ w.heap.size + 1 + 1; omega)) (sfro (sfro (sfro (f1_3))))
  replace f1_4 : w3.frozen? ⟨w.heap.size + 1, 4, none⟩ = false := bfroc hb3 (sc_blk (sc_blk (sc_blk (c1_4) (by show w.heap.size + 1 ≠ w.heap.size + 1 + 1; omega)) (by show w.heap.size + 1 ≠ w.heap.size + 1 + 1; omega)) (by show w.heap.size + 1 ≠ w.heap.size + 1 + 1; omega)) (sfro (sfro (sfro (f1_4))))
  replace f1_5 : w3.frozen? ⟨w.heap.size + 1, 5, none⟩ = false := bfroc hb3 (sc_blk (sc_blk (sc_blk (c1_5) (by show w.heap.size + 1 ≠ w.heap.size + 1 + 1; omega)) (by show w.heap.size + 1 ≠ w.heap.size + 1 + 1; omega)) (by show w.heap.size + 1 ≠ w.heap.size + 1 + 1; omega)) (sfro (sfro (sfro (f1_5))))
  replace f1_6 : w3.frozen? ⟨w.heap.size + 1, 6, none⟩ = false := bfroc hb3 (sc_blk (sc_blk (sc_blk (c1_6) (by show w.heap.size + 1 ≠ w.heap.size + 1 + 1; omega)) (by show w.heap.size + 1 ≠ w.heap.size + 1 + 1; omega)) (by show w.heap.size + 1 ≠ w.heap.size + 1 + 1; omega)) (sfro (sfro (sfro (f1_6))))
  replace f1_7 : w3.frozen? ⟨w.heap.size + 1, 7, none⟩ = false := bfroc hb3 (sc_blk (sc_blk (sc_blk (c1_7) (by show w.heap.size + 1 ≠ w.heap.size + 1 + 1; omega)) (by show w.heap.size + 1 ≠ w.heap.size + 1 + 1; omega)) (by show w.heap.size + 1 ≠ w.heap.size + 1 + 1; omega)) (sfro (sfro (sfro (f1_7))))
  replace f1_8 : w3.frozen? ⟨w.heap.size + 1, 8, none⟩ = false := bfroc hb3 (sc_blk (sc_blk (sc_blk (c1_8) (by show w.heap.size + 1 ≠ w.heap.size + 1 + 1; omega)) (by show w.heap.size + 1 ≠ w.heap.size + 1 + 1; omega)) (by show w.heap.size + 1 ≠ w.heap.size + 1 + 1; omega)) (sfro (sfro (sfro (f1_8))))
  replace c2_8 : w3.cell? ⟨w.heap.size + 1 + 1, 8, none⟩ = some (.slice none 0 0) := bcell hb3 (sc_far (sc_far (sc_far (c2_8) (by simp)) (by simp)) (by simp))
  replace c2_0 : w3.cell? ⟨w.heap.size + 1 + 1, 0, none⟩ = some (.int .i64 k) := bcell hb3 (sc_far (sc_far (sc_far (c2_0) (by simp)) (by simp)) (by simp))
  replace c2_1 : w3.cell? ⟨w.heap.size + 1 + 1, 1, none⟩ = some (.string nm) := bcell hb3 (sc_far (sc_far (sc_far (c2_1) (by simp)) (by simp)) (by simp))
  replace c2_2 : w3.cell? ⟨w.heap.size + 1 + 1, 2, none⟩ = some (.int .i64 u) := bcell hb3 (sc_far (sc_far (sc_far (c2_2) (by simp)) (by simp)) (by simp))
  replace c2_3 : w3.cell? ⟨w.heap.size + 1 + 1, 3, none⟩ = some (.int .i64 kr1) := bcell hb3 (sc_far (sc_far (sc_far (c2_3) (by simp)) (by simp)) (by simp))
  replace c2_4 : w3.cell? ⟨w.heap.size + 1 + 1, 4, none⟩ = some (.slice ar1 nr1 qr1) := bcell hb3 (sc_far (sc_far (sc_far (c2_4) (by simp)) (by simp)) (by simp))
  replace c2_5 : w3.cell? ⟨w.heap.size + 1 + 1, 5, none⟩ = some (.int .i64 kr2) := bcell hb3 (sc_far (sc_far (sc_self (c2_5)) (by simp)) (by simp))
  replace c2_6 : w3.cell? ⟨w.heap.size + 1 + 1, 6, none⟩ = some (.slice ar2 nr2 qr2) := bcell hb3 (sc_far (sc_self (sc_far (c2_6) (by simp))) (by simp))
  replace c2_7 : w3.cell? ⟨w.heap.size + 1 + 1, 7, none⟩ = some (.int .i64 l) := bcell hb3 (sc_self (sc_far (sc_far (c2_7) (by simp)) (by simp)))
  replace c1_0 : w3.cell? ⟨w.heap.size + 1, 0, none⟩ = some (.int .i64 0) := bcell hb3 (sc_blk (sc_blk (sc_blk (c1_0) (by show w.heap.size + 1 ≠ w.heap.size + 1 + 1; omega)) (by show w.heap.size + 1 ≠ w.heap.size + 1 + 1; omega)) (by show w.heap.size + 1 ≠ w.heap.size + 1 + 1; omega))
  replace c1_1 : w3.cell? ⟨w.heap.size + 1, 1, none⟩ = some (.string ByteArray.empty) := bcell hb3 (sc_blk (sc_blk (sc_blk (c1_1) (by show w.heap.size + 1 ≠ w.heap.size + 1 + 1; omega)) (by show w.heap.size + 1 ≠ w.heap.size + 1 + 1; omega)) (by show w.heap.size + 1 ≠ w.heap.size + 1 + 1; omega))
  replace c1_2 : w3.cell? ⟨w.heap.size + 1, 2, none⟩ = some (.int .i64 0) := bcell hb3 (sc_blk (sc_blk (sc_blk (c1_2) (by show w.heap.size + 1 ≠ w.heap.size + 1 + 1; omega)) (by show w.heap.size + 1 ≠ w.heap.size + 1 + 1; omega)) (by show w.heap.size + 1 ≠ w.heap.size + 1 + 1; omega))
  replace c1_3 : w3.cell? ⟨w.heap.size + 1, 3, none⟩ = some (.int .i64 0) := bcell hb3 (sc_blk (sc_blk (sc_blk (c1_3) (by show w.heap.size + 1 ≠ w.heap.size + 1 + 1; omega)) (by show w.heap.size + 1 ≠ w.heap.size + 1 + 1; omega)) (by show w.heap.size + 1 ≠ w.heap.size + 1 + 1; omega))
  replace c1_4 : w3.cell? ⟨w.heap.size + 1, 4, none⟩ = some (.slice none 0 0) := bcell hb3 (sc_blk (sc_blk (sc_blk (c1_4) (by show w.heap.size + 1 ≠ w.heap.size + 1 + 1; omega)) (by show w.heap.size + 1 ≠ w.heap.size + 1 + 1; omega)) (by show w.heap.size + 1 ≠ w.heap.size + 1 + 1; omega))
  replace c1_5 : w3.cell? ⟨w.heap.size + 1, 5, none⟩ = some (.int .i64 0) := bcell hb3 (sc_blk (sc_blk (sc_blk (c1_5) (by show w.heap.size + 1 ≠ w.heap.size + 1 + 1; omega)) (by show w.heap.size + 1 ≠ w.heap.size + 1 + 1; omega)) (by show w.heap.size + 1 ≠ w.heap.size + 1 + 1; omega))
  replace c1_6 : w3.cell? ⟨w.heap.size + 1, 6, none⟩ = some (.slice none 0 0) := bcell hb3 (sc_blk (sc_blk (sc_blk (c1_6) (by show w.heap.size + 1 ≠ w.heap.size + 1 + 1; omega)) (by show w.heap.size + 1 ≠ w.heap.size + 1 + 1; omega)) (by show w.heap.size + 1 ≠ w.heap.size + 1 + 1; omega))
  replace c1_7 : w3.cell? ⟨w.heap.size + 1, 7, none⟩ = some (.int .i64 0) := bcell hb3 (sc_blk (sc_blk (sc_blk (c1_7) (by show w.heap.size + 1 ≠ w.heap.size + 1 + 1; omega)) (by show w.heap.size + 1 ≠ w.heap.size + 1 + 1; omega)) (by show w.heap.size + 1 ≠ w.heap.size + 1 + 1; omega))
  replace c1_8 : w3.cell? ⟨w.heap.size + 1, 8, none⟩ = some (.slice none 0 0) := bcell hb3 (sc_blk (sc_blk (sc_blk (c1_8) (by show w.heap.size + 1 ≠ w.heap.size + 1 + 1; omega)) (by show w.heap.size + 1 ≠ w.heap.size + 1 + 1; omega)) (by show w.heap.size + 1 ≠ w.heap.size + 1 + 1; omega))
  replace hi1 := ((((hi1.setCell (by first | (show w.heap.size + 1 + 1 < _; omega) | (show w.heap.size + 1 + 1 < _; simp; omega) | simp) _).setCell (by first | (show w.heap.size + 1 + 1 < _; omega) | (show w.heap.size + 1 + 1 < _; simp; omega) | simp) _).setCell (by first | (show w.heap.size + 1 + 1 < _; omega) | (show w.heap.size + 1 + 1 < _; simp; omega) | simp) _).below hb3)
  replace hi2 := ((((hi2.setCell (by first | (show w.heap.size + 1 + 1 < _; omega) | (show w.heap.size + 1 + 1 < _; simp; omega) | simp) _).setCell (by first | (show w.heap.size + 1 + 1 < _; omega) | (show w.heap.size + 1 + 1 < _; simp; omega) | simp) _).setCell (by first | (show w.heap.size + 1 + 1 < _; omega) | (show w.heap.size + 1 + 1 < _; simp; omega) | simp) _).below hb3)
  have d2_w3 := World.block_lt_of_cell? _ _ c2_8
  have d1_w3 := World.block_lt_of_cell? _ _ c1_0
  go_wp2_with fail
  refine bodyPost_ret (v := .agg #[.int .i64 k, .string nm, .int .i64 u, .int .i64 kr1, .slice ar1 nr1 qr1, .int .i64 kr2, .slice ar2 nr2 qr2, .int .i64 l, .slice ar3 ts.length qr3]) (by simp [results, Try.results6, go_sem, c1_0, c1_1, c1_2, c1_3, c1_4, c1_5, c1_6, c1_7, c1_8]) rfl ?_
  exact ⟨_, rfl, TmNew.mk3 ((((((((((hi1.setCell (by first | (show w.heap.size + 1 + 1 < _; omega) | (show w.heap.size + 1 + 1 < _; simp; omega) | simp) _).setCell (by first | (show w.heap.size + 1 < _; omega) | (show w.heap.size + 1 < _; simp; omega) | simp) _).setCell (by first | (show w.heap.size + 1 < _; omega) | (show w.heap.size + 1 < _; simp; omega) | simp) _).setCell (by first | (show w.heap.size + 1 < _; omega) | (show w.heap.size + 1 < _; simp; omega) | simp) _).setCell (by first | (show w.heap.size + 1 < _; omega) | (show w.heap.size + 1 < _; simp; omega) | simp) _).setCell (by first | (show w.heap.size + 1 < _; omega) | (show w.heap.size + 1 < _; simp; omega) | simp) _).setCell (by first | (show w.heap.size + 1 < _; omega) | (show w.heap.size + 1 < _; simp; omega) | simp) _).setCell (by first | (show w.heap.size + 1 < _; omega) | (show w.heap.size + 1 < _; simp; omega) | simp) _).setCell (by first | (show w.heap.size + 1 < _; omega) | (show w.heap.size + 1 < _; simp; omega) | simp) _).setCell (by first | (show w.heap.size + 1 < _; omega) | (show w.heap.size + 1 < _; simp; omega) | simp) _) ((((((((((hi2.setCell (by first | (show w.heap.size + 1 + 1 < _; omega) | (show w.heap.size + 1 + 1 < _; simp; omega) | simp) _).setCell (by first | (show w.heap.size + 1 < _; omega) | (show w.heap.size + 1 < _; simp; omega) | simp) _).setCell (by first | (show w.heap.size + 1 < _; omega) | (show w.heap.size + 1 < _; simp; omega) | simp) _).setCell (by first | (show w.heap.size + 1 < _; omega) | (show w.heap.size + 1 < _; simp; omega) | simp) _).setCell (by first | (show w.heap.size + 1 < _; omega) | (show w.heap.size + 1 < _; simp; omega) | simp) _).setCell (by first | (show w.heap.size + 1 < _; omega) | (show w.heap.size + 1 < _; simp; omega) | simp) _).setCell (by first | (show w.heap.size + 1 < _; omega) | (show w.heap.size + 1 < _; simp; omega) | simp) _).setCell (by first | (show w.heap.size + 1 < _; omega) | (show w.heap.size + 1 < _; simp; omega) | simp) _).setCell (by first | (show w.heap.size + 1 < _; omega) | (show w.heap.size + 1 < _; simp; omega) | simp) _).setCell (by first | (show w.heap.size + 1 < _; omega) | (show w.heap.size + 1 < _; simp; omega) | simp) _) ((((((((((hi3.setCell (by first | (show w.heap.size + 1 + 1 < _; omega) | (show w.heap.size + 1 + 1 < _; simp; omega) | simp) _).setCell (by first | (show w.heap.size + 1 < _; omega) | (show w.heap.size + 1 < _; simp; omega) | simp) _).setCell (by first | (show w.heap.size + 1 < _; omega) | (show w.heap.size + 1 < _; simp; omega) | simp) _).setCell (by first | (show w.heap.size + 1 < _; omega) | (show w.heap.size + 1 < _; simp; omega) | simp) _).setCell (by first | (show w.heap.size + 1 < _; omega) | (show w.heap.size + 1 < _; simp; omega) | simp) _).setCell (by first | (show w.heap.size + 1 < _; omega) | (show w.heap.size + 1 < _; simp; omega) | simp) _).setCell (by first | (show w.heap.size + 1 < _; omega) | (show w.heap.size + 1 < _; simp; omega) | simp) _).setCell (by first | (show w.heap.size + 1 < _; omega) | (show w.heap.size + 1 < _; simp; omega) | simp) _).setCell (by first | (show w.heap.size + 1 < _; omega) | (show w.heap.size + 1 < _; simp; omega) | simp) _).setCell (by first | (show w.heap.size + 1 < _; omega) | (show w.heap.size + 1 < _; simp; omega) | simp) _) (by have h2 := hb2.size; have h3 := hb3.size; simp at h2 h3; simp; omega) (by have h2 := hb2.size; have h3 := hb3.size; simp at h2 h3; simp; omega) (by first | exact Nat.le_refl _ | omega | (simp; done) | (simp; omega)) rn, ((((((((((hB.setCell (by show w.heap.size ≤ w.heap.size + 1 + 1; omega) _).setCell (by show w.heap.size ≤ w.heap.size + 1; omega) _).setCell (by show w.heap.size ≤ w.heap.size + 1; omega) _).setCell (by show w.heap.size ≤ w.heap.size + 1; omega) _).setCell (by show w.heap.size ≤ w.heap.size + 1; omega) _).setCell (by show w.heap.size ≤ w.heap.size + 1; omega) _).setCell (by show w.heap.size ≤ w.heap.size + 1; omega) _).setCell (by show w.heap.size ≤ w.heap.size + 1; omega) _).setCell (by show w.heap.size ≤ w.heap.size + 1; omega) _).setCell (by show w.heap.size ≤ w.heap.size + 1; omega) _)⟩
termination_by SizeOf.sizeOf t
decreasing_by exact Tm.kid_lt ht
theorem leaf_szTerm_0 (l0 : Int) (nm : ByteArray) (t f : Ty) (ts : List Tm) (h0 : (decide ((l0 - nm.size) < 0)) = true) : (-1 : Int) = (szr l0 (nm.size + t.cnt + f.cnt + (ts.length + Tm.cnts ts))) := by
  first | grind [szr] | (unfold szr at *; simp at *; omega)

theorem leaf_szTerm_1 (l0 : Int) (nm : ByteArray) (t f : Ty) (ts : List Tm) (h0 : (decide ((l0 - nm.size) < 0)) = false) (h1 : (decide ((szr (l0 - nm.size) t.cnt) < 0)) = true) : (-1 : Int) = (szr l0 (nm.size + t.cnt + f.cnt + (ts.length + Tm.cnts ts))) := by
  first | grind [szr] | (unfold szr at *; simp at *; omega)

theorem leaf_szTerm_2 (l0 : Int) (nm : ByteArray) (t f : Ty) (ts : List Tm) (h0 : (decide ((l0 - nm.size) < 0)) = false) (h1 : (decide ((szr (l0 - nm.size) t.cnt) < 0)) = false) (h2 : (decide ((szr (szr (l0 - nm.size) t.cnt) f.cnt) < 0)) = true) : (-1 : Int) = (szr l0 (nm.size + t.cnt + f.cnt + (ts.length + Tm.cnts ts))) := by
  first | grind [szr] | (unfold szr at *; simp at *; omega)

theorem leaf_szTerm_3 (l0 : Int) (nm : ByteArray) (t f : Ty) (ts : List Tm) (h0 : (decide ((l0 - nm.size) < 0)) = false) (h1 : (decide ((szr (l0 - nm.size) t.cnt) < 0)) = false) (h2 : (decide ((szr (szr (l0 - nm.size) t.cnt) f.cnt) < 0)) = false) (h3 : (decide ((szr (szr (szr (l0 - nm.size) t.cnt) f.cnt) (ts.length + Tm.cnts ts)) < 0)) = true) : (-1 : Int) = (szr l0 (nm.size + t.cnt + f.cnt + (ts.length + Tm.cnts ts))) := by
  first | grind [szr] | (unfold szr at *; simp at *; omega)

theorem leaf_szTerm_4 (l0 : Int) (nm : ByteArray) (t f : Ty) (ts : List Tm) (h0 : (decide ((l0 - nm.size) < 0)) = false) (h1 : (decide ((szr (l0 - nm.size) t.cnt) < 0)) = false) (h2 : (decide ((szr (szr (l0 - nm.size) t.cnt) f.cnt) < 0)) = false) (h3 : (decide ((szr (szr (szr (l0 - nm.size) t.cnt) f.cnt) (ts.length + Tm.cnts ts)) < 0)) = false) : (szr (szr (szr (l0 - nm.size) t.cnt) f.cnt) (ts.length + Tm.cnts ts) : Int) = (szr l0 (nm.size + t.cnt + f.cnt + (ts.length + Tm.cnts ts))) := by
  first | grind [szr] | (unfold szr at *; simp at *; omega)

theorem leaf_eqTerm_5 (k u l k' u' l' : Int) (nm nm' : ByteArray) (r1 r2 r3 : Bool) (h0 : (k == k') = true) (h1 : (nm.toList == nm'.toList) = true) (h2 : (u == u') = true) (h3 : (r1) = true) (h4 : (r2) = true) (h5 : (l == l') = true) (h6 : (r3) = true) : (true : Bool) = (k == k' && nm.toList == nm'.toList && u == u' && r1 && r2 && l == l' && r3) := by
  simp_all

theorem leaf_eqTerm_6 (k u l k' u' l' : Int) (nm nm' : ByteArray) (r1 r2 r3 : Bool) (h0 : (k == k') = true) (h1 : (nm.toList == nm'.toList) = true) (h2 : (u == u') = true) (h3 : (r1) = true) (h4 : (r2) = true) (h5 : (l == l') = true) (h6 : (r3) = false) : (false : Bool) = (k == k' && nm.toList == nm'.toList && u == u' && r1 && r2 && l == l' && r3) := by
  simp_all

theorem leaf_eqTerm_7 (k u l k' u' l' : Int) (nm nm' : ByteArray) (r1 r2 r3 : Bool) (h0 : (k == k') = true) (h1 : (nm.toList == nm'.toList) = true) (h2 : (u == u') = true) (h3 : (r1) = true) (h4 : (r2) = true) (h5 : (l == l') = false) : (false : Bool) = (k == k' && nm.toList == nm'.toList && u == u' && r1 && r2 && l == l' && r3) := by
  simp_all

theorem leaf_eqTerm_8 (k u l k' u' l' : Int) (nm nm' : ByteArray) (r1 r2 r3 : Bool) (h0 : (k == k') = true) (h1 : (nm.toList == nm'.toList) = true) (h2 : (u == u') = true) (h3 : (r1) = true) (h4 : (r2) = false) : (false : Bool) = (k == k' && nm.toList == nm'.toList && u == u' && r1 && r2 && l == l' && r3) := by
  simp_all

theorem leaf_eqTerm_9 (k u l k' u' l' : Int) (nm nm' : ByteArray) (r1 r2 r3 : Bool) (h0 : (k == k') = true) (h1 : (nm.toList == nm'.toList) = true) (h2 : (u == u') = true) (h3 : (r1) = false) : (false : Bool) = (k == k' && nm.toList == nm'.toList && u == u' && r1 && r2 && l == l' && r3) := by
  simp_all

theorem leaf_eqTerm_10 (k u l k' u' l' : Int) (nm nm' : ByteArray) (r1 r2 r3 : Bool) (h0 : (k == k') = true) (h1 : (nm.toList == nm'.toList) = true) (h2 : (u == u') = false) : (false : Bool) = (k == k' && nm.toList == nm'.toList && u == u' && r1 && r2 && l == l' && r3) := by
  simp_all

theorem leaf_eqTerm_11 (k u l k' u' l' : Int) (nm nm' : ByteArray) (r1 r2 r3 : Bool) (h0 : (k == k') = true) (h1 : (nm.toList == nm'.toList) = false) : (false : Bool) = (k == k' && nm.toList == nm'.toList && u == u' && r1 && r2 && l == l' && r3) := by
  simp_all

theorem leaf_eqTerm_12 (k u l k' u' l' : Int) (nm nm' : ByteArray) (r1 r2 r3 : Bool) (h0 : (k == k') = false) : (false : Bool) = (k == k' && nm.toList == nm'.toList && u == u' && r1 && r2 && l == l' && r3) := by
  simp_all

set_option maxHeartbeats 400000 in
theorem szTermS_of (F : Nat → Prop) (ts : List Tm) (ys : Value) (l : Int) (w : World) (hy : TmsRep F w ts ys) (h0 : 0 ≤ l) (h1 : l ≤ 1048576)
    (IH : ∀ t ∈ ts, ∀ (y : Value) (l : Int) (W : World), TmRep F W t y → 0 ≤ l → l ≤ 1048576 → Calls Try.prog 4 #[y, .int .i64 l] W fun e W' => e = .returned (.int .i64 (szr l t.cnt)) ∧ Below W.heap.size W W') :
    Calls Try.prog 14 #[ys, .int .i64 l] w fun e w' => e = .returned (.int .i64 (szr l (ts.length + Tm.cnts ts))) ∧ Below w.heap.size w w' := by
  obtain ⟨a, cap, rfl, h2, h3, _⟩ := hy.open
  have IHH := Lib.hid IH
  clear IH
  unfold maxLen at h3
  obtain ⟨n, hnn⟩ : ∃ n, ts.length = n := ⟨_, rfl⟩
  rw [hnn] at h2 hy ⊢
  have HN := Lib.hid hnn
  clear hnn
  by_cases hl : l - n < 0
  · go_enter Try.func14, Try.ntmps14
    go_wp2_with fail
    go_ret
    exact ⟨ret_int (by unfold szr; rw [if_neg (by omega)]), Below.refl _ _⟩
  · have hl' : 0 ≤ l - n := by omega
    go_enter Try.func14, Try.ntmps14
    go_wp2_with fail
    go_loopw [5, 1] (fun i p wr => ∃ j : Nat, j ≤ n ∧ i = .int .i64 j ∧ (∃ m : Int, p = .int .i64 m ∧ 0 ≤ m ∧ m ≤ 1048576 ∧ Hid (m = l - n - Tm.cnts (ts.take j))) ∧ Below w.heap.size w wr) (fun i _ _ => n - (intOf i).toNat)
    case atStart => exact ⟨0, by omega, rfl, ⟨_, rfl, by omega, by omega, by simp [Hid, Tm.cnts]⟩, Below.refl _ _⟩
    case round =>
      obtain ⟨j, hj, rfl, ⟨m, rfl, hm0, hm1, hm⟩, hbw⟩ := hrel
      by_cases hlt : j < n
      · have hjt : j < ts.length := by rw [HN.out]; exact hlt
        obtain ⟨b, off, k0, nm0, u0, tk0, ta0, tn0, tq0, fk0, fa0, fn0, fq0, l0, a0, m0, q0, rfl, lb, e0, e1, e2, e3, e4, e5, e6, e7, e8, ht⟩ := hy.at hbw hjt
        have hts := Tm.cnts_take_succ ts j hjt
        have htl := Tm.cnts_take_le ts (j + 1)
        have HC := Lib.hid (IHH.out _ (List.getElem_mem hjt) _ m _ ht hm0 hm1)
        generalize ts[j].cnt = c at hts HC
        by_cases hc : (c : Int) ≤ m
        · have hr : szr m c = m - c := by unfold szr; rw [if_pos hc]
          rw [hr] at HC
          have HT := Lib.hid hts
          clear hr hts htl
          have hlo : 0 ≤ m - (c : Int) := by omega
          go_wp2_with fail
          refine HC.out.mono ?_
          rintro e w1 ⟨rfl, hb1⟩
          go_wp2_with fail
          go_roundw
          case rel => exact ⟨j + 1, by omega, by go_num, ⟨_, rfl, by omega, by omega, by have := hm.out; have := HT.out; unfold Hid; omega⟩, bstep hbw hb1⟩
          case measure => simp [intOf]; omega
        · have hr : szr m c = -1 := by unfold szr; rw [if_neg hc]
          rw [hr] at HC
          have HT := Lib.hid hts
          clear hr hts
          go_wp2_with fail
          refine HC.out.mono ?_
          rintro e w1 ⟨rfl, hb1⟩
          go_wp2_with fail
          go_ret
          exact ⟨ret_int (by unfold szr; have := hm.out; have := HT.out; rw [if_neg (by omega)]), bstep hbw hb1⟩
      · go_wp2_with fail
        go_ret
        exact ⟨ret_int (by have := hm.out; rw [List.take_of_length_le (by rw [HN.out]; omega)] at this; unfold szr; rw [if_pos (by omega)]; omega), hbw⟩

set_option maxHeartbeats 2000000 in
theorem szTerm_any (F : Nat → Prop) (t : Tm) : ∀ (y : Value) (l : Int) (w : World), TmRep F w t y → 0 ≤ l → l ≤ 1048576 →
    Calls Try.prog 4 #[y, .int .i64 l] w fun e w' => e = .returned (.int .i64 (szr l t.cnt)) ∧ Below w.heap.size w w' := by
  intro y l0 w hy h0 h1
  have IH : ∀ t' ∈ t.kids, ∀ (y : Value) (l : Int) (W : World), TmRep F W t' y → 0 ≤ l → l ≤ 1048576 → Calls Try.prog 4 #[y, .int .i64 l] W fun e W' => e = .returned (.int .i64 (szr l t'.cnt)) ∧ Below W.heap.size W W' :=
    fun t' ht y l W a b c => szTerm_any F t' y l W a b c
  obtain ⟨k, nm, u, tk, ta, tn, tq, fk, fa, fn, fq, l, c, m, q, rfl⟩ := hy.shape
  obtain ⟨r1, r2, r3, r4, r5, r6, r7, r8, r9, rn, rm, rq, hty, hsr, hks⟩ := hy.parts
  cases t with | mk kk nn uu t f ll ts =>
  simp only [Tm.kind, Tm.name, Tm.num, Tm.type, Tm.src, Tm.label, Tm.kids] at *
  subst r1 r2 r3 r8
  have h3 := fun W l (h : Below w.heap.size w W) a b => szTermS_of F ts _ l W (hks.below h) a b IH
  have H3 := Lib.hid h3
  unfold maxLen at rn
  unfold Tm.cnt
  clear h3 IH hks hy r4 r5 r6 r7 r9
  obtain ⟨rr, hrr⟩ : ∃ r : Int, (szr l0 (nm.size + t.cnt + f.cnt + (ts.length + Tm.cnts ts))) = r := ⟨_, rfl⟩
  rw [hrr]
  have HT := Lib.hid hrr
  clear hrr
  go_enter Try.func4, Try.ntmps4
  have hwr := IntWalk.i64_in (l0 - nm.size) (by omega)
  rcases Bool.eq_false_or_eq_true (decide ((l0 - nm.size) < 0)) with q1 | q1
  · (try rw [q1])
    go_wp2_with fail
    refine bodyPost_ret (v := .int .i64 (-1)) (by simp [results, Try.results4, go_sem, bne]) rfl ?_
    exact ⟨ret_int ((leaf_szTerm_0 l0 nm t f ts q1).trans HT.out), bal1⟩
  · (try rw [q1])
    go_wp2_with fail
    refine (szType_any F t _ _ _ (hty.below bal1) (by have h0 := q1; simp only [decide_eq_false_iff_not, decide_eq_true_eq] at h0; omega) (by have h0 := q1; simp only [decide_eq_false_iff_not, decide_eq_true_eq] at h0; omega)).mono ?_
    rintro e w1 ⟨rfl, hb1⟩
    have hle1 := szr_le (l := l0 - nm.size) (c := t.cnt) (by have h0 := q1; simp only [decide_eq_false_iff_not, decide_eq_true_eq] at h0; omega)
    have hB := (bstep bal1 hb1)
    have zw1 := hB.size
    have c0_5 : w1.cell? ⟨w.heap.size, 5, none⟩ = some (.int .i64 fk) := bcell hb1 (cell_new (by simp) 5)
    have c0_6 : w1.cell? ⟨w.heap.size, 6, none⟩ = some (.slice fa fn fq) := bcell hb1 (cell_new (by simp) 6)
    have c0_8 : w1.cell? ⟨w.heap.size, 8, none⟩ = some (.slice c m q) := bcell hb1 (cell_new (by simp) 8)
    have d0_w1 := World.block_lt_of_cell? _ _ c0_5
    rcases Bool.eq_false_or_eq_true (decide ((szr (l0 - nm.size) t.cnt) < 0)) with q2 | q2
    · (try rw [q2])
      go_wp2_with fail
      refine bodyPost_ret (v := .int .i64 (-1)) (by simp [results, Try.results4, go_sem, bne]) rfl ?_
      exact ⟨ret_int ((leaf_szTerm_1 l0 nm t f ts q1 q2).trans HT.out), hB⟩
    · (try rw [q2])
      go_wp2_with fail
      refine (szType_any F f _ _ _ (hsr.below hB) (by have h0 := q1; simp only [decide_eq_false_iff_not, decide_eq_true_eq] at h0; have h1 := q2; simp only [decide_eq_false_iff_not, decide_eq_true_eq] at h1; omega) (by have h0 := q1; simp only [decide_eq_false_iff_not, decide_eq_true_eq] at h0; have h1 := q2; simp only [decide_eq_false_iff_not, decide_eq_true_eq] at h1; omega)).mono ?_
      rintro e w2 ⟨rfl, hb2⟩
      have hle2 := szr_le (l := szr (l0 - nm.size) t.cnt) (c := f.cnt) (by have h0 := q1; simp only [decide_eq_false_iff_not, decide_eq_true_eq] at h0; have h1 := q2; simp only [decide_eq_false_iff_not, decide_eq_true_eq] at h1; omega)
      replace hB := (bstep hB hb2)
      have zw2 := hB.size
      replace c0_8 : w2.cell? ⟨w.heap.size, 8, none⟩ = some (.slice c m q) := bcell hb2 (c0_8)
      have d0_w2 := World.block_lt_of_cell? _ _ c0_8
      rcases Bool.eq_false_or_eq_true (decide ((szr (szr (l0 - nm.size) t.cnt) f.cnt) < 0)) with q3 | q3
      · (try rw [q3])
        go_wp2_with fail
        refine bodyPost_ret (v := .int .i64 (-1)) (by simp [results, Try.results4, go_sem, bne]) rfl ?_
        exact ⟨ret_int ((leaf_szTerm_2 l0 nm t f ts q1 q2 q3).trans HT.out), hB⟩
      · (try rw [q3])
        go_wp2_with fail
        refine (H3.out _ _ hB (by have h0 := q1; simp only [decide_eq_false_iff_not, decide_eq_true_eq] at h0; have h1 := q2; simp only [decide_eq_false_iff_not, decide_eq_true_eq] at h1; have h2 := q3; simp only [decide_eq_false_iff_not, decide_eq_true_eq] at h2; omega) (by have h0 := q1; simp only [decide_eq_false_iff_not, decide_eq_true_eq] at h0; have h1 := q2; simp only [decide_eq_false_iff_not, decide_eq_true_eq] at h1; have h2 := q3; simp only [decide_eq_false_iff_not, decide_eq_true_eq] at h2; omega)).mono ?_
        rintro e w3 ⟨rfl, hb3⟩
        replace hB := (bstep hB hb3)
        have zw3 := hB.size
        rcases Bool.eq_false_or_eq_true (decide ((szr (szr (szr (l0 - nm.size) t.cnt) f.cnt) (ts.length + Tm.cnts ts)) < 0)) with q4 | q4
        · (try rw [q4])
          go_wp2_with fail
          refine bodyPost_ret (v := .int .i64 (-1)) (by simp [results, Try.results4, go_sem, bne]) rfl ?_
          exact ⟨ret_int ((leaf_szTerm_3 l0 nm t f ts q1 q2 q3 q4).trans HT.out), hB⟩
        · (try rw [q4])
          go_wp2_with fail
          refine bodyPost_ret (v := .int .i64 (szr (szr (szr (l0 - nm.size) t.cnt) f.cnt) (ts.length + Tm.cnts ts))) (by simp [results, Try.results4, go_sem, bne]) rfl ?_
          exact ⟨ret_int ((leaf_szTerm_4 l0 nm t f ts q1 q2 q3 q4).trans HT.out), hB⟩
termination_by SizeOf.sizeOf t
decreasing_by exact Tm.kid_lt ht
set_option maxHeartbeats 1000000 in
theorem eqTermS_of (F G : Nat → Prop) (ts us : List Tm) (ys zs : Value) (w : World) (hy : TmsRep F w ts ys) (hz : TmsRep G w us zs)
    (hg : ∀ t ∈ ts, ∀ u ∈ us, ∀ (W : World) (y z : Value), TmRep F W t y → TmRep G W u z → Calls Try.prog 9 #[y, z] W fun e W' => e = .returned (.bool (t.same u)) ∧ Below W.heap.size W W') :
    Calls Try.prog 24 #[ys, zs] w fun e w' => e = .returned (.bool (Tm.sames ts us)) ∧ Below w.heap.size w w' := by
  have HG := Lib.hid hg
  clear hg
  obtain ⟨a, cap, rfl, h2, h3, -⟩ := hy.open
  obtain ⟨c, cap', rfl, g2, g3, -⟩ := hz.open
  unfold maxLen at h3 g3
  rw [← Tm.sames_all2]
  by_cases hl : ts.length = us.length
  · obtain ⟨n, hn⟩ : ∃ n, ts.length = n := ⟨_, rfl⟩
    rw [hn] at hl h2 hy
    rw [← hl] at g2 hz
    have HN := Lib.hid hn
    have HL := Lib.hid hl
    rw [hn, ← hl]
    clear hn hl
    go_enter Try.func24, Try.ntmps24
    go_wp2_with fail
    go_loopw [5] (fun i wr => ∃ j : Nat, j ≤ n ∧ i = .int .i64 j ∧ Below w.heap.size w wr ∧ Hid (tall2 Tm.same ts us = tall2 Tm.same (ts.drop j) (us.drop j))) (fun i _ => n - (intOf i).toNat)
    case atStart => exact ⟨0, by omega, rfl, Below.refl _ _, rfl⟩
    case round =>
      obtain ⟨j, hj, rfl, hbw, hR⟩ := hrel
      by_cases hlt : j < n
      · have hkt : j < ts.length := by rw [HN.out]; exact hlt
        have hku : j < us.length := by rw [← HL.out]; exact hlt
        obtain ⟨b, off, k0, nm0, u0, tk0, ta0, tn0, tq0, fk0, fa0, fn0, fq0, l0, a0, m0, q0, rfl, lb, e0, e1, e2, e3, e4, e5, e6, e7, e8, ht⟩ := hy.at hbw hkt
        obtain ⟨b', off', k0', nm0', u0', tk0', ta0', tn0', tq0', fk0', fa0', fn0', fq0', l0', a0', m0', q0', rfl, lb', e0', e1', e2', e3', e4', e5', e6', e7', e8', hu⟩ := hz.at hbw hku
        have hcall := HG.out ts[j] (List.getElem_mem hkt) us[j] (List.getElem_mem hku)
        have hstep := hR.out.trans (tall2_drop Tm.same ts us j hkt hku)
        generalize ts[j].same us[j] = r at hcall hstep
        have HC := Lib.hid hcall
        have HS := Lib.hid hstep
        clear hcall hstep hR
        cases r
        all_goals
          go_wp2_with fail
          go_region_held3 (fun w' => w'.cell? ⟨b, off + j * 9, none⟩ = some (.int .i64 k0) ∧ w'.cell? ⟨b, off + j * 9 + 1, none⟩ = some (.string nm0) ∧ w'.cell? ⟨b, off + j * 9 + 2, none⟩ = some (.int .i64 u0) ∧ w'.cell? ⟨b, off + j * 9 + 3, none⟩ = some (.int .i64 tk0) ∧ w'.cell? ⟨b, off + j * 9 + 4, none⟩ = some (.slice ta0 tn0 tq0) ∧ w'.cell? ⟨b, off + j * 9 + 5, none⟩ = some (.int .i64 fk0) ∧ w'.cell? ⟨b, off + j * 9 + 6, none⟩ = some (.slice fa0 fn0 fq0) ∧ w'.cell? ⟨b, off + j * 9 + 7, none⟩ = some (.int .i64 l0) ∧ w'.cell? ⟨b, off + j * 9 + 8, none⟩ = some (.slice a0 m0 q0) ∧ w'.cell? ⟨b', off' + j * 9, none⟩ = some (.int .i64 k0') ∧ w'.cell? ⟨b', off' + j * 9 + 1, none⟩ = some (.string nm0') ∧ w'.cell? ⟨b', off' + j * 9 + 2, none⟩ = some (.int .i64 u0') ∧ w'.cell? ⟨b', off' + j * 9 + 3, none⟩ = some (.int .i64 tk0') ∧ w'.cell? ⟨b', off' + j * 9 + 4, none⟩ = some (.slice ta0' tn0' tq0') ∧ w'.cell? ⟨b', off' + j * 9 + 5, none⟩ = some (.int .i64 fk0') ∧ w'.cell? ⟨b', off' + j * 9 + 6, none⟩ = some (.slice fa0' fn0' fq0') ∧ w'.cell? ⟨b', off' + j * 9 + 7, none⟩ = some (.int .i64 l0') ∧ w'.cell? ⟨b', off' + j * 9 + 8, none⟩ = some (.slice a0' m0' q0'))
            (first | go_keep | exact ⟨bcelld hb1 e0, bcelld hb1 e1, bcelld hb1 e2, bcelld hb1 e3, bcelld hb1 e4, bcelld hb1 e5, bcelld hb1 e6, bcelld hb1 e7, bcelld hb1 e8, bcelld hb1 e0', bcelld hb1 e1', bcelld hb1 e2', bcelld hb1 e3', bcelld hb1 e4', bcelld hb1 e5', bcelld hb1 e6', bcelld hb1 e7', bcelld hb1 e8'⟩)
            (first | (go_at_call 9; refine (HC.out _ _ _ (ht.below bdr) (hu.below bdr)).mono ?_; rintro e w1 ⟨rfl, hb1⟩))
          go_wp2_with fail
        · go_ret
          exact ⟨ret_bool (by rw [HS.out]; simp), bdrew hbw hb1⟩
        · go_roundw
          case rel => exact ⟨j + 1, by omega, by go_num, bdrew hbw hb1, by rw [Hid, HS.out]; rfl⟩
          case measure => simp [intOf]; omega
      · go_wp2_with fail
        go_ret
        exact ⟨ret_bool (by rw [hR.out, tall2_end _ _ _ _ (by rw [HN.out]; omega) (by rw [← HL.out]; omega)]), hbw⟩
  · have HL := Lib.hid hl
    go_enter Try.func24, Try.ntmps24
    go_wp2_with fail
    go_ret
    exact ⟨ret_bool (tall2_len Tm.same ts us HL.out).symm, Below.refl _ _⟩

set_option maxHeartbeats 2000000 in
theorem eqTerm_any (F G : Nat → Prop) (t : Tm) : ∀ (v : Tm) (y z : Value) (w : World), TmRep F w t y → TmRep G w v z →
    Calls Try.prog 9 #[y, z] w fun e w' => e = .returned (.bool (t.same v)) ∧ Below w.heap.size w w' := by
  intro v y z w hy hz
  have IH : ∀ t' ∈ t.kids, ∀ v' ∈ v.kids, ∀ (W : World) (y z : Value), TmRep F W t' y → TmRep G W v' z → Calls Try.prog 9 #[y, z] W fun e W' => e = .returned (.bool (t'.same v')) ∧ Below W.heap.size W W' :=
    fun t' ht v' _ W y z a b => eqTerm_any F G t' v' y z W a b
  obtain ⟨k, nm, u, tk, ta, tn, tq, fk, fa, fn, fq, l, c, m, q, rfl⟩ := hy.shape
  obtain ⟨k', nm', u', tk', ta', tn', tq', fk', fa', fn', fq', l', c', m', q', rfl⟩ := hz.shape
  obtain ⟨r1, r2, r3, r4, r5, r6, r7, r8, r9, rn, rm, rq, hty, hsr, hks⟩ := hy.parts
  obtain ⟨s1, s2, s3, s4, s5, s6, s7, s8, s9, sn, sm, sq, hty', hsr', hks'⟩ := hz.parts
  cases t with | mk kk nn uu tt ff ll ts => cases v with | mk kk' nn' uu' tt' ff' ll' ts' =>
  simp only [Tm.kind, Tm.name, Tm.num, Tm.type, Tm.src, Tm.label, Tm.kids] at *
  subst r1 r2 r3 r8 s1 s2 s3 s8
  have h1 := fun W (h : Below w.heap.size w W) => eqType_any F G tt tt' _ _ W (hty.below h) (hty'.below h)
  have h2 := fun W (h : Below w.heap.size w W) => eqType_any F G ff ff' _ _ W (hsr.below h) (hsr'.below h)
  have h3 := fun W (h : Below w.heap.size w W) => eqTermS_of F G ts ts' _ _ W (hks.below h) (hks'.below h) (fun t ht u hu W y z => IH t ht u hu W y z)
  unfold Tm.same
  generalize tt.same tt' = r1 at h1 ⊢
  generalize ff.same ff' = r2 at h2 ⊢
  generalize Tm.sames ts ts' = r3 at h3 ⊢
  have H1 := Lib.hid h1
  have H2 := Lib.hid h2
  have H3 := Lib.hid h3
  clear h1 h2 h3 IH hty hty' hsr hsr' hks hks' hy hz
  clear r9 r4 r5 r6 r7 s4 s5 s6 s7 s9
  obtain ⟨rr, hrr⟩ : ∃ r : Bool, (k == k' && nm.toList == nm'.toList && u == u' && r1 && r2 && l == l' && r3) = r := ⟨_, rfl⟩
  rw [hrr]
  have HT := Lib.hid hrr
  clear hrr
  go_enter Try.func9, Try.ntmps9
  rcases Bool.eq_false_or_eq_true (k == k') with q1 | q1
  · (try rw [q1])
    have nq1 : (k != k') = false := by simp only [bne, q1]; rfl
    rcases Bool.eq_false_or_eq_true (nm.toList == nm'.toList) with q2 | q2
    · (try rw [q2])
      have nq2 : (nm.toList != nm'.toList) = false := by simp only [bne, q2]; rfl
      rcases Bool.eq_false_or_eq_true (u == u') with q3 | q3
      · (try rw [q3])
        have nq3 : (u != u') = false := by simp only [bne, q3]; rfl
        go_wp2_with fail
        refine (H1.out _ bal2).mono ?_
        rintro e w1 ⟨rfl, hb1⟩
        have hB := (bstep bal2 hb1)
        have zw1 := hB.size
        have c0_5 : w1.cell? ⟨w.heap.size, 5, none⟩ = some (.int .i64 fk) := bcell hb1 (bcell bal1 (cell_new (by simp) 5))
        have c0_6 : w1.cell? ⟨w.heap.size, 6, none⟩ = some (.slice fa fn fq) := bcell hb1 (bcell bal1 (cell_new (by simp) 6))
        have c1_5 : w1.cell? ⟨w.heap.size + 1, 5, none⟩ = some (.int .i64 fk') := bcell hb1 (cell_new (by simp) 5)
        have c1_6 : w1.cell? ⟨w.heap.size + 1, 6, none⟩ = some (.slice fa' fn' fq') := bcell hb1 (cell_new (by simp) 6)
        have c0_7 : w1.cell? ⟨w.heap.size, 7, none⟩ = some (.int .i64 l) := bcell hb1 (bcell bal1 (cell_new (by simp) 7))
        have c1_7 : w1.cell? ⟨w.heap.size + 1, 7, none⟩ = some (.int .i64 l') := bcell hb1 (cell_new (by simp) 7)
        have c0_8 : w1.cell? ⟨w.heap.size, 8, none⟩ = some (.slice c m q) := bcell hb1 (bcell bal1 (cell_new (by simp) 8))
        have c1_8 : w1.cell? ⟨w.heap.size + 1, 8, none⟩ = some (.slice c' m' q') := bcell hb1 (cell_new (by simp) 8)
        have d0_w1 := World.block_lt_of_cell? _ _ c0_5
        have d1_w1 := World.block_lt_of_cell? _ _ c1_5
        rcases Bool.eq_false_or_eq_true (r1) with q4 | q4
        · (try rw [q4])
          have Hq4 := Lib.hid q4
          clear q4
          go_wp2_with fail
          refine (H2.out _ hB).mono ?_
          rintro e w2 ⟨rfl, hb2⟩
          replace hB := (bstep hB hb2)
          have zw2 := hB.size
          replace c0_7 : w2.cell? ⟨w.heap.size, 7, none⟩ = some (.int .i64 l) := bcell hb2 (c0_7)
          replace c1_7 : w2.cell? ⟨w.heap.size + 1, 7, none⟩ = some (.int .i64 l') := bcell hb2 (c1_7)
          replace c0_8 : w2.cell? ⟨w.heap.size, 8, none⟩ = some (.slice c m q) := bcell hb2 (c0_8)
          replace c1_8 : w2.cell? ⟨w.heap.size + 1, 8, none⟩ = some (.slice c' m' q') := bcell hb2 (c1_8)
          have d0_w2 := World.block_lt_of_cell? _ _ c0_7
          have d1_w2 := World.block_lt_of_cell? _ _ c1_7
          rcases Bool.eq_false_or_eq_true (r2) with q5 | q5
          · (try rw [q5])
            have Hq5 := Lib.hid q5
            clear q5
            rcases Bool.eq_false_or_eq_true (l == l') with q6 | q6
            · (try rw [q6])
              have nq6 : (l != l') = false := by simp only [bne, q6]; rfl
              go_wp2_with fail
              refine (H3.out _ hB).mono ?_
              rintro e w3 ⟨rfl, hb3⟩
              replace hB := (bstep hB hb3)
              have zw3 := hB.size
              rcases Bool.eq_false_or_eq_true (r3) with q7 | q7
              · (try rw [q7])
                have Hq7 := Lib.hid q7
                clear q7
                go_wp2_with fail
                refine bodyPost_ret (v := .bool (true)) (by simp [results, Try.results9, go_sem, bne]) rfl ?_
                exact ⟨ret_bool ((leaf_eqTerm_5 k u l k' u' l' nm nm' r1 r2 r3 q1 q2 q3 Hq4.out Hq5.out q6 Hq7.out).trans HT.out), hB⟩
              · (try rw [q7])
                have Hq7 := Lib.hid q7
                clear q7
                go_wp2_with fail
                refine bodyPost_ret (v := .bool (false)) (by simp [results, Try.results9, go_sem, bne]) rfl ?_
                exact ⟨ret_bool ((leaf_eqTerm_6 k u l k' u' l' nm nm' r1 r2 r3 q1 q2 q3 Hq4.out Hq5.out q6 Hq7.out).trans HT.out), hB⟩
            · (try rw [q6])
              have nq6 : (l != l') = true := by simp only [bne, q6]; rfl
              go_wp2_with fail
              refine bodyPost_ret (v := .bool (false)) (by simp [results, Try.results9, go_sem, bne]) rfl ?_
              exact ⟨ret_bool ((leaf_eqTerm_7 k u l k' u' l' nm nm' r1 r2 r3 q1 q2 q3 Hq4.out Hq5.out q6).trans HT.out), hB⟩
          · (try rw [q5])
            have Hq5 := Lib.hid q5
            clear q5
            go_wp2_with fail
            refine bodyPost_ret (v := .bool (false)) (by simp [results, Try.results9, go_sem, bne]) rfl ?_
            exact ⟨ret_bool ((leaf_eqTerm_8 k u l k' u' l' nm nm' r1 r2 r3 q1 q2 q3 Hq4.out Hq5.out).trans HT.out), hB⟩
        · (try rw [q4])
          have Hq4 := Lib.hid q4
          clear q4
          go_wp2_with fail
          refine bodyPost_ret (v := .bool (false)) (by simp [results, Try.results9, go_sem, bne]) rfl ?_
          exact ⟨ret_bool ((leaf_eqTerm_9 k u l k' u' l' nm nm' r1 r2 r3 q1 q2 q3 Hq4.out).trans HT.out), hB⟩
      · (try rw [q3])
        have nq3 : (u != u') = true := by simp only [bne, q3]; rfl
        go_wp2_with fail
        refine bodyPost_ret (v := .bool (false)) (by simp [results, Try.results9, go_sem, bne]) rfl ?_
        exact ⟨ret_bool ((leaf_eqTerm_10 k u l k' u' l' nm nm' r1 r2 r3 q1 q2 q3).trans HT.out), bal2⟩
    · (try rw [q2])
      have nq2 : (nm.toList != nm'.toList) = true := by simp only [bne, q2]; rfl
      go_wp2_with fail
      refine bodyPost_ret (v := .bool (false)) (by simp [results, Try.results9, go_sem, bne]) rfl ?_
      exact ⟨ret_bool ((leaf_eqTerm_11 k u l k' u' l' nm nm' r1 r2 r3 q1 q2).trans HT.out), bal2⟩
  · (try rw [q1])
    have nq1 : (k != k') = true := by simp only [bne, q1]; rfl
    go_wp2_with fail
    refine bodyPost_ret (v := .bool (false)) (by simp [results, Try.results9, go_sem, bne]) rfl ?_
    exact ⟨ret_bool ((leaf_eqTerm_12 k u l k' u' l' nm nm' r1 r2 r3 q1).trans HT.out), bal2⟩
termination_by SizeOf.sizeOf t
decreasing_by exact Tm.kid_lt ht
theorem eqTerm_refl (F G : Nat → Prop) (t : Tm) (y z : Value) (w : World) (hy : TmRep F w t y) (hz : TmRep G w t z) :
    Calls Try.prog 9 #[y, z] w fun e w' => e = .returned (.bool true) ∧ Below w.heap.size w w' := by
  have h := eqTerm_any F G t t y z w hy hz
  rw [Tm.same_refl] at h
  exact h
end Go.Proofs.Ytkhmkohgnikcmaa
