/-
  The marks of terms, with what they leave; a look whether they stand.
-/
import Derived.Test.YtghgjpcibdfbmaaTmMark
import Derived.Test.YtghgjpcibdfbmaaTmMarkU
import Derived.Test.YtghgjpcibdfbmaaTmRes
namespace Go.Proofs.Ytghgjpcibdfbmaa
open Go.RowKit
set_option linter.unusedVariables false
set_option linter.unusedSimpArgs false
set_option maxRecDepth 100000

mutual
def Tm.marked : Tm → Int → Tm
  | .mk _ _ _ t f _ ts, m => .mk m (mtext (m + 1)) (m + 2) (.mk (m + 3) (Ty.marks t.kids (m + 4))) (.mk (m + 4 + Ty.scnt t.kids) (Ty.marks f.kids (m + 5 + Ty.scnt t.kids))) (m + 5 + Ty.scnt t.kids + Ty.scnt f.kids) (Tm.marks ts (m + 6 + Ty.scnt t.kids + Ty.scnt f.kids))
def Tm.marks : List Tm → Int → List Tm
  | [], _ => []
  | t :: ts, m => t.marked m :: Tm.marks ts (m + t.mcnt)
end
theorem Tm.marked_eq (t : Tm) (m : Int) : t.marked m = .mk m (mtext (m + 1)) (m + 2) (.mk (m + 3) (Ty.marks t.type.kids (m + 4))) (.mk (m + 4 + Ty.scnt t.type.kids) (Ty.marks t.src.kids (m + 5 + Ty.scnt t.type.kids))) (m + 5 + Ty.scnt t.type.kids + Ty.scnt t.src.kids) (Tm.marks t.kids (m + 6 + Ty.scnt t.type.kids + Ty.scnt t.src.kids)) := by
  cases t; unfold Tm.marked; rfl
theorem Tm.marks_length : ∀ (ts : List Tm) (m : Int), (Tm.marks ts m).length = ts.length
  | [], _ => by unfold Tm.marks; rfl
  | t :: ts, m => by unfold Tm.marks; simp [Tm.marks_length ts]
theorem Tm.marks_get : ∀ (ts : List Tm) (m : Int) (j : Nat) (h : j < ts.length), (Tm.marks ts m)[j]'(by rw [Tm.marks_length]; exact h) = ts[j].marked (m + Tm.mcnts (ts.take j))
  | [], _, _, h => absurd h (Nat.not_lt_zero _)
  | t :: ts, m, 0, _ => by simp [Tm.marks, Tm.mcnts]
  | t :: ts, m, j + 1, h => by
    have := Tm.marks_get ts (m + t.mcnt) j (by simpa using h)
    simp only [Tm.marks, List.getElem_cons_succ, this, List.take_succ_cons, Tm.mcnts]
    congr 1
    omega
theorem Tm.mcnts_take_succ : ∀ (ts : List Tm) (j : Nat) (h : j < ts.length), Tm.mcnts (ts.take (j + 1)) = Tm.mcnts (ts.take j) + ts[j].mcnt
  | [], _, h => absurd h (Nat.not_lt_zero _)
  | t :: ts, 0, _ => by simp [Tm.mcnts]
  | t :: ts, j + 1, h => by
    have := Tm.mcnts_take_succ ts j (by simpa using h)
    simp only [List.take_succ_cons, Tm.mcnts, List.getElem_cons_succ, this]
    omega
theorem Tm.mcnts_take_drop (ts : List Tm) (j : Nat) : Tm.mcnts (ts.take j) + Tm.mcnts (ts.drop j) = Tm.mcnts ts := by
  induction ts generalizing j with
  | nil => simp [Tm.mcnts]
  | cons t ts ih =>
    cases j with
    | zero => simp [Tm.mcnts]
    | succ j => have := ih j; simp only [List.take_succ_cons, List.drop_succ_cons, Tm.mcnts]; omega
theorem Tm.marks_take_succ (ts : List Tm) (m : Int) (j : Nat) (h : j < ts.length) : (Tm.marks ts m).take (j + 1) = (Tm.marks ts m).take j ++ [ts[j].marked (m + Tm.mcnts (ts.take j))] := by
  rw [List.take_succ_eq_append_getElem (by rw [Tm.marks_length]; exact h), Tm.marks_get ts m j h]
/-- How a row is marked, with the block whole and what lies ahead of it. -/
structure Sv (wr W : World) (b j : Nat) (ch : List Nat) : Prop where
  st : St wr W b j ch
  near : ∀ o, o < j * 9 → W.cell? ⟨b, o, none⟩ = wr.cell? ⟨b, o, none⟩
  blk : ∃ cs T, W.heap[b]? = some (.cells cs T (0, 0))
theorem Sv.refl {wr : World} {b j : Nat} (h : ∃ cs T, wr.heap[b]? = some (.cells cs T (0, 0))) : Sv wr wr b j [] :=
  ⟨St.refl (fun o => by obtain ⟨cs, T, h⟩ := h; simp [World.frozen?, h]), fun _ _ => rfl, h⟩
theorem Sv.set {wr W : World} {b j o : Nat} {ch : List Nat} {v : Value} (h : Sv wr W b j ch) (ho : o < j * 9 + 9) (ho2 : j * 9 ≤ o) : Sv wr (W.setCell ⟨b, o, none⟩ v) b j ch :=
  ⟨h.st.set ho, fun o' ho' => (World.cell?_setCell_other W _ _ v (fun e => by cases e; omega)).trans (h.near o' ho'), by
    obtain ⟨cs, T, hb⟩ := h.blk
    exact ⟨_, T, heap_setCell_same hb⟩⟩
theorem Sv.call {wr W W' : World} {b j : Nat} {ch g : List Nat} (h : Sv wr W b j ch) (hc : Chg g W W') (hb : b ∉ g) (hl : b < W.heap.size) : Sv wr W' b j (ch ++ g) :=
  ⟨h.st.call hc hb hl, fun o ho => (World.cell?_of_block (a := ⟨b, o, none⟩) (hc.block b hl hb)).trans (h.near o ho), by
    obtain ⟨cs, T, hk⟩ := h.blk
    exact ⟨cs, T, (hc.block b hl hb).trans hk⟩⟩
theorem Sv.below {wr W W' : World} {b j : Nat} {ch : List Nat} (h : Sv wr W b j ch) (hc : Below W.heap.size W W') (hl : b < W.heap.size) : Sv wr W' b j ch := by
  have := h.call (Chg.of_below (fp := []) hc) (by simp) hl
  simpa using this
theorem TmCells.mk {w : World} {b off : Nat} {k u tk fk l : Int} {nm : ByteArray} {K1 K2 : List Ty} {K3 : List Tm} {s1 s2 s3 : Value} {g1 g2 g3 : List Nat} (hn : nm.size ≤ maxLen)
    (c0 : w.cell? ⟨b, off, none⟩ = some (.int .i64 k)) (c1 : w.cell? ⟨b, off + 1, none⟩ = some (.string nm)) (c2 : w.cell? ⟨b, off + 2, none⟩ = some (.int .i64 u)) (c3 : w.cell? ⟨b, off + 3, none⟩ = some (.int .i64 tk)) (c4 : w.cell? ⟨b, off + 4, none⟩ = some s1)
    (c5 : w.cell? ⟨b, off + 5, none⟩ = some (.int .i64 fk)) (c6 : w.cell? ⟨b, off + 6, none⟩ = some s2) (c7 : w.cell? ⟨b, off + 7, none⟩ = some (.int .i64 l)) (c8 : w.cell? ⟨b, off + 8, none⟩ = some s3)
    (o1 : COwn w (.sl (Ty.rows K1)) s1 g1) (o2 : COwn w (.sl (Ty.rows K2)) s2 g2) (o3 : COwn w (.sl (Tm.rows K3)) s3 g3) : CellsOwn w b off (Tm.mk k nm u (.mk tk K1) (.mk fk K2) l K3).row (g1 ++ (g2 ++ g3)) := by
  have i1 : ∀ n : Int, COwn w (.int n) (.int .i64 n) [] := fun n => by unfold COwn; exact ⟨rfl, rfl⟩
  have i2 : COwn w (.str nm) (.string nm) [] := by unfold COwn; exact ⟨rfl, hn, rfl⟩
  unfold Tm.row
  unfold CellsOwn; refine ⟨_, [], _, rfl, c0, i1 _, ?_⟩
  unfold CellsOwn; refine ⟨_, [], _, rfl, c1, i2, ?_⟩
  unfold CellsOwn; refine ⟨_, [], _, rfl, c2, i1 _, ?_⟩
  unfold CellsOwn; refine ⟨_, [], _, rfl, c3, i1 _, ?_⟩
  unfold CellsOwn; refine ⟨_, g1, _, rfl, c4, o1, ?_⟩
  unfold CellsOwn; refine ⟨_, [], _, rfl, c5, i1 _, ?_⟩
  unfold CellsOwn; refine ⟨_, g2, _, rfl, c6, o2, ?_⟩
  unfold CellsOwn; refine ⟨_, [], _, rfl, c7, i1 _, ?_⟩
  unfold CellsOwn; refine ⟨_, g3, [], by simp, c8, o3, ?_⟩
  unfold CellsOwn; rfl
set_option maxHeartbeats 8000000 in
theorem markTermS_val (ts : List Tm) : ∀ (m : Int) (s : Value) (fp : List Nat) (w : World), TmsOwn w ts s fp → fp.Nodup → 0 ≤ m → m + Tm.mcnts ts ≤ 1099511627776 →
    Calls Try.prog 70 #[s, .int .i64 m] w fun e w' => e = .returned (.int .i64 (m + Tm.mcnts ts)) ∧ TmsOwn w' (Tm.marks ts m) s fp ∧ Chg fp w w' := by
  intro m s fp w hown hnd hm0 hmb
  have IH : ∀ t ∈ ts, ∀ (m : Int) (s : Value) (fp : List Nat) (w : World), TmsOwn w t.kids s fp → fp.Nodup → 0 ≤ m → m + Tm.mcnts t.kids ≤ 1099511627776 → Calls Try.prog 70 #[s, .int .i64 m] w fun e w' => e = .returned (.int .i64 (m + Tm.mcnts t.kids)) ∧ TmsOwn w' (Tm.marks t.kids m) s fp ∧ Chg fp w w' :=
    fun t ht m s fp w a b c d => markTermS_val t.kids m s fp w a b c d
  have hown' := hown
  unfold TmsOwn COwn at hown
  obtain ⟨a, cap, rfl, h2, h3, h4⟩ := hown
  rw [Tm.rows_length] at h2 ⊢
  unfold maxLen at h3
  have IHH := Lib.hid IH
  clear IH
  obtain ⟨n, hn⟩ : ∃ n, ts.length = n := ⟨_, rfl⟩
  rw [Tm.rows_length] at hown'
  rw [hn] at h2 hown' ⊢
  have HN := Lib.hid hn
  have HMB := Lib.hid hmb
  have hmm : m ≤ 1099511627776 := by omega
  rcases h4 with ⟨h4, rfl⟩ | ⟨b, fps, cs, T, rfl, rfl, hb, hr⟩
  · have hts : ts = [] := by cases ts with | nil => rfl | cons t ts => unfold Tm.rows at h4; cases h4
    subst hts
    have hn0 : n = 0 := by rw [← hn]; rfl
    subst hn0
    have HO := Lib.hid hown'
    clear hmb hown'
    go_enter Try.func70, Try.ntmps70
    go_wp2_with fail
    go_loopw [5, 1] (fun i p wr => i = .int .i64 0 ∧ p = .int .i64 m ∧ wr = w) (fun _ _ _ => 0)
    case atStart => exact ⟨rfl, rfl, rfl⟩
    case round =>
      obtain ⟨rfl, rfl, rfl⟩ := hrel
      go_wp2_with fail
      go_ret
      exact ⟨ret_int (by simp [Tm.mcnts]), by unfold Tm.marks; exact HO.out, Chg.refl _ _⟩
  · have hfz : ∀ o, w.frozen? ⟨b, o, none⟩ = false := fun o => by simp [World.frozen?, hb]
    have hbl : b < w.heap.size := (Array.getElem?_eq_some_iff.1 hb).1
    have HFZ := Lib.hid hb
    have HR := Lib.hid hr
    have hnd1 := List.nodup_cons.1 hnd
    have HND := Lib.hid hnd1
    have HBL := Lib.hid hbl
    clear hfz hr hb hnd hnd1 hn hbl hmb hown'
    go_enter Try.func70, Try.ntmps70
    go_wp2_with fail
    go_loopw [5, 1] (fun i p wr => ∃ j : Nat, j ≤ n ∧ i = .int .i64 j ∧ (∃ mm : Int, p = .int .i64 mm ∧ 0 ≤ mm ∧ mm ≤ 1099511627776 ∧ Hid (mm + Tm.mcnts (ts.drop j) = m + Tm.mcnts ts) ∧ Hid (mm = m + Tm.mcnts (ts.take j))) ∧
        Hid (Chg (b :: fps) w wr) ∧ Hid (∃ cs T, wr.heap[b]? = some (.cells cs T (0, 0))) ∧ Hid (∃ f1 f2 : List Nat, fps = f1 ++ f2 ∧ RowsOwn wr b 0 (Tm.rows ((Tm.marks ts m).take j)) f1 ∧ RowsOwn wr b (j * 9) (Tm.rows (ts.drop j)) f2)) (fun i _ _ => n - (intOf i).toNat)
    case atStart => exact ⟨0, by omega, rfl, ⟨m, rfl, hm0, hmm, rfl, by simp [Hid, Tm.mcnts]⟩, Chg.refl _ _, ⟨_, _, HFZ.out⟩, ⟨[], fps, rfl, by simp [Tm.rows, RowsOwn], by simpa using HR.out⟩⟩
    case round =>
      obtain ⟨j, hj, rfl, ⟨mm, rfl, hq0, hq1, hqe, hmq⟩, hcw, hfw, hrw⟩ := hrel
      by_cases hlt : j < n
      · have hjt : j < ts.length := by have := HN.out; omega
        obtain ⟨fd, f2, hfe, hrd, hro⟩ := hrw.out
        have hnd0 := HND.out.2
        rw [hfe] at hnd0
        obtain ⟨hndd, hnd2, hdd⟩ := List.nodup_append.1 hnd0
        have hsub : ∀ x ∈ f2, x ∈ fps := fun x hx => by rw [hfe]; exact List.mem_append_right _ hx
        have hbd : b ∉ fd := fun h => HND.out.1 (by rw [hfe]; exact List.mem_append_left _ h)
        have hdl := hrd.lt
        have hmq2 := hmq.out
        have htk := Tm.mcnts_take_succ ts j hjt
        have hmk := Tm.marks_take_succ ts m j hjt
        rw [← hmq2, Tm.marked_eq] at hmk
        have hde : ts.drop j = ts[j] :: ts.drop (j + 1) := List.drop_eq_getElem_cons hjt
        have hqe2 := hqe.out
        rw [hde] at hro hqe2
        unfold Tm.rows RowsOwn at hro
        obtain ⟨f, f2', rfl, hco, hro2⟩ := hro
        rw [Tm.row_length] at hro2
        have hrl := hro2.lt
        have hmcE := ts[j].mcnt_eq
        obtain ⟨s1, s2, s3, g1, g2, g3, rfl, c0, c1, c2, c3, c4, c5, c6, c7, c8, o1, o2, o3⟩ := TmCells hco
        have hmc := ts[j].mcnt_eq
        rw [show Tm.mcnts (ts[j] :: ts.drop (j + 1)) = ts[j].mcnt + Tm.mcnts (ts.drop (j + 1)) from by conv => lhs; unfold Tm.mcnts] at hqe2
        have hIH := IHH.out ts[j] (List.getElem_mem hjt)
        generalize ts[j].kind = xk at c0
        generalize ts[j].name = xn at c1
        generalize ts[j].num = xu at c2
        generalize ts[j].type.kind = xt at c3
        generalize ts[j].src.kind = xf at c5
        generalize ts[j].label = xl at c7
        generalize ts[j].type.kids = K1 at o1 hmc hmk
        generalize ts[j].src.kids = K2 at o2 hmc hmk
        generalize ts[j].kids = K3 at o3 hmc hIH hmk
        generalize ts[j].mcnt = mj at hmc hqe2 htk
        clear hmcE
        obtain ⟨a1, q1, hs1, -⟩ := CRep.rows (COwn.rep (F := fun _ => True) _ _ _ (fun _ _ => trivial) o1)
        obtain ⟨a2, q2, hs2, -⟩ := CRep.rows (COwn.rep (F := fun _ => True) _ _ _ (fun _ _ => trivial) o2)
        obtain ⟨a3, q3, hs3, -⟩ := CRep.rows (COwn.rep (F := fun _ => True) _ _ _ (fun _ _ => trivial) o3)
        subst hs1 hs2 hs3
        rw [Ty.rows_length] at o1 c4 o2 c6
        rw [Tm.rows_length] at o3 c8
        have hnb : ∀ x ∈ (g1 ++ (g2 ++ g3)) ++ f2', x ≠ b := fun x hx e => HND.out.1 (e ▸ hsub x hx)
        obtain ⟨ndA, ndB, ndC⟩ := List.nodup_append.1 hnd2
        obtain ⟨nd1, nd23, nd1'⟩ := List.nodup_append.1 ndA
        obtain ⟨nd2, nd3, nd2'⟩ := List.nodup_append.1 nd23
        have lb0 : b < wr.heap.size := Nat.lt_of_lt_of_le HBL.out hcw.out.size
        have hblk := hfw.out
        have hf0 : ∀ o, wr.frozen? ⟨b, o, none⟩ = false := fun o => by obtain ⟨cs, T, h⟩ := hblk; simp [World.frozen?, h]
        have hddn : ∀ x ∈ fd, x ∉ b :: ((([] ++ g1) ++ g2) ++ g3) := fun x hx h => by
          rcases List.mem_cons.1 h with h | h
          · exact hbd (h ▸ hx)
          · exact hdd x hx x (List.mem_append_left _ (by simpa using h)) rfl
        have hmmq : mm + 6 + (Ty.scnt K1 : Int) + Ty.scnt K2 + Tm.mcnts K3 = m + Tm.mcnts (ts.take (j + 1)) := by omega
        have hdn2 : ∀ x ∈ g1, x ≠ b ∧ x ∉ (([] : List Nat) ++ g2) ++ g3 := fun x hx => ⟨hnb x (by simp [hx]), fun h => nd1' x hx x (by simpa using h) rfl⟩
        have hdn3 : ∀ x ∈ g2, x ≠ b ∧ x ∉ ([] : List Nat) ++ g3 := fun x hx => ⟨hnb x (by simp [hx]), fun h => nd2' x hx x (by simpa using h) rfl⟩
        have hmb := HMB.out
        have hn1 : b ∉ g1 := fun h => hnb b (by simp [h]) rfl
        have hn2 : b ∉ g2 := fun h => hnb b (by simp [h]) rfl
        have hn3 : b ∉ g3 := fun h => hnb b (by simp [h]) rfl
        have hd1 : ∀ x ∈ g1, x ≠ b ∧ x ∉ ([] : List Nat) := fun x hx => ⟨hnb x (by simp [hx]), by simp⟩
        have hd2 : ∀ x ∈ g2, x ≠ b ∧ x ∉ [] ++ g1 := fun x hx => ⟨hnb x (by simp [hx]), fun h => nd1' x (by simpa using h) x (by simp [hx]) rfl⟩
        have hd3 : ∀ x ∈ g3, x ≠ b ∧ x ∉ ([] ++ g1) ++ g2 := fun x hx => ⟨hnb x (by simp [hx]), fun h => by
          rcases List.mem_append.1 h with h | h
          · exact nd1' x (by simpa using h) x (by simp [hx]) rfl
          · exact nd2' x h x hx rfl⟩
        have hd4 : ∀ x ∈ f2', x ∉ b :: ((([] ++ g1) ++ g2) ++ g3) := fun x hx h => by
          rcases List.mem_cons.1 h with h | h
          · exact hnb x (by simp [hx]) h
          · exact ndC x (by simpa using h) x hx rfl
        have hsub2 : ∀ x ∈ (([] ++ g1) ++ g2) ++ g3, x ∈ fps := fun x hx => hsub x (by simp at hx ⊢; rcases hx with h | h | h <;> simp [h])
        have hsub3 : ∀ x ∈ f2', x ∈ fps := fun x hx => hsub x (by simp [hx])
        have B1 : mm + 4 + Ty.scnt K1 ≤ 1099511627776 := by omega
        have B2 : mm + 5 + Ty.scnt K1 + Ty.scnt K2 ≤ 1099511627776 := by omega
        have B3 : mm + 6 + Ty.scnt K1 + Ty.scnt K2 + Tm.mcnts K3 ≤ 1099511627776 := by omega
        have hfin : mm + 1 + 1 + 1 + 1 + (Ty.scnt K1 : Int) + 1 + (Ty.scnt K2 : Int) + 1 + (Tm.mcnts K3 : Int) + (Tm.mcnts (ts.drop (j + 1)) : Int) = m + Tm.mcnts ts := by omega
        generalize hrest : Tm.mcnts (ts.drop (j + 1)) = rest at hfin
        have HDN2 := Lib.hid hdn2
        have HDN3 := Lib.hid hdn3
        have HBLK := Lib.hid hblk
        have HDDN := Lib.hid hddn
        have HDL := Lib.hid hdl
        have HRD := Lib.hid hrd
        have HFE := Lib.hid hfe
        have HMMQ := Lib.hid hmmq
        have HMK := Lib.hid hmk
        have HRO2 := Lib.hid hro2
        have HRL := Lib.hid hrl
        have HFIN := Lib.hid hfin
        have HREST := Lib.hid hrest
        have HD1 := Lib.hid hd1
        have HD2 := Lib.hid hd2
        have HD3 := Lib.hid hd3
        have HD4 := Lib.hid hd4
        have HSUB2 := Lib.hid hsub2
        have HSUB3 := Lib.hid hsub3
        have HN1 := Lib.hid hn1
        have HN2 := Lib.hid hn2
        have HN3 := Lib.hid hn3
        have HND1 := Lib.hid nd1
        have HND2 := Lib.hid nd2
        have HND3 := Lib.hid nd3
        have HNDB := Lib.hid ndB
        have HO1 := Lib.hid o1
        have HO2 := Lib.hid o2
        have HO3 := Lib.hid o3
        have HIH := Lib.hid hIH
        clear hdn2 hdn3 hblk hddn hdl hrd hfe hmmq hmk hbd hdd hndd hnd0 htk hmq2 hro2 hrl hfin hrest hd1 hd2 hd3 hd4 hsub2 hsub3 hn1 hn2 hn3 nd1 nd2 nd3 ndB nd23 ndA ndC nd1' nd2' o1 o2 o3 hIH hnb hmb hmc hqe2 hsub hnd2 hco hde
        have i1 := IntWalk.i64_in (mm + 1) (by omega)
        have i2 := IntWalk.i64_in (mm + 1 + 1) (by omega)
        have i3 := IntWalk.i64_in (mm + 1 + 1 + 1) (by omega)
        have i4 := IntWalk.i64_in (mm + 1 + 1 + 1 + 1) (by omega)
        have i5 := IntWalk.i64_in (mm + 1 + 1 + 1 + 1 + (Ty.scnt K1 : Int) + 1) (by omega)
        have i6 := IntWalk.i64_in (mm + 1 + 1 + 1 + 1 + (Ty.scnt K1 : Int) + 1 + (Ty.scnt K2 : Int) + 1) (by omega)
        go_wp2_with fail
        refine (markText_val (mm + 1) (by omega) (by omega) _).mono ?_
        rintro e w1 ⟨rfl, hsz, hb1⟩
        generalize hsg : mtext (mm + 1) = s' at hsz ⊢
        have HSG := Lib.hid hsg
        clear hsg
        have st1 : Sv wr w1 b j [] := ((Sv.refl HBLK.out).set (o := j * 9) (v := .int .i64 mm) (by omega) (by omega)).below hb1 (by simp; omega)
        have d0 := bcell hb1 (sc_self (b := b) (o := j * 9) (v := .int .i64 mm) c0)
        have d1 := bcell hb1 (sc_far (p := ⟨b, j * 9, none⟩) (v := .int .i64 mm) c1 (by simp))
        have d2 := bcell hb1 (sc_far (p := ⟨b, j * 9, none⟩) (v := .int .i64 mm) c2 (by simp))
        have d3 := bcell hb1 (sc_far (p := ⟨b, j * 9, none⟩) (v := .int .i64 mm) c3 (by simp))
        have d4 := bcell hb1 (sc_far (p := ⟨b, j * 9, none⟩) (v := .int .i64 mm) c4 (by simp))
        have d5 := bcell hb1 (sc_far (p := ⟨b, j * 9, none⟩) (v := .int .i64 mm) c5 (by simp))
        have d6 := bcell hb1 (sc_far (p := ⟨b, j * 9, none⟩) (v := .int .i64 mm) c6 (by simp))
        have d7 := bcell hb1 (sc_far (p := ⟨b, j * 9, none⟩) (v := .int .i64 mm) c7 (by simp))
        have d8 := bcell hb1 (sc_far (p := ⟨b, j * 9, none⟩) (v := .int .i64 mm) c8 (by simp))
        have hf1 := st1.st.fro
        have lb1 : b < w1.heap.size := World.block_lt_of_cell? _ _ d1
        have HST1 := Lib.hid st1
        clear c0 c1 c2 c3 c4 c5 c6 c7 c8 hf0 lb0 st1 hb1
        go_wp2_with fail
        have sA := Lib.hid (((HST1.out.set (o := j * 9 + 1) (v := .string s') (by omega) (by omega)).set (o := j * 9 + 2) (v := .int .i64 (mm + 1 + 1)) (by omega) (by omega)).set (o := j * 9 + 3) (v := .int .i64 (mm + 1 + 1 + 1)) (by omega) (by omega))
        refine (markTypeS_any K1 (mm + 1 + 1 + 1 + 1) _ g1 _ (sA.out.st.own HO1.out HD1.out) HND1.out (by omega) (by omega)).mono ?_
        rintro e w2 ⟨rfl, ho2, hc2⟩
        have st2 := sA.out.call hc2 HN1.out (by simp; omega)
        have F := fun {o : Nat} {v : Value} (h1 : o ≠ j * 9 + 1) (h2 : o ≠ j * 9 + 2) (h3 : o ≠ j * 9 + 3) (h : w1.cell? ⟨b, o, none⟩ = some v) =>
          chg_cell hc2 HN1.out (sc_far (sc_far (sc_far h (fun e => by cases e; exact h1 rfl)) (fun e => by cases e; exact h2 rfl)) (fun e => by cases e; exact h3 rfl))
        have e0 := F (by omega) (by omega) (by omega) d0
        have e1 := chg_cell hc2 HN1.out (sc_far (p := ⟨b, j * 9 + 3, none⟩) (v := .int .i64 (mm + 1 + 1 + 1)) (sc_far (p := ⟨b, j * 9 + 2, none⟩) (v := .int .i64 (mm + 1 + 1)) (sc_self (b := b) (o := j * 9 + 1) (v := .string s') d1) (by simp)) (by simp))
        have e2 := chg_cell hc2 HN1.out (sc_far (p := ⟨b, j * 9 + 3, none⟩) (v := .int .i64 (mm + 1 + 1 + 1)) (sc_self (b := b) (o := j * 9 + 2) (v := .int .i64 (mm + 1 + 1)) (sc_far (p := ⟨b, j * 9 + 1, none⟩) (v := .string s') d2 (by simp))) (by simp))
        have e3 := chg_cell hc2 HN1.out (sc_self (b := b) (o := j * 9 + 3) (v := .int .i64 (mm + 1 + 1 + 1)) (sc_far (p := ⟨b, j * 9 + 2, none⟩) (v := .int .i64 (mm + 1 + 1)) (sc_far (p := ⟨b, j * 9 + 1, none⟩) (v := .string s') d3 (by simp)) (by simp)))
        have e4 := F (by omega) (by omega) (by omega) d4
        have e5 := F (by omega) (by omega) (by omega) d5
        have e6 := F (by omega) (by omega) (by omega) d6
        have e7 := F (by omega) (by omega) (by omega) d7
        have e8 := F (by omega) (by omega) (by omega) d8
        have hf2 := st2.st.fro
        have SB := Lib.hid (Sv.refl (j := j) st2.blk)
        have HOW2 := Lib.hid ho2
        clear ho2
        have lb2 : b < w2.heap.size := World.block_lt_of_cell? _ _ e5
        have HST2 := Lib.hid st2
        clear d0 d1 d2 d3 d4 d5 d6 d7 d8 hf1 lb1 st2 sA F hc2 HST1
        go_wp2_with fail
        have sB := Lib.hid (HST2.out.set (o := j * 9 + 5) (v := .int .i64 (mm + 1 + 1 + 1 + 1 + (Ty.scnt K1 : Int))) (by omega) (by omega))
        have SB2 := Lib.hid (SB.out.set (o := j * 9 + 5) (v := .int .i64 (mm + 1 + 1 + 1 + 1 + (Ty.scnt K1 : Int))) (by omega) (by omega))
        refine (markTypeS_any K2 (mm + 1 + 1 + 1 + 1 + (Ty.scnt K1 : Int) + 1) _ g2 _ (sB.out.st.own HO2.out HD2.out) HND2.out (by omega) (by omega)).mono ?_
        rintro e w3 ⟨rfl, ho3, hc3⟩
        have st3 := sB.out.call hc3 HN2.out (by simp; omega)
        have F := fun {o : Nat} {v : Value} (h1 : o ≠ j * 9 + 5) (h : w2.cell? ⟨b, o, none⟩ = some v) =>
          chg_cell hc3 HN2.out (sc_far h (fun e => by cases e; exact h1 rfl))
        have x0 := F (by omega) e0
        have x1 := F (by omega) e1
        have x2 := F (by omega) e2
        have x3 := F (by omega) e3
        have x4 := F (by omega) e4
        have x5 := chg_cell hc3 HN2.out (sc_self (b := b) (o := j * 9 + 5) (v := .int .i64 (mm + 1 + 1 + 1 + 1 + (Ty.scnt K1 : Int))) e5)
        have x6 := F (by omega) e6
        have x7 := F (by omega) e7
        have x8 := F (by omega) e8
        have hf3 := st3.st.fro
        have SB3 := Lib.hid (SB2.out.call hc3 HN2.out (by simp; omega))
        have SC := Lib.hid (Sv.refl (j := j) st3.blk)
        have HOW3 := Lib.hid ho3
        clear ho3 SB SB2
        have lb3 : b < w3.heap.size := World.block_lt_of_cell? _ _ x7
        have HST3 := Lib.hid st3
        clear e0 e1 e2 e3 e4 e5 e6 e7 e8 hf2 lb2 st3 sB F hc3 HST2
        go_wp2_with fail
        have sC := Lib.hid (HST3.out.set (o := j * 9 + 7) (v := .int .i64 (mm + 1 + 1 + 1 + 1 + (Ty.scnt K1 : Int) + 1 + (Ty.scnt K2 : Int))) (by omega) (by omega))
        have SB4 := Lib.hid (SB3.out.set (o := j * 9 + 7) (v := .int .i64 (mm + 1 + 1 + 1 + 1 + (Ty.scnt K1 : Int) + 1 + (Ty.scnt K2 : Int))) (by omega) (by omega))
        have SC2 := Lib.hid (SC.out.set (o := j * 9 + 7) (v := .int .i64 (mm + 1 + 1 + 1 + 1 + (Ty.scnt K1 : Int) + 1 + (Ty.scnt K2 : Int))) (by omega) (by omega))
        refine (HIH.out (mm + 1 + 1 + 1 + 1 + (Ty.scnt K1 : Int) + 1 + (Ty.scnt K2 : Int) + 1) _ g3 _ (sC.out.st.own HO3.out HD3.out) HND3.out (by omega) (by omega)).mono ?_
        rintro e w4 ⟨rfl, ho4, hc4⟩
        have st4 := Lib.hid (sC.out.call hc4 HN3.out (by simp; omega))
        have F := fun {o : Nat} {v : Value} (h1 : o ≠ j * 9 + 7) (h : w3.cell? ⟨b, o, none⟩ = some v) =>
          chg_cell hc4 HN3.out (sc_far (p := ⟨b, j * 9 + 7, none⟩) (v := .int .i64 (mm + 1 + 1 + 1 + 1 + (Ty.scnt K1 : Int) + 1 + (Ty.scnt K2 : Int))) h (fun e => by cases e; exact h1 rfl))
        have SB5 := SB4.out.call hc4 HN3.out (by simp; omega)
        have SC3 := SC2.out.call hc4 HN3.out (by simp; omega)
        have HROW := Lib.hid (TmCells.mk hsz (F (by omega) x0) (F (by omega) x1) (F (by omega) x2) (F (by omega) x3) (F (by omega) x4) (F (by omega) x5) (F (by omega) x6) (chg_cell hc4 HN3.out (sc_self (b := b) (o := j * 9 + 7) (v := .int .i64 (mm + 1 + 1 + 1 + 1 + (Ty.scnt K1 : Int) + 1 + (Ty.scnt K2 : Int))) x7)) (F (by omega) x8) (SB5.st.own HOW2.out HDN2.out) (SC3.st.own HOW3.out HDN3.out) ho4)
        clear x0 x1 x2 x3 x4 x5 x6 x7 x8 hf3 lb3 sC hc4 HST3 SB5 SC3 F ho4 SB3 SB4 SC SC2
        go_wp2_with fail
        go_roundw
        case rel =>
          refine ⟨j + 1, by omega, by go_num, ⟨_, rfl, by omega, by omega, by unfold Hid; rw [HREST.out]; exact HFIN.out, by have := HMMQ.out; unfold Hid; omega⟩, hcw.out.trans (st4.out.st.chg.mono (fun x hx => by rcases List.mem_cons.1 hx with h | h <;> simp [h]; exact .inr (HSUB2.out x h))), st4.out.blk, fd ++ (g1 ++ (g2 ++ g3)), f2', by rw [HFE.out]; simp, ?_, ?_⟩
          · rw [HMK.out, Tm.rows_eq, List.map_append, ← Tm.rows_eq]
            refine RowsOwn.snoc (RowsOwn.move _ _ _ (fun x hx => st4.out.st.chg.block x (HDL.out x hx) (HDDN.out x hx)) (fun o _ ho => st4.out.near o (by rw [Tm.flatten_length, List.length_take, Tm.marks_length, Nat.min_eq_left (by omega)] at ho; omega)) HRD.out) ?_
            rw [Tm.flatten_length, List.length_take, Tm.marks_length, Nat.min_eq_left (by omega), Nat.zero_add]
            have h := HROW.out
            rw [← HSG.out] at h
            have q1 : mm + 1 + 1 = mm + 2 := by omega
            have q2 : mm + 1 + 1 + 1 = mm + 3 := by omega
            have q3 : mm + 1 + 1 + 1 + 1 = mm + 4 := by omega
            have q4 : mm + 4 + (Ty.scnt K1 : Int) + 1 = mm + 5 + Ty.scnt K1 := by omega
            have q5 : mm + 5 + (Ty.scnt K1 : Int) + Ty.scnt K2 + 1 = mm + 6 + Ty.scnt K1 + Ty.scnt K2 := by omega
            rw [q3, q2, q1, q4, q5] at h
            exact h
          · rw [show (j + 1) * 9 = j * 9 + 9 from by omega]
            exact RowsOwn.move _ _ _ (fun x hx => st4.out.st.chg.block x (HRL.out x hx) (HD4.out x hx)) (fun o ho _ => st4.out.st.far o (by omega)) HRO2.out
        case measure => simp [intOf]; omega
      · have hlast : mm = m + Tm.mcnts ts := by
          have h := hqe.out
          rw [List.drop_eq_nil_of_le (by have := HN.out; omega)] at h
          simp only [Tm.mcnts] at h
          omega
        have HL := Lib.hid hlast
        clear hlast
        go_wp2_with fail
        go_ret
        refine ⟨ret_int HL.out, ?_, hcw.out⟩
        obtain ⟨f1, f2, rfl, hr1, hr2⟩ := hrw.out
        obtain ⟨cs, T, hk⟩ := hfw.out
        rw [List.drop_eq_nil_of_le (by have := HN.out; omega)] at hr2
        simp only [Tm.rows, RowsOwn] at hr2
        subst hr2
        rw [List.take_of_length_le (by rw [Tm.marks_length]; have := HN.out; omega)] at hr1
        unfold TmsOwn COwn
        exact ⟨_, cap, by rw [Tm.rows_length, Tm.marks_length, HN.out], by rw [Tm.rows_length, Tm.marks_length, HN.out]; exact h2, by unfold maxLen; exact h3, .inr ⟨b, f1, cs, T, rfl, by simp, hk, hr1⟩⟩
termination_by SizeOf.sizeOf ts
decreasing_by exact Tm.kids_lt_list ht
end Go.Proofs.Ytghgjpcibdfbmaa
