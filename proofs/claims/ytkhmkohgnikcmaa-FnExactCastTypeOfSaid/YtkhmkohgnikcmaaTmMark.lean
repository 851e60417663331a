/-
  The marks of terms: some number; only the term's own blocks turn.
-/
import Derived.Test.YtkhmkohgnikcmaaB5
import Derived.Test.YtkhmkohgnikcmaaB5
import Derived.Test.YtkhmkohgnikcmaaLaTm
namespace Go.Proofs.Ytkhmkohgnikcmaa
open Go.RowKit
set_option linter.unusedVariables false
set_option linter.unusedSimpArgs false
set_option maxRecDepth 100000

mutual
def Tm.mcnt : Tm → Nat
  | .mk _ _ _ t f _ ts => 6 + Ty.scnt t.kids + Ty.scnt f.kids + Tm.mcnts ts
def Tm.mcnts : List Tm → Nat
  | [] => 0
  | t :: ts => t.mcnt + Tm.mcnts ts
end
theorem Tm.mcnt_eq (t : Tm) : t.mcnt = 6 + Ty.scnt t.type.kids + Ty.scnt t.src.kids + Tm.mcnts t.kids := by
  cases t; unfold Tm.mcnt; rfl
theorem TmCells {w : World} {b off : Nat} {fp : List Nat} {t : Tm} (h : CellsOwn w b off t.row fp) :
    ∃ (s1 s2 s3 : Value) (g1 g2 g3 : List Nat), fp = g1 ++ (g2 ++ g3) ∧ w.cell? ⟨b, off, none⟩ = some (.int .i64 t.kind) ∧ w.cell? ⟨b, off + 1, none⟩ = some (.string t.name) ∧ w.cell? ⟨b, off + 2, none⟩ = some (.int .i64 t.num) ∧
      w.cell? ⟨b, off + 3, none⟩ = some (.int .i64 t.type.kind) ∧ w.cell? ⟨b, off + 4, none⟩ = some s1 ∧ w.cell? ⟨b, off + 5, none⟩ = some (.int .i64 t.src.kind) ∧ w.cell? ⟨b, off + 6, none⟩ = some s2 ∧
      w.cell? ⟨b, off + 7, none⟩ = some (.int .i64 t.label) ∧ w.cell? ⟨b, off + 8, none⟩ = some s3 ∧ COwn w (.sl (Ty.rows t.type.kids)) s1 g1 ∧ COwn w (.sl (Ty.rows t.src.kids)) s2 g2 ∧ COwn w (.sl (Tm.rows t.kids)) s3 g3 := by
  cases t with | mk k nm u t f l ts =>
  unfold Tm.row at h
  unfold CellsOwn at h
  obtain ⟨y0, f0, r0, rfl, c0, o0, h⟩ := h
  unfold CellsOwn at h
  obtain ⟨y1, f1, r1, rfl, c1, o1, h⟩ := h
  unfold CellsOwn at h
  obtain ⟨y2, f2, r2, rfl, c2, o2, h⟩ := h
  unfold CellsOwn at h
  obtain ⟨y3, f3, r3, rfl, c3, o3, h⟩ := h
  unfold CellsOwn at h
  obtain ⟨y4, f4, r4, rfl, c4, o4, h⟩ := h
  unfold CellsOwn at h
  obtain ⟨y5, f5, r5, rfl, c5, o5, h⟩ := h
  unfold CellsOwn at h
  obtain ⟨y6, f6, r6, rfl, c6, o6, h⟩ := h
  unfold CellsOwn at h
  obtain ⟨y7, f7, r7, rfl, c7, o7, h⟩ := h
  unfold CellsOwn at h
  obtain ⟨y8, f8, r8, rfl, c8, o8, h⟩ := h
  unfold CellsOwn at h
  unfold COwn at o0 o1 o2 o3 o5 o7
  obtain ⟨rfl, rfl⟩ := o0
  obtain ⟨rfl, -, rfl⟩ := o1
  obtain ⟨rfl, rfl⟩ := o2
  obtain ⟨rfl, rfl⟩ := o3
  obtain ⟨rfl, rfl⟩ := o5
  obtain ⟨rfl, rfl⟩ := o7
  subst h
  exact ⟨y4, y6, y8, f4, f6, f8, by simp, c0, c1, c2, c3, c4, c5, c6, c7, c8, o4, o6, o8⟩
/-- How a row is marked, step by step: block b in the row alone, and the blocks of a list, have turned. -/
structure St (wr W : World) (b j : Nat) (ch : List Nat) : Prop where
  chg : Chg (b :: ch) wr W
  far : ∀ o, j * 9 + 9 ≤ o → W.cell? ⟨b, o, none⟩ = wr.cell? ⟨b, o, none⟩
  fro : ∀ o, W.frozen? ⟨b, o, none⟩ = false
theorem St.refl {wr : World} {b j : Nat} (h : ∀ o, wr.frozen? ⟨b, o, none⟩ = false) : St wr wr b j [] := ⟨Chg.refl _ _, fun _ _ => rfl, h⟩
theorem St.set {wr W : World} {b j o : Nat} {ch : List Nat} {v : Value} (h : St wr W b j ch) (ho : o < j * 9 + 9) : St wr (W.setCell ⟨b, o, none⟩ v) b j ch :=
  ⟨h.chg.setCell (by simp) _, fun o' ho' => (World.cell?_setCell_other W _ _ v (fun e => by cases e; omega)).trans (h.far o' ho'), fun o' => (sc_fro _ _ _ _).trans (h.fro o')⟩
theorem St.call {wr W W' : World} {b j : Nat} {ch g : List Nat} (h : St wr W b j ch) (hc : Chg g W W') (hb : b ∉ g) (hl : b < W.heap.size) : St wr W' b j (ch ++ g) :=
  ⟨(h.chg.mono (by simp; intro x hx; exact .inr (.inl hx))).trans (hc.mono (by simp; intro x hx; exact .inr (.inr hx))),
   fun o ho => (World.cell?_of_block (a := ⟨b, o, none⟩) (hc.block b hl hb)).trans (h.far o ho), fun o => (World.frozen?_of_block (a := ⟨b, o, none⟩) (hc.block b hl hb)).trans (h.fro o)⟩
theorem St.below {wr W W' : World} {b j : Nat} {ch : List Nat} (h : St wr W b j ch) (hc : Below W.heap.size W W') (hl : b < W.heap.size) : St wr W' b j ch := by
  have := h.call (Chg.of_below (fp := []) hc) (by simp) hl
  simpa using this
theorem St.own {wr W : World} {b j : Nat} {ch : List Nat} {c : C} {y : Value} {f : List Nat} (h : St wr W b j ch) (ho : COwn wr c y f) (hd : ∀ x ∈ f, x ≠ b ∧ x ∉ ch) : COwn W c y f :=
  COwn.move _ _ _ (fun x hx => h.chg.block x (COwn.lt _ _ _ ho x hx) (by have := hd x hx; simp [this.1, this.2])) ho
theorem chg_cell {w w' : World} {b o : Nat} {g : List Nat} {v : Value} (h : Chg g w w') (hb : b ∉ g) (hc : w.cell? ⟨b, o, none⟩ = some v) : w'.cell? ⟨b, o, none⟩ = some v := h.cell hb hc

theorem Tm.kids_lt_list {ts : List Tm} {t : Tm} (h : t ∈ ts) : SizeOf.sizeOf t.kids < SizeOf.sizeOf ts := by
  have h1 := List.sizeOf_lt_of_mem h
  cases t; simp only [Tm.kids]; simp at h1; omega
set_option maxHeartbeats 8000000 in
theorem markTermS_any (ts : List Tm) : ∀ (m : Int) (s : Value) (fp : List Nat) (w : World), TmsOwn w ts s fp → fp.Nodup → 0 ≤ m → m + Tm.mcnts ts ≤ 1099511627776 →
    Calls Try.prog 25 #[s, .int .i64 m] w fun e w' => e = .returned (.int .i64 (m + Tm.mcnts ts)) ∧ Chg fp w w' := by
  intro m s fp w hown hnd hm0 hmb
  have IH : ∀ t ∈ ts, ∀ (m : Int) (s : Value) (fp : List Nat) (w : World), TmsOwn w t.kids s fp → fp.Nodup → 0 ≤ m → m + Tm.mcnts t.kids ≤ 1099511627776 → Calls Try.prog 25 #[s, .int .i64 m] w fun e w' => e = .returned (.int .i64 (m + Tm.mcnts t.kids)) ∧ Chg fp w w' :=
    fun t ht m s fp w a b c d => markTermS_any t.kids m s fp w a b c d
  unfold TmsOwn COwn at hown
  obtain ⟨a, cap, rfl, h2, h3, h4⟩ := hown
  rw [Tm.rows_length] at h2 ⊢
  unfold maxLen at h3
  have IHH := Lib.hid IH
  clear IH
  obtain ⟨n, hn⟩ : ∃ n, ts.length = n := ⟨_, rfl⟩
  rw [hn] at h2 ⊢
  have HN := Lib.hid hn
  have HMB := Lib.hid hmb
  have hmm : m ≤ 1099511627776 := by omega
  rcases h4 with ⟨h4, rfl⟩ | ⟨b, fps, cs, T, rfl, rfl, hb, hr⟩
  · have hts : ts = [] := by cases ts with | nil => rfl | cons t ts => unfold Tm.rows at h4; cases h4
    subst hts
    have hn0 : n = 0 := by rw [← hn]; rfl
    subst hn0
    clear hmb
    go_enter Try.func25, Try.ntmps25
    go_wp2_with fail
    go_loopw [5, 1] (fun i p wr => i = .int .i64 0 ∧ p = .int .i64 m ∧ wr = w) (fun _ _ _ => 0)
    case atStart => exact ⟨rfl, rfl, rfl⟩
    case round =>
      obtain ⟨rfl, rfl, rfl⟩ := hrel
      go_wp2_with fail
      go_ret
      exact ⟨ret_int (by simp [Tm.mcnts]), Chg.refl _ _⟩
  · have hfz : ∀ o, w.frozen? ⟨b, o, none⟩ = false := fun o => by simp [World.frozen?, hb]
    have hbl : b < w.heap.size := (Array.getElem?_eq_some_iff.1 hb).1
    have HFZ := Lib.hid hfz
    have HR := Lib.hid hr
    have hnd1 := List.nodup_cons.1 hnd
    have HND := Lib.hid hnd1
    have HBL := Lib.hid hbl
    clear hfz hr hb hnd hnd1 hn hbl hmb
    go_enter Try.func25, Try.ntmps25
    go_wp2_with fail
    go_loopw [5, 1] (fun i p wr => ∃ j : Nat, j ≤ n ∧ i = .int .i64 j ∧ (∃ mm : Int, p = .int .i64 mm ∧ 0 ≤ mm ∧ mm ≤ 1099511627776 ∧ Hid (mm + Tm.mcnts (ts.drop j) = m + Tm.mcnts ts)) ∧
        Hid (Chg (b :: fps) w wr) ∧ Hid (∀ o, wr.frozen? ⟨b, o, none⟩ = false) ∧ Hid (∃ f2 : List Nat, (∀ x ∈ f2, x ∈ fps) ∧ f2.Nodup ∧ RowsOwn wr b (j * 9) (Tm.rows (ts.drop j)) f2)) (fun i _ _ => n - (intOf i).toNat)
    case atStart => exact ⟨0, by omega, rfl, ⟨m, rfl, hm0, hmm, rfl⟩, Chg.refl _ _, HFZ.out, ⟨fps, fun _ h => h, HND.out.2, by simpa using HR.out⟩⟩
    case round =>
      obtain ⟨j, hj, rfl, ⟨mm, rfl, hq0, hq1, hqe⟩, hcw, hfw, hrw⟩ := hrel
      by_cases hlt : j < n
      · have hjt : j < ts.length := by have := HN.out; omega
        obtain ⟨f2, hsub, hnd2, hro⟩ := hrw.out
        have hde : ts.drop j = ts[j] :: ts.drop (j + 1) := List.drop_eq_getElem_cons hjt
        have hqe2 := hqe.out
        rw [hde] at hro hqe2
        unfold Tm.rows RowsOwn at hro
        obtain ⟨f, f2', rfl, hco, hro2⟩ := hro
        rw [Tm.row_length] at hro2
        have hrl := hro2.lt
        obtain ⟨s1, s2, s3, g1, g2, g3, rfl, c0, c1, c2, c3, c4, c5, c6, c7, c8, o1, o2, o3⟩ := TmCells hco
        have hmc := ts[j].mcnt_eq
        rw [show Tm.mcnts (ts[j] :: ts.drop (j + 1)) = ts[j].mcnt + Tm.mcnts (ts.drop (j + 1)) from by conv => lhs; unfold Tm.mcnts] at hqe2
        have hIH := IHH.out ts[j] (List.getElem_mem hjt)
        generalize ts[j].kind = xk at c0
        generalize ts[j].name = xn at c1
        generalize ts[j].num = xu at c2
        generalize ts[j].type.kind = xt at c3
        generalize ts[j].src.kind = xf at c5
        generalize ts[j].label = xl at c7
        generalize ts[j].type.kids = K1 at o1 hmc
        generalize ts[j].src.kids = K2 at o2 hmc
        generalize ts[j].kids = K3 at o3 hmc hIH
        generalize ts[j].mcnt = mj at hmc hqe2
        obtain ⟨a1, q1, hs1, -⟩ := CRep.rows (COwn.rep (F := fun _ => True) _ _ _ (fun _ _ => trivial) o1)
        obtain ⟨a2, q2, hs2, -⟩ := CRep.rows (COwn.rep (F := fun _ => True) _ _ _ (fun _ _ => trivial) o2)
        obtain ⟨a3, q3, hs3, -⟩ := CRep.rows (COwn.rep (F := fun _ => True) _ _ _ (fun _ _ => trivial) o3)
        subst hs1 hs2 hs3
        rw [Ty.rows_length] at o1 c4 o2 c6
        rw [Tm.rows_length] at o3 c8
        have hnb : ∀ x ∈ (g1 ++ (g2 ++ g3)) ++ f2', x ≠ b := fun x hx e => HND.out.1 (e ▸ hsub x hx)
        obtain ⟨ndA, ndB, ndC⟩ := List.nodup_append.1 hnd2
        obtain ⟨nd1, nd23, nd1'⟩ := List.nodup_append.1 ndA
        obtain ⟨nd2, nd3, nd2'⟩ := List.nodup_append.1 nd23
        have lb0 : b < wr.heap.size := Nat.lt_of_lt_of_le HBL.out hcw.out.size
        have hf0 := hfw.out
        have hmb := HMB.out
        have hn1 : b ∉ g1 := fun h => hnb b (by simp [h]) rfl
        have hn2 : b ∉ g2 := fun h => hnb b (by simp [h]) rfl
        have hn3 : b ∉ g3 := fun h => hnb b (by simp [h]) rfl
        have hd1 : ∀ x ∈ g1, x ≠ b ∧ x ∉ ([] : List Nat) := fun x hx => ⟨hnb x (by simp [hx]), by simp⟩
        have hd2 : ∀ x ∈ g2, x ≠ b ∧ x ∉ [] ++ g1 := fun x hx => ⟨hnb x (by simp [hx]), fun h => nd1' x (by simpa using h) x (by simp [hx]) rfl⟩
        have hd3 : ∀ x ∈ g3, x ≠ b ∧ x ∉ ([] ++ g1) ++ g2 := fun x hx => ⟨hnb x (by simp [hx]), fun h => by
          rcases List.mem_append.1 h with h | h
          · exact nd1' x (by simpa using h) x (by simp [hx]) rfl
          · exact nd2' x h x hx rfl⟩
        have hd4 : ∀ x ∈ f2', x ∉ b :: ((([] ++ g1) ++ g2) ++ g3) := fun x hx h => by
          rcases List.mem_cons.1 h with h | h
          · exact hnb x (by simp [hx]) h
          · exact ndC x (by simpa using h) x hx rfl
        have hsub2 : ∀ x ∈ (([] ++ g1) ++ g2) ++ g3, x ∈ fps := fun x hx => hsub x (by simp at hx ⊢; rcases hx with h | h | h <;> simp [h])
        have hsub3 : ∀ x ∈ f2', x ∈ fps := fun x hx => hsub x (by simp [hx])
        have B1 : mm + 4 + Ty.scnt K1 ≤ 1099511627776 := by omega
        have B2 : mm + 5 + Ty.scnt K1 + Ty.scnt K2 ≤ 1099511627776 := by omega
        have B3 : mm + 6 + Ty.scnt K1 + Ty.scnt K2 + Tm.mcnts K3 ≤ 1099511627776 := by omega
        have hfin : mm + 1 + 1 + 1 + 1 + (Ty.scnt K1 : Int) + 1 + (Ty.scnt K2 : Int) + 1 + (Tm.mcnts K3 : Int) + (Tm.mcnts (ts.drop (j + 1)) : Int) = m + Tm.mcnts ts := by omega
        generalize hrest : Tm.mcnts (ts.drop (j + 1)) = rest at hfin
        have HRO2 := Lib.hid hro2
        have HRL := Lib.hid hrl
        have HFIN := Lib.hid hfin
        have HREST := Lib.hid hrest
        have HD1 := Lib.hid hd1
        have HD2 := Lib.hid hd2
        have HD3 := Lib.hid hd3
        have HD4 := Lib.hid hd4
        have HSUB2 := Lib.hid hsub2
        have HSUB3 := Lib.hid hsub3
        have HN1 := Lib.hid hn1
        have HN2 := Lib.hid hn2
        have HN3 := Lib.hid hn3
        have HND1 := Lib.hid nd1
        have HND2 := Lib.hid nd2
        have HND3 := Lib.hid nd3
        have HNDB := Lib.hid ndB
        have HO1 := Lib.hid o1
        have HO2 := Lib.hid o2
        have HO3 := Lib.hid o3
        have HIH := Lib.hid hIH
        clear hro2 hrl hfin hrest hd1 hd2 hd3 hd4 hsub2 hsub3 hn1 hn2 hn3 nd1 nd2 nd3 ndB nd23 ndA ndC nd1' nd2' o1 o2 o3 hIH hnb hmb hmc hqe2 hsub hnd2 hco hde
        have i1 := IntWalk.i64_in (mm + 1) (by omega)
        have i2 := IntWalk.i64_in (mm + 1 + 1) (by omega)
        have i3 := IntWalk.i64_in (mm + 1 + 1 + 1) (by omega)
        have i4 := IntWalk.i64_in (mm + 1 + 1 + 1 + 1) (by omega)
        have i5 := IntWalk.i64_in (mm + 1 + 1 + 1 + 1 + (Ty.scnt K1 : Int) + 1) (by omega)
        have i6 := IntWalk.i64_in (mm + 1 + 1 + 1 + 1 + (Ty.scnt K1 : Int) + 1 + (Ty.scnt K2 : Int) + 1) (by omega)
        go_wp2_with fail
        refine (markText_any (mm + 1) (by omega) (by omega) _).mono ?_
        rintro e w1 ⟨⟨s', rfl⟩, hb1⟩
        have st1 : St wr w1 b j [] := ((St.refl hf0).set (o := j * 9) (v := .int .i64 mm) (by omega)).below hb1 (by simp; omega)
        have d1 := bcell hb1 (sc_far (p := ⟨b, j * 9, none⟩) (v := .int .i64 mm) c1 (by simp))
        have d2 := bcell hb1 (sc_far (p := ⟨b, j * 9, none⟩) (v := .int .i64 mm) c2 (by simp))
        have d3 := bcell hb1 (sc_far (p := ⟨b, j * 9, none⟩) (v := .int .i64 mm) c3 (by simp))
        have d4 := bcell hb1 (sc_far (p := ⟨b, j * 9, none⟩) (v := .int .i64 mm) c4 (by simp))
        have d5 := bcell hb1 (sc_far (p := ⟨b, j * 9, none⟩) (v := .int .i64 mm) c5 (by simp))
        have d6 := bcell hb1 (sc_far (p := ⟨b, j * 9, none⟩) (v := .int .i64 mm) c6 (by simp))
        have d7 := bcell hb1 (sc_far (p := ⟨b, j * 9, none⟩) (v := .int .i64 mm) c7 (by simp))
        have d8 := bcell hb1 (sc_far (p := ⟨b, j * 9, none⟩) (v := .int .i64 mm) c8 (by simp))
        have hf1 := st1.fro
        have lb1 : b < w1.heap.size := World.block_lt_of_cell? _ _ d1
        have HST1 := Lib.hid st1
        clear c0 c1 c2 c3 c4 c5 c6 c7 c8 hf0 lb0 st1 hb1
        go_wp2_with fail
        have sA := Lib.hid (((HST1.out.set (o := j * 9 + 1) (v := .string s') (by omega)).set (o := j * 9 + 2) (v := .int .i64 (mm + 1 + 1)) (by omega)).set (o := j * 9 + 3) (v := .int .i64 (mm + 1 + 1 + 1)) (by omega))
        refine (markTypeS_any K1 (mm + 1 + 1 + 1 + 1) _ g1 _ (sA.out.own HO1.out HD1.out) HND1.out (by omega) (by omega)).mono ?_
        rintro e w2 ⟨rfl, -, hc2⟩
        have st2 := sA.out.call hc2 HN1.out (by simp; omega)
        have F := fun {o : Nat} {v : Value} (h1 : o ≠ j * 9 + 1) (h2 : o ≠ j * 9 + 2) (h3 : o ≠ j * 9 + 3) (h : w1.cell? ⟨b, o, none⟩ = some v) =>
          chg_cell hc2 HN1.out (sc_far (sc_far (sc_far h (fun e => by cases e; exact h1 rfl)) (fun e => by cases e; exact h2 rfl)) (fun e => by cases e; exact h3 rfl))
        have e5 := F (by omega) (by omega) (by omega) d5
        have e6 := F (by omega) (by omega) (by omega) d6
        have e7 := F (by omega) (by omega) (by omega) d7
        have e8 := F (by omega) (by omega) (by omega) d8
        have hf2 := st2.fro
        have lb2 : b < w2.heap.size := World.block_lt_of_cell? _ _ e5
        have HST2 := Lib.hid st2
        clear d1 d2 d3 d4 d5 d6 d7 d8 hf1 lb1 st2 sA F hc2 HST1
        go_wp2_with fail
        have sB := Lib.hid (HST2.out.set (o := j * 9 + 5) (v := .int .i64 (mm + 1 + 1 + 1 + 1 + (Ty.scnt K1 : Int))) (by omega))
        refine (markTypeS_any K2 (mm + 1 + 1 + 1 + 1 + (Ty.scnt K1 : Int) + 1) _ g2 _ (sB.out.own HO2.out HD2.out) HND2.out (by omega) (by omega)).mono ?_
        rintro e w3 ⟨rfl, -, hc3⟩
        have st3 := sB.out.call hc3 HN2.out (by simp; omega)
        have F := fun {o : Nat} {v : Value} (h1 : o ≠ j * 9 + 5) (h : w2.cell? ⟨b, o, none⟩ = some v) =>
          chg_cell hc3 HN2.out (sc_far h (fun e => by cases e; exact h1 rfl))
        have x7 := F (by omega) e7
        have x8 := F (by omega) e8
        have hf3 := st3.fro
        have lb3 : b < w3.heap.size := World.block_lt_of_cell? _ _ x7
        have HST3 := Lib.hid st3
        clear e5 e6 e7 e8 hf2 lb2 st3 sB F hc3 HST2
        go_wp2_with fail
        have sC := Lib.hid (HST3.out.set (o := j * 9 + 7) (v := .int .i64 (mm + 1 + 1 + 1 + 1 + (Ty.scnt K1 : Int) + 1 + (Ty.scnt K2 : Int))) (by omega))
        refine (HIH.out (mm + 1 + 1 + 1 + 1 + (Ty.scnt K1 : Int) + 1 + (Ty.scnt K2 : Int) + 1) _ g3 _ (sC.out.own HO3.out HD3.out) HND3.out (by omega) (by omega)).mono ?_
        rintro e w4 ⟨rfl, hc4⟩
        have st4 := Lib.hid (sC.out.call hc4 HN3.out (by simp; omega))
        clear x7 x8 hf3 lb3 sC hc4 HST3
        go_wp2_with fail
        go_roundw
        case rel => exact ⟨j + 1, by omega, by go_num, ⟨_, rfl, by omega, by omega, by unfold Hid; rw [HREST.out]; exact HFIN.out⟩, hcw.out.trans (st4.out.chg.mono (fun x hx => by rcases List.mem_cons.1 hx with h | h <;> simp [h]; exact .inr (HSUB2.out x h))), st4.out.fro,
          ⟨f2', HSUB3.out, HNDB.out, by
            rw [show (j + 1) * 9 = j * 9 + 9 from by omega]
            exact RowsOwn.move _ _ _ (fun x hx => st4.out.chg.block x (HRL.out x hx) (HD4.out x hx)) (fun o ho _ => st4.out.far o (by omega)) HRO2.out⟩⟩
        case measure => simp [intOf]; omega
      · have hlast : mm = m + Tm.mcnts ts := by
          have h := hqe.out
          rw [List.drop_eq_nil_of_le (by have := HN.out; omega)] at h
          simp only [Tm.mcnts] at h
          omega
        have HL := Lib.hid hlast
        clear hlast
        go_wp2_with fail
        go_ret
        exact ⟨ret_int HL.out, hcw.out⟩
termination_by SizeOf.sizeOf ts
decreasing_by exact Tm.kids_lt_list ht
end Go.Proofs.Ytkhmkohgnikcmaa
