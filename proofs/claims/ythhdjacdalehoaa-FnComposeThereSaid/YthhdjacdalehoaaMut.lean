/-
  Copies whose row has grown; types are changed.
-/
import Derived.Test.YthhdjacdalehoaaB5
import Derived.Test.YthhdjacdalehoaaB5
namespace Go.Proofs.Ythhdjacdalehoaa
open Go.RowKit
set_option linter.unusedVariables false
set_option linter.unusedSimpArgs false
set_option maxRecDepth 100000

/-- A type whose operands' slice has grown in place. -/
def RetAcc (k : Int) (ts : List Ty) (w : World) (e : Ending) (w' : World) : Prop := ∃ (v : Value) (B : Nat), e = .returned (.agg #[.int .i64 k, v]) ∧ w.heap.size ≤ B ∧ B ≤ w'.heap.size ∧ AccNew B 38 2 w' v ts.length (Ty.rows ts) ∧ Below w.heap.size w w'
set_option maxHeartbeats 4000000 in
theorem specL1CopyA (F : Nat → Prop) (k : Int) (ts : List Ty) : ∀ (y : Value) (w : World), TyRep F w (.mk k ts) y → (Ty.mk k ts).cnt ≤ 1048576 →
    Calls Try.prog 71 #[y] w (RetAcc k ts w) := by
  intro y w hy hcnt
  have IH : ∀ t' ∈ ts, ∀ (y : Value) (W : World), TyRep F W t' y → Calls Try.prog 71 #[y] W (RetTy t' W) :=
    fun t' ht y W h => specL1Copy F t' y W h (by have := Ty.cnt_kid (t := Ty.mk k ts) ht; omega)
  obtain ⟨a, cap, rfl, h2, h3, hr⟩ := hy.open
  simp only [Ty.kind, Ty.kids] at *
  unfold maxLen at h3
  have IHH := Lib.hid IH
  have HCN := Lib.hid (show ts.length ≤ 1048576 by simp only [Ty.cnt] at hcnt; omega)
  clear IH hy hcnt
  unfold RetAcc
  obtain ⟨n, hn⟩ : ∃ n, ts.length = n := ⟨_, rfl⟩
  rw [hn] at h2 hr HCN
  rw [hn]
  have HN := Lib.hid hn
  clear hn
  obtain ⟨i0, hi, hz0, hz1, hz2⟩ := info_parts Try.infoTy
  have Z0 := Lib.hid hz0
  have Z1 := Lib.hid hz1
  have Z2 := Lib.hid hz2
  have HI := Lib.hid hi
  clear hz0 hz1 hz2 hi
  go_enter Try.func71, Try.ntmps71
  go_wp2_with fail
  go_loopw [4] (fun i wr => ∃ j : Nat, j ≤ n ∧ i = .int .i64 j ∧ Below w.heap.size w wr ∧ w.heap.size + 1 + 1 < wr.heap.size ∧ (∃ u, wr.cell? ⟨w.heap.size + 1, 0, none⟩ = some u) ∧ (∃ u, wr.cell? ⟨w.heap.size + 1, 1, none⟩ = some u) ∧
      (∀ o, wr.frozen? ⟨w.heap.size + 1, o, none⟩ = false) ∧ (∀ o, wr.frozen? ⟨w.heap.size + 1 + 1, o, none⟩ = false) ∧ wr.cell? ⟨w.heap.size + 1 + 1, 0, none⟩ = some (.int .i64 k) ∧ wr.cell? ⟨w.heap.size, 1, none⟩ = some (.slice a n cap) ∧
      ∃ v, wr.cell? ⟨w.heap.size + 1 + 1, 1, none⟩ = some v ∧ AccNew (w.heap.size + 1 + 1 + 1) 38 2 wr v j (Ty.rows (ts.take j))) (fun i _ => n - (intOf i).toNat)
  case atStart => exact ⟨0, by omega, rfl, bal3, by simp, ⟨.int .i64 0, bcell bal1 (cell_n1 0)⟩, ⟨.slice none 0 0, bcell bal1 (cell_n1 1)⟩, fun o => bfro bal1 (by simp) (fro_n1 o), fun o => fro_n2 o, cell_n2 0, bcell bal1 (bcell bal1 (cell_n0 1)), .slice none 0 0, cell_n2 1, by simpa [Ty.rows] using AccNew.nil _ _ _ _⟩
  case round =>
    obtain ⟨j, hj, rfl, hbw, hsz, ⟨u0, hu0⟩, ⟨u1, hu1⟩, hf1, hf2, hk0, hlb0, v, hv, hacc⟩ := hrel
    by_cases hlt : j < n
    · have hjt : j < ts.length := by rw [HN.out]; exact hlt
      obtain ⟨b, off, k0, a0, m0, q0, rfl, l0, e0, e1, ht⟩ := hr.at hbw hjt
      have HC := Lib.hid (fun W (h : Below wr.heap.size wr W) => IHH.out ts[j] (List.getElem_mem hjt) _ W (ht.below h))
      obtain ⟨xs, fps, ho, hl, hs, hd, hfp⟩ := hacc
      have HO := Lib.hid ho
      have HS := Lib.hid hs
      have HD := Lib.hid hd
      have HFP := Lib.hid hfp
      have HL := Lib.hid hl
      clear ho hs hd hfp hl
      obtain ⟨cv, qv, rfl⟩ : ∃ c q, v = .slice c j q := by
        rcases HO.out.2 with ⟨h, h0⟩ | ⟨g, cap, cur, h, _⟩
        · exact ⟨none, 0, by rw [h, h0]⟩
        · exact ⟨_, cap, h⟩
      go_wp2_with fail
      have hB3 : w.heap.size + 1 + 1 + 1 ≤ wr.heap.size := by omega
      go_region_law (first
        | (go_simp; go_at_call 71; refine (HC.out _ bdr).mono ?_; rintro e w1 ⟨v1, rfl, hv1, hb1⟩; obtain ⟨k1, c1, m1, q1, fp1, rfl, -, -, hs1, hd1, hx1⟩ := hv1.open; have hq1 : w1.cell? ⟨w.heap.size + 1 + 1, 1, none⟩ = some (.slice cv j qv) := bcell (bstep bdr hb1) hv; have hbz := hb1.size; have hl1 : w.heap.size + 1 + 1 < w1.heap.size := World.block_lt_of_cell? _ _ hq1)
        | (refine step_append_lies _ (by rfl) (.tmp 16) (.tmp 23) 36 (by rfl) (w.heap.size + 1 + 1 + 1) 38 i0 _ 2 32 Try.underlying36 HI.out Z0.out Z1.out Z2.out rfl (by omega) (.slice cv j qv) j xs (by rfl) (ownsRow_below HO.out (bstep (bstep bdr hb1) bal1))
            ⟨w1.heap.size, 0, none⟩ 1 1 [.int .i64 k1, .slice c1 m1 q1] (by rfl) (by rfl) (World.news_of_block (cs := #[.int .i64 k1, .slice c1 m1 q1]) (t := 38) (fr := (0, 0)) (heap_alloc_new w1 _)) (by simp [Value.oneCell'])
            (by omega) (by have := HCN.out; unfold maxLen; omega) (by have := HCN.out; omega) (by simp at hbz ⊢; omega) _ rfl ?_
           intro gg cap2 w2 hown2 hgrow hat hlt2
           have hfar := grown_far (bstep (bstep bdr hb1) bal1) HO.out hgrow
           have hq : w2.cell? ⟨w.heap.size + 1 + 1, 1, none⟩ = some (.slice cv j qv) := (World.cell?_of_block (a := ⟨w.heap.size + 1 + 1, 1, none⟩) (hfar (w.heap.size + 1 + 1) (by omega) (by omega))).trans hv
           have hqf : w2.frozen? ⟨w.heap.size + 1 + 1, 1, none⟩ = false := (World.frozen?_of_block (a := ⟨w.heap.size + 1 + 1, 1, none⟩) (hfar (w.heap.size + 1 + 1) (by omega) (by omega))).trans (hf2 _)
           have HFAR := Lib.hid hfar
           have hacc2 := AccNew.push HL.out HO.out HS.out HD.out HFP.out hB3 (bstep (bstep bdr hb1) bal1) (by simp) (hs1.move _ _ _ fun b hb => heap_alloc_old w1 _ (SOwn.lt _ _ _ hs1 b hb)) hd1 hx1 hown2 hgrow hat
           have HACC := Lib.hid hacc2
           have hbel := grown_below hbw (bstep (bstep bdr hb1) bal1) HO.out (by omega) hgrow
           have hsz2 : wr.heap.size ≤ w2.heap.size := Nat.le_trans (bstep (bstep bdr hb1) bal1).size hgrow.size
           clear hfar hacc2 hown2 hgrow hat hq1))
      all_goals
        go_wp2_with fail
        go_roundw
        case rel =>
          have c1 : (w2.setCell ⟨w.heap.size + 1 + 1, 1, none⟩ (.slice (some ⟨gg, 0, none⟩) (j + 1) cap2)).heap[w.heap.size + 1]? = wr.heap[w.heap.size + 1]? :=
            (Below.heap_setCell w2 ⟨w.heap.size + 1 + 1, 1, none⟩ _ _ (by show w.heap.size + 1 ≠ w.heap.size + 1 + 1; omega)).trans (HFAR.out (w.heap.size + 1) (by omega) (by omega))
          have hk2 := (World.cell?_of_block (a := ⟨w.heap.size + 1 + 1, 0, none⟩) (HFAR.out (w.heap.size + 1 + 1) (by omega) (by omega))).trans hk0
          have hf4 := fun o => (World.frozen?_of_block (a := ⟨w.heap.size + 1 + 1, o, none⟩) (HFAR.out (w.heap.size + 1 + 1) (by omega) (by omega))).trans (hf2 o)
          refine ⟨j + 1, by omega, by go_num, hbel.setCell (by show w.heap.size ≤ w.heap.size + 1 + 1; omega) _, by simp [World.setCell]; omega, ⟨u0, (World.cell?_of_block (a := ⟨w.heap.size + 1, 0, none⟩) c1).trans hu0⟩, ⟨u1, (World.cell?_of_block (a := ⟨w.heap.size + 1, 1, none⟩) c1).trans hu1⟩,
            fun o => (World.frozen?_of_block (a := ⟨w.heap.size + 1, o, none⟩) c1).trans (hf1 o), fun o => (sc_fro _ _ _ _).trans (hf4 o), sc_far hk2 (by simp), (World.cell?_of_block (a := ⟨w.heap.size, 1, none⟩) ((Below.heap_setCell w2 ⟨w.heap.size + 1 + 1, 1, none⟩ _ _ (by show w.heap.size ≠ w.heap.size + 1 + 1; omega)).trans (HFAR.out (w.heap.size) (by omega) (by omega)))).trans hlb0, _, sc_self hq, ?_⟩
          have h := HACC.out.setCell (p := ⟨w.heap.size + 1 + 1, 1, none⟩) (by show w.heap.size + 1 + 1 < w.heap.size + 1 + 1 + 1; omega) (.slice (some ⟨gg, 0, none⟩) (j + 1) cap2)
          rw [Ty.rows_eq] at h ⊢
          rw [List.take_succ_eq_append_getElem hjt, List.map_append]
          exact h
        case measure => simp [intOf]; omega
    · obtain ⟨cv, qv, rfl⟩ := hacc.shape
      have f0 := hf1 0
      have f1 := hf1 1
      go_wp2_with fail
      refine bodyPost_ret (v := .agg #[.int .i64 k, .slice cv j qv]) (by simp [results, Try.results71, go_sem, hu0, hu1]) rfl ?_
      have hjn : j = n := by omega
      rw [List.take_of_length_le (by rw [HN.out]; omega)] at hacc
      subst hjn
      refine ⟨_, w.heap.size + 1 + 1 + 1, rfl, by omega, by simp [World.setCell]; omega, (hacc.setCell (p := ⟨w.heap.size + 1, 0, none⟩) (by show w.heap.size + 1 < w.heap.size + 1 + 1 + 1; omega) _).setCell (p := ⟨w.heap.size + 1, 1, none⟩) (by show w.heap.size + 1 < w.heap.size + 1 + 1 + 1; omega) _, ?_⟩
      exact (hbw.setCell (by show w.heap.size ≤ w.heap.size + 1; omega) _).setCell (by show w.heap.size ≤ w.heap.size + 1; omega) _

theorem AccNew.chg {B r : Nat} {e : TypeId} {size n : Nat} {w w' : World} {v : Value} {rows : List (List C)} (h : AccNew B e size w v n rows) (k : Chg [r] w w') (hr : r < B) : AccNew B e size w' v n rows := by
  obtain ⟨xs, fps, h1, h2, h3, h4, h5⟩ := h
  exact ⟨xs, fps, ownsRow_chg h1 k hr, h2, h3.move _ _ _ (fun b hx => k.block b (SRows.lt _ _ _ h3 b hx) (by have := (h5 b hx).1; simp; omega)), h4, h5⟩
/-- A reading that stays away from a block, above another one. -/
def Off (B o : Nat) (b : Nat) : Prop := B ≤ b ∧ b ≠ o
theorem TyRep.offSet {B o : Nat} {w : World} {t : Ty} {y : Value} (h : TyRep (Off B o) w t y) {p : Addr} (hp : p.block < B ∨ p.block = o) (v : Value) : TyRep (Off B o) (w.setCell p v) t y :=
  h.move ⟨by simp [World.setCell], fun _ h _ => h, fun b hb _ => Below.heap_setCell w p v b (fun e => by rcases hp with hp | hp; exact absurd hb.1 (by omega); exact hb.2 (e.trans hp))⟩
theorem TyRep.offTwo {B o : Nat} {w : World} {b cap : Nat} {k : Int} {t u : Ty} {k1 k2 : Int} {c1 c2 : Value} (hF : Off B o b) (hc : 2 ≤ cap) (hm : cap ≤ maxLen)
    (e0 : w.cell? ⟨b, 0, none⟩ = some (.int .i64 k1)) (e1 : w.cell? ⟨b, 1, none⟩ = some c1) (e2 : w.cell? ⟨b, 2, none⟩ = some (.int .i64 k2)) (e3 : w.cell? ⟨b, 3, none⟩ = some c2)
    (ht : TyRep (Off B o) w t (.agg #[.int .i64 k1, c1])) (hu : TyRep (Off B o) w u (.agg #[.int .i64 k2, c2])) : TyRep (Off B o) w (Ty.mk k [t, u]) (.agg #[.int .i64 k, .slice (some ⟨b, 0, none⟩) 2 cap]) := TyRep.two_mk hF hc hm e0 e1 e2 e3 ht hu
/-- What l1Mutate leaves. -/
theorem mut_end {r p q m B o R : Nat} {w w0 : World} {u : Ty} {k : Int} {c : Value} (hch : Chg [r] w w0) (hrd : RdAt w0 r q) (hq : q ≤ p + 200) (hu : TyRep (Off B o) w0 u (.agg #[.int .i64 k, c])) (hm : u.cnt ≤ m) (hB : w.heap.size ≤ B) (hR : w.heap.size ≤ R) (hRB : R < B) (hrR : r < R) :
    DT r p m w (.returned (.agg #[.int .i64 k, c])) ((w0.setCell ⟨R, 0, none⟩ (.int .i64 k)).setCell ⟨R, 1, none⟩ c) :=
  ⟨u, _, q, rfl, hm, TyRep.move ((hu.offSet (.inl hRB) _).offSet (.inl hRB) _) (.weaken fun b hb _ => Nat.le_trans hB hb.1), hq, (hrd.setCell (by exact hrR) _).setCell (by exact hrR) _, (hch.trans' hR _).trans' hR _⟩
theorem TysNew.off {B o : Nat} {w : World} {ts : List Ty} {y : Value} (k : Int) (h : TysNew B w ts y) (ho : o < B) : TyRep (Off B o) w (.mk k ts) (.agg #[.int .i64 k, y]) :=
  (TysNew.ty (k := k) h).rep.move (.weaken fun b hb _ => ⟨hb, by show b ≠ o; have : B ≤ b := hb; omega⟩)
theorem ownsRow_rep {P : Nat → Prop} {B : Nat} {e : TypeId} {size n : Nat} {w : World} {v : Value} {xs : List Value} {rows : List (List C)} {fps : List Nat} (h : w.ownsRow B e size v n xs) (h2 : rows.length = n) (h3 : SRows w rows xs fps)
    (hP : ∀ x ∈ fps, P x) (hg : ∀ g, v.ownBlock = some g → P g) : CRep P w (.sl rows) v := by
  obtain ⟨hl, h1⟩ := h
  rcases h1 with ⟨rfl, rfl⟩ | ⟨g, cap, cur, rfl, hb, hgb, hn, hc, hs, ht⟩
  · obtain rfl : rows = [] := List.eq_nil_of_length_eq_zero h2
    unfold CRep
    exact ⟨none, 0, rfl, Nat.le_refl _, by unfold maxLen; omega, .inl rfl⟩
  · have hr : RowsOwn w g 0 rows fps := h3.rows _ _ _ 0 (fun i hi => by
      rw [← ht] at hi ⊢
      simp only [World.cell?, hgb]
      simp only [List.length_take] at hi
      simp
      rw [List.getElem?_take_of_lt (by omega), Array.getElem?_toList])
    unfold CRep
    exact ⟨_, cap, by rw [h2], by omega, hc, .inr ⟨g, 0, rfl, hg g rfl, (Array.getElem?_eq_some_iff.1 hgb).1, RowsOwn.rep 0 rows fps hP hr⟩⟩

set_option maxHeartbeats 8000000 in
theorem specL1Mutate (r p m : Nat) (t : Ty) (y : Value) (w : World) (h : RdAt w r p) (ht : TyRep (· ≠ r) w t y) (hm : t.cnt ≤ m) (hm2 : m ≤ 100) (hp : p ≤ 1000000) :
    Calls Try.prog 52 #[.pointer (some ⟨r, 0, none⟩), y] w (DT r p (m + 10) w) := by
  obtain ⟨k0, a0, n0, q0, rfl⟩ := ht.shape
  have hrl := h.1
  cases t with | mk kt ts =>
  obtain ⟨i0, hi, hz0, hz1, hz2⟩ := info_parts Try.infoTy
  have Z0 := Lib.hid hz0
  have Z1 := Lib.hid hz1
  have Z2 := Lib.hid hz2
  have HI := Lib.hid hi
  clear hz0 hz1 hz2 hi
  have hcn : ts.length + Ty.cnts ts ≤ m := by simpa only [Ty.cnt] using hm
  go_enter Try.func52, Try.ntmps52
  go_wp2_with fail
  refine (specL1CopyA _ kt ts _ _ (ht.below bal2) (by omega)).mono ?_
  rintro e w1 ⟨v, B, rfl, hB1, hB2, hacc, hb1⟩
  clear ht hm
  simp only [World.size_alloc] at hB1
  obtain ⟨cv, qv, rfl⟩ := hacc.shape
  have hz1 := hb1.size
  simp only [World.size_alloc] at hz1
  have x0 : w1.cell? ⟨w.heap.size + 1, 0, none⟩ = some (.int .i64 0) := bcell hb1 (cell_n1 0)
  have x1 : w1.cell? ⟨w.heap.size + 1, 1, none⟩ = some (.slice none 0 0) := bcell hb1 (cell_n1 1)
  have f0 : w1.frozen? ⟨w.heap.size + 1, 0, none⟩ = false := bfro hb1 (by simp) (fro_n1 0)
  have f1 : w1.frozen? ⟨w.heap.size + 1, 1, none⟩ = false := bfro hb1 (by simp) (fro_n1 1)
  have hrd1 := (h.below bal2).below hb1
  have hch1 : Chg [r] w w1 := Chg.of_below (bstep bal2 hb1)
  clear h
  go_wp2_with fail
  refine (specPick r p 40 _ (hrd1.below bal1) (by omega) (by omega)).mono ?_
  rintro e w2 ⟨pk, rfl, pk0, pk4, hrd2, hc2⟩
  have hch2 : Chg [r] w w2 := (hch1.trans (Chg.of_below bal1)).trans hc2
  have hz2 := hc2.size
  simp only [World.size_alloc] at hz2
  have o0 : w2.cell? ⟨w1.heap.size, 0, none⟩ = some (.int .i64 kt) := ccell hc2 (by omega) (cell_n0 0)
  have o1 : w2.cell? ⟨w1.heap.size, 1, none⟩ = some (.slice cv ts.length qv) := ccell hc2 (by omega) (cell_n0 1)
  have g0 : w2.frozen? ⟨w1.heap.size, 0, none⟩ = false := cfroc hc2 (by omega) (cell_n0 0) (fro_n0 0)
  have g1 : w2.frozen? ⟨w1.heap.size, 1, none⟩ = false := cfroc hc2 (by omega) (cell_n0 1) (fro_n0 1)
  replace f0 : w2.frozen? ⟨w.heap.size + 1, 0, none⟩ = false := cfroc hc2 (by omega) (bcell bal1 x0) (bfroc bal1 x0 f0)
  replace f1 : w2.frozen? ⟨w.heap.size + 1, 1, none⟩ = false := cfroc hc2 (by omega) (bcell bal1 x1) (bfroc bal1 x1 f1)
  replace x0 : w2.cell? ⟨w.heap.size + 1, 0, none⟩ = some (.int .i64 0) := ccell hc2 (by omega) (bcell bal1 x0)
  replace x1 : w2.cell? ⟨w.heap.size + 1, 1, none⟩ = some (.slice none 0 0) := ccell hc2 (by omega) (bcell bal1 x1)
  have hlto : w1.heap.size < w2.heap.size := by omega
  -- what was copied stays away from the variable
  have hreps : TyRep (Off B w1.heap.size) w2 (.mk kt ts) (.agg #[.int .i64 kt, .slice cv ts.length qv]) := by
    have h1 : TyRep (Off B w1.heap.size) w1 (.mk kt ts) (.agg #[.int .i64 kt, .slice cv ts.length qv]) := by
      obtain ⟨fp, e1, e2, e3⟩ := hacc.own
      exact ⟨_, rfl, COwn.rep _ _ _ (fun b hb => ⟨e3 b hb, fun e => by have := COwn.lt _ _ _ e1 b hb; omega⟩) e1⟩
    exact (h1.below bal1).move (hc2.keeps (fun b hb => by have := hb.1; simp; omega))
  have HREP := Lib.hid (fun (k' : Int) => (show TyRep (Off B w1.heap.size) w2 (.mk k' ts) (.agg #[.int .i64 k', .slice cv ts.length qv]) from ⟨_, rfl, hreps.parts.2⟩))
  clear hreps
  by_cases h1 : pk = 0
  · subst h1
    clear pk0 pk4 hacc
    go_wp2_with fail
    refine (specNum (fun _ => True) r (p + 1) _ 5 5 _ (hrd2.below bal1) (by omega) (by omega) (by omega) (Nat.le_refl _) (by omega) (ints_cell [0, 6, 1, 4, -1] rfl _ (fun _ _ => trivial))).mono ?_
    rintro e w3 ⟨kn, rfl, -, hrd3, hc3⟩
    have hrep3 := ((HREP.out kn).below bal1).move (hc3.keeps (fun b hb => by have := hb.1; simp; omega))
    have hch3 := (hch2.trans (Chg.of_below bal1)).trans hc3
    replace g0 : w3.frozen? ⟨w1.heap.size, 0, none⟩ = false := cfroc hc3 (by omega) (bcell bal1 o0) (bfroc bal1 o0 g0)
    replace o0 : w3.cell? ⟨w1.heap.size, 0, none⟩ = some (.int .i64 kt) := ccell hc3 (by omega) (bcell bal1 o0)
    replace o1 : w3.cell? ⟨w1.heap.size, 1, none⟩ = some (.slice cv ts.length qv) := ccell hc3 (by omega) (bcell bal1 o1)
    replace f0 : w3.frozen? ⟨w.heap.size + 1, 0, none⟩ = false := cfroc hc3 (by omega) (bcell bal1 x0) (bfroc bal1 x0 f0)
    replace f1 : w3.frozen? ⟨w.heap.size + 1, 1, none⟩ = false := cfroc hc3 (by omega) (bcell bal1 x1) (bfroc bal1 x1 f1)
    replace x0 : w3.cell? ⟨w.heap.size + 1, 0, none⟩ = some (.int .i64 0) := ccell hc3 (by omega) (bcell bal1 x0)
    replace x1 : w3.cell? ⟨w.heap.size + 1, 1, none⟩ = some (.slice none 0 0) := ccell hc3 (by omega) (bcell bal1 x1)
    have HEND := Lib.hid (mut_end (R := w.heap.size + 1) (m := m + 10) (p := p) (hch3.trans' (p := ⟨w1.heap.size, 0, none⟩) (by show w.heap.size ≤ w1.heap.size; omega) (.int .i64 kn)) (hrd3.setCell (a := ⟨w1.heap.size, 0, none⟩) (by show r < w1.heap.size; omega) (.int .i64 kn)) (by omega) (hrep3.offSet (p := ⟨w1.heap.size, 0, none⟩) (.inr rfl) (.int .i64 kn)) (by simp only [Ty.cnt]; omega) (by omega) (by omega) (by omega) (by omega))
    have hne : w1.heap.size ≠ w.heap.size + 1 := by omega
    have hne' : w.heap.size + 1 ≠ w1.heap.size := by omega
    go_wp2_with fail
    refine bodyPost_ret (v := .agg #[.int .i64 kn, .slice cv ts.length qv]) (by simp [results, Try.results52, go_sem, x0, x1]) rfl ?_
    exact HEND.out
  by_cases h2 : pk = 1
  · subst h2
    clear pk0 pk4 HREP h1
    obtain ⟨xs, fps, ho1, hl, hs1, hd, hfp⟩ := hacc
    obtain ⟨n, hn⟩ : ∃ n, ts.length = n := ⟨_, rfl⟩
    rw [hn] at o1 ho1 hl hcn hc2 hfp
    have HN := Lib.hid hn
    clear hn
    have HOLT := Lib.hid (fun (g : Nat) (hg : (Value.slice cv n qv).ownBlock = some g) => ho1.lt g hg)
    have HFPL := Lib.hid (fun (b : Nat) (hb : b ∈ fps) => SRows.lt _ _ _ hs1 b hb)
    have HO := Lib.hid (ownsRow_chg (ownsRow_below ho1 (bal1 (o := .cells #[.int .i64 kt, .slice cv n qv] 38))) hc2 (show r < B by omega))
    have HS := Lib.hid ((hs1.move (w' := w1.alloc (.cells #[.int .i64 kt, .slice cv n qv] 38)) _ _ _ (fun b hx => heap_alloc_old w1 _ (SRows.lt _ _ _ hs1 b hx))).move (w' := w2) _ _ _ (fun b hx => hc2.block b (by have := SRows.lt _ _ _ hs1 b hx; simp; omega) (by have := (hfp b hx).1; simp; omega)))
    have HFP := Lib.hid hfp
    have HL := Lib.hid hl
    have HLEN := Lib.hid (show n ≤ 100 by omega)
    clear ho1 hs1 hd hfp hl
    have hB3 : B ≤ w2.heap.size := by omega
    go_wp2_with fail
    go_region_law (first
      | (go_simp; go_at_call 72; refine (specL1Any _).mono ?_; rintro e w3 ⟨v3, rfl, hv3, hb3⟩; obtain ⟨k3, c3, m3, q3, fp3, rfl, -, -, hs3, hd3, hx3⟩ := hv3.open; have hqq : w3.cell? ⟨w1.heap.size, 1, none⟩ = some (.slice cv n qv) := bcell (bstep bdr hb3) o1; have hbz := hb3.size; have hl3 := World.block_lt_of_cell? _ _ hqq)
      | (refine step_append_lies _ (by rfl) (.tmp 20) (.tmp 22) 36 (by rfl) (B) 38 i0 _ 2 32 Try.underlying36 HI.out Z0.out Z1.out Z2.out rfl (by omega) (.slice cv n qv) n xs (by rfl) (ownsRow_below HO.out (bstep (bstep bdr hb3) bal1))
          ⟨w3.heap.size, 0, none⟩ 1 1 [.int .i64 k3, .slice c3 m3 q3] (by rfl) (by rfl) (World.news_of_block (cs := #[.int .i64 k3, .slice c3 m3 q3]) (t := 38) (fr := (0, 0)) (heap_alloc_new w3 _)) (by simp [Value.oneCell'])
          (by omega) (by have := HLEN.out; unfold maxLen; omega) (by have := HLEN.out; omega) (by simp at hbz ⊢; omega) _ rfl ?_
         intro gg cap2 w4 hown2 hgrow hat hlt2
         have hW := bstep (bstep bdr hb3) (bal1 (o := .cells #[.int .i64 k3, .slice c3 m3 q3] 38))
         have hfar : ∀ b, b < w2.heap.size → (Value.slice cv n qv).ownBlock ≠ some b → w4.heap[b]? = w2.heap[b]? := fun b hl hn => (hgrow.block b (Nat.lt_of_lt_of_le hl hW.size) (fun e => hn e.symm)).trans (hW.block b hl)
         have hno : ∀ b, w1.heap.size ≤ b ∨ b < B → (Value.slice cv n qv).ownBlock ≠ some b := fun b hb e => by have := HOLT.out b e; omega
         have hq : w4.cell? ⟨w1.heap.size, 1, none⟩ = some (.slice cv n qv) := (World.cell?_of_block (a := ⟨w1.heap.size, 1, none⟩) (hfar (w1.heap.size) (by omega) (hno _ (.inl (Nat.le_refl _))))).trans o1
         have hqf : w4.frozen? ⟨w1.heap.size, 1, none⟩ = false := (World.frozen?_of_block (a := ⟨w1.heap.size, 1, none⟩) (hfar (w1.heap.size) (by omega) (hno _ (.inl (Nat.le_refl _))))).trans g1
         have HFAR := Lib.hid hfar
         have HNO := Lib.hid hno
         have hS4 := SRows.snoc (HS.out.move (w' := w4) _ _ _ fun b hb => hfar b (by have := HFPL.out b hb; omega) (HFP.out b hb).2)
            ((hs3.move _ _ _ fun b hb => heap_alloc_old w3 (.cells #[.int .i64 k3, .slice c3 m3 q3] 38) (SOwn.lt _ _ _ hs3 b hb)).move (w' := w4) _ _ _ fun b hb => hgrow.block b (by have := SOwn.lt _ _ _ hs3 b hb; simp; omega) (fun e => hno b (.inl (by have := hx3 b hb; simp at this; omega)) e.symm))
         have hP4 : ∀ x ∈ fps ++ fp3, Off B w1.heap.size x := fun x hx => by
           rcases List.mem_append.1 hx with hx | hx
           · exact ⟨(HFP.out x hx).1, by have := HFPL.out x hx; omega⟩
           · have := hx3 x hx; simp at this; exact ⟨by omega, by omega⟩
         have hG4 : ∀ g, (Value.slice (some ⟨gg, 0, none⟩) (n + 1) cap2).ownBlock = some g → Off B w1.heap.size g := fun g hg => by
           simp only [Value.ownBlock, Option.some.injEq] at hg
           subst hg
           rcases hat with hat | hat
           · have := HOLT.out _ hat; exact ⟨this.1, by omega⟩
           · simp at hat hbz; exact ⟨by omega, by omega⟩
         have HREP := Lib.hid (ownsRow_rep hown2 (by simp [HL.out]) hS4 hP4 hG4)
         have HBEL := Lib.hid (grown_chg hch2 (Chg.of_below hW) HO.out (by omega) hgrow)
         have HRD := Lib.hid (RdAt.grown (((hrd2.below bdr).below hb3).below bal1) HO.out (by omega) hgrow)
         have hsz4 : w2.heap.size ≤ w4.heap.size := Nat.le_trans hW.size hgrow.size
         clear hfar hno hS4 hP4 hG4 hown2 hgrow hat hqq hW hs3 hx3 hd3))
    all_goals
      have HR2 := Lib.hid (show TyRep (Off B w1.heap.size) w4 (.mk kt (ts ++ [.mk 1 []])) (.agg #[.int .i64 kt, .slice (some ⟨gg, 0, none⟩) (n + 1) cap2]) from ⟨_, rfl, by
        have h := HREP.out
        show CRep _ _ (.sl (Ty.rows (ts ++ [.mk 1 []]))) _
        rw [Ty.rows_eq] at h ⊢
        simpa using h⟩)
      clear HREP
      have HEND := Lib.hid (mut_end (R := w.heap.size + 1) (m := m + 10) (p := p) (HBEL.out.trans' (p := ⟨w1.heap.size, 1, none⟩) (by show w.heap.size ≤ w1.heap.size; omega) (.slice (some ⟨gg, 0, none⟩) (n + 1) cap2)) (HRD.out.setCell (a := ⟨w1.heap.size, 1, none⟩) (by show r < w1.heap.size; omega) (.slice (some ⟨gg, 0, none⟩) (n + 1) cap2)) (by omega) (HR2.out.offSet (p := ⟨w1.heap.size, 1, none⟩) (.inr rfl) (.slice (some ⟨gg, 0, none⟩) (n + 1) cap2)) (by simp [Ty.cnt, Ty.cnts_append, Ty.cnts, HN.out]; omega) (by omega) (by omega) (by omega) (by omega))
      have hq0 : w4.cell? ⟨w1.heap.size, 0, none⟩ = some (.int .i64 kt) := (World.cell?_of_block (a := ⟨w1.heap.size, 0, none⟩) (HFAR.out (w1.heap.size) (by omega) (HNO.out _ (.inl (Nat.le_refl _))))).trans o0
      replace f0 : w4.frozen? ⟨w.heap.size + 1, 0, none⟩ = false := (World.frozen?_of_block (a := ⟨w.heap.size + 1, 0, none⟩) (HFAR.out (w.heap.size + 1) (by omega) (HNO.out (w.heap.size + 1) (.inr (by omega))))).trans f0
      replace f1 : w4.frozen? ⟨w.heap.size + 1, 1, none⟩ = false := (World.frozen?_of_block (a := ⟨w.heap.size + 1, 1, none⟩) (HFAR.out (w.heap.size + 1) (by omega) (HNO.out (w.heap.size + 1) (.inr (by omega))))).trans f1
      replace x0 : w4.cell? ⟨w.heap.size + 1, 0, none⟩ = some (.int .i64 0) := (World.cell?_of_block (a := ⟨w.heap.size + 1, 0, none⟩) (HFAR.out (w.heap.size + 1) (by omega) (HNO.out (w.heap.size + 1) (.inr (by omega))))).trans x0
      replace x1 : w4.cell? ⟨w.heap.size + 1, 1, none⟩ = some (.slice none 0 0) := (World.cell?_of_block (a := ⟨w.heap.size + 1, 1, none⟩) (HFAR.out (w.heap.size + 1) (by omega) (HNO.out (w.heap.size + 1) (.inr (by omega))))).trans x1
      have hne : w1.heap.size ≠ w.heap.size + 1 := by omega
      have hne' : w.heap.size + 1 ≠ w1.heap.size := by omega
      go_wp2_with fail
      refine bodyPost_ret (v := .agg #[.int .i64 kt, .slice (some ⟨gg, 0, none⟩) (n + 1) cap2]) (by simp [results, Try.results52, go_sem, x0, x1]) rfl ?_
      exact HEND.out
  by_cases h3 : pk = 2
  · subst h3
    clear pk0 pk4 hacc h1 h2
    go_wp2_with fail
    go_loopw [6] (fun i wr => ∃ j : Nat, j ≤ 4 ∧ i = .int .i64 j ∧ Chg [r] w wr ∧ w1.heap.size < wr.heap.size ∧ RdAt wr r (p + 1) ∧ wr.cell? ⟨w.heap.size + 1, 0, none⟩ = some (.int .i64 0) ∧ wr.cell? ⟨w.heap.size + 1, 1, none⟩ = some (.slice none 0 0) ∧
        wr.frozen? ⟨w.heap.size + 1, 0, none⟩ = false ∧ wr.frozen? ⟨w.heap.size + 1, 1, none⟩ = false ∧ wr.frozen? ⟨w1.heap.size, 0, none⟩ = false ∧ wr.frozen? ⟨w1.heap.size, 1, none⟩ = false ∧
        ∃ (u : Ty) (k : Int) (a : Option Addr) (n q : Nat), u.cnt ≤ m + 2 * j ∧ wr.cell? ⟨w1.heap.size, 0, none⟩ = some (.int .i64 k) ∧ wr.cell? ⟨w1.heap.size, 1, none⟩ = some (.slice a n q) ∧ TyRep (Off B w1.heap.size) wr u (.agg #[.int .i64 k, .slice a n q])) (fun i _ => 4 - (intOf i).toNat)
    case atStart => exact ⟨0, by omega, rfl, hch2, hlto, hrd2, x0, x1, f0, f1, g0, g1, .mk kt ts, kt, cv, ts.length, qv, by simp only [Ty.cnt]; omega, o0, o1, HREP.out kt⟩
    case round =>
      obtain ⟨j, hj, rfl, hcr, hlr, hrdr, y0, y1, fy0, fy1, go0, go1, u, k, a, n, q, hcu, c0, c1, hu⟩ := hrel
      by_cases hlt : j < 4
      · go_wp2_with fail
        go_region_law (go_simp; go_at_call 72; refine (specL1Any _).mono ?_; rintro e w3 ⟨v3, rfl, hv3, hb3⟩; obtain ⟨k3, a3, n3, q3, rfl⟩ := hv3.shape; have fo0 : w3.frozen? ⟨w1.heap.size, 0, none⟩ = false := bfroc hb3 (dcell c0) (dfro go0); have fo1 : w3.frozen? ⟨w1.heap.size, 1, none⟩ = false := bfroc hb3 (dcell c1) (dfro go1); have co0 : w3.cell? ⟨w1.heap.size, 0, none⟩ = some (.int .i64 k) := bcell hb3 (dcell c0); have co1 : w3.cell? ⟨w1.heap.size, 1, none⟩ = some (.slice a n q) := bcell hb3 (dcell c1); have d0 := World.block_lt_of_cell? _ _ co0; have hbz := hb3.size)
        all_goals
          go_wp2_with fail
          go_roundw
          case rel =>
            have hu3 := (hu.below bdr).below hb3
            have hv3' : TyRep (Off B w1.heap.size) w3 (.mk 1 []) (.agg #[.int .i64 k3, .slice a3 n3 q3]) :=
              hv3.rep.move (.weaken fun b hb _ => ⟨by have : wr.drew.heap.size ≤ b := hb; simp at this; omega, by show b ≠ w1.heap.size; have : wr.drew.heap.size ≤ b := hb; simp at this; omega⟩)
            simp only [World.size_drew] at hbz
            have hB3 : B ≤ w3.heap.size := by omega
            have ho3 : w3.heap.size ≠ w1.heap.size := by omega
            have hO : w.heap.size ≤ w1.heap.size := by omega
            have hR : w.heap.size + 1 ≠ w1.heap.size := by omega
            have hrO : r < w1.heap.size := by omega
            have st : ∀ (t' : Ty) (v' : Value), TyRep (Off B w1.heap.size) w3 t' v' → TyRep (Off B w1.heap.size) (((w3.setCell ⟨w1.heap.size, 0, none⟩ (.int .i64 4)).setCell ⟨w1.heap.size, 1, none⟩ (.slice (some ⟨w3.heap.size, 0, none⟩) 2 2)).alloc (.cells #[.int .i64 k3, .slice a3 n3 q3, .int .i64 k, .slice a n q] 38)) t' v' :=
              fun t' v' h => ((h.offSet (.inr rfl) _).offSet (.inr rfl) _).below bal1
            have htwo := TyRep.offTwo (k := 4) (B := B) (o := w1.heap.size) (b := w3.heap.size) (cap := 2) ⟨hB3, ho3⟩ (Nat.le_refl _) (by unfold maxLen; omega) (cell_new (by simp [World.setCell]) 0) (cell_new (by simp [World.setCell]) 1) (cell_new (by simp [World.setCell]) 2) (cell_new (by simp [World.setCell]) 3) (st _ _ hv3') (st _ _ hu3)
            have e0 := bcell hb3 (dcell y0)
            have e1 := bcell hb3 (dcell y1)
            exact ⟨j + 1, by omega, by go_num, ((((hcr.trans (Chg.of_below bdr)).trans (Chg.of_below hb3)).trans' hO _).trans' hO _).trans (Chg.of_below bal1), by simp [World.setCell]; omega,
              ((((hrdr.below bdr).below hb3).setCell (a := ⟨w1.heap.size, 0, none⟩) hrO _).setCell (a := ⟨w1.heap.size, 1, none⟩) hrO _).below bal1,
              bcell bal1 (sc_blk (sc_blk e0 hR) hR), bcell bal1 (sc_blk (sc_blk e1 hR) hR),
              bfroc bal1 (sc_blk (sc_blk e0 hR) hR) (sfro (sfro (bfroc hb3 (dcell y0) (dfro fy0)))), bfroc bal1 (sc_blk (sc_blk e1 hR) hR) (sfro (sfro (bfroc hb3 (dcell y1) (dfro fy1)))),
              bfroc bal1 (sc_far (sc_self co0) (by simp)) (sfro (sfro fo0)), bfroc bal1 (sc_self (sc_far co1 (by simp))) (sfro (sfro fo1)),
              .mk 4 [.mk 1 [], u], 4, _, _, _, by simp [Ty.cnt, Ty.cnts]; omega, bcell bal1 (sc_far (sc_self co0) (by simp)), bcell bal1 (sc_self (sc_far co1 (by simp))), htwo⟩
          case measure => simp [intOf]; omega
      · have HEND := Lib.hid (mut_end (R := w.heap.size + 1) (m := m + 10) (p := p) hcr hrdr (by omega) hu (by omega) (by omega) (by omega) (by omega) (by omega))
        have hne' : w.heap.size + 1 ≠ w1.heap.size := by omega
        go_wp2_with fail
        refine bodyPost_ret (v := .agg #[.int .i64 k, .slice a n q]) (by simp [results, Try.results52, go_sem, y0, y1]) rfl ?_
        exact HEND.out
  · have e0 : (pk == 0) = false := by simpa using h1
    have e1 : (pk == 1) = false := by simpa using h2
    have e2 : (pk == 2) = false := by simpa using h3
    clear h1 h2 h3 pk0 pk4 hacc
    have HEND := Lib.hid (mut_end (R := w.heap.size + 1) (m := m + 10) (p := p) hch2 hrd2 (by omega) (HREP.out kt) (by simp only [Ty.cnt]; omega) (by omega) (by omega) (by omega) (by omega))
    have hne' : w.heap.size + 1 ≠ w1.heap.size := by omega
    go_wp2_with fail
    refine bodyPost_ret (v := .agg #[.int .i64 kt, .slice cv ts.length qv]) (by simp [results, Try.results52, go_sem, x0, x1]) rfl ?_
    exact HEND.out
end Go.Proofs.Ythhdjacdalehoaa
