/-
  Functions that make types.
-/
import Derived.Test.YtjkkahlcbhcifaaAcc
import Derived.Test.YtjkkahlcbhcifaaLaTy
import Derived.Test.YtjkkahlcbhcifaaTyDepth
namespace Go.Proofs.Ytjkkahlcbhcifaa
open Go.RowKit
set_option linter.unusedVariables false
set_option linter.unusedSimpArgs false
set_option maxRecDepth 100000

set_option maxHeartbeats 4000000 in
theorem implOwnType (F : Nat → Prop) (t : Ty) : ∀ (y : Value) (w : World), TyRep F w t y → t.cnt ≤ 1048576 →
    Calls Try.prog 144 #[y] w (RetTy t w) := by
  intro y w hy hcnt
  have IH : ∀ t' ∈ t.kids, ∀ (y : Value) (W : World), TyRep F W t' y → Calls Try.prog 144 #[y] W (RetTy t' W) :=
    fun t' ht y W h => implOwnType F t' y W h (by have := Ty.cnt_kid ht; omega)
  obtain ⟨i0, hi, hz0, hz1, hz2⟩ := info_parts Try.infoTy
  obtain ⟨a, cap, rfl, h2, h3, hr⟩ := hy.open
  cases t with | mk k ts =>
  simp only [Ty.kind, Ty.kids] at *
  unfold maxLen at h3
  have IHH := Lib.hid IH
  have HCN := Lib.hid (show ts.length ≤ 1048576 by simp only [Ty.cnt] at hcnt; omega)
  clear IH hy hcnt
  obtain ⟨n, hn⟩ : ∃ n, ts.length = n := ⟨_, rfl⟩
  rw [hn] at h2 hr HCN
  rw [hn]
  have HN := Lib.hid hn
  clear hn
  have Z0 := Lib.hid hz0
  have Z1 := Lib.hid hz1
  have Z2 := Lib.hid hz2
  have HI := Lib.hid hi
  clear hz0 hz1 hz2 hi
  go_enter Try.func144, Try.ntmps144
  go_wp2_with fail
  go_loopw [12] (fun i wr => ∃ j : Nat, j ≤ n ∧ i = .int .i64 j ∧ Below w.heap.size w wr ∧ w.heap.size + 1 + 1 < wr.heap.size ∧ (∃ u, wr.cell? ⟨w.heap.size + 1, 0, none⟩ = some u) ∧ (∃ u, wr.cell? ⟨w.heap.size + 1, 1, none⟩ = some u) ∧
      (∀ o, wr.frozen? ⟨w.heap.size + 1, o, none⟩ = false) ∧ (∀ o, wr.frozen? ⟨w.heap.size + 1 + 1, o, none⟩ = false) ∧ wr.cell? ⟨w.heap.size + 1 + 1, 0, none⟩ = some (.int .i64 k) ∧
      ∃ v, wr.cell? ⟨w.heap.size + 1 + 1, 1, none⟩ = some v ∧ AccNew (w.heap.size + 1 + 1 + 1) 29 2 wr v j (Ty.rows (ts.take j))) (fun i _ => n - (intOf i).toNat)
  case atStart => exact ⟨0, by omega, rfl, bal3, by simp, ⟨.int .i64 0, bcell bal1 (cell_n1 0)⟩, ⟨.slice none 0 0, bcell bal1 (cell_n1 1)⟩, fun o => bfro bal1 (by simp) (fro_n1 o), fun o => fro_n2 o, cell_n2 0, .slice none 0 0, cell_n2 1, by simpa [Ty.rows] using AccNew.nil _ _ _ _⟩
  case round =>
    obtain ⟨j, hj, rfl, hbw, hsz, ⟨u0, hu0⟩, ⟨u1, hu1⟩, hf1, hf2, hk0, v, hv, hacc⟩ := hrel
    by_cases hlt : j < n
    · have hjt : j < ts.length := by rw [HN.out]; exact hlt
      obtain ⟨b, off, k0, a0, m0, q0, rfl, l0, e0, e1, ht⟩ := hr.at hbw hjt
      have HC := Lib.hid (fun W (h : Below wr.heap.size wr W) => IHH.out ts[j] (List.getElem_mem hjt) _ W (ht.below h))
      obtain ⟨xs, fps, ho, hl, hs, hd, hfp⟩ := hacc
      have HO := Lib.hid ho
      have HS := Lib.hid hs
      have HD := Lib.hid hd
      have HFP := Lib.hid hfp
      have HL := Lib.hid hl
      clear ho hs hd hfp hl
      obtain ⟨cv, qv, rfl⟩ : ∃ c q, v = .slice c j q := by
        rcases HO.out.2 with ⟨h, h0⟩ | ⟨g, cap, cur, h, _⟩
        · exact ⟨none, 0, by rw [h, h0]⟩
        · exact ⟨_, cap, h⟩
      go_wp2_with fail
      have hB3 : w.heap.size + 1 + 1 + 1 ≤ wr.heap.size := by omega
      go_region_law (first
        | (go_simp; go_at_call 144; refine (HC.out _ (by first | exact bal1 | exact bal1.drew)).mono ?_; rintro e w1 ⟨v1, rfl, hv1, hb1⟩; obtain ⟨k1, c1, m1, q1, fp1, rfl, -, -, hs1, hd1, hx1⟩ := hv1.open; have hq1 : w1.cell? ⟨w.heap.size + 1 + 1, 1, none⟩ = some (.slice cv j qv) := bcell (bstep bal1.drew hb1) hv; have hbz := hb1.size; have hl1 : w.heap.size + 1 + 1 < w1.heap.size := World.block_lt_of_cell? _ _ hq1)
        | (refine step_append_lies _ (by rfl) (.tmp 17) (.tmp 20) 27 (by rfl) (w.heap.size + 1 + 1 + 1) 29 i0 _ 2 32 Try.underlying27 HI.out Z0.out Z1.out Z2.out rfl (by omega) (.slice cv j qv) j xs (by rfl) (ownsRow_below HO.out (bstep (bstep bal1.drew hb1) bal1))
            ⟨w1.heap.size, 0, none⟩ 1 1 [.int .i64 k1, .slice c1 m1 q1] (by rfl) (by rfl) (World.news_of_block (cs := #[.int .i64 k1, .slice c1 m1 q1]) (t := 29) (fr := (0, 0)) (heap_alloc_new w1 _)) (by simp [Value.oneCell'])
            (by omega) (by have := HCN.out; unfold maxLen; omega) (by have := HCN.out; omega) (by simp at hbz ⊢; omega) _ rfl ?_
           intro gg cap2 w2 hown2 hgrow hat hlt2
           have hfar := grown_far (bstep (bstep bal1.drew hb1) bal1) HO.out hgrow
           have hq : w2.cell? ⟨w.heap.size + 1 + 1, 1, none⟩ = some (.slice cv j qv) := (World.cell?_of_block (a := ⟨w.heap.size + 1 + 1, 1, none⟩) (hfar (w.heap.size + 1 + 1) (by omega) (by omega))).trans hv
           have hqf : w2.frozen? ⟨w.heap.size + 1 + 1, 1, none⟩ = false := (World.frozen?_of_block (a := ⟨w.heap.size + 1 + 1, 1, none⟩) (hfar (w.heap.size + 1 + 1) (by omega) (by omega))).trans (hf2 _)
           have HFAR := Lib.hid hfar
           have hacc2 := AccNew.push HL.out HO.out HS.out HD.out HFP.out hB3 (bstep (bstep bal1.drew hb1) bal1) (by simp) (hs1.move _ _ _ fun b hb => heap_alloc_old w1 _ (SOwn.lt _ _ _ hs1 b hb)) hd1 hx1 hown2 hgrow hat
           have HACC := Lib.hid hacc2
           have hbel := grown_below hbw (bstep (bstep bal1.drew hb1) bal1) HO.out (by omega) hgrow
           have hsz2 : wr.heap.size ≤ w2.heap.size := Nat.le_trans (bstep (bstep bal1.drew hb1) bal1).size hgrow.size
           clear hfar hacc2 hown2 hgrow hat hq1))
      all_goals
        go_wp2_with fail
        go_roundw
        case rel =>
          have c1 : (w2.setCell ⟨w.heap.size + 1 + 1, 1, none⟩ (.slice (some ⟨gg, 0, none⟩) (j + 1) cap2)).heap[w.heap.size + 1]? = wr.heap[w.heap.size + 1]? :=
            (Below.heap_setCell w2 ⟨w.heap.size + 1 + 1, 1, none⟩ _ _ (by show w.heap.size + 1 ≠ w.heap.size + 1 + 1; omega)).trans (HFAR.out (w.heap.size + 1) (by omega) (by omega))
          have hk2 := (World.cell?_of_block (a := ⟨w.heap.size + 1 + 1, 0, none⟩) (HFAR.out (w.heap.size + 1 + 1) (by omega) (by omega))).trans hk0
          have hf4 := fun o => (World.frozen?_of_block (a := ⟨w.heap.size + 1 + 1, o, none⟩) (HFAR.out (w.heap.size + 1 + 1) (by omega) (by omega))).trans (hf2 o)
          refine ⟨j + 1, by omega, by go_num, hbel.setCell (by show w.heap.size ≤ w.heap.size + 1 + 1; omega) _, by simp [World.setCell]; omega, ⟨u0, (World.cell?_of_block (a := ⟨w.heap.size + 1, 0, none⟩) c1).trans hu0⟩, ⟨u1, (World.cell?_of_block (a := ⟨w.heap.size + 1, 1, none⟩) c1).trans hu1⟩,
            fun o => (World.frozen?_of_block (a := ⟨w.heap.size + 1, o, none⟩) c1).trans (hf1 o), fun o => (sc_fro _ _ _ _).trans (hf4 o), sc_far hk2 (by simp), _, sc_self hq, ?_⟩
          have h := HACC.out.setCell (p := ⟨w.heap.size + 1 + 1, 1, none⟩) (by show w.heap.size + 1 + 1 < w.heap.size + 1 + 1 + 1; omega) (.slice (some ⟨gg, 0, none⟩) (j + 1) cap2)
          rw [Ty.rows_eq] at h ⊢
          rw [List.take_succ_eq_append_getElem hjt, List.map_append]
          exact h
        case measure => simp [intOf]; omega
    · obtain ⟨cv, qv, rfl⟩ := hacc.shape
      have f0 := hf1 0
      have f1 := hf1 1
      go_wp2_with fail
      refine bodyPost_ret (v := .agg #[.int .i64 k, .slice cv j qv]) (by simp [results, Try.results144, go_sem, hu0, hu1]) rfl ?_
      rw [List.take_of_length_le (by rw [HN.out]; omega)] at hacc
      have hjn : j = n := by omega
      refine ⟨_, rfl, TyNew.mono (TysNew.ty ((hacc.tys.setCell (by show w.heap.size + 1 < w.heap.size + 1 + 1 + 1; omega) _).setCell (by show w.heap.size + 1 < w.heap.size + 1 + 1 + 1; omega) _)) (by omega), ?_⟩
      exact (hbw.setCell (by show w.heap.size ≤ w.heap.size + 1; omega) _).setCell (by show w.heap.size ≤ w.heap.size + 1; omega) _
termination_by SizeOf.sizeOf t
decreasing_by exact Ty.kid_lt ht

theorem TysNew.nil (B : Nat) (w : World) : TysNew B w [] (.slice none 0 0) := ⟨[], COwn.sl_nil (by unfold maxLen; omega), List.nodup_nil, by simp⟩
theorem Ty.kids_nil (k : Int) : (Ty.mk k []).kids = [] := rfl

set_option maxHeartbeats 400000 in
theorem implBase (k : Int) (w : World) : Calls Try.prog 139 #[.int .i64 k] w (RetTy (.mk k []) w) := by
  go_enter Try.func139, Try.ntmps139
  go_wp2_with fail
  refine bodyPost_ret (v := .agg #[.int .i64 k, .slice none 0 0]) (by simp [results, Try.results139, go_sem]) rfl ?_
  exact ⟨_, rfl, TyNew.mono (TysNew.ty (TysNew.nil _ _)) (Nat.le_refl _), bal1⟩

set_option maxHeartbeats 400000 in
theorem specL1Any (w : World) : Calls Try.prog 137 #[] w (RetTy (.mk 1 []) w) := by
  go_enter Try.func137, Try.ntmps137
  go_wp2_with fail
  refine bodyPost_ret (v := .agg #[.int .i64 1, .slice none 0 0]) (by simp [results, Try.results137, go_sem]) rfl ?_
  exact ⟨_, rfl, TyNew.mono (TysNew.ty (TysNew.nil _ _)) (Nat.le_refl _), bal1⟩

/-- Two types of one's own, in one new block. -/
theorem TysNew.two {B : Nat} {w w' : World} {t u : Ty} {k1 k2 : Int} {s1 s2 : Value} {T : TypeId} {f1 f2 : List Nat} (h1 : SOwn w t.row [.int .i64 k1, s1] f1) (h2 : SOwn w u.row [.int .i64 k2, s2] f2) (hd : (f1 ++ f2).Nodup) (hB : ∀ b ∈ f1 ++ f2, B ≤ b) (hBw : B ≤ w.heap.size)
    (hk : Below w.heap.size w w') (hh : w'.heap[w.heap.size]? = some (.cells #[.int .i64 k1, s1, .int .i64 k2, s2] T (0, 0))) : TysNew B w' [t, u] (.slice (some ⟨w.heap.size, 0, none⟩) 2 2) := by
  have hr : SRows w (Ty.rows [t, u]) [.int .i64 k1, s1, .int .i64 k2, s2] (f1 ++ f2) := by
    unfold Ty.rows
    refine ⟨[_, _], [_, _], f1, f2, rfl, rfl, h1, ?_⟩
    unfold Ty.rows
    refine ⟨[_, _], [], f2, [], rfl, by simp, h2, ?_⟩
    unfold Ty.rows
    exact ⟨rfl, rfl⟩
  have hlt := SRows.lt _ _ _ hr
  have hr' := hr.move _ _ _ fun b hb => hk.block b (hlt b hb)
  have ho : RowsOwn w' w.heap.size 0 (Ty.rows [t, u]) (f1 ++ f2) := hr'.rows _ _ _ 0 (fun i hi => by
    simp only [World.cell?, hh]
    simp)
  obtain ⟨fp, k1, k2, k3⟩ := COwn.sl_mk (n := 2) (cap := 2) hh (by rw [Ty.rows_length]; rfl) (Nat.le_refl _) (by unfold maxLen; omega) ho
  exact ⟨fp, k1, k3 hd (fun h => by have := hlt _ h; omega), fun b hb => by rcases k2 b hb with rfl | hb; exact hBw; exact hB b hb⟩

set_option maxHeartbeats 1000000 in
theorem implBoth (B : Nat) (kk : Int) (t u : Ty) (y z : Value) (w : World) (f1 f2 : List Nat) (hy : TyOwn w t y f1) (hz : TyOwn w u z f2) (hd : (f1 ++ f2).Nodup) (hB : ∀ b ∈ f1 ++ f2, B ≤ b) (hBw : B ≤ w.heap.size) :
    Calls Try.prog 138 #[.int .i64 kk, y, z] w fun e w' => ∃ v, e = .returned v ∧ TyNew B w' (.mk kk [t, u]) v ∧ Below w.heap.size w w' := by
  obtain ⟨k1, a1, n1, q1, rfl, -, -⟩ := hy.shape
  obtain ⟨k2, a2, n2, q2, rfl, -, -⟩ := hz.shape
  have h1 := TyOwn.cells (hy.below (bal3 (o := .cells #[.int .i64 k1, .slice a1 n1 q1] 29) (o' := .cells #[.int .i64 k2, .slice a2 n2 q2] 29) (o2 := .cells #[.int .i64 kk, .slice (some ⟨w.heap.size + 1 + 1 + 1, 0, none⟩) 2 2] 29)))
  have h2 := TyOwn.cells (hz.below (bal3 (o := .cells #[.int .i64 k1, .slice a1 n1 q1] 29) (o' := .cells #[.int .i64 k2, .slice a2 n2 q2] 29) (o2 := .cells #[.int .i64 kk, .slice (some ⟨w.heap.size + 1 + 1 + 1, 0, none⟩) 2 2] 29)))
  have h := TysNew.two (B := B) (T := 29) h1 h2 hd hB (by simp; omega) (bal1 (o := .cells #[.int .i64 k1, .slice a1 n1 q1, .int .i64 k2, .slice a2 n2 q2] 29)) (heap_alloc_new _ _)
  have e : ∀ o1 o2 o3, (((w.alloc o1).alloc o2).alloc o3).heap.size = w.heap.size + 1 + 1 + 1 := by intros; simp
  rw [e] at h
  have HH := Lib.hid h
  clear h h1 h2 e hy hz hd hB
  go_enter Try.func138, Try.ntmps138
  go_wp2_with fail
  refine bodyPost_ret (v := .agg #[.int .i64 kk, .slice (some ⟨w.heap.size + 1 + 1 + 1, 0, none⟩) 2 2]) (by simp [results, Try.results138, go_sem]) rfl ?_
  exact ⟨_, rfl, TysNew.ty HH.out, bstep bal3 bal1⟩

def ground (k : Int) : Ty := if k = 4 ∨ k = 5 then .mk k [.mk 1 [], .mk 1 []] else .mk k []

set_option maxHeartbeats 1000000 in
theorem implGround (k : Int) (w : World) : Calls Try.prog 111 #[.int .i64 k] w (RetTy (ground k) w) := by
  by_cases h : k = 4 ∨ k = 5
  · have hg : ground k = .mk k [.mk 1 [], .mk 1 []] := by unfold ground; rw [if_pos h]
    rw [hg]
    clear hg
    rcases h with rfl | rfl
    all_goals
      go_enter Try.func111, Try.ntmps111
      go_wp2_with fail
      refine (implBase 1 _).mono ?_
      rintro e w1 ⟨v1, rfl, ⟨f1, ho1, hd1, hx1⟩, hb1⟩
      obtain ⟨k1, a1, n1, q1, rfl, -, -⟩ := ho1.shape
      go_wp2_with fail
      refine (implBase 1 _).mono ?_
      rintro e w2 ⟨v2, rfl, ⟨f2, ho2, hd2, hx2⟩, hb2⟩
      obtain ⟨k2, a2, n2, q2, rfl, -, -⟩ := ho2.shape
      have hlt := (ho1.cells).lt
      have HD := Lib.hid (List.nodup_append.2 ⟨hd1, hd2, fun x hx y hy e => by have h1 := (ho1.cells).lt _ _ _ x hx; have h2 := hx2 y hy; omega⟩)
      have HO1 := Lib.hid (ho1.below hb2)
      have HO2 := Lib.hid ho2
      have HB := Lib.hid (fun b (hb : b ∈ f1 ++ f2) => show (w.alloc (.cells #[.int .i64 0, .slice none 0 0] 29)).heap.size ≤ b by
        rcases List.mem_append.1 hb with hb | hb
        · exact hx1 b hb
        · have := hx2 b hb; have := hb1.size; omega)
      have HS := Lib.hid (Nat.le_trans hb1.size hb2.size)
      have hW := bstep hb1 hb2
      have c0 : w2.cell? ⟨w.heap.size, 0, none⟩ = some (.int .i64 0) := bcell hW (cell_n0 0)
      have c1 : w2.cell? ⟨w.heap.size, 1, none⟩ = some (.slice none 0 0) := bcell hW (cell_n0 1)
      have f0 := bfro (j := 0) hW (by simp) (fro_n0 0)
      have f3 := bfro (j := 1) hW (by simp) (fro_n0 1)
      have hW0 := bstep bal1 hW
      have HBOTH := Lib.hid (fun kk => implBoth _ kk _ _ _ _ w2 f1 f2 HO1.out HO2.out HD.out HB.out HS.out)
      clear hlt ho1 ho2 hd1 hd2 hx1 hx2
      go_wp2_with fail
      refine (HBOTH.out _).mono ?_
      rintro e w3 ⟨v3, rfl, hv3, hb3⟩
      obtain ⟨k3, a3, n3, q3, rfl⟩ := hv3.shape
      replace c0 := bcell hb3 c0
      replace c1 := bcell hb3 c1
      have hl2 : w.heap.size < w2.heap.size := by have := HS.out; simp at this; omega
      replace f0 := bfro hb3 hl2 f0
      replace f3 := bfro hb3 hl2 f3
      go_wp2_with fail
      refine bodyPost_ret (v := .agg #[.int .i64 k3, .slice a3 n3 q3]) (by simp [results, Try.results111, go_sem, c0, c1]) rfl ?_
      refine ⟨_, rfl, TyNew.mono ((hv3.setCell (by simp) _).setCell (by simp) _) (by simp), ?_⟩
      exact ((bstep hW0 hb3).setCell (by show w.heap.size ≤ w.heap.size; omega) _).setCell (by show w.heap.size ≤ w.heap.size; omega) _
  · have hg : ground k = .mk k [] := by unfold ground; rw [if_neg h]
    have g4 : (k == 4) = false := by simp; omega
    have g5 : (k == 5) = false := by simp; omega
    rw [hg]
    clear h hg
    go_enter Try.func111, Try.ntmps111
    go_wp2_with fail
    refine (implBase k _).mono ?_
    rintro e w1 ⟨v1, rfl, hv1, hb1⟩
    obtain ⟨k3, a3, n3, q3, rfl⟩ := hv1.shape
    have c0 : w1.cell? ⟨w.heap.size, 0, none⟩ = some (.int .i64 0) := bcell hb1 (cell_n0 0)
    have c1 : w1.cell? ⟨w.heap.size, 1, none⟩ = some (.slice none 0 0) := bcell hb1 (cell_n0 1)
    have f0 := bfro (j := 0) hb1 (by simp) (fro_n0 0)
    have f3 := bfro (j := 1) hb1 (by simp) (fro_n0 1)
    go_wp2_with fail
    refine bodyPost_ret (v := .agg #[.int .i64 k3, .slice a3 n3 q3]) (by simp [results, Try.results111, go_sem, c0, c1]) rfl ?_
    refine ⟨_, rfl, TyNew.mono ((hv1.setCell (by simp) _).setCell (by simp) _) (by simp), ?_⟩
    exact ((bstep bal1 hb1).setCell (by show w.heap.size ≤ w.heap.size; omega) _).setCell (by show w.heap.size ≤ w.heap.size; omega) _

/-- A type of one's own and a truth value; the zero value is the type without kind. -/
def RetTyB (t : Ty) (b : Bool) (w : World) (e : Ending) (w' : World) : Prop := ∃ v, e = .returned (.tuple #[v, .bool b]) ∧ TyNew w.heap.size w' t v ∧ Below w.heap.size w w'
def Ty.none : Ty := .mk 0 []
def groundOfT (t : Ty) : Ty := if t.valid && t.kind != 1 then ground t.kind else Ty.none

set_option maxHeartbeats 1000000 in
theorem implGroundOf (F : Nat → Prop) (t : Ty) (y : Value) (w : World) (hy : TyRep F w t y) :
    Calls Try.prog 60 #[y] w (RetTyB (groundOfT t) (t.valid && t.kind != 1) w) := by
  have HV := fun W (h : Below w.heap.size w W) => implTypeValid F t y W (hy.below h)
  obtain ⟨a, q, rfl, -, -, -⟩ := hy.open
  clear hy
  unfold groundOfT
  generalize t.kind = k at *
  generalize t.kids.length = n at *
  cases hv : t.valid
  · rw [hv] at HV
    have HH := Lib.hid HV
    clear HV hv
    simp only [Bool.false_and, Bool.false_eq_true, if_false]
    go_enter Try.func60, Try.ntmps60
    go_wp2_with fail
    refine (HH.out _ bal2).mono ?_
    rintro e w1 ⟨rfl, hb1⟩
    have c0 : w1.cell? ⟨w.heap.size + 1, 0, none⟩ = some (.int .i64 0) := bcell hb1 (cell_n1 0)
    have c1 : w1.cell? ⟨w.heap.size + 1, 1, none⟩ = some (.slice none 0 0) := bcell hb1 (cell_n1 1)
    have f0 := bfro (j := 0) hb1 (by simp) (fro_n1 0)
    have f3 := bfro (j := 1) hb1 (by simp) (fro_n1 1)
    go_wp2_with fail
    refine bodyPost_ret (v := .tuple #[.agg #[.int .i64 0, .slice none 0 0], .bool false]) (by simp [results, Try.results60, go_sem, c0, c1]) rfl ?_
    exact ⟨_, rfl, TyNew.mono (TysNew.ty (TysNew.nil _ _)) (Nat.le_refl _), ((bstep bal2 hb1).setCell (by show w.heap.size ≤ w.heap.size + 1; omega) _).setCell (by show w.heap.size ≤ w.heap.size + 1; omega) _⟩
  · rw [hv] at HV
    have HH := Lib.hid HV
    clear HV hv
    by_cases hk : k = 1
    · subst hk
      go_enter Try.func60, Try.ntmps60
      go_wp2_with fail
      refine (HH.out _ bal2).mono ?_
      rintro e w1 ⟨rfl, hb1⟩
      have c0 : w1.cell? ⟨w.heap.size + 1, 0, none⟩ = some (.int .i64 0) := bcell hb1 (cell_n1 0)
      have c1 : w1.cell? ⟨w.heap.size + 1, 1, none⟩ = some (.slice none 0 0) := bcell hb1 (cell_n1 1)
      have d0 : w1.cell? ⟨w.heap.size, 0, none⟩ = some (.int .i64 1) := bcell hb1 (bcell bal1 (cell_n0 0))
      have f0 := bfro (j := 0) hb1 (by simp) (fro_n1 0)
      have f3 := bfro (j := 1) hb1 (by simp) (fro_n1 1)
      go_wp2_with fail
      refine bodyPost_ret (v := .tuple #[.agg #[.int .i64 0, .slice none 0 0], .bool false]) (by simp [results, Try.results60, go_sem, c0, c1]) rfl ?_
      exact ⟨_, rfl, TyNew.mono (TysNew.ty (TysNew.nil _ _)) (Nat.le_refl _), ((bstep bal2 hb1).setCell (by show w.heap.size ≤ w.heap.size + 1; omega) _).setCell (by show w.heap.size ≤ w.heap.size + 1; omega) _⟩
    · have g1 : (k == 1) = false := by simpa using hk
      have g2 : (k != 1) = true := by simpa using hk
      clear hk
      rw [g2]
      simp only [Bool.and_self, if_true]
      go_enter Try.func60, Try.ntmps60
      go_wp2_with fail
      refine (HH.out _ bal2).mono ?_
      rintro e w1 ⟨rfl, hb1⟩
      have c0 : w1.cell? ⟨w.heap.size + 1, 0, none⟩ = some (.int .i64 0) := bcell hb1 (cell_n1 0)
      have c1 : w1.cell? ⟨w.heap.size + 1, 1, none⟩ = some (.slice none 0 0) := bcell hb1 (cell_n1 1)
      have d0 : w1.cell? ⟨w.heap.size, 0, none⟩ = some (.int .i64 k) := bcell hb1 (bcell bal1 (cell_n0 0))
      have f0 := bfro (j := 0) hb1 (by simp) (fro_n1 0)
      have f3 := bfro (j := 1) hb1 (by simp) (fro_n1 1)
      have hl1 := World.block_lt_of_cell? _ _ c0
      go_wp2_with fail
      refine (implGround k _).mono ?_
      rintro e w2 ⟨v, rfl, hvn, hb2⟩
      obtain ⟨k3, a3, n3, q3, rfl⟩ := hvn.shape
      replace c0 := bcell hb2 c0
      replace c1 := bcell hb2 c1
      replace f0 := bfro hb2 hl1 f0
      replace f3 := bfro hb2 hl1 f3
      go_wp2_with fail
      refine bodyPost_ret (v := .tuple #[.agg #[.int .i64 k3, .slice a3 n3 q3], .bool true]) (by simp [results, Try.results60, go_sem, c0, c1]) rfl ?_
      refine ⟨_, rfl, TyNew.mono ((hvn.setCell hl1 _).setCell hl1 _) (bstep bal2 hb1).size, ?_⟩
      exact ((bstep (bstep bal2 hb1) hb2).setCell (by show w.heap.size ≤ w.heap.size + 1; omega) _).setCell (by show w.heap.size ≤ w.heap.size + 1; omega) _
end Go.Proofs.Ytjkkahlcbhcifaa
