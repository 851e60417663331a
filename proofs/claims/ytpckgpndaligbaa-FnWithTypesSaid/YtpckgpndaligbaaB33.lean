/-
  How many unknown parts a type has, and how deep it is.
  TermTypes of both sides.
  A list of types whose rows are written anew in place; what TermTypes of the reference leaves, as a row that may grow.
-/
import Derived.Test.YtpckgpndaligbaaB5
import Derived.Test.YtpckgpndaligbaaTmTysI
import Derived.Test.YtpckgpndaligbaaTmTysS
import Derived.Test.YtpckgpndaligbaaB27
import Derived.Test.YtpckgpndaligbaaB6
import Derived.Test.YtpckgpndaligbaaB14
namespace Go.Proofs.Ytpckgpndaligbaa
open Go.RowKit
set_option linter.unusedVariables false
set_option linter.unusedSimpArgs false
set_option maxRecDepth 100000

mutual
def Ty.any : Ty → Nat
  | .mk k ts => if k = 1 then 1 else Ty.anys ts
def Ty.anys : List Ty → Nat
  | [] => 0
  | t :: ts => t.any + Ty.anys ts
end
mutual
def Ty.depth : Ty → Nat
  | .mk _ ts => Ty.depths ts + 1
def Ty.depths : List Ty → Nat
  | [] => 0
  | t :: ts => max t.depth (Ty.depths ts)
end
mutual
theorem Ty.any_le : ∀ t : Ty, t.any ≤ t.cnt + 1
  | .mk k ts => by
    have := Ty.anys_le ts
    unfold Ty.any Ty.cnt
    split <;> omega
theorem Ty.anys_le : ∀ ts : List Ty, Ty.anys ts ≤ ts.length + Ty.cnts ts
  | [] => by simp [Ty.anys]
  | t :: ts => by
    have h1 := Ty.any_le t
    have h2 := Ty.anys_le ts
    simp only [Ty.anys, Ty.cnts, List.length_cons]
    omega
end
mutual
theorem Ty.depth_le : ∀ t : Ty, t.depth ≤ t.cnt + 1
  | .mk k ts => by
    have := Ty.depths_le ts
    unfold Ty.depth Ty.cnt
    omega
theorem Ty.depths_le : ∀ ts : List Ty, Ty.depths ts ≤ ts.length + Ty.cnts ts
  | [] => by simp [Ty.depths]
  | t :: ts => by
    have h1 := Ty.depth_le t
    have h2 := Ty.depths_le ts
    simp only [Ty.depths, Ty.cnts, List.length_cons]
    omega
end
theorem Ty.anys_take : ∀ (ts : List Ty) (j : Nat) (h : j < ts.length), Ty.anys (ts.take (j + 1)) = Ty.anys (ts.take j) + ts[j].any
  | [], _, h => absurd h (Nat.not_lt_zero _)
  | t :: ts, 0, _ => by simp [Ty.anys]
  | t :: ts, j + 1, h => by
    have := Ty.anys_take ts j (by simpa using h)
    simp only [List.take_succ_cons, Ty.anys, List.getElem_cons_succ]
    omega
theorem Ty.anys_take_le : ∀ (ts : List Ty) (j : Nat), Ty.anys (ts.take j) ≤ Ty.anys ts
  | [], _ => by simp
  | t :: ts, 0 => by simp [Ty.anys]
  | t :: ts, j + 1 => by
    have := Ty.anys_take_le ts j
    simp only [List.take_succ_cons, Ty.anys]
    omega
theorem Ty.depths_take : ∀ (ts : List Ty) (j : Nat) (h : j < ts.length), Ty.depths (ts.take (j + 1)) = max (Ty.depths (ts.take j)) ts[j].depth
  | [], _, h => absurd h (Nat.not_lt_zero _)
  | t :: ts, 0, _ => by simp [Ty.depths]
  | t :: ts, j + 1, h => by
    have := Ty.depths_take ts j (by simpa using h)
    simp only [List.take_succ_cons, Ty.depths, List.getElem_cons_succ]
    omega
theorem Ty.depths_take_le : ∀ (ts : List Ty) (j : Nat), Ty.depths (ts.take j) ≤ Ty.depths ts
  | [], _ => by simp
  | t :: ts, 0 => by simp [Ty.depths]
  | t :: ts, j + 1 => by
    have := Ty.depths_take_le ts j
    simp only [List.take_succ_cons, Ty.depths]
    omega

end Go.Proofs.Ytpckgpndaligbaa
namespace Go.Proofs.Ytpckgpndaligbaa
open Go.RowKit
set_option linter.unusedVariables false
set_option linter.unusedSimpArgs false
set_option maxRecDepth 100000

theorem Tm.tys_valid : ∀ (t : Tm) (d : Int), t.shape 14 d = true → ∀ x ∈ t.tys, x.valid = true := by
  intro t
  exact Tm.rec (motive_1 := fun t => ∀ (d : Int), t.shape 14 d = true → ∀ x ∈ t.tys, x.valid = true) (motive_2 := fun ts => ∀ (d : Int), Tm.shapes ts 14 d = true → ∀ x ∈ Tm.tyss ts, x.valid = true)
    (fun k s u ty f l ts ih d h x hx => by
      obtain ⟨-, -, -, ho, h5⟩ := Tm.shape_parts h
      unfold Tm.tys at hx
      rcases List.mem_append.1 hx with hx | hx
      · by_cases hk : hasT k = true
        · rw [if_pos hk] at hx
          simp only [List.mem_singleton] at hx
          subst hx
          exact Tm.own_type ho (by unfold hasT at hk; simpa using hk)
        · rw [if_neg hk] at hx
          cases hx
      · exact ih _ h5 x hx)
    (fun _ _ x hx => by unfold Tm.tyss at hx; cases hx)
    (fun t ts ih1 ih2 d h x hx => by
      unfold Tm.shapes at h
      simp only [Bool.and_eq_true] at h
      unfold Tm.tyss at hx
      rcases List.mem_append.1 hx with hx | hx
      · exact ih1 d h.1 x hx
      · exact ih2 d h.2 x hx) t
def Tm.types (t : Tm) : List Ty := if t.valid then t.tys else []
theorem Tm.tys_ok {t : Tm} (h : t.valid = true) : (t.tys.length ≤ 30) ∧ ∀ x ∈ t.tys, x.cnt ≤ 1048576 := by
  constructor
  · have h1 := t.tys_len
    unfold Tm.valid at h
    simp only [Bool.and_eq_true, decide_eq_true_eq] at h
    omega
  · exact fun x hx => Ty.cnt_valid (Tm.tys_valid t 12 (Tm.valid_shape h) x hx)
def Ty.vague (x : Ty) : Bool := decide ((x.any : Int) > 0)
def Tm.staticB (t : Tm) : Bool := t.valid && !(t.tys.any Ty.vague)
theorem AccNew.empty {B g : Nat} {e : TypeId} {size : Nat} {w : World} (hB : B ≤ g) (h : w.heap[g]? = some (.cells #[] e (0, 0))) : AccNew B e size w (.slice (some ⟨g, 0, none⟩) 0 0) 0 [] :=
  ⟨[], [], ⟨by simp, .inr ⟨g, 0, #[], rfl, hB, h, Nat.le_refl _, by unfold maxLen; omega, by simp, by simp⟩⟩, rfl, ⟨rfl, rfl⟩, List.nodup_nil, by simp⟩
set_option maxHeartbeats 4000000 in
theorem specTermTypes (F : Nat → Prop) (t : Tm) (y : Value) (w : World) (hy : TmRep F w t y) :
    Calls Try.prog 14 #[y] w (RetTys t.types w) := by
  have hv := fun W (h : Below w.heap.size w W) => specTermValid F t y W (hy.below h)
  have hyB : TmRep (· < w.heap.size) w t y := hy.move (.weaken fun _ _ h => h)
  have hT := fun (hok : t.valid = true) (B : Nat) (hB : w.heap.size ≤ B) W (h : Below w.heap.size w W) (hBW : B ≤ W.heap.size) v (ha : AccNew B 25 2 W v 0 (Ty.rows [])) =>
    specL2Types (· < w.heap.size) B (fun b hb => by omega) t (Tm.tys_ok hok).2 [] 0 rfl (by have := (Tm.tys_ok hok).1; omega) v y W (hyB.below h) hBW ha
  simp only [List.nil_append, Nat.zero_add] at hT
  unfold Tm.types
  obtain ⟨k, nm, u, tk, ta, tn, tq, fk, fa, fn, fq, l, c, m, q, rfl⟩ := hy.shape
  generalize t.tys = us at *
  generalize t.valid = v at *
  have HV := Lib.hid hv
  have HT := Lib.hid hT
  clear hv hT hy hyB
  cases v
  · go_enter Try.func14, Try.ntmps14
    go_wp2_with fail
    refine (HV.out _ bal1).mono ?_
    rintro e w1 ⟨rfl, hb1⟩
    go_wp2_with fail
    go_ret
    exact ⟨_, rfl, ⟨[], COwn.sl_nil (by unfold maxLen; omega), List.nodup_nil, by simp⟩, bstep (bstep bal1 hb1) bal1⟩
  · go_enter Try.func14, Try.ntmps14
    go_wp2_with fail
    refine (HV.out _ bal1).mono ?_
    rintro e w1 ⟨rfl, hb1⟩
    have c0 : w1.cell? ⟨w.heap.size, 0, none⟩ = some (.int .i64 k) := bcell hb1 (cell_n0 0)
    have c1 : w1.cell? ⟨w.heap.size, 1, none⟩ = some (.string nm) := bcell hb1 (cell_n0 1)
    have c2 : w1.cell? ⟨w.heap.size, 2, none⟩ = some (.int .i64 u) := bcell hb1 (cell_n0 2)
    have c3 : w1.cell? ⟨w.heap.size, 3, none⟩ = some (.int .i64 tk) := bcell hb1 (cell_n0 3)
    have c4 : w1.cell? ⟨w.heap.size, 4, none⟩ = some (.slice ta tn tq) := bcell hb1 (cell_n0 4)
    have c5 : w1.cell? ⟨w.heap.size, 5, none⟩ = some (.int .i64 fk) := bcell hb1 (cell_n0 5)
    have c6 : w1.cell? ⟨w.heap.size, 6, none⟩ = some (.slice fa fn fq) := bcell hb1 (cell_n0 6)
    have c7 : w1.cell? ⟨w.heap.size, 7, none⟩ = some (.int .i64 l) := bcell hb1 (cell_n0 7)
    have c8 : w1.cell? ⟨w.heap.size, 8, none⟩ = some (.slice c m q) := bcell hb1 (cell_n0 8)
    have lw := World.block_lt_of_cell? _ _ c0
    have hB1 := bstep bal1 hb1
    have hbz := hB1.size
    go_wp2_with fail
    refine (HT.out (by simp) w1.heap.size hbz _ (bstep hB1 bal1) (by simp) _ (AccNew.empty (Nat.le_refl _) (heap_alloc_new w1 _))).mono ?_
    rintro e w2 ⟨v2, rfl, hv2, hg2, -⟩
    have hbel : Below w.heap.size w w2 := (bstep hB1 bal1).grown hg2 (bstep hB1 bal1).size (fun k hk => by simp [Value.ownBlock] at hk; omega)
    have HV2 := Lib.hid hv2
    have HBEL := Lib.hid hbel
    clear hv2 hg2 hbel
    go_wp2_with fail
    go_ret
    obtain ⟨fp, p1, p2, p3⟩ := HV2.out.tys
    exact ⟨_, rfl, ⟨fp, p1, p2, fun b hb => Nat.le_trans hbz (p3 b hb)⟩, HBEL.out⟩
set_option maxHeartbeats 4000000 in
theorem implTermTypes (F : Nat → Prop) (t : Tm) (y : Value) (w : World) (hy : TmRep F w t y) :
    Calls Try.prog 8 #[y] w (RetTys t.types w) := by
  have hv := fun W (h : Below w.heap.size w W) => implTermValid F t y W (hy.below h)
  have hT := fun (hok : t.valid = true) W (h : Below w.heap.size w W) => implTypes F t (by have := (Tm.tys_ok hok).1; omega) (Tm.tys_ok hok).2 y W (hy.below h)
  unfold Tm.types
  obtain ⟨k, nm, u, tk, ta, tn, tq, fk, fa, fn, fq, l, c, m, q, rfl⟩ := hy.shape
  generalize t.tys = us at *
  generalize t.valid = v at *
  have HV := Lib.hid hv
  have HT := Lib.hid hT
  clear hv hT hy
  cases v
  · go_enter Try.func8, Try.ntmps8
    go_wp2_with fail
    refine (HV.out _ bal1).mono ?_
    rintro e w1 ⟨rfl, hb1⟩
    go_wp2_with fail
    go_ret
    exact ⟨_, rfl, ⟨[], COwn.sl_nil (by unfold maxLen; omega), List.nodup_nil, by simp⟩, bstep bal1 hb1⟩
  · go_enter Try.func8, Try.ntmps8
    go_wp2_with fail
    refine (HV.out _ bal1).mono ?_
    rintro e w1 ⟨rfl, hb1⟩
    have c0 : w1.cell? ⟨w.heap.size, 0, none⟩ = some (.int .i64 k) := bcell hb1 (cell_n0 0)
    have c1 : w1.cell? ⟨w.heap.size, 1, none⟩ = some (.string nm) := bcell hb1 (cell_n0 1)
    have c2 : w1.cell? ⟨w.heap.size, 2, none⟩ = some (.int .i64 u) := bcell hb1 (cell_n0 2)
    have c3 : w1.cell? ⟨w.heap.size, 3, none⟩ = some (.int .i64 tk) := bcell hb1 (cell_n0 3)
    have c4 : w1.cell? ⟨w.heap.size, 4, none⟩ = some (.slice ta tn tq) := bcell hb1 (cell_n0 4)
    have c5 : w1.cell? ⟨w.heap.size, 5, none⟩ = some (.int .i64 fk) := bcell hb1 (cell_n0 5)
    have c6 : w1.cell? ⟨w.heap.size, 6, none⟩ = some (.slice fa fn fq) := bcell hb1 (cell_n0 6)
    have c7 : w1.cell? ⟨w.heap.size, 7, none⟩ = some (.int .i64 l) := bcell hb1 (cell_n0 7)
    have c8 : w1.cell? ⟨w.heap.size, 8, none⟩ = some (.slice c m q) := bcell hb1 (cell_n0 8)
    have hB1 := bstep bal1 hb1
    have hbz := hB1.size
    go_wp2_with fail
    refine (HT.out (by simp) _ hB1).mono ?_
    rintro e w2 ⟨v2, rfl, hv2, -, hb2⟩
    have HV2 := Lib.hid hv2
    clear hv2
    go_wp2_with fail
    go_ret
    obtain ⟨fp, p1, p2, p3⟩ := HV2.out.tys
    exact ⟨_, rfl, ⟨fp, p1, p2, fun b hb => Nat.le_trans hbz (p3 b hb)⟩, bstep hB1 hb2⟩
end Go.Proofs.Ytpckgpndaligbaa
namespace Go.Proofs.Ytpckgpndaligbaa
open Go.RowKit
set_option linter.unusedVariables false
set_option linter.unusedSimpArgs false
set_option maxRecDepth 100000

theorem RVals.setTy {F : Nat → Prop} {w : World} {t : Ty} {a b : Value} (ht : SRep F w t.row [a, b]) : ∀ (L : List Ty) (xs : List Value) (j : Nat), j < L.length → RVals F w (Ty.rows L) xs → RVals F w (Ty.rows (L.set j t)) ((xs.set (j * 2) a).set (j * 2 + 1) b)
  | [], _, _, hj, _ => absurd hj (Nat.not_lt_zero _)
  | u :: L, _, 0, _, h => by
    unfold Ty.rows at h
    obtain ⟨ys, rest, rfl, h2, h3⟩ := h
    have hl := h2.len
    rw [u.row_length] at hl
    obtain ⟨y0, y1, rfl⟩ : ∃ y0 y1, ys = [y0, y1] := by
      match ys, hl with
      | [y0, y1], _ => exact ⟨y0, y1, rfl⟩
    show RVals F w (Ty.rows (t :: L)) _
    unfold Ty.rows
    exact ⟨[a, b], rest, rfl, ht, h3⟩
  | u :: L, _, j + 1, hj, h => by
    unfold Ty.rows at h
    obtain ⟨ys, rest, rfl, h2, h3⟩ := h
    have hl := h2.len
    rw [u.row_length] at hl
    obtain ⟨y0, y1, rfl⟩ : ∃ y0 y1, ys = [y0, y1] := by
      match ys, hl with
      | [y0, y1], _ => exact ⟨y0, y1, rfl⟩
    have ih := RVals.setTy ht L rest j (by simpa using hj) h3
    show RVals F w (Ty.rows (u :: L.set j t)) _
    unfold Ty.rows
    refine ⟨[y0, y1], (rest.set (j * 2) a).set (j * 2 + 1) b, ?_, h2, ih⟩
    rw [show (j + 1) * 2 = j * 2 + 1 + 1 from by omega]
    rfl
theorem ownsRow_setL {w : World} {B : Nat} {e : TypeId} {size n q g i : Nat} {xs : List Value} {u : Value} (h : w.ownsRow B e size (.slice (some ⟨g, 0, none⟩) n q) n xs) (hi : i < n * size) : (w.setCell ⟨g, i, none⟩ u).ownsRow B e size (.slice (some ⟨g, 0, none⟩) n q) n (xs.set i u) := by
  obtain ⟨h1, h2 | ⟨g', cap, cur, h2, hB, hg, hn, hc, hs, ht⟩⟩ := h
  · exact absurd h2.1 (by simp)
  · simp only [Value.slice.injEq, Option.some.injEq, Addr.mk.injEq, and_true] at h2
    obtain ⟨rfl, -, rfl⟩ := h2
    refine ⟨by rw [List.length_set]; exact h1, .inr ⟨g, q, _, rfl, hB, heap_setCell_same hg, hn, hc, by simpa using hs, ?_⟩⟩
    subst ht
    simp [List.take_set]
theorem RowL.setTy {B g n q j : Nat} {e : TypeId} {w : World} {L : List Ty} {t : Ty} {k : Int} {s : Value} (h : RowL B e 2 w (.slice (some ⟨g, 0, none⟩) n q) n (Ty.rows L)) (hj : j < n) (ht : TyRep (fun b => B ≤ b ∧ b ≠ g) w t (.agg #[.int .i64 k, s])) :
    RowL B e 2 ((w.setCell ⟨g, j * 2, none⟩ (.int .i64 k)).setCell ⟨g, j * 2 + 1, none⟩ s) (.slice (some ⟨g, 0, none⟩) n q) n (Ty.rows (L.set j t)) := by
  obtain ⟨hl, xs, h1, h2⟩ := h
  rw [Ty.rows_length] at hl
  have o1 := ownsRow_setL (i := j * 2) (u := .int .i64 k) h1 (by omega)
  have o2 := ownsRow_setL (i := j * 2 + 1) (u := s) o1 (by omega)
  have K : Keeps (fun b => B ≤ b ∧ b ≠ g) (fun b => B ≤ b ∧ (Value.slice (some ⟨g, 0, none⟩) n q).ownBlock ≠ some b) w ((w.setCell ⟨g, j * 2, none⟩ (.int .i64 k)).setCell ⟨g, j * 2 + 1, none⟩ s) :=
    ⟨by simp [World.setCell], fun b hb _ => ⟨hb.1, fun e => hb.2 (by simpa [Value.ownBlock] using e.symm)⟩, fun b hb _ => by
      rw [Below.heap_setCell _ ⟨g, _, none⟩ _ b hb.2, Below.heap_setCell _ ⟨g, _, none⟩ _ b hb.2]⟩
  have h2' : RVals (fun b => B ≤ b ∧ b ≠ g) w (Ty.rows L) xs := h2.move (.weaken fun b hb _ => ⟨hb.1, fun e => hb.2 (by rw [e]; rfl)⟩) _ _
  obtain ⟨z, he, hz⟩ := ht
  simp only [Value.agg.injEq, Array.mk.injEq, List.cons.injEq, Value.int.injEq, true_and, and_true] at he
  obtain ⟨rfl, rfl⟩ := he
  have hrow : SRep (fun b => B ≤ b ∧ b ≠ g) w t.row [.int .i64 t.kind, s] := by
    cases t with | mk k ts =>
    unfold Ty.row
    exact ⟨_, _, rfl, by unfold CRep; rfl, _, _, rfl, hz, rfl⟩
  refine ⟨by rw [Ty.rows_length, List.length_set]; exact hl, _, o2, (RVals.setTy hrow L xs j (by omega) h2').move K _ _⟩
theorem RowL.cell {B g n q sz o : Nat} {e : TypeId} {w : World} {rows : List (List C)} (h : RowL B e sz w (.slice (some ⟨g, 0, none⟩) n q) n rows) (ho : o < n * sz) : (∃ u, w.cell? ⟨g, o, none⟩ = some u) ∧ w.frozen? ⟨g, o, none⟩ = false := by
  obtain ⟨hl, xs, ⟨h1, h2 | ⟨g', cap, cur, h2, hB, hg, hn, hc, hs, ht⟩⟩, -⟩ := h
  · simp at h2
  · simp only [Value.slice.injEq, Option.some.injEq, Addr.mk.injEq, and_true] at h2
    obtain ⟨rfl, -, rfl⟩ := h2
    have hlt : o < cur.size := by
      have : n * sz ≤ q * sz := Nat.mul_le_mul_right _ hn
      omega
    exact ⟨⟨cur[o], by simp [World.cell?, hg, hlt]⟩, by simp [World.frozen?, hg]⟩
theorem RowL.form {B n sz : Nat} {e : TypeId} {w : World} {v : Value} {rows : List (List C)} (h : RowL B e sz w v n rows) (hn : 0 < n) : ∃ g q, v = .slice (some ⟨g, 0, none⟩) n q ∧ B ≤ g ∧ g < w.heap.size ∧ n ≤ q ∧ q ≤ maxLen := by
  obtain ⟨hl, xs, ⟨h1, h2 | ⟨g', cap, cur, h2, hB, hg, hn', hc, hs, ht⟩⟩, -⟩ := h
  · omega
  · exact ⟨g', cap, h2, hB, blk_lt hg, hn', hc⟩
theorem SOwn.repS {w : World} : ∀ {r : List C} {ys : List Value} {f : List Nat} {F : Nat → Prop}, SOwn w r ys f → (∀ b ∈ f, F b) → SRep F w r ys
  | [], _, _, _, h, _ => h.1
  | c :: cs, _, _, F, ⟨z, zs, f1, f2, e, e2, h1, h2⟩, hF => by
    subst e2
    exact ⟨z, zs, e, COwn.rep c z f1 (fun b hb => hF b (List.mem_append_left _ hb)) h1, SOwn.repS h2 fun b hb => hF b (List.mem_append_right _ hb)⟩
theorem SRows.vals {w : World} : ∀ {rs : List (List C)} {xs : List Value} {fps : List Nat} {F : Nat → Prop}, SRows w rs xs fps → (∀ b ∈ fps, F b) → RVals F w rs xs
  | [], _, _, _, h, _ => h.1
  | r :: rs, _, _, F, ⟨ys, xs', f1, f2, e, e2, h1, h2⟩, hF => by
    subst e2
    exact ⟨ys, xs', e, h1.repS (fun b hb => hF b (List.mem_append_left _ hb)), SRows.vals h2 fun b hb => hF b (List.mem_append_right _ hb)⟩
theorem AccNew.rowL {B n sz : Nat} {e : TypeId} {w : World} {v : Value} {rows : List (List C)} (h : AccNew B e sz w v n rows) : RowL B e sz w v n rows := by
  obtain ⟨xs, fps, h1, h2, h3, h4, h5⟩ := h
  exact ⟨h2, xs, h1, h3.vals h5⟩
end Go.Proofs.Ytpckgpndaligbaa
