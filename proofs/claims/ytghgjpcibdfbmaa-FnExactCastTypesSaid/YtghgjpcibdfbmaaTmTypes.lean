/-
  TermTypes of both sides.
-/
import Derived.Test.YtghgjpcibdfbmaaTmTysI
import Derived.Test.YtghgjpcibdfbmaaTmTysS
import Derived.Test.YtghgjpcibdfbmaaTmNodes
import Derived.Test.YtghgjpcibdfbmaaTyCount
namespace Go.Proofs.Ytghgjpcibdfbmaa
open Go.RowKit
set_option linter.unusedVariables false
set_option linter.unusedSimpArgs false
set_option maxRecDepth 100000

theorem Tm.tys_valid : ∀ (t : Tm) (d : Int), t.shape 14 d = true → ∀ x ∈ t.tys, x.valid = true := by
  intro t
  exact Tm.rec (motive_1 := fun t => ∀ (d : Int), t.shape 14 d = true → ∀ x ∈ t.tys, x.valid = true) (motive_2 := fun ts => ∀ (d : Int), Tm.shapes ts 14 d = true → ∀ x ∈ Tm.tyss ts, x.valid = true)
    (fun k s u ty f l ts ih d h x hx => by
      obtain ⟨-, -, -, ho, h5⟩ := Tm.shape_parts h
      unfold Tm.tys at hx
      rcases List.mem_append.1 hx with hx | hx
      · by_cases hk : hasT k = true
        · rw [if_pos hk] at hx
          simp only [List.mem_singleton] at hx
          subst hx
          exact Tm.own_type ho (by unfold hasT at hk; simpa using hk)
        · rw [if_neg hk] at hx
          cases hx
      · exact ih _ h5 x hx)
    (fun _ _ x hx => by unfold Tm.tyss at hx; cases hx)
    (fun t ts ih1 ih2 d h x hx => by
      unfold Tm.shapes at h
      simp only [Bool.and_eq_true] at h
      unfold Tm.tyss at hx
      rcases List.mem_append.1 hx with hx | hx
      · exact ih1 d h.1 x hx
      · exact ih2 d h.2 x hx) t
def Tm.types (t : Tm) : List Ty := if t.valid then t.tys else []
theorem Tm.tys_ok {t : Tm} (h : t.valid = true) : (t.tys.length ≤ 30) ∧ ∀ x ∈ t.tys, x.cnt ≤ 1048576 := by
  constructor
  · have h1 := t.tys_len
    unfold Tm.valid at h
    simp only [Bool.and_eq_true, decide_eq_true_eq] at h
    omega
  · exact fun x hx => Ty.cnt_valid (Tm.tys_valid t 12 (Tm.valid_shape h) x hx)
def Ty.vague (x : Ty) : Bool := decide ((x.any : Int) > 0)
def Tm.staticB (t : Tm) : Bool := t.valid && !(t.tys.any Ty.vague)
theorem AccNew.empty {B g : Nat} {e : TypeId} {size : Nat} {w : World} (hB : B ≤ g) (h : w.heap[g]? = some (.cells #[] e (0, 0))) : AccNew B e size w (.slice (some ⟨g, 0, none⟩) 0 0) 0 [] :=
  ⟨[], [], ⟨by simp, .inr ⟨g, 0, #[], rfl, hB, h, Nat.le_refl _, by unfold maxLen; omega, by simp, by simp⟩⟩, rfl, ⟨rfl, rfl⟩, List.nodup_nil, by simp⟩
set_option maxHeartbeats 4000000 in
theorem specTermTypes (F : Nat → Prop) (t : Tm) (y : Value) (w : World) (hy : TmRep F w t y) :
    Calls Try.prog 38 #[y] w (RetTys t.types w) := by
  have hv := fun W (h : Below w.heap.size w W) => specTermValid F t y W (hy.below h)
  have hyB : TmRep (· < w.heap.size) w t y := hy.move (.weaken fun _ _ h => h)
  have hT := fun (hok : t.valid = true) (B : Nat) (hB : w.heap.size ≤ B) W (h : Below w.heap.size w W) (hBW : B ≤ W.heap.size) v (ha : AccNew B 33 2 W v 0 (Ty.rows [])) =>
    specL2Types (· < w.heap.size) B (fun b hb => by omega) t (Tm.tys_ok hok).2 [] 0 rfl (by have := (Tm.tys_ok hok).1; omega) v y W (hyB.below h) hBW ha
  simp only [List.nil_append, Nat.zero_add] at hT
  unfold Tm.types
  obtain ⟨k, nm, u, tk, ta, tn, tq, fk, fa, fn, fq, l, c, m, q, rfl⟩ := hy.shape
  generalize t.tys = us at *
  generalize t.valid = v at *
  have HV := Lib.hid hv
  have HT := Lib.hid hT
  clear hv hT hy hyB
  cases v
  · go_enter Try.func38, Try.ntmps38
    go_wp2_with fail
    refine (HV.out _ bal1).mono ?_
    rintro e w1 ⟨rfl, hb1⟩
    go_wp2_with fail
    go_ret
    exact ⟨_, rfl, ⟨[], COwn.sl_nil (by unfold maxLen; omega), List.nodup_nil, by simp⟩, bstep (bstep bal1 hb1) bal1⟩
  · go_enter Try.func38, Try.ntmps38
    go_wp2_with fail
    refine (HV.out _ bal1).mono ?_
    rintro e w1 ⟨rfl, hb1⟩
    have c0 : w1.cell? ⟨w.heap.size, 0, none⟩ = some (.int .i64 k) := bcell hb1 (cell_n0 0)
    have c1 : w1.cell? ⟨w.heap.size, 1, none⟩ = some (.string nm) := bcell hb1 (cell_n0 1)
    have c2 : w1.cell? ⟨w.heap.size, 2, none⟩ = some (.int .i64 u) := bcell hb1 (cell_n0 2)
    have c3 : w1.cell? ⟨w.heap.size, 3, none⟩ = some (.int .i64 tk) := bcell hb1 (cell_n0 3)
    have c4 : w1.cell? ⟨w.heap.size, 4, none⟩ = some (.slice ta tn tq) := bcell hb1 (cell_n0 4)
    have c5 : w1.cell? ⟨w.heap.size, 5, none⟩ = some (.int .i64 fk) := bcell hb1 (cell_n0 5)
    have c6 : w1.cell? ⟨w.heap.size, 6, none⟩ = some (.slice fa fn fq) := bcell hb1 (cell_n0 6)
    have c7 : w1.cell? ⟨w.heap.size, 7, none⟩ = some (.int .i64 l) := bcell hb1 (cell_n0 7)
    have c8 : w1.cell? ⟨w.heap.size, 8, none⟩ = some (.slice c m q) := bcell hb1 (cell_n0 8)
    have lw := World.block_lt_of_cell? _ _ c0
    have hB1 := bstep bal1 hb1
    have hbz := hB1.size
    go_wp2_with fail
    refine (HT.out (by simp) w1.heap.size hbz _ (bstep hB1 bal1) (by simp) _ (AccNew.empty (Nat.le_refl _) (heap_alloc_new w1 _))).mono ?_
    rintro e w2 ⟨v2, rfl, hv2, hg2, -⟩
    have hbel : Below w.heap.size w w2 := (bstep hB1 bal1).grown hg2 (bstep hB1 bal1).size (fun k hk => by simp [Value.ownBlock] at hk; omega)
    have HV2 := Lib.hid hv2
    have HBEL := Lib.hid hbel
    clear hv2 hg2 hbel
    go_wp2_with fail
    go_ret
    obtain ⟨fp, p1, p2, p3⟩ := HV2.out.tys
    exact ⟨_, rfl, ⟨fp, p1, p2, fun b hb => Nat.le_trans hbz (p3 b hb)⟩, HBEL.out⟩
set_option maxHeartbeats 4000000 in
theorem implTermTypes (F : Nat → Prop) (t : Tm) (y : Value) (w : World) (hy : TmRep F w t y) :
    Calls Try.prog 39 #[y] w (RetTys t.types w) := by
  have hv := fun W (h : Below w.heap.size w W) => implTermValid F t y W (hy.below h)
  have hT := fun (hok : t.valid = true) W (h : Below w.heap.size w W) => implTypes F t (by have := (Tm.tys_ok hok).1; omega) (Tm.tys_ok hok).2 y W (hy.below h)
  unfold Tm.types
  obtain ⟨k, nm, u, tk, ta, tn, tq, fk, fa, fn, fq, l, c, m, q, rfl⟩ := hy.shape
  generalize t.tys = us at *
  generalize t.valid = v at *
  have HV := Lib.hid hv
  have HT := Lib.hid hT
  clear hv hT hy
  cases v
  · go_enter Try.func39, Try.ntmps39
    go_wp2_with fail
    refine (HV.out _ bal1).mono ?_
    rintro e w1 ⟨rfl, hb1⟩
    go_wp2_with fail
    go_ret
    exact ⟨_, rfl, ⟨[], COwn.sl_nil (by unfold maxLen; omega), List.nodup_nil, by simp⟩, bstep bal1 hb1⟩
  · go_enter Try.func39, Try.ntmps39
    go_wp2_with fail
    refine (HV.out _ bal1).mono ?_
    rintro e w1 ⟨rfl, hb1⟩
    have c0 : w1.cell? ⟨w.heap.size, 0, none⟩ = some (.int .i64 k) := bcell hb1 (cell_n0 0)
    have c1 : w1.cell? ⟨w.heap.size, 1, none⟩ = some (.string nm) := bcell hb1 (cell_n0 1)
    have c2 : w1.cell? ⟨w.heap.size, 2, none⟩ = some (.int .i64 u) := bcell hb1 (cell_n0 2)
    have c3 : w1.cell? ⟨w.heap.size, 3, none⟩ = some (.int .i64 tk) := bcell hb1 (cell_n0 3)
    have c4 : w1.cell? ⟨w.heap.size, 4, none⟩ = some (.slice ta tn tq) := bcell hb1 (cell_n0 4)
    have c5 : w1.cell? ⟨w.heap.size, 5, none⟩ = some (.int .i64 fk) := bcell hb1 (cell_n0 5)
    have c6 : w1.cell? ⟨w.heap.size, 6, none⟩ = some (.slice fa fn fq) := bcell hb1 (cell_n0 6)
    have c7 : w1.cell? ⟨w.heap.size, 7, none⟩ = some (.int .i64 l) := bcell hb1 (cell_n0 7)
    have c8 : w1.cell? ⟨w.heap.size, 8, none⟩ = some (.slice c m q) := bcell hb1 (cell_n0 8)
    have hB1 := bstep bal1 hb1
    have hbz := hB1.size
    go_wp2_with fail
    refine (HT.out (by simp) _ hB1).mono ?_
    rintro e w2 ⟨v2, rfl, hv2, -, hb2⟩
    have HV2 := Lib.hid hv2
    clear hv2
    go_wp2_with fail
    go_ret
    obtain ⟨fp, p1, p2, p3⟩ := HV2.out.tys
    exact ⟨_, rfl, ⟨fp, p1, p2, fun b hb => Nat.le_trans hbz (p3 b hb)⟩, bstep hB1 hb2⟩
end Go.Proofs.Ytghgjpcibdfbmaa
