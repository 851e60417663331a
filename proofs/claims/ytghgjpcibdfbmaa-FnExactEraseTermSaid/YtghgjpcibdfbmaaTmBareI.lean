/-
  A term without casts and types, by the program: the function value.
-/
import Derived.Test.YtghgjpcibdfbmaaTmBareP
import Derived.Test.YtghgjpcibdfbmaaTmMark
import Derived.Test.YtghgjpcibdfbmaaK4
namespace Go.Proofs.Ytghgjpcibdfbmaa
open Go.RowKit
set_option linter.unusedVariables false
set_option linter.unusedSimpArgs false
set_option maxRecDepth 100000

def gB : Tm → Tm
  | .mk k s u t f l ts => if k == 13 || k == 14 then ts.headD .zero else if k == 5 then .mk k s u .any1 f l ts else .mk k s u t f l ts
def PB (t : Tm) : Prop := t.kind = 13 ∨ t.kind = 14 → t.kids ≠ []
theorem Tm.mapTs_length (g : Tm → Tm) (ts : List Tm) : (Tm.mapTs g ts).length = ts.length := by rw [Tm.mapTs_eq]; simp
theorem Ty.noneB_eq {t : Ty} (h : t.noneB = true) : t = .no := by
  cases t with | mk k ts =>
  cases ts with
  | nil => simp [Ty.noneB, Go.Proofs.Ytghgjpcibdfbmaa.noneB, Ty.kind, Ty.kids] at h; subst h; rfl
  | cons a b => (simp [Ty.noneB, Go.Proofs.Ytghgjpcibdfbmaa.noneB, Ty.kind, Ty.kids] at h; try omega)
theorem tops_one {k : Int} (h : k = 13 ∨ k = 14) : tops k = 1 := by rcases h with rfl | rfl <;> rfl
mutual
theorem Tm.map_bare (nt : Int) : ∀ (t : Tm) (d : Int), t.shape nt d = true → t.mapT gB = t.bare ∧ t.mapOk gB PB
  | .mk k s u t f l ts, d, h => by
    obtain ⟨-, -, h3, h4, h5⟩ := Tm.shape_parts h
    obtain ⟨e1, e2⟩ := Tm.maps_bare nt ts (d - 1) h5
    unfold Tm.mapT Tm.bare Tm.mapOk
    rw [e1]
    refine ⟨?_, ?_, e2⟩
    · unfold gB bareN
      have h6 : Go.Proofs.Ytghgjpcibdfbmaa.ownB k u l s t.valid t.noneB f.noneB (f.valid && t.valid && f.cons t) = true := h4
      unfold Go.Proofs.Ytghgjpcibdfbmaa.ownB at h6
      by_cases hc : k = 13 ∨ k = 14
      · rcases hc with rfl | rfl <;> rfl
      · have k13 : (k == 13) = false := by simp; omega
        have k14 : (k == 14) = false := by simp; omega
        simp only [k13, k14, Bool.or_false, Bool.false_eq_true, if_false] at h6 ⊢
        simp only [Bool.and_eq_true] at h6
        obtain ⟨⟨-, h7⟩, h8, hl⟩ := h6
        have hl' : l = 0 := by simpa using hl
        subst hl'
        rw [Ty.noneB_eq h8]
        by_cases k5 : (k == 5) = true
        · simp only [k5, if_true]
        · simp only [k5, if_false, Bool.false_eq_true] at h7 ⊢
          rw [Ty.noneB_eq h7]
    · intro hk
      simp only [Tm.kind, Tm.kids] at hk ⊢
      rw [tops_one hk] at h3
      intro e
      have : (Tm.bares ts).length = ts.length := by rw [Tm.bares_eq]; simp
      rw [e] at this
      simp at this
      omega
theorem Tm.maps_bare (nt : Int) : ∀ (ts : List Tm) (d : Int), Tm.shapes ts nt d = true → Tm.mapTs gB ts = Tm.bares ts ∧ Tm.mapOks gB PB ts
  | [], _, _ => by unfold Tm.mapTs Tm.bares Tm.mapOks; exact ⟨rfl, trivial⟩
  | t :: ts, d, h => by
    unfold Tm.shapes at h
    simp only [Bool.and_eq_true] at h
    obtain ⟨e1, e2⟩ := Tm.map_bare nt t d h.1
    obtain ⟨e3, e4⟩ := Tm.maps_bare nt ts d h.2
    unfold Tm.mapTs Tm.bares Tm.mapOks
    rw [e1, e3]
    exact ⟨rfl, e2, e4⟩
end
theorem TmNew.keep {B : Nat} {w w' : World} {t : Tm} {y : Value} (h : TmNew B w t y) (k : Below w.heap.size w w') : TmNew B w' t y := h.below k
theorem TyNew.leaf {B : Nat} {w : World} {k : Int} {y : Value} (h : TyNew B w (.mk k []) y) : ∃ a q, y = .agg #[.int .i64 k, .slice a 0 q] ∧ q ≤ maxLen := by
  obtain ⟨fp, ⟨s, rfl, h⟩, -⟩ := h
  simp only [Ty.kids, Ty.rows] at h
  unfold COwn at h
  obtain ⟨a, q, rfl, -, hq, -⟩ := h
  exact ⟨a, q, rfl, hq⟩
theorem TmNew.retype {B : Nat} {w : World} {k u l : Int} {nm : ByteArray} {tt ff : Ty} {ts : List Tm} {tk fk : Int} {s1 s2 s3 : Value} (h : TmNew B w (.mk k nm u tt ff l ts) (.agg #[.int .i64 k, .string nm, .int .i64 u, .int .i64 tk, s1, .int .i64 fk, s2, .int .i64 l, s3])) (n : Int) {a : Option Addr} {q : Nat} (hq : q ≤ maxLen) :
    TmNew B w (.mk k nm u (.mk n []) ff l ts) (.agg #[.int .i64 k, .string nm, .int .i64 u, .int .i64 n, .slice a 0 q, .int .i64 fk, s2, .int .i64 l, s3]) := by
  obtain ⟨fp, ⟨s1', s2', s', f1, f2, f3, he, rfl, hn, h1, h2, h3⟩, hd, hx⟩ := h
  simp only [Tm.kind, Tm.name, Tm.num, Tm.type, Tm.src, Tm.label, Tm.kids, Value.agg.injEq, Array.mk.injEq, List.cons.injEq, Value.int.injEq, Value.string.injEq, true_and, and_true] at he hn h1 h2 h3
  obtain ⟨rfl, rfl, rfl, rfl, rfl⟩ := he
  obtain ⟨-, hd2, -⟩ := List.nodup_append.1 hd
  exact TmNew.of (f1 := []) hn rfl rfl (by simp only [Ty.kids, Ty.rows]; exact COwn.sl_nil hq) h2 h3 (by simpa using hd2) (fun x hx' => hx x (List.mem_append_right _ (by simpa using hx')))
/-- The first operand of a node of one's own. -/
theorem TmNew.kid0 {B : Nat} {w : World} {k u l : Int} {nm : ByteArray} {tt ff : Ty} {x : Tm} {ts : List Tm} {v0 v1 v2 v3 v4 v5 v6 v7 : Value} {c : Option Addr} {m q : Nat} (h : TmNew B w (.mk k nm u tt ff l (x :: ts)) (.agg #[v0, v1, v2, v3, v4, v5, v6, v7, .slice c m q])) : ∃ b, c = some ⟨b, 0, none⟩ ∧ 0 < m ∧ m ≤ q ∧ q ≤ maxLen ∧
    ∃ k0 nm0 u0 tk0 s1 fk0 s2 l0 s3, w.cell? ⟨b, 0, none⟩ = some (.int .i64 k0) ∧ w.cell? ⟨b, 1, none⟩ = some (.string nm0) ∧ w.cell? ⟨b, 2, none⟩ = some (.int .i64 u0) ∧ w.cell? ⟨b, 3, none⟩ = some (.int .i64 tk0) ∧ w.cell? ⟨b, 4, none⟩ = some s1 ∧ w.cell? ⟨b, 5, none⟩ = some (.int .i64 fk0) ∧ w.cell? ⟨b, 6, none⟩ = some s2 ∧ w.cell? ⟨b, 7, none⟩ = some (.int .i64 l0) ∧ w.cell? ⟨b, 8, none⟩ = some s3 ∧
      TmNew B w x (.agg #[.int .i64 k0, .string nm0, .int .i64 u0, .int .i64 tk0, s1, .int .i64 fk0, s2, .int .i64 l0, s3]) := by
  obtain ⟨fp, ⟨s1', s2', s', f1, f2, f3, he, rfl, hn, h1, h2, h3⟩, hd, hx⟩ := h
  simp only [Tm.kids, Value.agg.injEq, Array.mk.injEq, List.cons.injEq, and_true] at h3 he
  obtain ⟨-, -, -, -, -, -, -, -, rfl⟩ := he
  unfold COwn at h3
  obtain ⟨a, cap, he, hc1, hc2, ⟨h, -⟩ | ⟨b, fps, cs, T, rfl, rfl, hb, hrows⟩⟩ := h3
  · unfold Tm.rows at h; cases h
  · simp only [Value.slice.injEq] at he
    obtain ⟨rfl, rfl, rfl⟩ := he
    unfold Tm.rows RowsOwn at hrows
    obtain ⟨g1, g2, rfl, hco, -⟩ := hrows
    obtain ⟨p1, p2, p3, q1, q2, q3, rfl, c0, c1, c2, c3, c4, c5, c6, c7, c8, o1, o2, o3⟩ := TmCells hco
    simp only [Nat.zero_add] at c1 c2 c3 c4 c5 c6 c7 c8
    have hnm : x.name.size ≤ maxLen := by
      cases x with | mk xk xn xu xt xf xl xs =>
      unfold Tm.row CellsOwn at hco
      obtain ⟨y0, f0, r0, -, -, -, hco⟩ := hco
      unfold CellsOwn at hco
      obtain ⟨y1, f1', r1, -, -, o1', -⟩ := hco
      unfold COwn at o1'
      exact o1'.2.1
    refine ⟨b, rfl, by rw [Tm.rows_length]; simp, hc1, hc2, _, _, _, _, _, _, _, _, _, c0, c1, c2, c3, c4, c5, c6, c7, c8, ?_⟩
    obtain ⟨-, hd2, -⟩ := List.nodup_append.1 hd
    obtain ⟨-, hd3, -⟩ := List.nodup_append.1 hd2
    have hd4 := (List.nodup_cons.1 hd3).2
    obtain ⟨hd5, -, -⟩ := List.nodup_append.1 hd4
    cases x with | mk xk xn xu xt xf xl xs =>
    exact TmNew.of hnm rfl rfl o1 o2 o3 hd5 (fun z hz => hx z (List.mem_append_right _ (List.mem_append_right _ (List.mem_cons_of_mem _ (List.mem_append_left _ hz)))))
set_option maxHeartbeats 8000000 in
theorem cloBare : MapC 126 gB PB := by
  intro B t y w hy hP hB
  cases t with | mk kk nn uu tt ff ll ts =>
  obtain ⟨k, nm, u, tk, ta, tn, tq, fk, fa, fn, fq, l, c, m, q, rfl⟩ := hy.shape
  obtain ⟨r1, r2, r3, r4, r5, r6, r7, r8, r9, rn, rm, rq, hty, hsr, hks⟩ := hy.rep.parts
  simp only [Tm.kind, Tm.name, Tm.num, Tm.type, Tm.src, Tm.label, Tm.kids] at *
  subst r1 r2 r3 r8
  unfold maxLen at rq
  clear r4 r5 r6 r7 rn hty hsr hks
  by_cases hc : k = 13 ∨ k = 14
  · have hne : ts ≠ [] := hP hc
    obtain ⟨x, xs, rfl⟩ : ∃ a b, ts = a :: b := by cases ts with | nil => exact absurd rfl hne | cons a b => exact ⟨a, b, rfl⟩
    have hg : gB (.mk k nm u tt ff l (x :: xs)) = x := by unfold gB; rcases hc with rfl | rfl <;> rfl
    rw [hg]
    obtain ⟨b, rfl, hm0, hmq, hqm, k0, nm0, u0, tk0, s1, fk0, s2, l0, s3, e0, e1, e2, e3, e4, e5, e6, e7, e8, hx⟩ := hy.kid0
    obtain ⟨ta0, tn0, tq0, fa0, fn0, fq0, c0, n0, q0, rfl, rfl, rfl⟩ : ∃ ta0 tn0 tq0 fa0 fn0 fq0 c0 n0 q0, s1 = .slice ta0 tn0 tq0 ∧ s2 = .slice fa0 fn0 fq0 ∧ s3 = .slice c0 n0 q0 := by
      obtain ⟨k, nm, u, tk, ta, tn, tq, fk, fa, fn, fq, l, c, m, q, e⟩ := hx.shape
      simp only [Value.agg.injEq, Array.mk.injEq, List.cons.injEq, and_true, true_and] at e
      exact ⟨ta, tn, tq, fa, fn, fq, c, m, q, e.2.2.2.2.1, e.2.2.2.2.2.2.1, e.2.2.2.2.2.2.2.2⟩
    have HX := Lib.hid hx
    clear hx hy hne hP hg r9
    have g0 := bcell (bal2 (w := w) (o := .cells #[.int .i64 k, .string nm, .int .i64 u, .int .i64 tk, .slice ta tn tq, .int .i64 fk, .slice fa fn fq, .int .i64 l, .slice (some ⟨b, 0, none⟩) m q] 36) (o' := .cells #[.int .i64 0, .string { data := #[] }, .int .i64 0, .int .i64 0, .slice none 0 0, .int .i64 0, .slice none 0 0, .int .i64 0, .slice none 0 0] 36)) e0
    have g1 := bcell (bal2 (w := w) (o := .cells #[.int .i64 k, .string nm, .int .i64 u, .int .i64 tk, .slice ta tn tq, .int .i64 fk, .slice fa fn fq, .int .i64 l, .slice (some ⟨b, 0, none⟩) m q] 36) (o' := .cells #[.int .i64 0, .string { data := #[] }, .int .i64 0, .int .i64 0, .slice none 0 0, .int .i64 0, .slice none 0 0, .int .i64 0, .slice none 0 0] 36)) e1
    have g2 := bcell (bal2 (w := w) (o := .cells #[.int .i64 k, .string nm, .int .i64 u, .int .i64 tk, .slice ta tn tq, .int .i64 fk, .slice fa fn fq, .int .i64 l, .slice (some ⟨b, 0, none⟩) m q] 36) (o' := .cells #[.int .i64 0, .string { data := #[] }, .int .i64 0, .int .i64 0, .slice none 0 0, .int .i64 0, .slice none 0 0, .int .i64 0, .slice none 0 0] 36)) e2
    have g3 := bcell (bal2 (w := w) (o := .cells #[.int .i64 k, .string nm, .int .i64 u, .int .i64 tk, .slice ta tn tq, .int .i64 fk, .slice fa fn fq, .int .i64 l, .slice (some ⟨b, 0, none⟩) m q] 36) (o' := .cells #[.int .i64 0, .string { data := #[] }, .int .i64 0, .int .i64 0, .slice none 0 0, .int .i64 0, .slice none 0 0, .int .i64 0, .slice none 0 0] 36)) e3
    have g4 := bcell (bal2 (w := w) (o := .cells #[.int .i64 k, .string nm, .int .i64 u, .int .i64 tk, .slice ta tn tq, .int .i64 fk, .slice fa fn fq, .int .i64 l, .slice (some ⟨b, 0, none⟩) m q] 36) (o' := .cells #[.int .i64 0, .string { data := #[] }, .int .i64 0, .int .i64 0, .slice none 0 0, .int .i64 0, .slice none 0 0, .int .i64 0, .slice none 0 0] 36)) e4
    have g5 := bcell (bal2 (w := w) (o := .cells #[.int .i64 k, .string nm, .int .i64 u, .int .i64 tk, .slice ta tn tq, .int .i64 fk, .slice fa fn fq, .int .i64 l, .slice (some ⟨b, 0, none⟩) m q] 36) (o' := .cells #[.int .i64 0, .string { data := #[] }, .int .i64 0, .int .i64 0, .slice none 0 0, .int .i64 0, .slice none 0 0, .int .i64 0, .slice none 0 0] 36)) e5
    have g6 := bcell (bal2 (w := w) (o := .cells #[.int .i64 k, .string nm, .int .i64 u, .int .i64 tk, .slice ta tn tq, .int .i64 fk, .slice fa fn fq, .int .i64 l, .slice (some ⟨b, 0, none⟩) m q] 36) (o' := .cells #[.int .i64 0, .string { data := #[] }, .int .i64 0, .int .i64 0, .slice none 0 0, .int .i64 0, .slice none 0 0, .int .i64 0, .slice none 0 0] 36)) e6
    have g7 := bcell (bal2 (w := w) (o := .cells #[.int .i64 k, .string nm, .int .i64 u, .int .i64 tk, .slice ta tn tq, .int .i64 fk, .slice fa fn fq, .int .i64 l, .slice (some ⟨b, 0, none⟩) m q] 36) (o' := .cells #[.int .i64 0, .string { data := #[] }, .int .i64 0, .int .i64 0, .slice none 0 0, .int .i64 0, .slice none 0 0, .int .i64 0, .slice none 0 0] 36)) e7
    have g8 := bcell (bal2 (w := w) (o := .cells #[.int .i64 k, .string nm, .int .i64 u, .int .i64 tk, .slice ta tn tq, .int .i64 fk, .slice fa fn fq, .int .i64 l, .slice (some ⟨b, 0, none⟩) m q] 36) (o' := .cells #[.int .i64 0, .string { data := #[] }, .int .i64 0, .int .i64 0, .slice none 0 0, .int .i64 0, .slice none 0 0, .int .i64 0, .slice none 0 0] 36)) e8
    clear e0 e1 e2 e3 e4 e5 e6 e7 e8
    rcases hc with rfl | rfl
    · skip
      go_enter Try.func126, Try.ntmps126
      go_wp2_with fail
      have HB0 := Lib.hid (show Below w.heap.size w ((w.alloc (.cells #[.int .i64 13, .string nm, .int .i64 u, .int .i64 tk, .slice ta tn tq, .int .i64 fk, .slice fa fn fq, .int .i64 l, .slice (some ⟨b, 0, none⟩) m q] 36)).alloc (.cells #[.int .i64 0, .string { data := #[] }, .int .i64 0, .int .i64 0, .slice none 0 0, .int .i64 0, .slice none 0 0, .int .i64 0, .slice none 0 0] 36)) from bal2)
      have z0 : ((w.alloc (.cells #[.int .i64 13, .string nm, .int .i64 u, .int .i64 tk, .slice ta tn tq, .int .i64 fk, .slice fa fn fq, .int .i64 l, .slice (some ⟨b, 0, none⟩) m q] 36)).alloc (.cells #[.int .i64 0, .string { data := #[] }, .int .i64 0, .int .i64 0, .slice none 0 0, .int .i64 0, .slice none 0 0, .int .i64 0, .slice none 0 0] 36)).cell? ⟨w.heap.size + 1, 0, none⟩ = some (.int .i64 0) := cell_n1 0
      have z1 : ((w.alloc (.cells #[.int .i64 13, .string nm, .int .i64 u, .int .i64 tk, .slice ta tn tq, .int .i64 fk, .slice fa fn fq, .int .i64 l, .slice (some ⟨b, 0, none⟩) m q] 36)).alloc (.cells #[.int .i64 0, .string { data := #[] }, .int .i64 0, .int .i64 0, .slice none 0 0, .int .i64 0, .slice none 0 0, .int .i64 0, .slice none 0 0] 36)).cell? ⟨w.heap.size + 1, 1, none⟩ = some (.string { data := #[] }) := cell_n1 1
      have z2 : ((w.alloc (.cells #[.int .i64 13, .string nm, .int .i64 u, .int .i64 tk, .slice ta tn tq, .int .i64 fk, .slice fa fn fq, .int .i64 l, .slice (some ⟨b, 0, none⟩) m q] 36)).alloc (.cells #[.int .i64 0, .string { data := #[] }, .int .i64 0, .int .i64 0, .slice none 0 0, .int .i64 0, .slice none 0 0, .int .i64 0, .slice none 0 0] 36)).cell? ⟨w.heap.size + 1, 2, none⟩ = some (.int .i64 0) := cell_n1 2
      have z3 : ((w.alloc (.cells #[.int .i64 13, .string nm, .int .i64 u, .int .i64 tk, .slice ta tn tq, .int .i64 fk, .slice fa fn fq, .int .i64 l, .slice (some ⟨b, 0, none⟩) m q] 36)).alloc (.cells #[.int .i64 0, .string { data := #[] }, .int .i64 0, .int .i64 0, .slice none 0 0, .int .i64 0, .slice none 0 0, .int .i64 0, .slice none 0 0] 36)).cell? ⟨w.heap.size + 1, 3, none⟩ = some (.int .i64 0) := cell_n1 3
      have z4 : ((w.alloc (.cells #[.int .i64 13, .string nm, .int .i64 u, .int .i64 tk, .slice ta tn tq, .int .i64 fk, .slice fa fn fq, .int .i64 l, .slice (some ⟨b, 0, none⟩) m q] 36)).alloc (.cells #[.int .i64 0, .string { data := #[] }, .int .i64 0, .int .i64 0, .slice none 0 0, .int .i64 0, .slice none 0 0, .int .i64 0, .slice none 0 0] 36)).cell? ⟨w.heap.size + 1, 4, none⟩ = some (.slice none 0 0) := cell_n1 4
      have z5 : ((w.alloc (.cells #[.int .i64 13, .string nm, .int .i64 u, .int .i64 tk, .slice ta tn tq, .int .i64 fk, .slice fa fn fq, .int .i64 l, .slice (some ⟨b, 0, none⟩) m q] 36)).alloc (.cells #[.int .i64 0, .string { data := #[] }, .int .i64 0, .int .i64 0, .slice none 0 0, .int .i64 0, .slice none 0 0, .int .i64 0, .slice none 0 0] 36)).cell? ⟨w.heap.size + 1, 5, none⟩ = some (.int .i64 0) := cell_n1 5
      have z6 : ((w.alloc (.cells #[.int .i64 13, .string nm, .int .i64 u, .int .i64 tk, .slice ta tn tq, .int .i64 fk, .slice fa fn fq, .int .i64 l, .slice (some ⟨b, 0, none⟩) m q] 36)).alloc (.cells #[.int .i64 0, .string { data := #[] }, .int .i64 0, .int .i64 0, .slice none 0 0, .int .i64 0, .slice none 0 0, .int .i64 0, .slice none 0 0] 36)).cell? ⟨w.heap.size + 1, 6, none⟩ = some (.slice none 0 0) := cell_n1 6
      have z7 : ((w.alloc (.cells #[.int .i64 13, .string nm, .int .i64 u, .int .i64 tk, .slice ta tn tq, .int .i64 fk, .slice fa fn fq, .int .i64 l, .slice (some ⟨b, 0, none⟩) m q] 36)).alloc (.cells #[.int .i64 0, .string { data := #[] }, .int .i64 0, .int .i64 0, .slice none 0 0, .int .i64 0, .slice none 0 0, .int .i64 0, .slice none 0 0] 36)).cell? ⟨w.heap.size + 1, 7, none⟩ = some (.int .i64 0) := cell_n1 7
      have z8 : ((w.alloc (.cells #[.int .i64 13, .string nm, .int .i64 u, .int .i64 tk, .slice ta tn tq, .int .i64 fk, .slice fa fn fq, .int .i64 l, .slice (some ⟨b, 0, none⟩) m q] 36)).alloc (.cells #[.int .i64 0, .string { data := #[] }, .int .i64 0, .int .i64 0, .slice none 0 0, .int .i64 0, .slice none 0 0, .int .i64 0, .slice none 0 0] 36)).cell? ⟨w.heap.size + 1, 8, none⟩ = some (.slice none 0 0) := cell_n1 8
      refine bodyPost_ret (v := .agg #[.int .i64 k0, .string nm0, .int .i64 u0, .int .i64 tk0, .slice ta0 tn0 tq0, .int .i64 fk0, .slice fa0 fn0 fq0, .int .i64 l0, .slice c0 n0 q0]) (by simp [results, Try.results126, go_sem, z0, z1, z2, z3, z4, z5, z6, z7, z8]) rfl ?_
      refine ⟨_, rfl, HX.out.below ?_, ?_⟩ <;> exact bal2
    · skip
      go_enter Try.func126, Try.ntmps126
      go_wp2_with fail
      have HB0 := Lib.hid (show Below w.heap.size w ((w.alloc (.cells #[.int .i64 14, .string nm, .int .i64 u, .int .i64 tk, .slice ta tn tq, .int .i64 fk, .slice fa fn fq, .int .i64 l, .slice (some ⟨b, 0, none⟩) m q] 36)).alloc (.cells #[.int .i64 0, .string { data := #[] }, .int .i64 0, .int .i64 0, .slice none 0 0, .int .i64 0, .slice none 0 0, .int .i64 0, .slice none 0 0] 36)) from bal2)
      have z0 : ((w.alloc (.cells #[.int .i64 14, .string nm, .int .i64 u, .int .i64 tk, .slice ta tn tq, .int .i64 fk, .slice fa fn fq, .int .i64 l, .slice (some ⟨b, 0, none⟩) m q] 36)).alloc (.cells #[.int .i64 0, .string { data := #[] }, .int .i64 0, .int .i64 0, .slice none 0 0, .int .i64 0, .slice none 0 0, .int .i64 0, .slice none 0 0] 36)).cell? ⟨w.heap.size + 1, 0, none⟩ = some (.int .i64 0) := cell_n1 0
      have z1 : ((w.alloc (.cells #[.int .i64 14, .string nm, .int .i64 u, .int .i64 tk, .slice ta tn tq, .int .i64 fk, .slice fa fn fq, .int .i64 l, .slice (some ⟨b, 0, none⟩) m q] 36)).alloc (.cells #[.int .i64 0, .string { data := #[] }, .int .i64 0, .int .i64 0, .slice none 0 0, .int .i64 0, .slice none 0 0, .int .i64 0, .slice none 0 0] 36)).cell? ⟨w.heap.size + 1, 1, none⟩ = some (.string { data := #[] }) := cell_n1 1
      have z2 : ((w.alloc (.cells #[.int .i64 14, .string nm, .int .i64 u, .int .i64 tk, .slice ta tn tq, .int .i64 fk, .slice fa fn fq, .int .i64 l, .slice (some ⟨b, 0, none⟩) m q] 36)).alloc (.cells #[.int .i64 0, .string { data := #[] }, .int .i64 0, .int .i64 0, .slice none 0 0, .int .i64 0, .slice none 0 0, .int .i64 0, .slice none 0 0] 36)).cell? ⟨w.heap.size + 1, 2, none⟩ = some (.int .i64 0) := cell_n1 2
      have z3 : ((w.alloc (.cells #[.int .i64 14, .string nm, .int .i64 u, .int .i64 tk, .slice ta tn tq, .int .i64 fk, .slice fa fn fq, .int .i64 l, .slice (some ⟨b, 0, none⟩) m q] 36)).alloc (.cells #[.int .i64 0, .string { data := #[] }, .int .i64 0, .int .i64 0, .slice none 0 0, .int .i64 0, .slice none 0 0, .int .i64 0, .slice none 0 0] 36)).cell? ⟨w.heap.size + 1, 3, none⟩ = some (.int .i64 0) := cell_n1 3
      have z4 : ((w.alloc (.cells #[.int .i64 14, .string nm, .int .i64 u, .int .i64 tk, .slice ta tn tq, .int .i64 fk, .slice fa fn fq, .int .i64 l, .slice (some ⟨b, 0, none⟩) m q] 36)).alloc (.cells #[.int .i64 0, .string { data := #[] }, .int .i64 0, .int .i64 0, .slice none 0 0, .int .i64 0, .slice none 0 0, .int .i64 0, .slice none 0 0] 36)).cell? ⟨w.heap.size + 1, 4, none⟩ = some (.slice none 0 0) := cell_n1 4
      have z5 : ((w.alloc (.cells #[.int .i64 14, .string nm, .int .i64 u, .int .i64 tk, .slice ta tn tq, .int .i64 fk, .slice fa fn fq, .int .i64 l, .slice (some ⟨b, 0, none⟩) m q] 36)).alloc (.cells #[.int .i64 0, .string { data := #[] }, .int .i64 0, .int .i64 0, .slice none 0 0, .int .i64 0, .slice none 0 0, .int .i64 0, .slice none 0 0] 36)).cell? ⟨w.heap.size + 1, 5, none⟩ = some (.int .i64 0) := cell_n1 5
      have z6 : ((w.alloc (.cells #[.int .i64 14, .string nm, .int .i64 u, .int .i64 tk, .slice ta tn tq, .int .i64 fk, .slice fa fn fq, .int .i64 l, .slice (some ⟨b, 0, none⟩) m q] 36)).alloc (.cells #[.int .i64 0, .string { data := #[] }, .int .i64 0, .int .i64 0, .slice none 0 0, .int .i64 0, .slice none 0 0, .int .i64 0, .slice none 0 0] 36)).cell? ⟨w.heap.size + 1, 6, none⟩ = some (.slice none 0 0) := cell_n1 6
      have z7 : ((w.alloc (.cells #[.int .i64 14, .string nm, .int .i64 u, .int .i64 tk, .slice ta tn tq, .int .i64 fk, .slice fa fn fq, .int .i64 l, .slice (some ⟨b, 0, none⟩) m q] 36)).alloc (.cells #[.int .i64 0, .string { data := #[] }, .int .i64 0, .int .i64 0, .slice none 0 0, .int .i64 0, .slice none 0 0, .int .i64 0, .slice none 0 0] 36)).cell? ⟨w.heap.size + 1, 7, none⟩ = some (.int .i64 0) := cell_n1 7
      have z8 : ((w.alloc (.cells #[.int .i64 14, .string nm, .int .i64 u, .int .i64 tk, .slice ta tn tq, .int .i64 fk, .slice fa fn fq, .int .i64 l, .slice (some ⟨b, 0, none⟩) m q] 36)).alloc (.cells #[.int .i64 0, .string { data := #[] }, .int .i64 0, .int .i64 0, .slice none 0 0, .int .i64 0, .slice none 0 0, .int .i64 0, .slice none 0 0] 36)).cell? ⟨w.heap.size + 1, 8, none⟩ = some (.slice none 0 0) := cell_n1 8
      refine bodyPost_ret (v := .agg #[.int .i64 k0, .string nm0, .int .i64 u0, .int .i64 tk0, .slice ta0 tn0 tq0, .int .i64 fk0, .slice fa0 fn0 fq0, .int .i64 l0, .slice c0 n0 q0]) (by simp [results, Try.results126, go_sem, z0, z1, z2, z3, z4, z5, z6, z7, z8]) rfl ?_
      refine ⟨_, rfl, HX.out.below ?_, ?_⟩ <;> exact bal2
  · have k13 : (k == 13) = false := by simp; omega
    have k14 : (k == 14) = false := by simp; omega
    clear r9 hP
    by_cases k5 : k = 5
    · subst k5
      have hg : gB (.mk 5 nm u tt ff l ts) = .mk 5 nm u (.mk 1 []) ff l ts := rfl
      rw [hg]
      have HY := Lib.hid hy
      clear hy hg k13 k14 hc
      go_enter Try.func126, Try.ntmps126
      go_wp2_with fail
      refine (implBase 1 _).mono ?_
      rintro e w1 ⟨v1, rfl, hv1, hb1⟩
      obtain ⟨a1, q1, rfl, hq1⟩ := hv1.leaf
      have g0 : w1.cell? ⟨w.heap.size, 0, none⟩ = some (.int .i64 5) := bcell hb1 (bcell bal1 (cell_n0 0))
      have z0 : w1.cell? ⟨w.heap.size + 1, 0, none⟩ = some (.int .i64 0) := bcell hb1 (cell_n1 0)
      have y0 : w1.frozen? ⟨w.heap.size + 1, 0, none⟩ = false := bfroc hb1 (cell_n1 0) (fro_n1 0)
      have g1 : w1.cell? ⟨w.heap.size, 1, none⟩ = some (.string nm) := bcell hb1 (bcell bal1 (cell_n0 1))
      have z1 : w1.cell? ⟨w.heap.size + 1, 1, none⟩ = some (.string { data := #[] }) := bcell hb1 (cell_n1 1)
      have y1 : w1.frozen? ⟨w.heap.size + 1, 1, none⟩ = false := bfroc hb1 (cell_n1 1) (fro_n1 1)
      have g2 : w1.cell? ⟨w.heap.size, 2, none⟩ = some (.int .i64 u) := bcell hb1 (bcell bal1 (cell_n0 2))
      have z2 : w1.cell? ⟨w.heap.size + 1, 2, none⟩ = some (.int .i64 0) := bcell hb1 (cell_n1 2)
      have y2 : w1.frozen? ⟨w.heap.size + 1, 2, none⟩ = false := bfroc hb1 (cell_n1 2) (fro_n1 2)
      have g3 : w1.cell? ⟨w.heap.size, 3, none⟩ = some (.int .i64 tk) := bcell hb1 (bcell bal1 (cell_n0 3))
      have z3 : w1.cell? ⟨w.heap.size + 1, 3, none⟩ = some (.int .i64 0) := bcell hb1 (cell_n1 3)
      have y3 : w1.frozen? ⟨w.heap.size + 1, 3, none⟩ = false := bfroc hb1 (cell_n1 3) (fro_n1 3)
      have g4 : w1.cell? ⟨w.heap.size, 4, none⟩ = some (.slice ta tn tq) := bcell hb1 (bcell bal1 (cell_n0 4))
      have z4 : w1.cell? ⟨w.heap.size + 1, 4, none⟩ = some (.slice none 0 0) := bcell hb1 (cell_n1 4)
      have y4 : w1.frozen? ⟨w.heap.size + 1, 4, none⟩ = false := bfroc hb1 (cell_n1 4) (fro_n1 4)
      have g5 : w1.cell? ⟨w.heap.size, 5, none⟩ = some (.int .i64 fk) := bcell hb1 (bcell bal1 (cell_n0 5))
      have z5 : w1.cell? ⟨w.heap.size + 1, 5, none⟩ = some (.int .i64 0) := bcell hb1 (cell_n1 5)
      have y5 : w1.frozen? ⟨w.heap.size + 1, 5, none⟩ = false := bfroc hb1 (cell_n1 5) (fro_n1 5)
      have g6 : w1.cell? ⟨w.heap.size, 6, none⟩ = some (.slice fa fn fq) := bcell hb1 (bcell bal1 (cell_n0 6))
      have z6 : w1.cell? ⟨w.heap.size + 1, 6, none⟩ = some (.slice none 0 0) := bcell hb1 (cell_n1 6)
      have y6 : w1.frozen? ⟨w.heap.size + 1, 6, none⟩ = false := bfroc hb1 (cell_n1 6) (fro_n1 6)
      have g7 : w1.cell? ⟨w.heap.size, 7, none⟩ = some (.int .i64 l) := bcell hb1 (bcell bal1 (cell_n0 7))
      have z7 : w1.cell? ⟨w.heap.size + 1, 7, none⟩ = some (.int .i64 0) := bcell hb1 (cell_n1 7)
      have y7 : w1.frozen? ⟨w.heap.size + 1, 7, none⟩ = false := bfroc hb1 (cell_n1 7) (fro_n1 7)
      have g8 : w1.cell? ⟨w.heap.size, 8, none⟩ = some (.slice c m q) := bcell hb1 (bcell bal1 (cell_n0 8))
      have z8 : w1.cell? ⟨w.heap.size + 1, 8, none⟩ = some (.slice none 0 0) := bcell hb1 (cell_n1 8)
      have y8 : w1.frozen? ⟨w.heap.size + 1, 8, none⟩ = false := bfroc hb1 (cell_n1 8) (fro_n1 8)
      have p3 : w1.frozen? ⟨w.heap.size, 3, none⟩ = false := bfroc hb1 (bcell bal1 (cell_n0 3)) (bfro bal1 (by simp) (fro_n0 3))
      have p4 : w1.frozen? ⟨w.heap.size, 4, none⟩ = false := bfroc hb1 (bcell bal1 (cell_n0 4)) (bfro bal1 (by simp) (fro_n0 4))
      have lw1 := World.block_lt_of_cell? _ _ g0
      have HB1 := Lib.hid (bstep bal2 hb1)
      have HQ1 := Lib.hid hq1
      clear hv1 hb1 hq1
      go_wp2_with fail
      refine bodyPost_ret (v := .agg #[.int .i64 5, .string nm, .int .i64 u, .int .i64 1, .slice a1 0 q1, .int .i64 fk, .slice fa fn fq, .int .i64 l, .slice c m q]) (by simp [results, Try.results126, go_sem, z0, z1, z2, z3, z4, z5, z6, z7, z8]) rfl ?_
      refine ⟨_, rfl, (HY.out.retype 1 HQ1.out).below ?_, ?_⟩ <;> exact (((((((((((HB1.out).setCell (by show w.heap.size ≤ w.heap.size; omega) _).setCell (by show w.heap.size ≤ w.heap.size; omega) _).setCell (by show w.heap.size ≤ w.heap.size + 1; omega) _).setCell (by show w.heap.size ≤ w.heap.size + 1; omega) _).setCell (by show w.heap.size ≤ w.heap.size + 1; omega) _).setCell (by show w.heap.size ≤ w.heap.size + 1; omega) _).setCell (by show w.heap.size ≤ w.heap.size + 1; omega) _).setCell (by show w.heap.size ≤ w.heap.size + 1; omega) _).setCell (by show w.heap.size ≤ w.heap.size + 1; omega) _).setCell (by show w.heap.size ≤ w.heap.size + 1; omega) _).setCell (by show w.heap.size ≤ w.heap.size + 1; omega) _
    · have k5' : (k == 5) = false := by simpa using k5
      have hg : gB (.mk k nm u tt ff l ts) = .mk k nm u tt ff l ts := by unfold gB; simp only [k13, k14, k5']; rfl
      rw [hg]
      have HY := Lib.hid hy
      clear hy hg hc k5
      go_enter Try.func126, Try.ntmps126
      go_wp2_with fail
      have HB0 := Lib.hid (show Below w.heap.size w ((w.alloc (.cells #[.int .i64 k, .string nm, .int .i64 u, .int .i64 tk, .slice ta tn tq, .int .i64 fk, .slice fa fn fq, .int .i64 l, .slice c m q] 36)).alloc (.cells #[.int .i64 0, .string { data := #[] }, .int .i64 0, .int .i64 0, .slice none 0 0, .int .i64 0, .slice none 0 0, .int .i64 0, .slice none 0 0] 36)) from bal2)
      have z0 : ((w.alloc (.cells #[.int .i64 k, .string nm, .int .i64 u, .int .i64 tk, .slice ta tn tq, .int .i64 fk, .slice fa fn fq, .int .i64 l, .slice c m q] 36)).alloc (.cells #[.int .i64 0, .string { data := #[] }, .int .i64 0, .int .i64 0, .slice none 0 0, .int .i64 0, .slice none 0 0, .int .i64 0, .slice none 0 0] 36)).cell? ⟨w.heap.size + 1, 0, none⟩ = some (.int .i64 0) := cell_n1 0
      have z1 : ((w.alloc (.cells #[.int .i64 k, .string nm, .int .i64 u, .int .i64 tk, .slice ta tn tq, .int .i64 fk, .slice fa fn fq, .int .i64 l, .slice c m q] 36)).alloc (.cells #[.int .i64 0, .string { data := #[] }, .int .i64 0, .int .i64 0, .slice none 0 0, .int .i64 0, .slice none 0 0, .int .i64 0, .slice none 0 0] 36)).cell? ⟨w.heap.size + 1, 1, none⟩ = some (.string { data := #[] }) := cell_n1 1
      have z2 : ((w.alloc (.cells #[.int .i64 k, .string nm, .int .i64 u, .int .i64 tk, .slice ta tn tq, .int .i64 fk, .slice fa fn fq, .int .i64 l, .slice c m q] 36)).alloc (.cells #[.int .i64 0, .string { data := #[] }, .int .i64 0, .int .i64 0, .slice none 0 0, .int .i64 0, .slice none 0 0, .int .i64 0, .slice none 0 0] 36)).cell? ⟨w.heap.size + 1, 2, none⟩ = some (.int .i64 0) := cell_n1 2
      have z3 : ((w.alloc (.cells #[.int .i64 k, .string nm, .int .i64 u, .int .i64 tk, .slice ta tn tq, .int .i64 fk, .slice fa fn fq, .int .i64 l, .slice c m q] 36)).alloc (.cells #[.int .i64 0, .string { data := #[] }, .int .i64 0, .int .i64 0, .slice none 0 0, .int .i64 0, .slice none 0 0, .int .i64 0, .slice none 0 0] 36)).cell? ⟨w.heap.size + 1, 3, none⟩ = some (.int .i64 0) := cell_n1 3
      have z4 : ((w.alloc (.cells #[.int .i64 k, .string nm, .int .i64 u, .int .i64 tk, .slice ta tn tq, .int .i64 fk, .slice fa fn fq, .int .i64 l, .slice c m q] 36)).alloc (.cells #[.int .i64 0, .string { data := #[] }, .int .i64 0, .int .i64 0, .slice none 0 0, .int .i64 0, .slice none 0 0, .int .i64 0, .slice none 0 0] 36)).cell? ⟨w.heap.size + 1, 4, none⟩ = some (.slice none 0 0) := cell_n1 4
      have z5 : ((w.alloc (.cells #[.int .i64 k, .string nm, .int .i64 u, .int .i64 tk, .slice ta tn tq, .int .i64 fk, .slice fa fn fq, .int .i64 l, .slice c m q] 36)).alloc (.cells #[.int .i64 0, .string { data := #[] }, .int .i64 0, .int .i64 0, .slice none 0 0, .int .i64 0, .slice none 0 0, .int .i64 0, .slice none 0 0] 36)).cell? ⟨w.heap.size + 1, 5, none⟩ = some (.int .i64 0) := cell_n1 5
      have z6 : ((w.alloc (.cells #[.int .i64 k, .string nm, .int .i64 u, .int .i64 tk, .slice ta tn tq, .int .i64 fk, .slice fa fn fq, .int .i64 l, .slice c m q] 36)).alloc (.cells #[.int .i64 0, .string { data := #[] }, .int .i64 0, .int .i64 0, .slice none 0 0, .int .i64 0, .slice none 0 0, .int .i64 0, .slice none 0 0] 36)).cell? ⟨w.heap.size + 1, 6, none⟩ = some (.slice none 0 0) := cell_n1 6
      have z7 : ((w.alloc (.cells #[.int .i64 k, .string nm, .int .i64 u, .int .i64 tk, .slice ta tn tq, .int .i64 fk, .slice fa fn fq, .int .i64 l, .slice c m q] 36)).alloc (.cells #[.int .i64 0, .string { data := #[] }, .int .i64 0, .int .i64 0, .slice none 0 0, .int .i64 0, .slice none 0 0, .int .i64 0, .slice none 0 0] 36)).cell? ⟨w.heap.size + 1, 7, none⟩ = some (.int .i64 0) := cell_n1 7
      have z8 : ((w.alloc (.cells #[.int .i64 k, .string nm, .int .i64 u, .int .i64 tk, .slice ta tn tq, .int .i64 fk, .slice fa fn fq, .int .i64 l, .slice c m q] 36)).alloc (.cells #[.int .i64 0, .string { data := #[] }, .int .i64 0, .int .i64 0, .slice none 0 0, .int .i64 0, .slice none 0 0, .int .i64 0, .slice none 0 0] 36)).cell? ⟨w.heap.size + 1, 8, none⟩ = some (.slice none 0 0) := cell_n1 8
      refine bodyPost_ret (v := .agg #[.int .i64 k, .string nm, .int .i64 u, .int .i64 tk, .slice ta tn tq, .int .i64 fk, .slice fa fn fq, .int .i64 l, .slice c m q]) (by simp [results, Try.results126, go_sem, z0, z1, z2, z3, z4, z5, z6, z7, z8]) rfl ?_
      refine ⟨_, rfl, HY.out.below ?_, ?_⟩ <;> exact bal2
end Go.Proofs.Ytghgjpcibdfbmaa
