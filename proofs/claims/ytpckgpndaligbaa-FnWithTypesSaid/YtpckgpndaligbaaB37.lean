/-
  The marks of texts: some string.
  The marks of terms: some number; only the term's own blocks turn.
  A term without casts and types, by the program: the function value.
  A term with other types, by the program: what it is.
-/
import Derived.Test.YtpckgpndaligbaaRows
import Derived.Test.YtpckgpndaligbaaB0
import Derived.IntWalk
import Derived.Test.YtpckgpndaligbaaB36
import Derived.Test.YtpckgpndaligbaaB5
namespace Go.Proofs.Ytpckgpndaligbaa
open Go.RowKit
set_option linter.unusedVariables false
set_option linter.unusedSimpArgs false
set_option maxRecDepth 100000

end Go.Proofs.Ytpckgpndaligbaa
namespace Go.Proofs.Ytpckgpndaligbaa
open Go.RowKit
set_option linter.unusedVariables false
set_option linter.unusedSimpArgs false
set_option maxRecDepth 100000

mutual
def Tm.mcnt : Tm → Nat
  | .mk _ _ _ t f _ ts => 6 + Ty.scnt t.kids + Ty.scnt f.kids + Tm.mcnts ts
def Tm.mcnts : List Tm → Nat
  | [] => 0
  | t :: ts => t.mcnt + Tm.mcnts ts
end
theorem Tm.mcnt_eq (t : Tm) : t.mcnt = 6 + Ty.scnt t.type.kids + Ty.scnt t.src.kids + Tm.mcnts t.kids := by
  cases t; unfold Tm.mcnt; rfl
theorem TmCells {w : World} {b off : Nat} {fp : List Nat} {t : Tm} (h : CellsOwn w b off t.row fp) :
    ∃ (s1 s2 s3 : Value) (g1 g2 g3 : List Nat), fp = g1 ++ (g2 ++ g3) ∧ w.cell? ⟨b, off, none⟩ = some (.int .i64 t.kind) ∧ w.cell? ⟨b, off + 1, none⟩ = some (.string t.name) ∧ w.cell? ⟨b, off + 2, none⟩ = some (.int .i64 t.num) ∧
      w.cell? ⟨b, off + 3, none⟩ = some (.int .i64 t.type.kind) ∧ w.cell? ⟨b, off + 4, none⟩ = some s1 ∧ w.cell? ⟨b, off + 5, none⟩ = some (.int .i64 t.src.kind) ∧ w.cell? ⟨b, off + 6, none⟩ = some s2 ∧
      w.cell? ⟨b, off + 7, none⟩ = some (.int .i64 t.label) ∧ w.cell? ⟨b, off + 8, none⟩ = some s3 ∧ COwn w (.sl (Ty.rows t.type.kids)) s1 g1 ∧ COwn w (.sl (Ty.rows t.src.kids)) s2 g2 ∧ COwn w (.sl (Tm.rows t.kids)) s3 g3 := by
  cases t with | mk k nm u t f l ts =>
  unfold Tm.row at h
  unfold CellsOwn at h
  obtain ⟨y0, f0, r0, rfl, c0, o0, h⟩ := h
  unfold CellsOwn at h
  obtain ⟨y1, f1, r1, rfl, c1, o1, h⟩ := h
  unfold CellsOwn at h
  obtain ⟨y2, f2, r2, rfl, c2, o2, h⟩ := h
  unfold CellsOwn at h
  obtain ⟨y3, f3, r3, rfl, c3, o3, h⟩ := h
  unfold CellsOwn at h
  obtain ⟨y4, f4, r4, rfl, c4, o4, h⟩ := h
  unfold CellsOwn at h
  obtain ⟨y5, f5, r5, rfl, c5, o5, h⟩ := h
  unfold CellsOwn at h
  obtain ⟨y6, f6, r6, rfl, c6, o6, h⟩ := h
  unfold CellsOwn at h
  obtain ⟨y7, f7, r7, rfl, c7, o7, h⟩ := h
  unfold CellsOwn at h
  obtain ⟨y8, f8, r8, rfl, c8, o8, h⟩ := h
  unfold CellsOwn at h
  unfold COwn at o0 o1 o2 o3 o5 o7
  obtain ⟨rfl, rfl⟩ := o0
  obtain ⟨rfl, -, rfl⟩ := o1
  obtain ⟨rfl, rfl⟩ := o2
  obtain ⟨rfl, rfl⟩ := o3
  obtain ⟨rfl, rfl⟩ := o5
  obtain ⟨rfl, rfl⟩ := o7
  subst h
  exact ⟨y4, y6, y8, f4, f6, f8, by simp, c0, c1, c2, c3, c4, c5, c6, c7, c8, o4, o6, o8⟩
/-- How a row is marked, step by step: block b in the row alone, and the blocks of a list, have turned. -/
structure St (wr W : World) (b j : Nat) (ch : List Nat) : Prop where
  chg : Chg (b :: ch) wr W
  far : ∀ o, j * 9 + 9 ≤ o → W.cell? ⟨b, o, none⟩ = wr.cell? ⟨b, o, none⟩
  fro : ∀ o, W.frozen? ⟨b, o, none⟩ = false
theorem St.refl {wr : World} {b j : Nat} (h : ∀ o, wr.frozen? ⟨b, o, none⟩ = false) : St wr wr b j [] := ⟨Chg.refl _ _, fun _ _ => rfl, h⟩
theorem St.set {wr W : World} {b j o : Nat} {ch : List Nat} {v : Value} (h : St wr W b j ch) (ho : o < j * 9 + 9) : St wr (W.setCell ⟨b, o, none⟩ v) b j ch :=
  ⟨h.chg.setCell (by simp) _, fun o' ho' => (World.cell?_setCell_other W _ _ v (fun e => by cases e; omega)).trans (h.far o' ho'), fun o' => (sc_fro _ _ _ _).trans (h.fro o')⟩
theorem St.call {wr W W' : World} {b j : Nat} {ch g : List Nat} (h : St wr W b j ch) (hc : Chg g W W') (hb : b ∉ g) (hl : b < W.heap.size) : St wr W' b j (ch ++ g) :=
  ⟨(h.chg.mono (by simp; intro x hx; exact .inr (.inl hx))).trans (hc.mono (by simp; intro x hx; exact .inr (.inr hx))),
   fun o ho => (World.cell?_of_block (a := ⟨b, o, none⟩) (hc.block b hl hb)).trans (h.far o ho), fun o => (World.frozen?_of_block (a := ⟨b, o, none⟩) (hc.block b hl hb)).trans (h.fro o)⟩
theorem St.below {wr W W' : World} {b j : Nat} {ch : List Nat} (h : St wr W b j ch) (hc : Below W.heap.size W W') (hl : b < W.heap.size) : St wr W' b j ch := by
  have := h.call (Chg.of_below (fp := []) hc) (by simp) hl
  simpa using this
theorem St.own {wr W : World} {b j : Nat} {ch : List Nat} {c : C} {y : Value} {f : List Nat} (h : St wr W b j ch) (ho : COwn wr c y f) (hd : ∀ x ∈ f, x ≠ b ∧ x ∉ ch) : COwn W c y f :=
  COwn.move _ _ _ (fun x hx => h.chg.block x (COwn.lt _ _ _ ho x hx) (by have := hd x hx; simp [this.1, this.2])) ho
theorem chg_cell {w w' : World} {b o : Nat} {g : List Nat} {v : Value} (h : Chg g w w') (hb : b ∉ g) (hc : w.cell? ⟨b, o, none⟩ = some v) : w'.cell? ⟨b, o, none⟩ = some v := h.cell hb hc

theorem Tm.kids_lt_list {ts : List Tm} {t : Tm} (h : t ∈ ts) : SizeOf.sizeOf t.kids < SizeOf.sizeOf ts := by
  have h1 := List.sizeOf_lt_of_mem h
  cases t; simp only [Tm.kids]; simp at h1; omega
end Go.Proofs.Ytpckgpndaligbaa
namespace Go.Proofs.Ytpckgpndaligbaa
open Go.RowKit
set_option linter.unusedVariables false
set_option linter.unusedSimpArgs false
set_option maxRecDepth 100000

def gB : Tm → Tm
  | .mk k s u t f l ts => if k == 13 || k == 14 then ts.headD .zero else if k == 5 then .mk k s u .any1 f l ts else .mk k s u t f l ts
def PB (t : Tm) : Prop := t.kind = 13 ∨ t.kind = 14 → t.kids ≠ []
theorem Tm.mapTs_length (g : Tm → Tm) (ts : List Tm) : (Tm.mapTs g ts).length = ts.length := by rw [Tm.mapTs_eq]; simp
theorem Ty.noneB_eq {t : Ty} (h : t.noneB = true) : t = .no := by
  cases t with | mk k ts =>
  cases ts with
  | nil => simp [Ty.noneB, Go.Proofs.Ytpckgpndaligbaa.noneB, Ty.kind, Ty.kids] at h; subst h; rfl
  | cons a b => (simp [Ty.noneB, Go.Proofs.Ytpckgpndaligbaa.noneB, Ty.kind, Ty.kids] at h; try omega)
theorem tops_one {k : Int} (h : k = 13 ∨ k = 14) : tops k = 1 := by rcases h with rfl | rfl <;> rfl
mutual
theorem Tm.map_bare (nt : Int) : ∀ (t : Tm) (d : Int), t.shape nt d = true → t.mapT gB = t.bare ∧ t.mapOk gB PB
  | .mk k s u t f l ts, d, h => by
    obtain ⟨-, -, h3, h4, h5⟩ := Tm.shape_parts h
    obtain ⟨e1, e2⟩ := Tm.maps_bare nt ts (d - 1) h5
    unfold Tm.mapT Tm.bare Tm.mapOk
    rw [e1]
    refine ⟨?_, ?_, e2⟩
    · unfold gB bareN
      have h6 : Go.Proofs.Ytpckgpndaligbaa.ownB k u l s t.valid t.noneB f.noneB (f.valid && t.valid && f.cons t) = true := h4
      unfold Go.Proofs.Ytpckgpndaligbaa.ownB at h6
      by_cases hc : k = 13 ∨ k = 14
      · rcases hc with rfl | rfl <;> rfl
      · have k13 : (k == 13) = false := by simp; omega
        have k14 : (k == 14) = false := by simp; omega
        simp only [k13, k14, Bool.or_false, Bool.false_eq_true, if_false] at h6 ⊢
        simp only [Bool.and_eq_true] at h6
        obtain ⟨⟨-, h7⟩, h8, hl⟩ := h6
        have hl' : l = 0 := by simpa using hl
        subst hl'
        rw [Ty.noneB_eq h8]
        by_cases k5 : (k == 5) = true
        · simp only [k5, if_true]
        · simp only [k5, if_false, Bool.false_eq_true] at h7 ⊢
          rw [Ty.noneB_eq h7]
    · intro hk
      simp only [Tm.kind, Tm.kids] at hk ⊢
      rw [tops_one hk] at h3
      intro e
      have : (Tm.bares ts).length = ts.length := by rw [Tm.bares_eq]; simp
      rw [e] at this
      simp at this
      omega
theorem Tm.maps_bare (nt : Int) : ∀ (ts : List Tm) (d : Int), Tm.shapes ts nt d = true → Tm.mapTs gB ts = Tm.bares ts ∧ Tm.mapOks gB PB ts
  | [], _, _ => by unfold Tm.mapTs Tm.bares Tm.mapOks; exact ⟨rfl, trivial⟩
  | t :: ts, d, h => by
    unfold Tm.shapes at h
    simp only [Bool.and_eq_true] at h
    obtain ⟨e1, e2⟩ := Tm.map_bare nt t d h.1
    obtain ⟨e3, e4⟩ := Tm.maps_bare nt ts d h.2
    unfold Tm.mapTs Tm.bares Tm.mapOks
    rw [e1, e3]
    exact ⟨rfl, e2, e4⟩
end
theorem TmNew.keep {B : Nat} {w w' : World} {t : Tm} {y : Value} (h : TmNew B w t y) (k : Below w.heap.size w w') : TmNew B w' t y := h.below k
theorem TyNew.leaf {B : Nat} {w : World} {k : Int} {y : Value} (h : TyNew B w (.mk k []) y) : ∃ a q, y = .agg #[.int .i64 k, .slice a 0 q] ∧ q ≤ maxLen := by
  obtain ⟨fp, ⟨s, rfl, h⟩, -⟩ := h
  simp only [Ty.kids, Ty.rows] at h
  unfold COwn at h
  obtain ⟨a, q, rfl, -, hq, -⟩ := h
  exact ⟨a, q, rfl, hq⟩
theorem TmNew.retype {B : Nat} {w : World} {k u l : Int} {nm : ByteArray} {tt ff : Ty} {ts : List Tm} {tk fk : Int} {s1 s2 s3 : Value} (h : TmNew B w (.mk k nm u tt ff l ts) (.agg #[.int .i64 k, .string nm, .int .i64 u, .int .i64 tk, s1, .int .i64 fk, s2, .int .i64 l, s3])) (n : Int) {a : Option Addr} {q : Nat} (hq : q ≤ maxLen) :
    TmNew B w (.mk k nm u (.mk n []) ff l ts) (.agg #[.int .i64 k, .string nm, .int .i64 u, .int .i64 n, .slice a 0 q, .int .i64 fk, s2, .int .i64 l, s3]) := by
  obtain ⟨fp, ⟨s1', s2', s', f1, f2, f3, he, rfl, hn, h1, h2, h3⟩, hd, hx⟩ := h
  simp only [Tm.kind, Tm.name, Tm.num, Tm.type, Tm.src, Tm.label, Tm.kids, Value.agg.injEq, Array.mk.injEq, List.cons.injEq, Value.int.injEq, Value.string.injEq, true_and, and_true] at he hn h1 h2 h3
  obtain ⟨rfl, rfl, rfl, rfl, rfl⟩ := he
  obtain ⟨-, hd2, -⟩ := List.nodup_append.1 hd
  exact TmNew.of (f1 := []) hn rfl rfl (by simp only [Ty.kids, Ty.rows]; exact COwn.sl_nil hq) h2 h3 (by simpa using hd2) (fun x hx' => hx x (List.mem_append_right _ (by simpa using hx')))
/-- The first operand of a node of one's own. -/
theorem TmNew.kid0 {B : Nat} {w : World} {k u l : Int} {nm : ByteArray} {tt ff : Ty} {x : Tm} {ts : List Tm} {v0 v1 v2 v3 v4 v5 v6 v7 : Value} {c : Option Addr} {m q : Nat} (h : TmNew B w (.mk k nm u tt ff l (x :: ts)) (.agg #[v0, v1, v2, v3, v4, v5, v6, v7, .slice c m q])) : ∃ b, c = some ⟨b, 0, none⟩ ∧ 0 < m ∧ m ≤ q ∧ q ≤ maxLen ∧
    ∃ k0 nm0 u0 tk0 s1 fk0 s2 l0 s3, w.cell? ⟨b, 0, none⟩ = some (.int .i64 k0) ∧ w.cell? ⟨b, 1, none⟩ = some (.string nm0) ∧ w.cell? ⟨b, 2, none⟩ = some (.int .i64 u0) ∧ w.cell? ⟨b, 3, none⟩ = some (.int .i64 tk0) ∧ w.cell? ⟨b, 4, none⟩ = some s1 ∧ w.cell? ⟨b, 5, none⟩ = some (.int .i64 fk0) ∧ w.cell? ⟨b, 6, none⟩ = some s2 ∧ w.cell? ⟨b, 7, none⟩ = some (.int .i64 l0) ∧ w.cell? ⟨b, 8, none⟩ = some s3 ∧
      TmNew B w x (.agg #[.int .i64 k0, .string nm0, .int .i64 u0, .int .i64 tk0, s1, .int .i64 fk0, s2, .int .i64 l0, s3]) := by
  obtain ⟨fp, ⟨s1', s2', s', f1, f2, f3, he, rfl, hn, h1, h2, h3⟩, hd, hx⟩ := h
  simp only [Tm.kids, Value.agg.injEq, Array.mk.injEq, List.cons.injEq, and_true] at h3 he
  obtain ⟨-, -, -, -, -, -, -, -, rfl⟩ := he
  unfold COwn at h3
  obtain ⟨a, cap, he, hc1, hc2, ⟨h, -⟩ | ⟨b, fps, cs, T, rfl, rfl, hb, hrows⟩⟩ := h3
  · unfold Tm.rows at h; cases h
  · simp only [Value.slice.injEq] at he
    obtain ⟨rfl, rfl, rfl⟩ := he
    unfold Tm.rows RowsOwn at hrows
    obtain ⟨g1, g2, rfl, hco, -⟩ := hrows
    obtain ⟨p1, p2, p3, q1, q2, q3, rfl, c0, c1, c2, c3, c4, c5, c6, c7, c8, o1, o2, o3⟩ := TmCells hco
    simp only [Nat.zero_add] at c1 c2 c3 c4 c5 c6 c7 c8
    have hnm : x.name.size ≤ maxLen := by
      cases x with | mk xk xn xu xt xf xl xs =>
      unfold Tm.row CellsOwn at hco
      obtain ⟨y0, f0, r0, -, -, -, hco⟩ := hco
      unfold CellsOwn at hco
      obtain ⟨y1, f1', r1, -, -, o1', -⟩ := hco
      unfold COwn at o1'
      exact o1'.2.1
    refine ⟨b, rfl, by rw [Tm.rows_length]; simp, hc1, hc2, _, _, _, _, _, _, _, _, _, c0, c1, c2, c3, c4, c5, c6, c7, c8, ?_⟩
    obtain ⟨-, hd2, -⟩ := List.nodup_append.1 hd
    obtain ⟨-, hd3, -⟩ := List.nodup_append.1 hd2
    have hd4 := (List.nodup_cons.1 hd3).2
    obtain ⟨hd5, -, -⟩ := List.nodup_append.1 hd4
    cases x with | mk xk xn xu xt xf xl xs =>
    exact TmNew.of hnm rfl rfl o1 o2 o3 hd5 (fun z hz => hx z (List.mem_append_right _ (List.mem_append_right _ (List.mem_cons_of_mem _ (List.mem_append_left _ hz)))))
end Go.Proofs.Ytpckgpndaligbaa
namespace Go.Proofs.Ytpckgpndaligbaa
open Go.RowKit
set_option linter.unusedVariables false
set_option linter.unusedSimpArgs false
set_option maxRecDepth 100000

/-- What impl.retyped returns for a term and a list. -/
def RetyC (F : Nat → Prop) (B : Nat) (t : Tm) : Prop := ∀ (L : List Ty) (d : Int) (y lv : Value) (w : World), TmRep F w t y → TysRep (· < B) w L lv → B ≤ w.heap.size → t.shape 14 d = true → (∀ x ∈ L, x.cnt ≤ 1048576) → t.tys.length ≤ L.length →
    Calls Try.prog 23 #[y, lv] w fun e w' => ∃ v lv', e = .returned (.tuple #[v, lv']) ∧ TmNew w.heap.size w' (t.rety L) v ∧ TysRep (· < B) w' (L.drop t.tys.length) lv' ∧ Below w.heap.size w w'
theorem TysRep.moveB {B : Nat} {w w' : World} {L : List Ty} {p : Value} (h : TysRep (· < B) w L p) (hs : w.heap.size ≤ w'.heap.size) (hk : ∀ b, b < B → w'.heap[b]? = w.heap[b]?) : TysRep (· < B) w' L p := h.move ⟨hs, fun _ h _ => h, fun b hb _ => hk b hb⟩
theorem TysRep.belowB {B N : Nat} {w w' : World} {L : List Ty} {p : Value} (h : TysRep (· < B) w L p) (hB : B ≤ N) (k : Below N w w') : TysRep (· < B) w' L p := h.moveB k.size (fun b hb => k.block b (by omega))
theorem hasT_iff {k : Int} : hasT k = true ↔ k = 5 ∨ k = 13 := by unfold hasT; simp
theorem Tm.shape_no {k u l : Int} {s : ByteArray} {t f : Ty} {ts : List Tm} {d : Int} (h : (Tm.mk k s u t f l ts).shape 14 d = true) : l = 0 ∧ f = .no ∧ (hasT k = false → t = .no) := by
  obtain ⟨-, h2, -, h4, -⟩ := Tm.shape_parts h
  have h6 : Go.Proofs.Ytpckgpndaligbaa.ownB k u l s t.valid t.noneB f.noneB (f.valid && t.valid && f.cons t) = true := h4
  unfold Go.Proofs.Ytpckgpndaligbaa.ownB at h6
  have k14 : (k == 14) = false := by simpa using h2
  simp only [k14, Bool.or_false, Bool.false_eq_true, if_false] at h6
  simp only [Bool.and_eq_true] at h6
  obtain ⟨⟨-, h7⟩, h8, hl⟩ := h6
  refine ⟨by simpa using hl, Ty.noneB_eq h8, fun hk => ?_⟩
  have h13 : (k == 5) = false ∧ (k == 13) = false := by
    unfold hasT at hk
    simpa using hk
  simp only [h13.1, h13.2, Bool.or_false, Bool.false_eq_true, if_false] at h7
  exact Ty.noneB_eq h7
theorem TysRep.tail {F : Nat → Prop} {w : World} {x : Ty} {L : List Ty} {a : Option Addr} {n q : Nat} (h : TysRep F w (x :: L) (.slice a n q)) : ∃ b off, a = some ⟨b, off, none⟩ ∧ n = L.length + 1 ∧ n ≤ q ∧ q ≤ maxLen ∧ TysRep F w L (.slice (if q = 1 then some ⟨b, off, none⟩ else some ⟨b, off + 2, none⟩) L.length (q - 1)) := by
  unfold TysRep at h
  obtain ⟨a', cap, he, h2, h3, h4⟩ := CRep.rows h
  rw [Ty.rows_length] at he h2
  simp only [Value.slice.injEq] at he
  obtain ⟨rfl, rfl, rfl⟩ := he
  rcases h4 with h4 | ⟨b, off, rfl, hF, hl, hr⟩
  · unfold Ty.rows at h4; cases h4
  · refine ⟨b, off, rfl, rfl, h2, h3, ?_⟩
    unfold TysRep CRep
    rw [Ty.rows_length]
    simp only [List.length_cons] at h2
    refine ⟨_, _, rfl, by omega, by omega, ?_⟩
    by_cases hL : L = []
    · subst hL; exact .inl (by unfold Ty.rows; rfl)
    · have : 0 < L.length := List.length_pos_iff.2 hL
      refine .inr ⟨b, off + 2, by rw [if_neg (by omega)], hF, hl, ?_⟩
      unfold Ty.rows RowsAt at hr
      rw [x.row_length] at hr
      exact hr.2
end Go.Proofs.Ytpckgpndaligbaa
