/-
  Terms as trees.
-/
import Derived.Test.YtblpdpkjgbbhkaaTy
namespace Go.Proofs.Ytblpdpkjgbbhkaa
open Go.RowKit
set_option linter.unusedVariables false
set_option linter.unusedSimpArgs false
set_option maxRecDepth 100000


inductive Tm where
  | mk (kind : Int) (name : ByteArray) (num : Int) (type src : Ty) (label : Int) (kids : List Tm)

def Tm.kind : Tm → Int | .mk k _ _ _ _ _ _ => k
def Tm.name : Tm → ByteArray | .mk _ s _ _ _ _ _ => s
def Tm.num : Tm → Int | .mk _ _ u _ _ _ _ => u
def Tm.type : Tm → Ty | .mk _ _ _ t _ _ _ => t
def Tm.src : Tm → Ty | .mk _ _ _ _ t _ _ => t
def Tm.label : Tm → Int | .mk _ _ _ _ _ l _ => l
def Tm.kids : Tm → List Tm | .mk _ _ _ _ _ _ ts => ts

mutual
def Tm.row : Tm → List C
  | .mk k s u t f l ts => [.int k, .str s, .int u, .int t.kind, .sl (Ty.rows t.kids), .int f.kind, .sl (Ty.rows f.kids), .int l, .sl (Tm.rows ts)]
def Tm.rows : List Tm → List (List C)
  | [] => []
  | t :: ts => t.row :: Tm.rows ts
end
theorem Tm.rows_eq (ts : List Tm) : Tm.rows ts = ts.map Tm.row := by
  induction ts with
  | nil => rfl
  | cons t ts ih => unfold Tm.rows; rw [ih]; rfl
theorem Tm.rows_length (ts : List Tm) : (Tm.rows ts).length = ts.length := by rw [Tm.rows_eq]; simp
theorem Tm.row_length : ∀ t : Tm, t.row.length = 9 | .mk _ _ _ _ _ _ _ => by unfold Tm.row; rfl

/-- A slice of terms. -/
def TmsRep (F : Nat → Prop) (w : World) (ts : List Tm) (y : Value) : Prop := CRep F w (.sl (Tm.rows ts)) y
/-- A term by value. -/
def TmRep (F : Nat → Prop) (w : World) (t : Tm) (y : Value) : Prop := ∃ s1 s2 s, y = .agg #[.int .i64 t.kind, .string t.name, .int .i64 t.num, .int .i64 t.type.kind, s1, .int .i64 t.src.kind, s2, .int .i64 t.label, s] ∧ t.name.size ≤ maxLen ∧ TysRep F w t.type.kids s1 ∧ TysRep F w t.src.kids s2 ∧ TmsRep F w t.kids s

theorem TmsRep.move {F G : Nat → Prop} {w w' : World} {ts : List Tm} {y : Value} (h : TmsRep F w ts y) (k : Keeps F G w w') : TmsRep G w' ts y := CRep.move k _ _ h
theorem TmRep.move {F G : Nat → Prop} {w w' : World} {t : Tm} {y : Value} (h : TmRep F w t y) (k : Keeps F G w w') : TmRep G w' t y :=
  let ⟨s1, s2, s, h1, h2, h3, h4, h5⟩ := h; ⟨s1, s2, s, h1, h2, h3.move k, h4.move k, h5.move k⟩
theorem TmRep.below {F : Nat → Prop} {w w' : World} {t : Tm} {y : Value} (h : TmRep F w t y) (k : Below w.heap.size w w') : TmRep F w' t y := h.move (.below k)
theorem TmsRep.below {F : Nat → Prop} {w w' : World} {t : List Tm} {y : Value} (h : TmsRep F w t y) (k : Below w.heap.size w w') : TmsRep F w' t y := h.move (.below k)

/-- The parts of a term. -/
theorem TmRep.open {F : Nat → Prop} {w : World} {t : Tm} {y : Value} (h : TmRep F w t y) :
    ∃ ta tq fa fq c q, y = .agg #[.int .i64 t.kind, .string t.name, .int .i64 t.num, .int .i64 t.type.kind, .slice ta t.type.kids.length tq, .int .i64 t.src.kind, .slice fa t.src.kids.length fq, .int .i64 t.label, .slice c t.kids.length q] ∧ t.name.size ≤ maxLen ∧
      t.kids.length ≤ q ∧ q ≤ maxLen ∧ TyRep F w t.type (.agg #[.int .i64 t.type.kind, .slice ta t.type.kids.length tq]) ∧ TyRep F w t.src (.agg #[.int .i64 t.src.kind, .slice fa t.src.kids.length fq]) ∧ TmsRep F w t.kids (.slice c t.kids.length q) := by
  obtain ⟨s1, s2, s, rfl, hn, h1, h2, h3⟩ := h
  obtain ⟨ta, tq, rfl, -, -, -⟩ := h1.open
  obtain ⟨fa, fq, rfl, -, -, -⟩ := h2.open
  obtain ⟨c, q, rfl, h4, h5, -⟩ := CRep.rows h3
  rw [Tm.rows_length] at h4 h3 ⊢
  exact ⟨ta, tq, fa, fq, c, q, rfl, hn, h4, h5, ⟨_, rfl, h1⟩, ⟨_, rfl, h2⟩, h3⟩
theorem TmRep.shape {F : Nat → Prop} {w : World} {t : Tm} {y : Value} (h : TmRep F w t y) : ∃ k nm u tk ta tn tq fk fa fn fq l c m q, y = .agg #[.int .i64 k, .string nm, .int .i64 u, .int .i64 tk, .slice ta tn tq, .int .i64 fk, .slice fa fn fq, .int .i64 l, .slice c m q] := by
  obtain ⟨ta, tq, fa, fq, c, q, rfl, _⟩ := h.open
  exact ⟨_, _, _, _, ta, _, tq, _, fa, _, fq, _, c, _, q, rfl⟩
theorem TmsRep.shape {F : Nat → Prop} {w : World} {t : List Tm} {y : Value} (h : TmsRep F w t y) : ∃ a n q, y = .slice a n q := by
  obtain ⟨a, q, rfl, _⟩ := CRep.rows h
  exact ⟨a, _, q, rfl⟩
theorem TmsRep.open {F : Nat → Prop} {w : World} {ts : List Tm} {y : Value} (h : TmsRep F w ts y) :
    ∃ (a : Option Addr) (cap : Nat), y = .slice a ts.length cap ∧ ts.length ≤ cap ∧ cap ≤ maxLen ∧
      ∀ i (h : i < ts.length), ∃ b off k nm u tk ta tn tq fk fa fn fq l c m q, a = some ⟨b, off, none⟩ ∧ w.cell? ⟨b, off + i * 9, none⟩ = some (.int .i64 k) ∧ w.cell? ⟨b, off + i * 9 + 1, none⟩ = some (.string nm) ∧ w.cell? ⟨b, off + i * 9 + 2, none⟩ = some (.int .i64 u) ∧ w.cell? ⟨b, off + i * 9 + 3, none⟩ = some (.int .i64 tk) ∧ w.cell? ⟨b, off + i * 9 + 4, none⟩ = some (.slice ta tn tq) ∧ w.cell? ⟨b, off + i * 9 + 5, none⟩ = some (.int .i64 fk) ∧ w.cell? ⟨b, off + i * 9 + 6, none⟩ = some (.slice fa fn fq) ∧ w.cell? ⟨b, off + i * 9 + 7, none⟩ = some (.int .i64 l) ∧ w.cell? ⟨b, off + i * 9 + 8, none⟩ = some (.slice c m q) ∧ TmRep F w ts[i] (.agg #[.int .i64 k, .string nm, .int .i64 u, .int .i64 tk, .slice ta tn tq, .int .i64 fk, .slice fa fn fq, .int .i64 l, .slice c m q]) := by
  obtain ⟨a, cap, h1, h2, h3, h4⟩ := CRep.rows h
  rw [Tm.rows_length] at h1 h2
  refine ⟨a, cap, h1, h2, h3, fun i hi => ?_⟩
  rcases h4 with h4 | ⟨b, off, ha, hF, hl, hr⟩
  · rw [← Tm.rows_length, h4] at hi; exact absurd hi (Nat.not_lt_zero _)
  · have hc := hr.get (m := 9) (fun r hr => by rw [Tm.rows_eq] at hr; obtain ⟨t, _, rfl⟩ := List.mem_map.1 hr; exact t.row_length) i (by rw [Tm.rows_length]; exact hi)
    have he : (Tm.rows ts)[i]'(by rw [Tm.rows_length]; exact hi) = ts[i].row := by simp [Tm.rows_eq]
    rw [he] at hc
    obtain ⟨k, s, u, t, f, l, ks, ht⟩ : ∃ k s u t f l ks, ts[i] = Tm.mk k s u t f l ks := by cases ts[i]; exact ⟨_, _, _, _, _, _, _, rfl⟩
    rw [ht] at hc ⊢
    unfold Tm.row at hc
    unfold CellsAt at hc
    obtain ⟨⟨y0, hy0, hc0⟩, hc⟩ := hc
    unfold CellsAt at hc
    obtain ⟨⟨y1, hy1, hc1⟩, hc⟩ := hc
    unfold CellsAt at hc
    obtain ⟨⟨y2, hy2, hc2⟩, hc⟩ := hc
    unfold CellsAt at hc
    obtain ⟨⟨y3, hy3, hc3⟩, hc⟩ := hc
    unfold CellsAt at hc
    obtain ⟨⟨y4, hy4, hc4⟩, hc⟩ := hc
    unfold CellsAt at hc
    obtain ⟨⟨y5, hy5, hc5⟩, hc⟩ := hc
    unfold CellsAt at hc
    obtain ⟨⟨y6, hy6, hc6⟩, hc⟩ := hc
    unfold CellsAt at hc
    obtain ⟨⟨y7, hy7, hc7⟩, hc⟩ := hc
    unfold CellsAt at hc
    obtain ⟨⟨y8, hy8, hc8⟩, -⟩ := hc
    rw [CRep.int_eq hc0] at hy0
    obtain ⟨rfl, hsz⟩ := CRep.str_eq hc1
    rw [CRep.int_eq hc2] at hy2
    rw [CRep.int_eq hc3] at hy3
    obtain ⟨ta, tq, rfl, -⟩ := CRep.rows hc4
    rw [CRep.int_eq hc5] at hy5
    obtain ⟨fa, fq, rfl, -⟩ := CRep.rows hc6
    rw [CRep.int_eq hc7] at hy7
    obtain ⟨c, q, rfl, -⟩ := CRep.rows hc8
    exact ⟨b, off, k, s, u, t.kind, ta, _, tq, f.kind, fa, _, fq, l, c, _, q, ha, hy0, hy1, hy2, hy3, hy4, hy5, hy6, hy7, hy8, _, _, _, rfl, hsz, hc4, hc6, hc8⟩
theorem TmsRep.at {F : Nat → Prop} {w wr : World} {ts : List Tm} {a : Option Addr} {n cap : Nat} (h : TmsRep F w ts (.slice a n cap)) (hb : Below w.heap.size w wr) {i : Nat} (hi : i < ts.length) :
    ∃ b off k nm u tk ta tn tq fk fa fn fq l c m q, a = some ⟨b, off, none⟩ ∧ b < wr.heap.size ∧ wr.cell? ⟨b, off + i * 9, none⟩ = some (.int .i64 k) ∧ wr.cell? ⟨b, off + i * 9 + 1, none⟩ = some (.string nm) ∧ wr.cell? ⟨b, off + i * 9 + 2, none⟩ = some (.int .i64 u) ∧ wr.cell? ⟨b, off + i * 9 + 3, none⟩ = some (.int .i64 tk) ∧ wr.cell? ⟨b, off + i * 9 + 4, none⟩ = some (.slice ta tn tq) ∧ wr.cell? ⟨b, off + i * 9 + 5, none⟩ = some (.int .i64 fk) ∧ wr.cell? ⟨b, off + i * 9 + 6, none⟩ = some (.slice fa fn fq) ∧ wr.cell? ⟨b, off + i * 9 + 7, none⟩ = some (.int .i64 l) ∧ wr.cell? ⟨b, off + i * 9 + 8, none⟩ = some (.slice c m q) ∧ TmRep F wr ts[i] (.agg #[.int .i64 k, .string nm, .int .i64 u, .int .i64 tk, .slice ta tn tq, .int .i64 fk, .slice fa fn fq, .int .i64 l, .slice c m q]) := by
  obtain ⟨a', cap', he, _, _, hg⟩ := h.open
  simp only [Value.slice.injEq] at he
  obtain ⟨rfl, _, rfl⟩ := he
  obtain ⟨b, off, k, nm, u, tk, ta, tn, tq, fk, fa, fn, fq, l, c, m, q, ha, h0, h1, h2, h3, h4, h5, h6, h7, h8, ht⟩ := hg i hi
  have e0 := bcell hb h0
  exact ⟨b, off, k, nm, u, tk, ta, tn, tq, fk, fa, fn, fq, l, c, m, q, ha, World.block_lt_of_cell? wr _ e0, e0, bcell hb h1, bcell hb h2, bcell hb h3, bcell hb h4, bcell hb h5, bcell hb h6, bcell hb h7, bcell hb h8, ht.below hb⟩
/-- What is known of the parts of a term that is laid open. -/
theorem TmRep.parts {F : Nat → Prop} {w : World} {t : Tm} {k u tk fk l : Int} {nm : ByteArray} {ta fa c : Option Addr} {tn tq fn fq m q : Nat} (h : TmRep F w t (.agg #[.int .i64 k, .string nm, .int .i64 u, .int .i64 tk, .slice ta tn tq, .int .i64 fk, .slice fa fn fq, .int .i64 l, .slice c m q])) :
    k = t.kind ∧ nm = t.name ∧ u = t.num ∧ tk = t.type.kind ∧ tn = t.type.kids.length ∧ fk = t.src.kind ∧ fn = t.src.kids.length ∧ l = t.label ∧ m = t.kids.length ∧ nm.size ≤ maxLen ∧ m ≤ q ∧ q ≤ maxLen ∧
      TyRep F w t.type (.agg #[.int .i64 tk, .slice ta tn tq]) ∧ TyRep F w t.src (.agg #[.int .i64 fk, .slice fa fn fq]) ∧ TmsRep F w t.kids (.slice c m q) := by
  obtain ⟨ta', tq', fa', fq', c', q', he, hn, h4, h5, h6, h7, h8⟩ := h.open
  simp only [Value.agg.injEq, Array.mk.injEq, List.cons.injEq, Value.int.injEq, Value.string.injEq, Value.slice.injEq, true_and, and_true] at he
  obtain ⟨rfl, rfl, rfl, rfl, ⟨rfl, rfl, rfl⟩, rfl, ⟨rfl, rfl, rfl⟩, rfl, ⟨rfl, rfl, rfl⟩⟩ := he
  exact ⟨rfl, rfl, rfl, rfl, rfl, rfl, rfl, rfl, rfl, hn, h4, h5, h6, h7, h8⟩
theorem Tm.kid_lt {t : Tm} {x : Tm} (h : x ∈ t.kids) : SizeOf.sizeOf x < SizeOf.sizeOf t := by
  cases t with
  | mk k s u t f l ts => have := List.sizeOf_lt_of_mem h; simp only [Tm.kids] at h this; simp; omega

mutual
/-- How much a term takes from a purse. -/
def Tm.cnt : Tm → Nat
  | .mk _ s _ t f _ ts => s.size + t.cnt + f.cnt + (ts.length + Tm.cnts ts)
def Tm.cnts : List Tm → Nat
  | [] => 0
  | t :: ts => t.cnt + Tm.cnts ts
end
theorem Tm.cnts_take_succ : ∀ (ts : List Tm) (j : Nat) (h : j < ts.length), Tm.cnts (ts.take (j + 1)) = Tm.cnts (ts.take j) + ts[j].cnt
  | [], _, h => absurd h (Nat.not_lt_zero _)
  | t :: ts, 0, _ => by simp [Tm.cnts]
  | t :: ts, j + 1, h => by
    have := Tm.cnts_take_succ ts j (by simpa using h)
    simp only [List.take_succ_cons, Tm.cnts, List.getElem_cons_succ]
    omega
theorem Tm.cnts_take_le : ∀ (ts : List Tm) (j : Nat), Tm.cnts (ts.take j) ≤ Tm.cnts ts
  | [], _ => by simp
  | t :: ts, 0 => by simp [Tm.cnts]
  | t :: ts, j + 1 => by
    have := Tm.cnts_take_le ts j
    simp only [List.take_succ_cons, Tm.cnts]
    omega
theorem Tm.cnt_mem : ∀ {ts : List Tm} {t : Tm}, t ∈ ts → t.cnt ≤ Tm.cnts ts
  | u :: ts, t, h => by
    rcases List.mem_cons.1 h with rfl | h
    · simp only [Tm.cnts]; omega
    · have := Tm.cnt_mem h; simp only [Tm.cnts]; omega
theorem Tm.cnt_parts (t : Tm) : t.cnt = t.name.size + t.type.cnt + t.src.cnt + (t.kids.length + Tm.cnts t.kids) := by
  cases t with | mk k s u t f l ts => simp only [Tm.cnt, Tm.name, Tm.type, Tm.src, Tm.kids]
theorem Tm.cnt_kid {t x : Tm} (h : x ∈ t.kids) : x.cnt + t.kids.length ≤ t.cnt := by
  have h1 := Tm.cnt_mem h
  have h2 := t.cnt_parts
  omega
end Go.Proofs.Ytblpdpkjgbbhkaa
