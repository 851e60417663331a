/-
  Coercions as trees.
-/
import Derived.Test.YtohnlkkofbploaaBase
namespace Go.Proofs.Ytohnlkkofbploaa
open Go.RowKit
set_option linter.unusedVariables false
set_option linter.unusedSimpArgs false

inductive Co where
  | mk (kind tag label : Int) (kids : List Co)

def Co.kind : Co → Int | .mk k _ _ _ => k
def Co.tag : Co → Int | .mk _ g _ _ => g
def Co.label : Co → Int | .mk _ _ l _ => l
def Co.kids : Co → List Co | .mk _ _ _ ts => ts

mutual
def Co.row : Co → List C
  | .mk k g l ts => [.int k, .int g, .int l, .sl (Co.rows ts)]
def Co.rows : List Co → List (List C)
  | [] => []
  | t :: ts => t.row :: Co.rows ts
end
theorem Co.rows_eq (ts : List Co) : Co.rows ts = ts.map Co.row := by
  induction ts with
  | nil => rfl
  | cons t ts ih => unfold Co.rows; rw [ih]; rfl
theorem Co.rows_length (ts : List Co) : (Co.rows ts).length = ts.length := by rw [Co.rows_eq]; simp
theorem Co.row_length : ∀ t : Co, t.row.length = 4 | .mk _ _ _ _ => by unfold Co.row; rfl

/-- A slice of types. -/
def CosRep (F : Nat → Prop) (w : World) (ts : List Co) (y : Value) : Prop := CRep F w (.sl (Co.rows ts)) y
/-- A type by value. -/
def CoRep (F : Nat → Prop) (w : World) (t : Co) (y : Value) : Prop := ∃ s, y = .agg #[.int .i64 t.kind, .int .i64 t.tag, .int .i64 t.label, s] ∧ CosRep F w t.kids s

theorem CosRep.move {F G : Nat → Prop} {w w' : World} {ts : List Co} {y : Value} (h : CosRep F w ts y) (k : Keeps F G w w') : CosRep G w' ts y := CRep.move k _ _ h
theorem CoRep.move {F G : Nat → Prop} {w w' : World} {t : Co} {y : Value} (h : CoRep F w t y) (k : Keeps F G w w') : CoRep G w' t y :=
  let ⟨s, h1, h2⟩ := h; ⟨s, h1, h2.move k⟩
theorem CoRep.below {F : Nat → Prop} {w w' : World} {t : Co} {y : Value} (h : CoRep F w t y) (k : Below w.heap.size w w') : CoRep F w' t y := h.move (.below k)
theorem CosRep.below {F : Nat → Prop} {w w' : World} {t : List Co} {y : Value} (h : CosRep F w t y) (k : Below w.heap.size w w') : CosRep F w' t y := h.move (.below k)

theorem CosRep.open {F : Nat → Prop} {w : World} {ts : List Co} {y : Value} (h : CosRep F w ts y) :
    ∃ (a : Option Addr) (cap : Nat), y = .slice a ts.length cap ∧ ts.length ≤ cap ∧ cap ≤ maxLen ∧
      ∀ i (h : i < ts.length), ∃ b off k g l c m q, a = some ⟨b, off, none⟩ ∧ w.cell? ⟨b, off + i * 4, none⟩ = some (.int .i64 k) ∧ w.cell? ⟨b, off + i * 4 + 1, none⟩ = some (.int .i64 g) ∧ w.cell? ⟨b, off + i * 4 + 2, none⟩ = some (.int .i64 l) ∧ w.cell? ⟨b, off + i * 4 + 3, none⟩ = some (.slice c m q) ∧ CoRep F w ts[i] (.agg #[.int .i64 k, .int .i64 g, .int .i64 l, .slice c m q]) := by
  obtain ⟨a, cap, h1, h2, h3, h4⟩ := CRep.rows h
  rw [Co.rows_length] at h1 h2
  refine ⟨a, cap, h1, h2, h3, fun i hi => ?_⟩
  rcases h4 with h4 | ⟨b, off, ha, hF, hl, hr⟩
  · rw [← Co.rows_length, h4] at hi; exact absurd hi (Nat.not_lt_zero _)
  · have hc := hr.get (m := 4) (fun r hr => by rw [Co.rows_eq] at hr; obtain ⟨t, _, rfl⟩ := List.mem_map.1 hr; exact t.row_length) i (by rw [Co.rows_length]; exact hi)
    have he : (Co.rows ts)[i]'(by rw [Co.rows_length]; exact hi) = ts[i].row := by simp [Co.rows_eq]
    rw [he] at hc
    obtain ⟨k, g, l, ks, ht⟩ : ∃ k g l ks, ts[i] = Co.mk k g l ks := ⟨ts[i].kind, ts[i].tag, ts[i].label, ts[i].kids, by cases ts[i]; rfl⟩
    rw [ht] at hc ⊢
    unfold Co.row CellsAt at hc
    obtain ⟨⟨y0, hy0, hc0⟩, hc⟩ := hc
    unfold CellsAt at hc
    obtain ⟨⟨y1, hy1, hc1⟩, hc⟩ := hc
    unfold CellsAt at hc
    obtain ⟨⟨y2, hy2, hc2⟩, hc⟩ := hc
    unfold CellsAt at hc
    obtain ⟨⟨y3, hy3, hc3⟩, _⟩ := hc
    rw [CRep.int_eq hc0] at hy0
    rw [CRep.int_eq hc1] at hy1
    rw [CRep.int_eq hc2] at hy2
    obtain ⟨c, q, rfl, _⟩ := CRep.rows hc3
    exact ⟨b, off, k, g, l, c, _, q, ha, hy0, hy1, hy2, hy3, _, rfl, hc3⟩
theorem CoRep.open {F : Nat → Prop} {w : World} {t : Co} {y : Value} (h : CoRep F w t y) :
    ∃ (a : Option Addr) (cap : Nat), y = .agg #[.int .i64 t.kind, .int .i64 t.tag, .int .i64 t.label, .slice a t.kids.length cap] ∧ t.kids.length ≤ cap ∧ cap ≤ maxLen ∧ CosRep F w t.kids (.slice a t.kids.length cap) := by
  obtain ⟨s, rfl, hs⟩ := h
  obtain ⟨a, cap, rfl, h2, h3, _⟩ := hs.open
  exact ⟨a, cap, rfl, h2, h3, hs⟩
theorem CoRep.shape {F : Nat → Prop} {w : World} {t : Co} {y : Value} (h : CoRep F w t y) : ∃ k g l a n q, y = .agg #[.int .i64 k, .int .i64 g, .int .i64 l, .slice a n q] := by
  obtain ⟨a, q, rfl, _⟩ := h.open
  exact ⟨_, _, _, a, _, q, rfl⟩
theorem CosRep.shape {F : Nat → Prop} {w : World} {t : List Co} {y : Value} (h : CosRep F w t y) : ∃ a n q, y = .slice a n q := by
  obtain ⟨a, q, rfl, _⟩ := h.open
  exact ⟨a, _, q, rfl⟩
theorem Co.kid_lt {t : Co} {x : Co} (h : x ∈ t.kids) : SizeOf.sizeOf x < SizeOf.sizeOf t := by
  cases t with
  | mk k g l ts => have := List.sizeOf_lt_of_mem h; simp only [Co.kids] at h this; simp; omega

mutual
/-- How many types lie below a type. -/
def Co.cnt : Co → Nat
  | .mk _ _ _ ts => ts.length + Co.cnts ts
def Co.cnts : List Co → Nat
  | [] => 0
  | t :: ts => t.cnt + Co.cnts ts
end
theorem Co.cnts_take_succ : ∀ (ts : List Co) (j : Nat) (h : j < ts.length), Co.cnts (ts.take (j + 1)) = Co.cnts (ts.take j) + ts[j].cnt
  | [], _, h => absurd h (Nat.not_lt_zero _)
  | t :: ts, 0, _ => by simp [Co.cnts]
  | t :: ts, j + 1, h => by
    have := Co.cnts_take_succ ts j (by simpa using h)
    simp only [List.take_succ_cons, Co.cnts, List.getElem_cons_succ]
    omega
theorem Co.cnts_take_le : ∀ (ts : List Co) (j : Nat), Co.cnts (ts.take j) ≤ Co.cnts ts
  | [], _ => by simp
  | t :: ts, 0 => by simp [Co.cnts]
  | t :: ts, j + 1 => by
    have := Co.cnts_take_le ts j
    simp only [List.take_succ_cons, Co.cnts]
    omega
theorem Co.cnt_mem : ∀ {ts : List Co} {t : Co}, t ∈ ts → t.cnt ≤ Co.cnts ts
  | u :: ts, t, h => by
    rcases List.mem_cons.1 h with rfl | h
    · simp only [Co.cnts]; omega
    · have := Co.cnt_mem h; simp only [Co.cnts]; omega
theorem Co.cnt_kid {t x : Co} (h : x ∈ t.kids) : x.cnt + t.kids.length ≤ t.cnt := by
  cases t with
  | mk k g l ts => have h2 : x ∈ ts := h; have := Co.cnt_mem h2; simp only [Co.kids, Co.cnt]; omega
theorem CosRep.at {F : Nat → Prop} {w wr : World} {ts : List Co} {a : Option Addr} {n cap : Nat} (h : CosRep F w ts (.slice a n cap)) (hb : Below w.heap.size w wr) {i : Nat} (hi : i < ts.length) :
    ∃ b off k g l c m q, a = some ⟨b, off, none⟩ ∧ b < wr.heap.size ∧ wr.cell? ⟨b, off + i * 4, none⟩ = some (.int .i64 k) ∧ wr.cell? ⟨b, off + i * 4 + 1, none⟩ = some (.int .i64 g) ∧ wr.cell? ⟨b, off + i * 4 + 2, none⟩ = some (.int .i64 l) ∧ wr.cell? ⟨b, off + i * 4 + 3, none⟩ = some (.slice c m q) ∧ CoRep F wr ts[i] (.agg #[.int .i64 k, .int .i64 g, .int .i64 l, .slice c m q]) := by
  obtain ⟨a', cap', he, _, _, hg⟩ := h.open
  simp only [Value.slice.injEq] at he
  obtain ⟨rfl, _, rfl⟩ := he
  obtain ⟨b, off, k, g, l, c, m, q, ha, h0, h1, h2, h3, ht⟩ := hg i hi
  have e0 := bcell hb h0
  exact ⟨b, off, k, g, l, c, m, q, ha, World.block_lt_of_cell? wr _ e0, e0, bcell hb h1, bcell hb h2, bcell hb h3, ht.below hb⟩
end Go.Proofs.Ytohnlkkofbploaa
