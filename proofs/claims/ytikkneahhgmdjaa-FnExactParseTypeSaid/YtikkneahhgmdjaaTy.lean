/-
  Types as trees.
-/
import Derived.Test.YtikkneahhgmdjaaBase
namespace Go.Proofs.Ytikkneahhgmdjaa
open Go.RowKit
set_option linter.unusedVariables false
set_option linter.unusedSimpArgs false

inductive Ty where
  | mk (kind : Int) (kids : List Ty)

def Ty.kind : Ty → Int | .mk k _ => k
def Ty.kids : Ty → List Ty | .mk _ ts => ts

mutual
def Ty.row : Ty → List C
  | .mk k ts => [.int k, .sl (Ty.rows ts)]
def Ty.rows : List Ty → List (List C)
  | [] => []
  | t :: ts => t.row :: Ty.rows ts
end
theorem Ty.rows_eq (ts : List Ty) : Ty.rows ts = ts.map Ty.row := by
  induction ts with
  | nil => rfl
  | cons t ts ih => unfold Ty.rows; rw [ih]; rfl
theorem Ty.rows_length (ts : List Ty) : (Ty.rows ts).length = ts.length := by rw [Ty.rows_eq]; simp
theorem Ty.row_length : ∀ t : Ty, t.row.length = 2 | .mk _ _ => by unfold Ty.row; rfl

/-- A slice of types. -/
def TysRep (F : Nat → Prop) (w : World) (ts : List Ty) (y : Value) : Prop := CRep F w (.sl (Ty.rows ts)) y
/-- A type by value. -/
def TyRep (F : Nat → Prop) (w : World) (t : Ty) (y : Value) : Prop := ∃ s, y = .agg #[.int .i64 t.kind, s] ∧ TysRep F w t.kids s

theorem TysRep.move {F G : Nat → Prop} {w w' : World} {ts : List Ty} {y : Value} (h : TysRep F w ts y) (k : Keeps F G w w') : TysRep G w' ts y := CRep.move k _ _ h
theorem TyRep.move {F G : Nat → Prop} {w w' : World} {t : Ty} {y : Value} (h : TyRep F w t y) (k : Keeps F G w w') : TyRep G w' t y :=
  let ⟨s, h1, h2⟩ := h; ⟨s, h1, h2.move k⟩
theorem TyRep.below {F : Nat → Prop} {w w' : World} {t : Ty} {y : Value} (h : TyRep F w t y) (k : Below w.heap.size w w') : TyRep F w' t y := h.move (.below k)
theorem TysRep.below {F : Nat → Prop} {w w' : World} {t : List Ty} {y : Value} (h : TysRep F w t y) (k : Below w.heap.size w w') : TysRep F w' t y := h.move (.below k)

theorem TysRep.open {F : Nat → Prop} {w : World} {ts : List Ty} {y : Value} (h : TysRep F w ts y) :
    ∃ (a : Option Addr) (cap : Nat), y = .slice a ts.length cap ∧ ts.length ≤ cap ∧ cap ≤ maxLen ∧
      ∀ i (h : i < ts.length), ∃ b off k c m q, a = some ⟨b, off, none⟩ ∧ w.cell? ⟨b, off + i * 2, none⟩ = some (.int .i64 k) ∧ w.cell? ⟨b, off + i * 2 + 1, none⟩ = some (.slice c m q) ∧ TyRep F w ts[i] (.agg #[.int .i64 k, .slice c m q]) := by
  obtain ⟨a, cap, h1, h2, h3, h4⟩ := CRep.rows h
  rw [Ty.rows_length] at h1 h2
  refine ⟨a, cap, h1, h2, h3, fun i hi => ?_⟩
  rcases h4 with h4 | ⟨b, off, ha, hF, hl, hr⟩
  · rw [← Ty.rows_length, h4] at hi; exact absurd hi (Nat.not_lt_zero _)
  · have hc := hr.get (m := 2) (fun r hr => by rw [Ty.rows_eq] at hr; obtain ⟨t, _, rfl⟩ := List.mem_map.1 hr; exact t.row_length) i (by rw [Ty.rows_length]; exact hi)
    have he : (Ty.rows ts)[i]'(by rw [Ty.rows_length]; exact hi) = ts[i].row := by simp [Ty.rows_eq]
    rw [he] at hc
    obtain ⟨k, ks, ht⟩ : ∃ k ks, ts[i] = Ty.mk k ks := ⟨ts[i].kind, ts[i].kids, by cases ts[i]; rfl⟩
    rw [ht] at hc ⊢
    unfold Ty.row CellsAt at hc
    obtain ⟨⟨y0, hy0, hc0⟩, hc⟩ := hc
    unfold CellsAt at hc
    obtain ⟨⟨y1, hy1, hc1⟩, _⟩ := hc
    rw [CRep.int_eq hc0] at hy0
    obtain ⟨c, q, rfl, _⟩ := CRep.rows hc1
    exact ⟨b, off, k, c, _, q, ha, hy0, hy1, _, rfl, hc1⟩
theorem TyRep.open {F : Nat → Prop} {w : World} {t : Ty} {y : Value} (h : TyRep F w t y) :
    ∃ (a : Option Addr) (cap : Nat), y = .agg #[.int .i64 t.kind, .slice a t.kids.length cap] ∧ t.kids.length ≤ cap ∧ cap ≤ maxLen ∧ TysRep F w t.kids (.slice a t.kids.length cap) := by
  obtain ⟨s, rfl, hs⟩ := h
  obtain ⟨a, cap, rfl, h2, h3, _⟩ := hs.open
  exact ⟨a, cap, rfl, h2, h3, hs⟩
theorem TyRep.shape {F : Nat → Prop} {w : World} {t : Ty} {y : Value} (h : TyRep F w t y) : ∃ k a n q, y = .agg #[.int .i64 k, .slice a n q] := by
  obtain ⟨a, q, rfl, _⟩ := h.open
  exact ⟨_, a, _, q, rfl⟩
theorem TysRep.shape {F : Nat → Prop} {w : World} {t : List Ty} {y : Value} (h : TysRep F w t y) : ∃ a n q, y = .slice a n q := by
  obtain ⟨a, q, rfl, _⟩ := h.open
  exact ⟨a, _, q, rfl⟩
theorem Ty.kid_lt {t : Ty} {x : Ty} (h : x ∈ t.kids) : SizeOf.sizeOf x < SizeOf.sizeOf t := by
  cases t with
  | mk k ts => have := List.sizeOf_lt_of_mem h; simp only [Ty.kids] at h this; simp; omega

mutual
/-- How many types lie below a type. -/
def Ty.cnt : Ty → Nat
  | .mk _ ts => ts.length + Ty.cnts ts
def Ty.cnts : List Ty → Nat
  | [] => 0
  | t :: ts => t.cnt + Ty.cnts ts
end
theorem Ty.cnts_take_succ : ∀ (ts : List Ty) (j : Nat) (h : j < ts.length), Ty.cnts (ts.take (j + 1)) = Ty.cnts (ts.take j) + ts[j].cnt
  | [], _, h => absurd h (Nat.not_lt_zero _)
  | t :: ts, 0, _ => by simp [Ty.cnts]
  | t :: ts, j + 1, h => by
    have := Ty.cnts_take_succ ts j (by simpa using h)
    simp only [List.take_succ_cons, Ty.cnts, List.getElem_cons_succ]
    omega
theorem Ty.cnts_take_le : ∀ (ts : List Ty) (j : Nat), Ty.cnts (ts.take j) ≤ Ty.cnts ts
  | [], _ => by simp
  | t :: ts, 0 => by simp [Ty.cnts]
  | t :: ts, j + 1 => by
    have := Ty.cnts_take_le ts j
    simp only [List.take_succ_cons, Ty.cnts]
    omega
theorem Ty.cnt_mem : ∀ {ts : List Ty} {t : Ty}, t ∈ ts → t.cnt ≤ Ty.cnts ts
  | u :: ts, t, h => by
    rcases List.mem_cons.1 h with rfl | h
    · simp only [Ty.cnts]; omega
    · have := Ty.cnt_mem h; simp only [Ty.cnts]; omega
theorem Ty.cnt_kid {t x : Ty} (h : x ∈ t.kids) : x.cnt + t.kids.length ≤ t.cnt := by
  cases t with
  | mk k ts => have h2 : x ∈ ts := h; have := Ty.cnt_mem h2; simp only [Ty.kids, Ty.cnt]; omega
theorem TysRep.at {F : Nat → Prop} {w wr : World} {ts : List Ty} {a : Option Addr} {n cap : Nat} (h : TysRep F w ts (.slice a n cap)) (hb : Below w.heap.size w wr) {i : Nat} (hi : i < ts.length) :
    ∃ b off k c m q, a = some ⟨b, off, none⟩ ∧ b < wr.heap.size ∧ wr.cell? ⟨b, off + i * 2, none⟩ = some (.int .i64 k) ∧ wr.cell? ⟨b, off + i * 2 + 1, none⟩ = some (.slice c m q) ∧ TyRep F wr ts[i] (.agg #[.int .i64 k, .slice c m q]) := by
  obtain ⟨a', cap', he, _, _, hg⟩ := h.open
  simp only [Value.slice.injEq] at he
  obtain ⟨rfl, _, rfl⟩ := he
  obtain ⟨b, off, k, c, m, q, ha, h0, h1, ht⟩ := hg i hi
  have e0 := (hb.cell (p := ⟨b, off + i * 2, none⟩) (World.block_lt_of_cell? w _ h0)).trans h0
  exact ⟨b, off, k, c, m, q, ha, World.block_lt_of_cell? wr _ e0, e0, (hb.cell (p := ⟨b, off + i * 2 + 1, none⟩) (World.block_lt_of_cell? w _ h1)).trans h1, ht.below hb⟩
end Go.Proofs.Ytikkneahhgmdjaa
