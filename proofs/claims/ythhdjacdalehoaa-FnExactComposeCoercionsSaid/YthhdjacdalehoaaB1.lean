/-
  Coercions as trees.
  An argument of the laws' type 'Coercion' reads as a tree.
-/
import Derived.Test.YthhdjacdalehoaaB0
namespace Go.Proofs.Ythhdjacdalehoaa
open Go.RowKit
set_option linter.unusedVariables false
set_option linter.unusedSimpArgs false

inductive Co where
  | mk (kind tag label : Int) (kids : List Co)

def Co.kind : Co → Int | .mk k _ _ _ => k
def Co.tag : Co → Int | .mk _ g _ _ => g
def Co.label : Co → Int | .mk _ _ l _ => l
def Co.kids : Co → List Co | .mk _ _ _ ts => ts

mutual
def Co.row : Co → List C
  | .mk k g l ts => [.int k, .int g, .int l, .sl (Co.rows ts)]
def Co.rows : List Co → List (List C)
  | [] => []
  | t :: ts => t.row :: Co.rows ts
end
theorem Co.rows_eq (ts : List Co) : Co.rows ts = ts.map Co.row := by
  induction ts with
  | nil => rfl
  | cons t ts ih => unfold Co.rows; rw [ih]; rfl
theorem Co.rows_length (ts : List Co) : (Co.rows ts).length = ts.length := by rw [Co.rows_eq]; simp
theorem Co.row_length : ∀ t : Co, t.row.length = 4 | .mk _ _ _ _ => by unfold Co.row; rfl

/-- A slice of types. -/
def CosRep (F : Nat → Prop) (w : World) (ts : List Co) (y : Value) : Prop := CRep F w (.sl (Co.rows ts)) y
/-- A type by value. -/
def CoRep (F : Nat → Prop) (w : World) (t : Co) (y : Value) : Prop := ∃ s, y = .agg #[.int .i64 t.kind, .int .i64 t.tag, .int .i64 t.label, s] ∧ CosRep F w t.kids s

theorem CosRep.move {F G : Nat → Prop} {w w' : World} {ts : List Co} {y : Value} (h : CosRep F w ts y) (k : Keeps F G w w') : CosRep G w' ts y := CRep.move k _ _ h
theorem CoRep.move {F G : Nat → Prop} {w w' : World} {t : Co} {y : Value} (h : CoRep F w t y) (k : Keeps F G w w') : CoRep G w' t y :=
  let ⟨s, h1, h2⟩ := h; ⟨s, h1, h2.move k⟩
theorem CoRep.below {F : Nat → Prop} {w w' : World} {t : Co} {y : Value} (h : CoRep F w t y) (k : Below w.heap.size w w') : CoRep F w' t y := h.move (.below k)
theorem CosRep.below {F : Nat → Prop} {w w' : World} {t : List Co} {y : Value} (h : CosRep F w t y) (k : Below w.heap.size w w') : CosRep F w' t y := h.move (.below k)

theorem CosRep.open {F : Nat → Prop} {w : World} {ts : List Co} {y : Value} (h : CosRep F w ts y) :
    ∃ (a : Option Addr) (cap : Nat), y = .slice a ts.length cap ∧ ts.length ≤ cap ∧ cap ≤ maxLen ∧
      ∀ i (h : i < ts.length), ∃ b off k g l c m q, a = some ⟨b, off, none⟩ ∧ w.cell? ⟨b, off + i * 4, none⟩ = some (.int .i64 k) ∧ w.cell? ⟨b, off + i * 4 + 1, none⟩ = some (.int .i64 g) ∧ w.cell? ⟨b, off + i * 4 + 2, none⟩ = some (.int .i64 l) ∧ w.cell? ⟨b, off + i * 4 + 3, none⟩ = some (.slice c m q) ∧ CoRep F w ts[i] (.agg #[.int .i64 k, .int .i64 g, .int .i64 l, .slice c m q]) := by
  obtain ⟨a, cap, h1, h2, h3, h4⟩ := CRep.rows h
  rw [Co.rows_length] at h1 h2
  refine ⟨a, cap, h1, h2, h3, fun i hi => ?_⟩
  rcases h4 with h4 | ⟨b, off, ha, hF, hl, hr⟩
  · rw [← Co.rows_length, h4] at hi; exact absurd hi (Nat.not_lt_zero _)
  · have hc := hr.get (m := 4) (fun r hr => by rw [Co.rows_eq] at hr; obtain ⟨t, _, rfl⟩ := List.mem_map.1 hr; exact t.row_length) i (by rw [Co.rows_length]; exact hi)
    have he : (Co.rows ts)[i]'(by rw [Co.rows_length]; exact hi) = ts[i].row := by simp [Co.rows_eq]
    rw [he] at hc
    obtain ⟨k, g, l, ks, ht⟩ : ∃ k g l ks, ts[i] = Co.mk k g l ks := ⟨ts[i].kind, ts[i].tag, ts[i].label, ts[i].kids, by cases ts[i]; rfl⟩
    rw [ht] at hc ⊢
    unfold Co.row CellsAt at hc
    obtain ⟨⟨y0, hy0, hc0⟩, hc⟩ := hc
    unfold CellsAt at hc
    obtain ⟨⟨y1, hy1, hc1⟩, hc⟩ := hc
    unfold CellsAt at hc
    obtain ⟨⟨y2, hy2, hc2⟩, hc⟩ := hc
    unfold CellsAt at hc
    obtain ⟨⟨y3, hy3, hc3⟩, _⟩ := hc
    rw [CRep.int_eq hc0] at hy0
    rw [CRep.int_eq hc1] at hy1
    rw [CRep.int_eq hc2] at hy2
    obtain ⟨c, q, rfl, _⟩ := CRep.rows hc3
    exact ⟨b, off, k, g, l, c, _, q, ha, hy0, hy1, hy2, hy3, _, rfl, hc3⟩
theorem CoRep.open {F : Nat → Prop} {w : World} {t : Co} {y : Value} (h : CoRep F w t y) :
    ∃ (a : Option Addr) (cap : Nat), y = .agg #[.int .i64 t.kind, .int .i64 t.tag, .int .i64 t.label, .slice a t.kids.length cap] ∧ t.kids.length ≤ cap ∧ cap ≤ maxLen ∧ CosRep F w t.kids (.slice a t.kids.length cap) := by
  obtain ⟨s, rfl, hs⟩ := h
  obtain ⟨a, cap, rfl, h2, h3, _⟩ := hs.open
  exact ⟨a, cap, rfl, h2, h3, hs⟩
theorem CoRep.shape {F : Nat → Prop} {w : World} {t : Co} {y : Value} (h : CoRep F w t y) : ∃ k g l a n q, y = .agg #[.int .i64 k, .int .i64 g, .int .i64 l, .slice a n q] := by
  obtain ⟨a, q, rfl, _⟩ := h.open
  exact ⟨_, _, _, a, _, q, rfl⟩
theorem CosRep.shape {F : Nat → Prop} {w : World} {t : List Co} {y : Value} (h : CosRep F w t y) : ∃ a n q, y = .slice a n q := by
  obtain ⟨a, q, rfl, _⟩ := h.open
  exact ⟨a, _, q, rfl⟩
theorem Co.kid_lt {t : Co} {x : Co} (h : x ∈ t.kids) : SizeOf.sizeOf x < SizeOf.sizeOf t := by
  cases t with
  | mk k g l ts => have := List.sizeOf_lt_of_mem h; simp only [Co.kids] at h this; simp; omega

mutual
/-- How many types lie below a type. -/
def Co.cnt : Co → Nat
  | .mk _ _ _ ts => ts.length + Co.cnts ts
def Co.cnts : List Co → Nat
  | [] => 0
  | t :: ts => t.cnt + Co.cnts ts
end
theorem Co.cnts_take_succ : ∀ (ts : List Co) (j : Nat) (h : j < ts.length), Co.cnts (ts.take (j + 1)) = Co.cnts (ts.take j) + ts[j].cnt
  | [], _, h => absurd h (Nat.not_lt_zero _)
  | t :: ts, 0, _ => by simp [Co.cnts]
  | t :: ts, j + 1, h => by
    have := Co.cnts_take_succ ts j (by simpa using h)
    simp only [List.take_succ_cons, Co.cnts, List.getElem_cons_succ]
    omega
theorem Co.cnts_take_le : ∀ (ts : List Co) (j : Nat), Co.cnts (ts.take j) ≤ Co.cnts ts
  | [], _ => by simp
  | t :: ts, 0 => by simp [Co.cnts]
  | t :: ts, j + 1 => by
    have := Co.cnts_take_le ts j
    simp only [List.take_succ_cons, Co.cnts]
    omega
theorem Co.cnt_mem : ∀ {ts : List Co} {t : Co}, t ∈ ts → t.cnt ≤ Co.cnts ts
  | u :: ts, t, h => by
    rcases List.mem_cons.1 h with rfl | h
    · simp only [Co.cnts]; omega
    · have := Co.cnt_mem h; simp only [Co.cnts]; omega
theorem Co.cnt_kid {t x : Co} (h : x ∈ t.kids) : x.cnt + t.kids.length ≤ t.cnt := by
  cases t with
  | mk k g l ts => have h2 : x ∈ ts := h; have := Co.cnt_mem h2; simp only [Co.kids, Co.cnt]; omega
theorem CosRep.at {F : Nat → Prop} {w wr : World} {ts : List Co} {a : Option Addr} {n cap : Nat} (h : CosRep F w ts (.slice a n cap)) (hb : Below w.heap.size w wr) {i : Nat} (hi : i < ts.length) :
    ∃ b off k g l c m q, a = some ⟨b, off, none⟩ ∧ b < wr.heap.size ∧ wr.cell? ⟨b, off + i * 4, none⟩ = some (.int .i64 k) ∧ wr.cell? ⟨b, off + i * 4 + 1, none⟩ = some (.int .i64 g) ∧ wr.cell? ⟨b, off + i * 4 + 2, none⟩ = some (.int .i64 l) ∧ wr.cell? ⟨b, off + i * 4 + 3, none⟩ = some (.slice c m q) ∧ CoRep F wr ts[i] (.agg #[.int .i64 k, .int .i64 g, .int .i64 l, .slice c m q]) := by
  obtain ⟨a', cap', he, _, _, hg⟩ := h.open
  simp only [Value.slice.injEq] at he
  obtain ⟨rfl, _, rfl⟩ := he
  obtain ⟨b, off, k, g, l, c, m, q, ha, h0, h1, h2, h3, ht⟩ := hg i hi
  have e0 := bcell hb h0
  exact ⟨b, off, k, g, l, c, m, q, ha, World.block_lt_of_cell? wr _ e0, e0, bcell hb h1, bcell hb h2, bcell hb h3, ht.below hb⟩
end Go.Proofs.Ythhdjacdalehoaa
namespace Go.Proofs.Ythhdjacdalehoaa
open Go.RowKit Go.ChangeShapes Go.WideShapes
set_option linter.unusedVariables false
set_option linter.unusedSimpArgs false
set_option maxRecDepth 100000

theorem Try.cellsLCo : Try.prog.cellsOf 24 = 4 := by kernel_rfl
theorem Try.cellsCoInt : Try.prog.cellsOf 3 = 1 := by kernel_rfl
theorem Try.cellsLCos : Try.prog.cellsOf 22 = 1 := by kernel_rfl

theorem Co.of_rows : ∀ rows : List (List C), (∀ r ∈ rows, ∃ t : Co, r = t.row) → ∃ ts, rows = Co.rows ts
  | [], _ => ⟨[], by unfold Co.rows; rfl⟩
  | r :: rows, h => by
    obtain ⟨t, rfl⟩ := h r (List.mem_cons_self ..)
    obtain ⟨ts, rfl⟩ := Co.of_rows rows (fun r hr => h r (List.mem_cons_of_mem _ hr))
    exact ⟨t :: ts, by conv => rhs; unfold Co.rows⟩

section
variable {H : Type} {enc : TypeId × Value → H} {w : World} {base : Nat} {held : Bool} {spare : Nat → Bool}

theorem co_of_trod : ∀ (n : Nat) (cs : List Value) (x : DataW H × List MemPlace), DataW.trod enc Try.prog w base spare held n 24 cs = some x →
    ∃ (t : Co), t.row.length = 4 ∧ SRep (fun _ => True) w t.row cs := by
  intro n
  induction n using Nat.strongRecOn with
  | _ n IH =>
    intro cs x h
    obtain ⟨xs, m, rfl, _, hlen, hlx, hf⟩ := DataW.trod_struct Try.underlying24 h
    have hx2 : xs.length = 4 := hlx
    have f0 : DataW.trod enc Try.prog w base spare held m 3 ((cs.drop 0).take (Try.prog.cellsOf 3)) = xs[0]? := hf 0 _ rfl
    have f1 : DataW.trod enc Try.prog w base spare held m 3 ((cs.drop 1).take (Try.prog.cellsOf 3)) = xs[1]? := hf 1 _ rfl
    have f2 : DataW.trod enc Try.prog w base spare held m 3 ((cs.drop 2).take (Try.prog.cellsOf 3)) = xs[2]? := hf 2 _ rfl
    have f3 : DataW.trod enc Try.prog w base spare held m 22 ((cs.drop 3).take (Try.prog.cellsOf 22)) = xs[3]? := hf 3 _ rfl
    rw [Try.cellsLCo] at hlen
    match cs, hlen with
    | [c0, c1, c2, c3], _ =>
      rw [List.getElem?_eq_getElem (by omega)] at f0 f1 f2 f3
      rw [Try.cellsCoInt] at f0 f1 f2
      rw [Try.cellsLCos] at f3
      simp only [List.drop_zero, List.drop_succ_cons, List.take_succ_cons, List.take_zero] at f0 f1 f2 f3
      obtain ⟨k, hk⟩ := int_of_trod Try.underlying3 f0
      obtain ⟨g, hg⟩ := int_of_trod Try.underlying3 f1
      obtain ⟨l, hl⟩ := int_of_trod Try.underlying3 f2
      simp at hk hg hl
      subst hk hg hl
      cases m with
      | zero => simp [DataW.trod] at f3
      | succ m =>
        obtain ⟨rows, s, hs, hq, hr⟩ := rows_of_trod (m := 4) Try.underlying22 Try.cellsLCo (by omega) (fun r => ∃ t : Co, r = t.row) (fun cs x h => by
          obtain ⟨t, h1, h2⟩ := IH m (by omega) cs x h
          exact ⟨t.row, ⟨t, rfl⟩, h1, h2⟩) _ _ f3
        simp at hs
        subst hs
        obtain ⟨ts, rfl⟩ := Co.of_rows rows hq
        refine ⟨.mk k g l ts, Co.row_length _, ?_⟩
        unfold Co.row
        have i1 : ∀ n : Int, CRep (fun _ => True) w (.int n) (.int .i64 n) := fun n => by unfold CRep; rfl
        exact ⟨_, _, rfl, i1 _, _, _, rfl, i1 _, _, _, rfl, i1 _, _, _, rfl, hr, rfl⟩

theorem co_of_arg {v : Value} {d : DataW H} {ps : List MemPlace} {r : Reach} {b : Nat} (hv : Value.okWide Try.prog w r b 24 v) (h : DataW.Trod enc Try.prog w base spare held 24 v d ps) :
    ∃ t : Co, CoRep (fun _ => True) w t v := by
  obtain ⟨cs, rfl, hsz⟩ := okWide_struct Try.underlying24 hv
  obtain ⟨fuel, hf⟩ := h
  obtain ⟨t, _, ht⟩ := co_of_trod fuel _ _ hf
  cases t with | mk k g l ts =>
  unfold Co.row at ht
  obtain ⟨z, zs, h1, h2, z1, zs1, rfl, h3, z2, zs2, rfl, h4, z', zs', rfl, h5, rfl⟩ := ht
  rw [CRep.int_eq h2, CRep.int_eq h3, CRep.int_eq h4] at h1
  refine ⟨.mk k g l ts, z', ?_, h5⟩
  obtain ⟨xs⟩ := cs
  simp only [Value.cells] at h1
  rw [show xs = [.int .i64 k, .int .i64 g, .int .i64 l, z'] from by simpa using h1]
  rfl
end
end Go.Proofs.Ythhdjacdalehoaa
