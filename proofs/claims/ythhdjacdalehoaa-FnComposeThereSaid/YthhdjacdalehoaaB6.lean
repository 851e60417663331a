/-
  Coercions as trees.
  Equality of coercions as trees.
  Coercions in memory of one's own.
  CoercionSame of the program and of the reference: equality of trees.
-/
import Derived.Test.YthhdjacdalehoaaB0
import Derived.Test.YthhdjacdalehoaaRows
import Derived.Deep.RegionHeld3
namespace Go.Proofs.Ythhdjacdalehoaa
open Go.RowKit
set_option linter.unusedVariables false
set_option linter.unusedSimpArgs false

inductive Co where
  | mk (kind tag label : Int) (kids : List Co)

def Co.kind : Co → Int | .mk k _ _ _ => k
def Co.tag : Co → Int | .mk _ g _ _ => g
def Co.label : Co → Int | .mk _ _ l _ => l
def Co.kids : Co → List Co | .mk _ _ _ ts => ts

mutual
def Co.row : Co → List C
  | .mk k g l ts => [.int k, .int g, .int l, .sl (Co.rows ts)]
def Co.rows : List Co → List (List C)
  | [] => []
  | t :: ts => t.row :: Co.rows ts
end
theorem Co.rows_eq (ts : List Co) : Co.rows ts = ts.map Co.row := by
  induction ts with
  | nil => rfl
  | cons t ts ih => unfold Co.rows; rw [ih]; rfl
theorem Co.rows_length (ts : List Co) : (Co.rows ts).length = ts.length := by rw [Co.rows_eq]; simp
theorem Co.row_length : ∀ t : Co, t.row.length = 4 | .mk _ _ _ _ => by unfold Co.row; rfl

/-- A slice of types. -/
def CosRep (F : Nat → Prop) (w : World) (ts : List Co) (y : Value) : Prop := CRep F w (.sl (Co.rows ts)) y
/-- A type by value. -/
def CoRep (F : Nat → Prop) (w : World) (t : Co) (y : Value) : Prop := ∃ s, y = .agg #[.int .i64 t.kind, .int .i64 t.tag, .int .i64 t.label, s] ∧ CosRep F w t.kids s

theorem CosRep.move {F G : Nat → Prop} {w w' : World} {ts : List Co} {y : Value} (h : CosRep F w ts y) (k : Keeps F G w w') : CosRep G w' ts y := CRep.move k _ _ h
theorem CoRep.move {F G : Nat → Prop} {w w' : World} {t : Co} {y : Value} (h : CoRep F w t y) (k : Keeps F G w w') : CoRep G w' t y :=
  let ⟨s, h1, h2⟩ := h; ⟨s, h1, h2.move k⟩
theorem CoRep.below {F : Nat → Prop} {w w' : World} {t : Co} {y : Value} (h : CoRep F w t y) (k : Below w.heap.size w w') : CoRep F w' t y := h.move (.below k)
theorem CosRep.below {F : Nat → Prop} {w w' : World} {t : List Co} {y : Value} (h : CosRep F w t y) (k : Below w.heap.size w w') : CosRep F w' t y := h.move (.below k)

theorem CosRep.open {F : Nat → Prop} {w : World} {ts : List Co} {y : Value} (h : CosRep F w ts y) :
    ∃ (a : Option Addr) (cap : Nat), y = .slice a ts.length cap ∧ ts.length ≤ cap ∧ cap ≤ maxLen ∧
      ∀ i (h : i < ts.length), ∃ b off k g l c m q, a = some ⟨b, off, none⟩ ∧ w.cell? ⟨b, off + i * 4, none⟩ = some (.int .i64 k) ∧ w.cell? ⟨b, off + i * 4 + 1, none⟩ = some (.int .i64 g) ∧ w.cell? ⟨b, off + i * 4 + 2, none⟩ = some (.int .i64 l) ∧ w.cell? ⟨b, off + i * 4 + 3, none⟩ = some (.slice c m q) ∧ CoRep F w ts[i] (.agg #[.int .i64 k, .int .i64 g, .int .i64 l, .slice c m q]) := by
  obtain ⟨a, cap, h1, h2, h3, h4⟩ := CRep.rows h
  rw [Co.rows_length] at h1 h2
  refine ⟨a, cap, h1, h2, h3, fun i hi => ?_⟩
  rcases h4 with h4 | ⟨b, off, ha, hF, hl, hr⟩
  · rw [← Co.rows_length, h4] at hi; exact absurd hi (Nat.not_lt_zero _)
  · have hc := hr.get (m := 4) (fun r hr => by rw [Co.rows_eq] at hr; obtain ⟨t, _, rfl⟩ := List.mem_map.1 hr; exact t.row_length) i (by rw [Co.rows_length]; exact hi)
    have he : (Co.rows ts)[i]'(by rw [Co.rows_length]; exact hi) = ts[i].row := by simp [Co.rows_eq]
    rw [he] at hc
    obtain ⟨k, g, l, ks, ht⟩ : ∃ k g l ks, ts[i] = Co.mk k g l ks := ⟨ts[i].kind, ts[i].tag, ts[i].label, ts[i].kids, by cases ts[i]; rfl⟩
    rw [ht] at hc ⊢
    unfold Co.row CellsAt at hc
    obtain ⟨⟨y0, hy0, hc0⟩, hc⟩ := hc
    unfold CellsAt at hc
    obtain ⟨⟨y1, hy1, hc1⟩, hc⟩ := hc
    unfold CellsAt at hc
    obtain ⟨⟨y2, hy2, hc2⟩, hc⟩ := hc
    unfold CellsAt at hc
    obtain ⟨⟨y3, hy3, hc3⟩, _⟩ := hc
    rw [CRep.int_eq hc0] at hy0
    rw [CRep.int_eq hc1] at hy1
    rw [CRep.int_eq hc2] at hy2
    obtain ⟨c, q, rfl, _⟩ := CRep.rows hc3
    exact ⟨b, off, k, g, l, c, _, q, ha, hy0, hy1, hy2, hy3, _, rfl, hc3⟩
theorem CoRep.open {F : Nat → Prop} {w : World} {t : Co} {y : Value} (h : CoRep F w t y) :
    ∃ (a : Option Addr) (cap : Nat), y = .agg #[.int .i64 t.kind, .int .i64 t.tag, .int .i64 t.label, .slice a t.kids.length cap] ∧ t.kids.length ≤ cap ∧ cap ≤ maxLen ∧ CosRep F w t.kids (.slice a t.kids.length cap) := by
  obtain ⟨s, rfl, hs⟩ := h
  obtain ⟨a, cap, rfl, h2, h3, _⟩ := hs.open
  exact ⟨a, cap, rfl, h2, h3, hs⟩
theorem CoRep.shape {F : Nat → Prop} {w : World} {t : Co} {y : Value} (h : CoRep F w t y) : ∃ k g l a n q, y = .agg #[.int .i64 k, .int .i64 g, .int .i64 l, .slice a n q] := by
  obtain ⟨a, q, rfl, _⟩ := h.open
  exact ⟨_, _, _, a, _, q, rfl⟩
theorem CosRep.shape {F : Nat → Prop} {w : World} {t : List Co} {y : Value} (h : CosRep F w t y) : ∃ a n q, y = .slice a n q := by
  obtain ⟨a, q, rfl, _⟩ := h.open
  exact ⟨a, _, q, rfl⟩
theorem Co.kid_lt {t : Co} {x : Co} (h : x ∈ t.kids) : SizeOf.sizeOf x < SizeOf.sizeOf t := by
  cases t with
  | mk k g l ts => have := List.sizeOf_lt_of_mem h; simp only [Co.kids] at h this; simp; omega

mutual
/-- How many types lie below a type. -/
def Co.cnt : Co → Nat
  | .mk _ _ _ ts => ts.length + Co.cnts ts
def Co.cnts : List Co → Nat
  | [] => 0
  | t :: ts => t.cnt + Co.cnts ts
end
theorem Co.cnts_take_succ : ∀ (ts : List Co) (j : Nat) (h : j < ts.length), Co.cnts (ts.take (j + 1)) = Co.cnts (ts.take j) + ts[j].cnt
  | [], _, h => absurd h (Nat.not_lt_zero _)
  | t :: ts, 0, _ => by simp [Co.cnts]
  | t :: ts, j + 1, h => by
    have := Co.cnts_take_succ ts j (by simpa using h)
    simp only [List.take_succ_cons, Co.cnts, List.getElem_cons_succ]
    omega
theorem Co.cnts_take_le : ∀ (ts : List Co) (j : Nat), Co.cnts (ts.take j) ≤ Co.cnts ts
  | [], _ => by simp
  | t :: ts, 0 => by simp [Co.cnts]
  | t :: ts, j + 1 => by
    have := Co.cnts_take_le ts j
    simp only [List.take_succ_cons, Co.cnts]
    omega
theorem Co.cnt_mem : ∀ {ts : List Co} {t : Co}, t ∈ ts → t.cnt ≤ Co.cnts ts
  | u :: ts, t, h => by
    rcases List.mem_cons.1 h with rfl | h
    · simp only [Co.cnts]; omega
    · have := Co.cnt_mem h; simp only [Co.cnts]; omega
theorem Co.cnt_kid {t x : Co} (h : x ∈ t.kids) : x.cnt + t.kids.length ≤ t.cnt := by
  cases t with
  | mk k g l ts => have h2 : x ∈ ts := h; have := Co.cnt_mem h2; simp only [Co.kids, Co.cnt]; omega
theorem CosRep.at {F : Nat → Prop} {w wr : World} {ts : List Co} {a : Option Addr} {n cap : Nat} (h : CosRep F w ts (.slice a n cap)) (hb : Below w.heap.size w wr) {i : Nat} (hi : i < ts.length) :
    ∃ b off k g l c m q, a = some ⟨b, off, none⟩ ∧ b < wr.heap.size ∧ wr.cell? ⟨b, off + i * 4, none⟩ = some (.int .i64 k) ∧ wr.cell? ⟨b, off + i * 4 + 1, none⟩ = some (.int .i64 g) ∧ wr.cell? ⟨b, off + i * 4 + 2, none⟩ = some (.int .i64 l) ∧ wr.cell? ⟨b, off + i * 4 + 3, none⟩ = some (.slice c m q) ∧ CoRep F wr ts[i] (.agg #[.int .i64 k, .int .i64 g, .int .i64 l, .slice c m q]) := by
  obtain ⟨a', cap', he, _, _, hg⟩ := h.open
  simp only [Value.slice.injEq] at he
  obtain ⟨rfl, _, rfl⟩ := he
  obtain ⟨b, off, k, g, l, c, m, q, ha, h0, h1, h2, h3, ht⟩ := hg i hi
  have e0 := bcell hb h0
  exact ⟨b, off, k, g, l, c, m, q, ha, World.block_lt_of_cell? wr _ e0, e0, bcell hb h1, bcell hb h2, bcell hb h3, ht.below hb⟩
end Go.Proofs.Ythhdjacdalehoaa
namespace Go.Proofs.Ythhdjacdalehoaa
open Go.RowKit
set_option linter.unusedVariables false
set_option linter.unusedSimpArgs false
set_option maxRecDepth 100000

mutual
def Co.same : Co → Co → Bool
  | .mk k g l ts, .mk k' g' l' us => k == k' && g == g' && l == l' && Co.sames ts us
def Co.sames : List Co → List Co → Bool
  | [], [] => true
  | t :: ts, u :: us => t.same u && Co.sames ts us
  | _, _ => false
end
def call2 (R : Co → Co → Bool) : List Co → List Co → Bool
  | [], [] => true
  | t :: ts, u :: us => R t u && call2 R ts us
  | _, _ => false
theorem call2_drop (R : Co → Co → Bool) (ts us : List Co) (k : Nat) (h : k < ts.length) (h' : k < us.length) : call2 R (ts.drop k) (us.drop k) = (R ts[k] us[k] && call2 R (ts.drop (k + 1)) (us.drop (k + 1))) := by
  rw [List.drop_eq_getElem_cons h, List.drop_eq_getElem_cons h']; rfl
theorem call2_len (R : Co → Co → Bool) : ∀ (ts us : List Co), ts.length ≠ us.length → call2 R ts us = false
  | [], [], h => absurd rfl h
  | [], _ :: _, _ => rfl
  | _ :: _, [], _ => rfl
  | t :: ts, u :: us, h => by
    have := call2_len R ts us (fun e => h (by simp [e]))
    simp [call2, this]
theorem call2_end (R : Co → Co → Bool) (ts us : List Co) (k : Nat) (h : ts.length ≤ k) (h' : us.length ≤ k) : call2 R (ts.drop k) (us.drop k) = true := by
  rw [List.drop_eq_nil_of_le h, List.drop_eq_nil_of_le h']; rfl
theorem Co.sames_all2 : ∀ ts us : List Co, call2 Co.same ts us = Co.sames ts us
  | [], [] => by unfold Co.sames; rfl
  | [], _ :: _ => by unfold Co.sames; rfl
  | _ :: _, [] => by unfold Co.sames; rfl
  | t :: ts, u :: us => by unfold Co.sames call2; rw [Co.sames_all2 ts us]
mutual
theorem Co.same_refl : ∀ t : Co, t.same t = true
  | .mk k g l ts => by unfold Co.same; rw [Co.sames_refl ts]; simp
theorem Co.sames_refl : ∀ ts : List Co, Co.sames ts ts = true
  | [] => by unfold Co.sames; rfl
  | t :: ts => by unfold Co.sames; rw [Co.same_refl t, Co.sames_refl ts]; rfl
end

end Go.Proofs.Ythhdjacdalehoaa
namespace Go.Proofs.Ythhdjacdalehoaa
open Go.RowKit
set_option linter.unusedVariables false
set_option linter.unusedSimpArgs false

def CoOwn (w : World) (t : Co) (y : Value) (fp : List Nat) : Prop := ∃ s, y = .agg #[.int .i64 t.kind, .int .i64 t.tag, .int .i64 t.label, s] ∧ COwn w (.sl (Co.rows t.kids)) s fp
def CosOwn (w : World) (ts : List Co) (y : Value) (fp : List Nat) : Prop := COwn w (.sl (Co.rows ts)) y fp
def CoNew (B : Nat) (w : World) (t : Co) (y : Value) : Prop := ∃ fp, CoOwn w t y fp ∧ fp.Nodup ∧ ∀ b ∈ fp, B ≤ b
def CosNew (B : Nat) (w : World) (ts : List Co) (y : Value) : Prop := ∃ fp, CosOwn w ts y fp ∧ fp.Nodup ∧ ∀ b ∈ fp, B ≤ b
theorem CoOwn.shape {w : World} {t : Co} {y : Value} {fp : List Nat} (h : CoOwn w t y fp) : ∃ k g l a n q, y = .agg #[.int .i64 k, .int .i64 g, .int .i64 l, .slice a n q] ∧ k = t.kind ∧ g = t.tag ∧ l = t.label ∧ CosOwn w t.kids (.slice a n q) fp := by
  obtain ⟨s, rfl, h⟩ := h
  have h' := h
  unfold COwn at h'
  obtain ⟨a, q, rfl, _⟩ := h'
  exact ⟨_, _, _, a, _, q, rfl, rfl, rfl, rfl, h⟩
theorem CoOwn.below {w w' : World} {t : Co} {y : Value} {fp : List Nat} (h : CoOwn w t y fp) (k : Below w.heap.size w w') : CoOwn w' t y fp :=
  let ⟨s, h1, h2⟩ := h; ⟨s, h1, h2.move _ _ _ fun b hb => k.block b (h2.lt _ _ _ b hb)⟩
theorem CoOwn.rep {w : World} {t : Co} {y : Value} {fp : List Nat} (h : CoOwn w t y fp) : CoRep (· ∈ fp) w t y :=
  let ⟨s, h1, h2⟩ := h; ⟨s, h1, h2.rep _ _ _ fun _ hb => hb⟩
theorem CoOwn.lt {w : World} {t : Co} {y : Value} {fp : List Nat} (r : CoOwn w t y fp) : ∀ b ∈ fp, b < w.heap.size := by
  obtain ⟨s, rfl, ho⟩ := r
  exact COwn.lt _ _ _ ho
theorem CoNew.below {B : Nat} {w w' : World} {t : Co} {y : Value} (h : CoNew B w t y) (k : Below w.heap.size w w') : CoNew B w' t y :=
  let ⟨fp, h1, h2, h3⟩ := h; ⟨fp, h1.below k, h2, h3⟩
theorem CoNew.rep {B : Nat} {w : World} {t : Co} {y : Value} (h : CoNew B w t y) : CoRep (B ≤ ·) w t y :=
  let ⟨fp, h1, _, h3⟩ := h; h1.rep.move (.weaken fun b hb _ => h3 b hb)
theorem CosNew.rep {B : Nat} {w : World} {ts : List Co} {y : Value} (h : CosNew B w ts y) : CosRep (B ≤ ·) w ts y :=
  let ⟨_, h1, _, h3⟩ := h; COwn.rep _ _ _ (fun b hb => h3 b hb) h1
theorem CosNew.below {B : Nat} {w w' : World} {ts : List Co} {y : Value} (h : CosNew B w ts y) (k : Below w.heap.size w w') : CosNew B w' ts y :=
  let ⟨fp, h1, h2, h3⟩ := h; ⟨fp, COwn.move _ _ _ (fun b hb => k.block b (COwn.lt _ _ _ h1 b hb)) h1, h2, h3⟩
theorem CoNew.shape {B : Nat} {w : World} {t : Co} {y : Value} (h : CoNew B w t y) : ∃ k g l a n q, y = .agg #[.int .i64 k, .int .i64 g, .int .i64 l, .slice a n q] := by
  obtain ⟨fp, h, _⟩ := h
  obtain ⟨k, g, l, a, n, q, rfl, _⟩ := h.shape
  exact ⟨k, g, l, a, n, q, rfl⟩
theorem CosNew.setCell {B : Nat} {w : World} {ts : List Co} {y : Value} (h : CosNew B w ts y) {p : Addr} (hp : p.block < B) (v : Value) : CosNew B (w.setCell p v) ts y := by
  obtain ⟨fp, h1, h2, h3⟩ := h
  exact ⟨fp, COwn.move _ _ _ (fun b hb => Below.heap_setCell w p v b (by have := h3 b hb; omega)) h1, h2, h3⟩
theorem CosNew.co {B : Nat} {w : World} {k g l : Int} {ts : List Co} {y : Value} (h : CosNew B w ts y) : CoNew B w (.mk k g l ts) (.agg #[.int .i64 k, .int .i64 g, .int .i64 l, y]) := by
  obtain ⟨fp, h1, h2, h3⟩ := h
  exact ⟨fp, ⟨y, rfl, h1⟩, h2, h3⟩
theorem CoNew.setCell {B : Nat} {w : World} {t : Co} {y : Value} (h : CoNew B w t y) {p : Addr} (hp : p.block < B) (v : Value) : CoNew B (w.setCell p v) t y := by
  obtain ⟨fp, ⟨s, hs, h1⟩, h2, h3⟩ := h
  exact ⟨fp, ⟨s, hs, COwn.move _ _ _ (fun b hb => Below.heap_setCell w p v b (by have := h3 b hb; omega)) h1⟩, h2, h3⟩
theorem CoNew.mono {B B' : Nat} {w : World} {t : Co} {y : Value} (h : CoNew B w t y) (hB : B' ≤ B) : CoNew B' w t y :=
  let ⟨fp, h1, h2, h3⟩ := h; ⟨fp, h1, h2, fun b hb => Nat.le_trans hB (h3 b hb)⟩
theorem CosNew.mono {B B' : Nat} {w : World} {t : List Co} {y : Value} (h : CosNew B w t y) (hB : B' ≤ B) : CosNew B' w t y :=
  let ⟨fp, h1, h2, h3⟩ := h; ⟨fp, h1, h2, fun b hb => Nat.le_trans hB (h3 b hb)⟩
theorem Co.flatten_length (ts : List Co) : (Co.rows ts).flatten.length = ts.length * 4 := by
  induction ts with
  | nil => unfold Co.rows; rfl
  | cons t ts ih => unfold Co.rows; rw [List.flatten_cons, List.length_append, ih, t.row_length, List.length_cons]; omega
theorem CoOwn.cells {w : World} {t : Co} {s : Value} {fp : List Nat} {k g l : Int} (h : CoOwn w t (.agg #[.int .i64 k, .int .i64 g, .int .i64 l, s]) fp) : SOwn w t.row [.int .i64 k, .int .i64 g, .int .i64 l, s] fp := by
  obtain ⟨s', he, h⟩ := h
  cases t with | mk k' g' l' ts =>
  simp only [Value.agg.injEq, Array.mk.injEq, List.cons.injEq, Value.int.injEq, true_and, and_true] at he
  obtain ⟨rfl, rfl, rfl, rfl⟩ := he
  unfold Co.row
  have i1 : ∀ n : Int, COwn w (.int n) (.int .i64 n) [] := fun n => by unfold COwn; exact ⟨rfl, rfl⟩
  exact ⟨_, _, [], fp, rfl, rfl, i1 _, _, _, [], fp, rfl, rfl, i1 _, _, _, [], fp, rfl, rfl, i1 _, _, _, fp, [], rfl, by simp, h, rfl, rfl⟩
theorem CoNew.open {B : Nat} {w : World} {t : Co} {y : Value} (h : CoNew B w t y) : ∃ k g l c m q fp, y = .agg #[.int .i64 k, .int .i64 g, .int .i64 l, .slice c m q] ∧ k = t.kind ∧ m = t.kids.length ∧ SOwn w t.row [.int .i64 k, .int .i64 g, .int .i64 l, .slice c m q] fp ∧ fp.Nodup ∧ ∀ b ∈ fp, B ≤ b := by
  obtain ⟨fp, h1, h2, h3⟩ := h
  obtain ⟨s, rfl, h⟩ := h1
  have h' := h
  unfold COwn at h'
  obtain ⟨a, cap, rfl, _⟩ := h'
  exact ⟨_, _, _, a, _, cap, fp, rfl, rfl, Co.rows_length _, CoOwn.cells ⟨_, rfl, h⟩, h2, h3⟩
end Go.Proofs.Ythhdjacdalehoaa
namespace Go.Proofs.Ythhdjacdalehoaa
open Go.RowKit
set_option linter.unusedVariables false
set_option linter.unusedSimpArgs false
set_option maxRecDepth 100000

set_option maxHeartbeats 1000000 in
theorem equalFunc_Co (g : FuncId) (R : Co → Co → Bool) (F G : Nat → Prop) (ts us : List Co) (ys zs : Value) (w : World) (hy : CosRep F w ts ys) (hz : CosRep G w us zs)
    (hcf : ∀ xs W, (callFunc g xs).run Try.prog W = .ok (.enter g xs) W)
    (hg : ∀ t ∈ ts, ∀ u ∈ us, ∀ (W : World) (y z : Value), CoRep F W t y → CoRep G W u z → Calls Try.prog g #[y, z] W fun e W' => e = .returned (.bool (R t u)) ∧ Below W.heap.size W W') :
    Calls Try.prog 36 #[ys, zs, .func (.func g) #[] #[]] w fun e w' => e = .returned (.bool (call2 R ts us)) ∧ Below w.heap.size w w' := by
  have HG := Lib.hid hg
  clear hg
  obtain ⟨a, cap, rfl, h2, h3, -⟩ := hy.open
  obtain ⟨c, cap', rfl, g2, g3, -⟩ := hz.open
  unfold maxLen at h3 g3
  by_cases hl : ts.length = us.length
  · obtain ⟨n, hn⟩ : ∃ n, ts.length = n := ⟨_, rfl⟩
    rw [hn] at hl h2 hy
    rw [← hl] at g2 hz
    have HN := Lib.hid hn
    have HL := Lib.hid hl
    rw [hn, ← hl]
    clear hn hl
    go_enter Try.func36, Try.ntmps36
    go_wp2_with fail
    go_loopw [17] (fun i wr => ∃ k : Nat, k ≤ n ∧ i = .int .i64 k ∧ Below w.heap.size w wr ∧ Hid (call2 R ts us = call2 R (ts.drop k) (us.drop k))) (fun i _ => n - (intOf i).toNat)
    case atStart => exact ⟨0, by omega, rfl, Below.refl _ _, rfl⟩
    case round =>
      obtain ⟨j, hk, rfl, hbw, hR⟩ := hrel
      by_cases hlt : j < n
      · have hkt : j < ts.length := by rw [HN.out]; exact hlt
        have hku : j < us.length := by rw [← HL.out]; exact hlt
        obtain ⟨b, off, k0, g0, l0, a0, m0, q0, rfl, lb, e0, e1, e2, e3, ht⟩ := hy.at hbw hkt
        obtain ⟨b', off', k0', g0', l0', a0', m0', q0', rfl, lb', e0', e1', e2', e3', hu⟩ := hz.at hbw hku
        have hcall := HG.out ts[j] (List.getElem_mem hkt) us[j] (List.getElem_mem hku)
        have hstep := hR.out.trans (call2_drop R ts us j hkt hku)
        generalize R ts[j] us[j] = r at hcall hstep
        have HC := Lib.hid hcall
        have HS := Lib.hid hstep
        clear hcall hstep hR
        cases r
        all_goals
          go_wp2_with fail
          refine (HC.out _ _ _ (ht.below bal2) (hu.below bal2)).mono ?_
          rintro e w1 ⟨rfl, hb1⟩
          go_wp2_with fail
        · go_ret
          exact ⟨ret_bool (by rw [HS.out]; rfl), bstep (bstep hbw bal2) hb1⟩
        · go_roundw
          case rel => exact ⟨j + 1, by omega, by go_num, bstep (bstep hbw bal2) hb1, by rw [Hid, HS.out]; rfl⟩
          case measure => simp [intOf]; omega
      · go_wp2_with fail
        go_ret
        exact ⟨ret_bool (by rw [hR.out, call2_end _ _ _ _ (by rw [HN.out]; omega) (by rw [← HL.out]; omega)]), hbw⟩
  · have HL := Lib.hid hl
    go_enter Try.func36, Try.ntmps36
    go_wp2_with fail
    go_ret
    exact ⟨ret_bool (call2_len R ts us HL.out).symm, Below.refl _ _⟩

set_option maxHeartbeats 1000000 in
theorem implCoercionSame (F G : Nat → Prop) (t : Co) : ∀ (u : Co) (y z : Value) (w : World), CoRep F w t y → CoRep G w u z →
    Calls Try.prog 15 #[y, z] w fun e w' => e = .returned (.bool (t.same u)) ∧ Below w.heap.size w w' := by
  intro u y z w hy hz
  have IH : ∀ t' ∈ t.kids, ∀ u' ∈ u.kids, ∀ (W : World) (y z : Value), CoRep F W t' y → CoRep G W u' z → Calls Try.prog 15 #[y, z] W fun e W' => e = .returned (.bool (t'.same u')) ∧ Below W.heap.size W W' :=
    fun t' ht u' _ W y z a b => implCoercionSame F G t' u' y z W a b
  obtain ⟨a, cap, rfl, h2, h3, h4⟩ := hy.open
  obtain ⟨c, cap', rfl, g2, g3, g4⟩ := hz.open
  clear hy hz
  cases t with | mk k g l ts => cases u with | mk k' g' l' us =>
  simp only [Co.kind, Co.tag, Co.label, Co.kids] at *
  have HC := fun W (h : Below w.heap.size w W) => equalFunc_Co _ _ F G ts us _ _ W (h4.below h) (g4.below h) Try.call15 IH
  simp only [Co.sames_all2] at HC
  have H := Lib.hid HC
  clear HC IH
  generalize ts.length = n at *
  generalize us.length = m at *
  unfold Co.same
  by_cases hk : k = k'
  · subst hk
    by_cases hg : g = g'
    · subst hg
      by_cases hl : l = l'
      · subst hl
        go_enter Try.func15, Try.ntmps15
        go_wp2_with fail
        refine (H.out _ bal2).mono ?_
        rintro e w1 ⟨rfl, hb1⟩
        go_wp2_with fail
        go_ret
        exact ⟨ret_bool (by simp), bstep bal2 hb1⟩
      · have hkl : (l == l') = false := by simpa using hl
        clear hl
        go_enter Try.func15, Try.ntmps15
        go_wp2_with fail
        go_ret
        exact ⟨ret_bool (by simp [hkl]), bal2⟩
    · have hkl : (g == g') = false := by simpa using hg
      clear hg
      go_enter Try.func15, Try.ntmps15
      go_wp2_with fail
      go_ret
      exact ⟨ret_bool (by simp [hkl]), bal2⟩
  · have hkl : (k == k') = false := by simpa using hk
    clear hk
    go_enter Try.func15, Try.ntmps15
    go_wp2_with fail
    go_ret
    exact ⟨ret_bool (by simp [hkl]), bal2⟩
termination_by SizeOf.sizeOf t
decreasing_by exact Co.kid_lt ht

end Go.Proofs.Ythhdjacdalehoaa
