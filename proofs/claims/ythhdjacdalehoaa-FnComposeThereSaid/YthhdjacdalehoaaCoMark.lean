/-
  The laws' helpers that write into a coercion of their own and look whether it is as written.
-/
import Derived.Test.YthhdjacdalehoaaB1
import Derived.Test.YthhdjacdalehoaaB9
import Derived.Test.YthhdjacdalehoaaB1
namespace Go.Proofs.Ythhdjacdalehoaa
open Go.RowKit
set_option linter.unusedVariables false
set_option linter.unusedSimpArgs false
set_option maxRecDepth 100000

theorem Co.rows_append (a b : List Co) : Co.rows (a ++ b) = Co.rows a ++ Co.rows b := by simp [Co.rows_eq]
theorem Co.rows_cons (t : Co) (b : List Co) : Co.rows (t :: b) = t.row :: Co.rows b := by conv => lhs; unfold Co.rows

/-- A block of one's own, whole: the slice over it and its rows. -/
def CosIn (w : World) (b : Nat) (ts : List Co) (fps : List Nat) : Prop := (∃ cs T, w.heap[b]? = some (.cells cs T (0, 0))) ∧ RowsOwn w b 0 (Co.rows ts) fps ∧ fps.Nodup ∧ b ∉ fps

theorem CosIn.row {w : World} {b : Nat} {ts1 ts2 : List Co} {t : Co} {fps : List Nat} (h : CosIn w b (ts1 ++ t :: ts2) fps) :
    ∃ f1 f f2 s, fps = f1 ++ (f ++ f2) ∧ RowsOwn w b 0 (Co.rows ts1) f1 ∧ RowsOwn w b (ts1.length * 4 + 4) (Co.rows ts2) f2 ∧ w.cell? ⟨b, ts1.length * 4, none⟩ = some (.int .i64 t.kind) ∧ w.cell? ⟨b, ts1.length * 4 + 1, none⟩ = some (.int .i64 t.tag) ∧ w.cell? ⟨b, ts1.length * 4 + 2, none⟩ = some (.int .i64 t.label) ∧ w.cell? ⟨b, ts1.length * 4 + 3, none⟩ = some s ∧ CosOwn w t.kids s f := by
  obtain ⟨_, hr, _, _⟩ := h
  rw [Co.rows_append, Co.rows_cons] at hr
  obtain ⟨f1, f, f2, rfl, h1, h2, h3⟩ := RowsOwn.split hr
  rw [Co.flatten_length, Nat.zero_add] at h2 h3
  rw [Co.row_length] at h3
  cases t with | mk k g l us =>
  unfold Co.row CellsOwn at h2
  obtain ⟨y, g1, g2, rfl, hy, k1, k2⟩ := h2
  unfold COwn at k1
  obtain ⟨rfl, rfl⟩ := k1
  unfold CellsOwn at k2
  obtain ⟨y, g1, g2, rfl, hy1, k1, k2⟩ := k2
  unfold COwn at k1
  obtain ⟨rfl, rfl⟩ := k1
  unfold CellsOwn at k2
  obtain ⟨y, g1, g2, rfl, hy2, k1, k2⟩ := k2
  unfold COwn at k1
  obtain ⟨rfl, rfl⟩ := k1
  unfold CellsOwn at k2
  obtain ⟨y', g3, g4, rfl, hy', k3, k4⟩ := k2
  unfold CellsOwn at k4
  subst k4
  exact ⟨f1, g3, f2, y', by simp, h1, h3, hy, hy1, hy2, hy', k3⟩

/-- The world behind the three stores. -/
def set3 (w : World) (b o : Nat) (k : Int) : World := ((w.setCell ⟨b, o, none⟩ (.int .i64 k)).setCell ⟨b, o + 1, none⟩ (.int .i64 (k + 1))).setCell ⟨b, o + 2, none⟩ (.int .i64 (k + 1 + 1))
theorem set3_size (w : World) (b o : Nat) (k : Int) : (set3 w b o k).heap.size = w.heap.size := by simp [set3, World.setCell]
theorem set3_other (w : World) (b o : Nat) (k : Int) (x : Nat) (h : x ≠ b) : (set3 w b o k).heap[x]? = w.heap[x]? := by
  unfold set3
  rw [Below.heap_setCell _ ⟨b, _, none⟩ _ x h, Below.heap_setCell _ ⟨b, _, none⟩ _ x h, Below.heap_setCell _ ⟨b, _, none⟩ _ x h]
theorem set3_blk {w : World} {b o : Nat} {k : Int} {cs : Array Value} {T : TypeId} (h : w.heap[b]? = some (.cells cs T (0, 0))) : ∃ cs', (set3 w b o k).heap[b]? = some (.cells cs' T (0, 0)) := by
  unfold set3
  exact ⟨_, heap_setCell_same (heap_setCell_same (heap_setCell_same h))⟩
theorem set3_cell {w : World} {b o : Nat} {k : Int} {p : Nat} (h : p < o ∨ o + 3 ≤ p) : (set3 w b o k).cell? ⟨b, p, none⟩ = w.cell? ⟨b, p, none⟩ := by
  unfold set3
  rw [World.cell?_setCell_other _ _ _ _ (fun e => by cases e; omega), World.cell?_setCell_other _ _ _ _ (fun e => by cases e; omega), World.cell?_setCell_other _ _ _ _ (fun e => by cases e; omega)]
theorem set3_in {w : World} {b o : Nat} {k : Int} {u0 u1 u2 : Value} (h0 : w.cell? ⟨b, o, none⟩ = some u0) (h1 : w.cell? ⟨b, o + 1, none⟩ = some u1) (h2 : w.cell? ⟨b, o + 2, none⟩ = some u2) :
    (set3 w b o k).cell? ⟨b, o, none⟩ = some (.int .i64 k) ∧ (set3 w b o k).cell? ⟨b, o + 1, none⟩ = some (.int .i64 (k + 1)) ∧ (set3 w b o k).cell? ⟨b, o + 2, none⟩ = some (.int .i64 (k + 1 + 1)) := by
  have e1 : (w.setCell ⟨b, o, none⟩ (.int .i64 k)).cell? ⟨b, o + 1, none⟩ = some u1 := (World.cell?_setCell_other _ _ _ _ (fun e => by simp at e)).trans h1
  have e2 : ((w.setCell ⟨b, o, none⟩ (.int .i64 k)).setCell ⟨b, o + 1, none⟩ (.int .i64 (k + 1))).cell? ⟨b, o + 2, none⟩ = some u2 :=
    (World.cell?_setCell_other _ _ _ _ (fun e => by simp at e)).trans ((World.cell?_setCell_other _ _ _ _ (fun e => by simp at e)).trans h2)
  unfold set3
  refine ⟨?_, ?_, sc_self e2⟩
  · exact (World.cell?_setCell_other _ _ _ _ (fun e => by simp at e)).trans ((World.cell?_setCell_other _ _ _ _ (fun e => by simp at e)).trans (sc_self h0))
  · exact (World.cell?_setCell_other _ _ _ _ (fun e => by simp at e)).trans (sc_self e1)

theorem CosIn.step {w w' : World} {b : Nat} {ts1 ts2 us' : List Co} {t : Co} {k : Int} {f1 f f2 : List Nat} {s : Value} (h : CosIn w b (ts1 ++ t :: ts2) (f1 ++ (f ++ f2))) (h1 : RowsOwn w b 0 (Co.rows ts1) f1) (h2 : RowsOwn w b (ts1.length * 4 + 4) (Co.rows ts2) f2)
    (hs0 : w.cell? ⟨b, ts1.length * 4, none⟩ = some (.int .i64 t.kind)) (hs1 : w.cell? ⟨b, ts1.length * 4 + 1, none⟩ = some (.int .i64 t.tag)) (hs2 : w.cell? ⟨b, ts1.length * 4 + 2, none⟩ = some (.int .i64 t.label)) (hs : w.cell? ⟨b, ts1.length * 4 + 3, none⟩ = some s)
    (hc : Chg f (set3 w b (ts1.length * 4) k) w') (hk : CosOwn w' us' s f) : CosIn w' b (ts1 ++ Co.mk k (k + 1) (k + 2) us' :: ts2) (f1 ++ (f ++ f2)) := by
  obtain ⟨⟨cs, T, hb⟩, _, hd, hn⟩ := h
  simp only [List.mem_append, not_or] at hn
  have hbl := (Array.getElem?_eq_some_iff.1 hb).1
  have hsz := set3_size w b (ts1.length * 4) k
  obtain ⟨cs', hb'⟩ := set3_blk (o := ts1.length * 4) (k := k) hb
  have hbb := hc.block b (by omega) hn.2.1
  have hb1 : w'.heap[b]? = some (.cells cs' T (0, 0)) := hbb.trans hb'
  rw [List.nodup_append, List.nodup_append] at hd
  obtain ⟨d1, ⟨d2, d3, d23⟩, d123⟩ := hd
  have old : ∀ x, x < w.heap.size → x ≠ b → x ∉ f → w'.heap[x]? = w.heap[x]? := fun x hx hxb hxf =>
    (hc.block x (by omega) hxf).trans (set3_other w b _ k x hxb)
  have cell0 : ∀ o, w'.cell? ⟨b, o, none⟩ = (set3 w b (ts1.length * 4) k).cell? ⟨b, o, none⟩ := fun o => World.cell?_of_block (a := ⟨b, o, none⟩) hbb
  have cell : ∀ o, (o < ts1.length * 4 ∨ ts1.length * 4 + 3 ≤ o) → w'.cell? ⟨b, o, none⟩ = w.cell? ⟨b, o, none⟩ := fun o ho => (cell0 o).trans (set3_cell ho)
  obtain ⟨i0, i1, i2⟩ := set3_in (k := k) hs0 hs1 hs2
  refine ⟨⟨_, T, hb1⟩, ?_, ?_, ?_⟩
  · rw [Co.rows_append, Co.rows_cons]
    refine RowsOwn.join ?_ ?_ ?_
    · exact h1.move _ _ _ (fun x hx => old x (h1.lt _ _ _ x hx) (fun e => hn.1 (e ▸ hx)) (fun hf => d123 x hx x (List.mem_append_left _ hf) rfl)) (fun o _ ho => cell o (by rw [Co.flatten_length] at ho; omega))
    · rw [Co.flatten_length, Nat.zero_add]
      unfold Co.row CellsOwn
      refine ⟨_, [], f, by simp, (cell0 _).trans i0, by unfold COwn; exact ⟨rfl, rfl⟩, ?_⟩
      unfold CellsOwn
      refine ⟨_, [], f, by simp, (cell0 _).trans i1, by unfold COwn; exact ⟨rfl, rfl⟩, ?_⟩
      unfold CellsOwn
      refine ⟨_, [], f, by simp, (cell0 _).trans i2, by unfold COwn; exact ⟨by rw [Int.add_assoc]; rfl, rfl⟩, ?_⟩
      unfold CellsOwn
      exact ⟨s, f, [], by simp, (cell _ (by omega)).trans hs, hk, by unfold CellsOwn; rfl⟩
    · rw [Co.flatten_length, Co.row_length, Nat.zero_add]
      exact h2.move _ _ _ (fun x hx => old x (h2.lt _ _ _ x hx) (fun e => hn.2.2 (e ▸ hx)) (fun hf => d23 x hf x hx rfl)) (fun o ho _ => cell o (by omega))
  · rw [List.nodup_append, List.nodup_append]; exact ⟨d1, ⟨d2, d3, d23⟩, d123⟩
  · simp only [List.mem_append, not_or]; exact hn

end Go.Proofs.Ythhdjacdalehoaa
