/-
  The laws' helpers that write into a coercion of their own and look whether it is as written.
-/
import Derived.Test.YthhdjacdalehoaaB7
import Derived.Test.YthhdjacdalehoaaLaCo
import Derived.Test.YthhdjacdalehoaaB8
namespace Go.Proofs.Ythhdjacdalehoaa
open Go.RowKit
set_option linter.unusedVariables false
set_option linter.unusedSimpArgs false
set_option maxRecDepth 100000

mutual
/-- How many numbers lie in a list, at all depths. -/
def Co.mcnts : List Co → Nat
  | [] => 0
  | t :: ts => t.mcnt + Co.mcnts ts
def Co.mcnt : Co → Nat
  | .mk _ _ _ us => 3 + Co.mcnts us
end
mutual
/-- All numbers of a list written anew, from m on. -/
def Co.marks : List Co → Int → List Co
  | [], _ => []
  | t :: ts, m => t.marked m :: Co.marks ts (m + t.mcnt)
def Co.marked : Co → Int → Co
  | .mk _ _ _ us, m => .mk m (m + 1) (m + 2) (Co.marks us (m + 3))
end

theorem Co.marks_length : ∀ (ts : List Co) (m : Int), (Co.marks ts m).length = ts.length
  | [], _ => by unfold Co.marks; rfl
  | t :: ts, m => by unfold Co.marks; simp [Co.marks_length ts]
theorem Co.marks_get : ∀ (ts : List Co) (m : Int) (j : Nat) (h : j < ts.length), (Co.marks ts m)[j]'(by rw [Co.marks_length]; exact h) = ts[j].marked (m + Co.mcnts (ts.take j))
  | [], _, _, h => absurd h (Nat.not_lt_zero _)
  | t :: ts, m, 0, _ => by simp [Co.marks, Co.mcnts]
  | t :: ts, m, j + 1, h => by
    have := Co.marks_get ts (m + t.mcnt) j (by simpa using h)
    simp only [Co.marks, List.getElem_cons_succ, this, List.take_succ_cons, Co.mcnts]
    congr 1
    omega
theorem Co.mcnts_take_succ : ∀ (ts : List Co) (j : Nat) (h : j < ts.length), Co.mcnts (ts.take (j + 1)) = Co.mcnts (ts.take j) + ts[j].mcnt
  | [], _, h => absurd h (Nat.not_lt_zero _)
  | t :: ts, 0, _ => by simp [Co.mcnts]
  | t :: ts, j + 1, h => by
    have := Co.mcnts_take_succ ts j (by simpa using h)
    simp only [List.take_succ_cons, Co.mcnts, List.getElem_cons_succ]
    omega
theorem Co.mcnts_take_le : ∀ (ts : List Co) (j : Nat), Co.mcnts (ts.take j) ≤ Co.mcnts ts
  | [], _ => by simp
  | t :: ts, 0 => by simp [Co.mcnts]
  | t :: ts, j + 1 => by
    have := Co.mcnts_take_le ts j
    simp only [List.take_succ_cons, Co.mcnts]
    omega
mutual
theorem Co.marked_cnt : ∀ (t : Co) (m : Int), (t.marked m).cnt = t.cnt
  | .mk _ _ _ us, m => by unfold Co.marked Co.cnt; rw [Co.marks_length, Co.marks_cnts us]
theorem Co.marks_cnts : ∀ (ts : List Co) (m : Int), Co.cnts (Co.marks ts m) = Co.cnts ts
  | [], _ => by unfold Co.marks; rfl
  | t :: ts, m => by unfold Co.marks Co.cnts; rw [Co.marked_cnt t, Co.marks_cnts ts]
end
mutual
theorem Co.mcnt_eq : ∀ t : Co, t.mcnt = 3 + 3 * t.cnt
  | .mk _ _ _ us => by unfold Co.mcnt Co.cnt; rw [Co.mcnts_eq us]
theorem Co.mcnts_eq : ∀ ts : List Co, Co.mcnts ts = 3 * (ts.length + Co.cnts ts)
  | [] => by unfold Co.mcnts Co.cnts; rfl
  | t :: ts => by unfold Co.mcnts Co.cnts; rw [Co.mcnt_eq t, Co.mcnts_eq ts]; simp; omega
end
theorem Co.rows_append (a b : List Co) : Co.rows (a ++ b) = Co.rows a ++ Co.rows b := by simp [Co.rows_eq]
theorem Co.rows_cons (t : Co) (b : List Co) : Co.rows (t :: b) = t.row :: Co.rows b := by conv => lhs; unfold Co.rows

/-- A block of one's own, whole: the slice over it and its rows. -/
def CosIn (w : World) (b : Nat) (ts : List Co) (fps : List Nat) : Prop := (∃ cs T, w.heap[b]? = some (.cells cs T (0, 0))) ∧ RowsOwn w b 0 (Co.rows ts) fps ∧ fps.Nodup ∧ b ∉ fps

theorem CosIn.row {w : World} {b : Nat} {ts1 ts2 : List Co} {t : Co} {fps : List Nat} (h : CosIn w b (ts1 ++ t :: ts2) fps) :
    ∃ f1 f f2 s, fps = f1 ++ (f ++ f2) ∧ RowsOwn w b 0 (Co.rows ts1) f1 ∧ RowsOwn w b (ts1.length * 4 + 4) (Co.rows ts2) f2 ∧ w.cell? ⟨b, ts1.length * 4, none⟩ = some (.int .i64 t.kind) ∧ w.cell? ⟨b, ts1.length * 4 + 1, none⟩ = some (.int .i64 t.tag) ∧ w.cell? ⟨b, ts1.length * 4 + 2, none⟩ = some (.int .i64 t.label) ∧ w.cell? ⟨b, ts1.length * 4 + 3, none⟩ = some s ∧ CosOwn w t.kids s f := by
  obtain ⟨_, hr, _, _⟩ := h
  rw [Co.rows_append, Co.rows_cons] at hr
  obtain ⟨f1, f, f2, rfl, h1, h2, h3⟩ := RowsOwn.split hr
  rw [Co.flatten_length, Nat.zero_add] at h2 h3
  rw [Co.row_length] at h3
  cases t with | mk k g l us =>
  unfold Co.row CellsOwn at h2
  obtain ⟨y, g1, g2, rfl, hy, k1, k2⟩ := h2
  unfold COwn at k1
  obtain ⟨rfl, rfl⟩ := k1
  unfold CellsOwn at k2
  obtain ⟨y, g1, g2, rfl, hy1, k1, k2⟩ := k2
  unfold COwn at k1
  obtain ⟨rfl, rfl⟩ := k1
  unfold CellsOwn at k2
  obtain ⟨y, g1, g2, rfl, hy2, k1, k2⟩ := k2
  unfold COwn at k1
  obtain ⟨rfl, rfl⟩ := k1
  unfold CellsOwn at k2
  obtain ⟨y', g3, g4, rfl, hy', k3, k4⟩ := k2
  unfold CellsOwn at k4
  subst k4
  exact ⟨f1, g3, f2, y', by simp, h1, h3, hy, hy1, hy2, hy', k3⟩

/-- The world behind the three stores. -/
def set3 (w : World) (b o : Nat) (k : Int) : World := ((w.setCell ⟨b, o, none⟩ (.int .i64 k)).setCell ⟨b, o + 1, none⟩ (.int .i64 (k + 1))).setCell ⟨b, o + 2, none⟩ (.int .i64 (k + 1 + 1))
theorem set3_size (w : World) (b o : Nat) (k : Int) : (set3 w b o k).heap.size = w.heap.size := by simp [set3, World.setCell]
theorem set3_other (w : World) (b o : Nat) (k : Int) (x : Nat) (h : x ≠ b) : (set3 w b o k).heap[x]? = w.heap[x]? := by
  unfold set3
  rw [Below.heap_setCell _ ⟨b, _, none⟩ _ x h, Below.heap_setCell _ ⟨b, _, none⟩ _ x h, Below.heap_setCell _ ⟨b, _, none⟩ _ x h]
theorem set3_blk {w : World} {b o : Nat} {k : Int} {cs : Array Value} {T : TypeId} (h : w.heap[b]? = some (.cells cs T (0, 0))) : ∃ cs', (set3 w b o k).heap[b]? = some (.cells cs' T (0, 0)) := by
  unfold set3
  exact ⟨_, heap_setCell_same (heap_setCell_same (heap_setCell_same h))⟩
theorem set3_cell {w : World} {b o : Nat} {k : Int} {p : Nat} (h : p < o ∨ o + 3 ≤ p) : (set3 w b o k).cell? ⟨b, p, none⟩ = w.cell? ⟨b, p, none⟩ := by
  unfold set3
  rw [World.cell?_setCell_other _ _ _ _ (fun e => by cases e; omega), World.cell?_setCell_other _ _ _ _ (fun e => by cases e; omega), World.cell?_setCell_other _ _ _ _ (fun e => by cases e; omega)]
theorem set3_in {w : World} {b o : Nat} {k : Int} {u0 u1 u2 : Value} (h0 : w.cell? ⟨b, o, none⟩ = some u0) (h1 : w.cell? ⟨b, o + 1, none⟩ = some u1) (h2 : w.cell? ⟨b, o + 2, none⟩ = some u2) :
    (set3 w b o k).cell? ⟨b, o, none⟩ = some (.int .i64 k) ∧ (set3 w b o k).cell? ⟨b, o + 1, none⟩ = some (.int .i64 (k + 1)) ∧ (set3 w b o k).cell? ⟨b, o + 2, none⟩ = some (.int .i64 (k + 1 + 1)) := by
  have e1 : (w.setCell ⟨b, o, none⟩ (.int .i64 k)).cell? ⟨b, o + 1, none⟩ = some u1 := (World.cell?_setCell_other _ _ _ _ (fun e => by simp at e)).trans h1
  have e2 : ((w.setCell ⟨b, o, none⟩ (.int .i64 k)).setCell ⟨b, o + 1, none⟩ (.int .i64 (k + 1))).cell? ⟨b, o + 2, none⟩ = some u2 :=
    (World.cell?_setCell_other _ _ _ _ (fun e => by simp at e)).trans ((World.cell?_setCell_other _ _ _ _ (fun e => by simp at e)).trans h2)
  unfold set3
  refine ⟨?_, ?_, sc_self e2⟩
  · exact (World.cell?_setCell_other _ _ _ _ (fun e => by simp at e)).trans ((World.cell?_setCell_other _ _ _ _ (fun e => by simp at e)).trans (sc_self h0))
  · exact (World.cell?_setCell_other _ _ _ _ (fun e => by simp at e)).trans (sc_self e1)

theorem CosIn.step {w w' : World} {b : Nat} {ts1 ts2 us' : List Co} {t : Co} {k : Int} {f1 f f2 : List Nat} {s : Value} (h : CosIn w b (ts1 ++ t :: ts2) (f1 ++ (f ++ f2))) (h1 : RowsOwn w b 0 (Co.rows ts1) f1) (h2 : RowsOwn w b (ts1.length * 4 + 4) (Co.rows ts2) f2)
    (hs0 : w.cell? ⟨b, ts1.length * 4, none⟩ = some (.int .i64 t.kind)) (hs1 : w.cell? ⟨b, ts1.length * 4 + 1, none⟩ = some (.int .i64 t.tag)) (hs2 : w.cell? ⟨b, ts1.length * 4 + 2, none⟩ = some (.int .i64 t.label)) (hs : w.cell? ⟨b, ts1.length * 4 + 3, none⟩ = some s)
    (hc : Chg f (set3 w b (ts1.length * 4) k) w') (hk : CosOwn w' us' s f) : CosIn w' b (ts1 ++ Co.mk k (k + 1) (k + 2) us' :: ts2) (f1 ++ (f ++ f2)) := by
  obtain ⟨⟨cs, T, hb⟩, _, hd, hn⟩ := h
  simp only [List.mem_append, not_or] at hn
  have hbl := (Array.getElem?_eq_some_iff.1 hb).1
  have hsz := set3_size w b (ts1.length * 4) k
  obtain ⟨cs', hb'⟩ := set3_blk (o := ts1.length * 4) (k := k) hb
  have hbb := hc.block b (by omega) hn.2.1
  have hb1 : w'.heap[b]? = some (.cells cs' T (0, 0)) := hbb.trans hb'
  rw [List.nodup_append, List.nodup_append] at hd
  obtain ⟨d1, ⟨d2, d3, d23⟩, d123⟩ := hd
  have old : ∀ x, x < w.heap.size → x ≠ b → x ∉ f → w'.heap[x]? = w.heap[x]? := fun x hx hxb hxf =>
    (hc.block x (by omega) hxf).trans (set3_other w b _ k x hxb)
  have cell0 : ∀ o, w'.cell? ⟨b, o, none⟩ = (set3 w b (ts1.length * 4) k).cell? ⟨b, o, none⟩ := fun o => World.cell?_of_block (a := ⟨b, o, none⟩) hbb
  have cell : ∀ o, (o < ts1.length * 4 ∨ ts1.length * 4 + 3 ≤ o) → w'.cell? ⟨b, o, none⟩ = w.cell? ⟨b, o, none⟩ := fun o ho => (cell0 o).trans (set3_cell ho)
  obtain ⟨i0, i1, i2⟩ := set3_in (k := k) hs0 hs1 hs2
  refine ⟨⟨_, T, hb1⟩, ?_, ?_, ?_⟩
  · rw [Co.rows_append, Co.rows_cons]
    refine RowsOwn.join ?_ ?_ ?_
    · exact h1.move _ _ _ (fun x hx => old x (h1.lt _ _ _ x hx) (fun e => hn.1 (e ▸ hx)) (fun hf => d123 x hx x (List.mem_append_left _ hf) rfl)) (fun o _ ho => cell o (by rw [Co.flatten_length] at ho; omega))
    · rw [Co.flatten_length, Nat.zero_add]
      unfold Co.row CellsOwn
      refine ⟨_, [], f, by simp, (cell0 _).trans i0, by unfold COwn; exact ⟨rfl, rfl⟩, ?_⟩
      unfold CellsOwn
      refine ⟨_, [], f, by simp, (cell0 _).trans i1, by unfold COwn; exact ⟨rfl, rfl⟩, ?_⟩
      unfold CellsOwn
      refine ⟨_, [], f, by simp, (cell0 _).trans i2, by unfold COwn; exact ⟨by rw [Int.add_assoc]; rfl, rfl⟩, ?_⟩
      unfold CellsOwn
      exact ⟨s, f, [], by simp, (cell _ (by omega)).trans hs, hk, by unfold CellsOwn; rfl⟩
    · rw [Co.flatten_length, Co.row_length, Nat.zero_add]
      exact h2.move _ _ _ (fun x hx => old x (h2.lt _ _ _ x hx) (fun e => hn.2.2 (e ▸ hx)) (fun hf => d23 x hf x hx rfl)) (fun o ho _ => cell o (by omega))
  · rw [List.nodup_append, List.nodup_append]; exact ⟨d1, ⟨d2, d3, d23⟩, d123⟩
  · simp only [List.mem_append, not_or]; exact hn

def MarkCoPost (ts : List Co) (m : Int) (s : Value) (fp : List Nat) (w : World) (e : Ending) (w' : World) : Prop :=
  e = .returned (.int .i64 (m + Co.mcnts ts)) ∧ CosOwn w' (Co.marks ts m) s fp ∧ Chg fp w w'

theorem Co.kids_lt_list {ts : List Co} {t : Co} (h : t ∈ ts) : SizeOf.sizeOf t.kids < SizeOf.sizeOf ts := by
  have h1 := List.sizeOf_lt_of_mem h
  cases t with | mk k g l us => simp only [Co.kids] at *; simp at h1; omega
theorem Co.marks_take_succ (ts : List Co) (m : Int) (j : Nat) (h : j < ts.length) : (Co.marks ts m).take (j + 1) = (Co.marks ts m).take j ++ [ts[j].marked (m + Co.mcnts (ts.take j))] := by
  rw [List.take_succ_eq_append_getElem (by rw [Co.marks_length]; exact h), Co.marks_get ts m j h]
theorem Co.marked_eq (t : Co) (m : Int) : t.marked m = .mk m (m + 1) (m + 2) (Co.marks t.kids (m + 3)) := by cases t; unfold Co.marked Co.kids; rfl
theorem Co.mcnt_kids (t : Co) : t.mcnt = 3 + Co.mcnts t.kids := by cases t; unfold Co.mcnt Co.kids; rfl

set_option maxHeartbeats 1000000 in
theorem markCoercionS_any (ts : List Co) : ∀ (m : Int) (s : Value) (fp : List Nat) (w : World), CosOwn w ts s fp → fp.Nodup → 0 ≤ m → m + Co.mcnts ts ≤ 1099511627776 →
    Calls Try.prog 27 #[s, .int .i64 m] w (MarkCoPost ts m s fp w) := by
  intro m s fp w hown hnd hm0 hmb
  have IH : ∀ t ∈ ts, ∀ (m : Int) (s : Value) (fp : List Nat) (w : World), CosOwn w t.kids s fp → fp.Nodup → 0 ≤ m → m + Co.mcnts t.kids ≤ 1099511627776 →
    Calls Try.prog 27 #[s, .int .i64 m] w (MarkCoPost t.kids m s fp w) := fun t ht m s fp w a b c d => markCoercionS_any t.kids m s fp w a b c d
  have IHH := Lib.hid IH
  clear IH
  have hown' := hown
  unfold CosOwn COwn at hown
  obtain ⟨a, cap, rfl, h2, h3, h4⟩ := hown
  rw [Co.rows_length] at h2 hown' ⊢
  unfold maxLen at h3
  rcases h4 with ⟨hnil, rfl⟩ | ⟨b, fps, cs, T, rfl, rfl, hb, hrows⟩
  · obtain rfl : ts = [] := by
      cases ts with
      | nil => rfl
      | cons t ts => unfold Co.rows at hnil; cases hnil
    have HO := Lib.hid hown'
    clear hown'
    simp only [List.length_nil]
    go_enter Try.func27, Try.ntmps27
    go_wp2_with fail
    go_loopw [5, 1] (fun i p wr => i = .int .i64 0 ∧ p = .int .i64 m ∧ w = wr) (fun _ _ _ => 0)
    case atStart => exact ⟨rfl, rfl, rfl⟩
    case round =>
      obtain ⟨rfl, rfl, rfl⟩ := hrel
      go_wp2_with fail
      go_ret
      exact ⟨ret_int (by simp [Co.mcnts]), by unfold Co.marks; exact HO.out, Chg.refl _ _⟩
  · obtain ⟨n, hn⟩ : ∃ n, ts.length = n := ⟨_, rfl⟩
    rw [hn] at h2 hown' ⊢
    have hnd' := List.nodup_cons.1 hnd
    have HIN : CosIn w b ts fps := ⟨⟨cs, T, hb⟩, hrows, hnd'.2, hnd'.1⟩
    have HN := Lib.hid hn
    have HMB := Lib.hid hmb
    have HCS := Lib.hid hb
    clear hn hmb hown' hnd hb hrows
    go_enter Try.func27, Try.ntmps27
    go_wp2_with fail
    go_loopw [5, 1] (fun i p wr => ∃ j : Nat, j ≤ n ∧ i = .int .i64 j ∧ (∃ q : Int, p = .int .i64 q ∧ 0 ≤ q ∧ q ≤ 1099511627776 ∧ Hid (q = m + Co.mcnts (ts.take j))) ∧ CosIn wr b ((Co.marks ts m).take j ++ ts.drop j) fps ∧ Chg (b :: fps) w wr) (fun i _ _ => n - (intOf i).toNat)
    case atStart => exact ⟨0, by omega, rfl, ⟨m, rfl, hm0, by have := HMB.out; omega, by simp [Hid, Co.mcnts]⟩, by simpa using HIN, Chg.refl _ _⟩
    case round =>
      obtain ⟨j, hj, rfl, ⟨q, rfl, hq0, hq1, hq⟩, hin, hchg⟩ := hrel
      by_cases hlt : j < n
      · have hjt : j < ts.length := by rw [HN.out]; exact hlt
        rw [List.drop_eq_getElem_cons hjt] at hin
        obtain ⟨f1, f, f2, sj, hf, hr1, hr2, hc0, hc1, hc2, hc3, hkid⟩ := hin.row
        have hLl : ((Co.marks ts m).take j).length = j := by rw [List.length_take, Co.marks_length]; omega
        rw [hLl] at hr2 hc0 hc1 hc2 hc3
        obtain ⟨⟨cs', T', hb'⟩, _, hnd2, hbn⟩ := hin
        have fr0 : wr.frozen? ⟨b, j * 4, none⟩ = false := by simp [World.frozen?, hb']
        have fr1 : wr.frozen? ⟨b, j * 4 + 1, none⟩ = false := by simp [World.frozen?, hb']
        have fr2 : wr.frozen? ⟨b, j * 4 + 2, none⟩ = false := by simp [World.frozen?, hb']
        have hbl := (Array.getElem?_eq_some_iff.1 hb').1
        have hin' : CosIn wr b ((Co.marks ts m).take j ++ ts[j] :: ts.drop (j + 1)) (f1 ++ (f ++ f2)) := ⟨⟨cs', T', hb'⟩, by rw [← hf]; assumption, by rw [← hf]; exact hnd2, by rw [← hf]; exact hbn⟩
        subst hf
        have hbf : b ∉ f := fun h => hbn (by simp [h])
        have hfn : f.Nodup := by rw [List.nodup_append, List.nodup_append] at hnd2; exact hnd2.2.1.1
        have hcs := Co.mcnts_take_succ ts j hjt
        have hcl := Co.mcnts_take_le ts (j + 1)
        rw [Co.mcnt_kids] at hcs
        have hbd : q + 1 + 1 + 1 + (Co.mcnts ts[j].kids : Nat) ≤ 1099511627776 := by
          have h1 := hq.out; have h2 := HMB.out; have h3 := HN.out
          omega
        have hkid' : CosOwn (set3 wr b (j * 4) q) ts[j].kids sj f :=
          COwn.move _ _ _ (fun x hx => set3_other wr b _ q x (fun e => by have e' : x = b := e; exact hbf (e' ▸ hx))) hkid
        have hcall := IHH.out ts[j] (List.getElem_mem hjt) (q + 1 + 1 + 1) sj f _ hkid' hfn (by omega) hbd
        have hshape := hkid
        unfold CosOwn COwn at hshape
        obtain ⟨aj, qj, rfl, _⟩ := hshape
        rw [Co.rows_length] at *
        unfold set3 at hcall
        have HC := Lib.hid hcall
        have HS := Lib.hid hcs
        have HHIN := Lib.hid hin'
        have HR1 := Lib.hid hr1
        have HR2 := Lib.hid hr2
        have HL := Lib.hid hLl
        have HNB := Lib.hid hbn
        clear hcall hcs hin' hr1 hr2 hcl hkid hkid' hLl hnd2 hb' hbn hbf
        go_wp2_with fail
        refine HC.out.mono ?_
        rintro e w1 ⟨rfl, hown1, hchg1⟩
        generalize Co.mcnts ts[j].kids = c at *
        go_wp2_with fail
        go_roundw
        case rel =>
          have hst := HHIN.out.step (us' := Co.marks ts[j].kids (q + 3)) (k := q) HR1.out (by rw [HL.out]; exact HR2.out) (by rw [HL.out]; exact hc0) (by rw [HL.out]; exact hc1) (by rw [HL.out]; exact hc2) (by rw [HL.out]; exact hc3) (by rw [HL.out]; exact hchg1) (by rw [show q + 3 = q + 1 + 1 + 1 by omega]; exact hown1)
          refine ⟨j + 1, by omega, by go_num, ⟨q + 1 + 1 + 1 + c, by go_num, by omega, hbd, by have h1 := hq.out; have h2 := HS.out; unfold Hid; omega⟩, ?_, ?_⟩
          · rw [Co.marks_take_succ ts m j hjt, ← hq.out, Co.marked_eq, List.append_assoc]
            exact hst
          · exact hchg.trans (((((Chg.refl _ _).setCell (by simp) _).setCell (by simp) _).setCell (by simp) _).trans (hchg1.mono (by intro x hx; simp [hx])))
        case measure => simp [intOf]; omega
      · go_wp2_with fail
        go_ret
        have hjn : j = n := by omega
        rw [List.take_of_length_le (by rw [Co.marks_length, HN.out]; omega), List.drop_eq_nil_of_le (by rw [HN.out]; omega), List.append_nil] at hin
        refine ⟨ret_int ?_, ?_, hchg⟩
        · have h1 := hq.out
          have h2 := HN.out
          rw [List.take_of_length_le (by rw [HN.out]; omega)] at h1
          omega
        · obtain ⟨⟨cs', T', hb'⟩, hrr, _, _⟩ := hin
          unfold CosOwn COwn
          exact ⟨_, cap, by rw [Co.rows_length, Co.marks_length, HN.out], by rw [Co.rows_length, Co.marks_length, HN.out]; exact h2, by unfold maxLen; exact h3, .inr ⟨b, fps, cs', T', rfl, rfl, hb', hrr⟩⟩
termination_by SizeOf.sizeOf ts
decreasing_by exact Co.kids_lt_list ht

def MarkCoPost1 (t : Co) (m : Int) (y : Value) (fp : List Nat) (w : World) (e : Ending) (w' : World) : Prop :=
  e = .returned (.int .i64 (m + (3 * t.cnt : Nat))) ∧ CoOwn w' (.mk t.kind t.tag t.label (Co.marks t.kids m)) y fp ∧ Chg fp w w'
theorem Co.cnt3 (t : Co) : 3 * t.cnt = Co.mcnts t.kids := by cases t; unfold Co.cnt Co.kids; rw [Co.mcnts_eq]

set_option maxHeartbeats 400000 in
theorem markCoercion_any (t : Co) (m : Int) (y : Value) (fp : List Nat) (w : World) (hown : CoOwn w t y fp) (hnd : fp.Nodup) (hm0 : 0 ≤ m) (hmb : m + (3 * t.cnt : Nat) ≤ 1099511627776) :
    Calls Try.prog 10 #[y, .int .i64 m] w (MarkCoPost1 t m y fp w) := by
  obtain ⟨k, g, l, a, n, q, rfl, hk, hg, hl, hs⟩ := hown.shape
  rw [Co.cnt3] at hmb
  have HC := Lib.hid (markCoercionS_any t.kids m (.slice a n q) fp (w.alloc (.cells #[.int .i64 k, .int .i64 g, .int .i64 l, .slice a n q] 28))
    (COwn.move _ _ _ (fun x hx => Below.heap_alloc w _ x (COwn.lt _ _ _ hs x hx)) hs) hnd hm0 hmb)
  have HK := Lib.hid hk
  have HG := Lib.hid hg
  have HL := Lib.hid hl
  clear hown hs hk hg hl hnd
  go_enter Try.func10, Try.ntmps10
  go_wp2_with fail
  refine HC.out.mono ?_
  rintro e w1 ⟨rfl, ho, hc⟩
  go_wp2_with fail
  go_ret
  refine ⟨ret_int (by rw [Co.cnt3]), ⟨_, by rw [HK.out, HG.out, HL.out]; rfl, ho⟩, ?_⟩
  exact (Chg.of_below bal1).trans hc

theorem Co.marks_cons (t : Co) (ts : List Co) (m : Int) : Co.marks (t :: ts) m = t.marked m :: Co.marks ts (m + t.mcnt) := by conv => lhs; unfold Co.marks

set_option maxHeartbeats 1000000 in
theorem heldCoercionS_any (F : Nat → Prop) (ts : List Co) : ∀ (m : Int) (s : Value) (w : World), CosRep F w (Co.marks ts m) s → 0 ≤ m → m + Co.mcnts ts ≤ 1099511627776 →
    Calls Try.prog 28 #[s, .int .i64 m] w fun e w' => e = .returned (.int .i64 (m + Co.mcnts ts)) ∧ Below w.heap.size w w' := by
  intro m s w hy hm0 hmb
  have IH : ∀ t ∈ ts, ∀ (m : Int) (s : Value) (w : World), CosRep F w (Co.marks t.kids m) s → 0 ≤ m → m + Co.mcnts t.kids ≤ 1099511627776 →
    Calls Try.prog 28 #[s, .int .i64 m] w fun e w' => e = .returned (.int .i64 (m + Co.mcnts t.kids)) ∧ Below w.heap.size w w' := fun t ht m s w a b c => heldCoercionS_any F t.kids m s w a b c
  have IHH := Lib.hid IH
  clear IH
  obtain ⟨a, cap, rfl, h2, h3, -⟩ := hy.open
  rw [Co.marks_length] at h2 hy ⊢
  unfold maxLen at h3
  obtain ⟨n, hn⟩ : ∃ n, ts.length = n := ⟨_, rfl⟩
  rw [hn] at h2 hy ⊢
  have HN := Lib.hid hn
  have HMB := Lib.hid hmb
  clear hn hmb
  go_enter Try.func28, Try.ntmps28
  go_wp2_with fail
  go_loopw [5, 1] (fun i p wr => ∃ j : Nat, j ≤ n ∧ i = .int .i64 j ∧ (∃ q : Int, p = .int .i64 q ∧ 0 ≤ q ∧ q ≤ 1099511627776 ∧ Hid (q = m + Co.mcnts (ts.take j))) ∧ Below w.heap.size w wr) (fun i _ _ => n - (intOf i).toNat)
  case atStart => exact ⟨0, by omega, rfl, ⟨m, rfl, hm0, by have := HMB.out; omega, by simp [Hid, Co.mcnts]⟩, Below.refl _ _⟩
  case round =>
    obtain ⟨j, hj, rfl, ⟨q, rfl, hq0, hq1, hq⟩, hbw⟩ := hrel
    by_cases hlt : j < n
    · have hjt : j < ts.length := by rw [HN.out]; exact hlt
      obtain ⟨b, off, k0, g0, l0, a0, m0, q0, rfl, lb, e0, e1, e2, e3, ht⟩ := hy.at hbw (i := j) (by rw [Co.marks_length]; exact hjt)
      rw [Co.marks_get ts m j hjt, ← hq.out, Co.marked_eq] at ht
      obtain ⟨s', he, hs'⟩ := ht
      simp only [Co.kind, Co.tag, Co.label, Co.kids, Value.agg.injEq, Array.mk.injEq, List.cons.injEq, Value.int.injEq, true_and, and_true] at he hs'
      obtain ⟨rfl, rfl, rfl, rfl⟩ := he
      have hcs := Co.mcnts_take_succ ts j hjt
      have hcl := Co.mcnts_take_le ts (j + 1)
      rw [Co.mcnt_kids] at hcs
      have hbd : k0 + 3 + (Co.mcnts ts[j].kids : Nat) ≤ 1099511627776 := by
        have h1 := hq.out; have h2 := HMB.out; have h3 := HN.out
        omega
      rw [show k0 + 3 = k0 + 1 + 1 + 1 by omega] at hs' hbd
      rw [show k0 + 2 = k0 + 1 + 1 by omega] at e2
      have HC := Lib.hid (IHH.out ts[j] (List.getElem_mem hjt) (k0 + 1 + 1 + 1) _ wr hs' (by omega) hbd)
      have HS := Lib.hid hcs
      clear hcs hcl hs'
      generalize Co.mcnts ts[j].kids = c at *
      have hlo : 0 ≤ k0 + 1 + 1 + 1 + (c : Int) := by omega
      go_wp2_with fail
      refine HC.out.mono ?_
      rintro e w1 ⟨rfl, hb1⟩
      go_wp2_with fail
      go_roundw
      case rel => exact ⟨j + 1, by omega, by go_num, ⟨_, rfl, hlo, hbd, by have h1 := hq.out; have h2 := HS.out; unfold Hid; omega⟩, bstep hbw hb1⟩
      case measure => simp [intOf]; omega
    · go_wp2_with fail
      go_ret
      exact ⟨ret_int (by have h1 := hq.out; have h2 := HN.out; rw [List.take_of_length_le (by rw [HN.out]; omega)] at h1; omega), hbw⟩
termination_by SizeOf.sizeOf ts
decreasing_by exact Co.kids_lt_list ht

set_option maxHeartbeats 400000 in
theorem heldCoercion_any (F : Nat → Prop) (t : Co) (m : Int) (y : Value) (w : World) (hy : CoRep F w (.mk t.kind t.tag t.label (Co.marks t.kids m)) y) (hm0 : 0 ≤ m) (hmb : m + (3 * t.cnt : Nat) ≤ 1099511627776) :
    Calls Try.prog 11 #[y, .int .i64 m] w fun e w' => e = .returned (.int .i64 (m + (3 * t.cnt : Nat))) ∧ Below w.heap.size w w' := by
  rw [Co.cnt3] at hmb ⊢
  obtain ⟨s, rfl, hs⟩ := hy
  cases t with | mk kk gg ll us =>
  simp only [Co.kind, Co.tag, Co.label, Co.kids] at *
  have HC := Lib.hid (fun W (h : Below w.heap.size w W) => heldCoercionS_any F us m s W (hs.below h) hm0 hmb)
  obtain ⟨a, q, rfl, -⟩ := hs.open
  clear hs
  generalize (Co.marks us m).length = n at *
  generalize Co.mcnts us = c at *
  have hlo : 0 ≤ m + (c : Int) := by omega
  go_enter Try.func11, Try.ntmps11
  go_wp2_with fail
  refine (HC.out _ bal1).mono ?_
  rintro e w1 ⟨rfl, hb1⟩
  go_wp2_with fail
  go_ret
  exact ⟨rfl, bstep bal1 hb1⟩
end Go.Proofs.Ythhdjacdalehoaa
