/-
  Worlds that differ in few blocks.
  The laws' helpers that write into a type of their own and look whether it is as written.
  The laws' helpers that look whether a type is as written.
  The marks of texts: some string.
-/
import Derived.Test.YtkhmkohgnikcmaaB0
import Derived.Test.YtkhmkohgnikcmaaB1
import Derived.Test.YtkhmkohgnikcmaaRows
import Derived.IntWalk
namespace Go.Proofs.Ytkhmkohgnikcmaa
open Go.RowKit
set_option linter.unusedVariables false
set_option linter.unusedSimpArgs false

/-- Only the blocks of a list, and what is new, have turned. -/
structure Chg (fp : List Nat) (w w' : World) : Prop where
  os : w'.os = w.os
  tape : w'.tape = w.tape
  output : w'.output = w.output
  size : w.heap.size ≤ w'.heap.size
  block : ∀ k, k < w.heap.size → k ∉ fp → w'.heap[k]? = w.heap[k]?
theorem Chg.of_below {fp : List Nat} {w w' : World} (h : Below w.heap.size w w') : Chg fp w w' := ⟨h.os, h.tape, h.output, h.size, fun k hk _ => h.block k hk⟩
theorem Chg.refl (fp : List Nat) (w : World) : Chg fp w w := .of_below (Below.refl _ _)
theorem Chg.trans {fp : List Nat} {w w1 w2 : World} (h : Chg fp w w1) (k : Chg fp w1 w2) : Chg fp w w2 :=
  ⟨k.os.trans h.os, k.tape.trans h.tape, k.output.trans h.output, Nat.le_trans h.size k.size, fun b hb hn => (k.block b (Nat.lt_of_lt_of_le hb h.size) hn).trans (h.block b hb hn)⟩
theorem Chg.mono {fp fp' : List Nat} {w w' : World} (h : Chg fp w w') (hs : ∀ x ∈ fp, x ∈ fp') : Chg fp' w w' :=
  ⟨h.os, h.tape, h.output, h.size, fun b hb hn => h.block b hb (fun hx => hn (hs b hx))⟩
theorem Chg.setCell {fp : List Nat} {w w' : World} (h : Chg fp w w') {p : Addr} (hp : p.block ∈ fp) (v : Value) : Chg fp w (w'.setCell p v) :=
  ⟨h.os, h.tape, h.output, by simpa [World.setCell] using h.size, fun b hb hn => (Below.heap_setCell w' p v b (fun e => hn (e ▸ hp))).trans (h.block b hb hn)⟩
theorem Chg.below {fp : List Nat} {w w' : World} {B : Nat} (h : Chg fp w w') (hB : ∀ x ∈ fp, B ≤ x) (hs : B ≤ w.heap.size) : Below B w w' :=
  ⟨h.os, h.tape, h.output, h.size, fun k hk => h.block k (by omega) (fun hx => by have := hB k hx; omega)⟩
theorem Chg.cell {fp : List Nat} {w w' : World} {a : Addr} {v : Value} (h : Chg fp w w') (hn : a.block ∉ fp) (hc : w.cell? a = some v) : w'.cell? a = some v :=
  (World.cell?_of_block (h.block a.block (World.block_lt_of_cell? _ _ hc) hn)).trans hc
theorem Chg.keeps {fp : List Nat} {w w' : World} {F : Nat → Prop} (h : Chg fp w w') (hn : ∀ b, F b → b ∉ fp) : Keeps F F w w' :=
  ⟨h.size, fun _ h _ => h, fun b hF hl => h.block b hl (hn b hF)⟩
theorem TyRep.chg {fp : List Nat} {w w' : World} {F : Nat → Prop} {t : Ty} {y : Value} (h : Chg fp w w') (hn : ∀ b, F b → b ∉ fp) (r : TyRep F w t y) : TyRep F w' t y := r.move (h.keeps hn)
theorem bchg {B r : Nat} {w w1 w2 : World} (h : Below B w w1) (k : Chg [r] w1 w2) (hr : B ≤ r) (hw : B ≤ w.heap.size) : Below B w w2 :=
  ⟨k.os.trans h.os, k.tape.trans h.tape, k.output.trans h.output, Nat.le_trans h.size k.size, fun b hb => (k.block b (Nat.lt_of_lt_of_le (Nat.lt_of_lt_of_le hb hw) h.size) (by simp; omega)).trans (h.block b hb)⟩
theorem TyRep.chgA {r : Nat} {w w' : World} {t : Ty} {y : Value} (h : TyRep (· ≠ r) w t y) (k : Chg [r] w w') : TyRep (· ≠ r) w' t y := TyRep.chg k (fun b hb => by simpa using hb) h
theorem TysRep.chgA {r : Nat} {w w' : World} {t : List Ty} {y : Value} (h : TysRep (· ≠ r) w t y) (k : Chg [r] w w') : TysRep (· ≠ r) w' t y := h.move (k.keeps (fun b hb => by simpa using hb))
end Go.Proofs.Ytkhmkohgnikcmaa
namespace Go.Proofs.Ytkhmkohgnikcmaa
open Go.RowKit
set_option linter.unusedVariables false
set_option linter.unusedSimpArgs false
set_option maxRecDepth 100000

/-- How many types a list holds, at all depths. -/
def Ty.scnt (ts : List Ty) : Nat := ts.length + Ty.cnts ts
mutual
/-- The kinds of all types of a list written anew, from m on. -/
def Ty.marks : List Ty → Int → List Ty
  | [], _ => []
  | t :: ts, m => t.marked m :: Ty.marks ts (m + 1 + t.cnt)
def Ty.marked : Ty → Int → Ty
  | .mk _ us, m => .mk m (Ty.marks us (m + 1))
end

theorem Ty.marks_length : ∀ (ts : List Ty) (m : Int), (Ty.marks ts m).length = ts.length
  | [], _ => by unfold Ty.marks; rfl
  | t :: ts, m => by unfold Ty.marks; simp [Ty.marks_length ts]
theorem Ty.marks_get : ∀ (ts : List Ty) (m : Int) (j : Nat) (h : j < ts.length), (Ty.marks ts m)[j]'(by rw [Ty.marks_length]; exact h) = ts[j].marked (m + j + Ty.cnts (ts.take j))
  | [], _, _, h => absurd h (Nat.not_lt_zero _)
  | t :: ts, m, 0, _ => by simp [Ty.marks, Ty.cnts]
  | t :: ts, m, j + 1, h => by
    have := Ty.marks_get ts (m + 1 + t.cnt) j (by simpa using h)
    simp only [Ty.marks, List.getElem_cons_succ, this, List.take_succ_cons, Ty.cnts]
    congr 1
    omega
theorem RowsOwn.split {w : World} {b : Nat} : ∀ {off : Nat} {r1 r2 : List (List C)} {r : List C} {fp : List Nat}, RowsOwn w b off (r1 ++ r :: r2) fp →
    ∃ f1 f f2, fp = f1 ++ (f ++ f2) ∧ RowsOwn w b off r1 f1 ∧ CellsOwn w b (off + r1.flatten.length) r f ∧ RowsOwn w b (off + r1.flatten.length + r.length) r2 f2
  | off, [], r2, r, fp, h => by
    simp only [List.nil_append] at h
    unfold RowsOwn at h
    obtain ⟨f1, f2, rfl, h1, h2⟩ := h
    exact ⟨[], f1, f2, rfl, by unfold RowsOwn; rfl, by simpa using h1, by simpa using h2⟩
  | off, x :: r1, r2, r, fp, h => by
    simp only [List.cons_append] at h
    unfold RowsOwn at h
    obtain ⟨g1, g2, rfl, h1, h2⟩ := h
    obtain ⟨f1, f, f2, rfl, k1, k2, k3⟩ := RowsOwn.split h2
    refine ⟨g1 ++ f1, f, f2, by simp, ?_, ?_, ?_⟩
    · unfold RowsOwn; exact ⟨g1, f1, rfl, h1, k1⟩
    · rw [List.flatten_cons, List.length_append, ← Nat.add_assoc]; exact k2
    · rw [List.flatten_cons, List.length_append, ← Nat.add_assoc]; exact k3
theorem RowsOwn.join {w : World} {b : Nat} : ∀ {off : Nat} {r1 r2 : List (List C)} {r : List C} {f1 f f2 : List Nat}, RowsOwn w b off r1 f1 → CellsOwn w b (off + r1.flatten.length) r f → RowsOwn w b (off + r1.flatten.length + r.length) r2 f2 →
    RowsOwn w b off (r1 ++ r :: r2) (f1 ++ (f ++ f2))
  | off, [], r2, r, f1, f, f2, h, h1, h2 => by
    unfold RowsOwn at h; subst h
    simp only [List.nil_append]
    unfold RowsOwn
    exact ⟨f, f2, rfl, by simpa using h1, by simpa using h2⟩
  | off, x :: r1, r2, r, f1, f, f2, h, h1, h2 => by
    unfold RowsOwn at h
    obtain ⟨g1, g2, rfl, k1, k2⟩ := h
    rw [List.flatten_cons, List.length_append, ← Nat.add_assoc] at h1 h2
    simp only [List.cons_append]
    unfold RowsOwn
    exact ⟨g1, g2 ++ (f ++ f2), by simp, k1, RowsOwn.join k2 h1 h2⟩

/-- What the round does to the j-th row: its kind is written, then what its operands hold is turned within their own blocks. -/
theorem Ty.rows_append (a b : List Ty) : Ty.rows (a ++ b) = Ty.rows a ++ Ty.rows b := by simp [Ty.rows_eq]
theorem Ty.rows_cons (t : Ty) (b : List Ty) : Ty.rows (t :: b) = t.row :: Ty.rows b := by conv => lhs; unfold Ty.rows

/-- A block of one's own, whole: the slice over it and its rows. -/
def TysIn (w : World) (b : Nat) (ts : List Ty) (fps : List Nat) : Prop := (∃ cs T, w.heap[b]? = some (.cells cs T (0, 0))) ∧ RowsOwn w b 0 (Ty.rows ts) fps ∧ fps.Nodup ∧ b ∉ fps

theorem TysIn.row {w : World} {b : Nat} {ts1 ts2 : List Ty} {t : Ty} {fps : List Nat} (h : TysIn w b (ts1 ++ t :: ts2) fps) :
    ∃ f1 f f2 s, fps = f1 ++ (f ++ f2) ∧ RowsOwn w b 0 (Ty.rows ts1) f1 ∧ RowsOwn w b (ts1.length * 2 + 2) (Ty.rows ts2) f2 ∧ w.cell? ⟨b, ts1.length * 2, none⟩ = some (.int .i64 t.kind) ∧ w.cell? ⟨b, ts1.length * 2 + 1, none⟩ = some s ∧ TysOwn w t.kids s f := by
  obtain ⟨_, hr, _, _⟩ := h
  rw [Ty.rows_append, Ty.rows_cons] at hr
  obtain ⟨f1, f, f2, rfl, h1, h2, h3⟩ := RowsOwn.split hr
  rw [Ty.flatten_length, Nat.zero_add] at h2 h3
  rw [Ty.row_length] at h3
  cases t with | mk k us =>
  unfold Ty.row CellsOwn at h2
  obtain ⟨y, g1, g2, rfl, hy, k1, k2⟩ := h2
  unfold COwn at k1
  obtain ⟨rfl, rfl⟩ := k1
  unfold CellsOwn at k2
  obtain ⟨y', g3, g4, rfl, hy', k3, k4⟩ := k2
  unfold CellsOwn at k4
  subst k4
  exact ⟨f1, g3, f2, y', by simp, h1, h3, hy, hy', k3⟩

theorem TysIn.step {w w' : World} {b : Nat} {ts1 ts2 us' : List Ty} {t : Ty} {k : Int} {f1 f f2 : List Nat} {s : Value} (h : TysIn w b (ts1 ++ t :: ts2) (f1 ++ (f ++ f2))) (h1 : RowsOwn w b 0 (Ty.rows ts1) f1) (h2 : RowsOwn w b (ts1.length * 2 + 2) (Ty.rows ts2) f2)
    (hs0 : w.cell? ⟨b, ts1.length * 2, none⟩ = some (.int .i64 t.kind)) (hs : w.cell? ⟨b, ts1.length * 2 + 1, none⟩ = some s) (hc : Chg f (w.setCell ⟨b, ts1.length * 2, none⟩ (.int .i64 k)) w') (hk : TysOwn w' us' s f) : TysIn w' b (ts1 ++ Ty.mk k us' :: ts2) (f1 ++ (f ++ f2)) := by
  obtain ⟨⟨cs, T, hb⟩, _, hd, hn⟩ := h
  simp only [List.mem_append, not_or] at hn
  have hbl := (Array.getElem?_eq_some_iff.1 hb).1
  have hsz : (w.setCell ⟨b, ts1.length * 2, none⟩ (.int .i64 k)).heap.size = w.heap.size := by simp [World.setCell]
  have hb1 : w'.heap[b]? = some (.cells (cs.setIfInBounds (ts1.length * 2) (.int .i64 k)) T (0, 0)) := (hc.block b (by omega) hn.2.1).trans (heap_setCell_same hb)
  rw [List.nodup_append, List.nodup_append] at hd
  obtain ⟨d1, ⟨d2, d3, d23⟩, d123⟩ := hd
  have old : ∀ x, x < w.heap.size → x ≠ b → x ∉ f → w'.heap[x]? = w.heap[x]? := fun x hx hxb hxf =>
    (hc.block x (by omega) hxf).trans (Below.heap_setCell w ⟨b, _, none⟩ _ x hxb)
  have cell : ∀ o, o ≠ ts1.length * 2 → w'.cell? ⟨b, o, none⟩ = w.cell? ⟨b, o, none⟩ := fun o ho => by
    simp only [World.cell?, hb1, hb]
    simp
    rw [Array.getElem?_setIfInBounds_ne (by omega)]
  have hl' : ts1.length * 2 < cs.size := by
    simp only [World.cell?, hb] at hs0
    simp at hs0
    exact (Array.getElem?_eq_some_iff.1 hs0).1
  refine ⟨⟨_, T, hb1⟩, ?_, ?_, ?_⟩
  · rw [Ty.rows_append, Ty.rows_cons]
    refine RowsOwn.join ?_ ?_ ?_
    · exact h1.move _ _ _ (fun x hx => old x (h1.lt _ _ _ x hx) (fun e => hn.1 (e ▸ hx)) (fun hf => d123 x hx x (List.mem_append_left _ hf) rfl)) (fun o _ ho => cell o (by rw [Ty.flatten_length] at ho; omega))
    · rw [Ty.flatten_length, Nat.zero_add]
      unfold Ty.row CellsOwn
      refine ⟨_, [], f, by simp, ?_, by unfold COwn; exact ⟨rfl, rfl⟩, ?_⟩
      · simp only [World.cell?, hb1]
        simp
        rw [Array.getElem?_setIfInBounds_self]
        simp; omega
      · unfold CellsOwn
        exact ⟨s, f, [], by simp, (cell _ (by omega)).trans hs, hk, by unfold CellsOwn; rfl⟩
    · rw [Ty.flatten_length, Ty.row_length, Nat.zero_add]
      exact h2.move _ _ _ (fun x hx => old x (h2.lt _ _ _ x hx) (fun e => hn.2.2 (e ▸ hx)) (fun hf => d23 x hf x hx rfl)) (fun o ho _ => cell o (by omega))
  · rw [List.nodup_append, List.nodup_append]; exact ⟨d1, ⟨d2, d3, d23⟩, d123⟩
  · simp only [List.mem_append, not_or]; exact hn

def MarkPost (ts : List Ty) (m : Int) (s : Value) (fp : List Nat) (w : World) (e : Ending) (w' : World) : Prop :=
  e = .returned (.int .i64 (m + Ty.scnt ts)) ∧ TysOwn w' (Ty.marks ts m) s fp ∧ Chg fp w w'

theorem Ty.kids_lt_list {ts : List Ty} {t : Ty} (h : t ∈ ts) : SizeOf.sizeOf t.kids < SizeOf.sizeOf ts := by
  have h1 := List.sizeOf_lt_of_mem h
  cases t with | mk k us => simp only [Ty.kids] at *; simp at h1; omega
theorem Ty.marks_take_succ (ts : List Ty) (m : Int) (j : Nat) (h : j < ts.length) : (Ty.marks ts m).take (j + 1) = (Ty.marks ts m).take j ++ [ts[j].marked (m + j + Ty.cnts (ts.take j))] := by
  rw [List.take_succ_eq_append_getElem (by rw [Ty.marks_length]; exact h), Ty.marks_get ts m j h]
theorem Ty.marked_eq (t : Ty) (m : Int) : t.marked m = .mk m (Ty.marks t.kids (m + 1)) := by cases t; unfold Ty.marked Ty.kids; rfl
theorem Ty.cnt_eq (t : Ty) : t.cnt = Ty.scnt t.kids := by cases t; unfold Ty.cnt Ty.scnt Ty.kids; rfl

set_option maxHeartbeats 1000000 in
theorem markTypeS_any (ts : List Ty) : ∀ (m : Int) (s : Value) (fp : List Nat) (w : World), TysOwn w ts s fp → fp.Nodup → 0 ≤ m → m + Ty.scnt ts ≤ 1099511627776 →
    Calls Try.prog 26 #[s, .int .i64 m] w (MarkPost ts m s fp w) := by
  intro m s fp w hown hnd hm0 hmb
  have IH : ∀ t ∈ ts, ∀ (m : Int) (s : Value) (fp : List Nat) (w : World), TysOwn w t.kids s fp → fp.Nodup → 0 ≤ m → m + Ty.scnt t.kids ≤ 1099511627776 →
    Calls Try.prog 26 #[s, .int .i64 m] w (MarkPost t.kids m s fp w) := fun t ht m s fp w a b c d => markTypeS_any t.kids m s fp w a b c d
  have IHH := Lib.hid IH
  clear IH
  have hown' := hown
  unfold TysOwn COwn at hown
  obtain ⟨a, cap, rfl, h2, h3, h4⟩ := hown
  rw [Ty.rows_length] at h2 hown' ⊢
  unfold maxLen at h3
  rcases h4 with ⟨hnil, rfl⟩ | ⟨b, fps, cs, T, rfl, rfl, hb, hrows⟩
  · obtain rfl : ts = [] := by
      cases ts with
      | nil => rfl
      | cons t ts => unfold Ty.rows at hnil; cases hnil
    have HO := Lib.hid hown'
    clear hown'
    simp only [List.length_nil]
    go_enter Try.func26, Try.ntmps26
    go_wp2_with fail
    go_loopw [5, 1] (fun i p wr => i = .int .i64 0 ∧ p = .int .i64 m ∧ w = wr) (fun _ _ _ => 0)
    case atStart => exact ⟨rfl, rfl, rfl⟩
    case round =>
      obtain ⟨rfl, rfl, rfl⟩ := hrel
      go_wp2_with fail
      go_ret
      exact ⟨ret_int (by simp [Ty.scnt, Ty.cnts]), by unfold Ty.marks; exact HO.out, Chg.refl _ _⟩
  · obtain ⟨n, hn⟩ : ∃ n, ts.length = n := ⟨_, rfl⟩
    rw [hn] at h2 hown' ⊢
    have hnd' := List.nodup_cons.1 hnd
    have HIN : TysIn w b ts fps := ⟨⟨cs, T, hb⟩, hrows, hnd'.2, hnd'.1⟩
    have HN := Lib.hid hn
    have HMB := Lib.hid hmb
    have HCS := Lib.hid hb
    clear hn hmb hown' hnd hb hrows
    go_enter Try.func26, Try.ntmps26
    go_wp2_with fail
    go_loopw [5, 1] (fun i p wr => ∃ j : Nat, j ≤ n ∧ i = .int .i64 j ∧ (∃ q : Int, p = .int .i64 q ∧ 0 ≤ q ∧ q ≤ 1099511627776 ∧ Hid (q = m + j + Ty.cnts (ts.take j))) ∧ TysIn wr b ((Ty.marks ts m).take j ++ ts.drop j) fps ∧ Chg (b :: fps) w wr) (fun i _ _ => n - (intOf i).toNat)
    case atStart => exact ⟨0, by omega, rfl, ⟨m, rfl, hm0, by have := HMB.out; omega, by simp [Hid, Ty.cnts]⟩, by simpa using HIN, Chg.refl _ _⟩
    case round =>
      obtain ⟨j, hj, rfl, ⟨q, rfl, hq0, hq1, hq⟩, hin, hchg⟩ := hrel
      by_cases hlt : j < n
      · have hjt : j < ts.length := by rw [HN.out]; exact hlt
        rw [List.drop_eq_getElem_cons hjt] at hin
        obtain ⟨f1, f, f2, sj, hf, hr1, hr2, hc0, hc1, hkid⟩ := hin.row
        have hLl : ((Ty.marks ts m).take j).length = j := by rw [List.length_take, Ty.marks_length]; omega
        rw [hLl] at hr2 hc0 hc1
        obtain ⟨⟨cs', T', hb'⟩, _, hnd2, hbn⟩ := hin
        have fr0 : wr.frozen? ⟨b, j * 2, none⟩ = false := by simp [World.frozen?, hb']
        have hbl := (Array.getElem?_eq_some_iff.1 hb').1
        have hin' : TysIn wr b ((Ty.marks ts m).take j ++ ts[j] :: ts.drop (j + 1)) (f1 ++ (f ++ f2)) := ⟨⟨cs', T', hb'⟩, by rw [← hf]; assumption, by rw [← hf]; exact hnd2, by rw [← hf]; exact hbn⟩
        subst hf
        have hbf : b ∉ f := fun h => hbn (by simp [h])
        have hfn : f.Nodup := by rw [List.nodup_append, List.nodup_append] at hnd2; exact hnd2.2.1.1
        have hcs := Ty.cnts_take_succ ts j hjt
        have hcl := Ty.cnts_take_le ts (j + 1)
        rw [Ty.cnt_eq] at hcs
        have hbd : q + 1 + (Ty.scnt ts[j].kids : Nat) ≤ 1099511627776 := by
          have h1 := hq.out; have h2 := HMB.out; have h3 := HN.out
          unfold Ty.scnt at h2
          omega
        have hkid' : TysOwn (wr.setCell ⟨b, j * 2, none⟩ (.int .i64 q)) ts[j].kids sj f :=
          COwn.move _ _ _ (fun x hx => Below.heap_setCell wr ⟨b, j * 2, none⟩ _ x (fun e => by have e' : x = b := e; exact hbf (e' ▸ hx))) hkid
        have hcall := IHH.out ts[j] (List.getElem_mem hjt) (q + 1) sj f _ hkid' hfn (by omega) hbd
        have hshape := hkid
        unfold TysOwn COwn at hshape
        obtain ⟨aj, qj, rfl, _⟩ := hshape
        have HC := Lib.hid hcall
        have HS := Lib.hid hcs
        have HHIN := Lib.hid hin'
        have HR1 := Lib.hid hr1
        have HR2 := Lib.hid hr2
        have HL := Lib.hid hLl
        have HNB := Lib.hid hbn
        clear hcall hcs hin' hr1 hr2 hcl hkid hkid' hLl hnd2 hb' hbn hbf
        go_wp2_with fail
        refine HC.out.mono ?_
        rintro e w1 ⟨rfl, hown1, hchg1⟩
        generalize Ty.scnt ts[j].kids = c at *
        go_wp2_with fail
        go_roundw
        case rel =>
          have hst := HHIN.out.step (us' := Ty.marks ts[j].kids (q + 1)) (k := q) HR1.out (by rw [HL.out]; exact HR2.out) (by rw [HL.out]; exact hc0) (by rw [HL.out]; exact hc1) (by rw [HL.out]; exact hchg1) hown1
          refine ⟨j + 1, by omega, by go_num, ⟨q + 1 + c, by go_num, by omega, hbd, by have h1 := hq.out; have h2 := HS.out; unfold Hid; omega⟩, ?_, ?_⟩
          · rw [Ty.marks_take_succ ts m j hjt, ← hq.out, Ty.marked_eq, List.append_assoc]
            exact hst
          · exact hchg.trans (((Chg.refl _ _).setCell (by simp) _).trans (hchg1.mono (by intro x hx; simp [hx])))
        case measure => simp [intOf]; omega
      · go_wp2_with fail
        go_ret
        have hjn : j = n := by omega
        rw [List.take_of_length_le (by rw [Ty.marks_length, HN.out]; omega), List.drop_eq_nil_of_le (by rw [HN.out]; omega), List.append_nil] at hin
        refine ⟨ret_int ?_, ?_, hchg⟩
        · have h1 := hq.out
          have h2 := HN.out
          rw [List.take_of_length_le (by rw [HN.out]; omega)] at h1
          unfold Ty.scnt
          omega
        · obtain ⟨⟨cs', T', hb'⟩, hrr, _, _⟩ := hin
          unfold TysOwn COwn
          exact ⟨_, cap, by rw [Ty.rows_length, Ty.marks_length, HN.out], by rw [Ty.rows_length, Ty.marks_length, HN.out]; exact h2, by unfold maxLen; exact h3, .inr ⟨b, fps, cs', T', rfl, rfl, hb', hrr⟩⟩
termination_by SizeOf.sizeOf ts
decreasing_by exact Ty.kids_lt_list ht

def MarkTyPost (t : Ty) (m : Int) (y : Value) (fp : List Nat) (w : World) (e : Ending) (w' : World) : Prop :=
  e = .returned (.int .i64 (m + t.cnt)) ∧ TyOwn w' (.mk t.kind (Ty.marks t.kids m)) y fp ∧ Chg fp w w'

set_option maxHeartbeats 400000 in
theorem markType_any (t : Ty) (m : Int) (y : Value) (fp : List Nat) (w : World) (hown : TyOwn w t y fp) (hnd : fp.Nodup) (hm0 : 0 ≤ m) (hmb : m + t.cnt ≤ 1099511627776) :
    Calls Try.prog 11 #[y, .int .i64 m] w (MarkTyPost t m y fp w) := by
  obtain ⟨k, a, n, q, rfl, hk, hs⟩ := hown.shape
  rw [Ty.cnt_eq] at hmb
  have HC := Lib.hid (markTypeS_any t.kids m (.slice a n q) fp (w.alloc (.cells #[.int .i64 k, .slice a n q] 31))
    (COwn.move _ _ _ (fun x hx => Below.heap_alloc w _ x (COwn.lt _ _ _ hs x hx)) hs) hnd hm0 hmb)
  have HK := Lib.hid hk
  have HF := Lib.hid (fun x (hx : x ∈ fp) => COwn.lt _ _ _ hs x hx)
  clear hown hs hk hnd
  go_enter Try.func11, Try.ntmps11
  go_wp2_with fail
  refine HC.out.mono ?_
  rintro e w1 ⟨rfl, ho, hc⟩
  go_wp2_with fail
  go_ret
  refine ⟨ret_int (by rw [Ty.cnt_eq]), ⟨_, by rw [HK.out]; rfl, ho⟩, ?_⟩
  exact (Chg.of_below bal1).trans hc

end Go.Proofs.Ytkhmkohgnikcmaa
namespace Go.Proofs.Ytkhmkohgnikcmaa
open Go.RowKit
set_option linter.unusedVariables false
set_option linter.unusedSimpArgs false
set_option maxRecDepth 100000

set_option maxHeartbeats 1000000 in
theorem heldTypeS_any (F : Nat → Prop) (ts : List Ty) : ∀ (m : Int) (s : Value) (w : World), TysRep F w (Ty.marks ts m) s → 0 ≤ m → m + Ty.scnt ts ≤ 1099511627776 →
    Calls Try.prog 27 #[s, .int .i64 m] w fun e w' => e = .returned (.int .i64 (m + Ty.scnt ts)) ∧ Below w.heap.size w w' := by
  intro m s w hy hm0 hmb
  have IH : ∀ t ∈ ts, ∀ (m : Int) (s : Value) (w : World), TysRep F w (Ty.marks t.kids m) s → 0 ≤ m → m + Ty.scnt t.kids ≤ 1099511627776 →
    Calls Try.prog 27 #[s, .int .i64 m] w fun e w' => e = .returned (.int .i64 (m + Ty.scnt t.kids)) ∧ Below w.heap.size w w' := fun t ht m s w a b c => heldTypeS_any F t.kids m s w a b c
  have IHH := Lib.hid IH
  clear IH
  obtain ⟨a, cap, rfl, h2, h3, -⟩ := hy.open
  rw [Ty.marks_length] at h2 hy ⊢
  unfold maxLen at h3
  obtain ⟨n, hn⟩ : ∃ n, ts.length = n := ⟨_, rfl⟩
  rw [hn] at h2 hy ⊢
  have HN := Lib.hid hn
  have HMB := Lib.hid hmb
  clear hn hmb
  go_enter Try.func27, Try.ntmps27
  go_wp2_with fail
  go_loopw [5, 1] (fun i p wr => ∃ j : Nat, j ≤ n ∧ i = .int .i64 j ∧ (∃ q : Int, p = .int .i64 q ∧ 0 ≤ q ∧ q ≤ 1099511627776 ∧ Hid (q = m + j + Ty.cnts (ts.take j))) ∧ Below w.heap.size w wr) (fun i _ _ => n - (intOf i).toNat)
  case atStart => exact ⟨0, by omega, rfl, ⟨m, rfl, hm0, by have := HMB.out; omega, by simp [Hid, Ty.cnts]⟩, Below.refl _ _⟩
  case round =>
    obtain ⟨j, hj, rfl, ⟨q, rfl, hq0, hq1, hq⟩, hbw⟩ := hrel
    by_cases hlt : j < n
    · have hjt : j < ts.length := by rw [HN.out]; exact hlt
      obtain ⟨b, off, k0, a0, m0, q0, rfl, l0, e0, e1, ht⟩ := hy.at hbw (i := j) (by rw [Ty.marks_length]; exact hjt)
      rw [Ty.marks_get ts m j hjt, ← hq.out, Ty.marked_eq] at ht
      obtain ⟨s', he, hs'⟩ := ht
      simp only [Ty.kind, Ty.kids, Value.agg.injEq, Array.mk.injEq, List.cons.injEq, Value.int.injEq, true_and, and_true] at he hs'
      obtain ⟨rfl, rfl⟩ := he
      have hcs := Ty.cnts_take_succ ts j hjt
      have hcl := Ty.cnts_take_le ts (j + 1)
      rw [Ty.cnt_eq] at hcs
      have hbd : k0 + 1 + (Ty.scnt ts[j].kids : Nat) ≤ 1099511627776 := by
        have h1 := hq.out; have h2 := HMB.out; have h3 := HN.out
        unfold Ty.scnt at h2
        omega
      have HC := Lib.hid (IHH.out ts[j] (List.getElem_mem hjt) (k0 + 1) _ wr hs' (by omega) hbd)
      have HS := Lib.hid hcs
      clear hcs hcl hs'
      generalize Ty.scnt ts[j].kids = c at *
      have hlo : 0 ≤ k0 + 1 + (c : Int) := by omega
      go_wp2_with fail
      refine HC.out.mono ?_
      rintro e w1 ⟨rfl, hb1⟩
      go_wp2_with fail
      go_roundw
      case rel => exact ⟨j + 1, by omega, by go_num, ⟨_, rfl, hlo, hbd, by have h1 := hq.out; have h2 := HS.out; unfold Hid; omega⟩, bstep hbw hb1⟩
      case measure => simp [intOf]; omega
    · go_wp2_with fail
      go_ret
      exact ⟨ret_int (by have h1 := hq.out; have h2 := HN.out; rw [List.take_of_length_le (by rw [HN.out]; omega)] at h1; unfold Ty.scnt; omega), hbw⟩
termination_by SizeOf.sizeOf ts
decreasing_by exact Ty.kids_lt_list ht

set_option maxHeartbeats 400000 in
theorem heldType_any (F : Nat → Prop) (t : Ty) (m : Int) (y : Value) (w : World) (hy : TyRep F w (.mk t.kind (Ty.marks t.kids m)) y) (hm0 : 0 ≤ m) (hmb : m + t.cnt ≤ 1099511627776) :
    Calls Try.prog 12 #[y, .int .i64 m] w fun e w' => e = .returned (.int .i64 (m + t.cnt)) ∧ Below w.heap.size w w' := by
  rw [Ty.cnt_eq] at hmb ⊢
  obtain ⟨s, rfl, hs⟩ := hy
  cases t with | mk kk us =>
  simp only [Ty.kind, Ty.kids] at *
  have HC := Lib.hid (fun W (h : Below w.heap.size w W) => heldTypeS_any F us m s W (hs.below h) hm0 hmb)
  obtain ⟨a, q, rfl, -⟩ := hs.open
  clear hs
  generalize (Ty.marks us m).length = n at *
  generalize Ty.scnt us = c at *
  have hlo : 0 ≤ m + (c : Int) := by omega
  go_enter Try.func12, Try.ntmps12
  go_wp2_with fail
  refine (HC.out _ bal1).mono ?_
  rintro e w1 ⟨rfl, hb1⟩
  go_wp2_with fail
  go_ret
  exact ⟨rfl, bstep bal1 hb1⟩
end Go.Proofs.Ytkhmkohgnikcmaa
namespace Go.Proofs.Ytkhmkohgnikcmaa
open Go.RowKit
set_option linter.unusedVariables false
set_option linter.unusedSimpArgs false
set_option maxRecDepth 100000

set_option maxHeartbeats 2000000 in
theorem markText_any (k : Int) (h0 : 0 ≤ k) (h1 : k ≤ 1099511627776) (w : World) :
    Calls Try.prog 41 #[.int .i64 k] w fun e w' => (∃ s, e = .returned (.string s)) ∧ Below w.heap.size w w' := by
  by_cases hk : k ≤ 0
  · have hd : decide (k ≤ 0) = true := decide_eq_true hk
    go_enter Try.func41, Try.ntmps41
    go_wp2_with fail
    go_ret
    exact ⟨⟨_, rfl⟩, Below.refl _ _⟩
  · have hd : decide (k ≤ 0) = false := decide_eq_false hk
    go_enter Try.func41, Try.ntmps41
    go_wp2_with fail
    go_loopw [0, 3] (fun p q wr => (∃ n : Int, p = .int .i64 n ∧ 0 ≤ n ∧ n ≤ 1099511627776 ∧ ∃ s : ByteArray, q = .string s ∧ ∃ d : Nat, s.size + d = 13 ∧ Hid (n < 10 ^ d)) ∧ Below w.heap.size w wr) (fun p _ _ => (intOf p).toNat)
    case atStart =>
      have h13 : (10 : Int) ^ 13 = 10000000000000 := by decide
      exact ⟨⟨k, rfl, h0, h1, ⟨#[]⟩, rfl, 13, rfl, by unfold Hid; omega⟩, Below.refl _ _⟩
    case round =>
      obtain ⟨⟨n, rfl, hn0, hn1, s, rfl, d, hsd, hnd⟩, hbw⟩ := hrel
      by_cases hn : n > 0
      · have hdn : decide (n > 0) = true := decide_eq_true hn
        obtain ⟨b, hb⟩ : ∃ b : UInt8, (48 + n % 10 : Int) = (b.toNat : Int) := ⟨UInt8.ofNat (48 + n % 10).toNat, by simp; omega⟩
        have hcb := run_convert_bytes_back (P := Try.prog) (wr.alloc (.cells #[.int .u8 (b.toNat : Int)] 5)) 81 9 5 ⟨wr.heap.size, 0, none⟩ 1 [b] Try.underlying81 Try.underlying5 Try.underlying9 (fun j hj => by
          have : j = 0 := by simpa using hj
          subst this
          simp [Addr.add])
        have hd0 : 0 < d := by
          rcases Nat.eq_zero_or_pos d with h | h
          · subst h
            have := hnd.out
            simp at this
            omega
          · exact h
        obtain ⟨d', rfl⟩ : ∃ x, d = x + 1 := ⟨d - 1, by omega⟩
        have hst : ¬ (9223372036854775807 < 1 + s.size) := by omega
        have hq : n / 10 < 10 ^ d' := by
          have h1 := hnd.out
          have : (10 : Int) ^ (d' + 1) = 10 ^ d' * 10 := Int.pow_succ ..
          exact Int.ediv_lt_of_lt_mul (by omega) (by omega)
        have HQ := Lib.hid hq
        clear hq hnd
        simp only [List.length_singleton] at hcb
        go_wp2_with fail
        go_roundw
        case rel => exact ⟨⟨n / 10, rfl, by omega, by omega, _, rfl, d', by rw [ByteArray.size_append]; show 1 + s.size + d' = 13; omega, HQ.out⟩, bstep hbw bal1⟩
        case measure => simp [intOf]; omega
      · have hdn : decide (n > 0) = false := decide_eq_false hn
        have hst : ¬ (9223372036854775807 < 1 + s.size) := by omega
        go_wp2_with fail
        go_ret
        exact ⟨⟨_, rfl⟩, hbw⟩
end Go.Proofs.Ytkhmkohgnikcmaa
