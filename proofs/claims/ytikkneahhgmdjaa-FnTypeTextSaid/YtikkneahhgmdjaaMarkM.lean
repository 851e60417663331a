/-
  The laws' helpers that write into a type of their own and look whether it is as written.
-/
import Derived.Test.YtikkneahhgmdjaaB1
import Derived.Test.YtikkneahhgmdjaaB3
namespace Go.Proofs.Ytikkneahhgmdjaa
open Go.RowKit
set_option linter.unusedVariables false
set_option linter.unusedSimpArgs false
set_option maxRecDepth 100000

/-- How many types a list holds, at all depths. -/
def Ty.scnt (ts : List Ty) : Nat := ts.length + Ty.cnts ts
mutual
/-- The kinds of all types of a list written anew, from m on. -/
def Ty.marks : List Ty → Int → List Ty
  | [], _ => []
  | t :: ts, m => t.marked m :: Ty.marks ts (m + 1 + t.cnt)
def Ty.marked : Ty → Int → Ty
  | .mk _ us, m => .mk m (Ty.marks us (m + 1))
end

theorem Ty.marks_length : ∀ (ts : List Ty) (m : Int), (Ty.marks ts m).length = ts.length
  | [], _ => by unfold Ty.marks; rfl
  | t :: ts, m => by unfold Ty.marks; simp [Ty.marks_length ts]
theorem Ty.marks_get : ∀ (ts : List Ty) (m : Int) (j : Nat) (h : j < ts.length), (Ty.marks ts m)[j]'(by rw [Ty.marks_length]; exact h) = ts[j].marked (m + j + Ty.cnts (ts.take j))
  | [], _, _, h => absurd h (Nat.not_lt_zero _)
  | t :: ts, m, 0, _ => by simp [Ty.marks, Ty.cnts]
  | t :: ts, m, j + 1, h => by
    have := Ty.marks_get ts (m + 1 + t.cnt) j (by simpa using h)
    simp only [Ty.marks, List.getElem_cons_succ, this, List.take_succ_cons, Ty.cnts]
    congr 1
    omega
mutual
theorem Ty.marked_cnt : ∀ (t : Ty) (m : Int), (t.marked m).cnt = t.cnt
  | .mk k us, m => by unfold Ty.marked Ty.cnt; rw [Ty.marks_length, Ty.marks_cnts us]
theorem Ty.marks_cnts : ∀ (ts : List Ty) (m : Int), Ty.cnts (Ty.marks ts m) = Ty.cnts ts
  | [], _ => by unfold Ty.marks; rfl
  | t :: ts, m => by unfold Ty.marks Ty.cnts; rw [Ty.marked_cnt t, Ty.marks_cnts ts]
end

theorem RowsOwn.split {w : World} {b : Nat} : ∀ {off : Nat} {r1 r2 : List (List C)} {r : List C} {fp : List Nat}, RowsOwn w b off (r1 ++ r :: r2) fp →
    ∃ f1 f f2, fp = f1 ++ (f ++ f2) ∧ RowsOwn w b off r1 f1 ∧ CellsOwn w b (off + r1.flatten.length) r f ∧ RowsOwn w b (off + r1.flatten.length + r.length) r2 f2
  | off, [], r2, r, fp, h => by
    simp only [List.nil_append] at h
    unfold RowsOwn at h
    obtain ⟨f1, f2, rfl, h1, h2⟩ := h
    exact ⟨[], f1, f2, rfl, by unfold RowsOwn; rfl, by simpa using h1, by simpa using h2⟩
  | off, x :: r1, r2, r, fp, h => by
    simp only [List.cons_append] at h
    unfold RowsOwn at h
    obtain ⟨g1, g2, rfl, h1, h2⟩ := h
    obtain ⟨f1, f, f2, rfl, k1, k2, k3⟩ := RowsOwn.split h2
    refine ⟨g1 ++ f1, f, f2, by simp, ?_, ?_, ?_⟩
    · unfold RowsOwn; exact ⟨g1, f1, rfl, h1, k1⟩
    · rw [List.flatten_cons, List.length_append, ← Nat.add_assoc]; exact k2
    · rw [List.flatten_cons, List.length_append, ← Nat.add_assoc]; exact k3
theorem RowsOwn.join {w : World} {b : Nat} : ∀ {off : Nat} {r1 r2 : List (List C)} {r : List C} {f1 f f2 : List Nat}, RowsOwn w b off r1 f1 → CellsOwn w b (off + r1.flatten.length) r f → RowsOwn w b (off + r1.flatten.length + r.length) r2 f2 →
    RowsOwn w b off (r1 ++ r :: r2) (f1 ++ (f ++ f2))
  | off, [], r2, r, f1, f, f2, h, h1, h2 => by
    unfold RowsOwn at h; subst h
    simp only [List.nil_append]
    unfold RowsOwn
    exact ⟨f, f2, rfl, by simpa using h1, by simpa using h2⟩
  | off, x :: r1, r2, r, f1, f, f2, h, h1, h2 => by
    unfold RowsOwn at h
    obtain ⟨g1, g2, rfl, k1, k2⟩ := h
    rw [List.flatten_cons, List.length_append, ← Nat.add_assoc] at h1 h2
    simp only [List.cons_append]
    unfold RowsOwn
    exact ⟨g1, g2 ++ (f ++ f2), by simp, k1, RowsOwn.join k2 h1 h2⟩

/-- What the round does to the j-th row: its kind is written, then what its operands hold is turned within their own blocks. -/
theorem Ty.rows_append (a b : List Ty) : Ty.rows (a ++ b) = Ty.rows a ++ Ty.rows b := by simp [Ty.rows_eq]
theorem Ty.rows_cons (t : Ty) (b : List Ty) : Ty.rows (t :: b) = t.row :: Ty.rows b := by conv => lhs; unfold Ty.rows

/-- A block of one's own, whole: the slice over it and its rows. -/
def TysIn (w : World) (b : Nat) (ts : List Ty) (fps : List Nat) : Prop := (∃ cs T, w.heap[b]? = some (.cells cs T (0, 0))) ∧ RowsOwn w b 0 (Ty.rows ts) fps ∧ fps.Nodup ∧ b ∉ fps

theorem TysIn.row {w : World} {b : Nat} {ts1 ts2 : List Ty} {t : Ty} {fps : List Nat} (h : TysIn w b (ts1 ++ t :: ts2) fps) :
    ∃ f1 f f2 s, fps = f1 ++ (f ++ f2) ∧ RowsOwn w b 0 (Ty.rows ts1) f1 ∧ RowsOwn w b (ts1.length * 2 + 2) (Ty.rows ts2) f2 ∧ w.cell? ⟨b, ts1.length * 2, none⟩ = some (.int .i64 t.kind) ∧ w.cell? ⟨b, ts1.length * 2 + 1, none⟩ = some s ∧ TysOwn w t.kids s f := by
  obtain ⟨_, hr, _, _⟩ := h
  rw [Ty.rows_append, Ty.rows_cons] at hr
  obtain ⟨f1, f, f2, rfl, h1, h2, h3⟩ := RowsOwn.split hr
  rw [Ty.flatten_length, Nat.zero_add] at h2 h3
  rw [Ty.row_length] at h3
  cases t with | mk k us =>
  unfold Ty.row CellsOwn at h2
  obtain ⟨y, g1, g2, rfl, hy, k1, k2⟩ := h2
  unfold COwn at k1
  obtain ⟨rfl, rfl⟩ := k1
  unfold CellsOwn at k2
  obtain ⟨y', g3, g4, rfl, hy', k3, k4⟩ := k2
  unfold CellsOwn at k4
  subst k4
  exact ⟨f1, g3, f2, y', by simp, h1, h3, hy, hy', k3⟩

theorem TysIn.step {w w' : World} {b : Nat} {ts1 ts2 us' : List Ty} {t : Ty} {k : Int} {f1 f f2 : List Nat} {s : Value} (h : TysIn w b (ts1 ++ t :: ts2) (f1 ++ (f ++ f2))) (h1 : RowsOwn w b 0 (Ty.rows ts1) f1) (h2 : RowsOwn w b (ts1.length * 2 + 2) (Ty.rows ts2) f2)
    (hs0 : w.cell? ⟨b, ts1.length * 2, none⟩ = some (.int .i64 t.kind)) (hs : w.cell? ⟨b, ts1.length * 2 + 1, none⟩ = some s) (hc : Chg f (w.setCell ⟨b, ts1.length * 2, none⟩ (.int .i64 k)) w') (hk : TysOwn w' us' s f) : TysIn w' b (ts1 ++ Ty.mk k us' :: ts2) (f1 ++ (f ++ f2)) := by
  obtain ⟨⟨cs, T, hb⟩, _, hd, hn⟩ := h
  simp only [List.mem_append, not_or] at hn
  have hbl := (Array.getElem?_eq_some_iff.1 hb).1
  have hsz : (w.setCell ⟨b, ts1.length * 2, none⟩ (.int .i64 k)).heap.size = w.heap.size := by simp [World.setCell]
  have hb1 : w'.heap[b]? = some (.cells (cs.setIfInBounds (ts1.length * 2) (.int .i64 k)) T (0, 0)) := (hc.block b (by omega) hn.2.1).trans (heap_setCell_same hb)
  rw [List.nodup_append, List.nodup_append] at hd
  obtain ⟨d1, ⟨d2, d3, d23⟩, d123⟩ := hd
  have old : ∀ x, x < w.heap.size → x ≠ b → x ∉ f → w'.heap[x]? = w.heap[x]? := fun x hx hxb hxf =>
    (hc.block x (by omega) hxf).trans (Below.heap_setCell w ⟨b, _, none⟩ _ x hxb)
  have cell : ∀ o, o ≠ ts1.length * 2 → w'.cell? ⟨b, o, none⟩ = w.cell? ⟨b, o, none⟩ := fun o ho => by
    simp only [World.cell?, hb1, hb]
    simp
    rw [Array.getElem?_setIfInBounds_ne (by omega)]
  have hl' : ts1.length * 2 < cs.size := by
    simp only [World.cell?, hb] at hs0
    simp at hs0
    exact (Array.getElem?_eq_some_iff.1 hs0).1
  refine ⟨⟨_, T, hb1⟩, ?_, ?_, ?_⟩
  · rw [Ty.rows_append, Ty.rows_cons]
    refine RowsOwn.join ?_ ?_ ?_
    · exact h1.move _ _ _ (fun x hx => old x (h1.lt _ _ _ x hx) (fun e => hn.1 (e ▸ hx)) (fun hf => d123 x hx x (List.mem_append_left _ hf) rfl)) (fun o _ ho => cell o (by rw [Ty.flatten_length] at ho; omega))
    · rw [Ty.flatten_length, Nat.zero_add]
      unfold Ty.row CellsOwn
      refine ⟨_, [], f, by simp, ?_, by unfold COwn; exact ⟨rfl, rfl⟩, ?_⟩
      · simp only [World.cell?, hb1]
        simp
        rw [Array.getElem?_setIfInBounds_self]
        simp; omega
      · unfold CellsOwn
        exact ⟨s, f, [], by simp, (cell _ (by omega)).trans hs, hk, by unfold CellsOwn; rfl⟩
    · rw [Ty.flatten_length, Ty.row_length, Nat.zero_add]
      exact h2.move _ _ _ (fun x hx => old x (h2.lt _ _ _ x hx) (fun e => hn.2.2 (e ▸ hx)) (fun hf => d23 x hf x hx rfl)) (fun o ho _ => cell o (by omega))
  · rw [List.nodup_append, List.nodup_append]; exact ⟨d1, ⟨d2, d3, d23⟩, d123⟩
  · simp only [List.mem_append, not_or]; exact hn

def MarkPost (ts : List Ty) (m : Int) (s : Value) (fp : List Nat) (w : World) (e : Ending) (w' : World) : Prop :=
  e = .returned (.int .i64 (m + Ty.scnt ts)) ∧ TysOwn w' (Ty.marks ts m) s fp ∧ Chg fp w w'

theorem Ty.kids_lt_list {ts : List Ty} {t : Ty} (h : t ∈ ts) : SizeOf.sizeOf t.kids < SizeOf.sizeOf ts := by
  have h1 := List.sizeOf_lt_of_mem h
  cases t with | mk k us => simp only [Ty.kids] at *; simp at h1; omega
theorem Ty.marks_take_succ (ts : List Ty) (m : Int) (j : Nat) (h : j < ts.length) : (Ty.marks ts m).take (j + 1) = (Ty.marks ts m).take j ++ [ts[j].marked (m + j + Ty.cnts (ts.take j))] := by
  rw [List.take_succ_eq_append_getElem (by rw [Ty.marks_length]; exact h), Ty.marks_get ts m j h]
theorem Ty.marked_eq (t : Ty) (m : Int) : t.marked m = .mk m (Ty.marks t.kids (m + 1)) := by cases t; unfold Ty.marked Ty.kids; rfl
theorem Ty.cnt_eq (t : Ty) : t.cnt = Ty.scnt t.kids := by cases t; unfold Ty.cnt Ty.scnt Ty.kids; rfl

set_option maxHeartbeats 1000000 in
theorem markTypeS_any (ts : List Ty) : ∀ (m : Int) (s : Value) (fp : List Nat) (w : World), TysOwn w ts s fp → fp.Nodup → 0 ≤ m → m + Ty.scnt ts ≤ 1099511627776 →
    Calls Try.prog 21 #[s, .int .i64 m] w (MarkPost ts m s fp w) := by
  intro m s fp w hown hnd hm0 hmb
  have IH : ∀ t ∈ ts, ∀ (m : Int) (s : Value) (fp : List Nat) (w : World), TysOwn w t.kids s fp → fp.Nodup → 0 ≤ m → m + Ty.scnt t.kids ≤ 1099511627776 →
    Calls Try.prog 21 #[s, .int .i64 m] w (MarkPost t.kids m s fp w) := fun t ht m s fp w a b c d => markTypeS_any t.kids m s fp w a b c d
  have IHH := Lib.hid IH
  clear IH
  have hown' := hown
  unfold TysOwn COwn at hown
  obtain ⟨a, cap, rfl, h2, h3, h4⟩ := hown
  rw [Ty.rows_length] at h2 hown' ⊢
  unfold maxLen at h3
  rcases h4 with ⟨hnil, rfl⟩ | ⟨b, fps, cs, T, rfl, rfl, hb, hrows⟩
  · obtain rfl : ts = [] := by
      cases ts with
      | nil => rfl
      | cons t ts => unfold Ty.rows at hnil; cases hnil
    have HO := Lib.hid hown'
    clear hown'
    simp only [List.length_nil]
    go_enter Try.func21, Try.ntmps21
    go_wp2_with fail
    go_loopw [5, 1] (fun i p wr => i = .int .i64 0 ∧ p = .int .i64 m ∧ w = wr) (fun _ _ _ => 0)
    case atStart => exact ⟨rfl, rfl, rfl⟩
    case round =>
      obtain ⟨rfl, rfl, rfl⟩ := hrel
      go_wp2_with fail
      go_ret
      exact ⟨ret_int (by simp [Ty.scnt, Ty.cnts]), by unfold Ty.marks; exact HO.out, Chg.refl _ _⟩
  · obtain ⟨n, hn⟩ : ∃ n, ts.length = n := ⟨_, rfl⟩
    rw [hn] at h2 hown' ⊢
    have hnd' := List.nodup_cons.1 hnd
    have HIN : TysIn w b ts fps := ⟨⟨cs, T, hb⟩, hrows, hnd'.2, hnd'.1⟩
    have HN := Lib.hid hn
    have HMB := Lib.hid hmb
    have HCS := Lib.hid hb
    clear hn hmb hown' hnd hb hrows
    go_enter Try.func21, Try.ntmps21
    go_wp2_with fail
    go_loopw [5, 1] (fun i p wr => ∃ j : Nat, j ≤ n ∧ i = .int .i64 j ∧ (∃ q : Int, p = .int .i64 q ∧ 0 ≤ q ∧ q ≤ 1099511627776 ∧ Hid (q = m + j + Ty.cnts (ts.take j))) ∧ TysIn wr b ((Ty.marks ts m).take j ++ ts.drop j) fps ∧ Chg (b :: fps) w wr) (fun i _ _ => n - (intOf i).toNat)
    case atStart => exact ⟨0, by omega, rfl, ⟨m, rfl, hm0, by have := HMB.out; omega, by simp [Hid, Ty.cnts]⟩, by simpa using HIN, Chg.refl _ _⟩
    case round =>
      obtain ⟨j, hj, rfl, ⟨q, rfl, hq0, hq1, hq⟩, hin, hchg⟩ := hrel
      by_cases hlt : j < n
      · have hjt : j < ts.length := by rw [HN.out]; exact hlt
        rw [List.drop_eq_getElem_cons hjt] at hin
        obtain ⟨f1, f, f2, sj, hf, hr1, hr2, hc0, hc1, hkid⟩ := hin.row
        have hLl : ((Ty.marks ts m).take j).length = j := by rw [List.length_take, Ty.marks_length]; omega
        rw [hLl] at hr2 hc0 hc1
        obtain ⟨⟨cs', T', hb'⟩, _, hnd2, hbn⟩ := hin
        have fr0 : wr.frozen? ⟨b, j * 2, none⟩ = false := by simp [World.frozen?, hb']
        have hbl := (Array.getElem?_eq_some_iff.1 hb').1
        have hin' : TysIn wr b ((Ty.marks ts m).take j ++ ts[j] :: ts.drop (j + 1)) (f1 ++ (f ++ f2)) := ⟨⟨cs', T', hb'⟩, by rw [← hf]; assumption, by rw [← hf]; exact hnd2, by rw [← hf]; exact hbn⟩
        subst hf
        have hbf : b ∉ f := fun h => hbn (by simp [h])
        have hfn : f.Nodup := by rw [List.nodup_append, List.nodup_append] at hnd2; exact hnd2.2.1.1
        have hcs := Ty.cnts_take_succ ts j hjt
        have hcl := Ty.cnts_take_le ts (j + 1)
        rw [Ty.cnt_eq] at hcs
        have hbd : q + 1 + (Ty.scnt ts[j].kids : Nat) ≤ 1099511627776 := by
          have h1 := hq.out; have h2 := HMB.out; have h3 := HN.out
          unfold Ty.scnt at h2
          omega
        have hkid' : TysOwn (wr.setCell ⟨b, j * 2, none⟩ (.int .i64 q)) ts[j].kids sj f :=
          COwn.move _ _ _ (fun x hx => Below.heap_setCell wr ⟨b, j * 2, none⟩ _ x (fun e => by have e' : x = b := e; exact hbf (e' ▸ hx))) hkid
        have hcall := IHH.out ts[j] (List.getElem_mem hjt) (q + 1) sj f _ hkid' hfn (by omega) hbd
        have hshape := hkid
        unfold TysOwn COwn at hshape
        obtain ⟨aj, qj, rfl, _⟩ := hshape
        have HC := Lib.hid hcall
        have HS := Lib.hid hcs
        have HHIN := Lib.hid hin'
        have HR1 := Lib.hid hr1
        have HR2 := Lib.hid hr2
        have HL := Lib.hid hLl
        have HNB := Lib.hid hbn
        clear hcall hcs hin' hr1 hr2 hcl hkid hkid' hLl hnd2 hb' hbn hbf
        go_wp2_with fail
        refine HC.out.mono ?_
        rintro e w1 ⟨rfl, hown1, hchg1⟩
        generalize Ty.scnt ts[j].kids = c at *
        go_wp2_with fail
        go_roundw
        case rel =>
          have hst := HHIN.out.step (us' := Ty.marks ts[j].kids (q + 1)) (k := q) HR1.out (by rw [HL.out]; exact HR2.out) (by rw [HL.out]; exact hc0) (by rw [HL.out]; exact hc1) (by rw [HL.out]; exact hchg1) hown1
          refine ⟨j + 1, by omega, by go_num, ⟨q + 1 + c, by go_num, by omega, hbd, by have h1 := hq.out; have h2 := HS.out; unfold Hid; omega⟩, ?_, ?_⟩
          · rw [Ty.marks_take_succ ts m j hjt, ← hq.out, Ty.marked_eq, List.append_assoc]
            exact hst
          · exact hchg.trans (((Chg.refl _ _).setCell (by simp) _).trans (hchg1.mono (by intro x hx; simp [hx])))
        case measure => simp [intOf]; omega
      · go_wp2_with fail
        go_ret
        have hjn : j = n := by omega
        rw [List.take_of_length_le (by rw [Ty.marks_length, HN.out]; omega), List.drop_eq_nil_of_le (by rw [HN.out]; omega), List.append_nil] at hin
        refine ⟨ret_int ?_, ?_, hchg⟩
        · have h1 := hq.out
          have h2 := HN.out
          rw [List.take_of_length_le (by rw [HN.out]; omega)] at h1
          unfold Ty.scnt
          omega
        · obtain ⟨⟨cs', T', hb'⟩, hrr, _, _⟩ := hin
          unfold TysOwn COwn
          exact ⟨_, cap, by rw [Ty.rows_length, Ty.marks_length, HN.out], by rw [Ty.rows_length, Ty.marks_length, HN.out]; exact h2, by unfold maxLen; exact h3, .inr ⟨b, fps, cs', T', rfl, rfl, hb', hrr⟩⟩
termination_by SizeOf.sizeOf ts
decreasing_by exact Ty.kids_lt_list ht

def MarkTyPost (t : Ty) (m : Int) (y : Value) (fp : List Nat) (w : World) (e : Ending) (w' : World) : Prop :=
  e = .returned (.int .i64 (m + t.cnt)) ∧ TyOwn w' (.mk t.kind (Ty.marks t.kids m)) y fp ∧ Chg fp w w'

set_option maxHeartbeats 400000 in
theorem markType_any (t : Ty) (m : Int) (y : Value) (fp : List Nat) (w : World) (hown : TyOwn w t y fp) (hnd : fp.Nodup) (hm0 : 0 ≤ m) (hmb : m + t.cnt ≤ 1099511627776) :
    Calls Try.prog 8 #[y, .int .i64 m] w (MarkTyPost t m y fp w) := by
  obtain ⟨k, a, n, q, rfl, hk, hs⟩ := hown.shape
  rw [Ty.cnt_eq] at hmb
  have HC := Lib.hid (markTypeS_any t.kids m (.slice a n q) fp (w.alloc (.cells #[.int .i64 k, .slice a n q] 24))
    (COwn.move _ _ _ (fun x hx => Below.heap_alloc w _ x (COwn.lt _ _ _ hs x hx)) hs) hnd hm0 hmb)
  have HK := Lib.hid hk
  have HF := Lib.hid (fun x (hx : x ∈ fp) => COwn.lt _ _ _ hs x hx)
  clear hown hs hk hnd
  go_enter Try.func8, Try.ntmps8
  go_wp2_with fail
  refine HC.out.mono ?_
  rintro e w1 ⟨rfl, ho, hc⟩
  go_wp2_with fail
  go_ret
  refine ⟨ret_int (by rw [Ty.cnt_eq]), ⟨_, by rw [HK.out]; rfl, ho⟩, ?_⟩
  exact (Chg.of_below bal1).trans hc

end Go.Proofs.Ytikkneahhgmdjaa
