/-
  A block of cells as one fact.
  A name's type in a context, both sides.
  Readings of types that are built in place.
  A drawn region walked by hand: the moves in short words; a world behind an alloc, behind the stores into a block, as a letter.
-/
import Derived.Test.YtkhmkohgnikcmaaB3
import Derived.Test.YtkhmkohgnikcmaaB5
import Derived.Test.YtkhmkohgnikcmaaB19
import Derived.Test.YtkhmkohgnikcmaaTyCopyB
import Derived.Test.YtkhmkohgnikcmaaB9
import Derived.Test.YtkhmkohgnikcmaaB0
import Derived.Deep.RegionHeld3
namespace Go.Proofs.Ytkhmkohgnikcmaa
open Go.RowKit
set_option linter.unusedVariables false
set_option linter.unusedSimpArgs false

theorem blk_cell {w : World} {b o : Nat} {cs : Array Value} {T : TypeId} {fr : Nat × Nat} {v : Value} (h : w.heap[b]? = some (.cells cs T fr)) (hv : cs[o]? = some v) : w.cell? ⟨b, o, none⟩ = some v := by
  simp only [World.cell?, h]
  simpa using hv
theorem blk_fro {w : World} {b : Nat} {cs : Array Value} {T : TypeId} (h : w.heap[b]? = some (.cells cs T (0, 0))) (o : Nat) : w.frozen? ⟨b, o, none⟩ = false := by
  simp [World.frozen?, h]
theorem blk_lt {w : World} {b : Nat} {x : Obj} (h : w.heap[b]? = some x) : b < w.heap.size := (Array.getElem?_eq_some_iff.1 h).1
theorem blk_new {w : World} {b : Nat} {o : Obj} (hb : w.heap.size = b) : (w.alloc o).heap[b]? = some o := by subst hb; exact heap_alloc_new w o
theorem blk_below {w w' : World} {b : Nat} {x : Obj} (h : w.heap[b]? = some x) (k : Below w.heap.size w w') : w'.heap[b]? = some x := (k.block b (blk_lt h)).trans h
theorem blk_ne {w : World} {b : Nat} {x : Obj} {p : Addr} {v : Value} (h : w.heap[b]? = some x) (hn : b ≠ p.block) : (w.setCell p v).heap[b]? = some x := (Below.heap_setCell w p v b hn).trans h
theorem blk_set {w : World} {b o : Nat} {cs cs' : Array Value} {T : TypeId} {fr : Nat × Nat} {v : Value} (h : w.heap[b]? = some (.cells cs T fr)) (e : cs.setIfInBounds o v = cs') : (w.setCell ⟨b, o, none⟩ v).heap[b]? = some (.cells cs' T fr) := by
  subst e; exact heap_setCell_same h
end Go.Proofs.Ytkhmkohgnikcmaa
namespace Go.Proofs.Ytkhmkohgnikcmaa
open Go.RowKit
set_option linter.unusedVariables false
set_option linter.unusedSimpArgs false
set_option maxRecDepth 100000

/-- A type, if there is one: a reading. -/
def RetOG (G : Nat → Prop) (o : Option Ty) (w : World) (e : Ending) (w' : World) : Prop := ∃ (k : Int) (a : Option Addr) (n q : Nat) (b : Bool) (t : Ty), e = .returned (.tuple #[.agg #[.int .i64 k, .slice a n q], .bool b]) ∧ b = o.isSome ∧ TyRep (fun x => G x ∨ w.heap.size ≤ x) w' t (.agg #[.int .i64 k, .slice a n q]) ∧ (∀ s, o = some s → t = s) ∧ Below w.heap.size w w'
def lookN (l : List Bd) (nm : ByteArray) : Nat → Option Ty
  | 0 => none
  | i + 1 => match l[i]? with
    | some b => if b.name.toList == nm.toList then some b.ty else lookN l nm i
    | none => lookN l nm i
theorem lookN_hit {l : List Bd} {nm : ByteArray} {i : Nat} (h : i < l.length) (e : (l[i].name.toList == nm.toList) = true) : lookN l nm (i + 1) = some l[i].ty := by
  simp only [lookN, List.getElem?_eq_getElem h, e, if_true]
theorem lookN_miss {l : List Bd} {nm : ByteArray} {i : Nat} (h : i < l.length) (e : (l[i].name.toList == nm.toList) = false) : lookN l nm (i + 1) = lookN l nm i := by
  simp only [lookN, List.getElem?_eq_getElem h, e]; rfl
theorem TyRep.any {F : Nat → Prop} {w : World} {t : Ty} {y : Value} (h : TyRep F w t y) : TyRep (fun _ => True) w t y := h.move (.weaken fun _ _ _ => trivial)
/-- The same, in fresh memory. -/
def RetOF (o : Option Ty) (w : World) (e : Ending) (w' : World) : Prop := RetOG (fun _ => False) o w e w'
theorem TyRep.zeroG {H : Nat → Prop} {w : World} : TyRep H w (.mk 0 []) (.agg #[.int .i64 0, .slice none 0 0]) := by
  refine ⟨_, rfl, ?_⟩
  unfold TysRep CRep
  exact ⟨none, 0, rfl, Nat.le_refl _, by unfold maxLen; omega, .inl rfl⟩
set_option maxHeartbeats 4000000 in
theorem implLookup (F : Nat → Prop) (l : List Bd) (nm : ByteArray) (y : Value) (w : World) (hy : BdsRep F w l y) :
    Calls Try.prog 55 #[y, .string nm] w (RetOG F (lookN l nm l.length) w) := by
  obtain ⟨a, n, q, rfl⟩ := hy.shape
  obtain ⟨a', q', he, hq1, hq2, -⟩ := hy.open
  simp only [Value.slice.injEq] at he
  obtain ⟨rfl, rfl, rfl⟩ := he
  unfold maxLen at hq2
  have HY := Lib.hid hy
  clear hy
  have hZ : (w.alloc (.cells #[.int .i64 0, .slice none 0 0] 31)).heap[w.heap.size]? = some (.cells #[.int .i64 0, .slice none 0 0] 31 (0, 0)) := blk_new rfl
  generalize hn : l.length = n at *
  have HN := Lib.hid hn
  clear hn
  have hwn : wrap64 ((n : Int) - 1) = (n : Int) - 1 := by unfold wrap64; omega
  go_enter Try.func55, Try.ntmps55
  go_wp2_with fail
  go_loopw [6] (fun i wr => ∃ j : Nat, j ≤ n ∧ i = .int .i64 ((j : Int) - 1) ∧ wr = w.alloc (.cells #[.int .i64 0, .slice none 0 0] 31) ∧ Hid (lookN l nm n = lookN l nm j)) (fun i _ => (intOf i + 1).toNat)
  case atStart => exact ⟨n, Nat.le_refl _, rfl, rfl, Lib.hid rfl⟩
  case round =>
    obtain ⟨j, hj, rfl, rfl, hrel⟩ := hrel
    have z0 : (w.alloc (.cells #[.int .i64 0, .slice none 0 0] 31)).cell? ⟨w.heap.size, 0, none⟩ = some (.int .i64 0) := blk_cell hZ rfl
    have z1 : (w.alloc (.cells #[.int .i64 0, .slice none 0 0] 31)).cell? ⟨w.heap.size, 1, none⟩ = some (.slice none 0 0) := blk_cell hZ rfl
    have zf0 : (w.alloc (.cells #[.int .i64 0, .slice none 0 0] 31)).frozen? ⟨w.heap.size, 0, none⟩ = false := blk_fro hZ 0
    have zf1 : (w.alloc (.cells #[.int .i64 0, .slice none 0 0] 31)).frozen? ⟨w.heap.size, 1, none⟩ = false := blk_fro hZ 1
    cases j with
    | zero =>
      have h0 : decide (((0 : Nat) : Int) - 1 ≥ 0) = false := by simp
      go_wp2_with fail
      refine bodyPost_ret (v := .tuple #[.agg #[.int .i64 0, .slice none 0 0], .bool false]) (by simp [results, Try.results55, go_sem]) rfl ?_
      exact ⟨_, _, _, _, _, _, rfl, by rw [hrel.out]; rfl, TyRep.zeroG, (by rw [hrel.out]; intro s h; cases h), bal1⟩
    | succ j =>
      have hjl : j < l.length := by have := HN.out; omega
      obtain ⟨b, off, k0, a0, m0, q0, rfl, l0, e0, ez, e1, e2, ht⟩ := HY.out.at (Below.refl _ _) hjl
      replace e0 := bcell (bal1 (o := .cells #[.int .i64 0, .slice none 0 0] 31)) e0
      replace e1 := bcell (bal1 (o := .cells #[.int .i64 0, .slice none 0 0] 31)) e1
      replace e2 := bcell (bal1 (o := .cells #[.int .i64 0, .slice none 0 0] 31)) e2
      have HT := Lib.hid ht
      clear ht
      have h0 : decide (((j + 1 : Nat) : Int) - 1 ≥ 0) = true := by simp
      have hji : ((j + 1 : Nat) : Int) - 1 = (j : Int) := by omega
      have hj0 : (0 : Int) ≤ (j : Int) := by omega
      have hj1 : (j : Int) < (n : Int) := by omega
      have hwj : wrap64 ((j : Int) - 1) = (j : Int) - 1 := by unfold wrap64; omega
      rw [hji]
      rcases Bool.eq_false_or_eq_true (l[j].name.toList == nm.toList) with q1 | q1
      · have HQ := Lib.hid (lookN_hit hjl q1)
        go_wp2_with fail
        refine bodyPost_ret (v := .tuple #[.agg #[.int .i64 k0, .slice a0 m0 q0], .bool true]) (by simp [results, Try.results55, go_sem]) rfl ?_
        exact ⟨_, _, _, _, _, _, rfl, by rw [hrel.out, HQ.out]; rfl, (HT.out.move (.weaken fun b h _ => .inl h)).below bal1, (by rw [hrel.out, HQ.out]; intro s h; exact Option.some.inj h), bal1⟩
      · have HQ := Lib.hid (lookN_miss hjl q1)
        go_wp2_with fail
        go_roundw
        case rel => exact ⟨j, by omega, by first | trivial | rfl, by first | trivial | rfl, Lib.hid (hrel.out.trans HQ.out)⟩
        case measure => simp [intOf]
set_option maxHeartbeats 4000000 in
theorem specL3Look (F : Nat → Prop) (l : List Bd) (nm : ByteArray) (y : Value) (w : World) (hy : BdsRep F w l y) (hc : ∀ b ∈ l, b.ty.cnt ≤ 1048576) :
    Calls Try.prog 45 #[y, .string nm] w (RetOF (lookN l nm l.length) w) := by
  obtain ⟨a, n, q, rfl⟩ := hy.shape
  obtain ⟨a', q', he, hq1, hq2, -⟩ := hy.open
  simp only [Value.slice.injEq] at he
  obtain ⟨rfl, rfl, rfl⟩ := he
  unfold maxLen at hq2
  have HY := Lib.hid hy
  have HCN := Lib.hid hc
  clear hy hc
  have hZ : (w.alloc (.cells #[.int .i64 0, .slice none 0 0] 31)).heap[w.heap.size]? = some (.cells #[.int .i64 0, .slice none 0 0] 31 (0, 0)) := blk_new rfl
  generalize hn : l.length = n at *
  have HN := Lib.hid hn
  clear hn
  have hwn : wrap64 ((n : Int) - 1) = (n : Int) - 1 := by unfold wrap64; omega
  go_enter Try.func45, Try.ntmps45
  go_wp2_with fail
  go_loopw [6] (fun i wr => ∃ j : Nat, j ≤ n ∧ i = .int .i64 ((j : Int) - 1) ∧ wr = w.alloc (.cells #[.int .i64 0, .slice none 0 0] 31) ∧ Hid (lookN l nm n = lookN l nm j)) (fun i _ => (intOf i + 1).toNat)
  case atStart => exact ⟨n, Nat.le_refl _, rfl, rfl, Lib.hid rfl⟩
  case round =>
    obtain ⟨j, hj, rfl, rfl, hrel⟩ := hrel
    have z0 : (w.alloc (.cells #[.int .i64 0, .slice none 0 0] 31)).cell? ⟨w.heap.size, 0, none⟩ = some (.int .i64 0) := blk_cell hZ rfl
    have z1 : (w.alloc (.cells #[.int .i64 0, .slice none 0 0] 31)).cell? ⟨w.heap.size, 1, none⟩ = some (.slice none 0 0) := blk_cell hZ rfl
    have zf0 : (w.alloc (.cells #[.int .i64 0, .slice none 0 0] 31)).frozen? ⟨w.heap.size, 0, none⟩ = false := blk_fro hZ 0
    have zf1 : (w.alloc (.cells #[.int .i64 0, .slice none 0 0] 31)).frozen? ⟨w.heap.size, 1, none⟩ = false := blk_fro hZ 1
    cases j with
    | zero =>
      have h0 : decide (((0 : Nat) : Int) - 1 ≥ 0) = false := by simp
      go_wp2_with fail
      refine bodyPost_ret (v := .tuple #[.agg #[.int .i64 0, .slice none 0 0], .bool false]) (by simp [results, Try.results45, go_sem]) rfl ?_
      exact ⟨_, _, _, _, _, _, rfl, by rw [hrel.out]; rfl, TyRep.zeroG, (by rw [hrel.out]; intro s h; cases h), bal1⟩
    | succ j =>
      have hjl : j < l.length := by have := HN.out; omega
      obtain ⟨b, off, k0, a0, m0, q0, rfl, l0, e0, ez, e1, e2, ht⟩ := HY.out.at (Below.refl _ _) hjl
      replace e0 := bcell (bal1 (o := .cells #[.int .i64 0, .slice none 0 0] 31)) e0
      replace e1 := bcell (bal1 (o := .cells #[.int .i64 0, .slice none 0 0] 31)) e1
      replace e2 := bcell (bal1 (o := .cells #[.int .i64 0, .slice none 0 0] 31)) e2
      have HT := Lib.hid ht
      clear ht
      have h0 : decide (((j + 1 : Nat) : Int) - 1 ≥ 0) = true := by simp
      have hji : ((j + 1 : Nat) : Int) - 1 = (j : Int) := by omega
      have hj0 : (0 : Int) ≤ (j : Int) := by omega
      have hj1 : (j : Int) < (n : Int) := by omega
      have hwj : wrap64 ((j : Int) - 1) = (j : Int) - 1 := by unfold wrap64; omega
      rw [hji]
      rcases Bool.eq_false_or_eq_true (l[j].name.toList == nm.toList) with q1 | q1
      · have HQ := Lib.hid (lookN_hit hjl q1)
        go_wp2_with fail
        refine (specL1Copy F _ _ _ (HT.out.below bal1) (HCN.out _ (List.getElem_mem hjl))).mono ?_
        rintro e w1 ⟨v, rfl, hv, hb1⟩
        obtain ⟨kc, ac, nc, qc, rfl⟩ := hv.shape
        have HV := Lib.hid hv
        have HB := Lib.hid (bstep bal1 hb1)
        replace hZ := blk_below hZ hb1
        have hz1 := hb1.size
        simp only [World.size_alloc] at hz1
        clear hv hb1 z0 z1 zf0 zf1 e0 e1 e2
        have z0 : w1.cell? ⟨w.heap.size, 0, none⟩ = some (.int .i64 0) := blk_cell hZ rfl
        have z1 : w1.cell? ⟨w.heap.size, 1, none⟩ = some (.slice none 0 0) := blk_cell hZ rfl
        have zf0 : w1.frozen? ⟨w.heap.size, 0, none⟩ = false := blk_fro hZ 0
        have zf1 : w1.frozen? ⟨w.heap.size, 1, none⟩ = false := blk_fro hZ 1
        go_wp2_with fail
        have hY : ((w1.setCell ⟨w.heap.size, 0, none⟩ (.int .i64 kc)).setCell ⟨w.heap.size, 1, none⟩ (.slice ac nc qc)).heap[w.heap.size]? = some (.cells #[.int .i64 kc, .slice ac nc qc] 31 (0, 0)) := blk_set (blk_set hZ (rfl : (#[Value.int .i64 0, .slice none 0 0] : Array Value).setIfInBounds 0 (.int .i64 kc) = #[.int .i64 kc, .slice none 0 0])) rfl
        have rc0 := blk_cell hY (o := 0) rfl
        have rc1 := blk_cell hY (o := 1) rfl
        refine bodyPost_ret (v := .tuple #[.agg #[.int .i64 kc, .slice ac nc qc], .bool true]) (by simp [results, Try.results45, go_sem, rc0, rc1]) rfl ?_
        exact ⟨_, _, _, _, _, _, rfl, by rw [hrel.out, HQ.out]; rfl, ((HV.out.setCell (p := ⟨w.heap.size, 0, none⟩) (by simp) _).setCell (p := ⟨w.heap.size, 1, none⟩) (by simp) _).rep.move (.weaken fun b h _ => .inr (by have : (w.alloc (.cells #[.int .i64 0, .slice none 0 0] 31)).heap.size ≤ b := h; simp at this; omega)), (by rw [hrel.out, HQ.out]; intro s h; exact Option.some.inj h), (HB.out.setCell (p := ⟨w.heap.size, 0, none⟩) (by show w.heap.size ≤ w.heap.size; omega) _).setCell (p := ⟨w.heap.size, 1, none⟩) (by show w.heap.size ≤ w.heap.size; omega) _⟩
      · have HQ := Lib.hid (lookN_miss hjl q1)
        go_wp2_with fail
        go_roundw
        case rel => exact ⟨j, by omega, by first | trivial | rfl, by first | trivial | rfl, Lib.hid (hrel.out.trans HQ.out)⟩
        case measure => simp [intOf]
end Go.Proofs.Ytkhmkohgnikcmaa
namespace Go.Proofs.Ytkhmkohgnikcmaa
open Go.RowKit
set_option linter.unusedVariables false
set_option linter.unusedSimpArgs false

theorem TyRep.leaf {w : World} (k : Int) : TyRep (fun _ => True) w (Ty.mk k []) (.agg #[.int .i64 k, .slice none 0 0]) := by
  refine ⟨_, rfl, ?_⟩
  unfold TysRep Ty.kids Ty.rows CRep
  exact ⟨none, 0, rfl, Nat.le_refl _, by unfold maxLen; omega, .inl rfl⟩
theorem TyRep.parts {F : Nat → Prop} {w : World} {t : Ty} {k : Int} {c : Value} (h : TyRep F w t (.agg #[.int .i64 k, c])) : t.kind = k ∧ CRep F w (.sl (Ty.rows t.kids)) c := by
  obtain ⟨s, he, hs⟩ := h
  simp only [Value.agg.injEq, Array.mk.injEq, List.cons.injEq, Value.int.injEq, true_and, and_true] at he
  obtain ⟨rfl, rfl⟩ := he
  exact ⟨rfl, hs⟩
theorem TyRep.two_mk {F : Nat → Prop} {w : World} {b cap : Nat} {k : Int} {t u : Ty} {k1 k2 : Int} {c1 c2 : Value} (hF : F b) (hc : 2 ≤ cap) (hm : cap ≤ maxLen)
    (e0 : w.cell? ⟨b, 0, none⟩ = some (.int .i64 k1)) (e1 : w.cell? ⟨b, 1, none⟩ = some c1) (e2 : w.cell? ⟨b, 2, none⟩ = some (.int .i64 k2)) (e3 : w.cell? ⟨b, 3, none⟩ = some c2)
    (ht : TyRep F w t (.agg #[.int .i64 k1, c1])) (hu : TyRep F w u (.agg #[.int .i64 k2, c2])) : TyRep F w (Ty.mk k [t, u]) (.agg #[.int .i64 k, .slice (some ⟨b, 0, none⟩) 2 cap]) := by
  refine ⟨_, rfl, ?_⟩
  obtain ⟨p1, p2⟩ := ht.parts
  obtain ⟨p3, p4⟩ := hu.parts
  cases t with | mk k1' ts => cases u with | mk k2' us =>
  simp only [Ty.kind, Ty.kids] at *
  subst p1 p3
  unfold TysRep CRep
  refine ⟨_, cap, by simp [Ty.rows_length], by rw [Ty.rows_length]; simpa using hc, hm, .inr ⟨b, 0, rfl, hF, World.block_lt_of_cell? _ _ e0, ?_⟩⟩
  simp only [Ty.rows, Ty.row]
  unfold RowsAt
  refine ⟨?_, ?_⟩
  · unfold CellsAt
    refine ⟨⟨_, e0, by unfold CRep; rfl⟩, ?_⟩
    unfold CellsAt
    exact ⟨⟨_, e1, p2⟩, by unfold CellsAt; trivial⟩
  · unfold RowsAt
    refine ⟨?_, by unfold RowsAt; trivial⟩
    unfold CellsAt
    refine ⟨⟨_, e2, by unfold CRep; rfl⟩, ?_⟩
    unfold CellsAt
    exact ⟨⟨_, e3, p4⟩, by unfold CellsAt; trivial⟩
end Go.Proofs.Ytkhmkohgnikcmaa
namespace Go.Proofs.Ytkhmkohgnikcmaa
open Go.RowKit
set_option linter.unusedVariables false
set_option linter.unusedSimpArgs false

section
variable {P : Program} {ops : Array Oper} {Q : Exit → Act → World → Prop} {md : Region.Mode} {S : World → Prop} {fuel : Nat} {listed : Array Bool} {a : Act} {w : World}
/-- An operation whose value is known is taken. -/
theorem hwt (i : Nat) (oi : Oper) (v : Value) (hS : S w) (hy : ∀ w', S w' → (execOp a.eval oi).run P w' = .ok (.value v) w') (h : wpAnyH P md ops Q S fuel (listed.setIfInBounds i true) (a.put oi.dst v) w)
    (hw : Region.wanted oi (yielded ops a.tmps) = true := by rfl) (hi : ops[i]? = some oi := by rfl) (hs : Region.noSelect ops = true := by kernel_rfl) (hf : Region.free md ops listed i = true := by kernel_rfl) (hr : (Region.ready md ops listed).contains i = true := by kernel_rfl)
    (hQ : ∀ c a w, Q (.panic c) (a.put oi.dst v) w → Q (.panic c) a w := by exact fun _ _ _ h => h) : wpAnyH P md ops Q S (fuel + 1) listed a w :=
  wpAnyH_take hi hs hf hr hQ (.inl ⟨hw, hy⟩) hS h
/-- One that is not wanted. -/
theorem hwn (i : Nat) (oi : Oper) (hS : S w) (h : wpAnyH P md ops Q S fuel (listed.setIfInBounds i true) (a.put oi.dst undef) w)
    (hw : Region.wanted oi (yielded ops a.tmps) = false := by rfl) (hi : ops[i]? = some oi := by rfl) (hs : Region.noSelect ops = true := by kernel_rfl) (hf : Region.free md ops listed i = true := by kernel_rfl) (hr : (Region.ready md ops listed).contains i = true := by kernel_rfl)
    (hQ : ∀ c a w, Q (.panic c) (a.put oi.dst undef) w → Q (.panic c) a w := by exact fun _ _ _ h => h) : wpAnyH P md ops Q S (fuel + 1) listed a w :=
  wpAnyH_take hi hs hf hr hQ (.inr ⟨hw, rfl⟩) hS h
/-- The one that may come up. -/
theorem hwr (i : Nat) (oi : Oper) (h : ∀ K' : Act → World → Prop, Shut (∀ a w, S w → (S w → wpAnyH P md ops Q S fuel (listed.setIfInBounds i true) a w) → K' a w) → if Region.wanted oi (yielded ops a.tmps) = true then Oper.wp P oi a w K' Q else K' (a.put oi.dst undef) w)
    (hi : ops[i]? = some oi := by rfl) (hr : Region.ready md ops listed = [i] := by kernel_rfl) : wpAnyH P md ops Q S (fuel + 1) listed a w :=
  wpAnyH_ready hr (by simp) (AllReadyH.cons hi h AllReadyH.nil)
end
theorem hw1 {α : Type} (l : List α) (i : Nat) (a : α) : l.toArray.setIfInBounds i a = (l.set i a).toArray := by simp
theorem hw2 {α : Type} (l : List α) (a b : α) : (a :: l).set 0 b = b :: l := rfl
theorem hw3 {α : Type} (l : List α) (i : Nat) (a b : α) : (a :: l).set (i + 1) b = a :: l.set i b := rfl
theorem hwA : (∀ (l : List Value) (i : Nat) (a : Value), l.toArray.setIfInBounds i a = (l.set i a).toArray) ∧ (∀ (l : List Value) (a b : Value), (a :: l).set 0 b = b :: l) ∧ (∀ (l : List Value) (i : Nat) (a b : Value), (a :: l).set (i + 1) b = a :: l.set i b) ∧
    (∀ (a : Act) (d : Tmp) (v : Value), a.put (some d) v = { a with tmps := a.tmps.setIfInBounds d v }) ∧ (∀ (a : Act) (v : Value), a.put none v = a) := ⟨hw1, hw2, hw3, fun _ _ _ => rfl, fun _ _ => rfl⟩
theorem blkR {W : World} {b : Nat} {a0 a1 : Value} {T : TypeId} (h : W.heap[b]? = some (.cells #[a0, a1] T (0, 0))) : W.cell? ⟨b, 0, none⟩ = some a0 ∧ W.cell? ⟨b, 1, none⟩ = some a1 ∧ W.frozen? ⟨b, 0, none⟩ = false ∧ W.frozen? ⟨b, 1, none⟩ = false :=
  ⟨blk_cell h rfl, blk_cell h rfl, blk_fro h 0, blk_fro h 1⟩
theorem drLet (W : World) : ∃ X, World.drew W = X ∧ Below W.heap.size W X ∧ W.heap.size ≤ X.heap.size ∧ X.heap.size ≤ W.heap.size := ⟨_, rfl, bdr, Nat.le_refl _, Nat.le_refl _⟩
theorem alLet (W : World) (o : Obj) : ∃ X, World.alloc W o = X ∧ Below W.heap.size W X ∧ X.heap[W.heap.size]? = some o ∧ W.heap.size + 1 ≤ X.heap.size ∧ X.heap.size ≤ W.heap.size + 1 := ⟨_, rfl, bal1, blk_new rfl, by simp, by simp⟩
/-- Behind stores into the block b. -/
def HSt (b : Nat) (W X : World) : Prop := (∀ c, c ≠ b → X.heap[c]? = W.heap[c]?) ∧ (∀ w : World, Below w.heap.size w W → w.heap.size ≤ b → Below w.heap.size w X) ∧ W.heap.size ≤ X.heap.size ∧ X.heap.size ≤ W.heap.size
theorem HSt.blk {b c : Nat} {W X : World} {x : Obj} (h : HSt b W X) (hn : c ≠ b) (f : W.heap[c]? = some x) : X.heap[c]? = some x := (h.1 c hn).trans f
theorem HSt.cell {b : Nat} {p : Addr} {W X : World} {v : Value} (h : HSt b W X) (hn : p.block ≠ b) (f : W.cell? p = some v) : X.cell? p = some v := by
  simp only [World.cell?] at f ⊢
  rw [h.1 p.block hn]; exact f
theorem HSt.bel {b : Nat} {w W X : World} (h : HSt b W X) (f : Below w.heap.size w W) (hb : w.heap.size ≤ b) : Below w.heap.size w X := h.2.1 w f hb
theorem stLet2 {W : World} {b : Nat} {a0 a1 : Value} {T : TypeId} (h : W.heap[b]? = some (.cells #[a0, a1] T (0, 0))) (v0 v1 : Value) :
    ∃ X, World.setCell (World.setCell W ⟨b, 0, none⟩ v0) ⟨b, 1, none⟩ v1 = X ∧ HSt b W X ∧ X.heap[b]? = some (.cells #[v0, v1] T (0, 0)) ∧ W.heap.size ≤ X.heap.size ∧ X.heap.size ≤ W.heap.size :=
  ⟨_, rfl, ⟨fun c hc => (Below.heap_setCell _ ⟨b, 1, none⟩ v1 c hc).trans (Below.heap_setCell _ ⟨b, 0, none⟩ v0 c hc), fun w f hb => (f.setCell (p := ⟨b, 0, none⟩) hb _).setCell (p := ⟨b, 1, none⟩) hb _, by simp [World.setCell], by simp [World.setCell]⟩, blk_set (blk_set h rfl) rfl, by simp [World.setCell], by simp [World.setCell]⟩
theorem HSt.rep {b : Nat} {W X : World} {F : Nat → Prop} {t : Ty} {y : Value} (h : HSt b W X) (hn : ∀ c, F c → c ≠ b) (f : TyRep F W t y) : TyRep F X t y :=
  f.move ⟨h.2.2.1, fun _ hc _ => hc, fun c hc _ => h.1 c (hn c hc)⟩
end Go.Proofs.Ytkhmkohgnikcmaa
