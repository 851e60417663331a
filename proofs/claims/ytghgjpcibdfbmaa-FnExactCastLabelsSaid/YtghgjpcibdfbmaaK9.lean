/-
  Arguments read as data: slices of rows.
  An argument of the laws' type 'Type' reads as a tree.
  An argument of the laws' type 'Term' reads as a tree.
  An argument of the laws' type '[]Type' reads as a list of trees.
-/
import Derived.Test.YtghgjpcibdfbmaaRows
import Derived.Test.YtghgjpcibdfbmaaK0
import Derived.ProofKit
import Derived.OpenShut
import Derived.ShutString
import Derived.ChangeOld
import Derived.Test.YtghgjpcibdfbmaaLaTy
import Derived.Test.YtghgjpcibdfbmaaMark
namespace Go.Proofs.Ytghgjpcibdfbmaa
open Go.RowKit Go.ChangeShapes Go.WideShapes
set_option linter.unusedVariables false
set_option linter.unusedSimpArgs false
set_option maxRecDepth 100000

theorem Addr_add_off {a : Addr} (n : Nat) (h : a.spot = none) : a.add n = ⟨a.block, a.off + n, none⟩ := by
  unfold Addr.add
  split
  · rename_i h0; subst h0; cases a; simp at h; subst h; rfl
  · rfl
theorem spot_of_cell {w : World} {a : Addr} {v : Value} (h : w.cell? a = some v) : a.spot = none := by
  unfold World.cell? at h
  split at h
  · split at h
    · cases h
    · rename_i hs; simpa using hs
  · cases h

theorem SRep.cells {F : Nat → Prop} {w : World} {b : Nat} : ∀ (r : List C) (ys : List Value) (off : Nat), SRep F w r ys → (∀ i, i < ys.length → w.cell? ⟨b, off + i, none⟩ = ys[i]?) → CellsAt F w b off r
  | [], _, _, _, _ => by unfold CellsAt; trivial
  | c :: cs, _, off, ⟨z, zs, e, h1, h2⟩, k => by
    subst e
    unfold CellsAt
    refine ⟨⟨z, by simpa using k 0 (by simp), h1⟩, SRep.cells cs zs _ h2 fun i hi => ?_⟩
    have := k (i + 1) (by simpa using hi)
    rw [show off + 1 + i = off + (i + 1) from by omega]
    simpa using this
theorem rows_list {F : Nat → Prop} {w : World} {b m : Nat} {Q : List C → Prop} : ∀ (len off : Nat), (∀ i, i < len → ∃ r, Q r ∧ r.length = m ∧ CellsAt F w b (off + i * m) r) →
    ∃ rows : List (List C), rows.length = len ∧ (∀ r ∈ rows, Q r) ∧ RowsAt F w b off rows
  | 0, _, _ => ⟨[], rfl, by simp, by unfold RowsAt; trivial⟩
  | len + 1, off, h => by
    obtain ⟨r, hq, hm, hc⟩ := h 0 (by omega)
    obtain ⟨rows, h1, h2, h3⟩ := rows_list (F := F) (w := w) (b := b) (m := m) (Q := Q) len (off + m) (fun i hi => by
      have := h (i + 1) (by omega)
      rw [show off + m + i * m = off + (i + 1) * m from by rw [Nat.add_mul]; omega]
      exact this)
    refine ⟨r :: rows, by simp [h1], fun x hx => ?_, ?_⟩
    · rcases List.mem_cons.1 hx with rfl | hx
      · exact hq
      · exact h2 x hx
    · unfold RowsAt
      rw [hm]
      exact ⟨by simpa using hc, h3⟩

section
variable {H : Type} {enc : TypeId × Value → H} {w : World} {base : Nat} {held : Bool} {spare : Nat → Bool}

theorem rows_of_trod {E T n m : Nat} (hT : Try.prog.underlying T = some (.slice E)) (hm : Try.prog.cellsOf E = m) (hm0 : 0 < m) (Q : List C → Prop)
    (IH : ∀ (cs : List Value) (x : DataW H × List MemPlace), DataW.trod enc Try.prog w base spare held n E cs = some x → ∃ r, Q r ∧ r.length = m ∧ SRep (fun _ => True) w r cs)
    (cs : List Value) (x : DataW H × List MemPlace) (h : DataW.trod enc Try.prog w base spare held (n + 1) T cs = some x) :
    ∃ rows s, cs = [s] ∧ (∀ r ∈ rows, Q r) ∧ CRep (fun _ => True) w (.sl rows) s := by
  rcases DataW.trod_slice hT h with ⟨rfl, _⟩ | ⟨a, len, cap, elems, rest, n', hn, rfl, _, _, hlc, hcm, hel, he, _⟩
  · exact ⟨[], _, rfl, by simp, by unfold CRep; exact ⟨none, 0, rfl, Nat.le_refl _, by unfold maxLen; omega, .inl rfl⟩⟩
  · obtain rfl : n = n' := by omega
    rw [hm] at he
    by_cases h0 : len = 0
    · exact ⟨[], _, rfl, by simp, by unfold CRep; exact ⟨some a, cap, by rw [h0]; rfl, Nat.zero_le _, hcm, .inl rfl⟩⟩
    · have get : ∀ i, i < len → ∃ cs', w.cells? base (a.add (i * m)) m = some cs' ∧ ∃ r, Q r ∧ r.length = m ∧ SRep (fun _ => True) w r cs' := by
        intro i hi
        have hk := he i hi
        rw [List.getElem?_eq_getElem (by omega)] at hk
        obtain ⟨cs', hc, ht⟩ := Option.bind_eq_some_iff.1 hk
        exact ⟨cs', hc, IH _ _ ht⟩
      obtain ⟨cs0, hc0, _⟩ := get 0 (by omega)
      obtain ⟨_, hl0, g0⟩ := World.cells?_some hc0
      have g00 := g0 0 hm0
      rw [Nat.zero_mul, show (a.add 0).add 0 = a from by simp [Addr.add], List.getElem?_eq_getElem (by omega)] at g00
      have hs := spot_of_cell g00
      have hb := World.block_lt_of_cell? w _ g00
      obtain ⟨rows, hr1, hr2, hr3⟩ := rows_list (F := fun _ => True) (w := w) (b := a.block) (m := m) (Q := Q) len a.off (fun i hi => by
        obtain ⟨cs', hc, r, hq, hlr, hr⟩ := get i hi
        obtain ⟨_, hl, g⟩ := World.cells?_some hc
        refine ⟨r, hq, hlr, SRep.cells r cs' _ hr fun j hj => ?_⟩
        have := g j (by omega)
        rw [Addr_add_off (i * m) hs, Addr_add_off j rfl] at this
        exact this)
      refine ⟨rows, _, rfl, hr2, ?_⟩
      unfold CRep
      refine ⟨some a, cap, by rw [hr1], by omega, hcm, .inr ⟨a.block, a.off, ?_, trivial, hb, hr3⟩⟩
      cases a; simp at hs; subst hs; rfl

theorem int_of_trod {T n : Nat} (hT : Try.prog.underlying T = some (.int .i64)) {cs : List Value} {x : DataW H × List MemPlace} (h : DataW.trod enc Try.prog w base spare held n T cs = some x) : ∃ k, cs = [.int .i64 k] := by
  obtain ⟨k, h, _⟩ := DataW.trod_int hT h
  exact ⟨k, h⟩
end

section
variable {H : Type} {enc : TypeId × Value → H} {P : Program}
/-- The row's last step where of the world behind the call 'Below' alone is known. -/
theorem below_trod {t : TypeId} (hl : laidOutB P = true) (hr : P.readableRec t = true) (hrow : t < P.types.size) {W W' : World} {v : Value} {d : DataW H} {ps : List MemPlace}
    (h : DataW.Trod enc P W 0 (fun _ => true) true t v d ps) (hb : Below W.heap.size W W') :
    DataW.Trod enc P W' 0 (fun b => decide (b < W.heap.size)) true t v d ps :=
  Below.trod hl hr hrow h hb (by obtain ⟨m, hm⟩ := h; exact DataW.trod_lt m _ _ _ hm)
end
end Go.Proofs.Ytghgjpcibdfbmaa
namespace Go.Proofs.Ytghgjpcibdfbmaa
open Go.RowKit Go.ChangeShapes Go.WideShapes
set_option linter.unusedVariables false
set_option linter.unusedSimpArgs false
set_option maxRecDepth 100000

theorem Try.cellsLTy : Try.prog.cellsOf 24 = 2 := by kernel_rfl
theorem Try.cellsInt : Try.prog.cellsOf 3 = 1 := by kernel_rfl
theorem Try.cellsLTys : Try.prog.cellsOf 22 = 1 := by kernel_rfl

theorem Ty.of_rows : ∀ rows : List (List C), (∀ r ∈ rows, ∃ t : Ty, r = t.row) → ∃ ts, rows = Ty.rows ts
  | [], _ => ⟨[], by unfold Ty.rows; rfl⟩
  | r :: rows, h => by
    obtain ⟨t, rfl⟩ := h r (List.mem_cons_self ..)
    obtain ⟨ts, rfl⟩ := Ty.of_rows rows (fun r hr => h r (List.mem_cons_of_mem _ hr))
    exact ⟨t :: ts, by conv => rhs; unfold Ty.rows⟩

section
variable {H : Type} {enc : TypeId × Value → H} {w : World} {base : Nat} {held : Bool} {spare : Nat → Bool}

theorem ty_of_trod : ∀ (n : Nat) (cs : List Value) (x : DataW H × List MemPlace), DataW.trod enc Try.prog w base spare held n 24 cs = some x →
    ∃ (t : Ty), t.row.length = 2 ∧ SRep (fun _ => True) w t.row cs := by
  intro n
  induction n using Nat.strongRecOn with
  | _ n IH =>
    intro cs x h
    obtain ⟨xs, m, rfl, _, hlen, hlx, hf⟩ := DataW.trod_struct Try.underlying24 h
    have hx2 : xs.length = 2 := hlx
    have f0 : DataW.trod enc Try.prog w base spare held m 3 ((cs.drop 0).take (Try.prog.cellsOf 3)) = xs[0]? := hf 0 _ rfl
    have f1 : DataW.trod enc Try.prog w base spare held m 22 ((cs.drop 1).take (Try.prog.cellsOf 22)) = xs[1]? := hf 1 _ rfl
    rw [Try.cellsLTy] at hlen
    match cs, hlen with
    | [c0, c1], _ =>
      rw [List.getElem?_eq_getElem (by omega)] at f0 f1
      rw [Try.cellsInt] at f0
      rw [Try.cellsLTys] at f1
      simp only [List.drop_zero, List.drop_succ_cons, List.take_succ_cons, List.take_zero] at f0 f1
      obtain ⟨k, hk⟩ := int_of_trod Try.underlying3 f0
      simp at hk
      subst hk
      cases m with
      | zero => simp [DataW.trod] at f1
      | succ m =>
        obtain ⟨rows, s, hs, hq, hr⟩ := rows_of_trod (m := 2) Try.underlying22 Try.cellsLTy (by omega) (fun r => ∃ t : Ty, r = t.row) (fun cs x h => by
          obtain ⟨t, h1, h2⟩ := IH m (by omega) cs x h
          exact ⟨t.row, ⟨t, rfl⟩, h1, h2⟩) _ _ f1
        simp at hs
        subst hs
        obtain ⟨ts, rfl⟩ := Ty.of_rows rows hq
        refine ⟨.mk k ts, Ty.row_length _, ?_⟩
        unfold Ty.row
        exact ⟨_, _, rfl, by unfold CRep; rfl, _, _, rfl, hr, rfl⟩

theorem ty_of_arg {v : Value} {d : DataW H} {ps : List MemPlace} {r : Reach} {b : Nat} (hv : Value.okWide Try.prog w r b 24 v) (h : DataW.Trod enc Try.prog w base spare held 24 v d ps) :
    ∃ t : Ty, TyRep (fun _ => True) w t v := by
  obtain ⟨cs, rfl, hsz⟩ := okWide_struct Try.underlying24 hv
  obtain ⟨fuel, hf⟩ := h
  obtain ⟨t, _, ht⟩ := ty_of_trod fuel _ _ hf
  cases t with | mk k ts =>
  unfold Ty.row at ht
  obtain ⟨z, zs, h1, h2, z', zs', rfl, h4, rfl⟩ := ht
  rw [CRep.int_eq h2] at h1
  refine ⟨.mk k ts, z', ?_, h4⟩
  obtain ⟨l⟩ := cs
  simp only [Value.cells] at h1
  rw [show l = [.int .i64 k, z'] from by simpa using h1]
  rfl
end
end Go.Proofs.Ytghgjpcibdfbmaa
namespace Go.Proofs.Ytghgjpcibdfbmaa
open Go.RowKit Go.ChangeShapes Go.WideShapes
set_option linter.unusedVariables false
set_option linter.unusedSimpArgs false
set_option maxRecDepth 100000


theorem Try.cellsLTm : Try.prog.cellsOf 27 = 9 := by kernel_rfl
theorem Try.cellsStr : Try.prog.cellsOf 9 = 1 := by kernel_rfl
theorem Try.cellsLTms : Try.prog.cellsOf 25 = 1 := by kernel_rfl

theorem Tm.of_rows : ∀ rows : List (List C), (∀ r ∈ rows, ∃ t : Tm, r = t.row) → ∃ ts, rows = Tm.rows ts
  | [], _ => ⟨[], by unfold Tm.rows; rfl⟩
  | r :: rows, h => by
    obtain ⟨t, rfl⟩ := h r (List.mem_cons_self ..)
    obtain ⟨ts, rfl⟩ := Tm.of_rows rows (fun r hr => h r (List.mem_cons_of_mem _ hr))
    exact ⟨t :: ts, by conv => rhs; unfold Tm.rows⟩

section
variable {H : Type} {enc : TypeId × Value → H} {w : World} {base : Nat} {held : Bool} {spare : Nat → Bool}

theorem ty_parts {t : Ty} {c0 c1 : Value} (h : SRep (fun _ => True) w t.row [c0, c1]) : c0 = .int .i64 t.kind ∧ CRep (fun _ => True) w (.sl (Ty.rows t.kids)) c1 := by
  cases t with | mk k ts =>
  unfold Ty.row at h
  obtain ⟨z, zs, h1, h2, z', zs', rfl, h4, rfl⟩ := h
  simp at h1
  obtain ⟨rfl, rfl⟩ := h1
  exact ⟨CRep.int_eq h2, h4⟩
theorem tm_of_trod : ∀ (n : Nat) (cs : List Value) (x : DataW H × List MemPlace), DataW.trod enc Try.prog w base spare held n 27 cs = some x →
    ∃ (t : Tm), t.row.length = 9 ∧ SRep (fun _ => True) w t.row cs := by
  intro n
  induction n using Nat.strongRecOn with
  | _ n IH =>
    intro cs x h
    obtain ⟨xs, m, rfl, _, hlen, hlx, hf⟩ := DataW.trod_struct Try.underlying27 h
    have hx2 : xs.length = 7 := hlx
    have f0 : DataW.trod enc Try.prog w base spare held m 3 ((cs.drop 0).take (Try.prog.cellsOf 3)) = xs[0]? := hf 0 _ rfl
    have f1 : DataW.trod enc Try.prog w base spare held m 9 ((cs.drop 1).take (Try.prog.cellsOf 9)) = xs[1]? := hf 1 _ rfl
    have f2 : DataW.trod enc Try.prog w base spare held m 3 ((cs.drop 2).take (Try.prog.cellsOf 3)) = xs[2]? := hf 2 _ rfl
    have f3 : DataW.trod enc Try.prog w base spare held m 24 ((cs.drop 3).take (Try.prog.cellsOf 24)) = xs[3]? := hf 3 _ rfl
    have f4 : DataW.trod enc Try.prog w base spare held m 24 ((cs.drop 5).take (Try.prog.cellsOf 24)) = xs[4]? := hf 4 _ rfl
    have f5 : DataW.trod enc Try.prog w base spare held m 3 ((cs.drop 7).take (Try.prog.cellsOf 3)) = xs[5]? := hf 5 _ rfl
    have f6 : DataW.trod enc Try.prog w base spare held m 25 ((cs.drop 8).take (Try.prog.cellsOf 25)) = xs[6]? := hf 6 _ rfl
    rw [Try.cellsLTm] at hlen
    match cs, hlen with
    | [c0, c1, c2, c3, c4, c5, c6, c7, c8], _ =>
      rw [List.getElem?_eq_getElem (by omega)] at f0 f1 f2 f3 f4 f5 f6
      rw [Try.cellsInt] at f0 f2 f5
      rw [Try.cellsStr] at f1
      rw [Try.cellsLTy] at f3 f4
      rw [Try.cellsLTms] at f6
      simp only [List.drop_zero, List.drop_succ_cons, List.take_succ_cons, List.take_zero] at f0 f1 f2 f3 f4 f5 f6
      obtain ⟨k, hk⟩ := int_of_trod Try.underlying3 f0
      obtain ⟨s, hs, -, hz⟩ := DataW.trod_string Try.underlying9 f1
      obtain ⟨u, hu⟩ := int_of_trod Try.underlying3 f2
      obtain ⟨t, -, ht⟩ := ty_of_trod m _ _ f3
      obtain ⟨f, -, hff⟩ := ty_of_trod m _ _ f4
      obtain ⟨l, hl⟩ := int_of_trod Try.underlying3 f5
      simp at hk hs hu hl
      subst hk hs hu hl
      obtain ⟨rfl, htt⟩ := ty_parts ht
      obtain ⟨rfl, hfff⟩ := ty_parts hff
      cases m with
      | zero => simp [DataW.trod] at f6
      | succ m =>
        obtain ⟨rows, s', hs, hq, hr⟩ := rows_of_trod (m := 9) Try.underlying25 Try.cellsLTm (by omega) (fun r => ∃ t : Tm, r = t.row) (fun cs x h => by
          obtain ⟨t, h1, h2⟩ := IH m (by omega) cs x h
          exact ⟨t.row, ⟨t, rfl⟩, h1, h2⟩) _ _ f6
        simp at hs
        subst hs
        obtain ⟨ts, rfl⟩ := Tm.of_rows rows hq
        refine ⟨.mk k s u t f l ts, Tm.row_length _, ?_⟩
        unfold Tm.row
        have i1 : ∀ n : Int, CRep (fun _ => True) w (.int n) (.int .i64 n) := fun n => by unfold CRep; rfl
        exact ⟨_, _, rfl, i1 _, _, _, rfl, by unfold CRep; exact ⟨rfl, hz⟩, _, _, rfl, i1 _, _, _, rfl, i1 _, _, _, rfl, htt, _, _, rfl, i1 _, _, _, rfl, hfff, _, _, rfl, i1 _, _, _, rfl, hr, rfl⟩

theorem tm_of_arg {v : Value} {d : DataW H} {ps : List MemPlace} {r : Reach} {b : Nat} (hv : Value.okWide Try.prog w r b 27 v) (h : DataW.Trod enc Try.prog w base spare held 27 v d ps) :
    ∃ t : Tm, TmRep (fun _ => True) w t v := by
  obtain ⟨cs, rfl, hsz⟩ := okWide_struct Try.underlying27 hv
  obtain ⟨fuel, hf⟩ := h
  obtain ⟨t, _, ht⟩ := tm_of_trod fuel _ _ hf
  cases t with | mk k s u t f l ts =>
  unfold Tm.row at ht
  obtain ⟨z0, zs, h1, e0, z1, zs, rfl, e1, z2, zs, rfl, e2, z3, zs, rfl, e3, z4, zs, rfl, e4, z5, zs, rfl, e5, z6, zs, rfl, e6, z7, zs, rfl, e7, z8, zs, rfl, e8, rfl⟩ := ht
  obtain ⟨rfl, hz⟩ := CRep.str_eq e1
  rw [CRep.int_eq e0, CRep.int_eq e2, CRep.int_eq e3, CRep.int_eq e5, CRep.int_eq e7] at h1
  refine ⟨.mk k s u t f l ts, z4, z6, z8, ?_, hz, e4, e6, e8⟩
  obtain ⟨xs⟩ := cs
  simp only [Value.cells] at h1
  rw [show xs = [.int .i64 k, .string s, .int .i64 u, .int .i64 t.kind, z4, .int .i64 f.kind, z6, .int .i64 l, z8] from by simpa using h1]
  rfl
end
end Go.Proofs.Ytghgjpcibdfbmaa
namespace Go.Proofs.Ytghgjpcibdfbmaa
open Go.RowKit Go.ChangeShapes Go.WideShapes
set_option linter.unusedVariables false
set_option linter.unusedSimpArgs false
set_option maxRecDepth 100000

theorem szTypeS_any (F : Nat → Prop) (ts : List Ty) (y : Value) (l : Int) (w : World) (hy : TysRep F w ts y) (h0 : 0 ≤ l) (h1 : l ≤ 1048576) :
    Calls Try.prog 50 #[y, .int .i64 l] w fun e w' => e = .returned (.int .i64 (szr l (Ty.scnt ts))) ∧ Below w.heap.size w w' :=
  szTypeS_of F ts y l w hy h0 h1 (fun t _ y l W h a b => szType_any F t y l W h a b)
theorem toTypeS_any (F : Nat → Prop) (ts : List Ty) (y : Value) (w : World) (hy : TysRep F w ts y) (hn : Ty.scnt ts ≤ 1048576) :
    Calls Try.prog 52 #[y] w (RetTys ts w) :=
  toTypeS_of F ts y w hy (by unfold Ty.scnt at hn; omega) (fun t ht y W h => toType_any F t y W h (by have := Ty.cnt_mem ht; unfold Ty.scnt at hn; omega))
theorem TysRep.old {F : Nat → Prop} {w : World} {t : List Ty} {y : Value} (r : TysRep F w t y) : TysRep (· < w.heap.size) w t y := r.move (.weaken fun _ _ h => h)
theorem tys_of_arg {H : Type} {enc : TypeId × Value → H} {w : World} {base : Nat} {held : Bool} {spare : Nat → Bool} {v : Value} {d : DataW H} {ps : List MemPlace} {r : Reach} {b : Nat} (hv : Value.okWide Try.prog w r b 22 v) (h : DataW.Trod enc Try.prog w base spare held 22 v d ps) :
    ∃ l : List Ty, TysRep (fun _ => True) w l v := by
  obtain ⟨a, m, c, rfl⟩ := okWide_slice Try.underlying22 hv
  obtain ⟨fuel, hf⟩ := h
  cases fuel with
  | zero => simp [DataW.trod] at hf
  | succ n =>
    obtain ⟨rows, s, hs, hq, hr⟩ := rows_of_trod (m := 2) Try.underlying22 Try.cellsLTy (by omega) (fun r => ∃ t : Ty, r = t.row) (fun cs x h => by
      obtain ⟨t, h1, h2⟩ := ty_of_trod n cs x h
      exact ⟨t.row, ⟨t, rfl⟩, h1, h2⟩) _ _ hf
    obtain ⟨ts, rfl⟩ := Ty.of_rows rows hq
    have hvs : Value.slice a m c = s := by simpa [Value.cells] using hs
    rw [hvs]
    exact ⟨ts, hr⟩
end Go.Proofs.Ytghgjpcibdfbmaa
