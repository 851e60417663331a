/-
  Arguments read as data: slices of rows.
-/
import Derived.Test.YtikkneahhgmdjaaRows
import Derived.Test.YtikkneahhgmdjaaBase
import Derived.ProofKit
import Derived.OpenShut
import Derived.ShutString
import Derived.ChangeOld
namespace Go.Proofs.Ytikkneahhgmdjaa
open Go.RowKit Go.ChangeShapes Go.WideShapes
set_option linter.unusedVariables false
set_option linter.unusedSimpArgs false
set_option maxRecDepth 100000

theorem Addr_add_off {a : Addr} (n : Nat) (h : a.spot = none) : a.add n = ⟨a.block, a.off + n, none⟩ := by
  unfold Addr.add
  split
  · rename_i h0; subst h0; cases a; simp at h; subst h; rfl
  · rfl
theorem spot_of_cell {w : World} {a : Addr} {v : Value} (h : w.cell? a = some v) : a.spot = none := by
  unfold World.cell? at h
  split at h
  · split at h
    · cases h
    · rename_i hs; simpa using hs
  · cases h

theorem SRep.cells {F : Nat → Prop} {w : World} {b : Nat} : ∀ (r : List C) (ys : List Value) (off : Nat), SRep F w r ys → (∀ i, i < ys.length → w.cell? ⟨b, off + i, none⟩ = ys[i]?) → CellsAt F w b off r
  | [], _, _, _, _ => by unfold CellsAt; trivial
  | c :: cs, _, off, ⟨z, zs, e, h1, h2⟩, k => by
    subst e
    unfold CellsAt
    refine ⟨⟨z, by simpa using k 0 (by simp), h1⟩, SRep.cells cs zs _ h2 fun i hi => ?_⟩
    have := k (i + 1) (by simpa using hi)
    rw [show off + 1 + i = off + (i + 1) from by omega]
    simpa using this
theorem rows_list {F : Nat → Prop} {w : World} {b m : Nat} {Q : List C → Prop} : ∀ (len off : Nat), (∀ i, i < len → ∃ r, Q r ∧ r.length = m ∧ CellsAt F w b (off + i * m) r) →
    ∃ rows : List (List C), rows.length = len ∧ (∀ r ∈ rows, Q r) ∧ RowsAt F w b off rows
  | 0, _, _ => ⟨[], rfl, by simp, by unfold RowsAt; trivial⟩
  | len + 1, off, h => by
    obtain ⟨r, hq, hm, hc⟩ := h 0 (by omega)
    obtain ⟨rows, h1, h2, h3⟩ := rows_list (F := F) (w := w) (b := b) (m := m) (Q := Q) len (off + m) (fun i hi => by
      have := h (i + 1) (by omega)
      rw [show off + m + i * m = off + (i + 1) * m from by rw [Nat.add_mul]; omega]
      exact this)
    refine ⟨r :: rows, by simp [h1], fun x hx => ?_, ?_⟩
    · rcases List.mem_cons.1 hx with rfl | hx
      · exact hq
      · exact h2 x hx
    · unfold RowsAt
      rw [hm]
      exact ⟨by simpa using hc, h3⟩

section
variable {H : Type} {enc : TypeId × Value → H} {w : World} {base : Nat} {held : Bool} {spare : Nat → Bool}

theorem rows_of_trod {E T n m : Nat} (hT : Try.prog.underlying T = some (.slice E)) (hm : Try.prog.cellsOf E = m) (hm0 : 0 < m) (Q : List C → Prop)
    (IH : ∀ (cs : List Value) (x : DataW H × List MemPlace), DataW.trod enc Try.prog w base spare held n E cs = some x → ∃ r, Q r ∧ r.length = m ∧ SRep (fun _ => True) w r cs)
    (cs : List Value) (x : DataW H × List MemPlace) (h : DataW.trod enc Try.prog w base spare held (n + 1) T cs = some x) :
    ∃ rows s, cs = [s] ∧ (∀ r ∈ rows, Q r) ∧ CRep (fun _ => True) w (.sl rows) s := by
  rcases DataW.trod_slice hT h with ⟨rfl, _⟩ | ⟨a, len, cap, elems, rest, n', hn, rfl, _, _, hlc, hcm, hel, he, _⟩
  · exact ⟨[], _, rfl, by simp, by unfold CRep; exact ⟨none, 0, rfl, Nat.le_refl _, by unfold maxLen; omega, .inl rfl⟩⟩
  · obtain rfl : n = n' := by omega
    rw [hm] at he
    by_cases h0 : len = 0
    · exact ⟨[], _, rfl, by simp, by unfold CRep; exact ⟨some a, cap, by rw [h0]; rfl, Nat.zero_le _, hcm, .inl rfl⟩⟩
    · have get : ∀ i, i < len → ∃ cs', w.cells? base (a.add (i * m)) m = some cs' ∧ ∃ r, Q r ∧ r.length = m ∧ SRep (fun _ => True) w r cs' := by
        intro i hi
        have hk := he i hi
        rw [List.getElem?_eq_getElem (by omega)] at hk
        obtain ⟨cs', hc, ht⟩ := Option.bind_eq_some_iff.1 hk
        exact ⟨cs', hc, IH _ _ ht⟩
      obtain ⟨cs0, hc0, _⟩ := get 0 (by omega)
      obtain ⟨_, hl0, g0⟩ := World.cells?_some hc0
      have g00 := g0 0 hm0
      rw [Nat.zero_mul, show (a.add 0).add 0 = a from by simp [Addr.add], List.getElem?_eq_getElem (by omega)] at g00
      have hs := spot_of_cell g00
      have hb := World.block_lt_of_cell? w _ g00
      obtain ⟨rows, hr1, hr2, hr3⟩ := rows_list (F := fun _ => True) (w := w) (b := a.block) (m := m) (Q := Q) len a.off (fun i hi => by
        obtain ⟨cs', hc, r, hq, hlr, hr⟩ := get i hi
        obtain ⟨_, hl, g⟩ := World.cells?_some hc
        refine ⟨r, hq, hlr, SRep.cells r cs' _ hr fun j hj => ?_⟩
        have := g j (by omega)
        rw [Addr_add_off (i * m) hs, Addr_add_off j rfl] at this
        exact this)
      refine ⟨rows, _, rfl, hr2, ?_⟩
      unfold CRep
      refine ⟨some a, cap, by rw [hr1], by omega, hcm, .inr ⟨a.block, a.off, ?_, trivial, hb, hr3⟩⟩
      cases a; simp at hs; subst hs; rfl

theorem int_of_trod {T n : Nat} (hT : Try.prog.underlying T = some (.int .i64)) {cs : List Value} {x : DataW H × List MemPlace} (h : DataW.trod enc Try.prog w base spare held n T cs = some x) : ∃ k, cs = [.int .i64 k] := by
  obtain ⟨k, h, _⟩ := DataW.trod_int hT h
  exact ⟨k, h⟩
end

section
variable {H : Type} {enc : TypeId × Value → H} {P : Program}
/-- The row's last step where of the world behind the call 'Below' alone is known. -/
theorem below_trod {t : TypeId} (hl : laidOutB P = true) (hr : P.readableRec t = true) (hrow : t < P.types.size) {W W' : World} {v : Value} {d : DataW H} {ps : List MemPlace}
    (h : DataW.Trod enc P W 0 (fun _ => true) true t v d ps) (hb : Below W.heap.size W W') :
    DataW.Trod enc P W' 0 (fun b => decide (b < W.heap.size)) true t v d ps :=
  Below.trod hl hr hrow h hb (by obtain ⟨m, hm⟩ := h; exact DataW.trod_lt m _ _ _ hm)
end
end Go.Proofs.Ytikkneahhgmdjaa
