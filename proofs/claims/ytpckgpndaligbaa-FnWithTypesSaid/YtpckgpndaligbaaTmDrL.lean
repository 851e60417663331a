/-
  Drawn terms: what is laid together.
-/
import Derived.Test.YtpckgpndaligbaaTmDr
import Derived.Test.YtpckgpndaligbaaB14
import Derived.Test.YtpckgpndaligbaaB14
namespace Go.Proofs.Ytpckgpndaligbaa
open Go.RowKit
set_option linter.unusedVariables false
set_option linter.unusedSimpArgs false
set_option maxRecDepth 100000

theorem Try.infoTm2 : (Try.prog.info? 28).map (fun i => (i.zero, i.size, i.bytes)) = some (some (.agg #[.int .i64 0, .string ByteArray.empty, .int .i64 0, .int .i64 0, .slice none 0 0, .int .i64 0, .slice none 0 0, .int .i64 0, .slice none 0 0]), 9, 128) := by kernel_rfl
theorem insL_len (x : UInt8) : ∀ l : List UInt8, (insL x l).length ≤ l.length + 1
  | [] => by simp [insL]
  | y :: l => by
    unfold insL
    have := insL_len x l
    split
    · simp; omega
    · split
      · simp
      · simp
theorem strs_cell {X : World} {B : Nat} (xs : List ByteArray) {T : TypeId} (hB : X.heap.size = B) (Q : ByteArray → Prop) (hQ : ∀ x ∈ xs, Q x) (i : Nat) (hi : i < xs.length) :
    ∃ x, (X.alloc (.cells (xs.map Value.string).toArray T)).cell? ⟨B, i, none⟩ = some (.string x) ∧ Q x := by
  refine ⟨xs[i], ?_, hQ _ (List.getElem_mem hi)⟩
  rw [cell_new hB]
  simp [hi]
theorem Tm.cnts_append : ∀ (a b : List Tm), Tm.cnts (a ++ b) = Tm.cnts a + Tm.cnts b
  | [], b => by simp [Tm.cnts]
  | t :: a, b => by
    have := Tm.cnts_append a b
    simp only [List.cons_append, Tm.cnts]
    omega
theorem TmRep.srep {F : Nat → Prop} {w : World} {t : Tm} {k u tk fk l : Int} {nm : ByteArray} {s1 s2 s : Value} (h : TmRep F w t (.agg #[.int .i64 k, .string nm, .int .i64 u, .int .i64 tk, s1, .int .i64 fk, s2, .int .i64 l, s])) :
    SRep F w t.row [.int .i64 k, .string nm, .int .i64 u, .int .i64 tk, s1, .int .i64 fk, s2, .int .i64 l, s] := by
  obtain ⟨z1, z2, z, he, hn, h1, h2, h3⟩ := h
  simp only [Value.agg.injEq, Array.mk.injEq, List.cons.injEq, Value.int.injEq, Value.string.injEq, true_and, and_true] at he
  obtain ⟨rfl, rfl, rfl, rfl, rfl, rfl, rfl, rfl, rfl⟩ := he
  cases t with | mk k nm u t f l ts =>
  have ci : ∀ n : Int, CRep F w (.int n) (.int .i64 n) := fun n => by unfold CRep; rfl
  unfold Tm.row
  exact ⟨_, _, rfl, ci _, _, _, rfl, by unfold CRep; exact ⟨rfl, hn⟩, _, _, rfl, ci _, _, _, rfl, ci _, _, _, rfl, h1, _, _, rfl, ci _, _, _, rfl, h2, _, _, rfl, ci _, _, _, rfl, h3, rfl⟩
theorem TmRep.mk {F : Nat → Prop} {w : World} {k u l tk fk : Int} {nm : ByteArray} {t f : Ty} {ts : List Tm} {s1 s2 s : Value} (hn : nm.size ≤ maxLen) (h1 : TyRep F w t (.agg #[.int .i64 tk, s1])) (h2 : TyRep F w f (.agg #[.int .i64 fk, s2])) (h3 : TmsRep F w ts s) :
    TmRep F w (.mk k nm u t f l ts) (.agg #[.int .i64 k, .string nm, .int .i64 u, .int .i64 tk, s1, .int .i64 fk, s2, .int .i64 l, s]) := by
  obtain ⟨z1, he1, h1⟩ := h1
  obtain ⟨z2, he2, h2⟩ := h2
  simp only [Value.agg.injEq, Array.mk.injEq, List.cons.injEq, Value.int.injEq, true_and, and_true] at he1 he2
  obtain ⟨rfl, rfl⟩ := he1
  obtain ⟨rfl, rfl⟩ := he2
  exact ⟨_, _, _, rfl, hn, h1, h2, h3⟩
theorem TyRep.setB {B : Nat} {w : World} {t : Ty} {y : Value} (h : TyRep (B ≤ ·) w t y) {p : Addr} (hp : p.block < B) (v : Value) : TyRep (B ≤ ·) (w.setCell p v) t y :=
  h.move ⟨by simp [World.setCell], fun _ h _ => h, fun b hb _ => Below.heap_setCell w p v b (by omega)⟩
end Go.Proofs.Ytpckgpndaligbaa
