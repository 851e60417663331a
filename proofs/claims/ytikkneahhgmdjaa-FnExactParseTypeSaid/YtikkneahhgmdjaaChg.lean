/-
  Worlds that differ in few blocks.
-/
import Derived.Test.YtikkneahhgmdjaaTy
namespace Go.Proofs.Ytikkneahhgmdjaa
open Go.RowKit
set_option linter.unusedVariables false
set_option linter.unusedSimpArgs false

/-- Only the blocks of a list, and what is new, have turned. -/
structure Chg (fp : List Nat) (w w' : World) : Prop where
  os : w'.os = w.os
  tape : w'.tape = w.tape
  output : w'.output = w.output
  size : w.heap.size ≤ w'.heap.size
  block : ∀ k, k < w.heap.size → k ∉ fp → w'.heap[k]? = w.heap[k]?
theorem Chg.of_below {fp : List Nat} {w w' : World} (h : Below w.heap.size w w') : Chg fp w w' := ⟨h.os, h.tape, h.output, h.size, fun k hk _ => h.block k hk⟩
theorem Chg.refl (fp : List Nat) (w : World) : Chg fp w w := .of_below (Below.refl _ _)
theorem Chg.trans {fp : List Nat} {w w1 w2 : World} (h : Chg fp w w1) (k : Chg fp w1 w2) : Chg fp w w2 :=
  ⟨k.os.trans h.os, k.tape.trans h.tape, k.output.trans h.output, Nat.le_trans h.size k.size, fun b hb hn => (k.block b (Nat.lt_of_lt_of_le hb h.size) hn).trans (h.block b hb hn)⟩
theorem Chg.mono {fp fp' : List Nat} {w w' : World} (h : Chg fp w w') (hs : ∀ x ∈ fp, x ∈ fp') : Chg fp' w w' :=
  ⟨h.os, h.tape, h.output, h.size, fun b hb hn => h.block b hb (fun hx => hn (hs b hx))⟩
theorem Chg.setCell {fp : List Nat} {w w' : World} (h : Chg fp w w') {p : Addr} (hp : p.block ∈ fp) (v : Value) : Chg fp w (w'.setCell p v) :=
  ⟨h.os, h.tape, h.output, by simpa [World.setCell] using h.size, fun b hb hn => (Below.heap_setCell w' p v b (fun e => hn (e ▸ hp))).trans (h.block b hb hn)⟩
theorem Chg.below {fp : List Nat} {w w' : World} {B : Nat} (h : Chg fp w w') (hB : ∀ x ∈ fp, B ≤ x) (hs : B ≤ w.heap.size) : Below B w w' :=
  ⟨h.os, h.tape, h.output, h.size, fun k hk => h.block k (by omega) (fun hx => by have := hB k hx; omega)⟩
theorem Chg.cell {fp : List Nat} {w w' : World} {a : Addr} {v : Value} (h : Chg fp w w') (hn : a.block ∉ fp) (hc : w.cell? a = some v) : w'.cell? a = some v :=
  (World.cell?_of_block (h.block a.block (World.block_lt_of_cell? _ _ hc) hn)).trans hc
theorem Chg.keeps {fp : List Nat} {w w' : World} {F : Nat → Prop} (h : Chg fp w w') (hn : ∀ b, F b → b ∉ fp) : Keeps F F w w' :=
  ⟨h.size, fun _ h _ => h, fun b hF hl => h.block b hl (hn b hF)⟩
theorem TyRep.chg {fp : List Nat} {w w' : World} {F : Nat → Prop} {t : Ty} {y : Value} (h : Chg fp w w') (hn : ∀ b, F b → b ∉ fp) (r : TyRep F w t y) : TyRep F w' t y := r.move (h.keeps hn)
theorem Chg.cellne {r : Nat} {w w' : World} {a : Addr} {v : Value} (h : Chg [r] w w') (hn : a.block ≠ r) (hc : w.cell? a = some v) : w'.cell? a = some v := h.cell (by simpa using hn) hc
theorem Chg.frone {r b o : Nat} {w w' : World} (h : Chg [r] w w') (hn : b ≠ r) (hl : b < w.heap.size) : w'.frozen? ⟨b, o, none⟩ = w.frozen? ⟨b, o, none⟩ := World.frozen?_of_block (a := ⟨b, o, none⟩) (h.block b hl (by simpa using hn))
theorem ccell {r b o : Nat} {w w1 : World} {v : Value} (h : Chg [r] w w1) (hn : b ≠ r) (hc : w.cell? ⟨b, o, none⟩ = some v) : w1.cell? ⟨b, o, none⟩ = some v := h.cellne hn hc
theorem cfroc {r b o : Nat} {w w1 : World} {v : Value} (h : Chg [r] w w1) (hn : b ≠ r) (hc : w.cell? ⟨b, o, none⟩ = some v) (hf : w.frozen? ⟨b, o, none⟩ = false) : w1.frozen? ⟨b, o, none⟩ = false :=
  (h.frone hn (World.block_lt_of_cell? _ _ hc)).trans hf
theorem bchg {B r : Nat} {w w1 w2 : World} (h : Below B w w1) (k : Chg [r] w1 w2) (hr : B ≤ r) (hw : B ≤ w.heap.size) : Below B w w2 :=
  ⟨k.os.trans h.os, k.tape.trans h.tape, k.output.trans h.output, Nat.le_trans h.size k.size, fun b hb => (k.block b (Nat.lt_of_lt_of_le (Nat.lt_of_lt_of_le hb hw) h.size) (by simp; omega)).trans (h.block b hb)⟩
theorem Chg.trans' {r : Nat} {w w' : World} (h : Chg [r] w w') {p : Addr} (hp : w.heap.size ≤ p.block) (v : Value) : Chg [r] w (w'.setCell p v) :=
  ⟨h.os, h.tape, h.output, by simpa [World.setCell] using h.size, fun b hb hn => (Below.heap_setCell w' p v b (by omega)).trans (h.block b hb hn)⟩
theorem TyRep.chgB {B r : Nat} {w w' : World} {t : Ty} {y : Value} (h : TyRep (B ≤ ·) w t y) (k : Chg [r] w w') (hr : r < B) : TyRep (B ≤ ·) w' t y :=
  TyRep.chg k (fun b hb => by simp; omega) h
theorem TyRep.chgA {r : Nat} {w w' : World} {t : Ty} {y : Value} (h : TyRep (· ≠ r) w t y) (k : Chg [r] w w') : TyRep (· ≠ r) w' t y := TyRep.chg k (fun b hb => by simpa using hb) h
theorem TysRep.chgA {r : Nat} {w w' : World} {t : List Ty} {y : Value} (h : TysRep (· ≠ r) w t y) (k : Chg [r] w w') : TysRep (· ≠ r) w' t y := h.move (k.keeps (fun b hb => by simpa using hb))
end Go.Proofs.Ytikkneahhgmdjaa
