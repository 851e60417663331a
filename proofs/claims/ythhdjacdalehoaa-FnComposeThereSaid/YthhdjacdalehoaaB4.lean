/-
  Draws out of lists, and slices that grow while numbers are drawn.
  Walks beside a source of numbers: what is known of a cell, a tree, the memory behind a draw.
-/
import Derived.Test.YthhdjacdalehoaaRd
import Derived.Test.YthhdjacdalehoaaB3
import Derived.Test.YthhdjacdalehoaaTyCopyB
namespace Go.Proofs.Ythhdjacdalehoaa
open Go.RowKit
set_option linter.unusedVariables false
set_option linter.unusedSimpArgs false
set_option maxRecDepth 100000

theorem Chg.grown {r : Nat} {w w' : World} (h : Chg [r] w w') : w.grownBy w' (some r) := ⟨h.os, h.tape, h.output, h.size, fun k hk hn => h.block k hk (fun hm => hn (by simpa using hm))⟩
theorem ownsRow_chg {r B : Nat} {e : TypeId} {size n : Nat} {w w' : World} {v : Value} {xs : List Value} (h : w.ownsRow B e size v n xs) (k : Chg [r] w w') (hr : r < B) : w'.ownsRow B e size v n xs :=
  h.kept (row := some r) k.grown (by
    cases hv : v.ownBlock with
    | none => exact .inl rfl
    | some g => exact .inr (fun e => by have := (h.lt g hv).1; simp at e; omega))
theorem grown_farC {r B : Nat} {e : TypeId} {size n : Nat} {wr W w2 : World} {v : Value} {xs : List Value} (hb : Chg [r] wr W) (ho : wr.ownsRow B e size v n xs) (hg : W.grownBy w2 v.ownBlock) (b : Nat) (hl : b < wr.heap.size) (hB : b < B) (hn : b ≠ r) : w2.heap[b]? = wr.heap[b]? :=
  (hg.block b (Nat.lt_of_lt_of_le hl hb.size) (fun e => by have := (ho.lt b e.symm).1; omega)).trans (hb.block b hl (by simpa using hn))
theorem grown_chg {r B : Nat} {e : TypeId} {size n : Nat} {w0 wr W w2 : World} {v : Value} {xs : List Value} (h0 : Chg [r] w0 wr) (hb : Chg [r] wr W) (ho : wr.ownsRow B e size v n xs) (hB : w0.heap.size ≤ B) (hg : W.grownBy w2 v.ownBlock) : Chg [r] w0 w2 := by
  have h := h0.trans hb
  exact ⟨hg.os.trans h.os, hg.tape.trans h.tape, hg.output.trans h.output, Nat.le_trans h.size hg.size, fun k hk hn => (hg.block k (Nat.lt_of_lt_of_le hk h.size) (fun e => by have := (ho.lt k e.symm).1; omega)).trans (h.block k hk hn)⟩
theorem AccNew.pushC {r B g cap : Nat} {e : TypeId} {size n : Nat} {wr W0 W w2 : World} {v : Value} {xs ys : List Value} {fps f : List Nat} {rows : List (List C)} {rw' : List C} (hl : rows.length = n) (ho : wr.ownsRow B e size v n xs) (hs : SRows wr rows xs fps) (hd : fps.Nodup)
    (hfp : ∀ x ∈ fps, B ≤ x ∧ v.ownBlock ≠ some x) (hB : B ≤ wr.heap.size) (hrB : r < B) (hb : Chg [r] wr W) (h0 : wr.heap.size ≤ W0.heap.size) (hr : SOwn W rw' ys f) (hdf : f.Nodup) (hxf : ∀ x ∈ f, W0.heap.size ≤ x)
    (hown : w2.ownsRow B e size (.slice (some ⟨g, 0, none⟩) (n + 1) cap) (n + 1) (xs ++ ys)) (hgrow : W.grownBy w2 v.ownBlock) (hat : v.ownBlock = some g ∨ g = W.heap.size) : AccNew B e size w2 (.slice (some ⟨g, 0, none⟩) (n + 1) cap) (n + 1) (rows ++ [rw']) := by
  have hlt : ∀ x ∈ fps, x < wr.heap.size := fun x hx => SRows.lt _ _ _ hs x hx
  refine AccNew.append (w := W) hl (hs.move _ _ _ fun b hx => hb.block b (hlt b hx) (by have := (hfp b hx).1; simp; omega)) hd hfp hr hdf (fun x hx => ?_) hown hgrow hat rfl
  have h1 := hxf x hx
  refine ⟨by omega, fun e => by have := (ho.lt x e).2; omega, fun e => by have := hlt x e; omega⟩
/-- The source of numbers behind an append to a row of one's own that lies above it. -/
theorem RdAt.grown {B r p : Nat} {e : TypeId} {size n : Nat} {wr W w2 : World} {v : Value} {xs : List Value} (h : RdAt W r p) (ho : wr.ownsRow B e size v n xs) (hr : r < B) (hg : W.grownBy w2 v.ownBlock) : RdAt w2 r p :=
  h.keep hg.size (fun b hb => hg.block b (Nat.lt_of_le_of_lt hb h.1) (fun e => by have := (ho.lt b e.symm).1; omega))

/-- A list of numbers of a kind, in a block of its own. -/
def NumPost (r p : Nat) (Q : Int → Prop) (w : World) (e : Ending) (w' : World) : Prop := ∃ k : Int, e = .returned (.int .i64 k) ∧ Q k ∧ RdAt w' r (p + 1) ∧ Chg [r] w w'

set_option maxHeartbeats 1000000 in
theorem specNum (Q : Int → Prop) (r p b n cap : Nat) (w : World) (h : RdAt w r p) (hp : p ≤ 1125899906842623) (hn0 : 0 < n) (hn : n ≤ 1048576) (hcap : n ≤ cap) (hbr : r < b)
    (hc : ∀ i, i < n → ∃ x, w.cell? ⟨b, i, none⟩ = some (.int .i64 x) ∧ Q x) :
    Calls Try.prog 70 #[.pointer (some ⟨r, 0, none⟩), .slice (some ⟨b, 0, none⟩) n cap] w (NumPost r p Q w) := by
  have H := Lib.hid (specPick r p (n : Int) w h (by omega) (by omega))
  have HC := Lib.hid hc
  clear hc
  go_enter Try.func70, Try.ntmps70
  go_wp2_with fail
  refine H.out.mono ?_
  rintro e w1 ⟨k, rfl, k0, hk, hrd, hch⟩
  obtain ⟨q, rfl⟩ := Int.eq_ofNat_of_zero_le k0
  have hqn : q < n := by omega
  obtain ⟨x, hx, hq⟩ := HC.out q hqn
  have hx1 := hch.cellne (by show b ≠ r; omega) hx
  have hqi : (0 : Int) ≤ (q : Int) := by omega
  have hqj : (q : Int) < (n : Int) := by omega
  clear hk k0 hx
  go_wp2_with fail
  go_ret
  exact ⟨x, rfl, hq, hrd, hch⟩

end Go.Proofs.Ythhdjacdalehoaa
namespace Go.Proofs.Ythhdjacdalehoaa
open Go.RowKit
set_option linter.unusedVariables false
set_option linter.unusedSimpArgs false
set_option maxRecDepth 100000

theorem TyRep.ne {B r : Nat} {w : World} {t : Ty} {y : Value} (h : TyRep (B ≤ ·) w t y) (hr : r < B) : TyRep (· ≠ r) w t y := h.move (.weaken fun b hb _ => by omega)
theorem TyRep.setCell {B : Nat} {w : World} {t : Ty} {y : Value} (h : TyRep (B ≤ ·) w t y) {p : Addr} (hp : p.block < B) (v : Value) : TyRep (B ≤ ·) (w.setCell p v) t y :=
  h.move ⟨by simp [World.setCell], fun _ h _ => h, fun b hb _ => Below.heap_setCell w p v b (by omega)⟩
theorem TyRep.lower {B B' : Nat} {w : World} {t : Ty} {y : Value} (h : TyRep (B ≤ ·) w t y) (hB : B' ≤ B) : TyRep (B' ≤ ·) w t y := h.move (.weaken fun b hb _ => Nat.le_trans hB hb)
theorem ByRep.below {w w' : World} {r : Nat} {v : Value} (h : ByRep w r v) (k : Below w.heap.size w w') : ByRep w' r v := h.keep k.size fun b hb _ => k.block b hb
theorem ByRep.up {w : World} {r r' : Nat} {v : Value} (h : ByRep w r v) (hr : r ≤ r') : ByRep w r' v := by
  obtain ⟨a, n, cap, h1, h2, h3, h4⟩ := h
  refine ⟨a, n, cap, h1, h2, h3, fun i hi => ?_⟩
  obtain ⟨b, off, c, e, hb, hr⟩ := h4 i hi
  exact ⟨b, off, c, e, by omega, hr⟩
theorem ByRep.shape {w : World} {r : Nat} {v : Value} (h : ByRep w r v) : ∃ a n cap, v = .slice a n cap := let ⟨a, n, cap, h1, _⟩ := h; ⟨a, n, cap, h1⟩

/-- A type has been drawn, of memory of its own. -/
def DrawT (r p c m : Nat) (w : World) (e : Ending) (w' : World) : Prop := ∃ (t : Ty) (v : Value) (q : Nat), e = .returned v ∧ t.cnt + 2 ≤ m ∧ TyNew w.heap.size w' t v ∧ q ≤ p + c ∧ RdAt w' r q ∧ Chg [r] w w'
theorem DrawT.mono {r p c c' m m' : Nat} {w w' : World} {e : Ending} (h : DrawT r p c m w e w') (hc : c ≤ c') (hm : m ≤ m') : DrawT r p c' m' w e w' :=
  let ⟨s, v, q, h1, h2, h3, h4, h5, h6⟩ := h; ⟨s, v, q, h1, by omega, h3, by omega, h5, h6⟩
/-- A type has been drawn, or read off one that was there. -/
def DT (r p m : Nat) (w : World) (e : Ending) (w' : World) : Prop := ∃ (t : Ty) (v : Value) (q : Nat), e = .returned v ∧ t.cnt ≤ m ∧ TyRep (w.heap.size ≤ ·) w' t v ∧ q ≤ p + 200 ∧ RdAt w' r q ∧ Chg [r] w w'
theorem DrawT.dt {r p c m m' : Nat} {w w' : World} {e : Ending} (h : DrawT r p c m w e w') (hc : c ≤ 200) (hm : m ≤ m' + 2) : DT r p m' w e w' :=
  let ⟨s, v, q, h1, h2, h3, h4, h5, h6⟩ := h; ⟨s, v, q, h1, by omega, h3.rep, by omega, h5, h6⟩
def DR2 (w : World) (e : Ending) (w' : World) : Prop := ∃ (t u : Ty) (v x : Value), e = .returned (.tuple #[v, x]) ∧ TyRep (w.heap.size ≤ ·) w' t v ∧ TyRep (w.heap.size ≤ ·) w' u x ∧ Below w.heap.size w w'
def OpenPost (w : World) (e : Ending) (w' : World) : Prop := ∃ rb, e = .returned (.pointer (some ⟨rb, 0, none⟩)) ∧ w.heap.size ≤ rb ∧ RdAt w' rb 0 ∧ Below w.heap.size w w'
theorem ints_cell {X : World} {B : Nat} (xs : List Int) {T : TypeId} (hB : X.heap.size = B) (Q : Int → Prop) (hQ : ∀ x ∈ xs, Q x) (i : Nat) (hi : i < xs.length) :
    ∃ x, (X.alloc (.cells (xs.map (Value.int .i64)).toArray T)).cell? ⟨B, i, none⟩ = some (.int .i64 x) ∧ Q x := by
  refine ⟨xs[i], ?_, hQ _ (List.getElem_mem hi)⟩
  rw [cell_new hB]
  simp [hi]
theorem Ty.cnts_append : ∀ (ts us : List Ty), Ty.cnts (ts ++ us) = Ty.cnts ts + Ty.cnts us
  | [], us => by simp [Ty.cnts]
  | t :: ts, us => by simp [Ty.cnts, Ty.cnts_append ts us]; omega
end Go.Proofs.Ythhdjacdalehoaa
