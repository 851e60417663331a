/-
  A slice that grows by append, row by row, in memory of one's own.
  Small laws for walks that a program prints: what is known of a cell behind an alloc, a draw, a store, a call.
  TermSame of the program and of the reference: equality of trees.
-/
import Derived.Test.YtkhmkohgnikcmaaB2
import Derived.Deep.RegionHeld3
import Derived.Test.YtkhmkohgnikcmaaB1
import Derived.Deep.AppendLies
import Derived.Deep.RegionLaw
import Derived.Test.YtkhmkohgnikcmaaRows
import Derived.Test.YtkhmkohgnikcmaaB0
namespace Go.Proofs.Ytkhmkohgnikcmaa
open Go.RowKit
set_option linter.unusedVariables false
set_option linter.unusedSimpArgs false
set_option maxRecDepth 100000

set_option maxHeartbeats 1000000 in
theorem specTypeSame (F G : Nat → Prop) (t : Ty) : ∀ (u : Ty) (y z : Value) (w : World), TyRep F w t y → TyRep G w u z →
    Calls Try.prog 51 #[y, z] w fun e w' => e = .returned (.bool (t.same u)) ∧ Below w.heap.size w w' := by
  intro u y z w hy hz
  have IH : ∀ t' ∈ t.kids, ∀ u' ∈ u.kids, ∀ (W : World) (y z : Value), TyRep F W t' y → TyRep G W u' z → Calls Try.prog 51 #[y, z] W fun e W' => e = .returned (.bool (t'.same u')) ∧ Below W.heap.size W W' :=
    fun t' ht u' _ W y z a b => specTypeSame F G t' u' y z W a b
  obtain ⟨a, cap, rfl, h2, h3, hy'⟩ := hy.open
  obtain ⟨c, cap', rfl, g2, g3, hz'⟩ := hz.open
  obtain ⟨_, _, e1, _, _, h4⟩ := hy'.open
  obtain ⟨_, _, e2, _, _, g4⟩ := hz'.open
  simp only [Value.slice.injEq, true_and] at e1 e2
  obtain ⟨rfl, rfl⟩ := e1
  obtain ⟨rfl, rfl⟩ := e2
  have H4 := Lib.hid h4
  have G4 := Lib.hid g4
  clear hy hz hy' hz' h4 g4
  have IHH := Lib.hid IH
  clear IH
  cases t with | mk k ts => cases u with | mk l us =>
  simp only [Ty.kind, Ty.kids] at *
  unfold maxLen at h3 g3
  unfold Ty.same
  rw [← Ty.sames_all2]
  by_cases hk : k = l
  · subst hk
    by_cases hl : ts.length = us.length
    · obtain ⟨n, hn⟩ : ∃ n, ts.length = n := ⟨_, rfl⟩
      rw [hn] at hl h2
      rw [← hl] at g2
      have HN := Lib.hid hn
      have HL := Lib.hid hl
      rw [hn, ← hl]
      clear hn hl
      go_enter Try.func51, Try.ntmps51
      go_wp2_with fail
      have hW : ∀ w', Below w.heap.size w w' → True := fun _ _ => trivial
      go_loopw [5] (fun i wr => ∃ j : Nat, j ≤ n ∧ i = .int .i64 j ∧ Below w.heap.size w wr ∧ wr.cell? ⟨w.heap.size, 1, none⟩ = some (.slice a n cap) ∧ wr.cell? ⟨w.heap.size + 1, 1, none⟩ = some (.slice c n cap') ∧ w.heap.size + 1 < wr.heap.size ∧ Hid (all2 Ty.same ts us = all2 Ty.same (ts.drop j) (us.drop j))) (fun i _ => n - (intOf i).toNat)
      case atStart => exact ⟨0, by omega, rfl, bal2, by simp, by simp, by simp, rfl⟩
      case round =>
        obtain ⟨j, hj, rfl, hbw, hc1, hc2, hsz, hR⟩ := hrel
        by_cases hlt : j < n
        · obtain ⟨b, off, k0, a0, m0, q0, rfl, c0, c1, ht⟩ := H4.out j (by rw [HN.out]; exact hlt)
          obtain ⟨b', off', k0', a0', m0', q0', rfl, c0', c1', hu⟩ := G4.out j (by rw [← HL.out]; exact hlt)
          have e0 := (hbw.cell (p := ⟨b, off + j * 2, none⟩) (World.block_lt_of_cell? w _ c0)).trans c0
          have e1 := (hbw.cell (p := ⟨b, off + j * 2 + 1, none⟩) (World.block_lt_of_cell? w _ c1)).trans c1
          have e0' := (hbw.cell (p := ⟨b', off' + j * 2, none⟩) (World.block_lt_of_cell? w _ c0')).trans c0'
          have e1' := (hbw.cell (p := ⟨b', off' + j * 2 + 1, none⟩) (World.block_lt_of_cell? w _ c1')).trans c1'
          have l0 := World.block_lt_of_cell? wr _ e0
          have l0' := World.block_lt_of_cell? wr _ e0'
          clear c0 c1 c0' c1'
          have hkt : j < ts.length := by rw [HN.out]; exact hlt
          have hku : j < us.length := by rw [← HL.out]; exact hlt
          have hcall := IHH.out ts[j] (List.getElem_mem hkt) us[j] (List.getElem_mem hku)
          have hstep := hR.out.trans (all2_drop Ty.same ts us j hkt hku)
          generalize ts[j].same us[j] = r at hcall hstep
          have HC := Lib.hid hcall
          have HS := Lib.hid hstep
          clear hcall hstep hR
          cases r
          all_goals
            go_wp2_with fail
            go_region_held3 (fun w' => w'.cell? ⟨w.heap.size, 1, none⟩ = some (.slice (some ⟨b, off, none⟩) n cap) ∧ w'.cell? ⟨w.heap.size + 1, 1, none⟩ = some (.slice (some ⟨b', off', none⟩) n cap') ∧ w'.cell? ⟨b, off + j * 2, none⟩ = some (.int .i64 k0) ∧ w'.cell? ⟨b, off + j * 2 + 1, none⟩ = some (.slice a0 m0 q0) ∧ w'.cell? ⟨b', off' + j * 2, none⟩ = some (.int .i64 k0') ∧ w'.cell? ⟨b', off' + j * 2 + 1, none⟩ = some (.slice a0' m0' q0'))
              (first | go_keep | exact ⟨bcelld hb1 hc1, bcelld hb1 hc2, bcelld hb1 e0, bcelld hb1 e1, bcelld hb1 e0', bcelld hb1 e1'⟩)
              (first | (go_at_call 51; refine (HC.out _ _ _ (ht.below hbw.drew) (hu.below hbw.drew)).mono ?_; rintro e w1 ⟨rfl, hb1⟩))
            go_wp2_with fail
          · go_ret
            exact ⟨ret_bool (by rw [HS.out]; simp), bdrew hbw hb1⟩
          · go_roundw
            case rel => exact ⟨j + 1, by omega, by go_num, bdrew hbw hb1, bcelld hb1 hc1, bcelld hb1 hc2, Nat.lt_of_lt_of_le hsz hb1.size, by rw [Hid, HS.out]; rfl⟩
            case measure => simp [intOf]; omega
        · go_wp2_with fail
          go_ret
          exact ⟨ret_bool (by rw [hR.out, all2_end _ _ _ _ (by rw [HN.out]; omega) (by rw [← HL.out]; omega)]; simp), hbw⟩
    · have HL := Lib.hid hl
      go_enter Try.func51, Try.ntmps51
      go_wp2_with fail
      go_ret
      exact ⟨ret_bool (by rw [all2_len Ty.same ts us HL.out]; simp), bal2⟩
  · have hkl : (k == l) = false := by simpa using hk
    have hkl' : (k != l) = true := by simpa using hk
    clear hk
    go_enter Try.func51, Try.ntmps51
    go_wp2_with fail
    go_ret
    exact ⟨ret_bool (by simp [hkl]), bal2⟩
termination_by SizeOf.sizeOf t
decreasing_by exact Ty.kid_lt ht
end Go.Proofs.Ytkhmkohgnikcmaa
namespace Go.Proofs.Ytkhmkohgnikcmaa
open Go.RowKit
set_option linter.unusedVariables false
set_option linter.unusedSimpArgs false

theorem sc_far {w : World} {p a : Addr} {v u : Value} (h : w.cell? a = some u) (hne : p ≠ a) : (w.setCell p v).cell? a = some u := (World.cell?_setCell_other w p a v hne).trans h
theorem sc_self {w : World} {b o : Nat} {v u : Value} (h : w.cell? ⟨b, o, none⟩ = some u) : (w.setCell ⟨b, o, none⟩ v).cell? ⟨b, o, none⟩ = some v := by
  simp only [World.cell?] at h
  split at h
  · rename_i cs T fr hb
    simp at h
    have hlt := (Array.getElem?_eq_some_iff.1 h).1
    simp only [World.cell?, heap_setCell_same hb]
    simp
    rw [Array.getElem?_setIfInBounds_self]
    simp [hlt]
  · cases h
theorem sc_fro (w : World) (p : Addr) (v : Value) (a : Addr) : (w.setCell p v).frozen? a = w.frozen? a := by simp

/-- Values that lie one behind the other read as rows. -/
def SRows (w : World) : List (List C) → List Value → List Nat → Prop
  | [], xs, fps => xs = [] ∧ fps = []
  | r :: rs, xs, fps => ∃ ys xs' f1 f2, xs = ys ++ xs' ∧ fps = f1 ++ f2 ∧ SOwn w r ys f1 ∧ SRows w rs xs' f2
theorem SRows.move {w w' : World} : ∀ (rs : List (List C)) (xs : List Value) (fps : List Nat), (∀ b ∈ fps, w'.heap[b]? = w.heap[b]?) → SRows w rs xs fps → SRows w' rs xs fps
  | [], _, _, _, h => h
  | r :: rs, _, _, k, ⟨ys, xs', f1, f2, e, h, h1, h2⟩ => by
    subst h
    exact ⟨ys, xs', f1, f2, e, rfl, h1.move _ _ _ (fun b hb => k b (List.mem_append_left _ hb)), SRows.move rs xs' f2 (fun b hb => k b (List.mem_append_right _ hb)) h2⟩
theorem SRows.lt {w : World} : ∀ (rs : List (List C)) (xs : List Value) (fps : List Nat), SRows w rs xs fps → ∀ b ∈ fps, b < w.heap.size
  | [], _, _, ⟨_, h⟩ => by subst h; simp
  | r :: rs, _, _, ⟨ys, xs', f1, f2, _, h, h1, h2⟩ => by
    subst h
    intro b hb
    rcases List.mem_append.1 hb with hb | hb
    · exact SOwn.lt _ _ _ h1 b hb
    · exact SRows.lt rs xs' f2 h2 b hb
theorem SRows.snoc {w : World} : ∀ {rs : List (List C)} {xs : List Value} {fps : List Nat} {r : List C} {ys : List Value} {f : List Nat}, SRows w rs xs fps → SOwn w r ys f → SRows w (rs ++ [r]) (xs ++ ys) (fps ++ f)
  | [], _, _, r, ys, f, ⟨hx, hf⟩, h => by
    subst hx hf
    exact ⟨ys, [], f, [], by simp, by simp, h, rfl, rfl⟩
  | r' :: rs, _, _, r, ys, f, ⟨ys', xs', f1, f2, e, e2, h1, h2⟩, h => by
    subst e e2
    exact ⟨ys', xs' ++ ys, f1, f2 ++ f, by simp, by simp, h1, SRows.snoc h2 h⟩
theorem SRows.rows {w : World} {b : Nat} : ∀ (rs : List (List C)) (xs : List Value) (fps : List Nat) (off : Nat), SRows w rs xs fps → (∀ i, i < xs.length → w.cell? ⟨b, off + i, none⟩ = xs[i]?) → RowsOwn w b off rs fps
  | [], _, _, _, ⟨_, h⟩, _ => by subst h; unfold RowsOwn; rfl
  | r :: rs, _, _, off, ⟨ys, xs', f1, f2, e, h, h1, h2⟩, k => by
    subst e h
    have hl := SOwn.len _ _ _ h1
    unfold RowsOwn
    refine ⟨f1, f2, rfl, SOwn.cells r ys f1 off h1 (fun i hi => ?_), SRows.rows rs xs' f2 _ h2 fun i hi => ?_⟩
    · rw [k i (by rw [List.length_append]; omega), List.getElem?_append_left hi]
    · rw [← hl, Nat.add_assoc, k (ys.length + i) (by rw [List.length_append]; omega), List.getElem?_append_right (by omega)]
      congr 1
      omega

/-- The slice v has grown to these rows, in memory from block B on. -/
def AccNew (B : Nat) (e : TypeId) (size : Nat) (w : World) (v : Value) (n : Nat) (rows : List (List C)) : Prop :=
  ∃ xs fps, w.ownsRow B e size v n xs ∧ rows.length = n ∧ SRows w rows xs fps ∧ fps.Nodup ∧ ∀ x ∈ fps, B ≤ x ∧ v.ownBlock ≠ some x
theorem AccNew.nil (B : Nat) (e : TypeId) (size : Nat) (w : World) : AccNew B e size w (.slice none 0 0) 0 [] :=
  ⟨[], [], World.ownsRow_nil w B e size, rfl, ⟨rfl, rfl⟩, List.nodup_nil, by simp⟩
theorem AccNew.grown {B : Nat} {e : TypeId} {size n : Nat} {w w' : World} {v : Value} {rows : List (List C)} (h : AccNew B e size w v n rows) (hb : Below w.heap.size w w') : AccNew B e size w' v n rows := by
  obtain ⟨xs, fps, h1, h2, h3, h4, h5⟩ := h
  refine ⟨xs, fps, h1.kept (row := none) ⟨hb.os, hb.tape, hb.output, hb.size, fun k hk _ => hb.block k hk⟩ ?_, h2, h3.move _ _ _ (fun b hx => hb.block b (h3.lt _ _ _ b hx)), h4, h5⟩
  cases v.ownBlock with
  | none => exact .inl rfl
  | some g => exact .inr (by simp)
theorem AccNew.setCell {B : Nat} {e : TypeId} {size n : Nat} {w : World} {v : Value} {rows : List (List C)} (h : AccNew B e size w v n rows) {p : Addr} (hp : p.block < B) (u : Value) : AccNew B e size (w.setCell p u) v n rows := by
  obtain ⟨xs, fps, h1, h2, h3, h4, h5⟩ := h
  refine ⟨xs, fps, ?_, h2, h3.move _ _ _ (fun b hx => Below.heap_setCell w p u b (by have := (h5 b hx).1; omega)), h4, h5⟩
  exact ownsRow_setCell_below h1 hp u

theorem AccNew.shape {B : Nat} {e : TypeId} {size n : Nat} {w : World} {v : Value} {rows : List (List C)} (h : AccNew B e size w v n rows) : ∃ c q, v = .slice c n q := by
  obtain ⟨xs, fps, ⟨_, h1⟩, _⟩ := h
  rcases h1 with ⟨rfl, rfl⟩ | ⟨g, cap, cur, rfl, _⟩
  · exact ⟨none, 0, rfl⟩
  · exact ⟨_, cap, rfl⟩
/-- Behind an append of one row. -/
theorem AccNew.append {B H g cap : Nat} {e : TypeId} {size n : Nat} {w w1 : World} {v : Value} {xs ys : List Value} {fps f : List Nat} {rows : List (List C)} {r : List C}
    (h2 : rows.length = n) (h3 : SRows w rows xs fps) (h4 : fps.Nodup) (h5 : ∀ x ∈ fps, B ≤ x ∧ v.ownBlock ≠ some x)
    (hr : SOwn w r ys f) (hd : f.Nodup) (hf : ∀ x ∈ f, B ≤ x ∧ v.ownBlock ≠ some x ∧ x ∉ fps)
    (hown : w1.ownsRow B e size (.slice (some ⟨g, 0, none⟩) (n + 1) cap) (n + 1) (xs ++ ys)) (hgrow : w.grownBy w1 v.ownBlock) (hat : v.ownBlock = some g ∨ g = H) (hH : w.heap.size = H) :
    AccNew B e size w1 (.slice (some ⟨g, 0, none⟩) (n + 1) cap) (n + 1) (rows ++ [r]) := by
  have l3 : ∀ b ∈ fps, b < w.heap.size := fun b hb => SRows.lt _ _ _ h3 b hb
  have lr : ∀ b ∈ f, b < w.heap.size := fun b hb => SOwn.lt _ _ _ hr b hb
  have keep : ∀ x, x < w.heap.size → v.ownBlock ≠ some x → w1.heap[x]? = w.heap[x]? := fun x hx hn => hgrow.block x hx (fun e => hn e.symm)
  refine ⟨xs ++ ys, fps ++ f, hown, by simp [h2], SRows.snoc (h3.move _ _ _ fun b hb => keep b (l3 b hb) (h5 b hb).2) (hr.move _ _ _ fun b hb => keep b (lr b hb) (hf b hb).2.1), ?_, ?_⟩
  · exact List.nodup_append.2 ⟨h4, hd, fun x hx y hy e => (hf y hy).2.2 (e ▸ hx)⟩
  · intro x hx
    have hlt : x < w.heap.size ∧ B ≤ x ∧ v.ownBlock ≠ some x := by
      rcases List.mem_append.1 hx with hx | hx
      · exact ⟨l3 x hx, h5 x hx⟩
      · exact ⟨lr x hx, (hf x hx).1, (hf x hx).2.1⟩
    refine ⟨hlt.2.1, fun e => ?_⟩
    simp only [Value.ownBlock, Option.some.injEq] at e
    rcases hat with hat | hat
    · exact hlt.2.2 (by rw [hat, e])
    · omega

theorem ownsRow_below {B : Nat} {e : TypeId} {size n : Nat} {w w' : World} {v : Value} {xs : List Value} (h : w.ownsRow B e size v n xs) (hb : Below w.heap.size w w') : w'.ownsRow B e size v n xs :=
  h.kept (row := none) ⟨hb.os, hb.tape, hb.output, hb.size, fun k hk _ => hb.block k hk⟩ (by cases v.ownBlock with | none => exact .inl rfl | some g => exact .inr (by simp))
/-- What lies below the row that was appended to is as it was. -/
theorem grown_far {wr W w2 : World} {B : Nat} {e : TypeId} {size n : Nat} {v : Value} {xs : List Value} (hb : Below wr.heap.size wr W) (ho : wr.ownsRow B e size v n xs) (hg : W.grownBy w2 v.ownBlock) (b : Nat) (hl : b < wr.heap.size) (hB : b < B) : w2.heap[b]? = wr.heap[b]? :=
  (hg.block b (Nat.lt_of_lt_of_le hl hb.size) (fun e => by have := (ho.lt b e.symm).1; omega)).trans (hb.block b hl)
theorem grown_below {w0 wr W w2 : World} {B : Nat} {e : TypeId} {size n : Nat} {v : Value} {xs : List Value} (h0 : Below w0.heap.size w0 wr) (hb : Below wr.heap.size wr W) (ho : wr.ownsRow B e size v n xs) (hB : w0.heap.size ≤ B) (hg : W.grownBy w2 v.ownBlock) : Below w0.heap.size w0 w2 :=
  (bstep h0 hb).grown hg (bstep h0 hb).size (fun k hk => Nat.le_trans hB (ho.lt k hk).1)
/-- The rows behind the append of what a call has made. -/
theorem AccNew.push {B g cap : Nat} {e : TypeId} {size n : Nat} {wr W0 W w2 : World} {v : Value} {xs ys : List Value} {fps f : List Nat} {rows : List (List C)} {r : List C} (hl : rows.length = n) (ho : wr.ownsRow B e size v n xs) (hs : SRows wr rows xs fps) (hd : fps.Nodup)
    (hfp : ∀ x ∈ fps, B ≤ x ∧ v.ownBlock ≠ some x) (hB : B ≤ wr.heap.size) (hb : Below wr.heap.size wr W) (h0 : wr.heap.size ≤ W0.heap.size) (hr : SOwn W r ys f) (hdf : f.Nodup) (hxf : ∀ x ∈ f, W0.heap.size ≤ x)
    (hown : w2.ownsRow B e size (.slice (some ⟨g, 0, none⟩) (n + 1) cap) (n + 1) (xs ++ ys)) (hgrow : W.grownBy w2 v.ownBlock) (hat : v.ownBlock = some g ∨ g = W.heap.size) : AccNew B e size w2 (.slice (some ⟨g, 0, none⟩) (n + 1) cap) (n + 1) (rows ++ [r]) := by
  have hlt : ∀ x ∈ fps, x < wr.heap.size := fun x hx => SRows.lt _ _ _ hs x hx
  refine AccNew.append (w := W) hl (hs.move _ _ _ fun b hx => hb.block b (hlt b hx)) hd hfp hr hdf (fun x hx => ?_) hown hgrow hat rfl
  have h1 := hxf x hx
  refine ⟨by omega, fun e => by have := (ho.lt x e).2; omega, fun e => by have := hlt x e; omega⟩
/-- The slice as it is. -/
theorem AccNew.own {B : Nat} {e : TypeId} {size n : Nat} {w : World} {v : Value} {rows : List (List C)} (h : AccNew B e size w v n rows) : ∃ fp, COwn w (.sl rows) v fp ∧ fp.Nodup ∧ ∀ x ∈ fp, B ≤ x := by
  obtain ⟨xs, fps, ⟨hl, h1⟩, h2, h3, h4, h5⟩ := h
  rcases h1 with ⟨rfl, rfl⟩ | ⟨g, cap, cur, rfl, hb, hg, hn, hc, hs, ht⟩
  · obtain rfl : rows = [] := List.eq_nil_of_length_eq_zero h2
    exact ⟨[], COwn.sl_nil (by unfold maxLen; omega), List.nodup_nil, by simp⟩
  · have hr : RowsOwn w g 0 rows fps := h3.rows _ _ _ 0 (fun i hi => by
      rw [← ht] at hi ⊢
      simp only [World.cell?, hg]
      simp only [List.length_take] at hi
      simp
      rw [List.getElem?_take_of_lt (by omega), Array.getElem?_toList])
    obtain ⟨fp, k1, k2, k3⟩ := COwn.sl_mk hg h2 hn hc hr
    exact ⟨fp, k1, k3 h4 (fun hx => (h5 g hx).2 rfl), fun x hx => by rcases k2 x hx with rfl | hx; exact hb; exact (h5 x hx).1⟩
theorem AccNew.tys {B n : Nat} {e : TypeId} {w : World} {v : Value} {ts : List Ty} (h : AccNew B e 2 w v n (Ty.rows ts)) : TysNew B w ts v := h.own
end Go.Proofs.Ytkhmkohgnikcmaa
namespace Go.Proofs.Ytkhmkohgnikcmaa
open Go.RowKit

theorem cell_new {X : World} {n : Nat} {cs : Array Value} {T : TypeId} (h : X.heap.size = n) (j : Nat) : (X.alloc (.cells cs T)).cell? ⟨n, j, none⟩ = cs[j]? := by subst h; exact cell_n0 j
theorem fro_new {X : World} {n : Nat} {cs : Array Value} {T : TypeId} (h : X.heap.size = n) (j : Nat) : (X.alloc (.cells cs T)).frozen? ⟨n, j, none⟩ = false := by subst h; exact fro_n0 j
theorem bfroc {w w1 : World} {a : Addr} {v : Value} (h : Below w.heap.size w w1) (hc : w.cell? a = some v) (hf : w.frozen? a = false) : w1.frozen? a = false := (h.frozen (World.block_lt_of_cell? w a hc)).trans hf
theorem dcell {w : World} {a : Addr} {v : Value} (hc : w.cell? a = some v) : w.drew.cell? a = some v := hc
theorem dfro {w : World} {a : Addr} (hc : w.frozen? a = false) : w.drew.frozen? a = false := hc
theorem sfro {w : World} {a p : Addr} {v : Value} (hf : w.frozen? a = false) : (w.setCell p v).frozen? a = false := (sc_fro w p v a).trans hf
theorem sc_blk {w : World} {p a : Addr} {v u : Value} (h : w.cell? a = some u) (hne : a.block ≠ p.block) : (w.setCell p v).cell? a = some u := sc_far h (fun e => by subst e; exact hne rfl)
end Go.Proofs.Ytkhmkohgnikcmaa
namespace Go.Proofs.Ytkhmkohgnikcmaa
open Go.RowKit
set_option linter.unusedVariables false
set_option linter.unusedSimpArgs false
set_option maxRecDepth 100000

mutual
def Tm.same : Tm → Tm → Bool
  | .mk k s u t f l ts, .mk k' s' u' t' f' l' us => k == k' && s.toList == s'.toList && u == u' && t.same t' && f.same f' && l == l' && Tm.sames ts us
def Tm.sames : List Tm → List Tm → Bool
  | [], [] => true
  | t :: ts, u :: us => t.same u && Tm.sames ts us
  | _, _ => false
end
def tall2 (R : Tm → Tm → Bool) : List Tm → List Tm → Bool
  | [], [] => true
  | t :: ts, u :: us => R t u && tall2 R ts us
  | _, _ => false
theorem tall2_drop (R : Tm → Tm → Bool) (ts us : List Tm) (k : Nat) (h : k < ts.length) (h' : k < us.length) : tall2 R (ts.drop k) (us.drop k) = (R ts[k] us[k] && tall2 R (ts.drop (k + 1)) (us.drop (k + 1))) := by
  rw [List.drop_eq_getElem_cons h, List.drop_eq_getElem_cons h']; rfl
theorem tall2_len (R : Tm → Tm → Bool) : ∀ (ts us : List Tm), ts.length ≠ us.length → tall2 R ts us = false
  | [], [], h => absurd rfl h
  | [], _ :: _, _ => rfl
  | _ :: _, [], _ => rfl
  | t :: ts, u :: us, h => by
    have := tall2_len R ts us (fun e => h (by simp [e]))
    simp [tall2, this]
theorem tall2_end (R : Tm → Tm → Bool) (ts us : List Tm) (k : Nat) (h : ts.length ≤ k) (h' : us.length ≤ k) : tall2 R (ts.drop k) (us.drop k) = true := by
  rw [List.drop_eq_nil_of_le h, List.drop_eq_nil_of_le h']; rfl
theorem Tm.sames_all2 : ∀ ts us : List Tm, tall2 Tm.same ts us = Tm.sames ts us
  | [], [] => by unfold Tm.sames; rfl
  | [], _ :: _ => by unfold Tm.sames; rfl
  | _ :: _, [] => by unfold Tm.sames; rfl
  | t :: ts, u :: us => by unfold Tm.sames tall2; rw [Tm.sames_all2 ts us]
mutual
theorem Tm.same_refl : ∀ t : Tm, t.same t = true
  | .mk k s u t f l ts => by unfold Tm.same; rw [Tm.sames_refl ts, t.same_refl, f.same_refl]; simp
theorem Tm.sames_refl : ∀ ts : List Tm, Tm.sames ts ts = true
  | [] => by unfold Tm.sames; rfl
  | t :: ts => by unfold Tm.sames; rw [Tm.same_refl t, Tm.sames_refl ts]; rfl
end
end Go.Proofs.Ytkhmkohgnikcmaa
