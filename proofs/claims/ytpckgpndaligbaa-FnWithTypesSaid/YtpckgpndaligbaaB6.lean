/-
  Draws out of lists, and slices that grow while numbers are drawn.
  Copies by the reference.
  Walks beside a source of numbers: what is known of a cell, a tree, the memory behind a draw.
  A slice of rows that grows by append: the rows lie in a block of one's own, what they hold are readings.
-/
import Derived.Test.YtpckgpndaligbaaB4
import Derived.Test.YtpckgpndaligbaaB5
import Derived.Test.YtpckgpndaligbaaB3
namespace Go.Proofs.Ytpckgpndaligbaa
open Go.RowKit
set_option linter.unusedVariables false
set_option linter.unusedSimpArgs false
set_option maxRecDepth 100000

theorem Chg.grown {r : Nat} {w w' : World} (h : Chg [r] w w') : w.grownBy w' (some r) := ⟨h.os, h.tape, h.output, h.size, fun k hk hn => h.block k hk (fun hm => hn (by simpa using hm))⟩
theorem ownsRow_chg {r B : Nat} {e : TypeId} {size n : Nat} {w w' : World} {v : Value} {xs : List Value} (h : w.ownsRow B e size v n xs) (k : Chg [r] w w') (hr : r < B) : w'.ownsRow B e size v n xs :=
  h.kept (row := some r) k.grown (by
    cases hv : v.ownBlock with
    | none => exact .inl rfl
    | some g => exact .inr (fun e => by have := (h.lt g hv).1; simp at e; omega))
theorem grown_farC {r B : Nat} {e : TypeId} {size n : Nat} {wr W w2 : World} {v : Value} {xs : List Value} (hb : Chg [r] wr W) (ho : wr.ownsRow B e size v n xs) (hg : W.grownBy w2 v.ownBlock) (b : Nat) (hl : b < wr.heap.size) (hB : b < B) (hn : b ≠ r) : w2.heap[b]? = wr.heap[b]? :=
  (hg.block b (Nat.lt_of_lt_of_le hl hb.size) (fun e => by have := (ho.lt b e.symm).1; omega)).trans (hb.block b hl (by simpa using hn))
theorem grown_chg {r B : Nat} {e : TypeId} {size n : Nat} {w0 wr W w2 : World} {v : Value} {xs : List Value} (h0 : Chg [r] w0 wr) (hb : Chg [r] wr W) (ho : wr.ownsRow B e size v n xs) (hB : w0.heap.size ≤ B) (hg : W.grownBy w2 v.ownBlock) : Chg [r] w0 w2 := by
  have h := h0.trans hb
  exact ⟨hg.os.trans h.os, hg.tape.trans h.tape, hg.output.trans h.output, Nat.le_trans h.size hg.size, fun k hk hn => (hg.block k (Nat.lt_of_lt_of_le hk h.size) (fun e => by have := (ho.lt k e.symm).1; omega)).trans (h.block k hk hn)⟩
theorem AccNew.pushC {r B g cap : Nat} {e : TypeId} {size n : Nat} {wr W0 W w2 : World} {v : Value} {xs ys : List Value} {fps f : List Nat} {rows : List (List C)} {rw' : List C} (hl : rows.length = n) (ho : wr.ownsRow B e size v n xs) (hs : SRows wr rows xs fps) (hd : fps.Nodup)
    (hfp : ∀ x ∈ fps, B ≤ x ∧ v.ownBlock ≠ some x) (hB : B ≤ wr.heap.size) (hrB : r < B) (hb : Chg [r] wr W) (h0 : wr.heap.size ≤ W0.heap.size) (hr : SOwn W rw' ys f) (hdf : f.Nodup) (hxf : ∀ x ∈ f, W0.heap.size ≤ x)
    (hown : w2.ownsRow B e size (.slice (some ⟨g, 0, none⟩) (n + 1) cap) (n + 1) (xs ++ ys)) (hgrow : W.grownBy w2 v.ownBlock) (hat : v.ownBlock = some g ∨ g = W.heap.size) : AccNew B e size w2 (.slice (some ⟨g, 0, none⟩) (n + 1) cap) (n + 1) (rows ++ [rw']) := by
  have hlt : ∀ x ∈ fps, x < wr.heap.size := fun x hx => SRows.lt _ _ _ hs x hx
  refine AccNew.append (w := W) hl (hs.move _ _ _ fun b hx => hb.block b (hlt b hx) (by have := (hfp b hx).1; simp; omega)) hd hfp hr hdf (fun x hx => ?_) hown hgrow hat rfl
  have h1 := hxf x hx
  refine ⟨by omega, fun e => by have := (ho.lt x e).2; omega, fun e => by have := hlt x e; omega⟩
/-- The source of numbers behind an append to a row of one's own that lies above it. -/
theorem RdAt.grown {B r p : Nat} {e : TypeId} {size n : Nat} {wr W w2 : World} {v : Value} {xs : List Value} (h : RdAt W r p) (ho : wr.ownsRow B e size v n xs) (hr : r < B) (hg : W.grownBy w2 v.ownBlock) : RdAt w2 r p :=
  h.keep hg.size (fun b hb => hg.block b (Nat.lt_of_le_of_lt hb h.1) (fun e => by have := (ho.lt b e.symm).1; omega))

/-- A list of numbers of a kind, in a block of its own. -/
def NumPost (r p : Nat) (Q : Int → Prop) (w : World) (e : Ending) (w' : World) : Prop := ∃ k : Int, e = .returned (.int .i64 k) ∧ Q k ∧ RdAt w' r (p + 1) ∧ Chg [r] w w'

set_option maxHeartbeats 1000000 in
theorem specNum (Q : Int → Prop) (r p b n cap : Nat) (w : World) (h : RdAt w r p) (hp : p ≤ 1125899906842623) (hn0 : 0 < n) (hn : n ≤ 1048576) (hcap : n ≤ cap) (hbr : r < b)
    (hc : ∀ i, i < n → ∃ x, w.cell? ⟨b, i, none⟩ = some (.int .i64 x) ∧ Q x) :
    Calls Try.prog 31 #[.pointer (some ⟨r, 0, none⟩), .slice (some ⟨b, 0, none⟩) n cap] w (NumPost r p Q w) := by
  have H := Lib.hid (specPick r p (n : Int) w h (by omega) (by omega))
  have HC := Lib.hid hc
  clear hc
  go_enter Try.func31, Try.ntmps31
  go_wp2_with fail
  refine H.out.mono ?_
  rintro e w1 ⟨k, rfl, k0, hk, hrd, hch⟩
  obtain ⟨q, rfl⟩ := Int.eq_ofNat_of_zero_le k0
  have hqn : q < n := by omega
  obtain ⟨x, hx, hq⟩ := HC.out q hqn
  have hx1 := hch.cellne (by show b ≠ r; omega) hx
  have hqi : (0 : Int) ≤ (q : Int) := by omega
  have hqj : (q : Int) < (n : Int) := by omega
  clear hk k0 hx
  go_wp2_with fail
  go_ret
  exact ⟨x, rfl, hq, hrd, hch⟩

def OfPost (r p : Nat) (Q : ByteArray → Prop) (w : World) (e : Ending) (w' : World) : Prop := ∃ k : ByteArray, e = .returned (.string k) ∧ Q k ∧ RdAt w' r (p + 1) ∧ Chg [r] w w'

set_option maxHeartbeats 1000000 in
theorem specOf (Q : ByteArray → Prop) (r p b n cap : Nat) (w : World) (h : RdAt w r p) (hp : p ≤ 1125899906842623) (hn0 : 0 < n) (hn : n ≤ 1048576) (hcap : n ≤ cap) (hbr : r < b)
    (hc : ∀ i, i < n → ∃ x, w.cell? ⟨b, i, none⟩ = some (.string x) ∧ Q x) :
    Calls Try.prog 32 #[.pointer (some ⟨r, 0, none⟩), .slice (some ⟨b, 0, none⟩) n cap] w (OfPost r p Q w) := by
  have H := Lib.hid (specPick r p (n : Int) w h (by omega) (by omega))
  have HC := Lib.hid hc
  clear hc
  go_enter Try.func32, Try.ntmps32
  go_wp2_with fail
  refine H.out.mono ?_
  rintro e w1 ⟨k, rfl, k0, hk, hrd, hch⟩
  obtain ⟨q, rfl⟩ := Int.eq_ofNat_of_zero_le k0
  have hqn : q < n := by omega
  obtain ⟨x, hx, hq⟩ := HC.out q hqn
  have hx1 := hch.cellne (by show b ≠ r; omega) hx
  have hqi : (0 : Int) ≤ (q : Int) := by omega
  have hqj : (q : Int) < (n : Int) := by omega
  clear hk k0 hx
  go_wp2_with fail
  go_ret
  exact ⟨x, rfl, hq, hrd, hch⟩
end Go.Proofs.Ytpckgpndaligbaa
namespace Go.Proofs.Ytpckgpndaligbaa
open Go.RowKit
set_option linter.unusedVariables false
set_option linter.unusedSimpArgs false
set_option maxRecDepth 100000

theorem bal4 {w : World} {o o' o2 o3 : Obj} : Below w.heap.size w ((((w.alloc o).alloc o').alloc o2).alloc o3) := bstep bal3 bal1
theorem cell_n3 {w : World} {o o' o2 : Obj} {cs : Array Value} {T : TypeId} (j : Nat) : ((((w.alloc o).alloc o').alloc o2).alloc (.cells cs T)).cell? ⟨w.heap.size + 1 + 1 + 1, j, none⟩ = cs[j]? := by
  have h := cell_n0 (w := ((w.alloc o).alloc o').alloc o2) (cs := cs) (T := T) j
  simpa using h
theorem fro_n3 {w : World} {o o' o2 : Obj} {cs : Array Value} {T : TypeId} (j : Nat) : ((((w.alloc o).alloc o').alloc o2).alloc (.cells cs T)).frozen? ⟨w.heap.size + 1 + 1 + 1, j, none⟩ = false := by
  have h := fro_n0 (w := ((w.alloc o).alloc o').alloc o2) (cs := cs) (T := T) j
  simpa using h

set_option maxHeartbeats 4000000 in
theorem specL1Copy (F : Nat → Prop) (t : Ty) : ∀ (y : Value) (w : World), TyRep F w t y → t.cnt ≤ 1048576 →
    Calls Try.prog 37 #[y] w (RetTy t w) := by
  intro y w hy hcnt
  have IH : ∀ t' ∈ t.kids, ∀ (y : Value) (W : World), TyRep F W t' y → Calls Try.prog 37 #[y] W (RetTy t' W) :=
    fun t' ht y W h => specL1Copy F t' y W h (by have := Ty.cnt_kid ht; omega)
  obtain ⟨a, cap, rfl, h2, h3, hr⟩ := hy.open
  cases t with | mk k ts =>
  simp only [Ty.kind, Ty.kids] at *
  unfold maxLen at h3
  have IHH := Lib.hid IH
  have HCN := Lib.hid (show ts.length ≤ 1048576 by simp only [Ty.cnt] at hcnt; omega)
  clear IH hy hcnt
  obtain ⟨n, hn⟩ : ∃ n, ts.length = n := ⟨_, rfl⟩
  rw [hn] at h2 hr HCN
  rw [hn]
  have HN := Lib.hid hn
  clear hn
  obtain ⟨i0, hi, hz0, hz1, hz2⟩ := info_parts Try.infoTy
  have Z0 := Lib.hid hz0
  have Z1 := Lib.hid hz1
  have Z2 := Lib.hid hz2
  have HI := Lib.hid hi
  clear hz0 hz1 hz2 hi
  go_enter Try.func37, Try.ntmps37
  go_wp2_with fail
  go_loopw [4] (fun i wr => ∃ j : Nat, j ≤ n ∧ i = .int .i64 j ∧ Below w.heap.size w wr ∧ w.heap.size + 1 + 1 < wr.heap.size ∧ (∃ u, wr.cell? ⟨w.heap.size + 1, 0, none⟩ = some u) ∧ (∃ u, wr.cell? ⟨w.heap.size + 1, 1, none⟩ = some u) ∧
      (∀ o, wr.frozen? ⟨w.heap.size + 1, o, none⟩ = false) ∧ (∀ o, wr.frozen? ⟨w.heap.size + 1 + 1, o, none⟩ = false) ∧ wr.cell? ⟨w.heap.size + 1 + 1, 0, none⟩ = some (.int .i64 k) ∧ wr.cell? ⟨w.heap.size, 1, none⟩ = some (.slice a n cap) ∧
      ∃ v, wr.cell? ⟨w.heap.size + 1 + 1, 1, none⟩ = some v ∧ AccNew (w.heap.size + 1 + 1 + 1) 25 2 wr v j (Ty.rows (ts.take j))) (fun i _ => n - (intOf i).toNat)
  case atStart => exact ⟨0, by omega, rfl, bal3, by simp, ⟨.int .i64 0, bcell bal1 (cell_n1 0)⟩, ⟨.slice none 0 0, bcell bal1 (cell_n1 1)⟩, fun o => bfro bal1 (by simp) (fro_n1 o), fun o => fro_n2 o, cell_n2 0, bcell bal1 (bcell bal1 (cell_n0 1)), .slice none 0 0, cell_n2 1, by simpa [Ty.rows] using AccNew.nil _ _ _ _⟩
  case round =>
    obtain ⟨j, hj, rfl, hbw, hsz, ⟨u0, hu0⟩, ⟨u1, hu1⟩, hf1, hf2, hk0, hlb0, v, hv, hacc⟩ := hrel
    by_cases hlt : j < n
    · have hjt : j < ts.length := by rw [HN.out]; exact hlt
      obtain ⟨b, off, k0, a0, m0, q0, rfl, l0, e0, e1, ht⟩ := hr.at hbw hjt
      have HC := Lib.hid (fun W (h : Below wr.heap.size wr W) => IHH.out ts[j] (List.getElem_mem hjt) _ W (ht.below h))
      obtain ⟨xs, fps, ho, hl, hs, hd, hfp⟩ := hacc
      have HO := Lib.hid ho
      have HS := Lib.hid hs
      have HD := Lib.hid hd
      have HFP := Lib.hid hfp
      have HL := Lib.hid hl
      clear ho hs hd hfp hl
      obtain ⟨cv, qv, rfl⟩ : ∃ c q, v = .slice c j q := by
        rcases HO.out.2 with ⟨h, h0⟩ | ⟨g, cap, cur, h, _⟩
        · exact ⟨none, 0, by rw [h, h0]⟩
        · exact ⟨_, cap, h⟩
      go_wp2_with fail
      have hB3 : w.heap.size + 1 + 1 + 1 ≤ wr.heap.size := by omega
      go_region_law (first
        | (go_simp; go_at_call 37; refine (HC.out _ bdr).mono ?_; rintro e w1 ⟨v1, rfl, hv1, hb1⟩; obtain ⟨k1, c1, m1, q1, fp1, rfl, -, -, hs1, hd1, hx1⟩ := hv1.open; have hq1 : w1.cell? ⟨w.heap.size + 1 + 1, 1, none⟩ = some (.slice cv j qv) := bcell (bstep bdr hb1) hv; have hbz := hb1.size; have hl1 : w.heap.size + 1 + 1 < w1.heap.size := World.block_lt_of_cell? _ _ hq1)
        | (refine step_append_lies _ (by rfl) (.tmp 16) (.tmp 23) 23 (by rfl) (w.heap.size + 1 + 1 + 1) 25 i0 _ 2 32 Try.underlying23 HI.out Z0.out Z1.out Z2.out rfl (by omega) (.slice cv j qv) j xs (by rfl) (ownsRow_below HO.out (bstep (bstep bdr hb1) bal1))
            ⟨w1.heap.size, 0, none⟩ 1 1 [.int .i64 k1, .slice c1 m1 q1] (by rfl) (by rfl) (World.news_of_block (cs := #[.int .i64 k1, .slice c1 m1 q1]) (t := 25) (fr := (0, 0)) (heap_alloc_new w1 _)) (by simp [Value.oneCell'])
            (by omega) (by have := HCN.out; unfold maxLen; omega) (by have := HCN.out; omega) (by simp at hbz ⊢; omega) _ rfl ?_
           intro gg cap2 w2 hown2 hgrow hat hlt2
           have hfar := grown_far (bstep (bstep bdr hb1) bal1) HO.out hgrow
           have hq : w2.cell? ⟨w.heap.size + 1 + 1, 1, none⟩ = some (.slice cv j qv) := (World.cell?_of_block (a := ⟨w.heap.size + 1 + 1, 1, none⟩) (hfar (w.heap.size + 1 + 1) (by omega) (by omega))).trans hv
           have hqf : w2.frozen? ⟨w.heap.size + 1 + 1, 1, none⟩ = false := (World.frozen?_of_block (a := ⟨w.heap.size + 1 + 1, 1, none⟩) (hfar (w.heap.size + 1 + 1) (by omega) (by omega))).trans (hf2 _)
           have HFAR := Lib.hid hfar
           have hacc2 := AccNew.push HL.out HO.out HS.out HD.out HFP.out hB3 (bstep (bstep bdr hb1) bal1) (by simp) (hs1.move _ _ _ fun b hb => heap_alloc_old w1 _ (SOwn.lt _ _ _ hs1 b hb)) hd1 hx1 hown2 hgrow hat
           have HACC := Lib.hid hacc2
           have hbel := grown_below hbw (bstep (bstep bdr hb1) bal1) HO.out (by omega) hgrow
           have hsz2 : wr.heap.size ≤ w2.heap.size := Nat.le_trans (bstep (bstep bdr hb1) bal1).size hgrow.size
           clear hfar hacc2 hown2 hgrow hat hq1))
      all_goals
        go_wp2_with fail
        go_roundw
        case rel =>
          have c1 : (w2.setCell ⟨w.heap.size + 1 + 1, 1, none⟩ (.slice (some ⟨gg, 0, none⟩) (j + 1) cap2)).heap[w.heap.size + 1]? = wr.heap[w.heap.size + 1]? :=
            (Below.heap_setCell w2 ⟨w.heap.size + 1 + 1, 1, none⟩ _ _ (by show w.heap.size + 1 ≠ w.heap.size + 1 + 1; omega)).trans (HFAR.out (w.heap.size + 1) (by omega) (by omega))
          have hk2 := (World.cell?_of_block (a := ⟨w.heap.size + 1 + 1, 0, none⟩) (HFAR.out (w.heap.size + 1 + 1) (by omega) (by omega))).trans hk0
          have hf4 := fun o => (World.frozen?_of_block (a := ⟨w.heap.size + 1 + 1, o, none⟩) (HFAR.out (w.heap.size + 1 + 1) (by omega) (by omega))).trans (hf2 o)
          refine ⟨j + 1, by omega, by go_num, hbel.setCell (by show w.heap.size ≤ w.heap.size + 1 + 1; omega) _, by simp [World.setCell]; omega, ⟨u0, (World.cell?_of_block (a := ⟨w.heap.size + 1, 0, none⟩) c1).trans hu0⟩, ⟨u1, (World.cell?_of_block (a := ⟨w.heap.size + 1, 1, none⟩) c1).trans hu1⟩,
            fun o => (World.frozen?_of_block (a := ⟨w.heap.size + 1, o, none⟩) c1).trans (hf1 o), fun o => (sc_fro _ _ _ _).trans (hf4 o), sc_far hk2 (by simp), (World.cell?_of_block (a := ⟨w.heap.size, 1, none⟩) ((Below.heap_setCell w2 ⟨w.heap.size + 1 + 1, 1, none⟩ _ _ (by show w.heap.size ≠ w.heap.size + 1 + 1; omega)).trans (HFAR.out (w.heap.size) (by omega) (by omega)))).trans hlb0, _, sc_self hq, ?_⟩
          have h := HACC.out.setCell (p := ⟨w.heap.size + 1 + 1, 1, none⟩) (by show w.heap.size + 1 + 1 < w.heap.size + 1 + 1 + 1; omega) (.slice (some ⟨gg, 0, none⟩) (j + 1) cap2)
          rw [Ty.rows_eq] at h ⊢
          rw [List.take_succ_eq_append_getElem hjt, List.map_append]
          exact h
        case measure => simp [intOf]; omega
    · obtain ⟨cv, qv, rfl⟩ := hacc.shape
      have f0 := hf1 0
      have f1 := hf1 1
      go_wp2_with fail
      refine bodyPost_ret (v := .agg #[.int .i64 k, .slice cv j qv]) (by simp [results, Try.results37, go_sem, hu0, hu1]) rfl ?_
      have hjn : j = n := by omega
      rw [List.take_of_length_le (by rw [HN.out]; omega)] at hacc
      refine ⟨_, rfl, TyNew.mono (TysNew.ty ((hacc.tys.setCell (by show w.heap.size + 1 < w.heap.size + 1 + 1 + 1; omega) _).setCell (by show w.heap.size + 1 < w.heap.size + 1 + 1 + 1; omega) _)) (by omega), ?_⟩
      exact (hbw.setCell (by show w.heap.size ≤ w.heap.size + 1; omega) _).setCell (by show w.heap.size ≤ w.heap.size + 1; omega) _
termination_by SizeOf.sizeOf t
decreasing_by exact Ty.kid_lt ht

end Go.Proofs.Ytpckgpndaligbaa
namespace Go.Proofs.Ytpckgpndaligbaa
open Go.RowKit
set_option linter.unusedVariables false
set_option linter.unusedSimpArgs false
set_option maxRecDepth 100000

theorem TyRep.ne {B r : Nat} {w : World} {t : Ty} {y : Value} (h : TyRep (B ≤ ·) w t y) (hr : r < B) : TyRep (· ≠ r) w t y := h.move (.weaken fun b hb _ => by omega)
theorem TyRep.setCell {B : Nat} {w : World} {t : Ty} {y : Value} (h : TyRep (B ≤ ·) w t y) {p : Addr} (hp : p.block < B) (v : Value) : TyRep (B ≤ ·) (w.setCell p v) t y :=
  h.move ⟨by simp [World.setCell], fun _ h _ => h, fun b hb _ => Below.heap_setCell w p v b (by omega)⟩
theorem TyRep.lower {B B' : Nat} {w : World} {t : Ty} {y : Value} (h : TyRep (B ≤ ·) w t y) (hB : B' ≤ B) : TyRep (B' ≤ ·) w t y := h.move (.weaken fun b hb _ => Nat.le_trans hB hb)
theorem ByRep.below {w w' : World} {r : Nat} {v : Value} (h : ByRep w r v) (k : Below w.heap.size w w') : ByRep w' r v := h.keep k.size fun b hb _ => k.block b hb
theorem ByRep.up {w : World} {r r' : Nat} {v : Value} (h : ByRep w r v) (hr : r ≤ r') : ByRep w r' v := by
  obtain ⟨a, n, cap, h1, h2, h3, h4⟩ := h
  refine ⟨a, n, cap, h1, h2, h3, fun i hi => ?_⟩
  obtain ⟨b, off, c, e, hb, hr⟩ := h4 i hi
  exact ⟨b, off, c, e, by omega, hr⟩
theorem ByRep.shape {w : World} {r : Nat} {v : Value} (h : ByRep w r v) : ∃ a n cap, v = .slice a n cap := let ⟨a, n, cap, h1, _⟩ := h; ⟨a, n, cap, h1⟩

/-- A type has been drawn, of memory of its own. -/
def DrawT (r p c m : Nat) (w : World) (e : Ending) (w' : World) : Prop := ∃ (t : Ty) (v : Value) (q : Nat), e = .returned v ∧ t.cnt + 2 ≤ m ∧ TyNew w.heap.size w' t v ∧ q ≤ p + c ∧ RdAt w' r q ∧ Chg [r] w w'
theorem DrawT.mono {r p c c' m m' : Nat} {w w' : World} {e : Ending} (h : DrawT r p c m w e w') (hc : c ≤ c') (hm : m ≤ m') : DrawT r p c' m' w e w' :=
  let ⟨s, v, q, h1, h2, h3, h4, h5, h6⟩ := h; ⟨s, v, q, h1, by omega, h3, by omega, h5, h6⟩
/-- A type has been drawn, or read off one that was there. -/
def DT (r p m : Nat) (w : World) (e : Ending) (w' : World) : Prop := ∃ (t : Ty) (v : Value) (q : Nat), e = .returned v ∧ t.cnt ≤ m ∧ TyRep (w.heap.size ≤ ·) w' t v ∧ q ≤ p + 200 ∧ RdAt w' r q ∧ Chg [r] w w'
theorem DrawT.dt {r p c m m' : Nat} {w w' : World} {e : Ending} (h : DrawT r p c m w e w') (hc : c ≤ 200) (hm : m ≤ m' + 2) : DT r p m' w e w' :=
  let ⟨s, v, q, h1, h2, h3, h4, h5, h6⟩ := h; ⟨s, v, q, h1, by omega, h3.rep, by omega, h5, h6⟩
/-- Draws of arguments. -/
def DR1 (w : World) (e : Ending) (w' : World) : Prop := ∃ (t : Ty) (v : Value), e = .returned v ∧ TyRep (w.heap.size ≤ ·) w' t v ∧ Below w.heap.size w w'
def DR2 (w : World) (e : Ending) (w' : World) : Prop := ∃ (t u : Ty) (v x : Value), e = .returned (.tuple #[v, x]) ∧ TyRep (w.heap.size ≤ ·) w' t v ∧ TyRep (w.heap.size ≤ ·) w' u x ∧ Below w.heap.size w w'
def DR3 (w : World) (e : Ending) (w' : World) : Prop := ∃ (t u s : Ty) (v x y : Value), e = .returned (.tuple #[v, x, y]) ∧ TyRep (w.heap.size ≤ ·) w' t v ∧ TyRep (w.heap.size ≤ ·) w' u x ∧ TyRep (w.heap.size ≤ ·) w' s y ∧ Below w.heap.size w w'
def OpenPost (w : World) (e : Ending) (w' : World) : Prop := ∃ rb, e = .returned (.pointer (some ⟨rb, 0, none⟩)) ∧ w.heap.size ≤ rb ∧ RdAt w' rb 0 ∧ Below w.heap.size w w'
theorem ints_cell {X : World} {B : Nat} (xs : List Int) {T : TypeId} (hB : X.heap.size = B) (Q : Int → Prop) (hQ : ∀ x ∈ xs, Q x) (i : Nat) (hi : i < xs.length) :
    ∃ x, (X.alloc (.cells (xs.map (Value.int .i64)).toArray T)).cell? ⟨B, i, none⟩ = some (.int .i64 x) ∧ Q x := by
  refine ⟨xs[i], ?_, hQ _ (List.getElem_mem hi)⟩
  rw [cell_new hB]
  simp [hi]
theorem Ty.cnts_append : ∀ (ts us : List Ty), Ty.cnts (ts ++ us) = Ty.cnts ts + Ty.cnts us
  | [], us => by simp [Ty.cnts]
  | t :: ts, us => by simp [Ty.cnts, Ty.cnts_append ts us]; omega
end Go.Proofs.Ytpckgpndaligbaa
namespace Go.Proofs.Ytpckgpndaligbaa
open Go.RowKit
set_option linter.unusedVariables false
set_option linter.unusedSimpArgs false

def RVals (F : Nat → Prop) (w : World) : List (List C) → List Value → Prop
  | [], xs => xs = []
  | r :: rs, xs => ∃ ys rest, xs = ys ++ rest ∧ SRep F w r ys ∧ RVals F w rs rest
theorem RVals.move {F G : Nat → Prop} {w w' : World} (k : Keeps F G w w') : ∀ (rs : List (List C)) (xs : List Value), RVals F w rs xs → RVals G w' rs xs
  | [], _, h => h
  | r :: rs, _, ⟨ys, rest, h1, h2, h3⟩ => ⟨ys, rest, h1, h2.move k, RVals.move k rs rest h3⟩
theorem RVals.append {F : Nat → Prop} {w : World} : ∀ (rs us : List (List C)) (xs ys : List Value), RVals F w rs xs → RVals F w us ys → RVals F w (rs ++ us) (xs ++ ys)
  | [], us, xs, ys, h, h' => by
    have h0 : xs = [] := h
    subst h0; simpa using h'
  | r :: rs, us, _, zs, ⟨ys, rest, h1, h2, h3⟩, h' => by
    subst h1
    exact ⟨ys, rest ++ zs, by simp, h2, RVals.append rs us rest zs h3 h'⟩
theorem RVals.one {F : Nat → Prop} {w : World} {r : List C} {ys : List Value} (h : SRep F w r ys) : RVals F w [r] ys := ⟨ys, [], by simp, h, rfl⟩
theorem SRep.len {F : Nat → Prop} {w : World} : ∀ {r : List C} {ys : List Value}, SRep F w r ys → ys.length = r.length
  | [], _, h => by
    have h0 : _ = [] := h
    rw [h0]; rfl
  | c :: cs, _, ⟨z, zs, h1, h2, h3⟩ => by rw [h1, List.length_cons, List.length_cons, SRep.len h3]
theorem SRep.cellsAt {F : Nat → Prop} {w : World} {g : Nat} : ∀ {r : List C} {ys : List Value} {off : Nat}, SRep F w r ys → (∀ j u, ys[j]? = some u → w.cell? ⟨g, off + j, none⟩ = some u) → CellsAt F w g off r
  | [], _, off, _, _ => by unfold CellsAt; trivial
  | c :: cs, _, off, ⟨z, zs, h1, h2, h3⟩, hc => by
    subst h1
    unfold CellsAt
    refine ⟨⟨z, hc 0 z rfl, h2⟩, SRep.cellsAt h3 fun j u hj => ?_⟩
    have := hc (j + 1) u (by simpa using hj)
    rw [show off + 1 + j = off + (j + 1) from by omega]; exact this
theorem RVals.rows {F : Nat → Prop} {w : World} {g : Nat} : ∀ (rs : List (List C)) (xs : List Value) (off : Nat), RVals F w rs xs → (∀ j u, xs[j]? = some u → w.cell? ⟨g, off + j, none⟩ = some u) → RowsAt F w g off rs
  | [], _, off, _, _ => by unfold RowsAt; trivial
  | r :: rs, _, off, ⟨ys, rest, h1, h2, h3⟩, hc => by
    subst h1
    have hl := h2.len
    unfold RowsAt
    refine ⟨SRep.cellsAt h2 fun j u hj => hc j u ?_, RVals.rows rs rest _ h3 fun j u hj => ?_⟩
    · have hlt := (List.getElem?_eq_some_iff.1 hj).1
      rw [List.getElem?_append_left hlt]; exact hj
    · have := hc (ys.length + j) u (by rw [List.getElem?_append_right (by omega)]; simpa using hj)
      rw [← hl, show off + ys.length + j = off + (ys.length + j) from by omega]; exact this
theorem SRep.one' {F : Nat → Prop} {w : World} : ∀ {r : List C} {ys : List Value}, SRep F w r ys → ∀ y ∈ ys, y.oneCell' = true
  | [], _, h, y, hy => by
    have h0 : _ = [] := h
    rw [h0] at hy; cases hy
  | c :: cs, _, ⟨z, zs, h1, h2, h3⟩, y, hy => by
    subst h1
    rcases List.mem_cons.1 hy with rfl | hy
    · cases c with
      | int n => rw [h2.int_eq]; rfl
      | str s => rw [h2.str_eq.1]; rfl
      | sl rows => obtain ⟨a, q, h, -⟩ := h2.rows; rw [h]; rfl
    · exact SRep.one' h3 y hy

/-- The slice v has grown to these rows: its block is one's own and lies from B on, what the rows read lies from B on, too. -/
def RowL (B : Nat) (e : TypeId) (sz : Nat) (w : World) (v : Value) (n : Nat) (rows : List (List C)) : Prop :=
  rows.length = n ∧ ∃ xs, w.ownsRow B e sz v n xs ∧ RVals (fun b => B ≤ b ∧ v.ownBlock ≠ some b) w rows xs
theorem RowL.nil {B : Nat} {e : TypeId} {sz : Nat} {w : World} : RowL B e sz w (.slice none 0 0) 0 [] := ⟨rfl, [], World.ownsRow_nil w B e sz, rfl⟩
theorem RowL.chg {r B : Nat} {e : TypeId} {sz n : Nat} {w w' : World} {v : Value} {rows : List (List C)} (h : RowL B e sz w v n rows) (k : Chg [r] w w') (hr : r < B) : RowL B e sz w' v n rows := by
  obtain ⟨hl, xs, h1, h2⟩ := h
  exact ⟨hl, xs, ownsRow_chg h1 k hr, h2.move (k.keeps fun b hb => by have := hb.1; simp; omega) _ _⟩
theorem RowL.below {B : Nat} {e : TypeId} {sz n : Nat} {w w' : World} {v : Value} {rows : List (List C)} (h : RowL B e sz w v n rows) (k : Below w.heap.size w w') : RowL B e sz w' v n rows := by
  obtain ⟨hl, xs, h1, h2⟩ := h
  exact ⟨hl, xs, ownsRow_below h1 k, h2.move (.below k) _ _⟩
theorem RowL.setCell {B : Nat} {e : TypeId} {sz n : Nat} {w : World} {v : Value} {rows : List (List C)} (h : RowL B e sz w v n rows) {p : Addr} (hp : p.block < B) (u : Value) : RowL B e sz (w.setCell p u) v n rows := by
  obtain ⟨hl, xs, h1, h2⟩ := h
  exact ⟨hl, xs, ownsRow_setCell_below h1 hp u, h2.move ⟨by simp [World.setCell], fun _ h _ => h, fun b hb _ => Below.heap_setCell w p u b (by have := hb.1; omega)⟩ _ _⟩
theorem RowL.shape {B : Nat} {e : TypeId} {sz n : Nat} {w : World} {v : Value} {rows : List (List C)} (h : RowL B e sz w v n rows) : ∃ a q, v = .slice a n q := by
  obtain ⟨hl, xs, ⟨h1, h2 | ⟨g, cap, cur, h2, hB, hg, hn, hc, hs, ht⟩⟩, -⟩ := h
  · exact ⟨none, 0, by rw [h2.1, h2.2]⟩
  · exact ⟨_, cap, h2⟩
/-- Behind an append of one row, in a world W; the slice was whole in wr. -/
theorem RowL.push {r B g cap n sz : Nat} {e : TypeId} {wr W w2 : World} {v : Value} {rows : List (List C)} {xs ys : List Value} {rw' : List C} (hl : rows.length = n) (ho : wr.ownsRow B e sz v n xs) (hv : RVals (fun b => B ≤ b ∧ v.ownBlock ≠ some b) wr rows xs)
    (hrB : r < B) (hb : Chg [r] wr W) (hr : SRep (fun b => wr.heap.size ≤ b) W rw' ys) (hB : B ≤ wr.heap.size)
    (hown : w2.ownsRow B e sz (.slice (some ⟨g, 0, none⟩) (n + 1) cap) (n + 1) (xs ++ ys)) (hgrow : W.grownBy w2 v.ownBlock) (hat : v.ownBlock = some g ∨ g = W.heap.size) :
    RowL B e sz w2 (.slice (some ⟨g, 0, none⟩) (n + 1) cap) (n + 1) (rows ++ [rw']) := by
  have hlt : ∀ b, v.ownBlock = some b → b < wr.heap.size := fun b hb => (ho.lt b hb).2
  have kk : Keeps (fun b => B ≤ b ∧ v.ownBlock ≠ some b) (fun b => B ≤ b ∧ (Value.slice (some ⟨g, 0, none⟩) (n + 1) cap).ownBlock ≠ some b) W w2 := by
    refine ⟨hgrow.size, fun b hb hl => ⟨hb.1, fun e => ?_⟩, fun b hb hl => hgrow.block b hl (fun e => hb.2 e.symm)⟩
    simp only [Value.ownBlock, Option.some.injEq] at e
    subst e
    rcases hat with h | h
    · exact hb.2 h
    · omega
  have k0 : Keeps (fun b => B ≤ b ∧ v.ownBlock ≠ some b) (fun b => B ≤ b ∧ v.ownBlock ≠ some b) wr W := hb.keeps fun b hb => by have := hb.1; simp; omega
  have k1 : Keeps (fun b => wr.heap.size ≤ b) (fun b => B ≤ b ∧ v.ownBlock ≠ some b) W W := .weaken fun b hb _ => ⟨by omega, fun e => by have := hlt b e; omega⟩
  exact ⟨by simp [hl], xs ++ ys, hown, RVals.append rows [rw'] xs ys ((hv.move k0 _ _).move kk _ _) (RVals.one ((hr.move k1).move kk))⟩
theorem RowL.rep {B : Nat} {e : TypeId} {sz n : Nat} {w : World} {v : Value} {rows : List (List C)} (h : RowL B e sz w v n rows) : CRep (B ≤ ·) w (.sl rows) v := by
  obtain ⟨hl, xs, h1, h2⟩ := h
  subst hl
  have h1' := h1
  obtain ⟨hx, h3 | ⟨g, cap, cur, h3, hB, hg, hn, hc, hs, ht⟩⟩ := h1
  · obtain ⟨rfl, h4⟩ := h3
    have : rows = [] := List.length_eq_zero_iff.1 h4
    subst this
    unfold CRep
    exact ⟨none, 0, rfl, Nat.le_refl _, by unfold maxLen; omega, .inl rfl⟩
  · subst h3
    have hcl : ∀ j u, xs[j]? = some u → w.cell? ⟨g, j, none⟩ = some u := by
      intro j u hj
      subst ht
      simp only [World.cell?, hg]
      rw [List.getElem?_take] at hj
      split at hj
      · simpa using hj
      · cases hj
    unfold CRep
    exact ⟨_, cap, rfl, hn, hc, .inr ⟨g, 0, rfl, hB, (Array.getElem?_eq_some_iff.1 hg).1, RVals.rows rows xs 0 (h2.move (.weaken fun _ hb _ => hb.1) _ _) (fun j u hj => by simpa using hcl j u hj)⟩⟩
end Go.Proofs.Ytpckgpndaligbaa
