/-
  spec.l3More: a context with another binding.
  spec.l4Type at a function, at the leaves.
-/
import Derived.Test.YtkhmkohgnikcmaaB20
import Derived.Test.YtkhmkohgnikcmaaB28
import Derived.Deep.RegionHeld3
import Derived.Deep.AppendLies
namespace Go.Proofs.Ytkhmkohgnikcmaa
open Go.RowKit
set_option linter.unusedVariables false
set_option linter.unusedSimpArgs false
set_option maxRecDepth 100000

def oM0 : Oper := ⟨some 7, Op.buildSlice 57 0 #[], 57, "l3_typing.go:66", #[], none⟩
def oM1 : Oper := ⟨some 8, Op.move (Operand.tmp 0), 57, "l3_typing.go:66", #[], none⟩
def oM2 : Oper := ⟨some 9, Op.call { callee := Callee.builtin Builtin.append, args := #[Operand.tmp 7, Operand.tmp 8], argTypes := #[57, 57] }, 57, "l3_typing.go:66", #[⟨0, .data⟩, ⟨1, .data⟩], none⟩
def oM3 : Oper := ⟨some 10, Op.move (Operand.tmp 1), 9, "l3_typing.go:66", #[], none⟩
def oM4 : Oper := ⟨some 11, Op.load 31 (Operand.tmp 5), 31, "l3_typing.go:66", #[], none⟩
def oM5 : Oper := ⟨some 12, Op.build 66 #[(0, Operand.tmp 10), (1, Operand.tmp 11)], 66, "l3_typing.go:66", #[⟨3, .data⟩, ⟨4, .data⟩], none⟩
def oM6 : Oper := ⟨some 13, Op.buildSlice 57 1 #[(0, Operand.tmp 12)], 57, "l3_typing.go:66", #[⟨5, .data⟩], none⟩
def oM7 : Oper := ⟨some 14, Op.call { callee := Callee.builtin Builtin.append, args := #[Operand.tmp 9, Operand.tmp 13], argTypes := #[57, 57] }, 57, "l3_typing.go:66", #[⟨2, .data⟩, ⟨6, .data⟩, ⟨2, .chain⟩], none⟩
def oM8 : Oper := ⟨some 6, Op.assign (Operand.tmp 14), 57, "l3_typing.go:66", #[⟨7, .data⟩, ⟨7, .chain⟩, ⟨0, .phase⟩, ⟨1, .phase⟩, ⟨2, .phase⟩, ⟨3, .phase⟩, ⟨4, .phase⟩, ⟨5, .phase⟩, ⟨6, .phase⟩, ⟨7, .phase⟩], none⟩
/-- A context: a reading, with an address. -/
def RetC (l : List Bd) (w : World) (e : Ending) (w' : World) : Prop := ∃ (a : Addr) (m q : Nat), e = .returned (.slice (some a) m q) ∧ BdsRep (fun _ => True) w' l (.slice (some a) m q) ∧ Below w.heap.size w w'
theorem bdvals_one {F : Nat → Prop} {w : World} {nm : ByteArray} {ty : Ty} {k : Int} {a : Option Addr} {n q : Nat} (hn : nm.size ≤ maxLen) (h : TyRep F w ty (.agg #[.int .i64 k, .slice a n q])) : BdVals F w [⟨nm, ty⟩] [.string nm, .int .i64 k, .slice a n q] := ⟨k, _, [], rfl, hn, h, rfl⟩
theorem BdM.below {B : Nat} {w w' : World} {v : Value} {bs : List Bd} (h : BdM B w v bs) (k : Below w.heap.size w w') : BdM B w' v bs := by
  obtain ⟨xs, h1, h2⟩ := h
  exact ⟨xs, ownsRow_below h1 k, h2.move (.below k) _ _⟩
theorem step_append_none {P : Program} {w : World} {ops : Array Oper} {o : Oper} {a : Act} {K : Act → World → Prop} {Q : Exit → Act → World → Prop} {E : Prop} (u : Unit) (hgd : o.guard = none) (s x : Operand) (t : TypeId)
    (ho : o.op = .call { callee := .builtin .append, args := #[s, x], argTypes := #[t, t] }) (base : Nat) (e : TypeId) (i : TypeInfo) (size : Nat) (ht : P.underlying t = some (.slice e)) (hi : P.info? e = some i)
    (v : Value) (n : Nat) (xs : List Value) (hs : a.eval s = v) (hown : w.ownsRow base e size v n xs) (hx : a.eval x = .slice none 0 0) (h : K (a.put o.dst v) w) : if Region.wanted o (yielded ops a.tmps) = true then Oper.wp P o a w K Q else E := by
  have hw : Region.wanted o (yielded ops a.tmps) = true := by simp [Region.wanted, hgd]
  rw [if_pos hw]
  have hrun := run_append_owned_none (P := P) (w := w) base t o.type e i size ht hi v n xs hown
  unfold Oper.wp
  simp [execOp, ho, resolve, invoke, builtin, hs, hx, hrun, Result.andThen]
  exact h
set_option maxHeartbeats 4000000 in
theorem specL3More (F G : Nat → Prop) (l : List Bd) (ad : Addr) (n q : Nat) (nm : ByteArray) (ty : Ty) (tk : Int) (ta : Option Addr) (tn tq : Nat) (w : World) (hy : BdsRep F w l (.slice (some ad) n q)) (hl : l.length ≤ 1000000) (hl1 : 1 ≤ l.length) (hnm : nm.size ≤ maxLen) (ht : TyRep G w ty (.agg #[.int .i64 tk, .slice ta tn tq])) :
    Calls Try.prog 32 #[.slice (some ad) n q, .string nm, .agg #[.int .i64 tk, .slice ta tn tq]] w (RetC (l ++ [⟨nm, ty⟩]) w) := by
  obtain ⟨i0, hi, hz0, hz1, hz2⟩ := info_parts Try.infoBdC
  have Z0 := Lib.hid hz0
  have Z1 := Lib.hid hz1
  have Z2 := Lib.hid hz2
  have HI := Lib.hid hi
  have hn := hy.n_eq
  have HN := Lib.hid hn.symm
  have hn1 : 0 < n := by omega
  have hn2 : n ≤ 1000000 := by omega
  have HY := Lib.hid hy.old
  have HT := Lib.hid ht.old
  clear hi hz0 hz1 hz2 hn hy ht
  go_enter Try.func32, Try.ntmps32
  go_wp2_with fail
  have fB : (w.alloc (.cells #[.int .i64 tk, .slice ta tn tq] 31)).heap[w.heap.size]? = some (.cells #[.int .i64 tk, .slice ta tn tq] 31 (0, 0)) := blk_new rfl
  have fC := Lib.hid (show Below w.heap.size w (w.alloc (.cells #[.int .i64 tk, .slice ta tn tq] 31)) from bal1)
  refine wp_region_noPanic ?_
  refine wp_region_held_drew (S := fun w' => w'.cell? ⟨w.heap.size, 0, none⟩ = some (.int .i64 tk) ∧ w'.cell? ⟨w.heap.size, 1, none⟩ = some (.slice ta tn tq)) (by kernel_rfl) ?_ (fun hHeld0 => ?_)
  · exact ⟨dcell (blk_cell fB (o := 0) rfl), dcell (blk_cell fB (o := 1) rfl)⟩
  obtain ⟨U, hU⟩ : ∃ X : World, X = World.drew (w.alloc (.cells #[.int .i64 tk, .slice ta tn tq] 31)) := ⟨_, rfl⟩
  have fB' : U.heap[w.heap.size]? = some (.cells #[.int .i64 tk, .slice ta tn tq] 31 (0, 0)) := by rw [hU]; exact fB
  have fC' := Lib.hid (show Below w.heap.size w U from by rw [hU]; exact fC.out.drew)
  have zU : U.heap.size = w.heap.size + 1 := by rw [hU]; simp
  rw [← hU] at hHeld0 ⊢
  have zUa : w.heap.size + 1 ≤ U.heap.size := by omega
  have zUb : U.heap.size ≤ w.heap.size + 1 := by omega
  clear zU
  clear hU fB fC
  have fB := fB'
  have fC := fC'
  clear fB' fC'
  refine hwt 1 oM1 (.slice (some ad) n q) hHeld0 ?_ ?_
  · intro w' hSw; dsimp only [oM1]; go_simp
  try simp only [oM1, hwA]
  refine hwt 3 oM3 (.string nm) hHeld0 ?_ ?_
  · intro w' hSw; dsimp only [oM3]; go_simp
  try simp only [oM3, hwA]
  refine hwt 4 oM4 (.agg #[.int .i64 tk, .slice ta tn tq]) hHeld0 ?_ ?_
  · intro w' hSw; dsimp only [oM4]; go_simp
  try simp only [oM4, hwA]
  refine hwt 5 oM5 (.agg #[.string nm, .int .i64 tk, .slice ta tn tq]) hHeld0 ?_ ?_
  · intro w' hSw; dsimp only [oM5]; go_simp
  try simp only [oM5, hwA]
  refine wpAnyH_ready (rs := [0, 6]) (by kernel_rfl) (by simp) ?_
  refine (AllReadyH.cons (o := oM0) rfl (fun K hK => ?_) (AllReadyH.cons (o := oM6) rfl (fun K hK => ?_) AllReadyH.nil))
  · skip
    dsimp only [oM0]
    go_simp
    (try go_wp2_with fail)
    have fE2 : (U.alloc (.cells #[] 66)).heap[U.heap.size]? = some (.cells #[] 66 (0, 0)) := blk_new rfl
    have fB2 := blk_below fB (bal1 (o := .cells #[] 66))
    have fC2 := Lib.hid (bstep fC.out (bal1 (o := .cells #[] 66)))
    have hzW2 : (U.alloc (.cells #[] 66)).heap.size = U.heap.size + 1 := by simp
    refine hK.out _ _ ⟨blk_cell fB2 (o := 0) rfl, blk_cell fB2 (o := 1) rfl⟩ (fun hHeld1 => ?_)
    clear hK K hHeld0 fB fC
    try simp only [oM0, hwA]
    obtain ⟨X1, hWW⟩ : ∃ X : World, X = (U.alloc (.cells #[] 66)) := ⟨_, rfl⟩
    rw [← hWW] at fB2 fC2 fE2 hzW2 hHeld1 ⊢
    clear hWW
    have fB := fB2
    have fC := fC2
    have fE := fE2
    clear fB2 fC2 fE2
    have zX1a : U.heap.size + 1 ≤ X1.heap.size := by omega
    have zX1b : X1.heap.size ≤ U.heap.size + 1 := by omega
    clear hzW2
    refine wpAnyH_ready (rs := [2, 6]) (by kernel_rfl) (by simp) ?_
    refine (AllReadyH.cons (o := oM2) rfl (fun K hK => ?_) (AllReadyH.cons (o := oM6) rfl (fun K hK => ?_) AllReadyH.nil))
    · skip
      obtain ⟨xs0, ho0, hv0⟩ : BdM U.heap.size X1 (.slice (some ⟨U.heap.size, 0, none⟩) 0 0) [] := BdM.nil (Nat.le_refl _) fE rfl
      obtain rfl : xs0 = [] := hv0
      have hlg : w.heap.size ≤ U.heap.size := by have := fC.out.size; omega
      obtain ⟨ad1', xs, ha1, Y1, Y2, Y3⟩ : ∃ ad' xs, some ad = some ad' ∧ BdVals (fun b => (Value.slice (some ⟨U.heap.size, 0, none⟩) 0 0).ownBlock ≠ some b) X1 l xs ∧ (∀ j u, xs[j]? = some u → X1.cell? (ad'.add j) = some u) ∧ ∀ u ∈ xs, u.oneCell' = true := by
        have h0 := (HY.out.below fC.out).move (.weaken (G := fun b => (Value.slice (some ⟨U.heap.size, 0, none⟩) 0 0).ownBlock ≠ some b) fun b hb _ e => by simp [Value.ownBlock] at e; omega)
        exact h0.cellsAny
      obtain rfl : ad = ad1' := by simpa using ha1
      have hxl : xs.length = n * 3 := by rw [Y1.len, HN.out]
      refine step_append_lies _ (by rfl) (.tmp 7) (.tmp 8) 57 (by rfl) U.heap.size 66 i0 _ 3 48 Try.underlying57 HI.out Z0.out Z1.out Z2.out rfl (by omega) (.slice (some ⟨U.heap.size, 0, none⟩) 0 0) 0 [] (by rfl) ho0 ad n q xs (by rfl) hxl Y2 Y3 hn1 (by unfold maxLen; omega) (by omega) (by omega) _ rfl ?_
      intro gg cap w5 hown hgrow hat hlt2
      simp only [Nat.zero_add] at hown ⊢
      have MM2 := Lib.hid (show BdM U.heap.size w5 (.slice (some ⟨gg, 0, none⟩) n cap) ([] ++ l) from BdM.push (W := X1) (v := (.slice (some ⟨U.heap.size, 0, none⟩) 0 0)) (bs := []) (cs := l) (xs := []) (ys := xs) rfl Y1 (by simpa [HN.out] using hown) hgrow (by rcases hat with h | h; exact .inl (h.symm ▸ rfl); exact .inr (by rw [h]; rfl)))
      have hb45 : Below U.heap.size X1 w5 := Below.grown (Below.refl _ _) hgrow (by omega) (fun k hk => by simp [Value.ownBlock] at hk; omega)
      have fC2 := Lib.hid (fC.out.trans (hb45.mono hlg))
      have fB2 : w5.heap[w.heap.size]? = some (.cells #[.int .i64 tk, .slice ta tn tq] 31 (0, 0)) := (hb45.block _ (by omega)).trans fB
      have z5 : X1.heap.size ≤ w5.heap.size := hgrow.size
      refine hK.out _ _ ⟨blk_cell fB2 (o := 0) rfl, blk_cell fB2 (o := 1) rfl⟩ (fun hHeld2 => ?_)
      clear hK K hHeld1 fB fC fE ho0 Y1 Y2 Y3 hown hgrow hat ha1 hxl hb45
      try simp only [oM2, hwA]
      have MM := MM2
      have fC := fC2
      have fB := fB2
      clear MM2 fC2 fB2
      refine hwr 6 oM6 (fun K hK => ?_)
      · skip
        dsimp only [oM6]
        go_simp
        (try go_wp2_with fail)
        have fN2 : (w5.alloc (.cells #[.string nm, .int .i64 tk, .slice ta tn tq] 66)).heap[w5.heap.size]? = some (.cells #[.string nm, .int .i64 tk, .slice ta tn tq] 66 (0, 0)) := blk_new rfl
        have MM2 := Lib.hid (MM.out.below (bal1 (o := .cells #[.string nm, .int .i64 tk, .slice ta tn tq] 66)))
        have fB2 := blk_below fB (bal1 (o := .cells #[.string nm, .int .i64 tk, .slice ta tn tq] 66))
        have fC2 := Lib.hid (bstep fC.out (bal1 (o := .cells #[.string nm, .int .i64 tk, .slice ta tn tq] 66)))
        have hzW2 : (w5.alloc (.cells #[.string nm, .int .i64 tk, .slice ta tn tq] 66)).heap.size = w5.heap.size + 1 := by simp
        refine hK.out _ _ ⟨blk_cell fB2 (o := 0) rfl, blk_cell fB2 (o := 1) rfl⟩ (fun hHeld3 => ?_)
        clear hK K hHeld2 fB fC MM
        try simp only [oM6, hwA]
        obtain ⟨X3, hWW⟩ : ∃ X : World, X = (w5.alloc (.cells #[.string nm, .int .i64 tk, .slice ta tn tq] 66)) := ⟨_, rfl⟩
        rw [← hWW] at fB2 fC2 fN2 MM2 hzW2 hHeld3 ⊢
        clear hWW
        have fB := fB2
        have fC := fC2
        have fN := fN2
        have MM := MM2
        clear fB2 fC2 fN2 MM2
        have zX3a : w5.heap.size + 1 ≤ X3.heap.size := by omega
        have zX3b : X3.heap.size ≤ w5.heap.size + 1 := by omega
        clear hzW2
        refine hwr 7 oM7 (fun K hK => ?_)
        · skip
          obtain ⟨xs5, ho5, hv5⟩ := MM.out
          have hv1 : BdVals (fun b => (Value.slice (some ⟨gg, 0, none⟩) n cap).ownBlock ≠ some b) X3 [⟨nm, ty⟩] [.string nm, .int .i64 tk, .slice ta tn tq] := bdvals_one hnm ((HT.out.below fC.out).move (.weaken fun b hb _ e => by have := (ho5.lt b e).1; omega))
          refine step_append_lies _ (by rfl) (.tmp 9) (.tmp 13) 57 (by rfl) U.heap.size 66 i0 _ 3 48 Try.underlying57 HI.out Z0.out Z1.out Z2.out rfl (by omega) (.slice (some ⟨gg, 0, none⟩) n cap) n xs5 (by rfl) (by simpa [HN.out] using ho5) ⟨w5.heap.size, 0, none⟩ 1 1 [.string nm, .int .i64 tk, .slice ta tn tq] (by rfl) (by rfl) (World.news_of_block (cs := #[.string nm, .int .i64 tk, .slice ta tn tq]) (t := 66) (fr := (0, 0)) fN) (by simp [Value.oneCell']) (by omega) (by unfold maxLen; omega) (by omega) (by omega) _ rfl ?_
          intro g6 cap6 w6 hown hgrow hat hlt3
          have M6 : BdM U.heap.size w6 (.slice (some ⟨g6, 0, none⟩) (n + 1) cap6) (([] ++ l) ++ [⟨nm, ty⟩]) := BdM.push (W := X3) (v := (.slice (some ⟨gg, 0, none⟩) n cap)) hv5 hv1 (by simpa [HN.out] using hown) hgrow (by rcases hat with h | h; exact .inl (h.symm ▸ rfl); exact .inr (by rw [h]; rfl))
          have RF := Lib.hid (show BdsRep (fun _ => True) w6 (l ++ [⟨nm, ty⟩]) (.slice (some ⟨g6, 0, none⟩) (n + 1) cap6) from M6.rep)
          have hb56 : Below U.heap.size X3 w6 := Below.grown (Below.refl _ _) hgrow (by omega) (fun k hk => (ho5.lt k hk).1)
          have fC2 := Lib.hid (fC.out.trans (hb56.mono hlg))
          have fB2 : w6.heap[w.heap.size]? = some (.cells #[.int .i64 tk, .slice ta tn tq] 31 (0, 0)) := (hb56.block _ (by omega)).trans fB
          refine hK.out _ _ ⟨blk_cell fB2 (o := 0) rfl, blk_cell fB2 (o := 1) rfl⟩ (fun hHeld4 => ?_)
          clear hK K hHeld3 fB fC fN ho5 hv5 hv1 hown hgrow hat M6 hb56 MM
          try simp only [oM7, hwA]
          have fC := fC2
          have fB := fB2
          clear fC2 fB2
          refine hwt 8 oM8 (.slice (some ⟨g6, 0, none⟩) (n + 1) cap6) hHeld4 ?_ ?_
          · intro w' hSw; dsimp only [oM8]; go_simp
          try simp only [oM8, hwA]
          refine wpAnyH_done (by kernel_rfl) ?_ _
          refine NoPanic.normal ?_
          clear hHeld4
          go_wp2_with fail
          go_ret
          exact ⟨_, _, _, rfl, RF.out, fC.out⟩
    · skip
      dsimp only [oM6]
      go_simp
      (try go_wp2_with fail)
      have fN2 : (X1.alloc (.cells #[.string nm, .int .i64 tk, .slice ta tn tq] 66)).heap[X1.heap.size]? = some (.cells #[.string nm, .int .i64 tk, .slice ta tn tq] 66 (0, 0)) := blk_new rfl
      have fE2 := blk_below fE (bal1 (o := .cells #[.string nm, .int .i64 tk, .slice ta tn tq] 66))
      have fB2 := blk_below fB (bal1 (o := .cells #[.string nm, .int .i64 tk, .slice ta tn tq] 66))
      have fC2 := Lib.hid (bstep fC.out (bal1 (o := .cells #[.string nm, .int .i64 tk, .slice ta tn tq] 66)))
      have hzW2 : (X1.alloc (.cells #[.string nm, .int .i64 tk, .slice ta tn tq] 66)).heap.size = X1.heap.size + 1 := by simp
      refine hK.out _ _ ⟨blk_cell fB2 (o := 0) rfl, blk_cell fB2 (o := 1) rfl⟩ (fun hHeld2 => ?_)
      clear hK K hHeld1 fB fC fE
      try simp only [oM6, hwA]
      obtain ⟨X2, hWW⟩ : ∃ X : World, X = (X1.alloc (.cells #[.string nm, .int .i64 tk, .slice ta tn tq] 66)) := ⟨_, rfl⟩
      rw [← hWW] at fB2 fC2 fE2 fN2 hzW2 hHeld2 ⊢
      clear hWW
      have fB := fB2
      have fC := fC2
      have fE := fE2
      have fN := fN2
      clear fB2 fC2 fE2 fN2
      have zX2a : X1.heap.size + 1 ≤ X2.heap.size := by omega
      have zX2b : X2.heap.size ≤ X1.heap.size + 1 := by omega
      clear hzW2
      refine hwr 2 oM2 (fun K hK => ?_)
      · skip
        obtain ⟨xs0, ho0, hv0⟩ : BdM U.heap.size X2 (.slice (some ⟨U.heap.size, 0, none⟩) 0 0) [] := BdM.nil (Nat.le_refl _) fE rfl
        obtain rfl : xs0 = [] := hv0
        have hlg : w.heap.size ≤ U.heap.size := by have := fC.out.size; omega
        obtain ⟨ad1', xs, ha1, Y1, Y2, Y3⟩ : ∃ ad' xs, some ad = some ad' ∧ BdVals (fun b => (Value.slice (some ⟨U.heap.size, 0, none⟩) 0 0).ownBlock ≠ some b) X2 l xs ∧ (∀ j u, xs[j]? = some u → X2.cell? (ad'.add j) = some u) ∧ ∀ u ∈ xs, u.oneCell' = true := by
          have h0 := (HY.out.below fC.out).move (.weaken (G := fun b => (Value.slice (some ⟨U.heap.size, 0, none⟩) 0 0).ownBlock ≠ some b) fun b hb _ e => by simp [Value.ownBlock] at e; omega)
          exact h0.cellsAny
        obtain rfl : ad = ad1' := by simpa using ha1
        have hxl : xs.length = n * 3 := by rw [Y1.len, HN.out]
        refine step_append_lies _ (by rfl) (.tmp 7) (.tmp 8) 57 (by rfl) U.heap.size 66 i0 _ 3 48 Try.underlying57 HI.out Z0.out Z1.out Z2.out rfl (by omega) (.slice (some ⟨U.heap.size, 0, none⟩) 0 0) 0 [] (by rfl) ho0 ad n q xs (by rfl) hxl Y2 Y3 hn1 (by unfold maxLen; omega) (by omega) (by omega) _ rfl ?_
        intro gg cap w5 hown hgrow hat hlt2
        simp only [Nat.zero_add] at hown ⊢
        have MM2 := Lib.hid (show BdM U.heap.size w5 (.slice (some ⟨gg, 0, none⟩) n cap) ([] ++ l) from BdM.push (W := X2) (v := (.slice (some ⟨U.heap.size, 0, none⟩) 0 0)) (bs := []) (cs := l) (xs := []) (ys := xs) rfl Y1 (by simpa [HN.out] using hown) hgrow (by rcases hat with h | h; exact .inl (h.symm ▸ rfl); exact .inr (by rw [h]; rfl)))
        have hb45 : Below U.heap.size X2 w5 := Below.grown (Below.refl _ _) hgrow (by omega) (fun k hk => by simp [Value.ownBlock] at hk; omega)
        have fC2 := Lib.hid (fC.out.trans (hb45.mono hlg))
        have fB2 : w5.heap[w.heap.size]? = some (.cells #[.int .i64 tk, .slice ta tn tq] 31 (0, 0)) := (hb45.block _ (by omega)).trans fB
        have fN2 : w5.heap[X1.heap.size]? = some (.cells #[.string nm, .int .i64 tk, .slice ta tn tq] 66 (0, 0)) := (hgrow.block _ (blk_lt fN) (by simp [Value.ownBlock]; omega)).trans fN
        have z5 : X2.heap.size ≤ w5.heap.size := hgrow.size
        refine hK.out _ _ ⟨blk_cell fB2 (o := 0) rfl, blk_cell fB2 (o := 1) rfl⟩ (fun hHeld5 => ?_)
        clear hK K hHeld2 fB fC fE fN ho0 Y1 Y2 Y3 hown hgrow hat ha1 hxl hb45
        try simp only [oM2, hwA]
        have MM := MM2
        have fC := fC2
        have fB := fB2
        have fN := fN2
        clear MM2 fC2 fB2 fN2
        refine hwr 7 oM7 (fun K hK => ?_)
        · skip
          obtain ⟨xs5, ho5, hv5⟩ := MM.out
          have hv1 : BdVals (fun b => (Value.slice (some ⟨gg, 0, none⟩) n cap).ownBlock ≠ some b) w5 [⟨nm, ty⟩] [.string nm, .int .i64 tk, .slice ta tn tq] := bdvals_one hnm ((HT.out.below fC.out).move (.weaken fun b hb _ e => by have := (ho5.lt b e).1; omega))
          refine step_append_lies _ (by rfl) (.tmp 9) (.tmp 13) 57 (by rfl) U.heap.size 66 i0 _ 3 48 Try.underlying57 HI.out Z0.out Z1.out Z2.out rfl (by omega) (.slice (some ⟨gg, 0, none⟩) n cap) n xs5 (by rfl) (by simpa [HN.out] using ho5) ⟨X1.heap.size, 0, none⟩ 1 1 [.string nm, .int .i64 tk, .slice ta tn tq] (by rfl) (by rfl) (World.news_of_block (cs := #[.string nm, .int .i64 tk, .slice ta tn tq]) (t := 66) (fr := (0, 0)) fN) (by simp [Value.oneCell']) (by omega) (by unfold maxLen; omega) (by omega) (by omega) _ rfl ?_
          intro g6 cap6 w6 hown hgrow hat hlt3
          have M6 : BdM U.heap.size w6 (.slice (some ⟨g6, 0, none⟩) (n + 1) cap6) (([] ++ l) ++ [⟨nm, ty⟩]) := BdM.push (W := w5) (v := (.slice (some ⟨gg, 0, none⟩) n cap)) hv5 hv1 (by simpa [HN.out] using hown) hgrow (by rcases hat with h | h; exact .inl (h.symm ▸ rfl); exact .inr (by rw [h]; rfl))
          have RF := Lib.hid (show BdsRep (fun _ => True) w6 (l ++ [⟨nm, ty⟩]) (.slice (some ⟨g6, 0, none⟩) (n + 1) cap6) from M6.rep)
          have hb56 : Below U.heap.size w5 w6 := Below.grown (Below.refl _ _) hgrow (by omega) (fun k hk => (ho5.lt k hk).1)
          have fC2 := Lib.hid (fC.out.trans (hb56.mono hlg))
          have fB2 : w6.heap[w.heap.size]? = some (.cells #[.int .i64 tk, .slice ta tn tq] 31 (0, 0)) := (hb56.block _ (by omega)).trans fB
          refine hK.out _ _ ⟨blk_cell fB2 (o := 0) rfl, blk_cell fB2 (o := 1) rfl⟩ (fun hHeld6 => ?_)
          clear hK K hHeld5 fB fC fN ho5 hv5 hv1 hown hgrow hat M6 hb56 MM
          try simp only [oM7, hwA]
          have fC := fC2
          have fB := fB2
          clear fC2 fB2
          refine hwt 8 oM8 (.slice (some ⟨g6, 0, none⟩) (n + 1) cap6) hHeld6 ?_ ?_
          · intro w' hSw; dsimp only [oM8]; go_simp
          try simp only [oM8, hwA]
          refine wpAnyH_done (by kernel_rfl) ?_ _
          refine NoPanic.normal ?_
          clear hHeld6
          go_wp2_with fail
          go_ret
          exact ⟨_, _, _, rfl, RF.out, fC.out⟩
  · skip
    dsimp only [oM6]
    go_simp
    (try go_wp2_with fail)
    have fN2 : (U.alloc (.cells #[.string nm, .int .i64 tk, .slice ta tn tq] 66)).heap[U.heap.size]? = some (.cells #[.string nm, .int .i64 tk, .slice ta tn tq] 66 (0, 0)) := blk_new rfl
    have fB2 := blk_below fB (bal1 (o := .cells #[.string nm, .int .i64 tk, .slice ta tn tq] 66))
    have fC2 := Lib.hid (bstep fC.out (bal1 (o := .cells #[.string nm, .int .i64 tk, .slice ta tn tq] 66)))
    have hzW2 : (U.alloc (.cells #[.string nm, .int .i64 tk, .slice ta tn tq] 66)).heap.size = U.heap.size + 1 := by simp
    refine hK.out _ _ ⟨blk_cell fB2 (o := 0) rfl, blk_cell fB2 (o := 1) rfl⟩ (fun hHeld1 => ?_)
    clear hK K hHeld0 fB fC
    try simp only [oM6, hwA]
    obtain ⟨X1, hWW⟩ : ∃ X : World, X = (U.alloc (.cells #[.string nm, .int .i64 tk, .slice ta tn tq] 66)) := ⟨_, rfl⟩
    rw [← hWW] at fB2 fC2 fN2 hzW2 hHeld1 ⊢
    clear hWW
    have fB := fB2
    have fC := fC2
    have fN := fN2
    clear fB2 fC2 fN2
    have zX1a : U.heap.size + 1 ≤ X1.heap.size := by omega
    have zX1b : X1.heap.size ≤ U.heap.size + 1 := by omega
    clear hzW2
    refine hwr 0 oM0 (fun K hK => ?_)
    · skip
      dsimp only [oM0]
      go_simp
      (try go_wp2_with fail)
      have fE2 : (X1.alloc (.cells #[] 66)).heap[X1.heap.size]? = some (.cells #[] 66 (0, 0)) := blk_new rfl
      have fN2 := blk_below fN (bal1 (o := .cells #[] 66))
      have fB2 := blk_below fB (bal1 (o := .cells #[] 66))
      have fC2 := Lib.hid (bstep fC.out (bal1 (o := .cells #[] 66)))
      have hzW2 : (X1.alloc (.cells #[] 66)).heap.size = X1.heap.size + 1 := by simp
      refine hK.out _ _ ⟨blk_cell fB2 (o := 0) rfl, blk_cell fB2 (o := 1) rfl⟩ (fun hHeld7 => ?_)
      clear hK K hHeld1 fB fC fN
      try simp only [oM0, hwA]
      obtain ⟨X7, hWW⟩ : ∃ X : World, X = (X1.alloc (.cells #[] 66)) := ⟨_, rfl⟩
      rw [← hWW] at fB2 fC2 fE2 fN2 hzW2 hHeld7 ⊢
      clear hWW
      have fB := fB2
      have fC := fC2
      have fE := fE2
      have fN := fN2
      clear fB2 fC2 fE2 fN2
      have zX7a : X1.heap.size + 1 ≤ X7.heap.size := by omega
      have zX7b : X7.heap.size ≤ X1.heap.size + 1 := by omega
      clear hzW2
      refine hwr 2 oM2 (fun K hK => ?_)
      · skip
        obtain ⟨xs0, ho0, hv0⟩ : BdM X1.heap.size X7 (.slice (some ⟨X1.heap.size, 0, none⟩) 0 0) [] := BdM.nil (Nat.le_refl _) fE rfl
        obtain rfl : xs0 = [] := hv0
        have hlg : w.heap.size ≤ X1.heap.size := by have := fC.out.size; omega
        obtain ⟨ad1', xs, ha1, Y1, Y2, Y3⟩ : ∃ ad' xs, some ad = some ad' ∧ BdVals (fun b => (Value.slice (some ⟨X1.heap.size, 0, none⟩) 0 0).ownBlock ≠ some b) X7 l xs ∧ (∀ j u, xs[j]? = some u → X7.cell? (ad'.add j) = some u) ∧ ∀ u ∈ xs, u.oneCell' = true := by
          have h0 := (HY.out.below fC.out).move (.weaken (G := fun b => (Value.slice (some ⟨X1.heap.size, 0, none⟩) 0 0).ownBlock ≠ some b) fun b hb _ e => by simp [Value.ownBlock] at e; omega)
          exact h0.cellsAny
        obtain rfl : ad = ad1' := by simpa using ha1
        have hxl : xs.length = n * 3 := by rw [Y1.len, HN.out]
        refine step_append_lies _ (by rfl) (.tmp 7) (.tmp 8) 57 (by rfl) X1.heap.size 66 i0 _ 3 48 Try.underlying57 HI.out Z0.out Z1.out Z2.out rfl (by omega) (.slice (some ⟨X1.heap.size, 0, none⟩) 0 0) 0 [] (by rfl) ho0 ad n q xs (by rfl) hxl Y2 Y3 hn1 (by unfold maxLen; omega) (by omega) (by omega) _ rfl ?_
        intro gg cap w5 hown hgrow hat hlt2
        simp only [Nat.zero_add] at hown ⊢
        have MM2 := Lib.hid (show BdM X1.heap.size w5 (.slice (some ⟨gg, 0, none⟩) n cap) ([] ++ l) from BdM.push (W := X7) (v := (.slice (some ⟨X1.heap.size, 0, none⟩) 0 0)) (bs := []) (cs := l) (xs := []) (ys := xs) rfl Y1 (by simpa [HN.out] using hown) hgrow (by rcases hat with h | h; exact .inl (h.symm ▸ rfl); exact .inr (by rw [h]; rfl)))
        have hb45 : Below X1.heap.size X7 w5 := Below.grown (Below.refl _ _) hgrow (by omega) (fun k hk => by simp [Value.ownBlock] at hk; omega)
        have fC2 := Lib.hid (fC.out.trans (hb45.mono hlg))
        have fB2 : w5.heap[w.heap.size]? = some (.cells #[.int .i64 tk, .slice ta tn tq] 31 (0, 0)) := (hb45.block _ (by omega)).trans fB
        have fN2 : w5.heap[U.heap.size]? = some (.cells #[.string nm, .int .i64 tk, .slice ta tn tq] 66 (0, 0)) := (hgrow.block _ (blk_lt fN) (by simp [Value.ownBlock]; omega)).trans fN
        have z5 : X7.heap.size ≤ w5.heap.size := hgrow.size
        refine hK.out _ _ ⟨blk_cell fB2 (o := 0) rfl, blk_cell fB2 (o := 1) rfl⟩ (fun hHeld8 => ?_)
        clear hK K hHeld7 fB fC fE fN ho0 Y1 Y2 Y3 hown hgrow hat ha1 hxl hb45
        try simp only [oM2, hwA]
        have MM := MM2
        have fC := fC2
        have fB := fB2
        have fN := fN2
        clear MM2 fC2 fB2 fN2
        refine hwr 7 oM7 (fun K hK => ?_)
        · skip
          obtain ⟨xs5, ho5, hv5⟩ := MM.out
          have hv1 : BdVals (fun b => (Value.slice (some ⟨gg, 0, none⟩) n cap).ownBlock ≠ some b) w5 [⟨nm, ty⟩] [.string nm, .int .i64 tk, .slice ta tn tq] := bdvals_one hnm ((HT.out.below fC.out).move (.weaken fun b hb _ e => by have := (ho5.lt b e).1; omega))
          refine step_append_lies _ (by rfl) (.tmp 9) (.tmp 13) 57 (by rfl) X1.heap.size 66 i0 _ 3 48 Try.underlying57 HI.out Z0.out Z1.out Z2.out rfl (by omega) (.slice (some ⟨gg, 0, none⟩) n cap) n xs5 (by rfl) (by simpa [HN.out] using ho5) ⟨U.heap.size, 0, none⟩ 1 1 [.string nm, .int .i64 tk, .slice ta tn tq] (by rfl) (by rfl) (World.news_of_block (cs := #[.string nm, .int .i64 tk, .slice ta tn tq]) (t := 66) (fr := (0, 0)) fN) (by simp [Value.oneCell']) (by omega) (by unfold maxLen; omega) (by omega) (by omega) _ rfl ?_
          intro g6 cap6 w6 hown hgrow hat hlt3
          have M6 : BdM X1.heap.size w6 (.slice (some ⟨g6, 0, none⟩) (n + 1) cap6) (([] ++ l) ++ [⟨nm, ty⟩]) := BdM.push (W := w5) (v := (.slice (some ⟨gg, 0, none⟩) n cap)) hv5 hv1 (by simpa [HN.out] using hown) hgrow (by rcases hat with h | h; exact .inl (h.symm ▸ rfl); exact .inr (by rw [h]; rfl))
          have RF := Lib.hid (show BdsRep (fun _ => True) w6 (l ++ [⟨nm, ty⟩]) (.slice (some ⟨g6, 0, none⟩) (n + 1) cap6) from M6.rep)
          have hb56 : Below X1.heap.size w5 w6 := Below.grown (Below.refl _ _) hgrow (by omega) (fun k hk => (ho5.lt k hk).1)
          have fC2 := Lib.hid (fC.out.trans (hb56.mono hlg))
          have fB2 : w6.heap[w.heap.size]? = some (.cells #[.int .i64 tk, .slice ta tn tq] 31 (0, 0)) := (hb56.block _ (by omega)).trans fB
          refine hK.out _ _ ⟨blk_cell fB2 (o := 0) rfl, blk_cell fB2 (o := 1) rfl⟩ (fun hHeld9 => ?_)
          clear hK K hHeld8 fB fC fN ho5 hv5 hv1 hown hgrow hat M6 hb56 MM
          try simp only [oM7, hwA]
          have fC := fC2
          have fB := fB2
          clear fC2 fB2
          refine hwt 8 oM8 (.slice (some ⟨g6, 0, none⟩) (n + 1) cap6) hHeld9 ?_ ?_
          · intro w' hSw; dsimp only [oM8]; go_simp
          try simp only [oM8, hwA]
          refine wpAnyH_done (by kernel_rfl) ?_ _
          refine NoPanic.normal ?_
          clear hHeld9
          go_wp2_with fail
          go_ret
          exact ⟨_, _, _, rfl, RF.out, fC.out⟩
set_option maxHeartbeats 4000000 in
theorem specL3MoreNil (F G : Nat → Prop) (nm : ByteArray) (ty : Ty) (tk : Int) (ta : Option Addr) (tn tq : Nat) (w : World) (hnm : nm.size ≤ maxLen) (ht : TyRep G w ty (.agg #[.int .i64 tk, .slice ta tn tq])) :
    Calls Try.prog 32 #[.slice none 0 0, .string nm, .agg #[.int .i64 tk, .slice ta tn tq]] w (RetC ([] ++ [⟨nm, ty⟩]) w) := by
  obtain ⟨i0, hi, hz0, hz1, hz2⟩ := info_parts Try.infoBdC
  have Z0 := Lib.hid hz0
  have Z1 := Lib.hid hz1
  have Z2 := Lib.hid hz2
  have HI := Lib.hid hi
  have HN := Lib.hid (show ([] : List Bd).length = 0 from rfl)
  have HT := Lib.hid ht.old
  clear hi hz0 hz1 hz2 ht
  go_enter Try.func32, Try.ntmps32
  go_wp2_with fail
  have fB : (w.alloc (.cells #[.int .i64 tk, .slice ta tn tq] 31)).heap[w.heap.size]? = some (.cells #[.int .i64 tk, .slice ta tn tq] 31 (0, 0)) := blk_new rfl
  have fC := Lib.hid (show Below w.heap.size w (w.alloc (.cells #[.int .i64 tk, .slice ta tn tq] 31)) from bal1)
  refine wp_region_noPanic ?_
  refine wp_region_held_drew (S := fun w' => w'.cell? ⟨w.heap.size, 0, none⟩ = some (.int .i64 tk) ∧ w'.cell? ⟨w.heap.size, 1, none⟩ = some (.slice ta tn tq)) (by kernel_rfl) ?_ (fun hHeld0 => ?_)
  · exact ⟨dcell (blk_cell fB (o := 0) rfl), dcell (blk_cell fB (o := 1) rfl)⟩
  obtain ⟨U, hU⟩ : ∃ X : World, X = World.drew (w.alloc (.cells #[.int .i64 tk, .slice ta tn tq] 31)) := ⟨_, rfl⟩
  have fB' : U.heap[w.heap.size]? = some (.cells #[.int .i64 tk, .slice ta tn tq] 31 (0, 0)) := by rw [hU]; exact fB
  have fC' := Lib.hid (show Below w.heap.size w U from by rw [hU]; exact fC.out.drew)
  have zU : U.heap.size = w.heap.size + 1 := by rw [hU]; simp
  rw [← hU] at hHeld0 ⊢
  have zUa : w.heap.size + 1 ≤ U.heap.size := by omega
  have zUb : U.heap.size ≤ w.heap.size + 1 := by omega
  clear zU
  clear hU fB fC
  have fB := fB'
  have fC := fC'
  clear fB' fC'
  refine hwt 1 oM1 (.slice none 0 0) hHeld0 ?_ ?_
  · intro w' hSw; dsimp only [oM1]; go_simp
  try simp only [oM1, hwA]
  refine hwt 3 oM3 (.string nm) hHeld0 ?_ ?_
  · intro w' hSw; dsimp only [oM3]; go_simp
  try simp only [oM3, hwA]
  refine hwt 4 oM4 (.agg #[.int .i64 tk, .slice ta tn tq]) hHeld0 ?_ ?_
  · intro w' hSw; dsimp only [oM4]; go_simp
  try simp only [oM4, hwA]
  refine hwt 5 oM5 (.agg #[.string nm, .int .i64 tk, .slice ta tn tq]) hHeld0 ?_ ?_
  · intro w' hSw; dsimp only [oM5]; go_simp
  try simp only [oM5, hwA]
  refine wpAnyH_ready (rs := [0, 6]) (by kernel_rfl) (by simp) ?_
  refine (AllReadyH.cons (o := oM0) rfl (fun K hK => ?_) (AllReadyH.cons (o := oM6) rfl (fun K hK => ?_) AllReadyH.nil))
  · skip
    dsimp only [oM0]
    go_simp
    (try go_wp2_with fail)
    have fE2 : (U.alloc (.cells #[] 66)).heap[U.heap.size]? = some (.cells #[] 66 (0, 0)) := blk_new rfl
    have fB2 := blk_below fB (bal1 (o := .cells #[] 66))
    have fC2 := Lib.hid (bstep fC.out (bal1 (o := .cells #[] 66)))
    have hzW2 : (U.alloc (.cells #[] 66)).heap.size = U.heap.size + 1 := by simp
    refine hK.out _ _ ⟨blk_cell fB2 (o := 0) rfl, blk_cell fB2 (o := 1) rfl⟩ (fun hHeld10 => ?_)
    clear hK K hHeld0 fB fC
    try simp only [oM0, hwA]
    obtain ⟨X10, hWW⟩ : ∃ X : World, X = (U.alloc (.cells #[] 66)) := ⟨_, rfl⟩
    rw [← hWW] at fB2 fC2 fE2 hzW2 hHeld10 ⊢
    clear hWW
    have fB := fB2
    have fC := fC2
    have fE := fE2
    clear fB2 fC2 fE2
    have zX10a : U.heap.size + 1 ≤ X10.heap.size := by omega
    have zX10b : X10.heap.size ≤ U.heap.size + 1 := by omega
    clear hzW2
    refine wpAnyH_ready (rs := [2, 6]) (by kernel_rfl) (by simp) ?_
    refine (AllReadyH.cons (o := oM2) rfl (fun K hK => ?_) (AllReadyH.cons (o := oM6) rfl (fun K hK => ?_) AllReadyH.nil))
    · skip
      obtain ⟨xs0, ho0, hv0⟩ : BdM U.heap.size X10 (.slice (some ⟨U.heap.size, 0, none⟩) 0 0) [] := BdM.nil (Nat.le_refl _) fE rfl
      obtain rfl : xs0 = [] := hv0
      have hlg : w.heap.size ≤ U.heap.size := by have := fC.out.size; omega
      refine step_append_none () (by rfl) (.tmp 7) (.tmp 8) 57 (by rfl) U.heap.size 66 i0 3 Try.underlying57 HI.out (.slice (some ⟨U.heap.size, 0, none⟩) 0 0) 0 [] (by rfl) ho0 (by rfl) ?_
      have MM2 := Lib.hid (show BdM U.heap.size X10 (.slice (some ⟨U.heap.size, 0, none⟩) 0 0) [] from ⟨[], ho0, rfl⟩)
      refine hK.out _ _ ⟨blk_cell fB (o := 0) rfl, blk_cell fB (o := 1) rfl⟩ (fun hHeld11 => ?_)
      clear hK K hHeld10 fE ho0
      try simp only [oM2, hwA]
      have MM := MM2
      clear MM2
      refine hwr 6 oM6 (fun K hK => ?_)
      · skip
        dsimp only [oM6]
        go_simp
        (try go_wp2_with fail)
        have fN2 : (X10.alloc (.cells #[.string nm, .int .i64 tk, .slice ta tn tq] 66)).heap[X10.heap.size]? = some (.cells #[.string nm, .int .i64 tk, .slice ta tn tq] 66 (0, 0)) := blk_new rfl
        have MM2 := Lib.hid (MM.out.below (bal1 (o := .cells #[.string nm, .int .i64 tk, .slice ta tn tq] 66)))
        have fB2 := blk_below fB (bal1 (o := .cells #[.string nm, .int .i64 tk, .slice ta tn tq] 66))
        have fC2 := Lib.hid (bstep fC.out (bal1 (o := .cells #[.string nm, .int .i64 tk, .slice ta tn tq] 66)))
        have hzW2 : (X10.alloc (.cells #[.string nm, .int .i64 tk, .slice ta tn tq] 66)).heap.size = X10.heap.size + 1 := by simp
        refine hK.out _ _ ⟨blk_cell fB2 (o := 0) rfl, blk_cell fB2 (o := 1) rfl⟩ (fun hHeld12 => ?_)
        clear hK K hHeld11 fB fC MM
        try simp only [oM6, hwA]
        obtain ⟨X12, hWW⟩ : ∃ X : World, X = (X10.alloc (.cells #[.string nm, .int .i64 tk, .slice ta tn tq] 66)) := ⟨_, rfl⟩
        rw [← hWW] at fB2 fC2 fN2 MM2 hzW2 hHeld12 ⊢
        clear hWW
        have fB := fB2
        have fC := fC2
        have fN := fN2
        have MM := MM2
        clear fB2 fC2 fN2 MM2
        have zX12a : X10.heap.size + 1 ≤ X12.heap.size := by omega
        have zX12b : X12.heap.size ≤ X10.heap.size + 1 := by omega
        clear hzW2
        refine hwr 7 oM7 (fun K hK => ?_)
        · skip
          obtain ⟨xs5, ho5, hv5⟩ := MM.out
          have hv1 : BdVals (fun b => (Value.slice (some ⟨U.heap.size, 0, none⟩) 0 0).ownBlock ≠ some b) X12 [⟨nm, ty⟩] [.string nm, .int .i64 tk, .slice ta tn tq] := bdvals_one hnm ((HT.out.below fC.out).move (.weaken fun b hb _ e => by have := (ho5.lt b e).1; omega))
          refine step_append_lies _ (by rfl) (.tmp 9) (.tmp 13) 57 (by rfl) U.heap.size 66 i0 _ 3 48 Try.underlying57 HI.out Z0.out Z1.out Z2.out rfl (by omega) (.slice (some ⟨U.heap.size, 0, none⟩) 0 0) 0 xs5 (by rfl) (by simpa [HN.out] using ho5) ⟨X10.heap.size, 0, none⟩ 1 1 [.string nm, .int .i64 tk, .slice ta tn tq] (by rfl) (by rfl) (World.news_of_block (cs := #[.string nm, .int .i64 tk, .slice ta tn tq]) (t := 66) (fr := (0, 0)) fN) (by simp [Value.oneCell']) (by omega) (by unfold maxLen; omega) (by omega) (by omega) _ rfl ?_
          intro g6 cap6 w6 hown hgrow hat hlt3
          have M6 : BdM U.heap.size w6 (.slice (some ⟨g6, 0, none⟩) (0 + 1) cap6) ([] ++ [⟨nm, ty⟩]) := BdM.push (W := X12) (v := (.slice (some ⟨U.heap.size, 0, none⟩) 0 0)) hv5 hv1 (by simpa [HN.out] using hown) hgrow (by rcases hat with h | h; exact .inl (h.symm ▸ rfl); exact .inr (by rw [h]; rfl))
          have RF := Lib.hid (show BdsRep (fun _ => True) w6 ([] ++ [⟨nm, ty⟩]) (.slice (some ⟨g6, 0, none⟩) (0 + 1) cap6) from M6.rep)
          have hb56 : Below U.heap.size X12 w6 := Below.grown (Below.refl _ _) hgrow (by omega) (fun k hk => (ho5.lt k hk).1)
          have fC2 := Lib.hid (fC.out.trans (hb56.mono hlg))
          have fB2 : w6.heap[w.heap.size]? = some (.cells #[.int .i64 tk, .slice ta tn tq] 31 (0, 0)) := (hb56.block _ (by omega)).trans fB
          refine hK.out _ _ ⟨blk_cell fB2 (o := 0) rfl, blk_cell fB2 (o := 1) rfl⟩ (fun hHeld13 => ?_)
          clear hK K hHeld12 fB fC fN ho5 hv5 hv1 hown hgrow hat M6 hb56 MM
          try simp only [oM7, hwA]
          have fC := fC2
          have fB := fB2
          clear fC2 fB2
          refine hwt 8 oM8 (.slice (some ⟨g6, 0, none⟩) (0 + 1) cap6) hHeld13 ?_ ?_
          · intro w' hSw; dsimp only [oM8]; go_simp
          try simp only [oM8, hwA]
          refine wpAnyH_done (by kernel_rfl) ?_ _
          refine NoPanic.normal ?_
          clear hHeld13
          go_wp2_with fail
          go_ret
          exact ⟨_, _, _, rfl, RF.out, fC.out⟩
    · skip
      dsimp only [oM6]
      go_simp
      (try go_wp2_with fail)
      have fN2 : (X10.alloc (.cells #[.string nm, .int .i64 tk, .slice ta tn tq] 66)).heap[X10.heap.size]? = some (.cells #[.string nm, .int .i64 tk, .slice ta tn tq] 66 (0, 0)) := blk_new rfl
      have fE2 := blk_below fE (bal1 (o := .cells #[.string nm, .int .i64 tk, .slice ta tn tq] 66))
      have fB2 := blk_below fB (bal1 (o := .cells #[.string nm, .int .i64 tk, .slice ta tn tq] 66))
      have fC2 := Lib.hid (bstep fC.out (bal1 (o := .cells #[.string nm, .int .i64 tk, .slice ta tn tq] 66)))
      have hzW2 : (X10.alloc (.cells #[.string nm, .int .i64 tk, .slice ta tn tq] 66)).heap.size = X10.heap.size + 1 := by simp
      refine hK.out _ _ ⟨blk_cell fB2 (o := 0) rfl, blk_cell fB2 (o := 1) rfl⟩ (fun hHeld11 => ?_)
      clear hK K hHeld10 fB fC fE
      try simp only [oM6, hwA]
      obtain ⟨X11, hWW⟩ : ∃ X : World, X = (X10.alloc (.cells #[.string nm, .int .i64 tk, .slice ta tn tq] 66)) := ⟨_, rfl⟩
      rw [← hWW] at fB2 fC2 fE2 fN2 hzW2 hHeld11 ⊢
      clear hWW
      have fB := fB2
      have fC := fC2
      have fE := fE2
      have fN := fN2
      clear fB2 fC2 fE2 fN2
      have zX11a : X10.heap.size + 1 ≤ X11.heap.size := by omega
      have zX11b : X11.heap.size ≤ X10.heap.size + 1 := by omega
      clear hzW2
      refine hwr 2 oM2 (fun K hK => ?_)
      · skip
        obtain ⟨xs0, ho0, hv0⟩ : BdM U.heap.size X11 (.slice (some ⟨U.heap.size, 0, none⟩) 0 0) [] := BdM.nil (Nat.le_refl _) fE rfl
        obtain rfl : xs0 = [] := hv0
        have hlg : w.heap.size ≤ U.heap.size := by have := fC.out.size; omega
        refine step_append_none () (by rfl) (.tmp 7) (.tmp 8) 57 (by rfl) U.heap.size 66 i0 3 Try.underlying57 HI.out (.slice (some ⟨U.heap.size, 0, none⟩) 0 0) 0 [] (by rfl) ho0 (by rfl) ?_
        have MM2 := Lib.hid (show BdM U.heap.size X11 (.slice (some ⟨U.heap.size, 0, none⟩) 0 0) [] from ⟨[], ho0, rfl⟩)
        refine hK.out _ _ ⟨blk_cell fB (o := 0) rfl, blk_cell fB (o := 1) rfl⟩ (fun hHeld14 => ?_)
        clear hK K hHeld11 fE ho0
        try simp only [oM2, hwA]
        have MM := MM2
        clear MM2
        refine hwr 7 oM7 (fun K hK => ?_)
        · skip
          obtain ⟨xs5, ho5, hv5⟩ := MM.out
          have hv1 : BdVals (fun b => (Value.slice (some ⟨U.heap.size, 0, none⟩) 0 0).ownBlock ≠ some b) X11 [⟨nm, ty⟩] [.string nm, .int .i64 tk, .slice ta tn tq] := bdvals_one hnm ((HT.out.below fC.out).move (.weaken fun b hb _ e => by have := (ho5.lt b e).1; omega))
          refine step_append_lies _ (by rfl) (.tmp 9) (.tmp 13) 57 (by rfl) U.heap.size 66 i0 _ 3 48 Try.underlying57 HI.out Z0.out Z1.out Z2.out rfl (by omega) (.slice (some ⟨U.heap.size, 0, none⟩) 0 0) 0 xs5 (by rfl) (by simpa [HN.out] using ho5) ⟨X10.heap.size, 0, none⟩ 1 1 [.string nm, .int .i64 tk, .slice ta tn tq] (by rfl) (by rfl) (World.news_of_block (cs := #[.string nm, .int .i64 tk, .slice ta tn tq]) (t := 66) (fr := (0, 0)) fN) (by simp [Value.oneCell']) (by omega) (by unfold maxLen; omega) (by omega) (by omega) _ rfl ?_
          intro g6 cap6 w6 hown hgrow hat hlt3
          have M6 : BdM U.heap.size w6 (.slice (some ⟨g6, 0, none⟩) (0 + 1) cap6) ([] ++ [⟨nm, ty⟩]) := BdM.push (W := X11) (v := (.slice (some ⟨U.heap.size, 0, none⟩) 0 0)) hv5 hv1 (by simpa [HN.out] using hown) hgrow (by rcases hat with h | h; exact .inl (h.symm ▸ rfl); exact .inr (by rw [h]; rfl))
          have RF := Lib.hid (show BdsRep (fun _ => True) w6 ([] ++ [⟨nm, ty⟩]) (.slice (some ⟨g6, 0, none⟩) (0 + 1) cap6) from M6.rep)
          have hb56 : Below U.heap.size X11 w6 := Below.grown (Below.refl _ _) hgrow (by omega) (fun k hk => (ho5.lt k hk).1)
          have fC2 := Lib.hid (fC.out.trans (hb56.mono hlg))
          have fB2 : w6.heap[w.heap.size]? = some (.cells #[.int .i64 tk, .slice ta tn tq] 31 (0, 0)) := (hb56.block _ (by omega)).trans fB
          refine hK.out _ _ ⟨blk_cell fB2 (o := 0) rfl, blk_cell fB2 (o := 1) rfl⟩ (fun hHeld15 => ?_)
          clear hK K hHeld14 fB fC fN ho5 hv5 hv1 hown hgrow hat M6 hb56 MM
          try simp only [oM7, hwA]
          have fC := fC2
          have fB := fB2
          clear fC2 fB2
          refine hwt 8 oM8 (.slice (some ⟨g6, 0, none⟩) (0 + 1) cap6) hHeld15 ?_ ?_
          · intro w' hSw; dsimp only [oM8]; go_simp
          try simp only [oM8, hwA]
          refine wpAnyH_done (by kernel_rfl) ?_ _
          refine NoPanic.normal ?_
          clear hHeld15
          go_wp2_with fail
          go_ret
          exact ⟨_, _, _, rfl, RF.out, fC.out⟩
  · skip
    dsimp only [oM6]
    go_simp
    (try go_wp2_with fail)
    have fN2 : (U.alloc (.cells #[.string nm, .int .i64 tk, .slice ta tn tq] 66)).heap[U.heap.size]? = some (.cells #[.string nm, .int .i64 tk, .slice ta tn tq] 66 (0, 0)) := blk_new rfl
    have fB2 := blk_below fB (bal1 (o := .cells #[.string nm, .int .i64 tk, .slice ta tn tq] 66))
    have fC2 := Lib.hid (bstep fC.out (bal1 (o := .cells #[.string nm, .int .i64 tk, .slice ta tn tq] 66)))
    have hzW2 : (U.alloc (.cells #[.string nm, .int .i64 tk, .slice ta tn tq] 66)).heap.size = U.heap.size + 1 := by simp
    refine hK.out _ _ ⟨blk_cell fB2 (o := 0) rfl, blk_cell fB2 (o := 1) rfl⟩ (fun hHeld10 => ?_)
    clear hK K hHeld0 fB fC
    try simp only [oM6, hwA]
    obtain ⟨X10, hWW⟩ : ∃ X : World, X = (U.alloc (.cells #[.string nm, .int .i64 tk, .slice ta tn tq] 66)) := ⟨_, rfl⟩
    rw [← hWW] at fB2 fC2 fN2 hzW2 hHeld10 ⊢
    clear hWW
    have fB := fB2
    have fC := fC2
    have fN := fN2
    clear fB2 fC2 fN2
    have zX10a : U.heap.size + 1 ≤ X10.heap.size := by omega
    have zX10b : X10.heap.size ≤ U.heap.size + 1 := by omega
    clear hzW2
    refine hwr 0 oM0 (fun K hK => ?_)
    · skip
      dsimp only [oM0]
      go_simp
      (try go_wp2_with fail)
      have fE2 : (X10.alloc (.cells #[] 66)).heap[X10.heap.size]? = some (.cells #[] 66 (0, 0)) := blk_new rfl
      have fN2 := blk_below fN (bal1 (o := .cells #[] 66))
      have fB2 := blk_below fB (bal1 (o := .cells #[] 66))
      have fC2 := Lib.hid (bstep fC.out (bal1 (o := .cells #[] 66)))
      have hzW2 : (X10.alloc (.cells #[] 66)).heap.size = X10.heap.size + 1 := by simp
      refine hK.out _ _ ⟨blk_cell fB2 (o := 0) rfl, blk_cell fB2 (o := 1) rfl⟩ (fun hHeld16 => ?_)
      clear hK K hHeld10 fB fC fN
      try simp only [oM0, hwA]
      obtain ⟨X16, hWW⟩ : ∃ X : World, X = (X10.alloc (.cells #[] 66)) := ⟨_, rfl⟩
      rw [← hWW] at fB2 fC2 fE2 fN2 hzW2 hHeld16 ⊢
      clear hWW
      have fB := fB2
      have fC := fC2
      have fE := fE2
      have fN := fN2
      clear fB2 fC2 fE2 fN2
      have zX16a : X10.heap.size + 1 ≤ X16.heap.size := by omega
      have zX16b : X16.heap.size ≤ X10.heap.size + 1 := by omega
      clear hzW2
      refine hwr 2 oM2 (fun K hK => ?_)
      · skip
        obtain ⟨xs0, ho0, hv0⟩ : BdM X10.heap.size X16 (.slice (some ⟨X10.heap.size, 0, none⟩) 0 0) [] := BdM.nil (Nat.le_refl _) fE rfl
        obtain rfl : xs0 = [] := hv0
        have hlg : w.heap.size ≤ X10.heap.size := by have := fC.out.size; omega
        refine step_append_none () (by rfl) (.tmp 7) (.tmp 8) 57 (by rfl) X10.heap.size 66 i0 3 Try.underlying57 HI.out (.slice (some ⟨X10.heap.size, 0, none⟩) 0 0) 0 [] (by rfl) ho0 (by rfl) ?_
        have MM2 := Lib.hid (show BdM X10.heap.size X16 (.slice (some ⟨X10.heap.size, 0, none⟩) 0 0) [] from ⟨[], ho0, rfl⟩)
        refine hK.out _ _ ⟨blk_cell fB (o := 0) rfl, blk_cell fB (o := 1) rfl⟩ (fun hHeld17 => ?_)
        clear hK K hHeld16 fE ho0
        try simp only [oM2, hwA]
        have MM := MM2
        clear MM2
        refine hwr 7 oM7 (fun K hK => ?_)
        · skip
          obtain ⟨xs5, ho5, hv5⟩ := MM.out
          have hv1 : BdVals (fun b => (Value.slice (some ⟨X10.heap.size, 0, none⟩) 0 0).ownBlock ≠ some b) X16 [⟨nm, ty⟩] [.string nm, .int .i64 tk, .slice ta tn tq] := bdvals_one hnm ((HT.out.below fC.out).move (.weaken fun b hb _ e => by have := (ho5.lt b e).1; omega))
          refine step_append_lies _ (by rfl) (.tmp 9) (.tmp 13) 57 (by rfl) X10.heap.size 66 i0 _ 3 48 Try.underlying57 HI.out Z0.out Z1.out Z2.out rfl (by omega) (.slice (some ⟨X10.heap.size, 0, none⟩) 0 0) 0 xs5 (by rfl) (by simpa [HN.out] using ho5) ⟨U.heap.size, 0, none⟩ 1 1 [.string nm, .int .i64 tk, .slice ta tn tq] (by rfl) (by rfl) (World.news_of_block (cs := #[.string nm, .int .i64 tk, .slice ta tn tq]) (t := 66) (fr := (0, 0)) fN) (by simp [Value.oneCell']) (by omega) (by unfold maxLen; omega) (by omega) (by omega) _ rfl ?_
          intro g6 cap6 w6 hown hgrow hat hlt3
          have M6 : BdM X10.heap.size w6 (.slice (some ⟨g6, 0, none⟩) (0 + 1) cap6) ([] ++ [⟨nm, ty⟩]) := BdM.push (W := X16) (v := (.slice (some ⟨X10.heap.size, 0, none⟩) 0 0)) hv5 hv1 (by simpa [HN.out] using hown) hgrow (by rcases hat with h | h; exact .inl (h.symm ▸ rfl); exact .inr (by rw [h]; rfl))
          have RF := Lib.hid (show BdsRep (fun _ => True) w6 ([] ++ [⟨nm, ty⟩]) (.slice (some ⟨g6, 0, none⟩) (0 + 1) cap6) from M6.rep)
          have hb56 : Below X10.heap.size X16 w6 := Below.grown (Below.refl _ _) hgrow (by omega) (fun k hk => (ho5.lt k hk).1)
          have fC2 := Lib.hid (fC.out.trans (hb56.mono hlg))
          have fB2 : w6.heap[w.heap.size]? = some (.cells #[.int .i64 tk, .slice ta tn tq] 31 (0, 0)) := (hb56.block _ (by omega)).trans fB
          refine hK.out _ _ ⟨blk_cell fB2 (o := 0) rfl, blk_cell fB2 (o := 1) rfl⟩ (fun hHeld18 => ?_)
          clear hK K hHeld17 fB fC fN ho5 hv5 hv1 hown hgrow hat M6 hb56 MM
          try simp only [oM7, hwA]
          have fC := fC2
          have fB := fB2
          clear fC2 fB2
          refine hwt 8 oM8 (.slice (some ⟨g6, 0, none⟩) (0 + 1) cap6) hHeld18 ?_ ?_
          · intro w' hSw; dsimp only [oM8]; go_simp
          try simp only [oM8, hwA]
          refine wpAnyH_done (by kernel_rfl) ?_ _
          refine NoPanic.normal ?_
          clear hHeld18
          go_wp2_with fail
          go_ret
          exact ⟨_, _, _, rfl, RF.out, fC.out⟩
end Go.Proofs.Ytkhmkohgnikcmaa
namespace Go.Proofs.Ytkhmkohgnikcmaa
open Go.RowKit
set_option linter.unusedVariables false
set_option linter.unusedSimpArgs false
set_option maxRecDepth 100000

theorem look_ty {l : List Bd} {nm : ByteArray} (h : ∀ b ∈ l, b.ty.valid = true) : ∀ n, ((lookN l nm n).map Ty.toS).map S.ty = lookN l nm n
  | 0 => rfl
  | n + 1 => by
    unfold lookN
    cases hb : l[n]? with
    | none => exact look_ty h n
    | some b =>
      dsimp only
      split
      · simp [Ty.toS_ty (h b (List.mem_of_getElem? hb))]
      · exact look_ty h n
theorem lam_none {nm : ByteArray} {u lb : Int} {ty src : Ty} {t1 : Tm} {l : List Bd} (h : t1.castS (l ++ [⟨nm, ty⟩]) = none) : (Tm.mk 5 nm u ty src lb [t1]).castS l = none := by
  rw [Tm.castS, if_neg (by omega), if_neg (by omega), if_neg (by omega), if_pos rfl]
  simp [Tm.castsS, h]
theorem lam_some {nm : ByteArray} {u lb : Int} {ty src : Ty} {t1 : Tm} {l : List Bd} {h1 : S} (hv : ty.valid = true) (h : t1.castS (l ++ [⟨nm, ty⟩]) = some h1) : ((Tm.mk 5 nm u ty src lb [t1]).castS l).map S.ty = if (Ty.mk 4 [ty, h1.ty]).valid = true then some (.mk 4 [ty, h1.ty]) else none := by
  rw [Tm.castS, if_neg (by omega), if_neg (by omega), if_neg (by omega), if_pos rfl]
  have e : (S.fn ty.toS h1).ty = .mk 4 [ty, h1.ty] := by rw [S.ty, Ty.toS_ty hv]
  have e2 : (S.fn ty.toS h1).vd = (Ty.mk 4 [ty, h1.ty]).valid := by rw [← e, S.valid]
  simp only [Tm.castsS, h]
  rw [e2]
  cases (Ty.mk 4 [ty, h1.ty]).valid <;> simp [e]
set_option maxHeartbeats 4000000 in
theorem specL4Type_1 (y : Value) (nm : ByteArray) (u lb tk fk : Int) (ta fa ca : Option Addr) (tn tq fn fq cm cq : Nat) (w : World) (O : Option Ty)
    (HL : Hid (∀ W, Below w.heap.size w W → Calls Try.prog 31 #[y, .agg #[.int .i64 1, .string nm, .int .i64 u, .int .i64 tk, .slice ta tn tq, .int .i64 fk, .slice fa fn fq, .int .i64 lb, .slice ca cm cq]] W (RetOF O W))) (hy : ∃ a n q, y = .slice a n q) :
    Calls Try.prog 17 #[y, .agg #[.int .i64 1, .string nm, .int .i64 u, .int .i64 tk, .slice ta tn tq, .int .i64 fk, .slice fa fn fq, .int .i64 lb, .slice ca cm cq]] w (RetOF O w) := by
  obtain ⟨a, n, q, rfl⟩ := hy
  have fR := blk_new (w := w.alloc (.cells #[.int .i64 1, .string nm, .int .i64 u, .int .i64 tk, .slice ta tn tq, .int .i64 fk, .slice fa fn fq, .int .i64 lb, .slice ca cm cq] 36)) (o := .cells #[.int .i64 0, .slice none 0 0] 31) (b := w.heap.size + 1) (by simp)
  go_enter Try.func17, Try.ntmps17
  go_wp2_with fail
  refine (HL.out _ (bstep bal1 bal1)).mono ?_
  rintro e w1 ⟨k, a1, n1, q1, b1, t, rfl, hb1, ht, ho, hst⟩
  have HT := Lib.hid ht
  have HO := Lib.hid ho
  have HB1 := Lib.hid hb1
  replace fR := blk_below fR hst
  have fC := Lib.hid (bstep (bstep bal1 bal1) hst)
  have hz := hst.size
  simp only [World.size_alloc] at hz
  clear ht ho hb1 hst
  have r0 := blk_cell fR (o := 0) rfl
  have r1 := blk_cell fR (o := 1) rfl
  have rf0 := blk_fro fR 0
  have rf1 := blk_fro fR 1
  go_wp2_with fail
  have hY : ((w1.setCell ⟨w.heap.size + 1, 0, none⟩ (.int .i64 k)).setCell ⟨w.heap.size + 1, 1, none⟩ (.slice a1 n1 q1)).heap[w.heap.size + 1]? = some (.cells #[.int .i64 k, .slice a1 n1 q1] 31 (0, 0)) := blk_set (blk_set fR rfl) rfl
  have rc0 := blk_cell hY (o := 0) rfl
  have rc1 := blk_cell hY (o := 1) rfl
  refine bodyPost_ret (v := .tuple #[.agg #[.int .i64 k, .slice a1 n1 q1], .bool b1]) (by simp [results, Try.results17, go_sem, rc0, rc1]) rfl ?_
  have hne : ∀ b, (False ∨ ((w.alloc (.cells #[.int .i64 1, .string nm, .int .i64 u, .int .i64 tk, .slice ta tn tq, .int .i64 fk, .slice fa fn fq, .int .i64 lb, .slice ca cm cq] 36)).alloc (.cells #[.int .i64 0, .slice none 0 0] 31)).heap.size ≤ b) → b ≠ w.heap.size + 1 := fun b h => by
    have h1 := h.elim False.elim id
    simp at h1
    omega
  exact ⟨_, _, _, _, _, t, rfl, HB1.out, (TyRep.setN (TyRep.setN HT.out hne) hne).move (.weaken fun b h _ => .inr (by have h1 := h.elim False.elim id; simp at h1; omega)), HO.out, (fC.out.setCell (p := ⟨w.heap.size + 1, 0, none⟩) (by show w.heap.size ≤ w.heap.size + 1; omega) _).setCell (p := ⟨w.heap.size + 1, 1, none⟩) (by show w.heap.size ≤ w.heap.size + 1; omega) _⟩
set_option maxHeartbeats 4000000 in
theorem specL4Type_2 (y : Value) (nm : ByteArray) (u lb tk fk : Int) (ta fa ca : Option Addr) (tn tq fn fq cm cq : Nat) (w : World) (O : Option Ty)
    (HL : Hid (∀ W, Below w.heap.size w W → Calls Try.prog 31 #[y, .agg #[.int .i64 2, .string nm, .int .i64 u, .int .i64 tk, .slice ta tn tq, .int .i64 fk, .slice fa fn fq, .int .i64 lb, .slice ca cm cq]] W (RetOF O W))) (hy : ∃ a n q, y = .slice a n q) :
    Calls Try.prog 17 #[y, .agg #[.int .i64 2, .string nm, .int .i64 u, .int .i64 tk, .slice ta tn tq, .int .i64 fk, .slice fa fn fq, .int .i64 lb, .slice ca cm cq]] w (RetOF O w) := by
  obtain ⟨a, n, q, rfl⟩ := hy
  have fR := blk_new (w := w.alloc (.cells #[.int .i64 2, .string nm, .int .i64 u, .int .i64 tk, .slice ta tn tq, .int .i64 fk, .slice fa fn fq, .int .i64 lb, .slice ca cm cq] 36)) (o := .cells #[.int .i64 0, .slice none 0 0] 31) (b := w.heap.size + 1) (by simp)
  go_enter Try.func17, Try.ntmps17
  go_wp2_with fail
  refine (HL.out _ (bstep bal1 bal1)).mono ?_
  rintro e w1 ⟨k, a1, n1, q1, b1, t, rfl, hb1, ht, ho, hst⟩
  have HT := Lib.hid ht
  have HO := Lib.hid ho
  have HB1 := Lib.hid hb1
  replace fR := blk_below fR hst
  have fC := Lib.hid (bstep (bstep bal1 bal1) hst)
  have hz := hst.size
  simp only [World.size_alloc] at hz
  clear ht ho hb1 hst
  have r0 := blk_cell fR (o := 0) rfl
  have r1 := blk_cell fR (o := 1) rfl
  have rf0 := blk_fro fR 0
  have rf1 := blk_fro fR 1
  go_wp2_with fail
  have hY : ((w1.setCell ⟨w.heap.size + 1, 0, none⟩ (.int .i64 k)).setCell ⟨w.heap.size + 1, 1, none⟩ (.slice a1 n1 q1)).heap[w.heap.size + 1]? = some (.cells #[.int .i64 k, .slice a1 n1 q1] 31 (0, 0)) := blk_set (blk_set fR rfl) rfl
  have rc0 := blk_cell hY (o := 0) rfl
  have rc1 := blk_cell hY (o := 1) rfl
  refine bodyPost_ret (v := .tuple #[.agg #[.int .i64 k, .slice a1 n1 q1], .bool b1]) (by simp [results, Try.results17, go_sem, rc0, rc1]) rfl ?_
  have hne : ∀ b, (False ∨ ((w.alloc (.cells #[.int .i64 2, .string nm, .int .i64 u, .int .i64 tk, .slice ta tn tq, .int .i64 fk, .slice fa fn fq, .int .i64 lb, .slice ca cm cq] 36)).alloc (.cells #[.int .i64 0, .slice none 0 0] 31)).heap.size ≤ b) → b ≠ w.heap.size + 1 := fun b h => by
    have h1 := h.elim False.elim id
    simp at h1
    omega
  exact ⟨_, _, _, _, _, t, rfl, HB1.out, (TyRep.setN (TyRep.setN HT.out hne) hne).move (.weaken fun b h _ => .inr (by have h1 := h.elim False.elim id; simp at h1; omega)), HO.out, (fC.out.setCell (p := ⟨w.heap.size + 1, 0, none⟩) (by show w.heap.size ≤ w.heap.size + 1; omega) _).setCell (p := ⟨w.heap.size + 1, 1, none⟩) (by show w.heap.size ≤ w.heap.size + 1; omega) _⟩
set_option maxHeartbeats 4000000 in
theorem specL4Type_3 (y : Value) (nm : ByteArray) (u lb tk fk : Int) (ta fa ca : Option Addr) (tn tq fn fq cm cq : Nat) (w : World) (O : Option Ty)
    (HL : Hid (∀ W, Below w.heap.size w W → Calls Try.prog 31 #[y, .agg #[.int .i64 3, .string nm, .int .i64 u, .int .i64 tk, .slice ta tn tq, .int .i64 fk, .slice fa fn fq, .int .i64 lb, .slice ca cm cq]] W (RetOF O W))) (hy : ∃ a n q, y = .slice a n q) :
    Calls Try.prog 17 #[y, .agg #[.int .i64 3, .string nm, .int .i64 u, .int .i64 tk, .slice ta tn tq, .int .i64 fk, .slice fa fn fq, .int .i64 lb, .slice ca cm cq]] w (RetOF O w) := by
  obtain ⟨a, n, q, rfl⟩ := hy
  have fR := blk_new (w := w.alloc (.cells #[.int .i64 3, .string nm, .int .i64 u, .int .i64 tk, .slice ta tn tq, .int .i64 fk, .slice fa fn fq, .int .i64 lb, .slice ca cm cq] 36)) (o := .cells #[.int .i64 0, .slice none 0 0] 31) (b := w.heap.size + 1) (by simp)
  go_enter Try.func17, Try.ntmps17
  go_wp2_with fail
  refine (HL.out _ (bstep bal1 bal1)).mono ?_
  rintro e w1 ⟨k, a1, n1, q1, b1, t, rfl, hb1, ht, ho, hst⟩
  have HT := Lib.hid ht
  have HO := Lib.hid ho
  have HB1 := Lib.hid hb1
  replace fR := blk_below fR hst
  have fC := Lib.hid (bstep (bstep bal1 bal1) hst)
  have hz := hst.size
  simp only [World.size_alloc] at hz
  clear ht ho hb1 hst
  have r0 := blk_cell fR (o := 0) rfl
  have r1 := blk_cell fR (o := 1) rfl
  have rf0 := blk_fro fR 0
  have rf1 := blk_fro fR 1
  go_wp2_with fail
  have hY : ((w1.setCell ⟨w.heap.size + 1, 0, none⟩ (.int .i64 k)).setCell ⟨w.heap.size + 1, 1, none⟩ (.slice a1 n1 q1)).heap[w.heap.size + 1]? = some (.cells #[.int .i64 k, .slice a1 n1 q1] 31 (0, 0)) := blk_set (blk_set fR rfl) rfl
  have rc0 := blk_cell hY (o := 0) rfl
  have rc1 := blk_cell hY (o := 1) rfl
  refine bodyPost_ret (v := .tuple #[.agg #[.int .i64 k, .slice a1 n1 q1], .bool b1]) (by simp [results, Try.results17, go_sem, rc0, rc1]) rfl ?_
  have hne : ∀ b, (False ∨ ((w.alloc (.cells #[.int .i64 3, .string nm, .int .i64 u, .int .i64 tk, .slice ta tn tq, .int .i64 fk, .slice fa fn fq, .int .i64 lb, .slice ca cm cq] 36)).alloc (.cells #[.int .i64 0, .slice none 0 0] 31)).heap.size ≤ b) → b ≠ w.heap.size + 1 := fun b h => by
    have h1 := h.elim False.elim id
    simp at h1
    omega
  exact ⟨_, _, _, _, _, t, rfl, HB1.out, (TyRep.setN (TyRep.setN HT.out hne) hne).move (.weaken fun b h _ => .inr (by have h1 := h.elim False.elim id; simp at h1; omega)), HO.out, (fC.out.setCell (p := ⟨w.heap.size + 1, 0, none⟩) (by show w.heap.size ≤ w.heap.size + 1; omega) _).setCell (p := ⟨w.heap.size + 1, 1, none⟩) (by show w.heap.size ≤ w.heap.size + 1; omega) _⟩
set_option maxHeartbeats 4000000 in
theorem specL4Type_4 (y : Value) (nm : ByteArray) (u lb tk fk : Int) (ta fa ca : Option Addr) (tn tq fn fq cm cq : Nat) (w : World) (O : Option Ty)
    (HL : Hid (∀ W, Below w.heap.size w W → Calls Try.prog 31 #[y, .agg #[.int .i64 4, .string nm, .int .i64 u, .int .i64 tk, .slice ta tn tq, .int .i64 fk, .slice fa fn fq, .int .i64 lb, .slice ca cm cq]] W (RetOF O W))) (hy : ∃ a n q, y = .slice a n q) :
    Calls Try.prog 17 #[y, .agg #[.int .i64 4, .string nm, .int .i64 u, .int .i64 tk, .slice ta tn tq, .int .i64 fk, .slice fa fn fq, .int .i64 lb, .slice ca cm cq]] w (RetOF O w) := by
  obtain ⟨a, n, q, rfl⟩ := hy
  have fR := blk_new (w := w.alloc (.cells #[.int .i64 4, .string nm, .int .i64 u, .int .i64 tk, .slice ta tn tq, .int .i64 fk, .slice fa fn fq, .int .i64 lb, .slice ca cm cq] 36)) (o := .cells #[.int .i64 0, .slice none 0 0] 31) (b := w.heap.size + 1) (by simp)
  go_enter Try.func17, Try.ntmps17
  go_wp2_with fail
  refine (HL.out _ (bstep bal1 bal1)).mono ?_
  rintro e w1 ⟨k, a1, n1, q1, b1, t, rfl, hb1, ht, ho, hst⟩
  have HT := Lib.hid ht
  have HO := Lib.hid ho
  have HB1 := Lib.hid hb1
  replace fR := blk_below fR hst
  have fC := Lib.hid (bstep (bstep bal1 bal1) hst)
  have hz := hst.size
  simp only [World.size_alloc] at hz
  clear ht ho hb1 hst
  have r0 := blk_cell fR (o := 0) rfl
  have r1 := blk_cell fR (o := 1) rfl
  have rf0 := blk_fro fR 0
  have rf1 := blk_fro fR 1
  go_wp2_with fail
  have hY : ((w1.setCell ⟨w.heap.size + 1, 0, none⟩ (.int .i64 k)).setCell ⟨w.heap.size + 1, 1, none⟩ (.slice a1 n1 q1)).heap[w.heap.size + 1]? = some (.cells #[.int .i64 k, .slice a1 n1 q1] 31 (0, 0)) := blk_set (blk_set fR rfl) rfl
  have rc0 := blk_cell hY (o := 0) rfl
  have rc1 := blk_cell hY (o := 1) rfl
  refine bodyPost_ret (v := .tuple #[.agg #[.int .i64 k, .slice a1 n1 q1], .bool b1]) (by simp [results, Try.results17, go_sem, rc0, rc1]) rfl ?_
  have hne : ∀ b, (False ∨ ((w.alloc (.cells #[.int .i64 4, .string nm, .int .i64 u, .int .i64 tk, .slice ta tn tq, .int .i64 fk, .slice fa fn fq, .int .i64 lb, .slice ca cm cq] 36)).alloc (.cells #[.int .i64 0, .slice none 0 0] 31)).heap.size ≤ b) → b ≠ w.heap.size + 1 := fun b h => by
    have h1 := h.elim False.elim id
    simp at h1
    omega
  exact ⟨_, _, _, _, _, t, rfl, HB1.out, (TyRep.setN (TyRep.setN HT.out hne) hne).move (.weaken fun b h _ => .inr (by have h1 := h.elim False.elim id; simp at h1; omega)), HO.out, (fC.out.setCell (p := ⟨w.heap.size + 1, 0, none⟩) (by show w.heap.size ≤ w.heap.size + 1; omega) _).setCell (p := ⟨w.heap.size + 1, 1, none⟩) (by show w.heap.size ≤ w.heap.size + 1; omega) _⟩
end Go.Proofs.Ytkhmkohgnikcmaa
