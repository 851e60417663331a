/-
  The casts of a term as a list: terms that share memory with it.
  The casts of a cast, walked.
  The casts of a node that is no cast, walked.
  The casts of a term, by the program, joined; the types of the casts with a label.
  CastTypes, by the program.
  The types of the casts with a label, by the reference.
  FnExactCastTypes returns true: the walk.
-/
import Derived.Test.YtghgjpcibdfbmaaTmTys
import Derived.Test.YtghgjpcibdfbmaaLaTm
import Derived.Test.YtghgjpcibdfbmaaTyCount
import Derived.Test.YtghgjpcibdfbmaaTmTyRes
import Derived.Test.YtghgjpcibdfbmaaTmTysS
import Derived.Test.YtghgjpcibdfbmaaTmTypes
import Derived.Test.YtghgjpcibdfbmaaLaTy
namespace Go.Proofs.Ytghgjpcibdfbmaa
open Go.RowKit
set_option linter.unusedVariables false
set_option linter.unusedSimpArgs false
set_option maxRecDepth 100000

mutual
def Tm.casts : Tm → List Tm
  | .mk k s u t f l ts => (if k == 14 then [.mk k s u t f l ts] else []) ++ Tm.castss ts
def Tm.castss : List Tm → List Tm
  | [] => []
  | t :: ts => t.casts ++ Tm.castss ts
end
theorem Tm.castss_take_succ : ∀ (ts : List Tm) (j : Nat) (h : j < ts.length), Tm.castss (ts.take (j + 1)) = Tm.castss (ts.take j) ++ ts[j].casts
  | [], _, h => absurd h (Nat.not_lt_zero _)
  | t :: ts, 0, _ => by simp [Tm.castss]
  | t :: ts, j + 1, h => by
    have := Tm.castss_take_succ ts j (by simpa using h)
    simp only [List.take_succ_cons, Tm.castss, List.getElem_cons_succ, this, List.append_assoc]
theorem Tm.castss_take_le (ts : List Tm) (j : Nat) : (Tm.castss (ts.take j)).length ≤ (Tm.castss ts).length := by
  induction ts generalizing j with
  | nil => simp
  | cons t ts ih =>
    cases j with
    | zero => simp [Tm.castss]
    | succ j => have := ih j; simp only [List.take_succ_cons, Tm.castss, List.length_append]; omega
mutual
theorem Tm.casts_len : ∀ t : Tm, ((t.casts.length : Nat) : Int) ≤ t.size
  | .mk k _ _ t _ _ ts => by
    unfold Tm.casts Tm.size
    have := Tm.castss_len ts
    rw [List.length_append]
    split <;> simp <;> omega
theorem Tm.castss_len : ∀ ts : List Tm, (((Tm.castss ts).length : Nat) : Int) ≤ Tm.sizes ts
  | [] => by unfold Tm.castss Tm.sizes; simp
  | t :: ts => by
    unfold Tm.castss Tm.sizes
    have := Tm.casts_len t
    have := Tm.castss_len ts
    rw [List.length_append]
    omega
end
/-- Rows of values that read as data in some blocks. -/
def SRepRows (F : Nat → Prop) (w : World) : List (List C) → List Value → Prop
  | [], xs => xs = []
  | r :: rs, xs => ∃ ys xs', xs = ys ++ xs' ∧ SRep F w r ys ∧ SRepRows F w rs xs'
theorem SRepRows.move {F G : Nat → Prop} {w w' : World} (k : Keeps F G w w') : ∀ (rs : List (List C)) (xs : List Value), SRepRows F w rs xs → SRepRows G w' rs xs
  | [], _, h => h
  | _ :: rs, _, ⟨ys, xs', e, h1, h2⟩ => ⟨ys, xs', e, h1.move k _ _, SRepRows.move k rs xs' h2⟩
theorem SRepRows.append {F : Nat → Prop} {w : World} : ∀ {r1 r2 : List (List C)} {x1 x2 : List Value}, SRepRows F w r1 x1 → SRepRows F w r2 x2 → SRepRows F w (r1 ++ r2) (x1 ++ x2)
  | [], r2, _, x2, h1, h => by unfold SRepRows at h1; subst h1; exact h
  | r :: r1, r2, _, x2, ⟨ys, xs', e1, h1, h2⟩, h => by
    subst e1
    exact ⟨ys, xs' ++ x2, by simp, h1, SRepRows.append h2 h⟩
theorem CRep.one {F : Nat → Prop} {w : World} : ∀ {c : C} {y : Value}, CRep F w c y → y.oneCell' = true
  | .int _, _, h => by rw [CRep.int_eq h]; rfl
  | .str _, _, h => by rw [(CRep.str_eq h).1]; rfl
  | .sl _, _, h => by obtain ⟨a, q, h, -⟩ := CRep.rows h; rw [h]; rfl
theorem SRep.one {F : Nat → Prop} {w : World} : ∀ {r : List C} {ys : List Value}, SRep F w r ys → ∀ y ∈ ys, y.oneCell' = true
  | [], _, h, y, hy => by unfold SRep at h; subst h; cases hy
  | c :: cs, _, ⟨z, zs, e, h1, h2⟩, y, hy => by
    subst e
    rcases List.mem_cons.1 hy with rfl | hy
    · exact h1.one
    · exact SRep.one h2 y hy
theorem SRepRows.one {F : Nat → Prop} {w : World} : ∀ {rs : List (List C)} {ys : List Value}, SRepRows F w rs ys → ∀ y ∈ ys, y.oneCell' = true
  | [], _, h, y, hy => by unfold SRepRows at h; subst h; cases hy
  | r :: rs, _, ⟨y1, x', e, h1, h2⟩, y, hy => by
    subst e
    rcases List.mem_append.1 hy with hy | hy
    · exact h1.one y hy
    · exact SRepRows.one h2 y hy
def AccRep (B : Nat) (F : Nat → Prop) (e : TypeId) (size : Nat) (w : World) (v : Value) (n : Nat) (rows : List (List C)) : Prop :=
  ∃ xs, w.ownsRow B e size v n xs ∧ rows.length = n ∧ SRepRows F w rows xs
theorem AccRep.nil (B : Nat) (F : Nat → Prop) (e : TypeId) (size : Nat) (w : World) : AccRep B F e size w (.slice none 0 0) 0 [] := ⟨[], World.ownsRow_nil w B e size, rfl, rfl⟩
theorem AccRep.shape {B : Nat} {F : Nat → Prop} {e : TypeId} {size n : Nat} {w : World} {v : Value} {rows : List (List C)} (h : AccRep B F e size w v n rows) : ∃ c q, v = .slice c n q := by
  obtain ⟨xs, ⟨_, h1⟩, _⟩ := h
  rcases h1 with ⟨rfl, rfl⟩ | ⟨g, cap, cur, rfl, _⟩
  · exact ⟨none, 0, rfl⟩
  · exact ⟨_, cap, rfl⟩
theorem AccRep.mono {B B' n size : Nat} {F : Nat → Prop} {e : TypeId} {w : World} {v : Value} {rows : List (List C)} (h : AccRep B F e size w v n rows) (hb : B' ≤ B) : AccRep B' F e size w v n rows := by
  obtain ⟨xs, ⟨h0, h1⟩, h2, h3⟩ := h
  refine ⟨xs, ⟨h0, ?_⟩, h2, h3⟩
  rcases h1 with h1 | ⟨g, cap, cur, e1, e2, e3⟩
  · exact .inl h1
  · exact .inr ⟨g, cap, cur, e1, Nat.le_trans hb e2, e3⟩
theorem AccRep.pushR {B g cap m : Nat} {F : Nat → Prop} {e : TypeId} {size n : Nat} {W w2 : World} {v : Value} {xs ys : List Value} {rows rs : List (List C)} (hl : rows.length = n) (hs : SRepRows F W rows xs) (hrl : rs.length = m) (hr : SRepRows F W rs ys)
    (hF : ∀ b, F b → b < B) (hv : ∀ g, v.ownBlock = some g → B ≤ g)
    (hown : w2.ownsRow B e size (.slice (some ⟨g, 0, none⟩) (n + m) cap) (n + m) (xs ++ ys)) (hgrow : W.grownBy w2 v.ownBlock) : AccRep B F e size w2 (.slice (some ⟨g, 0, none⟩) (n + m) cap) (n + m) (rows ++ rs) := by
  have k : Keeps F F W w2 := ⟨hgrow.size, fun _ h _ => h, fun b hb hl => hgrow.block b hl (fun e => by have h1 := hF b hb; have h2 := hv b e.symm; omega)⟩
  exact ⟨xs ++ ys, hown, by simp [hl, hrl], SRepRows.append (hs.move k _ _) (hr.move k _ _)⟩
theorem ownsRow_first {W : World} {B : Nat} {e : TypeId} {cs z : Array Value} {size tp cap : Nat} (hcs : cs.size = size) (hz : z.size = size) (hcap : cap = 1 + tp % (2 ^ 63 - 1)) (hB : B ≤ W.heap.size) :
    (World.drew (W.alloc (.cells (cs ++ Builtin.zeroCells z (cap - 1)) e))).ownsRow B e size (.slice (some ⟨W.heap.size, 0, none⟩) 1 cap) 1 cs.toList := by
  have hlt := Nat.mod_lt tp (show 0 < 2 ^ 63 - 1 by omega)
  refine ⟨by simp [hcs], .inr ⟨W.heap.size, cap, cs ++ Builtin.zeroCells z (cap - 1), rfl, hB, ?_, by omega, by unfold maxLen; omega, ?_, ?_⟩⟩
  · exact heap_alloc_new _ _
  · rw [Array.size_append, size_zeroCells, hcs, hz]
    obtain ⟨k, rfl⟩ : ∃ k, cap = 1 + k := ⟨cap - 1, by omega⟩
    simp [Nat.add_mul]
  · rw [Array.toList_append, Nat.one_mul, ← hcs]
    simp
theorem grown_first (W : World) (o : Obj) : W.grownBy (World.drew (W.alloc o)) (Value.ownBlock (.slice none 0 0)) :=
  have h := World.grownBy_alloc W o (Value.ownBlock (.slice none 0 0))
  ⟨h.os, h.tape, h.output, h.size, h.block⟩
theorem TmRep.srep {F : Nat → Prop} {w : World} {t : Tm} {k u tk fk l : Int} {nm : ByteArray} {ta fa c : Option Addr} {tn tq fn fq m q : Nat} (h : TmRep F w t (.agg #[.int .i64 k, .string nm, .int .i64 u, .int .i64 tk, .slice ta tn tq, .int .i64 fk, .slice fa fn fq, .int .i64 l, .slice c m q])) : SRep F w t.row [.int .i64 k, .string nm, .int .i64 u, .int .i64 tk, .slice ta tn tq, .int .i64 fk, .slice fa fn fq, .int .i64 l, .slice c m q] := by
  obtain ⟨r1, r2, r3, r4, r5, r6, r7, r8, r9, rn, rm, rq, hty, hsr, hks⟩ := h.parts
  obtain ⟨s1, e1, p1⟩ := hty
  obtain ⟨s2, e2, p2⟩ := hsr
  simp only [Value.agg.injEq, Array.mk.injEq, List.cons.injEq, and_true, true_and] at e1 e2
  cases t with | mk kk nn uu tt ff ll ts =>
  simp only [Tm.kind, Tm.name, Tm.num, Tm.type, Tm.src, Tm.label, Tm.kids] at *
  subst r1 r2 r3 r8
  unfold Tm.row
  have i1 : ∀ n : Int, CRep F w (.int n) (.int .i64 n) := fun n => by unfold CRep; rfl
  exact ⟨_, _, rfl, i1 _, _, _, rfl, by unfold CRep; exact ⟨rfl, rn⟩, _, _, rfl, i1 _, _, _, rfl, by rw [r4]; exact i1 _, _, _, rfl, by rw [e1.2]; exact p1, _, _, rfl, by rw [r6]; exact i1 _, _, _, rfl, by rw [e2.2]; exact p2, _, _, rfl, i1 _, _, _, rfl, hks, rfl⟩
/-- What impl.casts returns for a term. -/
def CastsP (F : Nat → Prop) (w : World) (us : List Tm) (e : Ending) (w' : World) : Prop := ∃ v, e = .returned v ∧ AccRep w.heap.size F 36 9 w' v us.length (Tm.rows us) ∧ (us.length = 0 → v = .slice none 0 0) ∧ Below w.heap.size w w'
def CastsC (F : Nat → Prop) (N0 : Nat) (t : Tm) : Prop := ∀ (_ : t.casts.length ≤ 1000000) (y : Value) (w : World), TmRep F w t y → N0 ≤ w.heap.size → Calls Try.prog 66 #[y] w (CastsP F w t.casts)
end Go.Proofs.Ytghgjpcibdfbmaa
namespace Go.Proofs.Ytghgjpcibdfbmaa
open Go.RowKit
set_option linter.unusedVariables false
set_option linter.unusedSimpArgs false
set_option maxRecDepth 100000

set_option maxHeartbeats 4000000 in
theorem castsA (F : Nat → Prop) (N0 : Nat) (hF : ∀ b, F b → b < N0) (t : Tm) (hk : (t.kind == 14) = true) (IH : ∀ t' ∈ t.kids, CastsC F N0 t') : CastsC F N0 t := by
  intro hlen y w hy hN0
  obtain ⟨k, nm, u, tk, ta, tn, tq, fk, fa, fn, fq, l, c, m, q, rfl⟩ := hy.shape
  obtain ⟨r1, r2, r3, r4, r5, r6, r7, r8, r9, rn, rm, rq, hty, hsr, hks⟩ := hy.parts
  have hsr0 := hy.srep
  obtain ⟨i0, hi, hz0, hz1, hz2⟩ := info_parts Try.infoTm
  cases t with | mk kk nn uu tt ff ll ts =>
  simp only [Tm.kind, Tm.name, Tm.num, Tm.type, Tm.src, Tm.label, Tm.kids] at *
  subst r1 r2 r3 r8
  have hl2 : (Tm.castss ts).length ≤ 1000000 := by unfold Tm.casts at hlen; rw [List.length_append] at hlen; omega
  have HLEN := Lib.hid hl2
  have HN := Lib.hid r9
  have IHH := Lib.hid IH
  have Z0 := Lib.hid hz0
  have Z1 := Lib.hid hz1
  have Z2 := Lib.hid hz2
  have HI := Lib.hid hi
  have HF := Lib.hid hF
  have HSR := Lib.hid hsr0
  unfold maxLen at rq
  unfold CastsP Tm.casts
  clear hl2 IH hy r9 r4 r5 r6 r7 rn hsr hty hlen hz0 hz1 hz2 hi hF hsr0
  rw [hk, if_pos rfl]
  obtain ⟨TL, hTL⟩ : ∃ x, [Tm.mk k nm u tt ff l ts] ++ Tm.castss ts = x := ⟨_, rfl⟩
  rw [hTL]
  have HTL := Lib.hid hTL
  clear hTL
  go_enter Try.func66, Try.ntmps66
  go_wp2_with fail
  have hown3 := ownsRow_first (W := (w.alloc (.cells #[.int .i64 k, .string nm, .int .i64 u, .int .i64 tk, .slice ta tn tq, .int .i64 fk, .slice fa fn fq, .int .i64 l, .slice c m q] 36)).alloc (.cells #[.int .i64 k, .string nm, .int .i64 u, .int .i64 tk, .slice ta tn tq, .int .i64 fk, .slice fa fn fq, .int .i64 l, .slice c m q] 36)) (B := w.heap.size + 1) (e := 36) (cs := #[.int .i64 k, .string nm, .int .i64 u, .int .i64 tk, .slice ta tn tq, .int .i64 fk, .slice fa fn fq, .int .i64 l, .slice c m q]) (z := #[.int .i64 0, .string { data := #[] }, .int .i64 0, .int .i64 0, .slice none 0 0, .int .i64 0, .slice none 0 0, .int .i64 0, .slice none 0 0]) (size := 9) (cap := (Question.appendCap 1 0 36).cut (w.tape w.drawn (Question.appendCap 1 0 36))) rfl rfl rfl (by simp)
  have hgrow := grown_first ((w.alloc (.cells #[.int .i64 k, .string nm, .int .i64 u, .int .i64 tk, .slice ta tn tq, .int .i64 fk, .slice fa fn fq, .int .i64 l, .slice c m q] 36)).alloc (.cells #[.int .i64 k, .string nm, .int .i64 u, .int .i64 tk, .slice ta tn tq, .int .i64 fk, .slice fa fn fq, .int .i64 l, .slice c m q] 36)) (.cells (#[.int .i64 k, .string nm, .int .i64 u, .int .i64 tk, .slice ta tn tq, .int .i64 fk, .slice fa fn fq, .int .i64 l, .slice c m q] ++ Builtin.zeroCells #[.int .i64 0, .string { data := #[] }, .int .i64 0, .int .i64 0, .slice none 0 0, .int .i64 0, .slice none 0 0, .int .i64 0, .slice none 0 0] ((Question.appendCap 1 0 36).cut (w.tape w.drawn (Question.appendCap 1 0 36)) - 1)) 36)
  rw [show ((w.alloc (.cells #[.int .i64 k, .string nm, .int .i64 u, .int .i64 tk, .slice ta tn tq, .int .i64 fk, .slice fa fn fq, .int .i64 l, .slice c m q] 36)).alloc (.cells #[.int .i64 k, .string nm, .int .i64 u, .int .i64 tk, .slice ta tn tq, .int .i64 fk, .slice fa fn fq, .int .i64 l, .slice c m q] 36)).heap.size = w.heap.size + 1 + 1 by simp] at hown3
  generalize (Question.appendCap 1 0 36).cut (w.tape w.drawn (Question.appendCap 1 0 36)) = cap2 at *
  generalize World.drew (World.alloc ((w.alloc (.cells #[.int .i64 k, .string nm, .int .i64 u, .int .i64 tk, .slice ta tn tq, .int .i64 fk, .slice fa fn fq, .int .i64 l, .slice c m q] 36)).alloc (.cells #[.int .i64 k, .string nm, .int .i64 u, .int .i64 tk, .slice ta tn tq, .int .i64 fk, .slice fa fn fq, .int .i64 l, .slice c m q] 36)) _) = w3 at *
  have hacc0 := AccRep.pushR (F := F) (W := (w.alloc (.cells #[.int .i64 k, .string nm, .int .i64 u, .int .i64 tk, .slice ta tn tq, .int .i64 fk, .slice fa fn fq, .int .i64 l, .slice c m q] 36)).alloc (.cells #[.int .i64 k, .string nm, .int .i64 u, .int .i64 tk, .slice ta tn tq, .int .i64 fk, .slice fa fn fq, .int .i64 l, .slice c m q] 36)) (v := .slice none 0 0) (n := 0) (m := 1) (rows := []) (xs := []) (rs := [(Tm.mk k nm u tt ff l ts).row]) rfl rfl rfl ⟨_, [], by simp, HSR.out.move (Keeps.below bal2) _ _, rfl⟩ (fun b hb => by have := HF.out b hb; omega) (fun g e => by simp [Value.ownBlock] at e) hown3 hgrow
  have hB : Below w.heap.size w w3 := (bal2 (o := .cells #[.int .i64 k, .string nm, .int .i64 u, .int .i64 tk, .slice ta tn tq, .int .i64 fk, .slice fa fn fq, .int .i64 l, .slice c m q] 36) (o' := .cells #[.int .i64 k, .string nm, .int .i64 u, .int .i64 tk, .slice ta tn tq, .int .i64 fk, .slice fa fn fq, .int .i64 l, .slice c m q] 36)).grown hgrow bal2.size (fun k hk => by simp [Value.ownBlock] at hk)
  have c8c : w3.cell? ⟨w.heap.size, 8, none⟩ = some (.slice c m q) := (World.cell?_of_block (a := ⟨w.heap.size, 8, none⟩) (hgrow.block _ (by simp; omega) (by simp [Value.ownBlock]))).trans (bcell bal1 (cell_n0 8))
  have HACC0 := Lib.hid hacc0
  clear hacc0 hown3 hgrow
  go_loopw [16, 3] (fun i p wr => ∃ j : Nat, j ≤ m ∧ i = .int .i64 j ∧ (∃ nn : Nat, nn = ([Tm.mk k nm u tt ff l ts] ++ Tm.castss (ts.take j)).length ∧ (nn = 0 → p = .slice none 0 0) ∧ AccRep (w.heap.size + 1) F 36 9 wr p nn (Tm.rows ([Tm.mk k nm u tt ff l ts] ++ Tm.castss (ts.take j)))) ∧ Below w.heap.size w wr) (fun i _ _ => m - (intOf i).toNat)
  case atStart => exact ⟨0, by omega, rfl, ⟨1, by simp [Tm.castss], by simp, by simpa [Tm.castss, Tm.rows] using HACC0.out⟩, hB⟩
  case round =>
    obtain ⟨j, hj, rfl, ⟨nn, hnn, hnil, hacc⟩, hbw⟩ := hrel
    have hbz0 := hbw.size
    by_cases hlt : j < m
    · have hjt : j < ts.length := by have := HN.out; omega
      obtain ⟨b, off, k0, nm0, u0, tk0, ta0, tn0, tq0, fk0, fa0, fn0, fq0, l0, a0, m0, q0, rfl, lb, e0, e1, e2, e3, e4, e5, e6, e7, e8, ht⟩ := hks.at hbw hjt
      have hcall := fun (W : World) (y : Value) (h : TmRep F W ts[j] y) (hN : N0 ≤ W.heap.size) => IHH.out ts[j] (List.getElem_mem hjt) (by have := Tm.castss_take_le ts (j + 1); rw [Tm.castss_take_succ ts j hjt, List.length_append] at this; have := HLEN.out; omega) y W h hN
      have htl : nn + ts[j].casts.length ≤ 1000001 := by
        have h1 := Tm.castss_take_le ts (j + 1)
        rw [Tm.castss_take_succ ts j hjt, List.length_append] at h1
        rw [hnn, List.length_append]
        have := HLEN.out
        have : ([Tm.mk k nm u tt ff l ts] : List Tm).length ≤ 1 := by simp
        omega
      have hts := Tm.castss_take_succ ts j hjt
      generalize ts[j].casts = us at hcall htl hts
      have HC := Lib.hid hcall
      have HTS := Lib.hid hts
      have HNN := Lib.hid hnn
      have HNIL := Lib.hid hnil
      clear hcall hts hnn hnil
      obtain ⟨cv, qv, rfl⟩ := hacc.shape
      have HACC := Lib.hid hacc
      clear hacc
      go_wp2_with fail
      refine (HC.out _ _ (ht.below bal1) (by simp; omega)).mono ?_
      rintro e w1 ⟨v1, rfl, hv1, hv1n, hb1⟩
      have hbz := hb1.size
      simp at hbz
      obtain ⟨xs, ho, hl, hs⟩ := HACC.out
      obtain ⟨xs1, ho1, hl1, hs1⟩ := hv1
      have hxl := ho1.1
      obtain ⟨ml, hml⟩ : ∃ x, us.length = x := ⟨_, rfl⟩
      rw [hml] at htl ho1 hl1 hxl hv1n
      have hlt2 : ∀ x, (Value.slice cv nn qv).ownBlock = some x → w.heap.size + 1 ≤ x := fun x e => (ho.lt x e).1
      have ho' := ownsRow_below ho (bstep bal1 hb1)
      have hs' := hs.move (Keeps.below (bstep bal1 hb1)) _ _
      have hbel := fun w2 => grown_below (w2 := w2) hbw (bstep bal1 hb1) ho (by omega)
      have HML := Lib.hid hml
      have HBEL := Lib.hid hbel
      have HO := Lib.hid ho'
      have HS := Lib.hid hs'
      have HL := Lib.hid hl
      have HLT2 := Lib.hid hlt2
      have HO1 := Lib.hid ho1
      have HS1 := Lib.hid hs1
      have HL1 := Lib.hid hl1
      have HXL := Lib.hid hxl
      have hsl := ho1.2
      clear ho hl hs ho1 hl1 hs1 hlt2 ho' hs' hbel hxl hml
      by_cases hm0 : ml = 0
      · obtain rfl := hv1n hm0
        have hus : us = [] := List.eq_nil_of_length_eq_zero (HML.out.trans hm0)
        have HUS := Lib.hid hus
        clear hsl hus hv1n
        go_wp2_with (first | (at_builtin; refine wpList_append_own_none rfl (.tmp 20) (.tmp 22) 34 rfl (w.heap.size + 1) 36 i0 9 Try.underlying34 HI.out (.slice cv nn qv) nn xs rfl HO.out rfl ?_) | fail)
        go_roundw
        case rel => exact ⟨j + 1, by omega, by go_num, ⟨nn, by rw [HTS.out, HUS.out, List.append_nil]; exact HNN.out, HNIL.out, by rw [HTS.out, HUS.out, List.append_nil]; exact ⟨xs, HO.out, HL.out, HS.out⟩⟩, bstep (bstep hbw bal1) hb1⟩
        case measure => simp [intOf]; omega
      · have hpos : 0 < ml := by omega
        rcases hsl with ⟨rfl, h0⟩ | ⟨g1, q1, cur, rfl, hg1, -⟩
        · exact absurd h0 hm0
        have hcells := ownsRow_cells HO1.out
        have HCE := Lib.hid hcells
        have hsz1 : w.heap.size + 1 ≤ w1.heap.size := by omega
        clear hcells hv1n
        go_wp2_with (first | (at_builtin; refine wpList_append_lies _ rfl (.tmp 20) (.tmp 22) 34 rfl (w.heap.size + 1) 36 i0 _ 9 128 Try.underlying34 HI.out Z0.out Z1.out Z2.out rfl (by omega) (.slice cv nn qv) nn xs rfl HO.out ⟨g1, 0, none⟩ ml q1 xs1 rfl HXL.out HCE.out HS1.out.one hpos (by unfold maxLen; omega) (by omega) hsz1 _ rfl ?_) | fail)
        intro gg cap2 w2 hown2 hgrow hat hlt3
        have hacc2 := AccRep.pushR HL.out HS.out HL1.out HS1.out (fun b hb => by have := HF.out b hb; omega) HLT2.out hown2 hgrow
        have HACC2 := Lib.hid hacc2
        have hbel2 := HBEL.out w2 hgrow
        clear hacc2 hown2 hgrow hat
        go_wp2_with fail
        go_roundw
        case rel => exact ⟨j + 1, by omega, by go_num, ⟨nn + ml, by rw [HTS.out, ← List.append_assoc, List.length_append, ← HNN.out, HML.out], by omega, by rw [HTS.out, ← List.append_assoc, Tm.rows_eq, List.map_append, ← Tm.rows_eq, ← Tm.rows_eq]; exact HACC2.out⟩, hbel2⟩
        case measure => simp [intOf]; omega
    · have HNN := Lib.hid hnn
      have HNIL := Lib.hid hnil
      have HACC := Lib.hid hacc
      clear hnn hnil hacc
      go_wp2_with fail
      go_ret
      have e : TL = [Tm.mk k nm u tt ff l ts] ++ Tm.castss (ts.take j) := HTL.out.symm.trans (by rw [List.take_of_length_le (by have := HN.out; omega)])
      refine ⟨_, rfl, ?_, ?_, hbw⟩
      · rw [e, ← HNN.out]; exact HACC.out.mono (by omega)
      · rw [e, ← HNN.out]; exact HNIL.out
end Go.Proofs.Ytghgjpcibdfbmaa
namespace Go.Proofs.Ytghgjpcibdfbmaa
open Go.RowKit
set_option linter.unusedVariables false
set_option linter.unusedSimpArgs false
set_option maxRecDepth 100000

set_option maxHeartbeats 4000000 in
theorem castsB (F : Nat → Prop) (N0 : Nat) (hF : ∀ b, F b → b < N0) (t : Tm) (hk : (t.kind == 14) = false) (IH : ∀ t' ∈ t.kids, CastsC F N0 t') : CastsC F N0 t := by
  intro hlen y w hy hN0
  obtain ⟨k, nm, u, tk, ta, tn, tq, fk, fa, fn, fq, l, c, m, q, rfl⟩ := hy.shape
  obtain ⟨r1, r2, r3, r4, r5, r6, r7, r8, r9, rn, rm, rq, hty, hsr, hks⟩ := hy.parts
  have hsr0 := hy.srep
  obtain ⟨i0, hi, hz0, hz1, hz2⟩ := info_parts Try.infoTm
  cases t with | mk kk nn uu tt ff ll ts =>
  simp only [Tm.kind, Tm.name, Tm.num, Tm.type, Tm.src, Tm.label, Tm.kids] at *
  subst r1 r2 r3 r8
  have hl2 : (Tm.castss ts).length ≤ 1000000 := by unfold Tm.casts at hlen; rw [List.length_append] at hlen; omega
  have HLEN := Lib.hid hl2
  have HN := Lib.hid r9
  have IHH := Lib.hid IH
  have Z0 := Lib.hid hz0
  have Z1 := Lib.hid hz1
  have Z2 := Lib.hid hz2
  have HI := Lib.hid hi
  have HF := Lib.hid hF
  have HSR := Lib.hid hsr0
  unfold maxLen at rq
  unfold CastsP Tm.casts
  clear hl2 IH hy r9 r4 r5 r6 r7 rn hsr hty hlen hz0 hz1 hz2 hi hF hsr0
  rw [hk, if_neg (by simp)]
  obtain ⟨TL, hTL⟩ : ∃ x, ([] : List Tm) ++ Tm.castss ts = x := ⟨_, rfl⟩
  rw [hTL]
  have HTL := Lib.hid hTL
  clear hTL
  go_enter Try.func66, Try.ntmps66
  have hB : Below w.heap.size w (w.alloc (.cells #[.int .i64 k, .string nm, .int .i64 u, .int .i64 tk, .slice ta tn tq, .int .i64 fk, .slice fa fn fq, .int .i64 l, .slice c m q] 36)) := bal1
  go_wp2_with fail
  go_loopw [16, 3] (fun i p wr => ∃ j : Nat, j ≤ m ∧ i = .int .i64 j ∧ (∃ nn : Nat, nn = (([] : List Tm) ++ Tm.castss (ts.take j)).length ∧ (nn = 0 → p = .slice none 0 0) ∧ AccRep (w.heap.size + 1) F 36 9 wr p nn (Tm.rows (([] : List Tm) ++ Tm.castss (ts.take j)))) ∧ Below w.heap.size w wr) (fun i _ _ => m - (intOf i).toNat)
  case atStart => exact ⟨0, by omega, rfl, ⟨0, by simp [Tm.castss], fun _ => rfl, by simpa [Tm.castss, Tm.rows] using AccRep.nil _ _ _ _ _⟩, hB⟩
  case round =>
    obtain ⟨j, hj, rfl, ⟨nn, hnn, hnil, hacc⟩, hbw⟩ := hrel
    have hbz0 := hbw.size
    by_cases hlt : j < m
    · have hjt : j < ts.length := by have := HN.out; omega
      obtain ⟨b, off, k0, nm0, u0, tk0, ta0, tn0, tq0, fk0, fa0, fn0, fq0, l0, a0, m0, q0, rfl, lb, e0, e1, e2, e3, e4, e5, e6, e7, e8, ht⟩ := hks.at hbw hjt
      have hcall := fun (W : World) (y : Value) (h : TmRep F W ts[j] y) (hN : N0 ≤ W.heap.size) => IHH.out ts[j] (List.getElem_mem hjt) (by have := Tm.castss_take_le ts (j + 1); rw [Tm.castss_take_succ ts j hjt, List.length_append] at this; have := HLEN.out; omega) y W h hN
      have htl : nn + ts[j].casts.length ≤ 1000001 := by
        have h1 := Tm.castss_take_le ts (j + 1)
        rw [Tm.castss_take_succ ts j hjt, List.length_append] at h1
        rw [hnn, List.length_append]
        have := HLEN.out
        have : (([] : List Tm) : List Tm).length ≤ 1 := by simp
        omega
      have hts := Tm.castss_take_succ ts j hjt
      generalize ts[j].casts = us at hcall htl hts
      have HC := Lib.hid hcall
      have HTS := Lib.hid hts
      have HNN := Lib.hid hnn
      have HNIL := Lib.hid hnil
      clear hcall hts hnn hnil
      obtain ⟨cv, qv, rfl⟩ := hacc.shape
      have HACC := Lib.hid hacc
      clear hacc
      go_wp2_with fail
      refine (HC.out _ _ (ht.below bal1) (by simp; omega)).mono ?_
      rintro e w1 ⟨v1, rfl, hv1, hv1n, hb1⟩
      have hbz := hb1.size
      simp at hbz
      obtain ⟨xs, ho, hl, hs⟩ := HACC.out
      obtain ⟨xs1, ho1, hl1, hs1⟩ := hv1
      have hxl := ho1.1
      obtain ⟨ml, hml⟩ : ∃ x, us.length = x := ⟨_, rfl⟩
      rw [hml] at htl ho1 hl1 hxl hv1n
      have hlt2 : ∀ x, (Value.slice cv nn qv).ownBlock = some x → w.heap.size + 1 ≤ x := fun x e => (ho.lt x e).1
      have ho' := ownsRow_below ho (bstep bal1 hb1)
      have hs' := hs.move (Keeps.below (bstep bal1 hb1)) _ _
      have hbel := fun w2 => grown_below (w2 := w2) hbw (bstep bal1 hb1) ho (by omega)
      have HML := Lib.hid hml
      have HBEL := Lib.hid hbel
      have HO := Lib.hid ho'
      have HS := Lib.hid hs'
      have HL := Lib.hid hl
      have HLT2 := Lib.hid hlt2
      have HO1 := Lib.hid ho1
      have HS1 := Lib.hid hs1
      have HL1 := Lib.hid hl1
      have HXL := Lib.hid hxl
      have hsl := ho1.2
      clear ho hl hs ho1 hl1 hs1 hlt2 ho' hs' hbel hxl hml
      by_cases hm0 : ml = 0
      · obtain rfl := hv1n hm0
        have hus : us = [] := List.eq_nil_of_length_eq_zero (HML.out.trans hm0)
        have HUS := Lib.hid hus
        clear hsl hus hv1n
        go_wp2_with (first | (at_builtin; refine wpList_append_own_none rfl (.tmp 20) (.tmp 22) 34 rfl (w.heap.size + 1) 36 i0 9 Try.underlying34 HI.out (.slice cv nn qv) nn xs rfl HO.out rfl ?_) | fail)
        go_roundw
        case rel => exact ⟨j + 1, by omega, by go_num, ⟨nn, by rw [HTS.out, HUS.out, List.append_nil]; exact HNN.out, HNIL.out, by rw [HTS.out, HUS.out, List.append_nil]; exact ⟨xs, HO.out, HL.out, HS.out⟩⟩, bstep (bstep hbw bal1) hb1⟩
        case measure => simp [intOf]; omega
      · have hpos : 0 < ml := by omega
        rcases hsl with ⟨rfl, h0⟩ | ⟨g1, q1, cur, rfl, hg1, -⟩
        · exact absurd h0 hm0
        have hcells := ownsRow_cells HO1.out
        have HCE := Lib.hid hcells
        have hsz1 : w.heap.size + 1 ≤ w1.heap.size := by omega
        clear hcells hv1n
        go_wp2_with (first | (at_builtin; refine wpList_append_lies _ rfl (.tmp 20) (.tmp 22) 34 rfl (w.heap.size + 1) 36 i0 _ 9 128 Try.underlying34 HI.out Z0.out Z1.out Z2.out rfl (by omega) (.slice cv nn qv) nn xs rfl HO.out ⟨g1, 0, none⟩ ml q1 xs1 rfl HXL.out HCE.out HS1.out.one hpos (by unfold maxLen; omega) (by omega) hsz1 _ rfl ?_) | fail)
        intro gg cap2 w2 hown2 hgrow hat hlt3
        have hacc2 := AccRep.pushR HL.out HS.out HL1.out HS1.out (fun b hb => by have := HF.out b hb; omega) HLT2.out hown2 hgrow
        have HACC2 := Lib.hid hacc2
        have hbel2 := HBEL.out w2 hgrow
        clear hacc2 hown2 hgrow hat
        go_wp2_with fail
        go_roundw
        case rel => exact ⟨j + 1, by omega, by go_num, ⟨nn + ml, by rw [HTS.out, ← List.append_assoc, List.length_append, ← HNN.out, HML.out], by omega, by rw [HTS.out, ← List.append_assoc, Tm.rows_eq, List.map_append, ← Tm.rows_eq, ← Tm.rows_eq]; exact HACC2.out⟩, hbel2⟩
        case measure => simp [intOf]; omega
    · have HNN := Lib.hid hnn
      have HNIL := Lib.hid hnil
      have HACC := Lib.hid hacc
      clear hnn hnil hacc
      go_wp2_with fail
      go_ret
      have e : TL = ([] : List Tm) ++ Tm.castss (ts.take j) := HTL.out.symm.trans (by rw [List.take_of_length_le (by have := HN.out; omega)])
      refine ⟨_, rfl, ?_, ?_, hbw⟩
      · rw [e, ← HNN.out]; exact HACC.out.mono (by omega)
      · rw [e, ← HNN.out]; exact HNIL.out
end Go.Proofs.Ytghgjpcibdfbmaa
namespace Go.Proofs.Ytghgjpcibdfbmaa
open Go.RowKit
set_option linter.unusedVariables false
set_option linter.unusedSimpArgs false
set_option maxRecDepth 100000

theorem implCasts (F : Nat → Prop) (N0 : Nat) (hF : ∀ b, F b → b < N0) (t : Tm) : CastsC F N0 t := by
  have IH : ∀ t' ∈ t.kids, CastsC F N0 t' := fun t' ht => implCasts F N0 hF t'
  by_cases hk : (t.kind == 14) = true
  · exact castsA F N0 hF t hk IH
  · exact castsB F N0 hF t (by simpa using hk) IH
termination_by SizeOf.sizeOf t
decreasing_by exact Tm.kid_lt ht

theorem SRep.lenOf {F : Nat → Prop} {w : World} : ∀ {r : List C} {ys : List Value}, SRep F w r ys → ys.length = r.length
  | [], _, h => by unfold SRep at h; subst h; rfl
  | c :: cs, _, ⟨z, zs, e, h1, h2⟩ => by subst e; simp [SRep.lenOf h2]
theorem SRep.cellsAtOf {F : Nat → Prop} {w : World} {b : Nat} : ∀ (r : List C) (ys : List Value) (off : Nat), SRep F w r ys → (∀ i, i < ys.length → w.cell? ⟨b, off + i, none⟩ = ys[i]?) → CellsAt F w b off r
  | [], _, _, _, _ => by unfold CellsAt; trivial
  | c :: cs, _, off, ⟨z, zs, e, h1, h2⟩, k => by
    subst e
    unfold CellsAt
    refine ⟨⟨z, ?_, h1⟩, SRep.cellsAtOf cs zs _ h2 fun i hi => ?_⟩
    · have := k 0 (by simp); simpa using this
    · rw [Nat.add_assoc, k (1 + i) (by simp; omega), Nat.add_comm 1 i]; simp
theorem SRepRows.rowsAt {F : Nat → Prop} {w : World} {b : Nat} : ∀ (rs : List (List C)) (xs : List Value) (off : Nat), SRepRows F w rs xs → (∀ i, i < xs.length → w.cell? ⟨b, off + i, none⟩ = xs[i]?) → RowsAt F w b off rs
  | [], _, _, _, _ => by unfold RowsAt; trivial
  | r :: rs, _, off, ⟨ys, xs', e, h1, h2⟩, k => by
    subst e
    have hl := h1.lenOf
    unfold RowsAt
    refine ⟨SRep.cellsAtOf r ys off h1 (fun i hi => ?_), SRepRows.rowsAt rs xs' _ h2 fun i hi => ?_⟩
    · rw [k i (by rw [List.length_append]; omega), List.getElem?_append_left hi]
    · rw [← hl, Nat.add_assoc, k (ys.length + i) (by rw [List.length_append]; omega), List.getElem?_append_right (by omega)]
      congr 1
      omega
/-- A list that has grown reads as data. -/
theorem AccRep.crep {B n size : Nat} {F : Nat → Prop} {e : TypeId} {w : World} {v : Value} {rows : List (List C)} (h : AccRep B F e size w v n rows) : CRep (· < w.heap.size) w (.sl rows) v := by
  obtain ⟨xs, ⟨hl, h1⟩, h2, h3⟩ := h
  have h3' := h3.move (Keeps.weaken (G := (· < w.heap.size)) fun b _ hl => hl) _ _
  unfold CRep
  rcases h1 with ⟨rfl, rfl⟩ | ⟨g, cap, cur, rfl, hb, hg, hn, hc, hs, ht⟩
  · obtain rfl : rows = [] := List.eq_nil_of_length_eq_zero h2
    exact ⟨none, 0, rfl, Nat.le_refl _, by unfold maxLen; omega, .inl rfl⟩
  · have hlt : g < w.heap.size := by
      rcases Nat.lt_or_ge g w.heap.size with h | h
      · exact h
      · rw [Array.getElem?_eq_none h] at hg; cases hg
    exact ⟨_, cap, by rw [h2], by omega, hc, .inr ⟨g, 0, rfl, hlt, hlt, h3'.rowsAt _ _ 0 (fun i hi => by
      rw [← ht] at hi ⊢
      simp only [World.cell?, hg]
      simp only [List.length_take] at hi
      simp
      rw [List.getElem?_take_of_lt (by omega), Array.getElem?_toList])⟩⟩
theorem AccRep.tms {B n : Nat} {F : Nat → Prop} {e : TypeId} {w : World} {v : Value} {us : List Tm} (h : AccRep B F e 9 w v n (Tm.rows us)) : TmsRep (· < w.heap.size) w us v := h.crep

/-- The types of the casts with a label, of a list. -/
def castTys (l : Int) : List Tm → List Ty
  | [] => []
  | t :: ts => (if t.label == l then [t.src, t.type] else []) ++ castTys l ts
mutual
def Tm.ctys (l : Int) : Tm → List Ty
  | .mk k s u t f b ts => (if k == 14 && b == l then [f, t] else []) ++ Tm.ctyss l ts
def Tm.ctyss (l : Int) : List Tm → List Ty
  | [] => []
  | t :: ts => t.ctys l ++ Tm.ctyss l ts
end
theorem castTys_append (l : Int) (xs bs : List Tm) : castTys l (xs ++ bs) = castTys l xs ++ castTys l bs := by
  induction xs with
  | nil => simp [castTys]
  | cons a xs ih => simp [castTys, ih]
mutual
theorem Tm.ctys_eq (l : Int) : ∀ t : Tm, castTys l t.casts = t.ctys l
  | .mk k s u t f b ts => by
    unfold Tm.casts Tm.ctys
    rw [castTys_append, Tm.ctyss_eq l ts]
    congr 1
    by_cases hk : k = 14
    · subst hk; simp [castTys, Tm.label, Tm.src, Tm.type]
    · have : (k == 14) = false := by simpa using hk
      rw [this]; simp [castTys]
theorem Tm.ctyss_eq (l : Int) : ∀ ts : List Tm, castTys l (Tm.castss ts) = Tm.ctyss l ts
  | [] => by unfold Tm.castss Tm.ctyss; rfl
  | t :: ts => by unfold Tm.castss Tm.ctyss; rw [castTys_append, Tm.ctys_eq l t, Tm.ctyss_eq l ts]
end
theorem castTys_take_succ (l : Int) (us : List Tm) (j : Nat) (h : j < us.length) : castTys l (us.take (j + 1)) = castTys l (us.take j) ++ (if us[j].label == l then [us[j].src, us[j].type] else []) := by
  rw [List.take_succ_eq_append_getElem h, castTys_append]
  simp [castTys]
theorem castTys_len (l : Int) : ∀ us : List Tm, (castTys l us).length ≤ 2 * us.length
  | [] => by simp [castTys]
  | t :: ts => by
    have := castTys_len l ts
    unfold castTys
    rw [List.length_append]
    split <;> simp <;> omega
theorem castTys_take_le (l : Int) (us : List Tm) (j : Nat) : (castTys l (us.take j)).length ≤ 2 * us.length := by
  have := castTys_len l (us.take j)
  have h2 : (us.take j).length ≤ us.length := by rw [List.length_take]; omega
  omega
theorem Tm.own_cast {k u l : Int} {s : ByteArray} {t f : Ty} {ts : List Tm} (h : (Tm.mk k s u t f l ts).ownB = true) (hk : (k == 14) = true) : f.valid = true ∧ t.valid = true := by
  have h1 : Go.Proofs.Ytghgjpcibdfbmaa.ownB k u l s t.valid t.noneB f.noneB (f.valid && t.valid && f.cons t) = true := h
  unfold Go.Proofs.Ytghgjpcibdfbmaa.ownB at h1
  simp only [hk, if_true, Bool.and_eq_true] at h1
  exact h1.2.1.1
theorem Tm.ctys_valid (lb : Int) : ∀ (t : Tm) (n d : Int), t.shape n d = true → ∀ x ∈ t.ctys lb, x.valid = true := by
  intro t
  exact Tm.rec (motive_1 := fun t => ∀ (n d : Int), t.shape n d = true → ∀ x ∈ t.ctys lb, x.valid = true) (motive_2 := fun ts => ∀ (n d : Int), Tm.shapes ts n d = true → ∀ x ∈ Tm.ctyss lb ts, x.valid = true)
    (fun k s u ty f l ts ih n d h x hx => by
      obtain ⟨-, -, -, ho, h5⟩ := Tm.shape_parts h
      unfold Tm.ctys at hx
      rcases List.mem_append.1 hx with hx | hx
      · by_cases hk : (k == 14 && l == lb) = true
        · rw [if_pos hk] at hx
          have h2 := Tm.own_cast ho (by simp only [Bool.and_eq_true] at hk; exact hk.1)
          simp only [List.mem_cons, List.not_mem_nil, or_false] at hx
          rcases hx with rfl | rfl
          · exact h2.1
          · exact h2.2
        · rw [if_neg hk] at hx
          cases hx
      · exact ih _ _ h5 x hx)
    (fun _ _ _ x hx => by unfold Tm.ctyss at hx; cases hx)
    (fun t ts ih1 ih2 n d h x hx => by
      unfold Tm.shapes at h
      simp only [Bool.and_eq_true] at h
      unfold Tm.ctyss at hx
      rcases List.mem_append.1 hx with hx | hx
      · exact ih1 n d h.1 x hx
      · exact ih2 n d h.2 x hx) t
def Tm.castTypes (lb : Int) (t : Tm) : List Ty := if t.castValid then t.ctys lb else []
theorem Tm.castValid_shape {t : Tm} (h : t.castValid = true) : t.shape 13 40 = true := by
  unfold Tm.castValid at h
  simp only [Bool.and_eq_true] at h
  exact h.1
theorem Tm.casts_ok {t : Tm} (h : t.castValid = true) : t.casts.length ≤ 200 := by
  have h1 := t.casts_len
  unfold Tm.castValid at h
  simp only [Bool.and_eq_true, decide_eq_true_eq] at h
  omega
theorem Tm.ctys_ok {t : Tm} (lb : Int) (h : t.castValid = true) : ((t.ctys lb).length ≤ 400) ∧ (∀ x ∈ t.ctys lb, x.valid = true) ∧ ∀ x ∈ t.ctys lb, x.cnt ≤ 1048576 := by
  have hv := Tm.ctys_valid lb t 13 40 (Tm.castValid_shape h)
  refine ⟨?_, hv, fun x hx => Ty.cnt_valid (hv x hx)⟩
  have h1 := castTys_len lb t.casts
  rw [Tm.ctys_eq] at h1
  have := Tm.casts_ok h
  omega
end Go.Proofs.Ytghgjpcibdfbmaa
namespace Go.Proofs.Ytghgjpcibdfbmaa
open Go.RowKit
set_option linter.unusedVariables false
set_option linter.unusedSimpArgs false
set_option maxRecDepth 100000

theorem castTys_mem {l : Int} : ∀ {us : List Tm} {j : Nat} (h : j < us.length), us[j].label = l → us[j].src ∈ castTys l us ∧ us[j].type ∈ castTys l us
  | [], _, h, _ => absurd h (Nat.not_lt_zero _)
  | t :: ts, 0, _, e => by unfold castTys; simp at e; simp [e]
  | t :: ts, j + 1, h, e => by
    have := castTys_mem (us := ts) (j := j) (by simpa using h) (by simpa using e)
    unfold castTys
    exact ⟨List.mem_append_right _ (by simpa using this.1), List.mem_append_right _ (by simpa using this.2)⟩
theorem Tm.castTypes_scnt (lb : Int) (t : Tm) : Ty.scnt (t.castTypes lb) ≤ 1048576 := by
  unfold Tm.castTypes
  split
  · rename_i h
    have h1 := (Tm.ctys_ok lb h).1
    have h2 := Ty.cnts_small (t.ctys lb) (Tm.ctys_ok lb h).2.1
    unfold Ty.scnt
    omega
  · unfold Ty.scnt Ty.cnts; simp
set_option maxHeartbeats 8000000 in
theorem implCastTypes (F : Nat → Prop) (t : Tm) (lb : Int) (y : Value) (w : World) (hy : TmRep F w t y) :
    Calls Try.prog 44 #[y, .int .i64 lb] w (RetTys (t.castTypes lb) w) := by
  have hyB : TmRep (· < w.heap.size) w t y := hy.move (.weaken fun _ _ h => h)
  have hv := fun W (h : Below w.heap.size w W) => implCastValid F t y W (hy.below h)
  have hc := fun (hok : t.castValid = true) W (h : Below w.heap.size w W) => implCasts (· < w.heap.size) w.heap.size (fun _ h => h) t (by have := Tm.casts_ok hok; omega) y W (hyB.below h) h.size
  have hlen := fun (hok : t.castValid = true) => Tm.casts_ok hok
  have hcnt : t.castValid = true → ∀ x ∈ castTys lb t.casts, x.cnt ≤ 1048576 := fun h x hx => (Tm.ctys_ok lb h).2.2 x (by rw [← Tm.ctys_eq]; exact hx)
  unfold Tm.castTypes
  rw [← Tm.ctys_eq]
  obtain ⟨k, nm, u, tk, ta, tn, tq, fk, fa, fn, fq, l, c, m, q, rfl⟩ := hy.shape
  obtain ⟨i0, hi, hz0, hz1, hz2⟩ := info_parts Try.infoTy
  generalize t.casts = us at *
  generalize t.castValid = v at *
  have HV := Lib.hid hv
  have HC := Lib.hid hc
  have HLEN := Lib.hid hlen
  have HCNT := Lib.hid hcnt
  have Z0 := Lib.hid hz0
  have Z1 := Lib.hid hz1
  have Z2 := Lib.hid hz2
  have HI := Lib.hid hi
  clear hv hc hlen hcnt hy hyB hz0 hz1 hz2 hi
  cases v
  · go_enter Try.func44, Try.ntmps44
    go_wp2_with fail
    refine (HV.out _ bal1).mono ?_
    rintro e w1 ⟨rfl, hb1⟩
    go_wp2_with fail
    go_ret
    exact ⟨_, rfl, ⟨[], COwn.sl_nil (by unfold maxLen; omega), List.nodup_nil, by simp⟩, bstep bal1 hb1⟩
  · have hlen := HLEN.out rfl
    have hcnt := HCNT.out rfl
    have HLEN' := Lib.hid hlen
    have HCNT' := Lib.hid hcnt
    clear hlen hcnt HLEN HCNT
    go_enter Try.func44, Try.ntmps44
    go_wp2_with fail
    refine (HV.out _ bal1).mono ?_
    rintro e w1 ⟨rfl, hb1⟩
    have c0 : w1.cell? ⟨w.heap.size, 0, none⟩ = some (.int .i64 k) := bcell hb1 (cell_n0 0)
    have c1 : w1.cell? ⟨w.heap.size, 1, none⟩ = some (.string nm) := bcell hb1 (cell_n0 1)
    have c2 : w1.cell? ⟨w.heap.size, 2, none⟩ = some (.int .i64 u) := bcell hb1 (cell_n0 2)
    have c3 : w1.cell? ⟨w.heap.size, 3, none⟩ = some (.int .i64 tk) := bcell hb1 (cell_n0 3)
    have c4 : w1.cell? ⟨w.heap.size, 4, none⟩ = some (.slice ta tn tq) := bcell hb1 (cell_n0 4)
    have c5 : w1.cell? ⟨w.heap.size, 5, none⟩ = some (.int .i64 fk) := bcell hb1 (cell_n0 5)
    have c6 : w1.cell? ⟨w.heap.size, 6, none⟩ = some (.slice fa fn fq) := bcell hb1 (cell_n0 6)
    have c7 : w1.cell? ⟨w.heap.size, 7, none⟩ = some (.int .i64 l) := bcell hb1 (cell_n0 7)
    have c8 : w1.cell? ⟨w.heap.size, 8, none⟩ = some (.slice c m q) := bcell hb1 (cell_n0 8)
    have hB1 := bstep bal1 hb1
    have hbz := hB1.size
    go_wp2_with fail
    refine (HC.out (by simp) _ hB1).mono ?_
    rintro e w2 ⟨v2, rfl, hacc2, -, hb2⟩
    have hts := hacc2.tms
    obtain ⟨a2, q2, rfl, hq1, hq2, -⟩ := hts.open
    have hB2 := bstep hB1 hb2
    have hbz2 := hB2.size
    have HTS0 := Lib.hid hts
    clear hts hacc2 c0 c1 c2 c3 c4 c5 c6 c7 c8 hb1 hb2 hB1 HV HC
    obtain ⟨n, hn⟩ : ∃ n, us.length = n := ⟨_, rfl⟩
    have hts := HTS0.out
    rw [hn] at hq1 hts ⊢
    have HN := Lib.hid hn
    have hn2 : n ≤ 200 := by have := HLEN'.out; omega
    unfold maxLen at hq2
    clear hn HTS0
    go_wp2_with fail
    go_loopw [14, 5] (fun i p wr => ∃ j : Nat, j ≤ n ∧ i = .int .i64 j ∧ (∃ nn : Nat, nn ≤ 400 ∧ Hid (nn = (castTys lb (us.take j)).length) ∧ AccNew w2.heap.size 33 2 wr p nn (Ty.rows (castTys lb (us.take j)))) ∧ Below w2.heap.size w2 wr) (fun i _ _ => n - (intOf i).toNat)
    case atStart => exact ⟨0, by omega, rfl, ⟨0, by omega, by simp [Hid, castTys], by simpa [castTys, Ty.rows] using AccNew.nil _ _ _ _⟩, Below.refl _ _⟩
    case round =>
      obtain ⟨j, hj, rfl, ⟨nn, hnn4, hnn, hacc⟩, hbw⟩ := hrel
      have hbz0 := hbw.size
      by_cases hlt : j < n
      · have hjt : j < us.length := by rw [HN.out]; exact hlt
        obtain ⟨b, off, k0, nm0, u0, tk0, ta0, tn0, tq0, fk0, fa0, fn0, fq0, l0, a0, m0, q0, rfl, lb0, e0, e1, e2, e3, e4, e5, e6, e7, e8, ht⟩ := hts.at hbw hjt
        obtain ⟨r1, r2, r3, r4, r5, r6, r7, r8, r9, rn, rm, rq, hty, hsr, hks⟩ := ht.parts
        have hct := castTys_take_succ lb us j hjt
        have hcl := castTys_take_le lb us (j + 1)
        have hmem := castTys_mem (l := lb) hjt
        rw [← r8] at hct hmem
        have HC1 := Lib.hid (fun (hl : l0 = lb) W (h : Below wr.heap.size wr W) => implOwnType _ us[j].src _ W (hsr.below h) (HCNT'.out _ (hmem hl).1))
        have HC2 := Lib.hid (fun (hl : l0 = lb) W (h : Below wr.heap.size wr W) => implOwnType _ us[j].type _ W (hty.below h) (HCNT'.out _ (hmem hl).2))
        have HCT := Lib.hid hct
        have HCL := Lib.hid hcl
        clear r1 r2 r3 r4 r5 r6 r7 r8 r9 rn rm rq hty hsr hks ht hct hcl hmem
        obtain ⟨cv, qv, rfl⟩ := hacc.shape
        by_cases hl : l0 = lb
        · subst hl
          have HCT2 := Lib.hid (HCT.out.trans (by rw [if_pos (by simp)]))
          obtain ⟨xs, fps, ho, hll, hs, hd, hfp⟩ := hacc
          have HO := Lib.hid ho
          have HS := Lib.hid hs
          have HD := Lib.hid hd
          have HFP := Lib.hid hfp
          have HL := Lib.hid hll
          clear ho hs hd hfp hll HCT
          go_wp2_with fail
          have hlt1 : ∀ x ∈ fps, x < wr.heap.size := fun x hx => SRows.lt _ _ _ HS.out x hx
          have HLT1 := Lib.hid hlt1
          have hlo1 := fun x => HO.out.lt x
          have HLO1 := Lib.hid hlo1
          clear hlt1 hlo1
          go_region_law (first
            | (go_simp; go_at_call_of 89 (Value.agg #[Value.int IntKind.i64 fk0, Value.slice fa0 fn0 fq0]); refine (HC1.out (by simp) _ bal1.drew).mono ?_; rintro e w3 ⟨v1, rfl, hv1, hb1⟩; obtain ⟨k1, c1, m1, q1, fp1, rfl, -, -, hs1, hd1, hx1⟩ := hv1.open; have d3 : w3.cell? ⟨wr.heap.size, 3, none⟩ = some (.int .i64 tk0) := bcelld hb1 (cell_n0 3); have d4 : w3.cell? ⟨wr.heap.size, 4, none⟩ = some (.slice ta0 tn0 tq0) := bcelld hb1 (cell_n0 4); have hbz := hb1.size; simp at hbz; have lw1 : wr.heap.size < w3.heap.size := World.block_lt_of_cell? _ _ d3)
            | (go_simp; go_at_call_of 89 (Value.agg #[Value.int IntKind.i64 tk0, Value.slice ta0 tn0 tq0]); refine (HC2.out (by simp) _ (bstep bal1.drew hb1)).mono ?_; rintro e w4 ⟨v2, rfl, hv2, hb2⟩; obtain ⟨k2, c2, m2, q2, fp2, rfl, -, -, hs2, hd2, hx2⟩ := hv2.open; have hbz2 := hb2.size)
            | (refine step_append_lies _ (by rfl) (.tmp 22) (.tmp 29) 31 (by rfl) w2.heap.size 33 i0 _ 2 32 Try.underlying31 HI.out Z0.out Z1.out Z2.out rfl (by omega) (.slice cv nn qv) nn xs (by rfl) (ownsRow_below HO.out (bstep (bstep (bstep bal1.drew hb1) hb2) bal1))
                ⟨w4.heap.size, 0, none⟩ 2 2 [.int .i64 k1, .slice c1 m1 q1, .int .i64 k2, .slice c2 m2 q2] (by rfl) (by rfl) (World.news_of_block (cs := #[.int .i64 k1, .slice c1 m1 q1, .int .i64 k2, .slice c2 m2 q2]) (t := 33) (fr := (0, 0)) (heap_alloc_new w4 _)) (by simp [Value.oneCell'])
                (by omega) (by unfold maxLen; omega) (by omega) (by simp; omega) _ rfl ?_
               intro gg cap2 w5 hown3 hgrow hat hlt3
               have hs1' := hs1.move _ _ _ (fun b hb => (heap_alloc_old w4 (.cells #[.int .i64 k1, .slice c1 m1 q1, .int .i64 k2, .slice c2 m2 q2] 33) (Nat.lt_of_lt_of_le (SOwn.lt _ _ _ hs1 b hb) hbz2)).trans (hb2.block b (SOwn.lt _ _ _ hs1 b hb)))
               have hs2' := hs2.move _ _ _ (fun b hb => heap_alloc_old w4 (.cells #[.int .i64 k1, .slice c1 m1 q1, .int .i64 k2, .slice c2 m2 q2] 33) (SOwn.lt _ _ _ hs2 b hb))
               have hBA : Below wr.heap.size wr (w4.alloc (.cells #[.int .i64 k1, .slice c1 m1 q1, .int .i64 k2, .slice c2 m2 q2] 33)) := bstep (bstep (bstep bal1.drew hb1) hb2) bal1
               have hs0' := HS.out.move _ _ _ (fun b hb => hBA.block b (HLT1.out b hb))
               have hl1 : ∀ x ∈ fp1, x < w3.heap.size := SOwn.lt _ _ _ hs1
               have hacc0 := AccNew.pushS (rs := [us[j].src.row, us[j].type.row]) HL.out hs0' HD.out HFP.out rfl (SRows.append (SRows.single hs1') (SRows.single hs2')) (List.nodup_append.2 ⟨hd1, hd2, fun x hx z hz e => by have h1 := hl1 x hx; have h2 := hx2 z hz; omega⟩)
                (fun x hx => by
                  have h1 : wr.heap.size + 1 ≤ x := by
                    rcases List.mem_append.1 hx with hx | hx
                    · have h1 := hx1 x hx; simp at h1; exact h1
                    · have h1 := hx2 x hx; omega
                  exact ⟨by omega, fun e => by have := (HLO1.out x e).2; omega, fun hm => by have := HLT1.out x hm; omega⟩) hown3 hgrow (hat.elim .inl (fun h => .inr (by first | (rw [h]; done) | (rw [h]; simp))))
               have hbel := grown_below hbw hBA HO.out (Nat.le_refl _) hgrow
               have HACC := Lib.hid (show AccNew w2.heap.size 33 2 w5 (.slice (some ⟨gg, 0, none⟩) (nn + 2) cap2) (nn + 2) (Ty.rows (castTys l0 (us.take (j + 1)))) from by rw [HCT2.out, Ty.rows_eq, List.map_append, ← Ty.rows_eq]; exact hacc0)
               have hsz5 : (castTys l0 (us.take (j + 1))).length = nn + 2 := by rw [HCT2.out, List.length_append, ← hnn.out]; rfl
               have HSZ5 := Lib.hid hsz5
               clear hacc0 hown3 hgrow hat hs1' hs2' hBA hs0' hl1 hs1 hd1 hx1 hs2 hd2 hx2 hv1 hv2 hb1 hb2 d3 d4 hsz5))
          all_goals
            go_wp2_with fail
            go_roundw
            case rel => exact ⟨j + 1, by omega, by go_num, ⟨nn + 2, by have := HSZ5.out; have := HCL.out; have := HN.out; omega, HSZ5.out.symm, HACC.out⟩, hbel⟩
            case measure => simp [intOf]; omega
        · have hlf : (l0 == lb) = false := by simpa using hl
          have HCT2 := Lib.hid (HCT.out.trans (by rw [if_neg (by simpa using hl)]))
          have HACC := Lib.hid hacc
          clear hacc HCT HC1 HC2
          go_wp2_with fail
          go_roundw
          case rel => exact ⟨j + 1, by omega, by go_num, ⟨nn, hnn4, by unfold Hid; rw [HCT2.out, List.append_nil]; exact hnn.out, by rw [HCT2.out, List.append_nil]; exact HACC.out.grown bal1⟩, bstep hbw bal1⟩
          case measure => simp [intOf]; omega
      · have HACC := Lib.hid hacc
        clear hacc
        go_wp2_with fail
        go_ret
        have e : castTys lb (us.take j) = castTys lb us := by rw [List.take_of_length_le (by have := HN.out; omega)]
        have h := HACC.out
        rw [e] at h
        obtain ⟨fp, p1, p2, p3⟩ := h.tys
        exact ⟨_, rfl, ⟨fp, p1, p2, fun b hb => Nat.le_trans hbz2 (p3 b hb)⟩, ⟨hbw.os.trans hB2.os, hbw.tape.trans hB2.tape, hbw.output.trans hB2.output, by omega, fun b hb => (hbw.block b (by omega)).trans (hB2.block b hb)⟩⟩
end Go.Proofs.Ytghgjpcibdfbmaa
namespace Go.Proofs.Ytghgjpcibdfbmaa
open Go.RowKit
set_option linter.unusedVariables false
set_option linter.unusedSimpArgs false
set_option maxRecDepth 100000

theorem Tm.ctyss_take_succ (la : Int) : ∀ (ts : List Tm) (j : Nat) (h : j < ts.length), Tm.ctyss la (ts.take (j + 1)) = Tm.ctyss la (ts.take j) ++ ts[j].ctys la
  | [], _, h => absurd h (Nat.not_lt_zero _)
  | t :: ts, 0, _ => by simp [Tm.ctyss]
  | t :: ts, j + 1, h => by
    have := Tm.ctyss_take_succ la ts j (by simpa using h)
    simp only [List.take_succ_cons, Tm.ctyss, List.getElem_cons_succ, this, List.append_assoc]
theorem Tm.ctyss_take_le (la : Int) (ts : List Tm) (j : Nat) : (Tm.ctyss la (ts.take j)).length ≤ (Tm.ctyss la ts).length := by
  induction ts generalizing j with
  | nil => simp
  | cons t ts ih =>
    cases j with
    | zero => simp [Tm.ctyss]
    | succ j => have := ih j; simp only [List.take_succ_cons, Tm.ctyss, List.length_append]; omega
theorem Tm.ctys_mem {la : Int} {ts : List Tm} {t : Tm} (ht : t ∈ ts) : ∀ x ∈ t.ctys la, x ∈ Tm.ctyss la ts := by
  induction ts with
  | nil => cases ht
  | cons u ts ih =>
    intro x hx
    unfold Tm.ctyss
    rcases List.mem_cons.1 ht with rfl | ht
    · exact List.mem_append_left _ hx
    · exact List.mem_append_right _ (ih ht x hx)
set_option maxHeartbeats 8000000 in
theorem specL4CastTypes (F : Nat → Prop) (la : Int) (B : Nat) (hF : ∀ b, F b → b < B) (t : Tm) : ∀ (_ : ∀ x ∈ t.ctys la, x.cnt ≤ 1048576) (os : List Ty) (n : Nat) (_ : os.length = n) (_ : n + (t.ctys la).length ≤ 1000001) (v y : Value) (w : World), TmRep F w t y → B ≤ w.heap.size → AccNew B 33 2 w v n (Ty.rows os) →
    Calls Try.prog 88 #[v, y, .int .i64 la] w (fun e w' => ∃ v', e = .returned v' ∧ AccNew B 33 2 w' v' (n + (t.ctys la).length) (Ty.rows (os ++ t.ctys la)) ∧ w.grownBy w' v.ownBlock ∧ (∀ g, v'.ownBlock = some g → v.ownBlock = some g ∨ w.heap.size ≤ g)) := by
  intro hcnt os n hos hlen v y w hy hBw hacc
  have IH : ∀ t' ∈ t.kids, ∀ (_ : ∀ x ∈ t'.ctys la, x.cnt ≤ 1048576) (os : List Ty) (n : Nat) (_ : os.length = n) (_ : n + (t'.ctys la).length ≤ 1000001) (v y : Value) (W : World), TmRep F W t' y → B ≤ W.heap.size → AccNew B 33 2 W v n (Ty.rows os) → Calls Try.prog 88 #[v, y, .int .i64 la] W (fun e W' => ∃ v', e = .returned v' ∧ AccNew B 33 2 W' v' (n + (t'.ctys la).length) (Ty.rows (os ++ t'.ctys la)) ∧ W.grownBy W' v.ownBlock ∧ (∀ g, v'.ownBlock = some g → v.ownBlock = some g ∨ W.heap.size ≤ g)) :=
    fun t' ht a os n b c v y W d e f => specL4CastTypes F la B hF t' a os n b c v y W d e f
  have hv0 := hacc.ownlt
  obtain ⟨cv, qv, rfl⟩ := hacc.shape
  obtain ⟨k, nm, u, tk, ta, tn, tq, fk, fa, fn, fq, l, c, m, q, rfl⟩ := hy.shape
  obtain ⟨r1, r2, r3, r4, r5, r6, r7, r8, r9, rn, rm, rq, hty, hsr, hks⟩ := hy.parts
  obtain ⟨i0, hi, hz0, hz1, hz2⟩ := info_parts Try.infoTy
  cases t with | mk kk nn uu tt ff ll ts =>
  simp only [Tm.kind, Tm.name, Tm.num, Tm.type, Tm.src, Tm.label, Tm.kids] at *
  subst r1 r2 r3 r8
  have hl2 : n + (if k == 14 && l == la then 2 else 0) + (Tm.ctyss la ts).length ≤ 1000001 := by
    unfold Tm.ctys at hlen
    rw [List.length_append] at hlen
    by_cases hc : (k == 14 && l == la) = true
    · rw [if_pos hc] at hlen ⊢; simp at hlen; omega
    · rw [if_neg hc] at hlen ⊢; simp at hlen; omega
  have hc2 : ∀ x ∈ Tm.ctyss la ts, x.cnt ≤ 1048576 := fun x hx => hcnt x (by unfold Tm.ctys; exact List.mem_append_right _ hx)
  have hct : (k == 14 && l == la) = true → ff.cnt ≤ 1048576 ∧ tt.cnt ≤ 1048576 := fun h => ⟨hcnt ff (by unfold Tm.ctys; rw [if_pos h]; simp), hcnt tt (by unfold Tm.ctys; rw [if_pos h]; simp)⟩
  have hnl : n + 2 ≤ 1000003 := by omega
  have HNL0 := Lib.hid hl2
  have HCNT := Lib.hid hc2
  have HCT := Lib.hid hct
  have HN := Lib.hid r9
  have IHH := Lib.hid IH
  have Z0 := Lib.hid hz0
  have Z1 := Lib.hid hz1
  have Z2 := Lib.hid hz2
  have HI := Lib.hid hi
  have HF := Lib.hid hF
  have HV0 := Lib.hid hv0
  have HACC00 := Lib.hid hacc
  have HOS := Lib.hid hos
  have HNL := Lib.hid hnl
  unfold maxLen at rq
  unfold Tm.ctys
  clear hl2 hc2 hct IH hy r9 r4 r5 r6 r7 rn hlen hcnt hz0 hz1 hz2 hi hv0 hacc hos hnl hF
  by_cases hk : (k == 14 && l == la) = true
  · rw [if_pos hk]
    have HLEN : Hid (n + 2 + (Tm.ctyss la ts).length ≤ 1000001) := Lib.hid (by have := HNL0.out; rw [if_pos hk] at this; exact this)
    obtain ⟨TL, hTL⟩ : ∃ x, [ff, tt] ++ Tm.ctyss la ts = x := ⟨_, rfl⟩
    rw [hTL]
    have HTL := Lib.hid hTL
    clear hTL
    have hk14 : k = 14 ∧ l = la := by simpa using hk
    obtain ⟨rfl, hla⟩ := hk14
    have hla' := hla.symm
    subst hla'
    clear hk
    obtain ⟨xs, fps, ho, hl, hs, hd, hfp⟩ := HACC00.out
    have hlt1 : ∀ x ∈ fps, x < w.heap.size := fun x hx => SRows.lt _ _ _ hs x hx
    have HO := Lib.hid ho
    have HS := Lib.hid hs
    have HD := Lib.hid hd
    have HL := Lib.hid hl
    have HFP := Lib.hid hfp
    have HLT1 := Lib.hid hlt1
    have HC1 := Lib.hid (fun W (h : Below w.heap.size w W) => specL1Copy F ff _ W (hsr.below h) (HCT.out (by simp)).1)
    have HC2 := Lib.hid (fun W (h : Below w.heap.size w W) => specL1Copy F tt _ W (hty.below h) (HCT.out (by simp)).2)
    clear ho hl hs hd hfp hlt1
    go_enter Try.func88, Try.ntmps88
    go_wp2_with fail
    go_region_law (first
      | (go_simp; go_at_call_of 120 (Value.agg #[Value.int IntKind.i64 fk, Value.slice fa fn fq]); refine (HC1.out _ bal1.drew).mono ?_; rintro e w1 ⟨v1, rfl, hv1, hb1⟩; obtain ⟨k1, c1, m1, q1, fp1, rfl, -, -, hs1, hd1, hx1⟩ := hv1.open; have d3 : w1.cell? ⟨w.heap.size, 3, none⟩ = some (.int .i64 tk) := bcelld hb1 (cell_n0 3); have d4 : w1.cell? ⟨w.heap.size, 4, none⟩ = some (.slice ta tn tq) := bcelld hb1 (cell_n0 4); have d8 : w1.cell? ⟨w.heap.size, 8, none⟩ = some (.slice c m q) := bcelld hb1 (cell_n0 8); have hbz := hb1.size; simp at hbz; have lw1 : w.heap.size < w1.heap.size := World.block_lt_of_cell? _ _ d3)
      | (go_simp; go_at_call_of 120 (Value.agg #[Value.int IntKind.i64 tk, Value.slice ta tn tq]); refine (HC2.out _ (bstep bal1.drew hb1)).mono ?_; rintro e w2 ⟨v2, rfl, hv2, hb2⟩; obtain ⟨k2, c2, m2, q2, fp2, rfl, -, -, hs2, hd2, hx2⟩ := hv2.open; have hbz2 := hb2.size)
      | (refine step_append_lies _ (by rfl) (.tmp 17) (.tmp 24) 31 (by rfl) B 33 i0 _ 2 32 Try.underlying31 HI.out Z0.out Z1.out Z2.out rfl (by omega) (.slice cv n qv) n xs (by rfl) (ownsRow_below HO.out (bstep (bstep (bstep bal1.drew hb1) hb2) bal1))
          ⟨w2.heap.size, 0, none⟩ 2 2 [.int .i64 k1, .slice c1 m1 q1, .int .i64 k2, .slice c2 m2 q2] (by rfl) (by rfl) (World.news_of_block (cs := #[.int .i64 k1, .slice c1 m1 q1, .int .i64 k2, .slice c2 m2 q2]) (t := 33) (fr := (0, 0)) (heap_alloc_new w2 _)) (by simp [Value.oneCell'])
          (by omega) (by have := HNL.out; unfold maxLen; omega) (by have := HNL.out; omega) (by simp; omega) _ rfl ?_
         intro gg cap2 w3 hown3 hgrow hat hlt3
         have hs1' := hs1.move _ _ _ (fun b hb => (heap_alloc_old w2 (.cells #[.int .i64 k1, .slice c1 m1 q1, .int .i64 k2, .slice c2 m2 q2] 33) (Nat.lt_of_lt_of_le (SOwn.lt _ _ _ hs1 b hb) hbz2)).trans (hb2.block b (SOwn.lt _ _ _ hs1 b hb)))
         have hs2' := hs2.move _ _ _ (fun b hb => heap_alloc_old w2 (.cells #[.int .i64 k1, .slice c1 m1 q1, .int .i64 k2, .slice c2 m2 q2] 33) (SOwn.lt _ _ _ hs2 b hb))
         have hBA : Below w.heap.size w (w2.alloc (.cells #[.int .i64 k1, .slice c1 m1 q1, .int .i64 k2, .slice c2 m2 q2] 33)) := bstep (bstep (bstep bal1.drew hb1) hb2) bal1
         have hs0' := HS.out.move _ _ _ (fun b hb => hBA.block b (HLT1.out b hb))
         have hl1 : ∀ x ∈ fp1, x < w1.heap.size := SOwn.lt _ _ _ hs1
         have hacc0 := AccNew.pushS (rs := [ff.row, tt.row]) HL.out hs0' HD.out HFP.out rfl (SRows.append (SRows.single hs1') (SRows.single hs2')) (List.nodup_append.2 ⟨hd1, hd2, fun x hx z hz e => by have h1 := hl1 x hx; have h2 := hx2 z hz; omega⟩)
          (fun x hx => by
            have h1 : w.heap.size + 1 ≤ x := by
              rcases List.mem_append.1 hx with hx | hx
              · have h1 := hx1 x hx; simp at h1; exact h1
              · have h1 := hx2 x hx; omega
            exact ⟨by omega, fun e => by have := HV0.out x e; omega, fun hm => by have := HLT1.out x hm; omega⟩) hown3 hgrow (hat.elim .inl (fun h => .inr (by first | (rw [h]; done) | (rw [h]; simp))))
         have hg0 : w.grownBy w3 (Value.slice cv n qv).ownBlock := gtrans hBA hgrow
         have c8 : w3.cell? ⟨w.heap.size, 8, none⟩ = some (.slice c m q) := (World.cell?_of_block (a := ⟨w.heap.size, 8, none⟩) (hgrow.block _ (by simp; omega) (fun e => by have := HV0.out w.heap.size e.symm; omega))).trans (bcell bal1 (bcell hb2 d8))
         have HOWN0 := Lib.hid (show ∀ g, (Value.slice (some ⟨gg, 0, none⟩) (n + 2) cap2).ownBlock = some g → (Value.slice cv n qv).ownBlock = some g ∨ w.heap.size + 1 ≤ g from fun g e => by
           simp only [Value.ownBlock, Option.some.injEq] at e
           subst e
           rcases hat with h | h
           · exact .inl h
           · exact .inr (by first | omega | (simp at h; omega)))
         have HACC0 := Lib.hid (show AccNew B 33 2 w3 (.slice (some ⟨gg, 0, none⟩) (n + 2) cap2) (n + 2) (Ty.rows (os ++ [ff, tt])) from by rw [Ty.rows_eq, List.map_append, ← Ty.rows_eq]; exact hacc0)
         have HG0 := Lib.hid hg0
         clear hacc0 hown3 hgrow hat hg0 hs1' hs2' hBA hs0' hl1 hs1 hd1 hx1 hs2 hd2 hx2 hv1 hv2 hb1 hb2 d3 d4 d8))
    all_goals
      go_wp2_with fail
      go_loopw [7, 0] (fun i p wr => ∃ j : Nat, j ≤ m ∧ i = .int .i64 j ∧ (∃ nn : Nat, nn = (os ++ ([ff, tt] ++ Tm.ctyss la (ts.take j))).length ∧ AccNew B 33 2 wr p nn (Ty.rows (os ++ ([ff, tt] ++ Tm.ctyss la (ts.take j)))) ∧ (∀ g, p.ownBlock = some g → (Value.slice cv n qv).ownBlock = some g ∨ w.heap.size + 1 ≤ g)) ∧ w.grownBy wr (Value.slice cv n qv).ownBlock ∧ wr.cell? ⟨w.heap.size, 8, none⟩ = some (.slice c m q)) (fun i _ _ => m - (intOf i).toNat)
      case atStart => exact ⟨0, by omega, rfl, ⟨n + 2, by simp [Tm.ctyss, HOS.out], by simpa [Tm.ctyss] using HACC0.out, HOWN0.out⟩, HG0.out, c8⟩
      case round =>
        obtain ⟨j, hj, rfl, ⟨nn, hnn, hacc, hown⟩, hgw, x8⟩ := hrel
        have hbz0 := hgw.size
        have lx := World.block_lt_of_cell? _ _ x8
        have HACC := Lib.hid hacc
        have HOWN := Lib.hid hown
        have HGW := Lib.hid hgw
        have HNN := Lib.hid hnn
        obtain ⟨cp, qp, rfl⟩ := hacc.shape
        clear hacc hown hgw hnn
        by_cases hlt : j < m
        · have hjt : j < ts.length := by have := HN.out; omega
          have hkw : TmsRep F wr ts (.slice c m q) := hks.move ⟨hbz0, fun _ h _ => h, fun b hFb hl => HGW.out.block b hl (fun e => by have h1 := HF.out b hFb; have h2 := HV0.out b e.symm; omega)⟩
          obtain ⟨b, off, k0, nm0, u0, tk0, ta0, tn0, tq0, fk0, fa0, fn0, fq0, l0, a0, m0, q0, rfl, lb, e0, e1, e2, e3, e4, e5, e6, e7, e8, ht⟩ := hkw.at (Below.refl _ _) hjt
          have hts := Tm.ctyss_take_succ la ts j hjt
          have htl : nn + (ts[j].ctys la).length ≤ 1000001 := by
            have h1 := Tm.ctyss_take_le la ts (j + 1)
            rw [hts, List.length_append] at h1
            have := HLEN.out
            have := HNN.out
            simp only [List.length_append] at this
            have := HOS.out
            have : ([ff, tt] : List Ty).length = 2 := rfl
            omega
          have hcall := IHH.out ts[j] (List.getElem_mem hjt) (fun x hx => HCNT.out x (Tm.ctys_mem (List.getElem_mem hjt) x hx)) _ nn HNN.out.symm htl _ _ wr ht (by omega) HACC.out
          generalize (ts[j].ctys la) = us at hcall htl hts
          have HC := Lib.hid hcall
          have HTS := Lib.hid hts
          clear hcall hts hkw ht
          go_wp2_with fail
          refine HC.out.mono ?_
          rintro e w1 ⟨v1, rfl, hv1, hg1, ho1⟩
          have HV1 := Lib.hid hv1
          have HG1 := Lib.hid (gthen HGW.out hg1 HOWN.out)
          have HO1 := Lib.hid ho1
          have x8b : w1.cell? ⟨w.heap.size, 8, none⟩ = some (.slice (some ⟨b, off, none⟩) m q) := (World.cell?_of_block (a := ⟨w.heap.size, 8, none⟩) (hg1.block _ lx (fun e => by
            rcases HOWN.out w.heap.size e.symm with h1 | h1
            · have := HV0.out w.heap.size h1; omega
            · omega))).trans x8
          clear hv1 hg1 ho1
          go_wp2_with fail
          go_roundw
          case rel => exact ⟨j + 1, by omega, by go_num, ⟨nn + us.length, by rw [HTS.out, HNN.out]; simp only [List.length_append]; omega, by have h := HV1.out; rw [HTS.out]; rw [List.append_assoc, List.append_assoc] at h; exact h, fun g e => by
            rcases HO1.out g e with h1 | h1
            · exact HOWN.out g h1
            · exact .inr (by omega)⟩, HG1.out, x8b⟩
          case measure => simp [intOf]; omega
        · go_wp2_with fail
          go_ret
          have e : TL = [ff, tt] ++ Tm.ctyss la (ts.take j) := HTL.out.symm.trans (by rw [List.take_of_length_le (by have := HN.out; omega)])
          have hl : n + TL.length = nn := by rw [e, HNN.out]; simp only [List.length_append]; have := HOS.out; omega
          refine ⟨_, rfl, by rw [hl, e]; exact HACC.out, HGW.out, fun g eg => (HOWN.out g eg).imp id (fun h => by omega)⟩
  · rw [if_neg hk]
    have HLEN : Hid (n + 0 + (Tm.ctyss la ts).length ≤ 1000001) := Lib.hid (by have := HNL0.out; rw [if_neg hk] at this; exact this)
    obtain ⟨TL, hTL⟩ : ∃ x, ([] : List Ty) ++ Tm.ctyss la ts = x := ⟨_, rfl⟩
    rw [hTL]
    have HTL := Lib.hid hTL
    clear hTL
    by_cases hk14 : k = 14
    · subst hk14
      have hlf : (l == la) = false := by simpa using hk
      clear hk
      go_enter Try.func88, Try.ntmps88
      go_wp2_with fail
      have c8 : (w.alloc (.cells #[.int .i64 14, .string nm, .int .i64 u, .int .i64 tk, .slice ta tn tq, .int .i64 fk, .slice fa fn fq, .int .i64 l, .slice c m q] 36)).cell? ⟨w.heap.size, 8, none⟩ = some (.slice c m q) := cell_n0 8
      have HACC0 := Lib.hid (show AccNew B 33 2 (w.alloc (.cells #[.int .i64 14, .string nm, .int .i64 u, .int .i64 tk, .slice ta tn tq, .int .i64 fk, .slice fa fn fq, .int .i64 l, .slice c m q] 36)) (.slice cv n qv) n (Ty.rows os) from HACC00.out.grown bal1)
      have HOWN0 := Lib.hid (show ∀ g, (Value.slice cv n qv).ownBlock = some g → (Value.slice cv n qv).ownBlock = some g ∨ w.heap.size + 1 ≤ g from fun g e => .inl e)
      have HG0 := Lib.hid (show w.grownBy (w.alloc (.cells #[.int .i64 14, .string nm, .int .i64 u, .int .i64 tk, .slice ta tn tq, .int .i64 fk, .slice fa fn fq, .int .i64 l, .slice c m q] 36)) (Value.slice cv n qv).ownBlock from gbelow bal1)
      go_loopw [7, 0] (fun i p wr => ∃ j : Nat, j ≤ m ∧ i = .int .i64 j ∧ (∃ nn : Nat, nn = (os ++ (([] : List Ty) ++ Tm.ctyss la (ts.take j))).length ∧ AccNew B 33 2 wr p nn (Ty.rows (os ++ (([] : List Ty) ++ Tm.ctyss la (ts.take j)))) ∧ (∀ g, p.ownBlock = some g → (Value.slice cv n qv).ownBlock = some g ∨ w.heap.size + 1 ≤ g)) ∧ w.grownBy wr (Value.slice cv n qv).ownBlock ∧ wr.cell? ⟨w.heap.size, 8, none⟩ = some (.slice c m q)) (fun i _ _ => m - (intOf i).toNat)
      case atStart => exact ⟨0, by omega, rfl, ⟨n, by simp [Tm.ctyss, HOS.out], by simpa [Tm.ctyss] using HACC0.out, HOWN0.out⟩, HG0.out, c8⟩
      case round =>
        obtain ⟨j, hj, rfl, ⟨nn, hnn, hacc, hown⟩, hgw, x8⟩ := hrel
        have hbz0 := hgw.size
        have lx := World.block_lt_of_cell? _ _ x8
        have HACC := Lib.hid hacc
        have HOWN := Lib.hid hown
        have HGW := Lib.hid hgw
        have HNN := Lib.hid hnn
        obtain ⟨cp, qp, rfl⟩ := hacc.shape
        clear hacc hown hgw hnn
        by_cases hlt : j < m
        · have hjt : j < ts.length := by have := HN.out; omega
          have hkw : TmsRep F wr ts (.slice c m q) := hks.move ⟨hbz0, fun _ h _ => h, fun b hFb hl => HGW.out.block b hl (fun e => by have h1 := HF.out b hFb; have h2 := HV0.out b e.symm; omega)⟩
          obtain ⟨b, off, k0, nm0, u0, tk0, ta0, tn0, tq0, fk0, fa0, fn0, fq0, l0, a0, m0, q0, rfl, lb, e0, e1, e2, e3, e4, e5, e6, e7, e8, ht⟩ := hkw.at (Below.refl _ _) hjt
          have hts := Tm.ctyss_take_succ la ts j hjt
          have htl : nn + (ts[j].ctys la).length ≤ 1000001 := by
            have h1 := Tm.ctyss_take_le la ts (j + 1)
            rw [hts, List.length_append] at h1
            have := HLEN.out
            have := HNN.out
            simp only [List.length_append] at this
            have := HOS.out
            have : (([] : List Ty) : List Ty).length = 0 := rfl
            omega
          have hcall := IHH.out ts[j] (List.getElem_mem hjt) (fun x hx => HCNT.out x (Tm.ctys_mem (List.getElem_mem hjt) x hx)) _ nn HNN.out.symm htl _ _ wr ht (by omega) HACC.out
          generalize (ts[j].ctys la) = us at hcall htl hts
          have HC := Lib.hid hcall
          have HTS := Lib.hid hts
          clear hcall hts hkw ht
          go_wp2_with fail
          refine HC.out.mono ?_
          rintro e w1 ⟨v1, rfl, hv1, hg1, ho1⟩
          have HV1 := Lib.hid hv1
          have HG1 := Lib.hid (gthen HGW.out hg1 HOWN.out)
          have HO1 := Lib.hid ho1
          have x8b : w1.cell? ⟨w.heap.size, 8, none⟩ = some (.slice (some ⟨b, off, none⟩) m q) := (World.cell?_of_block (a := ⟨w.heap.size, 8, none⟩) (hg1.block _ lx (fun e => by
            rcases HOWN.out w.heap.size e.symm with h1 | h1
            · have := HV0.out w.heap.size h1; omega
            · omega))).trans x8
          clear hv1 hg1 ho1
          go_wp2_with fail
          go_roundw
          case rel => exact ⟨j + 1, by omega, by go_num, ⟨nn + us.length, by rw [HTS.out, HNN.out]; simp only [List.length_append]; omega, by have h := HV1.out; rw [HTS.out]; rw [List.append_assoc, List.append_assoc] at h; exact h, fun g e => by
            rcases HO1.out g e with h1 | h1
            · exact HOWN.out g h1
            · exact .inr (by omega)⟩, HG1.out, x8b⟩
          case measure => simp [intOf]; omega
        · go_wp2_with fail
          go_ret
          have e : TL = ([] : List Ty) ++ Tm.ctyss la (ts.take j) := HTL.out.symm.trans (by rw [List.take_of_length_le (by have := HN.out; omega)])
          have hl : n + TL.length = nn := by rw [e, HNN.out]; simp only [List.length_append]; have := HOS.out; omega
          refine ⟨_, rfl, by rw [hl, e]; exact HACC.out, HGW.out, fun g eg => (HOWN.out g eg).imp id (fun h => by omega)⟩
    · have hkf : (k == 14) = false := by simpa using hk14
      clear hk hk14
      go_enter Try.func88, Try.ntmps88
      go_wp2_with fail
      have c8 : (w.alloc (.cells #[.int .i64 k, .string nm, .int .i64 u, .int .i64 tk, .slice ta tn tq, .int .i64 fk, .slice fa fn fq, .int .i64 l, .slice c m q] 36)).cell? ⟨w.heap.size, 8, none⟩ = some (.slice c m q) := cell_n0 8
      have HACC0 := Lib.hid (show AccNew B 33 2 (w.alloc (.cells #[.int .i64 k, .string nm, .int .i64 u, .int .i64 tk, .slice ta tn tq, .int .i64 fk, .slice fa fn fq, .int .i64 l, .slice c m q] 36)) (.slice cv n qv) n (Ty.rows os) from HACC00.out.grown bal1)
      have HOWN0 := Lib.hid (show ∀ g, (Value.slice cv n qv).ownBlock = some g → (Value.slice cv n qv).ownBlock = some g ∨ w.heap.size + 1 ≤ g from fun g e => .inl e)
      have HG0 := Lib.hid (show w.grownBy (w.alloc (.cells #[.int .i64 k, .string nm, .int .i64 u, .int .i64 tk, .slice ta tn tq, .int .i64 fk, .slice fa fn fq, .int .i64 l, .slice c m q] 36)) (Value.slice cv n qv).ownBlock from gbelow bal1)
      go_loopw [7, 0] (fun i p wr => ∃ j : Nat, j ≤ m ∧ i = .int .i64 j ∧ (∃ nn : Nat, nn = (os ++ (([] : List Ty) ++ Tm.ctyss la (ts.take j))).length ∧ AccNew B 33 2 wr p nn (Ty.rows (os ++ (([] : List Ty) ++ Tm.ctyss la (ts.take j)))) ∧ (∀ g, p.ownBlock = some g → (Value.slice cv n qv).ownBlock = some g ∨ w.heap.size + 1 ≤ g)) ∧ w.grownBy wr (Value.slice cv n qv).ownBlock ∧ wr.cell? ⟨w.heap.size, 8, none⟩ = some (.slice c m q)) (fun i _ _ => m - (intOf i).toNat)
      case atStart => exact ⟨0, by omega, rfl, ⟨n, by simp [Tm.ctyss, HOS.out], by simpa [Tm.ctyss] using HACC0.out, HOWN0.out⟩, HG0.out, c8⟩
      case round =>
        obtain ⟨j, hj, rfl, ⟨nn, hnn, hacc, hown⟩, hgw, x8⟩ := hrel
        have hbz0 := hgw.size
        have lx := World.block_lt_of_cell? _ _ x8
        have HACC := Lib.hid hacc
        have HOWN := Lib.hid hown
        have HGW := Lib.hid hgw
        have HNN := Lib.hid hnn
        obtain ⟨cp, qp, rfl⟩ := hacc.shape
        clear hacc hown hgw hnn
        by_cases hlt : j < m
        · have hjt : j < ts.length := by have := HN.out; omega
          have hkw : TmsRep F wr ts (.slice c m q) := hks.move ⟨hbz0, fun _ h _ => h, fun b hFb hl => HGW.out.block b hl (fun e => by have h1 := HF.out b hFb; have h2 := HV0.out b e.symm; omega)⟩
          obtain ⟨b, off, k0, nm0, u0, tk0, ta0, tn0, tq0, fk0, fa0, fn0, fq0, l0, a0, m0, q0, rfl, lb, e0, e1, e2, e3, e4, e5, e6, e7, e8, ht⟩ := hkw.at (Below.refl _ _) hjt
          have hts := Tm.ctyss_take_succ la ts j hjt
          have htl : nn + (ts[j].ctys la).length ≤ 1000001 := by
            have h1 := Tm.ctyss_take_le la ts (j + 1)
            rw [hts, List.length_append] at h1
            have := HLEN.out
            have := HNN.out
            simp only [List.length_append] at this
            have := HOS.out
            have : (([] : List Ty) : List Ty).length = 0 := rfl
            omega
          have hcall := IHH.out ts[j] (List.getElem_mem hjt) (fun x hx => HCNT.out x (Tm.ctys_mem (List.getElem_mem hjt) x hx)) _ nn HNN.out.symm htl _ _ wr ht (by omega) HACC.out
          generalize (ts[j].ctys la) = us at hcall htl hts
          have HC := Lib.hid hcall
          have HTS := Lib.hid hts
          clear hcall hts hkw ht
          go_wp2_with fail
          refine HC.out.mono ?_
          rintro e w1 ⟨v1, rfl, hv1, hg1, ho1⟩
          have HV1 := Lib.hid hv1
          have HG1 := Lib.hid (gthen HGW.out hg1 HOWN.out)
          have HO1 := Lib.hid ho1
          have x8b : w1.cell? ⟨w.heap.size, 8, none⟩ = some (.slice (some ⟨b, off, none⟩) m q) := (World.cell?_of_block (a := ⟨w.heap.size, 8, none⟩) (hg1.block _ lx (fun e => by
            rcases HOWN.out w.heap.size e.symm with h1 | h1
            · have := HV0.out w.heap.size h1; omega
            · omega))).trans x8
          clear hv1 hg1 ho1
          go_wp2_with fail
          go_roundw
          case rel => exact ⟨j + 1, by omega, by go_num, ⟨nn + us.length, by rw [HTS.out, HNN.out]; simp only [List.length_append]; omega, by have h := HV1.out; rw [HTS.out]; rw [List.append_assoc, List.append_assoc] at h; exact h, fun g e => by
            rcases HO1.out g e with h1 | h1
            · exact HOWN.out g h1
            · exact .inr (by omega)⟩, HG1.out, x8b⟩
          case measure => simp [intOf]; omega
        · go_wp2_with fail
          go_ret
          have e : TL = ([] : List Ty) ++ Tm.ctyss la (ts.take j) := HTL.out.symm.trans (by rw [List.take_of_length_le (by have := HN.out; omega)])
          have hl : n + TL.length = nn := by rw [e, HNN.out]; simp only [List.length_append]; have := HOS.out; omega
          refine ⟨_, rfl, by rw [hl, e]; exact HACC.out, HGW.out, fun g eg => (HOWN.out g eg).imp id (fun h => by omega)⟩
termination_by SizeOf.sizeOf t
decreasing_by exact Tm.kid_lt ht
set_option maxHeartbeats 4000000 in
theorem specCastTypes (F : Nat → Prop) (t : Tm) (la : Int) (y : Value) (w : World) (hy : TmRep F w t y) :
    Calls Try.prog 43 #[y, .int .i64 la] w (RetTys (t.castTypes la) w) := by
  have hv := fun W (h : Below w.heap.size w W) => specCastValid F t y W (hy.below h)
  have hyB : TmRep (· < w.heap.size) w t y := hy.move (.weaken fun _ _ h => h)
  have hT := fun (hok : t.castValid = true) (B : Nat) (hB : w.heap.size ≤ B) W (h : Below w.heap.size w W) (hBW : B ≤ W.heap.size) v (ha : AccNew B 33 2 W v 0 (Ty.rows [])) =>
    specL4CastTypes (· < w.heap.size) la B (fun b hb => by omega) t (Tm.ctys_ok la hok).2.2 [] 0 rfl (by have := (Tm.ctys_ok la hok).1; omega) v y W (hyB.below h) hBW ha
  simp only [List.nil_append, Nat.zero_add] at hT
  unfold Tm.castTypes
  obtain ⟨k, nm, u, tk, ta, tn, tq, fk, fa, fn, fq, l, c, m, q, rfl⟩ := hy.shape
  generalize t.ctys la = us at *
  generalize t.castValid = v at *
  have HV := Lib.hid hv
  have HT := Lib.hid hT
  clear hv hT hy hyB
  cases v
  · go_enter Try.func43, Try.ntmps43
    go_wp2_with fail
    refine (HV.out _ bal1).mono ?_
    rintro e w1 ⟨rfl, hb1⟩
    go_wp2_with fail
    go_ret
    exact ⟨_, rfl, ⟨[], COwn.sl_nil (by unfold maxLen; omega), List.nodup_nil, by simp⟩, bstep (bstep bal1 hb1) bal1⟩
  · go_enter Try.func43, Try.ntmps43
    go_wp2_with fail
    refine (HV.out _ bal1).mono ?_
    rintro e w1 ⟨rfl, hb1⟩
    have c0 : w1.cell? ⟨w.heap.size, 0, none⟩ = some (.int .i64 k) := bcell hb1 (cell_n0 0)
    have c1 : w1.cell? ⟨w.heap.size, 1, none⟩ = some (.string nm) := bcell hb1 (cell_n0 1)
    have c2 : w1.cell? ⟨w.heap.size, 2, none⟩ = some (.int .i64 u) := bcell hb1 (cell_n0 2)
    have c3 : w1.cell? ⟨w.heap.size, 3, none⟩ = some (.int .i64 tk) := bcell hb1 (cell_n0 3)
    have c4 : w1.cell? ⟨w.heap.size, 4, none⟩ = some (.slice ta tn tq) := bcell hb1 (cell_n0 4)
    have c5 : w1.cell? ⟨w.heap.size, 5, none⟩ = some (.int .i64 fk) := bcell hb1 (cell_n0 5)
    have c6 : w1.cell? ⟨w.heap.size, 6, none⟩ = some (.slice fa fn fq) := bcell hb1 (cell_n0 6)
    have c7 : w1.cell? ⟨w.heap.size, 7, none⟩ = some (.int .i64 l) := bcell hb1 (cell_n0 7)
    have c8 : w1.cell? ⟨w.heap.size, 8, none⟩ = some (.slice c m q) := bcell hb1 (cell_n0 8)
    have lw := World.block_lt_of_cell? _ _ c0
    have hB1 := bstep bal1 hb1
    have hbz := hB1.size
    go_wp2_with fail
    refine (HT.out (by simp) w1.heap.size hbz _ (bstep hB1 bal1) (by simp) _ (AccNew.empty (Nat.le_refl _) (heap_alloc_new w1 _))).mono ?_
    rintro e w2 ⟨v2, rfl, hv2, hg2, -⟩
    have hbel : Below w.heap.size w w2 := (bstep hB1 bal1).grown hg2 (bstep hB1 bal1).size (fun k hk => by simp [Value.ownBlock] at hk; omega)
    have HV2 := Lib.hid hv2
    have HBEL := Lib.hid hbel
    clear hv2 hg2 hbel
    go_wp2_with fail
    go_ret
    obtain ⟨fp, p1, p2, p3⟩ := HV2.out.tys
    exact ⟨_, rfl, ⟨fp, p1, p2, fun b hb => Nat.le_trans hbz (p3 b hb)⟩, HBEL.out⟩
end Go.Proofs.Ytghgjpcibdfbmaa
namespace Go.Proofs.Ytghgjpcibdfbmaa
open Go.RowKit
set_option maxRecDepth 100000
set_option linter.unusedVariables false
set_option linter.unusedSimpArgs false

set_option maxHeartbeats 8000000 in
theorem walk_FnExactCastTypes (F0 : Nat → Prop) (t0 : Tm) (lb1 : Int) (y0 : Value) (w : World) (r0 : TmRep F0 w t0 y0) (hlb1 : (Lit.int .i64 lb1).wf = true) :
    Calls Try.prog 11 #[y0, .int .i64 lb1] w fun e w' => e = .returned (.bool true) ∧ Below w.heap.size w w' := by
  replace r0 := r0.old
  obtain ⟨k0, sn0, u0, kt0, at0, nt0, qt0, kf0, af0, nf0, qf0, lb0, a0, n0, q0, rfl⟩ := r0.shape
  by_cases h0 : (t0.cnt : Int) ≤ 1048576
  · have s0 := szr_pos h0
    have l0 : 0 ≤ (1048576 - (t0.cnt : Int)) := by omega
    have m0 : (1048576 - (t0.cnt : Int)) ≤ 1048576 := by omega
    have b0 : t0.cnt ≤ 1048576 := by omega
    have qm0 := Tm.mk9_le t0
    obtain ⟨K0, hK0⟩ : ∃ x : Int, 1 + (Tm.mk9 t0 : Int) = x := ⟨_, rfl⟩
    have gK0 : 0 ≤ K0 := by omega
    have uK0 : 1 + (Tm.mk9 t0 : Int) ≤ 1099511627776 := by omega
    have vK0 : K0 ≤ 1099511627776 := by omega
    have T0 := Tm.castTypes_scnt lb1 t0
    obtain ⟨M0, hM0⟩ : ∃ x : Int, 1 + ((Ty.scnt (Tm.castTypes lb1 t0)) : Int) = x := ⟨_, rfl⟩
    have gM0 : 0 ≤ M0 := by omega
    have uM0 : 1 + ((Ty.scnt (Tm.castTypes lb1 t0)) : Int) ≤ 1099511627776 := by omega
    have Hqm0 := Lib.hid qm0
    have Hs0 := Lib.hid s0
    have Hb0 := Lib.hid b0
    have HhK0 := Lib.hid hK0
    have HuK0 := Lib.hid uK0
    have HvK0 := Lib.hid vK0
    have HT0 := Lib.hid T0
    have HhM0 := Lib.hid hM0
    have HuM0 := Lib.hid uM0
    have S0 := Hs0
    clear qm0 s0 b0 hK0 uK0 vK0 T0 hM0 uM0 h0
    go_enter Try.func11, Try.ntmps11
    go_wp2_with fail
    refine (szTerm_any _ t0 _ _ _ (r0.below bal1) (by omega) (by omega)).mono ?_
    rintro e w1 ⟨rfl, hb1⟩
    rw [S0.out]
    have hB := bstep bal1 hb1
    have zw1 := hB.size
    have zpw1 : w.heap.size + 1 ≤ w1.heap.size := by have := hb1.size; simp at this; omega
    have c0_0 : w1.cell? ⟨w.heap.size, 0, none⟩ = some (.int .i64 k0) := bcell hb1 (cell_n0 0)
    have c0_1 : w1.cell? ⟨w.heap.size, 1, none⟩ = some (.string sn0) := bcell hb1 (cell_n0 1)
    have c0_2 : w1.cell? ⟨w.heap.size, 2, none⟩ = some (.int .i64 u0) := bcell hb1 (cell_n0 2)
    have c0_3 : w1.cell? ⟨w.heap.size, 3, none⟩ = some (.int .i64 kt0) := bcell hb1 (cell_n0 3)
    have c0_4 : w1.cell? ⟨w.heap.size, 4, none⟩ = some (.slice at0 nt0 qt0) := bcell hb1 (cell_n0 4)
    have c0_5 : w1.cell? ⟨w.heap.size, 5, none⟩ = some (.int .i64 kf0) := bcell hb1 (cell_n0 5)
    have c0_6 : w1.cell? ⟨w.heap.size, 6, none⟩ = some (.slice af0 nf0 qf0) := bcell hb1 (cell_n0 6)
    have c0_7 : w1.cell? ⟨w.heap.size, 7, none⟩ = some (.int .i64 lb0) := bcell hb1 (cell_n0 7)
    have c0_8 : w1.cell? ⟨w.heap.size, 8, none⟩ = some (.slice a0 n0 q0) := bcell hb1 (cell_n0 8)
    replace r0 := r0.below hB
    have dc0_0 := World.block_lt_of_cell? _ _ c0_0
    go_wp2_with fail
    refine (toTerm_any _ t0 _ _ r0 Hb0.out).mono ?_
    rintro e w2 ⟨va0, rfl, ⟨fa0, oa0, nda0, loa0⟩, hb2⟩
    obtain ⟨ka0, sna0, ua0, kta0, ata0, nta0, qta0, kfa0, afa0, nfa0, qfa0, lba0, aa0, na0, qa0, rfl⟩ := oa0.ks
    have hst := hb2
    clear dc0_0
    replace c0_0 := bcell hst c0_0
    replace c0_1 := bcell hst c0_1
    replace c0_2 := bcell hst c0_2
    replace c0_3 := bcell hst c0_3
    replace c0_4 := bcell hst c0_4
    replace c0_5 := bcell hst c0_5
    replace c0_6 := bcell hst c0_6
    replace c0_7 := bcell hst c0_7
    replace c0_8 := bcell hst c0_8
    replace r0 := r0.below hst
    replace hB := bstep hB hst
    have zw2 : w1.heap.size ≤ w2.heap.size := hst.size
    have dc0_0 := World.block_lt_of_cell? _ _ c0_0
    clear hst
    have looa0 : ∀ b ∈ fa0, w1.heap.size + 0 ≤ b := fun b hb => by have := loa0 b hb; skip; omega
    have hioa0 : ∀ b ∈ fa0, b < w2.heap.size := oa0.lt
    clear loa0
    go_wp2_with fail
    refine (specCastTypes _ t0 lb1 _ _ oa0.rep).mono ?_
    rintro e w3 ⟨vw0, rfl, ⟨fw0, ow0, ndw0, low0⟩, hb3⟩
    obtain ⟨aw0, nw0, qw0, rfl⟩ := ow0.ks
    have hst := hb3
    clear dc0_0
    replace c0_0 := bcell hst c0_0
    replace c0_1 := bcell hst c0_1
    replace c0_2 := bcell hst c0_2
    replace c0_3 := bcell hst c0_3
    replace c0_4 := bcell hst c0_4
    replace c0_5 := bcell hst c0_5
    replace c0_6 := bcell hst c0_6
    replace c0_7 := bcell hst c0_7
    replace c0_8 := bcell hst c0_8
    replace r0 := r0.below hst
    replace oa0 := oa0.below hst
    replace hB := bstep hB hst
    have zw3 : w2.heap.size ≤ w3.heap.size := hst.size
    have dc0_0 := World.block_lt_of_cell? _ _ c0_0
    clear hst
    have loow0 : ∀ b ∈ fw0, w2.heap.size + 0 ≤ b := fun b hb => by have := low0 b hb; skip; omega
    have hiow0 : ∀ b ∈ fw0, b < w3.heap.size := ow0.lt
    clear low0
    clear oa0 nda0
    go_wp2_with fail
    refine (toTerm_any _ t0 _ _ r0 Hb0.out).mono ?_
    rintro e w4 ⟨vx0, rfl, ⟨fx0, ox0, ndx0, lox0⟩, hb4⟩
    obtain ⟨kx0, snx0, ux0, ktx0, atx0, ntx0, qtx0, kfx0, afx0, nfx0, qfx0, lbx0, ax0, nx0, qx0, rfl⟩ := ox0.ks
    have hst := hb4
    clear dc0_0
    replace c0_0 := bcell hst c0_0
    replace c0_1 := bcell hst c0_1
    replace c0_2 := bcell hst c0_2
    replace c0_3 := bcell hst c0_3
    replace c0_4 := bcell hst c0_4
    replace c0_5 := bcell hst c0_5
    replace c0_6 := bcell hst c0_6
    replace c0_7 := bcell hst c0_7
    replace c0_8 := bcell hst c0_8
    replace r0 := r0.below hst
    replace ow0 := ow0.below hst
    replace hB := bstep hB hst
    have zw4 : w3.heap.size ≤ w4.heap.size := hst.size
    have dc0_0 := World.block_lt_of_cell? _ _ c0_0
    clear hst
    have loox0 : ∀ b ∈ fx0, w3.heap.size + 0 ≤ b := fun b hb => by have := lox0 b hb; skip; omega
    have hiox0 : ∀ b ∈ fx0, b < w4.heap.size := ox0.lt
    clear lox0
    go_wp2_with fail
    refine (implCastTypes _ t0 lb1 _ _ (ox0.rep.below bal1)).mono ?_
    rintro e w5 ⟨vg0, rfl, ⟨fg0, og0, ndg0, log0⟩, hb5⟩
    obtain ⟨ag0, ng0, qg0, rfl⟩ := og0.ks
    have hst := bstep bal1 hb5
    clear dc0_0
    replace c0_0 := bcell hst c0_0
    replace c0_1 := bcell hst c0_1
    replace c0_2 := bcell hst c0_2
    replace c0_3 := bcell hst c0_3
    replace c0_4 := bcell hst c0_4
    replace c0_5 := bcell hst c0_5
    replace c0_6 := bcell hst c0_6
    replace c0_7 := bcell hst c0_7
    replace c0_8 := bcell hst c0_8
    replace r0 := r0.below hst
    replace ow0 := ow0.below hst
    replace ox0 := ox0.below hst
    replace hB := bstep hB hst
    have zw5 : w4.heap.size ≤ w5.heap.size := hst.size
    have dc0_0 := World.block_lt_of_cell? _ _ c0_0
    clear hst
    have zw5p : w4.heap.size + 1 ≤ w5.heap.size := by have := hb5.size; simp at this; omega
    have xx0_0 : w5.cell? ⟨w4.heap.size, 0, none⟩ = some (.int .i64 kx0) := bcell hb5 (cell_n0 0)
    have dxx0_0 := World.block_lt_of_cell? _ _ xx0_0
    have xx0_1 : w5.cell? ⟨w4.heap.size, 1, none⟩ = some (.string snx0) := bcell hb5 (cell_n0 1)
    have xx0_2 : w5.cell? ⟨w4.heap.size, 2, none⟩ = some (.int .i64 ux0) := bcell hb5 (cell_n0 2)
    have xx0_3 : w5.cell? ⟨w4.heap.size, 3, none⟩ = some (.int .i64 ktx0) := bcell hb5 (cell_n0 3)
    have xx0_4 : w5.cell? ⟨w4.heap.size, 4, none⟩ = some (.slice atx0 ntx0 qtx0) := bcell hb5 (cell_n0 4)
    have xx0_5 : w5.cell? ⟨w4.heap.size, 5, none⟩ = some (.int .i64 kfx0) := bcell hb5 (cell_n0 5)
    have xx0_6 : w5.cell? ⟨w4.heap.size, 6, none⟩ = some (.slice afx0 nfx0 qfx0) := bcell hb5 (cell_n0 6)
    have xx0_7 : w5.cell? ⟨w4.heap.size, 7, none⟩ = some (.int .i64 lbx0) := bcell hb5 (cell_n0 7)
    have xx0_8 : w5.cell? ⟨w4.heap.size, 8, none⟩ = some (.slice ax0 nx0 qx0) := bcell hb5 (cell_n0 8)
    have loog0 : ∀ b ∈ fg0, w4.heap.size + 1 ≤ b := fun b hb => by have := log0 b hb; simp at this; omega
    have hiog0 : ∀ b ∈ fg0, b < w5.heap.size := og0.lt
    clear log0
    go_wp2_with fail
    refine (eqTypeS_refl _ _ (Tm.castTypes lb1 t0) _ _ _ og0.rep ow0.rep).mono ?_
    rintro e w6 ⟨rfl, hb6⟩
    have hst := hb6
    clear dc0_0 dxx0_0
    replace c0_0 := bcell hst c0_0
    replace c0_1 := bcell hst c0_1
    replace c0_2 := bcell hst c0_2
    replace c0_3 := bcell hst c0_3
    replace c0_4 := bcell hst c0_4
    replace c0_5 := bcell hst c0_5
    replace c0_6 := bcell hst c0_6
    replace c0_7 := bcell hst c0_7
    replace c0_8 := bcell hst c0_8
    replace xx0_0 := bcell hst xx0_0
    replace xx0_1 := bcell hst xx0_1
    replace xx0_2 := bcell hst xx0_2
    replace xx0_3 := bcell hst xx0_3
    replace xx0_4 := bcell hst xx0_4
    replace xx0_5 := bcell hst xx0_5
    replace xx0_6 := bcell hst xx0_6
    replace xx0_7 := bcell hst xx0_7
    replace xx0_8 := bcell hst xx0_8
    replace r0 := r0.below hst
    replace ow0 := ow0.below hst
    replace ox0 := ox0.below hst
    replace og0 := og0.below hst
    replace hB := bstep hB hst
    have zw6 : w5.heap.size ≤ w6.heap.size := hst.size
    have dc0_0 := World.block_lt_of_cell? _ _ c0_0
    have dxx0_0 := World.block_lt_of_cell? _ _ xx0_0
    clear hst
    go_wp2_with fail
    go_region_held3 (fun w' => w'.cell? ⟨w4.heap.size, 0, none⟩ = some (.int .i64 kx0) ∧ w'.cell? ⟨w4.heap.size, 1, none⟩ = some (.string snx0) ∧ w'.cell? ⟨w4.heap.size, 2, none⟩ = some (.int .i64 ux0) ∧ w'.cell? ⟨w4.heap.size, 3, none⟩ = some (.int .i64 ktx0) ∧ w'.cell? ⟨w4.heap.size, 4, none⟩ = some (.slice atx0 ntx0 qtx0) ∧ w'.cell? ⟨w4.heap.size, 5, none⟩ = some (.int .i64 kfx0) ∧ w'.cell? ⟨w4.heap.size, 6, none⟩ = some (.slice afx0 nfx0 qfx0) ∧ w'.cell? ⟨w4.heap.size, 7, none⟩ = some (.int .i64 lbx0) ∧ w'.cell? ⟨w4.heap.size, 8, none⟩ = some (.slice ax0 nx0 qx0) ∧ w'.cell? ⟨w.heap.size, 0, none⟩ = some (.int .i64 k0) ∧ w'.cell? ⟨w.heap.size, 1, none⟩ = some (.string sn0) ∧ w'.cell? ⟨w.heap.size, 2, none⟩ = some (.int .i64 u0) ∧ w'.cell? ⟨w.heap.size, 3, none⟩ = some (.int .i64 kt0) ∧ w'.cell? ⟨w.heap.size, 4, none⟩ = some (.slice at0 nt0 qt0) ∧ w'.cell? ⟨w.heap.size, 5, none⟩ = some (.int .i64 kf0) ∧ w'.cell? ⟨w.heap.size, 6, none⟩ = some (.slice af0 nf0 qf0) ∧ w'.cell? ⟨w.heap.size, 7, none⟩ = some (.int .i64 lb0) ∧ w'.cell? ⟨w.heap.size, 8, none⟩ = some (.slice a0 n0 q0))
      (first | go_keep | exact ⟨bcelld hb7 xx0_0, bcelld hb7 xx0_1, bcelld hb7 xx0_2, bcelld hb7 xx0_3, bcelld hb7 xx0_4, bcelld hb7 xx0_5, bcelld hb7 xx0_6, bcelld hb7 xx0_7, bcelld hb7 xx0_8, bcelld hb7 c0_0, bcelld hb7 c0_1, bcelld hb7 c0_2, bcelld hb7 c0_3, bcelld hb7 c0_4, bcelld hb7 c0_5, bcelld hb7 c0_6, bcelld hb7 c0_7, bcelld hb7 c0_8⟩ | exact ⟨bcell hb8 (bcelld hb7 xx0_0), bcell hb8 (bcelld hb7 xx0_1), bcell hb8 (bcelld hb7 xx0_2), bcell hb8 (bcelld hb7 xx0_3), bcell hb8 (bcelld hb7 xx0_4), bcell hb8 (bcelld hb7 xx0_5), bcell hb8 (bcelld hb7 xx0_6), bcell hb8 (bcelld hb7 xx0_7), bcell hb8 (bcelld hb7 xx0_8), bcell hb8 (bcelld hb7 c0_0), bcell hb8 (bcelld hb7 c0_1), bcell hb8 (bcelld hb7 c0_2), bcell hb8 (bcelld hb7 c0_3), bcell hb8 (bcelld hb7 c0_4), bcell hb8 (bcelld hb7 c0_5), bcell hb8 (bcelld hb7 c0_6), bcell hb8 (bcelld hb7 c0_7), bcell hb8 (bcelld hb7 c0_8)⟩)
      (first | (go_at_call 19; refine (toTerm_any _ t0 _ _ (r0.below bdr) Hb0.out).mono ?_; rintro e w7 ⟨v7, rfl, hv7, hb7⟩; obtain ⟨k7, sn7, u7, kt7, at7, nt7, qt7, kf7, af7, nf7, qf7, lb7, a7, n7, q7, rfl⟩ := hv7.shape) | (go_at_call 22; refine (eqTerm_refl _ _ t0 _ _ _ (ox0.rep.below (bstep bdr hb7)) hv7.rep).mono ?_; rintro e w8 ⟨rfl, hb8⟩))
    have hst := bstep (bstep bdr hb7) hb8
    clear dc0_0 dxx0_0
    replace c0_0 := bcell hst c0_0
    replace c0_1 := bcell hst c0_1
    replace c0_2 := bcell hst c0_2
    replace c0_3 := bcell hst c0_3
    replace c0_4 := bcell hst c0_4
    replace c0_5 := bcell hst c0_5
    replace c0_6 := bcell hst c0_6
    replace c0_7 := bcell hst c0_7
    replace c0_8 := bcell hst c0_8
    replace xx0_0 := bcell hst xx0_0
    replace xx0_1 := bcell hst xx0_1
    replace xx0_2 := bcell hst xx0_2
    replace xx0_3 := bcell hst xx0_3
    replace xx0_4 := bcell hst xx0_4
    replace xx0_5 := bcell hst xx0_5
    replace xx0_6 := bcell hst xx0_6
    replace xx0_7 := bcell hst xx0_7
    replace xx0_8 := bcell hst xx0_8
    replace r0 := r0.below hst
    replace ow0 := ow0.below hst
    replace ox0 := ox0.below hst
    replace og0 := og0.below hst
    replace hB := bstep hB hst
    have zw8 : w6.heap.size ≤ w8.heap.size := hst.size
    have dc0_0 := World.block_lt_of_cell? _ _ c0_0
    have dxx0_0 := World.block_lt_of_cell? _ _ xx0_0
    clear hst
    clear hb7 hb8 hv7
    go_wp2_with fail
    refine (markTerm_any t0 1 _ _ _ ox0 ndx0 (by omega) HuK0.out).mono ?_
    rintro e w9 ⟨rfl, hc9⟩
    rw [HhK0.out]
    clear dxx0_0
    clear xx0_0
    clear xx0_1
    clear xx0_2
    clear xx0_3
    clear xx0_4
    clear xx0_5
    clear xx0_6
    clear xx0_7
    clear xx0_8
    have hch := hc9
    replace c0_0 := hch.cell (fun hm => by have h1 := loox0 _ hm; have h2 := hiox0 _ hm; change _ ≤ w.heap.size at h1; change w.heap.size < _ at h2; omega) c0_0
    replace c0_1 := hch.cell (fun hm => by have h1 := loox0 _ hm; have h2 := hiox0 _ hm; change _ ≤ w.heap.size at h1; change w.heap.size < _ at h2; omega) c0_1
    replace c0_2 := hch.cell (fun hm => by have h1 := loox0 _ hm; have h2 := hiox0 _ hm; change _ ≤ w.heap.size at h1; change w.heap.size < _ at h2; omega) c0_2
    replace c0_3 := hch.cell (fun hm => by have h1 := loox0 _ hm; have h2 := hiox0 _ hm; change _ ≤ w.heap.size at h1; change w.heap.size < _ at h2; omega) c0_3
    replace c0_4 := hch.cell (fun hm => by have h1 := loox0 _ hm; have h2 := hiox0 _ hm; change _ ≤ w.heap.size at h1; change w.heap.size < _ at h2; omega) c0_4
    replace c0_5 := hch.cell (fun hm => by have h1 := loox0 _ hm; have h2 := hiox0 _ hm; change _ ≤ w.heap.size at h1; change w.heap.size < _ at h2; omega) c0_5
    replace c0_6 := hch.cell (fun hm => by have h1 := loox0 _ hm; have h2 := hiox0 _ hm; change _ ≤ w.heap.size at h1; change w.heap.size < _ at h2; omega) c0_6
    replace c0_7 := hch.cell (fun hm => by have h1 := loox0 _ hm; have h2 := hiox0 _ hm; change _ ≤ w.heap.size at h1; change w.heap.size < _ at h2; omega) c0_7
    replace c0_8 := hch.cell (fun hm => by have h1 := loox0 _ hm; have h2 := hiox0 _ hm; change _ ≤ w.heap.size at h1; change w.heap.size < _ at h2; omega) c0_8
    clear dc0_0
    replace r0 := TmRep.chg hch (fun b hb hm => by have h1 := loox0 _ hm; have h2 := hB.size; have h3 : b < w.heap.size := hb; omega) r0
    replace ow0 := TysOwn.chg hch (fun b hb hm => by have h1 := loox0 _ hm; have h2 := hiox0 _ hm; have h3 := loow0 _ hb; have h4 := hiow0 _ hb; omega) ow0
    replace og0 := TysOwn.chg hch (fun b hb hm => by have h1 := loox0 _ hm; have h2 := hiox0 _ hm; have h3 := loog0 _ hb; have h4 := hiog0 _ hb; omega) og0
    replace hB := hB.trans (hch.below (fun b hm => by have h1 := loox0 _ hm; have h2 := hB.size; omega) hB.size)
    have zw9 : w8.heap.size ≤ w9.heap.size := hch.size
    have dc0_0 := World.block_lt_of_cell? _ _ c0_0
    clear hch
    clear ox0 ndx0
    go_wp2_with fail
    refine (eqTypeS_refl _ _ (Tm.castTypes lb1 t0) _ _ _ og0.rep ow0.rep).mono ?_
    rintro e w10 ⟨rfl, hb10⟩
    have hst := hb10
    clear dc0_0
    replace c0_0 := bcell hst c0_0
    replace c0_1 := bcell hst c0_1
    replace c0_2 := bcell hst c0_2
    replace c0_3 := bcell hst c0_3
    replace c0_4 := bcell hst c0_4
    replace c0_5 := bcell hst c0_5
    replace c0_6 := bcell hst c0_6
    replace c0_7 := bcell hst c0_7
    replace c0_8 := bcell hst c0_8
    replace r0 := r0.below hst
    replace ow0 := ow0.below hst
    replace og0 := og0.below hst
    replace hB := bstep hB hst
    have zw10 : w9.heap.size ≤ w10.heap.size := hst.size
    have dc0_0 := World.block_lt_of_cell? _ _ c0_0
    clear hst
    go_wp2_with fail
    refine (markTypeS_any (Tm.castTypes lb1 t0) 1 _ _ _ og0 ndg0 (by omega) HuM0.out).mono ?_
    rintro e w11 ⟨rfl, og0, hc11⟩
    rw [HhM0.out]
    have hch := hc11
    replace c0_0 := hch.cell (fun hm => by have h1 := loog0 _ hm; have h2 := hiog0 _ hm; change _ ≤ w.heap.size at h1; change w.heap.size < _ at h2; omega) c0_0
    replace c0_1 := hch.cell (fun hm => by have h1 := loog0 _ hm; have h2 := hiog0 _ hm; change _ ≤ w.heap.size at h1; change w.heap.size < _ at h2; omega) c0_1
    replace c0_2 := hch.cell (fun hm => by have h1 := loog0 _ hm; have h2 := hiog0 _ hm; change _ ≤ w.heap.size at h1; change w.heap.size < _ at h2; omega) c0_2
    replace c0_3 := hch.cell (fun hm => by have h1 := loog0 _ hm; have h2 := hiog0 _ hm; change _ ≤ w.heap.size at h1; change w.heap.size < _ at h2; omega) c0_3
    replace c0_4 := hch.cell (fun hm => by have h1 := loog0 _ hm; have h2 := hiog0 _ hm; change _ ≤ w.heap.size at h1; change w.heap.size < _ at h2; omega) c0_4
    replace c0_5 := hch.cell (fun hm => by have h1 := loog0 _ hm; have h2 := hiog0 _ hm; change _ ≤ w.heap.size at h1; change w.heap.size < _ at h2; omega) c0_5
    replace c0_6 := hch.cell (fun hm => by have h1 := loog0 _ hm; have h2 := hiog0 _ hm; change _ ≤ w.heap.size at h1; change w.heap.size < _ at h2; omega) c0_6
    replace c0_7 := hch.cell (fun hm => by have h1 := loog0 _ hm; have h2 := hiog0 _ hm; change _ ≤ w.heap.size at h1; change w.heap.size < _ at h2; omega) c0_7
    replace c0_8 := hch.cell (fun hm => by have h1 := loog0 _ hm; have h2 := hiog0 _ hm; change _ ≤ w.heap.size at h1; change w.heap.size < _ at h2; omega) c0_8
    clear dc0_0
    replace r0 := TmRep.chg hch (fun b hb hm => by have h1 := loog0 _ hm; have h2 := hB.size; have h3 : b < w.heap.size := hb; omega) r0
    replace ow0 := TysOwn.chg hch (fun b hb hm => by have h1 := loog0 _ hm; have h2 := hiog0 _ hm; have h3 := loow0 _ hb; have h4 := hiow0 _ hb; omega) ow0
    replace hB := hB.trans (hch.below (fun b hm => by have h1 := loog0 _ hm; have h2 := hB.size; omega) hB.size)
    have zw11 : w10.heap.size ≤ w11.heap.size := hch.size
    have dc0_0 := World.block_lt_of_cell? _ _ c0_0
    clear hch
    go_wp2_with fail
    refine (heldTypeS_any _ (Tm.castTypes lb1 t0) 1 _ _ og0.rep (by omega) HuM0.out).mono ?_
    rintro e w12 ⟨rfl, hb12⟩
    rw [HhM0.out]
    have hst := hb12
    clear dc0_0
    replace c0_0 := bcell hst c0_0
    replace c0_1 := bcell hst c0_1
    replace c0_2 := bcell hst c0_2
    replace c0_3 := bcell hst c0_3
    replace c0_4 := bcell hst c0_4
    replace c0_5 := bcell hst c0_5
    replace c0_6 := bcell hst c0_6
    replace c0_7 := bcell hst c0_7
    replace c0_8 := bcell hst c0_8
    replace r0 := r0.below hst
    replace ow0 := ow0.below hst
    replace og0 := og0.below hst
    replace hB := bstep hB hst
    have zw12 : w11.heap.size ≤ w12.heap.size := hst.size
    have dc0_0 := World.block_lt_of_cell? _ _ c0_0
    clear hst
    go_wp2_with fail
    refine (toTerm_any _ t0 _ _ r0 Hb0.out).mono ?_
    rintro e w13 ⟨vb0, rfl, ⟨fb0, ob0, ndb0, lob0⟩, hb13⟩
    obtain ⟨kb0, snb0, ub0, ktb0, atb0, ntb0, qtb0, kfb0, afb0, nfb0, qfb0, lbb0, ab0, nb0, qb0, rfl⟩ := ob0.ks
    have hst := hb13
    clear dc0_0
    replace c0_0 := bcell hst c0_0
    replace c0_1 := bcell hst c0_1
    replace c0_2 := bcell hst c0_2
    replace c0_3 := bcell hst c0_3
    replace c0_4 := bcell hst c0_4
    replace c0_5 := bcell hst c0_5
    replace c0_6 := bcell hst c0_6
    replace c0_7 := bcell hst c0_7
    replace c0_8 := bcell hst c0_8
    replace r0 := r0.below hst
    replace ow0 := ow0.below hst
    replace og0 := og0.below hst
    replace hB := bstep hB hst
    have zw13 : w12.heap.size ≤ w13.heap.size := hst.size
    have dc0_0 := World.block_lt_of_cell? _ _ c0_0
    clear hst
    have loob0 : ∀ b ∈ fb0, w12.heap.size + 0 ≤ b := fun b hb => by have := lob0 b hb; skip; omega
    have hiob0 : ∀ b ∈ fb0, b < w13.heap.size := ob0.lt
    clear lob0
    go_wp2_with fail
    refine (implCastTypes _ t0 lb1 _ _ ob0.rep).mono ?_
    rintro e w14 ⟨vh0, rfl, ⟨fh0, oh0, ndh0, loh0⟩, hb14⟩
    obtain ⟨ah0, nh0, qh0, rfl⟩ := oh0.ks
    have hst := hb14
    clear dc0_0
    replace c0_0 := bcell hst c0_0
    replace c0_1 := bcell hst c0_1
    replace c0_2 := bcell hst c0_2
    replace c0_3 := bcell hst c0_3
    replace c0_4 := bcell hst c0_4
    replace c0_5 := bcell hst c0_5
    replace c0_6 := bcell hst c0_6
    replace c0_7 := bcell hst c0_7
    replace c0_8 := bcell hst c0_8
    replace r0 := r0.below hst
    replace ow0 := ow0.below hst
    replace og0 := og0.below hst
    replace ob0 := ob0.below hst
    replace hB := bstep hB hst
    have zw14 : w13.heap.size ≤ w14.heap.size := hst.size
    have dc0_0 := World.block_lt_of_cell? _ _ c0_0
    clear hst
    have looh0 : ∀ b ∈ fh0, w13.heap.size + 0 ≤ b := fun b hb => by have := loh0 b hb; skip; omega
    have hioh0 : ∀ b ∈ fh0, b < w14.heap.size := oh0.lt
    clear loh0
    clear ob0 ndb0
    go_wp2_with fail
    refine (eqTypeS_refl _ _ (Tm.castTypes lb1 t0) _ _ _ oh0.rep ow0.rep).mono ?_
    rintro e w15 ⟨rfl, hb15⟩
    have hst := hb15
    clear dc0_0
    replace c0_0 := bcell hst c0_0
    replace c0_1 := bcell hst c0_1
    replace c0_2 := bcell hst c0_2
    replace c0_3 := bcell hst c0_3
    replace c0_4 := bcell hst c0_4
    replace c0_5 := bcell hst c0_5
    replace c0_6 := bcell hst c0_6
    replace c0_7 := bcell hst c0_7
    replace c0_8 := bcell hst c0_8
    replace r0 := r0.below hst
    replace ow0 := ow0.below hst
    replace og0 := og0.below hst
    replace oh0 := oh0.below hst
    replace hB := bstep hB hst
    have zw15 : w14.heap.size ≤ w15.heap.size := hst.size
    have dc0_0 := World.block_lt_of_cell? _ _ c0_0
    clear hst
    go_wp2_with fail
    refine (heldTypeS_any _ (Tm.castTypes lb1 t0) 1 _ _ og0.rep (by omega) HuM0.out).mono ?_
    rintro e w16 ⟨rfl, hb16⟩
    rw [HhM0.out]
    have hst := hb16
    clear dc0_0
    replace c0_0 := bcell hst c0_0
    replace c0_1 := bcell hst c0_1
    replace c0_2 := bcell hst c0_2
    replace c0_3 := bcell hst c0_3
    replace c0_4 := bcell hst c0_4
    replace c0_5 := bcell hst c0_5
    replace c0_6 := bcell hst c0_6
    replace c0_7 := bcell hst c0_7
    replace c0_8 := bcell hst c0_8
    replace r0 := r0.below hst
    replace ow0 := ow0.below hst
    replace og0 := og0.below hst
    replace oh0 := oh0.below hst
    replace hB := bstep hB hst
    have zw16 : w15.heap.size ≤ w16.heap.size := hst.size
    have dc0_0 := World.block_lt_of_cell? _ _ c0_0
    clear hst
    go_wp2_with fail
    go_ret
    exact ⟨rfl, hB⟩
  · have s0 := szr_neg h0
    have S0 := Lib.hid s0
    clear s0 h0
    go_enter Try.func11, Try.ntmps11
    go_wp2_with fail
    refine (szTerm_any _ t0 _ _ _ (r0.below bal1) (by omega) (by omega)).mono ?_
    rintro e w17 ⟨rfl, hb17⟩
    rw [S0.out]
    have hB := bstep bal1 hb17
    have zw17 := hB.size
    have zpw17 : w.heap.size + 1 ≤ w17.heap.size := by have := hb17.size; simp at this; omega
    have c0_0 : w17.cell? ⟨w.heap.size, 0, none⟩ = some (.int .i64 k0) := bcell hb17 (cell_n0 0)
    have c0_1 : w17.cell? ⟨w.heap.size, 1, none⟩ = some (.string sn0) := bcell hb17 (cell_n0 1)
    have c0_2 : w17.cell? ⟨w.heap.size, 2, none⟩ = some (.int .i64 u0) := bcell hb17 (cell_n0 2)
    have c0_3 : w17.cell? ⟨w.heap.size, 3, none⟩ = some (.int .i64 kt0) := bcell hb17 (cell_n0 3)
    have c0_4 : w17.cell? ⟨w.heap.size, 4, none⟩ = some (.slice at0 nt0 qt0) := bcell hb17 (cell_n0 4)
    have c0_5 : w17.cell? ⟨w.heap.size, 5, none⟩ = some (.int .i64 kf0) := bcell hb17 (cell_n0 5)
    have c0_6 : w17.cell? ⟨w.heap.size, 6, none⟩ = some (.slice af0 nf0 qf0) := bcell hb17 (cell_n0 6)
    have c0_7 : w17.cell? ⟨w.heap.size, 7, none⟩ = some (.int .i64 lb0) := bcell hb17 (cell_n0 7)
    have c0_8 : w17.cell? ⟨w.heap.size, 8, none⟩ = some (.slice a0 n0 q0) := bcell hb17 (cell_n0 8)
    replace r0 := r0.below hB
    have dc0_0 := World.block_lt_of_cell? _ _ c0_0
    go_wp2_with fail
    go_ret
    exact ⟨rfl, hB⟩
end Go.Proofs.Ytghgjpcibdfbmaa
