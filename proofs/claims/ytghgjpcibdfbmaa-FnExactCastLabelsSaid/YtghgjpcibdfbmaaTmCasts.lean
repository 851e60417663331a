/-
  The casts of a term as a list: terms that share memory with it.
-/
import Derived.Test.YtghgjpcibdfbmaaK6
import Derived.Test.YtghgjpcibdfbmaaLaTm
namespace Go.Proofs.Ytghgjpcibdfbmaa
open Go.RowKit
set_option linter.unusedVariables false
set_option linter.unusedSimpArgs false
set_option maxRecDepth 100000

mutual
def Tm.casts : Tm → List Tm
  | .mk k s u t f l ts => (if k == 14 then [.mk k s u t f l ts] else []) ++ Tm.castss ts
def Tm.castss : List Tm → List Tm
  | [] => []
  | t :: ts => t.casts ++ Tm.castss ts
end
theorem Tm.castss_take_succ : ∀ (ts : List Tm) (j : Nat) (h : j < ts.length), Tm.castss (ts.take (j + 1)) = Tm.castss (ts.take j) ++ ts[j].casts
  | [], _, h => absurd h (Nat.not_lt_zero _)
  | t :: ts, 0, _ => by simp [Tm.castss]
  | t :: ts, j + 1, h => by
    have := Tm.castss_take_succ ts j (by simpa using h)
    simp only [List.take_succ_cons, Tm.castss, List.getElem_cons_succ, this, List.append_assoc]
theorem Tm.castss_take_le (ts : List Tm) (j : Nat) : (Tm.castss (ts.take j)).length ≤ (Tm.castss ts).length := by
  induction ts generalizing j with
  | nil => simp
  | cons t ts ih =>
    cases j with
    | zero => simp [Tm.castss]
    | succ j => have := ih j; simp only [List.take_succ_cons, Tm.castss, List.length_append]; omega
mutual
theorem Tm.casts_len : ∀ t : Tm, ((t.casts.length : Nat) : Int) ≤ t.size
  | .mk k _ _ t _ _ ts => by
    unfold Tm.casts Tm.size
    have := Tm.castss_len ts
    rw [List.length_append]
    split <;> simp <;> omega
theorem Tm.castss_len : ∀ ts : List Tm, (((Tm.castss ts).length : Nat) : Int) ≤ Tm.sizes ts
  | [] => by unfold Tm.castss Tm.sizes; simp
  | t :: ts => by
    unfold Tm.castss Tm.sizes
    have := Tm.casts_len t
    have := Tm.castss_len ts
    rw [List.length_append]
    omega
end
/-- Rows of values that read as data in some blocks. -/
def SRepRows (F : Nat → Prop) (w : World) : List (List C) → List Value → Prop
  | [], xs => xs = []
  | r :: rs, xs => ∃ ys xs', xs = ys ++ xs' ∧ SRep F w r ys ∧ SRepRows F w rs xs'
theorem SRepRows.move {F G : Nat → Prop} {w w' : World} (k : Keeps F G w w') : ∀ (rs : List (List C)) (xs : List Value), SRepRows F w rs xs → SRepRows G w' rs xs
  | [], _, h => h
  | _ :: rs, _, ⟨ys, xs', e, h1, h2⟩ => ⟨ys, xs', e, h1.move k _ _, SRepRows.move k rs xs' h2⟩
theorem SRepRows.append {F : Nat → Prop} {w : World} : ∀ {r1 r2 : List (List C)} {x1 x2 : List Value}, SRepRows F w r1 x1 → SRepRows F w r2 x2 → SRepRows F w (r1 ++ r2) (x1 ++ x2)
  | [], r2, _, x2, h1, h => by unfold SRepRows at h1; subst h1; exact h
  | r :: r1, r2, _, x2, ⟨ys, xs', e1, h1, h2⟩, h => by
    subst e1
    exact ⟨ys, xs' ++ x2, by simp, h1, SRepRows.append h2 h⟩
theorem CRep.one {F : Nat → Prop} {w : World} : ∀ {c : C} {y : Value}, CRep F w c y → y.oneCell' = true
  | .int _, _, h => by rw [CRep.int_eq h]; rfl
  | .str _, _, h => by rw [(CRep.str_eq h).1]; rfl
  | .sl _, _, h => by obtain ⟨a, q, h, -⟩ := CRep.rows h; rw [h]; rfl
theorem SRep.one {F : Nat → Prop} {w : World} : ∀ {r : List C} {ys : List Value}, SRep F w r ys → ∀ y ∈ ys, y.oneCell' = true
  | [], _, h, y, hy => by unfold SRep at h; subst h; cases hy
  | c :: cs, _, ⟨z, zs, e, h1, h2⟩, y, hy => by
    subst e
    rcases List.mem_cons.1 hy with rfl | hy
    · exact h1.one
    · exact SRep.one h2 y hy
theorem SRepRows.one {F : Nat → Prop} {w : World} : ∀ {rs : List (List C)} {ys : List Value}, SRepRows F w rs ys → ∀ y ∈ ys, y.oneCell' = true
  | [], _, h, y, hy => by unfold SRepRows at h; subst h; cases hy
  | r :: rs, _, ⟨y1, x', e, h1, h2⟩, y, hy => by
    subst e
    rcases List.mem_append.1 hy with hy | hy
    · exact h1.one y hy
    · exact SRepRows.one h2 y hy
def AccRep (B : Nat) (F : Nat → Prop) (e : TypeId) (size : Nat) (w : World) (v : Value) (n : Nat) (rows : List (List C)) : Prop :=
  ∃ xs, w.ownsRow B e size v n xs ∧ rows.length = n ∧ SRepRows F w rows xs
theorem AccRep.nil (B : Nat) (F : Nat → Prop) (e : TypeId) (size : Nat) (w : World) : AccRep B F e size w (.slice none 0 0) 0 [] := ⟨[], World.ownsRow_nil w B e size, rfl, rfl⟩
theorem AccRep.shape {B : Nat} {F : Nat → Prop} {e : TypeId} {size n : Nat} {w : World} {v : Value} {rows : List (List C)} (h : AccRep B F e size w v n rows) : ∃ c q, v = .slice c n q := by
  obtain ⟨xs, ⟨_, h1⟩, _⟩ := h
  rcases h1 with ⟨rfl, rfl⟩ | ⟨g, cap, cur, rfl, _⟩
  · exact ⟨none, 0, rfl⟩
  · exact ⟨_, cap, rfl⟩
theorem AccRep.mono {B B' n size : Nat} {F : Nat → Prop} {e : TypeId} {w : World} {v : Value} {rows : List (List C)} (h : AccRep B F e size w v n rows) (hb : B' ≤ B) : AccRep B' F e size w v n rows := by
  obtain ⟨xs, ⟨h0, h1⟩, h2, h3⟩ := h
  refine ⟨xs, ⟨h0, ?_⟩, h2, h3⟩
  rcases h1 with h1 | ⟨g, cap, cur, e1, e2, e3⟩
  · exact .inl h1
  · exact .inr ⟨g, cap, cur, e1, Nat.le_trans hb e2, e3⟩
theorem AccRep.pushR {B g cap m : Nat} {F : Nat → Prop} {e : TypeId} {size n : Nat} {W w2 : World} {v : Value} {xs ys : List Value} {rows rs : List (List C)} (hl : rows.length = n) (hs : SRepRows F W rows xs) (hrl : rs.length = m) (hr : SRepRows F W rs ys)
    (hF : ∀ b, F b → b < B) (hv : ∀ g, v.ownBlock = some g → B ≤ g)
    (hown : w2.ownsRow B e size (.slice (some ⟨g, 0, none⟩) (n + m) cap) (n + m) (xs ++ ys)) (hgrow : W.grownBy w2 v.ownBlock) : AccRep B F e size w2 (.slice (some ⟨g, 0, none⟩) (n + m) cap) (n + m) (rows ++ rs) := by
  have k : Keeps F F W w2 := ⟨hgrow.size, fun _ h _ => h, fun b hb hl => hgrow.block b hl (fun e => by have h1 := hF b hb; have h2 := hv b e.symm; omega)⟩
  exact ⟨xs ++ ys, hown, by simp [hl, hrl], SRepRows.append (hs.move k _ _) (hr.move k _ _)⟩
theorem ownsRow_first {W : World} {B : Nat} {e : TypeId} {cs z : Array Value} {size tp cap : Nat} (hcs : cs.size = size) (hz : z.size = size) (hcap : cap = 1 + tp % (2 ^ 63 - 1)) (hB : B ≤ W.heap.size) :
    (World.drew (W.alloc (.cells (cs ++ Builtin.zeroCells z (cap - 1)) e))).ownsRow B e size (.slice (some ⟨W.heap.size, 0, none⟩) 1 cap) 1 cs.toList := by
  have hlt := Nat.mod_lt tp (show 0 < 2 ^ 63 - 1 by omega)
  refine ⟨by simp [hcs], .inr ⟨W.heap.size, cap, cs ++ Builtin.zeroCells z (cap - 1), rfl, hB, ?_, by omega, by unfold maxLen; omega, ?_, ?_⟩⟩
  · exact heap_alloc_new _ _
  · rw [Array.size_append, size_zeroCells, hcs, hz]
    obtain ⟨k, rfl⟩ : ∃ k, cap = 1 + k := ⟨cap - 1, by omega⟩
    simp [Nat.add_mul]
  · rw [Array.toList_append, Nat.one_mul, ← hcs]
    simp
theorem grown_first (W : World) (o : Obj) : W.grownBy (World.drew (W.alloc o)) (Value.ownBlock (.slice none 0 0)) :=
  have h := World.grownBy_alloc W o (Value.ownBlock (.slice none 0 0))
  ⟨h.os, h.tape, h.output, h.size, h.block⟩
theorem TmRep.srep {F : Nat → Prop} {w : World} {t : Tm} {k u tk fk l : Int} {nm : ByteArray} {ta fa c : Option Addr} {tn tq fn fq m q : Nat} (h : TmRep F w t (.agg #[.int .i64 k, .string nm, .int .i64 u, .int .i64 tk, .slice ta tn tq, .int .i64 fk, .slice fa fn fq, .int .i64 l, .slice c m q])) : SRep F w t.row [.int .i64 k, .string nm, .int .i64 u, .int .i64 tk, .slice ta tn tq, .int .i64 fk, .slice fa fn fq, .int .i64 l, .slice c m q] := by
  obtain ⟨r1, r2, r3, r4, r5, r6, r7, r8, r9, rn, rm, rq, hty, hsr, hks⟩ := h.parts
  obtain ⟨s1, e1, p1⟩ := hty
  obtain ⟨s2, e2, p2⟩ := hsr
  simp only [Value.agg.injEq, Array.mk.injEq, List.cons.injEq, and_true, true_and] at e1 e2
  cases t with | mk kk nn uu tt ff ll ts =>
  simp only [Tm.kind, Tm.name, Tm.num, Tm.type, Tm.src, Tm.label, Tm.kids] at *
  subst r1 r2 r3 r8
  unfold Tm.row
  have i1 : ∀ n : Int, CRep F w (.int n) (.int .i64 n) := fun n => by unfold CRep; rfl
  exact ⟨_, _, rfl, i1 _, _, _, rfl, by unfold CRep; exact ⟨rfl, rn⟩, _, _, rfl, i1 _, _, _, rfl, by rw [r4]; exact i1 _, _, _, rfl, by rw [e1.2]; exact p1, _, _, rfl, by rw [r6]; exact i1 _, _, _, rfl, by rw [e2.2]; exact p2, _, _, rfl, i1 _, _, _, rfl, hks, rfl⟩
/-- What impl.casts returns for a term. -/
def CastsP (F : Nat → Prop) (w : World) (us : List Tm) (e : Ending) (w' : World) : Prop := ∃ v, e = .returned v ∧ AccRep w.heap.size F 36 9 w' v us.length (Tm.rows us) ∧ (us.length = 0 → v = .slice none 0 0) ∧ Below w.heap.size w w'
def CastsC (F : Nat → Prop) (N0 : Nat) (t : Tm) : Prop := ∀ (_ : t.casts.length ≤ 1000000) (y : Value) (w : World), TmRep F w t y → N0 ≤ w.heap.size → Calls Try.prog 66 #[y] w (CastsP F w t.casts)
end Go.Proofs.Ytghgjpcibdfbmaa
