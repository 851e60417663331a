/-
  What a law about a result that is a tree needs: what a mark leaves as it was.
  The reference's source of numbers: what a draw leaves. Only bounds are said of what is drawn.
  Draws out of lists, and slices that grow while numbers are drawn.
  Walks beside a source of numbers: what is known of a cell, a tree, the memory behind a draw.
  The text of a type, by the program and by the reference.
  The type of a term with casts: plain Lean. The reference's way (nodeS) and the program's way (wantS) answer alike.
  Bindings: a name and a type.
-/
import Derived.Test.YtkhmkohgnikcmaaB5
import Derived.Test.YtkhmkohgnikcmaaB3
import Derived.Laws.Bits64
import Derived.IntWalk
import Derived.Deep.QuietTactic
import Derived.BigQuiet
import Derived.Test.YtkhmkohgnikcmaaB14
import Derived.Test.YtkhmkohgnikcmaaTyCopyB
import Derived.Test.YtkhmkohgnikcmaaB18
import Derived.Test.YtkhmkohgnikcmaaB16
import Derived.Test.YtkhmkohgnikcmaaB9
import Derived.Test.YtkhmkohgnikcmaaB7
import Derived.Test.YtkhmkohgnikcmaaB1
namespace Go.Proofs.Ytkhmkohgnikcmaa
open Go.RowKit
set_option linter.unusedVariables false
set_option linter.unusedSimpArgs false
set_option maxRecDepth 100000

theorem TyOwn.chg {fp fp' : List Nat} {w w' : World} {t : Ty} {y : Value} (h : Chg fp w w') (hn : ∀ b ∈ fp', b ∉ fp) (r : TyOwn w t y fp') : TyOwn w' t y fp' := by
  obtain ⟨s, rfl, ho⟩ := r
  exact ⟨s, rfl, COwn.move _ _ _ (fun b hb => h.block b (COwn.lt _ _ _ ho b hb) (hn b hb)) ho⟩
theorem TyOwn.lt {w : World} {t : Ty} {y : Value} {fp : List Nat} (r : TyOwn w t y fp) : ∀ b ∈ fp, b < w.heap.size := by
  obtain ⟨s, rfl, ho⟩ := r
  exact COwn.lt _ _ _ ho
theorem TyRep.old {F : Nat → Prop} {w : World} {t : Ty} {y : Value} (r : TyRep F w t y) : TyRep (· < w.heap.size) w t y := r.move (.weaken fun _ _ h => h)
theorem TyOwn.ks {w : World} {t : Ty} {y : Value} {fp : List Nat} (r : TyOwn w t y fp) : ∃ k a n q, y = .agg #[.int .i64 k, .slice a n q] := by
  obtain ⟨k, a, n, q, rfl, -⟩ := r.shape
  exact ⟨k, a, n, q, rfl⟩

end Go.Proofs.Ytkhmkohgnikcmaa
namespace Go.Proofs.Ytkhmkohgnikcmaa
open Go.RowKit
set_option linter.unusedVariables false
set_option linter.unusedSimpArgs false
set_option maxRecDepth 100000

/-- A slice of bytes that lies below block r. -/
def ByRep (w : World) (r : Nat) (v : Value) : Prop := ∃ a n cap, v = .slice a n cap ∧ n ≤ cap ∧ cap ≤ maxLen ∧
  ∀ i, i < n → ∃ b off c, a = some ⟨b, off, none⟩ ∧ b < r ∧ b < w.heap.size ∧ w.cell? ⟨b, off + i, none⟩ = some (.int .u8 c) ∧ 0 ≤ c ∧ c < 256
theorem ByRep.keep {w w' : World} {r : Nat} {v : Value} (h : ByRep w r v) (hs : w.heap.size ≤ w'.heap.size) (k : ∀ b, b < w.heap.size → b < r → w'.heap[b]? = w.heap[b]?) : ByRep w' r v := by
  obtain ⟨a, n, cap, h1, h2, h3, h4⟩ := h
  refine ⟨a, n, cap, h1, h2, h3, fun i hi => ?_⟩
  obtain ⟨b, off, c, e, hb, hl, hc, c1, c2⟩ := h4 i hi
  exact ⟨b, off, c, e, hb, Nat.lt_of_lt_of_le hl hs, (World.cell?_of_block (a := ⟨b, off + i, none⟩) (k b hl hb)).trans hc, c1, c2⟩
/-- The source of numbers at block r: p numbers have been drawn. -/
def RdAt (w : World) (r p : Nat) : Prop := r < w.heap.size ∧ ∃ s, w.cell? ⟨r, 0, none⟩ = some s ∧ ByRep w r s ∧ w.cell? ⟨r, 1, none⟩ = some (.int .i64 (p : Int)) ∧ w.frozen? ⟨r, 1, none⟩ = false
theorem RdAt.below {w w' : World} {r p : Nat} (h : RdAt w r p) (k : Below w.heap.size w w') : RdAt w' r p := by
  obtain ⟨hl, s, h1, h2, h3, h4⟩ := h
  exact ⟨Nat.lt_of_lt_of_le hl k.size, s, bcell k h1, h2.keep k.size (fun b hb _ => k.block b hb), bcell k h3, bfro k hl h4⟩
theorem RdAt.keep {w w' : World} {r p : Nat} (h : RdAt w r p) (hs : w.heap.size ≤ w'.heap.size) (k : ∀ b, b ≤ r → w'.heap[b]? = w.heap[b]?) : RdAt w' r p := by
  obtain ⟨hl, s, h1, h2, h3, h4⟩ := h
  exact ⟨Nat.lt_of_lt_of_le hl hs, s, (World.cell?_of_block (a := ⟨r, 0, none⟩) (k r (Nat.le_refl _))).trans h1, h2.keep hs (fun b _ hb => k b (Nat.le_of_lt hb)), (World.cell?_of_block (a := ⟨r, 1, none⟩) (k r (Nat.le_refl _))).trans h3, (World.frozen?_of_block (a := ⟨r, 1, none⟩) (k r (Nat.le_refl _))).trans h4⟩
theorem RdAt.setCell {w : World} {r p : Nat} (h : RdAt w r p) {a : Addr} (ha : r < a.block) (v : Value) : RdAt (w.setCell a v) r p :=
  h.keep (by simp [World.setCell]) (fun b hb => Below.heap_setCell w a v b (by omega))

end Go.Proofs.Ytkhmkohgnikcmaa
namespace Go.Proofs.Ytkhmkohgnikcmaa
open Go.RowKit
set_option linter.unusedVariables false
set_option linter.unusedSimpArgs false
set_option maxRecDepth 100000

theorem Chg.grown {r : Nat} {w w' : World} (h : Chg [r] w w') : w.grownBy w' (some r) := ⟨h.os, h.tape, h.output, h.size, fun k hk hn => h.block k hk (fun hm => hn (by simpa using hm))⟩
theorem ownsRow_chg {r B : Nat} {e : TypeId} {size n : Nat} {w w' : World} {v : Value} {xs : List Value} (h : w.ownsRow B e size v n xs) (k : Chg [r] w w') (hr : r < B) : w'.ownsRow B e size v n xs :=
  h.kept (row := some r) k.grown (by
    cases hv : v.ownBlock with
    | none => exact .inl rfl
    | some g => exact .inr (fun e => by have := (h.lt g hv).1; simp at e; omega))
/-- The source of numbers behind an append to a row of one's own that lies above it. -/
theorem RdAt.grown {B r p : Nat} {e : TypeId} {size n : Nat} {wr W w2 : World} {v : Value} {xs : List Value} (h : RdAt W r p) (ho : wr.ownsRow B e size v n xs) (hr : r < B) (hg : W.grownBy w2 v.ownBlock) : RdAt w2 r p :=
  h.keep hg.size (fun b hb => hg.block b (Nat.lt_of_le_of_lt hb h.1) (fun e => by have := (ho.lt b e.symm).1; omega))

end Go.Proofs.Ytkhmkohgnikcmaa
namespace Go.Proofs.Ytkhmkohgnikcmaa
open Go.RowKit
set_option linter.unusedVariables false
set_option linter.unusedSimpArgs false
set_option maxRecDepth 100000

theorem TyRep.ne {B r : Nat} {w : World} {t : Ty} {y : Value} (h : TyRep (B ≤ ·) w t y) (hr : r < B) : TyRep (· ≠ r) w t y := h.move (.weaken fun b hb _ => by omega)
theorem TyRep.setCell {B : Nat} {w : World} {t : Ty} {y : Value} (h : TyRep (B ≤ ·) w t y) {p : Addr} (hp : p.block < B) (v : Value) : TyRep (B ≤ ·) (w.setCell p v) t y :=
  h.move ⟨by simp [World.setCell], fun _ h _ => h, fun b hb _ => Below.heap_setCell w p v b (by omega)⟩
theorem ByRep.below {w w' : World} {r : Nat} {v : Value} (h : ByRep w r v) (k : Below w.heap.size w w') : ByRep w' r v := h.keep k.size fun b hb _ => k.block b hb
theorem ByRep.up {w : World} {r r' : Nat} {v : Value} (h : ByRep w r v) (hr : r ≤ r') : ByRep w r' v := by
  obtain ⟨a, n, cap, h1, h2, h3, h4⟩ := h
  refine ⟨a, n, cap, h1, h2, h3, fun i hi => ?_⟩
  obtain ⟨b, off, c, e, hb, hr⟩ := h4 i hi
  exact ⟨b, off, c, e, by omega, hr⟩
theorem ByRep.shape {w : World} {r : Nat} {v : Value} (h : ByRep w r v) : ∃ a n cap, v = .slice a n cap := let ⟨a, n, cap, h1, _⟩ := h; ⟨a, n, cap, h1⟩

/-- A type has been drawn, of memory of its own. -/
def DrawT (r p c m : Nat) (w : World) (e : Ending) (w' : World) : Prop := ∃ (t : Ty) (v : Value) (q : Nat), e = .returned v ∧ t.cnt + 2 ≤ m ∧ TyNew w.heap.size w' t v ∧ q ≤ p + c ∧ RdAt w' r q ∧ Chg [r] w w'
theorem DrawT.mono {r p c c' m m' : Nat} {w w' : World} {e : Ending} (h : DrawT r p c m w e w') (hc : c ≤ c') (hm : m ≤ m') : DrawT r p c' m' w e w' :=
  let ⟨s, v, q, h1, h2, h3, h4, h5, h6⟩ := h; ⟨s, v, q, h1, by omega, h3, by omega, h5, h6⟩
end Go.Proofs.Ytkhmkohgnikcmaa
namespace Go.Proofs.Ytkhmkohgnikcmaa
open Go.RowKit
set_option linter.unusedVariables false
set_option linter.unusedSimpArgs false
set_option maxRecDepth 100000

def S.bs : S → ByteArray
  | .zero => ⟨#[]⟩
  | .any => ⟨#[63]⟩
  | .int => ⟨#[73]⟩
  | .bool => ⟨#[66]⟩
  | .fn a b => (⟨#[40]⟩ : ByteArray) ++ a.bs ++ (⟨#[62]⟩ : ByteArray) ++ b.bs ++ (⟨#[41]⟩ : ByteArray)
  | .pr a b => (⟨#[40]⟩ : ByteArray) ++ a.bs ++ (⟨#[42]⟩ : ByteArray) ++ b.bs ++ (⟨#[41]⟩ : ByteArray)
def S.ofKind (k : Int) (l : List S) : S := if k = 1 then .any else if k = 2 then .int else if k = 3 then .bool else match l with | [a, b] => if k = 4 then .fn a b else .pr a b | _ => .zero
mutual
def Ty.toS : Ty → S
  | .mk k ts => S.ofKind k (Ty.toSs ts)
def Ty.toSs : List Ty → List S
  | [] => []
  | t :: ts => t.toS :: Ty.toSs ts
end
theorem S.ty_toS : ∀ s : S, s.ok = true → s.ty.toS = s
  | .zero, h => by cases h
  | .any, _ => by simp [S.ty, Ty.toS, S.ofKind]
  | .int, _ => by simp [S.ty, Ty.toS, S.ofKind]
  | .bool, _ => by simp [S.ty, Ty.toS, S.ofKind]
  | .fn a b, h => by simp [S.ok] at h; simp [S.ty, Ty.toS, Ty.toSs, S.ofKind, a.ty_toS h.1, b.ty_toS h.2]
  | .pr a b, h => by simp [S.ok] at h; simp [S.ty, Ty.toS, Ty.toSs, S.ofKind, a.ty_toS h.1, b.ty_toS h.2]
end Go.Proofs.Ytkhmkohgnikcmaa
namespace Go.Proofs.Ytkhmkohgnikcmaa
open Go.RowKit
set_option linter.unusedVariables false
set_option linter.unusedSimpArgs false
set_option maxRecDepth 100000

/-- The type of a node by its operands' types: the reference. -/
def nodeS (k : Int) (ty src : Ty) : List S → Option S
  | [h] => if k = 5 then (if (S.fn ty.toS h).vd then some (.fn ty.toS h) else none)
           else if k = 14 then (if h.ty.same src then some ty.toS else none)
           else match h with | .pr a b => some (if k = 12 then b else a) | _ => none
  | [g, h] => if k = 6 then (match g with | .fn a b => if a = h then some b else none | _ => none)
              else if k = 10 then (if (S.pr g h).vd then some (.pr g h) else none)
              else if g = .int ∧ h = .int then some (if k = 8 then .bool else .int) else none
  | [c, g, h] => if c = .bool ∧ g = h then some g else none
  | _ => none
/-- What the program wants of the operands, and the node's type. -/
def wantS (k : Int) (ty : Ty) : List S → Option (List S × S)
  | [h] => if k = 5 then some ([], .fn ty.toS h)
           else match h.mat 5 with | (a, b, true) => some ([.pr a b], if k = 12 then b else a) | _ => none
  | [g, h] => if k = 6 then (match g.mat 4 with | (a, b, true) => if h.cons a then some ([.fn a b, a], b) else none | _ => none)
              else if k = 10 then some ([], .pr g h)
              else if g.cons .int && h.cons .int then some ([.int, .int], if k = 8 then .bool else .int) else none
  | [c, g, h] => if c.cons .bool && g.cons h then some ([.bool, g.meet h, g.meet h], g.meet h) else none
  | _ => none
/-- The program's answer. -/
def progS (o : Option (List S × S)) (hs : List S) : Option S := match o with
  | none => none
  | some (ws, t) => if t.vd && decide (ws = hs.take ws.length) then some t else none
theorem pr_vd {a b : S} (h : (S.pr a b).vd = true) : a.vd = true ∧ b.vd = true := by
  have h3 := S.vd_dep h
  have h1 := S.vd_ok h
  have e : (S.pr a b).dep = max a.dep b.dep + 1 := rfl
  have e1 : (S.pr a b).ok = (a.ok && b.ok) := rfl
  have m1 := Nat.le_max_left a.dep b.dep
  have m2 := Nat.le_max_right a.dep b.dep
  rw [e] at h3
  rw [e1, Bool.and_eq_true] at h1
  exact ⟨S.vd_mk h1.1 (by omega), S.vd_mk h1.2 (by omega)⟩
theorem fn_vd {a b : S} (h : (S.fn a b).vd = true) : a.vd = true ∧ b.vd = true := by
  have h3 := S.vd_dep h
  have h1 := S.vd_ok h
  have e : (S.fn a b).dep = max a.dep b.dep + 1 := rfl
  have e1 : (S.fn a b).ok = (a.ok && b.ok) := rfl
  have m1 := Nat.le_max_left a.dep b.dep
  have m2 := Nat.le_max_right a.dep b.dep
  rw [e] at h3
  rw [e1, Bool.and_eq_true] at h1
  exact ⟨S.vd_mk h1.1 (by omega), S.vd_mk h1.2 (by omega)⟩
theorem node_1 (k : Int) (ty src : Ty) (h : S) (hk : k = 5 ∨ k = 11 ∨ k = 12) (hv : h.vd = true) : nodeS k ty src [h] = progS (wantS k ty [h]) [h] := by
  rcases hk with rfl | hk
  · simp [nodeS, wantS, progS]
  · have h5 : ¬ k = 5 := by omega
    have h14 : ¬ k = 14 := by omega
    simp only [nodeS, wantS, if_neg h5, if_neg h14]
    cases h with
    | pr a b =>
      have ha := pr_vd hv
      rcases hk with rfl | rfl
      · simp [S.mat, progS, ha.1]
      · simp [S.mat, progS, ha.2]
    | any => simp [S.mat, progS]
    | fn a b => simp [S.mat, progS]
    | zero => simp [S.mat, progS]
    | int => simp [S.mat, progS]
    | bool => simp [S.mat, progS]
theorem node_2 (k : Int) (ty src : Ty) (g h : S) (hk : k = 6 ∨ k = 7 ∨ k = 8 ∨ k = 10) (hg : g.vd = true) (hh : h.vd = true) : nodeS k ty src [g, h] = progS (wantS k ty [g, h]) [g, h] := by
  by_cases h6 : k = 6
  · subst h6
    simp only [nodeS, wantS, if_true]
    cases g with
    | fn a b =>
      have ha := fn_vd hg
      simp only [S.mat, if_true]
      by_cases e : a = h
      · subst e
        simp [S.cons_refl, progS, ha.2]
      · by_cases c : h.cons a = true
        · simp [e, c, progS]
        · simp [e, c, progS]
    | any =>
      simp only [S.mat]
      by_cases c : h.cons .any = true <;> simp [c, progS]
    | pr a b => simp [S.mat, progS]
    | zero => simp [S.mat, progS]
    | int => simp [S.mat, progS]
    | bool => simp [S.mat, progS]
  by_cases h10 : k = 10
  · subst h10
    simp [nodeS, wantS, progS]
  · simp only [nodeS, wantS, if_neg h6, if_neg h10]
    by_cases e : g = .int ∧ h = .int
    · obtain ⟨rfl, rfl⟩ := e
      by_cases h8 : k = 8 <;> simp [S.cons_refl, progS, h8, S.vd, S.ok, S.dep]
    · rw [if_neg e]
      by_cases c : (g.cons .int && h.cons .int) = true
      · rw [if_pos c]
        have : ¬ ([S.int, S.int] = [g, h]) := by
          intro q; simp only [List.cons.injEq, and_true] at q; exact e ⟨q.1.symm, q.2.symm⟩
        simp [progS, this]
      · rw [if_neg c]; rfl
theorem node_3 (k : Int) (ty src : Ty) (c g h : S) (hg : g.vd = true) (hh : h.vd = true) : nodeS k ty src [c, g, h] = progS (wantS k ty [c, g, h]) [c, g, h] := by
  simp only [nodeS, wantS]
  by_cases e : c = .bool ∧ g = h
  · obtain ⟨rfl, rfl⟩ := e
    simp [S.cons_refl, S.meet_self, progS, hg]
  · rw [if_neg e]
    by_cases q : (c.cons .bool && g.cons h) = true
    · rw [if_pos q]
      have : ¬ ([S.bool, g.meet h, g.meet h] = [c, g, h]) := by
        intro q; simp only [List.cons.injEq, and_true] at q; exact e ⟨q.1.symm, q.2.1.symm.trans q.2.2⟩
      simp [progS, this]
    · rw [if_neg q]; rfl
end Go.Proofs.Ytkhmkohgnikcmaa
namespace Go.Proofs.Ytkhmkohgnikcmaa
open Go.RowKit
set_option linter.unusedVariables false
set_option linter.unusedSimpArgs false

structure Bd where
  name : ByteArray
  ty : Ty
def Bd.row (b : Bd) : List C := [.str b.name, .int b.ty.kind, .sl (Ty.rows b.ty.kids)]
def Bd.rows (l : List Bd) : List (List C) := l.map Bd.row
theorem Bd.row_length (b : Bd) : b.row.length = 3 := rfl
theorem Bd.rows_length (l : List Bd) : (Bd.rows l).length = l.length := by simp [Bd.rows]
def BdsRep (F : Nat → Prop) (w : World) (l : List Bd) (y : Value) : Prop := CRep F w (.sl (Bd.rows l)) y
def BdRep (F : Nat → Prop) (w : World) (b : Bd) (y : Value) : Prop := ∃ k c m q, y = .agg #[.string b.name, .int .i64 k, .slice c m q] ∧ b.name.size ≤ maxLen ∧ TyRep F w b.ty (.agg #[.int .i64 k, .slice c m q])
theorem BdsRep.move {F G : Nat → Prop} {w w' : World} {l : List Bd} {y : Value} (h : BdsRep F w l y) (k : Keeps F G w w') : BdsRep G w' l y := CRep.move k _ _ h
theorem BdsRep.below {F : Nat → Prop} {w w' : World} {l : List Bd} {y : Value} (h : BdsRep F w l y) (k : Below w.heap.size w w') : BdsRep F w' l y := h.move (.below k)
theorem BdRep.below {F : Nat → Prop} {w w' : World} {b : Bd} {y : Value} (h : BdRep F w b y) (k : Below w.heap.size w w') : BdRep F w' b y :=
  let ⟨a, c, m, q, h1, h2, h3⟩ := h; ⟨a, c, m, q, h1, h2, h3.below k⟩
theorem BdsRep.open {F : Nat → Prop} {w : World} {l : List Bd} {y : Value} (h : BdsRep F w l y) :
    ∃ (a : Option Addr) (cap : Nat), y = .slice a l.length cap ∧ l.length ≤ cap ∧ cap ≤ maxLen ∧
      ∀ i (h : i < l.length), ∃ b off k c m q, a = some ⟨b, off, none⟩ ∧ w.cell? ⟨b, off + i * 3, none⟩ = some (.string l[i].name) ∧ l[i].name.size ≤ maxLen ∧ w.cell? ⟨b, off + i * 3 + 1, none⟩ = some (.int .i64 k) ∧ w.cell? ⟨b, off + i * 3 + 2, none⟩ = some (.slice c m q) ∧ TyRep F w l[i].ty (.agg #[.int .i64 k, .slice c m q]) := by
  obtain ⟨a, cap, h1, h2, h3, h4⟩ := CRep.rows h
  rw [Bd.rows_length] at h1 h2
  refine ⟨a, cap, h1, h2, h3, fun i hi => ?_⟩
  rcases h4 with h4 | ⟨b, off, ha, hF, hl, hr⟩
  · rw [← Bd.rows_length, h4] at hi; exact absurd hi (Nat.not_lt_zero _)
  · have hc := hr.get (m := 3) (fun r hr => by obtain ⟨t, _, rfl⟩ := List.mem_map.1 hr; rfl) i (by rw [Bd.rows_length]; exact hi)
    have he : (Bd.rows l)[i]'(by rw [Bd.rows_length]; exact hi) = l[i].row := by simp [Bd.rows]
    rw [he] at hc
    unfold Bd.row CellsAt at hc
    obtain ⟨⟨y0, hy0, hc0⟩, hc⟩ := hc
    unfold CellsAt at hc
    obtain ⟨⟨y1, hy1, hc1⟩, hc⟩ := hc
    unfold CellsAt at hc
    obtain ⟨⟨y2, hy2, hc2⟩, _⟩ := hc
    obtain ⟨e0, z0⟩ := CRep.str_eq hc0
    rw [e0] at hy0
    rw [CRep.int_eq hc1] at hy1
    obtain ⟨c, q, rfl, _⟩ := CRep.rows hc2
    exact ⟨b, off, _, c, _, q, ha, hy0, z0, hy1, hy2, _, rfl, hc2⟩
theorem BdsRep.shape {F : Nat → Prop} {w : World} {l : List Bd} {y : Value} (h : BdsRep F w l y) : ∃ a n q, y = .slice a n q := by
  obtain ⟨a, q, rfl, _⟩ := h.open
  exact ⟨a, _, q, rfl⟩
theorem BdRep.shape {F : Nat → Prop} {w : World} {b : Bd} {y : Value} (h : BdRep F w b y) : ∃ s k a n q, y = .agg #[.string s, .int .i64 k, .slice a n q] := by
  obtain ⟨k, c, m, q, rfl, _⟩ := h
  exact ⟨_, k, c, m, q, rfl⟩
theorem BdsRep.at {F : Nat → Prop} {w wr : World} {l : List Bd} {a : Option Addr} {n cap : Nat} (h : BdsRep F w l (.slice a n cap)) (hb : Below w.heap.size w wr) {i : Nat} (hi : i < l.length) :
    ∃ b off k c m q, a = some ⟨b, off, none⟩ ∧ b < wr.heap.size ∧ wr.cell? ⟨b, off + i * 3, none⟩ = some (.string l[i].name) ∧ l[i].name.size ≤ maxLen ∧ wr.cell? ⟨b, off + i * 3 + 1, none⟩ = some (.int .i64 k) ∧ wr.cell? ⟨b, off + i * 3 + 2, none⟩ = some (.slice c m q) ∧ TyRep F wr l[i].ty (.agg #[.int .i64 k, .slice c m q]) := by
  obtain ⟨a', cap', he, _, _, hg⟩ := h.open
  simp only [Value.slice.injEq] at he
  obtain ⟨rfl, _, rfl⟩ := he
  obtain ⟨b, off, k, c, m, q, ha, h0, hz, h1, h2, ht⟩ := hg i hi
  have e0 := bcell hb h0
  exact ⟨b, off, k, c, m, q, ha, World.block_lt_of_cell? wr _ e0, e0, hz, bcell hb h1, bcell hb h2, ht.below hb⟩
/-- How much a law's purse counts for bindings. -/
def Bd.cnt (b : Bd) : Nat := b.name.size + b.ty.cnt
def Bd.cs : List Bd → Nat
  | [] => 0
  | b :: l => b.cnt + Bd.cs l
def Bd.cnts (l : List Bd) : Nat := l.length + Bd.cs l
theorem Bd.cnt_mem : ∀ {l : List Bd} {b : Bd}, b ∈ l → b.cnt ≤ Bd.cs l
  | u :: l, b, h => by
    rcases List.mem_cons.1 h with rfl | h
    · simp only [Bd.cs]; omega
    · have := Bd.cnt_mem h; simp only [Bd.cs]; omega
/-- Bindings in memory of one's own. -/
def BdNew (B : Nat) (w : World) (b : Bd) (y : Value) : Prop := ∃ k c m q fp, y = .agg #[.string b.name, .int .i64 k, .slice c m q] ∧ SOwn w b.row [.string b.name, .int .i64 k, .slice c m q] fp ∧ fp.Nodup ∧ ∀ x ∈ fp, B ≤ x
def BdsNew (B : Nat) (w : World) (l : List Bd) (y : Value) : Prop := ∃ fp, COwn w (.sl (Bd.rows l)) y fp ∧ fp.Nodup ∧ ∀ b ∈ fp, B ≤ b
theorem BdsNew.rep {B : Nat} {w : World} {l : List Bd} {y : Value} (h : BdsNew B w l y) : BdsRep (B ≤ ·) w l y :=
  let ⟨_, h1, _, h3⟩ := h; COwn.rep _ _ _ (fun b hb => h3 b hb) h1
theorem BdsNew.below {B : Nat} {w w' : World} {l : List Bd} {y : Value} (h : BdsNew B w l y) (k : Below w.heap.size w w') : BdsNew B w' l y :=
  let ⟨fp, h1, h2, h3⟩ := h; ⟨fp, COwn.move _ _ _ (fun b hb => k.block b (COwn.lt _ _ _ h1 b hb)) h1, h2, h3⟩
theorem BdsNew.shape {B : Nat} {w : World} {l : List Bd} {y : Value} (h : BdsNew B w l y) : ∃ a n q, y = .slice a n q := h.rep.shape
theorem Bd.flatten_length (l : List Bd) : (Bd.rows l).flatten.length = l.length * 3 := by
  induction l with
  | nil => rfl
  | cons t ts ih => unfold Bd.rows at ih ⊢; rw [List.map_cons, List.flatten_cons, List.length_append, ih, t.row_length, List.length_cons]; omega
theorem BdNew.setCell {B : Nat} {w : World} {b : Bd} {y : Value} (h : BdNew B w b y) {p : Addr} (hp : p.block < B) (v : Value) : BdNew B (w.setCell p v) b y := by
  obtain ⟨k, c, m, q, fp, rfl, h1, h2, h3⟩ := h
  exact ⟨k, c, m, q, fp, rfl, h1.move _ _ _ (fun b hb => Below.heap_setCell w p v b (by have := h3 b hb; omega)), h2, h3⟩
theorem BdNew.mono {B B' : Nat} {w : World} {b : Bd} {y : Value} (h : BdNew B w b y) (hB : B' ≤ B) : BdNew B' w b y := by
  obtain ⟨k, c, m, q, fp, rfl, h1, h2, h3⟩ := h
  exact ⟨k, c, m, q, fp, rfl, h1, h2, fun b hb => Nat.le_trans hB (h3 b hb)⟩
/-- Equality of bindings. -/
def Bd.same (a b : Bd) : Bool := (a.name.toList == b.name.toList) && a.ty.same b.ty
def Bd.ok (b : Bd) : Bool := nameB b.name && b.ty.valid
end Go.Proofs.Ytkhmkohgnikcmaa
