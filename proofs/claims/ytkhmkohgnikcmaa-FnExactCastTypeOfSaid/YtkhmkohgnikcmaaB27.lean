/-
  spec.l4Exact joined.
  spec.l3Type at the leaves; the pure type of a term with casts.
  A slice of rows that grows by append: the rows lie in a block of one's own, what they hold are readings.
-/
import Derived.Test.YtkhmkohgnikcmaaCtExact
import Derived.Test.YtkhmkohgnikcmaaCtEx6
import Derived.Test.YtkhmkohgnikcmaaCtEx9
import Derived.Test.YtkhmkohgnikcmaaCtTwo
import Derived.Test.YtkhmkohgnikcmaaB0
import Derived.Test.YtkhmkohgnikcmaaB18
import Derived.Test.YtkhmkohgnikcmaaB3
import Derived.Test.YtkhmkohgnikcmaaB19
namespace Go.Proofs.Ytkhmkohgnikcmaa
open Go.RowKit
set_option linter.unusedVariables false
set_option linter.unusedSimpArgs false
set_option maxRecDepth 100000

theorem specL4Exact (k : Int) (hs : List S) (hk : 6 ≤ k ∧ k ≤ 12 ∨ k = 14) (hlen : tops k = (hs.length : Int)) (hv : ∀ h ∈ hs, h.vd = true) (G1 G2 G3 : Nat → Prop) (nm : ByteArray) (u lb tk fk : Int) (ty src : Ty) (ta fa ca : Option Addr) (tn tq fn fq cm cq : Nat) (w : World) (hty : TyRep G1 w ty (.agg #[.int .i64 tk, .slice ta tn tq])) (hsrc : TyRep G2 w src (.agg #[.int .i64 fk, .slice fa fn fq])) (hvt : k = 14 → ty.valid = true) (y : Value) (hy : TysRep G3 w (hs.map S.ty) y) :
    Calls Try.prog 34 #[.agg #[.int .i64 k, .string nm, .int .i64 u, .int .i64 tk, .slice ta tn tq, .int .i64 fk, .slice fa fn fq, .int .i64 lb, .slice ca cm cq], y] w (RetOF ((nodeS k ty src hs).map S.ty) w) := by
  have one : k = 11 ∨ k = 12 ∨ k = 14 → ∃ h, hs = [h] := fun h => by
    have : hs.length = 1 := by rcases h with rfl | rfl | rfl <;> simp [tops] at hlen <;> omega
    exact List.length_eq_one_iff.1 this
  have two : k = 6 ∨ k = 7 ∨ k = 8 ∨ k = 10 → ∃ g h, hs = [g, h] := fun h => by
    have : hs.length = 2 := by rcases h with rfl | rfl | rfl | rfl <;> simp [tops] at hlen <;> omega
    match hs, this with
    | [a, b], _ => exact ⟨a, b, rfl⟩
  have three : k = 9 → ∃ c g h, hs = [c, g, h] := fun h => by
    have : hs.length = 3 := by subst h; simp [tops] at hlen; omega
    match hs, this with
    | [a, b, c], _ => exact ⟨a, b, c, rfl⟩
  rcases (show k = 6 ∨ k = 7 ∨ k = 8 ∨ k = 9 ∨ k = 10 ∨ k = 11 ∨ k = 12 ∨ k = 14 by omega) with rfl | rfl | rfl | rfl | rfl | rfl | rfl | rfl
  · obtain ⟨g, h, rfl⟩ := two (by omega)
    have hg := hv g (by simp)
    by_cases h4 : g.ty.kind = 4
    · cases g with
      | fn a b =>
        cases d : a.ty.same h.ty with
        | true => exact specL4Exact_6_t G1 G2 G3 nm u lb tk fk ty src ta fa ca tn tq fn fq cm cq w hty hsrc y a b h (fn_vd hg).2 d hy
        | false => exact specL4Exact_6_f G1 G2 G3 nm u lb tk fk ty src ta fa ca tn tq fn fq cm cq w hty hsrc y a b h (fn_vd hg).2 d hy
      | zero => simp [S.ty, Ty.kind] at h4
      | any => simp [S.ty, Ty.kind] at h4
      | int => simp [S.ty, Ty.kind] at h4
      | bool => simp [S.ty, Ty.kind] at h4
      | pr a b => simp [S.ty, Ty.kind] at h4
    · exact specL4Exact_6_n G1 G2 G3 nm u lb tk fk ty src ta fa ca tn tq fn fq cm cq w hty hsrc y g h h4 hy
  · obtain ⟨g, h, rfl⟩ := two (by omega)
    cases d1 : g.ty.same (.mk 2 []) with
    | false => exact specL4Exact_7_f G1 G2 G3 nm u lb tk fk ty src ta fa ca tn tq fn fq cm cq w hty hsrc y g h d1 hy
    | true =>
      cases d2 : h.ty.same (.mk 2 []) with
      | false => exact specL4Exact_7_tf G1 G2 G3 nm u lb tk fk ty src ta fa ca tn tq fn fq cm cq w hty hsrc y g h d1 d2 hy
      | true => exact specL4Exact_7_tt G1 G2 G3 nm u lb tk fk ty src ta fa ca tn tq fn fq cm cq w hty hsrc y g h d1 d2 hy
  · obtain ⟨g, h, rfl⟩ := two (by omega)
    cases d1 : g.ty.same (.mk 2 []) with
    | false => exact specL4Exact_8_f G1 G2 G3 nm u lb tk fk ty src ta fa ca tn tq fn fq cm cq w hty hsrc y g h d1 hy
    | true =>
      cases d2 : h.ty.same (.mk 2 []) with
      | false => exact specL4Exact_8_tf G1 G2 G3 nm u lb tk fk ty src ta fa ca tn tq fn fq cm cq w hty hsrc y g h d1 d2 hy
      | true => exact specL4Exact_8_tt G1 G2 G3 nm u lb tk fk ty src ta fa ca tn tq fn fq cm cq w hty hsrc y g h d1 d2 hy
  · obtain ⟨c, g, h, rfl⟩ := three rfl
    have hg := hv g (by simp)
    cases d1 : c.ty.same (.mk 3 []) with
    | false => exact specL4Exact_9_f G1 G2 G3 nm u lb tk fk ty src ta fa ca tn tq fn fq cm cq w hty hsrc y c g h hg d1 hy
    | true =>
      cases d2 : g.ty.same h.ty with
      | false => exact specL4Exact_9_tf G1 G2 G3 nm u lb tk fk ty src ta fa ca tn tq fn fq cm cq w hty hsrc y c g h hg d1 d2 hy
      | true => exact specL4Exact_9_tt G1 G2 G3 nm u lb tk fk ty src ta fa ca tn tq fn fq cm cq w hty hsrc y c g h hg d1 d2 hy
  · obtain ⟨g, h, rfl⟩ := two (by omega)
    exact specL4Exact_10 G1 G2 G3 nm u lb tk fk ty src ta fa ca tn tq fn fq cm cq w hty hsrc y g h (hv g (by simp)) (hv h (by simp)) hy
  · obtain ⟨h, rfl⟩ := one (by omega)
    have hh := hv h (by simp)
    by_cases h5 : h.ty.kind = 5
    · cases h with
      | pr a b => exact specL4Exact_11 G1 G2 G3 nm u lb tk fk ty src ta fa ca tn tq fn fq cm cq w hty hsrc y a b (pr_vd hh).1 hy
      | zero => simp [S.ty, Ty.kind] at h5
      | any => simp [S.ty, Ty.kind] at h5
      | int => simp [S.ty, Ty.kind] at h5
      | bool => simp [S.ty, Ty.kind] at h5
      | fn a b => simp [S.ty, Ty.kind] at h5
    · exact specL4Exact_11_n G1 G2 G3 nm u lb tk fk ty src ta fa ca tn tq fn fq cm cq w hty hsrc y h h5 hy
  · obtain ⟨h, rfl⟩ := one (by omega)
    have hh := hv h (by simp)
    by_cases h5 : h.ty.kind = 5
    · cases h with
      | pr a b => exact specL4Exact_12 G1 G2 G3 nm u lb tk fk ty src ta fa ca tn tq fn fq cm cq w hty hsrc y a b (pr_vd hh).2 hy
      | zero => simp [S.ty, Ty.kind] at h5
      | any => simp [S.ty, Ty.kind] at h5
      | int => simp [S.ty, Ty.kind] at h5
      | bool => simp [S.ty, Ty.kind] at h5
      | fn a b => simp [S.ty, Ty.kind] at h5
    · exact specL4Exact_12_n G1 G2 G3 nm u lb tk fk ty src ta fa ca tn tq fn fq cm cq w hty hsrc y h h5 hy
  · obtain ⟨h, rfl⟩ := one (by omega)
    exact specL4Exact_14 G1 G2 G3 nm u lb tk fk ty src ta fa ca tn tq fn fq cm cq w hty hsrc (hvt rfl) h y hy
end Go.Proofs.Ytkhmkohgnikcmaa
namespace Go.Proofs.Ytkhmkohgnikcmaa
open Go.RowKit
set_option linter.unusedVariables false
set_option linter.unusedSimpArgs false
set_option maxRecDepth 100000

mutual
/-- The type of a term with casts in a context. -/
def Tm.castS : Tm → List Bd → Option S
  | .mk k nm u ty src lb ts, l =>
    if k = 1 then (lookN l nm l.length).map Ty.toS
    else if k = 2 then some .int
    else if k = 3 ∨ k = 4 then some .bool
    else if k = 5 then (match Tm.castsS ts (l ++ [⟨nm, ty⟩]) with
      | some [h] => if (S.fn ty.toS h).vd then some (.fn ty.toS h) else none
      | _ => none)
    else (match Tm.castsS ts l with
      | some hs => nodeS k ty src hs
      | none => none)
def Tm.castsS : List Tm → List Bd → Option (List S)
  | [], _ => some []
  | t :: ts, l => match t.castS l with
    | none => none
    | some h => (match Tm.castsS ts l with
      | none => none
      | some hs => some (h :: hs))
end
set_option maxHeartbeats 4000000 in
theorem specL3Type_1 (F : Nat → Prop) (l : List Bd) (y : Value) (nm : ByteArray) (u lb tk fk : Int) (ta fa ca : Option Addr) (tn tq fn fq cm cq : Nat) (w : World) (hy : BdsRep F w l y) (hc : ∀ b ∈ l, b.ty.cnt ≤ 1048576) :
    Calls Try.prog 31 #[y, .agg #[.int .i64 1, .string nm, .int .i64 u, .int .i64 tk, .slice ta tn tq, .int .i64 fk, .slice fa fn fq, .int .i64 lb, .slice ca cm cq]] w (RetOF (lookN l nm l.length) w) := by
  have HL := Lib.hid (fun W (h : Below w.heap.size w W) => specL3Look F l nm y W (hy.below h) hc)
  obtain ⟨a, n, q, rfl⟩ := hy.shape
  have fR := blk_new (w := w.alloc (.cells #[.int .i64 1, .string nm, .int .i64 u, .int .i64 tk, .slice ta tn tq, .int .i64 fk, .slice fa fn fq, .int .i64 lb, .slice ca cm cq] 36)) (o := .cells #[.int .i64 0, .slice none 0 0] 31) (b := w.heap.size + 1) (by simp)
  clear hy hc
  go_enter Try.func31, Try.ntmps31
  go_wp2_with fail
  refine (HL.out _ (bstep bal1 bal1)).mono ?_
  rintro e w1 ⟨k, a1, n1, q1, b1, t, rfl, hb1, ht, ho, hst⟩
  have HT := Lib.hid ht
  have HO := Lib.hid ho
  have HB1 := Lib.hid hb1
  replace fR := blk_below fR hst
  have fC := Lib.hid (bstep (bstep bal1 bal1) hst)
  have hz := hst.size
  simp only [World.size_alloc] at hz
  clear ht ho hb1 hst
  have r0 := blk_cell fR (o := 0) rfl
  have r1 := blk_cell fR (o := 1) rfl
  have rf0 := blk_fro fR 0
  have rf1 := blk_fro fR 1
  go_wp2_with fail
  have hY : ((w1.setCell ⟨w.heap.size + 1, 0, none⟩ (.int .i64 k)).setCell ⟨w.heap.size + 1, 1, none⟩ (.slice a1 n1 q1)).heap[w.heap.size + 1]? = some (.cells #[.int .i64 k, .slice a1 n1 q1] 31 (0, 0)) := blk_set (blk_set fR rfl) rfl
  have rc0 := blk_cell hY (o := 0) rfl
  have rc1 := blk_cell hY (o := 1) rfl
  refine bodyPost_ret (v := .tuple #[.agg #[.int .i64 k, .slice a1 n1 q1], .bool b1]) (by simp [results, Try.results31, go_sem, rc0, rc1]) rfl ?_
  have hne : ∀ b, (False ∨ ((w.alloc (.cells #[.int .i64 1, .string nm, .int .i64 u, .int .i64 tk, .slice ta tn tq, .int .i64 fk, .slice fa fn fq, .int .i64 lb, .slice ca cm cq] 36)).alloc (.cells #[.int .i64 0, .slice none 0 0] 31)).heap.size ≤ b) → b ≠ w.heap.size + 1 := fun b h => by
    have h1 := h.elim False.elim id
    simp at h1
    omega
  exact ⟨_, _, _, _, _, t, rfl, HB1.out, (TyRep.setN (TyRep.setN HT.out hne) hne).move (.weaken fun b h _ => .inr (by have h1 := h.elim False.elim id; simp at h1; omega)), HO.out, (fC.out.setCell (p := ⟨w.heap.size + 1, 0, none⟩) (by show w.heap.size ≤ w.heap.size + 1; omega) _).setCell (p := ⟨w.heap.size + 1, 1, none⟩) (by show w.heap.size ≤ w.heap.size + 1; omega) _⟩
set_option maxHeartbeats 4000000 in
theorem specL3Type_2 (y : Value) (nm : ByteArray) (u lb tk fk : Int) (ta fa ca : Option Addr) (tn tq fn fq cm cq : Nat) (w : World) :
    Calls Try.prog 31 #[y, .agg #[.int .i64 2, .string nm, .int .i64 u, .int .i64 tk, .slice ta tn tq, .int .i64 fk, .slice fa fn fq, .int .i64 lb, .slice ca cm cq]] w (RetOF (some (.mk 2 [])) w) := by
  have fR := blk_new (w := w.alloc (.cells #[.int .i64 2, .string nm, .int .i64 u, .int .i64 tk, .slice ta tn tq, .int .i64 fk, .slice fa fn fq, .int .i64 lb, .slice ca cm cq] 36)) (o := .cells #[.int .i64 0, .slice none 0 0] 31) (b := w.heap.size + 1) (by simp)
  go_enter Try.func31, Try.ntmps31
  go_wp2_with fail
  refine (specL3Int _).mono ?_
  rintro e w1 ⟨rfl, hst⟩
  replace fR := blk_below fR hst
  have fC := Lib.hid (bstep (bstep bal1 bal1) hst)
  clear hst
  have r0 := blk_cell fR (o := 0) rfl
  have r1 := blk_cell fR (o := 1) rfl
  have rf0 := blk_fro fR 0
  have rf1 := blk_fro fR 1
  go_wp2_with fail
  have hY : ((w1.setCell ⟨w.heap.size + 1, 0, none⟩ (.int .i64 2)).setCell ⟨w.heap.size + 1, 1, none⟩ (.slice none 0 0)).heap[w.heap.size + 1]? = some (.cells #[.int .i64 2, .slice none 0 0] 31 (0, 0)) := blk_set (blk_set fR rfl) rfl
  have rc0 := blk_cell hY (o := 0) rfl
  have rc1 := blk_cell hY (o := 1) rfl
  refine bodyPost_ret (v := .tuple #[.agg #[.int .i64 2, .slice none 0 0], .bool true]) (by simp [results, Try.results31, go_sem, rc0, rc1]) rfl ?_
  exact ⟨_, _, _, _, _, _, rfl, rfl, TyRep.leafG 2, (fun s h => Option.some.inj h), (fC.out.setCell (p := ⟨w.heap.size + 1, 0, none⟩) (by show w.heap.size ≤ w.heap.size + 1; omega) _).setCell (p := ⟨w.heap.size + 1, 1, none⟩) (by show w.heap.size ≤ w.heap.size + 1; omega) _⟩
set_option maxHeartbeats 4000000 in
theorem specL3Type_3 (y : Value) (nm : ByteArray) (u lb tk fk : Int) (ta fa ca : Option Addr) (tn tq fn fq cm cq : Nat) (w : World) :
    Calls Try.prog 31 #[y, .agg #[.int .i64 3, .string nm, .int .i64 u, .int .i64 tk, .slice ta tn tq, .int .i64 fk, .slice fa fn fq, .int .i64 lb, .slice ca cm cq]] w (RetOF (some (.mk 3 [])) w) := by
  have fR := blk_new (w := w.alloc (.cells #[.int .i64 3, .string nm, .int .i64 u, .int .i64 tk, .slice ta tn tq, .int .i64 fk, .slice fa fn fq, .int .i64 lb, .slice ca cm cq] 36)) (o := .cells #[.int .i64 0, .slice none 0 0] 31) (b := w.heap.size + 1) (by simp)
  go_enter Try.func31, Try.ntmps31
  go_wp2_with fail
  refine (specL3Bool _).mono ?_
  rintro e w1 ⟨rfl, hst⟩
  replace fR := blk_below fR hst
  have fC := Lib.hid (bstep (bstep bal1 bal1) hst)
  clear hst
  have r0 := blk_cell fR (o := 0) rfl
  have r1 := blk_cell fR (o := 1) rfl
  have rf0 := blk_fro fR 0
  have rf1 := blk_fro fR 1
  go_wp2_with fail
  have hY : ((w1.setCell ⟨w.heap.size + 1, 0, none⟩ (.int .i64 3)).setCell ⟨w.heap.size + 1, 1, none⟩ (.slice none 0 0)).heap[w.heap.size + 1]? = some (.cells #[.int .i64 3, .slice none 0 0] 31 (0, 0)) := blk_set (blk_set fR rfl) rfl
  have rc0 := blk_cell hY (o := 0) rfl
  have rc1 := blk_cell hY (o := 1) rfl
  refine bodyPost_ret (v := .tuple #[.agg #[.int .i64 3, .slice none 0 0], .bool true]) (by simp [results, Try.results31, go_sem, rc0, rc1]) rfl ?_
  exact ⟨_, _, _, _, _, _, rfl, rfl, TyRep.leafG 3, (fun s h => Option.some.inj h), (fC.out.setCell (p := ⟨w.heap.size + 1, 0, none⟩) (by show w.heap.size ≤ w.heap.size + 1; omega) _).setCell (p := ⟨w.heap.size + 1, 1, none⟩) (by show w.heap.size ≤ w.heap.size + 1; omega) _⟩
set_option maxHeartbeats 4000000 in
theorem specL3Type_4 (y : Value) (nm : ByteArray) (u lb tk fk : Int) (ta fa ca : Option Addr) (tn tq fn fq cm cq : Nat) (w : World) :
    Calls Try.prog 31 #[y, .agg #[.int .i64 4, .string nm, .int .i64 u, .int .i64 tk, .slice ta tn tq, .int .i64 fk, .slice fa fn fq, .int .i64 lb, .slice ca cm cq]] w (RetOF (some (.mk 3 [])) w) := by
  have fR := blk_new (w := w.alloc (.cells #[.int .i64 4, .string nm, .int .i64 u, .int .i64 tk, .slice ta tn tq, .int .i64 fk, .slice fa fn fq, .int .i64 lb, .slice ca cm cq] 36)) (o := .cells #[.int .i64 0, .slice none 0 0] 31) (b := w.heap.size + 1) (by simp)
  go_enter Try.func31, Try.ntmps31
  go_wp2_with fail
  refine (specL3Bool _).mono ?_
  rintro e w1 ⟨rfl, hst⟩
  replace fR := blk_below fR hst
  have fC := Lib.hid (bstep (bstep bal1 bal1) hst)
  clear hst
  have r0 := blk_cell fR (o := 0) rfl
  have r1 := blk_cell fR (o := 1) rfl
  have rf0 := blk_fro fR 0
  have rf1 := blk_fro fR 1
  go_wp2_with fail
  have hY : ((w1.setCell ⟨w.heap.size + 1, 0, none⟩ (.int .i64 3)).setCell ⟨w.heap.size + 1, 1, none⟩ (.slice none 0 0)).heap[w.heap.size + 1]? = some (.cells #[.int .i64 3, .slice none 0 0] 31 (0, 0)) := blk_set (blk_set fR rfl) rfl
  have rc0 := blk_cell hY (o := 0) rfl
  have rc1 := blk_cell hY (o := 1) rfl
  refine bodyPost_ret (v := .tuple #[.agg #[.int .i64 3, .slice none 0 0], .bool true]) (by simp [results, Try.results31, go_sem, rc0, rc1]) rfl ?_
  exact ⟨_, _, _, _, _, _, rfl, rfl, TyRep.leafG 3, (fun s h => Option.some.inj h), (fC.out.setCell (p := ⟨w.heap.size + 1, 0, none⟩) (by show w.heap.size ≤ w.heap.size + 1; omega) _).setCell (p := ⟨w.heap.size + 1, 1, none⟩) (by show w.heap.size ≤ w.heap.size + 1; omega) _⟩
end Go.Proofs.Ytkhmkohgnikcmaa
namespace Go.Proofs.Ytkhmkohgnikcmaa
open Go.RowKit
set_option linter.unusedVariables false
set_option linter.unusedSimpArgs false

def RVals (F : Nat → Prop) (w : World) : List (List C) → List Value → Prop
  | [], xs => xs = []
  | r :: rs, xs => ∃ ys rest, xs = ys ++ rest ∧ SRep F w r ys ∧ RVals F w rs rest
theorem RVals.move {F G : Nat → Prop} {w w' : World} (k : Keeps F G w w') : ∀ (rs : List (List C)) (xs : List Value), RVals F w rs xs → RVals G w' rs xs
  | [], _, h => h
  | r :: rs, _, ⟨ys, rest, h1, h2, h3⟩ => ⟨ys, rest, h1, h2.move k, RVals.move k rs rest h3⟩
theorem RVals.append {F : Nat → Prop} {w : World} : ∀ (rs us : List (List C)) (xs ys : List Value), RVals F w rs xs → RVals F w us ys → RVals F w (rs ++ us) (xs ++ ys)
  | [], us, xs, ys, h, h' => by
    have h0 : xs = [] := h
    subst h0; simpa using h'
  | r :: rs, us, _, zs, ⟨ys, rest, h1, h2, h3⟩, h' => by
    subst h1
    exact ⟨ys, rest ++ zs, by simp, h2, RVals.append rs us rest zs h3 h'⟩
theorem RVals.one {F : Nat → Prop} {w : World} {r : List C} {ys : List Value} (h : SRep F w r ys) : RVals F w [r] ys := ⟨ys, [], by simp, h, rfl⟩
theorem SRep.len {F : Nat → Prop} {w : World} : ∀ {r : List C} {ys : List Value}, SRep F w r ys → ys.length = r.length
  | [], _, h => by
    have h0 : _ = [] := h
    rw [h0]; rfl
  | c :: cs, _, ⟨z, zs, h1, h2, h3⟩ => by rw [h1, List.length_cons, List.length_cons, SRep.len h3]
theorem SRep.cellsAt {F : Nat → Prop} {w : World} {g : Nat} : ∀ {r : List C} {ys : List Value} {off : Nat}, SRep F w r ys → (∀ j u, ys[j]? = some u → w.cell? ⟨g, off + j, none⟩ = some u) → CellsAt F w g off r
  | [], _, off, _, _ => by unfold CellsAt; trivial
  | c :: cs, _, off, ⟨z, zs, h1, h2, h3⟩, hc => by
    subst h1
    unfold CellsAt
    refine ⟨⟨z, hc 0 z rfl, h2⟩, SRep.cellsAt h3 fun j u hj => ?_⟩
    have := hc (j + 1) u (by simpa using hj)
    rw [show off + 1 + j = off + (j + 1) from by omega]; exact this
theorem RVals.rows {F : Nat → Prop} {w : World} {g : Nat} : ∀ (rs : List (List C)) (xs : List Value) (off : Nat), RVals F w rs xs → (∀ j u, xs[j]? = some u → w.cell? ⟨g, off + j, none⟩ = some u) → RowsAt F w g off rs
  | [], _, off, _, _ => by unfold RowsAt; trivial
  | r :: rs, _, off, ⟨ys, rest, h1, h2, h3⟩, hc => by
    subst h1
    have hl := h2.len
    unfold RowsAt
    refine ⟨SRep.cellsAt h2 fun j u hj => hc j u ?_, RVals.rows rs rest _ h3 fun j u hj => ?_⟩
    · have hlt := (List.getElem?_eq_some_iff.1 hj).1
      rw [List.getElem?_append_left hlt]; exact hj
    · have := hc (ys.length + j) u (by rw [List.getElem?_append_right (by omega)]; simpa using hj)
      rw [← hl, show off + ys.length + j = off + (ys.length + j) from by omega]; exact this
/-- The slice v has grown to these rows: its block is one's own and lies from B on, what the rows read lies from B on, too. -/
def RowL (B : Nat) (e : TypeId) (sz : Nat) (w : World) (v : Value) (n : Nat) (rows : List (List C)) : Prop :=
  rows.length = n ∧ ∃ xs, w.ownsRow B e sz v n xs ∧ RVals (fun b => B ≤ b ∧ v.ownBlock ≠ some b) w rows xs
theorem RowL.nil {B : Nat} {e : TypeId} {sz : Nat} {w : World} : RowL B e sz w (.slice none 0 0) 0 [] := ⟨rfl, [], World.ownsRow_nil w B e sz, rfl⟩
theorem RowL.chg {r B : Nat} {e : TypeId} {sz n : Nat} {w w' : World} {v : Value} {rows : List (List C)} (h : RowL B e sz w v n rows) (k : Chg [r] w w') (hr : r < B) : RowL B e sz w' v n rows := by
  obtain ⟨hl, xs, h1, h2⟩ := h
  exact ⟨hl, xs, ownsRow_chg h1 k hr, h2.move (k.keeps fun b hb => by have := hb.1; simp; omega) _ _⟩
theorem RowL.below {B : Nat} {e : TypeId} {sz n : Nat} {w w' : World} {v : Value} {rows : List (List C)} (h : RowL B e sz w v n rows) (k : Below w.heap.size w w') : RowL B e sz w' v n rows := by
  obtain ⟨hl, xs, h1, h2⟩ := h
  exact ⟨hl, xs, ownsRow_below h1 k, h2.move (.below k) _ _⟩
theorem RowL.setCell {B : Nat} {e : TypeId} {sz n : Nat} {w : World} {v : Value} {rows : List (List C)} (h : RowL B e sz w v n rows) {p : Addr} (hp : p.block < B) (u : Value) : RowL B e sz (w.setCell p u) v n rows := by
  obtain ⟨hl, xs, h1, h2⟩ := h
  exact ⟨hl, xs, ownsRow_setCell_below h1 hp u, h2.move ⟨by simp [World.setCell], fun _ h _ => h, fun b hb _ => Below.heap_setCell w p u b (by have := hb.1; omega)⟩ _ _⟩
theorem RowL.shape {B : Nat} {e : TypeId} {sz n : Nat} {w : World} {v : Value} {rows : List (List C)} (h : RowL B e sz w v n rows) : ∃ a q, v = .slice a n q := by
  obtain ⟨hl, xs, ⟨h1, h2 | ⟨g, cap, cur, h2, hB, hg, hn, hc, hs, ht⟩⟩, -⟩ := h
  · exact ⟨none, 0, by rw [h2.1, h2.2]⟩
  · exact ⟨_, cap, h2⟩
/-- Behind an append of one row, in a world W; the slice was whole in wr. -/
theorem RowL.push {r B g cap n sz : Nat} {e : TypeId} {wr W w2 : World} {v : Value} {rows : List (List C)} {xs ys : List Value} {rw' : List C} (hl : rows.length = n) (ho : wr.ownsRow B e sz v n xs) (hv : RVals (fun b => B ≤ b ∧ v.ownBlock ≠ some b) wr rows xs)
    (hrB : r < B) (hb : Chg [r] wr W) (hr : SRep (fun b => wr.heap.size ≤ b) W rw' ys) (hB : B ≤ wr.heap.size)
    (hown : w2.ownsRow B e sz (.slice (some ⟨g, 0, none⟩) (n + 1) cap) (n + 1) (xs ++ ys)) (hgrow : W.grownBy w2 v.ownBlock) (hat : v.ownBlock = some g ∨ g = W.heap.size) :
    RowL B e sz w2 (.slice (some ⟨g, 0, none⟩) (n + 1) cap) (n + 1) (rows ++ [rw']) := by
  have hlt : ∀ b, v.ownBlock = some b → b < wr.heap.size := fun b hb => (ho.lt b hb).2
  have kk : Keeps (fun b => B ≤ b ∧ v.ownBlock ≠ some b) (fun b => B ≤ b ∧ (Value.slice (some ⟨g, 0, none⟩) (n + 1) cap).ownBlock ≠ some b) W w2 := by
    refine ⟨hgrow.size, fun b hb hl => ⟨hb.1, fun e => ?_⟩, fun b hb hl => hgrow.block b hl (fun e => hb.2 e.symm)⟩
    simp only [Value.ownBlock, Option.some.injEq] at e
    subst e
    rcases hat with h | h
    · exact hb.2 h
    · omega
  have k0 : Keeps (fun b => B ≤ b ∧ v.ownBlock ≠ some b) (fun b => B ≤ b ∧ v.ownBlock ≠ some b) wr W := hb.keeps fun b hb => by have := hb.1; simp; omega
  have k1 : Keeps (fun b => wr.heap.size ≤ b) (fun b => B ≤ b ∧ v.ownBlock ≠ some b) W W := .weaken fun b hb _ => ⟨by omega, fun e => by have := hlt b e; omega⟩
  exact ⟨by simp [hl], xs ++ ys, hown, RVals.append rows [rw'] xs ys ((hv.move k0 _ _).move kk _ _) (RVals.one ((hr.move k1).move kk))⟩
theorem RowL.rep {B : Nat} {e : TypeId} {sz n : Nat} {w : World} {v : Value} {rows : List (List C)} (h : RowL B e sz w v n rows) : CRep (B ≤ ·) w (.sl rows) v := by
  obtain ⟨hl, xs, h1, h2⟩ := h
  subst hl
  have h1' := h1
  obtain ⟨hx, h3 | ⟨g, cap, cur, h3, hB, hg, hn, hc, hs, ht⟩⟩ := h1
  · obtain ⟨rfl, h4⟩ := h3
    have : rows = [] := List.length_eq_zero_iff.1 h4
    subst this
    unfold CRep
    exact ⟨none, 0, rfl, Nat.le_refl _, by unfold maxLen; omega, .inl rfl⟩
  · subst h3
    have hcl : ∀ j u, xs[j]? = some u → w.cell? ⟨g, j, none⟩ = some u := by
      intro j u hj
      subst ht
      simp only [World.cell?, hg]
      rw [List.getElem?_take] at hj
      split at hj
      · simpa using hj
      · cases hj
    unfold CRep
    exact ⟨_, cap, rfl, hn, hc, .inr ⟨g, 0, rfl, hB, (Array.getElem?_eq_some_iff.1 hg).1, RVals.rows rows xs 0 (h2.move (.weaken fun _ hb _ => hb.1) _ _) (fun j u hj => by simpa using hcl j u hj)⟩⟩
end Go.Proofs.Ytkhmkohgnikcmaa
