/-
  The types of a term as a list: plain facts; rows appended to rows.
-/
import Derived.Test.YtpckgpndaligbaaB29
import Derived.Test.YtpckgpndaligbaaB3
import Derived.Test.YtpckgpndaligbaaB29
import Derived.Test.YtpckgpndaligbaaB6
import Derived.Deep.AppendLies
import Derived.Laws.AppendOwnNone
namespace Go.Proofs.Ytpckgpndaligbaa
open Go.RowKit
set_option linter.unusedVariables false
set_option linter.unusedSimpArgs false
set_option maxRecDepth 100000

mutual
def Tm.tys : Tm → List Ty
  | .mk k _ _ t _ _ ts => (if hasT k then [t] else []) ++ Tm.tyss ts
def Tm.tyss : List Tm → List Ty
  | [] => []
  | t :: ts => t.tys ++ Tm.tyss ts
end
theorem Tm.tyss_take_succ : ∀ (ts : List Tm) (j : Nat) (h : j < ts.length), Tm.tyss (ts.take (j + 1)) = Tm.tyss (ts.take j) ++ ts[j].tys
  | [], _, h => absurd h (Nat.not_lt_zero _)
  | t :: ts, 0, _ => by simp [Tm.tyss]
  | t :: ts, j + 1, h => by
    have := Tm.tyss_take_succ ts j (by simpa using h)
    simp only [List.take_succ_cons, Tm.tyss, List.getElem_cons_succ, this, List.append_assoc]
theorem Tm.tyss_take_le (ts : List Tm) (j : Nat) : (Tm.tyss (ts.take j)).length ≤ (Tm.tyss ts).length := by
  induction ts generalizing j with
  | nil => simp
  | cons t ts ih =>
    cases j with
    | zero => simp [Tm.tyss]
    | succ j => have := ih j; simp only [List.take_succ_cons, Tm.tyss, List.length_append]; omega
theorem Tm.tys_mem {ts : List Tm} {t : Tm} (ht : t ∈ ts) : ∀ x ∈ t.tys, x ∈ Tm.tyss ts := by
  induction ts with
  | nil => cases ht
  | cons u ts ih =>
    intro x hx
    unfold Tm.tyss
    rcases List.mem_cons.1 ht with rfl | ht
    · exact List.mem_append_left _ hx
    · exact List.mem_append_right _ (ih ht x hx)
mutual
theorem Tm.tys_len : ∀ t : Tm, ((t.tys.length : Nat) : Int) ≤ t.size
  | .mk k _ _ t _ _ ts => by
    unfold Tm.tys Tm.size
    have := Tm.tyss_len ts
    rw [List.length_append]
    split <;> simp <;> omega
theorem Tm.tyss_len : ∀ ts : List Tm, (((Tm.tyss ts).length : Nat) : Int) ≤ Tm.sizes ts
  | [] => by unfold Tm.tyss Tm.sizes; simp
  | t :: ts => by
    unfold Tm.tyss Tm.sizes
    have := Tm.tys_len t
    have := Tm.tyss_len ts
    rw [List.length_append]
    omega
end
theorem SRows.append {w : World} : ∀ {r1 r2 : List (List C)} {x1 x2 : List Value} {f1 f2 : List Nat}, SRows w r1 x1 f1 → SRows w r2 x2 f2 → SRows w (r1 ++ r2) (x1 ++ x2) (f1 ++ f2)
  | [], r2, _, x2, _, f2, ⟨h1, h2⟩, h => by subst h1 h2; exact h
  | r :: r1, r2, _, x2, _, f2, ⟨ys, xs', g1, g2, e1, e2, h1, h2⟩, h => by
    subst e1 e2
    exact ⟨ys, xs' ++ x2, g1, g2 ++ f2, by simp, by simp, h1, SRows.append h2 h⟩
theorem COwn.one {w : World} : ∀ {c : C} {y : Value} {fp : List Nat}, COwn w c y fp → y.oneCell' = true
  | .int _, _, _, h => by unfold COwn at h; rw [h.1]; rfl
  | .str _, _, _, h => by unfold COwn at h; rw [h.1]; rfl
  | .sl _, _, _, h => by unfold COwn at h; obtain ⟨a, q, h, -⟩ := h; rw [h]; rfl
theorem SOwn.one {w : World} : ∀ {r : List C} {ys : List Value} {fp : List Nat}, SOwn w r ys fp → ∀ y ∈ ys, y.oneCell' = true
  | [], _, _, ⟨h, _⟩, y, hy => by subst h; cases hy
  | c :: cs, _, _, ⟨z, zs, f1, f2, e, _, h1, h2⟩, y, hy => by
    subst e
    rcases List.mem_cons.1 hy with rfl | hy
    · exact h1.one
    · exact SOwn.one h2 y hy
theorem SRows.one {w : World} : ∀ {rs : List (List C)} {ys : List Value} {fp : List Nat}, SRows w rs ys fp → ∀ y ∈ ys, y.oneCell' = true
  | [], _, _, ⟨h, _⟩, y, hy => by subst h; cases hy
  | r :: rs, _, _, ⟨y1, x', f1, f2, e, _, h1, h2⟩, y, hy => by
    subst e
    rcases List.mem_append.1 hy with hy | hy
    · exact h1.one y hy
    · exact SRows.one h2 y hy
/-- The rows behind the append of several rows. -/
theorem AccNew.pushS {B g cap m : Nat} {e : TypeId} {size n : Nat} {W w2 : World} {v : Value} {xs ys : List Value} {fps f : List Nat} {rows rs : List (List C)} (hl : rows.length = n) (hs : SRows W rows xs fps) (hd : fps.Nodup)
    (hfp : ∀ x ∈ fps, B ≤ x ∧ v.ownBlock ≠ some x) (hrl : rs.length = m) (hr : SRows W rs ys f) (hdf : f.Nodup) (hxf : ∀ x ∈ f, B ≤ x ∧ v.ownBlock ≠ some x ∧ x ∉ fps)
    (hown : w2.ownsRow B e size (.slice (some ⟨g, 0, none⟩) (n + m) cap) (n + m) (xs ++ ys)) (hgrow : W.grownBy w2 v.ownBlock) (hat : v.ownBlock = some g ∨ g = W.heap.size) :
    AccNew B e size w2 (.slice (some ⟨g, 0, none⟩) (n + m) cap) (n + m) (rows ++ rs) := by
  have l1 : ∀ b ∈ fps, b < W.heap.size := fun b hb => SRows.lt _ _ _ hs b hb
  have l2 : ∀ b ∈ f, b < W.heap.size := fun b hb => SRows.lt _ _ _ hr b hb
  have keep : ∀ x, x < W.heap.size → v.ownBlock ≠ some x → w2.heap[x]? = W.heap[x]? := fun x hx hn => hgrow.block x hx (fun e => hn e.symm)
  refine ⟨xs ++ ys, fps ++ f, hown, by simp [hl, hrl], SRows.append (hs.move _ _ _ fun b hb => keep b (l1 b hb) (hfp b hb).2) (hr.move _ _ _ fun b hb => keep b (l2 b hb) (hxf b hb).2.1), ?_, ?_⟩
  · exact List.nodup_append.2 ⟨hd, hdf, fun x hx y hy e => (hxf y hy).2.2 (e ▸ hx)⟩
  · intro x hx
    have hlt : x < W.heap.size ∧ B ≤ x ∧ v.ownBlock ≠ some x := by
      rcases List.mem_append.1 hx with hx | hx
      · exact ⟨l1 x hx, hfp x hx⟩
      · exact ⟨l2 x hx, (hxf x hx).1, (hxf x hx).2.1⟩
    refine ⟨hlt.2.1, fun e => ?_⟩
    simp only [Value.ownBlock, Option.some.injEq] at e
    rcases hat with hat | hat
    · exact hlt.2.2 (by rw [hat, e])
    · omega
theorem SRows.single {w : World} {r : List C} {ys : List Value} {f : List Nat} (h : SOwn w r ys f) : SRows w [r] ys f := ⟨ys, [], f, [], by simp, by simp, h, rfl, rfl⟩
/-- What a slice of one's own holds, where it lies. -/
theorem ownsRow_cells {w : World} {B : Nat} {e : TypeId} {size n q g : Nat} {xs : List Value} (h : w.ownsRow B e size (.slice (some ⟨g, 0, none⟩) n q) n xs) : ∀ j u, xs[j]? = some u → w.cell? ((⟨g, 0, none⟩ : Addr).add j) = some u := by
  obtain ⟨h1, h2 | ⟨g', cap, cur, h2, hB, hg, hn, hc, hs, ht⟩⟩ := h
  · exact absurd h2.1 (by simp)
  · simp only [Value.slice.injEq, Option.some.injEq, Addr.mk.injEq, and_true] at h2
    obtain ⟨rfl, _⟩ := h2
    intro j u hu
    have e1 : (⟨g, 0, none⟩ : Addr).add j = ⟨g, j, none⟩ := by
      by_cases hj : j = 0
      · subst hj; rfl
      · simp [Addr.add, hj]
    rw [e1]
    rw [← ht] at hu
    have hj : j < n * size := by
      have := List.getElem?_eq_some_iff.1 hu
      obtain ⟨h, _⟩ := this
      simp at h; omega
    rw [List.getElem?_take_of_lt hj, Array.getElem?_toList] at hu
    simp [World.cell?, hg, hu]
theorem AccNew.mono {B B' n size : Nat} {e : TypeId} {w : World} {v : Value} {rows : List (List C)} (h : AccNew B e size w v n rows) (hb : B' ≤ B) : AccNew B' e size w v n rows := by
  obtain ⟨xs, fps, ⟨h0, h1⟩, h2, h3, h4, h5⟩ := h
  refine ⟨xs, fps, ⟨h0, ?_⟩, h2, h3, h4, fun x hx => ⟨Nat.le_trans hb (h5 x hx).1, (h5 x hx).2⟩⟩
  rcases h1 with h1 | ⟨g, cap, cur, e1, e2, e3⟩
  · exact .inl h1
  · exact .inr ⟨g, cap, cur, e1, Nat.le_trans hb e2, e3⟩
end Go.Proofs.Ytpckgpndaligbaa
