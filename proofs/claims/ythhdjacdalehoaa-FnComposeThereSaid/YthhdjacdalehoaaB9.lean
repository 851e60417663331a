/-
  The laws' helpers at coercions: size, copy, equality.
  Coercions that are made in place: of one kid, of two.
  Coercions as results beside a truth value; slices of two coercions.
-/
import Derived.Test.YthhdjacdalehoaaRows
import Derived.Test.YthhdjacdalehoaaB6
import Derived.Test.YthhdjacdalehoaaB1
import Derived.Handy
import Derived.Deep.RegionHeld3
import Derived.Test.YthhdjacdalehoaaB2
namespace Go.Proofs.Ythhdjacdalehoaa
open Go.RowKit
set_option linter.unusedVariables false
set_option linter.unusedSimpArgs false
set_option maxRecDepth 100000

def RetCo (t : Co) (w : World) (e : Ending) (w' : World) : Prop := ∃ v, e = .returned v ∧ CoNew w.heap.size w' t v ∧ Below w.heap.size w w'
theorem Try.infoCo : (Try.prog.info? 28).map (fun i => (i.zero, i.size, i.bytes)) = some (some (.agg #[.int .i64 0, .int .i64 0, .int .i64 0, .slice none 0 0]), 4, 48) := by kernel_rfl

end Go.Proofs.Ythhdjacdalehoaa
namespace Go.Proofs.Ythhdjacdalehoaa
open Go.RowKit
set_option linter.unusedVariables false
set_option linter.unusedSimpArgs false

theorem CosNew.nil (B : Nat) (w : World) : CosNew B w [] (.slice none 0 0) := ⟨[], COwn.sl_nil (by unfold maxLen; omega), List.nodup_nil, by simp⟩
theorem CosNew.of_row {B : Nat} {w w' : World} {t : Co} {k g l : Int} {s : Value} {T : TypeId} {f : List Nat} (h1 : SOwn w t.row [.int .i64 k, .int .i64 g, .int .i64 l, s] f) (hd : f.Nodup) (hB : ∀ b ∈ f, B ≤ b) (hBw : B ≤ w.heap.size)
    (hk : Below w.heap.size w w') (hh : w'.heap[w.heap.size]? = some (.cells #[.int .i64 k, .int .i64 g, .int .i64 l, s] T (0, 0))) : CosNew B w' [t] (.slice (some ⟨w.heap.size, 0, none⟩) 1 1) := by
  have hr : SRows w (Co.rows [t]) [.int .i64 k, .int .i64 g, .int .i64 l, s] (f ++ []) := by
    unfold Co.rows
    refine ⟨[_, _, _, _], [], f, [], rfl, rfl, h1, ?_⟩
    unfold Co.rows
    exact ⟨rfl, rfl⟩
  rw [List.append_nil] at hr
  have hlt := SRows.lt _ _ _ hr
  have hr' := hr.move _ _ _ fun b hb => hk.block b (hlt b hb)
  have ho : RowsOwn w' w.heap.size 0 (Co.rows [t]) f := hr'.rows _ _ _ 0 (fun i hi => by
    simp only [World.cell?, hh]
    simp)
  obtain ⟨fp, k1, k2, k3⟩ := COwn.sl_mk (n := 1) (cap := 1) hh (by rw [Co.rows_length]; rfl) (Nat.le_refl _) (by unfold maxLen; omega) ho
  exact ⟨fp, k1, k3 hd (fun h => by have := hlt _ h; omega), fun b hb => by rcases k2 b hb with rfl | hb; exact hBw; exact hB b hb⟩
theorem CosNew.of_rows {B : Nat} {w w' : World} {t u : Co} {k1 g1 l1 k2 g2 l2 : Int} {s1 s2 : Value} {T : TypeId} {f1 f2 : List Nat} (h1 : SOwn w t.row [.int .i64 k1, .int .i64 g1, .int .i64 l1, s1] f1) (h2 : SOwn w u.row [.int .i64 k2, .int .i64 g2, .int .i64 l2, s2] f2) (hd : (f1 ++ f2).Nodup) (hB : ∀ b ∈ f1 ++ f2, B ≤ b) (hBw : B ≤ w.heap.size)
    (hk : Below w.heap.size w w') (hh : w'.heap[w.heap.size]? = some (.cells #[.int .i64 k1, .int .i64 g1, .int .i64 l1, s1, .int .i64 k2, .int .i64 g2, .int .i64 l2, s2] T (0, 0))) : CosNew B w' [t, u] (.slice (some ⟨w.heap.size, 0, none⟩) 2 2) := by
  have hr : SRows w (Co.rows [t, u]) [.int .i64 k1, .int .i64 g1, .int .i64 l1, s1, .int .i64 k2, .int .i64 g2, .int .i64 l2, s2] (f1 ++ f2) := by
    unfold Co.rows
    refine ⟨[_, _, _, _], [_, _, _, _], f1, f2, rfl, rfl, h1, ?_⟩
    unfold Co.rows
    refine ⟨[_, _, _, _], [], f2, [], rfl, by simp, h2, ?_⟩
    unfold Co.rows
    exact ⟨rfl, rfl⟩
  have hlt := SRows.lt _ _ _ hr
  have hr' := hr.move _ _ _ fun b hb => hk.block b (hlt b hb)
  have ho : RowsOwn w' w.heap.size 0 (Co.rows [t, u]) (f1 ++ f2) := hr'.rows _ _ _ 0 (fun i hi => by
    simp only [World.cell?, hh]
    simp)
  obtain ⟨fp, k1, k2, k3⟩ := COwn.sl_mk (n := 2) (cap := 2) hh (by rw [Co.rows_length]; rfl) (Nat.le_refl _) (by unfold maxLen; omega) ho
  exact ⟨fp, k1, k3 hd (fun h => by have := hlt _ h; omega), fun b hb => by rcases k2 b hb with rfl | hb; exact hBw; exact hB b hb⟩
theorem CoNew.one {B : Nat} {w : World} {t : Co} {k g l : Int} {s : Value} {T : TypeId} (h : CoNew B w t (.agg #[.int .i64 k, .int .i64 g, .int .i64 l, s])) (hB : B ≤ w.heap.size) :
    CosNew B (w.alloc (.cells #[.int .i64 k, .int .i64 g, .int .i64 l, s] T)) [t] (.slice (some ⟨w.heap.size, 0, none⟩) 1 1) := by
  obtain ⟨f, o, d, b⟩ := h
  exact CosNew.of_row o.cells d b hB bal1 (heap_alloc_new _ _)
/-- Two coercions of one's own, from block B on, no block twice. -/
def Co2New (B : Nat) (w : World) (t u : Co) (y z : Value) : Prop := ∃ f g, CoOwn w t y f ∧ CoOwn w u z g ∧ (f ++ g).Nodup ∧ ∀ b ∈ f ++ g, B ≤ b
theorem Co2New.below {B : Nat} {w w' : World} {t u : Co} {y z : Value} (h : Co2New B w t u y z) (k : Below w.heap.size w w') : Co2New B w' t u y z :=
  let ⟨f, g, h1, h2, h3, h4⟩ := h; ⟨f, g, h1.below k, h2.below k, h3, h4⟩
theorem Co2New.mk {B : Nat} {w1 w2 : World} {t u : Co} {y z : Value} (h1 : CoNew B w1 t y) (hB : B ≤ w1.heap.size) (hb : Below w1.heap.size w1 w2) (h2 : CoNew w1.heap.size w2 u z) : Co2New B w2 t u y z := by
  obtain ⟨f, o1, d1, l1⟩ := h1
  obtain ⟨g, o2, d2, l2⟩ := h2
  have hlt := o1.lt
  refine ⟨f, g, o1.below hb, o2, List.nodup_append.2 ⟨d1, d2, fun x hx y hy e => ?_⟩, fun b hb => ?_⟩
  · have h1 := hlt x hx
    have h2 := l2 y hy
    omega
  · rcases List.mem_append.1 hb with hb | hb
    · exact l1 b hb
    · exact Nat.le_trans hB (l2 b hb)
theorem Co2New.two {B : Nat} {w : World} {t u : Co} {k1 g1 l1 k2 g2 l2 : Int} {s1 s2 : Value} {T : TypeId} (h : Co2New B w t u (.agg #[.int .i64 k1, .int .i64 g1, .int .i64 l1, s1]) (.agg #[.int .i64 k2, .int .i64 g2, .int .i64 l2, s2])) (hB : B ≤ w.heap.size) :
    CosNew B (w.alloc (.cells #[.int .i64 k1, .int .i64 g1, .int .i64 l1, s1, .int .i64 k2, .int .i64 g2, .int .i64 l2, s2] T)) [t, u] (.slice (some ⟨w.heap.size, 0, none⟩) 2 2) := by
  obtain ⟨f, g, o1, o2, d, b⟩ := h
  exact CosNew.of_rows o1.cells o2.cells d b hB bal1 (heap_alloc_new _ _)
theorem CoNew.oneAt {B b : Nat} {w : World} {t : Co} {k g l : Int} {s : Value} {T : TypeId} (h : CoNew B w t (.agg #[.int .i64 k, .int .i64 g, .int .i64 l, s])) (hB : B ≤ b) (hb : w.heap.size = b) :
    CosNew B (w.alloc (.cells #[.int .i64 k, .int .i64 g, .int .i64 l, s] T)) [t] (.slice (some ⟨b, 0, none⟩) 1 1) := by subst hb; exact h.one hB
theorem Co2New.twoAt {B b : Nat} {w : World} {t u : Co} {k1 g1 l1 k2 g2 l2 : Int} {s1 s2 : Value} {T : TypeId} (h : Co2New B w t u (.agg #[.int .i64 k1, .int .i64 g1, .int .i64 l1, s1]) (.agg #[.int .i64 k2, .int .i64 g2, .int .i64 l2, s2])) (hB : B ≤ b) (hb : w.heap.size = b) :
    CosNew B (w.alloc (.cells #[.int .i64 k1, .int .i64 g1, .int .i64 l1, s1, .int .i64 k2, .int .i64 g2, .int .i64 l2, s2] T)) [t, u] (.slice (some ⟨b, 0, none⟩) 2 2) := by subst hb; exact h.two hB
theorem Co2New.setCell {B : Nat} {w : World} {t u : Co} {y z : Value} (h : Co2New B w t u y z) {p : Addr} (hp : p.block < B) (v : Value) : Co2New B (w.setCell p v) t u y z := by
  obtain ⟨f, g, ⟨s, e, h1⟩, ⟨s', e', h2⟩, h3, h4⟩ := h
  have hm : ∀ x ∈ f ++ g, x ≠ p.block := fun x hx e => by have := h4 x hx; omega
  exact ⟨f, g, ⟨s, e, COwn.move _ _ _ (fun b hb => Below.heap_setCell w p v b (hm b (by simp [hb]))) h1⟩, ⟨s', e', COwn.move _ _ _ (fun b hb => Below.heap_setCell w p v b (hm b (by simp [hb]))) h2⟩, h3, h4⟩
theorem CoNew.zero {B : Nat} {w : World} (k g l : Int) : CoNew B w (.mk k g l []) (.agg #[.int .i64 k, .int .i64 g, .int .i64 l, .slice none 0 0]) := (CosNew.nil B w).co
theorem CoRep.all {F : Nat → Prop} {w : World} {t : Co} {y : Value} (h : CoRep F w t y) : CoRep (fun _ => True) w t y := h.move (.weaken fun _ _ _ => trivial)
end Go.Proofs.Ythhdjacdalehoaa
namespace Go.Proofs.Ythhdjacdalehoaa
open Go.RowKit
set_option linter.unusedVariables false
set_option linter.unusedSimpArgs false
set_option maxRecDepth 100000

def RetCoB (t : Co) (b : Bool) (w : World) (e : Ending) (w' : World) : Prop := ∃ v, e = .returned (.tuple #[v, .bool b]) ∧ CoNew w.heap.size w' t v ∧ Below w.heap.size w w'
theorem specId (k : Int) (w : World) : Calls Try.prog 60 #[.int .i64 k] w (RetCo (.mk 1 k 0 []) w) := by
  go_enter Try.func60, Try.ntmps60
  go_wp2_with fail
  refine bodyPost_ret (v := .agg #[.int .i64 1, .int .i64 k, .int .i64 0, .slice none 0 0]) (by simp [results, Try.results60, go_sem]) rfl ?_
  exact ⟨_, rfl, CoNew.mono (CoNew.zero _ _ _) (Nat.le_refl _), bal1⟩
theorem CosRep.two {F : Nat → Prop} {w : World} {c0 c1 : Co} {a : Option Addr} {n q : Nat} (h : CosRep F w [c0, c1] (.slice a n q)) :
    ∃ b off k0 g0 l0 a0 n0 q0 k1 g1 l1 a1 n1 q1, a = some ⟨b, off, none⟩ ∧ n = 2 ∧ w.cell? ⟨b, off, none⟩ = some (.int .i64 k0) ∧ w.cell? ⟨b, off + 1, none⟩ = some (.int .i64 g0) ∧ w.cell? ⟨b, off + 2, none⟩ = some (.int .i64 l0) ∧ w.cell? ⟨b, off + 3, none⟩ = some (.slice a0 n0 q0) ∧ w.cell? ⟨b, off + 4, none⟩ = some (.int .i64 k1) ∧ w.cell? ⟨b, off + 5, none⟩ = some (.int .i64 g1) ∧ w.cell? ⟨b, off + 6, none⟩ = some (.int .i64 l1) ∧ w.cell? ⟨b, off + 7, none⟩ = some (.slice a1 n1 q1) ∧ CoRep F w c0 (.agg #[.int .i64 k0, .int .i64 g0, .int .i64 l0, .slice a0 n0 q0]) ∧ CoRep F w c1 (.agg #[.int .i64 k1, .int .i64 g1, .int .i64 l1, .slice a1 n1 q1]) := by
  obtain ⟨a', q', he, -, -, -⟩ := h.open
  simp only [Value.slice.injEq] at he
  obtain ⟨-, rfl, -⟩ := he
  obtain ⟨b, off, k0, g0, l0, a0, n0, q0, rfl, lb, e0, e1, e2, e3, h0⟩ := h.at (Below.refl _ _) (i := 0) (by simp)
  obtain ⟨b', off', k1, g1, l1, a1, n1, q1, he, lb', d0, d1, d2, d3, h1⟩ := h.at (Below.refl _ _) (i := 1) (by simp)
  simp only [Option.some.injEq, Addr.mk.injEq, and_true] at he
  obtain ⟨rfl, rfl⟩ := he
  simp only [Nat.zero_mul, Nat.add_zero] at e0 e1 e2 e3
  exact ⟨b, off, k0, g0, l0, a0, n0, q0, k1, g1, l1, a1, n1, q1, rfl, rfl, e0, e1, e2, e3, by simpa [Nat.add_assoc] using d0, by simpa [Nat.add_assoc] using d1, by simpa [Nat.add_assoc] using d2, by simpa [Nat.add_assoc] using d3, h0, h1⟩
end Go.Proofs.Ythhdjacdalehoaa
