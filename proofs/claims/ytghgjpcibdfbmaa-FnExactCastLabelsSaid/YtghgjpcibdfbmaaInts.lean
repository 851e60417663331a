/-
  Slices of numbers: what they read as, marks.
-/
import Derived.Test.YtghgjpcibdfbmaaK0
import Derived.Test.YtghgjpcibdfbmaaK0
import Derived.IntWalk
import Derived.BigQuiet
import Derived.Deep.QuietTactic
namespace Go.Proofs.Ytghgjpcibdfbmaa
open Go.RowKit
set_option linter.unusedVariables false
set_option linter.unusedSimpArgs false
set_option maxRecDepth 100000

/-- A slice of numbers reads as a list. -/
def IntsRep (F : Nat → Prop) (w : World) (l : List Int) (y : Value) : Prop := ∃ (a : Option Addr) (cap : Nat), y = .slice a l.length cap ∧ l.length ≤ cap ∧ cap ≤ maxLen ∧
  (l = [] ∨ ∃ b off, a = some ⟨b, off, none⟩ ∧ F b ∧ b < w.heap.size ∧ ∀ i (h : i < l.length), w.cell? ⟨b, off + i, none⟩ = some (.int .i64 l[i]))
/-- A slice of numbers in memory of one's own. -/
def IntsOwn (w : World) (l : List Int) (y : Value) (fp : List Nat) : Prop := ∃ (a : Option Addr) (cap : Nat), y = .slice a l.length cap ∧ l.length ≤ cap ∧ cap ≤ maxLen ∧
  ((l = [] ∧ fp = []) ∨ ∃ b cs T, a = some ⟨b, 0, none⟩ ∧ fp = [b] ∧ w.heap[b]? = some (.cells cs T (0, 0)) ∧ ∀ i (h : i < l.length), w.cell? ⟨b, i, none⟩ = some (.int .i64 l[i]))
theorem IntsRep.move {F G : Nat → Prop} {w w' : World} {l : List Int} {y : Value} (h : IntsRep F w l y) (k : Keeps F G w w') : IntsRep G w' l y := by
  obtain ⟨a, cap, h1, h2, h3, h4⟩ := h
  refine ⟨a, cap, h1, h2, h3, ?_⟩
  rcases h4 with h4 | ⟨b, off, ha, hF, hl, hc⟩
  · exact .inl h4
  · exact .inr ⟨b, off, ha, k.sub b hF hl, Nat.lt_of_lt_of_le hl k.size, fun i hi => (World.cell?_of_block (a := ⟨b, off + i, none⟩) (k.same b hF hl)).trans (hc i hi)⟩
theorem IntsRep.below {F : Nat → Prop} {w w' : World} {l : List Int} {y : Value} (h : IntsRep F w l y) (k : Below w.heap.size w w') : IntsRep F w' l y := h.move (.below k)
theorem IntsOwn.lt {w : World} {l : List Int} {y : Value} {fp : List Nat} (h : IntsOwn w l y fp) : ∀ b ∈ fp, b < w.heap.size := by
  obtain ⟨a, cap, -, -, -, ⟨-, rfl⟩ | ⟨b, cs, T, -, rfl, hb, -⟩⟩ := h
  · simp
  · intro x hx; rw [List.mem_singleton] at hx; subst hx; exact (Array.getElem?_eq_some_iff.1 hb).1
theorem IntsOwn.ks {w : World} {l : List Int} {y : Value} {fp : List Nat} (h : IntsOwn w l y fp) : ∃ a n q, y = .slice a n q := by
  obtain ⟨a, cap, rfl, -⟩ := h
  exact ⟨a, _, cap, rfl⟩
theorem IntsOwn.moveO {w w' : World} {l : List Int} {y : Value} {fp : List Nat} (h : IntsOwn w l y fp) (k : ∀ b ∈ fp, w'.heap[b]? = w.heap[b]?) : IntsOwn w' l y fp := by
  obtain ⟨a, cap, h1, h2, h3, h4⟩ := h
  refine ⟨a, cap, h1, h2, h3, ?_⟩
  rcases h4 with h4 | ⟨b, cs, T, ha, rfl, hb, hc⟩
  · exact .inl h4
  · have e := k b (by simp)
    exact .inr ⟨b, cs, T, ha, rfl, e.trans hb, fun i hi => (World.cell?_of_block (a := ⟨b, i, none⟩) e).trans (hc i hi)⟩
theorem IntsOwn.below {w w' : World} {l : List Int} {y : Value} {fp : List Nat} (h : IntsOwn w l y fp) (k : Below w.heap.size w w') : IntsOwn w' l y fp := h.moveO fun b hb => k.block b (h.lt b hb)
theorem IntsOwn.rep {w : World} {l : List Int} {y : Value} {fp : List Nat} (h : IntsOwn w l y fp) : IntsRep (· ∈ fp) w l y := by
  have hlt := h.lt
  obtain ⟨a, cap, h1, h2, h3, h4⟩ := h
  refine ⟨a, cap, h1, h2, h3, ?_⟩
  rcases h4 with ⟨h4, -⟩ | ⟨b, cs, T, ha, rfl, hb, hc⟩
  · exact .inl h4
  · exact .inr ⟨b, 0, ha, by simp, hlt b (by simp), fun i hi => by rw [Nat.zero_add]; exact hc i hi⟩
theorem IntsOwn.chg {fp fp' : List Nat} {w w' : World} {l : List Int} {y : Value} (h : Chg fp w w') (hn : ∀ b ∈ fp', b ∉ fp) (r : IntsOwn w l y fp') : IntsOwn w' l y fp' := r.moveO fun b hb => h.block b (r.lt b hb) (hn b hb)
theorem IntsOwn.of_row {w : World} {B n : Nat} {e : TypeId} {l : List Int} {v : Value} (h : w.ownsRow B e 1 v n (l.map (Value.int .i64))) : ∃ fp, IntsOwn w l v fp ∧ fp.Nodup ∧ ∀ b ∈ fp, B ≤ b := by
  obtain ⟨hl, h⟩ := h
  have hn : l.length = n := by simpa using hl
  rcases h with ⟨rfl, rfl⟩ | ⟨g, cap, cur, rfl, hb, hg, hc1, hc2, hs, ht⟩
  · have : l = [] := List.eq_nil_of_length_eq_zero hn
    subst this
    exact ⟨[], ⟨none, 0, rfl, Nat.le_refl _, Nat.zero_le _, .inl ⟨rfl, rfl⟩⟩, List.nodup_nil, by simp⟩
  · subst hn
    refine ⟨[g], ⟨_, cap, rfl, hc1, hc2, .inr ⟨g, cur, e, rfl, rfl, hg, fun i hi => ?_⟩⟩, by simp, by simpa using hb⟩
    have h1 : (cur.toList.take (l.length * 1))[i]? = (l.map (Value.int .i64))[i]? := by rw [ht]
    rw [List.getElem?_take_of_lt (by omega), Array.getElem?_toList] at h1
    simp [World.cell?, hg, h1, hi]
theorem IntsOwn.nilv {w : World} {a : Option Addr} {q : Nat} (hq : q ≤ maxLen) : IntsOwn w [] (.slice a 0 q) [] := ⟨a, q, rfl, Nat.zero_le _, hq, .inl ⟨rfl, rfl⟩⟩
def RetInts (l : List Int) (w : World) (e : Ending) (w' : World) : Prop := ∃ v, e = .returned v ∧ (∃ fp, IntsOwn w' l v fp ∧ fp.Nodup ∧ ∀ b ∈ fp, w.heap.size ≤ b) ∧ Below w.heap.size w w'
def marksI (l : List Int) (m : Int) : List Int := (List.range l.length).map fun i : Nat => m + (i : Int)
theorem marksI_length (l : List Int) (m : Int) : (marksI l m).length = l.length := by unfold marksI; simp
theorem marksI_get (l : List Int) (m : Int) (i : Nat) (h : i < (marksI l m).length) : (marksI l m)[i] = m + (i : Int) := by
  have h1 : i < l.length := by rw [marksI_length] at h; exact h
  have h2 : (marksI l m)[i]? = some (m + (i : Int)) := by unfold marksI; simp [h1]
  rw [List.getElem?_eq_getElem h] at h2
  exact Option.some.inj h2
theorem IntsRep.at {F : Nat → Prop} {w wr : World} {l : List Int} {a : Option Addr} {n cap : Nat} (h : IntsRep F w l (.slice a n cap)) (hb : Below w.heap.size w wr) {i : Nat} (hi : i < l.length) :
    ∃ b off, a = some ⟨b, off, none⟩ ∧ b < wr.heap.size ∧ wr.cell? ⟨b, off + i, none⟩ = some (.int .i64 l[i]) := by
  obtain ⟨a', cap', he, -, -, h4⟩ := h
  simp only [Value.slice.injEq] at he
  obtain ⟨rfl, -, -⟩ := he
  rcases h4 with rfl | ⟨b, off, ha, hF, hl, hc⟩
  · simp at hi
  · exact ⟨b, off, ha, Nat.lt_of_lt_of_le hl hb.size, bcell hb (hc i hi)⟩
set_option maxHeartbeats 2000000 in
theorem eqIntS_refl (F G : Nat → Prop) (l : List Int) (ys zs : Value) (w : World) (hy : IntsRep F w l ys) (hz : IntsRep G w l zs) :
    Calls Try.prog 21 #[ys, zs] w fun e w' => e = .returned (.bool true) ∧ Below w.heap.size w w' := by
  have hy' := hy
  have hz' := hz
  obtain ⟨a, p, rfl, -, hp, -⟩ := hy
  obtain ⟨c, q, rfl, -, hq, -⟩ := hz
  unfold maxLen at hp hq
  obtain ⟨n, hn⟩ : ∃ n, l.length = n := ⟨_, rfl⟩
  have hnp : n ≤ p := by obtain ⟨_, _, he, h, -⟩ := hy'; cases he; omega
  rw [hn] at hy' hz' ⊢
  have HN := Lib.hid hn
  have HY := Lib.hid hy'
  have HZ := Lib.hid hz'
  clear hn hy' hz'
  go_enter Try.func21, Try.ntmps21
  go_wp2_with fail
  go_loopw [5] (fun i wr => ∃ j : Nat, j ≤ n ∧ i = .int .i64 j ∧ Hid (Below w.heap.size w wr)) (fun i _ => n - (intOf i).toNat)
  case atStart => exact ⟨0, by omega, rfl, Below.refl _ _⟩
  case round =>
    obtain ⟨j, hj, rfl, hbw⟩ := hrel
    by_cases hlt : j < n
    · have hjt : j < l.length := by rw [HN.out]; exact hlt
      have hlt' : (j : Int) < (n : Int) := by omega
      have hj0 : (0 : Int) ≤ (j : Int) := by omega
      obtain ⟨b, off, rfl, l0, e0⟩ := HY.out.at hbw.out hjt
      obtain ⟨b', off', rfl, l0', e0'⟩ := HZ.out.at hbw.out hjt
      generalize l[j] = x at e0 e0'
      go_wp2_with fail
      go_quiet (fail)
      go_wp2_with fail
      go_roundw
      case rel => exact ⟨j + 1, by omega, by go_num, below_drewN hbw.out _⟩
      case measure => simp [intOf]; omega
    · go_wp2_with fail
      go_ret
      exact ⟨rfl, hbw.out⟩
set_option maxHeartbeats 2000000 in
theorem markIntS_any (l : List Int) (m : Int) (y : Value) (fp : List Nat) (w : World) (hown : IntsOwn w l y fp) (hnd : fp.Nodup) (hm0 : 0 ≤ m) (hmb : m + (l.length : Nat) ≤ 1099511627776) :
    Calls Try.prog 24 #[y, .int .i64 m] w fun e w' => e = .returned (.int .i64 (m + (l.length : Nat))) ∧ IntsOwn w' (marksI l m) y fp ∧ Chg fp w w' := by
  obtain ⟨a, cap, rfl, h1, h2, h3⟩ := hown
  obtain ⟨n, hn⟩ : ∃ n, l.length = n := ⟨_, rfl⟩
  have HN := Lib.hid hn
  unfold maxLen at h2
  rw [hn] at h1 hmb ⊢
  rcases h3 with ⟨rfl, rfl⟩ | ⟨b, cs, T, rfl, rfl, hb, hc⟩
  · obtain rfl : n = 0 := by simpa using hn.symm
    clear hn
    go_enter Try.func24, Try.ntmps24
    go_wp2_with fail
    go_loopw [5, 1] (fun i p wr => i = .int .i64 0 ∧ p = .int .i64 m ∧ w = wr) (fun _ _ _ => 0)
    case atStart => exact ⟨rfl, rfl, rfl⟩
    case round =>
      obtain ⟨rfl, rfl, rfl⟩ := hrel
      go_wp2_with fail
      go_ret
      exact ⟨ret_int (by simp), ⟨a, cap, rfl, Nat.zero_le _, by unfold maxLen; omega, .inl ⟨rfl, rfl⟩⟩, Chg.refl _ _⟩
  · have HC := Lib.hid hc
    have HB := Lib.hid hb
    clear hn hc hb hnd
    go_enter Try.func24, Try.ntmps24
    go_wp2_with fail
    go_loopw [5, 1] (fun i p wr => ∃ j : Nat, j ≤ n ∧ i = .int .i64 j ∧ p = .int .i64 (m + (j : Int)) ∧ Hid (∃ cs' T', wr.heap[b]? = some (.cells cs' T' (0, 0))) ∧ Hid (∀ i (h : i < l.length), wr.cell? ⟨b, i, none⟩ = some (.int .i64 (if i < j then m + (i : Int) else l[i]))) ∧ Hid (Chg [b] w wr)) (fun i _ _ => n - (intOf i).toNat)
    case atStart => exact ⟨0, by omega, rfl, by simp, ⟨cs, T, HB.out⟩, fun i h => by rw [if_neg (by omega)]; exact HC.out i h, Chg.refl _ _⟩
    case round =>
      obtain ⟨j, hj, rfl, rfl, hB, hcl, hch⟩ := hrel
      by_cases hlt : j < n
      · have hjt : j < l.length := by rw [HN.out]; exact hlt
        have hlt' : (j : Int) < (n : Int) := by omega
        have e0 := hcl.out j hjt
        rw [if_neg (by omega)] at e0
        obtain ⟨cs', T', hb'⟩ := hB.out
        have f0 : wr.frozen? ⟨b, j, none⟩ = false := by simp [World.frozen?, hb']
        have lb := World.block_lt_of_cell? _ _ e0
        have hb2 : (wr.setCell ⟨b, j, none⟩ (.int .i64 (m + (j : Int)))).heap[b]? = some (.cells (cs'.setIfInBounds j (.int .i64 (m + (j : Int)))) T' (0, 0)) := heap_setCell_same hb'
        have HB2 := Lib.hid hb2
        have E0 := Lib.hid e0
        generalize l[j] = x at e0
        have i1 := IntWalk.i64_in (m + (j : Int) + 1) (by omega)
        clear hB hb' hb2
        go_wp2_with fail
        go_roundw
        case rel =>
          refine ⟨j + 1, by omega, by go_num, by simp only [Int.natCast_add, Int.natCast_one]; rw [Int.add_assoc], ⟨_, _, HB2.out⟩, fun i h => ?_, hch.out.setCell (by simp) _⟩
          by_cases hij : i = j
          · subst hij
            rw [sc_self E0.out, if_pos (by omega)]
          · rw [sc_far (hcl.out i h) (fun e => hij (by cases e; rfl))]
            by_cases h3 : i < j
            · rw [if_pos h3, if_pos (by omega)]
            · rw [if_neg h3, if_neg (by omega)]
        case measure => simp [intOf]; omega
      · have hjn : j = n := by omega
        subst hjn
        have HCL := hcl
        clear hcl
        go_wp2_with fail
        go_ret
        refine ⟨rfl, ⟨_, cap, by rw [marksI_length, HN.out], by rw [marksI_length, HN.out]; exact h1, by unfold maxLen; omega, .inr ⟨b, hB.out.choose, hB.out.choose_spec.choose, rfl, rfl, hB.out.choose_spec.choose_spec, fun i hi => ?_⟩⟩, hch.out⟩
        rw [marksI_get]
        rw [marksI_length] at hi
        have := HCL.out i hi
        rw [if_pos (by have := HN.out; omega)] at this
        exact this
set_option maxHeartbeats 2000000 in
theorem heldIntS_any (F : Nat → Prop) (l : List Int) (m : Int) (y : Value) (w : World) (hy : IntsRep F w (marksI l m) y) (hm0 : 0 ≤ m) (hmb : m + (l.length : Nat) ≤ 1099511627776) :
    Calls Try.prog 25 #[y, .int .i64 m] w fun e w' => e = .returned (.int .i64 (m + (l.length : Nat))) ∧ Below w.heap.size w w' := by
  have hy' := hy
  obtain ⟨a, cap, rfl, h1, h2, -⟩ := hy
  rw [marksI_length] at h1 hy' ⊢
  unfold maxLen at h2
  obtain ⟨n, hn⟩ : ∃ n, l.length = n := ⟨_, rfl⟩
  have HN := Lib.hid hn
  rw [hn] at h1 hmb hy' ⊢
  have HY := Lib.hid hy'
  clear hn hy'
  go_enter Try.func25, Try.ntmps25
  go_wp2_with fail
  go_loopw [5, 1] (fun i p wr => ∃ j : Nat, j ≤ n ∧ i = .int .i64 j ∧ p = .int .i64 (m + (j : Int)) ∧ Hid (Below w.heap.size w wr)) (fun i _ _ => n - (intOf i).toNat)
  case atStart => exact ⟨0, by omega, rfl, by simp, Below.refl _ _⟩
  case round =>
    obtain ⟨j, hj, rfl, rfl, hbw⟩ := hrel
    by_cases hlt : j < n
    · have hjt : j < (marksI l m).length := by rw [marksI_length, HN.out]; exact hlt
      have hlt' : (j : Int) < (n : Int) := by omega
      obtain ⟨b, off, rfl, l0, e0⟩ := HY.out.at hbw.out hjt
      rw [marksI_get] at e0
      have i1 := IntWalk.i64_in (m + (j : Int) + 1) (by omega)
      go_wp2_with fail
      go_roundw
      case rel => exact ⟨j + 1, by omega, by go_num, by simp only [Int.natCast_add, Int.natCast_one]; rw [Int.add_assoc], hbw.out⟩
      case measure => simp [intOf]; omega
    · have hjn : j = n := by omega
      subst hjn
      go_wp2_with fail
      go_ret
      exact ⟨rfl, hbw.out⟩
end Go.Proofs.Ytghgjpcibdfbmaa
