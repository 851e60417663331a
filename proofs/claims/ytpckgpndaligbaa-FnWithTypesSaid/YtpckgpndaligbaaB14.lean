/-
  The checks of a node of a term, joined; shapes and sizes of terms.
  Free names: plain facts.
  Free names by the reference.
  A block of cells as one fact.
-/
import Derived.Test.YtpckgpndaligbaaTmNodeS
import Derived.Test.YtpckgpndaligbaaTmNodeI1
import Derived.Test.YtpckgpndaligbaaTmNodeI2
import Derived.Test.YtpckgpndaligbaaB9
import Derived.Test.YtpckgpndaligbaaB8
import Derived.Test.YtpckgpndaligbaaB4
import Derived.Test.YtpckgpndaligbaaB3
import Derived.IntWalk
import Derived.Laws.Strings
import Derived.BigQuiet
import Derived.Deep.QuietTactic
import Derived.Test.YtpckgpndaligbaaB1
namespace Go.Proofs.Ytpckgpndaligbaa
open Go.RowKit
set_option linter.unusedVariables false
set_option linter.unusedSimpArgs false
set_option maxRecDepth 100000

mutual
def Tm.shape : Tm → Int → Int → Bool
  | .mk k s u t f l ts, nt, d => decide (1 ≤ d) && !(k == nt) && ((tops k == (ts.length : Int)) && (Tm.mk k s u t f l ts).ownB) && Tm.shapes ts nt (d - 1)
def Tm.shapes : List Tm → Int → Int → Bool
  | [], _, _ => true
  | t :: ts, nt, d => t.shape nt d && Tm.shapes ts nt d
end
mutual
def Tm.size : Tm → Int
  | .mk _ _ _ _ _ _ ts => 1 + Tm.sizes ts
def Tm.sizes : List Tm → Int
  | [] => 0
  | t :: ts => t.size + Tm.sizes ts
end
def Tm.valid (t : Tm) : Bool := t.shape 14 12 && decide (t.size ≤ 30)
def Tm.castValid (t : Tm) : Bool := t.shape 13 40 && decide (t.size ≤ 200)
theorem Tm.shapes_drop (ts : List Tm) (nt d : Int) (k : Nat) (h : k < ts.length) : Tm.shapes (ts.drop k) nt d = (ts[k].shape nt d && Tm.shapes (ts.drop (k + 1)) nt d) := by
  rw [List.drop_eq_getElem_cons h]
  conv => lhs; unfold Tm.shapes
theorem Tm.shape_parts {k u l : Int} {s : ByteArray} {t f : Ty} {ts : List Tm} {nt d : Int} (h : (Tm.mk k s u t f l ts).shape nt d = true) : 1 ≤ d ∧ ¬ k = nt ∧ tops k = (ts.length : Int) ∧ (Tm.mk k s u t f l ts).ownB = true ∧ Tm.shapes ts nt (d - 1) = true := by
  unfold Tm.shape at h
  simp only [Bool.and_eq_true, decide_eq_true_eq, Bool.not_eq_true', beq_eq_false_iff_ne, beq_iff_eq] at h
  exact ⟨h.1.1.1, h.1.1.2, h.1.2.1, h.1.2.2, h.2⟩
theorem Tm.shapes_mem {nt d : Int} : ∀ {ts : List Tm} {t : Tm}, Tm.shapes ts nt d = true → t ∈ ts → t.shape nt d = true
  | u :: ts, t, h, ht => by
    unfold Tm.shapes at h
    simp only [Bool.and_eq_true] at h
    rcases List.mem_cons.1 ht with rfl | ht
    · exact h.1
    · exact Tm.shapes_mem h.2 ht
theorem tops_le (k : Int) : tops k ≤ 3 := by unfold tops; (repeat' split) <;> omega
mutual
theorem Tm.size_pos : ∀ t : Tm, 1 ≤ t.size
  | .mk _ _ _ _ _ _ ts => by unfold Tm.size; have := Tm.sizes_pos ts; omega
theorem Tm.sizes_pos : ∀ ts : List Tm, 0 ≤ Tm.sizes ts
  | [] => by unfold Tm.sizes; omega
  | t :: ts => by unfold Tm.sizes; have := Tm.size_pos t; have := Tm.sizes_pos ts; omega
end
mutual
theorem Tm.size_shape : ∀ (t : Tm) (nt : Int) (n : Nat), t.shape nt n = true → 2 * t.size + 1 ≤ 3 ^ n
  | .mk k s u t f l ts, nt, n, h => by
    obtain ⟨h1, -, h3, -, h5⟩ := Tm.shape_parts h
    obtain ⟨m, rfl⟩ : ∃ m, n = m + 1 := ⟨n - 1, by omega⟩
    rw [show ((m + 1 : Nat) : Int) - 1 = (m : Int) from by omega] at h5
    have h6 := Tm.sizes_shape ts nt m h5
    have h7 := tops_le k
    have h8 : (1 : Int) ≤ 3 ^ m := by exact_mod_cast Nat.one_le_pow _ _ (by omega)
    unfold Tm.size
    have h9 : (3 : Int) ^ (m + 1) = 3 * 3 ^ m := by rw [Int.pow_succ]; omega
    rw [h3] at h7
    have h10 : (ts.length : Int) * 3 ^ m ≤ 3 * 3 ^ m := Int.mul_le_mul_of_nonneg_right h7 (by omega)
    have h11 : ts.length = 0 ∨ 1 ≤ ts.length := by omega
    rcases h11 with h11 | h11
    · have : ts = [] := List.eq_nil_of_length_eq_zero h11
      subst this
      simp only [Tm.sizes] at *
      omega
    · have h12 : ts.length = 1 ∨ ts.length = 2 ∨ ts.length = 3 := by omega
      rcases h12 with h12 | h12 | h12
      · rw [show (ts.length : Int) = 1 from by omega] at h6; omega
      · rw [show (ts.length : Int) = 2 from by omega] at h6; omega
      · rw [show (ts.length : Int) = 3 from by omega] at h6; omega
theorem Tm.sizes_shape : ∀ (ts : List Tm) (nt : Int) (n : Nat), Tm.shapes ts nt n = true → 2 * Tm.sizes ts + ts.length ≤ (ts.length : Int) * 3 ^ n
  | [], nt, n, h => by unfold Tm.sizes; simp
  | t :: ts, nt, n, h => by
    unfold Tm.shapes at h
    simp only [Bool.and_eq_true] at h
    have h1 := Tm.size_shape t nt n h.1
    have h2 := Tm.sizes_shape ts nt n h.2
    unfold Tm.sizes
    rw [List.length_cons, show ((ts.length + 1 : Nat) : Int) * 3 ^ n = (ts.length : Int) * 3 ^ n + 3 ^ n from by rw [Int.natCast_add, Int.add_mul]; simp]
    omega
end
theorem Tm.sizes_take_succ : ∀ (ts : List Tm) (j : Nat) (h : j < ts.length), Tm.sizes (ts.take (j + 1)) = Tm.sizes (ts.take j) + ts[j].size
  | [], _, h => absurd h (Nat.not_lt_zero _)
  | t :: ts, 0, _ => by simp [Tm.sizes]
  | t :: ts, j + 1, h => by
    have := Tm.sizes_take_succ ts j (by simpa using h)
    simp only [List.take_succ_cons, Tm.sizes, List.getElem_cons_succ]
    omega
theorem Tm.sizes_take_le : ∀ (ts : List Tm) (j : Nat), Tm.sizes (ts.take j) ≤ Tm.sizes ts
  | [], _ => by simp
  | t :: ts, 0 => by have := Tm.sizes_pos (t :: ts); simpa [Tm.sizes] using this
  | t :: ts, j + 1 => by
    have := Tm.sizes_take_le ts j
    simp only [List.take_succ_cons, Tm.sizes]
    omega
theorem Tm.size_bd {t : Tm} {nt : Int} {n : Nat} (h : t.shape nt n = true) (hn : n ≤ 40) : t.size ≤ 6078832729528464400 := by
  have h1 := Tm.size_shape t nt n h
  have h2 : (3 : Int) ^ n ≤ 3 ^ 40 := by exact_mod_cast Nat.pow_le_pow_right (by omega) hn
  have h3 : (3 : Int) ^ 40 = 12157665459056928801 := by decide
  omega

theorem implNodeOk (F : Nat → Prop) (t : Tm) (y : Value) (w : World) (hy : TmRep F w t y) :
    Calls Try.prog 46 #[y] w fun e w' => e = .returned (.bool (t.nodeB)) ∧ Below w.heap.size w w' := by
  obtain ⟨k, nm, u, tk, ta, tn, tq, fk, fa, fn, fq, l, c, m, q, rfl⟩ := hy.shape
  obtain ⟨r1, r2, r3, r4, r5, r6, r7, r8, r9, rn, rm, rq, hty, hsr, hks⟩ := hy.parts
  have h1 := fun W (h : Below w.heap.size w W) => implTypeValid F t.type _ W (hty.below h)
  have h2 := fun W (h : Below w.heap.size w W) => implIsNoType tk ta tn tq W
  have h4 := fun W (h : Below w.heap.size w W) => implIsNoType fk fa fn fq W
  have h3 := fun W (h : Below w.heap.size w W) => implConsistent F F t.src t.type _ _ W (hsr.below h) (hty.below h)
  have e1 : t.type.noneB = noneB tk tn := by unfold Ty.noneB; rw [r4, r5]
  have e2 : t.src.noneB = noneB fk fn := by unfold Ty.noneB; rw [r6, r7]
  rw [← e1] at h2
  rw [← e2] at h4
  have e : nodeB k u l nm m t.type.valid t.type.noneB t.src.noneB (t.src.valid && t.type.valid && t.src.cons t.type) = t.nodeB := by unfold Tm.nodeB Tm.ownB nodeB; rw [r1, r2, r3, r8, r9]
  rw [← e]
  rcases kinds6 k with rfl | rfl | rfl | rfl | rfl | ⟨z0, z1, z2, z3, z4⟩
  · exact implNodeOk_1 u tk fk l nm ta fa c tn tq fn fq m q w _ _ _ (t.src.valid && t.type.valid && t.src.cons t.type) (Lib.hid h1) (Lib.hid h2) (Lib.hid h4) (Lib.hid h3)
  · exact implNodeOk_2 u tk fk l nm ta fa c tn tq fn fq m q w _ _ _ (t.src.valid && t.type.valid && t.src.cons t.type) (Lib.hid h1) (Lib.hid h2) (Lib.hid h4) (Lib.hid h3)
  · exact implNodeOk_5 u tk fk l nm ta fa c tn tq fn fq m q w _ _ _ (t.src.valid && t.type.valid && t.src.cons t.type) (Lib.hid h1) (Lib.hid h2) (Lib.hid h4) (Lib.hid h3)
  · exact implNodeOk_13 u tk fk l nm ta fa c tn tq fn fq m q w _ _ _ (t.src.valid && t.type.valid && t.src.cons t.type) (Lib.hid h1) (Lib.hid h2) (Lib.hid h4) (Lib.hid h3)
  · exact implNodeOk_14 u tk fk l nm ta fa c tn tq fn fq m q w _ _ _ (t.src.valid && t.type.valid && t.src.cons t.type) (Lib.hid h1) (Lib.hid h2) (Lib.hid h4) (Lib.hid h3)
  · exact implNodeOk_k k u tk fk l nm ta fa c tn tq fn fq m q w _ _ _ (t.src.valid && t.type.valid && t.src.cons t.type) z0 z1 z2 z3 z4 (Lib.hid h1) (Lib.hid h2) (Lib.hid h4) (Lib.hid h3)
theorem specL2Own (F : Nat → Prop) (t : Tm) (y : Value) (w : World) (hy : TmRep F w t y) (hk : (t.kind == 14) = false) :
    Calls Try.prog 52 #[y] w fun e w' => e = .returned (.bool (t.ownB)) ∧ Below w.heap.size w w' := by
  obtain ⟨k, nm, u, tk, ta, tn, tq, fk, fa, fn, fq, l, c, m, q, rfl⟩ := hy.shape
  obtain ⟨r1, r2, r3, r4, r5, r6, r7, r8, r9, rn, rm, rq, hty, hsr, hks⟩ := hy.parts
  have h1 := fun W (h : Below w.heap.size w W) => specTypeValid F t.type _ W (hty.below h)
  have h2 := fun W (h : Below w.heap.size w W) => specL2None tk ta tn tq W
  have h4 := fun W (h : Below w.heap.size w W) => specL2None fk fa fn fq W
  have e1 : t.type.noneB = noneB tk tn := by unfold Ty.noneB; rw [r4, r5]
  have e2 : t.src.noneB = noneB fk fn := by unfold Ty.noneB; rw [r6, r7]
  rw [← e1] at h2
  rw [← e2] at h4
  have e : ownB k u l nm t.type.valid t.type.noneB t.src.noneB (t.src.valid && t.type.valid && t.src.cons t.type) = t.ownB := by unfold Tm.ownB; rw [r1, r2, r3, r8]
  rw [← e]
  rw [← r1] at hk
  rcases kinds6 k with rfl | rfl | rfl | rfl | rfl | ⟨z0, z1, z2, z3, z4⟩
  · exact specL2Own_1 u tk fk l nm ta fa c tn tq fn fq m q w _ _ _ (t.src.valid && t.type.valid && t.src.cons t.type) (Lib.hid h1) (Lib.hid h2) (Lib.hid h4)
  · exact specL2Own_2 u tk fk l nm ta fa c tn tq fn fq m q w _ _ _ (t.src.valid && t.type.valid && t.src.cons t.type) (Lib.hid h1) (Lib.hid h2) (Lib.hid h4)
  · exact specL2Own_5 u tk fk l nm ta fa c tn tq fn fq m q w _ _ _ (t.src.valid && t.type.valid && t.src.cons t.type) (Lib.hid h1) (Lib.hid h2) (Lib.hid h4)
  · exact specL2Own_13 u tk fk l nm ta fa c tn tq fn fq m q w _ _ _ (t.src.valid && t.type.valid && t.src.cons t.type) (Lib.hid h1) (Lib.hid h2) (Lib.hid h4)
  · exact absurd hk (by decide)
  · exact specL2Own_k k u tk fk l nm ta fa c tn tq fn fq m q w _ _ _ (t.src.valid && t.type.valid && t.src.cons t.type) z0 z1 z2 z3 z4 (Lib.hid h1) (Lib.hid h2) (Lib.hid h4)
end Go.Proofs.Ytpckgpndaligbaa
namespace Go.Proofs.Ytpckgpndaligbaa
open Go.RowKit
set_option linter.unusedVariables false
set_option linter.unusedSimpArgs false
set_option maxRecDepth 100000

def bs (l : List UInt8) : ByteArray := ⟨l.toArray⟩
theorem bs_size (l : List UInt8) : (bs l).size = l.length := by unfold bs; simp [ByteArray.size]
theorem bs_get (l : List UInt8) (i : Nat) (h : i < (bs l).size) : (bs l)[i] = l[i]'(by rw [bs_size] at h; exact h) := by unfold bs; rfl
def alpha : List UInt8 := [97, 98, 99, 100, 101, 102, 103, 104, 105, 106, 107, 108, 109, 110, 111, 112, 113, 114, 115, 116, 117, 118, 119, 120, 121, 122]
theorem alpha_mem (x : UInt8) (h1 : 97 ≤ x.toNat) (h2 : x.toNat ≤ 122) : x ∈ alpha := by
  have h : ∀ n, n < 256 → 97 ≤ n → n ≤ 122 → UInt8.ofNat n ∈ alpha := by decide +kernel
  have h3 := h x.toNat x.toNat_lt h1 h2
  rwa [UInt8.ofNat_toNat] at h3
def encL (p : UInt8 → Bool) : List UInt8 := alpha.filter p
def insL (x : UInt8) : List UInt8 → List UInt8
  | [] => [x]
  | y :: l => if y < x then y :: insL x l else if y = x then y :: l else x :: y :: l
theorem insL_filter (p : UInt8 → Bool) (x : UInt8) : ∀ (a : List UInt8), a.Pairwise (· < ·) → x ∈ a → insL x (a.filter p) = a.filter (fun c => p c || c == x)
  | [], _, h => by cases h
  | y :: a, hp, hx => by
    have hp1 := (List.pairwise_cons.1 hp).1
    have hp2 := (List.pairwise_cons.1 hp).2
    by_cases hxy : x = y
    · subst hxy
      have hna : ∀ z ∈ a, (z == x) = false := fun z hz => by
        have := hp1 z hz
        rw [beq_eq_false_iff_ne]
        intro e; subst e; exact absurd this (UInt8.lt_irrefl _)
      have hf : a.filter (fun c => p c || c == x) = a.filter p := List.filter_congr fun z hz => by rw [hna z hz, Bool.or_false]
      have h2 : insL x (a.filter p) = x :: a.filter p := by
        cases hc : a.filter p with
        | nil => rfl
        | cons z l =>
          have hz : z ∈ a := (List.mem_filter.1 (hc ▸ List.mem_cons_self ..)).1
          have hlt := hp1 z hz
          unfold insL
          rw [if_neg (fun h => UInt8.lt_irrefl _ (UInt8.lt_trans h hlt)), if_neg (fun h => by subst h; exact UInt8.lt_irrefl _ hlt)]
      by_cases hpx : p x = true
      · rw [List.filter_cons_of_pos hpx, List.filter_cons_of_pos (by simp), hf]
        unfold insL
        rw [if_neg (UInt8.lt_irrefl _), if_pos rfl]
      · rw [List.filter_cons_of_neg hpx, List.filter_cons_of_pos (by simp), hf, h2]
    · have hxa : x ∈ a := by
        rcases List.mem_cons.1 hx with h | h
        · exact absurd h hxy
        · exact h
      have hlt := hp1 x hxa
      have ih := insL_filter p x a hp2 hxa
      have hyx : (y == x) = false := by rw [beq_eq_false_iff_ne]; exact fun e => hxy e.symm
      by_cases hpy : p y = true
      · rw [List.filter_cons_of_pos hpy, List.filter_cons_of_pos (by simp [hpy])]
        unfold insL
        rw [if_pos hlt, ih]
      · rw [List.filter_cons_of_neg hpy, List.filter_cons_of_neg (by simp [hpy, hyx]), ih]
theorem insL_enc (p : UInt8 → Bool) (x : UInt8) (hx : x ∈ alpha) : insL x (encL p) = encL (fun c => p c || c == x) :=
  insL_filter p x alpha (by decide) hx
theorem insL_split (x : UInt8) : ∀ (l : List UInt8) (k : Nat) (hk : k ≤ l.length), (∀ y ∈ l.take k, y < x) → (∀ h : k < l.length, ¬ l[k] < x) → insL x l = if l[k]? = some x then l else l.take k ++ x :: l.drop k
  | [], k, hk, _, _ => by
    obtain rfl : k = 0 := by simpa using hk
    rfl
  | y :: l, 0, _, _, h2 => by
    have h3 : ¬ y < x := h2 (by simp)
    unfold insL
    rw [if_neg h3]
    by_cases h4 : y = x
    · subst h4; rw [if_pos rfl, if_pos (by simp)]
    · rw [if_neg h4, if_neg (by simpa using h4)]; rfl
  | y :: l, k + 1, hk, h1, h2 => by
    have h3 : y < x := h1 y (by simp)
    have ih := insL_split x l k (by simpa using hk) (fun z hz => h1 z (by rw [List.take_succ_cons]; exact List.mem_cons_of_mem _ hz)) (fun h => by have := h2 (by simpa using h); simpa using this)
    unfold insL
    rw [if_pos h3, ih]
    simp only [List.getElem?_cons_succ, List.take_succ_cons, List.drop_succ_cons]
    split <;> rfl
theorem encL_len (p : UInt8 → Bool) : (encL p).length ≤ 26 := List.length_filter_le _ _
theorem encL_has (p : UInt8 → Bool) (x : UInt8) (hx : x ∈ alpha) : (encL p).contains x = p x := by
  unfold encL
  rw [Bool.eq_iff_iff, List.contains_iff_mem, List.mem_filter]
  exact ⟨fun h => h.2, fun h => ⟨hx, h⟩⟩
mutual
def Tm.fr : Tm → (UInt8 → Bool) → UInt8 → Bool
  | .mk k s _ _ _ _ ts, q, c => (k == 1 && !(q c) && s.data.toList == [c]) || Tm.frs ts (if k == 5 then fun d => q d || s.data.toList == [d] else q) c
def Tm.frs : List Tm → (UInt8 → Bool) → UInt8 → Bool
  | [], _, _ => false
  | t :: ts, q, c => t.fr q c || Tm.frs ts q c
end
theorem Tm.frs_take_succ : ∀ (ts : List Tm) (q : UInt8 → Bool) (c : UInt8) (j : Nat) (h : j < ts.length), Tm.frs (ts.take (j + 1)) q c = (Tm.frs (ts.take j) q c || ts[j].fr q c)
  | [], _, _, _, h => absurd h (Nat.not_lt_zero _)
  | t :: ts, q, c, 0, _ => by simp [Tm.frs]
  | t :: ts, q, c, j + 1, h => by
    have := Tm.frs_take_succ ts q c j (by simpa using h)
    simp only [List.take_succ_cons, Tm.frs, List.getElem_cons_succ, this, Bool.or_assoc]
theorem alpha_idx {x : UInt8} (h : x ∈ alpha) : ∃ i0, i0 < 26 ∧ x = UInt8.ofNat (97 + i0) := by
  have h1 : ∀ y ∈ alpha, ∃ i0, i0 < 26 ∧ y = UInt8.ofNat (97 + i0) := by decide +kernel
  exact h1 x h
theorem name_bs {s : ByteArray} (h : nameB s = true) : ∃ x, s = bs [x] ∧ x ∈ alpha := by
  unfold nameB at h
  split at h
  · rename_i h1
    simp only [Bool.and_eq_true, decide_eq_true_eq] at h
    refine ⟨s[0]'(by omega), ?_, alpha_mem _ (by omega) (by omega)⟩
    obtain ⟨⟨l⟩⟩ := s
    match l, h1 with
    | [a], _ => rfl
  · cases h
end Go.Proofs.Ytpckgpndaligbaa
namespace Go.Proofs.Ytpckgpndaligbaa
open Go.RowKit
set_option linter.unusedVariables false
set_option linter.unusedSimpArgs false
set_option maxRecDepth 100000

theorem bs_toList (l : List UInt8) : (bs l).toList = l := by unfold bs; exact ByteArray.toList_mk l
theorem bs_extract (l : List UInt8) (i j : Nat) : (bs l).extract i j = bs ((l.take j).drop i) := by
  apply ByteArray.ext
  unfold bs
  rw [ByteArray.data_extract]
  apply Array.ext'
  simp [List.extract_eq_take_drop, List.drop_take]
theorem bs_append (a b : List UInt8) : bs a ++ bs b = bs (a ++ b) := by
  apply ByteArray.ext
  unfold bs
  rw [ByteArray.data_append]
  apply Array.ext'
  simp
theorem bs_one (l : List UInt8) (j : Nat) (h : j < l.length) : ((bs l).extract j (j + 1)).toList = [l[j]] := by
  rw [bs_extract, bs_toList, List.take_succ_eq_append_getElem h, List.drop_append_of_le_length (by simp; omega)]
  simp [List.drop_take]
theorem bytesLess_one (a b : UInt8) : Op.bytesLess [a] [b] = decide (a < b) := by
  simp [Op.bytesLess]
set_option maxHeartbeats 4000000 in
theorem specL2Add (l : List UInt8) (x : UInt8) (w : World) (hl : l.length ≤ 1000) :
    Calls Try.prog 48 #[.string (bs l), .string (bs [x])] w fun e w' => e = .returned (.string (bs (insL x l))) ∧ Below w.heap.size w w' := by
  obtain ⟨n, hn⟩ : ∃ n, l.length = n := ⟨_, rfl⟩
  obtain ⟨s, hs⟩ : ∃ s, bs l = s := ⟨_, rfl⟩
  have hsz : s.size = n := by rw [← hs, bs_size, hn]
  have hx1 : (bs [x]).size = 1 := rfl
  obtain ⟨r, hr⟩ : ∃ r, bs (insL x l) = r := ⟨_, rfl⟩
  have hex : ∀ j (h : j < l.length), ((s.extract j (j + 1)).toList == (bs [x]).toList) = (l[j] == x) := fun j h => by
    rw [← hs, bs_one l j h, bs_toList, Bool.eq_iff_iff]
    simp
  have hls : ∀ j (h : j < l.length), Op.bytesLess (s.extract j (j + 1)).toList (bs [x]).toList = decide (l[j] < x) := fun j h => by
    rw [← hs, bs_one l j h, bs_toList, bytesLess_one]
  have hsp : ∀ j, j ≤ l.length → (∀ y ∈ l.take j, y < x) → (∀ h : j < l.length, ¬ l[j] < x) → ¬ l[j]? = some x → r = s.extract 0 j ++ bs [x] ++ s.extract j n := fun j h1 h2 h3 h4 => by
    rw [← hr, insL_split x l j h1 h2 h3, if_neg h4, ← hs, bs_extract, bs_extract, bs_append, bs_append, ← hn, List.take_length]
    simp
  have hsp2 : ∀ j, j ≤ l.length → (∀ y ∈ l.take j, y < x) → (∀ h : j < l.length, ¬ l[j] < x) → l[j]? = some x → r = s := fun j h1 h2 h3 h4 => by
    rw [← hr, insL_split x l j h1 h2 h3, if_pos h4, hs]
  rw [hs, hr]
  have HN := Lib.hid hn
  have HX := Lib.hid hex
  have HL := Lib.hid hls
  have HS1 := Lib.hid hsp
  have HS2 := Lib.hid hsp2
  rw [hn] at hl
  clear hn hs hr hex hls hsp hsp2
  go_enter Try.func48, Try.ntmps48
  go_wp2_with fail
  go_loopw [5] (fun i wr => ∃ j : Nat, j ≤ n ∧ i = .int .i64 j ∧ Hid (∀ y ∈ l.take j, y < x) ∧ Below w.heap.size w wr) (fun i _ => n - (intOf i).toNat)
  case atStart => exact ⟨0, by omega, rfl, by simp [Hid], Below.refl _ _⟩
  case round =>
    obtain ⟨j, hj, rfl, hR, hbw⟩ := hrel
    have hc1 : ∀ a b : Nat, a ≤ n → b ≤ n → ¬ (9223372036854775807 < a + 1 + b) := fun a b h1 h2 => by omega
    by_cases hlt : j < n
    · have hjt : j < l.length := by rw [HN.out]; exact hlt
      have i1 := IntWalk.i64_in ((j : Int) + 1) (by omega)
      have hx := HX.out j hjt
      have hls := HL.out j hjt
      obtain ⟨z, hz⟩ : ∃ z, l[j] = z := ⟨_, rfl⟩
      have htk : l.take (j + 1) = l.take j ++ [z] := by rw [List.take_succ_eq_append_getElem hjt, hz]
      have hg : l[j]? = some z := by rw [List.getElem?_eq_getElem hjt, hz]
      have hng : ¬ z < x → ∀ h : j < l.length, ¬ l[j] < x := fun h1 h2 => by rw [hz]; exact h1
      rw [hz] at hx hls
      have HTK := Lib.hid htk
      have HG := Lib.hid hg
      have HNG := Lib.hid hng
      clear htk hz hg hng
      by_cases hzl : z < x
      · rw [decide_eq_true hzl] at hls
        have HZ := Lib.hid hzl
        clear hzl
        go_wp2_with fail
        go_roundw
        case rel => exact ⟨j + 1, by omega, by go_num, fun y hy => by rw [HTK.out] at hy; rcases List.mem_append.1 hy with hy | hy; exact hR.out y hy; rw [List.mem_singleton] at hy; rw [hy]; exact HZ.out, hbw⟩
        case measure => simp [intOf]; omega
      · rw [decide_eq_false hzl] at hls
        rcases Bool.eq_false_or_eq_true (z == x) with hzx | hzx
        · rw [hzx] at hx
          have hres := HS2.out j (by have := HN.out; omega) hR.out (HNG.out hzl) (by rw [HG.out, eq_of_beq hzx])
          have HRES := Lib.hid hres
          clear hres hzx hzl
          go_wp2_with fail
          go_ret
          exact ⟨ret_str HRES.out.symm, hbw⟩
        · rw [hzx] at hx
          have hres := HS1.out j (by have := HN.out; omega) hR.out (HNG.out hzl) (by rw [HG.out]; intro e; simp at e; subst e; simp at hzx)
          have HRES := Lib.hid hres
          clear hres hzx hzl
          go_wp2_with fail
          go_quiet (fail)
          go_wp2_with fail
          go_ret
          exact ⟨ret_str HRES.out.symm, below_drewN hbw _⟩
    · have hjn : j = n := by omega
      have hres := HS1.out j (by have := HN.out; omega) hR.out (fun h => by have := HN.out; omega) (by rw [List.getElem?_eq_none (by have := HN.out; omega)]; simp)
      have HRES := Lib.hid hres
      clear hres
      subst hjn
      have hse : s.extract j j = ByteArray.empty := by apply ByteArray.ext; simp [ByteArray.data_extract]
      have HSE := Lib.hid hse
      clear hse
      have hend : s.extract 0 j ++ bs [x] = r := by rw [HRES.out, HSE.out]; exact (ByteArray.append_empty).symm
      have HEND := Lib.hid hend
      clear hend
      go_wp2_with fail
      go_quiet (fail)
      go_wp2_with fail
      go_ret
      exact ⟨ret_str HEND.out, below_drewN hbw _⟩
theorem Tm.shape_name {k u l : Int} {s : ByteArray} {t f : Ty} {ts : List Tm} {nt d : Int} (h : (Tm.mk k s u t f l ts).shape nt d = true) (hk : k = 1 ∨ k = 5) : ∃ x, s = bs [x] ∧ x ∈ alpha := by
  obtain ⟨-, -, -, h4, -⟩ := Tm.shape_parts h
  have h6 : Go.Proofs.Ytpckgpndaligbaa.ownB k u l s t.valid t.noneB f.noneB (f.valid && t.valid && f.cons t) = true := h4
  unfold Go.Proofs.Ytpckgpndaligbaa.ownB at h6
  have hk' : (k == 1 || k == 5) = true := by rcases hk with rfl | rfl <;> rfl
  rw [if_pos hk'] at h6
  exact name_bs (Bool.and_eq_true_iff.1 (Bool.and_eq_true_iff.1 (Bool.and_eq_true_iff.1 h6).1).1).1
theorem bs_eq1 (x c : UInt8) : ((bs [x]).data.toList == [c]) = (c == x) := by
  show ([x] == [c]) = (c == x)
  by_cases h : x = c
  · subst h; simp
  · have h2 : (c == x) = false := by simpa using fun e => h e.symm
    rw [h2]
    simpa using h
end Go.Proofs.Ytpckgpndaligbaa
namespace Go.Proofs.Ytpckgpndaligbaa
open Go.RowKit
set_option linter.unusedVariables false
set_option linter.unusedSimpArgs false

theorem blk_cell {w : World} {b o : Nat} {cs : Array Value} {T : TypeId} {fr : Nat × Nat} {v : Value} (h : w.heap[b]? = some (.cells cs T fr)) (hv : cs[o]? = some v) : w.cell? ⟨b, o, none⟩ = some v := by
  simp only [World.cell?, h]
  simpa using hv
theorem blk_fro {w : World} {b : Nat} {cs : Array Value} {T : TypeId} (h : w.heap[b]? = some (.cells cs T (0, 0))) (o : Nat) : w.frozen? ⟨b, o, none⟩ = false := by
  simp [World.frozen?, h]
theorem blk_lt {w : World} {b : Nat} {x : Obj} (h : w.heap[b]? = some x) : b < w.heap.size := (Array.getElem?_eq_some_iff.1 h).1
theorem blk_new {w : World} {b : Nat} {o : Obj} (hb : w.heap.size = b) : (w.alloc o).heap[b]? = some o := by subst hb; exact heap_alloc_new w o
theorem blk_below {w w' : World} {b : Nat} {x : Obj} (h : w.heap[b]? = some x) (k : Below w.heap.size w w') : w'.heap[b]? = some x := (k.block b (blk_lt h)).trans h
theorem blk_chg {r : Nat} {w w' : World} {b : Nat} {x : Obj} (h : w.heap[b]? = some x) (k : Chg [r] w w') (hn : b ≠ r) : w'.heap[b]? = some x := (k.block b (blk_lt h) (by simpa using hn)).trans h
theorem blk_ne {w : World} {b : Nat} {x : Obj} {p : Addr} {v : Value} (h : w.heap[b]? = some x) (hn : b ≠ p.block) : (w.setCell p v).heap[b]? = some x := (Below.heap_setCell w p v b hn).trans h
theorem blk_set {w : World} {b o : Nat} {cs cs' : Array Value} {T : TypeId} {fr : Nat × Nat} {v : Value} (h : w.heap[b]? = some (.cells cs T fr)) (e : cs.setIfInBounds o v = cs') : (w.setCell ⟨b, o, none⟩ v).heap[b]? = some (.cells cs' T fr) := by
  subst e; exact heap_setCell_same h
end Go.Proofs.Ytpckgpndaligbaa
