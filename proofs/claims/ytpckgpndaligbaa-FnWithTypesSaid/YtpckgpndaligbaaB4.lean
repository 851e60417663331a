/-
  The reference's source of numbers: what a draw leaves. Only bounds are said of what is drawn.
  An argument of type []byte reads as a slice of bytes.
  Terms as trees.
-/
import Derived.Test.YtpckgpndaligbaaB2
import Derived.Test.YtpckgpndaligbaaB3
import Derived.Laws.Bits64
import Derived.IntWalk
import Derived.Deep.QuietTactic
import Derived.BigQuiet
import Derived.Test.YtpckgpndaligbaaB0
namespace Go.Proofs.Ytpckgpndaligbaa
open Go.RowKit
set_option linter.unusedVariables false
set_option linter.unusedSimpArgs false
set_option maxRecDepth 100000

theorem xor_bd (a b : Int) (h1 : 0 ≤ a) (h2 : a < 9223372036854775808) (h3 : 0 ≤ b) (h4 : b < 9223372036854775808) : 0 ≤ bits .xor .i64 a b ∧ bits .xor .i64 a b < 9223372036854775808 := by
  obtain ⟨A, rfl⟩ := Int.eq_ofNat_of_zero_le h1
  obtain ⟨B, rfl⟩ := Int.eq_ofNat_of_zero_le h3
  have hx : A ^^^ B < 2 ^ 63 := Nat.xor_lt_two_pow (by omega) (by omega)
  have e1 : (BitVec.ofInt 64 (A : Int)).toNat = A := by
    rw [BitVec.ofInt_natCast, BitVec.toNat_ofNat]; exact Nat.mod_eq_of_lt (by omega)
  have e2 : (BitVec.ofInt 64 (B : Int)).toNat = B := by
    rw [BitVec.ofInt_natCast, BitVec.toNat_ofNat]; exact Nat.mod_eq_of_lt (by omega)
  have e : bits .xor .i64 (A : Int) (B : Int) = ((A ^^^ B : Nat) : Int) := by
    show IntKind.i64.wrap ((BitVec.ofInt 64 (A : Int) ^^^ BitVec.ofInt 64 (B : Int)).toNat : Int) = _
    rw [BitVec.toNat_xor, e1, e2]
    simp [IntKind.wrap, IntKind.bits, IntKind.signed]
    omega
  rw [e]
  omega

/-- A slice of bytes that lies below block r. -/
def ByRep (w : World) (r : Nat) (v : Value) : Prop := ∃ a n cap, v = .slice a n cap ∧ n ≤ cap ∧ cap ≤ maxLen ∧
  ∀ i, i < n → ∃ b off c, a = some ⟨b, off, none⟩ ∧ b < r ∧ b < w.heap.size ∧ w.cell? ⟨b, off + i, none⟩ = some (.int .u8 c) ∧ 0 ≤ c ∧ c < 256
theorem ByRep.keep {w w' : World} {r : Nat} {v : Value} (h : ByRep w r v) (hs : w.heap.size ≤ w'.heap.size) (k : ∀ b, b < w.heap.size → b < r → w'.heap[b]? = w.heap[b]?) : ByRep w' r v := by
  obtain ⟨a, n, cap, h1, h2, h3, h4⟩ := h
  refine ⟨a, n, cap, h1, h2, h3, fun i hi => ?_⟩
  obtain ⟨b, off, c, e, hb, hl, hc, c1, c2⟩ := h4 i hi
  exact ⟨b, off, c, e, hb, Nat.lt_of_lt_of_le hl hs, (World.cell?_of_block (a := ⟨b, off + i, none⟩) (k b hl hb)).trans hc, c1, c2⟩
/-- The source of numbers at block r: p numbers have been drawn. -/
def RdAt (w : World) (r p : Nat) : Prop := r < w.heap.size ∧ ∃ s, w.cell? ⟨r, 0, none⟩ = some s ∧ ByRep w r s ∧ w.cell? ⟨r, 1, none⟩ = some (.int .i64 (p : Int)) ∧ w.frozen? ⟨r, 1, none⟩ = false
theorem RdAt.below {w w' : World} {r p : Nat} (h : RdAt w r p) (k : Below w.heap.size w w') : RdAt w' r p := by
  obtain ⟨hl, s, h1, h2, h3, h4⟩ := h
  exact ⟨Nat.lt_of_lt_of_le hl k.size, s, bcell k h1, h2.keep k.size (fun b hb _ => k.block b hb), bcell k h3, bfro k hl h4⟩
theorem RdAt.keep {w w' : World} {r p : Nat} (h : RdAt w r p) (hs : w.heap.size ≤ w'.heap.size) (k : ∀ b, b ≤ r → w'.heap[b]? = w.heap[b]?) : RdAt w' r p := by
  obtain ⟨hl, s, h1, h2, h3, h4⟩ := h
  exact ⟨Nat.lt_of_lt_of_le hl hs, s, (World.cell?_of_block (a := ⟨r, 0, none⟩) (k r (Nat.le_refl _))).trans h1, h2.keep hs (fun b _ hb => k b (Nat.le_of_lt hb)), (World.cell?_of_block (a := ⟨r, 1, none⟩) (k r (Nat.le_refl _))).trans h3, (World.frozen?_of_block (a := ⟨r, 1, none⟩) (k r (Nat.le_refl _))).trans h4⟩
theorem RdAt.setCell {w : World} {r p : Nat} (h : RdAt w r p) {a : Addr} (ha : r < a.block) (v : Value) : RdAt (w.setCell a v) r p :=
  h.keep (by simp [World.setCell]) (fun b hb => Below.heap_setCell w a v b (by omega))

def PickPost (r p : Nat) (n : Int) (w : World) (e : Ending) (w' : World) : Prop := ∃ k : Int, e = .returned (.int .i64 k) ∧ 0 ≤ k ∧ (k < n ∨ k = 0) ∧ RdAt w' r (p + 1) ∧ Chg [r] w w'

theorem pick_end {r p : Nat} {w w1 : World} {n k : Int} {s : Value} (hl : r < w.heap.size) (h0 : w.cell? ⟨r, 0, none⟩ = some s) (hby : ByRep w r s) (h1 : w.cell? ⟨r, 1, none⟩ = some (.int .i64 (p : Int))) (hf : w.frozen? ⟨r, 1, none⟩ = false)
    (hk : 0 ≤ k) (hkn : k < n ∨ k = 0) (hw : Below w.heap.size (w.setCell ⟨r, 1, none⟩ (.int .i64 ((p : Int) + 1))) w1) : PickPost r p n w (.returned (.int .i64 k)) w1 := by
  have hs : (w.setCell ⟨r, 1, none⟩ (.int .i64 ((p : Int) + 1))).heap.size = w.heap.size := by simp [World.setCell]
  have hw' : Below (w.setCell ⟨r, 1, none⟩ (.int .i64 ((p : Int) + 1))).heap.size (w.setCell ⟨r, 1, none⟩ (.int .i64 ((p : Int) + 1))) w1 := by rw [hs]; exact hw
  have hb : ByRep (w.setCell ⟨r, 1, none⟩ (.int .i64 ((p : Int) + 1))) r s := hby.keep (by rw [hs]; exact Nat.le_refl _) (fun b _ hb => Below.heap_setCell w ⟨r, 1, none⟩ _ b (Nat.ne_of_lt hb))
  refine ⟨k, rfl, hk, hkn, RdAt.below ⟨by rw [hs]; exact hl, s, sc_far h0 (by simp), hb, by have := sc_self (v := .int .i64 ((p : Int) + 1)) h1; rw [this]; simp, sfro hf⟩ hw', ?_⟩
  exact ((Chg.refl _ _).setCell (p := ⟨r, 1, none⟩) (by simp) _).trans (Chg.of_below hw')

set_option maxHeartbeats 4000000 in
theorem specPick (r p : Nat) (n : Int) (w : World) (h : RdAt w r p) (hp : p ≤ 1125899906842624) (hn : n ≤ 1125899906842624) :
    Calls Try.prog 15 #[.pointer (some ⟨r, 0, none⟩), .int .i64 n] w (PickPost r p n w) := by
  obtain ⟨hl, s, h0, hby, h1, hf⟩ := h
  have HEND := Lib.hid (fun (k : Int) (w1 : World) => pick_end (r := r) (p := p) (w := w) (w1 := w1) (n := n) (k := k) hl h0 hby h1 hf)
  obtain ⟨a, m, cap, rfl, hm, hcap, hg⟩ := hby
  unfold maxLen at hcap
  have HG := Lib.hid hg
  clear hg
  by_cases hn1 : n < 1
  · go_enter Try.func15, Try.ntmps15
    go_wp2_with fail
    go_ret
    exact HEND.out _ _ (Int.le_refl _) (.inr rfl) (Below.refl _ _)
  · by_cases hm0 : m = 0
    · have hnb : decide (n < 1) = false := by simpa using hn1
      have hmb : ((m : Int) == 0) = true := by simp [hm0]
      clear hm0
      go_enter Try.func15, Try.ntmps15
      go_wp2_with fail
      go_ret
      exact HEND.out _ _ (Int.le_refl _) (.inr rfl) (Below.refl _ _)
    · have hm1 : 0 < m := by omega
      have hm1' : (0 : Int) < (m : Int) := by omega
      have hmb : ((m : Int) == 0) = false := by simp; omega
      have hnb : decide (n < 1) = false := by simpa using hn1
      have hn0 : (0 : Int) < n := by omega
      by_cases hpm : p < m
      · obtain ⟨b, off, c2, rfl, hbr0, hbl, hc2, c02, c12⟩ := HG.out p hpm
        have hbr : b ≠ r := Nat.ne_of_lt hbr0
        have hrb : r ≠ b := fun e => hbr e.symm
        go_enter Try.func15, Try.ntmps15
        go_wp2_with fail
        go_ret
        exact HEND.out _ _ (Int.emod_nonneg _ (by omega)) (.inl (Int.emod_lt_of_pos _ hn0)) (Below.refl _ _)
      · obtain ⟨i, hi⟩ : ∃ i, p % m = i := ⟨_, rfl⟩
        obtain ⟨j, hj⟩ : ∃ j, (p * 7 + 3) % m = j := ⟨_, rfl⟩
        obtain ⟨d, hd⟩ : ∃ d, p / m = d := ⟨_, rfl⟩
        have him : i < m := hi ▸ Nat.mod_lt _ hm1
        have hjm : j < m := hj ▸ Nat.mod_lt _ hm1
        have hdp : d ≤ p := hd ▸ Nat.div_le_self _ _
        obtain ⟨b, off, c, rfl, hbr0, hbl, hc, c0, c1⟩ := HG.out i him
        have hbr : b ≠ r := Nat.ne_of_lt hbr0
        obtain ⟨b', off', c', he, hbr', hbl', hc', c0', c1'⟩ := HG.out j hjm
        simp only [Option.some.injEq, Addr.mk.injEq, and_true] at he
        obtain ⟨rfl, rfl⟩ := he
        have t1 : ((p : Int)).tmod (m : Int) = (i : Int) := by rw [← hi, Int.tmod_eq_emod_of_nonneg (by omega)]; exact (Int.natCast_emod p m).symm
        have t4 : ((p : Int) * 7 + 3).tmod (m : Int) = (j : Int) := by rw [← hj, Int.tmod_eq_emod_of_nonneg (by omega)]; rw [Int.natCast_emod]; simp
        have t5 : ((p : Int)).tdiv (m : Int) = (d : Int) := by rw [← hd, Int.tdiv_eq_ediv_of_nonneg (by omega)]; exact (Int.natCast_ediv p m).symm
        have t2 : IntKind.i64.wrap ((p : Int) * 7) = (p : Int) * 7 := IntWalk.i64_in _ (by omega)
        have t3 : IntKind.i64.wrap ((p : Int) * 7 + 3) = (p : Int) * 7 + 3 := IntWalk.i64_in _ (by omega)
        have u1 : IntKind.i64.wrap (c * 131) = c * 131 := IntWalk.i64_in _ (by omega)
        have u2 : IntKind.i64.wrap (c' * 1117) = c' * 1117 := IntWalk.i64_in _ (by omega)
        have u3 : IntKind.i64.wrap (c * 131 + c' * 1117) = c * 131 + c' * 1117 := IntWalk.i64_in _ (by omega)
        have u4 : IntKind.i64.wrap ((p : Int) * 29) = (p : Int) * 29 := IntWalk.i64_in _ (by omega)
        have u5 : IntKind.i64.wrap (c * 131 + c' * 1117 + (p : Int) * 29) = c * 131 + c' * 1117 + (p : Int) * 29 := IntWalk.i64_in _ (by omega)
        have u6 : IntKind.i64.wrap ((d : Int) * 53) = (d : Int) * 53 := IntWalk.i64_in _ (by omega)
        have u7 : IntKind.i64.wrap (c * 131 + c' * 1117 + (p : Int) * 29 + (d : Int) * 53) = c * 131 + c' * 1117 + (p : Int) * 29 + (d : Int) * 53 := IntWalk.i64_in _ (by omega)
        clear hi hj hd
        go_enter Try.func15, Try.ntmps15
        go_wp2_with fail
        go_region_held3 (fun w' => w'.cell? ⟨r, 0, none⟩ = some (.slice (some ⟨b, off, none⟩) m cap) ∧ w'.cell? ⟨b, off + i, none⟩ = some (.int .u8 c) ∧ w'.cell? ⟨b, off + j, none⟩ = some (.int .u8 c'))
          (exact ⟨dcell (sc_far h0 (by simp)), dcell (sc_blk hc hbr), dcell (sc_blk hc' hbr)⟩)
          (fail)
        clear t1 t2 t3 t4 t5 u1 u2 u3 u4 u5 u6 u7
        obtain ⟨X, hX⟩ : ∃ X : Int, c * 131 + c' * 1117 + (p : Int) * 29 + (d : Int) * 53 = X := ⟨_, rfl⟩
        have hX0 : 0 ≤ X := by omega
        have hX1 : X < 9223372036854775808 := by omega
        obtain ⟨x0, x1⟩ := xor_bd X (X / 64) hX0 hX1 (by omega) (by omega)
        have HX := Lib.hid hX
        clear hX
        go_wp2_with fail
        go_ret
        refine HEND.out _ _ ?_ ?_ (Below.refl _ _).drew
        · rw [HX.out]
          exact Int.tmod_nonneg _ x0
        · rw [HX.out, Int.tmod_eq_emod_of_nonneg x0]
          exact .inl (Int.emod_lt_of_pos _ hn0)
end Go.Proofs.Ytpckgpndaligbaa
namespace Go.Proofs.Ytpckgpndaligbaa
open Go.RowKit Go.ChangeShapes Go.WideShapes
set_option linter.unusedVariables false
set_option linter.unusedSimpArgs false
set_option maxRecDepth 100000

theorem Try.cellsU8 : Try.prog.cellsOf 5 = 1 := by kernel_rfl
section
variable {H : Type} {enc : TypeId × Value → H} {w : World} {base : Nat} {held : Bool} {spare : Nat → Bool}
theorem by_of_trod (n : Nat) (cs : List Value) (x : DataW H × List MemPlace) (h : DataW.trod enc Try.prog w base spare held (n + 1) 22 cs = some x) :
    ∃ s, cs = [s] ∧ ByRep w w.heap.size s := by
  rcases DataW.trod_slice Try.underlying22 h with ⟨rfl, _⟩ | ⟨a, len, cap, elems, rest, n', hn, rfl, _, _, hlc, hcm, hel, he, _⟩
  · exact ⟨_, rfl, none, 0, 0, rfl, Nat.le_refl _, by unfold maxLen; omega, fun i hi => absurd hi (Nat.not_lt_zero _)⟩
  · obtain rfl : n = n' := by omega
    rw [Try.cellsU8] at he
    have get : ∀ i, i < len → ∃ k, w.cell? (a.add i) = some (.int .u8 k) ∧ 0 ≤ k ∧ k < 256 := by
      intro i hi
      have hk := he i hi
      rw [List.getElem?_eq_getElem (by omega)] at hk
      obtain ⟨cs', hc, ht⟩ := Option.bind_eq_some_iff.1 hk
      obtain ⟨k, rfl, -, hwf⟩ := DataW.trod_int Try.underlying5 ht
      obtain ⟨_, hl, g⟩ := World.cells?_some hc
      have g0 := g 0 (by omega)
      rw [Nat.mul_one, show (a.add i).add 0 = a.add i from by simp [Addr.add]] at g0
      refine ⟨k, by simpa using g0, ?_⟩
      simp [Lit.wf, IntKind.min, IntKind.max, IntKind.signed, IntKind.bits] at hwf
      omega
    refine ⟨_, rfl, some a, len, cap, rfl, hlc, hcm, fun i hi => ?_⟩
    obtain ⟨k0, h0, -, -⟩ := get 0 (by omega)
    have hs := spot_of_cell (show w.cell? a = some (.int .u8 k0) from by simpa [Addr.add] using h0)
    obtain ⟨k, h1, h2, h3⟩ := get i hi
    rw [Addr_add_off i hs] at h1
    have hb := World.block_lt_of_cell? w _ h1
    refine ⟨a.block, a.off, k, ?_, hb, hb, h1, h2, h3⟩
    cases a; simp at hs; subst hs; rfl
theorem by_of_arg {v : Value} {d : DataW H} {ps : List MemPlace} {r : Reach} {b : Nat} (hv : Value.okWide Try.prog w r b 22 v) (h : DataW.Trod enc Try.prog w base spare held 22 v d ps) : ByRep w w.heap.size v := by
  obtain ⟨fuel, hf⟩ := h
  cases fuel with
  | zero => simp [DataW.trod] at hf
  | succ n =>
    obtain ⟨s, hs, hr⟩ := by_of_trod n _ _ hf
    obtain ⟨a, m, c, rfl⟩ := okWide_slice Try.underlying22 hv
    have hvs : Value.slice a m c = s := by simpa [Value.cells] using hs
    rw [hvs]; exact hr
end
end Go.Proofs.Ytpckgpndaligbaa
namespace Go.Proofs.Ytpckgpndaligbaa
open Go.RowKit
set_option linter.unusedVariables false
set_option linter.unusedSimpArgs false
set_option maxRecDepth 100000


inductive Tm where
  | mk (kind : Int) (name : ByteArray) (num : Int) (type src : Ty) (label : Int) (kids : List Tm)

def Tm.kind : Tm → Int | .mk k _ _ _ _ _ _ => k
def Tm.name : Tm → ByteArray | .mk _ s _ _ _ _ _ => s
def Tm.num : Tm → Int | .mk _ _ u _ _ _ _ => u
def Tm.type : Tm → Ty | .mk _ _ _ t _ _ _ => t
def Tm.src : Tm → Ty | .mk _ _ _ _ t _ _ => t
def Tm.label : Tm → Int | .mk _ _ _ _ _ l _ => l
def Tm.kids : Tm → List Tm | .mk _ _ _ _ _ _ ts => ts

mutual
def Tm.row : Tm → List C
  | .mk k s u t f l ts => [.int k, .str s, .int u, .int t.kind, .sl (Ty.rows t.kids), .int f.kind, .sl (Ty.rows f.kids), .int l, .sl (Tm.rows ts)]
def Tm.rows : List Tm → List (List C)
  | [] => []
  | t :: ts => t.row :: Tm.rows ts
end
theorem Tm.rows_eq (ts : List Tm) : Tm.rows ts = ts.map Tm.row := by
  induction ts with
  | nil => rfl
  | cons t ts ih => unfold Tm.rows; rw [ih]; rfl
theorem Tm.rows_length (ts : List Tm) : (Tm.rows ts).length = ts.length := by rw [Tm.rows_eq]; simp
theorem Tm.row_length : ∀ t : Tm, t.row.length = 9 | .mk _ _ _ _ _ _ _ => by unfold Tm.row; rfl

/-- A slice of terms. -/
def TmsRep (F : Nat → Prop) (w : World) (ts : List Tm) (y : Value) : Prop := CRep F w (.sl (Tm.rows ts)) y
/-- A term by value. -/
def TmRep (F : Nat → Prop) (w : World) (t : Tm) (y : Value) : Prop := ∃ s1 s2 s, y = .agg #[.int .i64 t.kind, .string t.name, .int .i64 t.num, .int .i64 t.type.kind, s1, .int .i64 t.src.kind, s2, .int .i64 t.label, s] ∧ t.name.size ≤ maxLen ∧ TysRep F w t.type.kids s1 ∧ TysRep F w t.src.kids s2 ∧ TmsRep F w t.kids s

theorem TmsRep.move {F G : Nat → Prop} {w w' : World} {ts : List Tm} {y : Value} (h : TmsRep F w ts y) (k : Keeps F G w w') : TmsRep G w' ts y := CRep.move k _ _ h
theorem TmRep.move {F G : Nat → Prop} {w w' : World} {t : Tm} {y : Value} (h : TmRep F w t y) (k : Keeps F G w w') : TmRep G w' t y :=
  let ⟨s1, s2, s, h1, h2, h3, h4, h5⟩ := h; ⟨s1, s2, s, h1, h2, h3.move k, h4.move k, h5.move k⟩
theorem TmRep.below {F : Nat → Prop} {w w' : World} {t : Tm} {y : Value} (h : TmRep F w t y) (k : Below w.heap.size w w') : TmRep F w' t y := h.move (.below k)
theorem TmsRep.below {F : Nat → Prop} {w w' : World} {t : List Tm} {y : Value} (h : TmsRep F w t y) (k : Below w.heap.size w w') : TmsRep F w' t y := h.move (.below k)

/-- The parts of a term. -/
theorem TmRep.open {F : Nat → Prop} {w : World} {t : Tm} {y : Value} (h : TmRep F w t y) :
    ∃ ta tq fa fq c q, y = .agg #[.int .i64 t.kind, .string t.name, .int .i64 t.num, .int .i64 t.type.kind, .slice ta t.type.kids.length tq, .int .i64 t.src.kind, .slice fa t.src.kids.length fq, .int .i64 t.label, .slice c t.kids.length q] ∧ t.name.size ≤ maxLen ∧
      t.kids.length ≤ q ∧ q ≤ maxLen ∧ TyRep F w t.type (.agg #[.int .i64 t.type.kind, .slice ta t.type.kids.length tq]) ∧ TyRep F w t.src (.agg #[.int .i64 t.src.kind, .slice fa t.src.kids.length fq]) ∧ TmsRep F w t.kids (.slice c t.kids.length q) := by
  obtain ⟨s1, s2, s, rfl, hn, h1, h2, h3⟩ := h
  obtain ⟨ta, tq, rfl, -, -, -⟩ := h1.open
  obtain ⟨fa, fq, rfl, -, -, -⟩ := h2.open
  obtain ⟨c, q, rfl, h4, h5, -⟩ := CRep.rows h3
  rw [Tm.rows_length] at h4 h3 ⊢
  exact ⟨ta, tq, fa, fq, c, q, rfl, hn, h4, h5, ⟨_, rfl, h1⟩, ⟨_, rfl, h2⟩, h3⟩
theorem TmRep.shape {F : Nat → Prop} {w : World} {t : Tm} {y : Value} (h : TmRep F w t y) : ∃ k nm u tk ta tn tq fk fa fn fq l c m q, y = .agg #[.int .i64 k, .string nm, .int .i64 u, .int .i64 tk, .slice ta tn tq, .int .i64 fk, .slice fa fn fq, .int .i64 l, .slice c m q] := by
  obtain ⟨ta, tq, fa, fq, c, q, rfl, _⟩ := h.open
  exact ⟨_, _, _, _, ta, _, tq, _, fa, _, fq, _, c, _, q, rfl⟩
theorem TmsRep.shape {F : Nat → Prop} {w : World} {t : List Tm} {y : Value} (h : TmsRep F w t y) : ∃ a n q, y = .slice a n q := by
  obtain ⟨a, q, rfl, _⟩ := CRep.rows h
  exact ⟨a, _, q, rfl⟩
theorem TmsRep.open {F : Nat → Prop} {w : World} {ts : List Tm} {y : Value} (h : TmsRep F w ts y) :
    ∃ (a : Option Addr) (cap : Nat), y = .slice a ts.length cap ∧ ts.length ≤ cap ∧ cap ≤ maxLen ∧
      ∀ i (h : i < ts.length), ∃ b off k nm u tk ta tn tq fk fa fn fq l c m q, a = some ⟨b, off, none⟩ ∧ w.cell? ⟨b, off + i * 9, none⟩ = some (.int .i64 k) ∧ w.cell? ⟨b, off + i * 9 + 1, none⟩ = some (.string nm) ∧ w.cell? ⟨b, off + i * 9 + 2, none⟩ = some (.int .i64 u) ∧ w.cell? ⟨b, off + i * 9 + 3, none⟩ = some (.int .i64 tk) ∧ w.cell? ⟨b, off + i * 9 + 4, none⟩ = some (.slice ta tn tq) ∧ w.cell? ⟨b, off + i * 9 + 5, none⟩ = some (.int .i64 fk) ∧ w.cell? ⟨b, off + i * 9 + 6, none⟩ = some (.slice fa fn fq) ∧ w.cell? ⟨b, off + i * 9 + 7, none⟩ = some (.int .i64 l) ∧ w.cell? ⟨b, off + i * 9 + 8, none⟩ = some (.slice c m q) ∧ TmRep F w ts[i] (.agg #[.int .i64 k, .string nm, .int .i64 u, .int .i64 tk, .slice ta tn tq, .int .i64 fk, .slice fa fn fq, .int .i64 l, .slice c m q]) := by
  obtain ⟨a, cap, h1, h2, h3, h4⟩ := CRep.rows h
  rw [Tm.rows_length] at h1 h2
  refine ⟨a, cap, h1, h2, h3, fun i hi => ?_⟩
  rcases h4 with h4 | ⟨b, off, ha, hF, hl, hr⟩
  · rw [← Tm.rows_length, h4] at hi; exact absurd hi (Nat.not_lt_zero _)
  · have hc := hr.get (m := 9) (fun r hr => by rw [Tm.rows_eq] at hr; obtain ⟨t, _, rfl⟩ := List.mem_map.1 hr; exact t.row_length) i (by rw [Tm.rows_length]; exact hi)
    have he : (Tm.rows ts)[i]'(by rw [Tm.rows_length]; exact hi) = ts[i].row := by simp [Tm.rows_eq]
    rw [he] at hc
    obtain ⟨k, s, u, t, f, l, ks, ht⟩ : ∃ k s u t f l ks, ts[i] = Tm.mk k s u t f l ks := by cases ts[i]; exact ⟨_, _, _, _, _, _, _, rfl⟩
    rw [ht] at hc ⊢
    unfold Tm.row at hc
    unfold CellsAt at hc
    obtain ⟨⟨y0, hy0, hc0⟩, hc⟩ := hc
    unfold CellsAt at hc
    obtain ⟨⟨y1, hy1, hc1⟩, hc⟩ := hc
    unfold CellsAt at hc
    obtain ⟨⟨y2, hy2, hc2⟩, hc⟩ := hc
    unfold CellsAt at hc
    obtain ⟨⟨y3, hy3, hc3⟩, hc⟩ := hc
    unfold CellsAt at hc
    obtain ⟨⟨y4, hy4, hc4⟩, hc⟩ := hc
    unfold CellsAt at hc
    obtain ⟨⟨y5, hy5, hc5⟩, hc⟩ := hc
    unfold CellsAt at hc
    obtain ⟨⟨y6, hy6, hc6⟩, hc⟩ := hc
    unfold CellsAt at hc
    obtain ⟨⟨y7, hy7, hc7⟩, hc⟩ := hc
    unfold CellsAt at hc
    obtain ⟨⟨y8, hy8, hc8⟩, -⟩ := hc
    rw [CRep.int_eq hc0] at hy0
    obtain ⟨rfl, hsz⟩ := CRep.str_eq hc1
    rw [CRep.int_eq hc2] at hy2
    rw [CRep.int_eq hc3] at hy3
    obtain ⟨ta, tq, rfl, -⟩ := CRep.rows hc4
    rw [CRep.int_eq hc5] at hy5
    obtain ⟨fa, fq, rfl, -⟩ := CRep.rows hc6
    rw [CRep.int_eq hc7] at hy7
    obtain ⟨c, q, rfl, -⟩ := CRep.rows hc8
    exact ⟨b, off, k, s, u, t.kind, ta, _, tq, f.kind, fa, _, fq, l, c, _, q, ha, hy0, hy1, hy2, hy3, hy4, hy5, hy6, hy7, hy8, _, _, _, rfl, hsz, hc4, hc6, hc8⟩
theorem TmsRep.at {F : Nat → Prop} {w wr : World} {ts : List Tm} {a : Option Addr} {n cap : Nat} (h : TmsRep F w ts (.slice a n cap)) (hb : Below w.heap.size w wr) {i : Nat} (hi : i < ts.length) :
    ∃ b off k nm u tk ta tn tq fk fa fn fq l c m q, a = some ⟨b, off, none⟩ ∧ b < wr.heap.size ∧ wr.cell? ⟨b, off + i * 9, none⟩ = some (.int .i64 k) ∧ wr.cell? ⟨b, off + i * 9 + 1, none⟩ = some (.string nm) ∧ wr.cell? ⟨b, off + i * 9 + 2, none⟩ = some (.int .i64 u) ∧ wr.cell? ⟨b, off + i * 9 + 3, none⟩ = some (.int .i64 tk) ∧ wr.cell? ⟨b, off + i * 9 + 4, none⟩ = some (.slice ta tn tq) ∧ wr.cell? ⟨b, off + i * 9 + 5, none⟩ = some (.int .i64 fk) ∧ wr.cell? ⟨b, off + i * 9 + 6, none⟩ = some (.slice fa fn fq) ∧ wr.cell? ⟨b, off + i * 9 + 7, none⟩ = some (.int .i64 l) ∧ wr.cell? ⟨b, off + i * 9 + 8, none⟩ = some (.slice c m q) ∧ TmRep F wr ts[i] (.agg #[.int .i64 k, .string nm, .int .i64 u, .int .i64 tk, .slice ta tn tq, .int .i64 fk, .slice fa fn fq, .int .i64 l, .slice c m q]) := by
  obtain ⟨a', cap', he, _, _, hg⟩ := h.open
  simp only [Value.slice.injEq] at he
  obtain ⟨rfl, _, rfl⟩ := he
  obtain ⟨b, off, k, nm, u, tk, ta, tn, tq, fk, fa, fn, fq, l, c, m, q, ha, h0, h1, h2, h3, h4, h5, h6, h7, h8, ht⟩ := hg i hi
  have e0 := bcell hb h0
  exact ⟨b, off, k, nm, u, tk, ta, tn, tq, fk, fa, fn, fq, l, c, m, q, ha, World.block_lt_of_cell? wr _ e0, e0, bcell hb h1, bcell hb h2, bcell hb h3, bcell hb h4, bcell hb h5, bcell hb h6, bcell hb h7, bcell hb h8, ht.below hb⟩
/-- What is known of the parts of a term that is laid open. -/
theorem TmRep.parts {F : Nat → Prop} {w : World} {t : Tm} {k u tk fk l : Int} {nm : ByteArray} {ta fa c : Option Addr} {tn tq fn fq m q : Nat} (h : TmRep F w t (.agg #[.int .i64 k, .string nm, .int .i64 u, .int .i64 tk, .slice ta tn tq, .int .i64 fk, .slice fa fn fq, .int .i64 l, .slice c m q])) :
    k = t.kind ∧ nm = t.name ∧ u = t.num ∧ tk = t.type.kind ∧ tn = t.type.kids.length ∧ fk = t.src.kind ∧ fn = t.src.kids.length ∧ l = t.label ∧ m = t.kids.length ∧ nm.size ≤ maxLen ∧ m ≤ q ∧ q ≤ maxLen ∧
      TyRep F w t.type (.agg #[.int .i64 tk, .slice ta tn tq]) ∧ TyRep F w t.src (.agg #[.int .i64 fk, .slice fa fn fq]) ∧ TmsRep F w t.kids (.slice c m q) := by
  obtain ⟨ta', tq', fa', fq', c', q', he, hn, h4, h5, h6, h7, h8⟩ := h.open
  simp only [Value.agg.injEq, Array.mk.injEq, List.cons.injEq, Value.int.injEq, Value.string.injEq, Value.slice.injEq, true_and, and_true] at he
  obtain ⟨rfl, rfl, rfl, rfl, ⟨rfl, rfl, rfl⟩, rfl, ⟨rfl, rfl, rfl⟩, rfl, ⟨rfl, rfl, rfl⟩⟩ := he
  exact ⟨rfl, rfl, rfl, rfl, rfl, rfl, rfl, rfl, rfl, hn, h4, h5, h6, h7, h8⟩
theorem Tm.kid_lt {t : Tm} {x : Tm} (h : x ∈ t.kids) : SizeOf.sizeOf x < SizeOf.sizeOf t := by
  cases t with
  | mk k s u t f l ts => have := List.sizeOf_lt_of_mem h; simp only [Tm.kids] at h this; simp; omega

mutual
/-- How much a term takes from a purse. -/
def Tm.cnt : Tm → Nat
  | .mk _ s _ t f _ ts => s.size + t.cnt + f.cnt + (ts.length + Tm.cnts ts)
def Tm.cnts : List Tm → Nat
  | [] => 0
  | t :: ts => t.cnt + Tm.cnts ts
end
theorem Tm.cnts_take_succ : ∀ (ts : List Tm) (j : Nat) (h : j < ts.length), Tm.cnts (ts.take (j + 1)) = Tm.cnts (ts.take j) + ts[j].cnt
  | [], _, h => absurd h (Nat.not_lt_zero _)
  | t :: ts, 0, _ => by simp [Tm.cnts]
  | t :: ts, j + 1, h => by
    have := Tm.cnts_take_succ ts j (by simpa using h)
    simp only [List.take_succ_cons, Tm.cnts, List.getElem_cons_succ]
    omega
theorem Tm.cnts_take_le : ∀ (ts : List Tm) (j : Nat), Tm.cnts (ts.take j) ≤ Tm.cnts ts
  | [], _ => by simp
  | t :: ts, 0 => by simp [Tm.cnts]
  | t :: ts, j + 1 => by
    have := Tm.cnts_take_le ts j
    simp only [List.take_succ_cons, Tm.cnts]
    omega
theorem Tm.cnt_mem : ∀ {ts : List Tm} {t : Tm}, t ∈ ts → t.cnt ≤ Tm.cnts ts
  | u :: ts, t, h => by
    rcases List.mem_cons.1 h with rfl | h
    · simp only [Tm.cnts]; omega
    · have := Tm.cnt_mem h; simp only [Tm.cnts]; omega
theorem Tm.cnt_parts (t : Tm) : t.cnt = t.name.size + t.type.cnt + t.src.cnt + (t.kids.length + Tm.cnts t.kids) := by
  cases t with | mk k s u t f l ts => simp only [Tm.cnt, Tm.name, Tm.type, Tm.src, Tm.kids]
theorem Tm.cnt_kid {t x : Tm} (h : x ∈ t.kids) : x.cnt + t.kids.length ≤ t.cnt := by
  have h1 := Tm.cnt_mem h
  have h2 := t.cnt_parts
  omega
end Go.Proofs.Ytpckgpndaligbaa
