/-
  Free names by the reference.
-/
import Derived.Test.YtblpdpkjgbbhkaaTmFreeP
import Derived.Test.YtblpdpkjgbbhkaaAcc
import Derived.IntWalk
import Derived.Laws.Strings
import Derived.BigQuiet
import Derived.Deep.QuietTactic
namespace Go.Proofs.Ytblpdpkjgbbhkaa
open Go.RowKit
set_option linter.unusedVariables false
set_option linter.unusedSimpArgs false
set_option maxRecDepth 100000

theorem bs_toList (l : List UInt8) : (bs l).toList = l := by unfold bs; exact ByteArray.toList_mk l
theorem bs_extract (l : List UInt8) (i j : Nat) : (bs l).extract i j = bs ((l.take j).drop i) := by
  apply ByteArray.ext
  unfold bs
  rw [ByteArray.data_extract]
  apply Array.ext'
  simp [List.extract_eq_take_drop, List.drop_take]
theorem bs_append (a b : List UInt8) : bs a ++ bs b = bs (a ++ b) := by
  apply ByteArray.ext
  unfold bs
  rw [ByteArray.data_append]
  apply Array.ext'
  simp
theorem bs_one (l : List UInt8) (j : Nat) (h : j < l.length) : ((bs l).extract j (j + 1)).toList = [l[j]] := by
  rw [bs_extract, bs_toList, List.take_succ_eq_append_getElem h, List.drop_append_of_le_length (by simp; omega)]
  simp [List.drop_take]
theorem bytesLess_one (a b : UInt8) : Op.bytesLess [a] [b] = decide (a < b) := by
  simp [Op.bytesLess]
set_option maxHeartbeats 2000000 in
theorem specL2Has (l : List UInt8) (x : UInt8) (w : World) (hl : l.length ≤ 1000) :
    Calls Try.prog 107 #[.string (bs l), .string (bs [x])] w fun e w' => e = .returned (.bool (l.contains x)) ∧ Below w.heap.size w w' := by
  obtain ⟨n, hn⟩ : ∃ n, l.length = n := ⟨_, rfl⟩
  obtain ⟨s, hs⟩ : ∃ s, bs l = s := ⟨_, rfl⟩
  have hsz : s.size = n := by rw [← hs, bs_size, hn]
  obtain ⟨r, hr⟩ : ∃ r, l.contains x = r := ⟨_, rfl⟩
  have hex : ∀ j (h : j < l.length), ((s.extract j (j + 1)).toList == (bs [x]).toList) = (l[j] == x) := fun j h => by
    rw [← hs, bs_one l j h, bs_toList, Bool.eq_iff_iff]
    simp
  rw [hs, hr]
  have HR := Lib.hid hr
  have HN := Lib.hid hn
  have HX := Lib.hid hex
  rw [hn] at hl
  clear hn hs hr hex
  go_enter Try.func107, Try.ntmps107
  go_wp2_with fail
  go_loopw [5] (fun i wr => ∃ j : Nat, j ≤ n ∧ i = .int .i64 j ∧ Hid (∀ y ∈ l.take j, (y == x) = false) ∧ Below w.heap.size w wr) (fun i _ => n - (intOf i).toNat)
  case atStart => exact ⟨0, by omega, rfl, by simp [Hid], Below.refl _ _⟩
  case round =>
    obtain ⟨j, hj, rfl, hR, hbw⟩ := hrel
    by_cases hlt : j < n
    · have hjt : j < l.length := by rw [HN.out]; exact hlt
      have i1 := IntWalk.i64_in ((j : Int) + 1) (by omega)
      have hx := HX.out j hjt
      have hmem : l[j] ∈ l := List.getElem_mem hjt
      obtain ⟨z, hz⟩ : ∃ z, l[j] = z := ⟨_, rfl⟩
      have htk : l.take (j + 1) = l.take j ++ [z] := by rw [List.take_succ_eq_append_getElem hjt, hz]
      rw [hz] at hx hmem
      have HTK := Lib.hid htk
      have HM := Lib.hid hmem
      clear htk hz hmem
      rcases Bool.eq_false_or_eq_true (z == x) with hzx | hzx
      · rw [hzx] at hx
        have hr : r = true := by rw [← HR.out, List.contains_iff_mem.2]; rw [← eq_of_beq hzx]; exact HM.out
        have HRT := Lib.hid hr
        clear hr hzx
        go_wp2_with fail
        go_ret
        exact ⟨ret_bool HRT.out.symm, hbw⟩
      · rw [hzx] at hx
        have HZ := Lib.hid hzx
        clear hzx
        go_wp2_with fail
        go_roundw
        case rel => exact ⟨j + 1, by omega, by go_num, fun y hy => by rw [HTK.out] at hy; rcases List.mem_append.1 hy with hy | hy; exact hR.out y hy; rw [List.mem_singleton] at hy; rw [hy]; exact HZ.out, hbw⟩
        case measure => simp [intOf]; omega
    · have hr : r = false := by
        rw [← HR.out, Bool.eq_false_iff]
        intro h
        have h1 := List.contains_iff_mem.1 h
        have h2 := hR.out x (by rw [List.take_of_length_le (by have := HN.out; omega)]; exact h1)
        simp at h2
      have HRT := Lib.hid hr
      clear hr
      go_wp2_with fail
      go_ret
      exact ⟨ret_bool HRT.out.symm, hbw⟩
set_option maxHeartbeats 4000000 in
theorem specL2Add (l : List UInt8) (x : UInt8) (w : World) (hl : l.length ≤ 1000) :
    Calls Try.prog 108 #[.string (bs l), .string (bs [x])] w fun e w' => e = .returned (.string (bs (insL x l))) ∧ Below w.heap.size w w' := by
  obtain ⟨n, hn⟩ : ∃ n, l.length = n := ⟨_, rfl⟩
  obtain ⟨s, hs⟩ : ∃ s, bs l = s := ⟨_, rfl⟩
  have hsz : s.size = n := by rw [← hs, bs_size, hn]
  have hx1 : (bs [x]).size = 1 := rfl
  obtain ⟨r, hr⟩ : ∃ r, bs (insL x l) = r := ⟨_, rfl⟩
  have hex : ∀ j (h : j < l.length), ((s.extract j (j + 1)).toList == (bs [x]).toList) = (l[j] == x) := fun j h => by
    rw [← hs, bs_one l j h, bs_toList, Bool.eq_iff_iff]
    simp
  have hls : ∀ j (h : j < l.length), Op.bytesLess (s.extract j (j + 1)).toList (bs [x]).toList = decide (l[j] < x) := fun j h => by
    rw [← hs, bs_one l j h, bs_toList, bytesLess_one]
  have hsp : ∀ j, j ≤ l.length → (∀ y ∈ l.take j, y < x) → (∀ h : j < l.length, ¬ l[j] < x) → ¬ l[j]? = some x → r = s.extract 0 j ++ bs [x] ++ s.extract j n := fun j h1 h2 h3 h4 => by
    rw [← hr, insL_split x l j h1 h2 h3, if_neg h4, ← hs, bs_extract, bs_extract, bs_append, bs_append, ← hn, List.take_length]
    simp
  have hsp2 : ∀ j, j ≤ l.length → (∀ y ∈ l.take j, y < x) → (∀ h : j < l.length, ¬ l[j] < x) → l[j]? = some x → r = s := fun j h1 h2 h3 h4 => by
    rw [← hr, insL_split x l j h1 h2 h3, if_pos h4, hs]
  rw [hs, hr]
  have HN := Lib.hid hn
  have HX := Lib.hid hex
  have HL := Lib.hid hls
  have HS1 := Lib.hid hsp
  have HS2 := Lib.hid hsp2
  rw [hn] at hl
  clear hn hs hr hex hls hsp hsp2
  go_enter Try.func108, Try.ntmps108
  go_wp2_with fail
  go_loopw [5] (fun i wr => ∃ j : Nat, j ≤ n ∧ i = .int .i64 j ∧ Hid (∀ y ∈ l.take j, y < x) ∧ Below w.heap.size w wr) (fun i _ => n - (intOf i).toNat)
  case atStart => exact ⟨0, by omega, rfl, by simp [Hid], Below.refl _ _⟩
  case round =>
    obtain ⟨j, hj, rfl, hR, hbw⟩ := hrel
    have hc1 : ∀ a b : Nat, a ≤ n → b ≤ n → ¬ (9223372036854775807 < a + 1 + b) := fun a b h1 h2 => by omega
    by_cases hlt : j < n
    · have hjt : j < l.length := by rw [HN.out]; exact hlt
      have i1 := IntWalk.i64_in ((j : Int) + 1) (by omega)
      have hx := HX.out j hjt
      have hls := HL.out j hjt
      obtain ⟨z, hz⟩ : ∃ z, l[j] = z := ⟨_, rfl⟩
      have htk : l.take (j + 1) = l.take j ++ [z] := by rw [List.take_succ_eq_append_getElem hjt, hz]
      have hg : l[j]? = some z := by rw [List.getElem?_eq_getElem hjt, hz]
      have hng : ¬ z < x → ∀ h : j < l.length, ¬ l[j] < x := fun h1 h2 => by rw [hz]; exact h1
      rw [hz] at hx hls
      have HTK := Lib.hid htk
      have HG := Lib.hid hg
      have HNG := Lib.hid hng
      clear htk hz hg hng
      by_cases hzl : z < x
      · rw [decide_eq_true hzl] at hls
        have HZ := Lib.hid hzl
        clear hzl
        go_wp2_with fail
        go_roundw
        case rel => exact ⟨j + 1, by omega, by go_num, fun y hy => by rw [HTK.out] at hy; rcases List.mem_append.1 hy with hy | hy; exact hR.out y hy; rw [List.mem_singleton] at hy; rw [hy]; exact HZ.out, hbw⟩
        case measure => simp [intOf]; omega
      · rw [decide_eq_false hzl] at hls
        rcases Bool.eq_false_or_eq_true (z == x) with hzx | hzx
        · rw [hzx] at hx
          have hres := HS2.out j (by have := HN.out; omega) hR.out (HNG.out hzl) (by rw [HG.out, eq_of_beq hzx])
          have HRES := Lib.hid hres
          clear hres hzx hzl
          go_wp2_with fail
          go_ret
          exact ⟨ret_str HRES.out.symm, hbw⟩
        · rw [hzx] at hx
          have hres := HS1.out j (by have := HN.out; omega) hR.out (HNG.out hzl) (by rw [HG.out]; intro e; simp at e; subst e; simp at hzx)
          have HRES := Lib.hid hres
          clear hres hzx hzl
          go_wp2_with fail
          go_quiet (fail)
          go_wp2_with fail
          go_ret
          exact ⟨ret_str HRES.out.symm, below_drewN hbw _⟩
    · have hjn : j = n := by omega
      have hres := HS1.out j (by have := HN.out; omega) hR.out (fun h => by have := HN.out; omega) (by rw [List.getElem?_eq_none (by have := HN.out; omega)]; simp)
      have HRES := Lib.hid hres
      clear hres
      subst hjn
      have hse : s.extract j j = ByteArray.empty := by apply ByteArray.ext; simp [ByteArray.data_extract]
      have HSE := Lib.hid hse
      clear hse
      have hend : s.extract 0 j ++ bs [x] = r := by rw [HRES.out, HSE.out]; exact (ByteArray.append_empty).symm
      have HEND := Lib.hid hend
      clear hend
      go_wp2_with fail
      go_quiet (fail)
      go_wp2_with fail
      go_ret
      exact ⟨ret_str HEND.out, below_drewN hbw _⟩
theorem Tm.shape_name {k u l : Int} {s : ByteArray} {t f : Ty} {ts : List Tm} {nt d : Int} (h : (Tm.mk k s u t f l ts).shape nt d = true) (hk : k = 1 ∨ k = 5) : ∃ x, s = bs [x] ∧ x ∈ alpha := by
  obtain ⟨-, -, -, h4, -⟩ := Tm.shape_parts h
  have h6 : Go.Proofs.Ytblpdpkjgbbhkaa.ownB k u l s t.valid t.noneB f.noneB (f.valid && t.valid && f.cons t) = true := h4
  unfold Go.Proofs.Ytblpdpkjgbbhkaa.ownB at h6
  have hk' : (k == 1 || k == 5) = true := by rcases hk with rfl | rfl <;> rfl
  rw [if_pos hk'] at h6
  exact name_bs (Bool.and_eq_true_iff.1 (Bool.and_eq_true_iff.1 (Bool.and_eq_true_iff.1 h6).1).1).1
theorem bs_eq1 (x c : UInt8) : ((bs [x]).data.toList == [c]) = (c == x) := by
  show ([x] == [c]) = (c == x)
  by_cases h : x = c
  · subst h; simp
  · have h2 : (c == x) = false := by simpa using fun e => h e.symm
    rw [h2]
    simpa using h
def FreeS (F : Nat → Prop) (t : Tm) : Prop := ∀ (d : Int) (p q : UInt8 → Bool) (y : Value) (w : World), TmRep F w t y → t.shape 14 d = true →
    Calls Try.prog 64 #[.string (bs (encL p)), y, .string (bs (encL q))] w fun e w' => e = .returned (.string (bs (encL fun c => p c || t.fr q c))) ∧ Below w.heap.size w w'
set_option maxHeartbeats 8000000 in
theorem specL2FreeStep (F : Nat → Prop) (t : Tm) (IH0 : ∀ t' ∈ t.kids, FreeS F t') : FreeS F t := by
  intro d p b0 y w hy hsh
  obtain ⟨k, nm, u, tk, ta, tn, tq, fk, fa, fn, fq, l, c, m, q, rfl⟩ := hy.shape
  obtain ⟨r1, r2, r3, r4, r5, r6, r7, r8, r9, rn, rm, rq, hty, hsr, hks⟩ := hy.parts
  cases t with | mk kk nn uu tt ff ll ts =>
  simp only [Tm.kind, Tm.name, Tm.num, Tm.type, Tm.src, Tm.label, Tm.kids] at *
  subst r1 r2 r3 r8
  obtain ⟨-, -, htop, -, hsh5⟩ := Tm.shape_parts hsh
  have IH : ∀ t' ∈ ts, ∀ (p q : UInt8 → Bool) (y : Value) (W : World), TmRep F W t' y → Calls Try.prog 64 #[.string (bs (encL p)), y, .string (bs (encL q))] W fun e W' => e = .returned (.string (bs (encL fun c => p c || t'.fr q c))) ∧ Below W.heap.size W W' :=
    fun t' ht p q y W h => IH0 t' ht (d - 1) p q y W h (Tm.shapes_mem hsh5 ht)
  clear IH0
  obtain ⟨R, hR⟩ : ∃ R, bs (encL fun c => p c || (Tm.mk k nm u tt ff l ts).fr b0 c) = R := ⟨_, rfl⟩
  rw [hR]
  unfold Tm.fr at hR
  have HN := Lib.hid r9
  have IHH := Lib.hid IH
  unfold maxLen at rq
  clear IH hy r9 r4 r5 r6 r7 rn hty hsr
  by_cases hk1 : k = 1
  · obtain ⟨x, rfl, hx⟩ := Tm.shape_name hsh (.inl hk1)
    subst hk1
    have hhas := encL_has b0 x hx
    have hfr : ∀ c, (((1 : Int) == 1 && !(b0 c) && (bs [x]).data.toList == [c]) || Tm.frs ts (if (1 : Int) == 5 then fun d => b0 d || (bs [x]).data.toList == [d] else b0) c) = ((!(b0 c) && c == x) || Tm.frs ts b0 c) := fun c => by rw [bs_eq1]; rfl
    have hR2 : bs (encL fun c => p c || ((!(b0 c) && c == x) || Tm.frs ts b0 c)) = R := by rw [← hR]; congr 2; funext c; rw [hfr c]
    have hH := fun W => specL2Has (encL b0) x W (by have := encL_len b0; omega)
    rw [hhas] at hH
    clear hR hfr hsh hhas htop hsh5
    rcases Bool.eq_false_or_eq_true (b0 x) with hb0 | hb0
    · rw [hb0] at hH
      have hR3 : bs (encL fun c => p c || Tm.frs ts b0 c) = R := by
        rw [← hR2]; congr 2; funext c
        by_cases hc : c = x
        · subst hc; rw [hb0]; simp
        · have : (c == x) = false := by simpa using hc
          rw [this, Bool.and_false, Bool.false_or]
      have HRR := Lib.hid hR3
      have HH := Lib.hid hH
      clear hR2 hR3 hH hb0
      go_enter Try.func64, Try.ntmps64
      go_wp2_with fail
      refine (HH.out _).mono ?_
      rintro e w1 ⟨rfl, hb1⟩
      have HB := Lib.hid (bstep bal1 hb1)
      have g0 : w1.cell? ⟨w.heap.size, 0, none⟩ = some (.int .i64 1) := bcell hb1 (cell_n0 0)
      have g8 : w1.cell? ⟨w.heap.size, 8, none⟩ = some (.slice c m q) := bcell hb1 (cell_n0 8)
      have lg1 := World.block_lt_of_cell? _ _ g0
      go_wp2_with fail
      go_loopw [7, 0] (fun i o wr => ∃ j : Nat, j ≤ m ∧ i = .int .i64 j ∧ (∃ P, o = .string (bs (encL P)) ∧ Hid (P = fun c => p c || Tm.frs (ts.take j) b0 c)) ∧ wr.cell? ⟨w.heap.size, 8, none⟩ = some (.slice c m q) ∧ Hid (Below w.heap.size w wr)) (fun i _ _ => m - (intOf i).toNat)
      case atStart => exact ⟨0, by omega, rfl, ⟨_, rfl, by unfold Hid; funext c; simp [Tm.frs]⟩, g8, HB.out⟩
      case round =>
        obtain ⟨j, hj, rfl, ⟨PP, rfl, hP⟩, x8, hbw⟩ := hrel
        have lx8 := World.block_lt_of_cell? _ _ x8
        by_cases hlt : j < m
        · have hjt : j < ts.length := by rw [← HN.out]; exact hlt
          obtain ⟨b, off, k0, nm0, u0, tk0, ta0, tn0, tq0, fk0, fa0, fn0, fq0, l0, a0, m0, q0, rfl, lb9, e0, e1, e2, e3, e4, e5, e6, e7, e8, ht⟩ := hks.at hbw.out hjt
          have HC := Lib.hid (IHH.out ts[j] (List.getElem_mem hjt) PP b0 _ wr ht)
          have hP2 : (fun c => PP c || ts[j].fr b0 c) = fun c => p c || Tm.frs (ts.take (j + 1)) b0 c := by funext c; rw [hP.out, Tm.frs_take_succ ts _ c j hjt, Bool.or_assoc]
          have HP2 := Lib.hid hP2
          clear ht hP hP2
          go_wp2_with fail
          refine HC.out.mono ?_
          rintro e w4 ⟨rfl, hb4⟩
          go_wp2_with fail
          go_roundw
          case rel => exact ⟨j + 1, by omega, by go_num, ⟨_, rfl, HP2.out⟩, bcell hb4 x8, bstep hbw.out hb4⟩
          case measure => simp [intOf]; omega
        · have hfin : bs (encL PP) = R := by rw [← HRR.out, hP.out, List.take_of_length_le (by have := HN.out; omega)]
          have HF := Lib.hid hfin
          clear hfin hP
          go_wp2_with fail
          go_ret
          exact ⟨ret_str HF.out, hbw.out⟩
    · rw [hb0] at hH
      have hA := fun W => specL2Add (encL p) x W (by have := encL_len p; omega)
      rw [insL_enc p x hx] at hA
      have hR3 : bs (encL fun c => (p c || c == x) || Tm.frs ts b0 c) = R := by
        rw [← hR2]; congr 2; funext c
        by_cases hc : c = x
        · subst hc; rw [hb0]; simp
        · have : (c == x) = false := by simpa using hc
          rw [this, Bool.and_false, Bool.false_or, Bool.or_false]
      have HRR := Lib.hid hR3
      have HH := Lib.hid hH
      have HA := Lib.hid hA
      clear hR2 hR3 hH hb0 hA
      go_enter Try.func64, Try.ntmps64
      go_wp2_with fail
      refine (HH.out _).mono ?_
      rintro e w2 ⟨rfl, hb2⟩
      have HB2 := Lib.hid (bstep bal1 hb2)
      have f0 : w2.cell? ⟨w.heap.size, 0, none⟩ = some (.int .i64 1) := bcell hb2 (cell_n0 0)
      have f1 : w2.cell? ⟨w.heap.size, 1, none⟩ = some (.string (bs [x])) := bcell hb2 (cell_n0 1)
      have f8 : w2.cell? ⟨w.heap.size, 8, none⟩ = some (.slice c m q) := bcell hb2 (cell_n0 8)
      have lf2 := World.block_lt_of_cell? _ _ f0
      go_wp2_with fail
      refine (HA.out _).mono ?_
      rintro e w1 ⟨rfl, hb1⟩
      have HB := Lib.hid (bstep HB2.out hb1)
      have g0 := bcell hb1 f0
      have g8 := bcell hb1 f8
      have lg1 := World.block_lt_of_cell? _ _ g0
      clear f0 f1 f8 lf2
      go_wp2_with fail
      go_loopw [7, 0] (fun i o wr => ∃ j : Nat, j ≤ m ∧ i = .int .i64 j ∧ (∃ P, o = .string (bs (encL P)) ∧ Hid (P = fun c => (fun c => p c || c == x) c || Tm.frs (ts.take j) b0 c)) ∧ wr.cell? ⟨w.heap.size, 8, none⟩ = some (.slice c m q) ∧ Hid (Below w.heap.size w wr)) (fun i _ _ => m - (intOf i).toNat)
      case atStart => exact ⟨0, by omega, rfl, ⟨_, rfl, by unfold Hid; funext c; simp [Tm.frs]⟩, g8, HB.out⟩
      case round =>
        obtain ⟨j, hj, rfl, ⟨PP, rfl, hP⟩, x8, hbw⟩ := hrel
        have lx8 := World.block_lt_of_cell? _ _ x8
        by_cases hlt : j < m
        · have hjt : j < ts.length := by rw [← HN.out]; exact hlt
          obtain ⟨b, off, k0, nm0, u0, tk0, ta0, tn0, tq0, fk0, fa0, fn0, fq0, l0, a0, m0, q0, rfl, lb9, e0, e1, e2, e3, e4, e5, e6, e7, e8, ht⟩ := hks.at hbw.out hjt
          have HC := Lib.hid (IHH.out ts[j] (List.getElem_mem hjt) PP b0 _ wr ht)
          have hP2 : (fun c => PP c || ts[j].fr b0 c) = fun c => (fun c => p c || c == x) c || Tm.frs (ts.take (j + 1)) b0 c := by funext c; rw [hP.out, Tm.frs_take_succ ts _ c j hjt, Bool.or_assoc]
          have HP2 := Lib.hid hP2
          clear ht hP hP2
          go_wp2_with fail
          refine HC.out.mono ?_
          rintro e w4 ⟨rfl, hb4⟩
          go_wp2_with fail
          go_roundw
          case rel => exact ⟨j + 1, by omega, by go_num, ⟨_, rfl, HP2.out⟩, bcell hb4 x8, bstep hbw.out hb4⟩
          case measure => simp [intOf]; omega
        · have hfin : bs (encL PP) = R := by rw [← HRR.out, hP.out, List.take_of_length_le (by have := HN.out; omega)]
          have HF := Lib.hid hfin
          clear hfin hP
          go_wp2_with fail
          go_ret
          exact ⟨ret_str HF.out, hbw.out⟩
  · by_cases hk5 : k = 5
    · obtain ⟨x, rfl, hx⟩ := Tm.shape_name hsh (.inr hk5)
      subst hk5
      have hA := fun W => specL2Add (encL b0) x W (by have := encL_len b0; omega)
      rw [insL_enc b0 x hx] at hA
      have hR3 : bs (encL fun c => p c || Tm.frs ts (fun d => b0 d || d == x) c) = R := by
        rw [← hR]; congr 2; funext c
        have he : (if (5 : Int) == 5 then fun d => b0 d || (bs [x]).data.toList == [d] else b0) = fun d => b0 d || d == x := by
          rw [if_pos (show ((5 : Int) == 5) = true from rfl)]; funext d; rw [bs_eq1]
        rw [he]; rfl
      have HRR := Lib.hid hR3
      have HA := Lib.hid hA
      clear hR hR3 hA hsh htop hsh5 hk1
      go_enter Try.func64, Try.ntmps64
      go_wp2_with fail
      refine (HA.out _).mono ?_
      rintro e w1 ⟨rfl, hb1⟩
      have HB := Lib.hid (bstep bal1 hb1)
      have g0 : w1.cell? ⟨w.heap.size, 0, none⟩ = some (.int .i64 5) := bcell hb1 (cell_n0 0)
      have g8 : w1.cell? ⟨w.heap.size, 8, none⟩ = some (.slice c m q) := bcell hb1 (cell_n0 8)
      have lg1 := World.block_lt_of_cell? _ _ g0
      go_wp2_with fail
      go_loopw [7, 0] (fun i o wr => ∃ j : Nat, j ≤ m ∧ i = .int .i64 j ∧ (∃ P, o = .string (bs (encL P)) ∧ Hid (P = fun c => p c || Tm.frs (ts.take j) (fun d => b0 d || d == x) c)) ∧ wr.cell? ⟨w.heap.size, 8, none⟩ = some (.slice c m q) ∧ Hid (Below w.heap.size w wr)) (fun i _ _ => m - (intOf i).toNat)
      case atStart => exact ⟨0, by omega, rfl, ⟨_, rfl, by unfold Hid; funext c; simp [Tm.frs]⟩, g8, HB.out⟩
      case round =>
        obtain ⟨j, hj, rfl, ⟨PP, rfl, hP⟩, x8, hbw⟩ := hrel
        have lx8 := World.block_lt_of_cell? _ _ x8
        by_cases hlt : j < m
        · have hjt : j < ts.length := by rw [← HN.out]; exact hlt
          obtain ⟨b, off, k0, nm0, u0, tk0, ta0, tn0, tq0, fk0, fa0, fn0, fq0, l0, a0, m0, q0, rfl, lb9, e0, e1, e2, e3, e4, e5, e6, e7, e8, ht⟩ := hks.at hbw.out hjt
          have HC := Lib.hid (IHH.out ts[j] (List.getElem_mem hjt) PP (fun d => b0 d || d == x) _ wr ht)
          have hP2 : (fun c => PP c || ts[j].fr (fun d => b0 d || d == x) c) = fun c => p c || Tm.frs (ts.take (j + 1)) (fun d => b0 d || d == x) c := by funext c; rw [hP.out, Tm.frs_take_succ ts _ c j hjt, Bool.or_assoc]
          have HP2 := Lib.hid hP2
          clear ht hP hP2
          go_wp2_with fail
          refine HC.out.mono ?_
          rintro e w4 ⟨rfl, hb4⟩
          go_wp2_with fail
          go_roundw
          case rel => exact ⟨j + 1, by omega, by go_num, ⟨_, rfl, HP2.out⟩, bcell hb4 x8, bstep hbw.out hb4⟩
          case measure => simp [intOf]; omega
        · have hfin : bs (encL PP) = R := by rw [← HRR.out, hP.out, List.take_of_length_le (by have := HN.out; omega)]
          have HF := Lib.hid hfin
          clear hfin hP
          go_wp2_with fail
          go_ret
          exact ⟨ret_str HF.out, hbw.out⟩
    · have k1 : (k == 1) = false := by simpa using hk1
      have k5 : (k == 5) = false := by simpa using hk5
      have hR3 : bs (encL fun c => p c || Tm.frs ts b0 c) = R := by
        rw [← hR]; congr 2; funext c
        rw [k1, k5]; rfl
      have HRR := Lib.hid hR3
      clear hR hR3 hsh htop hsh5 hk1 hk5
      go_enter Try.func64, Try.ntmps64
      go_wp2_with fail
      obtain ⟨w1, hw1⟩ : ∃ x, w.alloc (.cells #[.int .i64 k, .string nm, .int .i64 u, .int .i64 tk, .slice ta tn tq, .int .i64 fk, .slice fa fn fq, .int .i64 l, .slice c m q] 28) = x := ⟨_, rfl⟩
      have HB := Lib.hid (show Below w.heap.size w w1 from hw1 ▸ bal1)
      have g8 : w1.cell? ⟨w.heap.size, 8, none⟩ = some (.slice c m q) := hw1 ▸ cell_n0 8
      rw [hw1]
      clear hw1
      go_loopw [7, 0] (fun i o wr => ∃ j : Nat, j ≤ m ∧ i = .int .i64 j ∧ (∃ P, o = .string (bs (encL P)) ∧ Hid (P = fun c => p c || Tm.frs (ts.take j) b0 c)) ∧ wr.cell? ⟨w.heap.size, 8, none⟩ = some (.slice c m q) ∧ Hid (Below w.heap.size w wr)) (fun i _ _ => m - (intOf i).toNat)
      case atStart => exact ⟨0, by omega, rfl, ⟨_, rfl, by unfold Hid; funext c; simp [Tm.frs]⟩, g8, HB.out⟩
      case round =>
        obtain ⟨j, hj, rfl, ⟨PP, rfl, hP⟩, x8, hbw⟩ := hrel
        have lx8 := World.block_lt_of_cell? _ _ x8
        by_cases hlt : j < m
        · have hjt : j < ts.length := by rw [← HN.out]; exact hlt
          obtain ⟨b, off, k0, nm0, u0, tk0, ta0, tn0, tq0, fk0, fa0, fn0, fq0, l0, a0, m0, q0, rfl, lb9, e0, e1, e2, e3, e4, e5, e6, e7, e8, ht⟩ := hks.at hbw.out hjt
          have HC := Lib.hid (IHH.out ts[j] (List.getElem_mem hjt) PP b0 _ wr ht)
          have hP2 : (fun c => PP c || ts[j].fr b0 c) = fun c => p c || Tm.frs (ts.take (j + 1)) b0 c := by funext c; rw [hP.out, Tm.frs_take_succ ts _ c j hjt, Bool.or_assoc]
          have HP2 := Lib.hid hP2
          clear ht hP hP2
          go_wp2_with fail
          refine HC.out.mono ?_
          rintro e w4 ⟨rfl, hb4⟩
          go_wp2_with fail
          go_roundw
          case rel => exact ⟨j + 1, by omega, by go_num, ⟨_, rfl, HP2.out⟩, bcell hb4 x8, bstep hbw.out hb4⟩
          case measure => simp [intOf]; omega
        · have hfin : bs (encL PP) = R := by rw [← HRR.out, hP.out, List.take_of_length_le (by have := HN.out; omega)]
          have HF := Lib.hid hfin
          clear hfin hP
          go_wp2_with fail
          go_ret
          exact ⟨ret_str HF.out, hbw.out⟩
theorem specL2Free (F : Nat → Prop) (t : Tm) : FreeS F t :=
  specL2FreeStep F t (fun t' ht => specL2Free F t')
termination_by SizeOf.sizeOf t
decreasing_by exact Tm.kid_lt ht
end Go.Proofs.Ytblpdpkjgbbhkaa
