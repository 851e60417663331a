/-
  Consistency and precision of types: implConsistent0, specL1Consistent.
  Consistency and precision of types: implConsistent.
  What makes a node of a term.
-/
import Derived.Test.YtkhmkohgnikcmaaB9
import Derived.Test.YtkhmkohgnikcmaaB2
import Derived.Test.YtkhmkohgnikcmaaTmOps
import Derived.Test.YtkhmkohgnikcmaaB0
namespace Go.Proofs.Ytkhmkohgnikcmaa
open Go.RowKit
set_option linter.unusedVariables false
set_option linter.unusedSimpArgs false
set_option maxRecDepth 100000

mutual
def Ty.cons : Ty → Ty → Bool
  | .mk k ts, .mk l us => k == 1 || l == 1 || (k == l && Ty.conss ts us)
def Ty.conss : List Ty → List Ty → Bool
  | [], [] => true
  | t :: ts, u :: us => t.cons u && Ty.conss ts us
  | _, _ => false
end
theorem Ty.conss_all2 : ∀ ts us : List Ty, all2 Ty.cons ts us = Ty.conss ts us
  | [], [] => by unfold Ty.conss; rfl
  | [], _ :: _ => by unfold Ty.conss; rfl
  | _ :: _, [] => by unfold Ty.conss; rfl
  | t :: ts, u :: us => by unfold Ty.conss all2; rw [Ty.conss_all2 ts us]
set_option maxHeartbeats 1000000 in
theorem implConsistent0 (F G : Nat → Prop) (t : Ty) : ∀ (u : Ty) (y z : Value) (w : World), TyRep F w t y → TyRep G w u z →
    Calls Try.prog 58 #[y, z] w fun e w' => e = .returned (.bool (t.cons u)) ∧ Below w.heap.size w w' := by
  intro u y z w hy hz
  have IH : ∀ t' ∈ t.kids, ∀ u' ∈ u.kids, ∀ (W : World) (y z : Value), TyRep F W t' y → TyRep G W u' z → Calls Try.prog 58 #[y, z] W fun e W' => e = .returned (.bool (t'.cons u')) ∧ Below W.heap.size W W' :=
    fun t' ht u' _ W y z a b => implConsistent0 F G t' u' y z W a b
  obtain ⟨a, cap, rfl, h2, h3, h4⟩ := hy.open
  obtain ⟨c, cap', rfl, g2, g3, g4⟩ := hz.open
  clear hy hz
  cases t with | mk k ts => cases u with | mk l us =>
  simp only [Ty.kind, Ty.kids] at *
  have HC := fun W (h : Below w.heap.size w W) => equalFunc_Ty _ _ F G ts us _ _ W (h4.below h) (g4.below h) Try.call58 IH
  generalize ts.length = n at *
  generalize us.length = m at *
  unfold Ty.cons
  by_cases hk1 : k = 1
  · subst hk1
    clear HC IH
    go_enter Try.func58, Try.ntmps58
    go_wp2_with fail
    go_ret
    exact ⟨ret_bool (by simp), bal2⟩
  have g1 : (k == 1) = false := by simpa using hk1
  by_cases hl1 : l = 1
  · subst hl1
    clear HC IH
    go_enter Try.func58, Try.ntmps58
    go_wp2_with fail
    go_ret
    exact ⟨ret_bool (by simp), bal2⟩
  have g2 : (l == 1) = false := by simpa using hl1
  by_cases hk : k = l
  · subst hk
    rw [Ty.conss_all2] at HC
    generalize Ty.conss ts us = r at *
    have H := Lib.hid HC
    clear HC IH
    clear hl1 hk1
    go_enter Try.func58, Try.ntmps58
    go_wp2_with fail
    refine (H.out _ bal2).mono ?_
    rintro e w1 ⟨rfl, hb1⟩
    go_wp2_with fail
    go_ret
    exact ⟨ret_bool (by simp [g2]), bstep bal2 hb1⟩
  · have hkl : (k == l) = false := by simpa using hk
    clear hk HC IH hl1 hk1
    go_enter Try.func58, Try.ntmps58
    go_wp2_with fail
    go_ret
    exact ⟨ret_bool (by simp [hkl, g2, g1]), bal2⟩
termination_by SizeOf.sizeOf t
decreasing_by exact Ty.kid_lt ht

set_option maxHeartbeats 2000000 in
theorem specL1Consistent (F G : Nat → Prop) (t : Ty) : ∀ (u : Ty) (d d' : Int) (y z : Value) (w : World), TyRep F w t y → TyRep G w u z → t.shape d = true → u.shape d' = true →
    Calls Try.prog 62 #[y, z] w fun e w' => e = .returned (.bool (t.cons u)) ∧ Below w.heap.size w w' := by
  intro u d d' y z w hy hz sy sz
  have IH : ∀ t' ∈ t.kids, ∀ u' ∈ u.kids, ∀ (d d' : Int) (W : World) (y z : Value), TyRep F W t' y → TyRep G W u' z → t'.shape d = true → u'.shape d' = true → Calls Try.prog 62 #[y, z] W fun e W' => e = .returned (.bool (t'.cons u')) ∧ Below W.heap.size W W' :=
    fun t' ht u' _ d d' W y z a b c e => specL1Consistent F G t' u' d d' y z W a b c e
  obtain ⟨a, cap, rfl, h2, h3, hy'⟩ := hy.open
  obtain ⟨c, cap', rfl, g2', g3, hz'⟩ := hz.open
  clear hy hz
  have IHH := Lib.hid IH
  clear IH
  cases t with | mk k ts => cases u with | mk l us =>
  simp only [Ty.kind, Ty.kids] at *
  unfold maxLen at h3 g3
  obtain ⟨-, st, sst⟩ := Ty.shape_mk sy
  obtain ⟨-, su, ssu⟩ := Ty.shape_mk sz
  have SST := Lib.hid sst
  have SSU := Lib.hid ssu
  clear sy sz sst ssu
  unfold Ty.cons
  rw [← Ty.conss_all2]
  obtain ⟨n, hn⟩ : ∃ n, ts.length = n := ⟨_, rfl⟩
  obtain ⟨m, hm⟩ : ∃ m, us.length = m := ⟨_, rfl⟩
  rw [hn] at h2 hy' st ⊢
  rw [hm] at g2' hz' su ⊢
  have HN := Lib.hid hn
  have HM := Lib.hid hm
  have ST := Lib.hid st
  have SU := Lib.hid su
  clear hn hm st su
  by_cases hk1 : k = 1
  · subst hk1
    clear IHH
    go_enter Try.func62, Try.ntmps62
    go_wp2_with fail
    go_ret
    exact ⟨ret_bool (by simp), bal2⟩
  have g1 : (k == 1) = false := by simpa using hk1
  by_cases hl1 : l = 1
  · subst hl1
    clear IHH
    go_enter Try.func62, Try.ntmps62
    go_wp2_with fail
    go_ret
    exact ⟨ret_bool (by simp), bal2⟩
  have g2 : (l == 1) = false := by simpa using hl1
  by_cases hk : k = l
  · subst hk
    obtain rfl : n = m := by have := ST.out; have := SU.out; omega
    clear hl1 hk1
    go_enter Try.func62, Try.ntmps62
    go_wp2_with fail
    go_loopw [5] (fun i wr => ∃ j : Nat, j ≤ n ∧ i = .int .i64 j ∧ Below w.heap.size w wr ∧ wr.cell? ⟨w.heap.size, 1, none⟩ = some (.slice a n cap) ∧ wr.cell? ⟨w.heap.size + 1, 1, none⟩ = some (.slice c n cap') ∧ w.heap.size + 1 < wr.heap.size ∧ Hid (all2 Ty.cons ts us = all2 Ty.cons (ts.drop j) (us.drop j))) (fun i _ => n - (intOf i).toNat)
    case atStart => exact ⟨0, by omega, rfl, bal2, by simp, by simp, by simp, rfl⟩
    case round =>
      obtain ⟨j, hj, rfl, hbw, hc1, hc2, hsz, hR⟩ := hrel
      by_cases hlt : j < n
      · have hkt : j < ts.length := by rw [HN.out]; exact hlt
        have hku : j < us.length := by rw [HM.out]; exact hlt
        obtain ⟨b, off, k0, a0, m0, q0, rfl, l0, e0, e1, ht⟩ := hy'.at hbw hkt
        obtain ⟨b', off', k0', a0', m0', q0', rfl, l0', e0', e1', hu⟩ := hz'.at hbw hku
        have hcall := fun W (h : Below wr.heap.size wr W) => IHH.out ts[j] (List.getElem_mem hkt) us[j] (List.getElem_mem hku) _ _ W _ _ (ht.below h) (hu.below h) (Ty.shapes_mem SST.out (List.getElem_mem hkt)) (Ty.shapes_mem SSU.out (List.getElem_mem hku))
        have hstep := hR.out.trans (all2_drop Ty.cons ts us j hkt hku)
        generalize ts[j].cons us[j] = r at hcall hstep
        have HC := Lib.hid hcall
        have HS := Lib.hid hstep
        clear hcall hstep hR
        cases r
        all_goals
          go_wp2_with fail
          go_region_held3 (fun w' => w'.cell? ⟨w.heap.size, 1, none⟩ = some (.slice (some ⟨b, off, none⟩) n cap) ∧ w'.cell? ⟨w.heap.size + 1, 1, none⟩ = some (.slice (some ⟨b', off', none⟩) n cap') ∧ w'.cell? ⟨b, off + j * 2, none⟩ = some (.int .i64 k0) ∧ w'.cell? ⟨b, off + j * 2 + 1, none⟩ = some (.slice a0 m0 q0) ∧ w'.cell? ⟨b', off' + j * 2, none⟩ = some (.int .i64 k0') ∧ w'.cell? ⟨b', off' + j * 2 + 1, none⟩ = some (.slice a0' m0' q0'))
            (first | go_keep | exact ⟨bcelld hb1 hc1, bcelld hb1 hc2, bcelld hb1 e0, bcelld hb1 e1, bcelld hb1 e0', bcelld hb1 e1'⟩)
            (first | (go_at_call 62; refine (HC.out _ bdr).mono ?_; rintro e w1 ⟨rfl, hb1⟩))
          go_wp2_with fail
        · go_ret
          exact ⟨ret_bool (by rw [HS.out]; simpa using g2), bdrew hbw hb1⟩
        · go_roundw
          case rel => exact ⟨j + 1, by omega, by go_num, bdrew hbw hb1, bcelld hb1 hc1, bcelld hb1 hc2, Nat.lt_of_lt_of_le hsz hb1.size, by rw [Hid, HS.out]; rfl⟩
          case measure => simp [intOf]; omega
      · go_wp2_with fail
        go_ret
        exact ⟨ret_bool (by rw [hR.out, all2_end _ _ _ _ (by rw [HN.out]; omega) (by rw [HM.out]; omega)]; simp), hbw⟩
  · have hkl : (k == l) = false := by simpa using hk
    have hkl' : (k != l) = true := by simpa using hk
    clear hk hl1 hk1
    go_enter Try.func62, Try.ntmps62
    go_wp2_with fail
    go_ret
    exact ⟨ret_bool (by simp [hkl, g2, g1]), bal2⟩
termination_by SizeOf.sizeOf t
decreasing_by exact Ty.kid_lt ht

end Go.Proofs.Ytkhmkohgnikcmaa
namespace Go.Proofs.Ytkhmkohgnikcmaa
open Go.RowKit
set_option linter.unusedVariables false
set_option linter.unusedSimpArgs false
set_option maxRecDepth 100000

set_option maxHeartbeats 1000000 in
theorem implConsistent (F G : Nat → Prop) (t u : Ty) (y z : Value) (w : World) (hy : TyRep F w t y) (hz : TyRep G w u z) :
    Calls Try.prog 72 #[y, z] w fun e w' => e = .returned (.bool (t.valid && u.valid && t.cons u)) ∧ Below w.heap.size w w' := by
  obtain ⟨k, a, n, q, rfl⟩ := hy.shape
  obtain ⟨k', a', n', q', rfl⟩ := hz.shape
  have HV := fun W (h : Below w.heap.size w W) => implTypeValid F t _ W (hy.below h)
  have HU := fun W (h : Below w.heap.size w W) => implTypeValid G u _ W (hz.below h)
  have HI := fun (hv : t.valid = true) (hu : u.valid = true) W (h : Below w.heap.size w W) => implConsistent0 F G t u _ _ W (hy.below h) (hz.below h)
  clear hy hz
  cases hv : t.valid
  · rw [hv] at HV
    have HH := Lib.hid HV
    clear HV HU HI hv
    go_enter Try.func72, Try.ntmps72
    go_wp2_with fail
    refine (HH.out _ bal2).mono ?_
    rintro e w1 ⟨rfl, hb1⟩
    go_wp2_with fail
    go_ret
    exact ⟨ret_bool (by simp), bstep bal2 hb1⟩
  · rw [hv] at HV
    cases hu : u.valid
    · rw [hu] at HU
      have HH := Lib.hid HV
      have HK := Lib.hid HU
      clear HV HU HI hv hu
      go_enter Try.func72, Try.ntmps72
      go_wp2_with fail
      refine (HH.out _ bal2).mono ?_
      rintro e w1 ⟨rfl, hb1⟩
      obtain ⟨hc, hf⟩ := brules hb1
      go_wp2_with fail
      refine (HK.out _ (bstep bal2 hb1)).mono ?_
      rintro e w2 ⟨rfl, hb2⟩
      go_wp2_with fail
      go_ret
      exact ⟨ret_bool (by simp), bstep (bstep bal2 hb1) hb2⟩
    · rw [hu] at HU
      have HI := HI hv hu
      generalize t.cons u = r at *
      have HH := Lib.hid HV
      have HK := Lib.hid HU
      have HJ := Lib.hid HI
      clear HV HU HI hv hu
      go_enter Try.func72, Try.ntmps72
      go_wp2_with fail
      refine (HH.out _ bal2).mono ?_
      rintro e w1 ⟨rfl, hb1⟩
      obtain ⟨hc, hf⟩ := brules hb1
      go_wp2_with fail
      refine (HK.out _ (bstep bal2 hb1)).mono ?_
      rintro e w2 ⟨rfl, hb2⟩
      clear hc hf
      obtain ⟨hc, hf⟩ := brules (bstep hb1 hb2)
      go_wp2_with fail
      refine (HJ.out _ (bstep (bstep bal2 hb1) hb2)).mono ?_
      rintro e w3 ⟨rfl, hb3⟩
      go_wp2_with fail
      go_ret
      exact ⟨ret_bool (by simp), bstep (bstep (bstep bal2 hb1) hb2) hb3⟩

end Go.Proofs.Ytkhmkohgnikcmaa
namespace Go.Proofs.Ytkhmkohgnikcmaa
open Go.RowKit
set_option linter.unusedVariables false
set_option linter.unusedSimpArgs false
set_option maxRecDepth 100000

def ownB (k u l : Int) (nm : ByteArray) (tv n1 n2 cv : Bool) : Bool :=
  (if k == 1 || k == 5 then nameB nm else nm.toList == []) && winB u 0 (if k == 2 then 999 else 0) && (if k == 5 || k == 13 || k == 14 then tv else n1) && (if k == 14 then cv && labelB l else n2 && l == 0)
def nodeB (k u l : Int) (nm : ByteArray) (m : Nat) (tv n1 n2 cv : Bool) : Bool := (tops k == (m : Int)) && ownB k u l nm tv n1 n2 cv
def Tm.ownB (t : Tm) : Bool := Go.Proofs.Ytkhmkohgnikcmaa.ownB t.kind t.num t.label t.name t.type.valid t.type.noneB t.src.noneB (t.src.valid && t.type.valid && t.src.cons t.type)
def Tm.nodeB (t : Tm) : Bool := (tops t.kind == (t.kids.length : Int)) && t.ownB
theorem kinds6 (k : Int) : k = 1 ∨ k = 2 ∨ k = 5 ∨ k = 13 ∨ k = 14 ∨ ((k == 1) = false ∧ (k == 5) = false ∧ (k == 13) = false ∧ (k == 14) = false ∧ (k == 2) = false) := by
  simp only [beq_eq_false_iff_ne]
  omega
theorem win0 (u : Int) : (u == 0) = winB u 0 0 := by unfold winB; rw [Bool.eq_iff_iff]; simp; omega
end Go.Proofs.Ytkhmkohgnikcmaa
