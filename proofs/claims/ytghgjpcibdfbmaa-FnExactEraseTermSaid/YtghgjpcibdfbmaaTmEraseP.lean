/-
  A term without types: what it is.
-/
import Derived.Test.YtghgjpcibdfbmaaK7
import Derived.Test.YtghgjpcibdfbmaaTmBareI
namespace Go.Proofs.Ytghgjpcibdfbmaa
open Go.RowKit
set_option linter.unusedVariables false
set_option linter.unusedSimpArgs false
set_option maxRecDepth 100000

def gE : Tm → Tm
  | .mk k s u t f l ts => if hasT k then .mk k s u .any1 f l ts else .mk k s u t f l ts
theorem gE_mk (k u l : Int) (s : ByteArray) (t f : Ty) (ts : List Tm) : gE (.mk k s u t f l ts) = if hasT k then .mk k s u .any1 f l ts else .mk k s u t f l ts := rfl
mutual
theorem Tm.map_erase : ∀ (t : Tm) (n : Nat), t.tys.length ≤ n → t.mapT gE = t.rety (List.replicate n .any1)
  | .mk k s u t f l ts, n, h => by
    unfold Tm.tys at h
    unfold Tm.mapT Tm.rety
    rw [gE_mk]
    by_cases hk : hasT k = true
    · rw [if_pos hk] at h
      simp only [hk, if_true]
      obtain ⟨n', rfl⟩ : ∃ n', n = n' + 1 := ⟨n - 1, by simp at h; omega⟩
      rw [Tm.maps_erase ts n' (by simp at h; omega)]
      rfl
    · rw [if_neg hk] at h
      simp only [hk, if_false, Bool.false_eq_true]
      rw [Tm.maps_erase ts n (by simpa using h)]
theorem Tm.maps_erase : ∀ (ts : List Tm) (n : Nat), (Tm.tyss ts).length ≤ n → Tm.mapTs gE ts = Tm.retys ts (List.replicate n .any1)
  | [], _, _ => by unfold Tm.mapTs Tm.retys; rfl
  | t :: ts, n, h => by
    unfold Tm.tyss at h
    rw [List.length_append] at h
    unfold Tm.mapTs Tm.retys
    rw [Tm.map_erase t n (by omega), List.drop_replicate, Tm.maps_erase ts (n - t.tys.length) (by omega)]
end
mutual
theorem Tm.mapOk_true (g : Tm → Tm) : ∀ t : Tm, t.mapOk g (fun _ => True)
  | .mk k s u t f l ts => by unfold Tm.mapOk; exact ⟨trivial, Tm.mapOks_true g ts⟩
theorem Tm.mapOks_true (g : Tm → Tm) : ∀ ts : List Tm, Tm.mapOks g (fun _ => True) ts
  | [] => by unfold Tm.mapOks; trivial
  | t :: ts => by unfold Tm.mapOks; exact ⟨Tm.mapOk_true g t, Tm.mapOks_true g ts⟩
end
def Tm.erased (t : Tm) : Tm := t.rety (List.replicate t.tys.length .any1)
def Tm.eraseT (t : Tm) : Tm := if t.valid then t.erased else .zero
theorem Tm.withB_erase (t : Tm) : t.withB (List.replicate t.types.length .any1) = t.valid ∧ t.withT (List.replicate t.types.length .any1) = t.eraseT := by
  have hv : ∀ n : Nat, ((List.replicate n Ty.any1).any fun x => !x.valid) = false := fun n => by
    rw [List.any_eq_false]
    intro x hx
    rw [(List.mem_replicate.1 hx).2]
    decide
  unfold Tm.withT Tm.withB Tm.eraseT Tm.types Tm.erased
  by_cases h : t.valid = true
  · rw [if_pos h, if_pos h, h, hv]
    simp
  · have h' : t.valid = false := by simpa using h
    simp [h']
theorem TmNew.retype' {B : Nat} {w : World} {k u l : Int} {nm : ByteArray} {tt ff : Ty} {ts : List Tm} {tk fk : Int} {s1 s2 s3 : Value} (h : TmNew B w (.mk k nm u tt ff l ts) (.agg #[.int .i64 k, .string nm, .int .i64 u, .int .i64 tk, s1, .int .i64 fk, s2, .int .i64 l, s3])) {a : Option Addr} {q : Nat} (hq : q ≤ maxLen) :
    TmNew B w (.mk k nm u .any1 ff l ts) (.agg #[.int .i64 k, .string nm, .int .i64 u, .int .i64 1, .slice a 0 q, .int .i64 fk, s2, .int .i64 l, s3]) := h.retype 1 hq
end Go.Proofs.Ytghgjpcibdfbmaa
