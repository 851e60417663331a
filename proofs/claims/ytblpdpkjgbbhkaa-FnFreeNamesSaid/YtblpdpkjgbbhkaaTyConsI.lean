/-
  Consistency and precision of types: implConsistent.
-/
import Derived.Test.YtblpdpkjgbbhkaaTyCons
namespace Go.Proofs.Ytblpdpkjgbbhkaa
open Go.RowKit
set_option linter.unusedVariables false
set_option linter.unusedSimpArgs false
set_option maxRecDepth 100000

set_option maxHeartbeats 1000000 in
theorem implConsistent (F G : Nat → Prop) (t u : Ty) (y z : Value) (w : World) (hy : TyRep F w t y) (hz : TyRep G w u z) :
    Calls Try.prog 41 #[y, z] w fun e w' => e = .returned (.bool (t.valid && u.valid && t.cons u)) ∧ Below w.heap.size w w' := by
  obtain ⟨k, a, n, q, rfl⟩ := hy.shape
  obtain ⟨k', a', n', q', rfl⟩ := hz.shape
  have HV := fun W (h : Below w.heap.size w W) => implTypeValid F t _ W (hy.below h)
  have HU := fun W (h : Below w.heap.size w W) => implTypeValid G u _ W (hz.below h)
  have HI := fun (hv : t.valid = true) (hu : u.valid = true) W (h : Below w.heap.size w W) => implConsistent0 F G t u _ _ W (hy.below h) (hz.below h)
  clear hy hz
  cases hv : t.valid
  · rw [hv] at HV
    have HH := Lib.hid HV
    clear HV HU HI hv
    go_enter Try.func41, Try.ntmps41
    go_wp2_with fail
    refine (HH.out _ bal2).mono ?_
    rintro e w1 ⟨rfl, hb1⟩
    go_wp2_with fail
    go_ret
    exact ⟨ret_bool (by simp), bstep bal2 hb1⟩
  · rw [hv] at HV
    cases hu : u.valid
    · rw [hu] at HU
      have HH := Lib.hid HV
      have HK := Lib.hid HU
      clear HV HU HI hv hu
      go_enter Try.func41, Try.ntmps41
      go_wp2_with fail
      refine (HH.out _ bal2).mono ?_
      rintro e w1 ⟨rfl, hb1⟩
      obtain ⟨hc, hf⟩ := brules hb1
      go_wp2_with fail
      refine (HK.out _ (bstep bal2 hb1)).mono ?_
      rintro e w2 ⟨rfl, hb2⟩
      go_wp2_with fail
      go_ret
      exact ⟨ret_bool (by simp), bstep (bstep bal2 hb1) hb2⟩
    · rw [hu] at HU
      have HI := HI hv hu
      generalize t.cons u = r at *
      have HH := Lib.hid HV
      have HK := Lib.hid HU
      have HJ := Lib.hid HI
      clear HV HU HI hv hu
      go_enter Try.func41, Try.ntmps41
      go_wp2_with fail
      refine (HH.out _ bal2).mono ?_
      rintro e w1 ⟨rfl, hb1⟩
      obtain ⟨hc, hf⟩ := brules hb1
      go_wp2_with fail
      refine (HK.out _ (bstep bal2 hb1)).mono ?_
      rintro e w2 ⟨rfl, hb2⟩
      clear hc hf
      obtain ⟨hc, hf⟩ := brules (bstep hb1 hb2)
      go_wp2_with fail
      refine (HJ.out _ (bstep (bstep bal2 hb1) hb2)).mono ?_
      rintro e w3 ⟨rfl, hb3⟩
      go_wp2_with fail
      go_ret
      exact ⟨ret_bool (by simp), bstep (bstep (bstep bal2 hb1) hb2) hb3⟩

end Go.Proofs.Ytblpdpkjgbbhkaa
