/-
  The text of a type, by the program and by the reference.
-/
import Derived.Test.YtikkneahhgmdjaaB32
import Derived.Test.YtikkneahhgmdjaaB32
import Derived.Test.YtikkneahhgmdjaaB24
import Derived.Test.YtikkneahhgmdjaaB33
namespace Go.Proofs.Ytikkneahhgmdjaa
open Go.RowKit
set_option linter.unusedVariables false
set_option linter.unusedSimpArgs false
set_option maxRecDepth 100000

def S.bs : S → ByteArray
  | .zero => ⟨#[]⟩
  | .any => ⟨#[63]⟩
  | .int => ⟨#[73]⟩
  | .bool => ⟨#[66]⟩
  | .fn a b => (⟨#[40]⟩ : ByteArray) ++ a.bs ++ (⟨#[62]⟩ : ByteArray) ++ b.bs ++ (⟨#[41]⟩ : ByteArray)
  | .pr a b => (⟨#[40]⟩ : ByteArray) ++ a.bs ++ (⟨#[42]⟩ : ByteArray) ++ b.bs ++ (⟨#[41]⟩ : ByteArray)
theorem S.bs_text : ∀ s : S, s.bs = ⟨s.text.toArray⟩
  | .zero => rfl
  | .any => rfl
  | .int => rfl
  | .bool => rfl
  | .fn a b => by
    have e : ∀ n : UInt8, (⟨#[n]⟩ : ByteArray) = ⟨[n].toArray⟩ := fun _ => rfl
    simp only [S.bs, a.bs_text, b.bs_text, S.text, e, ByteArray.mk_append_mk]
    simp
  | .pr a b => by
    have e : ∀ n : UInt8, (⟨#[n]⟩ : ByteArray) = ⟨[n].toArray⟩ := fun _ => rfl
    simp only [S.bs, a.bs_text, b.bs_text, S.text, e, ByteArray.mk_append_mk]
    simp
theorem S.bs_size {s : S} (h : s.dep ≤ 4) : s.bs.size ≤ 29 := by
  rw [S.bs_text]
  have h1 := S.text_len s
  have h2 : 2 ^ (s.dep + 1) ≤ 2 ^ 5 := Nat.pow_le_pow_right (by omega) (by omega)
  show s.text.toArray.size ≤ 29
  simp
  omega
theorem S.bs_inj {s u : S} (hs : s.vd = true) (hu : u.vd = true) (h : s.bs = u.bs) : s = u := by
  rw [S.bs_text, S.bs_text] at h
  have h2 : s.text.toArray = u.text.toArray := congrArg ByteArray.data h
  exact S.text_inj hs hu (by simpa using h2)
def S.ofKind (k : Int) (l : List S) : S := if k = 1 then .any else if k = 2 then .int else if k = 3 then .bool else match l with | [a, b] => if k = 4 then .fn a b else .pr a b | _ => .zero
mutual
def Ty.toS : Ty → S
  | .mk k ts => S.ofKind k (Ty.toSs ts)
def Ty.toSs : List Ty → List S
  | [] => []
  | t :: ts => t.toS :: Ty.toSs ts
end
theorem S.ty_toS : ∀ s : S, s.ok = true → s.ty.toS = s
  | .zero, h => by cases h
  | .any, _ => by simp [S.ty, Ty.toS, S.ofKind]
  | .int, _ => by simp [S.ty, Ty.toS, S.ofKind]
  | .bool, _ => by simp [S.ty, Ty.toS, S.ofKind]
  | .fn a b, h => by simp [S.ok] at h; simp [S.ty, Ty.toS, Ty.toSs, S.ofKind, a.ty_toS h.1, b.ty_toS h.2]
  | .pr a b, h => by simp [S.ok] at h; simp [S.ty, Ty.toS, Ty.toSs, S.ofKind, a.ty_toS h.1, b.ty_toS h.2]
def fmtB (t : Ty) : ByteArray := if t.valid then t.toS.bs else ⟨#[]⟩
theorem fmtB_ty {s : S} (h : s.vd = true) : fmtB s.ty = s.bs := by unfold fmtB; rw [S.valid, h, if_pos rfl, S.ty_toS s (S.vd_ok h)]
theorem fmtB_bad {t : Ty} (h : t.valid = false) : fmtB t = ⟨#[]⟩ := by unfold fmtB; rw [h]; rfl
theorem fmtB_size (t : Ty) : (fmtB t).size ≤ 29 := by
  cases h : t.valid with
  | false => rw [fmtB_bad h]; exact Nat.zero_le _
  | true =>
    obtain ⟨s, rfl, hs⟩ := Ty.valid_S h
    rw [fmtB_ty hs]
    exact S.bs_size (S.vd_dep hs)

theorem implSign1 (w : World) : Calls Try.prog 38 #[.int .i64 1] w fun e w' => e = .returned (.string ⟨#[63]⟩) ∧ Below w.heap.size w w' := by
  go_enter Try.func38, Try.ntmps38
  go_wp2_with fail
  go_ret
  exact ⟨rfl, Below.refl _ _⟩
theorem implSign2 (w : World) : Calls Try.prog 38 #[.int .i64 2] w fun e w' => e = .returned (.string ⟨#[73]⟩) ∧ Below w.heap.size w w' := by
  go_enter Try.func38, Try.ntmps38
  go_wp2_with fail
  go_ret
  exact ⟨rfl, Below.refl _ _⟩
theorem implSign3 (w : World) : Calls Try.prog 38 #[.int .i64 3] w fun e w' => e = .returned (.string ⟨#[66]⟩) ∧ Below w.heap.size w w' := by
  go_enter Try.func38, Try.ntmps38
  go_wp2_with fail
  go_ret
  exact ⟨rfl, Below.refl _ _⟩
theorem implSign4 (w : World) : Calls Try.prog 38 #[.int .i64 4] w fun e w' => e = .returned (.string ⟨#[62]⟩) ∧ Below w.heap.size w w' := by
  go_enter Try.func38, Try.ntmps38
  go_wp2_with fail
  go_ret
  exact ⟨rfl, Below.refl _ _⟩
theorem implSign5 (w : World) : Calls Try.prog 38 #[.int .i64 5] w fun e w' => e = .returned (.string ⟨#[42]⟩) ∧ Below w.heap.size w w' := by
  go_enter Try.func38, Try.ntmps38
  go_wp2_with fail
  go_ret
  exact ⟨rfl, Below.refl _ _⟩

set_option maxHeartbeats 2000000 in
theorem implTypeText_1 (F : Nat → Prop) (y : Value) (w : World) (hy : TyRep F w (.mk 1 []) y) :
    Calls Try.prog 24 #[y] w fun e w' => e = .returned (.string ⟨#[63]⟩) ∧ Below w.heap.size w w' := by
  obtain ⟨a, q, rfl, -, -, -⟩ := hy.open
  simp only [Ty.kind, Ty.kids, List.length_nil]
  go_enter Try.func24, Try.ntmps24
  go_wp2_with fail
  refine (implSign1 _).mono ?_
  rintro e w1 ⟨rfl, hb1⟩
  have hB := (bstep bal1 hb1)
  have zw1 := hB.size
  go_wp2_with fail
  refine bodyPost_ret (v := .string ((⟨#[63]⟩ : ByteArray))) (by simp [results, Try.results24, go_sem]) rfl ?_
  exact ⟨rfl, hB⟩

set_option maxHeartbeats 2000000 in
theorem implTypeText_2 (F : Nat → Prop) (y : Value) (w : World) (hy : TyRep F w (.mk 2 []) y) :
    Calls Try.prog 24 #[y] w fun e w' => e = .returned (.string ⟨#[73]⟩) ∧ Below w.heap.size w w' := by
  obtain ⟨a, q, rfl, -, -, -⟩ := hy.open
  simp only [Ty.kind, Ty.kids, List.length_nil]
  go_enter Try.func24, Try.ntmps24
  go_wp2_with fail
  refine (implSign2 _).mono ?_
  rintro e w1 ⟨rfl, hb1⟩
  have hB := (bstep bal1 hb1)
  have zw1 := hB.size
  go_wp2_with fail
  refine bodyPost_ret (v := .string ((⟨#[73]⟩ : ByteArray))) (by simp [results, Try.results24, go_sem]) rfl ?_
  exact ⟨rfl, hB⟩

set_option maxHeartbeats 2000000 in
theorem implTypeText_3 (F : Nat → Prop) (y : Value) (w : World) (hy : TyRep F w (.mk 3 []) y) :
    Calls Try.prog 24 #[y] w fun e w' => e = .returned (.string ⟨#[66]⟩) ∧ Below w.heap.size w w' := by
  obtain ⟨a, q, rfl, -, -, -⟩ := hy.open
  simp only [Ty.kind, Ty.kids, List.length_nil]
  go_enter Try.func24, Try.ntmps24
  go_wp2_with fail
  refine (implSign3 _).mono ?_
  rintro e w1 ⟨rfl, hb1⟩
  have hB := (bstep bal1 hb1)
  have zw1 := hB.size
  go_wp2_with fail
  refine bodyPost_ret (v := .string ((⟨#[66]⟩ : ByteArray))) (by simp [results, Try.results24, go_sem]) rfl ?_
  exact ⟨rfl, hB⟩

set_option maxHeartbeats 8000000 in
theorem implTypeText_4 (F : Nat → Prop) (t1 t2 : Ty) (x1 x2 : ByteArray) (z1 : x1.size ≤ 100) (z2 : x2.size ≤ 100) (y : Value) (w : World) (hy : TyRep F w (.mk 4 [t1, t2]) y)
    (IH1 : ∀ (W : World) (y : Value), TyRep F W t1 y → Calls Try.prog 24 #[y] W fun e w' => e = .returned (.string x1) ∧ Below W.heap.size W w')
    (IH2 : ∀ (W : World) (y : Value), TyRep F W t2 y → Calls Try.prog 24 #[y] W fun e w' => e = .returned (.string x2) ∧ Below W.heap.size W w') :
    Calls Try.prog 24 #[y] w fun e w' => e = .returned (.string ((⟨#[40]⟩ : ByteArray) ++ x1 ++ (⟨#[62]⟩ : ByteArray) ++ x2 ++ (⟨#[41]⟩ : ByteArray))) ∧ Below w.heap.size w w' := by
  obtain ⟨ys, rfl, hys⟩ := hy
  obtain ⟨b, off, cap, k1, c1, m1, q1, k2, c2, m2, q2, rfl, g2, g3, hb, e0, e1, e2, e3, ht1, ht2⟩ := TysRep.two hys
  simp only [Ty.kind, Ty.kids] at *
  have H1 := Lib.hid IH1
  have H2 := Lib.hid IH2
  clear IH1 IH2 hys
  go_enter Try.func24, Try.ntmps24
  go_wp2_with fail
  have hst : ¬ (9223372036854775807 < 1 + x1.size) := by omega
  have hst : ¬ (9223372036854775807 < 1 + x1.size + 1) := by omega
  have hst : ¬ (9223372036854775807 < 1 + x1.size + 1 + x2.size) := by omega
  have hst : ¬ (9223372036854775807 < 1 + x1.size + 1 + x2.size + 1) := by omega
  have s0_ : (World.alloc w (Obj.cells #[.int .i64 4, .slice (some ⟨b, off, none⟩) 2 cap] 24)).cell? ⟨w.heap.size, 1, none⟩ = some (.slice (some ⟨b, off, none⟩) 2 cap) := cell_new (by simp) 1
  have s1_ : (World.alloc w (Obj.cells #[.int .i64 4, .slice (some ⟨b, off, none⟩) 2 cap] 24)).cell? ⟨b, off, none⟩ = some (.int .i64 k1) := bcell bal1 (e0)
  have s2_ : (World.alloc w (Obj.cells #[.int .i64 4, .slice (some ⟨b, off, none⟩) 2 cap] 24)).cell? ⟨b, off + 1, none⟩ = some (.slice c1 m1 q1) := bcell bal1 (e1)
  have s3_ : (World.alloc w (Obj.cells #[.int .i64 4, .slice (some ⟨b, off, none⟩) 2 cap] 24)).cell? ⟨w.heap.size, 0, none⟩ = some (.int .i64 4) := cell_new (by simp) 0
  have s4_ : (World.alloc w (Obj.cells #[.int .i64 4, .slice (some ⟨b, off, none⟩) 2 cap] 24)).cell? ⟨b, off + 2, none⟩ = some (.int .i64 k2) := bcell bal1 (e2)
  have s5_ : (World.alloc w (Obj.cells #[.int .i64 4, .slice (some ⟨b, off, none⟩) 2 cap] 24)).cell? ⟨b, off + 3, none⟩ = some (.slice c2 m2 q2) := bcell bal1 (e3)
  have hS0 := Lib.hid (show (World.drew (World.alloc w (Obj.cells #[.int .i64 4, .slice (some ⟨b, off, none⟩) 2 cap] 24))).cell? ⟨w.heap.size, 1, none⟩ = some (.slice (some ⟨b, off, none⟩) 2 cap) ∧ (World.drew (World.alloc w (Obj.cells #[.int .i64 4, .slice (some ⟨b, off, none⟩) 2 cap] 24))).cell? ⟨b, off, none⟩ = some (.int .i64 k1) ∧ (World.drew (World.alloc w (Obj.cells #[.int .i64 4, .slice (some ⟨b, off, none⟩) 2 cap] 24))).cell? ⟨b, off + 1, none⟩ = some (.slice c1 m1 q1) ∧ (World.drew (World.alloc w (Obj.cells #[.int .i64 4, .slice (some ⟨b, off, none⟩) 2 cap] 24))).cell? ⟨w.heap.size, 0, none⟩ = some (.int .i64 4) ∧ (World.drew (World.alloc w (Obj.cells #[.int .i64 4, .slice (some ⟨b, off, none⟩) 2 cap] 24))).cell? ⟨b, off + 2, none⟩ = some (.int .i64 k2) ∧ (World.drew (World.alloc w (Obj.cells #[.int .i64 4, .slice (some ⟨b, off, none⟩) 2 cap] 24))).cell? ⟨b, off + 3, none⟩ = some (.slice c2 m2 q2) from ⟨dcell (s0_), dcell (s1_), dcell (s2_), dcell (s3_), dcell (s4_), dcell (s5_)⟩)
  have hSb := Lib.hid (show ∀ X Y : World, Below X.heap.size X Y → (X.cell? ⟨w.heap.size, 1, none⟩ = some (.slice (some ⟨b, off, none⟩) 2 cap) ∧ X.cell? ⟨b, off, none⟩ = some (.int .i64 k1) ∧ X.cell? ⟨b, off + 1, none⟩ = some (.slice c1 m1 q1) ∧ X.cell? ⟨w.heap.size, 0, none⟩ = some (.int .i64 4) ∧ X.cell? ⟨b, off + 2, none⟩ = some (.int .i64 k2) ∧ X.cell? ⟨b, off + 3, none⟩ = some (.slice c2 m2 q2)) → (Y.cell? ⟨w.heap.size, 1, none⟩ = some (.slice (some ⟨b, off, none⟩) 2 cap) ∧ Y.cell? ⟨b, off, none⟩ = some (.int .i64 k1) ∧ Y.cell? ⟨b, off + 1, none⟩ = some (.slice c1 m1 q1) ∧ Y.cell? ⟨w.heap.size, 0, none⟩ = some (.int .i64 4) ∧ Y.cell? ⟨b, off + 2, none⟩ = some (.int .i64 k2) ∧ Y.cell? ⟨b, off + 3, none⟩ = some (.slice c2 m2 q2)) from fun X Y h s => ⟨bcell h s.1, bcell h s.2.1, bcell h s.2.2.1, bcell h s.2.2.2.1, bcell h s.2.2.2.2.1, bcell h s.2.2.2.2.2⟩)
  go_region_held3 (fun w' => w'.cell? ⟨w.heap.size, 1, none⟩ = some (.slice (some ⟨b, off, none⟩) 2 cap) ∧ w'.cell? ⟨b, off, none⟩ = some (.int .i64 k1) ∧ w'.cell? ⟨b, off + 1, none⟩ = some (.slice c1 m1 q1) ∧ w'.cell? ⟨w.heap.size, 0, none⟩ = some (.int .i64 4) ∧ w'.cell? ⟨b, off + 2, none⟩ = some (.int .i64 k2) ∧ w'.cell? ⟨b, off + 3, none⟩ = some (.slice c2 m2 q2))
    (repeat (first | with_reducible refine hSb.out _ _ hb3 ?_ | with_reducible refine hSb.out _ _ hb2 ?_ | with_reducible refine hSb.out _ _ hb1 ?_ | with_reducible exact hS0.out))
    (first | (go_at_call 24; ((with_reducible refine (H1.out _ _ (ht1.below bal1.drew)).mono ?_); rintro e w1 ⟨rfl, hb1⟩)) | (go_at_call 38; ((with_reducible refine (implSign4 _).mono ?_); rintro e w2 ⟨rfl, hb2⟩)) | (go_at_call 24; ((with_reducible refine (H2.out _ _ (ht2.below (bstep (bstep bal1.drew hb1) hb2))).mono ?_); rintro e w3 ⟨rfl, hb3⟩)))
  clear s0_ s1_ s2_ s3_ s4_ s5_
  have hB := (bstep (bstep (bstep bal1.drew hb1) hb2) hb3)
  have zw3 := hB.size
  go_wp2_with fail
  refine bodyPost_ret (v := .string ((⟨#[40]⟩ : ByteArray) ++ x1 ++ (⟨#[62]⟩ : ByteArray) ++ x2 ++ (⟨#[41]⟩ : ByteArray))) (by simp [results, Try.results24, go_sem]) rfl ?_
  exact ⟨rfl, hB⟩

set_option maxHeartbeats 8000000 in
theorem implTypeText_5 (F : Nat → Prop) (t1 t2 : Ty) (x1 x2 : ByteArray) (z1 : x1.size ≤ 100) (z2 : x2.size ≤ 100) (y : Value) (w : World) (hy : TyRep F w (.mk 5 [t1, t2]) y)
    (IH1 : ∀ (W : World) (y : Value), TyRep F W t1 y → Calls Try.prog 24 #[y] W fun e w' => e = .returned (.string x1) ∧ Below W.heap.size W w')
    (IH2 : ∀ (W : World) (y : Value), TyRep F W t2 y → Calls Try.prog 24 #[y] W fun e w' => e = .returned (.string x2) ∧ Below W.heap.size W w') :
    Calls Try.prog 24 #[y] w fun e w' => e = .returned (.string ((⟨#[40]⟩ : ByteArray) ++ x1 ++ (⟨#[42]⟩ : ByteArray) ++ x2 ++ (⟨#[41]⟩ : ByteArray))) ∧ Below w.heap.size w w' := by
  obtain ⟨ys, rfl, hys⟩ := hy
  obtain ⟨b, off, cap, k1, c1, m1, q1, k2, c2, m2, q2, rfl, g2, g3, hb, e0, e1, e2, e3, ht1, ht2⟩ := TysRep.two hys
  simp only [Ty.kind, Ty.kids] at *
  have H1 := Lib.hid IH1
  have H2 := Lib.hid IH2
  clear IH1 IH2 hys
  go_enter Try.func24, Try.ntmps24
  go_wp2_with fail
  have hst : ¬ (9223372036854775807 < 1 + x1.size) := by omega
  have hst : ¬ (9223372036854775807 < 1 + x1.size + 1) := by omega
  have hst : ¬ (9223372036854775807 < 1 + x1.size + 1 + x2.size) := by omega
  have hst : ¬ (9223372036854775807 < 1 + x1.size + 1 + x2.size + 1) := by omega
  have s0_ : (World.alloc w (Obj.cells #[.int .i64 5, .slice (some ⟨b, off, none⟩) 2 cap] 24)).cell? ⟨w.heap.size, 1, none⟩ = some (.slice (some ⟨b, off, none⟩) 2 cap) := cell_new (by simp) 1
  have s1_ : (World.alloc w (Obj.cells #[.int .i64 5, .slice (some ⟨b, off, none⟩) 2 cap] 24)).cell? ⟨b, off, none⟩ = some (.int .i64 k1) := bcell bal1 (e0)
  have s2_ : (World.alloc w (Obj.cells #[.int .i64 5, .slice (some ⟨b, off, none⟩) 2 cap] 24)).cell? ⟨b, off + 1, none⟩ = some (.slice c1 m1 q1) := bcell bal1 (e1)
  have s3_ : (World.alloc w (Obj.cells #[.int .i64 5, .slice (some ⟨b, off, none⟩) 2 cap] 24)).cell? ⟨w.heap.size, 0, none⟩ = some (.int .i64 5) := cell_new (by simp) 0
  have s4_ : (World.alloc w (Obj.cells #[.int .i64 5, .slice (some ⟨b, off, none⟩) 2 cap] 24)).cell? ⟨b, off + 2, none⟩ = some (.int .i64 k2) := bcell bal1 (e2)
  have s5_ : (World.alloc w (Obj.cells #[.int .i64 5, .slice (some ⟨b, off, none⟩) 2 cap] 24)).cell? ⟨b, off + 3, none⟩ = some (.slice c2 m2 q2) := bcell bal1 (e3)
  have hS0 := Lib.hid (show (World.drew (World.alloc w (Obj.cells #[.int .i64 5, .slice (some ⟨b, off, none⟩) 2 cap] 24))).cell? ⟨w.heap.size, 1, none⟩ = some (.slice (some ⟨b, off, none⟩) 2 cap) ∧ (World.drew (World.alloc w (Obj.cells #[.int .i64 5, .slice (some ⟨b, off, none⟩) 2 cap] 24))).cell? ⟨b, off, none⟩ = some (.int .i64 k1) ∧ (World.drew (World.alloc w (Obj.cells #[.int .i64 5, .slice (some ⟨b, off, none⟩) 2 cap] 24))).cell? ⟨b, off + 1, none⟩ = some (.slice c1 m1 q1) ∧ (World.drew (World.alloc w (Obj.cells #[.int .i64 5, .slice (some ⟨b, off, none⟩) 2 cap] 24))).cell? ⟨w.heap.size, 0, none⟩ = some (.int .i64 5) ∧ (World.drew (World.alloc w (Obj.cells #[.int .i64 5, .slice (some ⟨b, off, none⟩) 2 cap] 24))).cell? ⟨b, off + 2, none⟩ = some (.int .i64 k2) ∧ (World.drew (World.alloc w (Obj.cells #[.int .i64 5, .slice (some ⟨b, off, none⟩) 2 cap] 24))).cell? ⟨b, off + 3, none⟩ = some (.slice c2 m2 q2) from ⟨dcell (s0_), dcell (s1_), dcell (s2_), dcell (s3_), dcell (s4_), dcell (s5_)⟩)
  have hSb := Lib.hid (show ∀ X Y : World, Below X.heap.size X Y → (X.cell? ⟨w.heap.size, 1, none⟩ = some (.slice (some ⟨b, off, none⟩) 2 cap) ∧ X.cell? ⟨b, off, none⟩ = some (.int .i64 k1) ∧ X.cell? ⟨b, off + 1, none⟩ = some (.slice c1 m1 q1) ∧ X.cell? ⟨w.heap.size, 0, none⟩ = some (.int .i64 5) ∧ X.cell? ⟨b, off + 2, none⟩ = some (.int .i64 k2) ∧ X.cell? ⟨b, off + 3, none⟩ = some (.slice c2 m2 q2)) → (Y.cell? ⟨w.heap.size, 1, none⟩ = some (.slice (some ⟨b, off, none⟩) 2 cap) ∧ Y.cell? ⟨b, off, none⟩ = some (.int .i64 k1) ∧ Y.cell? ⟨b, off + 1, none⟩ = some (.slice c1 m1 q1) ∧ Y.cell? ⟨w.heap.size, 0, none⟩ = some (.int .i64 5) ∧ Y.cell? ⟨b, off + 2, none⟩ = some (.int .i64 k2) ∧ Y.cell? ⟨b, off + 3, none⟩ = some (.slice c2 m2 q2)) from fun X Y h s => ⟨bcell h s.1, bcell h s.2.1, bcell h s.2.2.1, bcell h s.2.2.2.1, bcell h s.2.2.2.2.1, bcell h s.2.2.2.2.2⟩)
  go_region_held3 (fun w' => w'.cell? ⟨w.heap.size, 1, none⟩ = some (.slice (some ⟨b, off, none⟩) 2 cap) ∧ w'.cell? ⟨b, off, none⟩ = some (.int .i64 k1) ∧ w'.cell? ⟨b, off + 1, none⟩ = some (.slice c1 m1 q1) ∧ w'.cell? ⟨w.heap.size, 0, none⟩ = some (.int .i64 5) ∧ w'.cell? ⟨b, off + 2, none⟩ = some (.int .i64 k2) ∧ w'.cell? ⟨b, off + 3, none⟩ = some (.slice c2 m2 q2))
    (repeat (first | with_reducible refine hSb.out _ _ hb3 ?_ | with_reducible refine hSb.out _ _ hb2 ?_ | with_reducible refine hSb.out _ _ hb1 ?_ | with_reducible exact hS0.out))
    (first | (go_at_call 24; ((with_reducible refine (H1.out _ _ (ht1.below bal1.drew)).mono ?_); rintro e w1 ⟨rfl, hb1⟩)) | (go_at_call 38; ((with_reducible refine (implSign5 _).mono ?_); rintro e w2 ⟨rfl, hb2⟩)) | (go_at_call 24; ((with_reducible refine (H2.out _ _ (ht2.below (bstep (bstep bal1.drew hb1) hb2))).mono ?_); rintro e w3 ⟨rfl, hb3⟩)))
  clear s0_ s1_ s2_ s3_ s4_ s5_
  have hB := (bstep (bstep (bstep bal1.drew hb1) hb2) hb3)
  have zw3 := hB.size
  go_wp2_with fail
  refine bodyPost_ret (v := .string ((⟨#[40]⟩ : ByteArray) ++ x1 ++ (⟨#[42]⟩ : ByteArray) ++ x2 ++ (⟨#[41]⟩ : ByteArray))) (by simp [results, Try.results24, go_sem]) rfl ?_
  exact ⟨rfl, hB⟩

theorem implTypeText (F : Nat → Prop) : ∀ (s : S) (y : Value) (w : World), TyRep F w s.ty y → s.ok = true → s.dep ≤ 4 → Calls Try.prog 24 #[y] w fun e w' => e = .returned (.string s.bs) ∧ Below w.heap.size w w'
  | .zero, _, _, _, h, _ => by cases h
  | .any, y, w, hy, _, _ => implTypeText_1 F y w hy
  | .int, y, w, hy, _, _ => implTypeText_2 F y w hy
  | .bool, y, w, hy, _, _ => implTypeText_3 F y w hy
  | .fn a b, y, w, hy, h, hd => by
    simp [S.ok] at h
    simp only [S.dep] at hd
    exact implTypeText_4 F a.ty b.ty a.bs b.bs (by have := S.bs_size (s := a) (by omega); omega) (by have := S.bs_size (s := b) (by omega); omega) y w hy (fun W y hy => implTypeText F a y W hy h.1 (by omega)) (fun W y hy => implTypeText F b y W hy h.2 (by omega))
  | .pr a b, y, w, hy, h, hd => by
    simp [S.ok] at h
    simp only [S.dep] at hd
    exact implTypeText_5 F a.ty b.ty a.bs b.bs (by have := S.bs_size (s := a) (by omega); omega) (by have := S.bs_size (s := b) (by omega); omega) y w hy (fun W y hy => implTypeText F a y W hy h.1 (by omega)) (fun W y hy => implTypeText F b y W hy h.2 (by omega))
theorem implTypeTextV (F : Nat → Prop) (t : Ty) (hv : t.valid = true) (y : Value) (w : World) (hy : TyRep F w t y) : Calls Try.prog 24 #[y] w fun e w' => e = .returned (.string (fmtB t)) ∧ Below w.heap.size w w' := by
  obtain ⟨s, rfl, hs⟩ := Ty.valid_S hv
  rw [fmtB_ty hs]
  exact implTypeText F s y w hy (S.vd_ok hs) (S.vd_dep hs)

set_option maxHeartbeats 4000000 in
theorem implFormatType (F : Nat → Prop) (t : Ty) (y : Value) (w : World) (h1 : TyRep F w t y) :
    Calls Try.prog 11 #[y] w fun e w' => e = .returned (.string (fmtB t)) ∧ Below w.heap.size w w' := by
  obtain ⟨k1, a1, n1, q1, rfl⟩ := h1.shape
  go_enter Try.func11, Try.ntmps11
  go_wp2_with fail
  refine (implTypeValid _ t _ _ (h1.below bal1)).mono ?_
  rintro e w1 ⟨rfl, hb1⟩
  have hB := (bstep bal1 hb1)
  have zw1 := hB.size
  have c0_0 : w1.cell? ⟨w.heap.size, 0, none⟩ = some (.int .i64 k1) := bcell hb1 (cell_new (by simp) 0)
  have c0_1 : w1.cell? ⟨w.heap.size, 1, none⟩ = some (.slice a1 n1 q1) := bcell hb1 (cell_new (by simp) 1)
  have d0_w1 := World.block_lt_of_cell? _ _ c0_0
  rcases Bool.eq_false_or_eq_true (t.valid) with q1 | q1
  · (try rw [q1])
    have Hq1 := Lib.hid q1
    clear q1
    go_wp2_with fail
    refine (implTypeTextV _ t Hq1.out _ _ (h1.below hB)).mono ?_
    rintro e w2 ⟨rfl, hb2⟩
    replace hB := (bstep hB hb2)
    have zw2 := hB.size
    go_wp2_with fail
    refine bodyPost_ret (v := .string (fmtB t)) (by simp [results, Try.results11, go_sem]) rfl ?_
    exact ⟨rfl, hB⟩
  · (try rw [q1])
    have Hq1 := Lib.hid q1
    clear q1
    go_wp2_with fail
    have hz := fmtB_bad Hq1.out
    refine bodyPost_ret (v := .string (⟨#[]⟩ : ByteArray)) (by simp [results, Try.results11, go_sem]) rfl ?_
    exact ⟨by rw [hz], hB⟩

set_option maxHeartbeats 2000000 in
theorem specL1Text_1 (F : Nat → Prop) (y : Value) (w : World) (hy : TyRep F w (.mk 1 []) y) :
    Calls Try.prog 25 #[y] w fun e w' => e = .returned (.string ⟨#[63]⟩) ∧ Below w.heap.size w w' := by
  obtain ⟨a, q, rfl, -, -, -⟩ := hy.open
  simp only [Ty.kind, Ty.kids, List.length_nil]
  go_enter Try.func25, Try.ntmps25
  go_wp2_with fail
  refine bodyPost_ret (v := .string ((⟨#[63]⟩ : ByteArray))) (by simp [results, Try.results25, go_sem]) rfl ?_
  exact ⟨rfl, bal1⟩

set_option maxHeartbeats 2000000 in
theorem specL1Text_2 (F : Nat → Prop) (y : Value) (w : World) (hy : TyRep F w (.mk 2 []) y) :
    Calls Try.prog 25 #[y] w fun e w' => e = .returned (.string ⟨#[73]⟩) ∧ Below w.heap.size w w' := by
  obtain ⟨a, q, rfl, -, -, -⟩ := hy.open
  simp only [Ty.kind, Ty.kids, List.length_nil]
  go_enter Try.func25, Try.ntmps25
  go_wp2_with fail
  refine bodyPost_ret (v := .string ((⟨#[73]⟩ : ByteArray))) (by simp [results, Try.results25, go_sem]) rfl ?_
  exact ⟨rfl, bal1⟩

set_option maxHeartbeats 2000000 in
theorem specL1Text_3 (F : Nat → Prop) (y : Value) (w : World) (hy : TyRep F w (.mk 3 []) y) :
    Calls Try.prog 25 #[y] w fun e w' => e = .returned (.string ⟨#[66]⟩) ∧ Below w.heap.size w w' := by
  obtain ⟨a, q, rfl, -, -, -⟩ := hy.open
  simp only [Ty.kind, Ty.kids, List.length_nil]
  go_enter Try.func25, Try.ntmps25
  go_wp2_with fail
  refine bodyPost_ret (v := .string ((⟨#[66]⟩ : ByteArray))) (by simp [results, Try.results25, go_sem]) rfl ?_
  exact ⟨rfl, bal1⟩

set_option maxHeartbeats 8000000 in
theorem specL1Text_4 (F : Nat → Prop) (t1 t2 : Ty) (x1 x2 : ByteArray) (z1 : x1.size ≤ 100) (z2 : x2.size ≤ 100) (y : Value) (w : World) (hy : TyRep F w (.mk 4 [t1, t2]) y)
    (IH1 : ∀ (W : World) (y : Value), TyRep F W t1 y → Calls Try.prog 25 #[y] W fun e w' => e = .returned (.string x1) ∧ Below W.heap.size W w')
    (IH2 : ∀ (W : World) (y : Value), TyRep F W t2 y → Calls Try.prog 25 #[y] W fun e w' => e = .returned (.string x2) ∧ Below W.heap.size W w') :
    Calls Try.prog 25 #[y] w fun e w' => e = .returned (.string ((⟨#[40]⟩ : ByteArray) ++ x1 ++ (⟨#[62]⟩ : ByteArray) ++ x2 ++ (⟨#[41]⟩ : ByteArray))) ∧ Below w.heap.size w w' := by
  obtain ⟨ys, rfl, hys⟩ := hy
  obtain ⟨b, off, cap, k1, c1, m1, q1, k2, c2, m2, q2, rfl, g2, g3, hb, e0, e1, e2, e3, ht1, ht2⟩ := TysRep.two hys
  simp only [Ty.kind, Ty.kids] at *
  have H1 := Lib.hid IH1
  have H2 := Lib.hid IH2
  clear IH1 IH2 hys
  go_enter Try.func25, Try.ntmps25
  go_wp2_with fail
  have hst : ¬ (9223372036854775807 < 1 + x1.size) := by omega
  have hst : ¬ (9223372036854775807 < 1 + x1.size + 1) := by omega
  have hst : ¬ (9223372036854775807 < 1 + x1.size + 1 + x2.size) := by omega
  have hst : ¬ (9223372036854775807 < 1 + x1.size + 1 + x2.size + 1) := by omega
  have s0_ : (World.alloc w (Obj.cells #[.int .i64 4, .slice (some ⟨b, off, none⟩) 2 cap] 24)).cell? ⟨w.heap.size, 1, none⟩ = some (.slice (some ⟨b, off, none⟩) 2 cap) := cell_new (by simp) 1
  have s1_ : (World.alloc w (Obj.cells #[.int .i64 4, .slice (some ⟨b, off, none⟩) 2 cap] 24)).cell? ⟨b, off, none⟩ = some (.int .i64 k1) := bcell bal1 (e0)
  have s2_ : (World.alloc w (Obj.cells #[.int .i64 4, .slice (some ⟨b, off, none⟩) 2 cap] 24)).cell? ⟨b, off + 1, none⟩ = some (.slice c1 m1 q1) := bcell bal1 (e1)
  have s3_ : (World.alloc w (Obj.cells #[.int .i64 4, .slice (some ⟨b, off, none⟩) 2 cap] 24)).cell? ⟨b, off + 2, none⟩ = some (.int .i64 k2) := bcell bal1 (e2)
  have s4_ : (World.alloc w (Obj.cells #[.int .i64 4, .slice (some ⟨b, off, none⟩) 2 cap] 24)).cell? ⟨b, off + 3, none⟩ = some (.slice c2 m2 q2) := bcell bal1 (e3)
  have hS0 := Lib.hid (show (World.drew (World.alloc w (Obj.cells #[.int .i64 4, .slice (some ⟨b, off, none⟩) 2 cap] 24))).cell? ⟨w.heap.size, 1, none⟩ = some (.slice (some ⟨b, off, none⟩) 2 cap) ∧ (World.drew (World.alloc w (Obj.cells #[.int .i64 4, .slice (some ⟨b, off, none⟩) 2 cap] 24))).cell? ⟨b, off, none⟩ = some (.int .i64 k1) ∧ (World.drew (World.alloc w (Obj.cells #[.int .i64 4, .slice (some ⟨b, off, none⟩) 2 cap] 24))).cell? ⟨b, off + 1, none⟩ = some (.slice c1 m1 q1) ∧ (World.drew (World.alloc w (Obj.cells #[.int .i64 4, .slice (some ⟨b, off, none⟩) 2 cap] 24))).cell? ⟨b, off + 2, none⟩ = some (.int .i64 k2) ∧ (World.drew (World.alloc w (Obj.cells #[.int .i64 4, .slice (some ⟨b, off, none⟩) 2 cap] 24))).cell? ⟨b, off + 3, none⟩ = some (.slice c2 m2 q2) from ⟨dcell (s0_), dcell (s1_), dcell (s2_), dcell (s3_), dcell (s4_)⟩)
  have hSb := Lib.hid (show ∀ X Y : World, Below X.heap.size X Y → (X.cell? ⟨w.heap.size, 1, none⟩ = some (.slice (some ⟨b, off, none⟩) 2 cap) ∧ X.cell? ⟨b, off, none⟩ = some (.int .i64 k1) ∧ X.cell? ⟨b, off + 1, none⟩ = some (.slice c1 m1 q1) ∧ X.cell? ⟨b, off + 2, none⟩ = some (.int .i64 k2) ∧ X.cell? ⟨b, off + 3, none⟩ = some (.slice c2 m2 q2)) → (Y.cell? ⟨w.heap.size, 1, none⟩ = some (.slice (some ⟨b, off, none⟩) 2 cap) ∧ Y.cell? ⟨b, off, none⟩ = some (.int .i64 k1) ∧ Y.cell? ⟨b, off + 1, none⟩ = some (.slice c1 m1 q1) ∧ Y.cell? ⟨b, off + 2, none⟩ = some (.int .i64 k2) ∧ Y.cell? ⟨b, off + 3, none⟩ = some (.slice c2 m2 q2)) from fun X Y h s => ⟨bcell h s.1, bcell h s.2.1, bcell h s.2.2.1, bcell h s.2.2.2.1, bcell h s.2.2.2.2⟩)
  go_region_held3 (fun w' => w'.cell? ⟨w.heap.size, 1, none⟩ = some (.slice (some ⟨b, off, none⟩) 2 cap) ∧ w'.cell? ⟨b, off, none⟩ = some (.int .i64 k1) ∧ w'.cell? ⟨b, off + 1, none⟩ = some (.slice c1 m1 q1) ∧ w'.cell? ⟨b, off + 2, none⟩ = some (.int .i64 k2) ∧ w'.cell? ⟨b, off + 3, none⟩ = some (.slice c2 m2 q2))
    (repeat (first | with_reducible refine hSb.out _ _ hb2 ?_ | with_reducible refine hSb.out _ _ hb1 ?_ | with_reducible exact hS0.out))
    (first | (go_at_call 25; ((with_reducible refine (H1.out _ _ (ht1.below bal1.drew)).mono ?_); rintro e w1 ⟨rfl, hb1⟩)) | (go_at_call 25; ((with_reducible refine (H2.out _ _ (ht2.below (bstep bal1.drew hb1))).mono ?_); rintro e w2 ⟨rfl, hb2⟩)))
  clear s0_ s1_ s2_ s3_ s4_
  have hB := (bstep (bstep bal1.drew hb1) hb2)
  have zw2 := hB.size
  go_wp2_with fail
  refine bodyPost_ret (v := .string ((⟨#[40]⟩ : ByteArray) ++ x1 ++ (⟨#[62]⟩ : ByteArray) ++ x2 ++ (⟨#[41]⟩ : ByteArray))) (by simp [results, Try.results25, go_sem]) rfl ?_
  exact ⟨rfl, hB⟩

set_option maxHeartbeats 8000000 in
theorem specL1Text_5 (F : Nat → Prop) (t1 t2 : Ty) (x1 x2 : ByteArray) (z1 : x1.size ≤ 100) (z2 : x2.size ≤ 100) (y : Value) (w : World) (hy : TyRep F w (.mk 5 [t1, t2]) y)
    (IH1 : ∀ (W : World) (y : Value), TyRep F W t1 y → Calls Try.prog 25 #[y] W fun e w' => e = .returned (.string x1) ∧ Below W.heap.size W w')
    (IH2 : ∀ (W : World) (y : Value), TyRep F W t2 y → Calls Try.prog 25 #[y] W fun e w' => e = .returned (.string x2) ∧ Below W.heap.size W w') :
    Calls Try.prog 25 #[y] w fun e w' => e = .returned (.string ((⟨#[40]⟩ : ByteArray) ++ x1 ++ (⟨#[42]⟩ : ByteArray) ++ x2 ++ (⟨#[41]⟩ : ByteArray))) ∧ Below w.heap.size w w' := by
  obtain ⟨ys, rfl, hys⟩ := hy
  obtain ⟨b, off, cap, k1, c1, m1, q1, k2, c2, m2, q2, rfl, g2, g3, hb, e0, e1, e2, e3, ht1, ht2⟩ := TysRep.two hys
  simp only [Ty.kind, Ty.kids] at *
  have H1 := Lib.hid IH1
  have H2 := Lib.hid IH2
  clear IH1 IH2 hys
  go_enter Try.func25, Try.ntmps25
  go_wp2_with fail
  have hst : ¬ (9223372036854775807 < 1 + x1.size) := by omega
  have hst : ¬ (9223372036854775807 < 1 + x1.size + 1) := by omega
  have hst : ¬ (9223372036854775807 < 1 + x1.size + 1 + x2.size) := by omega
  have hst : ¬ (9223372036854775807 < 1 + x1.size + 1 + x2.size + 1) := by omega
  have s0_ : (World.alloc w (Obj.cells #[.int .i64 5, .slice (some ⟨b, off, none⟩) 2 cap] 24)).cell? ⟨w.heap.size, 1, none⟩ = some (.slice (some ⟨b, off, none⟩) 2 cap) := cell_new (by simp) 1
  have s1_ : (World.alloc w (Obj.cells #[.int .i64 5, .slice (some ⟨b, off, none⟩) 2 cap] 24)).cell? ⟨b, off, none⟩ = some (.int .i64 k1) := bcell bal1 (e0)
  have s2_ : (World.alloc w (Obj.cells #[.int .i64 5, .slice (some ⟨b, off, none⟩) 2 cap] 24)).cell? ⟨b, off + 1, none⟩ = some (.slice c1 m1 q1) := bcell bal1 (e1)
  have s3_ : (World.alloc w (Obj.cells #[.int .i64 5, .slice (some ⟨b, off, none⟩) 2 cap] 24)).cell? ⟨b, off + 2, none⟩ = some (.int .i64 k2) := bcell bal1 (e2)
  have s4_ : (World.alloc w (Obj.cells #[.int .i64 5, .slice (some ⟨b, off, none⟩) 2 cap] 24)).cell? ⟨b, off + 3, none⟩ = some (.slice c2 m2 q2) := bcell bal1 (e3)
  have hS0 := Lib.hid (show (World.drew (World.alloc w (Obj.cells #[.int .i64 5, .slice (some ⟨b, off, none⟩) 2 cap] 24))).cell? ⟨w.heap.size, 1, none⟩ = some (.slice (some ⟨b, off, none⟩) 2 cap) ∧ (World.drew (World.alloc w (Obj.cells #[.int .i64 5, .slice (some ⟨b, off, none⟩) 2 cap] 24))).cell? ⟨b, off, none⟩ = some (.int .i64 k1) ∧ (World.drew (World.alloc w (Obj.cells #[.int .i64 5, .slice (some ⟨b, off, none⟩) 2 cap] 24))).cell? ⟨b, off + 1, none⟩ = some (.slice c1 m1 q1) ∧ (World.drew (World.alloc w (Obj.cells #[.int .i64 5, .slice (some ⟨b, off, none⟩) 2 cap] 24))).cell? ⟨b, off + 2, none⟩ = some (.int .i64 k2) ∧ (World.drew (World.alloc w (Obj.cells #[.int .i64 5, .slice (some ⟨b, off, none⟩) 2 cap] 24))).cell? ⟨b, off + 3, none⟩ = some (.slice c2 m2 q2) from ⟨dcell (s0_), dcell (s1_), dcell (s2_), dcell (s3_), dcell (s4_)⟩)
  have hSb := Lib.hid (show ∀ X Y : World, Below X.heap.size X Y → (X.cell? ⟨w.heap.size, 1, none⟩ = some (.slice (some ⟨b, off, none⟩) 2 cap) ∧ X.cell? ⟨b, off, none⟩ = some (.int .i64 k1) ∧ X.cell? ⟨b, off + 1, none⟩ = some (.slice c1 m1 q1) ∧ X.cell? ⟨b, off + 2, none⟩ = some (.int .i64 k2) ∧ X.cell? ⟨b, off + 3, none⟩ = some (.slice c2 m2 q2)) → (Y.cell? ⟨w.heap.size, 1, none⟩ = some (.slice (some ⟨b, off, none⟩) 2 cap) ∧ Y.cell? ⟨b, off, none⟩ = some (.int .i64 k1) ∧ Y.cell? ⟨b, off + 1, none⟩ = some (.slice c1 m1 q1) ∧ Y.cell? ⟨b, off + 2, none⟩ = some (.int .i64 k2) ∧ Y.cell? ⟨b, off + 3, none⟩ = some (.slice c2 m2 q2)) from fun X Y h s => ⟨bcell h s.1, bcell h s.2.1, bcell h s.2.2.1, bcell h s.2.2.2.1, bcell h s.2.2.2.2⟩)
  go_region_held3 (fun w' => w'.cell? ⟨w.heap.size, 1, none⟩ = some (.slice (some ⟨b, off, none⟩) 2 cap) ∧ w'.cell? ⟨b, off, none⟩ = some (.int .i64 k1) ∧ w'.cell? ⟨b, off + 1, none⟩ = some (.slice c1 m1 q1) ∧ w'.cell? ⟨b, off + 2, none⟩ = some (.int .i64 k2) ∧ w'.cell? ⟨b, off + 3, none⟩ = some (.slice c2 m2 q2))
    (repeat (first | with_reducible refine hSb.out _ _ hb2 ?_ | with_reducible refine hSb.out _ _ hb1 ?_ | with_reducible exact hS0.out))
    (first | (go_at_call 25; ((with_reducible refine (H1.out _ _ (ht1.below bal1.drew)).mono ?_); rintro e w1 ⟨rfl, hb1⟩)) | (go_at_call 25; ((with_reducible refine (H2.out _ _ (ht2.below (bstep bal1.drew hb1))).mono ?_); rintro e w2 ⟨rfl, hb2⟩)))
  clear s0_ s1_ s2_ s3_ s4_
  have hB := (bstep (bstep bal1.drew hb1) hb2)
  have zw2 := hB.size
  go_wp2_with fail
  refine bodyPost_ret (v := .string ((⟨#[40]⟩ : ByteArray) ++ x1 ++ (⟨#[42]⟩ : ByteArray) ++ x2 ++ (⟨#[41]⟩ : ByteArray))) (by simp [results, Try.results25, go_sem]) rfl ?_
  exact ⟨rfl, hB⟩

theorem specL1Text (F : Nat → Prop) : ∀ (s : S) (y : Value) (w : World), TyRep F w s.ty y → s.ok = true → s.dep ≤ 4 → Calls Try.prog 25 #[y] w fun e w' => e = .returned (.string s.bs) ∧ Below w.heap.size w w'
  | .zero, _, _, _, h, _ => by cases h
  | .any, y, w, hy, _, _ => specL1Text_1 F y w hy
  | .int, y, w, hy, _, _ => specL1Text_2 F y w hy
  | .bool, y, w, hy, _, _ => specL1Text_3 F y w hy
  | .fn a b, y, w, hy, h, hd => by
    simp [S.ok] at h
    simp only [S.dep] at hd
    exact specL1Text_4 F a.ty b.ty a.bs b.bs (by have := S.bs_size (s := a) (by omega); omega) (by have := S.bs_size (s := b) (by omega); omega) y w hy (fun W y hy => specL1Text F a y W hy h.1 (by omega)) (fun W y hy => specL1Text F b y W hy h.2 (by omega))
  | .pr a b, y, w, hy, h, hd => by
    simp [S.ok] at h
    simp only [S.dep] at hd
    exact specL1Text_5 F a.ty b.ty a.bs b.bs (by have := S.bs_size (s := a) (by omega); omega) (by have := S.bs_size (s := b) (by omega); omega) y w hy (fun W y hy => specL1Text F a y W hy h.1 (by omega)) (fun W y hy => specL1Text F b y W hy h.2 (by omega))
theorem specL1TextV (F : Nat → Prop) (t : Ty) (hv : t.valid = true) (y : Value) (w : World) (hy : TyRep F w t y) : Calls Try.prog 25 #[y] w fun e w' => e = .returned (.string (fmtB t)) ∧ Below w.heap.size w w' := by
  obtain ⟨s, rfl, hs⟩ := Ty.valid_S hv
  rw [fmtB_ty hs]
  exact specL1Text F s y w hy (S.vd_ok hs) (S.vd_dep hs)

set_option maxHeartbeats 4000000 in
theorem specFormatType (F : Nat → Prop) (t : Ty) (y : Value) (w : World) (h1 : TyRep F w t y) :
    Calls Try.prog 12 #[y] w fun e w' => e = .returned (.string (fmtB t)) ∧ Below w.heap.size w w' := by
  obtain ⟨k1, a1, n1, q1, rfl⟩ := h1.shape
  go_enter Try.func12, Try.ntmps12
  go_wp2_with fail
  refine (specTypeValid _ t _ _ (h1.below bal1)).mono ?_
  rintro e w1 ⟨rfl, hb1⟩
  have hB := (bstep bal1 hb1)
  have zw1 := hB.size
  have c0_0 : w1.cell? ⟨w.heap.size, 0, none⟩ = some (.int .i64 k1) := bcell hb1 (cell_new (by simp) 0)
  have c0_1 : w1.cell? ⟨w.heap.size, 1, none⟩ = some (.slice a1 n1 q1) := bcell hb1 (cell_new (by simp) 1)
  have d0_w1 := World.block_lt_of_cell? _ _ c0_0
  rcases Bool.eq_false_or_eq_true (t.valid) with q1 | q1
  · (try rw [q1])
    have Hq1 := Lib.hid q1
    clear q1
    go_wp2_with fail
    refine (specL1TextV _ t Hq1.out _ _ (h1.below hB)).mono ?_
    rintro e w2 ⟨rfl, hb2⟩
    replace hB := (bstep hB hb2)
    have zw2 := hB.size
    go_wp2_with fail
    refine bodyPost_ret (v := .string (fmtB t)) (by simp [results, Try.results12, go_sem]) rfl ?_
    exact ⟨rfl, hB⟩
  · (try rw [q1])
    have Hq1 := Lib.hid q1
    clear q1
    go_wp2_with fail
    have hz := fmtB_bad Hq1.out
    refine bodyPost_ret (v := .string (⟨#[]⟩ : ByteArray)) (by simp [results, Try.results12, go_sem]) rfl ?_
    exact ⟨by rw [hz], hB⟩

end Go.Proofs.Ytikkneahhgmdjaa
