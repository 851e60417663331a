/-
  Terms in memory of one's own.
-/
import Derived.Test.YtghgjpcibdfbmaaOwn
import Derived.Test.YtghgjpcibdfbmaaTm
namespace Go.Proofs.Ytghgjpcibdfbmaa
open Go.RowKit
set_option linter.unusedVariables false
set_option linter.unusedSimpArgs false
set_option maxRecDepth 100000


def TmOwn (w : World) (t : Tm) (y : Value) (fp : List Nat) : Prop := ∃ s1 s2 s f1 f2 f3, y = .agg #[.int .i64 t.kind, .string t.name, .int .i64 t.num, .int .i64 t.type.kind, s1, .int .i64 t.src.kind, s2, .int .i64 t.label, s] ∧ fp = f1 ++ (f2 ++ f3) ∧ t.name.size ≤ maxLen ∧
  COwn w (.sl (Ty.rows t.type.kids)) s1 f1 ∧ COwn w (.sl (Ty.rows t.src.kids)) s2 f2 ∧ COwn w (.sl (Tm.rows t.kids)) s f3
def TmsOwn (w : World) (ts : List Tm) (y : Value) (fp : List Nat) : Prop := COwn w (.sl (Tm.rows ts)) y fp
def TmNew (B : Nat) (w : World) (t : Tm) (y : Value) : Prop := ∃ fp, TmOwn w t y fp ∧ fp.Nodup ∧ ∀ b ∈ fp, B ≤ b
def TmsNew (B : Nat) (w : World) (ts : List Tm) (y : Value) : Prop := ∃ fp, TmsOwn w ts y fp ∧ fp.Nodup ∧ ∀ b ∈ fp, B ≤ b
theorem TmOwn.below {w w' : World} {t : Tm} {y : Value} {fp : List Nat} (h : TmOwn w t y fp) (k : Below w.heap.size w w') : TmOwn w' t y fp := by
  obtain ⟨s1, s2, s, f1, f2, f3, rfl, rfl, hn, h1, h2, h3⟩ := h
  exact ⟨s1, s2, s, f1, f2, f3, rfl, rfl, hn, h1.move _ _ _ fun b hb => k.block b (h1.lt _ _ _ b hb), h2.move _ _ _ fun b hb => k.block b (h2.lt _ _ _ b hb), h3.move _ _ _ fun b hb => k.block b (h3.lt _ _ _ b hb)⟩
theorem TmOwn.rep {w : World} {t : Tm} {y : Value} {fp : List Nat} (h : TmOwn w t y fp) : TmRep (· ∈ fp) w t y := by
  obtain ⟨s1, s2, s, f1, f2, f3, rfl, rfl, hn, h1, h2, h3⟩ := h
  exact ⟨s1, s2, s, rfl, hn, h1.rep _ _ _ (fun b hb => by simp [hb]), h2.rep _ _ _ (fun b hb => by simp [hb]), h3.rep _ _ _ (fun b hb => by simp [hb])⟩
theorem TmNew.below {B : Nat} {w w' : World} {t : Tm} {y : Value} (h : TmNew B w t y) (k : Below w.heap.size w w') : TmNew B w' t y :=
  let ⟨fp, h1, h2, h3⟩ := h; ⟨fp, h1.below k, h2, h3⟩
theorem TmNew.rep {B : Nat} {w : World} {t : Tm} {y : Value} (h : TmNew B w t y) : TmRep (B ≤ ·) w t y :=
  let ⟨fp, h1, _, h3⟩ := h; h1.rep.move (.weaken fun b hb _ => h3 b hb)
theorem TmsNew.rep {B : Nat} {w : World} {ts : List Tm} {y : Value} (h : TmsNew B w ts y) : TmsRep (B ≤ ·) w ts y :=
  let ⟨_, h1, _, h3⟩ := h; COwn.rep _ _ _ (fun b hb => h3 b hb) h1
theorem TmsNew.below {B : Nat} {w w' : World} {ts : List Tm} {y : Value} (h : TmsNew B w ts y) (k : Below w.heap.size w w') : TmsNew B w' ts y :=
  let ⟨fp, h1, h2, h3⟩ := h; ⟨fp, COwn.move _ _ _ (fun b hb => k.block b (COwn.lt _ _ _ h1 b hb)) h1, h2, h3⟩
theorem TmNew.shape {B : Nat} {w : World} {t : Tm} {y : Value} (h : TmNew B w t y) : ∃ k nm u tk ta tn tq fk fa fn fq l c m q, y = .agg #[.int .i64 k, .string nm, .int .i64 u, .int .i64 tk, .slice ta tn tq, .int .i64 fk, .slice fa fn fq, .int .i64 l, .slice c m q] := h.rep.shape
theorem TmNew.mono {B B' : Nat} {w : World} {t : Tm} {y : Value} (h : TmNew B w t y) (hB : B' ≤ B) : TmNew B' w t y :=
  let ⟨fp, h1, h2, h3⟩ := h; ⟨fp, h1, h2, fun b hb => Nat.le_trans hB (h3 b hb)⟩
theorem TmsNew.mono {B B' : Nat} {w : World} {t : List Tm} {y : Value} (h : TmsNew B w t y) (hB : B' ≤ B) : TmsNew B' w t y :=
  let ⟨fp, h1, h2, h3⟩ := h; ⟨fp, h1, h2, fun b hb => Nat.le_trans hB (h3 b hb)⟩
theorem TmsNew.open_slice {B : Nat} {w : World} {ts : List Tm} {y : Value} (h : TmsNew B w ts y) : ∃ a q, y = .slice a ts.length q := by
  obtain ⟨fp, h, _⟩ := h
  unfold TmsOwn COwn at h
  obtain ⟨a, q, h, _⟩ := h
  rw [Tm.rows_length] at h
  exact ⟨a, q, h⟩
theorem TmsNew.setCell {B : Nat} {w : World} {ts : List Tm} {y : Value} (h : TmsNew B w ts y) {p : Addr} (hp : p.block < B) (v : Value) : TmsNew B (w.setCell p v) ts y := by
  obtain ⟨fp, h1, h2, h3⟩ := h
  exact ⟨fp, COwn.move _ _ _ (fun b hb => Below.heap_setCell w p v b (by have := h3 b hb; omega)) h1, h2, h3⟩
theorem TmNew.setCell {B : Nat} {w : World} {t : Tm} {y : Value} (h : TmNew B w t y) {p : Addr} (hp : p.block < B) (v : Value) : TmNew B (w.setCell p v) t y := by
  obtain ⟨fp, ⟨s1, s2, s, f1, f2, f3, rfl, rfl, hn, h1, h2, h3⟩, hd, hx⟩ := h
  have hk : ∀ b ∈ f1 ++ (f2 ++ f3), (w.setCell p v).heap[b]? = w.heap[b]? := fun b hb => Below.heap_setCell w p v b (by have := hx b hb; omega)
  exact ⟨_, ⟨s1, s2, s, f1, f2, f3, rfl, rfl, hn, COwn.move _ _ _ (fun b hb => hk b (by simp [hb])) h1, COwn.move _ _ _ (fun b hb => hk b (by simp [hb])) h2, COwn.move _ _ _ (fun b hb => hk b (by simp [hb])) h3⟩, hd, hx⟩
theorem TmNew.nil {B : Nat} {w : World} {k u l : Int} {nm : ByteArray} (hn : nm.size ≤ maxLen) : TmNew B w (.mk k nm u (.mk 0 []) (.mk 0 []) l []) (.agg #[.int .i64 k, .string nm, .int .i64 u, .int .i64 0, .slice none 0 0, .int .i64 0, .slice none 0 0, .int .i64 l, .slice none 0 0]) := by
  have z : COwn w (.sl []) (.slice none 0 0) [] := by unfold COwn; exact ⟨none, 0, rfl, Nat.le_refl _, by unfold maxLen; omega, .inl ⟨rfl, rfl⟩⟩
  refine ⟨[], ⟨_, _, _, [], [], [], rfl, rfl, hn, ?_, ?_, ?_⟩, by simp, by simp⟩
  · simp only [Tm.type, Ty.kids, Ty.rows]; exact z
  · simp only [Tm.src, Ty.kids, Ty.rows]; exact z
  · simp only [Tm.kids, Tm.rows]; exact z
theorem Tm.flatten_length (ts : List Tm) : (Tm.rows ts).flatten.length = ts.length * 9 := by
  induction ts with
  | nil => unfold Tm.rows; rfl
  | cons t ts ih => unfold Tm.rows; rw [List.flatten_cons, List.length_append, ih, t.row_length, List.length_cons]; omega
theorem TmNew.open {B : Nat} {w : World} {t : Tm} {y : Value} (h : TmNew B w t y) : ∃ k nm u tk ta tn tq fk fa fn fq l c m q fp, y = .agg #[.int .i64 k, .string nm, .int .i64 u, .int .i64 tk, .slice ta tn tq, .int .i64 fk, .slice fa fn fq, .int .i64 l, .slice c m q] ∧ SOwn w t.row [.int .i64 k, .string nm, .int .i64 u, .int .i64 tk, .slice ta tn tq, .int .i64 fk, .slice fa fn fq, .int .i64 l, .slice c m q] fp ∧ fp.Nodup ∧ ∀ b ∈ fp, B ≤ b := by
  obtain ⟨fp, ⟨s1, s2, s, f1, f2, f3, rfl, rfl, hn, h1, h2, h3⟩, hd, hx⟩ := h
  obtain ⟨ta, tq, rfl, -⟩ := CRep.rows (COwn.rep _ _ _ (F := fun _ => True) (fun _ _ => trivial) h1)
  obtain ⟨fa, fq, rfl, -⟩ := CRep.rows (COwn.rep _ _ _ (F := fun _ => True) (fun _ _ => trivial) h2)
  obtain ⟨c, q, rfl, -⟩ := CRep.rows (COwn.rep _ _ _ (F := fun _ => True) (fun _ _ => trivial) h3)
  refine ⟨_, _, _, _, ta, _, tq, _, fa, _, fq, _, c, _, q, _, rfl, ?_, hd, hx⟩
  cases t with | mk k nm u t f l ts =>
  simp only [Tm.kind, Tm.name, Tm.num, Tm.type, Tm.src, Tm.label, Tm.kids] at *
  unfold Tm.row
  have i1 : ∀ n : Int, COwn w (.int n) (.int .i64 n) [] := fun n => by unfold COwn; exact ⟨rfl, rfl⟩
  have i2 : COwn w (.str nm) (.string nm) [] := by unfold COwn; exact ⟨rfl, hn, rfl⟩
  exact ⟨_, _, [], _, rfl, rfl, i1 _, _, _, [], _, rfl, rfl, i2, _, _, [], _, rfl, rfl, i1 _, _, _, [], _, rfl, rfl, i1 _, _, _, f1, _, rfl, rfl, h1, _, _, [], _, rfl, rfl, i1 _, _, _, f2, _, rfl, rfl, h2, _, _, [], _, rfl, rfl, i1 _, _, _, f3, [], rfl, by simp, h3, rfl, rfl⟩
end Go.Proofs.Ytghgjpcibdfbmaa
