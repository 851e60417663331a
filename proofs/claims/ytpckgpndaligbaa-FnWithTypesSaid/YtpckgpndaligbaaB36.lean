/-
  Terms in memory of one's own.
  The laws' helpers at terms: size, copy, equality.
  A term each node of which is changed by a function value.
  A term without casts and types: what it is.
  A term with other types: what it is.
  The laws' helpers that look whether a type is as written.
-/
import Derived.Test.YtpckgpndaligbaaB1
import Derived.Test.YtpckgpndaligbaaB4
import Derived.Test.YtpckgpndaligbaaRows
import Derived.Test.YtpckgpndaligbaaB28
import Derived.Handy
import Derived.IntWalk
import Derived.Deep.RegionHeld3
import Derived.Test.YtpckgpndaligbaaB29
import Derived.Test.YtpckgpndaligbaaB6
import Derived.Test.YtpckgpndaligbaaB14
import Derived.Test.YtpckgpndaligbaaTmTys
import Derived.Test.YtpckgpndaligbaaB2
namespace Go.Proofs.Ytpckgpndaligbaa
open Go.RowKit
set_option linter.unusedVariables false
set_option linter.unusedSimpArgs false
set_option maxRecDepth 100000


def TmOwn (w : World) (t : Tm) (y : Value) (fp : List Nat) : Prop := ∃ s1 s2 s f1 f2 f3, y = .agg #[.int .i64 t.kind, .string t.name, .int .i64 t.num, .int .i64 t.type.kind, s1, .int .i64 t.src.kind, s2, .int .i64 t.label, s] ∧ fp = f1 ++ (f2 ++ f3) ∧ t.name.size ≤ maxLen ∧
  COwn w (.sl (Ty.rows t.type.kids)) s1 f1 ∧ COwn w (.sl (Ty.rows t.src.kids)) s2 f2 ∧ COwn w (.sl (Tm.rows t.kids)) s f3
def TmsOwn (w : World) (ts : List Tm) (y : Value) (fp : List Nat) : Prop := COwn w (.sl (Tm.rows ts)) y fp
def TmNew (B : Nat) (w : World) (t : Tm) (y : Value) : Prop := ∃ fp, TmOwn w t y fp ∧ fp.Nodup ∧ ∀ b ∈ fp, B ≤ b
def TmsNew (B : Nat) (w : World) (ts : List Tm) (y : Value) : Prop := ∃ fp, TmsOwn w ts y fp ∧ fp.Nodup ∧ ∀ b ∈ fp, B ≤ b
theorem TmOwn.below {w w' : World} {t : Tm} {y : Value} {fp : List Nat} (h : TmOwn w t y fp) (k : Below w.heap.size w w') : TmOwn w' t y fp := by
  obtain ⟨s1, s2, s, f1, f2, f3, rfl, rfl, hn, h1, h2, h3⟩ := h
  exact ⟨s1, s2, s, f1, f2, f3, rfl, rfl, hn, h1.move _ _ _ fun b hb => k.block b (h1.lt _ _ _ b hb), h2.move _ _ _ fun b hb => k.block b (h2.lt _ _ _ b hb), h3.move _ _ _ fun b hb => k.block b (h3.lt _ _ _ b hb)⟩
theorem TmOwn.rep {w : World} {t : Tm} {y : Value} {fp : List Nat} (h : TmOwn w t y fp) : TmRep (· ∈ fp) w t y := by
  obtain ⟨s1, s2, s, f1, f2, f3, rfl, rfl, hn, h1, h2, h3⟩ := h
  exact ⟨s1, s2, s, rfl, hn, h1.rep _ _ _ (fun b hb => by simp [hb]), h2.rep _ _ _ (fun b hb => by simp [hb]), h3.rep _ _ _ (fun b hb => by simp [hb])⟩
theorem TmNew.below {B : Nat} {w w' : World} {t : Tm} {y : Value} (h : TmNew B w t y) (k : Below w.heap.size w w') : TmNew B w' t y :=
  let ⟨fp, h1, h2, h3⟩ := h; ⟨fp, h1.below k, h2, h3⟩
theorem TmNew.rep {B : Nat} {w : World} {t : Tm} {y : Value} (h : TmNew B w t y) : TmRep (B ≤ ·) w t y :=
  let ⟨fp, h1, _, h3⟩ := h; h1.rep.move (.weaken fun b hb _ => h3 b hb)
theorem TmsNew.rep {B : Nat} {w : World} {ts : List Tm} {y : Value} (h : TmsNew B w ts y) : TmsRep (B ≤ ·) w ts y :=
  let ⟨_, h1, _, h3⟩ := h; COwn.rep _ _ _ (fun b hb => h3 b hb) h1
theorem TmsNew.below {B : Nat} {w w' : World} {ts : List Tm} {y : Value} (h : TmsNew B w ts y) (k : Below w.heap.size w w') : TmsNew B w' ts y :=
  let ⟨fp, h1, h2, h3⟩ := h; ⟨fp, COwn.move _ _ _ (fun b hb => k.block b (COwn.lt _ _ _ h1 b hb)) h1, h2, h3⟩
theorem TmNew.shape {B : Nat} {w : World} {t : Tm} {y : Value} (h : TmNew B w t y) : ∃ k nm u tk ta tn tq fk fa fn fq l c m q, y = .agg #[.int .i64 k, .string nm, .int .i64 u, .int .i64 tk, .slice ta tn tq, .int .i64 fk, .slice fa fn fq, .int .i64 l, .slice c m q] := h.rep.shape
theorem TmNew.mono {B B' : Nat} {w : World} {t : Tm} {y : Value} (h : TmNew B w t y) (hB : B' ≤ B) : TmNew B' w t y :=
  let ⟨fp, h1, h2, h3⟩ := h; ⟨fp, h1, h2, fun b hb => Nat.le_trans hB (h3 b hb)⟩
theorem TmsNew.mono {B B' : Nat} {w : World} {t : List Tm} {y : Value} (h : TmsNew B w t y) (hB : B' ≤ B) : TmsNew B' w t y :=
  let ⟨fp, h1, h2, h3⟩ := h; ⟨fp, h1, h2, fun b hb => Nat.le_trans hB (h3 b hb)⟩
theorem TmsNew.open_slice {B : Nat} {w : World} {ts : List Tm} {y : Value} (h : TmsNew B w ts y) : ∃ a q, y = .slice a ts.length q := by
  obtain ⟨fp, h, _⟩ := h
  unfold TmsOwn COwn at h
  obtain ⟨a, q, h, _⟩ := h
  rw [Tm.rows_length] at h
  exact ⟨a, q, h⟩
theorem TmsNew.setCell {B : Nat} {w : World} {ts : List Tm} {y : Value} (h : TmsNew B w ts y) {p : Addr} (hp : p.block < B) (v : Value) : TmsNew B (w.setCell p v) ts y := by
  obtain ⟨fp, h1, h2, h3⟩ := h
  exact ⟨fp, COwn.move _ _ _ (fun b hb => Below.heap_setCell w p v b (by have := h3 b hb; omega)) h1, h2, h3⟩
theorem TmNew.setCell {B : Nat} {w : World} {t : Tm} {y : Value} (h : TmNew B w t y) {p : Addr} (hp : p.block < B) (v : Value) : TmNew B (w.setCell p v) t y := by
  obtain ⟨fp, ⟨s1, s2, s, f1, f2, f3, rfl, rfl, hn, h1, h2, h3⟩, hd, hx⟩ := h
  have hk : ∀ b ∈ f1 ++ (f2 ++ f3), (w.setCell p v).heap[b]? = w.heap[b]? := fun b hb => Below.heap_setCell w p v b (by have := hx b hb; omega)
  exact ⟨_, ⟨s1, s2, s, f1, f2, f3, rfl, rfl, hn, COwn.move _ _ _ (fun b hb => hk b (by simp [hb])) h1, COwn.move _ _ _ (fun b hb => hk b (by simp [hb])) h2, COwn.move _ _ _ (fun b hb => hk b (by simp [hb])) h3⟩, hd, hx⟩
theorem TmNew.nil {B : Nat} {w : World} {k u l : Int} {nm : ByteArray} (hn : nm.size ≤ maxLen) : TmNew B w (.mk k nm u (.mk 0 []) (.mk 0 []) l []) (.agg #[.int .i64 k, .string nm, .int .i64 u, .int .i64 0, .slice none 0 0, .int .i64 0, .slice none 0 0, .int .i64 l, .slice none 0 0]) := by
  have z : COwn w (.sl []) (.slice none 0 0) [] := by unfold COwn; exact ⟨none, 0, rfl, Nat.le_refl _, by unfold maxLen; omega, .inl ⟨rfl, rfl⟩⟩
  refine ⟨[], ⟨_, _, _, [], [], [], rfl, rfl, hn, ?_, ?_, ?_⟩, by simp, by simp⟩
  · simp only [Tm.type, Ty.kids, Ty.rows]; exact z
  · simp only [Tm.src, Ty.kids, Ty.rows]; exact z
  · simp only [Tm.kids, Tm.rows]; exact z
theorem Tm.flatten_length (ts : List Tm) : (Tm.rows ts).flatten.length = ts.length * 9 := by
  induction ts with
  | nil => unfold Tm.rows; rfl
  | cons t ts ih => unfold Tm.rows; rw [List.flatten_cons, List.length_append, ih, t.row_length, List.length_cons]; omega
theorem TmNew.open {B : Nat} {w : World} {t : Tm} {y : Value} (h : TmNew B w t y) : ∃ k nm u tk ta tn tq fk fa fn fq l c m q fp, y = .agg #[.int .i64 k, .string nm, .int .i64 u, .int .i64 tk, .slice ta tn tq, .int .i64 fk, .slice fa fn fq, .int .i64 l, .slice c m q] ∧ SOwn w t.row [.int .i64 k, .string nm, .int .i64 u, .int .i64 tk, .slice ta tn tq, .int .i64 fk, .slice fa fn fq, .int .i64 l, .slice c m q] fp ∧ fp.Nodup ∧ ∀ b ∈ fp, B ≤ b := by
  obtain ⟨fp, ⟨s1, s2, s, f1, f2, f3, rfl, rfl, hn, h1, h2, h3⟩, hd, hx⟩ := h
  obtain ⟨ta, tq, rfl, -⟩ := CRep.rows (COwn.rep _ _ _ (F := fun _ => True) (fun _ _ => trivial) h1)
  obtain ⟨fa, fq, rfl, -⟩ := CRep.rows (COwn.rep _ _ _ (F := fun _ => True) (fun _ _ => trivial) h2)
  obtain ⟨c, q, rfl, -⟩ := CRep.rows (COwn.rep _ _ _ (F := fun _ => True) (fun _ _ => trivial) h3)
  refine ⟨_, _, _, _, ta, _, tq, _, fa, _, fq, _, c, _, q, _, rfl, ?_, hd, hx⟩
  cases t with | mk k nm u t f l ts =>
  simp only [Tm.kind, Tm.name, Tm.num, Tm.type, Tm.src, Tm.label, Tm.kids] at *
  unfold Tm.row
  have i1 : ∀ n : Int, COwn w (.int n) (.int .i64 n) [] := fun n => by unfold COwn; exact ⟨rfl, rfl⟩
  have i2 : COwn w (.str nm) (.string nm) [] := by unfold COwn; exact ⟨rfl, hn, rfl⟩
  exact ⟨_, _, [], _, rfl, rfl, i1 _, _, _, [], _, rfl, rfl, i2, _, _, [], _, rfl, rfl, i1 _, _, _, [], _, rfl, rfl, i1 _, _, _, f1, _, rfl, rfl, h1, _, _, [], _, rfl, rfl, i1 _, _, _, f2, _, rfl, rfl, h2, _, _, [], _, rfl, rfl, i1 _, _, _, f3, [], rfl, by simp, h3, rfl, rfl⟩
end Go.Proofs.Ytpckgpndaligbaa
namespace Go.Proofs.Ytpckgpndaligbaa
open Go.RowKit
set_option linter.unusedVariables false
set_option linter.unusedSimpArgs false
set_option maxRecDepth 100000

def RetTm (t : Tm) (w : World) (e : Ending) (w' : World) : Prop := ∃ v, e = .returned v ∧ TmNew w.heap.size w' t v ∧ Below w.heap.size w w'
def RetTms (ts : List Tm) (w : World) (e : Ending) (w' : World) : Prop := ∃ v, e = .returned v ∧ TmsNew w.heap.size w' ts v ∧ Below w.heap.size w w'
theorem Try.infoTm : (Try.prog.info? 28).map (fun i => (i.zero, i.size, i.bytes)) = some (some (.agg #[.int .i64 0, .string ByteArray.empty, .int .i64 0, .int .i64 0, .slice none 0 0, .int .i64 0, .slice none 0 0, .int .i64 0, .slice none 0 0]), 9, 128) := by kernel_rfl
theorem szr_le {l : Int} {c : Nat} (h : 0 ≤ l) : szr l c ≤ l := by unfold szr; split <;> omega
/-- New, between two marks. -/
def TyIn (B E : Nat) (w : World) (t : Ty) (y : Value) : Prop := ∃ fp, TyOwn w t y fp ∧ fp.Nodup ∧ ∀ b ∈ fp, B ≤ b ∧ b < E
def TmsIn (B E : Nat) (w : World) (ts : List Tm) (y : Value) : Prop := ∃ fp, TmsOwn w ts y fp ∧ fp.Nodup ∧ ∀ b ∈ fp, B ≤ b ∧ b < E
theorem TyNew.in {B : Nat} {w : World} {t : Ty} {y : Value} (h : TyNew B w t y) : TyIn B w.heap.size w t y := by
  obtain ⟨fp, h1, h2, h3⟩ := h
  obtain ⟨s, rfl, h1⟩ := h1
  exact ⟨fp, ⟨s, rfl, h1⟩, h2, fun b hb => ⟨h3 b hb, COwn.lt _ _ _ h1 b hb⟩⟩
theorem TmsNew.in {B : Nat} {w : World} {ts : List Tm} {y : Value} (h : TmsNew B w ts y) : TmsIn B w.heap.size w ts y := by
  obtain ⟨fp, h1, h2, h3⟩ := h
  exact ⟨fp, h1, h2, fun b hb => ⟨h3 b hb, COwn.lt _ _ _ h1 b hb⟩⟩
theorem TyIn.below {B E : Nat} {w w' : World} {t : Ty} {y : Value} (h : TyIn B E w t y) (k : Below w.heap.size w w') : TyIn B E w' t y :=
  let ⟨fp, h1, h2, h3⟩ := h; ⟨fp, h1.below k, h2, h3⟩
theorem TmsIn.below {B E : Nat} {w w' : World} {t : List Tm} {y : Value} (h : TmsIn B E w t y) (k : Below w.heap.size w w') : TmsIn B E w' t y :=
  let ⟨fp, h1, h2, h3⟩ := h; ⟨fp, COwn.move _ _ _ (fun b hb => k.block b (COwn.lt _ _ _ h1 b hb)) h1, h2, h3⟩
theorem TyIn.setCell {B E : Nat} {w : World} {t : Ty} {y : Value} (h : TyIn B E w t y) {p : Addr} (hp : p.block < B) (v : Value) : TyIn B E (w.setCell p v) t y := by
  obtain ⟨fp, ⟨s, hs, h1⟩, h2, h3⟩ := h
  exact ⟨fp, ⟨s, hs, COwn.move _ _ _ (fun b hb => Below.heap_setCell w p v b (by have := h3 b hb; omega)) h1⟩, h2, h3⟩
theorem TmsIn.setCell {B E : Nat} {w : World} {t : List Tm} {y : Value} (h : TmsIn B E w t y) {p : Addr} (hp : p.block < B) (v : Value) : TmsIn B E (w.setCell p v) t y := by
  obtain ⟨fp, h1, h2, h3⟩ := h
  exact ⟨fp, COwn.move _ _ _ (fun b hb => Below.heap_setCell w p v b (by have := h3 b hb; omega)) h1, h2, h3⟩
theorem TmNew.mk3 {B B1 E1 B2 E2 B3 E3 : Nat} {w : World} {k u l tk fk : Int} {nm : ByteArray} {t f : Ty} {ts : List Tm} {s1 s2 s3 : Value} (h1 : TyIn B1 E1 w t (.agg #[.int .i64 tk, s1])) (h2 : TyIn B2 E2 w f (.agg #[.int .i64 fk, s2])) (h3 : TmsIn B3 E3 w ts s3)
    (o1 : E1 ≤ B2 ∧ E1 ≤ B3) (o2 : E2 ≤ B3 ∧ B ≤ B2 ∧ B ≤ B3) (o3 : B ≤ B1) (hn : nm.size ≤ maxLen) : TmNew B w (.mk k nm u t f l ts) (.agg #[.int .i64 k, .string nm, .int .i64 u, .int .i64 tk, s1, .int .i64 fk, s2, .int .i64 l, s3]) := by
  obtain ⟨f1, ⟨z1, e1, p1⟩, d1, x1⟩ := h1
  obtain ⟨f2, ⟨z2, e2, p2⟩, d2, x2⟩ := h2
  obtain ⟨f3, p3, d3, x3⟩ := h3
  simp only [Value.agg.injEq, Array.mk.injEq, List.cons.injEq, Value.int.injEq, true_and, and_true] at e1 e2
  obtain ⟨rfl, rfl⟩ := e1
  obtain ⟨rfl, rfl⟩ := e2
  refine ⟨f1 ++ (f2 ++ f3), ⟨s1, s2, s3, f1, f2, f3, rfl, rfl, hn, p1, p2, p3⟩, ?_, ?_⟩
  · refine List.nodup_append.2 ⟨d1, List.nodup_append.2 ⟨d2, d3, fun a ha b hb e => ?_⟩, fun a ha b hb e => ?_⟩
    · subst e; have := x2 a ha; have := x3 a hb; omega
    · subst e
      have := x1 a ha
      rcases List.mem_append.1 hb with hb | hb
      · have := x2 a hb; omega
      · have := x3 a hb; omega
  · intro b hb
    rcases List.mem_append.1 hb with hb | hb
    · have := x1 b hb; omega
    · rcases List.mem_append.1 hb with hb | hb
      · have := x2 b hb; omega
      · have := x3 b hb; omega
theorem leaf_szTerm_0 (l0 : Int) (nm : ByteArray) (t f : Ty) (ts : List Tm) (h0 : (decide ((l0 - nm.size) < 0)) = true) : (-1 : Int) = (szr l0 (nm.size + t.cnt + f.cnt + (ts.length + Tm.cnts ts))) := by
  first | grind [szr] | (unfold szr at *; simp at *; omega)

theorem leaf_szTerm_1 (l0 : Int) (nm : ByteArray) (t f : Ty) (ts : List Tm) (h0 : (decide ((l0 - nm.size) < 0)) = false) (h1 : (decide ((szr (l0 - nm.size) t.cnt) < 0)) = true) : (-1 : Int) = (szr l0 (nm.size + t.cnt + f.cnt + (ts.length + Tm.cnts ts))) := by
  first | grind [szr] | (unfold szr at *; simp at *; omega)

theorem leaf_szTerm_2 (l0 : Int) (nm : ByteArray) (t f : Ty) (ts : List Tm) (h0 : (decide ((l0 - nm.size) < 0)) = false) (h1 : (decide ((szr (l0 - nm.size) t.cnt) < 0)) = false) (h2 : (decide ((szr (szr (l0 - nm.size) t.cnt) f.cnt) < 0)) = true) : (-1 : Int) = (szr l0 (nm.size + t.cnt + f.cnt + (ts.length + Tm.cnts ts))) := by
  first | grind [szr] | (unfold szr at *; simp at *; omega)

theorem leaf_szTerm_3 (l0 : Int) (nm : ByteArray) (t f : Ty) (ts : List Tm) (h0 : (decide ((l0 - nm.size) < 0)) = false) (h1 : (decide ((szr (l0 - nm.size) t.cnt) < 0)) = false) (h2 : (decide ((szr (szr (l0 - nm.size) t.cnt) f.cnt) < 0)) = false) (h3 : (decide ((szr (szr (szr (l0 - nm.size) t.cnt) f.cnt) (ts.length + Tm.cnts ts)) < 0)) = true) : (-1 : Int) = (szr l0 (nm.size + t.cnt + f.cnt + (ts.length + Tm.cnts ts))) := by
  first | grind [szr] | (unfold szr at *; simp at *; omega)

theorem leaf_szTerm_4 (l0 : Int) (nm : ByteArray) (t f : Ty) (ts : List Tm) (h0 : (decide ((l0 - nm.size) < 0)) = false) (h1 : (decide ((szr (l0 - nm.size) t.cnt) < 0)) = false) (h2 : (decide ((szr (szr (l0 - nm.size) t.cnt) f.cnt) < 0)) = false) (h3 : (decide ((szr (szr (szr (l0 - nm.size) t.cnt) f.cnt) (ts.length + Tm.cnts ts)) < 0)) = false) : (szr (szr (szr (l0 - nm.size) t.cnt) f.cnt) (ts.length + Tm.cnts ts) : Int) = (szr l0 (nm.size + t.cnt + f.cnt + (ts.length + Tm.cnts ts))) := by
  first | grind [szr] | (unfold szr at *; simp at *; omega)

theorem leaf_eqTerm_5 (k u l k' u' l' : Int) (nm nm' : ByteArray) (r1 r2 r3 : Bool) (h0 : (k == k') = true) (h1 : (nm.toList == nm'.toList) = true) (h2 : (u == u') = true) (h3 : (r1) = true) (h4 : (r2) = true) (h5 : (l == l') = true) (h6 : (r3) = true) : (true : Bool) = (k == k' && nm.toList == nm'.toList && u == u' && r1 && r2 && l == l' && r3) := by
  simp_all

theorem leaf_eqTerm_6 (k u l k' u' l' : Int) (nm nm' : ByteArray) (r1 r2 r3 : Bool) (h0 : (k == k') = true) (h1 : (nm.toList == nm'.toList) = true) (h2 : (u == u') = true) (h3 : (r1) = true) (h4 : (r2) = true) (h5 : (l == l') = true) (h6 : (r3) = false) : (false : Bool) = (k == k' && nm.toList == nm'.toList && u == u' && r1 && r2 && l == l' && r3) := by
  simp_all

theorem leaf_eqTerm_7 (k u l k' u' l' : Int) (nm nm' : ByteArray) (r1 r2 r3 : Bool) (h0 : (k == k') = true) (h1 : (nm.toList == nm'.toList) = true) (h2 : (u == u') = true) (h3 : (r1) = true) (h4 : (r2) = true) (h5 : (l == l') = false) : (false : Bool) = (k == k' && nm.toList == nm'.toList && u == u' && r1 && r2 && l == l' && r3) := by
  simp_all

theorem leaf_eqTerm_8 (k u l k' u' l' : Int) (nm nm' : ByteArray) (r1 r2 r3 : Bool) (h0 : (k == k') = true) (h1 : (nm.toList == nm'.toList) = true) (h2 : (u == u') = true) (h3 : (r1) = true) (h4 : (r2) = false) : (false : Bool) = (k == k' && nm.toList == nm'.toList && u == u' && r1 && r2 && l == l' && r3) := by
  simp_all

theorem leaf_eqTerm_9 (k u l k' u' l' : Int) (nm nm' : ByteArray) (r1 r2 r3 : Bool) (h0 : (k == k') = true) (h1 : (nm.toList == nm'.toList) = true) (h2 : (u == u') = true) (h3 : (r1) = false) : (false : Bool) = (k == k' && nm.toList == nm'.toList && u == u' && r1 && r2 && l == l' && r3) := by
  simp_all

theorem leaf_eqTerm_10 (k u l k' u' l' : Int) (nm nm' : ByteArray) (r1 r2 r3 : Bool) (h0 : (k == k') = true) (h1 : (nm.toList == nm'.toList) = true) (h2 : (u == u') = false) : (false : Bool) = (k == k' && nm.toList == nm'.toList && u == u' && r1 && r2 && l == l' && r3) := by
  simp_all

theorem leaf_eqTerm_11 (k u l k' u' l' : Int) (nm nm' : ByteArray) (r1 r2 r3 : Bool) (h0 : (k == k') = true) (h1 : (nm.toList == nm'.toList) = false) : (false : Bool) = (k == k' && nm.toList == nm'.toList && u == u' && r1 && r2 && l == l' && r3) := by
  simp_all

theorem leaf_eqTerm_12 (k u l k' u' l' : Int) (nm nm' : ByteArray) (r1 r2 r3 : Bool) (h0 : (k == k') = false) : (false : Bool) = (k == k' && nm.toList == nm'.toList && u == u' && r1 && r2 && l == l' && r3) := by
  simp_all

end Go.Proofs.Ytpckgpndaligbaa
namespace Go.Proofs.Ytpckgpndaligbaa
open Go.RowKit
set_option linter.unusedVariables false
set_option linter.unusedSimpArgs false
set_option maxRecDepth 100000

mutual
def Tm.mapT (g : Tm → Tm) : Tm → Tm
  | .mk k s u t f l ts => g (.mk k s u t f l (Tm.mapTs g ts))
def Tm.mapTs (g : Tm → Tm) : List Tm → List Tm
  | [] => []
  | t :: ts => t.mapT g :: Tm.mapTs g ts
end
mutual
def Tm.mapOk (g : Tm → Tm) (P : Tm → Prop) : Tm → Prop
  | .mk k s u t f l ts => P (.mk k s u t f l (Tm.mapTs g ts)) ∧ Tm.mapOks g P ts
def Tm.mapOks (g : Tm → Tm) (P : Tm → Prop) : List Tm → Prop
  | [] => True
  | t :: ts => t.mapOk g P ∧ Tm.mapOks g P ts
end
theorem Tm.mapTs_eq (g : Tm → Tm) : ∀ ts : List Tm, Tm.mapTs g ts = ts.map (Tm.mapT g)
  | [] => by unfold Tm.mapTs; rfl
  | t :: ts => by unfold Tm.mapTs; rw [Tm.mapTs_eq g ts]; rfl
theorem Tm.mapTs_take_succ (g : Tm → Tm) (ts : List Tm) (j : Nat) (h : j < ts.length) : Tm.mapTs g (ts.take (j + 1)) = Tm.mapTs g (ts.take j) ++ [ts[j].mapT g] := by
  rw [Tm.mapTs_eq, Tm.mapTs_eq, List.take_succ_eq_append_getElem h, List.map_append]; rfl
theorem Tm.mapOks_mem {g : Tm → Tm} {P : Tm → Prop} : ∀ {ts : List Tm} {t : Tm}, Tm.mapOks g P ts → t ∈ ts → t.mapOk g P
  | [], _, _, h => by cases h
  | u :: ts, t, h, hm => by
    unfold Tm.mapOks at h
    rcases List.mem_cons.1 hm with rfl | hm
    · exact h.1
    · exact Tm.mapOks_mem h.2 hm
/-- What a function value does to a node of one's own. -/
def MapC (ch : FuncId) (g : Tm → Tm) (P : Tm → Prop) : Prop := ∀ (B : Nat) (t : Tm) (y : Value) (w : World), TmNew B w t y → P t → B ≤ w.heap.size → Calls Try.prog ch #[y] w fun e w' => ∃ v, e = .returned v ∧ TmNew B w' (g t) v ∧ Below w.heap.size w w'
theorem AccNew.tms {B n : Nat} {e : TypeId} {w : World} {v : Value} {ts : List Tm} (h : AccNew B e 9 w v n (Tm.rows ts)) : TmsNew B w ts v := h.own
theorem TmNew.of {B : Nat} {w : World} {k u l tk fk : Int} {nm : ByteArray} {ty sr : Ty} {ts : List Tm} {s1 s2 s : Value} {f1 f2 f3 : List Nat} (hn : nm.size ≤ maxLen) (hk1 : tk = ty.kind) (hk2 : fk = sr.kind)
    (o1 : COwn w (.sl (Ty.rows ty.kids)) s1 f1) (o2 : COwn w (.sl (Ty.rows sr.kids)) s2 f2) (o3 : COwn w (.sl (Tm.rows ts)) s f3) (hd : (f1 ++ (f2 ++ f3)).Nodup) (hx : ∀ x ∈ f1 ++ (f2 ++ f3), B ≤ x) :
    TmNew B w (.mk k nm u ty sr l ts) (.agg #[.int .i64 k, .string nm, .int .i64 u, .int .i64 tk, s1, .int .i64 fk, s2, .int .i64 l, s]) := by
  subst hk1 hk2
  exact ⟨_, ⟨s1, s2, s, f1, f2, f3, rfl, rfl, hn, o1, o2, o3⟩, hd, hx⟩
end Go.Proofs.Ytpckgpndaligbaa
namespace Go.Proofs.Ytpckgpndaligbaa
open Go.RowKit
set_option linter.unusedVariables false
set_option linter.unusedSimpArgs false
set_option maxRecDepth 100000

def Ty.any1 : Ty := .mk 1 []
def Ty.no : Ty := .mk 0 []
def Tm.zero : Tm := .mk 0 { data := #[] } 0 .no .no 0 []
def bareN (k u : Int) (s : ByteArray) (ks : List Tm) : Tm := if k == 14 || k == 13 then ks.headD .zero else .mk k s u (if k == 5 then .any1 else .no) .no 0 ks
mutual
def Tm.bare : Tm → Tm
  | .mk k s u _ _ _ ts => bareN k u s (Tm.bares ts)
def Tm.bares : List Tm → List Tm
  | [] => []
  | t :: ts => t.bare :: Tm.bares ts
end
theorem Tm.bares_eq : ∀ ts : List Tm, Tm.bares ts = ts.map Tm.bare
  | [] => by unfold Tm.bares; rfl
  | t :: ts => by unfold Tm.bares; rw [Tm.bares_eq ts]; rfl
theorem Tm.bares_take_succ (ts : List Tm) (j : Nat) (h : j < ts.length) : Tm.bares (ts.take (j + 1)) = Tm.bares (ts.take j) ++ [ts[j].bare] := by
  rw [Tm.bares_eq, Tm.bares_eq, List.take_succ_eq_append_getElem h, List.map_append]; rfl
def RetTmB (t : Tm) (b : Bool) (w : World) (e : Ending) (w' : World) : Prop := ∃ v, e = .returned (.tuple #[v, .bool b]) ∧ TmNew w.heap.size w' t v ∧ Below w.heap.size w w'
end Go.Proofs.Ytpckgpndaligbaa
namespace Go.Proofs.Ytpckgpndaligbaa
open Go.RowKit
set_option linter.unusedVariables false
set_option linter.unusedSimpArgs false
set_option maxRecDepth 100000

mutual
def Tm.rety : Tm → List Ty → Tm
  | .mk k s u t f l ts, L => .mk k s u (if hasT k then L.headD .no else t) f l (Tm.retys ts (if hasT k then L.tail else L))
def Tm.retys : List Tm → List Ty → List Tm
  | [], _ => []
  | t :: ts, L => t.rety L :: Tm.retys ts (L.drop t.tys.length)
end
theorem Tm.retys_take_succ : ∀ (ts : List Tm) (L : List Ty) (j : Nat) (h : j < ts.length), Tm.retys (ts.take (j + 1)) L = Tm.retys (ts.take j) L ++ [ts[j].rety (L.drop (Tm.tyss (ts.take j)).length)]
  | [], _, _, h => absurd h (Nat.not_lt_zero _)
  | t :: ts, L, 0, _ => by simp [Tm.retys, Tm.tyss]
  | t :: ts, L, j + 1, h => by
    have := Tm.retys_take_succ ts (L.drop t.tys.length) j (by simpa using h)
    simp only [List.take_succ_cons, Tm.retys, List.getElem_cons_succ, this, Tm.tyss, List.length_append, List.drop_drop, List.cons_append]
/-- What spec.l2With returns for a term and a list. -/
def WithC (F G : Nat → Prop) (L : List Ty) (t : Tm) : Prop := ∀ (at0 : Nat) (y lv : Value) (w : World), TmRep F w t y → TysRep G w L lv → t.cnt ≤ 1048576 → (∀ x ∈ L, x.cnt ≤ 1048576) → at0 + t.tys.length ≤ L.length → L.length ≤ 1048576 →
    Calls Try.prog 26 #[y, lv, .int .i64 (at0 : Int)] w fun e w' => ∃ v, e = .returned (.tuple #[v, .int .i64 ((at0 + t.tys.length : Nat) : Int)]) ∧ TmNew w.heap.size w' (t.rety (L.drop at0)) v ∧ Below w.heap.size w w'
end Go.Proofs.Ytpckgpndaligbaa
namespace Go.Proofs.Ytpckgpndaligbaa
open Go.RowKit
set_option linter.unusedVariables false
set_option linter.unusedSimpArgs false
set_option maxRecDepth 100000

theorem Ty.marks_cons (t : Ty) (ts : List Ty) (m : Int) : Ty.marks (t :: ts) m = t.marked m :: Ty.marks ts (m + 1 + t.cnt) := by conv => lhs; unfold Ty.marks

end Go.Proofs.Ytpckgpndaligbaa
