/-
  Laws on terms whose results are lists of types: marks of a term, what is kept.
  The marks of terms, with what they leave; a look whether they stand.
  A look whether the marks of a term stand; the marks of one term.
-/
import Derived.Test.YtghgjpcibdfbmaaTmMark
import Derived.Test.YtghgjpcibdfbmaaK0
namespace Go.Proofs.Ytghgjpcibdfbmaa
open Go.RowKit
set_option linter.unusedVariables false
set_option linter.unusedSimpArgs false
set_option maxRecDepth 100000

theorem TyOwn.chgT {fp fp' : List Nat} {w w' : World} {t : Ty} {y : Value} (h : Chg fp w w') (hn : ∀ b ∈ fp', b ∉ fp) (r : TyOwn w t y fp') : TyOwn w' t y fp' := by
  obtain ⟨s, rfl, ho⟩ := r
  exact ⟨s, rfl, COwn.move _ _ _ (fun b hb => h.block b (COwn.lt _ _ _ ho b hb) (hn b hb)) ho⟩
def Tm.mk9 (t : Tm) : Nat := t.type.cnt + t.src.cnt + Tm.mcnts t.kids
mutual
theorem Tm.mcnt_le : ∀ t : Tm, t.mcnt ≤ 6 + 6 * t.cnt
  | .mk k s u t f l ts => by
    unfold Tm.mcnt Tm.cnt
    have h1 := Tm.mcnts_le ts
    have h2 := t.cnt_eq
    have h3 := f.cnt_eq
    omega
theorem Tm.mcnts_le : ∀ ts : List Tm, Tm.mcnts ts ≤ 6 * (ts.length + Tm.cnts ts)
  | [] => by unfold Tm.mcnts; omega
  | t :: ts => by
    unfold Tm.mcnts Tm.cnts
    have h1 := Tm.mcnt_le t
    have h2 := Tm.mcnts_le ts
    simp only [List.length_cons]
    omega
end
theorem Tm.mk9_le (t : Tm) : t.mk9 ≤ 6 * t.cnt := by
  unfold Tm.mk9
  have h1 := Tm.mcnts_le t.kids
  have h2 := t.cnt_parts
  omega
theorem TmRep.old {F : Nat → Prop} {w : World} {t : Tm} {y : Value} (r : TmRep F w t y) : TmRep (· < w.heap.size) w t y := r.move (.weaken fun _ _ h => h)
theorem TmRep.chg {fp : List Nat} {w w' : World} {F : Nat → Prop} {t : Tm} {y : Value} (h : Chg fp w w') (hn : ∀ b, F b → b ∉ fp) (r : TmRep F w t y) : TmRep F w' t y := r.move (h.keeps hn)
theorem TmOwn.lt {w : World} {t : Tm} {y : Value} {fp : List Nat} (h : TmOwn w t y fp) : ∀ b ∈ fp, b < w.heap.size := by
  obtain ⟨s1, s2, s, f1, f2, f3, rfl, rfl, hn, h1, h2, h3⟩ := h
  intro b hb
  rcases List.mem_append.1 hb with hb | hb
  · exact COwn.lt _ _ _ h1 b hb
  · rcases List.mem_append.1 hb with hb | hb
    · exact COwn.lt _ _ _ h2 b hb
    · exact COwn.lt _ _ _ h3 b hb
theorem TmOwn.ks {w : World} {t : Tm} {y : Value} {fp : List Nat} (h : TmOwn w t y fp) : ∃ k nm u tk ta tn tq fk fa fn fq l c m q, y = .agg #[.int .i64 k, .string nm, .int .i64 u, .int .i64 tk, .slice ta tn tq, .int .i64 fk, .slice fa fn fq, .int .i64 l, .slice c m q] := h.rep.shape
theorem TmOwn.chg {fp fp' : List Nat} {w w' : World} {t : Tm} {y : Value} (h : Chg fp w w') (hn : ∀ b ∈ fp', b ∉ fp) (r : TmOwn w t y fp') : TmOwn w' t y fp' := by
  have hl := r.lt
  obtain ⟨s1, s2, s, f1, f2, f3, rfl, rfl, hm, h1, h2, h3⟩ := r
  exact ⟨s1, s2, s, f1, f2, f3, rfl, rfl, hm, COwn.move _ _ _ (fun b hb => h.block b (COwn.lt _ _ _ h1 b hb) (hn b (by simp [hb]))) h1, COwn.move _ _ _ (fun b hb => h.block b (COwn.lt _ _ _ h2 b hb) (hn b (by simp [hb]))) h2, COwn.move _ _ _ (fun b hb => h.block b (COwn.lt _ _ _ h3 b hb) (hn b (by simp [hb]))) h3⟩
theorem TysOwn.lt {w : World} {ts : List Ty} {y : Value} {fp : List Nat} (h : TysOwn w ts y fp) : ∀ b ∈ fp, b < w.heap.size := COwn.lt _ _ _ h
theorem TysOwn.ks {w : World} {ts : List Ty} {y : Value} {fp : List Nat} (h : TysOwn w ts y fp) : ∃ a n q, y = .slice a n q := by
  unfold TysOwn COwn at h
  obtain ⟨a, q, rfl, _⟩ := h
  exact ⟨a, _, q, rfl⟩
theorem TysOwn.below {w w' : World} {ts : List Ty} {y : Value} {fp : List Nat} (h : TysOwn w ts y fp) (k : Below w.heap.size w w') : TysOwn w' ts y fp := COwn.move _ _ _ (fun b hb => k.block b (COwn.lt _ _ _ h b hb)) h
theorem TysOwn.rep {w : World} {ts : List Ty} {y : Value} {fp : List Nat} (h : TysOwn w ts y fp) : TysRep (· ∈ fp) w ts y := COwn.rep _ _ _ (fun _ hb => hb) h
theorem TysOwn.chg {fp fp' : List Nat} {w w' : World} {ts : List Ty} {y : Value} (h : Chg fp w w') (hn : ∀ b ∈ fp', b ∉ fp) (r : TysOwn w ts y fp') : TysOwn w' ts y fp' := COwn.move _ _ _ (fun b hb => h.block b (COwn.lt _ _ _ r b hb) (hn b hb)) r
theorem eqTypeS_refl (F G : Nat → Prop) (ts : List Ty) (ys zs : Value) (w : World) (hy : TysRep F w ts ys) (hz : TysRep G w ts zs) :
    Calls Try.prog 40 #[ys, zs] w fun e w' => e = .returned (.bool true) ∧ Below w.heap.size w w' := by
  have h := eqTypeS_of F G ts ts ys zs w hy hz (fun t ht u hu W y z a b => eqType_any F G t u y z W a b)
  rw [Ty.sames_refl] at h
  exact h
set_option maxHeartbeats 2000000 in
theorem markTerm_any (t : Tm) (m : Int) (y : Value) (fp : List Nat) (w : World) (hown : TmOwn w t y fp) (hnd : fp.Nodup) (hm0 : 0 ≤ m) (hmb : m + t.mk9 ≤ 1099511627776) :
    Calls Try.prog 23 #[y, .int .i64 m] w fun e w' => e = .returned (.int .i64 (m + t.mk9)) ∧ Chg fp w w' := by
  have hsh := hown.ks
  obtain ⟨s1, s2, s, f1, f2, f3, rfl, rfl, hn, h1, h2, h3⟩ := hown
  obtain ⟨k, nm, u, tk, ta, tn, tq, fk, fa, fn, fq, l, c, n, q, he⟩ := hsh
  simp only [Value.agg.injEq, Array.mk.injEq, List.cons.injEq, Value.int.injEq, Value.string.injEq, true_and, and_true] at he
  obtain ⟨rfl, rfl, rfl, rfl, rfl, rfl, rfl, rfl, rfl⟩ := he
  obtain ⟨nd1, nd23, hd1⟩ := List.nodup_append.1 hnd
  obtain ⟨nd2, nd3, hd2⟩ := List.nodup_append.1 nd23
  unfold Tm.mk9 at hmb ⊢
  have l1 : ∀ x ∈ f1, x < w.heap.size := COwn.lt _ _ _ h1
  have l2 : ∀ x ∈ f2, x < w.heap.size := COwn.lt _ _ _ h2
  have l3 : ∀ x ∈ f3, x < w.heap.size := COwn.lt _ _ _ h3
  have o1 : TyOwn w t.type (.agg #[.int .i64 t.type.kind, .slice ta tn tq]) f1 := ⟨_, rfl, h1⟩
  have o2 : TyOwn w t.src (.agg #[.int .i64 t.src.kind, .slice fa fn fq]) f2 := ⟨_, rfl, h2⟩
  have n1 : w.heap.size ∉ f1 := fun h => by have := l1 _ h; omega
  have n2 : w.heap.size ∉ f2 := fun h => by have := l2 _ h; omega
  have b1 : m + t.type.cnt ≤ 1099511627776 := by omega
  have b2 : m + t.type.cnt + t.src.cnt ≤ 1099511627776 := by omega
  have HO1 := Lib.hid o1
  have HO2 := Lib.hid o2
  have HO3 := Lib.hid h3
  have ND1 := Lib.hid nd1
  have ND2 := Lib.hid nd2
  have ND3 := Lib.hid nd3
  have HD1 := Lib.hid hd1
  have HD2 := Lib.hid hd2
  have HMB := Lib.hid hmb
  have L1 := Lib.hid l1
  have L2 := Lib.hid l2
  have L3 := Lib.hid l3
  have N1 := Lib.hid n1
  have N2 := Lib.hid n2
  generalize t.kind = xk at *
  generalize t.num = xu at *
  generalize t.label = xl at *
  generalize t.name = xn at *
  clear h1 h2 h3 o1 o2 nd1 nd2 nd3 nd23 hd1 hd2 hnd hmb l1 l2 l3 n1 n2 hn
  go_enter Try.func23, Try.ntmps23
  go_wp2_with fail
  refine (markType_any t.type m _ f1 _ (HO1.out.below bal1) ND1.out hm0 b1).mono ?_
  rintro e w1 ⟨rfl, -, hc1⟩
  have c5 := chg_cell hc1 N1.out (cell_n0 5)
  have c6 := chg_cell hc1 N1.out (cell_n0 6)
  have c8 := chg_cell hc1 N1.out (cell_n0 8)
  have z1 := hc1.size
  have HC1 := Lib.hid hc1
  have HP2 := Lib.hid (TyOwn.chgT hc1 (fun b hb h => HD1.out b h b (by simp [hb]) rfl) (HO2.out.below bal1))
  have HP3 := Lib.hid (COwn.move _ _ _ (fun b hb => (hc1.block b (by simp; have := L3.out b hb; omega) (fun h => HD1.out b h b (by simp [hb]) rfl)).trans (heap_alloc_old w _ (L3.out b hb))) HO3.out)
  clear hc1
  go_wp2_with fail
  refine (markType_any t.src (m + t.type.cnt) _ f2 _ HP2.out ND2.out (by omega) b2).mono ?_
  rintro e w2 ⟨rfl, -, hc2⟩
  have d8 := chg_cell hc2 N2.out c8
  have HC2 := Lib.hid hc2
  have HQ3 := Lib.hid (COwn.move _ _ _ (fun b hb => hc2.block b (COwn.lt _ _ _ HP3.out b hb) (fun h => HD2.out b h b hb rfl)) HP3.out)
  clear c5 c6 c8 hc2
  go_wp2_with fail
  refine (markTermS_any t.kids (m + t.type.cnt + t.src.cnt) _ f3 _ HQ3.out ND3.out (by omega) (by have := HMB.out; omega)).mono ?_
  rintro e w3 ⟨rfl, hc3⟩
  have HC3 := Lib.hid hc3
  clear hc3 d8
  go_wp2_with fail
  go_ret
  exact ⟨ret_int (by simp only [Int.natCast_add]; omega), (((Chg.of_below bal1).trans (HC1.out.mono (by simp; intro x hx; exact .inl hx))).trans (HC2.out.mono (by simp; intro x hx; exact .inr (.inl hx)))).trans (HC3.out.mono (by simp; intro x hx; exact .inr (.inr hx)))⟩
end Go.Proofs.Ytghgjpcibdfbmaa
namespace Go.Proofs.Ytghgjpcibdfbmaa
open Go.RowKit
set_option linter.unusedVariables false
set_option linter.unusedSimpArgs false
set_option maxRecDepth 100000

mutual
def Tm.marked : Tm → Int → Tm
  | .mk _ _ _ t f _ ts, m => .mk m (mtext (m + 1)) (m + 2) (.mk (m + 3) (Ty.marks t.kids (m + 4))) (.mk (m + 4 + Ty.scnt t.kids) (Ty.marks f.kids (m + 5 + Ty.scnt t.kids))) (m + 5 + Ty.scnt t.kids + Ty.scnt f.kids) (Tm.marks ts (m + 6 + Ty.scnt t.kids + Ty.scnt f.kids))
def Tm.marks : List Tm → Int → List Tm
  | [], _ => []
  | t :: ts, m => t.marked m :: Tm.marks ts (m + t.mcnt)
end
theorem Tm.marked_eq (t : Tm) (m : Int) : t.marked m = .mk m (mtext (m + 1)) (m + 2) (.mk (m + 3) (Ty.marks t.type.kids (m + 4))) (.mk (m + 4 + Ty.scnt t.type.kids) (Ty.marks t.src.kids (m + 5 + Ty.scnt t.type.kids))) (m + 5 + Ty.scnt t.type.kids + Ty.scnt t.src.kids) (Tm.marks t.kids (m + 6 + Ty.scnt t.type.kids + Ty.scnt t.src.kids)) := by
  cases t; unfold Tm.marked; rfl
theorem Tm.marks_length : ∀ (ts : List Tm) (m : Int), (Tm.marks ts m).length = ts.length
  | [], _ => by unfold Tm.marks; rfl
  | t :: ts, m => by unfold Tm.marks; simp [Tm.marks_length ts]
theorem Tm.marks_get : ∀ (ts : List Tm) (m : Int) (j : Nat) (h : j < ts.length), (Tm.marks ts m)[j]'(by rw [Tm.marks_length]; exact h) = ts[j].marked (m + Tm.mcnts (ts.take j))
  | [], _, _, h => absurd h (Nat.not_lt_zero _)
  | t :: ts, m, 0, _ => by simp [Tm.marks, Tm.mcnts]
  | t :: ts, m, j + 1, h => by
    have := Tm.marks_get ts (m + t.mcnt) j (by simpa using h)
    simp only [Tm.marks, List.getElem_cons_succ, this, List.take_succ_cons, Tm.mcnts]
    congr 1
    omega
theorem Tm.mcnts_take_succ : ∀ (ts : List Tm) (j : Nat) (h : j < ts.length), Tm.mcnts (ts.take (j + 1)) = Tm.mcnts (ts.take j) + ts[j].mcnt
  | [], _, h => absurd h (Nat.not_lt_zero _)
  | t :: ts, 0, _ => by simp [Tm.mcnts]
  | t :: ts, j + 1, h => by
    have := Tm.mcnts_take_succ ts j (by simpa using h)
    simp only [List.take_succ_cons, Tm.mcnts, List.getElem_cons_succ, this]
    omega
theorem Tm.mcnts_take_drop (ts : List Tm) (j : Nat) : Tm.mcnts (ts.take j) + Tm.mcnts (ts.drop j) = Tm.mcnts ts := by
  induction ts generalizing j with
  | nil => simp [Tm.mcnts]
  | cons t ts ih =>
    cases j with
    | zero => simp [Tm.mcnts]
    | succ j => have := ih j; simp only [List.take_succ_cons, List.drop_succ_cons, Tm.mcnts]; omega
theorem Tm.marks_take_succ (ts : List Tm) (m : Int) (j : Nat) (h : j < ts.length) : (Tm.marks ts m).take (j + 1) = (Tm.marks ts m).take j ++ [ts[j].marked (m + Tm.mcnts (ts.take j))] := by
  rw [List.take_succ_eq_append_getElem (by rw [Tm.marks_length]; exact h), Tm.marks_get ts m j h]
/-- How a row is marked, with the block whole and what lies ahead of it. -/
structure Sv (wr W : World) (b j : Nat) (ch : List Nat) : Prop where
  st : St wr W b j ch
  near : ∀ o, o < j * 9 → W.cell? ⟨b, o, none⟩ = wr.cell? ⟨b, o, none⟩
  blk : ∃ cs T, W.heap[b]? = some (.cells cs T (0, 0))
theorem Sv.refl {wr : World} {b j : Nat} (h : ∃ cs T, wr.heap[b]? = some (.cells cs T (0, 0))) : Sv wr wr b j [] :=
  ⟨St.refl (fun o => by obtain ⟨cs, T, h⟩ := h; simp [World.frozen?, h]), fun _ _ => rfl, h⟩
theorem Sv.set {wr W : World} {b j o : Nat} {ch : List Nat} {v : Value} (h : Sv wr W b j ch) (ho : o < j * 9 + 9) (ho2 : j * 9 ≤ o) : Sv wr (W.setCell ⟨b, o, none⟩ v) b j ch :=
  ⟨h.st.set ho, fun o' ho' => (World.cell?_setCell_other W _ _ v (fun e => by cases e; omega)).trans (h.near o' ho'), by
    obtain ⟨cs, T, hb⟩ := h.blk
    exact ⟨_, T, heap_setCell_same hb⟩⟩
theorem Sv.call {wr W W' : World} {b j : Nat} {ch g : List Nat} (h : Sv wr W b j ch) (hc : Chg g W W') (hb : b ∉ g) (hl : b < W.heap.size) : Sv wr W' b j (ch ++ g) :=
  ⟨h.st.call hc hb hl, fun o ho => (World.cell?_of_block (a := ⟨b, o, none⟩) (hc.block b hl hb)).trans (h.near o ho), by
    obtain ⟨cs, T, hk⟩ := h.blk
    exact ⟨cs, T, (hc.block b hl hb).trans hk⟩⟩
theorem Sv.below {wr W W' : World} {b j : Nat} {ch : List Nat} (h : Sv wr W b j ch) (hc : Below W.heap.size W W') (hl : b < W.heap.size) : Sv wr W' b j ch := by
  have := h.call (Chg.of_below (fp := []) hc) (by simp) hl
  simpa using this
theorem TmCells.mk {w : World} {b off : Nat} {k u tk fk l : Int} {nm : ByteArray} {K1 K2 : List Ty} {K3 : List Tm} {s1 s2 s3 : Value} {g1 g2 g3 : List Nat} (hn : nm.size ≤ maxLen)
    (c0 : w.cell? ⟨b, off, none⟩ = some (.int .i64 k)) (c1 : w.cell? ⟨b, off + 1, none⟩ = some (.string nm)) (c2 : w.cell? ⟨b, off + 2, none⟩ = some (.int .i64 u)) (c3 : w.cell? ⟨b, off + 3, none⟩ = some (.int .i64 tk)) (c4 : w.cell? ⟨b, off + 4, none⟩ = some s1)
    (c5 : w.cell? ⟨b, off + 5, none⟩ = some (.int .i64 fk)) (c6 : w.cell? ⟨b, off + 6, none⟩ = some s2) (c7 : w.cell? ⟨b, off + 7, none⟩ = some (.int .i64 l)) (c8 : w.cell? ⟨b, off + 8, none⟩ = some s3)
    (o1 : COwn w (.sl (Ty.rows K1)) s1 g1) (o2 : COwn w (.sl (Ty.rows K2)) s2 g2) (o3 : COwn w (.sl (Tm.rows K3)) s3 g3) : CellsOwn w b off (Tm.mk k nm u (.mk tk K1) (.mk fk K2) l K3).row (g1 ++ (g2 ++ g3)) := by
  have i1 : ∀ n : Int, COwn w (.int n) (.int .i64 n) [] := fun n => by unfold COwn; exact ⟨rfl, rfl⟩
  have i2 : COwn w (.str nm) (.string nm) [] := by unfold COwn; exact ⟨rfl, hn, rfl⟩
  unfold Tm.row
  unfold CellsOwn; refine ⟨_, [], _, rfl, c0, i1 _, ?_⟩
  unfold CellsOwn; refine ⟨_, [], _, rfl, c1, i2, ?_⟩
  unfold CellsOwn; refine ⟨_, [], _, rfl, c2, i1 _, ?_⟩
  unfold CellsOwn; refine ⟨_, [], _, rfl, c3, i1 _, ?_⟩
  unfold CellsOwn; refine ⟨_, g1, _, rfl, c4, o1, ?_⟩
  unfold CellsOwn; refine ⟨_, [], _, rfl, c5, i1 _, ?_⟩
  unfold CellsOwn; refine ⟨_, g2, _, rfl, c6, o2, ?_⟩
  unfold CellsOwn; refine ⟨_, [], _, rfl, c7, i1 _, ?_⟩
  unfold CellsOwn; refine ⟨_, g3, [], by simp, c8, o3, ?_⟩
  unfold CellsOwn; rfl
set_option maxHeartbeats 8000000 in
theorem markTermS_val (ts : List Tm) : ∀ (m : Int) (s : Value) (fp : List Nat) (w : World), TmsOwn w ts s fp → fp.Nodup → 0 ≤ m → m + Tm.mcnts ts ≤ 1099511627776 →
    Calls Try.prog 70 #[s, .int .i64 m] w fun e w' => e = .returned (.int .i64 (m + Tm.mcnts ts)) ∧ TmsOwn w' (Tm.marks ts m) s fp ∧ Chg fp w w' := by
  intro m s fp w hown hnd hm0 hmb
  have IH : ∀ t ∈ ts, ∀ (m : Int) (s : Value) (fp : List Nat) (w : World), TmsOwn w t.kids s fp → fp.Nodup → 0 ≤ m → m + Tm.mcnts t.kids ≤ 1099511627776 → Calls Try.prog 70 #[s, .int .i64 m] w fun e w' => e = .returned (.int .i64 (m + Tm.mcnts t.kids)) ∧ TmsOwn w' (Tm.marks t.kids m) s fp ∧ Chg fp w w' :=
    fun t ht m s fp w a b c d => markTermS_val t.kids m s fp w a b c d
  have hown' := hown
  unfold TmsOwn COwn at hown
  obtain ⟨a, cap, rfl, h2, h3, h4⟩ := hown
  rw [Tm.rows_length] at h2 ⊢
  unfold maxLen at h3
  have IHH := Lib.hid IH
  clear IH
  obtain ⟨n, hn⟩ : ∃ n, ts.length = n := ⟨_, rfl⟩
  rw [Tm.rows_length] at hown'
  rw [hn] at h2 hown' ⊢
  have HN := Lib.hid hn
  have HMB := Lib.hid hmb
  have hmm : m ≤ 1099511627776 := by omega
  rcases h4 with ⟨h4, rfl⟩ | ⟨b, fps, cs, T, rfl, rfl, hb, hr⟩
  · have hts : ts = [] := by cases ts with | nil => rfl | cons t ts => unfold Tm.rows at h4; cases h4
    subst hts
    have hn0 : n = 0 := by rw [← hn]; rfl
    subst hn0
    have HO := Lib.hid hown'
    clear hmb hown'
    go_enter Try.func70, Try.ntmps70
    go_wp2_with fail
    go_loopw [5, 1] (fun i p wr => i = .int .i64 0 ∧ p = .int .i64 m ∧ wr = w) (fun _ _ _ => 0)
    case atStart => exact ⟨rfl, rfl, rfl⟩
    case round =>
      obtain ⟨rfl, rfl, rfl⟩ := hrel
      go_wp2_with fail
      go_ret
      exact ⟨ret_int (by simp [Tm.mcnts]), by unfold Tm.marks; exact HO.out, Chg.refl _ _⟩
  · have hfz : ∀ o, w.frozen? ⟨b, o, none⟩ = false := fun o => by simp [World.frozen?, hb]
    have hbl : b < w.heap.size := (Array.getElem?_eq_some_iff.1 hb).1
    have HFZ := Lib.hid hb
    have HR := Lib.hid hr
    have hnd1 := List.nodup_cons.1 hnd
    have HND := Lib.hid hnd1
    have HBL := Lib.hid hbl
    clear hfz hr hb hnd hnd1 hn hbl hmb hown'
    go_enter Try.func70, Try.ntmps70
    go_wp2_with fail
    go_loopw [5, 1] (fun i p wr => ∃ j : Nat, j ≤ n ∧ i = .int .i64 j ∧ (∃ mm : Int, p = .int .i64 mm ∧ 0 ≤ mm ∧ mm ≤ 1099511627776 ∧ Hid (mm + Tm.mcnts (ts.drop j) = m + Tm.mcnts ts) ∧ Hid (mm = m + Tm.mcnts (ts.take j))) ∧
        Hid (Chg (b :: fps) w wr) ∧ Hid (∃ cs T, wr.heap[b]? = some (.cells cs T (0, 0))) ∧ Hid (∃ f1 f2 : List Nat, fps = f1 ++ f2 ∧ RowsOwn wr b 0 (Tm.rows ((Tm.marks ts m).take j)) f1 ∧ RowsOwn wr b (j * 9) (Tm.rows (ts.drop j)) f2)) (fun i _ _ => n - (intOf i).toNat)
    case atStart => exact ⟨0, by omega, rfl, ⟨m, rfl, hm0, hmm, rfl, by simp [Hid, Tm.mcnts]⟩, Chg.refl _ _, ⟨_, _, HFZ.out⟩, ⟨[], fps, rfl, by simp [Tm.rows, RowsOwn], by simpa using HR.out⟩⟩
    case round =>
      obtain ⟨j, hj, rfl, ⟨mm, rfl, hq0, hq1, hqe, hmq⟩, hcw, hfw, hrw⟩ := hrel
      by_cases hlt : j < n
      · have hjt : j < ts.length := by have := HN.out; omega
        obtain ⟨fd, f2, hfe, hrd, hro⟩ := hrw.out
        have hnd0 := HND.out.2
        rw [hfe] at hnd0
        obtain ⟨hndd, hnd2, hdd⟩ := List.nodup_append.1 hnd0
        have hsub : ∀ x ∈ f2, x ∈ fps := fun x hx => by rw [hfe]; exact List.mem_append_right _ hx
        have hbd : b ∉ fd := fun h => HND.out.1 (by rw [hfe]; exact List.mem_append_left _ h)
        have hdl := hrd.lt
        have hmq2 := hmq.out
        have htk := Tm.mcnts_take_succ ts j hjt
        have hmk := Tm.marks_take_succ ts m j hjt
        rw [← hmq2, Tm.marked_eq] at hmk
        have hde : ts.drop j = ts[j] :: ts.drop (j + 1) := List.drop_eq_getElem_cons hjt
        have hqe2 := hqe.out
        rw [hde] at hro hqe2
        unfold Tm.rows RowsOwn at hro
        obtain ⟨f, f2', rfl, hco, hro2⟩ := hro
        rw [Tm.row_length] at hro2
        have hrl := hro2.lt
        have hmcE := ts[j].mcnt_eq
        obtain ⟨s1, s2, s3, g1, g2, g3, rfl, c0, c1, c2, c3, c4, c5, c6, c7, c8, o1, o2, o3⟩ := TmCells hco
        have hmc := ts[j].mcnt_eq
        rw [show Tm.mcnts (ts[j] :: ts.drop (j + 1)) = ts[j].mcnt + Tm.mcnts (ts.drop (j + 1)) from by conv => lhs; unfold Tm.mcnts] at hqe2
        have hIH := IHH.out ts[j] (List.getElem_mem hjt)
        generalize ts[j].kind = xk at c0
        generalize ts[j].name = xn at c1
        generalize ts[j].num = xu at c2
        generalize ts[j].type.kind = xt at c3
        generalize ts[j].src.kind = xf at c5
        generalize ts[j].label = xl at c7
        generalize ts[j].type.kids = K1 at o1 hmc hmk
        generalize ts[j].src.kids = K2 at o2 hmc hmk
        generalize ts[j].kids = K3 at o3 hmc hIH hmk
        generalize ts[j].mcnt = mj at hmc hqe2 htk
        clear hmcE
        obtain ⟨a1, q1, hs1, -⟩ := CRep.rows (COwn.rep (F := fun _ => True) _ _ _ (fun _ _ => trivial) o1)
        obtain ⟨a2, q2, hs2, -⟩ := CRep.rows (COwn.rep (F := fun _ => True) _ _ _ (fun _ _ => trivial) o2)
        obtain ⟨a3, q3, hs3, -⟩ := CRep.rows (COwn.rep (F := fun _ => True) _ _ _ (fun _ _ => trivial) o3)
        subst hs1 hs2 hs3
        rw [Ty.rows_length] at o1 c4 o2 c6
        rw [Tm.rows_length] at o3 c8
        have hnb : ∀ x ∈ (g1 ++ (g2 ++ g3)) ++ f2', x ≠ b := fun x hx e => HND.out.1 (e ▸ hsub x hx)
        obtain ⟨ndA, ndB, ndC⟩ := List.nodup_append.1 hnd2
        obtain ⟨nd1, nd23, nd1'⟩ := List.nodup_append.1 ndA
        obtain ⟨nd2, nd3, nd2'⟩ := List.nodup_append.1 nd23
        have lb0 : b < wr.heap.size := Nat.lt_of_lt_of_le HBL.out hcw.out.size
        have hblk := hfw.out
        have hf0 : ∀ o, wr.frozen? ⟨b, o, none⟩ = false := fun o => by obtain ⟨cs, T, h⟩ := hblk; simp [World.frozen?, h]
        have hddn : ∀ x ∈ fd, x ∉ b :: ((([] ++ g1) ++ g2) ++ g3) := fun x hx h => by
          rcases List.mem_cons.1 h with h | h
          · exact hbd (h ▸ hx)
          · exact hdd x hx x (List.mem_append_left _ (by simpa using h)) rfl
        have hmmq : mm + 6 + (Ty.scnt K1 : Int) + Ty.scnt K2 + Tm.mcnts K3 = m + Tm.mcnts (ts.take (j + 1)) := by omega
        have hdn2 : ∀ x ∈ g1, x ≠ b ∧ x ∉ (([] : List Nat) ++ g2) ++ g3 := fun x hx => ⟨hnb x (by simp [hx]), fun h => nd1' x hx x (by simpa using h) rfl⟩
        have hdn3 : ∀ x ∈ g2, x ≠ b ∧ x ∉ ([] : List Nat) ++ g3 := fun x hx => ⟨hnb x (by simp [hx]), fun h => nd2' x hx x (by simpa using h) rfl⟩
        have hmb := HMB.out
        have hn1 : b ∉ g1 := fun h => hnb b (by simp [h]) rfl
        have hn2 : b ∉ g2 := fun h => hnb b (by simp [h]) rfl
        have hn3 : b ∉ g3 := fun h => hnb b (by simp [h]) rfl
        have hd1 : ∀ x ∈ g1, x ≠ b ∧ x ∉ ([] : List Nat) := fun x hx => ⟨hnb x (by simp [hx]), by simp⟩
        have hd2 : ∀ x ∈ g2, x ≠ b ∧ x ∉ [] ++ g1 := fun x hx => ⟨hnb x (by simp [hx]), fun h => nd1' x (by simpa using h) x (by simp [hx]) rfl⟩
        have hd3 : ∀ x ∈ g3, x ≠ b ∧ x ∉ ([] ++ g1) ++ g2 := fun x hx => ⟨hnb x (by simp [hx]), fun h => by
          rcases List.mem_append.1 h with h | h
          · exact nd1' x (by simpa using h) x (by simp [hx]) rfl
          · exact nd2' x h x hx rfl⟩
        have hd4 : ∀ x ∈ f2', x ∉ b :: ((([] ++ g1) ++ g2) ++ g3) := fun x hx h => by
          rcases List.mem_cons.1 h with h | h
          · exact hnb x (by simp [hx]) h
          · exact ndC x (by simpa using h) x hx rfl
        have hsub2 : ∀ x ∈ (([] ++ g1) ++ g2) ++ g3, x ∈ fps := fun x hx => hsub x (by simp at hx ⊢; rcases hx with h | h | h <;> simp [h])
        have hsub3 : ∀ x ∈ f2', x ∈ fps := fun x hx => hsub x (by simp [hx])
        have B1 : mm + 4 + Ty.scnt K1 ≤ 1099511627776 := by omega
        have B2 : mm + 5 + Ty.scnt K1 + Ty.scnt K2 ≤ 1099511627776 := by omega
        have B3 : mm + 6 + Ty.scnt K1 + Ty.scnt K2 + Tm.mcnts K3 ≤ 1099511627776 := by omega
        have hfin : mm + 1 + 1 + 1 + 1 + (Ty.scnt K1 : Int) + 1 + (Ty.scnt K2 : Int) + 1 + (Tm.mcnts K3 : Int) + (Tm.mcnts (ts.drop (j + 1)) : Int) = m + Tm.mcnts ts := by omega
        generalize hrest : Tm.mcnts (ts.drop (j + 1)) = rest at hfin
        have HDN2 := Lib.hid hdn2
        have HDN3 := Lib.hid hdn3
        have HBLK := Lib.hid hblk
        have HDDN := Lib.hid hddn
        have HDL := Lib.hid hdl
        have HRD := Lib.hid hrd
        have HFE := Lib.hid hfe
        have HMMQ := Lib.hid hmmq
        have HMK := Lib.hid hmk
        have HRO2 := Lib.hid hro2
        have HRL := Lib.hid hrl
        have HFIN := Lib.hid hfin
        have HREST := Lib.hid hrest
        have HD1 := Lib.hid hd1
        have HD2 := Lib.hid hd2
        have HD3 := Lib.hid hd3
        have HD4 := Lib.hid hd4
        have HSUB2 := Lib.hid hsub2
        have HSUB3 := Lib.hid hsub3
        have HN1 := Lib.hid hn1
        have HN2 := Lib.hid hn2
        have HN3 := Lib.hid hn3
        have HND1 := Lib.hid nd1
        have HND2 := Lib.hid nd2
        have HND3 := Lib.hid nd3
        have HNDB := Lib.hid ndB
        have HO1 := Lib.hid o1
        have HO2 := Lib.hid o2
        have HO3 := Lib.hid o3
        have HIH := Lib.hid hIH
        clear hdn2 hdn3 hblk hddn hdl hrd hfe hmmq hmk hbd hdd hndd hnd0 htk hmq2 hro2 hrl hfin hrest hd1 hd2 hd3 hd4 hsub2 hsub3 hn1 hn2 hn3 nd1 nd2 nd3 ndB nd23 ndA ndC nd1' nd2' o1 o2 o3 hIH hnb hmb hmc hqe2 hsub hnd2 hco hde
        have i1 := IntWalk.i64_in (mm + 1) (by omega)
        have i2 := IntWalk.i64_in (mm + 1 + 1) (by omega)
        have i3 := IntWalk.i64_in (mm + 1 + 1 + 1) (by omega)
        have i4 := IntWalk.i64_in (mm + 1 + 1 + 1 + 1) (by omega)
        have i5 := IntWalk.i64_in (mm + 1 + 1 + 1 + 1 + (Ty.scnt K1 : Int) + 1) (by omega)
        have i6 := IntWalk.i64_in (mm + 1 + 1 + 1 + 1 + (Ty.scnt K1 : Int) + 1 + (Ty.scnt K2 : Int) + 1) (by omega)
        go_wp2_with fail
        refine (markText_val (mm + 1) (by omega) (by omega) _).mono ?_
        rintro e w1 ⟨rfl, hsz, hb1⟩
        generalize hsg : mtext (mm + 1) = s' at hsz ⊢
        have HSG := Lib.hid hsg
        clear hsg
        have st1 : Sv wr w1 b j [] := ((Sv.refl HBLK.out).set (o := j * 9) (v := .int .i64 mm) (by omega) (by omega)).below hb1 (by simp; omega)
        have d0 := bcell hb1 (sc_self (b := b) (o := j * 9) (v := .int .i64 mm) c0)
        have d1 := bcell hb1 (sc_far (p := ⟨b, j * 9, none⟩) (v := .int .i64 mm) c1 (by simp))
        have d2 := bcell hb1 (sc_far (p := ⟨b, j * 9, none⟩) (v := .int .i64 mm) c2 (by simp))
        have d3 := bcell hb1 (sc_far (p := ⟨b, j * 9, none⟩) (v := .int .i64 mm) c3 (by simp))
        have d4 := bcell hb1 (sc_far (p := ⟨b, j * 9, none⟩) (v := .int .i64 mm) c4 (by simp))
        have d5 := bcell hb1 (sc_far (p := ⟨b, j * 9, none⟩) (v := .int .i64 mm) c5 (by simp))
        have d6 := bcell hb1 (sc_far (p := ⟨b, j * 9, none⟩) (v := .int .i64 mm) c6 (by simp))
        have d7 := bcell hb1 (sc_far (p := ⟨b, j * 9, none⟩) (v := .int .i64 mm) c7 (by simp))
        have d8 := bcell hb1 (sc_far (p := ⟨b, j * 9, none⟩) (v := .int .i64 mm) c8 (by simp))
        have hf1 := st1.st.fro
        have lb1 : b < w1.heap.size := World.block_lt_of_cell? _ _ d1
        have HST1 := Lib.hid st1
        clear c0 c1 c2 c3 c4 c5 c6 c7 c8 hf0 lb0 st1 hb1
        go_wp2_with fail
        have sA := Lib.hid (((HST1.out.set (o := j * 9 + 1) (v := .string s') (by omega) (by omega)).set (o := j * 9 + 2) (v := .int .i64 (mm + 1 + 1)) (by omega) (by omega)).set (o := j * 9 + 3) (v := .int .i64 (mm + 1 + 1 + 1)) (by omega) (by omega))
        refine (markTypeS_any K1 (mm + 1 + 1 + 1 + 1) _ g1 _ (sA.out.st.own HO1.out HD1.out) HND1.out (by omega) (by omega)).mono ?_
        rintro e w2 ⟨rfl, ho2, hc2⟩
        have st2 := sA.out.call hc2 HN1.out (by simp; omega)
        have F := fun {o : Nat} {v : Value} (h1 : o ≠ j * 9 + 1) (h2 : o ≠ j * 9 + 2) (h3 : o ≠ j * 9 + 3) (h : w1.cell? ⟨b, o, none⟩ = some v) =>
          chg_cell hc2 HN1.out (sc_far (sc_far (sc_far h (fun e => by cases e; exact h1 rfl)) (fun e => by cases e; exact h2 rfl)) (fun e => by cases e; exact h3 rfl))
        have e0 := F (by omega) (by omega) (by omega) d0
        have e1 := chg_cell hc2 HN1.out (sc_far (p := ⟨b, j * 9 + 3, none⟩) (v := .int .i64 (mm + 1 + 1 + 1)) (sc_far (p := ⟨b, j * 9 + 2, none⟩) (v := .int .i64 (mm + 1 + 1)) (sc_self (b := b) (o := j * 9 + 1) (v := .string s') d1) (by simp)) (by simp))
        have e2 := chg_cell hc2 HN1.out (sc_far (p := ⟨b, j * 9 + 3, none⟩) (v := .int .i64 (mm + 1 + 1 + 1)) (sc_self (b := b) (o := j * 9 + 2) (v := .int .i64 (mm + 1 + 1)) (sc_far (p := ⟨b, j * 9 + 1, none⟩) (v := .string s') d2 (by simp))) (by simp))
        have e3 := chg_cell hc2 HN1.out (sc_self (b := b) (o := j * 9 + 3) (v := .int .i64 (mm + 1 + 1 + 1)) (sc_far (p := ⟨b, j * 9 + 2, none⟩) (v := .int .i64 (mm + 1 + 1)) (sc_far (p := ⟨b, j * 9 + 1, none⟩) (v := .string s') d3 (by simp)) (by simp)))
        have e4 := F (by omega) (by omega) (by omega) d4
        have e5 := F (by omega) (by omega) (by omega) d5
        have e6 := F (by omega) (by omega) (by omega) d6
        have e7 := F (by omega) (by omega) (by omega) d7
        have e8 := F (by omega) (by omega) (by omega) d8
        have hf2 := st2.st.fro
        have SB := Lib.hid (Sv.refl (j := j) st2.blk)
        have HOW2 := Lib.hid ho2
        clear ho2
        have lb2 : b < w2.heap.size := World.block_lt_of_cell? _ _ e5
        have HST2 := Lib.hid st2
        clear d0 d1 d2 d3 d4 d5 d6 d7 d8 hf1 lb1 st2 sA F hc2 HST1
        go_wp2_with fail
        have sB := Lib.hid (HST2.out.set (o := j * 9 + 5) (v := .int .i64 (mm + 1 + 1 + 1 + 1 + (Ty.scnt K1 : Int))) (by omega) (by omega))
        have SB2 := Lib.hid (SB.out.set (o := j * 9 + 5) (v := .int .i64 (mm + 1 + 1 + 1 + 1 + (Ty.scnt K1 : Int))) (by omega) (by omega))
        refine (markTypeS_any K2 (mm + 1 + 1 + 1 + 1 + (Ty.scnt K1 : Int) + 1) _ g2 _ (sB.out.st.own HO2.out HD2.out) HND2.out (by omega) (by omega)).mono ?_
        rintro e w3 ⟨rfl, ho3, hc3⟩
        have st3 := sB.out.call hc3 HN2.out (by simp; omega)
        have F := fun {o : Nat} {v : Value} (h1 : o ≠ j * 9 + 5) (h : w2.cell? ⟨b, o, none⟩ = some v) =>
          chg_cell hc3 HN2.out (sc_far h (fun e => by cases e; exact h1 rfl))
        have x0 := F (by omega) e0
        have x1 := F (by omega) e1
        have x2 := F (by omega) e2
        have x3 := F (by omega) e3
        have x4 := F (by omega) e4
        have x5 := chg_cell hc3 HN2.out (sc_self (b := b) (o := j * 9 + 5) (v := .int .i64 (mm + 1 + 1 + 1 + 1 + (Ty.scnt K1 : Int))) e5)
        have x6 := F (by omega) e6
        have x7 := F (by omega) e7
        have x8 := F (by omega) e8
        have hf3 := st3.st.fro
        have SB3 := Lib.hid (SB2.out.call hc3 HN2.out (by simp; omega))
        have SC := Lib.hid (Sv.refl (j := j) st3.blk)
        have HOW3 := Lib.hid ho3
        clear ho3 SB SB2
        have lb3 : b < w3.heap.size := World.block_lt_of_cell? _ _ x7
        have HST3 := Lib.hid st3
        clear e0 e1 e2 e3 e4 e5 e6 e7 e8 hf2 lb2 st3 sB F hc3 HST2
        go_wp2_with fail
        have sC := Lib.hid (HST3.out.set (o := j * 9 + 7) (v := .int .i64 (mm + 1 + 1 + 1 + 1 + (Ty.scnt K1 : Int) + 1 + (Ty.scnt K2 : Int))) (by omega) (by omega))
        have SB4 := Lib.hid (SB3.out.set (o := j * 9 + 7) (v := .int .i64 (mm + 1 + 1 + 1 + 1 + (Ty.scnt K1 : Int) + 1 + (Ty.scnt K2 : Int))) (by omega) (by omega))
        have SC2 := Lib.hid (SC.out.set (o := j * 9 + 7) (v := .int .i64 (mm + 1 + 1 + 1 + 1 + (Ty.scnt K1 : Int) + 1 + (Ty.scnt K2 : Int))) (by omega) (by omega))
        refine (HIH.out (mm + 1 + 1 + 1 + 1 + (Ty.scnt K1 : Int) + 1 + (Ty.scnt K2 : Int) + 1) _ g3 _ (sC.out.st.own HO3.out HD3.out) HND3.out (by omega) (by omega)).mono ?_
        rintro e w4 ⟨rfl, ho4, hc4⟩
        have st4 := Lib.hid (sC.out.call hc4 HN3.out (by simp; omega))
        have F := fun {o : Nat} {v : Value} (h1 : o ≠ j * 9 + 7) (h : w3.cell? ⟨b, o, none⟩ = some v) =>
          chg_cell hc4 HN3.out (sc_far (p := ⟨b, j * 9 + 7, none⟩) (v := .int .i64 (mm + 1 + 1 + 1 + 1 + (Ty.scnt K1 : Int) + 1 + (Ty.scnt K2 : Int))) h (fun e => by cases e; exact h1 rfl))
        have SB5 := SB4.out.call hc4 HN3.out (by simp; omega)
        have SC3 := SC2.out.call hc4 HN3.out (by simp; omega)
        have HROW := Lib.hid (TmCells.mk hsz (F (by omega) x0) (F (by omega) x1) (F (by omega) x2) (F (by omega) x3) (F (by omega) x4) (F (by omega) x5) (F (by omega) x6) (chg_cell hc4 HN3.out (sc_self (b := b) (o := j * 9 + 7) (v := .int .i64 (mm + 1 + 1 + 1 + 1 + (Ty.scnt K1 : Int) + 1 + (Ty.scnt K2 : Int))) x7)) (F (by omega) x8) (SB5.st.own HOW2.out HDN2.out) (SC3.st.own HOW3.out HDN3.out) ho4)
        clear x0 x1 x2 x3 x4 x5 x6 x7 x8 hf3 lb3 sC hc4 HST3 SB5 SC3 F ho4 SB3 SB4 SC SC2
        go_wp2_with fail
        go_roundw
        case rel =>
          refine ⟨j + 1, by omega, by go_num, ⟨_, rfl, by omega, by omega, by unfold Hid; rw [HREST.out]; exact HFIN.out, by have := HMMQ.out; unfold Hid; omega⟩, hcw.out.trans (st4.out.st.chg.mono (fun x hx => by rcases List.mem_cons.1 hx with h | h <;> simp [h]; exact .inr (HSUB2.out x h))), st4.out.blk, fd ++ (g1 ++ (g2 ++ g3)), f2', by rw [HFE.out]; simp, ?_, ?_⟩
          · rw [HMK.out, Tm.rows_eq, List.map_append, ← Tm.rows_eq]
            refine RowsOwn.snoc (RowsOwn.move _ _ _ (fun x hx => st4.out.st.chg.block x (HDL.out x hx) (HDDN.out x hx)) (fun o _ ho => st4.out.near o (by rw [Tm.flatten_length, List.length_take, Tm.marks_length, Nat.min_eq_left (by omega)] at ho; omega)) HRD.out) ?_
            rw [Tm.flatten_length, List.length_take, Tm.marks_length, Nat.min_eq_left (by omega), Nat.zero_add]
            have h := HROW.out
            rw [← HSG.out] at h
            have q1 : mm + 1 + 1 = mm + 2 := by omega
            have q2 : mm + 1 + 1 + 1 = mm + 3 := by omega
            have q3 : mm + 1 + 1 + 1 + 1 = mm + 4 := by omega
            have q4 : mm + 4 + (Ty.scnt K1 : Int) + 1 = mm + 5 + Ty.scnt K1 := by omega
            have q5 : mm + 5 + (Ty.scnt K1 : Int) + Ty.scnt K2 + 1 = mm + 6 + Ty.scnt K1 + Ty.scnt K2 := by omega
            rw [q3, q2, q1, q4, q5] at h
            exact h
          · rw [show (j + 1) * 9 = j * 9 + 9 from by omega]
            exact RowsOwn.move _ _ _ (fun x hx => st4.out.st.chg.block x (HRL.out x hx) (HD4.out x hx)) (fun o ho _ => st4.out.st.far o (by omega)) HRO2.out
        case measure => simp [intOf]; omega
      · have hlast : mm = m + Tm.mcnts ts := by
          have h := hqe.out
          rw [List.drop_eq_nil_of_le (by have := HN.out; omega)] at h
          simp only [Tm.mcnts] at h
          omega
        have HL := Lib.hid hlast
        clear hlast
        go_wp2_with fail
        go_ret
        refine ⟨ret_int HL.out, ?_, hcw.out⟩
        obtain ⟨f1, f2, rfl, hr1, hr2⟩ := hrw.out
        obtain ⟨cs, T, hk⟩ := hfw.out
        rw [List.drop_eq_nil_of_le (by have := HN.out; omega)] at hr2
        simp only [Tm.rows, RowsOwn] at hr2
        subst hr2
        rw [List.take_of_length_le (by rw [Tm.marks_length]; have := HN.out; omega)] at hr1
        unfold TmsOwn COwn
        exact ⟨_, cap, by rw [Tm.rows_length, Tm.marks_length, HN.out], by rw [Tm.rows_length, Tm.marks_length, HN.out]; exact h2, by unfold maxLen; exact h3, .inr ⟨b, f1, cs, T, rfl, by simp, hk, hr1⟩⟩
termination_by SizeOf.sizeOf ts
decreasing_by exact Tm.kids_lt_list ht
end Go.Proofs.Ytghgjpcibdfbmaa
namespace Go.Proofs.Ytghgjpcibdfbmaa
open Go.RowKit
set_option linter.unusedVariables false
set_option linter.unusedSimpArgs false
set_option maxRecDepth 100000

set_option maxHeartbeats 8000000 in
theorem heldTermS_any (F : Nat → Prop) (ts : List Tm) : ∀ (m : Int) (s : Value) (w : World), TmsRep F w (Tm.marks ts m) s → 0 ≤ m → m + Tm.mcnts ts ≤ 1099511627776 →
    Calls Try.prog 97 #[s, .int .i64 m] w fun e w' => e = .returned (.int .i64 (m + Tm.mcnts ts)) ∧ Below w.heap.size w w' := by
  intro m s w hy hm0 hmb
  have IH : ∀ t ∈ ts, ∀ (m : Int) (s : Value) (w : World), TmsRep F w (Tm.marks t.kids m) s → 0 ≤ m → m + Tm.mcnts t.kids ≤ 1099511627776 →
    Calls Try.prog 97 #[s, .int .i64 m] w fun e w' => e = .returned (.int .i64 (m + Tm.mcnts t.kids)) ∧ Below w.heap.size w w' := fun t ht m s w a b c => heldTermS_any F t.kids m s w a b c
  have IHH := Lib.hid IH
  clear IH
  obtain ⟨a, cap, rfl, h2, h3, -⟩ := hy.open
  rw [Tm.marks_length] at h2 hy ⊢
  unfold maxLen at h3
  obtain ⟨n, hn⟩ : ∃ n, ts.length = n := ⟨_, rfl⟩
  rw [hn] at h2 hy ⊢
  have HN := Lib.hid hn
  have HMB := Lib.hid hmb
  clear hn hmb
  go_enter Try.func97, Try.ntmps97
  go_wp2_with fail
  go_loopw [5, 1] (fun i p wr => ∃ j : Nat, j ≤ n ∧ i = .int .i64 j ∧ (∃ q : Int, p = .int .i64 q ∧ 0 ≤ q ∧ q ≤ 1099511627776 ∧ Hid (q = m + Tm.mcnts (ts.take j))) ∧ Below w.heap.size w wr) (fun i _ _ => n - (intOf i).toNat)
  case atStart => exact ⟨0, by omega, rfl, ⟨m, rfl, hm0, by have := HMB.out; omega, by simp [Hid, Tm.mcnts]⟩, Below.refl _ _⟩
  case round =>
    obtain ⟨j, hj, rfl, ⟨q, rfl, hq0, hq1, hq⟩, hbw⟩ := hrel
    by_cases hlt : j < n
    · have hjt : j < ts.length := by rw [HN.out]; exact hlt
      obtain ⟨b, off, k0, nm0, u0, tk0, ta0, tn0, tq0, fk0, fa0, fn0, fq0, l0, a0, m0, q0, rfl, l0', e0, e1, e2, e3, e4, e5, e6, e7, e8, ht⟩ := hy.at hbw (i := j) (by rw [Tm.marks_length]; exact hjt)
      rw [Tm.marks_get ts m j hjt, ← hq.out, Tm.marked_eq] at ht
      have htk := Tm.mcnts_take_succ ts j hjt
      have htd := Tm.mcnts_take_drop ts (j + 1)
      have hmc := ts[j].mcnt_eq
      have hIH := IHH.out ts[j] (List.getElem_mem hjt)
      generalize ts[j].type.kids = K1 at ht hmc
      generalize ts[j].src.kids = K2 at ht hmc
      generalize ts[j].kids = K3 at ht hmc hIH
      generalize ts[j].mcnt = mj at htk hmc
      obtain ⟨r1, r2, r3, r4, -, r6, -, r8, -, -, -, -, hty, hsr, hks⟩ := ht.parts
      obtain ⟨s1, x1, hs1⟩ := hty
      obtain ⟨s2, x2, hs2⟩ := hsr
      simp only [Tm.kind, Tm.name, Tm.num, Tm.type, Tm.src, Tm.label, Tm.kids, Ty.kind, Ty.kids] at r1 r2 r3 r4 r6 r8 x1 x2 hs1 hs2 hks
      simp only [Value.agg.injEq, Array.mk.injEq, List.cons.injEq, and_true, true_and] at x1 x2
      obtain ⟨-, rfl⟩ := x1
      obtain ⟨-, rfl⟩ := x2
      have hmb := HMB.out
      have hqq := hq.out
      have B3 : q + 6 + Ty.scnt K1 + Ty.scnt K2 + Tm.mcnts K3 ≤ 1099511627776 := by omega
      have hfin : q + 1 + 1 + 1 + 1 + (Ty.scnt K1 : Int) + 1 + (Ty.scnt K2 : Int) + 1 + (Tm.mcnts K3 : Int) = m + Tm.mcnts (ts.take (j + 1)) := by omega
      have g1 : q + 1 + 1 = q + 2 := by omega
      have g2 : q + 1 + 1 + 1 = q + 3 := by omega
      have g3 : q + 1 + 1 + 1 + 1 = q + 4 := by omega
      have g4 : q + 4 + (Ty.scnt K1 : Int) = q + 1 + 1 + 1 + 1 + (Ty.scnt K1 : Int) := by omega
      have g5 : q + 5 + (Ty.scnt K1 : Int) = q + 1 + 1 + 1 + 1 + (Ty.scnt K1 : Int) + 1 := by omega
      have g6 : q + 5 + (Ty.scnt K1 : Int) + Ty.scnt K2 = q + 1 + 1 + 1 + 1 + (Ty.scnt K1 : Int) + 1 + (Ty.scnt K2 : Int) := by omega
      have g7 : q + 6 + (Ty.scnt K1 : Int) + Ty.scnt K2 = q + 1 + 1 + 1 + 1 + (Ty.scnt K1 : Int) + 1 + (Ty.scnt K2 : Int) + 1 := by omega
      rw [g6] at r8
      rw [g5] at hs2
      rw [g4] at r6
      rw [g7] at hks
      rw [← g3] at hs1
      rw [← g2] at r4
      rw [← g1] at r3
      subst r1 r3 r4 r6 r8
      have HFIN := Lib.hid hfin
      have HS1 := Lib.hid hs1
      have HS2 := Lib.hid hs2
      have HKS := Lib.hid hks
      have HIH := Lib.hid hIH
      have HR2 := Lib.hid r2
      clear htk htd hmc hIH hqq hfin hs1 hs2 hks ht hq hmb g1 g2 g3 g4 g5 g6 g7 r2
      have i1 := IntWalk.i64_in (k0 + 1) (by omega)
      have i2 := IntWalk.i64_in (k0 + 1 + 1) (by omega)
      have i3 := IntWalk.i64_in (k0 + 1 + 1 + 1) (by omega)
      have i4 := IntWalk.i64_in (k0 + 1 + 1 + 1 + 1) (by omega)
      have i5 := IntWalk.i64_in (k0 + 1 + 1 + 1 + 1 + (Ty.scnt K1 : Int) + 1) (by omega)
      have i6 := IntWalk.i64_in (k0 + 1 + 1 + 1 + 1 + (Ty.scnt K1 : Int) + 1 + (Ty.scnt K2 : Int) + 1) (by omega)
      have j1 : decide (k0 + 1 + 1 + 1 + 1 + (Ty.scnt K1 : Int) < 0) = false := by simp; omega
      have j2 : decide (k0 + 1 + 1 + 1 + 1 + (Ty.scnt K1 : Int) + 1 + (Ty.scnt K2 : Int) < 0) = false := by simp; omega
      have j3 : decide (k0 + 1 + 1 + 1 + 1 + (Ty.scnt K1 : Int) + 1 + (Ty.scnt K2 : Int) + 1 + (Tm.mcnts K3 : Int) < 0) = false := by simp; omega
      go_wp2_with fail
      go_region_held3 (fun w' => w'.cell? ⟨b, off + j * 9 + 1, none⟩ = some (.string nm0))
        (first | go_keep | exact bcelld hb1 e1)
        ((go_at_call 111; refine (markText_val (k0 + 1) (by omega) (by omega) _).mono ?_; rintro e w1 ⟨rfl, -, hb1⟩; rw [← HR2.out]))
      have d1 := bcelld hb1 e1
      have d2 := bcelld hb1 e2
      have d3 := bcelld hb1 e3
      have d4 := bcelld hb1 e4
      have d5 := bcelld hb1 e5
      have d6 := bcelld hb1 e6
      have d7 := bcelld hb1 e7
      have d8 := bcelld hb1 e8
      replace hb1 := bstep bdr hb1
      have lb1 := World.block_lt_of_cell? _ _ d1
      clear e0 e1 e2 e3 e4 e5 e6 e7 e8 l0'
      have HB1 := Lib.hid hb1
      clear hb1
      go_wp2_with fail
      refine (heldTypeS_any F K1 (k0 + 1 + 1 + 1 + 1) _ _ (HS1.out.move (.below HB1.out)) (by omega) (by omega)).mono ?_
      rintro e w2 ⟨rfl, hb2⟩
      have e5 := bcell hb2 d5
      have e6 := bcell hb2 d6
      have e7 := bcell hb2 d7
      have e8 := bcell hb2 d8
      have lb2 := World.block_lt_of_cell? _ _ e5
      have HB2 := Lib.hid (bstep HB1.out hb2)
      clear d1 d2 d3 d4 d5 d6 d7 d8 lb1 hb2
      go_wp2_with fail
      refine (heldTypeS_any F K2 (k0 + 1 + 1 + 1 + 1 + (Ty.scnt K1 : Int) + 1) _ _ (HS2.out.move (.below HB2.out)) (by omega) (by omega)).mono ?_
      rintro e w3 ⟨rfl, hb3⟩
      have d7 := bcell hb3 e7
      have d8 := bcell hb3 e8
      have lb3 := World.block_lt_of_cell? _ _ d7
      have HB3 := Lib.hid (bstep HB2.out hb3)
      clear e5 e6 e7 e8 lb2 hb3
      go_wp2_with fail
      refine (HIH.out (k0 + 1 + 1 + 1 + 1 + (Ty.scnt K1 : Int) + 1 + (Ty.scnt K2 : Int) + 1) _ _ (HKS.out.below HB3.out) (by omega) (by omega)).mono ?_
      rintro e w4 ⟨rfl, hb4⟩
      have HB4 := Lib.hid (bstep HB3.out hb4)
      clear d7 d8 lb3 hb4
      go_wp2_with fail
      go_roundw
      case rel => exact ⟨j + 1, by omega, by go_num, ⟨_, rfl, by omega, by omega, HFIN.out⟩, bstep hbw HB4.out⟩
      case measure => simp [intOf]; omega
    · have hlast : q = m + Tm.mcnts ts := by
        have h := hq.out
        rw [List.take_of_length_le (by have := HN.out; omega)] at h
        exact h
      have HL := Lib.hid hlast
      clear hlast hq
      go_wp2_with fail
      go_ret
      exact ⟨ret_int HL.out, hbw⟩
termination_by SizeOf.sizeOf ts
decreasing_by exact Tm.kids_lt_list ht

/-- A term whose parts are marked from m on. -/
def Tm.markP (t : Tm) (m : Int) : Tm := .mk t.kind t.name t.num (.mk t.type.kind (Ty.marks t.type.kids m)) (.mk t.src.kind (Ty.marks t.src.kids (m + t.type.cnt))) t.label (Tm.marks t.kids (m + t.type.cnt + t.src.cnt))
set_option maxHeartbeats 2000000 in
theorem markTerm_val (t : Tm) (m : Int) (y : Value) (fp : List Nat) (w : World) (hown : TmOwn w t y fp) (hnd : fp.Nodup) (hm0 : 0 ≤ m) (hmb : m + t.mk9 ≤ 1099511627776) :
    Calls Try.prog 23 #[y, .int .i64 m] w fun e w' => e = .returned (.int .i64 (m + t.mk9)) ∧ TmOwn w' (t.markP m) y fp ∧ Chg fp w w' := by
  have hsh := hown.ks
  obtain ⟨s1, s2, s, f1, f2, f3, rfl, rfl, hn, h1, h2, h3⟩ := hown
  obtain ⟨k, nm, u, tk, ta, tn, tq, fk, fa, fn, fq, l, c, n, q, he⟩ := hsh
  simp only [Value.agg.injEq, Array.mk.injEq, List.cons.injEq, Value.int.injEq, Value.string.injEq, true_and, and_true] at he
  obtain ⟨rfl, rfl, rfl, rfl, rfl, rfl, rfl, rfl, rfl⟩ := he
  obtain ⟨nd1, nd23, hd1⟩ := List.nodup_append.1 hnd
  obtain ⟨nd2, nd3, hd2⟩ := List.nodup_append.1 nd23
  unfold Tm.mk9 at hmb ⊢
  unfold Tm.markP
  have l1 : ∀ x ∈ f1, x < w.heap.size := COwn.lt _ _ _ h1
  have l2 : ∀ x ∈ f2, x < w.heap.size := COwn.lt _ _ _ h2
  have l3 : ∀ x ∈ f3, x < w.heap.size := COwn.lt _ _ _ h3
  have o1 : TyOwn w t.type (.agg #[.int .i64 t.type.kind, .slice ta tn tq]) f1 := ⟨_, rfl, h1⟩
  have o2 : TyOwn w t.src (.agg #[.int .i64 t.src.kind, .slice fa fn fq]) f2 := ⟨_, rfl, h2⟩
  have n1 : w.heap.size ∉ f1 := fun h => by have := l1 _ h; omega
  have n2 : w.heap.size ∉ f2 := fun h => by have := l2 _ h; omega
  have b1 : m + t.type.cnt ≤ 1099511627776 := by omega
  have b2 : m + t.type.cnt + t.src.cnt ≤ 1099511627776 := by omega
  have HO1 := Lib.hid o1
  have HO2 := Lib.hid o2
  have HO3 := Lib.hid h3
  have ND1 := Lib.hid nd1
  have ND2 := Lib.hid nd2
  have ND3 := Lib.hid nd3
  have HD1 := Lib.hid hd1
  have HD2 := Lib.hid hd2
  have HMB := Lib.hid hmb
  have L1 := Lib.hid l1
  have L2 := Lib.hid l2
  have L3 := Lib.hid l3
  have N1 := Lib.hid n1
  have N2 := Lib.hid n2
  have NN := Lib.hid hn
  generalize t.kind = xk at *
  generalize t.num = xu at *
  generalize t.label = xl at *
  generalize t.name = xn at *
  clear h1 h2 h3 o1 o2 nd1 nd2 nd3 nd23 hd1 hd2 hnd hmb l1 l2 l3 n1 n2 hn
  go_enter Try.func23, Try.ntmps23
  go_wp2_with fail
  refine (markType_any t.type m _ f1 _ (HO1.out.below bal1) ND1.out hm0 b1).mono ?_
  rintro e w1 ⟨rfl, hv1, hc1⟩
  have c5 := chg_cell hc1 N1.out (cell_n0 5)
  have c6 := chg_cell hc1 N1.out (cell_n0 6)
  have c8 := chg_cell hc1 N1.out (cell_n0 8)
  have z1 := hc1.size
  have HC1 := Lib.hid hc1
  have HV1 := Lib.hid hv1
  have HP2 := Lib.hid (TyOwn.chgT hc1 (fun b hb h => HD1.out b h b (by simp [hb]) rfl) (HO2.out.below bal1))
  have HP3 := Lib.hid (COwn.move _ _ _ (fun b hb => (hc1.block b (by simp; have := L3.out b hb; omega) (fun h => HD1.out b h b (by simp [hb]) rfl)).trans (heap_alloc_old w _ (L3.out b hb))) HO3.out)
  clear hc1 hv1
  go_wp2_with fail
  refine (markType_any t.src (m + t.type.cnt) _ f2 _ HP2.out ND2.out (by omega) b2).mono ?_
  rintro e w2 ⟨rfl, hv2, hc2⟩
  have d8 := chg_cell hc2 N2.out c8
  have HC2 := Lib.hid hc2
  have HV2 := Lib.hid hv2
  have HQ1 := Lib.hid (TyOwn.chgT hc2 (fun b hb h => HD1.out b hb b (by simp [h]) rfl) HV1.out)
  have HQ3 := Lib.hid (COwn.move _ _ _ (fun b hb => hc2.block b (COwn.lt _ _ _ HP3.out b hb) (fun h => HD2.out b h b hb rfl)) HP3.out)
  clear c5 c6 c8 hc2 hv2
  go_wp2_with fail
  refine (markTermS_val t.kids (m + t.type.cnt + t.src.cnt) _ f3 _ HQ3.out ND3.out (by omega) (by have := HMB.out; omega)).mono ?_
  rintro e w3 ⟨rfl, hv3, hc3⟩
  have HC3 := Lib.hid hc3
  have HV3 := Lib.hid hv3
  have HR1 := Lib.hid (TyOwn.chgT hc3 (fun b hb h => HD1.out b hb b (by simp [h]) rfl) HQ1.out)
  have HR2 := Lib.hid (TyOwn.chgT hc3 (fun b hb h => HD2.out b hb b h rfl) HV2.out)
  clear hc3 d8 hv3
  go_wp2_with fail
  go_ret
  refine ⟨ret_int (by simp only [Int.natCast_add]; omega), ?_, (((Chg.of_below bal1).trans (HC1.out.mono (by simp; intro x hx; exact .inl hx))).trans (HC2.out.mono (by simp; intro x hx; exact .inr (.inl hx)))).trans (HC3.out.mono (by simp; intro x hx; exact .inr (.inr hx)))⟩
  obtain ⟨s1, e1, p1⟩ := HR1.out
  obtain ⟨s2, e2, p2⟩ := HR2.out
  simp only [Value.agg.injEq, Array.mk.injEq, List.cons.injEq, and_true, true_and] at e1 e2
  obtain ⟨-, rfl⟩ := e1
  obtain ⟨-, rfl⟩ := e2
  exact ⟨_, _, _, f1, f2, f3, rfl, rfl, NN.out, p1, p2, HV3.out⟩
set_option maxHeartbeats 2000000 in
theorem heldTerm_any (F : Nat → Prop) (t : Tm) (m : Int) (y : Value) (w : World) (hy : TmRep F w (t.markP m) y) (hm0 : 0 ≤ m) (hmb : m + t.mk9 ≤ 1099511627776) :
    Calls Try.prog 49 #[y, .int .i64 m] w fun e w' => e = .returned (.int .i64 (m + t.mk9)) ∧ Below w.heap.size w w' := by
  unfold Tm.mk9 at hmb ⊢
  unfold Tm.markP at hy
  generalize t.type = X1 at *
  generalize t.src = X2 at *
  generalize t.kids = X3 at *
  generalize t.kind = X4 at *
  generalize t.name = X5 at *
  generalize t.num = X6 at *
  generalize t.label = X7 at *
  have e1 : ∀ a b, (Ty.mk a b).kind = a := fun _ _ => rfl
  obtain ⟨k, nm, u, tk, ta, tn, tq, fk, fa, fn, fq, l, c, n, q, rfl⟩ := hy.shape
  obtain ⟨-, -, -, r4, -, r6, -, -, -, -, -, -, hty, hsr, hks⟩ := hy.parts
  simp only [Tm.type, Tm.src, Tm.kids, e1] at r4 r6 hty hsr hks
  subst r4 r6
  have HT := Lib.hid hty
  have HS := Lib.hid hsr
  have HK := Lib.hid hks
  have b1 : m + X1.cnt ≤ 1099511627776 := by omega
  have b2 : m + X1.cnt + X2.cnt ≤ 1099511627776 := by omega
  have HMB := Lib.hid hmb
  have j1 : decide (m + (X1.cnt : Int) < 0) = false := by simp; omega
  have j2 : decide (m + (X1.cnt : Int) + (X2.cnt : Int) < 0) = false := by simp; omega
  have j3 : decide (m + (X1.cnt : Int) + (X2.cnt : Int) + (Tm.mcnts X3 : Int) < 0) = false := by simp; omega
  clear hty hsr hks hy hmb
  go_enter Try.func49, Try.ntmps49
  go_wp2_with fail
  refine (heldType_any F X1 m _ _ (HT.out.below bal1) hm0 b1).mono ?_
  rintro e w1 ⟨rfl, hb1⟩
  have c5 := bcell hb1 (cell_n0 5)
  have c6 := bcell hb1 (cell_n0 6)
  have c8 := bcell hb1 (cell_n0 8)
  have l5 := World.block_lt_of_cell? _ _ c5
  have HB1 := Lib.hid (bstep bal1 hb1)
  clear hb1
  go_wp2_with fail
  refine (heldType_any F X2 (m + X1.cnt) _ _ (HS.out.below HB1.out) (by omega) b2).mono ?_
  rintro e w2 ⟨rfl, hb2⟩
  have d8 := bcell hb2 c8
  have l8 := World.block_lt_of_cell? _ _ d8
  have HB2 := Lib.hid (bstep HB1.out hb2)
  clear hb2 c5 c6 c8 l5
  go_wp2_with fail
  refine (heldTermS_any F X3 (m + X1.cnt + X2.cnt) _ _ (HK.out.below HB2.out) (by omega) (by have := HMB.out; omega)).mono ?_
  rintro e w3 ⟨rfl, hb3⟩
  have HB3 := Lib.hid (bstep HB2.out hb3)
  clear hb3 d8 l8
  go_wp2_with fail
  go_ret
  exact ⟨ret_int (by simp only [Int.natCast_add]; omega), HB3.out⟩
end Go.Proofs.Ytghgjpcibdfbmaa
