/-
  The types of a term as a list: plain facts; rows appended to rows.
  The types of a term as a list, by the program.
  The types of a term as a list, by the reference.
  How many unknown parts a type has, and how deep it is.
  TermTypes of both sides.
  StaticTerm of both sides.
-/
import Derived.Test.YtghgjpcibdfbmaaTmHas
import Derived.Test.YtghgjpcibdfbmaaK0
import Derived.Test.YtghgjpcibdfbmaaK4
import Derived.Deep.AppendLies
import Derived.Laws.AppendOwnNone
import Derived.Test.YtghgjpcibdfbmaaTyValid
import Derived.Test.YtghgjpcibdfbmaaK5
namespace Go.Proofs.Ytghgjpcibdfbmaa
open Go.RowKit
set_option linter.unusedVariables false
set_option linter.unusedSimpArgs false
set_option maxRecDepth 100000

mutual
def Tm.tys : Tm → List Ty
  | .mk k _ _ t _ _ ts => (if hasT k then [t] else []) ++ Tm.tyss ts
def Tm.tyss : List Tm → List Ty
  | [] => []
  | t :: ts => t.tys ++ Tm.tyss ts
end
theorem Tm.tyss_take_succ : ∀ (ts : List Tm) (j : Nat) (h : j < ts.length), Tm.tyss (ts.take (j + 1)) = Tm.tyss (ts.take j) ++ ts[j].tys
  | [], _, h => absurd h (Nat.not_lt_zero _)
  | t :: ts, 0, _ => by simp [Tm.tyss]
  | t :: ts, j + 1, h => by
    have := Tm.tyss_take_succ ts j (by simpa using h)
    simp only [List.take_succ_cons, Tm.tyss, List.getElem_cons_succ, this, List.append_assoc]
theorem Tm.tyss_take_le (ts : List Tm) (j : Nat) : (Tm.tyss (ts.take j)).length ≤ (Tm.tyss ts).length := by
  induction ts generalizing j with
  | nil => simp
  | cons t ts ih =>
    cases j with
    | zero => simp [Tm.tyss]
    | succ j => have := ih j; simp only [List.take_succ_cons, Tm.tyss, List.length_append]; omega
theorem Tm.tys_mem {ts : List Tm} {t : Tm} (ht : t ∈ ts) : ∀ x ∈ t.tys, x ∈ Tm.tyss ts := by
  induction ts with
  | nil => cases ht
  | cons u ts ih =>
    intro x hx
    unfold Tm.tyss
    rcases List.mem_cons.1 ht with rfl | ht
    · exact List.mem_append_left _ hx
    · exact List.mem_append_right _ (ih ht x hx)
mutual
theorem Tm.tys_len : ∀ t : Tm, ((t.tys.length : Nat) : Int) ≤ t.size
  | .mk k _ _ t _ _ ts => by
    unfold Tm.tys Tm.size
    have := Tm.tyss_len ts
    rw [List.length_append]
    split <;> simp <;> omega
theorem Tm.tyss_len : ∀ ts : List Tm, (((Tm.tyss ts).length : Nat) : Int) ≤ Tm.sizes ts
  | [] => by unfold Tm.tyss Tm.sizes; simp
  | t :: ts => by
    unfold Tm.tyss Tm.sizes
    have := Tm.tys_len t
    have := Tm.tyss_len ts
    rw [List.length_append]
    omega
end
theorem SRows.append {w : World} : ∀ {r1 r2 : List (List C)} {x1 x2 : List Value} {f1 f2 : List Nat}, SRows w r1 x1 f1 → SRows w r2 x2 f2 → SRows w (r1 ++ r2) (x1 ++ x2) (f1 ++ f2)
  | [], r2, _, x2, _, f2, ⟨h1, h2⟩, h => by subst h1 h2; exact h
  | r :: r1, r2, _, x2, _, f2, ⟨ys, xs', g1, g2, e1, e2, h1, h2⟩, h => by
    subst e1 e2
    exact ⟨ys, xs' ++ x2, g1, g2 ++ f2, by simp, by simp, h1, SRows.append h2 h⟩
theorem COwn.one {w : World} : ∀ {c : C} {y : Value} {fp : List Nat}, COwn w c y fp → y.oneCell' = true
  | .int _, _, _, h => by unfold COwn at h; rw [h.1]; rfl
  | .str _, _, _, h => by unfold COwn at h; rw [h.1]; rfl
  | .sl _, _, _, h => by unfold COwn at h; obtain ⟨a, q, h, -⟩ := h; rw [h]; rfl
theorem SOwn.one {w : World} : ∀ {r : List C} {ys : List Value} {fp : List Nat}, SOwn w r ys fp → ∀ y ∈ ys, y.oneCell' = true
  | [], _, _, ⟨h, _⟩, y, hy => by subst h; cases hy
  | c :: cs, _, _, ⟨z, zs, f1, f2, e, _, h1, h2⟩, y, hy => by
    subst e
    rcases List.mem_cons.1 hy with rfl | hy
    · exact h1.one
    · exact SOwn.one h2 y hy
theorem SRows.one {w : World} : ∀ {rs : List (List C)} {ys : List Value} {fp : List Nat}, SRows w rs ys fp → ∀ y ∈ ys, y.oneCell' = true
  | [], _, _, ⟨h, _⟩, y, hy => by subst h; cases hy
  | r :: rs, _, _, ⟨y1, x', f1, f2, e, _, h1, h2⟩, y, hy => by
    subst e
    rcases List.mem_append.1 hy with hy | hy
    · exact h1.one y hy
    · exact SRows.one h2 y hy
/-- The rows behind the append of several rows. -/
theorem AccNew.pushS {B g cap m : Nat} {e : TypeId} {size n : Nat} {W w2 : World} {v : Value} {xs ys : List Value} {fps f : List Nat} {rows rs : List (List C)} (hl : rows.length = n) (hs : SRows W rows xs fps) (hd : fps.Nodup)
    (hfp : ∀ x ∈ fps, B ≤ x ∧ v.ownBlock ≠ some x) (hrl : rs.length = m) (hr : SRows W rs ys f) (hdf : f.Nodup) (hxf : ∀ x ∈ f, B ≤ x ∧ v.ownBlock ≠ some x ∧ x ∉ fps)
    (hown : w2.ownsRow B e size (.slice (some ⟨g, 0, none⟩) (n + m) cap) (n + m) (xs ++ ys)) (hgrow : W.grownBy w2 v.ownBlock) (hat : v.ownBlock = some g ∨ g = W.heap.size) :
    AccNew B e size w2 (.slice (some ⟨g, 0, none⟩) (n + m) cap) (n + m) (rows ++ rs) := by
  have l1 : ∀ b ∈ fps, b < W.heap.size := fun b hb => SRows.lt _ _ _ hs b hb
  have l2 : ∀ b ∈ f, b < W.heap.size := fun b hb => SRows.lt _ _ _ hr b hb
  have keep : ∀ x, x < W.heap.size → v.ownBlock ≠ some x → w2.heap[x]? = W.heap[x]? := fun x hx hn => hgrow.block x hx (fun e => hn e.symm)
  refine ⟨xs ++ ys, fps ++ f, hown, by simp [hl, hrl], SRows.append (hs.move _ _ _ fun b hb => keep b (l1 b hb) (hfp b hb).2) (hr.move _ _ _ fun b hb => keep b (l2 b hb) (hxf b hb).2.1), ?_, ?_⟩
  · exact List.nodup_append.2 ⟨hd, hdf, fun x hx y hy e => (hxf y hy).2.2 (e ▸ hx)⟩
  · intro x hx
    have hlt : x < W.heap.size ∧ B ≤ x ∧ v.ownBlock ≠ some x := by
      rcases List.mem_append.1 hx with hx | hx
      · exact ⟨l1 x hx, hfp x hx⟩
      · exact ⟨l2 x hx, (hxf x hx).1, (hxf x hx).2.1⟩
    refine ⟨hlt.2.1, fun e => ?_⟩
    simp only [Value.ownBlock, Option.some.injEq] at e
    rcases hat with hat | hat
    · exact hlt.2.2 (by rw [hat, e])
    · omega
theorem SRows.single {w : World} {r : List C} {ys : List Value} {f : List Nat} (h : SOwn w r ys f) : SRows w [r] ys f := ⟨ys, [], f, [], by simp, by simp, h, rfl, rfl⟩
/-- What a slice of one's own holds, where it lies. -/
theorem ownsRow_cells {w : World} {B : Nat} {e : TypeId} {size n q g : Nat} {xs : List Value} (h : w.ownsRow B e size (.slice (some ⟨g, 0, none⟩) n q) n xs) : ∀ j u, xs[j]? = some u → w.cell? ((⟨g, 0, none⟩ : Addr).add j) = some u := by
  obtain ⟨h1, h2 | ⟨g', cap, cur, h2, hB, hg, hn, hc, hs, ht⟩⟩ := h
  · exact absurd h2.1 (by simp)
  · simp only [Value.slice.injEq, Option.some.injEq, Addr.mk.injEq, and_true] at h2
    obtain ⟨rfl, _⟩ := h2
    intro j u hu
    have e1 : (⟨g, 0, none⟩ : Addr).add j = ⟨g, j, none⟩ := by
      by_cases hj : j = 0
      · subst hj; rfl
      · simp [Addr.add, hj]
    rw [e1]
    rw [← ht] at hu
    have hj : j < n * size := by
      have := List.getElem?_eq_some_iff.1 hu
      obtain ⟨h, _⟩ := this
      simp at h; omega
    rw [List.getElem?_take_of_lt hj, Array.getElem?_toList] at hu
    simp [World.cell?, hg, hu]
theorem AccNew.mono {B B' n size : Nat} {e : TypeId} {w : World} {v : Value} {rows : List (List C)} (h : AccNew B e size w v n rows) (hb : B' ≤ B) : AccNew B' e size w v n rows := by
  obtain ⟨xs, fps, ⟨h0, h1⟩, h2, h3, h4, h5⟩ := h
  refine ⟨xs, fps, ⟨h0, ?_⟩, h2, h3, h4, fun x hx => ⟨Nat.le_trans hb (h5 x hx).1, (h5 x hx).2⟩⟩
  rcases h1 with h1 | ⟨g, cap, cur, e1, e2, e3⟩
  · exact .inl h1
  · exact .inr ⟨g, cap, cur, e1, Nat.le_trans hb e2, e3⟩
end Go.Proofs.Ytghgjpcibdfbmaa
namespace Go.Proofs.Ytghgjpcibdfbmaa
open Go.RowKit
set_option linter.unusedVariables false
set_option linter.unusedSimpArgs false
set_option maxRecDepth 100000

set_option maxHeartbeats 8000000 in
theorem implTypes (F : Nat → Prop) (t : Tm) : ∀ (_ : t.tys.length ≤ 1000000) (_ : ∀ x ∈ t.tys, x.cnt ≤ 1048576) (y : Value) (w : World), TmRep F w t y →
    Calls Try.prog 84 #[y] w (fun e w' => ∃ v, e = .returned v ∧ AccNew w.heap.size 33 2 w' v t.tys.length (Ty.rows t.tys) ∧ (t.tys.length = 0 → v = .slice none 0 0) ∧ Below w.heap.size w w') := by
  intro hlen hcnt y w hy
  have IH : ∀ t' ∈ t.kids, ∀ (_ : t'.tys.length ≤ 1000000) (_ : ∀ x ∈ t'.tys, x.cnt ≤ 1048576) (y : Value) (W : World), TmRep F W t' y → Calls Try.prog 84 #[y] W (fun e W' => ∃ v, e = .returned v ∧ AccNew W.heap.size 33 2 W' v t'.tys.length (Ty.rows t'.tys) ∧ (t'.tys.length = 0 → v = .slice none 0 0) ∧ Below W.heap.size W W') :=
    fun t' ht a b y W c => implTypes F t' a b y W c
  obtain ⟨k, nm, u, tk, ta, tn, tq, fk, fa, fn, fq, l, c, m, q, rfl⟩ := hy.shape
  obtain ⟨r1, r2, r3, r4, r5, r6, r7, r8, r9, rn, rm, rq, hty, hsr, hks⟩ := hy.parts
  obtain ⟨i0, hi, hz0, hz1, hz2⟩ := info_parts Try.infoTy
  cases t with | mk kk nn uu tt ff ll ts =>
  simp only [Tm.kind, Tm.name, Tm.num, Tm.type, Tm.src, Tm.label, Tm.kids] at *
  subst r1 r2 r3 r8
  have hl2 : (Tm.tyss ts).length ≤ 1000000 := by unfold Tm.tys at hlen; rw [List.length_append] at hlen; omega
  have hc2 : ∀ x ∈ Tm.tyss ts, x.cnt ≤ 1048576 := fun x hx => hcnt x (by unfold Tm.tys; exact List.mem_append_right _ hx)
  have hct : hasT k = true → tt.cnt ≤ 1048576 := fun h => hcnt tt (by unfold Tm.tys; rw [if_pos h]; simp)
  have HLEN := Lib.hid hl2
  have HCNT := Lib.hid hc2
  have HCT := Lib.hid hct
  have HN := Lib.hid r9
  have IHH := Lib.hid IH
  have Z0 := Lib.hid hz0
  have Z1 := Lib.hid hz1
  have Z2 := Lib.hid hz2
  have HI := Lib.hid hi
  unfold maxLen at rq
  unfold Tm.tys
  clear hl2 hc2 hct IH hy r9 r4 r5 r6 r7 rn hsr hlen hcnt hz0 hz1 hz2 hi
  by_cases hk : hasT k = true
  · rw [if_pos hk]
    obtain ⟨TL, hTL⟩ : ∃ x, [tt] ++ Tm.tyss ts = x := ⟨_, rfl⟩
    rw [hTL]
    have HTL := Lib.hid hTL
    clear hTL
    have HK := Lib.hid hk
    clear hk
    go_enter Try.func84, Try.ntmps84
    go_wp2_with fail
    refine (implHasType k nm u tk ta tn tq fk fa fn fq l c m q _).mono ?_
    rintro e w1 ⟨rfl, hb1⟩
    rw [HK.out]
    have c3 : w1.cell? ⟨w.heap.size, 3, none⟩ = some (.int .i64 tk) := bcell hb1 (cell_n0 3)
    have c4 : w1.cell? ⟨w.heap.size, 4, none⟩ = some (.slice ta tn tq) := bcell hb1 (cell_n0 4)
    have c8 : w1.cell? ⟨w.heap.size, 8, none⟩ = some (.slice c m q) := bcell hb1 (cell_n0 8)
    have hB1 := bstep bal1 hb1
    go_wp2_with fail
    refine (implOwnType F tt _ _ (hty.below hB1) (HCT.out HK.out)).mono ?_
    rintro e w2 ⟨v2, rfl, hv2, hb2⟩
    obtain ⟨k2, c2, m2, q2, fp2, rfl, -, -, hs2, hd2, hx2⟩ := hv2.open
    have c8b : w2.cell? ⟨w.heap.size, 8, none⟩ = some (.slice c m q) := bcell hb2 c8
    have hbz1 := hb1.size
    have hbz2 := hb2.size
    simp at hbz1
    have lw2 : w.heap.size < w2.heap.size := by omega
    have hB2 := bstep hB1 hb2
    have HB2 := Lib.hid hB2
    have HS2 := Lib.hid hs2
    have HD2 := Lib.hid hd2
    have HX2 := Lib.hid hx2
    clear hs2 hd2 hx2 hv2 c3 c4 c8 hB1 hB2
    go_wp2_with (first | (at_builtin; refine wpList_append_lies _ rfl (.tmp 8) (.tmp 12) 31 rfl (w.heap.size + 1) 33 i0 _ 2 32 Try.underlying31 HI.out Z0.out Z1.out Z2.out rfl (by omega) (.slice none 0 0) 0 [] rfl (World.ownsRow_nil _ _ _ _) ⟨w2.heap.size, 0, none⟩ 1 1 [.int .i64 k2, .slice c2 m2 q2] rfl rfl (World.news_of_block (cs := #[.int .i64 k2, .slice c2 m2 q2]) (t := 33) (fr := (0, 0)) (heap_alloc_new w2 _)) (by simp [Value.oneCell']) (by omega) (by unfold maxLen; omega) (by omega) (by simp; omega) _ rfl ?_) | fail)
    intro gg cap2 w3 hown3 hgrow hat hlt3
    have hacc0 := AccNew.pushS (W := w2.alloc (.cells #[.int .i64 k2, .slice c2 m2 q2] 33)) (rows := []) (xs := []) (fps := []) (rs := [tt.row]) rfl ⟨rfl, rfl⟩ List.nodup_nil (by simp) rfl (SRows.single (HS2.out.move _ _ _ fun b hb => heap_alloc_old w2 _ (SOwn.lt _ _ _ HS2.out b hb))) HD2.out
      (fun x hx => by have := HX2.out x hx; exact ⟨by omega, by simp [Value.ownBlock], by simp⟩) hown3 hgrow (hat.elim .inl (fun h => .inr (by rw [h]; simp)))
    have hB : Below w.heap.size w w3 := (bstep HB2.out bal1).grown hgrow (bstep HB2.out bal1).size (fun k hk => by simp [Value.ownBlock] at hk)
    have c8c : w3.cell? ⟨w.heap.size, 8, none⟩ = some (.slice c m q) := (World.cell?_of_block (a := ⟨w.heap.size, 8, none⟩) (hgrow.block _ (by simp; omega) (by simp [Value.ownBlock]))).trans (bcell bal1 c8b)
    have HACC0 := Lib.hid hacc0
    clear hacc0 hown3 hgrow hat c8b
    go_wp2_with fail
    go_loopw [17, 3] (fun i p wr => ∃ j : Nat, j ≤ m ∧ i = .int .i64 j ∧ (∃ nn : Nat, nn = ([tt] ++ Tm.tyss (ts.take j)).length ∧ (nn = 0 → p = .slice none 0 0) ∧ AccNew (w.heap.size + 1) 33 2 wr p nn (Ty.rows ([tt] ++ Tm.tyss (ts.take j)))) ∧ Below w.heap.size w wr) (fun i _ _ => m - (intOf i).toNat)
    case atStart => exact ⟨0, by omega, rfl, ⟨1, by simp [Tm.tyss], by simp, by simpa [Tm.tyss, Ty.rows] using HACC0.out⟩, hB⟩
    case round =>
      obtain ⟨j, hj, rfl, ⟨nn, hnn, hnil, hacc⟩, hbw⟩ := hrel
      have hbz0 := hbw.size
      by_cases hlt : j < m
      · have hjt : j < ts.length := by have := HN.out; omega
        obtain ⟨b, off, k0, nm0, u0, tk0, ta0, tn0, tq0, fk0, fa0, fn0, fq0, l0, a0, m0, q0, rfl, lb, e0, e1, e2, e3, e4, e5, e6, e7, e8, ht⟩ := hks.at hbw hjt
        have hcall := fun (W : World) (y : Value) (h : TmRep F W ts[j] y) => IHH.out ts[j] (List.getElem_mem hjt) (by have := Tm.tyss_take_le ts (j + 1); rw [Tm.tyss_take_succ ts j hjt, List.length_append] at this; have := HLEN.out; omega) (fun x hx => HCNT.out x (Tm.tys_mem (List.getElem_mem hjt) x hx)) y W h
        have htl : nn + ts[j].tys.length ≤ 1000001 := by
          have h1 := Tm.tyss_take_le ts (j + 1)
          rw [Tm.tyss_take_succ ts j hjt, List.length_append] at h1
          rw [hnn, List.length_append]
          have := HLEN.out
          have : ([tt] : List Ty).length ≤ 1 := by simp
          omega
        have hts := Tm.tyss_take_succ ts j hjt
        generalize ts[j].tys = us at hcall htl hts
        have HC := Lib.hid hcall
        have HTS := Lib.hid hts
        have HNN := Lib.hid hnn
        have HNIL := Lib.hid hnil
        clear hcall hts hnn hnil
        obtain ⟨cv, qv, rfl⟩ := hacc.shape
        have HACC := Lib.hid hacc
        clear hacc
        go_wp2_with fail
        refine (HC.out _ _ (ht.below bal1)).mono ?_
        rintro e w1 ⟨v1, rfl, hv1, hv1n, hb1⟩
        have hbz := hb1.size
        simp at hbz
        obtain ⟨xs, fps, ho, hl, hs, hd, hfp⟩ := HACC.out
        obtain ⟨xs1, fps1, ho1, hl1, hs1, hd1, hfp1⟩ := hv1
        have hxl := ho1.1
        obtain ⟨ml, hml⟩ : ∃ x, us.length = x := ⟨_, rfl⟩
        rw [hml] at htl ho1 hl1 hxl hv1n
        have hlt1 : ∀ x ∈ fps, x < wr.heap.size := fun x hx => SRows.lt _ _ _ hs x hx
        have hlt2 : ∀ x, (Value.slice cv nn qv).ownBlock = some x → x < wr.heap.size := fun x e => (ho.lt x e).2
        have ho' := ownsRow_below ho (bstep bal1 hb1)
        have hs' := hs.move _ _ _ fun b hb => (bstep bal1 hb1).block b (hlt1 b hb)
        have hbel := fun w2 => grown_below (w2 := w2) hbw (bstep bal1 hb1) ho (by omega)
        have HML := Lib.hid hml
        have HBEL := Lib.hid hbel
        have HO := Lib.hid ho'
        have HS := Lib.hid hs'
        have HD := Lib.hid hd
        have HL := Lib.hid hl
        have HFP := Lib.hid hfp
        have HLT1 := Lib.hid hlt1
        have HLT2 := Lib.hid hlt2
        have HO1 := Lib.hid ho1
        have HS1 := Lib.hid hs1
        have HD1 := Lib.hid hd1
        have HL1 := Lib.hid hl1
        have HFP1 := Lib.hid hfp1
        have HXL := Lib.hid hxl
        have hsl := ho1.2
        clear ho hl hs hd hfp ho1 hl1 hs1 hd1 hfp1 hlt1 hlt2 ho' hs' hbel hxl hml
        by_cases hm0 : ml = 0
        · obtain rfl := hv1n hm0
          have hus : us = [] := List.eq_nil_of_length_eq_zero (HML.out.trans hm0)
          have HUS := Lib.hid hus
          clear hsl hus hv1n
          go_wp2_with (first | (at_builtin; refine wpList_append_own_none rfl (.tmp 21) (.tmp 23) 31 rfl (w.heap.size + 1) 33 i0 2 Try.underlying31 HI.out (.slice cv nn qv) nn xs rfl HO.out rfl ?_) | fail)
          go_roundw
          case rel => exact ⟨j + 1, by omega, by go_num, ⟨nn, by rw [HTS.out, HUS.out, List.append_nil]; exact HNN.out, HNIL.out, by rw [HTS.out, HUS.out, List.append_nil]; exact ⟨xs, fps, HO.out, HL.out, HS.out, HD.out, HFP.out⟩⟩, bstep (bstep hbw bal1) hb1⟩
          case measure => simp [intOf]; omega
        · have hpos : 0 < ml := by omega
          rcases hsl with ⟨rfl, h0⟩ | ⟨g1, q1, cur, rfl, hg1, -⟩
          · exact absurd h0 hm0
          have hcells := ownsRow_cells HO1.out
          have HCE := Lib.hid hcells
          have hsz1 : w.heap.size + 1 ≤ w1.heap.size := by omega
          clear hcells hv1n
          go_wp2_with (first | (at_builtin; refine wpList_append_lies _ rfl (.tmp 21) (.tmp 23) 31 rfl (w.heap.size + 1) 33 i0 _ 2 32 Try.underlying31 HI.out Z0.out Z1.out Z2.out rfl (by omega) (.slice cv nn qv) nn xs rfl HO.out ⟨g1, 0, none⟩ ml q1 xs1 rfl HXL.out HCE.out HS1.out.one hpos (by unfold maxLen; omega) (by omega) hsz1 _ rfl ?_) | fail)
          intro gg cap2 w2 hown2 hgrow hat hlt3
          have hacc2 := AccNew.pushS HL.out HS.out HD.out HFP.out HL1.out HS1.out HD1.out (fun x hx => by
            have h1 := (HFP1.out x hx).1
            simp at h1
            exact ⟨by omega, fun e => by have := HLT2.out x e; omega, fun hm => by have := HLT1.out x hm; omega⟩) hown2 hgrow hat
          have HACC2 := Lib.hid hacc2
          have hbel2 := HBEL.out w2 hgrow
          clear hacc2 hown2 hgrow hat
          go_wp2_with fail
          go_roundw
          case rel => exact ⟨j + 1, by omega, by go_num, ⟨nn + ml, by rw [HTS.out, ← List.append_assoc, List.length_append, ← HNN.out, HML.out], by omega, by rw [HTS.out, ← List.append_assoc, Ty.rows_eq, List.map_append, ← Ty.rows_eq, ← Ty.rows_eq]; exact HACC2.out⟩, hbel2⟩
          case measure => simp [intOf]; omega
      · have HNN := Lib.hid hnn
        have HNIL := Lib.hid hnil
        have HACC := Lib.hid hacc
        clear hnn hnil hacc
        go_wp2_with fail
        go_ret
        have e : TL = [tt] ++ Tm.tyss (ts.take j) := HTL.out.symm.trans (by rw [List.take_of_length_le (by have := HN.out; omega)])
        refine ⟨_, rfl, ?_, ?_, hbw⟩
        · rw [e, ← HNN.out]; exact HACC.out.mono (by omega)
        · rw [e, ← HNN.out]; exact HNIL.out
  · rw [if_neg hk]
    obtain ⟨TL, hTL⟩ : ∃ x, ([] : List Ty) ++ Tm.tyss ts = x := ⟨_, rfl⟩
    rw [hTL]
    have HTL := Lib.hid hTL
    clear hTL
    have hkf : hasT k = false := by simpa using hk
    have HK := Lib.hid hkf
    clear hk hkf
    go_enter Try.func84, Try.ntmps84
    go_wp2_with fail
    refine (implHasType k nm u tk ta tn tq fk fa fn fq l c m q _).mono ?_
    rintro e w1 ⟨rfl, hb1⟩
    rw [HK.out]
    have c8 : w1.cell? ⟨w.heap.size, 8, none⟩ = some (.slice c m q) := bcell hb1 (cell_n0 8)
    have hB := bstep bal1 hb1
    go_wp2_with fail
    go_loopw [17, 3] (fun i p wr => ∃ j : Nat, j ≤ m ∧ i = .int .i64 j ∧ (∃ nn : Nat, nn = (([] : List Ty) ++ Tm.tyss (ts.take j)).length ∧ (nn = 0 → p = .slice none 0 0) ∧ AccNew (w.heap.size + 1) 33 2 wr p nn (Ty.rows (([] : List Ty) ++ Tm.tyss (ts.take j)))) ∧ Below w.heap.size w wr) (fun i _ _ => m - (intOf i).toNat)
    case atStart => exact ⟨0, by omega, rfl, ⟨0, by simp [Tm.tyss], fun _ => rfl, by simpa [Tm.tyss, Ty.rows] using AccNew.nil _ _ _ _⟩, hB⟩
    case round =>
      obtain ⟨j, hj, rfl, ⟨nn, hnn, hnil, hacc⟩, hbw⟩ := hrel
      have hbz0 := hbw.size
      by_cases hlt : j < m
      · have hjt : j < ts.length := by have := HN.out; omega
        obtain ⟨b, off, k0, nm0, u0, tk0, ta0, tn0, tq0, fk0, fa0, fn0, fq0, l0, a0, m0, q0, rfl, lb, e0, e1, e2, e3, e4, e5, e6, e7, e8, ht⟩ := hks.at hbw hjt
        have hcall := fun (W : World) (y : Value) (h : TmRep F W ts[j] y) => IHH.out ts[j] (List.getElem_mem hjt) (by have := Tm.tyss_take_le ts (j + 1); rw [Tm.tyss_take_succ ts j hjt, List.length_append] at this; have := HLEN.out; omega) (fun x hx => HCNT.out x (Tm.tys_mem (List.getElem_mem hjt) x hx)) y W h
        have htl : nn + ts[j].tys.length ≤ 1000001 := by
          have h1 := Tm.tyss_take_le ts (j + 1)
          rw [Tm.tyss_take_succ ts j hjt, List.length_append] at h1
          rw [hnn, List.length_append]
          have := HLEN.out
          have : (([] : List Ty) : List Ty).length ≤ 1 := by simp
          omega
        have hts := Tm.tyss_take_succ ts j hjt
        generalize ts[j].tys = us at hcall htl hts
        have HC := Lib.hid hcall
        have HTS := Lib.hid hts
        have HNN := Lib.hid hnn
        have HNIL := Lib.hid hnil
        clear hcall hts hnn hnil
        obtain ⟨cv, qv, rfl⟩ := hacc.shape
        have HACC := Lib.hid hacc
        clear hacc
        go_wp2_with fail
        refine (HC.out _ _ (ht.below bal1)).mono ?_
        rintro e w1 ⟨v1, rfl, hv1, hv1n, hb1⟩
        have hbz := hb1.size
        simp at hbz
        obtain ⟨xs, fps, ho, hl, hs, hd, hfp⟩ := HACC.out
        obtain ⟨xs1, fps1, ho1, hl1, hs1, hd1, hfp1⟩ := hv1
        have hxl := ho1.1
        obtain ⟨ml, hml⟩ : ∃ x, us.length = x := ⟨_, rfl⟩
        rw [hml] at htl ho1 hl1 hxl hv1n
        have hlt1 : ∀ x ∈ fps, x < wr.heap.size := fun x hx => SRows.lt _ _ _ hs x hx
        have hlt2 : ∀ x, (Value.slice cv nn qv).ownBlock = some x → x < wr.heap.size := fun x e => (ho.lt x e).2
        have ho' := ownsRow_below ho (bstep bal1 hb1)
        have hs' := hs.move _ _ _ fun b hb => (bstep bal1 hb1).block b (hlt1 b hb)
        have hbel := fun w2 => grown_below (w2 := w2) hbw (bstep bal1 hb1) ho (by omega)
        have HML := Lib.hid hml
        have HBEL := Lib.hid hbel
        have HO := Lib.hid ho'
        have HS := Lib.hid hs'
        have HD := Lib.hid hd
        have HL := Lib.hid hl
        have HFP := Lib.hid hfp
        have HLT1 := Lib.hid hlt1
        have HLT2 := Lib.hid hlt2
        have HO1 := Lib.hid ho1
        have HS1 := Lib.hid hs1
        have HD1 := Lib.hid hd1
        have HL1 := Lib.hid hl1
        have HFP1 := Lib.hid hfp1
        have HXL := Lib.hid hxl
        have hsl := ho1.2
        clear ho hl hs hd hfp ho1 hl1 hs1 hd1 hfp1 hlt1 hlt2 ho' hs' hbel hxl hml
        by_cases hm0 : ml = 0
        · obtain rfl := hv1n hm0
          have hus : us = [] := List.eq_nil_of_length_eq_zero (HML.out.trans hm0)
          have HUS := Lib.hid hus
          clear hsl hus hv1n
          go_wp2_with (first | (at_builtin; refine wpList_append_own_none rfl (.tmp 21) (.tmp 23) 31 rfl (w.heap.size + 1) 33 i0 2 Try.underlying31 HI.out (.slice cv nn qv) nn xs rfl HO.out rfl ?_) | fail)
          go_roundw
          case rel => exact ⟨j + 1, by omega, by go_num, ⟨nn, by rw [HTS.out, HUS.out, List.append_nil]; exact HNN.out, HNIL.out, by rw [HTS.out, HUS.out, List.append_nil]; exact ⟨xs, fps, HO.out, HL.out, HS.out, HD.out, HFP.out⟩⟩, bstep (bstep hbw bal1) hb1⟩
          case measure => simp [intOf]; omega
        · have hpos : 0 < ml := by omega
          rcases hsl with ⟨rfl, h0⟩ | ⟨g1, q1, cur, rfl, hg1, -⟩
          · exact absurd h0 hm0
          have hcells := ownsRow_cells HO1.out
          have HCE := Lib.hid hcells
          have hsz1 : w.heap.size + 1 ≤ w1.heap.size := by omega
          clear hcells hv1n
          go_wp2_with (first | (at_builtin; refine wpList_append_lies _ rfl (.tmp 21) (.tmp 23) 31 rfl (w.heap.size + 1) 33 i0 _ 2 32 Try.underlying31 HI.out Z0.out Z1.out Z2.out rfl (by omega) (.slice cv nn qv) nn xs rfl HO.out ⟨g1, 0, none⟩ ml q1 xs1 rfl HXL.out HCE.out HS1.out.one hpos (by unfold maxLen; omega) (by omega) hsz1 _ rfl ?_) | fail)
          intro gg cap2 w2 hown2 hgrow hat hlt3
          have hacc2 := AccNew.pushS HL.out HS.out HD.out HFP.out HL1.out HS1.out HD1.out (fun x hx => by
            have h1 := (HFP1.out x hx).1
            simp at h1
            exact ⟨by omega, fun e => by have := HLT2.out x e; omega, fun hm => by have := HLT1.out x hm; omega⟩) hown2 hgrow hat
          have HACC2 := Lib.hid hacc2
          have hbel2 := HBEL.out w2 hgrow
          clear hacc2 hown2 hgrow hat
          go_wp2_with fail
          go_roundw
          case rel => exact ⟨j + 1, by omega, by go_num, ⟨nn + ml, by rw [HTS.out, ← List.append_assoc, List.length_append, ← HNN.out, HML.out], by omega, by rw [HTS.out, ← List.append_assoc, Ty.rows_eq, List.map_append, ← Ty.rows_eq, ← Ty.rows_eq]; exact HACC2.out⟩, hbel2⟩
          case measure => simp [intOf]; omega
      · have HNN := Lib.hid hnn
        have HNIL := Lib.hid hnil
        have HACC := Lib.hid hacc
        clear hnn hnil hacc
        go_wp2_with fail
        go_ret
        have e : TL = ([] : List Ty) ++ Tm.tyss (ts.take j) := HTL.out.symm.trans (by rw [List.take_of_length_le (by have := HN.out; omega)])
        refine ⟨_, rfl, ?_, ?_, hbw⟩
        · rw [e, ← HNN.out]; exact HACC.out.mono (by omega)
        · rw [e, ← HNN.out]; exact HNIL.out
termination_by SizeOf.sizeOf t
decreasing_by exact Tm.kid_lt ht
end Go.Proofs.Ytghgjpcibdfbmaa
namespace Go.Proofs.Ytghgjpcibdfbmaa
open Go.RowKit
set_option linter.unusedVariables false
set_option linter.unusedSimpArgs false
set_option maxRecDepth 100000

theorem AccNew.ownlt {B n size : Nat} {e : TypeId} {w : World} {v : Value} {rows : List (List C)} (h : AccNew B e size w v n rows) : ∀ g, v.ownBlock = some g → B ≤ g ∧ g < w.heap.size := by
  obtain ⟨xs, fps, h1, -⟩ := h
  exact fun g e => h1.lt g e
theorem gtrans {w W w3 : World} {o : Option Nat} (hb : Below w.heap.size w W) (hg : W.grownBy w3 o) : w.grownBy w3 o :=
  ⟨hg.os.trans hb.os, hg.tape.trans hb.tape, hg.output.trans hb.output, Nat.le_trans hb.size hg.size, fun k hk hn => (hg.block k (Nat.lt_of_lt_of_le hk hb.size) hn).trans (hb.block k hk)⟩
theorem gbelow {w W : World} {o : Option Nat} (hb : Below w.heap.size w W) : w.grownBy W o := ⟨hb.os, hb.tape, hb.output, hb.size, fun k hk _ => hb.block k hk⟩
theorem gthen {w wr w1 : World} {o p : Option Nat} (h : w.grownBy wr o) (hg : wr.grownBy w1 p) (hp : ∀ g, p = some g → o = some g ∨ w.heap.size + 1 ≤ g) : w.grownBy w1 o :=
  ⟨hg.os.trans h.os, hg.tape.trans h.tape, hg.output.trans h.output, Nat.le_trans h.size hg.size, fun k hk hn => (hg.block k (Nat.lt_of_lt_of_le hk h.size) (fun e => by
    rcases hp k e.symm with h1 | h1
    · exact hn h1.symm
    · omega)).trans (h.block k hk hn)⟩
set_option maxHeartbeats 8000000 in
theorem specL2Types (F : Nat → Prop) (B : Nat) (hF : ∀ b, F b → b < B) (t : Tm) : ∀ (_ : ∀ x ∈ t.tys, x.cnt ≤ 1048576) (os : List Ty) (n : Nat) (_ : os.length = n) (_ : n + t.tys.length ≤ 1000001) (v y : Value) (w : World), TmRep F w t y → B ≤ w.heap.size → AccNew B 33 2 w v n (Ty.rows os) →
    Calls Try.prog 87 #[v, y] w (fun e w' => ∃ v', e = .returned v' ∧ AccNew B 33 2 w' v' (n + t.tys.length) (Ty.rows (os ++ t.tys)) ∧ w.grownBy w' v.ownBlock ∧ (∀ g, v'.ownBlock = some g → v.ownBlock = some g ∨ w.heap.size ≤ g)) := by
  intro hcnt os n hos hlen v y w hy hBw hacc
  have IH : ∀ t' ∈ t.kids, ∀ (_ : ∀ x ∈ t'.tys, x.cnt ≤ 1048576) (os : List Ty) (n : Nat) (_ : os.length = n) (_ : n + t'.tys.length ≤ 1000001) (v y : Value) (W : World), TmRep F W t' y → B ≤ W.heap.size → AccNew B 33 2 W v n (Ty.rows os) → Calls Try.prog 87 #[v, y] W (fun e W' => ∃ v', e = .returned v' ∧ AccNew B 33 2 W' v' (n + t'.tys.length) (Ty.rows (os ++ t'.tys)) ∧ W.grownBy W' v.ownBlock ∧ (∀ g, v'.ownBlock = some g → v.ownBlock = some g ∨ W.heap.size ≤ g)) :=
    fun t' ht a os n b c v y W d e f => specL2Types F B hF t' a os n b c v y W d e f
  have hv0 := hacc.ownlt
  obtain ⟨cv, qv, rfl⟩ := hacc.shape
  obtain ⟨k, nm, u, tk, ta, tn, tq, fk, fa, fn, fq, l, c, m, q, rfl⟩ := hy.shape
  obtain ⟨r1, r2, r3, r4, r5, r6, r7, r8, r9, rn, rm, rq, hty, hsr, hks⟩ := hy.parts
  obtain ⟨i0, hi, hz0, hz1, hz2⟩ := info_parts Try.infoTy
  cases t with | mk kk nn uu tt ff ll ts =>
  simp only [Tm.kind, Tm.name, Tm.num, Tm.type, Tm.src, Tm.label, Tm.kids] at *
  subst r1 r2 r3 r8
  have hl2 : n + (if hasT k then 1 else 0) + (Tm.tyss ts).length ≤ 1000001 := by unfold Tm.tys at hlen; rw [List.length_append] at hlen; split at hlen <;> simp_all <;> omega
  have hc2 : ∀ x ∈ Tm.tyss ts, x.cnt ≤ 1048576 := fun x hx => hcnt x (by unfold Tm.tys; exact List.mem_append_right _ hx)
  have hct : hasT k = true → tt.cnt ≤ 1048576 := fun h => hcnt tt (by unfold Tm.tys; rw [if_pos h]; simp)
  have hnl : n ≤ 1000001 := by omega
  have HNL0 := Lib.hid hl2
  have HCNT := Lib.hid hc2
  have HCT := Lib.hid hct
  have HN := Lib.hid r9
  have IHH := Lib.hid IH
  have Z0 := Lib.hid hz0
  have Z1 := Lib.hid hz1
  have Z2 := Lib.hid hz2
  have HI := Lib.hid hi
  have HF := Lib.hid hF
  have HV0 := Lib.hid hv0
  have HACC00 := Lib.hid hacc
  have HOS := Lib.hid hos
  have HNL := Lib.hid hnl
  unfold maxLen at rq
  unfold Tm.tys
  clear hl2 hc2 hct IH hy r9 r4 r5 r6 r7 rn hsr hlen hcnt hz0 hz1 hz2 hi hv0 hacc hos hnl hF
  by_cases hk : hasT k = true
  · rw [if_pos hk]
    have HLEN : Hid (n + 1 + (Tm.tyss ts).length ≤ 1000001) := Lib.hid (by have := HNL0.out; rw [if_pos hk] at this; exact this)
    obtain ⟨TL, hTL⟩ : ∃ x, [tt] ++ Tm.tyss ts = x := ⟨_, rfl⟩
    rw [hTL]
    have HTL := Lib.hid hTL
    clear hTL
    have HK := Lib.hid hk
    have hk5 : k = 5 ∨ k = 13 := by unfold hasT at hk; simpa using hk
    clear hk
    rcases hk5 with rfl | rfl
    · skip
      go_enter Try.func87, Try.ntmps87
      go_wp2_with fail
      refine (specL1Copy F tt _ _ (hty.below bal1) (HCT.out HK.out)).mono ?_
      rintro e w2 ⟨v2, rfl, hv2, hb2⟩
      obtain ⟨k2, c2, m2, q2, fp2, rfl, -, -, hs2, hd2, hx2⟩ := hv2.open
      have c8b : w2.cell? ⟨w.heap.size, 8, none⟩ = some (.slice c m q) := bcell hb2 (cell_n0 8)
      have hbz2 := hb2.size
      simp at hbz2
      have lw2 : w.heap.size < w2.heap.size := by omega
      have hB2 := bstep bal1 hb2
      obtain ⟨xs, fps, ho, hl, hs, hd, hfp⟩ := HACC00.out
      have hlt1 : ∀ x ∈ fps, x < w.heap.size := fun x hx => SRows.lt _ _ _ hs x hx
      have hlt2 := HV0.out
      have ho' := ownsRow_below ho (bstep hB2 bal1) (w' := w2.alloc (.cells #[.int .i64 k2, .slice c2 m2 q2] 33))
      have hs' := hs.move _ _ _ fun b hb => (bstep hB2 (bal1 (o := .cells #[.int .i64 k2, .slice c2 m2 q2] 33))).block b (hlt1 b hb)
      have HB2 := Lib.hid hB2
      have HS2 := Lib.hid hs2
      have HD2 := Lib.hid hd2
      have HX2 := Lib.hid hx2
      have HO := Lib.hid ho'
      have HS := Lib.hid hs'
      have HD := Lib.hid hd
      have HL := Lib.hid hl
      have HFP := Lib.hid hfp
      have HLT1 := Lib.hid hlt1
      clear hs2 hd2 hx2 hv2 hB2 ho ho' hs hs' hd hl hfp hlt1 hlt2
      go_wp2_with (first | (at_builtin; refine wpList_append_lies _ rfl (.tmp 14) (.tmp 18) 31 rfl B 33 i0 _ 2 32 Try.underlying31 HI.out Z0.out Z1.out Z2.out rfl (by omega) (.slice cv n qv) n xs rfl HO.out ⟨w2.heap.size, 0, none⟩ 1 1 [.int .i64 k2, .slice c2 m2 q2] rfl rfl (World.news_of_block (cs := #[.int .i64 k2, .slice c2 m2 q2]) (t := 33) (fr := (0, 0)) (heap_alloc_new w2 _)) (by simp [Value.oneCell']) (by omega) (by have := HNL.out; unfold maxLen; omega) (by have := HNL.out; omega) (by simp; omega) _ rfl ?_) | fail)
      intro gg cap2 w3 hown3 hgrow hat hlt3
      have hacc0 := AccNew.pushS (W := w2.alloc (.cells #[.int .i64 k2, .slice c2 m2 q2] 33)) (rs := [tt.row]) HL.out HS.out HD.out HFP.out rfl (SRows.single (HS2.out.move _ _ _ fun b hb => heap_alloc_old w2 _ (SOwn.lt _ _ _ HS2.out b hb))) HD2.out
        (fun x hx => by
          have h1 := HX2.out x hx
          simp at h1
          exact ⟨by omega, fun e => by have := HV0.out x e; omega, fun hm => by have := HLT1.out x hm; omega⟩) hown3 hgrow (hat.elim .inl (fun h => .inr (by rw [h]; simp)))
      have hg0 : w.grownBy w3 (Value.slice cv n qv).ownBlock := gtrans (bstep HB2.out bal1) hgrow
      have c8 : w3.cell? ⟨w.heap.size, 8, none⟩ = some (.slice c m q) := (World.cell?_of_block (a := ⟨w.heap.size, 8, none⟩) (hgrow.block _ (by simp; omega) (fun e => by have := HV0.out w.heap.size e.symm; omega))).trans (bcell bal1 c8b)
      have HOWN0 := Lib.hid (show ∀ g, (Value.slice (some ⟨gg, 0, none⟩) (n + 1) cap2).ownBlock = some g → (Value.slice cv n qv).ownBlock = some g ∨ w.heap.size + 1 ≤ g from fun g e => by
        simp only [Value.ownBlock, Option.some.injEq] at e
        subst e
        rcases hat with h | h
        · exact .inl h
        · exact .inr (by omega))
      have HACC0 := Lib.hid (show AccNew B 33 2 w3 (.slice (some ⟨gg, 0, none⟩) (n + 1) cap2) (n + 1) (Ty.rows (os ++ [tt])) from by rw [Ty.rows_eq, List.map_append, ← Ty.rows_eq]; exact hacc0)
      have HG0 := Lib.hid hg0
      clear hacc0 hown3 hgrow hat c8b hg0
      go_wp2_with fail
      go_loopw [5, 0] (fun i p wr => ∃ j : Nat, j ≤ m ∧ i = .int .i64 j ∧ (∃ nn : Nat, nn = (os ++ ([tt] ++ Tm.tyss (ts.take j))).length ∧ AccNew B 33 2 wr p nn (Ty.rows (os ++ ([tt] ++ Tm.tyss (ts.take j)))) ∧ (∀ g, p.ownBlock = some g → (Value.slice cv n qv).ownBlock = some g ∨ w.heap.size + 1 ≤ g)) ∧ w.grownBy wr (Value.slice cv n qv).ownBlock ∧ wr.cell? ⟨w.heap.size, 8, none⟩ = some (.slice c m q)) (fun i _ _ => m - (intOf i).toNat)
      case atStart => exact ⟨0, by omega, rfl, ⟨n + 1, by simp [Tm.tyss, HOS.out], by simpa [Tm.tyss] using HACC0.out, HOWN0.out⟩, HG0.out, c8⟩
      case round =>
        obtain ⟨j, hj, rfl, ⟨nn, hnn, hacc, hown⟩, hgw, x8⟩ := hrel
        have hbz0 := hgw.size
        have lx := World.block_lt_of_cell? _ _ x8
        have HACC := Lib.hid hacc
        have HOWN := Lib.hid hown
        have HGW := Lib.hid hgw
        have HNN := Lib.hid hnn
        obtain ⟨cp, qp, rfl⟩ := hacc.shape
        clear hacc hown hgw hnn
        by_cases hlt : j < m
        · have hjt : j < ts.length := by have := HN.out; omega
          have hkw : TmsRep F wr ts (.slice c m q) := hks.move ⟨hbz0, fun _ h _ => h, fun b hFb hl => HGW.out.block b hl (fun e => by have h1 := HF.out b hFb; have h2 := HV0.out b e.symm; omega)⟩
          obtain ⟨b, off, k0, nm0, u0, tk0, ta0, tn0, tq0, fk0, fa0, fn0, fq0, l0, a0, m0, q0, rfl, lb, e0, e1, e2, e3, e4, e5, e6, e7, e8, ht⟩ := hkw.at (Below.refl _ _) hjt
          have hts := Tm.tyss_take_succ ts j hjt
          have htl : nn + ts[j].tys.length ≤ 1000001 := by
            have h1 := Tm.tyss_take_le ts (j + 1)
            rw [hts, List.length_append] at h1
            have := HLEN.out
            have := HNN.out
            simp only [List.length_append] at this
            have := HOS.out
            have : ([tt] : List Ty).length = 1 := rfl
            omega
          have hcall := IHH.out ts[j] (List.getElem_mem hjt) (fun x hx => HCNT.out x (Tm.tys_mem (List.getElem_mem hjt) x hx)) _ nn HNN.out.symm htl _ _ wr ht (by omega) HACC.out
          generalize ts[j].tys = us at hcall htl hts
          have HC := Lib.hid hcall
          have HTS := Lib.hid hts
          clear hcall hts hkw ht
          go_wp2_with fail
          refine HC.out.mono ?_
          rintro e w1 ⟨v1, rfl, hv1, hg1, ho1⟩
          have HV1 := Lib.hid hv1
          have HG1 := Lib.hid (gthen HGW.out hg1 HOWN.out)
          have HO1 := Lib.hid ho1
          have x8b : w1.cell? ⟨w.heap.size, 8, none⟩ = some (.slice (some ⟨b, off, none⟩) m q) := (World.cell?_of_block (a := ⟨w.heap.size, 8, none⟩) (hg1.block _ lx (fun e => by
            rcases HOWN.out w.heap.size e.symm with h1 | h1
            · have := HV0.out w.heap.size h1; omega
            · omega))).trans x8
          clear hv1 hg1 ho1
          go_wp2_with fail
          go_roundw
          case rel => exact ⟨j + 1, by omega, by go_num, ⟨nn + us.length, by rw [HTS.out, HNN.out]; simp only [List.length_append]; omega, by have h := HV1.out; rw [HTS.out]; rw [List.append_assoc, List.append_assoc] at h; exact h, fun g e => by
            rcases HO1.out g e with h1 | h1
            · exact HOWN.out g h1
            · exact .inr (by omega)⟩, HG1.out, x8b⟩
          case measure => simp [intOf]; omega
        · go_wp2_with fail
          go_ret
          have e : TL = [tt] ++ Tm.tyss (ts.take j) := HTL.out.symm.trans (by rw [List.take_of_length_le (by have := HN.out; omega)])
          have hl : n + TL.length = nn := by rw [e, HNN.out]; simp only [List.length_append]; have := HOS.out; omega
          refine ⟨_, rfl, by rw [hl, e]; exact HACC.out, HGW.out, fun g eg => (HOWN.out g eg).imp id (fun h => by omega)⟩
    · skip
      go_enter Try.func87, Try.ntmps87
      go_wp2_with fail
      refine (specL1Copy F tt _ _ (hty.below bal1) (HCT.out HK.out)).mono ?_
      rintro e w2 ⟨v2, rfl, hv2, hb2⟩
      obtain ⟨k2, c2, m2, q2, fp2, rfl, -, -, hs2, hd2, hx2⟩ := hv2.open
      have c8b : w2.cell? ⟨w.heap.size, 8, none⟩ = some (.slice c m q) := bcell hb2 (cell_n0 8)
      have hbz2 := hb2.size
      simp at hbz2
      have lw2 : w.heap.size < w2.heap.size := by omega
      have hB2 := bstep bal1 hb2
      obtain ⟨xs, fps, ho, hl, hs, hd, hfp⟩ := HACC00.out
      have hlt1 : ∀ x ∈ fps, x < w.heap.size := fun x hx => SRows.lt _ _ _ hs x hx
      have hlt2 := HV0.out
      have ho' := ownsRow_below ho (bstep hB2 bal1) (w' := w2.alloc (.cells #[.int .i64 k2, .slice c2 m2 q2] 33))
      have hs' := hs.move _ _ _ fun b hb => (bstep hB2 (bal1 (o := .cells #[.int .i64 k2, .slice c2 m2 q2] 33))).block b (hlt1 b hb)
      have HB2 := Lib.hid hB2
      have HS2 := Lib.hid hs2
      have HD2 := Lib.hid hd2
      have HX2 := Lib.hid hx2
      have HO := Lib.hid ho'
      have HS := Lib.hid hs'
      have HD := Lib.hid hd
      have HL := Lib.hid hl
      have HFP := Lib.hid hfp
      have HLT1 := Lib.hid hlt1
      clear hs2 hd2 hx2 hv2 hB2 ho ho' hs hs' hd hl hfp hlt1 hlt2
      go_wp2_with (first | (at_builtin; refine wpList_append_lies _ rfl (.tmp 14) (.tmp 18) 31 rfl B 33 i0 _ 2 32 Try.underlying31 HI.out Z0.out Z1.out Z2.out rfl (by omega) (.slice cv n qv) n xs rfl HO.out ⟨w2.heap.size, 0, none⟩ 1 1 [.int .i64 k2, .slice c2 m2 q2] rfl rfl (World.news_of_block (cs := #[.int .i64 k2, .slice c2 m2 q2]) (t := 33) (fr := (0, 0)) (heap_alloc_new w2 _)) (by simp [Value.oneCell']) (by omega) (by have := HNL.out; unfold maxLen; omega) (by have := HNL.out; omega) (by simp; omega) _ rfl ?_) | fail)
      intro gg cap2 w3 hown3 hgrow hat hlt3
      have hacc0 := AccNew.pushS (W := w2.alloc (.cells #[.int .i64 k2, .slice c2 m2 q2] 33)) (rs := [tt.row]) HL.out HS.out HD.out HFP.out rfl (SRows.single (HS2.out.move _ _ _ fun b hb => heap_alloc_old w2 _ (SOwn.lt _ _ _ HS2.out b hb))) HD2.out
        (fun x hx => by
          have h1 := HX2.out x hx
          simp at h1
          exact ⟨by omega, fun e => by have := HV0.out x e; omega, fun hm => by have := HLT1.out x hm; omega⟩) hown3 hgrow (hat.elim .inl (fun h => .inr (by rw [h]; simp)))
      have hg0 : w.grownBy w3 (Value.slice cv n qv).ownBlock := gtrans (bstep HB2.out bal1) hgrow
      have c8 : w3.cell? ⟨w.heap.size, 8, none⟩ = some (.slice c m q) := (World.cell?_of_block (a := ⟨w.heap.size, 8, none⟩) (hgrow.block _ (by simp; omega) (fun e => by have := HV0.out w.heap.size e.symm; omega))).trans (bcell bal1 c8b)
      have HOWN0 := Lib.hid (show ∀ g, (Value.slice (some ⟨gg, 0, none⟩) (n + 1) cap2).ownBlock = some g → (Value.slice cv n qv).ownBlock = some g ∨ w.heap.size + 1 ≤ g from fun g e => by
        simp only [Value.ownBlock, Option.some.injEq] at e
        subst e
        rcases hat with h | h
        · exact .inl h
        · exact .inr (by omega))
      have HACC0 := Lib.hid (show AccNew B 33 2 w3 (.slice (some ⟨gg, 0, none⟩) (n + 1) cap2) (n + 1) (Ty.rows (os ++ [tt])) from by rw [Ty.rows_eq, List.map_append, ← Ty.rows_eq]; exact hacc0)
      have HG0 := Lib.hid hg0
      clear hacc0 hown3 hgrow hat c8b hg0
      go_wp2_with fail
      go_loopw [5, 0] (fun i p wr => ∃ j : Nat, j ≤ m ∧ i = .int .i64 j ∧ (∃ nn : Nat, nn = (os ++ ([tt] ++ Tm.tyss (ts.take j))).length ∧ AccNew B 33 2 wr p nn (Ty.rows (os ++ ([tt] ++ Tm.tyss (ts.take j)))) ∧ (∀ g, p.ownBlock = some g → (Value.slice cv n qv).ownBlock = some g ∨ w.heap.size + 1 ≤ g)) ∧ w.grownBy wr (Value.slice cv n qv).ownBlock ∧ wr.cell? ⟨w.heap.size, 8, none⟩ = some (.slice c m q)) (fun i _ _ => m - (intOf i).toNat)
      case atStart => exact ⟨0, by omega, rfl, ⟨n + 1, by simp [Tm.tyss, HOS.out], by simpa [Tm.tyss] using HACC0.out, HOWN0.out⟩, HG0.out, c8⟩
      case round =>
        obtain ⟨j, hj, rfl, ⟨nn, hnn, hacc, hown⟩, hgw, x8⟩ := hrel
        have hbz0 := hgw.size
        have lx := World.block_lt_of_cell? _ _ x8
        have HACC := Lib.hid hacc
        have HOWN := Lib.hid hown
        have HGW := Lib.hid hgw
        have HNN := Lib.hid hnn
        obtain ⟨cp, qp, rfl⟩ := hacc.shape
        clear hacc hown hgw hnn
        by_cases hlt : j < m
        · have hjt : j < ts.length := by have := HN.out; omega
          have hkw : TmsRep F wr ts (.slice c m q) := hks.move ⟨hbz0, fun _ h _ => h, fun b hFb hl => HGW.out.block b hl (fun e => by have h1 := HF.out b hFb; have h2 := HV0.out b e.symm; omega)⟩
          obtain ⟨b, off, k0, nm0, u0, tk0, ta0, tn0, tq0, fk0, fa0, fn0, fq0, l0, a0, m0, q0, rfl, lb, e0, e1, e2, e3, e4, e5, e6, e7, e8, ht⟩ := hkw.at (Below.refl _ _) hjt
          have hts := Tm.tyss_take_succ ts j hjt
          have htl : nn + ts[j].tys.length ≤ 1000001 := by
            have h1 := Tm.tyss_take_le ts (j + 1)
            rw [hts, List.length_append] at h1
            have := HLEN.out
            have := HNN.out
            simp only [List.length_append] at this
            have := HOS.out
            have : ([tt] : List Ty).length = 1 := rfl
            omega
          have hcall := IHH.out ts[j] (List.getElem_mem hjt) (fun x hx => HCNT.out x (Tm.tys_mem (List.getElem_mem hjt) x hx)) _ nn HNN.out.symm htl _ _ wr ht (by omega) HACC.out
          generalize ts[j].tys = us at hcall htl hts
          have HC := Lib.hid hcall
          have HTS := Lib.hid hts
          clear hcall hts hkw ht
          go_wp2_with fail
          refine HC.out.mono ?_
          rintro e w1 ⟨v1, rfl, hv1, hg1, ho1⟩
          have HV1 := Lib.hid hv1
          have HG1 := Lib.hid (gthen HGW.out hg1 HOWN.out)
          have HO1 := Lib.hid ho1
          have x8b : w1.cell? ⟨w.heap.size, 8, none⟩ = some (.slice (some ⟨b, off, none⟩) m q) := (World.cell?_of_block (a := ⟨w.heap.size, 8, none⟩) (hg1.block _ lx (fun e => by
            rcases HOWN.out w.heap.size e.symm with h1 | h1
            · have := HV0.out w.heap.size h1; omega
            · omega))).trans x8
          clear hv1 hg1 ho1
          go_wp2_with fail
          go_roundw
          case rel => exact ⟨j + 1, by omega, by go_num, ⟨nn + us.length, by rw [HTS.out, HNN.out]; simp only [List.length_append]; omega, by have h := HV1.out; rw [HTS.out]; rw [List.append_assoc, List.append_assoc] at h; exact h, fun g e => by
            rcases HO1.out g e with h1 | h1
            · exact HOWN.out g h1
            · exact .inr (by omega)⟩, HG1.out, x8b⟩
          case measure => simp [intOf]; omega
        · go_wp2_with fail
          go_ret
          have e : TL = [tt] ++ Tm.tyss (ts.take j) := HTL.out.symm.trans (by rw [List.take_of_length_le (by have := HN.out; omega)])
          have hl : n + TL.length = nn := by rw [e, HNN.out]; simp only [List.length_append]; have := HOS.out; omega
          refine ⟨_, rfl, by rw [hl, e]; exact HACC.out, HGW.out, fun g eg => (HOWN.out g eg).imp id (fun h => by omega)⟩
  · rw [if_neg hk]
    have HLEN : Hid (n + 0 + (Tm.tyss ts).length ≤ 1000001) := Lib.hid (by have := HNL0.out; rw [if_neg hk] at this; exact this)
    obtain ⟨TL, hTL⟩ : ∃ x, ([] : List Ty) ++ Tm.tyss ts = x := ⟨_, rfl⟩
    rw [hTL]
    have HTL := Lib.hid hTL
    clear hTL
    have z5 : (k == 5) = false := by unfold hasT at hk; simp at hk; simpa using hk.1
    have z13 : (k == 13) = false := by unfold hasT at hk; simp at hk; simpa using hk.2
    clear hk
    go_enter Try.func87, Try.ntmps87
    go_wp2_with fail
    have c8 : (w.alloc (.cells #[.int .i64 k, .string nm, .int .i64 u, .int .i64 tk, .slice ta tn tq, .int .i64 fk, .slice fa fn fq, .int .i64 l, .slice c m q] 36)).cell? ⟨w.heap.size, 8, none⟩ = some (.slice c m q) := cell_n0 8
    have HACC0 := Lib.hid (show AccNew B 33 2 (w.alloc (.cells #[.int .i64 k, .string nm, .int .i64 u, .int .i64 tk, .slice ta tn tq, .int .i64 fk, .slice fa fn fq, .int .i64 l, .slice c m q] 36)) (.slice cv n qv) n (Ty.rows os) from HACC00.out.grown bal1)
    have HOWN0 := Lib.hid (show ∀ g, (Value.slice cv n qv).ownBlock = some g → (Value.slice cv n qv).ownBlock = some g ∨ w.heap.size + 1 ≤ g from fun g e => .inl e)
    have HG0 := Lib.hid (show w.grownBy (w.alloc (.cells #[.int .i64 k, .string nm, .int .i64 u, .int .i64 tk, .slice ta tn tq, .int .i64 fk, .slice fa fn fq, .int .i64 l, .slice c m q] 36)) (Value.slice cv n qv).ownBlock from gbelow bal1)
    go_loopw [5, 0] (fun i p wr => ∃ j : Nat, j ≤ m ∧ i = .int .i64 j ∧ (∃ nn : Nat, nn = (os ++ (([] : List Ty) ++ Tm.tyss (ts.take j))).length ∧ AccNew B 33 2 wr p nn (Ty.rows (os ++ (([] : List Ty) ++ Tm.tyss (ts.take j)))) ∧ (∀ g, p.ownBlock = some g → (Value.slice cv n qv).ownBlock = some g ∨ w.heap.size + 1 ≤ g)) ∧ w.grownBy wr (Value.slice cv n qv).ownBlock ∧ wr.cell? ⟨w.heap.size, 8, none⟩ = some (.slice c m q)) (fun i _ _ => m - (intOf i).toNat)
    case atStart => exact ⟨0, by omega, rfl, ⟨n, by simp [Tm.tyss, HOS.out], by simpa [Tm.tyss] using HACC0.out, HOWN0.out⟩, HG0.out, c8⟩
    case round =>
      obtain ⟨j, hj, rfl, ⟨nn, hnn, hacc, hown⟩, hgw, x8⟩ := hrel
      have hbz0 := hgw.size
      have lx := World.block_lt_of_cell? _ _ x8
      have HACC := Lib.hid hacc
      have HOWN := Lib.hid hown
      have HGW := Lib.hid hgw
      have HNN := Lib.hid hnn
      obtain ⟨cp, qp, rfl⟩ := hacc.shape
      clear hacc hown hgw hnn
      by_cases hlt : j < m
      · have hjt : j < ts.length := by have := HN.out; omega
        have hkw : TmsRep F wr ts (.slice c m q) := hks.move ⟨hbz0, fun _ h _ => h, fun b hFb hl => HGW.out.block b hl (fun e => by have h1 := HF.out b hFb; have h2 := HV0.out b e.symm; omega)⟩
        obtain ⟨b, off, k0, nm0, u0, tk0, ta0, tn0, tq0, fk0, fa0, fn0, fq0, l0, a0, m0, q0, rfl, lb, e0, e1, e2, e3, e4, e5, e6, e7, e8, ht⟩ := hkw.at (Below.refl _ _) hjt
        have hts := Tm.tyss_take_succ ts j hjt
        have htl : nn + ts[j].tys.length ≤ 1000001 := by
          have h1 := Tm.tyss_take_le ts (j + 1)
          rw [hts, List.length_append] at h1
          have := HLEN.out
          have := HNN.out
          simp only [List.length_append] at this
          have := HOS.out
          have : (([] : List Ty) : List Ty).length = 0 := rfl
          omega
        have hcall := IHH.out ts[j] (List.getElem_mem hjt) (fun x hx => HCNT.out x (Tm.tys_mem (List.getElem_mem hjt) x hx)) _ nn HNN.out.symm htl _ _ wr ht (by omega) HACC.out
        generalize ts[j].tys = us at hcall htl hts
        have HC := Lib.hid hcall
        have HTS := Lib.hid hts
        clear hcall hts hkw ht
        go_wp2_with fail
        refine HC.out.mono ?_
        rintro e w1 ⟨v1, rfl, hv1, hg1, ho1⟩
        have HV1 := Lib.hid hv1
        have HG1 := Lib.hid (gthen HGW.out hg1 HOWN.out)
        have HO1 := Lib.hid ho1
        have x8b : w1.cell? ⟨w.heap.size, 8, none⟩ = some (.slice (some ⟨b, off, none⟩) m q) := (World.cell?_of_block (a := ⟨w.heap.size, 8, none⟩) (hg1.block _ lx (fun e => by
          rcases HOWN.out w.heap.size e.symm with h1 | h1
          · have := HV0.out w.heap.size h1; omega
          · omega))).trans x8
        clear hv1 hg1 ho1
        go_wp2_with fail
        go_roundw
        case rel => exact ⟨j + 1, by omega, by go_num, ⟨nn + us.length, by rw [HTS.out, HNN.out]; simp only [List.length_append]; omega, by have h := HV1.out; rw [HTS.out]; rw [List.append_assoc, List.append_assoc] at h; exact h, fun g e => by
          rcases HO1.out g e with h1 | h1
          · exact HOWN.out g h1
          · exact .inr (by omega)⟩, HG1.out, x8b⟩
        case measure => simp [intOf]; omega
      · go_wp2_with fail
        go_ret
        have e : TL = ([] : List Ty) ++ Tm.tyss (ts.take j) := HTL.out.symm.trans (by rw [List.take_of_length_le (by have := HN.out; omega)])
        have hl : n + TL.length = nn := by rw [e, HNN.out]; simp only [List.length_append]; have := HOS.out; omega
        refine ⟨_, rfl, by rw [hl, e]; exact HACC.out, HGW.out, fun g eg => (HOWN.out g eg).imp id (fun h => by omega)⟩
termination_by SizeOf.sizeOf t
decreasing_by exact Tm.kid_lt ht
end Go.Proofs.Ytghgjpcibdfbmaa
namespace Go.Proofs.Ytghgjpcibdfbmaa
open Go.RowKit
set_option linter.unusedVariables false
set_option linter.unusedSimpArgs false
set_option maxRecDepth 100000

mutual
def Ty.any : Ty → Nat
  | .mk k ts => if k = 1 then 1 else Ty.anys ts
def Ty.anys : List Ty → Nat
  | [] => 0
  | t :: ts => t.any + Ty.anys ts
end
mutual
def Ty.depth : Ty → Nat
  | .mk _ ts => Ty.depths ts + 1
def Ty.depths : List Ty → Nat
  | [] => 0
  | t :: ts => max t.depth (Ty.depths ts)
end
mutual
theorem Ty.any_le : ∀ t : Ty, t.any ≤ t.cnt + 1
  | .mk k ts => by
    have := Ty.anys_le ts
    unfold Ty.any Ty.cnt
    split <;> omega
theorem Ty.anys_le : ∀ ts : List Ty, Ty.anys ts ≤ ts.length + Ty.cnts ts
  | [] => by simp [Ty.anys]
  | t :: ts => by
    have h1 := Ty.any_le t
    have h2 := Ty.anys_le ts
    simp only [Ty.anys, Ty.cnts, List.length_cons]
    omega
end
mutual
theorem Ty.depth_le : ∀ t : Ty, t.depth ≤ t.cnt + 1
  | .mk k ts => by
    have := Ty.depths_le ts
    unfold Ty.depth Ty.cnt
    omega
theorem Ty.depths_le : ∀ ts : List Ty, Ty.depths ts ≤ ts.length + Ty.cnts ts
  | [] => by simp [Ty.depths]
  | t :: ts => by
    have h1 := Ty.depth_le t
    have h2 := Ty.depths_le ts
    simp only [Ty.depths, Ty.cnts, List.length_cons]
    omega
end
theorem Ty.anys_take : ∀ (ts : List Ty) (j : Nat) (h : j < ts.length), Ty.anys (ts.take (j + 1)) = Ty.anys (ts.take j) + ts[j].any
  | [], _, h => absurd h (Nat.not_lt_zero _)
  | t :: ts, 0, _ => by simp [Ty.anys]
  | t :: ts, j + 1, h => by
    have := Ty.anys_take ts j (by simpa using h)
    simp only [List.take_succ_cons, Ty.anys, List.getElem_cons_succ]
    omega
theorem Ty.anys_take_le : ∀ (ts : List Ty) (j : Nat), Ty.anys (ts.take j) ≤ Ty.anys ts
  | [], _ => by simp
  | t :: ts, 0 => by simp [Ty.anys]
  | t :: ts, j + 1 => by
    have := Ty.anys_take_le ts j
    simp only [List.take_succ_cons, Ty.anys]
    omega
theorem Ty.depths_take : ∀ (ts : List Ty) (j : Nat) (h : j < ts.length), Ty.depths (ts.take (j + 1)) = max (Ty.depths (ts.take j)) ts[j].depth
  | [], _, h => absurd h (Nat.not_lt_zero _)
  | t :: ts, 0, _ => by simp [Ty.depths]
  | t :: ts, j + 1, h => by
    have := Ty.depths_take ts j (by simpa using h)
    simp only [List.take_succ_cons, Ty.depths, List.getElem_cons_succ]
    omega
theorem Ty.depths_take_le : ∀ (ts : List Ty) (j : Nat), Ty.depths (ts.take j) ≤ Ty.depths ts
  | [], _ => by simp
  | t :: ts, 0 => by simp [Ty.depths]
  | t :: ts, j + 1 => by
    have := Ty.depths_take_le ts j
    simp only [List.take_succ_cons, Ty.depths]
    omega

set_option maxHeartbeats 1000000 in
theorem implCountAny0 (F : Nat → Prop) (t : Ty) : ∀ (y : Value) (w : World), TyRep F w t y → t.cnt ≤ 1048576 →
    Calls Try.prog 86 #[y] w fun e w' => e = .returned (.int .i64 t.any) ∧ Below w.heap.size w w' := by
  intro y w hy hc
  have IH : ∀ t' ∈ t.kids, ∀ (y : Value) (W : World), TyRep F W t' y → Calls Try.prog 86 #[y] W fun e W' => e = .returned (.int .i64 t'.any) ∧ Below W.heap.size W W' :=
    fun t' ht y W h => implCountAny0 F t' y W h (by have := Ty.cnt_kid ht; omega)
  have hbd := Ty.any_le t
  obtain ⟨a, cap, rfl, h2, h3, hr⟩ := hy.open
  cases t with | mk k ts =>
  simp only [Ty.kind, Ty.kids] at *
  unfold maxLen at h3
  have IHH := Lib.hid IH
  clear IH hy
  obtain ⟨n, hn⟩ : ∃ n, ts.length = n := ⟨_, rfl⟩
  rw [hn] at h2 hr ⊢
  have HN := Lib.hid hn
  clear hn
  unfold Ty.any at hbd ⊢
  by_cases hk : k = 1
  · subst hk
    rw [if_pos rfl]
    go_enter Try.func86, Try.ntmps86
    go_wp2_with fail
    go_ret
    exact ⟨rfl, bal1⟩
  · rw [if_neg hk] at hbd ⊢
    have hkk : (k == 1) = false := by simpa using hk
    have HBD := Lib.hid hbd
    have HCN := Lib.hid hc
    clear hk hbd hc
    go_enter Try.func86, Try.ntmps86
    go_wp2_with fail
    go_loopw [12, 3] (fun i p wr => ∃ j : Nat, j ≤ n ∧ i = .int .i64 j ∧ (∃ m : Nat, p = .int .i64 m ∧ m ≤ 1048577 ∧ Hid (m = Ty.anys (ts.take j))) ∧ Below w.heap.size w wr) (fun i _ _ => n - (intOf i).toNat)
    case atStart => exact ⟨0, by omega, rfl, ⟨0, rfl, by omega, by simp [Hid, Ty.anys]⟩, bal1⟩
    case round =>
      obtain ⟨j, hj, rfl, ⟨m, rfl, hm1, hm⟩, hbw⟩ := hrel
      by_cases hlt : j < n
      · have hjt : j < ts.length := by rw [HN.out]; exact hlt
        obtain ⟨b, off, k0, a0, m0, q0, rfl, l0, e0, e1, ht⟩ := hr.at hbw hjt
        have HC := Lib.hid (fun W (h : Below wr.heap.size wr W) => IHH.out ts[j] (List.getElem_mem hjt) _ W (ht.below h))
        have hts := Ty.anys_take ts j hjt
        have htl := Ty.anys_take_le ts (j + 1)
        have hm2 : m + ts[j].any ≤ 1048577 := by have := hm.out; have := HBD.out; have := HCN.out; omega
        generalize ts[j].any = c at hts HC hm2
        have HT := Lib.hid hts
        clear hts htl
        go_wp2_with fail
        refine (HC.out _ bal1).mono ?_
        rintro e w1 ⟨rfl, hb1⟩
        go_wp2_with fail
        go_roundw
        case rel => exact ⟨j + 1, by omega, by go_num, ⟨m + c, by go_num, hm2, by have := hm.out; have := HT.out; unfold Hid; omega⟩, bstep (bstep hbw bal1) hb1⟩
        case measure => simp [intOf]; omega
      · go_wp2_with fail
        go_ret
        exact ⟨ret_int (by have := hm.out; rw [List.take_of_length_le (by rw [HN.out]; omega)] at this; rw [this]), hbw⟩
termination_by SizeOf.sizeOf t
decreasing_by exact Ty.kid_lt ht

set_option maxHeartbeats 1000000 in
theorem specL1Count (F : Nat → Prop) (t : Ty) : ∀ (y : Value) (w : World), TyRep F w t y → t.cnt ≤ 1048576 →
    Calls Try.prog 82 #[y] w fun e w' => e = .returned (.int .i64 t.any) ∧ Below w.heap.size w w' := by
  intro y w hy hc
  have IH : ∀ t' ∈ t.kids, ∀ (y : Value) (W : World), TyRep F W t' y → Calls Try.prog 82 #[y] W fun e W' => e = .returned (.int .i64 t'.any) ∧ Below W.heap.size W W' :=
    fun t' ht y W h => specL1Count F t' y W h (by have := Ty.cnt_kid ht; omega)
  have hbd := Ty.any_le t
  obtain ⟨a, cap, rfl, h2, h3, hr⟩ := hy.open
  cases t with | mk k ts =>
  simp only [Ty.kind, Ty.kids] at *
  unfold maxLen at h3
  have IHH := Lib.hid IH
  clear IH hy
  obtain ⟨n, hn⟩ : ∃ n, ts.length = n := ⟨_, rfl⟩
  rw [hn] at h2 hr ⊢
  have HN := Lib.hid hn
  clear hn
  unfold Ty.any at hbd ⊢
  by_cases hk : k = 1
  · subst hk
    rw [if_pos rfl]
    go_enter Try.func82, Try.ntmps82
    go_wp2_with fail
    go_ret
    exact ⟨rfl, bal1⟩
  · rw [if_neg hk] at hbd ⊢
    have hkk : (k == 1) = false := by simpa using hk
    have HBD := Lib.hid hbd
    have HCN := Lib.hid hc
    clear hk hbd hc
    go_enter Try.func82, Try.ntmps82
    go_wp2_with fail
    go_loopw [4, 3] (fun i p wr => ∃ j : Nat, j ≤ n ∧ i = .int .i64 j ∧ (∃ m : Nat, p = .int .i64 m ∧ m ≤ 1048577 ∧ Hid (m = Ty.anys (ts.take j))) ∧ Below w.heap.size w wr ∧ wr.cell? ⟨w.heap.size, 1, none⟩ = some (.slice a n cap)) (fun i _ _ => n - (intOf i).toNat)
    case atStart => exact ⟨0, by omega, rfl, ⟨0, rfl, by omega, by simp [Hid, Ty.anys]⟩, bal1, by simp⟩
    case round =>
      obtain ⟨j, hj, rfl, ⟨m, rfl, hm1, hm⟩, hbw, hc1⟩ := hrel
      by_cases hlt : j < n
      · have hjt : j < ts.length := by rw [HN.out]; exact hlt
        obtain ⟨b, off, k0, a0, m0, q0, rfl, l0, e0, e1, ht⟩ := hr.at hbw hjt
        have HC := Lib.hid (IHH.out ts[j] (List.getElem_mem hjt) _ wr ht)
        have hts := Ty.anys_take ts j hjt
        have htl := Ty.anys_take_le ts (j + 1)
        have hm2 : m + ts[j].any ≤ 1048577 := by have := hm.out; have := HBD.out; have := HCN.out; omega
        generalize ts[j].any = c at hts HC hm2
        have HT := Lib.hid hts
        clear hts htl
        go_wp2_with fail
        refine HC.out.mono ?_
        rintro e w1 ⟨rfl, hb1⟩
        go_wp2_with fail
        go_roundw
        case rel => exact ⟨j + 1, by omega, by go_num, ⟨m + c, by go_num, hm2, by have := hm.out; have := HT.out; unfold Hid; omega⟩, bstep hbw hb1, bcell hb1 hc1⟩
        case measure => simp [intOf]; omega
      · go_wp2_with fail
        go_ret
        exact ⟨ret_int (by have := hm.out; rw [List.take_of_length_le (by rw [HN.out]; omega)] at this; rw [this]), hbw⟩
termination_by SizeOf.sizeOf t
decreasing_by exact Ty.kid_lt ht
end Go.Proofs.Ytghgjpcibdfbmaa
namespace Go.Proofs.Ytghgjpcibdfbmaa
open Go.RowKit
set_option linter.unusedVariables false
set_option linter.unusedSimpArgs false
set_option maxRecDepth 100000

theorem Tm.tys_valid : ∀ (t : Tm) (d : Int), t.shape 14 d = true → ∀ x ∈ t.tys, x.valid = true := by
  intro t
  exact Tm.rec (motive_1 := fun t => ∀ (d : Int), t.shape 14 d = true → ∀ x ∈ t.tys, x.valid = true) (motive_2 := fun ts => ∀ (d : Int), Tm.shapes ts 14 d = true → ∀ x ∈ Tm.tyss ts, x.valid = true)
    (fun k s u ty f l ts ih d h x hx => by
      obtain ⟨-, -, -, ho, h5⟩ := Tm.shape_parts h
      unfold Tm.tys at hx
      rcases List.mem_append.1 hx with hx | hx
      · by_cases hk : hasT k = true
        · rw [if_pos hk] at hx
          simp only [List.mem_singleton] at hx
          subst hx
          exact Tm.own_type ho (by unfold hasT at hk; simpa using hk)
        · rw [if_neg hk] at hx
          cases hx
      · exact ih _ h5 x hx)
    (fun _ _ x hx => by unfold Tm.tyss at hx; cases hx)
    (fun t ts ih1 ih2 d h x hx => by
      unfold Tm.shapes at h
      simp only [Bool.and_eq_true] at h
      unfold Tm.tyss at hx
      rcases List.mem_append.1 hx with hx | hx
      · exact ih1 d h.1 x hx
      · exact ih2 d h.2 x hx) t
def Tm.types (t : Tm) : List Ty := if t.valid then t.tys else []
theorem Tm.tys_ok {t : Tm} (h : t.valid = true) : (t.tys.length ≤ 30) ∧ ∀ x ∈ t.tys, x.cnt ≤ 1048576 := by
  constructor
  · have h1 := t.tys_len
    unfold Tm.valid at h
    simp only [Bool.and_eq_true, decide_eq_true_eq] at h
    omega
  · exact fun x hx => Ty.cnt_valid (Tm.tys_valid t 12 (Tm.valid_shape h) x hx)
def Ty.vague (x : Ty) : Bool := decide ((x.any : Int) > 0)
def Tm.staticB (t : Tm) : Bool := t.valid && !(t.tys.any Ty.vague)
theorem AccNew.empty {B g : Nat} {e : TypeId} {size : Nat} {w : World} (hB : B ≤ g) (h : w.heap[g]? = some (.cells #[] e (0, 0))) : AccNew B e size w (.slice (some ⟨g, 0, none⟩) 0 0) 0 [] :=
  ⟨[], [], ⟨by simp, .inr ⟨g, 0, #[], rfl, hB, h, Nat.le_refl _, by unfold maxLen; omega, by simp, by simp⟩⟩, rfl, ⟨rfl, rfl⟩, List.nodup_nil, by simp⟩
set_option maxHeartbeats 4000000 in
theorem specTermTypes (F : Nat → Prop) (t : Tm) (y : Value) (w : World) (hy : TmRep F w t y) :
    Calls Try.prog 38 #[y] w (RetTys t.types w) := by
  have hv := fun W (h : Below w.heap.size w W) => specTermValid F t y W (hy.below h)
  have hyB : TmRep (· < w.heap.size) w t y := hy.move (.weaken fun _ _ h => h)
  have hT := fun (hok : t.valid = true) (B : Nat) (hB : w.heap.size ≤ B) W (h : Below w.heap.size w W) (hBW : B ≤ W.heap.size) v (ha : AccNew B 33 2 W v 0 (Ty.rows [])) =>
    specL2Types (· < w.heap.size) B (fun b hb => by omega) t (Tm.tys_ok hok).2 [] 0 rfl (by have := (Tm.tys_ok hok).1; omega) v y W (hyB.below h) hBW ha
  simp only [List.nil_append, Nat.zero_add] at hT
  unfold Tm.types
  obtain ⟨k, nm, u, tk, ta, tn, tq, fk, fa, fn, fq, l, c, m, q, rfl⟩ := hy.shape
  generalize t.tys = us at *
  generalize t.valid = v at *
  have HV := Lib.hid hv
  have HT := Lib.hid hT
  clear hv hT hy hyB
  cases v
  · go_enter Try.func38, Try.ntmps38
    go_wp2_with fail
    refine (HV.out _ bal1).mono ?_
    rintro e w1 ⟨rfl, hb1⟩
    go_wp2_with fail
    go_ret
    exact ⟨_, rfl, ⟨[], COwn.sl_nil (by unfold maxLen; omega), List.nodup_nil, by simp⟩, bstep (bstep bal1 hb1) bal1⟩
  · go_enter Try.func38, Try.ntmps38
    go_wp2_with fail
    refine (HV.out _ bal1).mono ?_
    rintro e w1 ⟨rfl, hb1⟩
    have c0 : w1.cell? ⟨w.heap.size, 0, none⟩ = some (.int .i64 k) := bcell hb1 (cell_n0 0)
    have c1 : w1.cell? ⟨w.heap.size, 1, none⟩ = some (.string nm) := bcell hb1 (cell_n0 1)
    have c2 : w1.cell? ⟨w.heap.size, 2, none⟩ = some (.int .i64 u) := bcell hb1 (cell_n0 2)
    have c3 : w1.cell? ⟨w.heap.size, 3, none⟩ = some (.int .i64 tk) := bcell hb1 (cell_n0 3)
    have c4 : w1.cell? ⟨w.heap.size, 4, none⟩ = some (.slice ta tn tq) := bcell hb1 (cell_n0 4)
    have c5 : w1.cell? ⟨w.heap.size, 5, none⟩ = some (.int .i64 fk) := bcell hb1 (cell_n0 5)
    have c6 : w1.cell? ⟨w.heap.size, 6, none⟩ = some (.slice fa fn fq) := bcell hb1 (cell_n0 6)
    have c7 : w1.cell? ⟨w.heap.size, 7, none⟩ = some (.int .i64 l) := bcell hb1 (cell_n0 7)
    have c8 : w1.cell? ⟨w.heap.size, 8, none⟩ = some (.slice c m q) := bcell hb1 (cell_n0 8)
    have lw := World.block_lt_of_cell? _ _ c0
    have hB1 := bstep bal1 hb1
    have hbz := hB1.size
    go_wp2_with fail
    refine (HT.out (by simp) w1.heap.size hbz _ (bstep hB1 bal1) (by simp) _ (AccNew.empty (Nat.le_refl _) (heap_alloc_new w1 _))).mono ?_
    rintro e w2 ⟨v2, rfl, hv2, hg2, -⟩
    have hbel : Below w.heap.size w w2 := (bstep hB1 bal1).grown hg2 (bstep hB1 bal1).size (fun k hk => by simp [Value.ownBlock] at hk; omega)
    have HV2 := Lib.hid hv2
    have HBEL := Lib.hid hbel
    clear hv2 hg2 hbel
    go_wp2_with fail
    go_ret
    obtain ⟨fp, p1, p2, p3⟩ := HV2.out.tys
    exact ⟨_, rfl, ⟨fp, p1, p2, fun b hb => Nat.le_trans hbz (p3 b hb)⟩, HBEL.out⟩
set_option maxHeartbeats 4000000 in
theorem implTermTypes (F : Nat → Prop) (t : Tm) (y : Value) (w : World) (hy : TmRep F w t y) :
    Calls Try.prog 39 #[y] w (RetTys t.types w) := by
  have hv := fun W (h : Below w.heap.size w W) => implTermValid F t y W (hy.below h)
  have hT := fun (hok : t.valid = true) W (h : Below w.heap.size w W) => implTypes F t (by have := (Tm.tys_ok hok).1; omega) (Tm.tys_ok hok).2 y W (hy.below h)
  unfold Tm.types
  obtain ⟨k, nm, u, tk, ta, tn, tq, fk, fa, fn, fq, l, c, m, q, rfl⟩ := hy.shape
  generalize t.tys = us at *
  generalize t.valid = v at *
  have HV := Lib.hid hv
  have HT := Lib.hid hT
  clear hv hT hy
  cases v
  · go_enter Try.func39, Try.ntmps39
    go_wp2_with fail
    refine (HV.out _ bal1).mono ?_
    rintro e w1 ⟨rfl, hb1⟩
    go_wp2_with fail
    go_ret
    exact ⟨_, rfl, ⟨[], COwn.sl_nil (by unfold maxLen; omega), List.nodup_nil, by simp⟩, bstep bal1 hb1⟩
  · go_enter Try.func39, Try.ntmps39
    go_wp2_with fail
    refine (HV.out _ bal1).mono ?_
    rintro e w1 ⟨rfl, hb1⟩
    have c0 : w1.cell? ⟨w.heap.size, 0, none⟩ = some (.int .i64 k) := bcell hb1 (cell_n0 0)
    have c1 : w1.cell? ⟨w.heap.size, 1, none⟩ = some (.string nm) := bcell hb1 (cell_n0 1)
    have c2 : w1.cell? ⟨w.heap.size, 2, none⟩ = some (.int .i64 u) := bcell hb1 (cell_n0 2)
    have c3 : w1.cell? ⟨w.heap.size, 3, none⟩ = some (.int .i64 tk) := bcell hb1 (cell_n0 3)
    have c4 : w1.cell? ⟨w.heap.size, 4, none⟩ = some (.slice ta tn tq) := bcell hb1 (cell_n0 4)
    have c5 : w1.cell? ⟨w.heap.size, 5, none⟩ = some (.int .i64 fk) := bcell hb1 (cell_n0 5)
    have c6 : w1.cell? ⟨w.heap.size, 6, none⟩ = some (.slice fa fn fq) := bcell hb1 (cell_n0 6)
    have c7 : w1.cell? ⟨w.heap.size, 7, none⟩ = some (.int .i64 l) := bcell hb1 (cell_n0 7)
    have c8 : w1.cell? ⟨w.heap.size, 8, none⟩ = some (.slice c m q) := bcell hb1 (cell_n0 8)
    have hB1 := bstep bal1 hb1
    have hbz := hB1.size
    go_wp2_with fail
    refine (HT.out (by simp) _ hB1).mono ?_
    rintro e w2 ⟨v2, rfl, hv2, -, hb2⟩
    have HV2 := Lib.hid hv2
    clear hv2
    go_wp2_with fail
    go_ret
    obtain ⟨fp, p1, p2, p3⟩ := HV2.out.tys
    exact ⟨_, rfl, ⟨fp, p1, p2, fun b hb => Nat.le_trans hbz (p3 b hb)⟩, bstep hB1 hb2⟩
end Go.Proofs.Ytghgjpcibdfbmaa
namespace Go.Proofs.Ytghgjpcibdfbmaa
open Go.RowKit
set_option linter.unusedVariables false
set_option linter.unusedSimpArgs false
set_option maxRecDepth 100000

set_option maxHeartbeats 1000000 in
theorem indexFunc_Ty0 (g : FuncId) (R : Ty → Bool) (F : Nat → Prop) (ts : List Ty) (ys : Value) (w : World) (hy : TysRep F w ts ys)
    (hcf : ∀ xs W, (callFunc g xs).run Try.prog W = .ok (.enter g xs) W)
    (hg : ∀ t ∈ ts, ∀ (W : World) (y : Value), Below w.heap.size w W → TyRep F W t y → Calls Try.prog g #[y] W fun e W' => e = .returned (.bool (R t)) ∧ Below W.heap.size W W') :
    Calls Try.prog 119 #[ys, .func (.func g) #[] #[]] w (IdxPost R ts w) := by
  have HG := Lib.hid hg
  clear hg
  obtain ⟨a, cap, rfl, h2, h3, -⟩ := hy.open
  unfold maxLen at h3
  obtain ⟨n, hn⟩ : ∃ n, ts.length = n := ⟨_, rfl⟩
  rw [hn] at h2 hy ⊢
  have HN := Lib.hid hn
  clear hn
  go_enter Try.func119, Try.ntmps119
  go_wp2_with fail
  go_loopw [8] (fun i wr => ∃ k : Nat, k ≤ n ∧ i = .int .i64 k ∧ Below w.heap.size w wr ∧ Hid (ts.any R = (ts.drop k).any R)) (fun i _ => n - (intOf i).toNat)
  case atStart => exact ⟨0, by omega, rfl, Below.refl _ _, rfl⟩
  case round =>
    obtain ⟨k, hk, rfl, hbw, hR⟩ := hrel
    by_cases hlt : k < n
    · have hkt : k < ts.length := by rw [HN.out]; exact hlt
      obtain ⟨b, off, k0, a0, m0, q0, rfl, l0, e0, e1, ht⟩ := hy.at hbw hkt
      have hcall := HG.out ts[k] (List.getElem_mem hkt) wr _ hbw ht
      have hstep := hR.out.trans (any_drop R ts k hkt)
      generalize R ts[k] = r at hcall hstep
      have HC := Lib.hid hcall
      have HS := Lib.hid hstep
      clear hcall hstep hR
      cases r
      all_goals
        go_wp2_with fail
        refine HC.out.mono ?_
        rintro e w1 ⟨rfl, hb1⟩
        go_wp2_with fail
      · go_roundw
        case rel => exact ⟨k + 1, by omega, by go_num, bstep hbw hb1, by rw [Hid, HS.out]; rfl⟩
        case measure => simp [intOf]; omega
      · go_ret
        exact ⟨_, rfl, by rw [HS.out]; simp, bstep hbw hb1⟩
    · go_wp2_with fail
      go_ret
      exact ⟨_, rfl, by rw [hR.out, List.drop_eq_nil_of_le (by rw [HN.out]; omega)]; rfl, hbw⟩

set_option maxHeartbeats 400000 in
theorem containsFunc_Ty0 (g : FuncId) (R : Ty → Bool) (F : Nat → Prop) (ts : List Ty) (ys : Value) (w : World) (hy : TysRep F w ts ys)
    (hcf : ∀ xs W, (callFunc g xs).run Try.prog W = .ok (.enter g xs) W)
    (hg : ∀ t ∈ ts, ∀ (W : World) (y : Value), Below w.heap.size w W → TyRep F W t y → Calls Try.prog g #[y] W fun e W' => e = .returned (.bool (R t)) ∧ Below W.heap.size W W') :
    Calls Try.prog 83 #[ys, .func (.func g) #[] #[]] w fun e w' => e = .returned (.bool (ts.any R)) ∧ Below w.heap.size w w' := by
  have H := Lib.hid (indexFunc_Ty0 g R F ts ys w hy hcf hg)
  clear hg hcf hy
  go_enter Try.func83, Try.ntmps83
  go_wp2_with fail
  refine H.out.mono ?_
  rintro e w1 ⟨i, rfl, hi, hb1⟩
  have HI := Lib.hid hi
  clear hi
  go_wp2_with fail
  go_ret
  exact ⟨ret_bool HI.out, hb1⟩

theorem leaf_static1_0 (z : Int) : (decide (z > 0) : Bool) = (decide (z > 0)) := by
  simp_all

set_option maxHeartbeats 1000000 in
theorem static1 (F : Nat → Prop) (t : Ty) (y : Value) (w : World) (hy : TyRep F w t y) (hc : t.cnt ≤ 1048576) : Calls Try.prog 85 #[y] w fun e w' => e = .returned (.bool (t.vague)) ∧ Below w.heap.size w w' := by
  have h1 := fun W (h : Below w.heap.size w W) => implCountAny0 F t y W (hy.below h) hc
  obtain ⟨k, a, n, q, rfl⟩ := hy.shape
  unfold Ty.vague
  generalize (t.any : Int) = z at *
  have H1 := Lib.hid h1
  clear h1 hy
  obtain ⟨rr, hrr⟩ : ∃ rr0 : Bool, (decide (z > 0)) = rr0 := ⟨_, rfl⟩
  rw [hrr]
  have HT := Lib.hid hrr
  clear hrr
  go_enter Try.func85, Try.ntmps85
  go_wp2_with fail
  refine (H1.out _ bal1).mono ?_
  rintro e w1 ⟨rfl, hb1⟩
  have hB := (bstep bal1 hb1)
  have zw1 := hB.size
  go_wp2_with fail
  refine bodyPost_ret (v := .bool (decide (z > 0))) (by simp [results, Try.results85, go_sem, bne]) rfl ?_
  exact ⟨ret_bool ((leaf_static1_0 z ).trans HT.out), hB⟩
set_option maxHeartbeats 4000000 in
theorem implStaticTerm (F : Nat → Prop) (t : Tm) (y : Value) (w : World) (hy : TmRep F w t y) :
    Calls Try.prog 37 #[y] w fun e w' => e = .returned (.bool (t.staticB)) ∧ Below w.heap.size w w' := by
  have hv := fun W (h : Below w.heap.size w W) => implTermValid F t y W (hy.below h)
  have hT := fun (hok : t.valid = true) W (h : Below w.heap.size w W) => implTypes F t (by have := (Tm.tys_ok hok).1; omega) (Tm.tys_ok hok).2 y W (hy.below h)
  have hC := fun (hok : t.valid = true) (G : Nat → Prop) (ys : Value) W (hr : TysRep G W t.tys ys) => containsFunc_Ty0 _ Ty.vague G t.tys ys W hr Try.call85 (fun x hx W' y' hb' hr' => static1 G x y' W' hr' ((Tm.tys_ok hok).2 x hx))
  unfold Tm.staticB
  obtain ⟨k, nm, u, tk, ta, tn, tq, fk, fa, fn, fq, l, c, m, q, rfl⟩ := hy.shape
  generalize t.tys.any Ty.vague = r at *
  generalize t.tys = us at *
  generalize t.valid = v at *
  have HV := Lib.hid hv
  have HT := Lib.hid hT
  have HC := Lib.hid hC
  clear hv hT hy hC
  cases v
  · go_enter Try.func37, Try.ntmps37
    go_wp2_with fail
    refine (HV.out _ bal1).mono ?_
    rintro e w1 ⟨rfl, hb1⟩
    go_wp2_with fail
    go_ret
    exact ⟨rfl, bstep bal1 hb1⟩
  · go_enter Try.func37, Try.ntmps37
    go_wp2_with fail
    refine (HV.out _ bal1).mono ?_
    rintro e w1 ⟨rfl, hb1⟩
    have c0 : w1.cell? ⟨w.heap.size, 0, none⟩ = some (.int .i64 k) := bcell hb1 (cell_n0 0)
    have c1 : w1.cell? ⟨w.heap.size, 1, none⟩ = some (.string nm) := bcell hb1 (cell_n0 1)
    have c2 : w1.cell? ⟨w.heap.size, 2, none⟩ = some (.int .i64 u) := bcell hb1 (cell_n0 2)
    have c3 : w1.cell? ⟨w.heap.size, 3, none⟩ = some (.int .i64 tk) := bcell hb1 (cell_n0 3)
    have c4 : w1.cell? ⟨w.heap.size, 4, none⟩ = some (.slice ta tn tq) := bcell hb1 (cell_n0 4)
    have c5 : w1.cell? ⟨w.heap.size, 5, none⟩ = some (.int .i64 fk) := bcell hb1 (cell_n0 5)
    have c6 : w1.cell? ⟨w.heap.size, 6, none⟩ = some (.slice fa fn fq) := bcell hb1 (cell_n0 6)
    have c7 : w1.cell? ⟨w.heap.size, 7, none⟩ = some (.int .i64 l) := bcell hb1 (cell_n0 7)
    have c8 : w1.cell? ⟨w.heap.size, 8, none⟩ = some (.slice c m q) := bcell hb1 (cell_n0 8)
    have hB1 := bstep bal1 hb1
    go_wp2_with fail
    refine (HT.out (by simp) _ hB1).mono ?_
    rintro e w2 ⟨v2, rfl, hv2, -, hb2⟩
    have hr2 : TysRep (w1.heap.size ≤ ·) w2 us v2 := (show TysNew w1.heap.size w2 us v2 from hv2.tys).rep
    obtain ⟨c2, q2, rfl⟩ := hv2.shape
    clear hv2
    go_wp2_with fail
    refine (HC.out (by simp) _ _ _ hr2).mono ?_
    rintro e w3 ⟨rfl, hb3⟩
    go_wp2_with fail
    go_ret
    exact ⟨rfl, bstep (bstep hB1 hb2) hb3⟩
set_option maxHeartbeats 4000000 in
theorem specStaticTerm (F : Nat → Prop) (t : Tm) (y : Value) (w : World) (hy : TmRep F w t y) :
    Calls Try.prog 36 #[y] w fun e w' => e = .returned (.bool (t.staticB)) ∧ Below w.heap.size w w' := by
  have hv := fun W (h : Below w.heap.size w W) => specTermValid F t y W (hy.below h)
  have hT := fun W (h : Below w.heap.size w W) => specTermTypes F t y W (hy.below h)
  have hok : ∀ x ∈ t.types, x.cnt ≤ 1048576 := by
    unfold Tm.types
    split
    · rename_i h; exact (Tm.tys_ok h).2
    · intro x hx; cases hx
  have hres : (t.types.any Ty.vague = true → t.staticB = false) ∧ (t.types.any Ty.vague = false → t.staticB = t.valid) := by
    unfold Tm.types Tm.staticB
    cases t.valid <;> simp
  obtain ⟨k, nm, u, tk, ta, tn, tq, fk, fa, fn, fq, l, c, m, q, rfl⟩ := hy.shape
  generalize t.types = us at *
  generalize t.valid = v at *
  generalize t.staticB = sb at *
  have HV := Lib.hid hv
  have HT := Lib.hid hT
  have HOK := Lib.hid hok
  have HRES := Lib.hid hres
  clear hv hT hy hok hres
  go_enter Try.func36, Try.ntmps36
  go_wp2_with fail
  refine (HT.out _ bal1).mono ?_
  rintro e w1 ⟨v1, rfl, hv1, hb1⟩
  have hr1 := hv1.rep
  obtain ⟨a1, q1, rfl, h2, h3, -⟩ := hr1.open
  unfold maxLen at h3
  obtain ⟨n, hn⟩ : ∃ n, us.length = n := ⟨_, rfl⟩
  rw [hn] at h2 hr1 ⊢
  have HN := Lib.hid hn
  have c0 : w1.cell? ⟨w.heap.size, 0, none⟩ = some (.int .i64 k) := bcell hb1 (cell_n0 0)
  have c1 : w1.cell? ⟨w.heap.size, 1, none⟩ = some (.string nm) := bcell hb1 (cell_n0 1)
  have c2 : w1.cell? ⟨w.heap.size, 2, none⟩ = some (.int .i64 u) := bcell hb1 (cell_n0 2)
  have c3 : w1.cell? ⟨w.heap.size, 3, none⟩ = some (.int .i64 tk) := bcell hb1 (cell_n0 3)
  have c4 : w1.cell? ⟨w.heap.size, 4, none⟩ = some (.slice ta tn tq) := bcell hb1 (cell_n0 4)
  have c5 : w1.cell? ⟨w.heap.size, 5, none⟩ = some (.int .i64 fk) := bcell hb1 (cell_n0 5)
  have c6 : w1.cell? ⟨w.heap.size, 6, none⟩ = some (.slice fa fn fq) := bcell hb1 (cell_n0 6)
  have c7 : w1.cell? ⟨w.heap.size, 7, none⟩ = some (.int .i64 l) := bcell hb1 (cell_n0 7)
  have c8 : w1.cell? ⟨w.heap.size, 8, none⟩ = some (.slice c m q) := bcell hb1 (cell_n0 8)
  have hB1 := bstep bal1 hb1
  clear hn hv1
  go_wp2_with fail
  go_loopw [4] (fun i wr => ∃ j : Nat, j ≤ n ∧ i = .int .i64 j ∧ Below w1.heap.size w1 wr ∧ Hid (us.any Ty.vague = (us.drop j).any Ty.vague)) (fun i _ => n - (intOf i).toNat)
  case atStart => exact ⟨0, by omega, rfl, Below.refl _ _, rfl⟩
  case round =>
    obtain ⟨j, hj, rfl, hbw, hR⟩ := hrel
    by_cases hlt : j < n
    · have hjt : j < us.length := by have := HN.out; omega
      obtain ⟨b, off, k0, a0, m0, q0, rfl, lb, e0, e1, ht⟩ := hr1.at hbw hjt
      have hcall := specL1Count _ us[j] _ wr ht (HOK.out _ (List.getElem_mem hjt))
      have hstep := hR.out.trans (any_drop Ty.vague us j hjt)
      have hvg : us[j].vague = decide ((us[j].any : Int) > 0) := rfl
      rw [hvg] at hstep
      generalize (us[j].any : Int) = z at hcall hstep
      have HC := Lib.hid hcall
      have HS := Lib.hid hstep
      clear hcall hstep hR hvg
      by_cases hz : z > 0
      · have hz' : decide (z > 0) = true := decide_eq_true hz
        go_wp2_with fail
        refine HC.out.mono ?_
        rintro e w2 ⟨rfl, hb2⟩
        go_wp2_with fail
        go_ret
        exact ⟨ret_bool (HRES.out.1 (by rw [HS.out, hz']; rfl)).symm, bstep hB1 (bstep hbw hb2)⟩
      · have hz' : decide (z > 0) = false := decide_eq_false hz
        go_wp2_with fail
        refine HC.out.mono ?_
        rintro e w2 ⟨rfl, hb2⟩
        go_wp2_with fail
        go_roundw
        case rel => exact ⟨j + 1, by omega, by go_num, bstep hbw hb2, by rw [Hid, HS.out, hz']; rfl⟩
        case measure => simp [intOf]; omega
    · have hany : us.any Ty.vague = false := by rw [hR.out, List.drop_eq_nil_of_le (by have := HN.out; omega)]; rfl
      have HA := Lib.hid hany
      clear hany hR
      have d0 := bcell hbw c0
      have d1 := bcell hbw c1
      have d2 := bcell hbw c2
      have d3 := bcell hbw c3
      have d4 := bcell hbw c4
      have d5 := bcell hbw c5
      have d6 := bcell hbw c6
      have d7 := bcell hbw c7
      have d8 := bcell hbw c8
      have hBw := bstep hB1 hbw
      go_wp2_with fail
      refine (HV.out _ hBw).mono ?_
      rintro e w2 ⟨rfl, hb2⟩
      go_wp2_with fail
      go_ret
      exact ⟨ret_bool (HRES.out.2 HA.out).symm, bstep hBw hb2⟩
end Go.Proofs.Ytghgjpcibdfbmaa
