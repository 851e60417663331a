/-
  Casts there and back: the plain law.
-/
import Derived.Test.YthhdjacdalehoaaB8
import Derived.Test.YthhdjacdalehoaaCoCast
import Derived.Test.YthhdjacdalehoaaB11
namespace Go.Proofs.Ythhdjacdalehoaa
open Go.RowKit
set_option linter.unusedVariables false
set_option linter.unusedSimpArgs false
set_option maxRecDepth 100000

def anyTy : Ty := .mk 1 []
theorem Ty.cases {t : Ty} {d : Nat} (h : t.shape d = true) : t = anyTy ∨ (∃ k, t = .mk k [] ∧ (k = 2 ∨ k = 3)) ∨ (∃ x y, t = .mk 4 [x, y] ∧ 1 ≤ d ∧ x.shape (d - 1 : Nat) = true ∧ y.shape (d - 1 : Nat) = true) ∨ (∃ x y, t = .mk 5 [x, y] ∧ 1 ≤ d ∧ x.shape (d - 1 : Nat) = true ∧ y.shape (d - 1 : Nat) = true) := by
  cases t with | mk k ts =>
  have h1 := (Ty.shape_mk h).1
  have e : (d : Int) - 1 = ((d - 1 : Nat) : Int) := by omega
  have h2 := Ty.kind_cases h
  simp only [Ty.kind, Ty.kids] at h2
  rcases h2 with ⟨rfl | rfl | rfl, rfl⟩ | ⟨rfl | rfl, -⟩
  · exact .inl rfl
  · exact .inr (.inl ⟨2, rfl, .inl rfl⟩)
  · exact .inr (.inl ⟨3, rfl, .inr rfl⟩)
  · obtain ⟨x, y, rfl, hx, hy⟩ := Ty.two_of h (.inl rfl)
    rw [e] at hx hy
    exact .inr (.inr (.inl ⟨x, y, rfl, by omega, hx, hy⟩))
  · obtain ⟨x, y, rfl, hx, hy⟩ := Ty.two_of h (.inr rfl)
    rw [e] at hx hy
    exact .inr (.inr (.inr ⟨x, y, rfl, by omega, hx, hy⟩))
theorem up_any (n : Nat) (l : Int) : coT (n + 1) anyTy anyTy l = .mk 1 1 0 [] := by simp [coT, anyTy, Ty.kind, Ty.kids]
theorem up_base (n : Nat) (k l : Int) (h : k = 2 ∨ k = 3) : coT (n + 2) (.mk k []) anyTy l = .mk 4 0 0 [.mk 1 k 0 []] := by
  rcases h with rfl | rfl <;> simp [coT, anyTy, ground, Ty.kind, Ty.kids]
theorem up_fun (n : Nat) (l : Int) (x y : Ty) : coT (n + 2) (.mk 4 [x, y]) anyTy l = .mk 4 0 0 [.mk 2 0 0 [coT n anyTy x (-l), coT n y anyTy l]] := by
  simp [coT, anyTy, ground, Ty.kind, Ty.kids, Ty.kid]
theorem up_pair (n : Nat) (l : Int) (x y : Ty) : coT (n + 2) (.mk 5 [x, y]) anyTy l = .mk 4 0 0 [.mk 3 0 0 [coT n x anyTy l, coT n y anyTy l]] := by
  simp [coT, anyTy, ground, Ty.kind, Ty.kids, Ty.kid]
theorem dn_base (n : Nat) (k l : Int) (h : k = 2 ∨ k = 3) : coT (n + 2) anyTy (.mk k []) l = .mk 5 0 l [.mk 1 k 0 []] := by
  rcases h with rfl | rfl <;> simp [coT, anyTy, ground, Ty.kind, Ty.kids]
theorem dn_fun (n : Nat) (l : Int) (x y : Ty) : coT (n + 2) anyTy (.mk 4 [x, y]) l = .mk 5 0 l [.mk 2 0 0 [coT n x anyTy (-l), coT n anyTy y l]] := by
  simp [coT, anyTy, ground, Ty.kind, Ty.kids, Ty.kid]
theorem dn_pair (n : Nat) (l : Int) (x y : Ty) : coT (n + 2) anyTy (.mk 5 [x, y]) l = .mk 5 0 l [.mk 3 0 0 [coT n anyTy x l, coT n anyTy y l]] := by
  simp [coT, anyTy, ground, Ty.kind, Ty.kids, Ty.kid]
theorem labelB_neg {l : Int} (h : labelB l = true) : labelB (-l) = true := by
  unfold labelB winB at *
  simp only [Bool.or_eq_true, Bool.and_eq_true, decide_eq_true_eq] at *
  omega
theorem sh_id (g : Int) (d : Nat) (hg : 1 ≤ g ∧ g ≤ 3) (hd : 1 ≤ d) : (Co.mk 1 g 0 []).shape d = true := by
  have : g = 1 ∨ g = 2 ∨ g = 3 := by omega
  rcases this with rfl | rfl | rfl <;> simp [Co.shape, Co.nodeB, Co.shapes, coOps, winB] <;> omega
theorem sh_two (k : Int) (x y : Co) (d : Nat) (hk : k = 2 ∨ k = 3) (hx : x.shape d = true) (hy : y.shape d = true) : (Co.mk k 0 0 [x, y]).shape (d + 1 : Nat) = true := by
  have e : ((d + 1 : Nat) : Int) - 1 = d := by omega
  unfold Co.shape Co.shapes Co.shapes Co.shapes
  rw [e, hx, hy]
  rcases hk with rfl | rfl <;> simp [Co.nodeB, coOps] <;> omega
theorem sh_inj (x : Co) (d : Nat) (hx : x.shape d = true) (hp : x.plain = true) : (Co.mk 4 0 0 [x]).shape (d + 1 : Nat) = true := by
  have e : ((d + 1 : Nat) : Int) - 1 = d := by omega
  unfold Co.shape Co.shapes Co.shapes
  unfold Co.plain at hp
  rw [e, hx]
  simp [Co.nodeB, coOps, Co.headK, Co.headG, hp]; omega
theorem sh_proj (l : Int) (x : Co) (d : Nat) (hl : labelB l = true) (hx : x.shape d = true) (hp : x.plain = true) : (Co.mk 5 0 l [x]).shape (d + 1 : Nat) = true := by
  have e : ((d + 1 : Nat) : Int) - 1 = d := by omega
  have hn := Co.plain_ne hp
  unfold Co.shape Co.shapes Co.shapes
  rw [e, hx]
  simp only [Co.nodeB, coOps, Co.headK, Co.headG, hl]
  simp
  refine ⟨by omega, hn.2.1, ?_⟩
  by_cases h : x.kind = 1
  · exact .inr fun hh => hn.1 ⟨h, hh⟩
  · exact .inl h
theorem sh_fail (g l : Int) (d : Nat) (hd : 1 ≤ d) (hg : 2 ≤ g ∧ g ≤ 5) (hl : labelB l = true) : (Co.mk 6 g l []).shape d = true := by
  unfold Co.shape Co.shapes
  simp only [Co.nodeB, coOps, Co.headK, Co.headG, hl, winB]
  simp
  omega
theorem pl_id {g : Int} (hg : g = 2 ∨ g = 3) : (Co.mk 1 g 0 []).plain = true := by rcases hg with rfl | rfl <;> rfl
/-- Casts to and from the unknown type: valid, and they lead where they should. -/
theorem updn : ∀ (d n : Nat) (t : Ty) (l : Int), 2 * d ≤ n → t.shape d = true → labelB l = true →
    ((coT n t anyTy l).shape (2 * d : Nat) = true ∧ (coT n t anyTy l).leads t anyTy = true) ∧ ((coT n anyTy t l).shape (2 * d : Nat) = true ∧ (coT n anyTy t l).leads anyTy t = true)
  | 0, n, t, l, hn, ht, hl => by
    have h := (Ty.shape_mk (k := t.kind) (ts := t.kids) (by cases t; exact ht)).1
    exact absurd h (by simp)
  | d + 1, n, t, l, hn, ht, hl => by
    obtain ⟨m, rfl⟩ : ∃ m, n = m + 2 := ⟨n - 2, by omega⟩
    have e : 2 * (d + 1) = 2 * d + 1 + 1 := by omega
    rcases Ty.cases ht with rfl | ⟨k, rfl, hk⟩ | ⟨x, y, rfl, -, hx, hy⟩ | ⟨x, y, rfl, -, hx, hy⟩
    · rw [up_any]
      have h1 := sh_id 1 (2 * (d + 1)) (by omega) (by omega)
      exact ⟨⟨h1, rfl⟩, ⟨h1, rfl⟩⟩
    · rw [up_base _ _ _ hk, dn_base _ _ _ hk]
      have hk' : 1 ≤ k ∧ k ≤ 3 := by omega
      have h1 := sh_id k (2 * d + 1) hk' (by omega)
      rw [e]
      refine ⟨⟨sh_inj _ _ h1 (pl_id hk), ?_⟩, ⟨sh_proj _ _ _ hl h1 (pl_id hk), ?_⟩⟩
      · rcases hk with rfl | rfl <;> rfl
      · rcases hk with rfl | rfl <;> rfl
    · simp only [Nat.add_sub_cancel] at hx hy
      rw [up_fun, dn_fun]
      obtain ⟨⟨a1, a2⟩, ⟨a3, a4⟩⟩ := updn d m x (-l) (by omega) hx (labelB_neg hl)
      obtain ⟨⟨b1, b2⟩, ⟨b3, b4⟩⟩ := updn d m y l (by omega) hy hl
      rw [e]
      refine ⟨⟨sh_inj _ _ (sh_two 2 _ _ _ (.inl rfl) a3 b1) rfl, ?_⟩, ⟨sh_proj _ _ _ hl (sh_two 2 _ _ _ (.inl rfl) a1 b3) rfl, ?_⟩⟩
      · simp [Co.leads, Co.leads1, Co.leads2, Co.tagV, Co.tagVs, anyTy, ground, Ty.kind, Ty.kid, Ty.kids] at *
        exact ⟨a4, b2⟩
      · simp [Co.leads, Co.leads1, Co.leads2, Co.tagV, Co.tagVs, anyTy, ground, Ty.kind, Ty.kid, Ty.kids] at *
        exact ⟨a2, b4⟩
    · simp only [Nat.add_sub_cancel] at hx hy
      rw [up_pair, dn_pair]
      obtain ⟨⟨a1, a2⟩, ⟨a3, a4⟩⟩ := updn d m x l (by omega) hx hl
      obtain ⟨⟨b1, b2⟩, ⟨b3, b4⟩⟩ := updn d m y l (by omega) hy hl
      rw [e]
      refine ⟨⟨sh_inj _ _ (sh_two 3 _ _ _ (.inr rfl) a1 b1) rfl, ?_⟩, ⟨sh_proj _ _ _ hl (sh_two 3 _ _ _ (.inr rfl) a3 b3) rfl, ?_⟩⟩
      · simp [Co.leads, Co.leads1, Co.leads2, Co.tagV, Co.tagVs, anyTy, ground, Ty.kind, Ty.kid, Ty.kids] at *
        exact ⟨a2, b2⟩
      · simp [Co.leads, Co.leads1, Co.leads2, Co.tagV, Co.tagVs, anyTy, ground, Ty.kind, Ty.kid, Ty.kids] at *
        exact ⟨a4, b4⟩

def theX (n : Nat) (a b : Ty) (l l' : Int) : Co × Bool := (coT n a anyTy l).comp (coT n anyTy b l')
theorem x_any (n : Nat) (b : Ty) (l l' : Int) : theX (n + 1) anyTy b l l' = (coT (n + 1) anyTy b l', (coT (n + 1) anyTy b l').unkB) := by unfold theX; rw [up_any, comp_any]
theorem dn_unk {d n : Nat} {b : Ty} (l : Int) (hn : 2 ≤ n) (hb : b.shape d = true) : (coT n anyTy b l).unkB = true := by
  obtain ⟨m, rfl⟩ : ∃ m, n = m + 2 := ⟨n - 2, by omega⟩
  rcases Ty.cases hb with rfl | ⟨k, rfl, hk⟩ | ⟨x, y, rfl, -⟩ | ⟨x, y, rfl, -⟩
  · rw [up_any]; rfl
  · rw [dn_base _ _ _ hk]; rfl
  · rw [dn_fun]; rfl
  · rw [dn_pair]; rfl
theorem up_inj {d n : Nat} {a : Ty} (l : Int) (hn : 2 ≤ n) (ha : a.shape d = true) (h : a ≠ anyTy) : ∃ c, coT n a anyTy l = .mk 4 0 0 [c] := by
  obtain ⟨m, rfl⟩ : ∃ m, n = m + 2 := ⟨n - 2, by omega⟩
  rcases Ty.cases ha with rfl | ⟨k, rfl, hk⟩ | ⟨x, y, rfl, -⟩ | ⟨x, y, rfl, -⟩
  · exact absurd rfl h
  · exact ⟨_, up_base _ _ _ hk⟩
  · exact ⟨_, up_fun _ _ _ _⟩
  · exact ⟨_, up_pair _ _ _ _⟩
theorem x_dn {d n : Nat} {a : Ty} (l l' : Int) (hn : 1 ≤ n) (ha : a.shape d = true) (h : a ≠ anyTy) : theX (n + 1) a anyTy l l' = (coT (n + 1) a anyTy l, true) := by
  obtain ⟨c, hc⟩ := up_inj (n := n + 1) l (by omega) ha h
  unfold theX
  rw [up_any, hc, comp_inj _ _ _ _ (by simp [Co.kind])]
  rfl
theorem x_ip {n : Nat} {a b : Ty} {l l' : Int} {c e : Co} (h1 : coT n a anyTy l = .mk 4 0 0 [c]) (h2 : coT n anyTy b l' = .mk 5 0 l' [e]) : theX n a b l l' = if c.tagV == e.tagV then c.comp e else (.mk 6 c.tagV l' [], true) := by
  unfold theX
  rw [h1, h2, comp_ip]
theorem tag1 (g l : Int) (ts : List Co) : (Co.mk 1 g l ts).tagV = g := by simp [Co.tagV]
theorem tag2 (g l : Int) (ts : List Co) : (Co.mk 2 g l ts).tagV = 4 := by simp [Co.tagV]
theorem tag3 (g l : Int) (ts : List Co) : (Co.mk 3 g l ts).tagV = 5 := by simp [Co.tagV]
theorem fail_ok {a b : Ty} {g l : Int} {d : Nat} (hd : 1 ≤ d) (hg : 2 ≤ g ∧ g ≤ 5) (hl : labelB l = true) (hk : a.kind = g) : ((Co.mk 6 g l [], true) : Co × Bool).2 = true ∧ ((Co.mk 6 g l [], true) : Co × Bool).1.shape d = true ∧ ((Co.mk 6 g l [], true) : Co × Bool).1.leads a b = true := by
  refine ⟨rfl, sh_fail g l d hd hg hl, ?_⟩
  simp [Co.leads, hk]
theorem comp_id {k : Int} (h : k = 2 ∨ k = 3) : (Co.mk 1 k 0 []).comp (.mk 1 k 0 []) = (.mk 1 k 0 [], true) := by
  rw [comp_pp (pl_id h) (by simp [Co.kind]) (by simp [Co.kind]), two_id]; simp
theorem comp_fun (a0 a1 b0 b1 : Co) : (Co.mk 2 0 0 [a0, a1]).comp (.mk 2 0 0 [b0, b1]) = (.mk 2 0 0 [(b0.comp a0).1, (a1.comp b1).1], (b0.comp a0).2 && (a1.comp b1).2) := by
  rw [comp_pp rfl (by simp [Co.kind]) (by simp [Co.kind]), two_fun]
theorem comp_pair (a0 a1 b0 b1 : Co) : (Co.mk 3 0 0 [a0, a1]).comp (.mk 3 0 0 [b0, b1]) = (.mk 3 0 0 [(a0.comp b0).1, (a1.comp b1).1], (a0.comp b0).2 && (a1.comp b1).2) := by
  rw [comp_pp rfl (by simp [Co.kind]) (by simp [Co.kind]), two_pair]
/-- From a type to the unknown one and on to another type. -/
theorem x_law : ∀ (d n : Nat) (a b : Ty) (l l' : Int), 2 * d ≤ n → a.shape d = true → b.shape d = true → labelB l = true → labelB l' = true →
    (theX n a b l l').2 = true ∧ (theX n a b l l').1.shape (2 * d : Nat) = true ∧ (theX n a b l l').1.leads a b = true
  | 0, n, a, b, l, l', hn, ha, hb, hl, hl' => by
    have h := (Ty.shape_mk (k := a.kind) (ts := a.kids) (by cases a; exact ha)).1
    exact absurd h (by simp)
  | d + 1, n, a, b, l, l', hn, ha, hb, hl, hl' => by
    obtain ⟨m, rfl⟩ : ∃ m, n = m + 2 := ⟨n - 2, by omega⟩
    have e : 2 * (d + 1) = 2 * d + 1 + 1 := by omega
    by_cases aa : a = anyTy
    · subst aa
      rw [x_any]
      obtain ⟨-, h1, h2⟩ := updn (d + 1) (m + 2) b l' hn hb hl'
      exact ⟨dn_unk l' (by omega) hb, h1, h2⟩
    by_cases bb : b = anyTy
    · subst bb
      rw [x_dn (d := d + 1) l l' (by omega) ha aa]
      obtain ⟨⟨h1, h2⟩, -⟩ := updn (d + 1) (m + 2) a l hn ha hl
      exact ⟨rfl, h1, h2⟩
    have hlim : (1 : Nat) ≤ 2 * (d + 1) := by omega
    have mono : ∀ c : Co, c.shape (2 * d + 1 : Nat) = true → c.shape (2 * (d + 1) : Nat) = true := fun c h => Co.shape_mono c _ _ h (by omega)
    rcases Ty.cases ha with rfl | ⟨k, rfl, hk⟩ | ⟨x, y, rfl, -, hx, hy⟩ | ⟨x, y, rfl, -, hx, hy⟩
    · exact absurd rfl aa
    · have hk' : 2 ≤ k ∧ k ≤ 5 := by omega
      rcases Ty.cases hb with rfl | ⟨j, rfl, hj⟩ | ⟨u, v, rfl, -, hu, hv⟩ | ⟨u, v, rfl, -, hu, hv⟩
      · exact absurd rfl bb
      · rw [x_ip (up_base _ _ _ hk) (dn_base _ _ _ hj), tag1, tag1]
        by_cases q : k = j
        · subst q
          rw [if_pos (by simp), comp_id hk]
          refine ⟨rfl, sh_id k _ (by omega) hlim, ?_⟩
          simp [Co.leads, Ty.kind]
        · rw [if_neg (by simpa using q)]
          exact fail_ok hlim hk' hl' rfl
      · rw [x_ip (up_base _ _ _ hk) (dn_fun _ _ _ _), tag1, tag2, if_neg (by simp; omega)]
        exact fail_ok hlim hk' hl' rfl
      · rw [x_ip (up_base _ _ _ hk) (dn_pair _ _ _ _), tag1, tag3, if_neg (by simp; omega)]
        exact fail_ok hlim hk' hl' rfl
    · simp only [Nat.add_sub_cancel] at hx hy
      rcases Ty.cases hb with rfl | ⟨j, rfl, hj⟩ | ⟨u, v, rfl, -, hu, hv⟩ | ⟨u, v, rfl, -, hu, hv⟩
      · exact absurd rfl bb
      · rw [x_ip (up_fun _ _ _ _) (dn_base _ _ _ hj), tag1, tag2, if_neg (by simp; omega)]
        exact fail_ok hlim (by omega) hl' rfl
      · simp only [Nat.add_sub_cancel] at hu hv
        rw [x_ip (up_fun _ _ _ _) (dn_fun _ _ _ _), tag2, tag2, if_pos (by simp), comp_fun]
        obtain ⟨p1, p2, p3⟩ := x_law d m u x (-l') (-l) (by omega) hu hx (labelB_neg hl') (labelB_neg hl)
        obtain ⟨q1, q2, q3⟩ := x_law d m y v l l' (by omega) hy hv hl hl'
        unfold theX at p1 p2 p3 q1 q2 q3
        refine ⟨by rw [p1, q1]; rfl, mono _ (sh_two 2 _ _ _ (.inl rfl) p2 q2), ?_⟩
        simp only [Co.leads, Co.leads1, Co.leads2, Ty.kind, Ty.kid, Ty.kids, List.getD_cons_zero, List.getD_cons_succ, p3, q3]
        rfl
      · rw [x_ip (up_fun _ _ _ _) (dn_pair _ _ _ _), tag2, tag3, if_neg (by simp)]
        exact fail_ok hlim (by omega) hl' rfl
    · simp only [Nat.add_sub_cancel] at hx hy
      rcases Ty.cases hb with rfl | ⟨j, rfl, hj⟩ | ⟨u, v, rfl, -, hu, hv⟩ | ⟨u, v, rfl, -, hu, hv⟩
      · exact absurd rfl bb
      · rw [x_ip (up_pair _ _ _ _) (dn_base _ _ _ hj), tag1, tag3, if_neg (by simp; omega)]
        exact fail_ok hlim (by omega) hl' rfl
      · rw [x_ip (up_pair _ _ _ _) (dn_fun _ _ _ _), tag2, tag3, if_neg (by simp)]
        exact fail_ok hlim (by omega) hl' rfl
      · simp only [Nat.add_sub_cancel] at hu hv
        rw [x_ip (up_pair _ _ _ _) (dn_pair _ _ _ _), tag3, tag3, if_pos (by simp), comp_pair]
        obtain ⟨p1, p2, p3⟩ := x_law d m x u l l' (by omega) hx hu hl hl'
        obtain ⟨q1, q2, q3⟩ := x_law d m y v l l' (by omega) hy hv hl hl'
        unfold theX at p1 p2 p3 q1 q2 q3
        refine ⟨by rw [p1, q1]; rfl, mono _ (sh_two 3 _ _ _ (.inr rfl) p2 q2), ?_⟩
        simp only [Co.leads, Co.leads1, Co.leads2, Ty.kind, Ty.kid, Ty.kids, List.getD_cons_zero, List.getD_cons_succ, p3, q3]
        rfl
theorem self_fun (n : Nat) (l : Int) (x y : Ty) : coT (n + 1) (.mk 4 [x, y]) (.mk 4 [x, y]) l = .mk 2 0 0 [coT n x x (-l), coT n y y l] := by
  simp [coT, Ty.kind, Ty.kids, Ty.kid]
theorem self_pair (n : Nat) (l : Int) (x y : Ty) : coT (n + 1) (.mk 5 [x, y]) (.mk 5 [x, y]) l = .mk 3 0 0 [coT n x x l, coT n y y l] := by
  simp [coT, Ty.kind, Ty.kids, Ty.kid]
theorem self_base (n : Nat) (l k : Int) : coT (n + 1) (.mk k []) (.mk k []) l = .mk 1 k 0 [] := by simp [coT, Ty.kind, Ty.kids]
/-- There and back: the identity. -/
theorem x_self : ∀ (d n m : Nat) (a : Ty) (l l' l2 : Int), 2 * d ≤ n → d ≤ m → a.shape d = true → (theX n a a l l').1 = coT m a a l2 ∧ (coT m a a l2).idB = true
  | 0, n, m, a, l, l', l2, hn, hm, ha => by
    have h := (Ty.shape_mk (k := a.kind) (ts := a.kids) (by cases a; exact ha)).1
    exact absurd h (by simp)
  | d + 1, n, m, a, l, l', l2, hn, hm, ha => by
    obtain ⟨n, rfl⟩ : ∃ k, n = k + 2 := ⟨n - 2, by omega⟩
    obtain ⟨m, rfl⟩ : ∃ k, m = k + 1 := ⟨m - 1, by omega⟩
    rcases Ty.cases ha with rfl | ⟨k, rfl, hk⟩ | ⟨x, y, rfl, -, hx, hy⟩ | ⟨x, y, rfl, -, hx, hy⟩
    · rw [x_any, up_any, up_any]
      exact ⟨rfl, rfl⟩
    · rw [x_ip (up_base _ _ _ hk) (dn_base _ _ _ hk), tag1, if_pos (by simp), comp_id hk, self_base]
      exact ⟨rfl, rfl⟩
    · simp only [Nat.add_sub_cancel] at hx hy
      rw [x_ip (up_fun _ _ _ _) (dn_fun _ _ _ _), tag2, tag2, if_pos (by simp), comp_fun, self_fun]
      obtain ⟨p1, p2⟩ := x_self d n m x (-l') (-l) (-l2) (by omega) (by omega) hx
      obtain ⟨q1, q2⟩ := x_self d n m y l l' l2 (by omega) (by omega) hy
      unfold theX at p1 q1
      rw [p1, q1]
      refine ⟨rfl, ?_⟩
      simp [Co.idB, Co.idsB, p2, q2]
    · simp only [Nat.add_sub_cancel] at hx hy
      rw [x_ip (up_pair _ _ _ _) (dn_pair _ _ _ _), tag3, tag3, if_pos (by simp), comp_pair, self_pair]
      obtain ⟨p1, p2⟩ := x_self d n m x l l' l2 (by omega) (by omega) hx
      obtain ⟨q1, q2⟩ := x_self d n m y l l' l2 (by omega) (by omega) hy
      unfold theX at p1 q1
      rw [p1, q1]
      refine ⟨rfl, ?_⟩
      simp [Co.idB, Co.idsB, p2, q2]
mutual
theorem Ty.cons_self : ∀ t : Ty, t.cons t = true
  | .mk k ts => by unfold Ty.cons; rw [Ty.conss_self ts]; simp
theorem Ty.conss_self : ∀ ts : List Ty, Ty.conss ts ts = true
  | [] => by unfold Ty.conss; rfl
  | t :: ts => by unfold Ty.conss; rw [Ty.cons_self t, Ty.conss_self ts]; rfl
end
theorem there_ok {a b : Ty} {l : Int} (ha : castOk a anyTy l = true) (hb : castOk anyTy b l = true) :
    compOk (castT a anyTy l) (castT anyTy b l) = true ∧ (compT (castT a anyTy l) (castT anyTy b l)).valid = true ∧ a.valid = true ∧ b.valid = true ∧ (compT (castT a anyTy l) (castT anyTy b l)).leads a b = true := by
  have ha' := ha; have hb' := hb
  unfold castOk at ha' hb'
  simp only [Bool.and_eq_true] at ha' hb'
  have va : a.shape (4 : Nat) = true := ha'.1.1.1
  have vb : b.shape (4 : Nat) = true := hb'.1.1.2
  obtain ⟨⟨u1, -⟩, -⟩ := updn 4 9 a l (by omega) va ha'.2
  obtain ⟨-, u2, -⟩ := updn 4 9 b l (by omega) vb ha'.2
  obtain ⟨x1, x2, x3⟩ := x_law 4 9 a b l l (by omega) va vb ha'.2 ha'.2
  have w1 := Co.shape_mono _ _ 9 u1 (by omega)
  have w2 := Co.shape_mono _ _ 9 u2 (by omega)
  have w3 := Co.shape_mono _ _ 9 x2 (by omega)
  unfold theX at x1 x2 x3 w3
  have hok : compOk (castT a anyTy l) (castT anyTy b l) = true := by
    unfold castT
    rw [if_pos ha, if_pos hb]
    unfold compOk Co.valid
    rw [w1, w2, x1, w3]
    rfl
  refine ⟨hok, ?_⟩
  unfold compT
  rw [if_pos hok]
  unfold castT
  rw [if_pos ha, if_pos hb]
  exact ⟨w3, va, vb, x3⟩
theorem there_same {a : Ty} {l : Int} (ha : castOk a anyTy l = true) (hb : castOk anyTy a l = true) :
    castOk a a l = true ∧ compT (castT a anyTy l) (castT anyTy a l) = castT a a l ∧ (castT a a l).idB = true := by
  have hok := (there_ok ha hb).1
  have ha' := ha; have hb' := hb
  unfold castOk at ha' hb'
  simp only [Bool.and_eq_true] at ha' hb'
  have va : a.shape (4 : Nat) = true := ha'.1.1.1
  obtain ⟨h1, h2⟩ := x_self 4 9 9 a l l l (by omega) (by omega) va
  unfold theX at h1
  have hs : castOk a a l = true := by
    unfold castOk
    rw [ha'.1.1.1, Ty.cons_self, ha'.2]
    rfl
  refine ⟨hs, ?_, ?_⟩
  · unfold compT
    rw [if_pos hok]
    unfold castT
    rw [if_pos ha, if_pos hb, if_pos hs]
    exact h1
  · unfold castT
    rw [if_pos hs]
    exact h2
end Go.Proofs.Ythhdjacdalehoaa
