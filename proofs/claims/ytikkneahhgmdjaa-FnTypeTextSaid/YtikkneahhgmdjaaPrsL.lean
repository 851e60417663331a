/-
  Formatting and parsing are inverse: plain Lean.
-/
import Derived.Test.YtikkneahhgmdjaaB19
import Derived.Test.YtikkneahhgmdjaaFmt
namespace Go.Proofs.Ytikkneahhgmdjaa
open Go.RowKit
set_option linter.unusedVariables false
set_option linter.unusedSimpArgs false
set_option maxRecDepth 100000

theorem kindV_not {k : UInt8} (h1 : k ≠ 62) (h2 : k ≠ 42) : ¬ (4 ≤ kindV k.toNat ∧ kindV k.toNat ≤ 5) := by
  by_cases h63 : k = 63
  · subst h63; rw [kindV_63]; omega
  by_cases h73 : k = 73
  · subst h73; rw [kindV_73]; omega
  by_cases h66 : k = 66
  · subst h66; rw [kindV_66]; omega
  rw [kindV_other h63 h73 h66 h1 h2]; omega
theorem kindV_nob {c : UInt8} (h63 : c ≠ 63) (h73 : c ≠ 73) (h66 : c ≠ 66) : ¬ (1 ≤ kindV c.toNat ∧ kindV c.toNat ≤ 3) := by
  by_cases h1 : c = 62
  · subst h1; rw [kindV_62]; omega
  by_cases h2 : c = 42
  · subst h2; rw [kindV_42]; omega
  rw [kindV_other h63 h73 h66 h1 h2]; omega
theorem ps_pp : ∀ (d : Nat) (l : List UInt8), ps d l = (pp d l).map (fun q => (q.1.ty, q.2))
  | 0, l => by simp [ps, pp]
  | d + 1, [] => by simp [ps, pp]
  | d + 1, c :: l => by
    have IH := ps_pp d
    unfold ps pp
    by_cases h63 : c = 63
    · subst h63
      rw [if_neg (by decide), kindV_63, if_pos (by omega), if_pos rfl]; rfl
    by_cases h73 : c = 73
    · subst h73
      rw [if_neg (by decide), kindV_73, if_pos (by omega), if_neg (by decide), if_pos rfl]; rfl
    by_cases h66 : c = 66
    · subst h66
      rw [if_neg (by decide), kindV_66, if_pos (by omega), if_neg (by decide), if_neg (by decide), if_pos rfl]; rfl
    by_cases h40 : c = 40
    · subst h40
      rw [if_pos rfl, if_neg (by decide), if_neg (by decide), if_neg (by decide), if_pos rfl, IH l]
      rcases pp d l with _ | ⟨a, _ | ⟨k, l1⟩⟩
      · rfl
      · rfl
      · dsimp only [Option.map]
        by_cases k62 : k = 62
        · subst k62
          rw [if_pos (by rw [kindV_62]; omega), if_pos (Or.inl rfl), IH l1]
          rcases pp d l1 with _ | ⟨b, _ | ⟨e, l2⟩⟩
          · rfl
          · rfl
          · dsimp only [Option.map]
            by_cases he : e = 41
            · rw [if_pos he, if_pos he, kindV_62]; rfl
            · rw [if_neg he, if_neg he]
        by_cases k42 : k = 42
        · subst k42
          rw [if_pos (by rw [kindV_42]; omega), if_pos (Or.inr rfl), IH l1]
          rcases pp d l1 with _ | ⟨b, _ | ⟨e, l2⟩⟩
          · rfl
          · rfl
          · dsimp only [Option.map]
            by_cases he : e = 41
            · rw [if_pos he, if_pos he, kindV_42]; rfl
            · rw [if_neg he, if_neg he]
        rw [if_neg (kindV_not k62 k42), if_neg (by simp [k62, k42])]
    rw [if_neg h40, if_neg (kindV_nob h63 h73 h66), if_neg h63, if_neg h73, if_neg h66, if_neg h40]; rfl
theorem parse_print {t : Ty} (h : t.valid = true) : parseT (fmtB t).data.toList = t ∧ parseOk (fmtB t).data.toList = true := by
  obtain ⟨s, rfl, hs⟩ := Ty.valid_S h
  rw [fmtB_ty hs, S.bs_text]
  have e := pp_text s 4 [] (S.vd_ok hs) (S.vd_dep hs)
  rw [List.append_nil] at e
  have e2 : ps 4 (⟨s.text.toArray⟩ : ByteArray).data.toList = some (s.ty, []) := by
    show ps 4 s.text = _
    rw [ps_pp, e]; rfl
  unfold parseT parseOk
  rw [e2]
  exact ⟨rfl, rfl⟩
theorem parse_nil : parseT (⟨#[]⟩ : ByteArray).data.toList = .mk 0 [] ∧ parseOk (⟨#[]⟩ : ByteArray).data.toList = false := ⟨rfl, rfl⟩
theorem print_parse {x : ByteArray} (h : parseOk x.data.toList = true) : (parseT x.data.toList).valid = true ∧ fmtB (parseT x.data.toList) = x := by
  unfold parseOk at h
  unfold parseT
  rw [ps_pp] at h ⊢
  cases hp : pp 4 x.data.toList with
  | none => rw [hp] at h; simp at h
  | some q =>
    obtain ⟨s, r⟩ := q
    rw [hp] at h
    cases r with
    | cons c cs => simp at h
    | nil =>
      obtain ⟨h1, h2, h3⟩ := pp_some _ _ _ _ hp
      have hv := S.vd_mk h2 h3
      simp only [Option.map]
      refine ⟨by rw [S.valid, hv], ?_⟩
      rw [fmtB_ty hv, S.bs_text]
      have : x.data.toList = s.text := by simpa using h1
      rw [← this]
end Go.Proofs.Ytikkneahhgmdjaa
