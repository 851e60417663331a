/-
  The reference's parser: a bracket ahead.
  The reference's parser, joined; what ParseType answers.
-/
import Derived.Test.YtikkneahhgmdjaaPrsSA
import Derived.Test.YtikkneahhgmdjaaPrsSP4
import Derived.Test.YtikkneahhgmdjaaPrsSP5
import Derived.Test.YtikkneahhgmdjaaTyValid
namespace Go.Proofs.Ytikkneahhgmdjaa
open Go.RowKit
set_option linter.unusedVariables false
set_option linter.unusedSimpArgs false
set_option maxRecDepth 100000


theorem specParseP (s : ByteArray) (at_ : Nat) (dd : Int) (d : Nat) (cs : List UInt8) (w : World) (IH : ∀ (j : Nat) (W : World), Calls Try.prog 17 #[.string s, .int .i64 j, .int .i64 (dd - 1)] W (PsP s d (s.data.toList.drop j) W)) (hd : decide (dd < 1) = false) (hd9 : 1 ≤ dd ∧ dd ≤ 9) (hsz : s.size ≤ 1048576) (hl : s.data.toList.drop at_ = 40 :: cs) : Calls Try.prog 17 #[.string s, .int .i64 at_, .int .i64 dd] w (PsP s (d + 1) (s.data.toList.drop at_) w) := by
  rcases hp1 : ps d cs with _ | ⟨ta, _ | ⟨m, r⟩⟩
  · exact specParsePa s at_ dd d cs w IH hd hd9 hsz hl hp1
  · exact specParsePb s at_ dd d cs w IH hd hd9 hsz hl ta hp1
  · by_cases m62 : m = 62
    · subst m62
      rcases hp2 : ps d r with _ | ⟨tb, _ | ⟨c5, r5⟩⟩
      · exact specParsePn62 s at_ dd d cs w IH hd hd9 hsz hl ta r hp1 hp2
      · exact specParsePe62 s at_ dd d cs w IH hd hd9 hsz hl ta r hp1 tb hp2
      · by_cases c41 : c5 = 41
        · exact specParsePs62 s at_ dd d cs w IH hd hd9 hsz hl ta r hp1 tb c5 r5 hp2 c41
        · exact specParsePx62 s at_ dd d cs w IH hd hd9 hsz hl ta r hp1 tb c5 r5 hp2 c41
    · by_cases m42 : m = 42
      · subst m42
        rcases hp2 : ps d r with _ | ⟨tb, _ | ⟨c5, r5⟩⟩
        · exact specParsePn42 s at_ dd d cs w IH hd hd9 hsz hl ta r hp1 hp2
        · exact specParsePe42 s at_ dd d cs w IH hd hd9 hsz hl ta r hp1 tb hp2
        · by_cases c41 : c5 = 41
          · exact specParsePs42 s at_ dd d cs w IH hd hd9 hsz hl ta r hp1 tb c5 r5 hp2 c41
          · exact specParsePx42 s at_ dd d cs w IH hd hd9 hsz hl ta r hp1 tb c5 r5 hp2 c41
      · exact specParsePo s at_ dd d cs w IH hd hd9 hsz hl ta m r hp1 m62 m42
end Go.Proofs.Ytikkneahhgmdjaa
namespace Go.Proofs.Ytikkneahhgmdjaa
open Go.RowKit
set_option linter.unusedVariables false
set_option linter.unusedSimpArgs false
set_option maxRecDepth 100000


theorem specParse (s : ByteArray) (hsz : s.size ≤ 1048576) : ∀ (d : Nat), d ≤ 4 → ∀ (j : Nat) (w : World), Calls Try.prog 17 #[.string s, .int .i64 j, .int .i64 (d : Int)] w (PsP s d (s.data.toList.drop j) w)
  | 0, _, j, w => specParse0 s j w
  | d + 1, h, j, w => by
    have hd : decide (((d + 1 : Nat) : Int) < 1) = false := by rw [decide_eq_false_iff_not]; omega
    have e : ((d + 1 : Nat) : Int) - 1 = (d : Int) := by omega
    cases hl : s.data.toList.drop j with
    | nil => rw [← hl]; exact specParseE s j _ d w hd (drop_nil hl)
    | cons c cs =>
      rw [← hl]
      by_cases h1 : c = 63
      · subst h1; exact specParse1 s j _ d cs w hd hsz hl
      by_cases h2 : c = 73
      · subst h2; exact specParse2 s j _ d cs w hd hsz hl
      by_cases h3 : c = 66
      · subst h3; exact specParse3 s j _ d cs w hd hsz hl
      by_cases h4 : c = 40
      · subst h4; exact specParseP s j _ d cs w (fun i W => by rw [e]; exact specParse s hsz d (by omega) i W) hd (by omega) hsz hl
      exact specParseX s j _ d c cs w hd hl h1 h2 h3 h4
/-- What ParseType answers. -/
def parseT (l : List UInt8) : Ty := match ps 4 l with | some (t, []) => t | _ => .mk 0 []
def parseOk (l : List UInt8) : Bool := match ps 4 l with | some (_, []) => true | _ => false
theorem ps_shape : ∀ (d : Nat) (l r : List UInt8) (t : Ty), ps d l = some (t, r) → t.shape d = true
  | 0, l, r, t, h => by simp [ps] at h
  | d + 1, [], r, t, h => by simp [ps] at h
  | d + 1, c :: cs, r, t, h => by
    unfold ps at h
    split at h
    · split at h
      · rename_i a m r1 h1
        split at h
        · rename_i hk
          split at h
          · rename_i b e r2 h2
            split at h
            · simp only [Option.some.injEq, Prod.mk.injEq] at h
              obtain ⟨rfl, rfl⟩ := h
              have ha := ps_shape d _ _ _ h1
              have hb := ps_shape d _ _ _ h2
              have e1 : ((d + 1 : Nat) : Int) - 1 = (d : Int) := by omega
              unfold Ty.shape Ty.shapes Ty.shapes Ty.shapes
              rw [e1, ha, hb]
              have : kindV m.toNat = 4 ∨ kindV m.toNat = 5 := by omega
              rcases this with q | q <;> rw [q] <;> simp [tkids] <;> omega
            · simp at h
          · simp at h
        · simp at h
      · simp at h
    · split at h
      · rename_i hk
        simp only [Option.some.injEq, Prod.mk.injEq] at h
        obtain ⟨rfl, rfl⟩ := h
        unfold Ty.shape Ty.shapes
        have : kindV c.toNat = 1 ∨ kindV c.toNat = 2 ∨ kindV c.toNat = 3 := by omega
        rcases this with q | q | q <;> rw [q] <;> simp [tkids] <;> omega
      · simp at h
end Go.Proofs.Ytikkneahhgmdjaa
