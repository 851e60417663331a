/-
  The reference's parser: a bracket ahead.
-/
import Derived.Test.YtikkneahhgmdjaaPrsSA
import Derived.Test.YtikkneahhgmdjaaPrsSP4
import Derived.Test.YtikkneahhgmdjaaPrsSP5
namespace Go.Proofs.Ytikkneahhgmdjaa
open Go.RowKit
set_option linter.unusedVariables false
set_option linter.unusedSimpArgs false
set_option maxRecDepth 100000


theorem specParseP (s : ByteArray) (at_ : Nat) (dd : Int) (d : Nat) (cs : List UInt8) (w : World) (IH : ∀ (j : Nat) (W : World), Calls Try.prog 17 #[.string s, .int .i64 j, .int .i64 (dd - 1)] W (PsP s d (s.data.toList.drop j) W)) (hd : decide (dd < 1) = false) (hd9 : 1 ≤ dd ∧ dd ≤ 9) (hsz : s.size ≤ 1048576) (hl : s.data.toList.drop at_ = 40 :: cs) : Calls Try.prog 17 #[.string s, .int .i64 at_, .int .i64 dd] w (PsP s (d + 1) (s.data.toList.drop at_) w) := by
  rcases hp1 : ps d cs with _ | ⟨ta, _ | ⟨m, r⟩⟩
  · exact specParsePa s at_ dd d cs w IH hd hd9 hsz hl hp1
  · exact specParsePb s at_ dd d cs w IH hd hd9 hsz hl ta hp1
  · by_cases m62 : m = 62
    · subst m62
      rcases hp2 : ps d r with _ | ⟨tb, _ | ⟨c5, r5⟩⟩
      · exact specParsePn62 s at_ dd d cs w IH hd hd9 hsz hl ta r hp1 hp2
      · exact specParsePe62 s at_ dd d cs w IH hd hd9 hsz hl ta r hp1 tb hp2
      · by_cases c41 : c5 = 41
        · exact specParsePs62 s at_ dd d cs w IH hd hd9 hsz hl ta r hp1 tb c5 r5 hp2 c41
        · exact specParsePx62 s at_ dd d cs w IH hd hd9 hsz hl ta r hp1 tb c5 r5 hp2 c41
    · by_cases m42 : m = 42
      · subst m42
        rcases hp2 : ps d r with _ | ⟨tb, _ | ⟨c5, r5⟩⟩
        · exact specParsePn42 s at_ dd d cs w IH hd hd9 hsz hl ta r hp1 hp2
        · exact specParsePe42 s at_ dd d cs w IH hd hd9 hsz hl ta r hp1 tb hp2
        · by_cases c41 : c5 = 41
          · exact specParsePs42 s at_ dd d cs w IH hd hd9 hsz hl ta r hp1 tb c5 r5 hp2 c41
          · exact specParsePx42 s at_ dd d cs w IH hd hd9 hsz hl ta r hp1 tb c5 r5 hp2 c41
      · exact specParsePo s at_ dd d cs w IH hd hd9 hsz hl ta m r hp1 m62 m42
end Go.Proofs.Ytikkneahhgmdjaa
