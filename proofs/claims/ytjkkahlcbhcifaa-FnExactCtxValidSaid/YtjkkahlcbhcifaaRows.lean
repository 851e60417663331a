/-
  NARROWER THAN 'FOR EVERY INPUT', by the rows' own cells (each row's printed sentence says how): FnExactTypeSame: loops · FnExactTypeValid: loops · FnExactIsStatic: loops · FnExactTypeDepth: loops · FnExactCountAny: loops · FnExactConsistent: loops · FnExactPrecise: loops · FnExactFormatType: loops · FnExactGroundOf: loops · FnExactJoinTypes: loops · FnExactCtxValid: loops · FnExactMatchFun: loops · FnExactMatchPair: loops · FnExactMeetTypes: loops.
  DERIVED. THE GIVEN ROWS OF THIS SEAT. 31 by the template 'for every input the law returns true; each argument reads behind the call as it read before'; 0 by the template 'total and deterministic' (their statements: YtjkkahlcbhcifaaTotals.lean).
  GIVEN WITH THE SEED: the statements are not yours to turn. If you find one false, say at which input.
  Laid BY PROGRAM, IN A SANDBOX (cutbox-rows.mjs): the forced cells as the released guide's own fill.sh prints them over the translation 2f0f2fc5b2a23344… (all of the seat's roots in one cut). By AI agents, Wed Nov 11 2026. No macro, syntax, notation, axiom, sorry.
-/
import Derived.Test.YtjkkahlcbhcifaaChecked
import GoSem.Claim
import GoSem.ClaimJoined
import GoSem.ClaimMapViews
import Derived.JoinedTies
import Derived.KernelRfl
namespace Go.Proofs.Ytjkkahlcbhcifaa
/- THE CELL 'sum', in the pinned program and in every row, IS THE sha256 OF THE DUMP (.gsa) THAT YtjkkahlcbhcifaaProg.lean LOADS. Nothing in Lean hashes anything: it is a label: what it is worth is what the hold of that sum in a sandbox is worth. -/
noncomputable def Try.pinned : Pinned := { name := "ytjkkahlcbhcifaa", sum := "2f0f2fc5b2a2334445bcb8dfbec47eed0918720be73f0832374442a8cdeabbcc", checked := Try.checked }
namespace Rows
def none {H : Type} : Left H := { results := [], args := [] }

/-- 'laws.FnExactTypeSame': WHATEVER THE INPUT: true; the input reads as it did. -/
def fnExactTypeSameSpec : ChangeSpec := { name := "fnExactTypeSame", fn := fun _ => fun
  | [d1, d2] => { results := [.lit (.bool true)], args := [d1, d2] }
  | _ => none }
def fnExactTypeSameRow : OpenClaim := { program := "ytjkkahlcbhcifaa", sum := "2f0f2fc5b2a2334445bcb8dfbec47eed0918720be73f0832374442a8cdeabbcc", func := "loop.example/gradual/laws.FnExactTypeSame", spec := "fnExactTypeSame", unfollowed := true, recurses := true, loops := true, apart := false }
def FnExactTypeSameSaid : Prop := fnExactTypeSameRow.holds Try.pinned (OpenSpec.ofChange fnExactTypeSameSpec)

/-- ITS FALSE NEIGHBOUR: 'it returns false'. Refute it at one input. -/
def fnExactTypeSameWrong : ChangeSpec := { name := "fnExactTypeSame", fn := fun _ => fun
  | [d1, d2] => { results := [.lit (.bool false)], args := [d1, d2] }
  | _ => none }
def FnExactTypeSameWrongFalsely : Prop := fnExactTypeSameRow.holds Try.pinned (OpenSpec.ofChange fnExactTypeSameWrong)

/-- 'laws.FnExactTypeValid': WHATEVER THE INPUT: true; the input reads as it did. -/
def fnExactTypeValidSpec : ChangeSpec := { name := "fnExactTypeValid", fn := fun _ => fun
  | [d] => { results := [.lit (.bool true)], args := [d] }
  | _ => none }
def fnExactTypeValidRow : OpenClaim := { program := "ytjkkahlcbhcifaa", sum := "2f0f2fc5b2a2334445bcb8dfbec47eed0918720be73f0832374442a8cdeabbcc", func := "loop.example/gradual/laws.FnExactTypeValid", spec := "fnExactTypeValid", unfollowed := true, recurses := true, loops := true, apart := false }
def FnExactTypeValidSaid : Prop := fnExactTypeValidRow.holds Try.pinned (OpenSpec.ofChange fnExactTypeValidSpec)

/-- ITS FALSE NEIGHBOUR: 'it returns false'. Refute it at one input. -/
def fnExactTypeValidWrong : ChangeSpec := { name := "fnExactTypeValid", fn := fun _ => fun
  | [d] => { results := [.lit (.bool false)], args := [d] }
  | _ => none }
def FnExactTypeValidWrongFalsely : Prop := fnExactTypeValidRow.holds Try.pinned (OpenSpec.ofChange fnExactTypeValidWrong)

/-- 'laws.FnExactIsStatic': WHATEVER THE INPUT: true; the input reads as it did. -/
def fnExactIsStaticSpec : ChangeSpec := { name := "fnExactIsStatic", fn := fun _ => fun
  | [d] => { results := [.lit (.bool true)], args := [d] }
  | _ => none }
def fnExactIsStaticRow : OpenClaim := { program := "ytjkkahlcbhcifaa", sum := "2f0f2fc5b2a2334445bcb8dfbec47eed0918720be73f0832374442a8cdeabbcc", func := "loop.example/gradual/laws.FnExactIsStatic", spec := "fnExactIsStatic", unfollowed := true, recurses := true, loops := true, apart := false }
def FnExactIsStaticSaid : Prop := fnExactIsStaticRow.holds Try.pinned (OpenSpec.ofChange fnExactIsStaticSpec)

/-- ITS FALSE NEIGHBOUR: 'it returns false'. Refute it at one input. -/
def fnExactIsStaticWrong : ChangeSpec := { name := "fnExactIsStatic", fn := fun _ => fun
  | [d] => { results := [.lit (.bool false)], args := [d] }
  | _ => none }
def FnExactIsStaticWrongFalsely : Prop := fnExactIsStaticRow.holds Try.pinned (OpenSpec.ofChange fnExactIsStaticWrong)

/-- 'laws.FnExactTypeDepth': WHATEVER THE INPUT: true; the input reads as it did. -/
def fnExactTypeDepthSpec : ChangeSpec := { name := "fnExactTypeDepth", fn := fun _ => fun
  | [d] => { results := [.lit (.bool true)], args := [d] }
  | _ => none }
def fnExactTypeDepthRow : OpenClaim := { program := "ytjkkahlcbhcifaa", sum := "2f0f2fc5b2a2334445bcb8dfbec47eed0918720be73f0832374442a8cdeabbcc", func := "loop.example/gradual/laws.FnExactTypeDepth", spec := "fnExactTypeDepth", unfollowed := true, recurses := true, loops := true, apart := false }
def FnExactTypeDepthSaid : Prop := fnExactTypeDepthRow.holds Try.pinned (OpenSpec.ofChange fnExactTypeDepthSpec)

/-- ITS FALSE NEIGHBOUR: 'it returns false'. Refute it at one input. -/
def fnExactTypeDepthWrong : ChangeSpec := { name := "fnExactTypeDepth", fn := fun _ => fun
  | [d] => { results := [.lit (.bool false)], args := [d] }
  | _ => none }
def FnExactTypeDepthWrongFalsely : Prop := fnExactTypeDepthRow.holds Try.pinned (OpenSpec.ofChange fnExactTypeDepthWrong)

/-- 'laws.FnCtxValid': WHATEVER THE INPUT: true; the input reads as it did. -/
def fnCtxValidSpec : ChangeSpec := { name := "fnCtxValid", fn := fun _ => fun
  | [d1, d2] => { results := [.lit (.bool true)], args := [d1, d2] }
  | _ => none }
def fnCtxValidRow : OpenClaim := { program := "ytjkkahlcbhcifaa", sum := "2f0f2fc5b2a2334445bcb8dfbec47eed0918720be73f0832374442a8cdeabbcc", func := "loop.example/gradual/laws.FnCtxValid", spec := "fnCtxValid", unfollowed := true, recurses := true, apart := false }
def FnCtxValidSaid : Prop := fnCtxValidRow.holds Try.pinned (OpenSpec.ofChange fnCtxValidSpec)

/-- ITS FALSE NEIGHBOUR: 'it returns false'. Refute it at one input. -/
def fnCtxValidWrong : ChangeSpec := { name := "fnCtxValid", fn := fun _ => fun
  | [d1, d2] => { results := [.lit (.bool false)], args := [d1, d2] }
  | _ => none }
def FnCtxValidWrongFalsely : Prop := fnCtxValidRow.holds Try.pinned (OpenSpec.ofChange fnCtxValidWrong)

/-- 'laws.FnExactCountAny': WHATEVER THE INPUT: true; the input reads as it did. -/
def fnExactCountAnySpec : ChangeSpec := { name := "fnExactCountAny", fn := fun _ => fun
  | [d] => { results := [.lit (.bool true)], args := [d] }
  | _ => none }
def fnExactCountAnyRow : OpenClaim := { program := "ytjkkahlcbhcifaa", sum := "2f0f2fc5b2a2334445bcb8dfbec47eed0918720be73f0832374442a8cdeabbcc", func := "loop.example/gradual/laws.FnExactCountAny", spec := "fnExactCountAny", unfollowed := true, recurses := true, loops := true, apart := false }
def FnExactCountAnySaid : Prop := fnExactCountAnyRow.holds Try.pinned (OpenSpec.ofChange fnExactCountAnySpec)

/-- ITS FALSE NEIGHBOUR: 'it returns false'. Refute it at one input. -/
def fnExactCountAnyWrong : ChangeSpec := { name := "fnExactCountAny", fn := fun _ => fun
  | [d] => { results := [.lit (.bool false)], args := [d] }
  | _ => none }
def FnExactCountAnyWrongFalsely : Prop := fnExactCountAnyRow.holds Try.pinned (OpenSpec.ofChange fnExactCountAnyWrong)

/-- 'laws.FnExactConsistent': WHATEVER THE INPUT: true; the input reads as it did. -/
def fnExactConsistentSpec : ChangeSpec := { name := "fnExactConsistent", fn := fun _ => fun
  | [d1, d2] => { results := [.lit (.bool true)], args := [d1, d2] }
  | _ => none }
def fnExactConsistentRow : OpenClaim := { program := "ytjkkahlcbhcifaa", sum := "2f0f2fc5b2a2334445bcb8dfbec47eed0918720be73f0832374442a8cdeabbcc", func := "loop.example/gradual/laws.FnExactConsistent", spec := "fnExactConsistent", unfollowed := true, recurses := true, loops := true, apart := false }
def FnExactConsistentSaid : Prop := fnExactConsistentRow.holds Try.pinned (OpenSpec.ofChange fnExactConsistentSpec)

/-- ITS FALSE NEIGHBOUR: 'it returns false'. Refute it at one input. -/
def fnExactConsistentWrong : ChangeSpec := { name := "fnExactConsistent", fn := fun _ => fun
  | [d1, d2] => { results := [.lit (.bool false)], args := [d1, d2] }
  | _ => none }
def FnExactConsistentWrongFalsely : Prop := fnExactConsistentRow.holds Try.pinned (OpenSpec.ofChange fnExactConsistentWrong)

/-- 'laws.FnExactPrecise': WHATEVER THE INPUT: true; the input reads as it did. -/
def fnExactPreciseSpec : ChangeSpec := { name := "fnExactPrecise", fn := fun _ => fun
  | [d1, d2] => { results := [.lit (.bool true)], args := [d1, d2] }
  | _ => none }
def fnExactPreciseRow : OpenClaim := { program := "ytjkkahlcbhcifaa", sum := "2f0f2fc5b2a2334445bcb8dfbec47eed0918720be73f0832374442a8cdeabbcc", func := "loop.example/gradual/laws.FnExactPrecise", spec := "fnExactPrecise", unfollowed := true, recurses := true, loops := true, apart := false }
def FnExactPreciseSaid : Prop := fnExactPreciseRow.holds Try.pinned (OpenSpec.ofChange fnExactPreciseSpec)

/-- ITS FALSE NEIGHBOUR: 'it returns false'. Refute it at one input. -/
def fnExactPreciseWrong : ChangeSpec := { name := "fnExactPrecise", fn := fun _ => fun
  | [d1, d2] => { results := [.lit (.bool false)], args := [d1, d2] }
  | _ => none }
def FnExactPreciseWrongFalsely : Prop := fnExactPreciseRow.holds Try.pinned (OpenSpec.ofChange fnExactPreciseWrong)

/-- 'laws.FnExactFormatType': WHATEVER THE INPUT: true; the input reads as it did. -/
def fnExactFormatTypeSpec : ChangeSpec := { name := "fnExactFormatType", fn := fun _ => fun
  | [d] => { results := [.lit (.bool true)], args := [d] }
  | _ => none }
def fnExactFormatTypeRow : OpenClaim := { program := "ytjkkahlcbhcifaa", sum := "2f0f2fc5b2a2334445bcb8dfbec47eed0918720be73f0832374442a8cdeabbcc", func := "loop.example/gradual/laws.FnExactFormatType", spec := "fnExactFormatType", unfollowed := true, recurses := true, loops := true, apart := false }
def FnExactFormatTypeSaid : Prop := fnExactFormatTypeRow.holds Try.pinned (OpenSpec.ofChange fnExactFormatTypeSpec)

/-- ITS FALSE NEIGHBOUR: 'it returns false'. Refute it at one input. -/
def fnExactFormatTypeWrong : ChangeSpec := { name := "fnExactFormatType", fn := fun _ => fun
  | [d] => { results := [.lit (.bool false)], args := [d] }
  | _ => none }
def FnExactFormatTypeWrongFalsely : Prop := fnExactFormatTypeRow.holds Try.pinned (OpenSpec.ofChange fnExactFormatTypeWrong)

/-- 'laws.FnTypeSame': WHATEVER THE INPUT: true; the input reads as it did. -/
def fnTypeSameSpec : ChangeSpec := { name := "fnTypeSame", fn := fun _ => fun
  | [d] => { results := [.lit (.bool true)], args := [d] }
  | _ => none }
def fnTypeSameRow : OpenClaim := { program := "ytjkkahlcbhcifaa", sum := "2f0f2fc5b2a2334445bcb8dfbec47eed0918720be73f0832374442a8cdeabbcc", func := "loop.example/gradual/laws.FnTypeSame", spec := "fnTypeSame", unfollowed := true, recurses := true, apart := false }
def FnTypeSameSaid : Prop := fnTypeSameRow.holds Try.pinned (OpenSpec.ofChange fnTypeSameSpec)

/-- ITS FALSE NEIGHBOUR: 'it returns false'. Refute it at one input. -/
def fnTypeSameWrong : ChangeSpec := { name := "fnTypeSame", fn := fun _ => fun
  | [d] => { results := [.lit (.bool false)], args := [d] }
  | _ => none }
def FnTypeSameWrongFalsely : Prop := fnTypeSameRow.holds Try.pinned (OpenSpec.ofChange fnTypeSameWrong)

/-- 'laws.FnTypeParts': WHATEVER THE INPUT: true; the input reads as it did. -/
def fnTypePartsSpec : ChangeSpec := { name := "fnTypeParts", fn := fun _ => fun
  | [d1, d2] => { results := [.lit (.bool true)], args := [d1, d2] }
  | _ => none }
def fnTypePartsRow : OpenClaim := { program := "ytjkkahlcbhcifaa", sum := "2f0f2fc5b2a2334445bcb8dfbec47eed0918720be73f0832374442a8cdeabbcc", func := "loop.example/gradual/laws.FnTypeParts", spec := "fnTypeParts", unfollowed := true, recurses := true, apart := false }
def FnTypePartsSaid : Prop := fnTypePartsRow.holds Try.pinned (OpenSpec.ofChange fnTypePartsSpec)

/-- ITS FALSE NEIGHBOUR: 'it returns false'. Refute it at one input. -/
def fnTypePartsWrong : ChangeSpec := { name := "fnTypeParts", fn := fun _ => fun
  | [d1, d2] => { results := [.lit (.bool false)], args := [d1, d2] }
  | _ => none }
def FnTypePartsWrongFalsely : Prop := fnTypePartsRow.holds Try.pinned (OpenSpec.ofChange fnTypePartsWrong)

/-- 'laws.FnPrecise': WHATEVER THE INPUT: true; the input reads as it did. -/
def fnPreciseSpec : ChangeSpec := { name := "fnPrecise", fn := fun _ => fun
  | [d] => { results := [.lit (.bool true)], args := [d] }
  | _ => none }
def fnPreciseRow : OpenClaim := { program := "ytjkkahlcbhcifaa", sum := "2f0f2fc5b2a2334445bcb8dfbec47eed0918720be73f0832374442a8cdeabbcc", func := "loop.example/gradual/laws.FnPrecise", spec := "fnPrecise", unfollowed := true, recurses := true, apart := false }
def FnPreciseSaid : Prop := fnPreciseRow.holds Try.pinned (OpenSpec.ofChange fnPreciseSpec)

/-- ITS FALSE NEIGHBOUR: 'it returns false'. Refute it at one input. -/
def fnPreciseWrong : ChangeSpec := { name := "fnPrecise", fn := fun _ => fun
  | [d] => { results := [.lit (.bool false)], args := [d] }
  | _ => none }
def FnPreciseWrongFalsely : Prop := fnPreciseRow.holds Try.pinned (OpenSpec.ofChange fnPreciseWrong)

/-- 'laws.FnGroundOf': WHATEVER THE INPUT: true; the input reads as it did. -/
def fnGroundOfSpec : ChangeSpec := { name := "fnGroundOf", fn := fun _ => fun
  | [d1, d2] => { results := [.lit (.bool true)], args := [d1, d2] }
  | _ => none }
def fnGroundOfRow : OpenClaim := { program := "ytjkkahlcbhcifaa", sum := "2f0f2fc5b2a2334445bcb8dfbec47eed0918720be73f0832374442a8cdeabbcc", func := "loop.example/gradual/laws.FnGroundOf", spec := "fnGroundOf", unfollowed := true, recurses := true, apart := false }
def FnGroundOfSaid : Prop := fnGroundOfRow.holds Try.pinned (OpenSpec.ofChange fnGroundOfSpec)

/-- ITS FALSE NEIGHBOUR: 'it returns false'. Refute it at one input. -/
def fnGroundOfWrong : ChangeSpec := { name := "fnGroundOf", fn := fun _ => fun
  | [d1, d2] => { results := [.lit (.bool false)], args := [d1, d2] }
  | _ => none }
def FnGroundOfWrongFalsely : Prop := fnGroundOfRow.holds Try.pinned (OpenSpec.ofChange fnGroundOfWrong)

/-- 'laws.FnExactGroundOf': WHATEVER THE INPUT: true; the input reads as it did. -/
def fnExactGroundOfSpec : ChangeSpec := { name := "fnExactGroundOf", fn := fun _ => fun
  | [d] => { results := [.lit (.bool true)], args := [d] }
  | _ => none }
def fnExactGroundOfRow : OpenClaim := { program := "ytjkkahlcbhcifaa", sum := "2f0f2fc5b2a2334445bcb8dfbec47eed0918720be73f0832374442a8cdeabbcc", func := "loop.example/gradual/laws.FnExactGroundOf", spec := "fnExactGroundOf", unfollowed := true, recurses := true, loops := true, apart := false }
def FnExactGroundOfSaid : Prop := fnExactGroundOfRow.holds Try.pinned (OpenSpec.ofChange fnExactGroundOfSpec)

/-- ITS FALSE NEIGHBOUR: 'it returns false'. Refute it at one input. -/
def fnExactGroundOfWrong : ChangeSpec := { name := "fnExactGroundOf", fn := fun _ => fun
  | [d] => { results := [.lit (.bool false)], args := [d] }
  | _ => none }
def FnExactGroundOfWrongFalsely : Prop := fnExactGroundOfRow.holds Try.pinned (OpenSpec.ofChange fnExactGroundOfWrong)

/-- 'laws.FnConsistentPrecise': WHATEVER THE INPUT: true; the input reads as it did. -/
def fnConsistentPreciseSpec : ChangeSpec := { name := "fnConsistentPrecise", fn := fun _ => fun
  | [d1, d2] => { results := [.lit (.bool true)], args := [d1, d2] }
  | _ => none }
def fnConsistentPreciseRow : OpenClaim := { program := "ytjkkahlcbhcifaa", sum := "2f0f2fc5b2a2334445bcb8dfbec47eed0918720be73f0832374442a8cdeabbcc", func := "loop.example/gradual/laws.FnConsistentPrecise", spec := "fnConsistentPrecise", unfollowed := true, recurses := true, apart := false }
def FnConsistentPreciseSaid : Prop := fnConsistentPreciseRow.holds Try.pinned (OpenSpec.ofChange fnConsistentPreciseSpec)

/-- ITS FALSE NEIGHBOUR: 'it returns false'. Refute it at one input. -/
def fnConsistentPreciseWrong : ChangeSpec := { name := "fnConsistentPrecise", fn := fun _ => fun
  | [d1, d2] => { results := [.lit (.bool false)], args := [d1, d2] }
  | _ => none }
def FnConsistentPreciseWrongFalsely : Prop := fnConsistentPreciseRow.holds Try.pinned (OpenSpec.ofChange fnConsistentPreciseWrong)

/-- 'laws.FnExactJoinTypes': WHATEVER THE INPUT: true; the input reads as it did. -/
def fnExactJoinTypesSpec : ChangeSpec := { name := "fnExactJoinTypes", fn := fun _ => fun
  | [d1, d2] => { results := [.lit (.bool true)], args := [d1, d2] }
  | _ => none }
def fnExactJoinTypesRow : OpenClaim := { program := "ytjkkahlcbhcifaa", sum := "2f0f2fc5b2a2334445bcb8dfbec47eed0918720be73f0832374442a8cdeabbcc", func := "loop.example/gradual/laws.FnExactJoinTypes", spec := "fnExactJoinTypes", unfollowed := true, recurses := true, loops := true, apart := false }
def FnExactJoinTypesSaid : Prop := fnExactJoinTypesRow.holds Try.pinned (OpenSpec.ofChange fnExactJoinTypesSpec)

/-- ITS FALSE NEIGHBOUR: 'it returns false'. Refute it at one input. -/
def fnExactJoinTypesWrong : ChangeSpec := { name := "fnExactJoinTypes", fn := fun _ => fun
  | [d1, d2] => { results := [.lit (.bool false)], args := [d1, d2] }
  | _ => none }
def FnExactJoinTypesWrongFalsely : Prop := fnExactJoinTypesRow.holds Try.pinned (OpenSpec.ofChange fnExactJoinTypesWrong)

/-- 'laws.FnExactParseType': WHATEVER THE INPUT: true; the input reads as it did. -/
def fnExactParseTypeSpec : ChangeSpec := { name := "fnExactParseType", fn := fun _ => fun
  | [d] => { results := [.lit (.bool true)], args := [d] }
  | _ => none }
def fnExactParseTypeRow : OpenClaim := { program := "ytjkkahlcbhcifaa", sum := "2f0f2fc5b2a2334445bcb8dfbec47eed0918720be73f0832374442a8cdeabbcc", func := "loop.example/gradual/laws.FnExactParseType", spec := "fnExactParseType", inPlace := ["internal/bytealg.IndexByteString"], unfollowed := true, recurses := true, apart := false }
def FnExactParseTypeSaid : Prop := fnExactParseTypeRow.holds Try.pinned (OpenSpec.ofChange fnExactParseTypeSpec)

/-- ITS FALSE NEIGHBOUR: 'it returns false'. Refute it at one input. -/
def fnExactParseTypeWrong : ChangeSpec := { name := "fnExactParseType", fn := fun _ => fun
  | [d] => { results := [.lit (.bool false)], args := [d] }
  | _ => none }
def FnExactParseTypeWrongFalsely : Prop := fnExactParseTypeRow.holds Try.pinned (OpenSpec.ofChange fnExactParseTypeWrong)

/-- 'laws.FnExactCtxValid': WHATEVER THE INPUT: true; the input reads as it did. -/
def fnExactCtxValidSpec : ChangeSpec := { name := "fnExactCtxValid", fn := fun _ => fun
  | [d] => { results := [.lit (.bool true)], args := [d] }
  | _ => none }
def fnExactCtxValidRow : OpenClaim := { program := "ytjkkahlcbhcifaa", sum := "2f0f2fc5b2a2334445bcb8dfbec47eed0918720be73f0832374442a8cdeabbcc", func := "loop.example/gradual/laws.FnExactCtxValid", spec := "fnExactCtxValid", unfollowed := true, recurses := true, loops := true, apart := false }
def FnExactCtxValidSaid : Prop := fnExactCtxValidRow.holds Try.pinned (OpenSpec.ofChange fnExactCtxValidSpec)

/-- ITS FALSE NEIGHBOUR: 'it returns false'. Refute it at one input. -/
def fnExactCtxValidWrong : ChangeSpec := { name := "fnExactCtxValid", fn := fun _ => fun
  | [d] => { results := [.lit (.bool false)], args := [d] }
  | _ => none }
def FnExactCtxValidWrongFalsely : Prop := fnExactCtxValidRow.holds Try.pinned (OpenSpec.ofChange fnExactCtxValidWrong)

/-- 'laws.FnIsStatic': WHATEVER THE INPUT: true; the input reads as it did. -/
def fnIsStaticSpec : ChangeSpec := { name := "fnIsStatic", fn := fun _ => fun
  | [d1, d2] => { results := [.lit (.bool true)], args := [d1, d2] }
  | _ => none }
def fnIsStaticRow : OpenClaim := { program := "ytjkkahlcbhcifaa", sum := "2f0f2fc5b2a2334445bcb8dfbec47eed0918720be73f0832374442a8cdeabbcc", func := "loop.example/gradual/laws.FnIsStatic", spec := "fnIsStatic", unfollowed := true, recurses := true, apart := false }
def FnIsStaticSaid : Prop := fnIsStaticRow.holds Try.pinned (OpenSpec.ofChange fnIsStaticSpec)

/-- ITS FALSE NEIGHBOUR: 'it returns false'. Refute it at one input. -/
def fnIsStaticWrong : ChangeSpec := { name := "fnIsStatic", fn := fun _ => fun
  | [d1, d2] => { results := [.lit (.bool false)], args := [d1, d2] }
  | _ => none }
def FnIsStaticWrongFalsely : Prop := fnIsStaticRow.holds Try.pinned (OpenSpec.ofChange fnIsStaticWrong)

/-- 'laws.FnMatchTypes': WHATEVER THE INPUT: true; the input reads as it did. -/
def fnMatchTypesSpec : ChangeSpec := { name := "fnMatchTypes", fn := fun _ => fun
  | [d] => { results := [.lit (.bool true)], args := [d] }
  | _ => none }
def fnMatchTypesRow : OpenClaim := { program := "ytjkkahlcbhcifaa", sum := "2f0f2fc5b2a2334445bcb8dfbec47eed0918720be73f0832374442a8cdeabbcc", func := "loop.example/gradual/laws.FnMatchTypes", spec := "fnMatchTypes", unfollowed := true, recurses := true, apart := false }
def FnMatchTypesSaid : Prop := fnMatchTypesRow.holds Try.pinned (OpenSpec.ofChange fnMatchTypesSpec)

/-- ITS FALSE NEIGHBOUR: 'it returns false'. Refute it at one input. -/
def fnMatchTypesWrong : ChangeSpec := { name := "fnMatchTypes", fn := fun _ => fun
  | [d] => { results := [.lit (.bool false)], args := [d] }
  | _ => none }
def FnMatchTypesWrongFalsely : Prop := fnMatchTypesRow.holds Try.pinned (OpenSpec.ofChange fnMatchTypesWrong)

/-- 'laws.FnConsistent': WHATEVER THE INPUT: true; the input reads as it did. -/
def fnConsistentSpec : ChangeSpec := { name := "fnConsistent", fn := fun _ => fun
  | [d] => { results := [.lit (.bool true)], args := [d] }
  | _ => none }
def fnConsistentRow : OpenClaim := { program := "ytjkkahlcbhcifaa", sum := "2f0f2fc5b2a2334445bcb8dfbec47eed0918720be73f0832374442a8cdeabbcc", func := "loop.example/gradual/laws.FnConsistent", spec := "fnConsistent", unfollowed := true, recurses := true, apart := false }
def FnConsistentSaid : Prop := fnConsistentRow.holds Try.pinned (OpenSpec.ofChange fnConsistentSpec)

/-- ITS FALSE NEIGHBOUR: 'it returns false'. Refute it at one input. -/
def fnConsistentWrong : ChangeSpec := { name := "fnConsistent", fn := fun _ => fun
  | [d] => { results := [.lit (.bool false)], args := [d] }
  | _ => none }
def FnConsistentWrongFalsely : Prop := fnConsistentRow.holds Try.pinned (OpenSpec.ofChange fnConsistentWrong)

/-- 'laws.FnExactMatchFun': WHATEVER THE INPUT: true; the input reads as it did. -/
def fnExactMatchFunSpec : ChangeSpec := { name := "fnExactMatchFun", fn := fun _ => fun
  | [d] => { results := [.lit (.bool true)], args := [d] }
  | _ => none }
def fnExactMatchFunRow : OpenClaim := { program := "ytjkkahlcbhcifaa", sum := "2f0f2fc5b2a2334445bcb8dfbec47eed0918720be73f0832374442a8cdeabbcc", func := "loop.example/gradual/laws.FnExactMatchFun", spec := "fnExactMatchFun", unfollowed := true, recurses := true, loops := true, apart := false }
def FnExactMatchFunSaid : Prop := fnExactMatchFunRow.holds Try.pinned (OpenSpec.ofChange fnExactMatchFunSpec)

/-- ITS FALSE NEIGHBOUR: 'it returns false'. Refute it at one input. -/
def fnExactMatchFunWrong : ChangeSpec := { name := "fnExactMatchFun", fn := fun _ => fun
  | [d] => { results := [.lit (.bool false)], args := [d] }
  | _ => none }
def FnExactMatchFunWrongFalsely : Prop := fnExactMatchFunRow.holds Try.pinned (OpenSpec.ofChange fnExactMatchFunWrong)

/-- 'laws.FnExactMatchPair': WHATEVER THE INPUT: true; the input reads as it did. -/
def fnExactMatchPairSpec : ChangeSpec := { name := "fnExactMatchPair", fn := fun _ => fun
  | [d] => { results := [.lit (.bool true)], args := [d] }
  | _ => none }
def fnExactMatchPairRow : OpenClaim := { program := "ytjkkahlcbhcifaa", sum := "2f0f2fc5b2a2334445bcb8dfbec47eed0918720be73f0832374442a8cdeabbcc", func := "loop.example/gradual/laws.FnExactMatchPair", spec := "fnExactMatchPair", unfollowed := true, recurses := true, loops := true, apart := false }
def FnExactMatchPairSaid : Prop := fnExactMatchPairRow.holds Try.pinned (OpenSpec.ofChange fnExactMatchPairSpec)

/-- ITS FALSE NEIGHBOUR: 'it returns false'. Refute it at one input. -/
def fnExactMatchPairWrong : ChangeSpec := { name := "fnExactMatchPair", fn := fun _ => fun
  | [d] => { results := [.lit (.bool false)], args := [d] }
  | _ => none }
def FnExactMatchPairWrongFalsely : Prop := fnExactMatchPairRow.holds Try.pinned (OpenSpec.ofChange fnExactMatchPairWrong)

/-- 'laws.FnJoinTypes': WHATEVER THE INPUT: true; the input reads as it did. -/
def fnJoinTypesSpec : ChangeSpec := { name := "fnJoinTypes", fn := fun _ => fun
  | [d1, d2] => { results := [.lit (.bool true)], args := [d1, d2] }
  | _ => none }
def fnJoinTypesRow : OpenClaim := { program := "ytjkkahlcbhcifaa", sum := "2f0f2fc5b2a2334445bcb8dfbec47eed0918720be73f0832374442a8cdeabbcc", func := "loop.example/gradual/laws.FnJoinTypes", spec := "fnJoinTypes", unfollowed := true, recurses := true, apart := false }
def FnJoinTypesSaid : Prop := fnJoinTypesRow.holds Try.pinned (OpenSpec.ofChange fnJoinTypesSpec)

/-- ITS FALSE NEIGHBOUR: 'it returns false'. Refute it at one input. -/
def fnJoinTypesWrong : ChangeSpec := { name := "fnJoinTypes", fn := fun _ => fun
  | [d1, d2] => { results := [.lit (.bool false)], args := [d1, d2] }
  | _ => none }
def FnJoinTypesWrongFalsely : Prop := fnJoinTypesRow.holds Try.pinned (OpenSpec.ofChange fnJoinTypesWrong)

/-- 'laws.FnMeetJoin': WHATEVER THE INPUT: true; the input reads as it did. -/
def fnMeetJoinSpec : ChangeSpec := { name := "fnMeetJoin", fn := fun _ => fun
  | [d] => { results := [.lit (.bool true)], args := [d] }
  | _ => none }
def fnMeetJoinRow : OpenClaim := { program := "ytjkkahlcbhcifaa", sum := "2f0f2fc5b2a2334445bcb8dfbec47eed0918720be73f0832374442a8cdeabbcc", func := "loop.example/gradual/laws.FnMeetJoin", spec := "fnMeetJoin", unfollowed := true, recurses := true, apart := false }
def FnMeetJoinSaid : Prop := fnMeetJoinRow.holds Try.pinned (OpenSpec.ofChange fnMeetJoinSpec)

/-- ITS FALSE NEIGHBOUR: 'it returns false'. Refute it at one input. -/
def fnMeetJoinWrong : ChangeSpec := { name := "fnMeetJoin", fn := fun _ => fun
  | [d] => { results := [.lit (.bool false)], args := [d] }
  | _ => none }
def FnMeetJoinWrongFalsely : Prop := fnMeetJoinRow.holds Try.pinned (OpenSpec.ofChange fnMeetJoinWrong)

/-- 'laws.FnTypeDepth': WHATEVER THE INPUT: true; the input reads as it did. -/
def fnTypeDepthSpec : ChangeSpec := { name := "fnTypeDepth", fn := fun _ => fun
  | [d] => { results := [.lit (.bool true)], args := [d] }
  | _ => none }
def fnTypeDepthRow : OpenClaim := { program := "ytjkkahlcbhcifaa", sum := "2f0f2fc5b2a2334445bcb8dfbec47eed0918720be73f0832374442a8cdeabbcc", func := "loop.example/gradual/laws.FnTypeDepth", spec := "fnTypeDepth", unfollowed := true, recurses := true, apart := false }
def FnTypeDepthSaid : Prop := fnTypeDepthRow.holds Try.pinned (OpenSpec.ofChange fnTypeDepthSpec)

/-- ITS FALSE NEIGHBOUR: 'it returns false'. Refute it at one input. -/
def fnTypeDepthWrong : ChangeSpec := { name := "fnTypeDepth", fn := fun _ => fun
  | [d] => { results := [.lit (.bool false)], args := [d] }
  | _ => none }
def FnTypeDepthWrongFalsely : Prop := fnTypeDepthRow.holds Try.pinned (OpenSpec.ofChange fnTypeDepthWrong)

/-- 'laws.FnMeetLaws': WHATEVER THE INPUT: true; the input reads as it did. -/
def fnMeetLawsSpec : ChangeSpec := { name := "fnMeetLaws", fn := fun _ => fun
  | [d1, d2] => { results := [.lit (.bool true)], args := [d1, d2] }
  | _ => none }
def fnMeetLawsRow : OpenClaim := { program := "ytjkkahlcbhcifaa", sum := "2f0f2fc5b2a2334445bcb8dfbec47eed0918720be73f0832374442a8cdeabbcc", func := "loop.example/gradual/laws.FnMeetLaws", spec := "fnMeetLaws", unfollowed := true, recurses := true, apart := false }
def FnMeetLawsSaid : Prop := fnMeetLawsRow.holds Try.pinned (OpenSpec.ofChange fnMeetLawsSpec)

/-- ITS FALSE NEIGHBOUR: 'it returns false'. Refute it at one input. -/
def fnMeetLawsWrong : ChangeSpec := { name := "fnMeetLaws", fn := fun _ => fun
  | [d1, d2] => { results := [.lit (.bool false)], args := [d1, d2] }
  | _ => none }
def FnMeetLawsWrongFalsely : Prop := fnMeetLawsRow.holds Try.pinned (OpenSpec.ofChange fnMeetLawsWrong)

/-- 'laws.FnMeetTypes': WHATEVER THE INPUT: true; the input reads as it did. -/
def fnMeetTypesSpec : ChangeSpec := { name := "fnMeetTypes", fn := fun _ => fun
  | [d1, d2] => { results := [.lit (.bool true)], args := [d1, d2] }
  | _ => none }
def fnMeetTypesRow : OpenClaim := { program := "ytjkkahlcbhcifaa", sum := "2f0f2fc5b2a2334445bcb8dfbec47eed0918720be73f0832374442a8cdeabbcc", func := "loop.example/gradual/laws.FnMeetTypes", spec := "fnMeetTypes", unfollowed := true, recurses := true, apart := false }
def FnMeetTypesSaid : Prop := fnMeetTypesRow.holds Try.pinned (OpenSpec.ofChange fnMeetTypesSpec)

/-- ITS FALSE NEIGHBOUR: 'it returns false'. Refute it at one input. -/
def fnMeetTypesWrong : ChangeSpec := { name := "fnMeetTypes", fn := fun _ => fun
  | [d1, d2] => { results := [.lit (.bool false)], args := [d1, d2] }
  | _ => none }
def FnMeetTypesWrongFalsely : Prop := fnMeetTypesRow.holds Try.pinned (OpenSpec.ofChange fnMeetTypesWrong)

/-- 'laws.FnExactMeetTypes': WHATEVER THE INPUT: true; the input reads as it did. -/
def fnExactMeetTypesSpec : ChangeSpec := { name := "fnExactMeetTypes", fn := fun _ => fun
  | [d1, d2] => { results := [.lit (.bool true)], args := [d1, d2] }
  | _ => none }
def fnExactMeetTypesRow : OpenClaim := { program := "ytjkkahlcbhcifaa", sum := "2f0f2fc5b2a2334445bcb8dfbec47eed0918720be73f0832374442a8cdeabbcc", func := "loop.example/gradual/laws.FnExactMeetTypes", spec := "fnExactMeetTypes", unfollowed := true, recurses := true, loops := true, apart := false }
def FnExactMeetTypesSaid : Prop := fnExactMeetTypesRow.holds Try.pinned (OpenSpec.ofChange fnExactMeetTypesSpec)

/-- ITS FALSE NEIGHBOUR: 'it returns false'. Refute it at one input. -/
def fnExactMeetTypesWrong : ChangeSpec := { name := "fnExactMeetTypes", fn := fun _ => fun
  | [d1, d2] => { results := [.lit (.bool false)], args := [d1, d2] }
  | _ => none }
def FnExactMeetTypesWrongFalsely : Prop := fnExactMeetTypesRow.holds Try.pinned (OpenSpec.ofChange fnExactMeetTypesWrong)

/-- 'laws.FnMeetStatic': WHATEVER THE INPUT: true; the input reads as it did. -/
def fnMeetStaticSpec : ChangeSpec := { name := "fnMeetStatic", fn := fun _ => fun
  | [d] => { results := [.lit (.bool true)], args := [d] }
  | _ => none }
def fnMeetStaticRow : OpenClaim := { program := "ytjkkahlcbhcifaa", sum := "2f0f2fc5b2a2334445bcb8dfbec47eed0918720be73f0832374442a8cdeabbcc", func := "loop.example/gradual/laws.FnMeetStatic", spec := "fnMeetStatic", unfollowed := true, recurses := true, apart := false }
def FnMeetStaticSaid : Prop := fnMeetStaticRow.holds Try.pinned (OpenSpec.ofChange fnMeetStaticSpec)

/-- ITS FALSE NEIGHBOUR: 'it returns false'. Refute it at one input. -/
def fnMeetStaticWrong : ChangeSpec := { name := "fnMeetStatic", fn := fun _ => fun
  | [d] => { results := [.lit (.bool false)], args := [d] }
  | _ => none }
def FnMeetStaticWrongFalsely : Prop := fnMeetStaticRow.holds Try.pinned (OpenSpec.ofChange fnMeetStaticWrong)

/-- 'laws.FnTypeText': WHATEVER THE INPUT: true; the input reads as it did. -/
def fnTypeTextSpec : ChangeSpec := { name := "fnTypeText", fn := fun _ => fun
  | [d1, d2] => { results := [.lit (.bool true)], args := [d1, d2] }
  | _ => none }
def fnTypeTextRow : OpenClaim := { program := "ytjkkahlcbhcifaa", sum := "2f0f2fc5b2a2334445bcb8dfbec47eed0918720be73f0832374442a8cdeabbcc", func := "loop.example/gradual/laws.FnTypeText", spec := "fnTypeText", inPlace := ["internal/bytealg.IndexByteString"], unfollowed := true, recurses := true, apart := false }
def FnTypeTextSaid : Prop := fnTypeTextRow.holds Try.pinned (OpenSpec.ofChange fnTypeTextSpec)

/-- ITS FALSE NEIGHBOUR: 'it returns false'. Refute it at one input. -/
def fnTypeTextWrong : ChangeSpec := { name := "fnTypeText", fn := fun _ => fun
  | [d1, d2] => { results := [.lit (.bool false)], args := [d1, d2] }
  | _ => none }
def FnTypeTextWrongFalsely : Prop := fnTypeTextRow.holds Try.pinned (OpenSpec.ofChange fnTypeTextWrong)

/- THE SECOND FORM. 'bulk': how many values and letters a reading holds, each counted each time it is reached (what is shared counts as often as it is met; a slice's spare places count too). A statement '..UptoSaid' is the law's where the arguments, and the package variables that the reading takes, are together of bulk at most 1048576: NARROWER than '..Said'. Prove '..Said' where nothing that the law and all that it calls make is longer than what came in: it says more and counts as full. Else prove '..UptoSaid'. A law counts once. -/
mutual
def uptoBulk {H : Type} : DataW H → Nat
  | .lit (.string bytes) => bytes.length + 1
  | .lit _ => 1
  | .nil => 1
  | .ptr d => uptoBulk d + 1
  | .slice elems spare => uptoBulkAll elems + uptoBulkAll spare + 1
  | .agg parts => uptoBulkAll parts + 1
  | .iface _ d => uptoBulk d + 1
  | .map entries => uptoBulkEntries entries + 1
  | .held _ => 1
def uptoBulkAll {H : Type} : List (DataW H) → Nat
  | [] => 0
  | d :: r => uptoBulk d + uptoBulkAll r
def uptoBulkEntries {H : Type} : List (Lit × DataW H) → Nat
  | [] => 0
  | x :: r => uptoBulkEntry x + uptoBulkEntries r
def uptoBulkEntry {H : Type} : Lit × DataW H → Nat
  | (.string bytes, d) => bytes.length + uptoBulk d + 1
  | (_, d) => uptoBulk d + 1
 end
def uptoSmall : (H : Type) → List (DataW H) → Bool := fun _ ds => decide (uptoBulkAll ds ≤ 1048576)
def OpenSpec.upto (s : _root_.Go.ChangeSpec) : _root_.Go.OpenSpec := { _root_.Go.OpenSpec.ofChange s with cond := some uptoSmall }

/-- 'laws.FnExactTypeSame', WHERE WHAT IT READS IS OF BULK AT MOST 1048576: true; the input reads as it did. -/
def fnExactTypeSameUptoRow : OpenClaim := { program := "ytjkkahlcbhcifaa", sum := "2f0f2fc5b2a2334445bcb8dfbec47eed0918720be73f0832374442a8cdeabbcc", func := "loop.example/gradual/laws.FnExactTypeSame", spec := "fnExactTypeSame", unfollowed := true, recurses := true, loops := true, apart := false, narrowed := true }
def FnExactTypeSameUptoSaid : Prop := fnExactTypeSameUptoRow.holds Try.pinned (OpenSpec.upto fnExactTypeSameSpec)

/-- 'laws.FnExactTypeValid', WHERE WHAT IT READS IS OF BULK AT MOST 1048576: true; the input reads as it did. -/
def fnExactTypeValidUptoRow : OpenClaim := { program := "ytjkkahlcbhcifaa", sum := "2f0f2fc5b2a2334445bcb8dfbec47eed0918720be73f0832374442a8cdeabbcc", func := "loop.example/gradual/laws.FnExactTypeValid", spec := "fnExactTypeValid", unfollowed := true, recurses := true, loops := true, apart := false, narrowed := true }
def FnExactTypeValidUptoSaid : Prop := fnExactTypeValidUptoRow.holds Try.pinned (OpenSpec.upto fnExactTypeValidSpec)

/-- 'laws.FnExactIsStatic', WHERE WHAT IT READS IS OF BULK AT MOST 1048576: true; the input reads as it did. -/
def fnExactIsStaticUptoRow : OpenClaim := { program := "ytjkkahlcbhcifaa", sum := "2f0f2fc5b2a2334445bcb8dfbec47eed0918720be73f0832374442a8cdeabbcc", func := "loop.example/gradual/laws.FnExactIsStatic", spec := "fnExactIsStatic", unfollowed := true, recurses := true, loops := true, apart := false, narrowed := true }
def FnExactIsStaticUptoSaid : Prop := fnExactIsStaticUptoRow.holds Try.pinned (OpenSpec.upto fnExactIsStaticSpec)

/-- 'laws.FnExactTypeDepth', WHERE WHAT IT READS IS OF BULK AT MOST 1048576: true; the input reads as it did. -/
def fnExactTypeDepthUptoRow : OpenClaim := { program := "ytjkkahlcbhcifaa", sum := "2f0f2fc5b2a2334445bcb8dfbec47eed0918720be73f0832374442a8cdeabbcc", func := "loop.example/gradual/laws.FnExactTypeDepth", spec := "fnExactTypeDepth", unfollowed := true, recurses := true, loops := true, apart := false, narrowed := true }
def FnExactTypeDepthUptoSaid : Prop := fnExactTypeDepthUptoRow.holds Try.pinned (OpenSpec.upto fnExactTypeDepthSpec)

/-- 'laws.FnCtxValid', WHERE WHAT IT READS IS OF BULK AT MOST 1048576: true; the input reads as it did. -/
def fnCtxValidUptoRow : OpenClaim := { program := "ytjkkahlcbhcifaa", sum := "2f0f2fc5b2a2334445bcb8dfbec47eed0918720be73f0832374442a8cdeabbcc", func := "loop.example/gradual/laws.FnCtxValid", spec := "fnCtxValid", unfollowed := true, recurses := true, apart := false, narrowed := true }
def FnCtxValidUptoSaid : Prop := fnCtxValidUptoRow.holds Try.pinned (OpenSpec.upto fnCtxValidSpec)

/-- 'laws.FnExactCountAny', WHERE WHAT IT READS IS OF BULK AT MOST 1048576: true; the input reads as it did. -/
def fnExactCountAnyUptoRow : OpenClaim := { program := "ytjkkahlcbhcifaa", sum := "2f0f2fc5b2a2334445bcb8dfbec47eed0918720be73f0832374442a8cdeabbcc", func := "loop.example/gradual/laws.FnExactCountAny", spec := "fnExactCountAny", unfollowed := true, recurses := true, loops := true, apart := false, narrowed := true }
def FnExactCountAnyUptoSaid : Prop := fnExactCountAnyUptoRow.holds Try.pinned (OpenSpec.upto fnExactCountAnySpec)

/-- 'laws.FnExactConsistent', WHERE WHAT IT READS IS OF BULK AT MOST 1048576: true; the input reads as it did. -/
def fnExactConsistentUptoRow : OpenClaim := { program := "ytjkkahlcbhcifaa", sum := "2f0f2fc5b2a2334445bcb8dfbec47eed0918720be73f0832374442a8cdeabbcc", func := "loop.example/gradual/laws.FnExactConsistent", spec := "fnExactConsistent", unfollowed := true, recurses := true, loops := true, apart := false, narrowed := true }
def FnExactConsistentUptoSaid : Prop := fnExactConsistentUptoRow.holds Try.pinned (OpenSpec.upto fnExactConsistentSpec)

/-- 'laws.FnExactPrecise', WHERE WHAT IT READS IS OF BULK AT MOST 1048576: true; the input reads as it did. -/
def fnExactPreciseUptoRow : OpenClaim := { program := "ytjkkahlcbhcifaa", sum := "2f0f2fc5b2a2334445bcb8dfbec47eed0918720be73f0832374442a8cdeabbcc", func := "loop.example/gradual/laws.FnExactPrecise", spec := "fnExactPrecise", unfollowed := true, recurses := true, loops := true, apart := false, narrowed := true }
def FnExactPreciseUptoSaid : Prop := fnExactPreciseUptoRow.holds Try.pinned (OpenSpec.upto fnExactPreciseSpec)

/-- 'laws.FnExactFormatType', WHERE WHAT IT READS IS OF BULK AT MOST 1048576: true; the input reads as it did. -/
def fnExactFormatTypeUptoRow : OpenClaim := { program := "ytjkkahlcbhcifaa", sum := "2f0f2fc5b2a2334445bcb8dfbec47eed0918720be73f0832374442a8cdeabbcc", func := "loop.example/gradual/laws.FnExactFormatType", spec := "fnExactFormatType", unfollowed := true, recurses := true, loops := true, apart := false, narrowed := true }
def FnExactFormatTypeUptoSaid : Prop := fnExactFormatTypeUptoRow.holds Try.pinned (OpenSpec.upto fnExactFormatTypeSpec)

/-- 'laws.FnTypeSame', WHERE WHAT IT READS IS OF BULK AT MOST 1048576: true; the input reads as it did. -/
def fnTypeSameUptoRow : OpenClaim := { program := "ytjkkahlcbhcifaa", sum := "2f0f2fc5b2a2334445bcb8dfbec47eed0918720be73f0832374442a8cdeabbcc", func := "loop.example/gradual/laws.FnTypeSame", spec := "fnTypeSame", unfollowed := true, recurses := true, apart := false, narrowed := true }
def FnTypeSameUptoSaid : Prop := fnTypeSameUptoRow.holds Try.pinned (OpenSpec.upto fnTypeSameSpec)

/-- 'laws.FnTypeParts', WHERE WHAT IT READS IS OF BULK AT MOST 1048576: true; the input reads as it did. -/
def fnTypePartsUptoRow : OpenClaim := { program := "ytjkkahlcbhcifaa", sum := "2f0f2fc5b2a2334445bcb8dfbec47eed0918720be73f0832374442a8cdeabbcc", func := "loop.example/gradual/laws.FnTypeParts", spec := "fnTypeParts", unfollowed := true, recurses := true, apart := false, narrowed := true }
def FnTypePartsUptoSaid : Prop := fnTypePartsUptoRow.holds Try.pinned (OpenSpec.upto fnTypePartsSpec)

/-- 'laws.FnPrecise', WHERE WHAT IT READS IS OF BULK AT MOST 1048576: true; the input reads as it did. -/
def fnPreciseUptoRow : OpenClaim := { program := "ytjkkahlcbhcifaa", sum := "2f0f2fc5b2a2334445bcb8dfbec47eed0918720be73f0832374442a8cdeabbcc", func := "loop.example/gradual/laws.FnPrecise", spec := "fnPrecise", unfollowed := true, recurses := true, apart := false, narrowed := true }
def FnPreciseUptoSaid : Prop := fnPreciseUptoRow.holds Try.pinned (OpenSpec.upto fnPreciseSpec)

/-- 'laws.FnGroundOf', WHERE WHAT IT READS IS OF BULK AT MOST 1048576: true; the input reads as it did. -/
def fnGroundOfUptoRow : OpenClaim := { program := "ytjkkahlcbhcifaa", sum := "2f0f2fc5b2a2334445bcb8dfbec47eed0918720be73f0832374442a8cdeabbcc", func := "loop.example/gradual/laws.FnGroundOf", spec := "fnGroundOf", unfollowed := true, recurses := true, apart := false, narrowed := true }
def FnGroundOfUptoSaid : Prop := fnGroundOfUptoRow.holds Try.pinned (OpenSpec.upto fnGroundOfSpec)

/-- 'laws.FnExactGroundOf', WHERE WHAT IT READS IS OF BULK AT MOST 1048576: true; the input reads as it did. -/
def fnExactGroundOfUptoRow : OpenClaim := { program := "ytjkkahlcbhcifaa", sum := "2f0f2fc5b2a2334445bcb8dfbec47eed0918720be73f0832374442a8cdeabbcc", func := "loop.example/gradual/laws.FnExactGroundOf", spec := "fnExactGroundOf", unfollowed := true, recurses := true, loops := true, apart := false, narrowed := true }
def FnExactGroundOfUptoSaid : Prop := fnExactGroundOfUptoRow.holds Try.pinned (OpenSpec.upto fnExactGroundOfSpec)

/-- 'laws.FnConsistentPrecise', WHERE WHAT IT READS IS OF BULK AT MOST 1048576: true; the input reads as it did. -/
def fnConsistentPreciseUptoRow : OpenClaim := { program := "ytjkkahlcbhcifaa", sum := "2f0f2fc5b2a2334445bcb8dfbec47eed0918720be73f0832374442a8cdeabbcc", func := "loop.example/gradual/laws.FnConsistentPrecise", spec := "fnConsistentPrecise", unfollowed := true, recurses := true, apart := false, narrowed := true }
def FnConsistentPreciseUptoSaid : Prop := fnConsistentPreciseUptoRow.holds Try.pinned (OpenSpec.upto fnConsistentPreciseSpec)

/-- 'laws.FnExactJoinTypes', WHERE WHAT IT READS IS OF BULK AT MOST 1048576: true; the input reads as it did. -/
def fnExactJoinTypesUptoRow : OpenClaim := { program := "ytjkkahlcbhcifaa", sum := "2f0f2fc5b2a2334445bcb8dfbec47eed0918720be73f0832374442a8cdeabbcc", func := "loop.example/gradual/laws.FnExactJoinTypes", spec := "fnExactJoinTypes", unfollowed := true, recurses := true, loops := true, apart := false, narrowed := true }
def FnExactJoinTypesUptoSaid : Prop := fnExactJoinTypesUptoRow.holds Try.pinned (OpenSpec.upto fnExactJoinTypesSpec)

/-- 'laws.FnExactParseType', WHERE WHAT IT READS IS OF BULK AT MOST 1048576: true; the input reads as it did. -/
def fnExactParseTypeUptoRow : OpenClaim := { program := "ytjkkahlcbhcifaa", sum := "2f0f2fc5b2a2334445bcb8dfbec47eed0918720be73f0832374442a8cdeabbcc", func := "loop.example/gradual/laws.FnExactParseType", spec := "fnExactParseType", inPlace := ["internal/bytealg.IndexByteString"], unfollowed := true, recurses := true, apart := false, narrowed := true }
def FnExactParseTypeUptoSaid : Prop := fnExactParseTypeUptoRow.holds Try.pinned (OpenSpec.upto fnExactParseTypeSpec)

/-- 'laws.FnExactCtxValid', WHERE WHAT IT READS IS OF BULK AT MOST 1048576: true; the input reads as it did. -/
def fnExactCtxValidUptoRow : OpenClaim := { program := "ytjkkahlcbhcifaa", sum := "2f0f2fc5b2a2334445bcb8dfbec47eed0918720be73f0832374442a8cdeabbcc", func := "loop.example/gradual/laws.FnExactCtxValid", spec := "fnExactCtxValid", unfollowed := true, recurses := true, loops := true, apart := false, narrowed := true }
def FnExactCtxValidUptoSaid : Prop := fnExactCtxValidUptoRow.holds Try.pinned (OpenSpec.upto fnExactCtxValidSpec)

/-- 'laws.FnIsStatic', WHERE WHAT IT READS IS OF BULK AT MOST 1048576: true; the input reads as it did. -/
def fnIsStaticUptoRow : OpenClaim := { program := "ytjkkahlcbhcifaa", sum := "2f0f2fc5b2a2334445bcb8dfbec47eed0918720be73f0832374442a8cdeabbcc", func := "loop.example/gradual/laws.FnIsStatic", spec := "fnIsStatic", unfollowed := true, recurses := true, apart := false, narrowed := true }
def FnIsStaticUptoSaid : Prop := fnIsStaticUptoRow.holds Try.pinned (OpenSpec.upto fnIsStaticSpec)

/-- 'laws.FnMatchTypes', WHERE WHAT IT READS IS OF BULK AT MOST 1048576: true; the input reads as it did. -/
def fnMatchTypesUptoRow : OpenClaim := { program := "ytjkkahlcbhcifaa", sum := "2f0f2fc5b2a2334445bcb8dfbec47eed0918720be73f0832374442a8cdeabbcc", func := "loop.example/gradual/laws.FnMatchTypes", spec := "fnMatchTypes", unfollowed := true, recurses := true, apart := false, narrowed := true }
def FnMatchTypesUptoSaid : Prop := fnMatchTypesUptoRow.holds Try.pinned (OpenSpec.upto fnMatchTypesSpec)

/-- 'laws.FnConsistent', WHERE WHAT IT READS IS OF BULK AT MOST 1048576: true; the input reads as it did. -/
def fnConsistentUptoRow : OpenClaim := { program := "ytjkkahlcbhcifaa", sum := "2f0f2fc5b2a2334445bcb8dfbec47eed0918720be73f0832374442a8cdeabbcc", func := "loop.example/gradual/laws.FnConsistent", spec := "fnConsistent", unfollowed := true, recurses := true, apart := false, narrowed := true }
def FnConsistentUptoSaid : Prop := fnConsistentUptoRow.holds Try.pinned (OpenSpec.upto fnConsistentSpec)

/-- 'laws.FnExactMatchFun', WHERE WHAT IT READS IS OF BULK AT MOST 1048576: true; the input reads as it did. -/
def fnExactMatchFunUptoRow : OpenClaim := { program := "ytjkkahlcbhcifaa", sum := "2f0f2fc5b2a2334445bcb8dfbec47eed0918720be73f0832374442a8cdeabbcc", func := "loop.example/gradual/laws.FnExactMatchFun", spec := "fnExactMatchFun", unfollowed := true, recurses := true, loops := true, apart := false, narrowed := true }
def FnExactMatchFunUptoSaid : Prop := fnExactMatchFunUptoRow.holds Try.pinned (OpenSpec.upto fnExactMatchFunSpec)

/-- 'laws.FnExactMatchPair', WHERE WHAT IT READS IS OF BULK AT MOST 1048576: true; the input reads as it did. -/
def fnExactMatchPairUptoRow : OpenClaim := { program := "ytjkkahlcbhcifaa", sum := "2f0f2fc5b2a2334445bcb8dfbec47eed0918720be73f0832374442a8cdeabbcc", func := "loop.example/gradual/laws.FnExactMatchPair", spec := "fnExactMatchPair", unfollowed := true, recurses := true, loops := true, apart := false, narrowed := true }
def FnExactMatchPairUptoSaid : Prop := fnExactMatchPairUptoRow.holds Try.pinned (OpenSpec.upto fnExactMatchPairSpec)

/-- 'laws.FnJoinTypes', WHERE WHAT IT READS IS OF BULK AT MOST 1048576: true; the input reads as it did. -/
def fnJoinTypesUptoRow : OpenClaim := { program := "ytjkkahlcbhcifaa", sum := "2f0f2fc5b2a2334445bcb8dfbec47eed0918720be73f0832374442a8cdeabbcc", func := "loop.example/gradual/laws.FnJoinTypes", spec := "fnJoinTypes", unfollowed := true, recurses := true, apart := false, narrowed := true }
def FnJoinTypesUptoSaid : Prop := fnJoinTypesUptoRow.holds Try.pinned (OpenSpec.upto fnJoinTypesSpec)

/-- 'laws.FnMeetJoin', WHERE WHAT IT READS IS OF BULK AT MOST 1048576: true; the input reads as it did. -/
def fnMeetJoinUptoRow : OpenClaim := { program := "ytjkkahlcbhcifaa", sum := "2f0f2fc5b2a2334445bcb8dfbec47eed0918720be73f0832374442a8cdeabbcc", func := "loop.example/gradual/laws.FnMeetJoin", spec := "fnMeetJoin", unfollowed := true, recurses := true, apart := false, narrowed := true }
def FnMeetJoinUptoSaid : Prop := fnMeetJoinUptoRow.holds Try.pinned (OpenSpec.upto fnMeetJoinSpec)

/-- 'laws.FnTypeDepth', WHERE WHAT IT READS IS OF BULK AT MOST 1048576: true; the input reads as it did. -/
def fnTypeDepthUptoRow : OpenClaim := { program := "ytjkkahlcbhcifaa", sum := "2f0f2fc5b2a2334445bcb8dfbec47eed0918720be73f0832374442a8cdeabbcc", func := "loop.example/gradual/laws.FnTypeDepth", spec := "fnTypeDepth", unfollowed := true, recurses := true, apart := false, narrowed := true }
def FnTypeDepthUptoSaid : Prop := fnTypeDepthUptoRow.holds Try.pinned (OpenSpec.upto fnTypeDepthSpec)

/-- 'laws.FnMeetLaws', WHERE WHAT IT READS IS OF BULK AT MOST 1048576: true; the input reads as it did. -/
def fnMeetLawsUptoRow : OpenClaim := { program := "ytjkkahlcbhcifaa", sum := "2f0f2fc5b2a2334445bcb8dfbec47eed0918720be73f0832374442a8cdeabbcc", func := "loop.example/gradual/laws.FnMeetLaws", spec := "fnMeetLaws", unfollowed := true, recurses := true, apart := false, narrowed := true }
def FnMeetLawsUptoSaid : Prop := fnMeetLawsUptoRow.holds Try.pinned (OpenSpec.upto fnMeetLawsSpec)

/-- 'laws.FnMeetTypes', WHERE WHAT IT READS IS OF BULK AT MOST 1048576: true; the input reads as it did. -/
def fnMeetTypesUptoRow : OpenClaim := { program := "ytjkkahlcbhcifaa", sum := "2f0f2fc5b2a2334445bcb8dfbec47eed0918720be73f0832374442a8cdeabbcc", func := "loop.example/gradual/laws.FnMeetTypes", spec := "fnMeetTypes", unfollowed := true, recurses := true, apart := false, narrowed := true }
def FnMeetTypesUptoSaid : Prop := fnMeetTypesUptoRow.holds Try.pinned (OpenSpec.upto fnMeetTypesSpec)

/-- 'laws.FnExactMeetTypes', WHERE WHAT IT READS IS OF BULK AT MOST 1048576: true; the input reads as it did. -/
def fnExactMeetTypesUptoRow : OpenClaim := { program := "ytjkkahlcbhcifaa", sum := "2f0f2fc5b2a2334445bcb8dfbec47eed0918720be73f0832374442a8cdeabbcc", func := "loop.example/gradual/laws.FnExactMeetTypes", spec := "fnExactMeetTypes", unfollowed := true, recurses := true, loops := true, apart := false, narrowed := true }
def FnExactMeetTypesUptoSaid : Prop := fnExactMeetTypesUptoRow.holds Try.pinned (OpenSpec.upto fnExactMeetTypesSpec)

/-- 'laws.FnMeetStatic', WHERE WHAT IT READS IS OF BULK AT MOST 1048576: true; the input reads as it did. -/
def fnMeetStaticUptoRow : OpenClaim := { program := "ytjkkahlcbhcifaa", sum := "2f0f2fc5b2a2334445bcb8dfbec47eed0918720be73f0832374442a8cdeabbcc", func := "loop.example/gradual/laws.FnMeetStatic", spec := "fnMeetStatic", unfollowed := true, recurses := true, apart := false, narrowed := true }
def FnMeetStaticUptoSaid : Prop := fnMeetStaticUptoRow.holds Try.pinned (OpenSpec.upto fnMeetStaticSpec)

/-- 'laws.FnTypeText', WHERE WHAT IT READS IS OF BULK AT MOST 1048576: true; the input reads as it did. -/
def fnTypeTextUptoRow : OpenClaim := { program := "ytjkkahlcbhcifaa", sum := "2f0f2fc5b2a2334445bcb8dfbec47eed0918720be73f0832374442a8cdeabbcc", func := "loop.example/gradual/laws.FnTypeText", spec := "fnTypeText", inPlace := ["internal/bytealg.IndexByteString"], unfollowed := true, recurses := true, apart := false, narrowed := true }
def FnTypeTextUptoSaid : Prop := fnTypeTextUptoRow.holds Try.pinned (OpenSpec.upto fnTypeTextSpec)

end Rows
end Go.Proofs.Ytjkkahlcbhcifaa
