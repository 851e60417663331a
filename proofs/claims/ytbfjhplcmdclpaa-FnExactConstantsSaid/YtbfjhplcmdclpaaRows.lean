/-
  NARROWER THAN 'FOR EVERY INPUT', by the rows' own cells (each row's printed sentence says how): FnExactTypeSame: loops · FnExactCoercionSame: loops · FnExactTypeValid: loops · FnExactIsStatic: loops · FnExactTypeDepth: loops.
  DERIVED. THE GIVEN ROWS OF THIS SEAT. 6 by the template 'for every input the law returns true; each argument reads behind the call as it read before'; 0 by the template 'total and deterministic' (their statements: YtbfjhplcmdclpaaTotals.lean).
  GIVEN WITH THE SEED: the statements are not yours to turn. If you find one false, say at which input.
  Laid BY PROGRAM, IN A SANDBOX (cutbox-rows.mjs): the forced cells as the released guide's own fill.sh prints them over the translation f57939f3e1450768… (all of the seat's roots in one cut). By AI agents, Wed Nov 11 2026. No macro, syntax, notation, axiom, sorry.
-/
import Derived.Test.YtbfjhplcmdclpaaChecked
import GoSem.Claim
import GoSem.ClaimJoined
import GoSem.ClaimMapViews
import Derived.JoinedTies
import Derived.KernelRfl
namespace Go.Proofs.Ytbfjhplcmdclpaa
/- THE CELL 'sum', in the pinned program and in every row, IS THE sha256 OF THE DUMP (.gsa) THAT YtbfjhplcmdclpaaProg.lean LOADS. Nothing in Lean hashes anything: it is a label: what it is worth is what the hold of that sum in a sandbox is worth. -/
noncomputable def Try.pinned : Pinned := { name := "ytbfjhplcmdclpaa", sum := "f57939f3e14507689b3b80d58bdec4d87b3dfadbf194094dccea485133840975", checked := Try.checked }
namespace Rows
def none {H : Type} : Left H := { results := [], args := [] }

/-- 'laws.FnExactConstants': WHATEVER THE INPUT: true; the input reads as it did. -/
def fnExactConstantsSpec : ChangeSpec := { name := "fnExactConstants", fn := fun _ => fun
  | [] => { results := [.lit (.bool true)], args := [] }
  | _ => none }
def fnExactConstantsRow : OpenClaim := { program := "ytbfjhplcmdclpaa", sum := "f57939f3e14507689b3b80d58bdec4d87b3dfadbf194094dccea485133840975", func := "loop.example/gradual/laws.FnExactConstants", spec := "fnExactConstants", apart := false }
def FnExactConstantsSaid : Prop := fnExactConstantsRow.holds Try.pinned (OpenSpec.ofChange fnExactConstantsSpec)

/-- ITS FALSE NEIGHBOUR: 'it returns false'. Refute it at one input. -/
def fnExactConstantsWrong : ChangeSpec := { name := "fnExactConstants", fn := fun _ => fun
  | [] => { results := [.lit (.bool false)], args := [] }
  | _ => none }
def FnExactConstantsWrongFalsely : Prop := fnExactConstantsRow.holds Try.pinned (OpenSpec.ofChange fnExactConstantsWrong)

/-- 'laws.FnExactTypeSame': WHATEVER THE INPUT: true; the input reads as it did. -/
def fnExactTypeSameSpec : ChangeSpec := { name := "fnExactTypeSame", fn := fun _ => fun
  | [d1, d2] => { results := [.lit (.bool true)], args := [d1, d2] }
  | _ => none }
def fnExactTypeSameRow : OpenClaim := { program := "ytbfjhplcmdclpaa", sum := "f57939f3e14507689b3b80d58bdec4d87b3dfadbf194094dccea485133840975", func := "loop.example/gradual/laws.FnExactTypeSame", spec := "fnExactTypeSame", unfollowed := true, recurses := true, loops := true, apart := false }
def FnExactTypeSameSaid : Prop := fnExactTypeSameRow.holds Try.pinned (OpenSpec.ofChange fnExactTypeSameSpec)

/-- ITS FALSE NEIGHBOUR: 'it returns false'. Refute it at one input. -/
def fnExactTypeSameWrong : ChangeSpec := { name := "fnExactTypeSame", fn := fun _ => fun
  | [d1, d2] => { results := [.lit (.bool false)], args := [d1, d2] }
  | _ => none }
def FnExactTypeSameWrongFalsely : Prop := fnExactTypeSameRow.holds Try.pinned (OpenSpec.ofChange fnExactTypeSameWrong)

/-- 'laws.FnExactCoercionSame': WHATEVER THE INPUT: true; the input reads as it did. -/
def fnExactCoercionSameSpec : ChangeSpec := { name := "fnExactCoercionSame", fn := fun _ => fun
  | [d1, d2] => { results := [.lit (.bool true)], args := [d1, d2] }
  | _ => none }
def fnExactCoercionSameRow : OpenClaim := { program := "ytbfjhplcmdclpaa", sum := "f57939f3e14507689b3b80d58bdec4d87b3dfadbf194094dccea485133840975", func := "loop.example/gradual/laws.FnExactCoercionSame", spec := "fnExactCoercionSame", unfollowed := true, recurses := true, loops := true, apart := false }
def FnExactCoercionSameSaid : Prop := fnExactCoercionSameRow.holds Try.pinned (OpenSpec.ofChange fnExactCoercionSameSpec)

/-- ITS FALSE NEIGHBOUR: 'it returns false'. Refute it at one input. -/
def fnExactCoercionSameWrong : ChangeSpec := { name := "fnExactCoercionSame", fn := fun _ => fun
  | [d1, d2] => { results := [.lit (.bool false)], args := [d1, d2] }
  | _ => none }
def FnExactCoercionSameWrongFalsely : Prop := fnExactCoercionSameRow.holds Try.pinned (OpenSpec.ofChange fnExactCoercionSameWrong)

/-- 'laws.FnExactTypeValid': WHATEVER THE INPUT: true; the input reads as it did. -/
def fnExactTypeValidSpec : ChangeSpec := { name := "fnExactTypeValid", fn := fun _ => fun
  | [d] => { results := [.lit (.bool true)], args := [d] }
  | _ => none }
def fnExactTypeValidRow : OpenClaim := { program := "ytbfjhplcmdclpaa", sum := "f57939f3e14507689b3b80d58bdec4d87b3dfadbf194094dccea485133840975", func := "loop.example/gradual/laws.FnExactTypeValid", spec := "fnExactTypeValid", unfollowed := true, recurses := true, loops := true, apart := false }
def FnExactTypeValidSaid : Prop := fnExactTypeValidRow.holds Try.pinned (OpenSpec.ofChange fnExactTypeValidSpec)

/-- ITS FALSE NEIGHBOUR: 'it returns false'. Refute it at one input. -/
def fnExactTypeValidWrong : ChangeSpec := { name := "fnExactTypeValid", fn := fun _ => fun
  | [d] => { results := [.lit (.bool false)], args := [d] }
  | _ => none }
def FnExactTypeValidWrongFalsely : Prop := fnExactTypeValidRow.holds Try.pinned (OpenSpec.ofChange fnExactTypeValidWrong)

/-- 'laws.FnExactIsStatic': WHATEVER THE INPUT: true; the input reads as it did. -/
def fnExactIsStaticSpec : ChangeSpec := { name := "fnExactIsStatic", fn := fun _ => fun
  | [d] => { results := [.lit (.bool true)], args := [d] }
  | _ => none }
def fnExactIsStaticRow : OpenClaim := { program := "ytbfjhplcmdclpaa", sum := "f57939f3e14507689b3b80d58bdec4d87b3dfadbf194094dccea485133840975", func := "loop.example/gradual/laws.FnExactIsStatic", spec := "fnExactIsStatic", unfollowed := true, recurses := true, loops := true, apart := false }
def FnExactIsStaticSaid : Prop := fnExactIsStaticRow.holds Try.pinned (OpenSpec.ofChange fnExactIsStaticSpec)

/-- ITS FALSE NEIGHBOUR: 'it returns false'. Refute it at one input. -/
def fnExactIsStaticWrong : ChangeSpec := { name := "fnExactIsStatic", fn := fun _ => fun
  | [d] => { results := [.lit (.bool false)], args := [d] }
  | _ => none }
def FnExactIsStaticWrongFalsely : Prop := fnExactIsStaticRow.holds Try.pinned (OpenSpec.ofChange fnExactIsStaticWrong)

/-- 'laws.FnExactTypeDepth': WHATEVER THE INPUT: true; the input reads as it did. -/
def fnExactTypeDepthSpec : ChangeSpec := { name := "fnExactTypeDepth", fn := fun _ => fun
  | [d] => { results := [.lit (.bool true)], args := [d] }
  | _ => none }
def fnExactTypeDepthRow : OpenClaim := { program := "ytbfjhplcmdclpaa", sum := "f57939f3e14507689b3b80d58bdec4d87b3dfadbf194094dccea485133840975", func := "loop.example/gradual/laws.FnExactTypeDepth", spec := "fnExactTypeDepth", unfollowed := true, recurses := true, loops := true, apart := false }
def FnExactTypeDepthSaid : Prop := fnExactTypeDepthRow.holds Try.pinned (OpenSpec.ofChange fnExactTypeDepthSpec)

/-- ITS FALSE NEIGHBOUR: 'it returns false'. Refute it at one input. -/
def fnExactTypeDepthWrong : ChangeSpec := { name := "fnExactTypeDepth", fn := fun _ => fun
  | [d] => { results := [.lit (.bool false)], args := [d] }
  | _ => none }
def FnExactTypeDepthWrongFalsely : Prop := fnExactTypeDepthRow.holds Try.pinned (OpenSpec.ofChange fnExactTypeDepthWrong)

/- THE SECOND FORM. 'bulk': how many values and letters a reading holds, each counted each time it is reached (what is shared counts as often as it is met; a slice's spare places count too). A statement '..UptoSaid' is the law's where the arguments, and the package variables that the reading takes, are together of bulk at most 1048576: NARROWER than '..Said'. Prove '..Said' where nothing that the law and all that it calls make is longer than what came in: it says more and counts as full. Else prove '..UptoSaid'. A law counts once. -/
mutual
def uptoBulk {H : Type} : DataW H → Nat
  | .lit (.string bytes) => bytes.length + 1
  | .lit _ => 1
  | .nil => 1
  | .ptr d => uptoBulk d + 1
  | .slice elems spare => uptoBulkAll elems + uptoBulkAll spare + 1
  | .agg parts => uptoBulkAll parts + 1
  | .iface _ d => uptoBulk d + 1
  | .map entries => uptoBulkEntries entries + 1
  | .held _ => 1
def uptoBulkAll {H : Type} : List (DataW H) → Nat
  | [] => 0
  | d :: r => uptoBulk d + uptoBulkAll r
def uptoBulkEntries {H : Type} : List (Lit × DataW H) → Nat
  | [] => 0
  | x :: r => uptoBulkEntry x + uptoBulkEntries r
def uptoBulkEntry {H : Type} : Lit × DataW H → Nat
  | (.string bytes, d) => bytes.length + uptoBulk d + 1
  | (_, d) => uptoBulk d + 1
 end
def uptoSmall : (H : Type) → List (DataW H) → Bool := fun _ ds => decide (uptoBulkAll ds ≤ 1048576)
def OpenSpec.upto (s : _root_.Go.ChangeSpec) : _root_.Go.OpenSpec := { _root_.Go.OpenSpec.ofChange s with cond := some uptoSmall }

/-- 'laws.FnExactConstants', WHERE WHAT IT READS IS OF BULK AT MOST 1048576: true; the input reads as it did. -/
def fnExactConstantsUptoRow : OpenClaim := { program := "ytbfjhplcmdclpaa", sum := "f57939f3e14507689b3b80d58bdec4d87b3dfadbf194094dccea485133840975", func := "loop.example/gradual/laws.FnExactConstants", spec := "fnExactConstants", apart := false, narrowed := true }
def FnExactConstantsUptoSaid : Prop := fnExactConstantsUptoRow.holds Try.pinned (OpenSpec.upto fnExactConstantsSpec)

/-- 'laws.FnExactTypeSame', WHERE WHAT IT READS IS OF BULK AT MOST 1048576: true; the input reads as it did. -/
def fnExactTypeSameUptoRow : OpenClaim := { program := "ytbfjhplcmdclpaa", sum := "f57939f3e14507689b3b80d58bdec4d87b3dfadbf194094dccea485133840975", func := "loop.example/gradual/laws.FnExactTypeSame", spec := "fnExactTypeSame", unfollowed := true, recurses := true, loops := true, apart := false, narrowed := true }
def FnExactTypeSameUptoSaid : Prop := fnExactTypeSameUptoRow.holds Try.pinned (OpenSpec.upto fnExactTypeSameSpec)

/-- 'laws.FnExactCoercionSame', WHERE WHAT IT READS IS OF BULK AT MOST 1048576: true; the input reads as it did. -/
def fnExactCoercionSameUptoRow : OpenClaim := { program := "ytbfjhplcmdclpaa", sum := "f57939f3e14507689b3b80d58bdec4d87b3dfadbf194094dccea485133840975", func := "loop.example/gradual/laws.FnExactCoercionSame", spec := "fnExactCoercionSame", unfollowed := true, recurses := true, loops := true, apart := false, narrowed := true }
def FnExactCoercionSameUptoSaid : Prop := fnExactCoercionSameUptoRow.holds Try.pinned (OpenSpec.upto fnExactCoercionSameSpec)

/-- 'laws.FnExactTypeValid', WHERE WHAT IT READS IS OF BULK AT MOST 1048576: true; the input reads as it did. -/
def fnExactTypeValidUptoRow : OpenClaim := { program := "ytbfjhplcmdclpaa", sum := "f57939f3e14507689b3b80d58bdec4d87b3dfadbf194094dccea485133840975", func := "loop.example/gradual/laws.FnExactTypeValid", spec := "fnExactTypeValid", unfollowed := true, recurses := true, loops := true, apart := false, narrowed := true }
def FnExactTypeValidUptoSaid : Prop := fnExactTypeValidUptoRow.holds Try.pinned (OpenSpec.upto fnExactTypeValidSpec)

/-- 'laws.FnExactIsStatic', WHERE WHAT IT READS IS OF BULK AT MOST 1048576: true; the input reads as it did. -/
def fnExactIsStaticUptoRow : OpenClaim := { program := "ytbfjhplcmdclpaa", sum := "f57939f3e14507689b3b80d58bdec4d87b3dfadbf194094dccea485133840975", func := "loop.example/gradual/laws.FnExactIsStatic", spec := "fnExactIsStatic", unfollowed := true, recurses := true, loops := true, apart := false, narrowed := true }
def FnExactIsStaticUptoSaid : Prop := fnExactIsStaticUptoRow.holds Try.pinned (OpenSpec.upto fnExactIsStaticSpec)

/-- 'laws.FnExactTypeDepth', WHERE WHAT IT READS IS OF BULK AT MOST 1048576: true; the input reads as it did. -/
def fnExactTypeDepthUptoRow : OpenClaim := { program := "ytbfjhplcmdclpaa", sum := "f57939f3e14507689b3b80d58bdec4d87b3dfadbf194094dccea485133840975", func := "loop.example/gradual/laws.FnExactTypeDepth", spec := "fnExactTypeDepth", unfollowed := true, recurses := true, loops := true, apart := false, narrowed := true }
def FnExactTypeDepthUptoSaid : Prop := fnExactTypeDepthUptoRow.holds Try.pinned (OpenSpec.upto fnExactTypeDepthSpec)

end Rows
end Go.Proofs.Ytbfjhplcmdclpaa
