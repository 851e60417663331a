/-
  NARROWER THAN 'FOR EVERY INPUT', by the rows' own cells (each row's printed sentence says how): FnExactCastTypeOf: loops.
  DERIVED. THE GIVEN ROWS OF THIS SEAT. 7 by the template 'for every input the law returns true; each argument reads behind the call as it read before'; 0 by the template 'total and deterministic' (their statements: YtblpdpkjgbbhkaaTotals.lean).
  GIVEN WITH THE SEED: the statements are not yours to turn. If you find one false, say at which input.
  Laid BY PROGRAM, IN A SANDBOX (cutbox-rows.mjs): the forced cells as the released guide's own fill.sh prints them over the translation 4af0d33d1f4d06c4… (all of the seat's roots in one cut). By AI agents, Wed Nov 11 2026. No macro, syntax, notation, axiom, sorry.
-/
import Derived.Test.YtblpdpkjgbbhkaaChecked
import GoSem.Claim
import GoSem.ClaimJoined
import GoSem.ClaimMapViews
import Derived.JoinedTies
import Derived.KernelRfl
namespace Go.Proofs.Ytblpdpkjgbbhkaa
/- THE CELL 'sum', in the pinned program and in every row, IS THE sha256 OF THE DUMP (.gsa) THAT YtblpdpkjgbbhkaaProg.lean LOADS. Nothing in Lean hashes anything: it is a label: what it is worth is what the hold of that sum in a sandbox is worth. -/
noncomputable def Try.pinned : Pinned := { name := "ytblpdpkjgbbhkaa", sum := "4af0d33d1f4d06c47cba16572179b572e2bee94bb8faad423e0fccc1d76fb9ae", checked := Try.checked }
namespace Rows
def none {H : Type} : Left H := { results := [], args := [] }

/-- 'laws.FnTermParts': WHATEVER THE INPUT: true; the input reads as it did. -/
def fnTermPartsSpec : ChangeSpec := { name := "fnTermParts", fn := fun _ => fun
  | [d] => { results := [.lit (.bool true)], args := [d] }
  | _ => none }
def fnTermPartsRow : OpenClaim := { program := "ytblpdpkjgbbhkaa", sum := "4af0d33d1f4d06c47cba16572179b572e2bee94bb8faad423e0fccc1d76fb9ae", func := "loop.example/gradual/laws.FnTermParts", spec := "fnTermParts", unfollowed := true, recurses := true, apart := false }
def FnTermPartsSaid : Prop := fnTermPartsRow.holds Try.pinned (OpenSpec.ofChange fnTermPartsSpec)

/-- ITS FALSE NEIGHBOUR: 'it returns false'. Refute it at one input. -/
def fnTermPartsWrong : ChangeSpec := { name := "fnTermParts", fn := fun _ => fun
  | [d] => { results := [.lit (.bool false)], args := [d] }
  | _ => none }
def FnTermPartsWrongFalsely : Prop := fnTermPartsRow.holds Try.pinned (OpenSpec.ofChange fnTermPartsWrong)

/-- 'laws.FnCountNodes': WHATEVER THE INPUT: true; the input reads as it did. -/
def fnCountNodesSpec : ChangeSpec := { name := "fnCountNodes", fn := fun _ => fun
  | [d] => { results := [.lit (.bool true)], args := [d] }
  | _ => none }
def fnCountNodesRow : OpenClaim := { program := "ytblpdpkjgbbhkaa", sum := "4af0d33d1f4d06c47cba16572179b572e2bee94bb8faad423e0fccc1d76fb9ae", func := "loop.example/gradual/laws.FnCountNodes", spec := "fnCountNodes", unfollowed := true, recurses := true, apart := false }
def FnCountNodesSaid : Prop := fnCountNodesRow.holds Try.pinned (OpenSpec.ofChange fnCountNodesSpec)

/-- ITS FALSE NEIGHBOUR: 'it returns false'. Refute it at one input. -/
def fnCountNodesWrong : ChangeSpec := { name := "fnCountNodes", fn := fun _ => fun
  | [d] => { results := [.lit (.bool false)], args := [d] }
  | _ => none }
def FnCountNodesWrongFalsely : Prop := fnCountNodesRow.holds Try.pinned (OpenSpec.ofChange fnCountNodesWrong)

/-- 'laws.FnWithTypes': WHATEVER THE INPUT: true; the input reads as it did. -/
def fnWithTypesSpec : ChangeSpec := { name := "fnWithTypes", fn := fun _ => fun
  | [d] => { results := [.lit (.bool true)], args := [d] }
  | _ => none }
def fnWithTypesRow : OpenClaim := { program := "ytblpdpkjgbbhkaa", sum := "4af0d33d1f4d06c47cba16572179b572e2bee94bb8faad423e0fccc1d76fb9ae", func := "loop.example/gradual/laws.FnWithTypes", spec := "fnWithTypes", unfollowed := true, recurses := true, apart := false }
def FnWithTypesSaid : Prop := fnWithTypesRow.holds Try.pinned (OpenSpec.ofChange fnWithTypesSpec)

/-- ITS FALSE NEIGHBOUR: 'it returns false'. Refute it at one input. -/
def fnWithTypesWrong : ChangeSpec := { name := "fnWithTypes", fn := fun _ => fun
  | [d] => { results := [.lit (.bool false)], args := [d] }
  | _ => none }
def FnWithTypesWrongFalsely : Prop := fnWithTypesRow.holds Try.pinned (OpenSpec.ofChange fnWithTypesWrong)

/-- 'laws.FnFreeNames': WHATEVER THE INPUT: true; the input reads as it did. -/
def fnFreeNamesSpec : ChangeSpec := { name := "fnFreeNames", fn := fun _ => fun
  | [d] => { results := [.lit (.bool true)], args := [d] }
  | _ => none }
def fnFreeNamesRow : OpenClaim := { program := "ytblpdpkjgbbhkaa", sum := "4af0d33d1f4d06c47cba16572179b572e2bee94bb8faad423e0fccc1d76fb9ae", func := "loop.example/gradual/laws.FnFreeNames", spec := "fnFreeNames", inPlace := ["internal/bytealg.IndexByteString", "internal/bytealg.IndexString"], unfollowed := true, recurses := true, named := ["internal/bytealg.MaxLen"], apart := false }
def FnFreeNamesSaid : Prop := fnFreeNamesRow.holds Try.pinned (OpenSpec.ofChange fnFreeNamesSpec)

/-- ITS FALSE NEIGHBOUR: 'it returns false'. Refute it at one input. -/
def fnFreeNamesWrong : ChangeSpec := { name := "fnFreeNames", fn := fun _ => fun
  | [d] => { results := [.lit (.bool false)], args := [d] }
  | _ => none }
def FnFreeNamesWrongFalsely : Prop := fnFreeNamesRow.holds Try.pinned (OpenSpec.ofChange fnFreeNamesWrong)

/-- 'laws.FnTermPrecise': WHATEVER THE INPUT: true; the input reads as it did. -/
def fnTermPreciseSpec : ChangeSpec := { name := "fnTermPrecise", fn := fun _ => fun
  | [d] => { results := [.lit (.bool true)], args := [d] }
  | _ => none }
def fnTermPreciseRow : OpenClaim := { program := "ytblpdpkjgbbhkaa", sum := "4af0d33d1f4d06c47cba16572179b572e2bee94bb8faad423e0fccc1d76fb9ae", func := "loop.example/gradual/laws.FnTermPrecise", spec := "fnTermPrecise", unfollowed := true, recurses := true, apart := false }
def FnTermPreciseSaid : Prop := fnTermPreciseRow.holds Try.pinned (OpenSpec.ofChange fnTermPreciseSpec)

/-- ITS FALSE NEIGHBOUR: 'it returns false'. Refute it at one input. -/
def fnTermPreciseWrong : ChangeSpec := { name := "fnTermPrecise", fn := fun _ => fun
  | [d] => { results := [.lit (.bool false)], args := [d] }
  | _ => none }
def FnTermPreciseWrongFalsely : Prop := fnTermPreciseRow.holds Try.pinned (OpenSpec.ofChange fnTermPreciseWrong)

/-- 'laws.FnExactCastTypeOf': WHATEVER THE INPUT: true; the input reads as it did. -/
def fnExactCastTypeOfSpec : ChangeSpec := { name := "fnExactCastTypeOf", fn := fun _ => fun
  | [d] => { results := [.lit (.bool true)], args := [d] }
  | _ => none }
def fnExactCastTypeOfRow : OpenClaim := { program := "ytblpdpkjgbbhkaa", sum := "4af0d33d1f4d06c47cba16572179b572e2bee94bb8faad423e0fccc1d76fb9ae", func := "loop.example/gradual/laws.FnExactCastTypeOf", spec := "fnExactCastTypeOf", unfollowed := true, recurses := true, loops := true, apart := false }
def FnExactCastTypeOfSaid : Prop := fnExactCastTypeOfRow.holds Try.pinned (OpenSpec.ofChange fnExactCastTypeOfSpec)

/-- ITS FALSE NEIGHBOUR: 'it returns false'. Refute it at one input. -/
def fnExactCastTypeOfWrong : ChangeSpec := { name := "fnExactCastTypeOf", fn := fun _ => fun
  | [d] => { results := [.lit (.bool false)], args := [d] }
  | _ => none }
def FnExactCastTypeOfWrongFalsely : Prop := fnExactCastTypeOfRow.holds Try.pinned (OpenSpec.ofChange fnExactCastTypeOfWrong)

/-- 'laws.FnCastTypeOf': WHATEVER THE INPUT: true; the input reads as it did. -/
def fnCastTypeOfSpec : ChangeSpec := { name := "fnCastTypeOf", fn := fun _ => fun
  | [d1, d2] => { results := [.lit (.bool true)], args := [d1, d2] }
  | _ => none }
def fnCastTypeOfRow : OpenClaim := { program := "ytblpdpkjgbbhkaa", sum := "4af0d33d1f4d06c47cba16572179b572e2bee94bb8faad423e0fccc1d76fb9ae", func := "loop.example/gradual/laws.FnCastTypeOf", spec := "fnCastTypeOf", unfollowed := true, recurses := true, apart := false }
def FnCastTypeOfSaid : Prop := fnCastTypeOfRow.holds Try.pinned (OpenSpec.ofChange fnCastTypeOfSpec)

/-- ITS FALSE NEIGHBOUR: 'it returns false'. Refute it at one input. -/
def fnCastTypeOfWrong : ChangeSpec := { name := "fnCastTypeOf", fn := fun _ => fun
  | [d1, d2] => { results := [.lit (.bool false)], args := [d1, d2] }
  | _ => none }
def FnCastTypeOfWrongFalsely : Prop := fnCastTypeOfRow.holds Try.pinned (OpenSpec.ofChange fnCastTypeOfWrong)

/- THE SECOND FORM. 'bulk': how many values and letters a reading holds, each counted each time it is reached (what is shared counts as often as it is met; a slice's spare places count too). A statement '..UptoSaid' is the law's where the arguments, and the package variables that the reading takes, are together of bulk at most 1048576: NARROWER than '..Said'. Prove '..Said' where nothing that the law and all that it calls make is longer than what came in: it says more and counts as full. Else prove '..UptoSaid'. A law counts once. -/
mutual
def uptoBulk {H : Type} : DataW H → Nat
  | .lit (.string bytes) => bytes.length + 1
  | .lit _ => 1
  | .nil => 1
  | .ptr d => uptoBulk d + 1
  | .slice elems spare => uptoBulkAll elems + uptoBulkAll spare + 1
  | .agg parts => uptoBulkAll parts + 1
  | .iface _ d => uptoBulk d + 1
  | .map entries => uptoBulkEntries entries + 1
  | .held _ => 1
def uptoBulkAll {H : Type} : List (DataW H) → Nat
  | [] => 0
  | d :: r => uptoBulk d + uptoBulkAll r
def uptoBulkEntries {H : Type} : List (Lit × DataW H) → Nat
  | [] => 0
  | x :: r => uptoBulkEntry x + uptoBulkEntries r
def uptoBulkEntry {H : Type} : Lit × DataW H → Nat
  | (.string bytes, d) => bytes.length + uptoBulk d + 1
  | (_, d) => uptoBulk d + 1
 end
def uptoSmall : (H : Type) → List (DataW H) → Bool := fun _ ds => decide (uptoBulkAll ds ≤ 1048576)
def OpenSpec.upto (s : _root_.Go.ChangeSpec) : _root_.Go.OpenSpec := { _root_.Go.OpenSpec.ofChange s with cond := some uptoSmall }

/-- 'laws.FnTermParts', WHERE WHAT IT READS IS OF BULK AT MOST 1048576: true; the input reads as it did. -/
def fnTermPartsUptoRow : OpenClaim := { program := "ytblpdpkjgbbhkaa", sum := "4af0d33d1f4d06c47cba16572179b572e2bee94bb8faad423e0fccc1d76fb9ae", func := "loop.example/gradual/laws.FnTermParts", spec := "fnTermParts", unfollowed := true, recurses := true, apart := false, narrowed := true }
def FnTermPartsUptoSaid : Prop := fnTermPartsUptoRow.holds Try.pinned (OpenSpec.upto fnTermPartsSpec)

/-- 'laws.FnCountNodes', WHERE WHAT IT READS IS OF BULK AT MOST 1048576: true; the input reads as it did. -/
def fnCountNodesUptoRow : OpenClaim := { program := "ytblpdpkjgbbhkaa", sum := "4af0d33d1f4d06c47cba16572179b572e2bee94bb8faad423e0fccc1d76fb9ae", func := "loop.example/gradual/laws.FnCountNodes", spec := "fnCountNodes", unfollowed := true, recurses := true, apart := false, narrowed := true }
def FnCountNodesUptoSaid : Prop := fnCountNodesUptoRow.holds Try.pinned (OpenSpec.upto fnCountNodesSpec)

/-- 'laws.FnWithTypes', WHERE WHAT IT READS IS OF BULK AT MOST 1048576: true; the input reads as it did. -/
def fnWithTypesUptoRow : OpenClaim := { program := "ytblpdpkjgbbhkaa", sum := "4af0d33d1f4d06c47cba16572179b572e2bee94bb8faad423e0fccc1d76fb9ae", func := "loop.example/gradual/laws.FnWithTypes", spec := "fnWithTypes", unfollowed := true, recurses := true, apart := false, narrowed := true }
def FnWithTypesUptoSaid : Prop := fnWithTypesUptoRow.holds Try.pinned (OpenSpec.upto fnWithTypesSpec)

/-- 'laws.FnFreeNames', WHERE WHAT IT READS IS OF BULK AT MOST 1048576: true; the input reads as it did. -/
def fnFreeNamesUptoRow : OpenClaim := { program := "ytblpdpkjgbbhkaa", sum := "4af0d33d1f4d06c47cba16572179b572e2bee94bb8faad423e0fccc1d76fb9ae", func := "loop.example/gradual/laws.FnFreeNames", spec := "fnFreeNames", inPlace := ["internal/bytealg.IndexByteString", "internal/bytealg.IndexString"], unfollowed := true, recurses := true, named := ["internal/bytealg.MaxLen"], apart := false, narrowed := true }
def FnFreeNamesUptoSaid : Prop := fnFreeNamesUptoRow.holds Try.pinned (OpenSpec.upto fnFreeNamesSpec)

/-- 'laws.FnTermPrecise', WHERE WHAT IT READS IS OF BULK AT MOST 1048576: true; the input reads as it did. -/
def fnTermPreciseUptoRow : OpenClaim := { program := "ytblpdpkjgbbhkaa", sum := "4af0d33d1f4d06c47cba16572179b572e2bee94bb8faad423e0fccc1d76fb9ae", func := "loop.example/gradual/laws.FnTermPrecise", spec := "fnTermPrecise", unfollowed := true, recurses := true, apart := false, narrowed := true }
def FnTermPreciseUptoSaid : Prop := fnTermPreciseUptoRow.holds Try.pinned (OpenSpec.upto fnTermPreciseSpec)

/-- 'laws.FnExactCastTypeOf', WHERE WHAT IT READS IS OF BULK AT MOST 1048576: true; the input reads as it did. -/
def fnExactCastTypeOfUptoRow : OpenClaim := { program := "ytblpdpkjgbbhkaa", sum := "4af0d33d1f4d06c47cba16572179b572e2bee94bb8faad423e0fccc1d76fb9ae", func := "loop.example/gradual/laws.FnExactCastTypeOf", spec := "fnExactCastTypeOf", unfollowed := true, recurses := true, loops := true, apart := false, narrowed := true }
def FnExactCastTypeOfUptoSaid : Prop := fnExactCastTypeOfUptoRow.holds Try.pinned (OpenSpec.upto fnExactCastTypeOfSpec)

/-- 'laws.FnCastTypeOf', WHERE WHAT IT READS IS OF BULK AT MOST 1048576: true; the input reads as it did. -/
def fnCastTypeOfUptoRow : OpenClaim := { program := "ytblpdpkjgbbhkaa", sum := "4af0d33d1f4d06c47cba16572179b572e2bee94bb8faad423e0fccc1d76fb9ae", func := "loop.example/gradual/laws.FnCastTypeOf", spec := "fnCastTypeOf", unfollowed := true, recurses := true, apart := false, narrowed := true }
def FnCastTypeOfUptoSaid : Prop := fnCastTypeOfUptoRow.holds Try.pinned (OpenSpec.upto fnCastTypeOfSpec)

end Rows
end Go.Proofs.Ytblpdpkjgbbhkaa
