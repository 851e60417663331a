/-
  NARROWER THAN 'FOR EVERY INPUT', by the rows' own cells (each row's printed sentence says how): FnExactCastLabels: loops · FnExactTermSame: loops · FnExactTermValid: loops · FnExactCountNodes: loops · FnExactCastValid: loops · FnExactTermPrecise: loops · FnExactStaticTerm: loops · FnExactTermTypes: loops · FnExactCastTypes: loops · FnExactFreeNames: loops · FnExactEraseTerm: loops · FnExactWithTypes: loops · FnExactBareTerm: loops · FnExactCastTypeOf: loops.
  DERIVED. THE GIVEN ROWS OF THIS SEAT. 14 by the template 'for every input the law returns true; each argument reads behind the call as it read before'; 0 by the template 'total and deterministic' (their statements: YtghgjpcibdfbmaaTotals.lean).
  GIVEN WITH THE SEED: the statements are not yours to turn. If you find one false, say at which input.
  Laid BY PROGRAM, IN A SANDBOX (cutbox-rows.mjs): the forced cells as the released guide's own fill.sh prints them over the translation 0fa5cca8bf32fc36… (all of the seat's roots in one cut). By AI agents, Wed Nov 11 2026. No macro, syntax, notation, axiom, sorry.
-/
import Derived.Test.YtghgjpcibdfbmaaChecked
import GoSem.Claim
import GoSem.ClaimJoined
import GoSem.ClaimMapViews
import Derived.JoinedTies
import Derived.KernelRfl
namespace Go.Proofs.Ytghgjpcibdfbmaa
/- THE CELL 'sum', in the pinned program and in every row, IS THE sha256 OF THE DUMP (.gsa) THAT YtghgjpcibdfbmaaProg.lean LOADS. Nothing in Lean hashes anything: it is a label: what it is worth is what the hold of that sum in a sandbox is worth. -/
noncomputable def Try.pinned : Pinned := { name := "ytghgjpcibdfbmaa", sum := "0fa5cca8bf32fc3632ba381f0affbabf91bcbc28f9faa35d8420373bb253d2f2", checked := Try.checked }
namespace Rows
def none {H : Type} : Left H := { results := [], args := [] }

/-- 'laws.FnExactCastLabels': WHATEVER THE INPUT: true; the input reads as it did. -/
def fnExactCastLabelsSpec : ChangeSpec := { name := "fnExactCastLabels", fn := fun _ => fun
  | [d] => { results := [.lit (.bool true)], args := [d] }
  | _ => none }
def fnExactCastLabelsRow : OpenClaim := { program := "ytghgjpcibdfbmaa", sum := "0fa5cca8bf32fc3632ba381f0affbabf91bcbc28f9faa35d8420373bb253d2f2", func := "loop.example/gradual/laws.FnExactCastLabels", spec := "fnExactCastLabels", unfollowed := true, recurses := true, loops := true, apart := false }
def FnExactCastLabelsSaid : Prop := fnExactCastLabelsRow.holds Try.pinned (OpenSpec.ofChange fnExactCastLabelsSpec)

/-- ITS FALSE NEIGHBOUR: 'it returns false'. Refute it at one input. -/
def fnExactCastLabelsWrong : ChangeSpec := { name := "fnExactCastLabels", fn := fun _ => fun
  | [d] => { results := [.lit (.bool false)], args := [d] }
  | _ => none }
def FnExactCastLabelsWrongFalsely : Prop := fnExactCastLabelsRow.holds Try.pinned (OpenSpec.ofChange fnExactCastLabelsWrong)

/-- 'laws.FnExactTermSame': WHATEVER THE INPUT: true; the input reads as it did. -/
def fnExactTermSameSpec : ChangeSpec := { name := "fnExactTermSame", fn := fun _ => fun
  | [d1, d2] => { results := [.lit (.bool true)], args := [d1, d2] }
  | _ => none }
def fnExactTermSameRow : OpenClaim := { program := "ytghgjpcibdfbmaa", sum := "0fa5cca8bf32fc3632ba381f0affbabf91bcbc28f9faa35d8420373bb253d2f2", func := "loop.example/gradual/laws.FnExactTermSame", spec := "fnExactTermSame", unfollowed := true, recurses := true, loops := true, apart := false }
def FnExactTermSameSaid : Prop := fnExactTermSameRow.holds Try.pinned (OpenSpec.ofChange fnExactTermSameSpec)

/-- ITS FALSE NEIGHBOUR: 'it returns false'. Refute it at one input. -/
def fnExactTermSameWrong : ChangeSpec := { name := "fnExactTermSame", fn := fun _ => fun
  | [d1, d2] => { results := [.lit (.bool false)], args := [d1, d2] }
  | _ => none }
def FnExactTermSameWrongFalsely : Prop := fnExactTermSameRow.holds Try.pinned (OpenSpec.ofChange fnExactTermSameWrong)

/-- 'laws.FnExactTermValid': WHATEVER THE INPUT: true; the input reads as it did. -/
def fnExactTermValidSpec : ChangeSpec := { name := "fnExactTermValid", fn := fun _ => fun
  | [d] => { results := [.lit (.bool true)], args := [d] }
  | _ => none }
def fnExactTermValidRow : OpenClaim := { program := "ytghgjpcibdfbmaa", sum := "0fa5cca8bf32fc3632ba381f0affbabf91bcbc28f9faa35d8420373bb253d2f2", func := "loop.example/gradual/laws.FnExactTermValid", spec := "fnExactTermValid", unfollowed := true, recurses := true, loops := true, apart := false }
def FnExactTermValidSaid : Prop := fnExactTermValidRow.holds Try.pinned (OpenSpec.ofChange fnExactTermValidSpec)

/-- ITS FALSE NEIGHBOUR: 'it returns false'. Refute it at one input. -/
def fnExactTermValidWrong : ChangeSpec := { name := "fnExactTermValid", fn := fun _ => fun
  | [d] => { results := [.lit (.bool false)], args := [d] }
  | _ => none }
def FnExactTermValidWrongFalsely : Prop := fnExactTermValidRow.holds Try.pinned (OpenSpec.ofChange fnExactTermValidWrong)

/-- 'laws.FnExactCountNodes': WHATEVER THE INPUT: true; the input reads as it did. -/
def fnExactCountNodesSpec : ChangeSpec := { name := "fnExactCountNodes", fn := fun _ => fun
  | [d] => { results := [.lit (.bool true)], args := [d] }
  | _ => none }
def fnExactCountNodesRow : OpenClaim := { program := "ytghgjpcibdfbmaa", sum := "0fa5cca8bf32fc3632ba381f0affbabf91bcbc28f9faa35d8420373bb253d2f2", func := "loop.example/gradual/laws.FnExactCountNodes", spec := "fnExactCountNodes", unfollowed := true, recurses := true, loops := true, apart := false }
def FnExactCountNodesSaid : Prop := fnExactCountNodesRow.holds Try.pinned (OpenSpec.ofChange fnExactCountNodesSpec)

/-- ITS FALSE NEIGHBOUR: 'it returns false'. Refute it at one input. -/
def fnExactCountNodesWrong : ChangeSpec := { name := "fnExactCountNodes", fn := fun _ => fun
  | [d] => { results := [.lit (.bool false)], args := [d] }
  | _ => none }
def FnExactCountNodesWrongFalsely : Prop := fnExactCountNodesRow.holds Try.pinned (OpenSpec.ofChange fnExactCountNodesWrong)

/-- 'laws.FnExactCastValid': WHATEVER THE INPUT: true; the input reads as it did. -/
def fnExactCastValidSpec : ChangeSpec := { name := "fnExactCastValid", fn := fun _ => fun
  | [d] => { results := [.lit (.bool true)], args := [d] }
  | _ => none }
def fnExactCastValidRow : OpenClaim := { program := "ytghgjpcibdfbmaa", sum := "0fa5cca8bf32fc3632ba381f0affbabf91bcbc28f9faa35d8420373bb253d2f2", func := "loop.example/gradual/laws.FnExactCastValid", spec := "fnExactCastValid", unfollowed := true, recurses := true, loops := true, apart := false }
def FnExactCastValidSaid : Prop := fnExactCastValidRow.holds Try.pinned (OpenSpec.ofChange fnExactCastValidSpec)

/-- ITS FALSE NEIGHBOUR: 'it returns false'. Refute it at one input. -/
def fnExactCastValidWrong : ChangeSpec := { name := "fnExactCastValid", fn := fun _ => fun
  | [d] => { results := [.lit (.bool false)], args := [d] }
  | _ => none }
def FnExactCastValidWrongFalsely : Prop := fnExactCastValidRow.holds Try.pinned (OpenSpec.ofChange fnExactCastValidWrong)

/-- 'laws.FnExactTermPrecise': WHATEVER THE INPUT: true; the input reads as it did. -/
def fnExactTermPreciseSpec : ChangeSpec := { name := "fnExactTermPrecise", fn := fun _ => fun
  | [d1, d2] => { results := [.lit (.bool true)], args := [d1, d2] }
  | _ => none }
def fnExactTermPreciseRow : OpenClaim := { program := "ytghgjpcibdfbmaa", sum := "0fa5cca8bf32fc3632ba381f0affbabf91bcbc28f9faa35d8420373bb253d2f2", func := "loop.example/gradual/laws.FnExactTermPrecise", spec := "fnExactTermPrecise", unfollowed := true, recurses := true, loops := true, apart := false }
def FnExactTermPreciseSaid : Prop := fnExactTermPreciseRow.holds Try.pinned (OpenSpec.ofChange fnExactTermPreciseSpec)

/-- ITS FALSE NEIGHBOUR: 'it returns false'. Refute it at one input. -/
def fnExactTermPreciseWrong : ChangeSpec := { name := "fnExactTermPrecise", fn := fun _ => fun
  | [d1, d2] => { results := [.lit (.bool false)], args := [d1, d2] }
  | _ => none }
def FnExactTermPreciseWrongFalsely : Prop := fnExactTermPreciseRow.holds Try.pinned (OpenSpec.ofChange fnExactTermPreciseWrong)

/-- 'laws.FnExactStaticTerm': WHATEVER THE INPUT: true; the input reads as it did. -/
def fnExactStaticTermSpec : ChangeSpec := { name := "fnExactStaticTerm", fn := fun _ => fun
  | [d] => { results := [.lit (.bool true)], args := [d] }
  | _ => none }
def fnExactStaticTermRow : OpenClaim := { program := "ytghgjpcibdfbmaa", sum := "0fa5cca8bf32fc3632ba381f0affbabf91bcbc28f9faa35d8420373bb253d2f2", func := "loop.example/gradual/laws.FnExactStaticTerm", spec := "fnExactStaticTerm", unfollowed := true, recurses := true, loops := true, apart := false }
def FnExactStaticTermSaid : Prop := fnExactStaticTermRow.holds Try.pinned (OpenSpec.ofChange fnExactStaticTermSpec)

/-- ITS FALSE NEIGHBOUR: 'it returns false'. Refute it at one input. -/
def fnExactStaticTermWrong : ChangeSpec := { name := "fnExactStaticTerm", fn := fun _ => fun
  | [d] => { results := [.lit (.bool false)], args := [d] }
  | _ => none }
def FnExactStaticTermWrongFalsely : Prop := fnExactStaticTermRow.holds Try.pinned (OpenSpec.ofChange fnExactStaticTermWrong)

/-- 'laws.FnExactTermTypes': WHATEVER THE INPUT: true; the input reads as it did. -/
def fnExactTermTypesSpec : ChangeSpec := { name := "fnExactTermTypes", fn := fun _ => fun
  | [d] => { results := [.lit (.bool true)], args := [d] }
  | _ => none }
def fnExactTermTypesRow : OpenClaim := { program := "ytghgjpcibdfbmaa", sum := "0fa5cca8bf32fc3632ba381f0affbabf91bcbc28f9faa35d8420373bb253d2f2", func := "loop.example/gradual/laws.FnExactTermTypes", spec := "fnExactTermTypes", unfollowed := true, recurses := true, loops := true, apart := false }
def FnExactTermTypesSaid : Prop := fnExactTermTypesRow.holds Try.pinned (OpenSpec.ofChange fnExactTermTypesSpec)

/-- ITS FALSE NEIGHBOUR: 'it returns false'. Refute it at one input. -/
def fnExactTermTypesWrong : ChangeSpec := { name := "fnExactTermTypes", fn := fun _ => fun
  | [d] => { results := [.lit (.bool false)], args := [d] }
  | _ => none }
def FnExactTermTypesWrongFalsely : Prop := fnExactTermTypesRow.holds Try.pinned (OpenSpec.ofChange fnExactTermTypesWrong)

/-- 'laws.FnExactCastTypes': WHATEVER THE INPUT: true; the input reads as it did. -/
def fnExactCastTypesSpec : ChangeSpec := { name := "fnExactCastTypes", fn := fun _ => fun
  | [d1, d2] => { results := [.lit (.bool true)], args := [d1, d2] }
  | _ => none }
def fnExactCastTypesRow : OpenClaim := { program := "ytghgjpcibdfbmaa", sum := "0fa5cca8bf32fc3632ba381f0affbabf91bcbc28f9faa35d8420373bb253d2f2", func := "loop.example/gradual/laws.FnExactCastTypes", spec := "fnExactCastTypes", unfollowed := true, recurses := true, loops := true, apart := false }
def FnExactCastTypesSaid : Prop := fnExactCastTypesRow.holds Try.pinned (OpenSpec.ofChange fnExactCastTypesSpec)

/-- ITS FALSE NEIGHBOUR: 'it returns false'. Refute it at one input. -/
def fnExactCastTypesWrong : ChangeSpec := { name := "fnExactCastTypes", fn := fun _ => fun
  | [d1, d2] => { results := [.lit (.bool false)], args := [d1, d2] }
  | _ => none }
def FnExactCastTypesWrongFalsely : Prop := fnExactCastTypesRow.holds Try.pinned (OpenSpec.ofChange fnExactCastTypesWrong)

/-- 'laws.FnExactFreeNames': WHATEVER THE INPUT: true; the input reads as it did. -/
def fnExactFreeNamesSpec : ChangeSpec := { name := "fnExactFreeNames", fn := fun _ => fun
  | [d] => { results := [.lit (.bool true)], args := [d] }
  | _ => none }
def fnExactFreeNamesRow : OpenClaim := { program := "ytghgjpcibdfbmaa", sum := "0fa5cca8bf32fc3632ba381f0affbabf91bcbc28f9faa35d8420373bb253d2f2", func := "loop.example/gradual/laws.FnExactFreeNames", spec := "fnExactFreeNames", inPlace := ["internal/bytealg.IndexByteString", "internal/bytealg.IndexString"], unfollowed := true, recurses := true, named := ["internal/bytealg.MaxLen"], loops := true, apart := false }
def FnExactFreeNamesSaid : Prop := fnExactFreeNamesRow.holds Try.pinned (OpenSpec.ofChange fnExactFreeNamesSpec)

/-- ITS FALSE NEIGHBOUR: 'it returns false'. Refute it at one input. -/
def fnExactFreeNamesWrong : ChangeSpec := { name := "fnExactFreeNames", fn := fun _ => fun
  | [d] => { results := [.lit (.bool false)], args := [d] }
  | _ => none }
def FnExactFreeNamesWrongFalsely : Prop := fnExactFreeNamesRow.holds Try.pinned (OpenSpec.ofChange fnExactFreeNamesWrong)

/-- 'laws.FnExactEraseTerm': WHATEVER THE INPUT: true; the input reads as it did. -/
def fnExactEraseTermSpec : ChangeSpec := { name := "fnExactEraseTerm", fn := fun _ => fun
  | [d] => { results := [.lit (.bool true)], args := [d] }
  | _ => none }
def fnExactEraseTermRow : OpenClaim := { program := "ytghgjpcibdfbmaa", sum := "0fa5cca8bf32fc3632ba381f0affbabf91bcbc28f9faa35d8420373bb253d2f2", func := "loop.example/gradual/laws.FnExactEraseTerm", spec := "fnExactEraseTerm", unfollowed := true, recurses := true, loops := true, apart := false }
def FnExactEraseTermSaid : Prop := fnExactEraseTermRow.holds Try.pinned (OpenSpec.ofChange fnExactEraseTermSpec)

/-- ITS FALSE NEIGHBOUR: 'it returns false'. Refute it at one input. -/
def fnExactEraseTermWrong : ChangeSpec := { name := "fnExactEraseTerm", fn := fun _ => fun
  | [d] => { results := [.lit (.bool false)], args := [d] }
  | _ => none }
def FnExactEraseTermWrongFalsely : Prop := fnExactEraseTermRow.holds Try.pinned (OpenSpec.ofChange fnExactEraseTermWrong)

/-- 'laws.FnExactWithTypes': WHATEVER THE INPUT: true; the input reads as it did. -/
def fnExactWithTypesSpec : ChangeSpec := { name := "fnExactWithTypes", fn := fun _ => fun
  | [d1, d2] => { results := [.lit (.bool true)], args := [d1, d2] }
  | _ => none }
def fnExactWithTypesRow : OpenClaim := { program := "ytghgjpcibdfbmaa", sum := "0fa5cca8bf32fc3632ba381f0affbabf91bcbc28f9faa35d8420373bb253d2f2", func := "loop.example/gradual/laws.FnExactWithTypes", spec := "fnExactWithTypes", unfollowed := true, recurses := true, loops := true, apart := false }
def FnExactWithTypesSaid : Prop := fnExactWithTypesRow.holds Try.pinned (OpenSpec.ofChange fnExactWithTypesSpec)

/-- ITS FALSE NEIGHBOUR: 'it returns false'. Refute it at one input. -/
def fnExactWithTypesWrong : ChangeSpec := { name := "fnExactWithTypes", fn := fun _ => fun
  | [d1, d2] => { results := [.lit (.bool false)], args := [d1, d2] }
  | _ => none }
def FnExactWithTypesWrongFalsely : Prop := fnExactWithTypesRow.holds Try.pinned (OpenSpec.ofChange fnExactWithTypesWrong)

/-- 'laws.FnExactBareTerm': WHATEVER THE INPUT: true; the input reads as it did. -/
def fnExactBareTermSpec : ChangeSpec := { name := "fnExactBareTerm", fn := fun _ => fun
  | [d] => { results := [.lit (.bool true)], args := [d] }
  | _ => none }
def fnExactBareTermRow : OpenClaim := { program := "ytghgjpcibdfbmaa", sum := "0fa5cca8bf32fc3632ba381f0affbabf91bcbc28f9faa35d8420373bb253d2f2", func := "loop.example/gradual/laws.FnExactBareTerm", spec := "fnExactBareTerm", unfollowed := true, recurses := true, loops := true, apart := false }
def FnExactBareTermSaid : Prop := fnExactBareTermRow.holds Try.pinned (OpenSpec.ofChange fnExactBareTermSpec)

/-- ITS FALSE NEIGHBOUR: 'it returns false'. Refute it at one input. -/
def fnExactBareTermWrong : ChangeSpec := { name := "fnExactBareTerm", fn := fun _ => fun
  | [d] => { results := [.lit (.bool false)], args := [d] }
  | _ => none }
def FnExactBareTermWrongFalsely : Prop := fnExactBareTermRow.holds Try.pinned (OpenSpec.ofChange fnExactBareTermWrong)

/-- 'laws.FnExactCastTypeOf': WHATEVER THE INPUT: true; the input reads as it did. -/
def fnExactCastTypeOfSpec : ChangeSpec := { name := "fnExactCastTypeOf", fn := fun _ => fun
  | [d] => { results := [.lit (.bool true)], args := [d] }
  | _ => none }
def fnExactCastTypeOfRow : OpenClaim := { program := "ytghgjpcibdfbmaa", sum := "0fa5cca8bf32fc3632ba381f0affbabf91bcbc28f9faa35d8420373bb253d2f2", func := "loop.example/gradual/laws.FnExactCastTypeOf", spec := "fnExactCastTypeOf", unfollowed := true, recurses := true, loops := true, apart := false }
def FnExactCastTypeOfSaid : Prop := fnExactCastTypeOfRow.holds Try.pinned (OpenSpec.ofChange fnExactCastTypeOfSpec)

/-- ITS FALSE NEIGHBOUR: 'it returns false'. Refute it at one input. -/
def fnExactCastTypeOfWrong : ChangeSpec := { name := "fnExactCastTypeOf", fn := fun _ => fun
  | [d] => { results := [.lit (.bool false)], args := [d] }
  | _ => none }
def FnExactCastTypeOfWrongFalsely : Prop := fnExactCastTypeOfRow.holds Try.pinned (OpenSpec.ofChange fnExactCastTypeOfWrong)

/- THE SECOND FORM. 'bulk': how many values and letters a reading holds, each counted each time it is reached (what is shared counts as often as it is met; a slice's spare places count too). A statement '..UptoSaid' is the law's where the arguments, and the package variables that the reading takes, are together of bulk at most 1048576: NARROWER than '..Said'. Prove '..Said' where nothing that the law and all that it calls make is longer than what came in: it says more and counts as full. Else prove '..UptoSaid'. A law counts once. -/
mutual
def uptoBulk {H : Type} : DataW H → Nat
  | .lit (.string bytes) => bytes.length + 1
  | .lit _ => 1
  | .nil => 1
  | .ptr d => uptoBulk d + 1
  | .slice elems spare => uptoBulkAll elems + uptoBulkAll spare + 1
  | .agg parts => uptoBulkAll parts + 1
  | .iface _ d => uptoBulk d + 1
  | .map entries => uptoBulkEntries entries + 1
  | .held _ => 1
def uptoBulkAll {H : Type} : List (DataW H) → Nat
  | [] => 0
  | d :: r => uptoBulk d + uptoBulkAll r
def uptoBulkEntries {H : Type} : List (Lit × DataW H) → Nat
  | [] => 0
  | x :: r => uptoBulkEntry x + uptoBulkEntries r
def uptoBulkEntry {H : Type} : Lit × DataW H → Nat
  | (.string bytes, d) => bytes.length + uptoBulk d + 1
  | (_, d) => uptoBulk d + 1
 end
def uptoSmall : (H : Type) → List (DataW H) → Bool := fun _ ds => decide (uptoBulkAll ds ≤ 1048576)
def OpenSpec.upto (s : _root_.Go.ChangeSpec) : _root_.Go.OpenSpec := { _root_.Go.OpenSpec.ofChange s with cond := some uptoSmall }

/-- 'laws.FnExactCastLabels', WHERE WHAT IT READS IS OF BULK AT MOST 1048576: true; the input reads as it did. -/
def fnExactCastLabelsUptoRow : OpenClaim := { program := "ytghgjpcibdfbmaa", sum := "0fa5cca8bf32fc3632ba381f0affbabf91bcbc28f9faa35d8420373bb253d2f2", func := "loop.example/gradual/laws.FnExactCastLabels", spec := "fnExactCastLabels", unfollowed := true, recurses := true, loops := true, apart := false, narrowed := true }
def FnExactCastLabelsUptoSaid : Prop := fnExactCastLabelsUptoRow.holds Try.pinned (OpenSpec.upto fnExactCastLabelsSpec)

/-- 'laws.FnExactTermSame', WHERE WHAT IT READS IS OF BULK AT MOST 1048576: true; the input reads as it did. -/
def fnExactTermSameUptoRow : OpenClaim := { program := "ytghgjpcibdfbmaa", sum := "0fa5cca8bf32fc3632ba381f0affbabf91bcbc28f9faa35d8420373bb253d2f2", func := "loop.example/gradual/laws.FnExactTermSame", spec := "fnExactTermSame", unfollowed := true, recurses := true, loops := true, apart := false, narrowed := true }
def FnExactTermSameUptoSaid : Prop := fnExactTermSameUptoRow.holds Try.pinned (OpenSpec.upto fnExactTermSameSpec)

/-- 'laws.FnExactTermValid', WHERE WHAT IT READS IS OF BULK AT MOST 1048576: true; the input reads as it did. -/
def fnExactTermValidUptoRow : OpenClaim := { program := "ytghgjpcibdfbmaa", sum := "0fa5cca8bf32fc3632ba381f0affbabf91bcbc28f9faa35d8420373bb253d2f2", func := "loop.example/gradual/laws.FnExactTermValid", spec := "fnExactTermValid", unfollowed := true, recurses := true, loops := true, apart := false, narrowed := true }
def FnExactTermValidUptoSaid : Prop := fnExactTermValidUptoRow.holds Try.pinned (OpenSpec.upto fnExactTermValidSpec)

/-- 'laws.FnExactCountNodes', WHERE WHAT IT READS IS OF BULK AT MOST 1048576: true; the input reads as it did. -/
def fnExactCountNodesUptoRow : OpenClaim := { program := "ytghgjpcibdfbmaa", sum := "0fa5cca8bf32fc3632ba381f0affbabf91bcbc28f9faa35d8420373bb253d2f2", func := "loop.example/gradual/laws.FnExactCountNodes", spec := "fnExactCountNodes", unfollowed := true, recurses := true, loops := true, apart := false, narrowed := true }
def FnExactCountNodesUptoSaid : Prop := fnExactCountNodesUptoRow.holds Try.pinned (OpenSpec.upto fnExactCountNodesSpec)

/-- 'laws.FnExactCastValid', WHERE WHAT IT READS IS OF BULK AT MOST 1048576: true; the input reads as it did. -/
def fnExactCastValidUptoRow : OpenClaim := { program := "ytghgjpcibdfbmaa", sum := "0fa5cca8bf32fc3632ba381f0affbabf91bcbc28f9faa35d8420373bb253d2f2", func := "loop.example/gradual/laws.FnExactCastValid", spec := "fnExactCastValid", unfollowed := true, recurses := true, loops := true, apart := false, narrowed := true }
def FnExactCastValidUptoSaid : Prop := fnExactCastValidUptoRow.holds Try.pinned (OpenSpec.upto fnExactCastValidSpec)

/-- 'laws.FnExactTermPrecise', WHERE WHAT IT READS IS OF BULK AT MOST 1048576: true; the input reads as it did. -/
def fnExactTermPreciseUptoRow : OpenClaim := { program := "ytghgjpcibdfbmaa", sum := "0fa5cca8bf32fc3632ba381f0affbabf91bcbc28f9faa35d8420373bb253d2f2", func := "loop.example/gradual/laws.FnExactTermPrecise", spec := "fnExactTermPrecise", unfollowed := true, recurses := true, loops := true, apart := false, narrowed := true }
def FnExactTermPreciseUptoSaid : Prop := fnExactTermPreciseUptoRow.holds Try.pinned (OpenSpec.upto fnExactTermPreciseSpec)

/-- 'laws.FnExactStaticTerm', WHERE WHAT IT READS IS OF BULK AT MOST 1048576: true; the input reads as it did. -/
def fnExactStaticTermUptoRow : OpenClaim := { program := "ytghgjpcibdfbmaa", sum := "0fa5cca8bf32fc3632ba381f0affbabf91bcbc28f9faa35d8420373bb253d2f2", func := "loop.example/gradual/laws.FnExactStaticTerm", spec := "fnExactStaticTerm", unfollowed := true, recurses := true, loops := true, apart := false, narrowed := true }
def FnExactStaticTermUptoSaid : Prop := fnExactStaticTermUptoRow.holds Try.pinned (OpenSpec.upto fnExactStaticTermSpec)

/-- 'laws.FnExactTermTypes', WHERE WHAT IT READS IS OF BULK AT MOST 1048576: true; the input reads as it did. -/
def fnExactTermTypesUptoRow : OpenClaim := { program := "ytghgjpcibdfbmaa", sum := "0fa5cca8bf32fc3632ba381f0affbabf91bcbc28f9faa35d8420373bb253d2f2", func := "loop.example/gradual/laws.FnExactTermTypes", spec := "fnExactTermTypes", unfollowed := true, recurses := true, loops := true, apart := false, narrowed := true }
def FnExactTermTypesUptoSaid : Prop := fnExactTermTypesUptoRow.holds Try.pinned (OpenSpec.upto fnExactTermTypesSpec)

/-- 'laws.FnExactCastTypes', WHERE WHAT IT READS IS OF BULK AT MOST 1048576: true; the input reads as it did. -/
def fnExactCastTypesUptoRow : OpenClaim := { program := "ytghgjpcibdfbmaa", sum := "0fa5cca8bf32fc3632ba381f0affbabf91bcbc28f9faa35d8420373bb253d2f2", func := "loop.example/gradual/laws.FnExactCastTypes", spec := "fnExactCastTypes", unfollowed := true, recurses := true, loops := true, apart := false, narrowed := true }
def FnExactCastTypesUptoSaid : Prop := fnExactCastTypesUptoRow.holds Try.pinned (OpenSpec.upto fnExactCastTypesSpec)

/-- 'laws.FnExactFreeNames', WHERE WHAT IT READS IS OF BULK AT MOST 1048576: true; the input reads as it did. -/
def fnExactFreeNamesUptoRow : OpenClaim := { program := "ytghgjpcibdfbmaa", sum := "0fa5cca8bf32fc3632ba381f0affbabf91bcbc28f9faa35d8420373bb253d2f2", func := "loop.example/gradual/laws.FnExactFreeNames", spec := "fnExactFreeNames", inPlace := ["internal/bytealg.IndexByteString", "internal/bytealg.IndexString"], unfollowed := true, recurses := true, named := ["internal/bytealg.MaxLen"], loops := true, apart := false, narrowed := true }
def FnExactFreeNamesUptoSaid : Prop := fnExactFreeNamesUptoRow.holds Try.pinned (OpenSpec.upto fnExactFreeNamesSpec)

/-- 'laws.FnExactEraseTerm', WHERE WHAT IT READS IS OF BULK AT MOST 1048576: true; the input reads as it did. -/
def fnExactEraseTermUptoRow : OpenClaim := { program := "ytghgjpcibdfbmaa", sum := "0fa5cca8bf32fc3632ba381f0affbabf91bcbc28f9faa35d8420373bb253d2f2", func := "loop.example/gradual/laws.FnExactEraseTerm", spec := "fnExactEraseTerm", unfollowed := true, recurses := true, loops := true, apart := false, narrowed := true }
def FnExactEraseTermUptoSaid : Prop := fnExactEraseTermUptoRow.holds Try.pinned (OpenSpec.upto fnExactEraseTermSpec)

/-- 'laws.FnExactWithTypes', WHERE WHAT IT READS IS OF BULK AT MOST 1048576: true; the input reads as it did. -/
def fnExactWithTypesUptoRow : OpenClaim := { program := "ytghgjpcibdfbmaa", sum := "0fa5cca8bf32fc3632ba381f0affbabf91bcbc28f9faa35d8420373bb253d2f2", func := "loop.example/gradual/laws.FnExactWithTypes", spec := "fnExactWithTypes", unfollowed := true, recurses := true, loops := true, apart := false, narrowed := true }
def FnExactWithTypesUptoSaid : Prop := fnExactWithTypesUptoRow.holds Try.pinned (OpenSpec.upto fnExactWithTypesSpec)

/-- 'laws.FnExactBareTerm', WHERE WHAT IT READS IS OF BULK AT MOST 1048576: true; the input reads as it did. -/
def fnExactBareTermUptoRow : OpenClaim := { program := "ytghgjpcibdfbmaa", sum := "0fa5cca8bf32fc3632ba381f0affbabf91bcbc28f9faa35d8420373bb253d2f2", func := "loop.example/gradual/laws.FnExactBareTerm", spec := "fnExactBareTerm", unfollowed := true, recurses := true, loops := true, apart := false, narrowed := true }
def FnExactBareTermUptoSaid : Prop := fnExactBareTermUptoRow.holds Try.pinned (OpenSpec.upto fnExactBareTermSpec)

/-- 'laws.FnExactCastTypeOf', WHERE WHAT IT READS IS OF BULK AT MOST 1048576: true; the input reads as it did. -/
def fnExactCastTypeOfUptoRow : OpenClaim := { program := "ytghgjpcibdfbmaa", sum := "0fa5cca8bf32fc3632ba381f0affbabf91bcbc28f9faa35d8420373bb253d2f2", func := "loop.example/gradual/laws.FnExactCastTypeOf", spec := "fnExactCastTypeOf", unfollowed := true, recurses := true, loops := true, apart := false, narrowed := true }
def FnExactCastTypeOfUptoSaid : Prop := fnExactCastTypeOfUptoRow.holds Try.pinned (OpenSpec.upto fnExactCastTypeOfSpec)

end Rows
end Go.Proofs.Ytghgjpcibdfbmaa
