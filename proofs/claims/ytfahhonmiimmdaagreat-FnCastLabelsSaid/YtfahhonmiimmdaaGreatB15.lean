/- spec.l4Exact: the type of a node of a term with casts by its operands' types. And what else its parts name. -/
import Derived.Test.YtfahhonmiimmdaaGreatB14
set_option linter.unusedSimpArgs false
set_option linter.unusedVariables false
set_option maxRecDepth 100000
set_option maxHeartbeats 16000000
namespace Go.Proofs.YtfahhonmiimmdaaGreat
open Go.RowKit
theorem ao.kindE {F:Nat→Prop}{w:World}{t:Ty}{k:Int}{s:Value}(h:ao F w t (.agg #[.int .i64 k,s])):k=t.kind:=by
 obtain⟨s',he,-⟩:=h;simp only[Value.agg.injEq,Array.mk.injEq,List.cons.injEq,Value.int.injEq,true_and] at he
 exact he.1
end Go.Proofs.YtfahhonmiimmdaaGreat
