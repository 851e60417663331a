/- The depth of a type; the listed functions on counts and depths. And what else its parts name. -/
import Derived.Test.YtfahhonmiimmdaaGreatTyOwnT
import Derived.Test.YtfahhonmiimmdaaGreatB2
import Derived.Test.YtfahhonmiimmdaaGreatTyCopyB
set_option linter.unusedSimpArgs false
set_option linter.unusedVariables false
set_option maxRecDepth 100000
set_option maxHeartbeats 16000000
namespace Go.Proofs.YtfahhonmiimmdaaGreat
open Go.RowKit
def Ty.none:Ty:=.mk 0 []
mutual
def Ty.join:Ty→Ty→Ty
 | .mk k ts,.mk l us=>if k=l then .mk k (Ty.joins ts us) else .mk 1 []
def Ty.joins:List Ty→List Ty→List Ty
 | t :: ts,u :: us=>t.join u :: Ty.joins ts us
 | _,_=> []
end
theorem gC {α β γ:Type}(f:α→β→γ) : ∀(xs:List α) (ys:List β) (j:Nat) (h:j<xs.length) (h':j<ys.length),List.zipWith f (xs.take (j+1)) (ys.take (j+1))=List.zipWith f (xs.take j) (ys.take j) ++ [f xs[j] ys[j]]
 | [],_,_,h,_=>by simp at h
 | _ :: _,[],_,_,h=>by simp at h
 | x :: xs,y :: ys,0,_,_=>by simp
 | x :: xs,y :: ys,j+1,h,h'=>by simp only[List.take_succ_cons,List.zipWith_cons_cons,List.cons_append,List.getElem_cons_succ];rw[gC f xs ys j (by simpa using h) (by simpa using h')]
end Go.Proofs.YtfahhonmiimmdaaGreat
