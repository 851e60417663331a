/- A term each node of which is changed by a function value. -/
import Derived.Test.YtfahhonmiimmdaaGreatB24
set_option linter.unusedSimpArgs false
set_option linter.unusedVariables false
set_option maxRecDepth 100000
set_option maxHeartbeats 16000000
namespace Go.Proofs.YtfahhonmiimmdaaGreat
open Go.RowKit
theorem aL.tms {B n:Nat}{e:TypeId}{w:World}{v:Value}{ts:List Tm}(h:aL B e 9 w v n (Tm.rows ts)):cP B w ts v:=h.own
theorem ck.of {B:Nat}{w:World}{k u l tk fk:Int}{nm:ByteArray}{ty sr:Ty}{ts:List Tm}{s1 s2 s:Value}{f1 f2 f3:List Nat}(hn:nm.size≤maxLen)(hk1:tk=ty.kind)(hk2:fk=sr.kind)
  (o1:aF w (.sl (Ty.rows ty.kids)) s1 f1) (o2:aF w (.sl (Ty.rows sr.kids)) s2 f2) (o3:aF w (.sl (Tm.rows ts)) s f3) (hd:(f1++(f2++f3)).Nodup) (hx : ∀x∈f1++(f2++f3),B≤x) :
  ck B w (.mk k nm u ty sr l ts) (.agg #[.int .i64 k,.string nm,.int .i64 u,.int .i64 tk,s1,.int .i64 fk,s2,.int .i64 l,s]):=by
 subst hk1 hk2
 exact⟨_,⟨s1,s2,s,f1,f2,f3,rfl,rfl,hn,o1,o2,o3⟩,hd,hx⟩
end Go.Proofs.YtfahhonmiimmdaaGreat
