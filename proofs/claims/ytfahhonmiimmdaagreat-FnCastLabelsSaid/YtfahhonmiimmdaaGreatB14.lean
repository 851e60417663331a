/- spec.l4Exact: the type of a node of a term with casts by its operands' types. -/
import Derived.Test.YtfahhonmiimmdaaGreatB12
set_option linter.unusedSimpArgs false
set_option linter.unusedVariables false
set_option maxRecDepth 100000
set_option maxHeartbeats 16000000
namespace Go.Proofs.YtfahhonmiimmdaaGreat
open Go.RowKit
theorem aA.three {F:Nat→Prop}{w:World}{t u s:Ty}{y:Value}(h:aA F w [t,u,s] y) :
  ∃b off cap k1 c1 m1 q1 k2 c2 m2 q2 k3 c3 m3 q3,y = .slice (some ⟨b,off,none⟩) 3 cap∧b<w.heap.size ∧
   w.cell? ⟨b,off,none⟩=some (.int .i64 k1)∧w.cell? ⟨b,off+1,none⟩=some (.slice c1 m1 q1)∧w.cell? ⟨b,off+2,none⟩=some (.int .i64 k2)∧w.cell? ⟨b,off+3,none⟩=some (.slice c2 m2 q2)∧w.cell? ⟨b,off+4,none⟩=some (.int .i64 k3)∧w.cell? ⟨b,off+5,none⟩=some (.slice c3 m3 q3) ∧
   ao F w t (.agg #[.int .i64 k1,.slice c1 m1 q1])∧ao F w u (.agg #[.int .i64 k2,.slice c2 m2 q2])∧ao F w s (.agg #[.int .i64 k3,.slice c3 m3 q3]):=by
 obtain⟨a,cap,rfl,h2,h3,hg⟩:=h.open;obtain⟨b,off,k1,c1,m1,q1,rfl,e0,e1,ht⟩:=hg 0 (by simp);obtain⟨b',off',k2,c2,m2,q2,he,e2,e3,ht2⟩:=hg 1 (by simp);simp only[Option.some.injEq,Addr.mk.injEq,and_true] at he;obtain⟨rfl,rfl⟩:=he;obtain⟨b',off',k3,c3,m3,q3,he,e4,e5,ht3⟩:=hg 2 (by simp);simp only[Option.some.injEq,Addr.mk.injEq,and_true] at he;obtain⟨rfl,rfl⟩:=he
 exact⟨b,off,cap,k1,c1,m1,q1,k2,c2,m2,q2,k3,c3,m3,q3,rfl,World.block_lt_of_cell? _ _ e0,by simpa using e0,by simpa using e1,by simpa using e2,by simpa using e3,by simpa using e4,by simpa using e5,ht,ht2,ht3⟩
theorem ao.pairK {F:Nat→Prop}{w:World}{k k1:Int}{t u:Ty}{a:Option Addr}{n q:Nat}(h:ao F w (.mk k [t,u]) (.agg #[.int .i64 k1,.slice a n q])):k1=k∧aA F w [t,u] (.slice a n q):=by
 obtain⟨s,he,hs⟩:=h;simp only[Value.agg.injEq,Array.mk.injEq,List.cons.injEq,Value.int.injEq,true_and,and_true] at he;obtain⟨rfl,rfl⟩:=he
 exact⟨rfl,hs⟩
end Go.Proofs.YtfahhonmiimmdaaGreat
