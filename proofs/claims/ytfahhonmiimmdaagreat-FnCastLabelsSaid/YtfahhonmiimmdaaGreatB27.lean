/- The value of a context. And what else its parts name. -/
import Derived.Test.YtfahhonmiimmdaaGreatB23
import Derived.Test.YtfahhonmiimmdaaGreatB26
set_option linter.unusedSimpArgs false
set_option linter.unusedVariables false
set_option maxRecDepth 100000
set_option maxHeartbeats 16000000
namespace Go.Proofs.YtfahhonmiimmdaaGreat
open Go.RowKit
def fl (l:List Bd)(y:Value):Prop:=(l = []∧y = .slice none 0 0)∨(1≤l.length∧∃a m q,y = .slice (some a) m q)
theorem fl.shape {l:List Bd}{y:Value}(h:fl l y) : ∃a n q,y = .slice a n q:=by
 rcases h with ⟨-,rfl⟩ | ⟨-,a,m,q,rfl⟩<;>exact⟨_,_,_,rfl⟩
def Tm.types (t:Tm):List Ty:=if t.valid then t.tys else []
theorem aL.empty {B g:Nat}{e:TypeId}{size:Nat}{w:World}(hB:B≤g)(h:w.heap[g]?=some (.cells #[] e (0,0))):aL B e size w (.slice (some ⟨g,0,none⟩) 0 0) 0 []:=
 ⟨[],[],⟨by simp,.inr ⟨g,0,#[],rfl,hB,h,Nat.le_refl _,by unfold maxLen;omega,by simp,by simp⟩⟩,rfl,⟨rfl,rfl⟩,List.nodup_nil,by simp⟩
theorem ax.old {F:Nat→Prop}{w:World}{t:Tm}{y:Value}(r:ax F w t y):ax (· < w.heap.size) w t y:=r.move (.weaken fun _ _ h=>h)
theorem dN.lt {w:World}{t:Tm}{y:Value}{fp:List Nat}(h:dN w t y fp) : ∀b∈fp,b<w.heap.size:=by
 obtain⟨s1,s2,s,f1,f2,f3,rfl,rfl,hn,h1,h2,h3⟩:=h;intro b hb
 rcases List.mem_append.1 hb with hb | hb
 ·exact aF.lt _ _ _ h1 b hb
 ·rcases List.mem_append.1 hb with hb | hb
  ·exact aF.lt _ _ _ h2 b hb
  ·exact aF.lt _ _ _ h3 b hb
theorem dN.ks {w:World}{t:Tm}{y:Value}{fp:List Nat}(h:dN w t y fp) : ∃k nm u tk ta tn tq fk fa fn fq l c m q,y = .agg #[.int .i64 k,.string nm,.int .i64 u,.int .i64 tk,.slice ta tn tq,.int .i64 fk,.slice fa fn fq,.int .i64 l,.slice c m q]:=h.rep.shape
theorem dN.chg {fp fp':List Nat}{w w':World}{t:Tm}{y:Value}(h:Chg fp w w')(hn : ∀b∈fp',b∉fp)(r:dN w t y fp'):dN w' t y fp':=by
 have hl:=r.lt;obtain⟨s1,s2,s,f1,f2,f3,rfl,rfl,hm,h1,h2,h3⟩:=r
 exact⟨s1,s2,s,f1,f2,f3,rfl,rfl,hm,aF.move _ _ _ (fun b hb=>h.block b (aF.lt _ _ _ h1 b hb) (hn b (by simp[hb]))) h1,aF.move _ _ _ (fun b hb=>h.block b (aF.lt _ _ _ h2 b hb) (hn b (by simp[hb]))) h2,aF.move _ _ _ (fun b hb=>h.block b (aF.lt _ _ _ h3 b hb) (hn b (by simp[hb]))) h3⟩
theorem cp.lt {w:World}{ts:List Ty}{y:Value}{fp:List Nat}(h:cp w ts y fp) : ∀b∈fp,b<w.heap.size:=aF.lt _ _ _ h
theorem cp.ks {w:World}{ts:List Ty}{y:Value}{fp:List Nat}(h:cp w ts y fp) : ∃a n q,y = .slice a n q:=by
 unfold cp aF at h;obtain⟨a,q,rfl,_⟩:=h
 exact⟨a,_,q,rfl⟩
theorem cp.below {w w':World}{ts:List Ty}{y:Value}{fp:List Nat}(h:cp w ts y fp)(k:Below w.heap.size w w'):cp w' ts y fp:=aF.move _ _ _ (fun b hb=>k.block b (aF.lt _ _ _ h b hb)) h
theorem cp.rep {w:World}{ts:List Ty}{y:Value}{fp:List Nat}(h:cp w ts y fp):aA (· ∈ fp) w ts y:=aF.rep _ _ _ (fun _ hb=>hb) h
theorem cp.chg {fp fp':List Nat}{w w':World}{ts:List Ty}{y:Value}(h:Chg fp w w')(hn : ∀b∈fp',b∉fp)(r:cp w ts y fp'):cp w' ts y fp':=aF.move _ _ _ (fun b hb=>h.block b (aF.lt _ _ _ r b hb) (hn b hb)) r
end Go.Proofs.YtfahhonmiimmdaaGreat
