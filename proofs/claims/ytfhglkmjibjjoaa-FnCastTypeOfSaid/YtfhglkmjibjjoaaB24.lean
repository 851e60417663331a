/- TermSame of the program and of the reference: equality of trees. And what else its parts name. -/
import Derived.Test.YtfhglkmjibjjoaaB6
import Derived.Test.YtfhglkmjibjjoaaB10
set_option linter.unusedSimpArgs false
set_option linter.unusedVariables false
set_option maxRecDepth 100000
set_option maxHeartbeats 16000000
namespace Go.Proofs.Ytfhglkmjibjjoaa
open Go.RowKit
mutual
def Tm.same:Tm->Tm->Bool
 | .mk k s u t f l ts,.mk k' s' u' t' f' l' us=>k==k'&&s.toList==s'.toList&&u==u'&&t.same t'&&f.same f'&&l==l'&&Tm.sames ts us
def Tm.sames:List Tm->List Tm->Bool
 | [],[]=>true
 | t::ts,u::us=>t.same u&&Tm.sames ts us
 | _,_=>false
end
def tall2 (R:Tm->Tm->Bool):List Tm->List Tm->Bool
 | [],[]=>true
 | t::ts,u::us=>R t u&&tall2 R ts us
 | _,_=>false
theorem Tm.sames_all2 : ∀ts us:List Tm,tall2 Tm.same ts us=Tm.sames ts us
 | [],[]=>by unfold Tm.sames;rfl
 | [],_::_=>by unfold Tm.sames;rfl
 | _::_,[]=>by unfold Tm.sames;rfl
 | t::ts,u::us=>by unfold Tm.sames tall2;rw[Tm.sames_all2 ts us]
mutual
theorem Tm.same_refl : ∀t:Tm,t.same t=true
 | .mk k s u t f l ts=>by unfold Tm.same;rw[Tm.sames_refl ts,t.same_refl,f.same_refl];simp
theorem Tm.sames_refl : ∀ts:List Tm,Tm.sames ts ts=true
 | []=>by unfold Tm.sames;rfl
 | t::ts=>by unfold Tm.sames;rw[Tm.same_refl t,Tm.sames_refl ts];rfl
end
def TyIn (B E:Nat)(w:World)(t:Ty)(y:Value):Prop:=∃fp,cb w t y fp∧fp.Nodup∧∀b∈fp,B<=b∧b<E
def gW (B E:Nat)(w:World)(ts:List Tm)(y:Value):Prop:=∃fp,TmsOwn w ts y fp∧fp.Nodup∧∀b∈fp,B<=b∧b<E
theorem TyIn.below {B E:Nat}{w w':World}{t:Ty}{y:Value}(h:TyIn B E w t y)(k:Below w.heap.size w w'):TyIn B E w' t y:=
 let ⟨fp,h1,h2,h3⟩:=h;⟨fp,h1.below k,h2,h3⟩
theorem gW.below {B E:Nat}{w w':World}{t:List Tm}{y:Value}(h:gW B E w t y)(k:Below w.heap.size w w'):gW B E w' t y:=
 let ⟨fp,h1,h2,h3⟩:=h;⟨fp,aQ.move _ _ _ (fun b hb=>k.block b (aQ.lt _ _ _ h1 b hb)) h1,h2,h3⟩
theorem TyIn.setCell {B E:Nat}{w:World}{t:Ty}{y:Value}(h:TyIn B E w t y){p:Addr}(hp:p.block<B)(v:Value):TyIn B E (w.setCell p v) t y:=by
 obtain⟨fp,⟨s,hs,h1⟩,h2,h3⟩:=h
 exact⟨fp,⟨s,hs,aQ.move _ _ _ (fun b hb=>Below.heap_setCell w p v b (by have:=h3 b hb;omega)) h1⟩,h2,h3⟩
theorem gW.setCell {B E:Nat}{w:World}{t:List Tm}{y:Value}(h:gW B E w t y){p:Addr}(hp:p.block<B)(v:Value):gW B E (w.setCell p v) t y:=by
 obtain⟨fp,h1,h2,h3⟩:=h
 exact⟨fp,aQ.move _ _ _ (fun b hb=>Below.heap_setCell w p v b (by have:=h3 b hb;omega)) h1,h2,h3⟩
end Go.Proofs.Ytfhglkmjibjjoaa
