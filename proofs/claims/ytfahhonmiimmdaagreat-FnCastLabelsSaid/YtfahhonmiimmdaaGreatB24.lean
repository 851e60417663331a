/- The laws' helpers at terms: size, copy, equality. -/
import Derived.Test.YtfahhonmiimmdaaGreatB22
set_option linter.unusedSimpArgs false
set_option linter.unusedVariables false
set_option maxRecDepth 100000
set_option maxHeartbeats 16000000
namespace Go.Proofs.YtfahhonmiimmdaaGreat
open Go.RowKit
theorem Tryz.infoTm:(Tryz.prog.info? 28).map (fun i=>(i.zero,i.size,i.bytes))=some (some (.agg #[.int .i64 0,.string ByteArray.empty,.int .i64 0,.int .i64 0,.slice none 0 0,.int .i64 0,.slice none 0 0,.int .i64 0,.slice none 0 0]),9,128):=by kernel_rfl
def TyIn (B E:Nat)(w:World)(t:Ty)(y:Value):Prop:=∃fp,bT w t y fp∧fp.Nodup∧∀b∈fp,B≤b∧b<E
def gL (B E:Nat)(w:World)(ts:List Tm)(y:Value):Prop:=∃fp,TmsOwn w ts y fp∧fp.Nodup∧∀b∈fp,B≤b∧b<E
theorem bh.in {B:Nat}{w:World}{t:Ty}{y:Value}(h:bh B w t y):TyIn B w.heap.size w t y:=by
 obtain⟨fp,h1,h2,h3⟩:=h;obtain⟨s,rfl,h1⟩:=h1
 exact⟨fp,⟨s,rfl,h1⟩,h2,fun b hb=>⟨h3 b hb,aF.lt _ _ _ h1 b hb⟩⟩
theorem cP.in {B:Nat}{w:World}{ts:List Tm}{y:Value}(h:cP B w ts y):gL B w.heap.size w ts y:=by
 obtain⟨fp,h1,h2,h3⟩:=h
 exact⟨fp,h1,h2,fun b hb=>⟨h3 b hb,aF.lt _ _ _ h1 b hb⟩⟩
theorem TyIn.below {B E:Nat}{w w':World}{t:Ty}{y:Value}(h:TyIn B E w t y)(k:Below w.heap.size w w'):TyIn B E w' t y:=
 let ⟨fp,h1,h2,h3⟩:=h;⟨fp,h1.below k,h2,h3⟩
theorem gL.below {B E:Nat}{w w':World}{t:List Tm}{y:Value}(h:gL B E w t y)(k:Below w.heap.size w w'):gL B E w' t y:=
 let ⟨fp,h1,h2,h3⟩:=h;⟨fp,aF.move _ _ _ (fun b hb=>k.block b (aF.lt _ _ _ h1 b hb)) h1,h2,h3⟩
theorem TyIn.setCell {B E:Nat}{w:World}{t:Ty}{y:Value}(h:TyIn B E w t y){p:Addr}(hp:p.block<B)(v:Value):TyIn B E (w.setCell p v) t y:=by
 obtain⟨fp,⟨s,hs,h1⟩,h2,h3⟩:=h
 exact⟨fp,⟨s,hs,aF.move _ _ _ (fun b hb=>Below.heap_setCell w p v b (by have:=h3 b hb;omega)) h1⟩,h2,h3⟩
theorem gL.setCell {B E:Nat}{w:World}{t:List Tm}{y:Value}(h:gL B E w t y){p:Addr}(hp:p.block<B)(v:Value):gL B E (w.setCell p v) t y:=by
 obtain⟨fp,h1,h2,h3⟩:=h
 exact⟨fp,aF.move _ _ _ (fun b hb=>Below.heap_setCell w p v b (by have:=h3 b hb;omega)) h1,h2,h3⟩
end Go.Proofs.YtfahhonmiimmdaaGreat
