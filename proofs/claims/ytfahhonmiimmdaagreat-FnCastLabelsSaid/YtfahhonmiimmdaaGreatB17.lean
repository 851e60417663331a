/- spec.l3More: a context with another binding. -/
import Derived.Test.YtfahhonmiimmdaaGreatB48
set_option linter.unusedSimpArgs false
set_option linter.unusedVariables false
set_option maxRecDepth 100000
set_option maxHeartbeats 16000000
namespace Go.Proofs.YtfahhonmiimmdaaGreat
open Go.RowKit
def oM0:Oper:=⟨some 7,.buildSlice 96 0 #[],96,"l3_typing.go:66",#[],none⟩
def oM1:Oper:=⟨some 8,.move (.tmp 0),96,"l3_typing.go:66",#[],none⟩
def oM2:Oper:=⟨some 9,.call {callee:=.builtin .append,args:=#[.tmp 7,.tmp 8],argTypes:=#[96,96]},96,"l3_typing.go:66",#[⟨0,.data⟩,⟨1,.data⟩],none⟩
def oM3:Oper:=⟨some 10,.move (.tmp 1),9,"l3_typing.go:66",#[],none⟩
def oM4:Oper:=⟨some 11,.load 25 (.tmp 5),25,"l3_typing.go:66",#[],none⟩
def oM5:Oper:=⟨some 12,.build 99 #[(0,.tmp 10),(1,.tmp 11)],99,"l3_typing.go:66",#[⟨3,.data⟩,⟨4,.data⟩],none⟩
def oM6:Oper:=⟨some 13,.buildSlice 96 1 #[(0,.tmp 12)],96,"l3_typing.go:66",#[⟨5,.data⟩],none⟩
def oM7:Oper:=⟨some 14,.call {callee:=.builtin .append,args:=#[.tmp 9,.tmp 13],argTypes:=#[96,96]},96,"l3_typing.go:66",#[⟨2,.data⟩,⟨6,.data⟩,⟨2,.chain⟩],none⟩
def oM8:Oper:=⟨some 6,.assign (.tmp 14),96,"l3_typing.go:66",#[⟨7,.data⟩,⟨7,.chain⟩,⟨0,.phase⟩,⟨1,.phase⟩,⟨2,.phase⟩,⟨3,.phase⟩,⟨4,.phase⟩,⟨5,.phase⟩,⟨6,.phase⟩,⟨7,.phase⟩],none⟩
def RetC (l:List Bd)(w:World)(e:Ending)(w':World):Prop:=∃(a:Addr) (m q:Nat),e = .returned (.slice (some a) m q)∧aE (fun _=>True) w' l (.slice (some a) m q)∧Below w.heap.size w w'
theorem dO {F:Nat→Prop}{w:World}{nm:ByteArray}{ty:Ty}{k:Int}{a:Option Addr}{n q:Nat}(hn:nm.size≤maxLen)(h:ao F w ty (.agg #[.int .i64 k,.slice a n q])):aW F w [⟨nm,ty⟩] [.string nm,.int .i64 k,.slice a n q]:=⟨k,_,[],rfl,hn,h,rfl⟩
theorem BdM.below {B:Nat}{w w':World}{v:Value}{bs:List Bd}(h:BdM B w v bs)(k:Below w.heap.size w w'):BdM B w' v bs:=by
 obtain⟨xs,h1,h2⟩:=h
 exact⟨xs,aP h1 k,h2.move (.below k) _ _⟩
theorem eg {P:Program}{w:World}{ops:Array Oper}{o:Oper}{a:Act}{K:Act→World→Prop}{Q:Exit→Act→World→Prop}{E:Prop}(u:Unit)(hgd:o.guard=none)(s x:Operand)(t:TypeId)
  (ho:o.op = .call {callee:=.builtin .append,args:=#[s,x],argTypes:=#[t,t]}) (base:Nat) (e:TypeId) (i:TypeInfo) (size:Nat) (ht:P.underlying t=some (.slice e)) (hi:P.info? e=some i)
  (v:Value) (n:Nat) (xs:List Value) (hs:a.eval s=v) (hown:w.ownsRow base e size v n xs) (hx:a.eval x = .slice none 0 0) (h:K (a.put o.dst v) w):if Region.wanted o (yielded ops a.tmps)=true then Oper.wp P o a w K Q else E:=by
 have hw:Region.wanted o (yielded ops a.tmps)=true:=by simp[Region.wanted,hgd]
 rw[if_pos hw];have hrun:=run_append_owned_none (P:=P) (w:=w) base t o.type e i size ht hi v n xs hown;unfold Oper.wp
 simp[execOp,ho,resolve,invoke,builtin,hs,hx,hrun,Result.andThen]
 exact h
end Go.Proofs.YtfahhonmiimmdaaGreat
