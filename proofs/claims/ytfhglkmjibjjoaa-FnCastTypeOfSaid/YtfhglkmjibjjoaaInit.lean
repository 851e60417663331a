/- Closed facts on the program's head, which names all roots of the seat: reckoned word by word. -/
import Derived.Test.YtfhglkmjibjjoaaRows
import Derived.JoinedOf
import Derived.KernelRfl
set_option maxRecDepth 100000
set_option maxHeartbeats 16000000
namespace Go.Proofs.Ytfhglkmjibjjoaa
def dC:List Char:= [Char.ofNat 104,Char.ofNat 97,Char.ofNat 114,Char.ofNat 110,Char.ofNat 101,Char.ofNat 115,Char.ofNat 115]
def ek:List Char:= [Char.ofNat 97,Char.ofNat 48,Char.ofNat 51,Char.ofNat 52,Char.ofNat 56,Char.ofNat 97,Char.ofNat 52,Char.ofNat 56,Char.ofNat 101,Char.ofNat 54,Char.ofNat 54,Char.ofNat 48,
  Char.ofNat 102,Char.ofNat 97,Char.ofNat 97,Char.ofNat 57,Char.ofNat 56,Char.ofNat 100,Char.ofNat 51,Char.ofNat 56,Char.ofNat 101,Char.ofNat 50,Char.ofNat 97,
  Char.ofNat 54,Char.ofNat 50,Char.ofNat 51,Char.ofNat 50,Char.ofNat 100,Char.ofNat 56,Char.ofNat 53,Char.ofNat 54,Char.ofNat 49,Char.ofNat 51,Char.ofNat 97,Char.ofNat 100,
  Char.ofNat 100,Char.ofNat 51,Char.ofNat 102,Char.ofNat 49,Char.ofNat 48,Char.ofNat 55,Char.ofNat 99,Char.ofNat 99,Char.ofNat 57,Char.ofNat 100,Char.ofNat 100,
  Char.ofNat 98,Char.ofNat 101,Char.ofNat 99,Char.ofNat 52,Char.ofNat 100,Char.ofNat 52,Char.ofNat 52,Char.ofNat 99,Char.ofNat 102,Char.ofNat 53,Char.ofNat 98,
  Char.ofNat 98,Char.ofNat 99,Char.ofNat 97,Char.ofNat 97,Char.ofNat 97,Char.ofNat 98,Char.ofNat 55]
def cV:List Char:= [Char.ofNat 99,Char.ofNat 117,Char.ofNat 116]
def oG:List Char:= [Char.ofNat 97,Char.ofNat 116,Char.ofNat 32,Char.ofNat 108,Char.ofNat 111,Char.ofNat 111,Char.ofNat 112,Char.ofNat 46,Char.ofNat 101,Char.ofNat 120,Char.ofNat 97,
  Char.ofNat 109,Char.ofNat 112,Char.ofNat 108,Char.ofNat 101,Char.ofNat 47,Char.ofNat 103,Char.ofNat 114,Char.ofNat 97,Char.ofNat 100,Char.ofNat 117,Char.ofNat 97,
  Char.ofNat 108,Char.ofNat 47,Char.ofNat 108,Char.ofNat 97,Char.ofNat 119,Char.ofNat 115,Char.ofNat 46,Char.ofNat 70,Char.ofNat 110,Char.ofNat 67,Char.ofNat 97,
  Char.ofNat 115,Char.ofNat 116,Char.ofNat 84,Char.ofNat 121,Char.ofNat 112,Char.ofNat 101,Char.ofNat 79,Char.ofNat 102]
theorem initStr:Try.prog.initOrder=String.ofList [Char.ofNat 104,Char.ofNat 97,Char.ofNat 114,Char.ofNat 110,Char.ofNat 101,Char.ofNat 115,Char.ofNat 115,Char.ofNat 32,Char.ofNat 97,Char.ofNat 48,Char.ofNat 51,
  Char.ofNat 52,Char.ofNat 56,Char.ofNat 97,Char.ofNat 52,Char.ofNat 56,Char.ofNat 101,Char.ofNat 54,Char.ofNat 54,Char.ofNat 48,Char.ofNat 102,Char.ofNat 97,Char.ofNat 97,
  Char.ofNat 57,Char.ofNat 56,Char.ofNat 100,Char.ofNat 51,Char.ofNat 56,Char.ofNat 101,Char.ofNat 50,Char.ofNat 97,Char.ofNat 54,Char.ofNat 50,Char.ofNat 51,Char.ofNat 50,
  Char.ofNat 100,Char.ofNat 56,Char.ofNat 53,Char.ofNat 54,Char.ofNat 49,Char.ofNat 51,Char.ofNat 97,Char.ofNat 100,Char.ofNat 100,Char.ofNat 51,Char.ofNat 102,
  Char.ofNat 49,Char.ofNat 48,Char.ofNat 55,Char.ofNat 99,Char.ofNat 99,Char.ofNat 57,Char.ofNat 100,Char.ofNat 100,Char.ofNat 98,Char.ofNat 101,Char.ofNat 99,
  Char.ofNat 52,Char.ofNat 100,Char.ofNat 52,Char.ofNat 52,Char.ofNat 99,Char.ofNat 102,Char.ofNat 53,Char.ofNat 98,Char.ofNat 98,Char.ofNat 99,Char.ofNat 97,Char.ofNat 97,
  Char.ofNat 97,Char.ofNat 98,Char.ofNat 55,Char.ofNat 32,Char.ofNat 99,Char.ofNat 117,Char.ofNat 116,Char.ofNat 32,Char.ofNat 97,Char.ofNat 116,Char.ofNat 32,
  Char.ofNat 108,Char.ofNat 111,Char.ofNat 111,Char.ofNat 112,Char.ofNat 46,Char.ofNat 101,Char.ofNat 120,Char.ofNat 97,Char.ofNat 109,Char.ofNat 112,Char.ofNat 108,
  Char.ofNat 101,Char.ofNat 47,Char.ofNat 103,Char.ofNat 114,Char.ofNat 97,Char.ofNat 100,Char.ofNat 117,Char.ofNat 97,Char.ofNat 108,Char.ofNat 47,Char.ofNat 108,
  Char.ofNat 97,Char.ofNat 119,Char.ofNat 115,Char.ofNat 46,Char.ofNat 70,Char.ofNat 110,Char.ofNat 67,Char.ofNat 97,Char.ofNat 115,Char.ofNat 116,Char.ofNat 84,
  Char.ofNat 121,Char.ofNat 112,Char.ofNat 101,Char.ofNat 79,Char.ofNat 102]:=by kernel_rfl
theorem oF:Try.prog.initOrder.toList=dC++Char.ofNat 32::(ek++Char.ofNat 32::(cV++Char.ofNat 32::oG)):=by
 rw[initStr,String.toList_ofList];rfl
theorem cZ : ∀(a r:List Char),(a.all fun c=>c != Char.ofNat 32)=true->wordsSigns (a++Char.ofNat 32::r)=a::wordsSigns r
 | [],r,_=>rfl
 | c::a,r,h=>by
  simp only[List.all_cons,Bool.and_eq_true,bne_iff_ne,ne_eq] at h;have ih:=cZ a r h.2;simp only[List.cons_append];rw[wordsSigns]
  ·rw[ih]
  ·exact fun e=>h.1 e
theorem nT (R:List (List Char)):behindMainWord (dC::ek::R)=R:=by
 show(if ((dC == "harness".toList||dC == "ownmain".toList)&&isSumSigns ek)=true then R else dC::ek::R)=R
 rw[if_pos (by decide +kernel)]
theorem g9 : ∃R,behindMainWord (wordsSigns Try.prog.initOrder.toList)=cV::R:=by
 rw[oF,cZ dC _ (by decide +kernel),cZ ek _ (by decide +kernel),cZ cV _ (by decide +kernel),nT]
 exact⟨_,rfl⟩
theorem jZ : ∀R,stripLifts liftWords (cV::R)=([],cV::R):=fun R=>by
 unfold liftWords
 repeat (unfold stripLifts;rw[if_neg (by decide +kernel)])
 unfold stripLifts
 rfl
section
variable {P:Program} {R:List (List Char)} (h:behindMainWord (wordsSigns P.initOrder.toList)=cV::R)
include h
theorem lc:P.headLifts = []:=by
 unfold Program.headLifts;rw[h,jZ]
 simp
theorem nj (h1:P.laysLater=false)(h2:P.bearsReflect=false)(h3:P.doorFits []=true):P.mayEnter=true:=by
 unfold Program.mayEnter;rw[h];simp only[jZ];have h4:(some cV==some "cut".toList)=true:=by decide +kernel
 rw[h1,h2,h3];simp only[List.head?_cons,h4]
 simp
theorem kV:P.liftsFinal=false:=by
 unfold Program.liftsFinal;rw[h,lc h];have h4:(some cV==some "carried".toList)=false:=by decide +kernel
 simp only[List.head?_cons,h4]
 simp
theorem make_of:P.make=some .cut:=by
 unfold Program.make;rw[h];have h1:(cV == "gc".toList)=false:=by decide +kernel
 have h2:(cV == "spec".toList)=false:=by decide +kernel
 have h3:(cV == "cut".toList)=true:=by decide +kernel
 simp only[h1,h2,h3]
 simp
end
theorem ku:Try.prog.mayEnter=true:=by
 obtain⟨R,h⟩:=g9
 exact nj h (by kernel_rfl) (by kernel_rfl) (by kernel_rfl)
theorem iS:Try.prog.liftsFinal=false:=by
 obtain⟨R,h⟩:=g9
 exact kV h
theorem nU:Try.prog.make=some .cut:=by
 obtain⟨R,h⟩:=g9
 exact make_of h
end Go.Proofs.Ytfhglkmjibjjoaa
