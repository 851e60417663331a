/- Closed facts on the program's head, which names all roots of the seat: reckoned word by word. -/
import Derived.Test.YtfahhonmiimmdaaGreatRows
import Derived.JoinedOf
import Derived.KernelRfl
set_option maxRecDepth 100000
set_option maxHeartbeats 16000000
namespace Go.Proofs.YtfahhonmiimmdaaGreat
def eq:List Char:= [Char.ofNat 104,Char.ofNat 97,Char.ofNat 114,Char.ofNat 110,Char.ofNat 101,Char.ofNat 115,Char.ofNat 115]
def g9:List Char:= [Char.ofNat 49,Char.ofNat 102,Char.ofNat 50,Char.ofNat 53,Char.ofNat 54,Char.ofNat 55,Char.ofNat 101,Char.ofNat 48,Char.ofNat 54,Char.ofNat 57,Char.ofNat 53,
  Char.ofNat 48,Char.ofNat 99,Char.ofNat 101,Char.ofNat 99,Char.ofNat 97,Char.ofNat 101,Char.ofNat 56,Char.ofNat 49,Char.ofNat 100,Char.ofNat 97,Char.ofNat 55,
  Char.ofNat 52,Char.ofNat 98,Char.ofNat 99,Char.ofNat 97,Char.ofNat 97,Char.ofNat 101,Char.ofNat 99,Char.ofNat 50,Char.ofNat 55,Char.ofNat 48,Char.ofNat 48,Char.ofNat 52,
  Char.ofNat 97,Char.ofNat 49,Char.ofNat 100,Char.ofNat 49,Char.ofNat 49,Char.ofNat 48,Char.ofNat 52,Char.ofNat 54,Char.ofNat 97,Char.ofNat 99,Char.ofNat 57,Char.ofNat 98,
  Char.ofNat 56,Char.ofNat 102,Char.ofNat 52,Char.ofNat 102,Char.ofNat 99,Char.ofNat 50,Char.ofNat 101,Char.ofNat 102,Char.ofNat 49,Char.ofNat 57,Char.ofNat 56,
  Char.ofNat 51,Char.ofNat 48,Char.ofNat 56,Char.ofNat 54,Char.ofNat 101,Char.ofNat 49,Char.ofNat 98]
def cX:List Char:= [Char.ofNat 99,Char.ofNat 117,Char.ofNat 116]
def vn:List Char:= [Char.ofNat 97,Char.ofNat 116,Char.ofNat 32,Char.ofNat 108,Char.ofNat 111,Char.ofNat 111,Char.ofNat 112,Char.ofNat 46,Char.ofNat 101,Char.ofNat 120,Char.ofNat 97,
  Char.ofNat 109,Char.ofNat 112,Char.ofNat 108,Char.ofNat 101,Char.ofNat 47,Char.ofNat 103,Char.ofNat 114,Char.ofNat 97,Char.ofNat 100,Char.ofNat 117,Char.ofNat 97,
  Char.ofNat 108,Char.ofNat 47,Char.ofNat 108,Char.ofNat 97,Char.ofNat 119,Char.ofNat 115,Char.ofNat 46,Char.ofNat 70,Char.ofNat 110,Char.ofNat 67,Char.ofNat 97,
  Char.ofNat 115,Char.ofNat 116,Char.ofNat 76,Char.ofNat 97,Char.ofNat 98,Char.ofNat 101,Char.ofNat 108,Char.ofNat 115,Char.ofNat 32,Char.ofNat 108,Char.ofNat 111,
  Char.ofNat 111,Char.ofNat 112,Char.ofNat 46,Char.ofNat 101,Char.ofNat 120,Char.ofNat 97,Char.ofNat 109,Char.ofNat 112,Char.ofNat 108,Char.ofNat 101,Char.ofNat 47,
  Char.ofNat 103,Char.ofNat 114,Char.ofNat 97,Char.ofNat 100,Char.ofNat 117,Char.ofNat 97,Char.ofNat 108,Char.ofNat 47,Char.ofNat 108,Char.ofNat 97,Char.ofNat 119,
  Char.ofNat 115,Char.ofNat 46,Char.ofNat 70,Char.ofNat 110,Char.ofNat 66,Char.ofNat 97,Char.ofNat 114,Char.ofNat 101,Char.ofNat 84,Char.ofNat 101,Char.ofNat 114,
  Char.ofNat 109]
theorem initStr:Tryz.prog.initOrder=String.ofList [Char.ofNat 104,Char.ofNat 97,Char.ofNat 114,Char.ofNat 110,Char.ofNat 101,Char.ofNat 115,Char.ofNat 115,Char.ofNat 32,Char.ofNat 49,Char.ofNat 102,Char.ofNat 50,
  Char.ofNat 53,Char.ofNat 54,Char.ofNat 55,Char.ofNat 101,Char.ofNat 48,Char.ofNat 54,Char.ofNat 57,Char.ofNat 53,Char.ofNat 48,Char.ofNat 99,Char.ofNat 101,Char.ofNat 99,
  Char.ofNat 97,Char.ofNat 101,Char.ofNat 56,Char.ofNat 49,Char.ofNat 100,Char.ofNat 97,Char.ofNat 55,Char.ofNat 52,Char.ofNat 98,Char.ofNat 99,Char.ofNat 97,Char.ofNat 97,
  Char.ofNat 101,Char.ofNat 99,Char.ofNat 50,Char.ofNat 55,Char.ofNat 48,Char.ofNat 48,Char.ofNat 52,Char.ofNat 97,Char.ofNat 49,Char.ofNat 100,Char.ofNat 49,Char.ofNat 49,
  Char.ofNat 48,Char.ofNat 52,Char.ofNat 54,Char.ofNat 97,Char.ofNat 99,Char.ofNat 57,Char.ofNat 98,Char.ofNat 56,Char.ofNat 102,Char.ofNat 52,Char.ofNat 102,Char.ofNat 99,
  Char.ofNat 50,Char.ofNat 101,Char.ofNat 102,Char.ofNat 49,Char.ofNat 57,Char.ofNat 56,Char.ofNat 51,Char.ofNat 48,Char.ofNat 56,Char.ofNat 54,Char.ofNat 101,
  Char.ofNat 49,Char.ofNat 98,Char.ofNat 32,Char.ofNat 99,Char.ofNat 117,Char.ofNat 116,Char.ofNat 32,Char.ofNat 97,Char.ofNat 116,Char.ofNat 32,Char.ofNat 108,
  Char.ofNat 111,Char.ofNat 111,Char.ofNat 112,Char.ofNat 46,Char.ofNat 101,Char.ofNat 120,Char.ofNat 97,Char.ofNat 109,Char.ofNat 112,Char.ofNat 108,Char.ofNat 101,
  Char.ofNat 47,Char.ofNat 103,Char.ofNat 114,Char.ofNat 97,Char.ofNat 100,Char.ofNat 117,Char.ofNat 97,Char.ofNat 108,Char.ofNat 47,Char.ofNat 108,Char.ofNat 97,
  Char.ofNat 119,Char.ofNat 115,Char.ofNat 46,Char.ofNat 70,Char.ofNat 110,Char.ofNat 67,Char.ofNat 97,Char.ofNat 115,Char.ofNat 116,Char.ofNat 76,Char.ofNat 97,
  Char.ofNat 98,Char.ofNat 101,Char.ofNat 108,Char.ofNat 115,Char.ofNat 32,Char.ofNat 108,Char.ofNat 111,Char.ofNat 111,Char.ofNat 112,Char.ofNat 46,Char.ofNat 101,
  Char.ofNat 120,Char.ofNat 97,Char.ofNat 109,Char.ofNat 112,Char.ofNat 108,Char.ofNat 101,Char.ofNat 47,Char.ofNat 103,Char.ofNat 114,Char.ofNat 97,Char.ofNat 100,
  Char.ofNat 117,Char.ofNat 97,Char.ofNat 108,Char.ofNat 47,Char.ofNat 108,Char.ofNat 97,Char.ofNat 119,Char.ofNat 115,Char.ofNat 46,Char.ofNat 70,Char.ofNat 110,
  Char.ofNat 66,Char.ofNat 97,Char.ofNat 114,Char.ofNat 101,Char.ofNat 84,Char.ofNat 101,Char.ofNat 114,Char.ofNat 109]:=by kernel_rfl
theorem vm:Tryz.prog.initOrder.toList=eq++Char.ofNat 32 :: (g9++Char.ofNat 32 :: (cX++Char.ofNat 32 :: vn)):=by
 rw[initStr,String.toList_ofList];rfl
theorem di : ∀(a r:List Char),(a.all fun c=>c != Char.ofNat 32)=true→wordsSigns (a++Char.ofNat 32 :: r)=a :: wordsSigns r
 | [],r,_=>rfl
 | c :: a,r,h=>by
  simp only[List.all_cons,Bool.and_eq_true,bne_iff_ne,ne_eq] at h;have ih:=di a r h.2;simp only[List.cons_append];rw[wordsSigns]
  ·rw[ih]
  ·exact fun e=>h.1 e
theorem uE (R:List (List Char)):behindMainWord (eq :: g9 :: R)=R:=by
 show(if ((eq == "harness".toList||eq == "ownmain".toList)&&isSumSigns g9)=true then R else eq :: g9 :: R)=R
 rw[if_pos (by decide +kernel)]
theorem iW : ∃R,behindMainWord (wordsSigns Tryz.prog.initOrder.toList)=cX :: R:=by
 rw[vm,di eq _ (by decide +kernel),di g9 _ (by decide +kernel),di cX _ (by decide +kernel),uE]
 exact⟨_,rfl⟩
theorem nX : ∀R,stripLifts liftWords (cX :: R)=([],cX :: R):=fun R=>by
 unfold liftWords
 repeat (unfold stripLifts;rw[if_neg (by decide +kernel)])
 unfold stripLifts
 rfl
section
variable {P:Program} {R:List (List Char)} (h:behindMainWord (wordsSigns P.initOrder.toList)=cX :: R)
include h
theorem oX:P.headLifts = []:=by
 unfold Program.headLifts;rw[h,nX]
 simp
theorem tR (h1:P.laysLater=false)(h2:P.bearsReflect=false)(h3:P.doorFits []=true):P.mayEnter=true:=by
 unfold Program.mayEnter;rw[h];simp only[nX];have h4:(some cX==some "cut".toList)=true:=by decide +kernel
 rw[h1,h2,h3];simp only[List.head?_cons,h4]
 simp
theorem oI:P.liftsFinal=false:=by
 unfold Program.liftsFinal;rw[h,oX h];have h4:(some cX==some "carried".toList)=false:=by decide +kernel
 simp only[List.head?_cons,h4]
 simp
theorem make_of:P.make=some .cut:=by
 unfold Program.make;rw[h];have h1:(cX == "gc".toList)=false:=by decide +kernel
 have h2:(cX == "spec".toList)=false:=by decide +kernel
 have h3:(cX == "cut".toList)=true:=by decide +kernel
 simp only[h1,h2,h3]
 simp
end
theorem oh:Tryz.prog.mayEnter=true:=by
 obtain⟨R,h⟩:=iW
 exact tR h (by kernel_rfl) (by kernel_rfl) (by kernel_rfl)
theorem lp:Tryz.prog.liftsFinal=false:=by
 obtain⟨R,h⟩:=iW
 exact oI h
theorem uG:Tryz.prog.make=some .cut:=by
 obtain⟨R,h⟩:=iW
 exact make_of h
end Go.Proofs.YtfahhonmiimmdaaGreat
