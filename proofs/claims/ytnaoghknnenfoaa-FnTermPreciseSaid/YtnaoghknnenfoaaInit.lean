/-
  Closed facts on the program's head, which names all roots of the seat: reckoned word by word.
-/
import Derived.Test.YtnaoghknnenfoaaRows
import Derived.JoinedOf
import Derived.KernelRfl
set_option maxRecDepth 100000
namespace Go.Proofs.Ytnaoghknnenfoaa
def dc:List Char:= [Char.ofNat 104,Char.ofNat 97,Char.ofNat 114,Char.ofNat 110,Char.ofNat 101,Char.ofNat 115,Char.ofNat 115]
def dI:List Char:= [Char.ofNat 99,Char.ofNat 55,Char.ofNat 49,Char.ofNat 56,Char.ofNat 98,Char.ofNat 51,Char.ofNat 54,Char.ofNat 54,Char.ofNat 48,Char.ofNat 56,Char.ofNat 48,Char.ofNat 54,
  Char.ofNat 56,Char.ofNat 50,Char.ofNat 49,Char.ofNat 101,Char.ofNat 50,Char.ofNat 51,Char.ofNat 49,Char.ofNat 48,Char.ofNat 53,Char.ofNat 50,Char.ofNat 57,Char.ofNat 55,
  Char.ofNat 100,Char.ofNat 54,Char.ofNat 50,Char.ofNat 98,Char.ofNat 53,Char.ofNat 102,Char.ofNat 49,Char.ofNat 97,Char.ofNat 53,Char.ofNat 54,Char.ofNat 50,Char.ofNat 99,
  Char.ofNat 97,Char.ofNat 56,Char.ofNat 48,Char.ofNat 57,Char.ofNat 100,Char.ofNat 100,Char.ofNat 97,Char.ofNat 97,Char.ofNat 98,Char.ofNat 52,Char.ofNat 53,Char.ofNat 48,
  Char.ofNat 54,Char.ofNat 54,Char.ofNat 102,Char.ofNat 52,Char.ofNat 51,Char.ofNat 99,Char.ofNat 48,Char.ofNat 101,Char.ofNat 57,Char.ofNat 50,Char.ofNat 48,Char.ofNat 97,
  Char.ofNat 49,Char.ofNat 102,Char.ofNat 53,Char.ofNat 57]
def cy:List Char:= [Char.ofNat 99,Char.ofNat 117,Char.ofNat 116]
def pV:List Char:= [Char.ofNat 97,Char.ofNat 116,Char.ofNat 32,Char.ofNat 108,Char.ofNat 111,Char.ofNat 111,Char.ofNat 112,Char.ofNat 46,Char.ofNat 101,Char.ofNat 120,Char.ofNat 97,
  Char.ofNat 109,Char.ofNat 112,Char.ofNat 108,Char.ofNat 101,Char.ofNat 47,Char.ofNat 103,Char.ofNat 114,Char.ofNat 97,Char.ofNat 100,Char.ofNat 117,Char.ofNat 97,
  Char.ofNat 108,Char.ofNat 47,Char.ofNat 108,Char.ofNat 97,Char.ofNat 119,Char.ofNat 115,Char.ofNat 46,Char.ofNat 70,Char.ofNat 110,Char.ofNat 84,Char.ofNat 101,
  Char.ofNat 114,Char.ofNat 109,Char.ofNat 80,Char.ofNat 114,Char.ofNat 101,Char.ofNat 99,Char.ofNat 105,Char.ofNat 115,Char.ofNat 101]
theorem initStr:Try.prog.initOrder=String.ofList [Char.ofNat 104,Char.ofNat 97,Char.ofNat 114,Char.ofNat 110,Char.ofNat 101,Char.ofNat 115,Char.ofNat 115,Char.ofNat 32,Char.ofNat 99,Char.ofNat 55,Char.ofNat 49,
  Char.ofNat 56,Char.ofNat 98,Char.ofNat 51,Char.ofNat 54,Char.ofNat 54,Char.ofNat 48,Char.ofNat 56,Char.ofNat 48,Char.ofNat 54,Char.ofNat 56,Char.ofNat 50,Char.ofNat 49,
  Char.ofNat 101,Char.ofNat 50,Char.ofNat 51,Char.ofNat 49,Char.ofNat 48,Char.ofNat 53,Char.ofNat 50,Char.ofNat 57,Char.ofNat 55,Char.ofNat 100,Char.ofNat 54,Char.ofNat 50,
  Char.ofNat 98,Char.ofNat 53,Char.ofNat 102,Char.ofNat 49,Char.ofNat 97,Char.ofNat 53,Char.ofNat 54,Char.ofNat 50,Char.ofNat 99,Char.ofNat 97,Char.ofNat 56,Char.ofNat 48,
  Char.ofNat 57,Char.ofNat 100,Char.ofNat 100,Char.ofNat 97,Char.ofNat 97,Char.ofNat 98,Char.ofNat 52,Char.ofNat 53,Char.ofNat 48,Char.ofNat 54,Char.ofNat 54,
  Char.ofNat 102,Char.ofNat 52,Char.ofNat 51,Char.ofNat 99,Char.ofNat 48,Char.ofNat 101,Char.ofNat 57,Char.ofNat 50,Char.ofNat 48,Char.ofNat 97,Char.ofNat 49,
  Char.ofNat 102,Char.ofNat 53,Char.ofNat 57,Char.ofNat 32,Char.ofNat 99,Char.ofNat 117,Char.ofNat 116,Char.ofNat 32,Char.ofNat 97,Char.ofNat 116,Char.ofNat 32,
  Char.ofNat 108,Char.ofNat 111,Char.ofNat 111,Char.ofNat 112,Char.ofNat 46,Char.ofNat 101,Char.ofNat 120,Char.ofNat 97,Char.ofNat 109,Char.ofNat 112,Char.ofNat 108,
  Char.ofNat 101,Char.ofNat 47,Char.ofNat 103,Char.ofNat 114,Char.ofNat 97,Char.ofNat 100,Char.ofNat 117,Char.ofNat 97,Char.ofNat 108,Char.ofNat 47,Char.ofNat 108,
  Char.ofNat 97,Char.ofNat 119,Char.ofNat 115,Char.ofNat 46,Char.ofNat 70,Char.ofNat 110,Char.ofNat 84,Char.ofNat 101,Char.ofNat 114,Char.ofNat 109,Char.ofNat 80,
  Char.ofNat 114,Char.ofNat 101,Char.ofNat 99,Char.ofNat 105,Char.ofNat 115,Char.ofNat 101]:=by kernel_rfl
theorem pY:Try.prog.initOrder.toList=dc++Char.ofNat 32 :: (dI++Char.ofNat 32 :: (cy++Char.ofNat 32 :: pV)):=by
 rw [initStr,String.toList_ofList];rfl
theorem cD : ∀(a r:List Char),(a.all fun c=>c != Char.ofNat 32)=true→wordsSigns (a++Char.ofNat 32 :: r)=a :: wordsSigns r
 | [],r,_=>rfl
 | c :: a,r,h=>by
  simp only [List.all_cons,Bool.and_eq_true,bne_iff_ne,ne_eq] at h
  have ih:=cD a r h.2
  simp only [List.cons_append]
  rw [wordsSigns]
  ·rw [ih]
  ·exact fun e=>h.1 e
theorem pv (R:List (List Char)):behindMainWord (dc :: dI :: R)=R:=by
 show(if ((dc == "harness".toList||dc == "ownmain".toList)&&isSumSigns dI)=true then R else dc :: dI :: R)=R
 rw [if_pos (by decide +kernel)]
theorem ge : ∃R,behindMainWord (wordsSigns Try.prog.initOrder.toList)=cy :: R:=by
 rw [pY,cD dc _ (by decide +kernel),cD dI _ (by decide +kernel),cD cy _ (by decide +kernel),pv]
 exact⟨_,rfl⟩
theorem ky : ∀R,stripLifts liftWords (cy :: R)=([],cy :: R):=fun R=>by
 unfold liftWords
 repeat (unfold stripLifts;rw [if_neg (by decide +kernel)])
 unfold stripLifts
 rfl
section
variable {P:Program} {R:List (List Char)} (h:behindMainWord (wordsSigns P.initOrder.toList)=cy :: R)
include h
theorem ln:P.headLifts = []:=by
 unfold Program.headLifts
 rw [h,ky]
 simp
theorem oK (h1:P.laysLater=false)(h2:P.bearsReflect=false)(h3:P.doorFits []=true):P.mayEnter=true:=by
 unfold Program.mayEnter
 rw [h]
 simp only [ky]
 have h4:(some cy==some "cut".toList)=true:=by decide +kernel
 rw [h1,h2,h3]
 simp only [List.head?_cons,h4]
 simp
theorem kY:P.liftsFinal=false:=by
 unfold Program.liftsFinal
 rw [h,ln h]
 have h4:(some cy==some "carried".toList)=false:=by decide +kernel
 simp only [List.head?_cons,h4]
 simp
theorem make_of:P.make=some .cut:=by
 unfold Program.make
 rw [h]
 have h1:(cy == "gc".toList)=false:=by decide +kernel
 have h2:(cy == "spec".toList)=false:=by decide +kernel
 have h3:(cy == "cut".toList)=true:=by decide +kernel
 simp only [h1,h2,h3]
 simp
end
theorem l7:Try.prog.mayEnter=true:=by
 obtain⟨R,h⟩:=ge
 exact oK h (by kernel_rfl) (by kernel_rfl) (by kernel_rfl)
theorem iv:Try.prog.liftsFinal=false:=by
 obtain⟨R,h⟩:=ge
 exact kY h
theorem pA:Try.prog.make=some .cut:=by
 obtain⟨R,h⟩:=ge
 exact make_of h
end Go.Proofs.Ytnaoghknnenfoaa
