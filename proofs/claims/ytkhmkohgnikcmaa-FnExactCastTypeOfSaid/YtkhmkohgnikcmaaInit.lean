/-
  Closed facts on the program's head, which names all roots of the seat: reckoned word by word.
-/
import Derived.Test.YtkhmkohgnikcmaaRows
import Derived.JoinedOf
import Derived.KernelRfl
namespace Go.Proofs.Ytkhmkohgnikcmaa
set_option maxRecDepth 100000

def initHead : List Char := [Char.ofNat 104, Char.ofNat 97, Char.ofNat 114, Char.ofNat 110, Char.ofNat 101, Char.ofNat 115, Char.ofNat 115]
def initSum : List Char := [Char.ofNat 99, Char.ofNat 57, Char.ofNat 50, Char.ofNat 51, Char.ofNat 100, Char.ofNat 99, Char.ofNat 51, Char.ofNat 98, Char.ofNat 50, Char.ofNat 56, Char.ofNat 51, 
  Char.ofNat 100, Char.ofNat 99, Char.ofNat 56, Char.ofNat 49, Char.ofNat 53, Char.ofNat 53, Char.ofNat 54, Char.ofNat 54, Char.ofNat 50, Char.ofNat 101, Char.ofNat 55, Char.ofNat 52, 
  Char.ofNat 101, Char.ofNat 56, Char.ofNat 48, Char.ofNat 100, Char.ofNat 56, Char.ofNat 102, Char.ofNat 49, Char.ofNat 56, Char.ofNat 57, Char.ofNat 52, Char.ofNat 98, 
  Char.ofNat 99, Char.ofNat 101, Char.ofNat 54, Char.ofNat 52, Char.ofNat 49, Char.ofNat 54, Char.ofNat 57, Char.ofNat 101, Char.ofNat 100, Char.ofNat 99, Char.ofNat 101, 
  Char.ofNat 101, Char.ofNat 49, Char.ofNat 49, Char.ofNat 100, Char.ofNat 51, Char.ofNat 97, Char.ofNat 100, Char.ofNat 48, Char.ofNat 54, Char.ofNat 52, Char.ofNat 101, 
  Char.ofNat 99, Char.ofNat 53, Char.ofNat 52, Char.ofNat 55, Char.ofNat 54, Char.ofNat 97, Char.ofNat 57, Char.ofNat 51]
def initCut : List Char := [Char.ofNat 99, Char.ofNat 117, Char.ofNat 116]
def initRest : List Char := [Char.ofNat 97, Char.ofNat 116, Char.ofNat 32, Char.ofNat 108, Char.ofNat 111, Char.ofNat 111, Char.ofNat 112, Char.ofNat 46, Char.ofNat 101, Char.ofNat 120, Char.ofNat 97, 
  Char.ofNat 109, Char.ofNat 112, Char.ofNat 108, Char.ofNat 101, Char.ofNat 47, Char.ofNat 103, Char.ofNat 114, Char.ofNat 97, Char.ofNat 100, Char.ofNat 117, Char.ofNat 97, 
  Char.ofNat 108, Char.ofNat 47, Char.ofNat 108, Char.ofNat 97, Char.ofNat 119, Char.ofNat 115, Char.ofNat 46, Char.ofNat 70, Char.ofNat 110, Char.ofNat 69, Char.ofNat 120, 
  Char.ofNat 97, Char.ofNat 99, Char.ofNat 116, Char.ofNat 67, Char.ofNat 97, Char.ofNat 115, Char.ofNat 116, Char.ofNat 84, Char.ofNat 121, Char.ofNat 112, Char.ofNat 101, 
  Char.ofNat 79, Char.ofNat 102]
theorem initStr : Try.prog.initOrder = String.ofList [Char.ofNat 104, Char.ofNat 97, Char.ofNat 114, Char.ofNat 110, Char.ofNat 101, Char.ofNat 115, Char.ofNat 115, Char.ofNat 32, Char.ofNat 99, Char.ofNat 57, Char.ofNat 50, 
  Char.ofNat 51, Char.ofNat 100, Char.ofNat 99, Char.ofNat 51, Char.ofNat 98, Char.ofNat 50, Char.ofNat 56, Char.ofNat 51, Char.ofNat 100, Char.ofNat 99, Char.ofNat 56, Char.ofNat 49, 
  Char.ofNat 53, Char.ofNat 53, Char.ofNat 54, Char.ofNat 54, Char.ofNat 50, Char.ofNat 101, Char.ofNat 55, Char.ofNat 52, Char.ofNat 101, Char.ofNat 56, Char.ofNat 48, 
  Char.ofNat 100, Char.ofNat 56, Char.ofNat 102, Char.ofNat 49, Char.ofNat 56, Char.ofNat 57, Char.ofNat 52, Char.ofNat 98, Char.ofNat 99, Char.ofNat 101, Char.ofNat 54, 
  Char.ofNat 52, Char.ofNat 49, Char.ofNat 54, Char.ofNat 57, Char.ofNat 101, Char.ofNat 100, Char.ofNat 99, Char.ofNat 101, Char.ofNat 101, Char.ofNat 49, Char.ofNat 49, 
  Char.ofNat 100, Char.ofNat 51, Char.ofNat 97, Char.ofNat 100, Char.ofNat 48, Char.ofNat 54, Char.ofNat 52, Char.ofNat 101, Char.ofNat 99, Char.ofNat 53, Char.ofNat 52, 
  Char.ofNat 55, Char.ofNat 54, Char.ofNat 97, Char.ofNat 57, Char.ofNat 51, Char.ofNat 32, Char.ofNat 99, Char.ofNat 117, Char.ofNat 116, Char.ofNat 32, Char.ofNat 97, 
  Char.ofNat 116, Char.ofNat 32, Char.ofNat 108, Char.ofNat 111, Char.ofNat 111, Char.ofNat 112, Char.ofNat 46, Char.ofNat 101, Char.ofNat 120, Char.ofNat 97, Char.ofNat 109, 
  Char.ofNat 112, Char.ofNat 108, Char.ofNat 101, Char.ofNat 47, Char.ofNat 103, Char.ofNat 114, Char.ofNat 97, Char.ofNat 100, Char.ofNat 117, Char.ofNat 97, Char.ofNat 108, 
  Char.ofNat 47, Char.ofNat 108, Char.ofNat 97, Char.ofNat 119, Char.ofNat 115, Char.ofNat 46, Char.ofNat 70, Char.ofNat 110, Char.ofNat 69, Char.ofNat 120, Char.ofNat 97, 
  Char.ofNat 99, Char.ofNat 116, Char.ofNat 67, Char.ofNat 97, Char.ofNat 115, Char.ofNat 116, Char.ofNat 84, Char.ofNat 121, Char.ofNat 112, Char.ofNat 101, Char.ofNat 79, 
  Char.ofNat 102] := by kernel_rfl
theorem initList : Try.prog.initOrder.toList = initHead ++ Char.ofNat 32 :: (initSum ++ Char.ofNat 32 :: (initCut ++ Char.ofNat 32 :: initRest)) := by
  rw [initStr, String.toList_ofList]; rfl
theorem wordsSigns_split : ∀ (a r : List Char), (a.all fun c => c != Char.ofNat 32) = true → wordsSigns (a ++ Char.ofNat 32 :: r) = a :: wordsSigns r
  | [], r, _ => rfl
  | c :: a, r, h => by
    simp only [List.all_cons, Bool.and_eq_true, bne_iff_ne, ne_eq] at h
    have ih := wordsSigns_split a r h.2
    simp only [List.cons_append]
    rw [wordsSigns]
    · rw [ih]
    · exact fun e => h.1 e
theorem behind_of (R : List (List Char)) : behindMainWord (initHead :: initSum :: R) = R := by
  show (if ((initHead == "harness".toList || initHead == "ownmain".toList) && isSumSigns initSum) = true then R else initHead :: initSum :: R) = R
  rw [if_pos (by decide +kernel)]
theorem initWords : ∃ R, behindMainWord (wordsSigns Try.prog.initOrder.toList) = initCut :: R := by
  rw [initList, wordsSigns_split initHead _ (by decide +kernel), wordsSigns_split initSum _ (by decide +kernel), wordsSigns_split initCut _ (by decide +kernel), behind_of]
  exact ⟨_, rfl⟩
theorem initStrip : ∀ R, stripLifts liftWords (initCut :: R) = ([], initCut :: R) := fun R => by
  unfold liftWords
  repeat (unfold stripLifts; rw [if_neg (by decide +kernel)])
  unfold stripLifts
  rfl
section
variable {P : Program} {R : List (List Char)} (h : behindMainWord (wordsSigns P.initOrder.toList) = initCut :: R)
include h
theorem headLifts_of : P.headLifts = [] := by
  unfold Program.headLifts
  rw [h, initStrip]
  simp
theorem mayEnter_of (h1 : P.laysLater = false) (h2 : P.bearsReflect = false) (h3 : P.doorFits [] = true) : P.mayEnter = true := by
  unfold Program.mayEnter
  rw [h]
  simp only [initStrip]
  have h4 : (some initCut == some "cut".toList) = true := by decide +kernel
  rw [h1, h2, h3]
  simp only [List.head?_cons, h4]
  simp
theorem liftsFinal_of : P.liftsFinal = false := by
  unfold Program.liftsFinal
  rw [h, headLifts_of h]
  have h4 : (some initCut == some "carried".toList) = false := by decide +kernel
  simp only [List.head?_cons, h4]
  simp
theorem make_of : P.make = some .cut := by
  unfold Program.make
  rw [h]
  have h1 : (initCut == "gc".toList) = false := by decide +kernel
  have h2 : (initCut == "spec".toList) = false := by decide +kernel
  have h3 : (initCut == "cut".toList) = true := by decide +kernel
  simp only [h1, h2, h3]
  simp
end
theorem fact_mayEnter : Try.prog.mayEnter = true := by
  obtain ⟨R, h⟩ := initWords
  exact mayEnter_of h (by kernel_rfl) (by kernel_rfl) (by kernel_rfl)
theorem fact_liftsFinal : Try.prog.liftsFinal = false := by
  obtain ⟨R, h⟩ := initWords
  exact liftsFinal_of h
theorem fact_make : Try.prog.make = some .cut := by
  obtain ⟨R, h⟩ := initWords
  exact make_of h
end Go.Proofs.Ytkhmkohgnikcmaa
