/-
  The checks of a node of a term, joined; shapes and sizes of terms.
  Free names: plain facts.
  Free names by the reference.
  A block of cells as one fact.
  Drawn terms: what is laid together.
  Bindings: a name and a type.
  The value of a context.
  A drawn region walked by hand: the moves in short words; a world behind an alloc, behind the stores into a block, as a letter.
  Matching of the program and of the reference.
  The text of a type, and its reading: plain Lean on lists of bytes.
  The text of a type, by the program and by the reference.
  Readings of types that are built in place.
-/
import Derived.Test.YtnaoghknnenfoaaTmNodeS
import Derived.Test.YtnaoghknnenfoaaB4
import Derived.Test.YtnaoghknnenfoaaB2
import Derived.Test.YtnaoghknnenfoaaB3
import Derived.Test.YtnaoghknnenfoaaB1
import Derived.IntWalk
import Derived.Laws.Strings
import Derived.BigQuiet
import Derived.Deep.QuietTactic
import Derived.Test.YtnaoghknnenfoaaTmDr
import Derived.Test.YtnaoghknnenfoaaTyValid
import Derived.Deep.RegionHeld3
import Derived.Test.YtnaoghknnenfoaaB6
import Derived.Test.YtnaoghknnenfoaaB0
set_option linter.unusedSimpArgs false
set_option linter.unusedVariables false
set_option maxRecDepth 100000
namespace Go.Proofs.Ytnaoghknnenfoaa
open Go.RowKit
mutual
def Tm.shape:Tm→Int→Int→Bool
 | .mk k s u t f l ts,nt,d=>decide (1≤d) && !(k==nt)&&((aJ k==(ts.length:Int))&&(Tm.mk k s u t f l ts).ownB)&&Tm.shapes ts nt (d-1)
def Tm.shapes:List Tm→Int→Int→Bool
 | [],_,_=>true
 | t :: ts,nt,d=>t.shape nt d&&Tm.shapes ts nt d
end
mutual
def Tm.size:Tm→Int
 | .mk _ _ _ _ _ _ ts=>1+Tm.sizes ts
def Tm.sizes:List Tm→Int
 | []=>0
 | t :: ts=>t.size+Tm.sizes ts
end
def Tm.valid (t:Tm):Bool:=t.shape 14 12&&decide (t.size≤30)
theorem Tm.shapes_drop (ts:List Tm)(nt d:Int)(k:Nat)(h:k<ts.length):Tm.shapes (ts.drop k) nt d=(ts[k].shape nt d&&Tm.shapes (ts.drop (k+1)) nt d):=by
 rw [List.drop_eq_getElem_cons h]
 conv=>lhs;unfold Tm.shapes
theorem Tm.shape_parts {k u l:Int}{s:ByteArray}{t f:Ty}{ts:List Tm}{nt d:Int}(h:(Tm.mk k s u t f l ts).shape nt d=true):1≤d∧¬k=nt∧aJ k=(ts.length:Int)∧(Tm.mk k s u t f l ts).ownB=true∧Tm.shapes ts nt (d-1)=true:=by
 unfold Tm.shape at h
 simp only [Bool.and_eq_true,decide_eq_true_eq,Bool.not_eq_true',beq_eq_false_iff_ne,beq_iff_eq] at h
 exact⟨h.1.1.1,h.1.1.2,h.1.2.1,h.1.2.2,h.2⟩
theorem Tm.shapes_mem {nt d:Int} : ∀ {ts:List Tm} {t:Tm},Tm.shapes ts nt d=true→t∈ts→t.shape nt d=true
 | u :: ts,t,h,ht=>by
  unfold Tm.shapes at h
  simp only [Bool.and_eq_true] at h
  rcases List.mem_cons.1 ht with rfl | ht
  ·exact h.1
  ·exact Tm.shapes_mem h.2 ht
theorem pe (k:Int):aJ k≤3:=by unfold aJ;(repeat' split)<;>omega
mutual
theorem Tm.size_pos : ∀t:Tm,1≤t.size
 | .mk _ _ _ _ _ _ ts=>by unfold Tm.size;have:=Tm.sizes_pos ts;omega
theorem Tm.sizes_pos : ∀ts:List Tm,0≤Tm.sizes ts
 | []=>by unfold Tm.sizes;omega
 | t :: ts=>by unfold Tm.sizes;have:=Tm.size_pos t;have:=Tm.sizes_pos ts;omega
end
mutual
theorem Tm.size_shape : ∀(t:Tm) (nt:Int) (n:Nat),t.shape nt n=true→2*t.size+1≤3 ^ n
 | .mk k s u t f l ts,nt,n,h=>by
  obtain⟨h1,-,h3,-,h5⟩:=Tm.shape_parts h
  obtain⟨m,rfl⟩ : ∃m,n=m+1:=⟨n-1,by omega⟩
  rw [show((m+1:Nat):Int)-1=(m:Int) from by omega] at h5
  have h6:=Tm.sizes_shape ts nt m h5
  have h7:=pe k
  have h8:(1:Int)≤3 ^ m:=by exact_mod_cast Nat.one_le_pow _ _ (by omega)
  unfold Tm.size
  have h9:(3:Int) ^ (m+1)=3*3 ^ m:=by rw [Int.pow_succ];omega
  rw [h3] at h7
  have h10:(ts.length:Int)*3 ^ m≤3*3 ^ m:=Int.mul_le_mul_of_nonneg_right h7 (by omega)
  have h11:ts.length=0∨1≤ts.length:=by omega
  rcases h11 with h11 | h11
  ·have:ts = []:=List.eq_nil_of_length_eq_zero h11
   subst this
   simp only [Tm.sizes] at *
   omega
  ·have h12:ts.length=1∨ts.length=2∨ts.length=3:=by omega
   rcases h12 with h12 | h12 | h12
   ·rw [show(ts.length:Int)=1 from by omega] at h6;omega
   ·rw [show(ts.length:Int)=2 from by omega] at h6;omega
   ·rw [show(ts.length:Int)=3 from by omega] at h6;omega
theorem Tm.sizes_shape : ∀(ts:List Tm) (nt:Int) (n:Nat),Tm.shapes ts nt n=true→2*Tm.sizes ts+ts.length≤(ts.length:Int)*3 ^ n
 | [],nt,n,h=>by unfold Tm.sizes;simp
 | t :: ts,nt,n,h=>by
  unfold Tm.shapes at h
  simp only [Bool.and_eq_true] at h
  have h1:=Tm.size_shape t nt n h.1
  have h2:=Tm.sizes_shape ts nt n h.2
  unfold Tm.sizes
  rw [List.length_cons,show((ts.length+1:Nat):Int)*3 ^ n=(ts.length:Int)*3 ^ n+3 ^ n from by rw [Int.natCast_add,Int.add_mul];simp]
  omega
end
theorem Tm.sizes_take_succ : ∀(ts:List Tm) (j:Nat) (h:j<ts.length),Tm.sizes (ts.take (j+1))=Tm.sizes (ts.take j)+ts[j].size
 | [],_,h=>absurd h (Nat.not_lt_zero _)
 | t :: ts,0,_=>by simp [Tm.sizes]
 | t :: ts,j+1,h=>by
  have:=Tm.sizes_take_succ ts j (by simpa using h)
  simp only [List.take_succ_cons,Tm.sizes,List.getElem_cons_succ]
  omega
theorem Tm.sizes_take_le : ∀(ts:List Tm) (j:Nat),Tm.sizes (ts.take j)≤Tm.sizes ts
 | [],_=>by simp
 | t :: ts,0=>by have:=Tm.sizes_pos (t :: ts);simpa [Tm.sizes] using this
 | t :: ts,j+1=>by
  have:=Tm.sizes_take_le ts j
  simp only [List.take_succ_cons,Tm.sizes]
  omega
theorem Tm.size_bd {t:Tm}{nt:Int}{n:Nat}(h:t.shape nt n=true)(hn:n≤40):t.size≤6078832729528464400:=by
 have h1:=Tm.size_shape t nt n h
 have h2:(3:Int) ^ n≤3 ^ 40:=by exact_mod_cast Nat.pow_le_pow_right (by omega) hn
 have h3:(3:Int) ^ 40=12157665459056928801:=by decide
 omega
theorem pm (F:Nat→Prop)(t:Tm)(y:Value)(w:World)(hy:az F w t y) :
  Calls Try.prog 37 #[y] w fun e w'=>e = .returned (.bool (t.nodeB))∧Below w.heap.size w w':=by
 obtain⟨k,nm,u,tk,ta,tn,tq,fk,fa,fn,fq,l,c,m,q,rfl⟩:=hy.shape
 obtain⟨r1,r2,r3,r4,r5,r6,r7,r8,r9,rn,rm,rq,hty,hsr,hks⟩:=hy.parts
 have h1:=fun W (h:Below w.heap.size w W)=>dj F t.type _ W (hty.below h)
 have h2:=fun W (h:Below w.heap.size w W)=>fy tk ta tn tq W
 have h4:=fun W (h:Below w.heap.size w W)=>fy fk fa fn fq W
 have h3:=fun W (h:Below w.heap.size w W)=>jA F F t.src t.type _ _ W (hsr.below h) (hty.below h)
 have e1:t.type.noneB=noneB tk tn:=by unfold Ty.noneB;rw [r4,r5]
 have e2:t.src.noneB=noneB fk fn:=by unfold Ty.noneB;rw [r6,r7]
 rw [←e1] at h2
 rw [←e2] at h4
 have e:nodeB k u l nm m t.type.valid t.type.noneB t.src.noneB (t.src.valid&&t.type.valid&&t.src.cons t.type)=t.nodeB:=by unfold Tm.nodeB Tm.ownB nodeB;rw [r1,r2,r3,r8,r9]
 rw [←e]
 rcases kinds6 k with rfl | rfl | rfl | rfl | rfl | ⟨z0,z1,z2,z3,z4⟩
 ·exact ob u tk fk l nm ta fa c tn tq fn fq m q w _ _ _ (t.src.valid&&t.type.valid&&t.src.cons t.type) (Lib.hid h1) (Lib.hid h2) (Lib.hid h4) (Lib.hid h3)
 ·exact oe u tk fk l nm ta fa c tn tq fn fq m q w _ _ _ (t.src.valid&&t.type.valid&&t.src.cons t.type) (Lib.hid h1) (Lib.hid h2) (Lib.hid h4) (Lib.hid h3)
 ·exact lI u tk fk l nm ta fa c tn tq fn fq m q w _ _ _ (t.src.valid&&t.type.valid&&t.src.cons t.type) (Lib.hid h1) (Lib.hid h2) (Lib.hid h4) (Lib.hid h3)
 ·exact kE u tk fk l nm ta fa c tn tq fn fq m q w _ _ _ (t.src.valid&&t.type.valid&&t.src.cons t.type) (Lib.hid h1) (Lib.hid h2) (Lib.hid h4) (Lib.hid h3)
 ·exact kR u tk fk l nm ta fa c tn tq fn fq m q w _ _ _ (t.src.valid&&t.type.valid&&t.src.cons t.type) (Lib.hid h1) (Lib.hid h2) (Lib.hid h4) (Lib.hid h3)
 ·exact mJ k u tk fk l nm ta fa c tn tq fn fq m q w _ _ _ (t.src.valid&&t.type.valid&&t.src.cons t.type) z0 z1 z2 z3 z4 (Lib.hid h1) (Lib.hid h2) (Lib.hid h4) (Lib.hid h3)
theorem pE (F:Nat→Prop)(t:Tm)(y:Value)(w:World)(hy:az F w t y)(hk:(t.kind==14)=false) :
  Calls Try.prog 56 #[y] w fun e w'=>e = .returned (.bool (t.ownB))∧Below w.heap.size w w':=by
 obtain⟨k,nm,u,tk,ta,tn,tq,fk,fa,fn,fq,l,c,m,q,rfl⟩:=hy.shape
 obtain⟨r1,r2,r3,r4,r5,r6,r7,r8,r9,rn,rm,rq,hty,hsr,hks⟩:=hy.parts
 have h1:=fun W (h:Below w.heap.size w W)=>bW F t.type _ W (hty.below h)
 have h2:=fun W (h:Below w.heap.size w W)=>iq tk ta tn tq W
 have h4:=fun W (h:Below w.heap.size w W)=>iq fk fa fn fq W
 have e1:t.type.noneB=noneB tk tn:=by unfold Ty.noneB;rw [r4,r5]
 have e2:t.src.noneB=noneB fk fn:=by unfold Ty.noneB;rw [r6,r7]
 rw [←e1] at h2
 rw [←e2] at h4
 have e:ownB k u l nm t.type.valid t.type.noneB t.src.noneB (t.src.valid&&t.type.valid&&t.src.cons t.type)=t.ownB:=by unfold Tm.ownB;rw [r1,r2,r3,r8]
 rw [←e]
 rw [←r1] at hk
 rcases kinds6 k with rfl | rfl | rfl | rfl | rfl | ⟨z0,z1,z2,z3,z4⟩
 ·exact oE u tk fk l nm ta fa c tn tq fn fq m q w _ _ _ (t.src.valid&&t.type.valid&&t.src.cons t.type) (Lib.hid h1) (Lib.hid h2) (Lib.hid h4)
 ·exact oT u tk fk l nm ta fa c tn tq fn fq m q w _ _ _ (t.src.valid&&t.type.valid&&t.src.cons t.type) (Lib.hid h1) (Lib.hid h2) (Lib.hid h4)
 ·exact oA u tk fk l nm ta fa c tn tq fn fq m q w _ _ _ (t.src.valid&&t.type.valid&&t.src.cons t.type) (Lib.hid h1) (Lib.hid h2) (Lib.hid h4)
 ·exact nl u tk fk l nm ta fa c tn tq fn fq m q w _ _ _ (t.src.valid&&t.type.valid&&t.src.cons t.type) (Lib.hid h1) (Lib.hid h2) (Lib.hid h4)
 ·exact absurd hk (by decide)
 ·exact oF k u tk fk l nm ta fa c tn tq fn fq m q w _ _ _ (t.src.valid&&t.type.valid&&t.src.cons t.type) z0 z1 z2 z3 z4 (Lib.hid h1) (Lib.hid h2) (Lib.hid h4)
end Go.Proofs.Ytnaoghknnenfoaa
namespace Go.Proofs.Ytnaoghknnenfoaa
open Go.RowKit
def bs (l:List UInt8):ByteArray:=⟨l.toArray⟩
theorem bs_size (l:List UInt8):(bs l).size=l.length:=by unfold bs;simp [ByteArray.size]
def dp (x:UInt8):List UInt8→List UInt8
 | []=> [x]
 | y :: l=>if y<x then y :: dp x l else if y=x then y :: l else x :: y :: l
theorem ej (x:UInt8) : ∀(l:List UInt8) (k:Nat) (hk:k≤l.length),(∀y∈l.take k,y<x)→(∀h:k<l.length,¬l[k]<x)→dp x l=if l[k]?=some x then l else l.take k++x :: l.drop k
 | [],k,hk,_,_=>by
  obtain rfl:k=0:=by simpa using hk
  rfl
 | y :: l,0,_,_,h2=>by
  have h3 : ¬y<x:=h2 (by simp)
  unfold dp
  rw [if_neg h3]
  by_cases h4:y=x
  ·subst h4;rw [if_pos rfl,if_pos (by simp)]
  ·rw [if_neg h4,if_neg (by simpa using h4)];rfl
 | y :: l,k+1,hk,h1,h2=>by
  have h3:y<x:=h1 y (by simp)
  have ih:=ej x l k (by simpa using hk) (fun z hz=>h1 z (by rw [List.take_succ_cons];exact List.mem_cons_of_mem _ hz)) (fun h=>by have:=h2 (by simpa using h);simpa using this)
  unfold dp
  rw [if_pos h3,ih]
  simp only [List.getElem?_cons_succ,List.take_succ_cons,List.drop_succ_cons]
  split<;>rfl
mutual
def Tm.fr:Tm→(UInt8→Bool)→UInt8→Bool
 | .mk k s _ _ _ _ ts,q,c=>(k==1 && !(q c)&&s.data.toList == [c])||Tm.frs ts (if k==5 then fun d=>q d||s.data.toList == [d] else q) c
def Tm.frs:List Tm→(UInt8→Bool)→UInt8→Bool
 | [],_,_=>false
 | t :: ts,q,c=>t.fr q c||Tm.frs ts q c
end
end Go.Proofs.Ytnaoghknnenfoaa
namespace Go.Proofs.Ytnaoghknnenfoaa
open Go.RowKit
theorem fF (l:List UInt8):(bs l).toList=l:=by unfold bs;exact ByteArray.toList_mk l
theorem ei (l:List UInt8)(i j:Nat):(bs l).extract i j=bs ((l.take j).drop i):=by
 apply ByteArray.ext
 unfold bs
 rw [ByteArray.data_extract]
 apply Array.ext'
 simp [List.extract_eq_take_drop,List.drop_take]
theorem kA (a b:List UInt8):bs a++bs b=bs (a++b):=by
 apply ByteArray.ext
 unfold bs
 rw [ByteArray.data_append]
 apply Array.ext'
 simp
theorem bs_one (l:List UInt8)(j:Nat)(h:j<l.length):((bs l).extract j (j+1)).toList = [l[j]]:=by
 rw [ei,fF,List.take_succ_eq_append_getElem h,List.drop_append_of_le_length (by simp;omega)]
 simp [List.drop_take]
theorem lg (a b:UInt8):Op.bytesLess [a] [b]=decide (a<b):=by
 simp [Op.bytesLess]
set_option maxHeartbeats 4000000 in
theorem pt (l:List UInt8)(x:UInt8)(w:World)(hl:l.length≤1000) :
  Calls Try.prog 71 #[.string (bs l),.string (bs [x])] w fun e w'=>e = .returned (.string (bs (dp x l)))∧Below w.heap.size w w':=by
 obtain⟨n,hn⟩ : ∃n,l.length=n:=⟨_,rfl⟩
 obtain⟨s,hs⟩ : ∃s,bs l=s:=⟨_,rfl⟩
 have hsz:s.size=n:=by rw [←hs,bs_size,hn]
 have hx1:(bs [x]).size=1:=rfl
 obtain⟨r,hr⟩ : ∃r,bs (dp x l)=r:=⟨_,rfl⟩
 have hex : ∀j (h:j<l.length),((s.extract j (j+1)).toList==(bs [x]).toList)=(l[j]==x):=fun j h=>by
  rw [←hs,bs_one l j h,fF,Bool.eq_iff_iff]
  simp
 have hls : ∀j (h:j<l.length),Op.bytesLess (s.extract j (j+1)).toList (bs [x]).toList=decide (l[j]<x):=fun j h=>by
  rw [←hs,bs_one l j h,fF,lg]
 have hsp : ∀j,j≤l.length→(∀y∈l.take j,y<x)→(∀h:j<l.length,¬l[j]<x)→¬l[j]?=some x→r=s.extract 0 j++bs [x]++s.extract j n:=fun j h1 h2 h3 h4=>by
  rw [←hr,ej x l j h1 h2 h3,if_neg h4,←hs,ei,ei,kA,kA,←hn,List.take_length]
  simp
 have hsp2 : ∀j,j≤l.length→(∀y∈l.take j,y<x)→(∀h:j<l.length,¬l[j]<x)→l[j]?=some x→r=s:=fun j h1 h2 h3 h4=>by
  rw [←hr,ej x l j h1 h2 h3,if_pos h4,hs]
 rw [hs,hr]
 have HN:=Lib.hid hn
 have HX:=Lib.hid hex
 have HL:=Lib.hid hls
 have HS1:=Lib.hid hsp
 have HS2:=Lib.hid hsp2
 rw [hn] at hl
 clear hn hs hr hex hls hsp hsp2
 go_enter Try.func71,Try.ntmps71
 go_wp2_with fail
 go_loopw [5] (fun i wr=>∃j:Nat,j≤n∧i = .int .i64 j∧Hid (∀y∈l.take j,y<x)∧Below w.heap.size w wr) (fun i _=>n-(intOf i).toNat)
 case atStart=>exact⟨0,by omega,rfl,by simp [Hid],Below.refl _ _⟩
 case round=>
  obtain⟨j,hj,rfl,hR,hbw⟩:=hrel
  have hc1 : ∀a b:Nat,a≤n→b≤n→¬(9223372036854775807<a+1+b):=fun a b h1 h2=>by omega
  by_cases hlt:j<n
  ·have hjt:j<l.length:=by rw [HN.out];exact hlt
   have i1:=IntWalk.i64_in ((j:Int)+1) (by omega)
   have hx:=HX.out j hjt
   have hls:=HL.out j hjt
   obtain⟨z,hz⟩ : ∃z,l[j]=z:=⟨_,rfl⟩
   have htk:l.take (j+1)=l.take j ++ [z]:=by rw [List.take_succ_eq_append_getElem hjt,hz]
   have hg:l[j]?=some z:=by rw [List.getElem?_eq_getElem hjt,hz]
   have hng : ¬z<x→∀h:j<l.length,¬l[j]<x:=fun h1 h2=>by rw [hz];exact h1
   rw [hz] at hx hls
   have HTK:=Lib.hid htk
   have HG:=Lib.hid hg
   have HNG:=Lib.hid hng
   clear htk hz hg hng
   by_cases hzl:z<x
   ·rw [decide_eq_true hzl] at hls
    have HZ:=Lib.hid hzl
    clear hzl
    go_wp2_with fail
    go_roundw
    case rel=>exact⟨j+1,by omega,by go_num,fun y hy=>by rw [HTK.out] at hy;rcases List.mem_append.1 hy with hy | hy;exact hR.out y hy;rw [List.mem_singleton] at hy;rw [hy];exact HZ.out,hbw⟩
    case measure=>simp [intOf];omega
   ·rw [decide_eq_false hzl] at hls
    rcases Bool.eq_false_or_eq_true (z==x) with hzx | hzx
    ·rw [hzx] at hx
     have hres:=HS2.out j (by have:=HN.out;omega) hR.out (HNG.out hzl) (by rw [HG.out,eq_of_beq hzx])
     have HRES:=Lib.hid hres
     clear hres hzx hzl
     go_wp2_with fail
     go_ret
     exact⟨ka HRES.out.symm,hbw⟩
    ·rw [hzx] at hx
     have hres:=HS1.out j (by have:=HN.out;omega) hR.out (HNG.out hzl) (by rw [HG.out];intro e;simp at e;subst e;simp at hzx)
     have HRES:=Lib.hid hres
     clear hres hzx hzl
     go_wp2_with fail
     go_quiet (fail)
     go_wp2_with fail
     go_ret
     exact⟨ka HRES.out.symm,dE hbw _⟩
  ·have hjn:j=n:=by omega
   have hres:=HS1.out j (by have:=HN.out;omega) hR.out (fun h=>by have:=HN.out;omega) (by rw [List.getElem?_eq_none (by have:=HN.out;omega)];simp)
   have HRES:=Lib.hid hres
   clear hres
   subst hjn
   have hse:s.extract j j=ByteArray.empty:=by apply ByteArray.ext;simp [ByteArray.data_extract]
   have HSE:=Lib.hid hse
   clear hse
   have hend:s.extract 0 j++bs [x]=r:=by rw [HRES.out,HSE.out];exact(ByteArray.append_empty).symm
   have HEND:=Lib.hid hend
   clear hend
   go_wp2_with fail
   go_quiet (fail)
   go_wp2_with fail
   go_ret
   exact⟨ka HEND.out,dE hbw _⟩
end Go.Proofs.Ytnaoghknnenfoaa
namespace Go.Proofs.Ytnaoghknnenfoaa
open Go.RowKit
theorem ag {w:World}{b o:Nat}{cs:Array Value}{T:TypeId}{fr:Nat × Nat}{v:Value}(h:w.heap[b]?=some (.cells cs T fr))(hv:cs[o]?=some v):w.cell? ⟨b,o,none⟩=some v:=by
 simp only [World.cell?,h]
 simpa using hv
theorem aC {w:World}{b:Nat}{cs:Array Value}{T:TypeId}(h:w.heap[b]?=some (.cells cs T (0,0)))(o:Nat):w.frozen? ⟨b,o,none⟩=false:=by
 simp [World.frozen?,h]
theorem al {w:World}{b:Nat}{x:Obj}(h:w.heap[b]?=some x):b<w.heap.size:=(Array.getElem?_eq_some_iff.1 h).1
theorem aD {w:World}{b:Nat}{o:Obj}(hb:w.heap.size=b):(w.alloc o).heap[b]?=some o:=by subst hb;exact heap_alloc_new w o
theorem af {w w':World}{b:Nat}{x:Obj}(h:w.heap[b]?=some x)(k:Below w.heap.size w w'):w'.heap[b]?=some x:=(k.block b (al h)).trans h
theorem aB {r:Nat}{w w':World}{b:Nat}{x:Obj}(h:w.heap[b]?=some x)(k:Chg [r] w w')(hn:b≠r):w'.heap[b]?=some x:=(k.block b (al h) (by simpa using hn)).trans h
theorem di {w:World}{b:Nat}{x:Obj}{p:Addr}{v:Value}(h:w.heap[b]?=some x)(hn:b≠p.block):(w.setCell p v).heap[b]?=some x:=(Below.heap_setCell w p v b hn).trans h
theorem aQ {w:World}{b o:Nat}{cs cs':Array Value}{T:TypeId}{fr:Nat × Nat}{v:Value}(h:w.heap[b]?=some (.cells cs T fr))(e:cs.setIfInBounds o v=cs'):(w.setCell ⟨b,o,none⟩ v).heap[b]?=some (.cells cs' T fr):=by
 subst e;exact cf h
theorem blk9 {w:World}{b:Nat}{a0 a1 a2 a3 a4 a5 a6 a7 a8:Value}{T:TypeId}(h:w.heap[b]?=some (.cells #[a0,a1,a2,a3,a4,a5,a6,a7,a8] T (0,0))):w.cell? ⟨b,0,none⟩=some a0∧w.cell? ⟨b,1,none⟩=some a1∧w.cell? ⟨b,2,none⟩=some a2∧w.cell? ⟨b,3,none⟩=some a3∧w.cell? ⟨b,4,none⟩=some a4∧w.cell? ⟨b,5,none⟩=some a5∧w.cell? ⟨b,6,none⟩=some a6∧w.cell? ⟨b,7,none⟩=some a7∧w.cell? ⟨b,8,none⟩=some a8:=
 ⟨ag h rfl,ag h rfl,ag h rfl,ag h rfl,ag h rfl,ag h rfl,ag h rfl,ag h rfl,ag h rfl⟩
theorem blk9f {w:World}{b:Nat}{a0 a1 a2 a3 a4 a5 a6 a7 a8:Value}{T:TypeId}(h:w.heap[b]?=some (.cells #[a0,a1,a2,a3,a4,a5,a6,a7,a8] T (0,0))):w.cell? ⟨b,0,none⟩=some a0∧w.frozen? ⟨b,0,none⟩=false∧w.cell? ⟨b,1,none⟩=some a1∧w.frozen? ⟨b,1,none⟩=false∧w.cell? ⟨b,2,none⟩=some a2∧w.frozen? ⟨b,2,none⟩=false∧w.cell? ⟨b,3,none⟩=some a3∧w.frozen? ⟨b,3,none⟩=false∧w.cell? ⟨b,4,none⟩=some a4∧w.frozen? ⟨b,4,none⟩=false∧w.cell? ⟨b,5,none⟩=some a5∧w.frozen? ⟨b,5,none⟩=false∧w.cell? ⟨b,6,none⟩=some a6∧w.frozen? ⟨b,6,none⟩=false∧w.cell? ⟨b,7,none⟩=some a7∧w.frozen? ⟨b,7,none⟩=false∧w.cell? ⟨b,8,none⟩=some a8∧w.frozen? ⟨b,8,none⟩=false:=
 ⟨ag h rfl,aC h 0,ag h rfl,aC h 1,ag h rfl,aC h 2,ag h rfl,aC h 3,ag h rfl,aC h 4,ag h rfl,aC h 5,ag h rfl,aC h 6,ag h rfl,aC h 7,ag h rfl,aC h 8⟩
theorem blk2 {w:World}{b:Nat}{a0 a1:Value}{T:TypeId}(h:w.heap[b]?=some (.cells #[a0,a1] T (0,0))):w.cell? ⟨b,0,none⟩=some a0∧w.cell? ⟨b,1,none⟩=some a1:=⟨ag h rfl,ag h rfl⟩
end Go.Proofs.Ytnaoghknnenfoaa
namespace Go.Proofs.Ytnaoghknnenfoaa
open Go.RowKit
theorem Try.infoTm2:(Try.prog.info? 28).map (fun i=>(i.zero,i.size,i.bytes))=some (some (.agg #[.int .i64 0,.string ByteArray.empty,.int .i64 0,.int .i64 0,.slice none 0 0,.int .i64 0,.slice none 0 0,.int .i64 0,.slice none 0 0]),9,128):=by kernel_rfl
theorem nv (x:UInt8) : ∀l:List UInt8,(dp x l).length≤l.length+1
 | []=>by simp [dp]
 | y :: l=>by
  unfold dp
  have:=nv x l
  split
  ·simp;omega
  ·split
   ·simp
   ·simp
theorem ku {X:World}{B:Nat}(xs:List ByteArray){T:TypeId}(hB:X.heap.size=B)(Q:ByteArray→Prop)(hQ : ∀x∈xs,Q x)(i:Nat)(hi:i<xs.length) :
  ∃x,(X.alloc (.cells (xs.map Value.string).toArray T)).cell? ⟨B,i,none⟩=some (.string x)∧Q x:=by
 refine⟨xs[i],?_,hQ _ (List.getElem_mem hi)⟩
 rw [aj hB]
 simp [hi]
theorem Tm.cnts_append : ∀(a b:List Tm),Tm.cnts (a++b)=Tm.cnts a+Tm.cnts b
 | [],b=>by simp [Tm.cnts]
 | t :: a,b=>by
  have:=Tm.cnts_append a b
  simp only [List.cons_append,Tm.cnts]
  omega
theorem az.srep {F:Nat→Prop}{w:World}{t:Tm}{k u tk fk l:Int}{nm:ByteArray}{s1 s2 s:Value}(h:az F w t (.agg #[.int .i64 k,.string nm,.int .i64 u,.int .i64 tk,s1,.int .i64 fk,s2,.int .i64 l,s])) :
  bT F w t.row [.int .i64 k,.string nm,.int .i64 u,.int .i64 tk,s1,.int .i64 fk,s2,.int .i64 l,s]:=by
 obtain⟨z1,z2,z,he,hn,h1,h2,h3⟩:=h
 simp only [Value.agg.injEq,Array.mk.injEq,List.cons.injEq,Value.int.injEq,Value.string.injEq,true_and,and_true] at he
 obtain⟨rfl,rfl,rfl,rfl,rfl,rfl,rfl,rfl,rfl⟩:=he
 cases t with | mk k nm u t f l ts=>
 have ci : ∀n:Int,aS F w (.int n) (.int .i64 n):=fun n=>by unfold aS;rfl
 unfold Tm.row
 exact⟨_,_,rfl,ci _,_,_,rfl,by unfold aS;exact⟨rfl,hn⟩,_,_,rfl,ci _,_,_,rfl,ci _,_,_,rfl,h1,_,_,rfl,ci _,_,_,rfl,h2,_,_,rfl,ci _,_,_,rfl,h3,rfl⟩
theorem az.mk {F:Nat→Prop}{w:World}{k u l tk fk:Int}{nm:ByteArray}{t f:Ty}{ts:List Tm}{s1 s2 s:Value}(hn:nm.size≤maxLen)(h1:ap F w t (.agg #[.int .i64 tk,s1]))(h2:ap F w f (.agg #[.int .i64 fk,s2]))(h3:aV F w ts s) :
  az F w (.mk k nm u t f l ts) (.agg #[.int .i64 k,.string nm,.int .i64 u,.int .i64 tk,s1,.int .i64 fk,s2,.int .i64 l,s]):=by
 obtain⟨z1,he1,h1⟩:=h1
 obtain⟨z2,he2,h2⟩:=h2
 simp only [Value.agg.injEq,Array.mk.injEq,List.cons.injEq,Value.int.injEq,true_and,and_true] at he1 he2
 obtain⟨rfl,rfl⟩:=he1
 obtain⟨rfl,rfl⟩:=he2
 exact⟨_,_,_,rfl,hn,h1,h2,h3⟩
theorem ap.setB {B:Nat}{w:World}{t:Ty}{y:Value}(h:ap (B ≤ ·) w t y){p:Addr}(hp:p.block<B)(v:Value):ap (B ≤ ·) (w.setCell p v) t y:=
 h.move ⟨by simp [World.setCell],fun _ h _=>h,fun b hb _=>Below.heap_setCell w p v b (by omega)⟩
end Go.Proofs.Ytnaoghknnenfoaa
namespace Go.Proofs.Ytnaoghknnenfoaa
open Go.RowKit
structure Bd where
 name:ByteArray
 ty:Ty
def Bd.row (b:Bd):List C:= [.str b.name,.int b.ty.kind,.sl (Ty.rows b.ty.kids)]
def Bd.rows (l:List Bd):List (List C):=l.map Bd.row
theorem Bd.row_length (b:Bd):b.row.length=3:=rfl
theorem Bd.rows_length (l:List Bd):(Bd.rows l).length=l.length:=by simp [Bd.rows]
def aL (F:Nat→Prop)(w:World)(l:List Bd)(y:Value):Prop:=aS F w (.sl (Bd.rows l)) y
def iQ (F:Nat→Prop)(w:World)(b:Bd)(y:Value):Prop:=∃k c m q,y = .agg #[.string b.name,.int .i64 k,.slice c m q]∧b.name.size≤maxLen∧ap F w b.ty (.agg #[.int .i64 k,.slice c m q])
theorem aL.move {F G:Nat→Prop}{w w':World}{l:List Bd}{y:Value}(h:aL F w l y)(k:bB F G w w'):aL G w' l y:=aS.move k _ _ h
theorem aL.below {F:Nat→Prop}{w w':World}{l:List Bd}{y:Value}(h:aL F w l y)(k:Below w.heap.size w w'):aL F w' l y:=h.move (.below k)
theorem iQ.below {F:Nat→Prop}{w w':World}{b:Bd}{y:Value}(h:iQ F w b y)(k:Below w.heap.size w w'):iQ F w' b y:=
 let ⟨a,c,m,q,h1,h2,h3⟩:=h;⟨a,c,m,q,h1,h2,h3.below k⟩
theorem aL.open {F:Nat→Prop}{w:World}{l:List Bd}{y:Value}(h:aL F w l y) :
  ∃(a:Option Addr) (cap:Nat),y = .slice a l.length cap∧l.length≤cap∧cap≤maxLen ∧
   ∀i (h:i<l.length),∃b off k c m q,a=some ⟨b,off,none⟩∧w.cell? ⟨b,off+i*3,none⟩=some (.string l[i].name)∧l[i].name.size≤maxLen∧w.cell? ⟨b,off+i*3+1,none⟩=some (.int .i64 k)∧w.cell? ⟨b,off+i*3+2,none⟩=some (.slice c m q)∧ap F w l[i].ty (.agg #[.int .i64 k,.slice c m q]):=by
 obtain⟨a,cap,h1,h2,h3,h4⟩:=aS.rows h
 rw [Bd.rows_length] at h1 h2
 refine⟨a,cap,h1,h2,h3,fun i hi=>?_⟩
 rcases h4 with h4 | ⟨b,off,ha,hF,hl,hr⟩
 ·rw [←Bd.rows_length,h4] at hi;exact absurd hi (Nat.not_lt_zero _)
 ·have hc:=hr.get (m:=3) (fun r hr=>by obtain⟨t,_,rfl⟩:=List.mem_map.1 hr;rfl) i (by rw [Bd.rows_length];exact hi)
  have he:(Bd.rows l)[i]'(by rw [Bd.rows_length];exact hi)=l[i].row:=by simp [Bd.rows]
  rw [he] at hc
  unfold Bd.row aU at hc
  obtain⟨⟨y0,hy0,hc0⟩,hc⟩:=hc
  unfold aU at hc
  obtain⟨⟨y1,hy1,hc1⟩,hc⟩:=hc
  unfold aU at hc
  obtain⟨⟨y2,hy2,hc2⟩,_⟩:=hc
  obtain⟨e0,z0⟩:=aS.str_eq hc0
  rw [e0] at hy0
  rw [aS.int_eq hc1] at hy1
  obtain⟨c,q,rfl,_⟩:=aS.rows hc2
  exact⟨b,off,_,c,_,q,ha,hy0,z0,hy1,hy2,_,rfl,hc2⟩
theorem aL.shape {F:Nat→Prop}{w:World}{l:List Bd}{y:Value}(h:aL F w l y) : ∃a n q,y = .slice a n q:=by
 obtain⟨a,q,rfl,_⟩:=h.open
 exact⟨a,_,q,rfl⟩
theorem iQ.shape {F:Nat→Prop}{w:World}{b:Bd}{y:Value}(h:iQ F w b y) : ∃s k a n q,y = .agg #[.string s,.int .i64 k,.slice a n q]:=by
 obtain⟨k,c,m,q,rfl,_⟩:=h
 exact⟨_,k,c,m,q,rfl⟩
theorem aL.at {F:Nat→Prop}{w wr:World}{l:List Bd}{a:Option Addr}{n cap:Nat}(h:aL F w l (.slice a n cap))(hb:Below w.heap.size w wr){i:Nat}(hi:i<l.length) :
  ∃b off k c m q,a=some ⟨b,off,none⟩∧b<wr.heap.size∧wr.cell? ⟨b,off+i*3,none⟩=some (.string l[i].name)∧l[i].name.size≤maxLen∧wr.cell? ⟨b,off+i*3+1,none⟩=some (.int .i64 k)∧wr.cell? ⟨b,off+i*3+2,none⟩=some (.slice c m q)∧ap F wr l[i].ty (.agg #[.int .i64 k,.slice c m q]):=by
 obtain⟨a',cap',he,_,_,hg⟩:=h.open
 simp only [Value.slice.injEq] at he
 obtain⟨rfl,_,rfl⟩:=he
 obtain⟨b,off,k,c,m,q,ha,h0,hz,h1,h2,ht⟩:=hg i hi
 have e0:=a9 hb h0
 exact⟨b,off,k,c,m,q,ha,World.block_lt_of_cell? wr _ e0,e0,hz,a9 hb h1,a9 hb h2,ht.below hb⟩
def Bd.cnt (b:Bd):Nat:=b.name.size+b.ty.cnt
def Bd.cs:List Bd→Nat
 | []=>0
 | b :: l=>b.cnt+Bd.cs l
def Bd.cnts (l:List Bd):Nat:=l.length+Bd.cs l
theorem Bd.cnt_mem : ∀ {l:List Bd} {b:Bd},b∈l→b.cnt≤Bd.cs l
 | u :: l,b,h=>by
  rcases List.mem_cons.1 h with rfl | h
  ·simp only [Bd.cs];omega
  ·have:=Bd.cnt_mem h;simp only [Bd.cs];omega
def gz (B:Nat)(w:World)(b:Bd)(y:Value):Prop:=∃k c m q fp,y = .agg #[.string b.name,.int .i64 k,.slice c m q]∧bg w b.row [.string b.name,.int .i64 k,.slice c m q] fp∧fp.Nodup∧∀x∈fp,B≤x
def dq (B:Nat)(w:World)(l:List Bd)(y:Value):Prop:=∃fp,aG w (.sl (Bd.rows l)) y fp∧fp.Nodup∧∀b∈fp,B≤b
theorem dq.rep {B:Nat}{w:World}{l:List Bd}{y:Value}(h:dq B w l y):aL (B ≤ ·) w l y:=
 let ⟨_,h1,_,h3⟩:=h;aG.rep _ _ _ (fun b hb=>h3 b hb) h1
theorem dq.below {B:Nat}{w w':World}{l:List Bd}{y:Value}(h:dq B w l y)(k:Below w.heap.size w w'):dq B w' l y:=
 let ⟨fp,h1,h2,h3⟩:=h;⟨fp,aG.move _ _ _ (fun b hb=>k.block b (aG.lt _ _ _ h1 b hb)) h1,h2,h3⟩
theorem dq.shape {B:Nat}{w:World}{l:List Bd}{y:Value}(h:dq B w l y) : ∃a n q,y = .slice a n q:=h.rep.shape
theorem Bd.flatten_length (l:List Bd):(Bd.rows l).flatten.length=l.length*3:=by
 induction l with
 | nil=>rfl
 | cons t ts ih=>unfold Bd.rows at ih ⊢;rw [List.map_cons,List.flatten_cons,List.length_append,ih,t.row_length,List.length_cons];omega
theorem gz.setCell {B:Nat}{w:World}{b:Bd}{y:Value}(h:gz B w b y){p:Addr}(hp:p.block<B)(v:Value):gz B (w.setCell p v) b y:=by
 obtain⟨k,c,m,q,fp,rfl,h1,h2,h3⟩:=h
 exact⟨k,c,m,q,fp,rfl,h1.move _ _ _ (fun b hb=>Below.heap_setCell w p v b (by have:=h3 b hb;omega)),h2,h3⟩
theorem gz.mono {B B':Nat}{w:World}{b:Bd}{y:Value}(h:gz B w b y)(hB:B'≤B):gz B' w b y:=by
 obtain⟨k,c,m,q,fp,rfl,h1,h2,h3⟩:=h
 exact⟨k,c,m,q,fp,rfl,h1,h2,fun b hb=>Nat.le_trans hB (h3 b hb)⟩
def Bd.same (a b:Bd):Bool:=(a.name.toList==b.name.toList)&&a.ty.same b.ty
def Bd.ok (b:Bd):Bool:=aN b.name&&b.ty.valid
def ctxB (l:List Bd):Bool:=decide (l.length≤12)&&l.all Bd.ok
end Go.Proofs.Ytnaoghknnenfoaa
namespace Go.Proofs.Ytnaoghknnenfoaa
open Go.RowKit
def CtxV (l:List Bd)(y:Value):Prop:=(l = []∧y = .slice none 0 0)∨(1≤l.length∧∃a m q,y = .slice (some a) m q)
theorem CtxV.shape {l:List Bd}{y:Value}(h:CtxV l y) : ∃a n q,y = .slice a n q:=by
 rcases h with ⟨-,rfl⟩ | ⟨-,a,m,q,rfl⟩<;>exact⟨_,_,_,rfl⟩
end Go.Proofs.Ytnaoghknnenfoaa
namespace Go.Proofs.Ytnaoghknnenfoaa
open Go.RowKit
section
variable {P:Program} {ops:Array Oper} {Q:Exit→Act→World→Prop} {md:Region.Mode} {S:World→Prop} {fuel:Nat} {listed:Array Bool} {a:Act} {w:World}
theorem hwt (i:Nat)(oi:Oper)(v:Value)(hS:S w)(hy : ∀w',S w'→(execOp a.eval oi).run P w' = .ok (.value v) w')(h:wpAnyH P md ops Q S fuel (listed.setIfInBounds i true) (a.put oi.dst v) w)
  (hw:Region.wanted oi (yielded ops a.tmps)=true:=by rfl) (hi:ops[i]?=some oi:=by rfl) (hs:Region.noSelect ops=true:=by kernel_rfl) (hf:Region.free md ops listed i=true:=by kernel_rfl) (hr:(Region.ready md ops listed).contains i=true:=by kernel_rfl)
  (hQ : ∀c a w,Q (.panic c) (a.put oi.dst v) w→Q (.panic c) a w:=by exact fun _ _ _ h=>h):wpAnyH P md ops Q S (fuel+1) listed a w:=
 wpAnyH_take hi hs hf hr hQ (.inl ⟨hw,hy⟩) hS h
theorem hwn (i:Nat)(oi:Oper)(hS:S w)(h:wpAnyH P md ops Q S fuel (listed.setIfInBounds i true) (a.put oi.dst undef) w)
  (hw:Region.wanted oi (yielded ops a.tmps)=false:=by rfl) (hi:ops[i]?=some oi:=by rfl) (hs:Region.noSelect ops=true:=by kernel_rfl) (hf:Region.free md ops listed i=true:=by kernel_rfl) (hr:(Region.ready md ops listed).contains i=true:=by kernel_rfl)
  (hQ : ∀c a w,Q (.panic c) (a.put oi.dst undef) w→Q (.panic c) a w:=by exact fun _ _ _ h=>h):wpAnyH P md ops Q S (fuel+1) listed a w:=
 wpAnyH_take hi hs hf hr hQ (.inr ⟨hw,rfl⟩) hS h
theorem hwr (i:Nat)(oi:Oper)(h : ∀K':Act→World→Prop,Shut (∀a w,S w→(S w→wpAnyH P md ops Q S fuel (listed.setIfInBounds i true) a w)→K' a w)→if Region.wanted oi (yielded ops a.tmps)=true then Oper.wp P oi a w K' Q else K' (a.put oi.dst undef) w)
  (hi:ops[i]?=some oi:=by rfl) (hr:Region.ready md ops listed = [i]:=by kernel_rfl):wpAnyH P md ops Q S (fuel+1) listed a w:=
 wpAnyH_ready hr (by simp) (AllReadyH.cons hi h AllReadyH.nil)
end
theorem hw1 {α:Type}(l:List α)(i:Nat)(a:α):l.toArray.setIfInBounds i a=(l.set i a).toArray:=by simp
theorem hw2 {α:Type}(l:List α)(a b:α):(a :: l).set 0 b=b :: l:=rfl
theorem hw3 {α:Type}(l:List α)(i:Nat)(a b:α):(a :: l).set (i+1) b=a :: l.set i b:=rfl
theorem hwA:(∀(l:List Value) (i:Nat) (a:Value),l.toArray.setIfInBounds i a=(l.set i a).toArray)∧(∀(l:List Value) (a b:Value),(a :: l).set 0 b=b :: l)∧(∀(l:List Value) (i:Nat) (a b:Value),(a :: l).set (i+1) b=a :: l.set i b) ∧
  (∀(a:Act) (d:Tmp) (v:Value),a.put (some d) v={ a with tmps:=a.tmps.setIfInBounds d v })∧(∀(a:Act) (v:Value),a.put none v=a):=⟨hw1,hw2,hw3,fun _ _ _=>rfl,fun _ _=>rfl⟩
theorem cg {W:World}{b:Nat}{a0 a1:Value}{T:TypeId}(h:W.heap[b]?=some (.cells #[a0,a1] T (0,0))):W.cell? ⟨b,0,none⟩=some a0∧W.cell? ⟨b,1,none⟩=some a1∧W.frozen? ⟨b,0,none⟩=false∧W.frozen? ⟨b,1,none⟩=false:=
 ⟨ag h rfl,ag h rfl,aC h 0,aC h 1⟩
theorem bO (W:World) : ∃X,World.drew W=X∧Below W.heap.size W X∧W.heap.size≤X.heap.size∧X.heap.size≤W.heap.size:=⟨_,rfl,bdr,Nat.le_refl _,Nat.le_refl _⟩
theorem bM (W:World)(o:Obj) : ∃X,World.alloc W o=X∧Below W.heap.size W X∧X.heap[W.heap.size]?=some o∧W.heap.size+1≤X.heap.size∧X.heap.size≤W.heap.size+1:=⟨_,rfl,ah,aD rfl,by simp,by simp⟩
def HSt (b:Nat)(W X:World):Prop:=(∀c,c≠b→X.heap[c]?=W.heap[c]?)∧(∀w:World,Below w.heap.size w W→w.heap.size≤b→Below w.heap.size w X)∧W.heap.size≤X.heap.size∧X.heap.size≤W.heap.size∧(∀(w:World) (fp:List Nat),Chg fp w W→w.heap.size≤b→Chg fp w X)
theorem HSt.blk {b c:Nat}{W X:World}{x:Obj}(h:HSt b W X)(hn:c≠b)(f:W.heap[c]?=some x):X.heap[c]?=some x:=(h.1 c hn).trans f
theorem HSt.cell {b:Nat}{p:Addr}{W X:World}{v:Value}(h:HSt b W X)(hn:p.block≠b)(f:W.cell? p=some v):X.cell? p=some v:=by
 simp only [World.cell?] at f ⊢
 rw [h.1 p.block hn];exact f
theorem HSt.bel {b:Nat}{w W X:World}(h:HSt b W X)(f:Below w.heap.size w W)(hb:w.heap.size≤b):Below w.heap.size w X:=h.2.1 w f hb
theorem HSt.chg {b:Nat}{fp:List Nat}{w W X:World}(h:HSt b W X)(f:Chg fp w W)(hb:w.heap.size≤b):Chg fp w X:=h.2.2.2.2 w fp f hb
theorem HSt.keeps {b:Nat}{W X:World}{F:Nat→Prop}(h:HSt b W X)(hn : ∀c,F c→c≠b):bB F F W X:=⟨h.2.2.1,fun _ hc _=>hc,fun c hc _=>h.1 c (hn c hc)⟩
theorem HSt.refl (b:Nat)(W:World):HSt b W W:=⟨fun _ _=>rfl,fun _ f _=>f,Nat.le_refl _,Nat.le_refl _,fun _ _ f _=>f⟩
theorem HSt.step {b o:Nat}{W X:World}{v:Value}(h:HSt b W X):HSt b W (X.setCell ⟨b,o,none⟩ v):=
 ⟨fun c hc=>(Below.heap_setCell _ ⟨b,o,none⟩ v c hc).trans (h.1 c hc),fun w f hb=>(h.2.1 w f hb).setCell (p:=⟨b,o,none⟩) hb _,by simpa [World.setCell] using h.2.2.1,by simpa [World.setCell] using h.2.2.2.1,fun w fp f hb=>by
   have k:=h.2.2.2.2 w fp f hb
   exact⟨k.os,k.tape,k.output,by simpa [World.setCell] using k.size,fun c hc hn=>(Below.heap_setCell _ ⟨b,o,none⟩ v c (by show c≠b;omega)).trans (k.block c hc hn)⟩⟩
theorem bx {W:World}{b:Nat}{a0 a1:Value}{T:TypeId}(h:W.heap[b]?=some (.cells #[a0,a1] T (0,0)))(v0 v1:Value) :
  ∃X,World.setCell (World.setCell W ⟨b,0,none⟩ v0) ⟨b,1,none⟩ v1=X∧HSt b W X∧X.heap[b]?=some (.cells #[v0,v1] T (0,0))∧W.heap.size≤X.heap.size∧X.heap.size≤W.heap.size:=
 ⟨_,rfl,(HSt.refl b W).step.step,aQ (aQ h rfl) rfl,by simp [World.setCell],by simp [World.setCell]⟩
theorem db {W:World}{b:Nat}{a0 a1 a2 a3 a4 a5 a6 a7 a8:Value}{T:TypeId}(h:W.heap[b]?=some (.cells #[a0,a1,a2,a3,a4,a5,a6,a7,a8] T (0,0)))(v0 v1 v2 v3 v4 v5 v6 v7 v8:Value) :
  ∃X,World.setCell (World.setCell (World.setCell (World.setCell (World.setCell (World.setCell (World.setCell (World.setCell (World.setCell W ⟨b,0,none⟩ v0) ⟨b,1,none⟩ v1) ⟨b,2,none⟩ v2) ⟨b,3,none⟩ v3) ⟨b,4,none⟩ v4) ⟨b,5,none⟩ v5) ⟨b,6,none⟩ v6) ⟨b,7,none⟩ v7) ⟨b,8,none⟩ v8=X∧HSt b W X∧X.heap[b]?=some (.cells #[v0,v1,v2,v3,v4,v5,v6,v7,v8] T (0,0))∧W.heap.size≤X.heap.size∧X.heap.size≤W.heap.size:=by
 have h0:=aQ (v:=v0) h (rfl:(#[a0,a1,a2,a3,a4,a5,a6,a7,a8]:Array Value).setIfInBounds 0 v0 = #[v0,a1,a2,a3,a4,a5,a6,a7,a8])
 have h1:=aQ (v:=v1) h0 (rfl:(#[v0,a1,a2,a3,a4,a5,a6,a7,a8]:Array Value).setIfInBounds 1 v1 = #[v0,v1,a2,a3,a4,a5,a6,a7,a8])
 have h2:=aQ (v:=v2) h1 (rfl:(#[v0,v1,a2,a3,a4,a5,a6,a7,a8]:Array Value).setIfInBounds 2 v2 = #[v0,v1,v2,a3,a4,a5,a6,a7,a8])
 have h3:=aQ (v:=v3) h2 (rfl:(#[v0,v1,v2,a3,a4,a5,a6,a7,a8]:Array Value).setIfInBounds 3 v3 = #[v0,v1,v2,v3,a4,a5,a6,a7,a8])
 have h4:=aQ (v:=v4) h3 (rfl:(#[v0,v1,v2,v3,a4,a5,a6,a7,a8]:Array Value).setIfInBounds 4 v4 = #[v0,v1,v2,v3,v4,a5,a6,a7,a8])
 have h5:=aQ (v:=v5) h4 (rfl:(#[v0,v1,v2,v3,v4,a5,a6,a7,a8]:Array Value).setIfInBounds 5 v5 = #[v0,v1,v2,v3,v4,v5,a6,a7,a8])
 have h6:=aQ (v:=v6) h5 (rfl:(#[v0,v1,v2,v3,v4,v5,a6,a7,a8]:Array Value).setIfInBounds 6 v6 = #[v0,v1,v2,v3,v4,v5,v6,a7,a8])
 have h7:=aQ (v:=v7) h6 (rfl:(#[v0,v1,v2,v3,v4,v5,v6,a7,a8]:Array Value).setIfInBounds 7 v7 = #[v0,v1,v2,v3,v4,v5,v6,v7,a8])
 have h8:=aQ (v:=v8) h7 (rfl:(#[v0,v1,v2,v3,v4,v5,v6,v7,a8]:Array Value).setIfInBounds 8 v8 = #[v0,v1,v2,v3,v4,v5,v6,v7,v8])
 have hs:=((((((((((HSt.refl b W).step (o:=0) (v:=v0)).step (o:=1) (v:=v1)).step (o:=2) (v:=v2)).step (o:=3) (v:=v3)).step (o:=4) (v:=v4)).step (o:=5) (v:=v5)).step (o:=6) (v:=v6)).step (o:=7) (v:=v7)).step (o:=8) (v:=v8))
 exact⟨_,rfl,hs,h8,hs.2.2.1,hs.2.2.2.1⟩
theorem HSt.rep {b:Nat}{W X:World}{F:Nat→Prop}{t:Ty}{y:Value}(h:HSt b W X)(hn : ∀c,F c→c≠b)(f:ap F W t y):ap F X t y:=f.move (h.keeps hn)
theorem kpN {r:Nat}{W X:World}{F:Nat→Prop}(h:Chg [r] W X)(hn : ∀b,F b→b≠r):bB F F W X:=h.keeps fun b hb=>by simpa using hn b hb
end Go.Proofs.Ytnaoghknnenfoaa
namespace Go.Proofs.Ytnaoghknnenfoaa
open Go.RowKit
end Go.Proofs.Ytnaoghknnenfoaa
namespace Go.Proofs.Ytnaoghknnenfoaa
open Go.RowKit
def S.text:S→List UInt8
 | .zero=> []
 | .any=> [63]
 | .int=> [73]
 | .bool=> [66]
 | .fn a b=>40 :: (a.text++62 :: (b.text ++ [41]))
 | .pr a b=>40 :: (a.text++42 :: (b.text ++ [41]))
theorem S.text_len : ∀s:S,s.text.length+3≤2 ^ (s.dep+1)
 | .zero=>by simp [S.text,S.dep]
 | .any=>by simp [S.text,S.dep]
 | .int=>by simp [S.text,S.dep]
 | .bool=>by simp [S.text,S.dep]
 | .fn a b=>by
  have h1:=S.text_len a
  have h2:=S.text_len b
  have e1:2 ^ (a.dep+1)≤2 ^ (max a.dep b.dep+1):=Nat.pow_le_pow_right (by omega) (by omega)
  have e2:2 ^ (b.dep+1)≤2 ^ (max a.dep b.dep+1):=Nat.pow_le_pow_right (by omega) (by omega)
  simp only [S.text,S.dep,List.length_cons,List.length_append,List.length_nil]
  rw [Nat.pow_succ 2 (max a.dep b.dep+1)]
  omega
 | .pr a b=>by
  have h1:=S.text_len a
  have h2:=S.text_len b
  have e1:2 ^ (a.dep+1)≤2 ^ (max a.dep b.dep+1):=Nat.pow_le_pow_right (by omega) (by omega)
  have e2:2 ^ (b.dep+1)≤2 ^ (max a.dep b.dep+1):=Nat.pow_le_pow_right (by omega) (by omega)
  simp only [S.text,S.dep,List.length_cons,List.length_append,List.length_nil]
  rw [Nat.pow_succ 2 (max a.dep b.dep+1)]
  omega
end Go.Proofs.Ytnaoghknnenfoaa
namespace Go.Proofs.Ytnaoghknnenfoaa
open Go.RowKit
def S.bs:S→ByteArray
 | .zero=>⟨#[]⟩
 | .any=>⟨#[63]⟩
 | .int=>⟨#[73]⟩
 | .bool=>⟨#[66]⟩
 | .fn a b=>(⟨#[40]⟩:ByteArray)++a.bs++(⟨#[62]⟩:ByteArray)++b.bs++(⟨#[41]⟩:ByteArray)
 | .pr a b=>(⟨#[40]⟩:ByteArray)++a.bs++(⟨#[42]⟩:ByteArray)++b.bs++(⟨#[41]⟩:ByteArray)
theorem S.bs_text : ∀s:S,s.bs=⟨s.text.toArray⟩
 | .zero=>rfl
 | .any=>rfl
 | .int=>rfl
 | .bool=>rfl
 | .fn a b=>by
  have e : ∀n:UInt8,(⟨#[n]⟩:ByteArray)=⟨[n].toArray⟩:=fun _=>rfl
  simp only [S.bs,a.bs_text,b.bs_text,S.text,e,ByteArray.mk_append_mk]
  simp
 | .pr a b=>by
  have e : ∀n:UInt8,(⟨#[n]⟩:ByteArray)=⟨[n].toArray⟩:=fun _=>rfl
  simp only [S.bs,a.bs_text,b.bs_text,S.text,e,ByteArray.mk_append_mk]
  simp
theorem S.bs_size {s:S}(h:s.dep≤4):s.bs.size≤29:=by
 rw [S.bs_text]
 have h1:=S.text_len s
 have h2:2 ^ (s.dep+1)≤2 ^ 5:=Nat.pow_le_pow_right (by omega) (by omega)
 show s.text.toArray.size≤29
 simp
 omega
def S.ofKind (k:Int)(l:List S):S:=if k=1 then .any else if k=2 then .int else if k=3 then .bool else match l with | [a,b]=>if k=4 then .fn a b else .pr a b | _=>.zero
mutual
def Ty.toS:Ty→S
 | .mk k ts=>S.ofKind k (Ty.toSs ts)
def Ty.toSs:List Ty→List S
 | []=> []
 | t :: ts=>t.toS :: Ty.toSs ts
end
theorem S.ty_toS : ∀s:S,s.ok=true→s.ty.toS=s
 | .zero,h=>by cases h
 | .any,_=>by simp [S.ty,Ty.toS,S.ofKind]
 | .int,_=>by simp [S.ty,Ty.toS,S.ofKind]
 | .bool,_=>by simp [S.ty,Ty.toS,S.ofKind]
 | .fn a b,h=>by simp [S.ok] at h;simp [S.ty,Ty.toS,Ty.toSs,S.ofKind,a.ty_toS h.1,b.ty_toS h.2]
 | .pr a b,h=>by simp [S.ok] at h;simp [S.ty,Ty.toS,Ty.toSs,S.ofKind,a.ty_toS h.1,b.ty_toS h.2]
end Go.Proofs.Ytnaoghknnenfoaa
namespace Go.Proofs.Ytnaoghknnenfoaa
open Go.RowKit
theorem ap.leaf {w:World}(k:Int):ap (fun _=>True) w (Ty.mk k []) (.agg #[.int .i64 k,.slice none 0 0]):=by
 refine⟨_,rfl,?_⟩
 unfold aF Ty.kids Ty.rows aS
 exact⟨none,0,rfl,Nat.le_refl _,by unfold maxLen;omega,.inl rfl⟩
theorem ap.parts {F:Nat→Prop}{w:World}{t:Ty}{k:Int}{c:Value}(h:ap F w t (.agg #[.int .i64 k,c])):t.kind=k∧aS F w (.sl (Ty.rows t.kids)) c:=by
 obtain⟨s,he,hs⟩:=h
 simp only [Value.agg.injEq,Array.mk.injEq,List.cons.injEq,Value.int.injEq,true_and,and_true] at he
 obtain⟨rfl,rfl⟩:=he
 exact⟨rfl,hs⟩
theorem ap.two_mk {F:Nat→Prop}{w:World}{b cap:Nat}{k:Int}{t u:Ty}{k1 k2:Int}{c1 c2:Value}(hF:F b)(hc:2≤cap)(hm:cap≤maxLen)
  (e0:w.cell? ⟨b,0,none⟩=some (.int .i64 k1)) (e1:w.cell? ⟨b,1,none⟩=some c1) (e2:w.cell? ⟨b,2,none⟩=some (.int .i64 k2)) (e3:w.cell? ⟨b,3,none⟩=some c2)
  (ht:ap F w t (.agg #[.int .i64 k1,c1])) (hu:ap F w u (.agg #[.int .i64 k2,c2])):ap F w (Ty.mk k [t,u]) (.agg #[.int .i64 k,.slice (some ⟨b,0,none⟩) 2 cap]):=by
 refine⟨_,rfl,?_⟩
 obtain⟨p1,p2⟩:=ht.parts
 obtain⟨p3,p4⟩:=hu.parts
 cases t with | mk k1' ts=>cases u with | mk k2' us=>
 simp only [Ty.kind,Ty.kids] at *
 subst p1 p3
 unfold aF aS
 refine⟨_,cap,by simp [Ty.rows_length],by rw [Ty.rows_length];simpa using hc,hm,.inr ⟨b,0,rfl,hF,World.block_lt_of_cell? _ _ e0,?_⟩⟩
 simp only [Ty.rows,Ty.row]
 unfold bl
 refine⟨?_,?_⟩
 ·unfold aU
  refine⟨⟨_,e0,by unfold aS;rfl⟩,?_⟩
  unfold aU
  exact⟨⟨_,e1,p2⟩,by unfold aU;trivial⟩
 ·unfold bl
  refine⟨?_,by unfold bl;trivial⟩
  unfold aU
  refine⟨⟨_,e2,by unfold aS;rfl⟩,?_⟩
  unfold aU
  exact⟨⟨_,e3,p4⟩,by unfold aU;trivial⟩
end Go.Proofs.Ytnaoghknnenfoaa
