/- Free names by the reference. And what else its parts name. -/
import Derived.Test.YtfhglkmjibjjoaaB19
import Derived.Test.YtfhglkmjibjjoaaB21
import Derived.Test.YtfhglkmjibjjoaaB22
import Derived.Test.YtfhglkmjibjjoaaB25
import Derived.Laws.AppendOwnNone
set_option linter.unusedSimpArgs false
set_option linter.unusedVariables false
set_option maxRecDepth 100000
set_option maxHeartbeats 16000000
namespace Go.Proofs.Ytfhglkmjibjjoaa
open Go.RowKit
theorem fH (l:List UInt8):(bs l).toList=l:=by unfold bs;exact ByteArray.toList_mk l
theorem ep (l:List UInt8)(i j:Nat):(bs l).extract i j=bs ((l.take j).drop i):=by
 apply ByteArray.ext
 unfold bs;rw[ByteArray.data_extract]
 apply Array.ext'
 simp[List.extract_eq_take_drop,List.drop_take]
theorem jX (a b:List UInt8):bs a++bs b=bs (a++b):=by
 apply ByteArray.ext
 unfold bs;rw[ByteArray.data_append]
 apply Array.ext'
 simp
theorem bs_one (l:List UInt8)(j:Nat)(h:j<l.length):((bs l).extract j (j+1)).toList = [l[j]]:=by
 rw[ep,fH,List.take_succ_eq_append_getElem h,List.drop_append_of_le_length (by simp;omega)]
 simp[List.drop_take]
theorem kq (a b:UInt8):Op.bytesLess [a] [b]=decide (a<b):=by
 simp[Op.bytesLess]
theorem oc (l:List UInt8)(x:UInt8)(w:World)(hl:l.length<=1000) :
  Calls Try.prog 92 #[.string (bs l),.string (bs [x])] w fun e w'=>e = .returned (.string (bs (dX x l)))∧Below w.heap.size w w':=by
 obtain⟨n,hn⟩ : ∃n,l.length=n:=⟨_,rfl⟩
 obtain⟨s,hs⟩ : ∃s,bs l=s:=⟨_,rfl⟩
 have hsz:s.size=n:=by rw[<-hs,jo,hn]
 have hx1:(bs [x]).size=1:=rfl;obtain⟨r,hr⟩ : ∃r,bs (dX x l)=r:=⟨_,rfl⟩
 have hex : ∀j (h:j<l.length),((s.extract j (j+1)).toList==(bs [x]).toList)=(l[j]==x):=fun j h=>by
  rw[<-hs,bs_one l j h,fH,Bool.eq_iff_iff]
  simp
 have hls : ∀j (h:j<l.length),Op.bytesLess (s.extract j (j+1)).toList (bs [x]).toList=decide (l[j]<x):=fun j h=>by
  rw[<-hs,bs_one l j h,fH,kq]
 have hsp : ∀j,j<=l.length->(∀y∈l.take j,y<x)->(∀h:j<l.length,¬l[j]<x)->¬l[j]?=some x->r=s.extract 0 j++bs [x]++s.extract j n:=fun j h1 h2 h3 h4=>by
  rw[<-hr,er x l j h1 h2 h3,if_neg h4,<-hs,ep,ep,jX,jX,<-hn,List.take_length]
  simp
 have hsp2 : ∀j,j<=l.length->(∀y∈l.take j,y<x)->(∀h:j<l.length,¬l[j]<x)->l[j]?=some x->r=s:=fun j h1 h2 h3 h4=>by
  rw[<-hr,er x l j h1 h2 h3,if_pos h4,hs]
 rw[hs,hr];have HN:=zq hn;have HX:=zq hex;have HL:=zq hls;have HS1:=zq hsp;have HS2:=zq hsp2;rw[hn] at hl;clear hn hs hr hex hls hsp hsp2
 go_enter Try.func92,Try.ntmps92
 go_wp2_with fail
 go_loopw [5] (fun i wr=>∃j:Nat,j<=n∧i = .int .i64 j∧Hid (∀y∈l.take j,y<x)∧Below w.heap.size w wr) (fun i _=>n-(intOf i).toNat)
 case atStart=>exact⟨0,by omega,rfl,by simp[Hid],Below.refl _ _⟩
 case round=>
  obtain⟨j,hj,rfl,hR,hbw⟩:=hrel;have hc1 : ∀a b:Nat,a<=n->b<=n->¬(9223372036854775807<a+1+b):=fun a b h1 h2=>by omega
  by_cases hlt:j<n
  ·have hjt:j<l.length:=by rw[HN.out];exact hlt
   have i1:=IntWalk.i64_in ((j:Int)+1) (by omega);have hx:=HX.out j hjt;have hls:=HL.out j hjt;obtain⟨z,hz⟩ : ∃z,l[j]=z:=⟨_,rfl⟩
   have htk:l.take (j+1)=l.take j ++ [z]:=by rw[List.take_succ_eq_append_getElem hjt,hz]
   have hg:l[j]?=some z:=by rw[List.getElem?_eq_getElem hjt,hz]
   have hng : ¬z<x->∀h:j<l.length,¬l[j]<x:=fun h1 h2=>by rw[hz];exact h1
   rw[hz] at hx hls;have HTK:=zq htk;have HG:=zq hg;have HNG:=zq hng;clear htk hz hg hng
   by_cases hzl:z<x
   ·rw[decide_eq_true hzl] at hls
    have HZ:=zq hzl;clear hzl
    go_wp2_with fail
    go_roundw
    case rel=>exact⟨j+1,by omega,by go_num,fun y hy=>by rw[HTK.out] at hy;rcases List.mem_append.1 hy with hy | hy;exact hR.out y hy;rw[List.mem_singleton] at hy;rw[hy];exact HZ.out,hbw⟩
    case measure=>simp[intOf];omega
   ·rw[decide_eq_false hzl] at hls
    rcases Bool.eq_false_or_eq_true (z==x) with hzx | hzx
    ·rw[hzx] at hx
     have hres:=HS2.out j (by have:=HN.out;omega) hR.out (HNG.out hzl) (by rw[HG.out,eq_of_beq hzx]);have HRES:=zq hres;clear hres hzx hzl
     go_wp2_with fail
     go_ret
     exact⟨jF HRES.out.symm,hbw⟩
    ·rw[hzx] at hx
     have hres:=HS1.out j (by have:=HN.out;omega) hR.out (HNG.out hzl) (by rw[HG.out];intro e;simp at e;subst e;simp at hzx);have HRES:=zq hres;clear hres hzx hzl
     go_wp2_with fail
     go_quiet (fail)
     go_wp2_with fail
     go_ret
     exact⟨jF HRES.out.symm,ed hbw _⟩
  ·have hjn:j=n:=by omega
   have hres:=HS1.out j (by have:=HN.out;omega) hR.out (fun h=>by have:=HN.out;omega) (by rw[List.getElem?_eq_none (by have:=HN.out;omega)];simp);have HRES:=zq hres;clear hres;subst hjn;have hse:s.extract j j=ByteArray.empty:=by apply ByteArray.ext;simp[ByteArray.data_extract]
   have HSE:=zq hse;clear hse;have hend:s.extract 0 j++bs [x]=r:=by rw[HRES.out,HSE.out];exact(ByteArray.append_empty).symm
   have HEND:=zq hend;clear hend
   go_wp2_with fail
   go_quiet (fail)
   go_wp2_with fail
   go_ret
   exact⟨jF HEND.out,ed hbw _⟩
theorem Try.infoTm2:(Try.prog.info? 28).map (fun i=>(i.zero,i.size,i.bytes))=some (some (.agg #[.int .i64 0,.string ByteArray.empty,.int .i64 0,.int .i64 0,.slice none 0 0,.int .i64 0,.slice none 0 0,.int .i64 0,.slice none 0 0]),9,128):=by kernel_rfl
theorem lw (x:UInt8) : ∀l:List UInt8,(dX x l).length<=l.length+1
 | []=>by simp[dX]
 | y::l=>by
  unfold dX;have:=lw x l
  split
  ·simp;omega
  ·split
   ·simp
   ·simp
theorem gQ {X:World}{B:Nat}(xs:List ByteArray){T:TypeId}(hB:X.heap.size=B)(Q:ByteArray->Prop)(hQ : ∀x∈xs,Q x)(i:Nat)(hi:i<xs.length) :
  ∃x,(X.alloc (.cells (xs.map Value.string).toArray T)).cell? ⟨B,i,none⟩=some (.string x)∧Q x:=by
 refine⟨xs[i],?_,hQ _ (List.getElem_mem hi)⟩;rw[ao hB]
 simp[hi]
theorem Tm.cnts_append : ∀(a b:List Tm),Tm.cnts (a++b)=Tm.cnts a+Tm.cnts b
 | [],b=>by simp[Tm.cnts]
 | t::a,b=>by
  have:=Tm.cnts_append a b;simp only[List.cons_append,Tm.cnts]
  omega
theorem aB.srep {F:Nat->Prop}{w:World}{t:Tm}{k u tk fk l:Int}{nm:ByteArray}{s1 s2 s:Value}(h:aB F w t (.agg #[.int .i64 k,.string nm,.int .i64 u,.int .i64 tk,s1,.int .i64 fk,s2,.int .i64 l,s])) :
  cn F w t.row [.int .i64 k,.string nm,.int .i64 u,.int .i64 tk,s1,.int .i64 fk,s2,.int .i64 l,s]:=by
 obtain⟨z1,z2,z,he,hn,h1,h2,h3⟩:=h;simp only[Value.agg.injEq,Array.mk.injEq,List.cons.injEq,Value.int.injEq,Value.string.injEq,true_and,and_true] at he;obtain⟨rfl,rfl,rfl,rfl,rfl,rfl,rfl,rfl,rfl⟩:=he
 cases t with | mk k nm u t f l ts=>
 have ci : ∀n:Int,aL F w (.int n) (.int .i64 n):=fun n=>by unfold aL;rfl
 unfold Tm.row
 exact⟨_,_,rfl,ci _,_,_,rfl,by unfold aL;exact⟨rfl,hn⟩,_,_,rfl,ci _,_,_,rfl,ci _,_,_,rfl,h1,_,_,rfl,ci _,_,_,rfl,h2,_,_,rfl,ci _,_,_,rfl,h3,rfl⟩
theorem aB.mk {F:Nat->Prop}{w:World}{k u l tk fk:Int}{nm:ByteArray}{t f:Ty}{ts:List Tm}{s1 s2 s:Value}(hn:nm.size<=maxLen)(h1:ai F w t (.agg #[.int .i64 tk,s1]))(h2:ai F w f (.agg #[.int .i64 fk,s2]))(h3:aN F w ts s) :
  aB F w (.mk k nm u t f l ts) (.agg #[.int .i64 k,.string nm,.int .i64 u,.int .i64 tk,s1,.int .i64 fk,s2,.int .i64 l,s]):=by
 obtain⟨z1,he1,h1⟩:=h1;obtain⟨z2,he2,h2⟩:=h2;simp only[Value.agg.injEq,Array.mk.injEq,List.cons.injEq,Value.int.injEq,true_and,and_true] at he1 he2;obtain⟨rfl,rfl⟩:=he1;obtain⟨rfl,rfl⟩:=he2
 exact⟨_,_,_,rfl,hn,h1,h2,h3⟩
theorem ai.setB {B:Nat}{w:World}{t:Ty}{y:Value}(h:ai (B <= ·) w t y){p:Addr}(hp:p.block<B)(v:Value):ai (B <= ·) (w.setCell p v) t y:=
 h.move ⟨by simp[World.setCell],fun _ h _=>h,fun b hb _=>Below.heap_setCell w p v b (by omega)⟩
theorem eb {F:Nat->Prop}{w:World}{b o:Nat}{t:Ty}{k1:Int}{c1:Value}(e0:w.cell? ⟨b,o,none⟩=some (.int .i64 k1))(e1:w.cell? ⟨b,o+1,none⟩=some c1)(ht:ai F w t (.agg #[.int .i64 k1,c1])):aP F w b o t.row:=by
 obtain⟨p1,p2⟩:=ht.parts
 cases t with | mk k1' ts=>
 simp only[Ty.kind,Ty.kids] at p1 p2;subst p1;unfold Ty.row aP;refine⟨⟨_,e0,by unfold aL;rfl⟩,?_⟩;unfold aP
 exact⟨⟨_,e1,p2⟩,by unfold aP;trivial⟩
theorem av.one_mk {F:Nat->Prop}{w:World}{b cap:Nat}{t:Ty}{k1:Int}{c1:Value}(hF:F b)(hc:1<=cap)(hm:cap<=maxLen)
  (e0:w.cell? ⟨b,0,none⟩=some (.int .i64 k1)) (e1:w.cell? ⟨b,1,none⟩=some c1) (ht:ai F w t (.agg #[.int .i64 k1,c1])):av F w [t] (.slice (some ⟨b,0,none⟩) 1 cap):=by
 unfold av aL;refine⟨_,cap,by simp[Ty.rows_length],by rw[Ty.rows_length];simpa using hc,hm,.inr ⟨b,0,rfl,hF,World.block_lt_of_cell? _ _ e0,?_⟩⟩;simp only[Ty.rows];unfold bC
 exact⟨eb e0 e1 ht,by unfold bC;trivial⟩
theorem av.two_mk {F:Nat->Prop}{w:World}{b cap:Nat}{t u:Ty}{k1 k2:Int}{c1 c2:Value}(hF:F b)(hc:2<=cap)(hm:cap<=maxLen)
  (e0:w.cell? ⟨b,0,none⟩=some (.int .i64 k1)) (e1:w.cell? ⟨b,1,none⟩=some c1) (e2:w.cell? ⟨b,2,none⟩=some (.int .i64 k2)) (e3:w.cell? ⟨b,3,none⟩=some c2)
  (ht:ai F w t (.agg #[.int .i64 k1,c1])) (hu:ai F w u (.agg #[.int .i64 k2,c2])):av F w [t,u] (.slice (some ⟨b,0,none⟩) 2 cap):=(ai.two_mk (k:=0) hF hc hm e0 e1 e2 e3 ht hu).parts.2
theorem av.three_mk {F:Nat->Prop}{w:World}{b cap:Nat}{t u s:Ty}{k1 k2 k3:Int}{c1 c2 c3:Value}(hF:F b)(hc:3<=cap)(hm:cap<=maxLen)
  (e0:w.cell? ⟨b,0,none⟩=some (.int .i64 k1)) (e1:w.cell? ⟨b,1,none⟩=some c1) (e2:w.cell? ⟨b,2,none⟩=some (.int .i64 k2)) (e3:w.cell? ⟨b,3,none⟩=some c2) (e4:w.cell? ⟨b,4,none⟩=some (.int .i64 k3)) (e5:w.cell? ⟨b,5,none⟩=some c3)
  (ht:ai F w t (.agg #[.int .i64 k1,c1])) (hu:ai F w u (.agg #[.int .i64 k2,c2])) (hs:ai F w s (.agg #[.int .i64 k3,c3])):av F w [t,u,s] (.slice (some ⟨b,0,none⟩) 3 cap):=by
 have lt:t.row.length=2:=by cases t;rfl
 have lu:u.row.length=2:=by cases u;rfl
 unfold av aL;refine⟨_,cap,by simp[Ty.rows_length],by rw[Ty.rows_length];simpa using hc,hm,.inr ⟨b,0,rfl,hF,World.block_lt_of_cell? _ _ e0,?_⟩⟩;simp only[Ty.rows];unfold bC;refine⟨eb e0 e1 ht,?_⟩;unfold bC;refine⟨eb (by rw[lt];exact e2) (by rw[lt];exact e3) hu,?_⟩;unfold bC
 exact⟨eb (by rw[lt,lu];exact e4) (by rw[lt,lu];exact e5) hs,by unfold bC;trivial⟩
theorem mT (s:Bool)(z:Int)(h0:(s)=true):(decide (z<=30):Bool)=(s&&decide (z<=30)):=by
 simp_all
theorem mU (s:Bool)(z:Int)(h0:(s)=false):(false:Bool)=(s&&decide (z<=30)):=by
 simp_all
theorem mV (s:Bool)(z:Int)(h0:(s)=true):(decide (z<=200):Bool)=(s&&decide (z<=200)):=by
 simp_all
theorem mW (s:Bool)(z:Int)(h0:(s)=false):(false:Bool)=(s&&decide (z<=200)):=by
 simp_all
theorem eI (F:Nat->Prop)(t:Tm)(y:Value)(w:World)(hy:aB F w t y) :
  Calls Try.prog 89 #[y] w fun e w'=>e = .returned (.bool (t.valid))∧Below w.heap.size w w':=by
 have h1:=fun W (h:Below w.heap.size w W)=>ik F t 12 y W (hy.below h) (by omega) (by omega);have h2:=fun(hs:t.shape 14 12=true) W (h:Below w.heap.size w W)=>eg F t 14 12 hs 12 (by omega) (by omega) y W (hy.below h);obtain⟨k,nm,u,tk,ta,tn,tq,fk,fa,fn,fq,l,c,m,q,rfl⟩:=hy.shape;unfold Tm.valid;generalize t.shape 14 12=s at *;generalize t.size=z at *;have H1:=zq h1;have H2:=zq h2;clear h1 h2 hy;obtain⟨rr,hrr⟩ : ∃rr0:Bool,(s&&decide (z<=30))=rr0:=⟨_,rfl⟩
 rw[hrr];have HT:=zq hrr;clear hrr
 go_enter Try.func89,Try.ntmps89
 rcases Bool.eq_false_or_eq_true (s) with q1 | q1
 ·have Hq1:=zq q1
  clear q1
  go_wp2_with fail
  refine(H1.out _ ag).mono ?_;rintro e w1 ⟨rfl,hb1⟩;rw[Hq1.out];have hB:=(al ag hb1)
  have zw1:=hB.size;have c0_0:w1.cell? ⟨w.heap.size,0,none⟩=some (.int .i64 k):=af hb1 (ao (by simp) 0);have c0_1:w1.cell? ⟨w.heap.size,1,none⟩=some (.string nm):=af hb1 (ao (by simp) 1);have c0_2:w1.cell? ⟨w.heap.size,2,none⟩=some (.int .i64 u):=af hb1 (ao (by simp) 2);have c0_3:w1.cell? ⟨w.heap.size,3,none⟩=some (.int .i64 tk):=af hb1 (ao (by simp) 3);have c0_4:w1.cell? ⟨w.heap.size,4,none⟩=some (.slice ta tn tq):=af hb1 (ao (by simp) 4);have c0_5:w1.cell? ⟨w.heap.size,5,none⟩=some (.int .i64 fk):=af hb1 (ao (by simp) 5);have c0_6:w1.cell? ⟨w.heap.size,6,none⟩=some (.slice fa fn fq):=af hb1 (ao (by simp) 6);have c0_7:w1.cell? ⟨w.heap.size,7,none⟩=some (.int .i64 l):=af hb1 (ao (by simp) 7);have c0_8:w1.cell? ⟨w.heap.size,8,none⟩=some (.slice c m q):=af hb1 (ao (by simp) 8);have d0_w1:=World.block_lt_of_cell? _ _ c0_0
  go_wp2_with fail
  refine(H2.out Hq1.out _ hB).mono ?_;rintro e w2 ⟨rfl,hb2⟩;replace hB:=(al hB hb2)
  have zw2:=hB.size
  go_wp2_with fail
  refine bq (.bool (decide (z<=30))) (by simp[results,Try.results89,go_sem,bne]) ?_
  exact⟨au ((mT s z Hq1.out).trans HT.out),hB⟩
 ·have Hq1:=zq q1
  clear q1
  go_wp2_with fail
  refine(H1.out _ ag).mono ?_;rintro e w3 ⟨rfl,hb3⟩;rw[Hq1.out];have hB:=(al ag hb3)
  have zw3:=hB.size
  go_wp2_with fail
  refine bq (.bool (false)) (by simp[results,Try.results89,go_sem,bne]) ?_
  exact⟨au ((mU s z Hq1.out).trans HT.out),hB⟩
theorem kW (F:Nat->Prop)(t:Tm)(y:Value)(w:World)(hy:aB F w t y) :
  Calls Try.prog 15 #[y] w fun e w'=>e = .returned (.bool (t.castValid))∧Below w.heap.size w w':=by
 have h1:=fun W (h:Below w.heap.size w W)=>im F t 40 y W (hy.below h) (by omega) (by omega);have h2:=fun(hs:t.shape 13 40=true) W (h:Below w.heap.size w W)=>eg F t 13 40 hs 40 (by omega) (by omega) y W (hy.below h);obtain⟨k,nm,u,tk,ta,tn,tq,fk,fa,fn,fq,l,c,m,q,rfl⟩:=hy.shape;unfold Tm.castValid;generalize t.shape 13 40=s at *;generalize t.size=z at *;have H1:=zq h1;have H2:=zq h2;clear h1 h2 hy;obtain⟨rr,hrr⟩ : ∃rr0:Bool,(s&&decide (z<=200))=rr0:=⟨_,rfl⟩
 rw[hrr];have HT:=zq hrr;clear hrr
 go_enter Try.func15,Try.ntmps15
 rcases Bool.eq_false_or_eq_true (s) with q1 | q1
 ·have Hq1:=zq q1
  clear q1
  go_wp2_with fail
  refine(H1.out _ ag).mono ?_;rintro e w1 ⟨rfl,hb1⟩;rw[Hq1.out];have hB:=(al ag hb1)
  have zw1:=hB.size;have c0_0:w1.cell? ⟨w.heap.size,0,none⟩=some (.int .i64 k):=af hb1 (ao (by simp) 0);have c0_1:w1.cell? ⟨w.heap.size,1,none⟩=some (.string nm):=af hb1 (ao (by simp) 1);have c0_2:w1.cell? ⟨w.heap.size,2,none⟩=some (.int .i64 u):=af hb1 (ao (by simp) 2);have c0_3:w1.cell? ⟨w.heap.size,3,none⟩=some (.int .i64 tk):=af hb1 (ao (by simp) 3);have c0_4:w1.cell? ⟨w.heap.size,4,none⟩=some (.slice ta tn tq):=af hb1 (ao (by simp) 4);have c0_5:w1.cell? ⟨w.heap.size,5,none⟩=some (.int .i64 fk):=af hb1 (ao (by simp) 5);have c0_6:w1.cell? ⟨w.heap.size,6,none⟩=some (.slice fa fn fq):=af hb1 (ao (by simp) 6);have c0_7:w1.cell? ⟨w.heap.size,7,none⟩=some (.int .i64 l):=af hb1 (ao (by simp) 7);have c0_8:w1.cell? ⟨w.heap.size,8,none⟩=some (.slice c m q):=af hb1 (ao (by simp) 8);have d0_w1:=World.block_lt_of_cell? _ _ c0_0
  go_wp2_with fail
  refine(H2.out Hq1.out _ hB).mono ?_;rintro e w2 ⟨rfl,hb2⟩;replace hB:=(al hB hb2)
  have zw2:=hB.size
  go_wp2_with fail
  refine bq (.bool (decide (z<=200))) (by simp[results,Try.results15,go_sem,bne]) ?_
  exact⟨au ((mV s z Hq1.out).trans HT.out),hB⟩
 ·have Hq1:=zq q1
  clear q1
  go_wp2_with fail
  refine(H1.out _ ag).mono ?_;rintro e w3 ⟨rfl,hb3⟩;rw[Hq1.out];have hB:=(al ag hb3)
  have zw3:=hB.size
  go_wp2_with fail
  refine bq (.bool (false)) (by simp[results,Try.results15,go_sem,bne]) ?_
  exact⟨au ((mW s z Hq1.out).trans HT.out),hB⟩
def hasT (k:Int):Bool:=k==5||k==13
mutual
def Tm.tys:Tm->List Ty
 | .mk k _ _ t _ _ ts=>(if hasT k then [t] else [])++Tm.tyss ts
def Tm.tyss:List Tm->List Ty
 | []=> []
 | t::ts=>t.tys++Tm.tyss ts
end
theorem bE.append {w:World} : ∀ {r1 r2:List (List C)} {x1 x2:List Value} {f1 f2:List Nat},bE w r1 x1 f1->bE w r2 x2 f2->bE w (r1++r2) (x1++x2) (f1++f2)
 | [],r2,_,x2,_,f2,⟨h1,h2⟩,h=>by subst h1 h2;exact h
 | r::r1,r2,_,x2,_,f2,⟨ys,xs',g1,g2,e1,e2,h1,h2⟩,h=>by
  subst e1 e2
  exact⟨ys,xs'++x2,g1,g2++f2,by simp,by simp,h1,bE.append h2 h⟩
theorem aQ.one {w:World} : ∀ {c:C} {y:Value} {fp:List Nat},aQ w c y fp->y.oneCell'=true
 | .int _,_,_,h=>by unfold aQ at h;rw[h.1];rfl
 | .str _,_,_,h=>by unfold aQ at h;rw[h.1];rfl
 | .sl _,_,_,h=>by unfold aQ at h;obtain⟨a,q,h,-⟩:=h;rw[h];rfl
theorem bL.one {w:World} : ∀ {r:List C} {ys:List Value} {fp:List Nat},bL w r ys fp->∀y∈ys,y.oneCell'=true
 | [],_,_,⟨h,_⟩,y,hy=>by subst h;cases hy
 | c::cs,_,_,⟨z,zs,f1,f2,e,_,h1,h2⟩,y,hy=>by
  subst e
  rcases List.mem_cons.1 hy with rfl | hy
  ·exact h1.one
  ·exact bL.one h2 y hy
theorem bE.one {w:World} : ∀ {rs:List (List C)} {ys:List Value} {fp:List Nat},bE w rs ys fp->∀y∈ys,y.oneCell'=true
 | [],_,_,⟨h,_⟩,y,hy=>by subst h;cases hy
 | r::rs,_,_,⟨y1,x',f1,f2,e,_,h1,h2⟩,y,hy=>by
  subst e
  rcases List.mem_append.1 hy with hy | hy
  ·exact h1.one y hy
  ·exact bE.one h2 y hy
theorem aS.mono {B B' n size:Nat}{e:TypeId}{w:World}{v:Value}{rows:List (List C)}(h:aS B e size w v n rows)(hb:B'<=B):aS B' e size w v n rows:=by
 obtain⟨xs,fps,⟨h0,h1⟩,h2,h3,h4,h5⟩:=h;refine⟨xs,fps,⟨h0,?_⟩,h2,h3,h4,fun x hx=>⟨Nat.le_trans hb (h5 x hx).1,(h5 x hx).2⟩⟩
 rcases h1 with h1 | ⟨g,cap,cur,e1,e2,e3⟩
 ·exact .inl h1
 ·exact .inr ⟨g,cap,cur,e1,Nat.le_trans hb e2,e3⟩
theorem du (Q:Nat->Prop)(kk k1 k2:Int)(t u:Ty)(a1 a2:Option Addr)(n1 q1 n2 q2:Nat)(w:World)(h1:ai Q w t (.agg #[.int .i64 k1,.slice a1 n1 q1]))(h2:ai Q w u (.agg #[.int .i64 k2,.slice a2 n2 q2])) :
  Calls Try.prog 51 #[.int .i64 kk,.agg #[.int .i64 k1,.slice a1 n1 q1],.agg #[.int .i64 k2,.slice a2 n2 q2]] w fun e w'=>∃(a:Option Addr) (n q:Nat),e = .returned (.agg #[.int .i64 kk,.slice a n q])∧ai (fun x=>Q x∨w.heap.size<=x) w' (.mk kk [t,u]) (.agg #[.int .i64 kk,.slice a n q])∧Below w.heap.size w w':=by
 have H1:=zq h1;have H2:=zq h2;clear h1 h2
 go_enter Try.func51,Try.ntmps51
 go_wp2_with fail
 refine bq (.agg #[.int .i64 kk,.slice (some ⟨w.heap.size+1+1+1,0,none⟩) 2 2]) (by simp[results,Try.results51,go_sem]) ?_;refine⟨_,_,_,rfl,?_,al bG ag⟩;have hb : ∀o1 o2 o3 o4,Below w.heap.size w ((((w.alloc o1).alloc o2).alloc o3).alloc o4):=fun _ _ _ _=>al bG ag;have r1:=(H1.out.below (hb (.cells #[.int .i64 k1,.slice a1 n1 q1] 25) (.cells #[.int .i64 k2,.slice a2 n2 q2] 25) (.cells #[.int .i64 kk,.slice (some ⟨w.heap.size+1+1+1,0,none⟩) 2 2] 25) (.cells #[.int .i64 k1,.slice a1 n1 q1,.int .i64 k2,.slice a2 n2 q2] 25))).move (.weaken (G:=fun x=>Q x∨w.heap.size<=x) fun b h _=>.inl h);have r2:=(H2.out.below (hb (.cells #[.int .i64 k1,.slice a1 n1 q1] 25) (.cells #[.int .i64 k2,.slice a2 n2 q2] 25) (.cells #[.int .i64 kk,.slice (some ⟨w.heap.size+1+1+1,0,none⟩) 2 2] 25) (.cells #[.int .i64 k1,.slice a1 n1 q1,.int .i64 k2,.slice a2 n2 q2] 25))).move (.weaken (G:=fun x=>Q x∨w.heap.size<=x) fun b h _=>.inl h);have fN:=aA (w:=((w.alloc (.cells #[.int .i64 k1,.slice a1 n1 q1] 25)).alloc (.cells #[.int .i64 k2,.slice a2 n2 q2] 25)).alloc (.cells #[.int .i64 kk,.slice (some ⟨w.heap.size+1+1+1,0,none⟩) 2 2] 25)) (o:=.cells #[.int .i64 k1,.slice a1 n1 q1,.int .i64 k2,.slice a2 n2 q2] 25) (b:=w.heap.size+1+1+1) (by simp)
 exact ai.two_mk (b:=w.heap.size+1+1+1) (cap:=2) (k:=kk) (t:=t) (u:=u) (k1:=k1) (k2:=k2) (c1:=.slice a1 n1 q1) (c2:=.slice a2 n2 q2) (.inr (by omega)) (Nat.le_refl 2) (by unfold maxLen;omega) (ah fN (o:=0) rfl) (ah fN (o:=1) rfl) (ah fN (o:=2) rfl) (ah fN (o:=3) rfl) r1 r2
theorem ky (F G:Nat->Prop)(t u:Ty)(y z:Value)(w:World)(h1:ai F w t y)(h2:ai G w u z)(hk1:t.kind=1)(hc:u.cnt<=1048576) :
  Calls Try.prog 53 #[y,z] w (cJ u w):=by
 obtain⟨k1,a1,n1,q1,rfl⟩:=h1.shape;obtain⟨k2,a2,n2,q2,rfl⟩:=h2.shape;obtain rfl:k1=1:=by obtain⟨s,he,-⟩:=h1;simp at he;rw[he.1];exact hk1
 have HCu:=zq hc
 go_enter Try.func53,Try.ntmps53
 go_wp2_with fail
 refine(dm _ u _ _ (h2.below bG) HCu.out).mono ?_;rintro e w1 ⟨v1,rfl,hv1,hb1⟩;obtain⟨kr1,ar1,nr1,qr1,rfl⟩:=hv1.shape;have hB:=(al bG hb1)
 have zw1:=hB.size;have f2_0:w1.frozen? ⟨w.heap.size+1+1,0,none⟩=false:=aG hb1 (ao (by simp) 0) (bT (by simp) 0);have f2_1:w1.frozen? ⟨w.heap.size+1+1,1,none⟩=false:=aG hb1 (ao (by simp) 1) (bT (by simp) 1);have c2_0:w1.cell? ⟨w.heap.size+1+1,0,none⟩=some (.int .i64 0):=af hb1 (ao (by simp) 0);have c2_1:w1.cell? ⟨w.heap.size+1+1,1,none⟩=some (.slice none 0 0):=af hb1 (ao (by simp) 1);have d2_w1:=World.block_lt_of_cell? _ _ c2_0
 go_wp2_with fail
 refine bq (.agg #[.int .i64 kr1,.slice ar1 nr1 qr1]) (by simp[results,Try.results53,go_sem,c2_0,c2_1]) ?_
 exact⟨_,rfl,bp.mono ((hv1.setCell (by first | (show w.heap.size+1+1<_;omega) | (show w.heap.size+1+1<_;simp;omega) | simp) _).setCell (by first | (show w.heap.size+1+1<_;omega) | (show w.heap.size+1+1<_;simp;omega) | simp) _) (by first | exact Nat.le_refl _ | omega | (simp;done) | (simp;omega)),((hB.setCell (by show w.heap.size<=w.heap.size+1+1;omega) _).setCell (by show w.heap.size<=w.heap.size+1+1;omega) _)⟩
theorem dN (F G:Nat->Prop)(t u:Ty)(y z:Value)(w:World)(h1:ai F w t y)(h2:ai G w u z)(hk1:t.kind≠1)(hk2:u.kind=1)(hc:t.cnt<=1048576) :
  Calls Try.prog 53 #[y,z] w (cJ t w):=by
 obtain⟨k1,a1,n1,q1,rfl⟩:=h1.shape;obtain⟨k2,a2,n2,q2,rfl⟩:=h2.shape;have hkb:(k1==1)=false:=by obtain⟨s,he,-⟩:=h1;simp at he;rw[he.1];simpa using hk1
 obtain rfl:k2=1:=by obtain⟨s,he,-⟩:=h2;simp at he;rw[he.1];exact hk2
 have HCt:=zq hc;clear hk1
 go_enter Try.func53,Try.ntmps53
 go_wp2_with fail
 refine(dm _ t _ _ (h1.below bG) HCt.out).mono ?_;rintro e w1 ⟨v1,rfl,hv1,hb1⟩;obtain⟨kr1,ar1,nr1,qr1,rfl⟩:=hv1.shape;have hB:=(al bG hb1)
 have zw1:=hB.size;have f2_0:w1.frozen? ⟨w.heap.size+1+1,0,none⟩=false:=aG hb1 (ao (by simp) 0) (bT (by simp) 0);have f2_1:w1.frozen? ⟨w.heap.size+1+1,1,none⟩=false:=aG hb1 (ao (by simp) 1) (bT (by simp) 1);have c2_0:w1.cell? ⟨w.heap.size+1+1,0,none⟩=some (.int .i64 0):=af hb1 (ao (by simp) 0);have c2_1:w1.cell? ⟨w.heap.size+1+1,1,none⟩=some (.slice none 0 0):=af hb1 (ao (by simp) 1);have d2_w1:=World.block_lt_of_cell? _ _ c2_0
 go_wp2_with fail
 refine bq (.agg #[.int .i64 kr1,.slice ar1 nr1 qr1]) (by simp[results,Try.results53,go_sem,c2_0,c2_1]) ?_
 exact⟨_,rfl,bp.mono ((hv1.setCell (by first | (show w.heap.size+1+1<_;omega) | (show w.heap.size+1+1<_;simp;omega) | simp) _).setCell (by first | (show w.heap.size+1+1<_;omega) | (show w.heap.size+1+1<_;simp;omega) | simp) _) (by first | exact Nat.le_refl _ | omega | (simp;done) | (simp;omega)),((hB.setCell (by show w.heap.size<=w.heap.size+1+1;omega) _).setCell (by show w.heap.size<=w.heap.size+1+1;omega) _)⟩
theorem kA (F G:Nat->Prop)(t u:Ty)(y z:Value)(w:World)(h1:ai F w t y)(h2:ai G w u z)(hk1:t.kind≠1)(hk2:u.kind≠1)(hn:t.kids = [])(hc:t.cnt<=1048576) :
  Calls Try.prog 53 #[y,z] w (cJ t w):=by
 obtain⟨k1,a1,n1,q1,rfl⟩:=h1.shape;obtain⟨k2,a2,n2,q2,rfl⟩:=h2.shape;obtain rfl:n1=0:=by obtain⟨s,he,hs⟩:=h1;simp at he;obtain⟨_,_,he2,-⟩:=hs.open;rw[he2] at he;simp at he;rw[he.2.2.1,hn];rfl
 have hkb:(k1==1)=false:=by obtain⟨s,he,-⟩:=h1;simp at he;rw[he.1];simpa using hk1
 have hlb:(k2==1)=false:=by obtain⟨s,he,-⟩:=h2;simp at he;rw[he.1];simpa using hk2
 have HCt:=zq hc;clear hk1 hk2
 go_enter Try.func53,Try.ntmps53
 go_wp2_with fail
 refine(dm _ t _ _ (h1.below bG) HCt.out).mono ?_;rintro e w1 ⟨v1,rfl,hv1,hb1⟩;obtain⟨kr1,ar1,nr1,qr1,rfl⟩:=hv1.shape;have hB:=(al bG hb1)
 have zw1:=hB.size;have f2_0:w1.frozen? ⟨w.heap.size+1+1,0,none⟩=false:=aG hb1 (ao (by simp) 0) (bT (by simp) 0);have f2_1:w1.frozen? ⟨w.heap.size+1+1,1,none⟩=false:=aG hb1 (ao (by simp) 1) (bT (by simp) 1);have c2_0:w1.cell? ⟨w.heap.size+1+1,0,none⟩=some (.int .i64 0):=af hb1 (ao (by simp) 0);have c2_1:w1.cell? ⟨w.heap.size+1+1,1,none⟩=some (.slice none 0 0):=af hb1 (ao (by simp) 1);have d2_w1:=World.block_lt_of_cell? _ _ c2_0
 go_wp2_with fail
 refine bq (.agg #[.int .i64 kr1,.slice ar1 nr1 qr1]) (by simp[results,Try.results53,go_sem,c2_0,c2_1]) ?_
 exact⟨_,rfl,bp.mono ((hv1.setCell (by first | (show w.heap.size+1+1<_;omega) | (show w.heap.size+1+1<_;simp;omega) | simp) _).setCell (by first | (show w.heap.size+1+1<_;omega) | (show w.heap.size+1+1<_;simp;omega) | simp) _) (by first | exact Nat.le_refl _ | omega | (simp;done) | (simp;omega)),((hB.setCell (by show w.heap.size<=w.heap.size+1+1;omega) _).setCell (by show w.heap.size<=w.heap.size+1+1;omega) _)⟩
theorem fQ (F G:Nat->Prop)(k:Int)(t1 t2 u1 u2 r1 r2:Ty)(y z:Value)(w:World)
  (hy:ai F w (.mk k [t1,t2]) y) (hz:ai G w (.mk k [u1,u2]) z) (hk:(k==1)=false)
  (IH1 : ∀(W:World) (y z:Value),ai F W t1 y->ai G W u1 z->Calls Try.prog 53 #[y,z] W (cJ r1 W))
  (IH2 : ∀(W:World) (y z:Value),ai F W t2 y->ai G W u2 z->Calls Try.prog 53 #[y,z] W (cJ r2 W)) :
  Calls Try.prog 53 #[y,z] w (cJ (.mk k [r1,r2]) w):=by
 obtain⟨ys,rfl,hys⟩:=hy;obtain⟨zs,rfl,hzs⟩:=hz;obtain⟨b,off,cap,k1,c1,m1,q1,k2,c2,m2,q2,rfl,g2,g3,hb,e0,e1,e2,e3,ht1,ht2⟩:=av.two hys;obtain⟨b',off',cap',k1',c1',m1',q1',k2',c2',m2',q2',rfl,g2',g3',hb',e0',e1',e2',e3',ht1',ht2'⟩:=av.two hzs;simp only[Ty.kind,Ty.kids] at *;have H1:=zq IH1;have H2:=zq IH2;clear IH1 IH2 hys hzs
 go_enter Try.func53,Try.ntmps53
 go_wp2_with fail
 have s0_:(World.alloc (World.alloc (World.alloc w (Obj.cells #[.int .i64 k,.slice (some ⟨b,off,none⟩) 2 cap] 25)) (Obj.cells #[.int .i64 k,.slice (some ⟨b',off',none⟩) 2 cap'] 25)) (Obj.cells #[.int .i64 0,.slice none 0 0] 25)).cell? ⟨w.heap.size,0,none⟩=some (.int .i64 k):=af ag (af ag (ao (by simp) 0));have s1_:(World.alloc (World.alloc (World.alloc w (Obj.cells #[.int .i64 k,.slice (some ⟨b,off,none⟩) 2 cap] 25)) (Obj.cells #[.int .i64 k,.slice (some ⟨b',off',none⟩) 2 cap'] 25)) (Obj.cells #[.int .i64 0,.slice none 0 0] 25)).cell? ⟨w.heap.size,1,none⟩=some (.slice (some ⟨b,off,none⟩) 2 cap):=af ag (af ag (ao (by simp) 1));have s2_:(World.alloc (World.alloc (World.alloc w (Obj.cells #[.int .i64 k,.slice (some ⟨b,off,none⟩) 2 cap] 25)) (Obj.cells #[.int .i64 k,.slice (some ⟨b',off',none⟩) 2 cap'] 25)) (Obj.cells #[.int .i64 0,.slice none 0 0] 25)).cell? ⟨b,off,none⟩=some (.int .i64 k1):=af ag (af ag (af ag (e0)));have s3_:(World.alloc (World.alloc (World.alloc w (Obj.cells #[.int .i64 k,.slice (some ⟨b,off,none⟩) 2 cap] 25)) (Obj.cells #[.int .i64 k,.slice (some ⟨b',off',none⟩) 2 cap'] 25)) (Obj.cells #[.int .i64 0,.slice none 0 0] 25)).cell? ⟨b,off+1,none⟩=some (.slice c1 m1 q1):=af ag (af ag (af ag (e1)));have s4_:(World.alloc (World.alloc (World.alloc w (Obj.cells #[.int .i64 k,.slice (some ⟨b,off,none⟩) 2 cap] 25)) (Obj.cells #[.int .i64 k,.slice (some ⟨b',off',none⟩) 2 cap'] 25)) (Obj.cells #[.int .i64 0,.slice none 0 0] 25)).cell? ⟨w.heap.size+1,1,none⟩=some (.slice (some ⟨b',off',none⟩) 2 cap'):=af ag (ao (by simp) 1);have s5_:(World.alloc (World.alloc (World.alloc w (Obj.cells #[.int .i64 k,.slice (some ⟨b,off,none⟩) 2 cap] 25)) (Obj.cells #[.int .i64 k,.slice (some ⟨b',off',none⟩) 2 cap'] 25)) (Obj.cells #[.int .i64 0,.slice none 0 0] 25)).cell? ⟨b',off',none⟩=some (.int .i64 k1'):=af ag (af ag (af ag (e0')));have s6_:(World.alloc (World.alloc (World.alloc w (Obj.cells #[.int .i64 k,.slice (some ⟨b,off,none⟩) 2 cap] 25)) (Obj.cells #[.int .i64 k,.slice (some ⟨b',off',none⟩) 2 cap'] 25)) (Obj.cells #[.int .i64 0,.slice none 0 0] 25)).cell? ⟨b',off'+1,none⟩=some (.slice c1' m1' q1'):=af ag (af ag (af ag (e1')));have s7_:(World.alloc (World.alloc (World.alloc w (Obj.cells #[.int .i64 k,.slice (some ⟨b,off,none⟩) 2 cap] 25)) (Obj.cells #[.int .i64 k,.slice (some ⟨b',off',none⟩) 2 cap'] 25)) (Obj.cells #[.int .i64 0,.slice none 0 0] 25)).cell? ⟨b,off+2,none⟩=some (.int .i64 k2):=af ag (af ag (af ag (e2)));have s8_:(World.alloc (World.alloc (World.alloc w (Obj.cells #[.int .i64 k,.slice (some ⟨b,off,none⟩) 2 cap] 25)) (Obj.cells #[.int .i64 k,.slice (some ⟨b',off',none⟩) 2 cap'] 25)) (Obj.cells #[.int .i64 0,.slice none 0 0] 25)).cell? ⟨b,off+3,none⟩=some (.slice c2 m2 q2):=af ag (af ag (af ag (e3)))
 have s9_:(World.alloc (World.alloc (World.alloc w (Obj.cells #[.int .i64 k,.slice (some ⟨b,off,none⟩) 2 cap] 25)) (Obj.cells #[.int .i64 k,.slice (some ⟨b',off',none⟩) 2 cap'] 25)) (Obj.cells #[.int .i64 0,.slice none 0 0] 25)).cell? ⟨b',off'+2,none⟩=some (.int .i64 k2'):=af ag (af ag (af ag (e2')));have s10_:(World.alloc (World.alloc (World.alloc w (Obj.cells #[.int .i64 k,.slice (some ⟨b,off,none⟩) 2 cap] 25)) (Obj.cells #[.int .i64 k,.slice (some ⟨b',off',none⟩) 2 cap'] 25)) (Obj.cells #[.int .i64 0,.slice none 0 0] 25)).cell? ⟨b',off'+3,none⟩=some (.slice c2' m2' q2'):=af ag (af ag (af ag (e3')))
 go_region_held3 (fun w'=>w'.cell? ⟨w.heap.size,0,none⟩=some (.int .i64 k)∧w'.cell? ⟨w.heap.size,1,none⟩=some (.slice (some ⟨b,off,none⟩) 2 cap)∧w'.cell? ⟨b,off,none⟩=some (.int .i64 k1)∧w'.cell? ⟨b,off+1,none⟩=some (.slice c1 m1 q1)∧w'.cell? ⟨w.heap.size+1,1,none⟩=some (.slice (some ⟨b',off',none⟩) 2 cap')∧w'.cell? ⟨b',off',none⟩=some (.int .i64 k1')∧w'.cell? ⟨b',off'+1,none⟩=some (.slice c1' m1' q1')∧w'.cell? ⟨b,off+2,none⟩=some (.int .i64 k2)∧w'.cell? ⟨b,off+3,none⟩=some (.slice c2 m2 q2)∧w'.cell? ⟨b',off'+2,none⟩=some (.int .i64 k2')∧w'.cell? ⟨b',off'+3,none⟩=some (.slice c2' m2' q2'))
  (first | with_reducible exact⟨ap (s0_),ap (s1_),ap (s2_),ap (s3_),ap (s4_),ap (s5_),ap (s6_),ap (s7_),ap (s8_),ap (s9_),ap (s10_)⟩ | with_reducible exact⟨af hb1 (ap (s0_)),af hb1 (ap (s1_)),af hb1 (ap (s2_)),af hb1 (ap (s3_)),af hb1 (ap (s4_)),af hb1 (ap (s5_)),af hb1 (ap (s6_)),af hb1 (ap (s7_)),af hb1 (ap (s8_)),af hb1 (ap (s9_)),af hb1 (ap (s10_))⟩ | with_reducible exact⟨af hb2 (af hb1 (ap (s0_))),af hb2 (af hb1 (ap (s1_))),af hb2 (af hb1 (ap (s2_))),af hb2 (af hb1 (ap (s3_))),af hb2 (af hb1 (ap (s4_))),af hb2 (af hb1 (ap (s5_))),af hb2 (af hb1 (ap (s6_))),af hb2 (af hb1 (ap (s7_))),af hb2 (af hb1 (ap (s8_))),af hb2 (af hb1 (ap (s9_))),af hb2 (af hb1 (ap (s10_)))⟩ | with_reducible exact⟨af hb3 (af hb2 (af hb1 (ap (s0_)))),af hb3 (af hb2 (af hb1 (ap (s1_)))),af hb3 (af hb2 (af hb1 (ap (s2_)))),af hb3 (af hb2 (af hb1 (ap (s3_)))),af hb3 (af hb2 (af hb1 (ap (s4_)))),af hb3 (af hb2 (af hb1 (ap (s5_)))),af hb3 (af hb2 (af hb1 (ap (s6_)))),af hb3 (af hb2 (af hb1 (ap (s7_)))),af hb3 (af hb2 (af hb1 (ap (s8_)))),af hb3 (af hb2 (af hb1 (ap (s9_)))),af hb3 (af hb2 (af hb1 (ap (s10_))))⟩ | with_reducible exact⟨aT (aT (af hb3 (af hb2 (af hb1 (ap (s0_))))) (by show w.heap.size≠w.heap.size+1+1;omega)) (by show w.heap.size≠w.heap.size+1+1;omega),aT (aT (af hb3 (af hb2 (af hb1 (ap (s1_))))) (by show w.heap.size≠w.heap.size+1+1;omega)) (by show w.heap.size≠w.heap.size+1+1;omega),aT (aT (af hb3 (af hb2 (af hb1 (ap (s2_))))) (by show b≠w.heap.size+1+1;omega)) (by show b≠w.heap.size+1+1;omega),aT (aT (af hb3 (af hb2 (af hb1 (ap (s3_))))) (by show b≠w.heap.size+1+1;omega)) (by show b≠w.heap.size+1+1;omega),aT (aT (af hb3 (af hb2 (af hb1 (ap (s4_))))) (by show w.heap.size+1≠w.heap.size+1+1;omega)) (by show w.heap.size+1≠w.heap.size+1+1;omega),aT (aT (af hb3 (af hb2 (af hb1 (ap (s5_))))) (by show b'≠w.heap.size+1+1;omega)) (by show b'≠w.heap.size+1+1;omega),aT (aT (af hb3 (af hb2 (af hb1 (ap (s6_))))) (by show b'≠w.heap.size+1+1;omega)) (by show b'≠w.heap.size+1+1;omega),aT (aT (af hb3 (af hb2 (af hb1 (ap (s7_))))) (by show b≠w.heap.size+1+1;omega)) (by show b≠w.heap.size+1+1;omega),aT (aT (af hb3 (af hb2 (af hb1 (ap (s8_))))) (by show b≠w.heap.size+1+1;omega)) (by show b≠w.heap.size+1+1;omega),aT (aT (af hb3 (af hb2 (af hb1 (ap (s9_))))) (by show b'≠w.heap.size+1+1;omega)) (by show b'≠w.heap.size+1+1;omega),aT (aT (af hb3 (af hb2 (af hb1 (ap (s10_))))) (by show b'≠w.heap.size+1+1;omega)) (by show b'≠w.heap.size+1+1;omega)⟩)
  (first | (go_at_call 53;((with_reducible refine(H1.out _ _ _ (ht1.below bG.drew) (ht1'.below bG.drew)).mono ?_);rintro e w1 ⟨v1,rfl,hv1,hb1⟩;obtain⟨kr1,ar1,nr1,qr1,rfl⟩:=hv1.shape)) | (go_at_call 53;((with_reducible refine(H2.out _ _ _ (ht2.below (al bG.drew hb1)) (ht2'.below (al bG.drew hb1))).mono ?_);rintro e w2 ⟨v2,rfl,hv2,hb2⟩;obtain⟨kr2,ar2,nr2,qr2,rfl⟩:=hv2.shape)) | (go_at_call 51;((with_reducible refine(nV k hv1 hb1 hv2 hb2).mono ?_);rintro e w3 ⟨v3,rfl,hv3,hb3⟩;obtain⟨kr3,ar3,nr3,qr3,rfl⟩:=hv3.shape;have f2_0:w3.frozen? ⟨w.heap.size+1+1,0,none⟩=false:=aG hb3 (af hb2 (af hb1 (ap (ao (by simp) 0)))) (aG hb2 (af hb1 (ap (ao (by simp) 0))) (aG hb1 (ap (ao (by simp) 0)) (ee (bT (by simp) 0))));have c2_0':w3.cell? ⟨w.heap.size+1+1,0,none⟩=some (.int .i64 0):=af hb3 (af hb2 (af hb1 (ap (ao (by simp) 0))));have d2_:=World.block_lt_of_cell? _ _ c2_0';have f2_1:w3.frozen? ⟨w.heap.size+1+1,1,none⟩=false:=aG hb3 (af hb2 (af hb1 (ap (ao (by simp) 1)))) (aG hb2 (af hb1 (ap (ao (by simp) 1))) (aG hb1 (ap (ao (by simp) 1)) (ee (bT (by simp) 1))));have c2_1':w3.cell? ⟨w.heap.size+1+1,1,none⟩=some (.slice none 0 0):=af hb3 (af hb2 (af hb1 (ap (ao (by simp) 1))));have d2_:=World.block_lt_of_cell? _ _ c2_1')))
 clear s0_ s1_ s2_ s3_ s4_ s5_ s6_ s7_ s8_ s9_ s10_;have hB:=(al (al (al bG.drew hb1) hb2) hb3)
 have zw3:=hB.size;have c2_0:w3.cell? ⟨w.heap.size+1+1,0,none⟩=some (.int .i64 0):=af hb3 (af hb2 (af hb1 (ap (ao (by simp) 0))));have c2_1:w3.cell? ⟨w.heap.size+1+1,1,none⟩=some (.slice none 0 0):=af hb3 (af hb2 (af hb1 (ap (ao (by simp) 1))));have d2_w3:=World.block_lt_of_cell? _ _ c2_0
 go_wp2_with fail
 refine bq (.agg #[.int .i64 kr3,.slice ar3 nr3 qr3]) (by simp[results,Try.results53,go_sem,c2_0,c2_1]) ?_
 exact⟨_,rfl,bp.mono ((hv3.setCell (by first | (show w.heap.size+1+1<_;omega) | (show w.heap.size+1+1<_;simp;omega) | simp) _).setCell (by first | (show w.heap.size+1+1<_;omega) | (show w.heap.size+1+1<_;simp;omega) | simp) _) (by first | exact Nat.le_refl _ | omega | (simp;done) | (simp;omega)),((hB.setCell (by show w.heap.size<=w.heap.size+1+1;omega) _).setCell (by show w.heap.size<=w.heap.size+1+1;omega) _)⟩
theorem dl (F G:Nat->Prop)(s:S)(hl:s.leaf=true) : ∀(u:S) (y z:Value) (w:World),ai F w s.ty y->ai G w u.ty z->u.cnt<=1048576->s.cons u=true ->
  Calls Try.prog 53 #[y,z] w (cJ (s.meet u).ty w):=by
 intro u y z w hy hz hu hc;have h0:s.ty.cnt<=1048576:=by rw[S.leaf_ty hl];simp[Ty.cnt,Ty.cnts]
 by_cases h1:s = .any
 ·subst h1
  rw[S.any_meet]
  exact ky F G _ _ y z w hy hz rfl (by rw[S.ty_cnt];exact hu)
 ·have hm:s.meet u=s:=by cases s<;>simp[S.leaf] at hl h1<;>cases u<;>rfl
  rw[hm]
  by_cases h2:u = .any
  ·subst h2
   exact dN F G _ _ y z w hy hz (by cases s<;>simp[S.leaf,S.ty,Ty.kind] at hl h1 ⊢) rfl h0
  ·exact kA F G _ _ y z w hy hz (by cases s<;>simp[S.leaf,S.ty,Ty.kind] at hl h1 ⊢) (by cases u<;>simp[S.ty,Ty.kind] at h2 ⊢) (by rw[S.leaf_ty hl];rfl) h0
theorem lf (F G:Nat->Prop)(s:S) : ∀(u:S) (y z:Value) (w:World),ai F w s.ty y->ai G w u.ty z->s.cnt<=1048576->u.cnt<=1048576->s.cons u=true ->
  Calls Try.prog 53 #[y,z] w (cJ (s.meet u).ty w):=by
 induction s with
 | fn a b ha hb=>
  intro u y z w hy hz hs hu hc
  cases u<;>simp[S.cons] at hc
  ·exact dN F G (S.fn a b).ty S.any.ty y z w hy hz (by simp[S.ty,Ty.kind]) rfl (by rw[S.ty_cnt];exact hs)
  ·rename_i c d
   simp only[S.cnt] at hs hu
   exact fQ F G 4 a.ty b.ty c.ty d.ty _ _ y z w hy hz rfl (fun W y z p q=>ha c y z W p q (by omega) (by omega) hc.1) (fun W y z p q=>hb d y z W p q (by omega) (by omega) hc.2)
 | pr a b ha hb=>
  intro u y z w hy hz hs hu hc
  cases u<;>simp[S.cons] at hc
  ·exact dN F G (S.pr a b).ty S.any.ty y z w hy hz (by simp[S.ty,Ty.kind]) rfl (by rw[S.ty_cnt];exact hs)
  ·rename_i c d
   simp only[S.cnt] at hs hu
   exact fQ F G 5 a.ty b.ty c.ty d.ty _ _ y z w hy hz rfl (fun W y z p q=>ha c y z W p q (by omega) (by omega) hc.1) (fun W y z p q=>hb d y z W p q (by omega) (by omega) hc.2)
 | zero=>exact fun u y z w hy hz _ hu hc=>dl F G _ rfl u y z w hy hz hu hc
 | any=>exact fun u y z w hy hz _ hu hc=>dl F G _ rfl u y z w hy hz hu hc
 | int=>exact fun u y z w hy hz _ hu hc=>dl F G _ rfl u y z w hy hz hu hc
 | bool=>exact fun u y z w hy hz _ hu hc=>dl F G _ rfl u y z w hy hz hu hc
theorem S.vd_cntM {s:S}(h:s.vd=true):s.cnt<=1048576:=by rw[<-S.ty_cnt];exact Ty.cnt_valid (by rw[S.valid];exact h)
end Go.Proofs.Ytfhglkmjibjjoaa
