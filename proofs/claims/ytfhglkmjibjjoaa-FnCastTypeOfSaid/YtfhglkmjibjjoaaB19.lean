/- Free names: plain facts. And what else its parts name. -/
import Derived.Test.YtfhglkmjibjjoaaB13
import Derived.Maps.AppendAt
import Derived.Lib.SliceRun
set_option linter.unusedSimpArgs false
set_option linter.unusedVariables false
set_option maxRecDepth 100000
set_option maxHeartbeats 16000000
namespace Go.Proofs.Ytfhglkmjibjjoaa
open Go.RowKit
def bs (l:List UInt8):ByteArray:=⟨l.toArray⟩
theorem jo (l:List UInt8):(bs l).size=l.length:=by unfold bs;simp[ByteArray.size]
def dX (x:UInt8):List UInt8->List UInt8
 | []=> [x]
 | y::l=>if y<x then y::dX x l else if y=x then y::l else x::y::l
theorem er (x:UInt8) : ∀(l:List UInt8) (k:Nat) (hk:k<=l.length),(∀y∈l.take k,y<x)->(∀h:k<l.length,¬l[k]<x)->dX x l=if l[k]?=some x then l else l.take k++x::l.drop k
 | [],k,hk,_,_=>by
  obtain rfl:k=0:=by simpa using hk
  rfl
 | y::l,0,_,_,h2=>by
  have h3 : ¬y<x:=h2 (by simp);unfold dX;rw[if_neg h3]
  by_cases h4:y=x
  ·subst h4;rw[if_pos rfl,if_pos (by simp)]
  ·rw[if_neg h4,if_neg (by simpa using h4)];rfl
 | y::l,k+1,hk,h1,h2=>by
  have h3:y<x:=h1 y (by simp);have ih:=er x l k (by simpa using hk) (fun z hz=>h1 z (by rw[List.take_succ_cons];exact List.mem_cons_of_mem _ hz)) (fun h=>by have:=h2 (by simpa using h);simpa using this);unfold dX;rw[if_pos h3,ih];simp only[List.getElem?_cons_succ,List.take_succ_cons,List.drop_succ_cons]
  split<;>rfl
theorem Ty.toS_ty {t:Ty}(h:t.valid=true):t.toS.ty=t:=by
 obtain⟨s,rfl,hs⟩:=Ty.valid_S h;rw[S.ty_toS s (S.vd_ok hs)]
theorem jR (G1 G2 G3:Nat->Prop)(nm:ByteArray)(u lb tk fk:Int)(ty src:Ty)(ta fa ca:Option Addr)(tn tq fn fq cm cq:Nat)(w:World)(hty:ai G1 w ty (.agg #[.int .i64 tk,.slice ta tn tq]))(hsrc:ai G2 w src (.agg #[.int .i64 fk,.slice fa fn fq]))(hv:ty.valid=true)(h1:S)(y:Value)(hy:av G3 w [h1.ty] y) :
  Calls Try.prog 34 #[.agg (nv 14 nm u tk ta tn tq fk fa fn fq lb ca cm cq),y] w (aX ((aM 14 ty src [h1]).map S.ty) w):=by
 obtain⟨b,off,cap,k1,c1,m1,q1,rfl,hlb,e0,e1,ht1⟩:=hy.one;have HT:=zq hty.old;have HS:=zq hsrc.old;have H1:=zq ht1.old;have HCN:=zq (Ty.cnt_valid hv);have HVT:=zq hv;clear hty hsrc hy ht1 hv
 go_enter Try.func34,Try.ntmps34
 go_wp2_with fail
 generalize hVV:World.alloc (World.alloc w _) _=VV;obtain⟨hv,o1,o2,zV⟩:=bO hVV;have fE:=o1;have fR:=o2;have c0:=af hv e0;have c1_:=af hv e1;have fC:=zq hv;have hT:=zq (HT.out.below hv);have hS:=zq (HS.out.below hv);have h1_:=zq (H1.out.below hv);clear hv o1 o2;refine wh6 (bc3 fE) (bc4 fE) (bc5 fE) (bc6 fE) c0 c1_ (fun U6 hb zU6a zU6b hH0=>?_);replace fE:=a9 fE hb;replace fR:=a9 fR hb;replace c0:=af hb c0;replace c1_:=af hb c1_;replace fC:=mh hb fC;replace hT:=mh hb hT;replace hS:=mh hb hS;replace h1_:=mh hb h1_;rw[zV] at zU6a zU6b;clear hb hVV zV;refine hwq hx0 (.pointer (some ⟨w.heap.size,3,none⟩)) hH0 ?_;refine hwq hx1 (.agg #[.int .i64 tk,.slice ta tn tq]) hH0 ?_;refine hwq hx3 (.slice (some ⟨b,off,none⟩) 1 cap) hH0 ?_;refine hwq hx4 (.pointer (some ⟨b,off,none⟩)) hH0 ?_;refine hwq hx5 (.agg #[.int .i64 k1,.slice c1 m1 q1]) hH0 ?_;refine hwq hx6 (.pointer (some ⟨w.heap.size,5,none⟩)) hH0 ?_;refine hwq hx7 (.agg #[.int .i64 fk,.slice fa fn fq]) hH0 ?_;refine hwe hx2 (fun K hK=>?_)
 go_simp
 go_at_call 46
 refine(b5 _ ty _ _ hT.out HCN.out).mono ?_;rintro e X1 ⟨v,rfl,hv,hb⟩;obtain⟨kc,ac,nc,qc,rfl⟩:=hv.shape;have hN':Hid (ai (U6.heap.size <= ·) X1 ty (.agg #[.int .i64 kc,.slice ac nc qc])):=zq hv.rep;clear hv
 go_wp2_with fail
 have zX1:=hb.size;replace fE:=a9 fE hb;replace fR:=a9 fR hb;replace c0:=af hb c0;replace c1_:=af hb c1_;replace fC:=mh hb fC;replace hT:=mh hb hT;replace hS:=mh hb hS;replace h1_:=mh hb h1_;have hN:=hN';clear hN';refine hko hK (fun hH1=>?_);clear hK K hH0 hb
 try simp only[hwA]
 refine hwe hx8 (fun K hK=>?_)
 go_simp
 go_at_call 62
 refine(bm _ _ _ _ _ _ _ h1_.out hS.out).mono ?_;rintro e X2 ⟨rfl,hb⟩
 go_wp2_with fail
 have zX2:=hb.size;replace fE:=a9 fE hb;replace fR:=a9 fR hb;replace c0:=af hb c0;replace c1_:=af hb c1_;replace fC:=mh hb fC;replace hT:=mh hb hT;replace hS:=mh hb hS;replace h1_:=mh hb h1_;replace hN:=mh hb hN;refine hko hK (fun hH2=>?_);clear hK K hH1 hb
 try simp only[hwA]
 refine hwe hx9 (fun K hK=>?_);obtain⟨r0,r1,rf0,rf1⟩:=b8 fR
 go_simp
 (try go_wp2_with fail);have hQq:=aJ fR (.int .i64 kc) (.slice ac nc qc);clear fR r0 rf0 r1 rf1;obtain⟨X3,hXq,hsq,fR,zX3a,zX3b⟩:=hQq;rw[hXq];replace fE:=hsq.bk fE;replace c0:=hsq.cq c0;replace c1_:=hsq.cq c1_;replace fC:=hsq.be fC;replace hT:=zq (hsq.rep (fun b hb=>by have:b<w.heap.size:=hb;omega) hT.out);replace hS:=zq (hsq.rep (fun b hb=>by have:b<w.heap.size:=hb;omega) hS.out);replace h1_:=zq (hsq.rep (fun b hb=>by have:b<w.heap.size:=hb;omega) h1_.out);replace hN:=zq (hsq.rep (fun b hb=>by have:U6.heap.size<=b:=hb;omega) hN.out);refine hko hK (fun hH3=>?_);clear hK K hH2 hsq hXq
 try simp only[hwA]
 refine hwq bd (.bool (h1.ty.same src)) hH3 ?_;refine hwd ?_;clear hH3;obtain⟨rc0,rc1⟩:=blk2 fR
 go_wp2_with fail
 refine bq (.tuple #[.agg #[.int .i64 kc,.slice ac nc qc],.bool (h1.ty.same src)]) (by simp[results,Try.results34,go_sem,rc0,rc1]) ?_;have hnode:aM 14 ty src [h1]=if h1.ty.same src then some ty.toS else none:=by simp[aM]
 exact⟨_,_,_,_,_,ty,rfl,by rw[hnode];cases h1.ty.same src<;>rfl,hN.out.move (.weaken fun b h _=>.inr (by have h1:_<=b:=h;omega)),(by rw[hnode];intro t h;cases hs:h1.ty.same src<;>rw[hs] at h<;>simp at h;exact(Ty.toS_ty HVT.out).symm.trans h),fC.out⟩
mutual
def Tm.castS:Tm->List Bd->Option S
 | .mk k nm u ty src lb ts,l=>
  if k=1 then (bS l nm l.length).map Ty.toS
  else if k=2 then some .int
  else if k=3∨k=4 then some .bool
  else if k=5 then (match Tm.castsS ts (l ++ [⟨nm,ty⟩]) with
    | some [h]=>if (S.fn ty.toS h).vd then some (.fn ty.toS h) else none
    | _=>none)
  else (match Tm.castsS ts l with
    | some hs=>aM k ty src hs
    | none=>none)
def Tm.castsS:List Tm->List Bd->Option (List S)
 | [],_=>some []
 | t::ts,l=>match t.castS l with
  | none=>none
  | some h=>(match Tm.castsS ts l with
    | none=>none
    | some hs=>some (h::hs))
end
theorem gK (F:Nat->Prop)(l:List Bd)(y:Value)(nm:ByteArray)(u lb tk fk:Int)(ta fa ca:Option Addr)(tn tq fn fq cm cq:Nat)(w:World)(hy:aE F w l y)(hc : ∀b∈l,b.ty.cnt<=1048576) :
  Calls Try.prog 31 #[y,.agg (nv 1 nm u tk ta tn tq fk fa fn fq lb ca cm cq)] w (aX (bS l nm l.length) w):=by
 have HL:=zq (fun W (h:Below w.heap.size w W)=>j7 F l nm y W (hy.below h) hc);obtain⟨a,n,q,rfl⟩:=hy.shape;have fR:=aA (w:=w.alloc (.cells (nv 1 nm u tk ta tn tq fk fa fn fq lb ca cm cq) 28)) (o:=.cells #[.int .i64 0,.slice none 0 0] 25) (b:=w.heap.size+1) (by simp);clear hy hc
 go_enter Try.func31,Try.ntmps31
 go_wp2_with fail
 refine(HL.out _ (al ag ag)).mono ?_;rintro e w1 ⟨k,a1,n1,q1,b1,t,rfl,hb1,ht,ho,hst⟩;have HT:=zq ht;have HO:=zq ho;have HB1:=zq hb1;replace fR:=a9 fR hst;have fC:=zq (al (al ag ag) hst);have hz:=hst.size;simp only[World.size_alloc] at hz;clear ht ho hb1 hst;obtain⟨r0,r1⟩:=blk2 fR;have rf0:=aj fR 0;have rf1:=aj fR 1
 go_wp2_with fail
 have hY:((w1.setCell ⟨w.heap.size+1,0,none⟩ (.int .i64 k)).setCell ⟨w.heap.size+1,1,none⟩ (.slice a1 n1 q1)).heap[w.heap.size+1]?=some (.cells #[.int .i64 k,.slice a1 n1 q1] 25 (0,0)):=az (az fR rfl) rfl;obtain⟨rc0,rc1⟩:=blk2 hY;refine bq (.tuple #[.agg #[.int .i64 k,.slice a1 n1 q1],.bool b1]) (by simp[results,Try.results31,go_sem,rc0,rc1]) ?_;have hne : ∀b,(False∨((w.alloc (.cells (nv 1 nm u tk ta tn tq fk fa fn fq lb ca cm cq) 28)).alloc (.cells #[.int .i64 0,.slice none 0 0] 25)).heap.size<=b)->b≠w.heap.size+1:=fun b h=>by
  have h1:=h.elim False.elim id
  simp at h1
  omega
 exact⟨_,_,_,_,_,t,rfl,HB1.out,(ai.setN (ai.setN HT.out hne) hne).move (.weaken fun b h _=>.inr (by have h1:=h.elim False.elim id;simp at h1;omega)),HO.out,(fC.out.setCell (p:=⟨w.heap.size+1,0,none⟩) (by show w.heap.size<=w.heap.size+1;omega) _).setCell (p:=⟨w.heap.size+1,1,none⟩) (by show w.heap.size<=w.heap.size+1;omega) _⟩
theorem gL (y:Value)(nm:ByteArray)(u lb tk fk:Int)(ta fa ca:Option Addr)(tn tq fn fq cm cq:Nat)(w:World) :
  Calls Try.prog 31 #[y,.agg (nv 2 nm u tk ta tn tq fk fa fn fq lb ca cm cq)] w (aX (some (.mk 2 [])) w):=by
 have fR:=aA (w:=w.alloc (.cells (nv 2 nm u tk ta tn tq fk fa fn fq lb ca cm cq) 28)) (o:=.cells #[.int .i64 0,.slice none 0 0] 25) (b:=w.heap.size+1) (by simp)
 go_enter Try.func31,Try.ntmps31
 go_wp2_with fail
 refine(b7 _).mono ?_;rintro e w1 ⟨rfl,hst⟩;replace fR:=a9 fR hst;have fC:=zq (al (al ag ag) hst);clear hst;obtain⟨r0,r1⟩:=blk2 fR;have rf0:=aj fR 0;have rf1:=aj fR 1
 go_wp2_with fail
 have hY:((w1.setCell ⟨w.heap.size+1,0,none⟩ (.int .i64 2)).setCell ⟨w.heap.size+1,1,none⟩ (.slice none 0 0)).heap[w.heap.size+1]?=some (.cells #[.int .i64 2,.slice none 0 0] 25 (0,0)):=az (az fR rfl) rfl;obtain⟨rc0,rc1⟩:=blk2 hY;refine bq (.tuple #[.agg #[.int .i64 2,.slice none 0 0],.bool true]) (by simp[results,Try.results31,go_sem,rc0,rc1]) ?_
 exact⟨_,_,_,_,_,_,rfl,rfl,ai.leafG 2,(fun s h=>Option.some.inj h),(fC.out.setCell (p:=⟨w.heap.size+1,0,none⟩) (by show w.heap.size<=w.heap.size+1;omega) _).setCell (p:=⟨w.heap.size+1,1,none⟩) (by show w.heap.size<=w.heap.size+1;omega) _⟩
theorem gM (y:Value)(nm:ByteArray)(u lb tk fk:Int)(ta fa ca:Option Addr)(tn tq fn fq cm cq:Nat)(w:World) :
  Calls Try.prog 31 #[y,.agg (nv 3 nm u tk ta tn tq fk fa fn fq lb ca cm cq)] w (aX (some (.mk 3 [])) w):=by
 have fR:=aA (w:=w.alloc (.cells (nv 3 nm u tk ta tn tq fk fa fn fq lb ca cm cq) 28)) (o:=.cells #[.int .i64 0,.slice none 0 0] 25) (b:=w.heap.size+1) (by simp)
 go_enter Try.func31,Try.ntmps31
 go_wp2_with fail
 refine(bX _).mono ?_;rintro e w1 ⟨rfl,hst⟩;replace fR:=a9 fR hst;have fC:=zq (al (al ag ag) hst);clear hst;obtain⟨r0,r1⟩:=blk2 fR;have rf0:=aj fR 0;have rf1:=aj fR 1
 go_wp2_with fail
 have hY:((w1.setCell ⟨w.heap.size+1,0,none⟩ (.int .i64 3)).setCell ⟨w.heap.size+1,1,none⟩ (.slice none 0 0)).heap[w.heap.size+1]?=some (.cells #[.int .i64 3,.slice none 0 0] 25 (0,0)):=az (az fR rfl) rfl;obtain⟨rc0,rc1⟩:=blk2 hY;refine bq (.tuple #[.agg #[.int .i64 3,.slice none 0 0],.bool true]) (by simp[results,Try.results31,go_sem,rc0,rc1]) ?_
 exact⟨_,_,_,_,_,_,rfl,rfl,ai.leafG 3,(fun s h=>Option.some.inj h),(fC.out.setCell (p:=⟨w.heap.size+1,0,none⟩) (by show w.heap.size<=w.heap.size+1;omega) _).setCell (p:=⟨w.heap.size+1,1,none⟩) (by show w.heap.size<=w.heap.size+1;omega) _⟩
theorem gN (y:Value)(nm:ByteArray)(u lb tk fk:Int)(ta fa ca:Option Addr)(tn tq fn fq cm cq:Nat)(w:World) :
  Calls Try.prog 31 #[y,.agg (nv 4 nm u tk ta tn tq fk fa fn fq lb ca cm cq)] w (aX (some (.mk 3 [])) w):=by
 have fR:=aA (w:=w.alloc (.cells (nv 4 nm u tk ta tn tq fk fa fn fq lb ca cm cq) 28)) (o:=.cells #[.int .i64 0,.slice none 0 0] 25) (b:=w.heap.size+1) (by simp)
 go_enter Try.func31,Try.ntmps31
 go_wp2_with fail
 refine(bX _).mono ?_;rintro e w1 ⟨rfl,hst⟩;replace fR:=a9 fR hst;have fC:=zq (al (al ag ag) hst);clear hst;obtain⟨r0,r1⟩:=blk2 fR;have rf0:=aj fR 0;have rf1:=aj fR 1
 go_wp2_with fail
 have hY:((w1.setCell ⟨w.heap.size+1,0,none⟩ (.int .i64 3)).setCell ⟨w.heap.size+1,1,none⟩ (.slice none 0 0)).heap[w.heap.size+1]?=some (.cells #[.int .i64 3,.slice none 0 0] 25 (0,0)):=az (az fR rfl) rfl;obtain⟨rc0,rc1⟩:=blk2 hY;refine bq (.tuple #[.agg #[.int .i64 3,.slice none 0 0],.bool true]) (by simp[results,Try.results31,go_sem,rc0,rc1]) ?_
 exact⟨_,_,_,_,_,_,rfl,rfl,ai.leafG 3,(fun s h=>Option.some.inj h),(fC.out.setCell (p:=⟨w.heap.size+1,0,none⟩) (by show w.heap.size<=w.heap.size+1;omega) _).setCell (p:=⟨w.heap.size+1,1,none⟩) (by show w.heap.size<=w.heap.size+1;omega) _⟩
def b4 (F:Nat->Prop)(w:World):List Bd->List Value->Prop
 | [],xs=>xs = []
 | b::bs,xs=>∃k sl rest,xs = .string b.name :: .int .i64 k::sl::rest∧b.name.size<=maxLen∧ai F w b.ty (.agg #[.int .i64 k,sl])∧b4 F w bs rest
theorem b4.move {F G:Nat->Prop}{w w':World}(k:bU F G w w') : ∀(bs:List Bd) (xs:List Value),b4 F w bs xs->b4 G w' bs xs
 | [],_,h=>h
 | b::bs,_,⟨kk,sl,rest,h1,h2,h3,h4⟩=>⟨kk,sl,rest,h1,h2,h3.move k,b4.move k bs rest h4⟩
theorem b4.append {F:Nat->Prop}{w:World} : ∀(bs cs:List Bd) (xs ys:List Value),b4 F w bs xs->b4 F w cs ys->b4 F w (bs++cs) (xs++ys)
 | [],cs,xs,ys,h,h'=>by
  have h0:xs = []:=h;subst h0;simpa using h'
 | b::bs,cs,_,ys,⟨kk,sl,rest,h1,h2,h3,h4⟩,h'=>by
  subst h1
  exact⟨kk,sl,rest++ys,rfl,h2,h3,b4.append bs cs rest ys h4 h'⟩
theorem b4.len {F:Nat->Prop}{w:World} : ∀(bs:List Bd) (xs:List Value),b4 F w bs xs->xs.length=bs.length*3
 | [],xs,h=>by
  have h0:xs = []:=h;subst h0;rfl
 | b::bs,_,⟨kk,sl,rest,h1,h2,h3,h4⟩=>by
  subst h1;have:=b4.len bs rest h4;simp only[List.length_cons];omega
theorem b4.rows {F:Nat->Prop}{w:World}{g:Nat} : ∀(bs:List Bd) (xs:List Value) (off:Nat),b4 F w bs xs->(∀j u,xs[j]?=some u->w.cell? ⟨g,off+j,none⟩=some u)->bC F w g off (Bd.rows bs)
 | [],_,_,_,_=>by unfold Bd.rows bC;trivial
 | b::bs,_,off,⟨kk,sl,rest,h1,h2,h3,h4⟩,hc=>by
  subst h1;obtain⟨s,he,hs⟩:=h3;simp only[Value.agg.injEq,Array.mk.injEq,List.cons.injEq,Value.int.injEq,true_and,and_true] at he;obtain⟨rfl,rfl⟩:=he;have e0:=hc 0 _ rfl;have e1:=hc 1 _ rfl;have e2:=hc 2 _ rfl
  show bC F w g off (b.row::Bd.rows bs)
  unfold bC;refine⟨?_,b4.rows bs rest _ h4 fun j u hj=>?_⟩
  ·unfold Bd.row aP
   refine⟨⟨_,e0,by unfold aL;exact⟨rfl,h2⟩⟩,?_⟩;unfold aP;refine⟨⟨_,e1,by unfold aL;rfl⟩,?_⟩;unfold aP
   exact⟨⟨_,e2,hs⟩,by unfold aP;trivial⟩
  ·have:=hc (j+3) u (by simpa using hj)
   rw[Bd.row_length,Nat.add_assoc,Nat.add_comm 3 j];exact this
theorem dF {w:World}{B:Nat}{e:TypeId}{size n q g:Nat}{xs:List Value}(h:w.ownsRow B e size (.slice (some ⟨g,0,none⟩) n q) n xs) : ∀j u,xs[j]?=some u->w.cell? ⟨g,j,none⟩=some u:=by
 obtain⟨h1,h2 | ⟨g',cap,cur,h2,hB,hg,hn,hc,hs,ht⟩⟩:=h
 ·exact absurd h2.1 (by simp)
 ·simp only[Value.slice.injEq,Option.some.injEq,Addr.mk.injEq,and_true] at h2
  obtain⟨rfl,-,rfl⟩:=h2;intro j u hj;subst ht;simp only[World.cell?,hg];rw[List.getElem?_take] at hj
  split at hj
  ·simpa using hj
  ·cases hj
def BdL (r B:Nat)(w:World)(v:Value)(bs:List Bd):Prop:=r<B∧(∃g,v.ownBlock=some g)∧∃xs,w.ownsRow B 52 3 v bs.length xs∧b4 (fun b=>b≠r∧v.ownBlock≠some b) w bs xs
theorem BdL.nil {r B:Nat}{w:World}{g:Nat}{cs:Array Value}(hr:r<B)(hB:B<=g)(h:w.heap[g]?=some (.cells cs 52 (0,0)))(h0:cs.size=0):BdL r B w (.slice (some ⟨g,0,none⟩) 0 0) []:=
 ⟨hr,⟨g,rfl⟩,[],⟨rfl,.inr ⟨g,0,cs,rfl,hB,h,Nat.le_refl _,by unfold maxLen;omega,by simpa using h0,by simp⟩⟩,rfl⟩
theorem BdL.chg {r B:Nat}{w w':World}{v:Value}{bs:List Bd}(h:BdL r B w v bs)(k:Chg [r] w w'):BdL r B w' v bs:=by
 obtain⟨hr,hso,xs,h1,h2⟩:=h
 exact⟨hr,hso,xs,ck h1 k hr,h2.move (k.keeps fun b hb=>by simpa using hb.1) _ _⟩
theorem BdL.below {r B:Nat}{w w':World}{v:Value}{bs:List Bd}(h:BdL r B w v bs)(k:Below w.heap.size w w'):BdL r B w' v bs:=by
 obtain⟨hr,hso,xs,h1,h2⟩:=h
 exact⟨hr,hso,xs,bc h1 k,h2.move (.below k) _ _⟩
theorem BdL.shape {r B:Nat}{w:World}{v:Value}{bs:List Bd}(h:BdL r B w v bs) : ∃a q,v = .slice a bs.length q:=by
 obtain⟨hr,hso,xs,⟨h1,h2 | ⟨g,cap,cur,h2,hB,hg,hn,hc,hs,ht⟩⟩,-⟩:=h
 ·exact⟨none,0,by rw[h2.1,h2.2]⟩
 ·exact⟨_,cap,h2⟩
theorem BdL.push {r B g cap:Nat}{W w2:World}{v:Value}{bs:List Bd}{xs:List Value}{nm:ByteArray}{k:Int}{sl:Value}{t:Ty}(hr:r<B)(hv:b4 (fun b=>b≠r∧v.ownBlock≠some b) W bs xs)(hn:nm.size<=maxLen)
  (ht:ai (fun b=>b≠r∧v.ownBlock≠some b) W t (.agg #[.int .i64 k,sl])) (hown:w2.ownsRow B 52 3 (.slice (some ⟨g,0,none⟩) (bs.length+1) cap) (bs.length+1) (xs ++ [.string nm,.int .i64 k,sl])) (hgrow:W.grownBy w2 v.ownBlock) (hat:v.ownBlock=some g∨g=W.heap.size) :
  BdL r B w2 (.slice (some ⟨g,0,none⟩) (bs.length+1) cap) (bs ++ [⟨nm,t⟩]):=by
 have kk:bU (fun b=>b≠r∧v.ownBlock≠some b) (fun b=>b≠r∧(Value.slice (some ⟨g,0,none⟩) (bs.length+1) cap).ownBlock≠some b) W w2:=by
  refine⟨hgrow.size,fun b hb hl=>⟨hb.1,fun e=>?_⟩,fun b hb hl=>hgrow.block b hl (fun e=>hb.2 e.symm)⟩;simp only[Value.ownBlock,Option.some.injEq] at e;subst e
  rcases hat with h | h
  ·exact hb.2 h
  ·omega
 refine⟨hr,⟨g,rfl⟩,xs ++ [.string nm,.int .i64 k,sl],by simpa using hown,b4.append bs [⟨nm,t⟩] xs _ (hv.move kk _ _) ⟨k,sl,[],rfl,hn,ht.move kk,rfl⟩⟩
theorem BdL.rep {r B:Nat}{w:World}{v:Value}{bs:List Bd}(h:BdL r B w v bs):aE (fun _=>True) w bs v:=by
 obtain⟨a,q,rfl⟩:=h.shape;obtain⟨hr,hso,xs,h1,h2⟩:=h;have h1':=h1;obtain⟨hx,h3 | ⟨g,cap,cur,h3,hB,hg,hn,hc,hs,ht⟩⟩:=h1
 ·obtain⟨h3,h4⟩:=h3
  simp only[Value.slice.injEq] at h3;obtain⟨rfl,-,rfl⟩:=h3;have:bs = []:=List.length_eq_zero_iff.1 h4;subst this;unfold aE aL
  exact⟨none,0,rfl,Nat.le_refl _,by unfold maxLen;omega,.inl rfl⟩
 ·simp only[Value.slice.injEq] at h3
  obtain⟨rfl,-,rfl⟩:=h3;have hcl:=dF h1';unfold aE aL;refine⟨_,q,by rw[Bd.rows_length],by rw[Bd.rows_length];exact hn,hc,.inr ⟨g,0,rfl,trivial,(Array.getElem?_eq_some_iff.1 hg).1,?_⟩⟩
  exact b4.rows bs xs 0 (h2.move (.weaken fun _ _ _=>trivial) _ _) (fun j u hj=>by simpa using hcl j u hj)
theorem gH (F:Nat->Prop)(l:List Bd)(y:Value)(w:World)(hy:aE F w l y) :
  Calls Try.prog 90 #[y] w fun e w'=>e = .returned (.bool (ctxB l))∧Below w.heap.size w w':=by
 have HV:=zq (ce F);obtain⟨a,cap,rfl,h2,h3,-⟩:=hy.open;unfold maxLen at h3;obtain⟨n,hn⟩ : ∃n,l.length=n:=⟨_,rfl⟩
 rw[hn] at h2 hy ⊢;have HN:=zq hn;clear hn
 go_enter Try.func90,Try.ntmps90
 go_wp2_with fail
 go_loopw [3] (fun i wr=>∃j:Nat,j<=n∧i = .int .i64 j∧Below w.heap.size w wr∧Hid (l.all Bd.ok=(l.drop j).all Bd.ok)) (fun i _=>n-(intOf i).toNat)
 case atStart=>exact⟨0,by omega,rfl,Below.refl _ _,rfl⟩
 case round=>
  obtain⟨j,hj,rfl,hbw,hR⟩:=hrel
  by_cases hlt:j<n
  ·have hjt:j<l.length:=by rw[HN.out];exact hlt
   obtain⟨b,off,k0,a0,m0,q0,rfl,l0,e0,ez,e1,e2,ht⟩:=hy.at hbw hjt;have hstep:l.all Bd.ok=((aI l[j].name&&l[j].ty.valid)&&(l.drop (j+1)).all Bd.ok):=by rw[hR.out,List.drop_eq_getElem_cons hjt];rfl
   have HC:=HV.out l[j].ty _ _ ht;have HM:=fun W=>j5 l[j].name W;generalize l[j].name=nm at *;generalize aI nm=nb at *;generalize l[j].ty.valid=tv at *;have HS:=zq hstep;have HCC:=zq HC;have HMM:=zq HM;clear hstep HC HM hR ht ez
   cases nb
   ·go_wp2_with fail
    refine(HMM.out _).mono ?_;rintro e w1 ⟨rfl,rfl⟩
    go_wp2_with fail
    go_ret
    exact⟨au (by unfold ctxB;rw[HS.out];simp),hbw⟩
   ·cases tv
    ·go_wp2_with fail
     refine(HMM.out _).mono ?_;rintro e w1 ⟨rfl,rfl⟩
     go_wp2_with fail
     refine HCC.out.mono ?_;rintro e w1 ⟨rfl,hb1⟩
     go_wp2_with fail
     go_ret
     exact⟨au (by unfold ctxB;rw[HS.out];simp),al hbw hb1⟩
    ·go_wp2_with fail
     refine(HMM.out _).mono ?_;rintro e w1 ⟨rfl,rfl⟩
     go_wp2_with fail
     refine HCC.out.mono ?_;rintro e w1 ⟨rfl,hb1⟩
     go_wp2_with fail
     go_roundw
     case rel=>exact⟨j+1,by omega,by go_num,al hbw hb1,by rw[Hid,HS.out];rfl⟩
     case measure=>simp[intOf];omega
  ·have hall:l.all Bd.ok=true:=by rw[hR.out,List.drop_eq_nil_of_le (by rw[HN.out];omega)];rfl
   have HA:=zq hall;clear hall
   go_wp2_with fail
   go_ret
   exact⟨au (by unfold ctxB;rw[HA.out,HN.out];simp<;>omega),hbw⟩
def BdM (B:Nat)(w:World)(v:Value)(bs:List Bd):Prop:=∃xs,w.ownsRow B 52 3 v bs.length xs∧b4 (fun b=>v.ownBlock≠some b) w bs xs
theorem BdM.nil {B:Nat}{w:World}{g:Nat}{cs:Array Value}(hB:B<=g)(h:w.heap[g]?=some (.cells cs 52 (0,0)))(h0:cs.size=0):BdM B w (.slice (some ⟨g,0,none⟩) 0 0) []:=
 ⟨[],⟨rfl,.inr ⟨g,0,cs,rfl,hB,h,Nat.le_refl _,by unfold maxLen;omega,by simpa using h0,by simp⟩⟩,rfl⟩
theorem BdM.push {B:Nat}{W w2:World}{v v':Value}{bs cs:List Bd}{xs ys:List Value}(hv:b4 (fun b=>v.ownBlock≠some b) W bs xs)(hc:b4 (fun b=>v.ownBlock≠some b) W cs ys)
  (hown:w2.ownsRow B 52 3 v' (bs.length+cs.length) (xs++ys)) (hgrow:W.grownBy w2 v.ownBlock) (hat:v'.ownBlock=v.ownBlock∨v'.ownBlock=some W.heap.size) :
  BdM B w2 v' (bs++cs):=by
 have kk:bU (fun b=>v.ownBlock≠some b) (fun b=>v'.ownBlock≠some b) W w2:=by
  refine⟨hgrow.size,fun b hb hl e=>?_,fun b hb hl=>hgrow.block b hl (fun e=>hb e.symm)⟩
  rcases hat with h | h
  ·exact hb (h▸e)
  ·rw[h] at e
   simp only[Option.some.injEq] at e
   omega
 exact⟨xs++ys,by simpa using hown,b4.append bs cs xs ys (hv.move kk _ _) (hc.move kk _ _)⟩
theorem BdM.shape {B:Nat}{w:World}{v:Value}{bs:List Bd}(h:BdM B w v bs) : ∃a q,v = .slice a bs.length q:=by
 obtain⟨xs,⟨h1,h2 | ⟨g,cap,cur,h2,hB,hg,hn,hc,hs,ht⟩⟩,-⟩:=h
 ·exact⟨none,0,by rw[h2.1,h2.2]⟩
 ·exact⟨_,cap,h2⟩
theorem BdM.rep {B:Nat}{w:World}{v:Value}{bs:List Bd}(h:BdM B w v bs):aE (fun _=>True) w bs v:=by
 obtain⟨a,q,rfl⟩:=h.shape;obtain⟨xs,h1,h2⟩:=h;have h1':=h1;obtain⟨hx,h3 | ⟨g,cap,cur,h3,hB,hg,hn,hc,hs,ht⟩⟩:=h1
 ·obtain⟨h3,h4⟩:=h3
  simp only[Value.slice.injEq] at h3;obtain⟨rfl,-,rfl⟩:=h3;have:bs = []:=List.length_eq_zero_iff.1 h4;subst this;unfold aE aL
  exact⟨none,0,rfl,Nat.le_refl _,by unfold maxLen;omega,.inl rfl⟩
 ·simp only[Value.slice.injEq] at h3
  obtain⟨rfl,-,rfl⟩:=h3;have hcl:=dF h1';unfold aE aL;refine⟨_,q,by rw[Bd.rows_length],by rw[Bd.rows_length];exact hn,hc,.inr ⟨g,0,rfl,trivial,(Array.getElem?_eq_some_iff.1 hg).1,?_⟩⟩
  exact b4.rows bs xs 0 (h2.move (.weaken fun _ _ _=>trivial) _ _) (fun j u hj=>by simpa using hcl j u hj)
theorem b4.of_rows {F:Nat->Prop}{w:World}{b:Nat} : ∀(bs:List Bd) (off:Nat),bC F w b off (Bd.rows bs)->∃xs,b4 F w bs xs∧(∀j u,xs[j]?=some u->w.cell? ⟨b,off+j,none⟩=some u)∧∀u∈xs,u.oneCell'=true
 | [],_,_=>⟨[],rfl,by simp,by simp⟩
 | d::bs,off,h=>by
  have h':bC F w b off (d.row::Bd.rows bs):=h;unfold bC at h';obtain⟨h1,h2⟩:=h';obtain⟨rest,r1,r2,r3⟩:=b4.of_rows bs _ h2;rw[Bd.row_length] at r2;unfold Bd.row aP at h1;obtain⟨⟨y0,e0,c0⟩,h1⟩:=h1;unfold aP at h1;obtain⟨⟨y1,e1,c1⟩,h1⟩:=h1;unfold aP at h1;obtain⟨⟨y2,e2,c2⟩,-⟩:=h1;unfold aL at c0;obtain⟨rfl,hz⟩:=c0;obtain rfl:=aL.int_eq c1;obtain⟨a,q,hs,-⟩:=aL.rows c2;subst hs;refine⟨_::_::_::rest,⟨_,_,rest,rfl,hz,⟨_,rfl,c2⟩,r1⟩,fun j u hj=>?_,fun u hu=>?_⟩
  ·match j with
   | 0=>simp at hj;subst hj;exact e0
   | 1=>simp at hj;subst hj;exact e1
   | 2=>simp at hj;subst hj;exact e2
   | j+3=>
    have:=r2 j u (by simpa using hj);rw[show off+(j+3)=off+3+j from by omega];exact this
  ·simp only[List.mem_cons] at hu
   rcases hu with rfl | rfl | rfl | hu
   ·rfl
   ·rfl
   ·rfl
   ·exact r3 u hu
theorem aE.cells {F:Nat->Prop}{w:World}{bs:List Bd}{a:Option Addr}{n q:Nat}(h:aE F w bs (.slice a n q))(hn:0<n) : ∃ad xs,a=some ad∧b4 F w bs xs∧(∀j u,xs[j]?=some u->w.cell? (ad.add j)=some u)∧∀u∈xs,u.oneCell'=true:=by
 unfold aE aL at h;obtain⟨a',q',he,h1,h2,h3⟩:=h;simp only[Value.slice.injEq] at he;obtain⟨rfl,rfl,rfl⟩:=he
 rcases h3 with h3 | ⟨b,off,rfl,-,-,h3⟩
 ·rw[h3] at hn;exact absurd hn (by simp)
 ·obtain⟨xs,r1,r2,r3⟩:=b4.of_rows bs off h3
  exact⟨_,xs,rfl,r1,fun j u hj=>by have:=r2 j u hj;cases j<;>simpa [Addr.add] using this,r3⟩
theorem aE.n_eq {F:Nat->Prop}{w:World}{bs:List Bd}{a:Option Addr}{n q:Nat}(h:aE F w bs (.slice a n q)):n=bs.length:=by
 unfold aE aL at h;obtain⟨a',q',he,-⟩:=h;simp only[Value.slice.injEq] at he;rw[he.2.1,Bd.rows_length]
theorem aE.cellsAny {F:Nat->Prop}{w:World}{bs:List Bd}{ad:Addr}{n q:Nat}(h:aE F w bs (.slice (some ad) n q)) : ∃ad' xs,some ad=some ad'∧b4 F w bs xs∧(∀j u,xs[j]?=some u->w.cell? (ad'.add j)=some u)∧∀u∈xs,u.oneCell'=true:=by
 by_cases hn:0<n
 ·exact h.cells hn
 ·have:=h.n_eq
  have:bs = []:=List.length_eq_zero_iff.1 (by omega);subst this
  exact⟨ad,[],rfl,rfl,by simp,by simp⟩
theorem aE.old {F:Nat->Prop}{w:World}{bs:List Bd}{y:Value}(r:aE F w bs y):aE (· < w.heap.size) w bs y:=r.move (.weaken fun _ _ h=>h)
theorem Try.infoBdC:(Try.prog.info? 52).map (fun i=>(i.zero,i.size,i.bytes))=some (some (.agg #[.string ByteArray.empty,.int .i64 0,.slice none 0 0]),3,48):=by kernel_rfl
theorem BdM.none {B:Nat}{w:World}:BdM B w (.slice none 0 0) []:=⟨[],World.ownsRow_nil w B _ _,rfl⟩
def oM0:Oper:=⟨some 7,.buildSlice 49 0 #[],49,"l3_typing.go:66",#[],none⟩
def oM2:Oper:=⟨some 9,.call {callee:=.builtin .append,args:=#[.tmp 7,.tmp 8],argTypes:=#[49,49]},49,"l3_typing.go:66",#[⟨0,.data⟩,⟨1,.data⟩],none⟩
def oM6:Oper:=⟨some 13,.buildSlice 49 1 #[(0,.tmp 12)],49,"l3_typing.go:66",#[⟨5,.data⟩],none⟩
def em (l:List Bd)(w:World)(e:Ending)(w':World):Prop:=∃(a:Addr) (m q:Nat),e = .returned (.slice (some a) m q)∧aE (fun _=>True) w' l (.slice (some a) m q)∧Below w.heap.size w w'
theorem cL {F:Nat->Prop}{w:World}{nm:ByteArray}{ty:Ty}{k:Int}{a:Option Addr}{n q:Nat}(hn:nm.size<=maxLen)(h:ai F w ty (.agg #[.int .i64 k,.slice a n q])):b4 F w [⟨nm,ty⟩] [.string nm,.int .i64 k,.slice a n q]:=⟨k,_,[],rfl,hn,h,rfl⟩
theorem BdM.below {B:Nat}{w w':World}{v:Value}{bs:List Bd}(h:BdM B w v bs)(k:Below w.heap.size w w'):BdM B w' v bs:=by
 obtain⟨xs,h1,h2⟩:=h
 exact⟨xs,bc h1 k,h2.move (.below k) _ _⟩
theorem dt {P:Program}{w:World}{ops:Array Oper}{o:Oper}{a:Act}{K:Act->World->Prop}{Q:Exit->Act->World->Prop}{E:Prop}(u:Unit)(hgd:o.guard=none)(s x:Operand)(t:TypeId)
  (ho:o.op = .call {callee:=.builtin .append,args:=#[s,x],argTypes:=#[t,t]}) (base:Nat) (e:TypeId) (i:TypeInfo) (size:Nat) (ht:P.underlying t=some (.slice e)) (hi:P.info? e=some i)
  (v:Value) (n:Nat) (xs:List Value) (hs:a.eval s=v) (hown:w.ownsRow base e size v n xs) (hx:a.eval x = .slice none 0 0) (h:K (a.put o.dst v) w):if Region.wanted o (yielded ops a.tmps)=true then Oper.wp P o a w K Q else E:=by
 have hw:Region.wanted o (yielded ops a.tmps)=true:=by simp[Region.wanted,hgd]
 rw[if_pos hw];have hrun:=run_append_owned_none (P:=P) (w:=w) base t o.type e i size ht hi v n xs hown;unfold Oper.wp
 simp[execOp,ho,resolve,invoke,builtin,hs,hx,hrun,Result.andThen]
 exact h
theorem ly (m1 rx:Int)(h0:m1=rx):(m1:Int)=(rx):=by
 simp_all
theorem eg (F:Nat->Prop)(t:Tm) : ∀(nt:Int) (n:Nat) (_:t.shape nt n=true) (d:Int) (_:(n:Int)<=d) (_:d<=40) (y:Value) (w:World),aB F w t y ->
  Calls Try.prog 30 #[y,.int .i64 d] w fun e w'=>e = .returned (.int .i64 (t.size))∧Below w.heap.size w w':=by
 intro nt n hsh d hd0 hd5 y w hy;have IH : ∀t'∈t.kids,∀(nt:Int) (n:Nat) (_:t'.shape nt n=true) (d:Int) (_:(n:Int)<=d) (_:d<=40) (y:Value) (W:World),aB F W t' y->Calls Try.prog 30 #[y,.int .i64 d] W fun e W'=>e = .returned (.int .i64 (t'.size))∧Below W.heap.size W W':=
  fun t' ht nt n a d b c y W e=>eg F t' nt n a d b c y W e
 have hbd:=Tm.size_bd hsh (by omega);obtain⟨k,nm,u,tk,ta,tn,tq,fk,fa,fn,fq,l,c,m,q,rfl⟩:=hy.shape;obtain⟨r1,r2,r3,r4,r5,r6,r7,r8,r9,rn,rm,rq,hty,hsr,hks⟩:=hy.parts
 cases t with | mk kk nn uu tt ff ll ts=>
 simp only[Tm.kind,Tm.name,Tm.num,Tm.type,Tm.src,Tm.label,Tm.kids] at *;subst r1 r2 r3 r8;obtain⟨s1,-,-,-,s5⟩:=Tm.shape_parts hsh;obtain⟨dd,rfl⟩ : ∃x,n=x+1:=⟨n-1,by omega⟩
 rw[show((dd+1:Nat):Int)-1=(dd:Int) from by omega] at s5;unfold Tm.size at hbd ⊢;have hd1:0<d:=by omega
 have hdd:(dd:Int)<=d-1:=by omega
 have hd:decide (d>0)=true:=by simpa using hd1
 obtain⟨rx,hr0⟩ : ∃r,1+Tm.sizes ts=r:=⟨_,rfl⟩
 rw[hr0];have HT0:=zq hr0;have HN:=zq r9;have HB:=zq hbd;have HSH:=zq s5;have IHH:=zq IH;unfold maxLen at rq;clear hr0 IH hy r9 r4 r5 r6 r7 rn hty hsr hbd s5 hsh hd0;obtain⟨rr,hrr⟩ : ∃rr0:Int,(rx)=rr0:=⟨_,rfl⟩
 rw[hrr];have HT:=zq hrr;clear hrr
 go_enter Try.func30,Try.ntmps30
 go_wp2_with fail
 go_loopw [6,5] (fun i m1_ wr=>∃j:Nat,j<=m∧i = .int .i64 j∧(∃m1:Int,m1_ = .int .i64 m1∧(1<=m1∧m1<=6078832729528464400)∧Hid (m1=1+Tm.sizes (ts.take j)))∧Below w.heap.size w wr∧wr.cell? ⟨w.heap.size,8,none⟩=some (.slice c m q)) (fun i _ _=>m-(intOf i).toNat)
 case atStart=>exact⟨0,by omega,rfl,⟨_,rfl,(by omega),(by unfold Hid;simp[Tm.sizes])⟩,ag,ao (by simp) 8⟩
 case round=>
  obtain⟨j,hj,rfl,⟨m1,rfl,m1_0,m1_1⟩,hB,x0⟩:=hrel;have lx1:=World.block_lt_of_cell? _ _ x0
  by_cases hlt:j<m
  ·have hjt:j<ts.length:=by have:=HN.out;omega
   obtain⟨b,off,k0,nm0,u0,tk0,ta0,tn0,tq0,fk0,fa0,fn0,fq0,l0,a0,m0,q0,rfl,lb,e0,e1,e2,e3,e4,e5,e6,e7,e8,ht⟩:=hks.at hB hjt;have hshj:ts[j].shape nt dd=true:=Tm.shapes_mem HSH.out (List.getElem_mem hjt);have hcall:=IHH.out ts[j] (List.getElem_mem hjt) nt dd hshj (d-1);have hp:=Tm.size_pos ts[j];have hstep:=Tm.sizes_take_succ ts j hjt;have hle:=Tm.sizes_take_le ts (j+1);have hmr:m1+ts[j].size<=6078832729528464400:=by have:=m1_1.out;have:=HB.out;omega
   generalize ts[j].size=r at hcall hp hstep hmr;have HC:=zq hcall;have HS:=zq hstep;clear hcall hstep hshj hle;have hwr:=IntWalk.i64_in (d-1) (by omega)
   go_wp2_with fail
   refine(HC.out (by omega) (by omega) _ _ ht).mono ?_;rintro e w1 ⟨rfl,hb1⟩;replace hB:=(al hB hb1)
   have zw1:=hB.size;replace x0:=af hb1 x0;have d0_w1:=World.block_lt_of_cell? _ _ x0;have hwr:=IntWalk.i64_in (m1+r) (by omega);have hwr:=IntWalk.i64_in ((j:Int)+1) (by omega)
   go_wp2_with fail
   go_roundw
   case rel=>exact⟨j+1,by omega,by go_num,⟨_,rfl,(by omega),(by have h1:=m1_1.out;have h2:=HS.out;unfold Hid;omega)⟩,hB,x0⟩
   case measure=>simp[intOf];omega
  ·skip
   have HMM:Hid (m1=rx):=zq (by have:=m1_1.out;rw[List.take_of_length_le (by have:=HN.out;omega)] at this;have:=HT0.out;omega)
   go_wp2_with fail
   refine bq (.int .i64 (m1)) (by simp[results,Try.results30,go_sem,bne]) ?_
   exact⟨bg ((ly m1 rx HMM.out).trans HT.out),hB⟩
termination_by SizeOf.sizeOf t
decreasing_by exact Tm.kid_lt ht
end Go.Proofs.Ytfhglkmjibjjoaa
