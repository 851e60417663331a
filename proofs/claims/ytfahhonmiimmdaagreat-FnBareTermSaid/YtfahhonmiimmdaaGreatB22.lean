/- Two lists that grow by append side by side: each in a block of its own, what both hold are readings in other blocks. And what else its parts name. -/
import Derived.Test.YtfahhonmiimmdaaGreatMkH
set_option linter.unusedSimpArgs false
set_option linter.unusedVariables false
set_option maxRecDepth 100000
set_option maxHeartbeats 16000000
namespace Go.Proofs.YtfahhonmiimmdaaGreat
open Go.RowKit
theorem sH {w w':World}{B n sz:Nat}{e:TypeId}{v:Value}{xs:List Value}(h:w.ownsRow B e sz v n xs)(hk : ∀b,v.ownBlock=some b→w'.heap[b]?=w.heap[b]?):w'.ownsRow B e sz v n xs:=by
 obtain⟨h1,h2 | ⟨g,cap,cur,rfl,hB,hg,hn,hc,hs,ht⟩⟩:=h
 ·exact⟨h1,.inl h2⟩
 ·exact⟨h1,.inr ⟨g,cap,cur,rfl,hB,(hk g rfl).trans hg,hn,hc,hs,ht⟩⟩
def dj (B:Nat)(e1 e2:TypeId)(s1 s2:Nat)(w:World)(v1 v2:Value)(n1 n2:Nat)(r1 r2:List (List C)):Prop:=
 r1.length=n1∧r2.length=n2∧(∀b,v1.ownBlock=some b→v2.ownBlock≠some b)∧∃xs1 xs2,w.ownsRow B e1 s1 v1 n1 xs1∧w.ownsRow B e2 s2 v2 n2 xs2 ∧
  aW (fun b=>B≤b∧v1.ownBlock≠some b∧v2.ownBlock≠some b) w r1 xs1∧aW (fun b=>B≤b∧v1.ownBlock≠some b∧v2.ownBlock≠some b) w r2 xs2
theorem dj.below {B:Nat}{e1 e2:TypeId}{s1 s2 n1 n2:Nat}{w w':World}{v1 v2:Value}{r1 r2:List (List C)}(h:dj B e1 e2 s1 s2 w v1 v2 n1 n2 r1 r2)(k:Below w.heap.size w w'):dj B e1 e2 s1 s2 w' v1 v2 n1 n2 r1 r2:=by
 obtain⟨a,b,c,xs1,xs2,o1,o2,p1,p2⟩:=h
 exact⟨a,b,c,xs1,xs2,aY o1 k,aY o2 k,p1.move (.below k) _ _,p2.move (.below k) _ _⟩
theorem dj.swap {B:Nat}{e1 e2:TypeId}{s1 s2 n1 n2:Nat}{w:World}{v1 v2:Value}{r1 r2:List (List C)}(h:dj B e1 e2 s1 s2 w v1 v2 n1 n2 r1 r2):dj B e2 e1 s2 s1 w v2 v1 n2 n1 r2 r1:=by
 obtain⟨a,b,c,xs1,xs2,o1,o2,p1,p2⟩:=h
 exact⟨b,a,fun x hx e=>c x e hx,xs2,xs1,o2,o1,p2.move (.weaken fun x h _=>⟨h.1,h.2.2,h.2.1⟩) _ _,p1.move (.weaken fun x h _=>⟨h.1,h.2.2,h.2.1⟩) _ _⟩
theorem dj.setCell {B:Nat}{e1 e2:TypeId}{s1 s2 n1 n2:Nat}{w:World}{v1 v2:Value}{r1 r2:List (List C)}(h:dj B e1 e2 s1 s2 w v1 v2 n1 n2 r1 r2){p:Addr}(hp:p.block<B)(u:Value):dj B e1 e2 s1 s2 (w.setCell p u) v1 v2 n1 n2 r1 r2:=by
 obtain⟨a,b,c,xs1,xs2,o1,o2,p1,p2⟩:=h
 exact⟨a,b,c,xs1,xs2,ownsRow_setCell_below o1 hp u,ownsRow_setCell_below o2 hp u,p1.move ⟨by simp[World.setCell],fun _ h _=>h,fun b hb _=>Below.heap_setCell w p u b (by have:=hb.1;omega)⟩ _ _,p2.move ⟨by simp[World.setCell],fun _ h _=>h,fun b hb _=>Below.heap_setCell w p u b (by have:=hb.1;omega)⟩ _ _⟩
theorem dj.push {B g cap n1 n2 s1 s2:Nat}{e1 e2:TypeId}{wr W w2:World}{v1 v2:Value}{r1 r2:List (List C)}{xs1 ys:List Value}{rw':List C}(hl:r1.length=n1)(hl2:r2.length=n2)(hd : ∀b,v1.ownBlock=some b→v2.ownBlock≠some b)
  (ho:wr.ownsRow B e1 s1 v1 n1 xs1) (h2 : ∃xs2,wr.ownsRow B e2 s2 v2 n2 xs2∧aW (fun b=>B≤b∧v1.ownBlock≠some b∧v2.ownBlock≠some b) wr r2 xs2) (hv:aW (fun b=>B≤b∧v1.ownBlock≠some b∧v2.ownBlock≠some b) wr r1 xs1)
  (hb:Below wr.heap.size wr W) (hr:bE (fun b=>B≤b∧v1.ownBlock≠some b∧v2.ownBlock≠some b) W rw' ys)
  (hown:w2.ownsRow B e1 s1 (.slice (some ⟨g,0,none⟩) (n1+1) cap) (n1+1) (xs1++ys)) (hgrow:W.grownBy w2 v1.ownBlock) (hat:v1.ownBlock=some g∨g=W.heap.size) :
  dj B e1 e2 s1 s2 w2 (.slice (some ⟨g,0,none⟩) (n1+1) cap) v2 (n1+1) n2 (r1 ++ [rw']) r2:=by
 obtain⟨xs2,ho2,hv2⟩:=h2;have hlt2 : ∀b,v2.ownBlock=some b→b<wr.heap.size:=fun b hb=>(ho2.lt b hb).2;have hsz:wr.heap.size≤W.heap.size:=hb.size;have hgd:v2.ownBlock≠some g:=by
  intro e
  rcases hat with h | h
  ·exact hd g h e
  ·have:=hlt2 g e;omega
 have kk:bx (fun b=>B≤b∧v1.ownBlock≠some b∧v2.ownBlock≠some b) (fun b=>B≤b∧(Value.slice (some ⟨g,0,none⟩) (n1+1) cap).ownBlock≠some b∧v2.ownBlock≠some b) W w2:=by
  refine⟨hgrow.size,fun b hb hl=>⟨hb.1,fun e=>?_,hb.2.2⟩,fun b hb hl=>hgrow.block b hl (fun e=>hb.2.1 e.symm)⟩;simp only[Value.ownBlock,Option.some.injEq] at e;subst e
  rcases hat with h | h
  ·exact hb.2.1 h
  ·omega
 refine⟨by simp[hl],hl2,fun b hb e=>?_,xs1++ys,xs2,hown,sH ho2 (fun b hbb=>?_),aW.append r1 [rw'] xs1 ys ((hv.move (.below hb) _ _).move kk _ _) (aW.one (hr.move kk)),(hv2.move (.below hb) _ _).move kk _ _⟩
 ·simp only[Value.ownBlock,Option.some.injEq] at hb
  subst hb
  exact hgd e
 ·have h3:=hlt2 b hbb
  rw[hgrow.block b (by omega) (fun e=>hd b e.symm hbb),hb.block b h3]
theorem dj.fst {B:Nat}{e1 e2:TypeId}{s1 s2 n1 n2:Nat}{w:World}{v1 v2:Value}{r1 r2:List (List C)}(h:dj B e1 e2 s1 s2 w v1 v2 n1 n2 r1 r2):bL B e1 s1 w v1 n1 r1:=by
 obtain⟨a,b,c,xs1,xs2,o1,o2,p1,p2⟩:=h
 exact⟨a,xs1,o1,p1.move (.weaken fun x h _=>⟨h.1,h.2.1⟩) _ _⟩
theorem dj.sndRep {B:Nat}{e1 e2:TypeId}{s1 s2 n1 n2:Nat}{w:World}{v1 v2:Value}{r1 r2:List (List C)}(h:dj B e1 e2 s1 s2 w v1 v2 n1 n2 r1 r2):aM (fun b=>B≤b∧v1.ownBlock≠some b) w (.sl r2) v2:=by
 obtain⟨a,b,c,xs1,xs2,o1,o2,p1,h2⟩:=h;subst b;have h1':=o2;obtain⟨hx,h3 | ⟨g,cap,cur,h3,hB,hg,hn,hc,hs,ht⟩⟩:=o2
 ·obtain⟨rfl,h4⟩:=h3
  have:r2 = []:=List.length_eq_zero_iff.1 h4;subst this;unfold aM
  exact⟨none,0,rfl,Nat.le_refl _,by unfold maxLen;omega,.inl rfl⟩
 ·subst h3
  have hcl : ∀j u,xs2[j]?=some u→w.cell? ⟨g,j,none⟩=some u:=by
   intro j u hj;subst ht;simp only[World.cell?,hg];rw[List.getElem?_take] at hj
   split at hj
   ·simpa using hj
   ·cases hj
  unfold aM
  exact⟨_,cap,rfl,hn,hc,.inr ⟨g,0,rfl,⟨hB,fun e=>c g e rfl⟩,(Array.getElem?_eq_some_iff.1 hg).1,aW.rows r2 xs2 0 (h2.move (.weaken fun _ hb _=>⟨hb.1,hb.2.1⟩) _ _) (fun j u hj=>by simpa using hcl j u hj)⟩⟩
def po:Oper:=⟨some 54,.load 25 (.tmp 6),25,"l3_typing.go:199",#[],none⟩
def pp:Oper:=⟨some 55,.call {callee:=.value (.func 81),args:=#[.tmp 54],argTypes:=#[25]},25,"l3_typing.go:199",#[⟨0,.data⟩],none⟩
def pq:Oper:=⟨some 56,.move (.tmp 0),46,"l3_typing.go:199",#[],none⟩
def pt:Oper:=⟨some 57,.move (.tmp 1),96,"l3_typing.go:199",#[],none⟩
def pu:Oper:=⟨some 58,.move (.tmp 0),46,"l3_typing.go:199",#[],none⟩
def pw:Oper:=⟨some 59,.load 25 (.tmp 6),25,"l3_typing.go:199",#[],none⟩
def px:Oper:=⟨some 60,.call {callee:=.value (.func 57),args:=#[.tmp 58,.tmp 59],argTypes:=#[46,25]},25,"l3_typing.go:199",#[⟨4,.data⟩,⟨5,.data⟩,⟨1,.chain⟩],none⟩
def py:Oper:=⟨some 61,.move (.tmp 3),3,"l3_typing.go:199",#[],none⟩
def pz:Oper:=⟨some 62,.binOp .sub 3 (.tmp 61) (.const (.int .i64 1)) 3,3,"l3_typing.go:199",#[⟨7,.data⟩],none⟩
def pA:Oper:=⟨some 63,.call {callee:=.value (.func 51),args:=#[.tmp 56,.tmp 57,.tmp 60,.tmp 62],argTypes:=#[46,96,25,3]},28,"l3_typing.go:199",#[⟨2,.data⟩,⟨3,.data⟩,⟨6,.data⟩,⟨8,.data⟩,⟨6,.chain⟩],none⟩
def lQ:Oper:=⟨some 64,.buildSlice 26 1 #[(0,.tmp 63)],26,"l3_typing.go:199",#[⟨9,.data⟩],none⟩
def lS:Oper:=⟨some 65,.build 28 #[(0,.const (.int .i64 13)),(3,.tmp 55),(6,.tmp 64)],28,"l3_typing.go:199",#[⟨1,.data⟩,⟨10,.data⟩],none⟩
def lT:Oper:=⟨none,.store 28 (.tmp 8) (.tmp 65),0,"l3_typing.go:199",#[⟨11,.data⟩,⟨9,.chain⟩,⟨0,.phase⟩,⟨1,.phase⟩,⟨2,.phase⟩,⟨3,.phase⟩,⟨4,.phase⟩,⟨5,.phase⟩,⟨6,.phase⟩,⟨7,.phase⟩,⟨8,.phase⟩,⟨9,.phase⟩,⟨10,.phase⟩,⟨11,.phase⟩],none⟩
theorem mkW0 (dd:Int)(s:S)(r p:Nat)(l:List Bd)(w:World)(kt:Int)(ta:Option Addr)(tn tq:Nat)(xa:Option Addr)(xn xq:Nat):(dS dd s r p l w kt ta tn tq xa xn xq).1.1:=by
 intro _ _ _ _ _ _ _ _ HWK _ _ _ HNL HCV HOK HSV HIH _ _ _ MB _ _ _ _ _ _ _ _ _ _ _ _ _ _ _ _ _ _ _ _ _ _ _ _ _ _ _ _ _ _ _ _ _ _ _ _ _ _ _ _ _ _ _ h0 _ _ _ _ _ _ _ _ _ _ _ HD2 _ _ HUU _ _ _ _ _ _ w1 _ _ fT fR fC hX hT rd _ _ _;refine wp_region_noPanic ?_;refine wp_region_held_drew (S:=fun w'=>w'.cell? ⟨w.heap.size,0,none⟩=some (.int .i64 kt)∧w'.cell? ⟨w.heap.size,1,none⟩=some (.slice ta tn tq)) (by kernel_rfl) ?_ (fun hH0=>?_)
 ·exact⟨ah fT rfl,ah fT rfl⟩
 obtain⟨U1,hU,hb,zU1a,zU1b⟩:=bK w1;rw[hU] at hH0 ⊢;replace fT:=ag fT hb;replace fR:=ag fR hb;replace fC:=zqb fC hb;replace rd:=zq (rd.out.below hb);replace hX:=zq (hX.out.below hb);replace hT:=zq (hT.out.below hb);(try simp only[World.size_alloc] at zU1a zU1b);clear hU hb;refine hwt 0 po (.agg #[.int .i64 kt,.slice ta tn tq]) hH0 ?_ ?_
 ·intro w' hSw;dsimp only[po];go_simp
 try simp only[po,hwA]
 refine hwt 2 pq (.pointer (some ⟨r,0,none⟩)) hH0 ?_ ?_
 ·intro w' hSw;dsimp only[pq];go_simp
 try simp only[pq,hwA]
 refine hwt 3 pt (.slice xa xn xq) hH0 ?_ ?_
 ·intro w' hSw;dsimp only[pt];go_simp
 try simp only[pt,hwA]
 refine hwt 4 pu (.pointer (some ⟨r,0,none⟩)) hH0 ?_ ?_
 ·intro w' hSw;dsimp only[pu];go_simp
 try simp only[pu,hwA]
 refine hwt 5 pw (.agg #[.int .i64 kt,.slice ta tn tq]) hH0 ?_ ?_
 ·intro w' hSw;dsimp only[pw];go_simp
 try simp only[pw,hwA]
 refine hwt 7 py (.int .i64 dd) hH0 ?_ ?_
 ·intro w' hSw;dsimp only[py];go_simp
 try simp only[py,hwA]
 refine hwt 8 pz (.int .i64 (dd-1)) hH0 ?_ ?_
 ·intro w' hSw;dsimp only[pz];go_simp;exact HWK.out
 try simp only[pz,hwA]
 refine hwr 1 pp (fun K hK=>?_)
 dsimp only[pp];go_simp
 go_at_call 81
 refine(bi _ s.ty _ _ hT.out (S.cnt_ok HSV.out)).mono ?_;rintro e X1001 ⟨v,rfl,hv,hb⟩;obtain⟨kc,ac,nc,qc,rfl⟩:=hv.shape;have hN':=hv.rep.rg;clear hv
 go_wp2_with fail
 have zX1001:U1.heap.size≤X1001.heap.size:=hb.size;replace fT:=ag fT hb;replace fR:=ag fR hb;replace fC:=zqb fC hb;replace rd:=zq (rd.out.below hb);replace hX:=zq (hX.out.below hb);replace hT:=zq (hT.out.below hb);have hN:=hN';clear hN';refine hK.out _ _ ⟨ah fT rfl,ah fT rfl⟩ (fun hH1001=>?_);clear hK K hH0 hb
 try simp only[pp,hwA]
 refine hwr 6 px (fun K hK=>?_)
 dsimp only[px];go_simp
 go_at_call 57
 refine(es r _ s _ _ rd.out (hT.out.move (.weaken fun b h _=>h.1)) HSV.out (by omega)).mono ?_;rintro e X1002 ⟨s2,v,qs,rfl,hvs2,hv,hqs,hrd,hb⟩;obtain⟨kb,ab,nb,qb,rfl⟩:=hv.shape;have hB_':=hv.rg;have rd':Hid (aT X1002 r qs):=zq hrd;clear hv hrd
 go_wp2_with fail
 have zX1002:X1001.heap.size≤X1002.heap.size:=hb.size;replace fT:=aB fT hb;replace fR:=aB fR hb;replace fC:=zqc fC hb;replace hX:=zq (hX.out.move (kpN hb (fun b hb=>hb.1)));replace hT:=zq (hT.out.move (kpN hb (fun b hb=>hb.1)));replace hN:=zq (hN.out.move (kpN hb (fun b hb=>by have h1:=hb.1;have h2:=hb.2;omega)));have hB_:=hB_';clear hB_';clear rd;have rd:=rd';clear rd';refine hK.out _ _ ⟨ah fT rfl,ah fT rfl⟩ (fun hH1002=>?_);clear hK K hH1001 hb
 try simp only[px,hwA]
 refine hwr 9 pA (fun K hK=>?_)
 dsimp only[pA];go_simp
 go_at_call 51
 refine(HIH.out (s2) l (cL HD2.out HSV.out hvs2) hvs2 HOK.out (by omega) HNL.out _ _ _ _ rd.out (hX.out.move (.weaken fun b h _=>h.1)) HCV.out (hB_.out.move (.weaken fun b h _=>by have h1:=h.1;intro e;omega)) (by have h1:=bN HD2.out hvs2;have h0:=HUU.out;omega)).mono ?_;rintro e X1003 ⟨t2,v,q2,rfl,hcn2,hv,hq2,hrd,hb⟩;obtain⟨kt2,nm2,ut2,tk2,ta2,tn2,tq2,fk2,fa2,fn2,fq2,lt2,ct2,mt2,qt2,rfl⟩:=hv.shape;have HC2:=zq hcn2;clear hcn2;have h2_':=hv.rg;have rd':Hid (aT X1003 r q2):=zq hrd;clear hv hrd
 go_wp2_with fail
 have zX1003:X1002.heap.size≤X1003.heap.size:=hb.size;replace fT:=aB fT hb;replace fR:=aB fR hb;replace fC:=zqc fC hb;replace hX:=zq (hX.out.move (kpN hb (fun b hb=>hb.1)));replace hT:=zq (hT.out.move (kpN hb (fun b hb=>hb.1)));replace hN:=zq (hN.out.move (kpN hb (fun b hb=>by have h1:=hb.1;have h2:=hb.2;omega)));replace hB_:=zq (hB_.out.move (kpN hb (fun b hb=>by have h1:=hb.1;have h2:=hb.2;omega)));have h2_:=h2_';clear h2_';clear rd;have rd:=rd';clear rd';refine hK.out _ _ ⟨ah fT rfl,ah fT rfl⟩ (fun hH1003=>?_);clear hK K hH1002 hb
 try simp only[pA,hwA]
 refine hwr 10 lQ (fun K hK=>?_)
 dsimp only[lQ];go_simp
 (try go_wp2_with fail);obtain⟨X1004,hXq,hb,fL,zX1004a,zX1004b⟩:=aZ X1003 (.cells #[.int .i64 kt2,.string nm2,.int .i64 ut2,.int .i64 tk2,.slice ta2 tn2 tq2,.int .i64 fk2,.slice fa2 fn2 fq2,.int .i64 lt2,.slice ct2 mt2 qt2] 28);rw[hXq];replace fT:=ag fT hb;replace fR:=ag fR hb;replace fC:=zqb fC hb;replace rd:=zq (rd.out.below hb);replace hX:=zq (hX.out.below hb);replace hT:=zq (hT.out.below hb);replace hN:=zq (hN.out.below hb);replace hB_:=zq (hB_.out.below hb);replace h2_:=zq (h2_.out.below hb);refine hK.out _ _ ⟨ah fT rfl,ah fT rfl⟩ (fun hH1004=>?_);clear hK K hH1003 hb hXq
 try simp only[lQ,hwA]
 refine hwt 11 lS (.agg #[.int .i64 13,.string {data:=#[]},.int .i64 0,.int .i64 kc,.slice ac nc qc,.int .i64 0,.slice none 0 0,.int .i64 0,.slice (some ⟨X1003.heap.size,0,none⟩) 1 1]) hH1004 ?_ ?_
 ·intro w' hSw;dsimp only[lS];go_simp
 try simp only[lS,hwA]
 refine hwr 12 lT (fun K hK=>?_);obtain⟨r0,rf0,r1,rf1,r2,rf2,r3,rf3,r4,rf4,r5,rf5,r6,rf6,r7,rf7,r8,rf8⟩:=blk9f fR
 dsimp only[lT];go_simp
 (try go_wp2_with fail);have hQq:=bQ fR (.int .i64 13) (.string {data:=#[]}) (.int .i64 0) (.int .i64 kc) (.slice ac nc qc) (.int .i64 0) (.slice none 0 0) (.int .i64 0) (.slice (some ⟨X1003.heap.size,0,none⟩) 1 1);clear fR r0 rf0 r1 rf1 r2 rf2 r3 rf3 r4 rf4 r5 rf5 r6 rf6 r7 rf7 r8 rf8;obtain⟨X1005,hXq,hsq,fR,zX1005a,zX1005b⟩:=hQq;rw[hXq];replace fT:=hsq.blk (by omega) fT;replace fC:=zq (hsq.chg fC.out (by omega));replace rd:=zq (hsq.rd rd.out (by omega));replace hX:=zq (hX.out.move (hsq.keeps (fun b hb=>by have:=hb.2;omega)));replace hT:=zq (hsq.rep (fun b hb=>by have:=hb.2;omega) hT.out);replace hN:=zq (hsq.rep (fun b hb=>by have h1:=hb.1;have h2:=hb.2;omega) hN.out);replace hB_:=zq (hsq.rep (fun b hb=>by have h1:=hb.1;have h2:=hb.2;omega) hB_.out);replace h2_:=zq (h2_.out.move (hsq.keeps (fun b hb=>by have h1:=hb.1;have h2:=hb.2;omega)));replace fL:=hsq.blk (by omega) fL;refine hK.out _ _ ⟨ah fT rfl,ah fT rfl⟩ (fun hH1005=>?_);clear hK K hH1004 hsq hXq
 try simp only[lT,hwA]
 refine wpAnyH_done (by kernel_rfl) ?_ _;refine NoPanic.normal ?_;clear hH1005;obtain⟨rc0,rc1,rc2,rc3,rc4,rc5,rc6,rc7,rc8⟩:=blk9 fR
 go_wp2_with fail
 refine bodyPost_ret (v:=.agg #[.int .i64 13,.string {data:=#[]},.int .i64 0,.int .i64 kc,.slice ac nc qc,.int .i64 0,.slice none 0 0,.int .i64 0,.slice (some ⟨X1003.heap.size,0,none⟩) 1 1]) (by simp[results,Tryz.results51,go_sem,rc0,rc1,rc2,rc3,rc4,rc5,rc6,rc7,rc8]) rfl ?_;have hlo:=bN HD2.out hvs2;have hU2:=HUU.out;have hks:aS (w.heap.size ≤ ·) X1005 [t2] (.slice (some ⟨X1003.heap.size,0,none⟩) 1 1):=aS.blk (by show w.heap.size≤_;omega) fL rfl (by unfold maxLen;omega) (aW.c1 (h2_.out.move (.weaken fun b h _=>by have h1:=h.1;show w.heap.size≤b;omega)).srep);have hcc:(Tm.mk 13 {data:=#[]} 0 s.ty (.mk 0 []) 0 [t2]).cnt≤MB:=by
  have h1:=HC2.out;have h3:=zq (gy HSV.out);have h4:=h3.out;rw[←S.ty_cnt] at h4;(try simp only[Tm.cnt,Tm.cnts,Ty.cnt,Ty.cnts,List.length_cons,List.length_nil,show({data:=#[]}:ByteArray).size=0 from rfl])
  omega
 exact⟨Tm.mk 13 {data:=#[]} 0 s.ty (.mk 0 []) 0 [t2],_,q2,rfl,hcc,aA.mk bp (hN.out.move (.weaken fun b h _=>by have h1:=h.1;show w.heap.size≤b;omega)) ⟨_,rfl,aE.nil0⟩ hks,by omega,rd.out,fC.out⟩
theorem mkW3 (dd:Int)(s:S)(r p:Nat)(l:List Bd)(w:World)(kt:Int)(ta:Option Addr)(tn tq:Nat)(xa:Option Addr)(xn xq:Nat):(dS dd s r p l w kt ta tn tq xa xn xq).1.2.2.2.1:=by
 intro _ _ _ _ _ _ _ _ _ _ _ _ HNL HCV HOK HSV HIH _ _ _ MB _ _ _ _ _ _ _ _ _ _ _ _ _ _ _ _ _ _ _ _ _ _ _ _ _ _ _ _ _ _ _ _ _ _ _ _ _ _ _ _ _ _ _ h0 _ _ _ _ _ _ _ _ _ _ _ HD2 _ _ HUU _ _ HLB HLI HLS _ w1 _ _ fT fR fC hX hT rd _ _ _ _ y0 y1 lyT _ _ _ _;refine(HIH.out (s) l (cL HD2.out HSV.out HSV.out) HSV.out HOK.out (by omega) HNL.out _ _ _ _ rd.out (hX.out.move (.weaken fun b h _=>h.1)) HCV.out (hT.out.move (.weaken fun b h _=>h.1)) (by have h1:=HLB.out;have h2:=HLS.out;have h3:=HLI.out;have h0:=HUU.out;omega)).mono ?_;rintro e w2 ⟨t2,v,q2,rfl,hcn2,hv,hq2,hrd,hb⟩;obtain⟨kt2,nm2,ut2,tk2,ta2,tn2,tq2,fk2,fa2,fn2,fq2,lt2,ct2,mt2,qt2,rfl⟩:=hv.shape;have HC2:=zq hcn2;have h2_':=hv.rg;clear hv hcn2;have zw2:=hb.size;(try simp only[World.size_alloc] at zw2);replace fT:=aB fT hb;replace fR:=aB fR hb;replace fC:=zqc fC hb;replace hX:=zq (hX.out.move (kpN hb (fun b hb=>hb.1)));replace hT:=zq (hT.out.move (kpN hb (fun b hb=>hb.1)));replace rd:=zq hrd;clear hrd;clear hb;have h2_:=h2_';clear h2_';clear y0 y1 lyT
 go_wp2_with fail
 refine(cO 1 _).mono ?_;rintro e w3 ⟨rfl,hb⟩;have zw3:=hb.size;(try simp only[World.size_alloc] at zw3);replace fT:=ag fT hb;replace fR:=ag fR hb;replace fC:=zqb fC hb;replace rd:=zq (rd.out.below hb);replace hX:=zq (hX.out.below hb);replace hT:=zq (hT.out.below hb);replace h2_:=zq (h2_.out.below hb);clear hb
 go_wp2_with fail
 obtain⟨w4,hXq,hb,fL,zw4a,zw4b⟩:=aZ w3 (.cells #[.int .i64 kt2,.string nm2,.int .i64 ut2,.int .i64 tk2,.slice ta2 tn2 tq2,.int .i64 fk2,.slice fa2 fn2 fq2,.int .i64 lt2,.slice ct2 mt2 qt2,.int .i64 2,.string {data:=#[]},.int .i64 1,.int .i64 0,.slice none 0 0,.int .i64 0,.slice none 0 0,.int .i64 0,.slice none 0 0] 28);rw[hXq];replace fT:=ag fT hb;replace fR:=ag fR hb;replace fC:=zqb fC hb;replace rd:=zq (rd.out.below hb);replace hX:=zq (hX.out.below hb);replace hT:=zq (hT.out.below hb);replace h2_:=zq (h2_.out.below hb);clear hb hXq;refine(cN 10 _ _ _ _).mono ?_;rintro e w5 ⟨rfl,hb⟩;have zw5:=hb.size;(try simp only[World.size_alloc] at zw5);replace fT:=ag fT hb;replace fR:=ag fR hb;replace fC:=zqb fC hb;replace rd:=zq (rd.out.below hb);replace hX:=zq (hX.out.below hb);replace hT:=zq (hT.out.below hb);replace h2_:=zq (h2_.out.below hb);replace fL:=ag fL hb;clear hb
 go_wp2_with fail
 obtain⟨w6,hXq,hb,fM,zw6a,zw6b⟩:=aZ w5 (.cells #[.int .i64 10,.string {data:=#[]},.int .i64 0,.int .i64 0,.slice none 0 0,.int .i64 0,.slice none 0 0,.int .i64 0,.slice (some ⟨w3.heap.size,0,none⟩) 2 2] 28);rw[hXq];replace fT:=ag fT hb;replace fR:=ag fR hb;replace fC:=zqb fC hb;replace rd:=zq (rd.out.below hb);replace hX:=zq (hX.out.below hb);replace hT:=zq (hT.out.below hb);replace h2_:=zq (h2_.out.below hb);replace fL:=ag fL hb;clear hb hXq;refine(cN 11 _ _ _ _).mono ?_;rintro e w7 ⟨rfl,hb⟩;have zw7:=hb.size;(try simp only[World.size_alloc] at zw7);replace fT:=ag fT hb;replace fR:=ag fR hb;replace fC:=zqb fC hb;replace rd:=zq (rd.out.below hb);replace hX:=zq (hX.out.below hb);replace hT:=zq (hT.out.below hb);replace h2_:=zq (h2_.out.below hb);replace fL:=ag fL hb;replace fM:=ag fM hb;clear hb;obtain⟨x0,f0,x1,f1,x2,f2,x3,f3,x4,f4,x5,f5,x6,f6,x7,f7,x8,f8⟩:=blk9f fR;have lxR:=aD fR;have h1:=HLB.out;have h2:=HLS.out;have h3:=HLI.out;have h0:=HUU.out;have hks:aS (w.heap.size+1+1 ≤ ·) w7 [t2,Tm.mk 2 {data:=#[]} 1 (.mk 0 []) (.mk 0 []) 0 []] (.slice (some ⟨w3.heap.size,0,none⟩) 2 2):=aS.blk (by show w.heap.size+1+1≤_;omega) fL rfl (by unfold maxLen;omega) (aW.c2 (h2_.out.move (.weaken fun b h _=>by have h1:=h.1;show w.heap.size+1+1≤b;omega)).srep (aA.leaf0 (F:=(w.heap.size+1+1 ≤ ·)) (w:=w7) 2 1 bp).srep);have h10:aA (w.heap.size+1+1 ≤ ·) w7 (Tm.mk 10 {data:=#[]} 0 (.mk 0 []) (.mk 0 []) 0 [t2,Tm.mk 2 {data:=#[]} 1 (.mk 0 []) (.mk 0 []) 0 []]) (.agg #[.int .i64 10,.string {data:=#[]},.int .i64 0,.int .i64 0,.slice none 0 0,.int .i64 0,.slice none 0 0,.int .i64 0,.slice (some ⟨w3.heap.size,0,none⟩) 2 2]):=aA.mk bp ⟨_,rfl,aE.nil0⟩ ⟨_,rfl,aE.nil0⟩ hks;have hks2:aS (w.heap.size+1+1 ≤ ·) w7 [Tm.mk 10 {data:=#[]} 0 (.mk 0 []) (.mk 0 []) 0 [t2,Tm.mk 2 {data:=#[]} 1 (.mk 0 []) (.mk 0 []) 0 []]] (.slice (some ⟨w5.heap.size,0,none⟩) 1 1):=aS.blk (by show w.heap.size+1+1≤_;omega) fM rfl (by unfold maxLen;omega) (aW.c1 h10.srep);have hRR:aA (w.heap.size+1+1 ≤ ·) w7 (Tm.mk 11 {data:=#[]} 0 (.mk 0 []) (.mk 0 []) 0 [Tm.mk 10 {data:=#[]} 0 (.mk 0 []) (.mk 0 []) 0 [t2,Tm.mk 2 {data:=#[]} 1 (.mk 0 []) (.mk 0 []) 0 []]]) (.agg #[.int .i64 11,.string {data:=#[]},.int .i64 0,.int .i64 0,.slice none 0 0,.int .i64 0,.slice none 0 0,.int .i64 0,.slice (some ⟨w5.heap.size,0,none⟩) 1 1]):=aA.mk bp ⟨_,rfl,aE.nil0⟩ ⟨_,rfl,aE.nil0⟩ hks2;have hcc:(Tm.mk 11 {data:=#[]} 0 (.mk 0 []) (.mk 0 []) 0 [Tm.mk 10 {data:=#[]} 0 (.mk 0 []) (.mk 0 []) 0 [t2,Tm.mk 2 {data:=#[]} 1 (.mk 0 []) (.mk 0 []) 0 []]]).cnt≤MB:=by
  have g1:=HC2.out;(try simp only[Tm.cnt,Tm.cnts,Ty.cnt,Ty.cnts,List.length_cons,List.length_nil,show({data:=#[]}:ByteArray).size=0 from rfl])
  omega
 have HEND:=zq (DTm.stored (p:=p) (r:=r) (w:=w) (R:=w.heap.size+1) (B:=w.heap.size+1+1) (c:=MB) (m:=MB) (v0:=.int .i64 11) (v1:=.string {data:=#[]}) (v2:=.int .i64 0) (v3:=.int .i64 0) (v4:=.slice none 0 0) (v5:=.int .i64 0) (v6:=.slice none 0 0) (v7:=.int .i64 0) (v8:=.slice (some ⟨w5.heap.size,0,none⟩) 1 1) hRR hcc (by omega) (by omega) rd.out fC.out (by omega) (by omega) (by omega));clear hRR hcc;(try clear hks);(try clear hN);(try clear fL)
 go_wp2_with fail
 refine bodyPost_ret (v:=.agg #[.int .i64 11,.string {data:=#[]},.int .i64 0,.int .i64 0,.slice none 0 0,.int .i64 0,.slice none 0 0,.int .i64 0,.slice (some ⟨w5.heap.size,0,none⟩) 1 1]) (by simp[results,Tryz.results51,go_sem,x0,x1,x2,x3,x4,x5,x6,x7,x8]) rfl ?_
 exact HEND.out
theorem castsB (F:Nat→Prop)(N0:Nat)(hF : ∀b,F b→b<N0)(t:Tm)(hk:(t.kind==14)=false)(IH : ∀t'∈t.kids,eZ F N0 t'):eZ F N0 t:=by
 intro hlen y w hy hN0;obtain⟨k,nm,u,tk,ta,tn,tq,fk,fa,fn,fq,l,c,m,q,rfl⟩:=hy.shape;obtain⟨r1,r2,r3,r4,r5,r6,r7,r8,r9,rn,rm,rq,hty,hsr,hks⟩:=hy.parts;have hsr0:=hy.srepQ;obtain⟨i0,hi,hz0,hz1,hz2⟩:=info_parts Tryz.infoTm
 cases t with | mk kk nn uu tt ff ll ts=>
 simp only[Tm.kind,Tm.name,Tm.num,Tm.type,Tm.src,Tm.label,Tm.kids] at *;subst r1 r2 r3 r8;have hl2:(Tm.castss ts).length≤1000000:=by unfold Tm.casts at hlen;rw[List.length_append] at hlen;omega
 have HLEN:=zq hl2;have HN:=zq r9;have IHH:=zq IH;have Z0:=zq hz0;have Z1:=zq hz1;have Z2:=zq hz2;have HI:=zq hi;have HF:=zq hF;have HSR:=zq hsr0;unfold maxLen at rq;unfold nW Tm.casts;clear hl2 IH hy r9 r4 r5 r6 r7 rn hsr hty hlen hz0 hz1 hz2 hi hF hsr0;rw[hk,if_neg (by simp)];obtain⟨TL,hTL⟩ : ∃x,([]:List Tm)++Tm.castss ts=x:=⟨_,rfl⟩
 rw[hTL];have HTL:=zq hTL;clear hTL
 go_enter Tryz.func17,Tryz.ntmps17
 have hB:Below w.heap.size w (w.alloc (.cells #[.int .i64 k,.string nm,.int .i64 u,.int .i64 tk,.slice ta tn tq,.int .i64 fk,.slice fa fn fq,.int .i64 l,.slice c m q] 28)):=aj
 go_wp2_with fail
 go_loopw [16,3] (fun i p wr=>∃j:Nat,j≤m∧i = .int .i64 j∧(∃nn:Nat,nn=(([]:List Tm)++Tm.castss (ts.take j)).length∧(nn=0→p = .slice none 0 0)∧cd (w.heap.size+1) F 28 9 wr p nn (Tm.rows (([]:List Tm)++Tm.castss (ts.take j))))∧Below w.heap.size w wr) (fun i _ _=>m-(intOf i).toNat)
 case atStart=>exact⟨0,by omega,rfl,⟨0,by simp[Tm.castss],fun _=>rfl,by simpa [Tm.castss,Tm.rows] using cd.nil _ _ _ _ _⟩,hB⟩
 case round=>
  obtain⟨j,hj,rfl,⟨nn,hnn,hnil,hacc⟩,hbw⟩:=hrel;have hbz0:=hbw.size
  by_cases hlt:j<m
  ·have hjt:j<ts.length:=by have:=HN.out;omega
   obtain⟨b,off,k0,nm0,u0,tk0,ta0,tn0,tq0,fk0,fa0,fn0,fq0,l0,a0,m0,q0,rfl,lb,e0,e1,e2,e3,e4,e5,e6,e7,e8,ht⟩:=hks.at hbw hjt;have hcall:=fun(W:World) (y:Value) (h:aA F W ts[j] y) (hN:N0≤W.heap.size)=>IHH.out ts[j] (List.getElem_mem hjt) (by have:=Tm.castss_take_le ts (j+1);rw[Tm.castss_take_succ ts j hjt,List.length_append] at this;have:=HLEN.out;omega) y W h hN;have htl:nn+ts[j].casts.length≤1000001:=by
    have h1:=Tm.castss_take_le ts (j+1);rw[Tm.castss_take_succ ts j hjt,List.length_append] at h1;rw[hnn,List.length_append];have:=HLEN.out;have:(([]:List Tm):List Tm).length≤1:=by simp
    omega
   have hts:=Tm.castss_take_succ ts j hjt;generalize ts[j].casts=us at hcall htl hts;have HC:=zq hcall;have HTS:=zq hts;have HNN:=zq hnn;have HNIL:=zq hnil;clear hcall hts hnn hnil;obtain⟨cv,qv,rfl⟩:=hacc.shape;have HACC:=zq hacc;clear hacc
   go_wp2_with fail
   refine(HC.out _ _ (ht.below aj) (by simp;omega)).mono ?_;rintro e w1 ⟨v1,rfl,hv1,hv1n,hb1⟩;have hbz:=hb1.size
   simp at hbz
   obtain⟨xs,ho,hl,hs⟩:=HACC.out;obtain⟨xs1,ho1,hl1,hs1⟩:=hv1;have hxl:=ho1.1;obtain⟨ml,hml⟩ : ∃x,us.length=x:=⟨_,rfl⟩
   rw[hml] at htl ho1 hl1 hxl hv1n;have hlt2 : ∀x,(Value.slice cv nn qv).ownBlock=some x→w.heap.size+1≤x:=fun x e=>(ho.lt x e).1;have ho':=aY ho (al aj hb1);have hs':=hs.move (bx.below (al aj hb1)) _ _;have hbel:=fun w2=>bH (w2:=w2) hbw (al aj hb1) ho (by omega);have HML:=zq hml;have HBEL:=zq hbel;have HO:=zq ho';have HS:=zq hs';have HL:=zq hl;have HLT2:=zq hlt2;have HO1:=zq ho1;have HS1:=zq hs1;have HL1:=zq hl1;have HXL:=zq hxl;have hsl:=ho1.2;clear ho hl hs ho1 hl1 hs1 hlt2 ho' hs' hbel hxl hml
   by_cases hm0:ml=0
   ·obtain rfl:=hv1n hm0
    have hus:us = []:=List.eq_nil_of_length_eq_zero (HML.out.trans hm0);have HUS:=zq hus;clear hsl hus hv1n
    go_wp2_with (first | (at_builtin;refine wpList_append_own_none rfl (.tmp 20) (.tmp 22) 26 rfl (w.heap.size+1) 28 i0 9 Tryz.underlying26 HI.out (.slice cv nn qv) nn xs rfl HO.out rfl ?_) | fail)
    go_roundw
    case rel=>exact⟨j+1,by omega,by go_num,⟨nn,by rw[HTS.out,HUS.out,List.append_nil];exact HNN.out,HNIL.out,by rw[HTS.out,HUS.out,List.append_nil];exact⟨xs,HO.out,HL.out,HS.out⟩⟩,al (al hbw aj) hb1⟩
    case measure=>simp[intOf];omega
   ·have hpos:0<ml:=by omega
    rcases hsl with ⟨rfl,h0⟩ | ⟨g1,q1,cur,rfl,hg1,-⟩
    ·exact absurd h0 hm0
    have hcells:=gz HO1.out;have HCE:=zq hcells;have hsz1:w.heap.size+1≤w1.heap.size:=by omega
    clear hcells hv1n
    go_wp2_with (first | (at_builtin;refine wpList_append_lies _ rfl (.tmp 20) (.tmp 22) 26 rfl (w.heap.size+1) 28 i0 _ 9 128 Tryz.underlying26 HI.out Z0.out Z1.out Z2.out rfl (by omega) (.slice cv nn qv) nn xs rfl HO.out ⟨g1,0,none⟩ ml q1 xs1 rfl HXL.out HCE.out HS1.out.one hpos (by unfold maxLen;omega) (by omega) hsz1 _ rfl ?_) | fail)
    intro gg cap2 w2 hown2 hgrow hat hlt3;have hacc2:=cd.pushR HL.out HS.out HL1.out HS1.out (fun b hb=>by have:=HF.out b hb;omega) HLT2.out hown2 hgrow;have HACC2:=zq hacc2;have hbel2:=HBEL.out w2 hgrow;clear hacc2 hown2 hgrow hat
    go_wp2_with fail
    go_roundw
    case rel=>exact⟨j+1,by omega,by go_num,⟨nn+ml,by rw[HTS.out,←List.append_assoc,List.length_append,←HNN.out,HML.out],by omega,by rw[HTS.out,←List.append_assoc,Tm.rows_eq,List.map_append,←Tm.rows_eq,←Tm.rows_eq];exact HACC2.out⟩,hbel2⟩
    case measure=>simp[intOf];omega
  ·have HNN:=zq hnn
   have HNIL:=zq hnil;have HACC:=zq hacc;clear hnn hnil hacc
   go_wp2_with fail
   go_ret
   have e:TL=([]:List Tm)++Tm.castss (ts.take j):=HTL.out.symm.trans (by rw[List.take_of_length_le (by have:=HN.out;omega)]);refine⟨_,rfl,?_,?_,hbw⟩
   ·rw[e,←HNN.out];exact HACC.out.mono (by omega)
   ·rw[e,←HNN.out];exact HNIL.out
end Go.Proofs.YtfahhonmiimmdaaGreat
