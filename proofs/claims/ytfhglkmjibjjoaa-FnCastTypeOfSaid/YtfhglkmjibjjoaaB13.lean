/- The text of a type, by the program and by the reference. And what else its parts name. -/
import Derived.Test.YtfhglkmjibjjoaaB12
import Derived.Test.YtfhglkmjibjjoaaB4
set_option linter.unusedSimpArgs false
set_option linter.unusedVariables false
set_option maxRecDepth 100000
set_option maxHeartbeats 16000000
namespace Go.Proofs.Ytfhglkmjibjjoaa
open Go.RowKit
def S.ofKind (k:Int)(l:List S):S:=if k=1 then .any else if k=2 then .int else if k=3 then .bool else match l with | [a,b]=>if k=4 then .fn a b else .pr a b | _=>.zero
mutual
def Ty.toS:Ty->S
 | .mk k ts=>S.ofKind k (Ty.toSs ts)
def Ty.toSs:List Ty->List S
 | []=> []
 | t::ts=>t.toS::Ty.toSs ts
end
theorem S.ty_toS : ∀s:S,s.ok=true->s.ty.toS=s
 | .zero,h=>by cases h
 | .any,_=>by simp[S.ty,Ty.toS,S.ofKind]
 | .int,_=>by simp[S.ty,Ty.toS,S.ofKind]
 | .bool,_=>by simp[S.ty,Ty.toS,S.ofKind]
 | .fn a b,h=>by simp[S.ok] at h;simp[S.ty,Ty.toS,Ty.toSs,S.ofKind,a.ty_toS h.1,b.ty_toS h.2]
 | .pr a b,h=>by simp[S.ok] at h;simp[S.ty,Ty.toS,Ty.toSs,S.ofKind,a.ty_toS h.1,b.ty_toS h.2]
def aM (k:Int)(ty src:Ty):List S->Option S
  | [h]=>if k=5 then (if (S.fn ty.toS h).vd then some (.fn ty.toS h) else none)
           else if k=14 then (if h.ty.same src then some ty.toS else none)
           else match h with | .pr a b=>some (if k=12 then b else a) | _=>none
  | [g,h]=>if k=6 then (match g with | .fn a b=>if a=h then some b else none | _=>none)
              else if k=10 then (if (S.pr g h).vd then some (.pr g h) else none)
              else if g = .int∧h = .int then some (if k=8 then .bool else .int) else none
  | [c,g,h]=>if c = .bool∧g=h then some g else none
  | _=>none
def aY (k:Int)(ty:Ty):List S->Option (List S × S)
  | [h]=>if k=5 then some ([],.fn ty.toS h)
           else match h.mat 5 with | (a,b,true)=>some ([.pr a b],if k=12 then b else a) | _=>none
  | [g,h]=>if k=6 then (match g.mat 4 with | (a,b,true)=>if h.cons a then some ([.fn a b,a],b) else none | _=>none)
              else if k=10 then some ([],.pr g h)
              else if g.cons .int&&h.cons .int then some ([.int,.int],if k=8 then .bool else .int) else none
  | [c,g,h]=>if c.cons .bool&&g.cons h then some ([.bool,g.meet h,g.meet h],g.meet h) else none
  | _=>none
def bv (o:Option (List S × S))(hs:List S):Option S:=match o with
 | none=>none
 | some (ws,t)=>if t.vd&&decide (ws=hs.take ws.length) then some t else none
theorem dx {a b:S}(h:(S.pr a b).vd=true):a.vd=true∧b.vd=true:=by
 have h3:=S.vd_dep h;have h1:=S.vd_ok h;have e:(S.pr a b).dep=max a.dep b.dep+1:=rfl;have e1:(S.pr a b).ok=(a.ok&&b.ok):=rfl;have m1:=Nat.le_max_left a.dep b.dep;have m2:=Nat.le_max_right a.dep b.dep;rw[e] at h3;rw[e1,Bool.and_eq_true] at h1
 exact⟨S.vd_mk h1.1 (by omega),S.vd_mk h1.2 (by omega)⟩
theorem dJ {a b:S}(h:(S.fn a b).vd=true):a.vd=true∧b.vd=true:=by
 have h3:=S.vd_dep h;have h1:=S.vd_ok h;have e:(S.fn a b).dep=max a.dep b.dep+1:=rfl;have e1:(S.fn a b).ok=(a.ok&&b.ok):=rfl;have m1:=Nat.le_max_left a.dep b.dep;have m2:=Nat.le_max_right a.dep b.dep;rw[e] at h3;rw[e1,Bool.and_eq_true] at h1
 exact⟨S.vd_mk h1.1 (by omega),S.vd_mk h1.2 (by omega)⟩
theorem node_1 (k:Int)(ty src:Ty)(h:S)(hk:k=5∨k=11∨k=12)(hv:h.vd=true):aM k ty src [h]=bv (aY k ty [h]) [h]:=by
 rcases hk with rfl | hk
 ·simp[aM,aY,bv]
 ·have h5 : ¬k=5:=by omega
  have h14 : ¬k=14:=by omega
  simp only[aM,aY,if_neg h5,if_neg h14]
  cases h with
  | pr a b=>
   have ha:=dx hv
   rcases hk with rfl | rfl
   ·simp[S.mat,bv,ha.1]
   ·simp[S.mat,bv,ha.2]
  | any=>simp[S.mat,bv]
  | fn a b=>simp[S.mat,bv]
  | zero=>simp[S.mat,bv]
  | int=>simp[S.mat,bv]
  | bool=>simp[S.mat,bv]
theorem iV (k:Int)(ty src:Ty)(g h:S)(hk:k=6∨k=7∨k=8∨k=10)(hg:g.vd=true)(hh:h.vd=true):aM k ty src [g,h]=bv (aY k ty [g,h]) [g,h]:=by
 by_cases h6:k=6
 ·subst h6
  simp only[aM,aY,if_true]
  cases g with
  | fn a b=>
   have ha:=dJ hg;simp only[S.mat,if_true]
   by_cases e:a=h
   ·subst e
    simp[S.cons_refl,bv,ha.2]
   ·by_cases c:h.cons a=true
    ·simp[e,c,bv]
    ·simp[e,c,bv]
  | any=>
   simp only[S.mat]
   by_cases c:h.cons .any=true<;>simp[c,bv]
  | pr a b=>simp[S.mat,bv]
  | zero=>simp[S.mat,bv]
  | int=>simp[S.mat,bv]
  | bool=>simp[S.mat,bv]
 by_cases h10:k=10
 ·subst h10
  simp[aM,aY,bv]
 ·simp only[aM,aY,if_neg h6,if_neg h10]
  by_cases e:g = .int∧h = .int
  ·obtain⟨rfl,rfl⟩:=e
   by_cases h8:k=8<;>simp[S.cons_refl,bv,h8,S.vd,S.ok,S.dep]
  ·rw[if_neg e]
   by_cases c:(g.cons .int&&h.cons .int)=true
   ·rw[if_pos c]
    have : ¬([S.int,S.int] = [g,h]):=by
     intro q;simp only[List.cons.injEq,and_true] at q;exact e ⟨q.1.symm,q.2.symm⟩
    simp[bv,this]
   ·rw[if_neg c];rfl
theorem node_3 (k:Int)(ty src:Ty)(c g h:S)(hg:g.vd=true)(hh:h.vd=true):aM k ty src [c,g,h]=bv (aY k ty [c,g,h]) [c,g,h]:=by
 simp only[aM,aY]
 by_cases e:c = .bool∧g=h
 ·obtain⟨rfl,rfl⟩:=e
  simp[S.cons_refl,S.meet_self,bv,hg]
 ·rw[if_neg e]
  by_cases q:(c.cons .bool&&g.cons h)=true
  ·rw[if_pos q]
   have : ¬([S.bool,g.meet h,g.meet h] = [c,g,h]):=by
    intro q;simp only[List.cons.injEq,and_true] at q;exact e ⟨q.1.symm,q.2.1.symm.trans q.2.2⟩
   simp[bv,this]
  ·rw[if_neg q];rfl
theorem ai.leaf {w:World}(k:Int):ai (fun _=>True) w (Ty.mk k []) (.agg #[.int .i64 k,.slice none 0 0]):=by
 refine⟨_,rfl,?_⟩;unfold av Ty.kids Ty.rows aL
 exact⟨none,0,rfl,Nat.le_refl _,by unfold maxLen;omega,.inl rfl⟩
theorem ai.parts {F:Nat->Prop}{w:World}{t:Ty}{k:Int}{c:Value}(h:ai F w t (.agg #[.int .i64 k,c])):t.kind=k∧aL F w (.sl (Ty.rows t.kids)) c:=by
 obtain⟨s,he,hs⟩:=h;simp only[Value.agg.injEq,Array.mk.injEq,List.cons.injEq,Value.int.injEq,true_and,and_true] at he;obtain⟨rfl,rfl⟩:=he
 exact⟨rfl,hs⟩
theorem ai.two_mk {F:Nat->Prop}{w:World}{b cap:Nat}{k:Int}{t u:Ty}{k1 k2:Int}{c1 c2:Value}(hF:F b)(hc:2<=cap)(hm:cap<=maxLen)
  (e0:w.cell? ⟨b,0,none⟩=some (.int .i64 k1)) (e1:w.cell? ⟨b,1,none⟩=some c1) (e2:w.cell? ⟨b,2,none⟩=some (.int .i64 k2)) (e3:w.cell? ⟨b,3,none⟩=some c2)
  (ht:ai F w t (.agg #[.int .i64 k1,c1])) (hu:ai F w u (.agg #[.int .i64 k2,c2])):ai F w (Ty.mk k [t,u]) (.agg #[.int .i64 k,.slice (some ⟨b,0,none⟩) 2 cap]):=by
 refine⟨_,rfl,?_⟩;obtain⟨p1,p2⟩:=ht.parts;obtain⟨p3,p4⟩:=hu.parts
 cases t with | mk k1' ts=>cases u with | mk k2' us=>
 simp only[Ty.kind,Ty.kids] at *;subst p1 p3;unfold av aL;refine⟨_,cap,by simp[Ty.rows_length],by rw[Ty.rows_length];simpa using hc,hm,.inr ⟨b,0,rfl,hF,World.block_lt_of_cell? _ _ e0,?_⟩⟩;simp only[Ty.rows,Ty.row];unfold bC;refine⟨?_,?_⟩
 ·unfold aP
  refine⟨⟨_,e0,by unfold aL;rfl⟩,?_⟩;unfold aP
  exact⟨⟨_,e1,p2⟩,by unfold aP;trivial⟩
 ·unfold bC
  refine⟨?_,by unfold bC;trivial⟩;unfold aP;refine⟨⟨_,e2,by unfold aL;rfl⟩,?_⟩;unfold aP
  exact⟨⟨_,e3,p4⟩,by unfold aP;trivial⟩
theorem ai.rg {B:Nat}{X:World}{t:Ty}{v:Value}(h:ai (B <= ·) X t v):Hid (ai (fun b=>B<=b∧b<X.heap.size) X t v):=zq (h.move (.weaken fun b h1 h2=>⟨h1,h2⟩))
theorem ai.setN {F:Nat->Prop}{w:World}{t:Ty}{y:Value}{g o:Nat}{v:Value}(h:ai F w t y)(hn : ∀b,F b->b≠g):ai F (w.setCell ⟨g,o,none⟩ v) t y:=
 h.move ⟨by simp[World.setCell],fun b hb _=>hb,fun b hb _=>Below.heap_setCell w ⟨g,o,none⟩ v b (hn b hb)⟩
theorem av.one {F:Nat->Prop}{w:World}{t:Ty}{y:Value}(h:av F w [t] y) :
  ∃b off cap k1 c1 m1 q1,y = .slice (some ⟨b,off,none⟩) 1 cap∧b<w.heap.size∧w.cell? ⟨b,off,none⟩=some (.int .i64 k1)∧w.cell? ⟨b,off+1,none⟩=some (.slice c1 m1 q1)∧ai F w t (.agg #[.int .i64 k1,.slice c1 m1 q1]):=by
 obtain⟨a,cap,rfl,h2,h3,hg⟩:=h.open;obtain⟨b,off,k1,c1,m1,q1,rfl,e0,e1,ht⟩:=hg 0 (by simp)
 exact⟨b,off,cap,k1,c1,m1,q1,rfl,World.block_lt_of_cell? _ _ e0,by simpa using e0,by simpa using e1,ht⟩
theorem ai.leafG {H:Nat->Prop}{w:World}(k:Int):ai H w (.mk k []) (.agg #[.int .i64 k,.slice none 0 0]):=by
 refine⟨_,rfl,?_⟩;unfold av aL
 exact⟨none,0,rfl,Nat.le_refl _,by unfold maxLen;omega,.inl rfl⟩
theorem S.cnt_ok {s:S}(h:s.vd=true):s.ty.cnt<=1048576:=Ty.cnt_valid (by rw[S.valid];exact h)
theorem b7 (w:World):Calls Try.prog 58 #[] w fun e w'=>e = .returned (.agg #[.int .i64 2,.slice none 0 0])∧Below w.heap.size w w':=by
 go_enter Try.func58,Try.ntmps58
 go_wp2_with fail
 refine bq (.agg #[.int .i64 2,.slice none 0 0]) (by simp[results,Try.results58,go_sem]) ?_
 exact⟨rfl,ag⟩
theorem bX (w:World):Calls Try.prog 59 #[] w fun e w'=>e = .returned (.agg #[.int .i64 3,.slice none 0 0])∧Below w.heap.size w w':=by
 go_enter Try.func59,Try.ntmps59
 go_wp2_with fail
 refine bq (.agg #[.int .i64 3,.slice none 0 0]) (by simp[results,Try.results59,go_sem]) ?_
 exact⟨rfl,ag⟩
theorem cB (G1 G2:Nat->Prop)(k:Int)(t u:Ty)(ak bk:Int)(aa ba:Option Addr)(an aq bn bqx:Nat)(w:World)(ht:ai G1 w t (.agg #[.int .i64 ak,.slice aa an aq]))(hu:ai G2 w u (.agg #[.int .i64 bk,.slice ba bn bqx]))(hct:t.cnt<=1048576)(hcu:u.cnt<=1048576) :
    Calls Try.prog 33 #[.int .i64 k,.agg #[.int .i64 ak,.slice aa an aq],.agg #[.int .i64 bk,.slice ba bn bqx]] w (aX (if (Ty.mk k [t,u]).valid then some (.mk k [t,u]) else none) w):=by
  have HT:=zq ht.old;have HU:=zq hu.old;have HCT:=zq hct;have HCU:=zq hcu;clear ht hu hct hcu;generalize hvv:(Ty.mk k [t,u]).valid=vv;have HVV:=zq hvv;obtain⟨O,hO⟩ : ∃O:Option Ty,O=if vv=true then some (.mk k [t,u]) else none:=⟨_,rfl⟩
  rw[<-hO];have HO:=zq hO;clear hvv hO
  go_enter Try.func33,Try.ntmps33
  go_wp2_with fail
  generalize hVV:World.alloc (World.alloc (World.alloc w _) _) _=VV;obtain⟨hv,o1,o2,o3,zV⟩:=alE3 hVV;have fA:=o1;have fB:=o2;have fR:=o3;have fC:=zq hv;have hT:=zq (HT.out.below hv);have hU_:=zq (HU.out.below hv);clear hv o1 o2 o3;refine wh4 (bc0 fA) (bc1 fA) (bc0 fB) (bc1 fB) (fun U1 hb zU1a zU1b hH0=>?_);replace fA:=a9 fA hb;replace fB:=a9 fB hb;replace fR:=a9 fR hb;replace fC:=mh hb fC;replace hT:=mh hb hT;replace hU_:=mh hb hU_;rw[zV] at zU1a zU1b;clear hb hVV zV;refine hwq hx0 (.int .i64 k) hH0 ?_;refine hwq hx1 (.agg #[.int .i64 ak,.slice aa an aq]) hH0 ?_;refine hwq hx3 (.agg #[.int .i64 bk,.slice ba bn bqx]) hH0 ?_;refine wpAnyH_ready (rs:= [2,7]) (by kernel_rfl) (by simp) ?_;refine(AllReadyH.cons hx2 (fun K hK=>?_) (AllReadyH.cons hx7 (fun K hK=>?_) AllReadyH.nil))
  ·skip
   go_simp
   go_at_call 46
   refine(b5 _ t _ _ hT.out HCT.out).mono ?_;rintro e X1 ⟨v,rfl,hv,hb⟩;obtain⟨kc,ac,nc,qc,rfl⟩:=hv.shape;have hN1':=hv.rep.rg;clear hv
   go_wp2_with fail
   have zX1:=hb.size;replace fA:=a9 fA hb;replace fB:=a9 fB hb;replace fR:=a9 fR hb;replace fC:=mh hb fC;replace hT:=mh hb hT;replace hU_:=mh hb hU_;have hN1:=hN1';clear hN1';refine hko hK (fun hH1=>?_);clear hK K hH0 hb
   try simp only[hwA]
   refine wpAnyH_ready (rs:= [4,7]) (by kernel_rfl) (by simp) ?_;refine(AllReadyH.cons hx4 (fun K hK=>?_) (AllReadyH.cons hx7 (fun K hK=>?_) AllReadyH.nil))
   ·skip
    go_simp
    go_at_call 46
    refine(b5 _ u _ _ hU_.out HCU.out).mono ?_;rintro e X2 ⟨v,rfl,hv,hb⟩;obtain⟨kd,ad,nd,qd,rfl⟩:=hv.shape;have hN2':=hv.rep.rg;clear hv
    go_wp2_with fail
    have zX2:=hb.size;replace fA:=a9 fA hb;replace fB:=a9 fB hb;replace fR:=a9 fR hb;replace fC:=mh hb fC;replace hT:=mh hb hT;replace hU_:=mh hb hU_;replace hN1:=mh hb hN1;have hN2:=hN2';clear hN2';refine hko hK (fun hH2=>?_);clear hK K hH1 hb
    try simp only[hwA]
    refine wpAnyH_ready (rs:= [5,7]) (by kernel_rfl) (by simp) ?_;refine(AllReadyH.cons hx5 (fun K hK=>?_) (AllReadyH.cons hx7 (fun K hK=>?_) AllReadyH.nil))
    ·skip
     go_simp
     (try go_wp2_with fail);generalize hXq:World.alloc X2 _=X3;obtain⟨hb,fN,zX3a,zX3b⟩:=alE hXq;replace fA:=a9 fA hb;replace fB:=a9 fB hb;replace fR:=a9 fR hb;replace fC:=mh hb fC;replace hT:=mh hb hT;replace hU_:=mh hb hU_;replace hN1:=mh hb hN1;replace hN2:=mh hb hN2;refine hko hK (fun hH3=>?_);clear hK K hH2 hb hXq
     try simp only[hwA]
     refine hwq hx6 (.agg #[.int .i64 k,.slice (some ⟨X2.heap.size,0,none⟩) 2 2]) hH3 ?_;refine hwe hx7 (fun K hK=>?_)
     go_simp
     (try go_wp2_with fail);generalize hXq:World.alloc X3 _=X4;obtain⟨hb,fV,zX4a,zX4b⟩:=alE hXq;replace fA:=a9 fA hb;replace fB:=a9 fB hb;replace fR:=a9 fR hb;replace fC:=mh hb fC;replace hT:=mh hb hT;replace hU_:=mh hb hU_;replace hN1:=mh hb hN1;replace hN2:=mh hb hN2;replace fN:=a9 fN hb;refine hko hK (fun hH4=>?_);clear hK K hH3 hb hXq
     try simp only[hwA]
     refine hwe hx8 (fun K hK=>?_);obtain⟨r0,r1,rf0,rf1⟩:=b8 fV
     go_simp
     (try go_wp2_with fail);have hQq:=aJ fV (.int .i64 k) (.slice (some ⟨X2.heap.size,0,none⟩) 2 2);clear fV r0 rf0 r1 rf1;obtain⟨X5,hXq,hsq,fV,zX5a,zX5b⟩:=hQq;rw[hXq];replace fA:=hsq.bk fA;replace fB:=hsq.bk fB;replace fR:=hsq.bk fR;replace fC:=hsq.be fC;replace hT:=zq (hsq.rep (fun b hb=>by have:b<w.heap.size:=hb;omega) hT.out);replace hU_:=zq (hsq.rep (fun b hb=>by have:b<w.heap.size:=hb;omega) hU_.out);replace hN1:=zq (hsq.rep (fun b hb=>by have h1:U1.heap.size<=b:=hb.1;have h2:b<X1.heap.size:=hb.2;omega) hN1.out);replace hN2:=zq (hsq.rep (fun b hb=>by have h1:X1.heap.size<=b:=hb.1;have h2:b<X2.heap.size:=hb.2;omega) hN2.out);replace fN:=hsq.bk fN;refine hko hK (fun hH5=>?_);clear hK K hH4 hsq hXq
     try simp only[hwA]
     refine hwd ?_;clear hH5
     go_wp2_with fail
     refine wh2 (bc0 fV) (bc1 fV) (fun U2 hb zU2a zU2b hH0=>?_);replace fA:=a9 fA hb;replace fB:=a9 fB hb;replace fR:=a9 fR hb;replace fC:=mh hb fC;replace hT:=mh hb hT;replace hU_:=mh hb hU_;replace hN1:=mh hb hN1;replace hN2:=mh hb hN2;replace fN:=a9 fN hb;replace fV:=a9 fV hb;clear hb;refine hwq hx0 (.agg #[.int .i64 k,.slice (some ⟨X2.heap.size,0,none⟩) 2 2]) hH0 ?_;refine hwq hx1 (.agg #[.int .i64 k,.slice (some ⟨X2.heap.size,0,none⟩) 2 2]) hH0 ?_;refine hwe hx2 (fun K hK=>?_)
     go_simp
     go_at_call 61
     have hrd:ai (fun b=>False∨w.heap.size<=b) U2 (.mk k [t,u]) (.agg #[.int .i64 k,.slice (some ⟨X2.heap.size,0,none⟩) 2 2]):=ai.two_mk (F:=fun b=>False∨w.heap.size<=b) (w:=U2) (b:=X2.heap.size) (cap:=2) (k:=k) (t:=t) (u:=u) (k1:=kc) (k2:=kd) (c1:=.slice ac nc qc) (c2:=.slice ad nd qd) (.inr (by omega)) (Nat.le_refl 2) (by unfold maxLen;omega) (ah fN (o:=0) rfl) (ah fN (o:=1) rfl) (ah fN (o:=2) rfl) (ah fN (o:=3) rfl) (hN1.out.move (.weaken fun b h _=>.inr (by have h1:=h.1;omega))) (hN2.out.move (.weaken fun b h _=>.inr (by have h1:=h.1;omega)));refine(ce _ (.mk k [t,u]) _ _ hrd).mono ?_;rintro e X26 ⟨rfl,hb⟩;rw[HVV.out];clear hrd
     go_wp2_with fail
     have zX26:=hb.size;replace fA:=a9 fA hb;replace fB:=a9 fB hb;replace fR:=a9 fR hb;replace fC:=mh hb fC;replace hT:=mh hb hT;replace hU_:=mh hb hU_;replace hN1:=mh hb hN1;replace hN2:=mh hb hN2;replace fN:=a9 fN hb;replace fV:=a9 fV hb;refine hko hK (fun hH46=>?_);clear hK K hH0 hb
     try simp only[hwA]
     refine hwe hx3 (fun K hK=>?_);obtain⟨r0,r1,rf0,rf1⟩:=b8 fR
     go_simp
     (try go_wp2_with fail);have hQq:=aJ fR (.int .i64 k) (.slice (some ⟨X2.heap.size,0,none⟩) 2 2);clear fR r0 rf0 r1 rf1;obtain⟨X27,hXq,hsq,fR,zX27a,zX27b⟩:=hQq;rw[hXq];replace fA:=hsq.bk fA;replace fB:=hsq.bk fB;replace fC:=hsq.be fC;replace hT:=zq (hsq.rep (fun b hb=>by have:b<w.heap.size:=hb;omega) hT.out);replace hU_:=zq (hsq.rep (fun b hb=>by have:b<w.heap.size:=hb;omega) hU_.out);replace hN1:=zq (hsq.rep (fun b hb=>by have h1:U1.heap.size<=b:=hb.1;have h2:b<X1.heap.size:=hb.2;omega) hN1.out);replace hN2:=zq (hsq.rep (fun b hb=>by have h1:X1.heap.size<=b:=hb.1;have h2:b<X2.heap.size:=hb.2;omega) hN2.out);replace fN:=hsq.bk fN;replace fV:=hsq.bk fV;refine hko hK (fun hH47=>?_);clear hK K hH46 hsq hXq
     try simp only[hwA]
     refine hwq hx4 (.bool vv) hH47 ?_;refine hwd ?_;clear hH47;obtain⟨rc0,rc1⟩:=blk2 fR
     go_wp2_with fail
     refine bq (.tuple #[.agg #[.int .i64 k,.slice (some ⟨X2.heap.size,0,none⟩) 2 2],.bool vv]) (by simp[results,Try.results33,go_sem,rc0,rc1]) ?_;have hrd:ai (fun b=>False∨w.heap.size<=b) X27 (.mk k [t,u]) (.agg #[.int .i64 k,.slice (some ⟨X2.heap.size,0,none⟩) 2 2]):=ai.two_mk (F:=fun b=>False∨w.heap.size<=b) (w:=X27) (b:=X2.heap.size) (cap:=2) (k:=k) (t:=t) (u:=u) (k1:=kc) (k2:=kd) (c1:=.slice ac nc qc) (c2:=.slice ad nd qd) (.inr (by omega)) (Nat.le_refl 2) (by unfold maxLen;omega) (ah fN (o:=0) rfl) (ah fN (o:=1) rfl) (ah fN (o:=2) rfl) (ah fN (o:=3) rfl) (hN1.out.move (.weaken fun b h _=>.inr (by have h1:=h.1;omega))) (hN2.out.move (.weaken fun b h _=>.inr (by have h1:=h.1;omega)))
     exact⟨_,_,_,_,_,.mk k [t,u],rfl,(by rw[HO.out];cases vv<;>rfl),hrd,(by rw[HO.out];intro s h;cases vv<;>simp at h;exact h),fC.out⟩
    ·skip
     go_simp
     (try go_wp2_with fail);generalize hXq:World.alloc X2 _=X28;obtain⟨hb,fV,zX28a,zX28b⟩:=alE hXq;replace fA:=a9 fA hb;replace fB:=a9 fB hb;replace fR:=a9 fR hb;replace fC:=mh hb fC;replace hT:=mh hb hT;replace hU_:=mh hb hU_;replace hN1:=mh hb hN1;replace hN2:=mh hb hN2;refine hko hK (fun hH3=>?_);clear hK K hH2 hb hXq
     try simp only[hwA]
     refine hwe hx5 (fun K hK=>?_)
     go_simp
     (try go_wp2_with fail);generalize hXq:World.alloc X28 _=X29;obtain⟨hb,fN,zX29a,zX29b⟩:=alE hXq;replace fA:=a9 fA hb;replace fB:=a9 fB hb;replace fR:=a9 fR hb;replace fC:=mh hb fC;replace hT:=mh hb hT;replace hU_:=mh hb hU_;replace hN1:=mh hb hN1;replace hN2:=mh hb hN2;replace fV:=a9 fV hb;refine hko hK (fun hH48=>?_);clear hK K hH3 hb hXq
     try simp only[hwA]
     refine hwq hx6 (.agg #[.int .i64 k,.slice (some ⟨X28.heap.size,0,none⟩) 2 2]) hH48 ?_;refine hwe hx8 (fun K hK=>?_);obtain⟨r0,r1,rf0,rf1⟩:=b8 fV
     go_simp
     (try go_wp2_with fail);have hQq:=aJ fV (.int .i64 k) (.slice (some ⟨X28.heap.size,0,none⟩) 2 2);clear fV r0 rf0 r1 rf1;obtain⟨X30,hXq,hsq,fV,zX30a,zX30b⟩:=hQq;rw[hXq];replace fA:=hsq.bk fA;replace fB:=hsq.bk fB;replace fR:=hsq.bk fR;replace fC:=hsq.be fC;replace hT:=zq (hsq.rep (fun b hb=>by have:b<w.heap.size:=hb;omega) hT.out);replace hU_:=zq (hsq.rep (fun b hb=>by have:b<w.heap.size:=hb;omega) hU_.out);replace hN1:=zq (hsq.rep (fun b hb=>by have h1:U1.heap.size<=b:=hb.1;have h2:b<X1.heap.size:=hb.2;omega) hN1.out);replace hN2:=zq (hsq.rep (fun b hb=>by have h1:X1.heap.size<=b:=hb.1;have h2:b<X2.heap.size:=hb.2;omega) hN2.out);replace fN:=hsq.bk fN;refine hko hK (fun hH49=>?_);clear hK K hH48 hsq hXq
     try simp only[hwA]
     refine hwd ?_;clear hH49
     go_wp2_with fail
     refine wh2 (bc0 fV) (bc1 fV) (fun U3 hb zU3a zU3b hH0=>?_);replace fA:=a9 fA hb;replace fB:=a9 fB hb;replace fR:=a9 fR hb;replace fC:=mh hb fC;replace hT:=mh hb hT;replace hU_:=mh hb hU_;replace hN1:=mh hb hN1;replace hN2:=mh hb hN2;replace fV:=a9 fV hb;replace fN:=a9 fN hb;clear hb;refine hwq hx0 (.agg #[.int .i64 k,.slice (some ⟨X28.heap.size,0,none⟩) 2 2]) hH0 ?_;refine hwq hx1 (.agg #[.int .i64 k,.slice (some ⟨X28.heap.size,0,none⟩) 2 2]) hH0 ?_;refine hwe hx2 (fun K hK=>?_)
     go_simp
     go_at_call 61
     have hrd:ai (fun b=>False∨w.heap.size<=b) U3 (.mk k [t,u]) (.agg #[.int .i64 k,.slice (some ⟨X28.heap.size,0,none⟩) 2 2]):=ai.two_mk (F:=fun b=>False∨w.heap.size<=b) (w:=U3) (b:=X28.heap.size) (cap:=2) (k:=k) (t:=t) (u:=u) (k1:=kc) (k2:=kd) (c1:=.slice ac nc qc) (c2:=.slice ad nd qd) (.inr (by omega)) (Nat.le_refl 2) (by unfold maxLen;omega) (ah fN (o:=0) rfl) (ah fN (o:=1) rfl) (ah fN (o:=2) rfl) (ah fN (o:=3) rfl) (hN1.out.move (.weaken fun b h _=>.inr (by have h1:=h.1;omega))) (hN2.out.move (.weaken fun b h _=>.inr (by have h1:=h.1;omega)));refine(ce _ (.mk k [t,u]) _ _ hrd).mono ?_;rintro e X51 ⟨rfl,hb⟩;rw[HVV.out];clear hrd
     go_wp2_with fail
     have zX51:=hb.size;replace fA:=a9 fA hb;replace fB:=a9 fB hb;replace fR:=a9 fR hb;replace fC:=mh hb fC;replace hT:=mh hb hT;replace hU_:=mh hb hU_;replace hN1:=mh hb hN1;replace hN2:=mh hb hN2;replace fV:=a9 fV hb;replace fN:=a9 fN hb;refine hko hK (fun hH90=>?_);clear hK K hH0 hb
     try simp only[hwA]
     refine hwe hx3 (fun K hK=>?_);obtain⟨r0,r1,rf0,rf1⟩:=b8 fR
     go_simp
     (try go_wp2_with fail);have hQq:=aJ fR (.int .i64 k) (.slice (some ⟨X28.heap.size,0,none⟩) 2 2);clear fR r0 rf0 r1 rf1;obtain⟨X52,hXq,hsq,fR,zX52a,zX52b⟩:=hQq;rw[hXq];replace fA:=hsq.bk fA;replace fB:=hsq.bk fB;replace fC:=hsq.be fC;replace hT:=zq (hsq.rep (fun b hb=>by have:b<w.heap.size:=hb;omega) hT.out);replace hU_:=zq (hsq.rep (fun b hb=>by have:b<w.heap.size:=hb;omega) hU_.out);replace hN1:=zq (hsq.rep (fun b hb=>by have h1:U1.heap.size<=b:=hb.1;have h2:b<X1.heap.size:=hb.2;omega) hN1.out);replace hN2:=zq (hsq.rep (fun b hb=>by have h1:X1.heap.size<=b:=hb.1;have h2:b<X2.heap.size:=hb.2;omega) hN2.out);replace fV:=hsq.bk fV;replace fN:=hsq.bk fN;refine hko hK (fun hH91=>?_);clear hK K hH90 hsq hXq
     try simp only[hwA]
     refine hwq hx4 (.bool vv) hH91 ?_;refine hwd ?_;clear hH91;obtain⟨rc0,rc1⟩:=blk2 fR
     go_wp2_with fail
     refine bq (.tuple #[.agg #[.int .i64 k,.slice (some ⟨X28.heap.size,0,none⟩) 2 2],.bool vv]) (by simp[results,Try.results33,go_sem,rc0,rc1]) ?_;have hrd:ai (fun b=>False∨w.heap.size<=b) X52 (.mk k [t,u]) (.agg #[.int .i64 k,.slice (some ⟨X28.heap.size,0,none⟩) 2 2]):=ai.two_mk (F:=fun b=>False∨w.heap.size<=b) (w:=X52) (b:=X28.heap.size) (cap:=2) (k:=k) (t:=t) (u:=u) (k1:=kc) (k2:=kd) (c1:=.slice ac nc qc) (c2:=.slice ad nd qd) (.inr (by omega)) (Nat.le_refl 2) (by unfold maxLen;omega) (ah fN (o:=0) rfl) (ah fN (o:=1) rfl) (ah fN (o:=2) rfl) (ah fN (o:=3) rfl) (hN1.out.move (.weaken fun b h _=>.inr (by have h1:=h.1;omega))) (hN2.out.move (.weaken fun b h _=>.inr (by have h1:=h.1;omega)))
     exact⟨_,_,_,_,_,.mk k [t,u],rfl,(by rw[HO.out];cases vv<;>rfl),hrd,(by rw[HO.out];intro s h;cases vv<;>simp at h;exact h),fC.out⟩
   ·skip
    go_simp
    (try go_wp2_with fail);generalize hXq:World.alloc X1 _=X53;obtain⟨hb,fV,zX53a,zX53b⟩:=alE hXq;replace fA:=a9 fA hb;replace fB:=a9 fB hb;replace fR:=a9 fR hb;replace fC:=mh hb fC;replace hT:=mh hb hT;replace hU_:=mh hb hU_;replace hN1:=mh hb hN1;refine hko hK (fun hH2=>?_);clear hK K hH1 hb hXq
    try simp only[hwA]
    refine hwe hx4 (fun K hK=>?_)
    go_simp
    go_at_call 46
    refine(b5 _ u _ _ hU_.out HCU.out).mono ?_;rintro e X54 ⟨v,rfl,hv,hb⟩;obtain⟨kd,ad,nd,qd,rfl⟩:=hv.shape;have hN2':=hv.rep.rg;clear hv
    go_wp2_with fail
    have zX54:=hb.size;replace fA:=a9 fA hb;replace fB:=a9 fB hb;replace fR:=a9 fR hb;replace fC:=mh hb fC;replace hT:=mh hb hT;replace hU_:=mh hb hU_;replace hN1:=mh hb hN1;replace fV:=a9 fV hb;have hN2:=hN2';clear hN2';refine hko hK (fun hH92=>?_);clear hK K hH2 hb
    try simp only[hwA]
    refine hwe hx5 (fun K hK=>?_)
    go_simp
    (try go_wp2_with fail);generalize hXq:World.alloc X54 _=X55;obtain⟨hb,fN,zX55a,zX55b⟩:=alE hXq;replace fA:=a9 fA hb;replace fB:=a9 fB hb;replace fR:=a9 fR hb;replace fC:=mh hb fC;replace hT:=mh hb hT;replace hU_:=mh hb hU_;replace hN1:=mh hb hN1;replace fV:=a9 fV hb;replace hN2:=mh hb hN2;refine hko hK (fun hH93=>?_);clear hK K hH92 hb hXq
    try simp only[hwA]
    refine hwq hx6 (.agg #[.int .i64 k,.slice (some ⟨X54.heap.size,0,none⟩) 2 2]) hH93 ?_;refine hwe hx8 (fun K hK=>?_);obtain⟨r0,r1,rf0,rf1⟩:=b8 fV
    go_simp
    (try go_wp2_with fail);have hQq:=aJ fV (.int .i64 k) (.slice (some ⟨X54.heap.size,0,none⟩) 2 2);clear fV r0 rf0 r1 rf1;obtain⟨X56,hXq,hsq,fV,zX56a,zX56b⟩:=hQq;rw[hXq];replace fA:=hsq.bk fA;replace fB:=hsq.bk fB;replace fR:=hsq.bk fR;replace fC:=hsq.be fC;replace hT:=zq (hsq.rep (fun b hb=>by have:b<w.heap.size:=hb;omega) hT.out);replace hU_:=zq (hsq.rep (fun b hb=>by have:b<w.heap.size:=hb;omega) hU_.out);replace hN1:=zq (hsq.rep (fun b hb=>by have h1:U1.heap.size<=b:=hb.1;have h2:b<X1.heap.size:=hb.2;omega) hN1.out);replace hN2:=zq (hsq.rep (fun b hb=>by have h1:X53.heap.size<=b:=hb.1;have h2:b<X54.heap.size:=hb.2;omega) hN2.out);replace fN:=hsq.bk fN;refine hko hK (fun hH94=>?_);clear hK K hH93 hsq hXq
    try simp only[hwA]
    refine hwd ?_;clear hH94
    go_wp2_with fail
    refine wh2 (bc0 fV) (bc1 fV) (fun U4 hb zU4a zU4b hH0=>?_);replace fA:=a9 fA hb;replace fB:=a9 fB hb;replace fR:=a9 fR hb;replace fC:=mh hb fC;replace hT:=mh hb hT;replace hU_:=mh hb hU_;replace hN1:=mh hb hN1;replace fV:=a9 fV hb;replace hN2:=mh hb hN2;replace fN:=a9 fN hb;clear hb;refine hwq hx0 (.agg #[.int .i64 k,.slice (some ⟨X54.heap.size,0,none⟩) 2 2]) hH0 ?_;refine hwq hx1 (.agg #[.int .i64 k,.slice (some ⟨X54.heap.size,0,none⟩) 2 2]) hH0 ?_;refine hwe hx2 (fun K hK=>?_)
    go_simp
    go_at_call 61
    have hrd:ai (fun b=>False∨w.heap.size<=b) U4 (.mk k [t,u]) (.agg #[.int .i64 k,.slice (some ⟨X54.heap.size,0,none⟩) 2 2]):=ai.two_mk (F:=fun b=>False∨w.heap.size<=b) (w:=U4) (b:=X54.heap.size) (cap:=2) (k:=k) (t:=t) (u:=u) (k1:=kc) (k2:=kd) (c1:=.slice ac nc qc) (c2:=.slice ad nd qd) (.inr (by omega)) (Nat.le_refl 2) (by unfold maxLen;omega) (ah fN (o:=0) rfl) (ah fN (o:=1) rfl) (ah fN (o:=2) rfl) (ah fN (o:=3) rfl) (hN1.out.move (.weaken fun b h _=>.inr (by have h1:=h.1;omega))) (hN2.out.move (.weaken fun b h _=>.inr (by have h1:=h.1;omega)));refine(ce _ (.mk k [t,u]) _ _ hrd).mono ?_;rintro e X77 ⟨rfl,hb⟩;rw[HVV.out];clear hrd
    go_wp2_with fail
    have zX77:=hb.size;replace fA:=a9 fA hb;replace fB:=a9 fB hb;replace fR:=a9 fR hb;replace fC:=mh hb fC;replace hT:=mh hb hT;replace hU_:=mh hb hU_;replace hN1:=mh hb hN1;replace fV:=a9 fV hb;replace hN2:=mh hb hN2;replace fN:=a9 fN hb;refine hko hK (fun hH135=>?_);clear hK K hH0 hb
    try simp only[hwA]
    refine hwe hx3 (fun K hK=>?_);obtain⟨r0,r1,rf0,rf1⟩:=b8 fR
    go_simp
    (try go_wp2_with fail);have hQq:=aJ fR (.int .i64 k) (.slice (some ⟨X54.heap.size,0,none⟩) 2 2);clear fR r0 rf0 r1 rf1;obtain⟨X78,hXq,hsq,fR,zX78a,zX78b⟩:=hQq;rw[hXq];replace fA:=hsq.bk fA;replace fB:=hsq.bk fB;replace fC:=hsq.be fC;replace hT:=zq (hsq.rep (fun b hb=>by have:b<w.heap.size:=hb;omega) hT.out);replace hU_:=zq (hsq.rep (fun b hb=>by have:b<w.heap.size:=hb;omega) hU_.out);replace hN1:=zq (hsq.rep (fun b hb=>by have h1:U1.heap.size<=b:=hb.1;have h2:b<X1.heap.size:=hb.2;omega) hN1.out);replace fV:=hsq.bk fV;replace hN2:=zq (hsq.rep (fun b hb=>by have h1:X53.heap.size<=b:=hb.1;have h2:b<X54.heap.size:=hb.2;omega) hN2.out);replace fN:=hsq.bk fN;refine hko hK (fun hH136=>?_);clear hK K hH135 hsq hXq
    try simp only[hwA]
    refine hwq hx4 (.bool vv) hH136 ?_;refine hwd ?_;clear hH136;obtain⟨rc0,rc1⟩:=blk2 fR
    go_wp2_with fail
    refine bq (.tuple #[.agg #[.int .i64 k,.slice (some ⟨X54.heap.size,0,none⟩) 2 2],.bool vv]) (by simp[results,Try.results33,go_sem,rc0,rc1]) ?_;have hrd:ai (fun b=>False∨w.heap.size<=b) X78 (.mk k [t,u]) (.agg #[.int .i64 k,.slice (some ⟨X54.heap.size,0,none⟩) 2 2]):=ai.two_mk (F:=fun b=>False∨w.heap.size<=b) (w:=X78) (b:=X54.heap.size) (cap:=2) (k:=k) (t:=t) (u:=u) (k1:=kc) (k2:=kd) (c1:=.slice ac nc qc) (c2:=.slice ad nd qd) (.inr (by omega)) (Nat.le_refl 2) (by unfold maxLen;omega) (ah fN (o:=0) rfl) (ah fN (o:=1) rfl) (ah fN (o:=2) rfl) (ah fN (o:=3) rfl) (hN1.out.move (.weaken fun b h _=>.inr (by have h1:=h.1;omega))) (hN2.out.move (.weaken fun b h _=>.inr (by have h1:=h.1;omega)))
    exact⟨_,_,_,_,_,.mk k [t,u],rfl,(by rw[HO.out];cases vv<;>rfl),hrd,(by rw[HO.out];intro s h;cases vv<;>simp at h;exact h),fC.out⟩
  ·skip
   go_simp
   (try go_wp2_with fail);generalize hXq:World.alloc U1 _=X79;obtain⟨hb,fV,zX79a,zX79b⟩:=alE hXq;replace fA:=a9 fA hb;replace fB:=a9 fB hb;replace fR:=a9 fR hb;replace fC:=mh hb fC;replace hT:=mh hb hT;replace hU_:=mh hb hU_;refine hko hK (fun hH1=>?_);clear hK K hH0 hb hXq
   try simp only[hwA]
   refine hwe hx2 (fun K hK=>?_)
   go_simp
   go_at_call 46
   refine(b5 _ t _ _ hT.out HCT.out).mono ?_;rintro e X80 ⟨v,rfl,hv,hb⟩;obtain⟨kc,ac,nc,qc,rfl⟩:=hv.shape;have hN1':=hv.rep.rg;clear hv
   go_wp2_with fail
   have zX80:=hb.size;replace fA:=a9 fA hb;replace fB:=a9 fB hb;replace fR:=a9 fR hb;replace fC:=mh hb fC;replace hT:=mh hb hT;replace hU_:=mh hb hU_;replace fV:=a9 fV hb;have hN1:=hN1';clear hN1';refine hko hK (fun hH137=>?_);clear hK K hH1 hb
   try simp only[hwA]
   refine hwe hx4 (fun K hK=>?_)
   go_simp
   go_at_call 46
   refine(b5 _ u _ _ hU_.out HCU.out).mono ?_;rintro e X81 ⟨v,rfl,hv,hb⟩;obtain⟨kd,ad,nd,qd,rfl⟩:=hv.shape;have hN2':=hv.rep.rg;clear hv
   go_wp2_with fail
   have zX81:=hb.size;replace fA:=a9 fA hb;replace fB:=a9 fB hb;replace fR:=a9 fR hb;replace fC:=mh hb fC;replace hT:=mh hb hT;replace hU_:=mh hb hU_;replace fV:=a9 fV hb;replace hN1:=mh hb hN1;have hN2:=hN2';clear hN2';refine hko hK (fun hH138=>?_);clear hK K hH137 hb
   try simp only[hwA]
   refine hwe hx5 (fun K hK=>?_)
   go_simp
   (try go_wp2_with fail);generalize hXq:World.alloc X81 _=X82;obtain⟨hb,fN,zX82a,zX82b⟩:=alE hXq;replace fA:=a9 fA hb;replace fB:=a9 fB hb;replace fR:=a9 fR hb;replace fC:=mh hb fC;replace hT:=mh hb hT;replace hU_:=mh hb hU_;replace fV:=a9 fV hb;replace hN1:=mh hb hN1;replace hN2:=mh hb hN2;refine hko hK (fun hH139=>?_);clear hK K hH138 hb hXq
   try simp only[hwA]
   refine hwq hx6 (.agg #[.int .i64 k,.slice (some ⟨X81.heap.size,0,none⟩) 2 2]) hH139 ?_;refine hwe hx8 (fun K hK=>?_);obtain⟨r0,r1,rf0,rf1⟩:=b8 fV
   go_simp
   (try go_wp2_with fail);have hQq:=aJ fV (.int .i64 k) (.slice (some ⟨X81.heap.size,0,none⟩) 2 2);clear fV r0 rf0 r1 rf1;obtain⟨X83,hXq,hsq,fV,zX83a,zX83b⟩:=hQq;rw[hXq];replace fA:=hsq.bk fA;replace fB:=hsq.bk fB;replace fR:=hsq.bk fR;replace fC:=hsq.be fC;replace hT:=zq (hsq.rep (fun b hb=>by have:b<w.heap.size:=hb;omega) hT.out);replace hU_:=zq (hsq.rep (fun b hb=>by have:b<w.heap.size:=hb;omega) hU_.out);replace hN1:=zq (hsq.rep (fun b hb=>by have h1:X79.heap.size<=b:=hb.1;have h2:b<X80.heap.size:=hb.2;omega) hN1.out);replace hN2:=zq (hsq.rep (fun b hb=>by have h1:X80.heap.size<=b:=hb.1;have h2:b<X81.heap.size:=hb.2;omega) hN2.out);replace fN:=hsq.bk fN;refine hko hK (fun hH140=>?_);clear hK K hH139 hsq hXq
   try simp only[hwA]
   refine hwd ?_;clear hH140
   go_wp2_with fail
   refine wh2 (bc0 fV) (bc1 fV) (fun U5 hb zU5a zU5b hH0=>?_);replace fA:=a9 fA hb;replace fB:=a9 fB hb;replace fR:=a9 fR hb;replace fC:=mh hb fC;replace hT:=mh hb hT;replace hU_:=mh hb hU_;replace fV:=a9 fV hb;replace hN1:=mh hb hN1;replace hN2:=mh hb hN2;replace fN:=a9 fN hb;clear hb;refine hwq hx0 (.agg #[.int .i64 k,.slice (some ⟨X81.heap.size,0,none⟩) 2 2]) hH0 ?_;refine hwq hx1 (.agg #[.int .i64 k,.slice (some ⟨X81.heap.size,0,none⟩) 2 2]) hH0 ?_;refine hwe hx2 (fun K hK=>?_)
   go_simp
   go_at_call 61
   have hrd:ai (fun b=>False∨w.heap.size<=b) U5 (.mk k [t,u]) (.agg #[.int .i64 k,.slice (some ⟨X81.heap.size,0,none⟩) 2 2]):=ai.two_mk (F:=fun b=>False∨w.heap.size<=b) (w:=U5) (b:=X81.heap.size) (cap:=2) (k:=k) (t:=t) (u:=u) (k1:=kc) (k2:=kd) (c1:=.slice ac nc qc) (c2:=.slice ad nd qd) (.inr (by omega)) (Nat.le_refl 2) (by unfold maxLen;omega) (ah fN (o:=0) rfl) (ah fN (o:=1) rfl) (ah fN (o:=2) rfl) (ah fN (o:=3) rfl) (hN1.out.move (.weaken fun b h _=>.inr (by have h1:=h.1;omega))) (hN2.out.move (.weaken fun b h _=>.inr (by have h1:=h.1;omega)));refine(ce _ (.mk k [t,u]) _ _ hrd).mono ?_;rintro e X104 ⟨rfl,hb⟩;rw[HVV.out];clear hrd
   go_wp2_with fail
   have zX104:=hb.size;replace fA:=a9 fA hb;replace fB:=a9 fB hb;replace fR:=a9 fR hb;replace fC:=mh hb fC;replace hT:=mh hb hT;replace hU_:=mh hb hU_;replace fV:=a9 fV hb;replace hN1:=mh hb hN1;replace hN2:=mh hb hN2;replace fN:=a9 fN hb;refine hko hK (fun hH181=>?_);clear hK K hH0 hb
   try simp only[hwA]
   refine hwe hx3 (fun K hK=>?_);obtain⟨r0,r1,rf0,rf1⟩:=b8 fR
   go_simp
   (try go_wp2_with fail);have hQq:=aJ fR (.int .i64 k) (.slice (some ⟨X81.heap.size,0,none⟩) 2 2);clear fR r0 rf0 r1 rf1;obtain⟨X105,hXq,hsq,fR,zX105a,zX105b⟩:=hQq;rw[hXq];replace fA:=hsq.bk fA;replace fB:=hsq.bk fB;replace fC:=hsq.be fC;replace hT:=zq (hsq.rep (fun b hb=>by have:b<w.heap.size:=hb;omega) hT.out);replace hU_:=zq (hsq.rep (fun b hb=>by have:b<w.heap.size:=hb;omega) hU_.out);replace fV:=hsq.bk fV;replace hN1:=zq (hsq.rep (fun b hb=>by have h1:X79.heap.size<=b:=hb.1;have h2:b<X80.heap.size:=hb.2;omega) hN1.out);replace hN2:=zq (hsq.rep (fun b hb=>by have h1:X80.heap.size<=b:=hb.1;have h2:b<X81.heap.size:=hb.2;omega) hN2.out);replace fN:=hsq.bk fN;refine hko hK (fun hH182=>?_);clear hK K hH181 hsq hXq
   try simp only[hwA]
   refine hwq hx4 (.bool vv) hH182 ?_;refine hwd ?_;clear hH182;obtain⟨rc0,rc1⟩:=blk2 fR
   go_wp2_with fail
   refine bq (.tuple #[.agg #[.int .i64 k,.slice (some ⟨X81.heap.size,0,none⟩) 2 2],.bool vv]) (by simp[results,Try.results33,go_sem,rc0,rc1]) ?_;have hrd:ai (fun b=>False∨w.heap.size<=b) X105 (.mk k [t,u]) (.agg #[.int .i64 k,.slice (some ⟨X81.heap.size,0,none⟩) 2 2]):=ai.two_mk (F:=fun b=>False∨w.heap.size<=b) (w:=X105) (b:=X81.heap.size) (cap:=2) (k:=k) (t:=t) (u:=u) (k1:=kc) (k2:=kd) (c1:=.slice ac nc qc) (c2:=.slice ad nd qd) (.inr (by omega)) (Nat.le_refl 2) (by unfold maxLen;omega) (ah fN (o:=0) rfl) (ah fN (o:=1) rfl) (ah fN (o:=2) rfl) (ah fN (o:=3) rfl) (hN1.out.move (.weaken fun b h _=>.inr (by have h1:=h.1;omega))) (hN2.out.move (.weaken fun b h _=>.inr (by have h1:=h.1;omega)))
   exact⟨_,_,_,_,_,.mk k [t,u],rfl,(by rw[HO.out];cases vv<;>rfl),hrd,(by rw[HO.out];intro s h;cases vv<;>simp at h;exact h),fC.out⟩
def Ty.no:Ty:=.mk 0 []
def Tm.zero:Tm:=.mk 0 {data:=#[]} 0 .no .no 0 []
end Go.Proofs.Ytfhglkmjibjjoaa
