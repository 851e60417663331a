/- The type of a term with casts: plain Lean. The reference's way (nodeS) and the program's way (wantS) answer alike. And what else its parts name. -/
import Derived.Test.YtfahhonmiimmdaaGreatB12
import Derived.Test.YtfahhonmiimmdaaGreatTmShape4
import Derived.Test.YtfahhonmiimmdaaGreatB10
import Derived.Laws.AppendOwnNone
import Derived.Test.YtfahhonmiimmdaaGreatTmDraw
set_option linter.unusedSimpArgs false
set_option linter.unusedVariables false
set_option maxRecDepth 100000
set_option maxHeartbeats 16000000
namespace Go.Proofs.YtfahhonmiimmdaaGreat
open Go.RowKit
theorem gu {a b:S}(h:(S.pr a b).vd=true):a.vd=true∧b.vd=true:=by
 have h3:=S.vd_dep h;have h1:=S.vd_ok h;have e:(S.pr a b).dep=max a.dep b.dep+1:=rfl;have e1:(S.pr a b).ok=(a.ok&&b.ok):=rfl;have m1:=Nat.le_max_left a.dep b.dep;have m2:=Nat.le_max_right a.dep b.dep;rw[e] at h3;rw[e1,Bool.and_eq_true] at h1
 exact⟨S.vd_mk h1.1 (by omega),S.vd_mk h1.2 (by omega)⟩
theorem j8 {a b:S}(h:(S.fn a b).vd=true):a.vd=true∧b.vd=true:=by
 have h3:=S.vd_dep h;have h1:=S.vd_ok h;have e:(S.fn a b).dep=max a.dep b.dep+1:=rfl;have e1:(S.fn a b).ok=(a.ok&&b.ok):=rfl;have m1:=Nat.le_max_left a.dep b.dep;have m2:=Nat.le_max_right a.dep b.dep;rw[e] at h3;rw[e1,Bool.and_eq_true] at h1
 exact⟨S.vd_mk h1.1 (by omega),S.vd_mk h1.2 (by omega)⟩
def RetOG (G:Nat→Prop)(o:Option Ty)(w:World)(e:Ending)(w':World):Prop:=∃(k:Int) (a:Option Addr) (n q:Nat) (b:Bool) (t:Ty),e = .returned (.tuple #[.agg #[.int .i64 k,.slice a n q],.bool b])∧b=o.isSome∧ap (fun x=>G x∨w.heap.size≤x) w' t (.agg #[.int .i64 k,.slice a n q])∧(∀s,o=some s→t=s)∧Below w.heap.size w w'
def cC (l:List Bd)(nm:ByteArray):Nat→Option Ty
 | 0=>none
 | i+1=>match l[i]? with
  | some b=>if b.name.toList==nm.toList then some b.ty else cC l nm i
  | none=>cC l nm i
theorem tE {l:List Bd}{nm:ByteArray}{i:Nat}(h:i<l.length)(e:(l[i].name.toList==nm.toList)=true):cC l nm (i+1)=some l[i].ty:=by
 simp only[cC,List.getElem?_eq_getElem h,e,if_true]
theorem td {l:List Bd}{nm:ByteArray}{i:Nat}(h:i<l.length)(e:(l[i].name.toList==nm.toList)=false):cC l nm (i+1)=cC l nm i:=by
 simp only[cC,List.getElem?_eq_getElem h,e];rfl
theorem ap.any {F:Nat→Prop}{w:World}{t:Ty}{y:Value}(h:ap F w t y):ap (fun _=>True) w t y:=h.move (.weaken fun _ _ _=>trivial)
def bM (o:Option Ty)(w:World)(e:Ending)(w':World):Prop:=RetOG (fun _=>False) o w e w'
theorem ap.zeroG {H:Nat→Prop}{w:World}:ap H w (.mk 0 []) (.agg #[.int .i64 0,.slice none 0 0]):=by
 refine⟨_,rfl,?_⟩;unfold aE aM
 exact⟨none,0,rfl,Nat.le_refl _,by unfold maxLen;omega,.inl rfl⟩
theorem l9 (F:Nat→Prop)(l:List Bd)(nm:ByteArray)(y:Value)(w:World)(hy:aL F w l y)(hc : ∀b∈l,b.ty.cnt≤1048576) :
  Calls Tryz.prog 82 #[y,.string nm] w (bM (cC l nm l.length) w):=by
 obtain⟨a,n,q,rfl⟩:=hy.shape;obtain⟨a',q',he,hq1,hq2,-⟩:=hy.open;simp only[Value.slice.injEq] at he;obtain⟨rfl,rfl,rfl⟩:=he;unfold maxLen at hq2;have HY:=zq hy;have HCN:=zq hc;clear hy hc;have hZ:(w.alloc (.cells #[.int .i64 0,.slice none 0 0] 25)).heap[w.heap.size]?=some (.cells #[.int .i64 0,.slice none 0 0] 25 (0,0)):=aF rfl;generalize hn:l.length=n at *;have HN:=zq hn;clear hn;have hwn:wrap64 ((n:Int)-1)=(n:Int)-1:=by unfold wrap64;omega
 go_enter Tryz.func82,Tryz.ntmps82
 go_wp2_with fail
 go_loopw [6] (fun i wr=>∃j:Nat,j≤n∧i = .int .i64 ((j:Int)-1)∧wr=w.alloc (.cells #[.int .i64 0,.slice none 0 0] 25)∧Hid (cC l nm n=cC l nm j)) (fun i _=>(intOf i+1).toNat)
 case atStart=>exact⟨n,Nat.le_refl _,rfl,rfl,zq rfl⟩
 case round=>
  obtain⟨j,hj,rfl,rfl,hrel⟩:=hrel;have z0:(w.alloc (.cells #[.int .i64 0,.slice none 0 0] 25)).cell? ⟨w.heap.size,0,none⟩=some (.int .i64 0):=ah hZ rfl;have z1:(w.alloc (.cells #[.int .i64 0,.slice none 0 0] 25)).cell? ⟨w.heap.size,1,none⟩=some (.slice none 0 0):=ah hZ rfl;have zf0:(w.alloc (.cells #[.int .i64 0,.slice none 0 0] 25)).frozen? ⟨w.heap.size,0,none⟩=false:=ao hZ 0;have zf1:(w.alloc (.cells #[.int .i64 0,.slice none 0 0] 25)).frozen? ⟨w.heap.size,1,none⟩=false:=ao hZ 1
  cases j with
  | zero=>
   have h0:decide (((0:Nat):Int)-1≥0)=false:=by simp
   go_wp2_with fail
   refine bodyPost_ret (v:=.tuple #[.agg #[.int .i64 0,.slice none 0 0],.bool false]) (by simp[results,Tryz.results82,go_sem]) rfl ?_
   exact⟨_,_,_,_,_,_,rfl,by rw[hrel.out];rfl,ap.zeroG,(by rw[hrel.out];intro s h;cases h),aj⟩
  | succ j=>
   have hjl:j<l.length:=by have:=HN.out;omega
   obtain⟨b,off,k0,a0,m0,q0,rfl,l0,e0,ez,e1,e2,ht⟩:=HY.out.at (Below.refl _ _) hjl;replace e0:=af (aj (o:=.cells #[.int .i64 0,.slice none 0 0] 25)) e0;replace e1:=af (aj (o:=.cells #[.int .i64 0,.slice none 0 0] 25)) e1;replace e2:=af (aj (o:=.cells #[.int .i64 0,.slice none 0 0] 25)) e2;have HT:=zq ht;clear ht;have h0:decide (((j+1:Nat):Int)-1≥0)=true:=by simp
   have hji:((j+1:Nat):Int)-1=(j:Int):=by omega
   have hj0:(0:Int)≤(j:Int):=by omega
   have hj1:(j:Int)<(n:Int):=by omega
   have hwj:wrap64 ((j:Int)-1)=(j:Int)-1:=by unfold wrap64;omega
   rw[hji]
   rcases Bool.eq_false_or_eq_true (l[j].name.toList==nm.toList) with q1 | q1
   ·have HQ:=zq (tE hjl q1)
    go_wp2_with fail
    refine(bi F _ _ _ (HT.out.below aj) (HCN.out _ (List.getElem_mem hjl))).mono ?_;rintro e w1 ⟨v,rfl,hv,hb1⟩;obtain⟨kc,ac,nc,qc,rfl⟩:=hv.shape;have HV:=zq hv;have HB:=zq (al aj hb1);replace hZ:=ag hZ hb1;have hz1:=hb1.size;simp only[World.size_alloc] at hz1;clear hv hb1 z0 z1 zf0 zf1 e0 e1 e2;obtain⟨z0,z1⟩:=blk2 hZ;have zf0:=ao hZ 0;have zf1:=ao hZ 1
    go_wp2_with fail
    have hY:((w1.setCell ⟨w.heap.size,0,none⟩ (.int .i64 kc)).setCell ⟨w.heap.size,1,none⟩ (.slice ac nc qc)).heap[w.heap.size]?=some (.cells #[.int .i64 kc,.slice ac nc qc] 25 (0,0)):=aN (aN hZ (rfl:(#[Value.int .i64 0,.slice none 0 0]:Array Value).setIfInBounds 0 (.int .i64 kc) = #[.int .i64 kc,.slice none 0 0])) rfl;obtain⟨rc0,rc1⟩:=blk2 hY;refine bodyPost_ret (v:=.tuple #[.agg #[.int .i64 kc,.slice ac nc qc],.bool true]) (by simp[results,Tryz.results82,go_sem,rc0,rc1]) rfl ?_
    exact⟨_,_,_,_,_,_,rfl,by rw[hrel.out,HQ.out];rfl,((HV.out.setCell (p:=⟨w.heap.size,0,none⟩) (by simp) _).setCell (p:=⟨w.heap.size,1,none⟩) (by simp) _).rep.move (.weaken fun b h _=>.inr (by have:(w.alloc (.cells #[.int .i64 0,.slice none 0 0] 25)).heap.size≤b:=h;simp at this;omega)),(by rw[hrel.out,HQ.out];intro s h;exact Option.some.inj h),(HB.out.setCell (p:=⟨w.heap.size,0,none⟩) (by show w.heap.size≤w.heap.size;omega) _).setCell (p:=⟨w.heap.size,1,none⟩) (by show w.heap.size≤w.heap.size;omega) _⟩
   ·have HQ:=zq (td hjl q1)
    go_wp2_with fail
    go_roundw
    case rel=>exact⟨j,by omega,by first | trivial | rfl,by first | trivial | rfl,zq (hrel.out.trans HQ.out)⟩
    case measure=>simp[intOf]
def b8 (F:Nat→Prop)(w:World):List Bd→List Value→Prop
 | [],xs=>xs = []
 | b :: bs,xs=>∃k sl rest,xs = .string b.name :: .int .i64 k :: sl :: rest∧b.name.size≤maxLen∧ap F w b.ty (.agg #[.int .i64 k,sl])∧b8 F w bs rest
theorem b8.move {F G:Nat→Prop}{w w':World}(k:bx F G w w') : ∀(bs:List Bd) (xs:List Value),b8 F w bs xs→b8 G w' bs xs
 | [],_,h=>h
 | b :: bs,_,⟨kk,sl,rest,h1,h2,h3,h4⟩=>⟨kk,sl,rest,h1,h2,h3.move k,b8.move k bs rest h4⟩
theorem b8.append {F:Nat→Prop}{w:World} : ∀(bs cs:List Bd) (xs ys:List Value),b8 F w bs xs→b8 F w cs ys→b8 F w (bs++cs) (xs++ys)
 | [],cs,xs,ys,h,h'=>by
  have h0:xs = []:=h;subst h0;simpa using h'
 | b :: bs,cs,_,ys,⟨kk,sl,rest,h1,h2,h3,h4⟩,h'=>by
  subst h1
  exact⟨kk,sl,rest++ys,rfl,h2,h3,b8.append bs cs rest ys h4 h'⟩
theorem b8.len {F:Nat→Prop}{w:World} : ∀(bs:List Bd) (xs:List Value),b8 F w bs xs→xs.length=bs.length*3
 | [],xs,h=>by
  have h0:xs = []:=h;subst h0;rfl
 | b :: bs,_,⟨kk,sl,rest,h1,h2,h3,h4⟩=>by
  subst h1;have:=b8.len bs rest h4;simp only[List.length_cons];omega
theorem b8.rows {F:Nat→Prop}{w:World}{g:Nat} : ∀(bs:List Bd) (xs:List Value) (off:Nat),b8 F w bs xs→(∀j u,xs[j]?=some u→w.cell? ⟨g,off+j,none⟩=some u)→bg F w g off (Bd.rows bs)
 | [],_,_,_,_=>by unfold Bd.rows bg;trivial
 | b :: bs,_,off,⟨kk,sl,rest,h1,h2,h3,h4⟩,hc=>by
  subst h1;obtain⟨s,he,hs⟩:=h3;simp only[Value.agg.injEq,Array.mk.injEq,List.cons.injEq,Value.int.injEq,true_and,and_true] at he;obtain⟨rfl,rfl⟩:=he;have e0:=hc 0 _ rfl;have e1:=hc 1 _ rfl;have e2:=hc 2 _ rfl
  show bg F w g off (b.row :: Bd.rows bs)
  unfold bg;refine⟨?_,b8.rows bs rest _ h4 fun j u hj=>?_⟩
  ·unfold Bd.row aR
   refine⟨⟨_,e0,by unfold aM;exact⟨rfl,h2⟩⟩,?_⟩;unfold aR;refine⟨⟨_,e1,by unfold aM;rfl⟩,?_⟩;unfold aR
   exact⟨⟨_,e2,hs⟩,by unfold aR;trivial⟩
  ·have:=hc (j+3) u (by simpa using hj)
   rw[Bd.row_length,Nat.add_assoc,Nat.add_comm 3 j];exact this
theorem eo {w:World}{B:Nat}{e:TypeId}{size n q g:Nat}{xs:List Value}(h:w.ownsRow B e size (.slice (some ⟨g,0,none⟩) n q) n xs) : ∀j u,xs[j]?=some u→w.cell? ⟨g,j,none⟩=some u:=by
 obtain⟨h1,h2 | ⟨g',cap,cur,h2,hB,hg,hn,hc,hs,ht⟩⟩:=h
 ·exact absurd h2.1 (by simp)
 ·simp only[Value.slice.injEq,Option.some.injEq,Addr.mk.injEq,and_true] at h2
  obtain⟨rfl,-,rfl⟩:=h2;intro j u hj;subst ht;simp only[World.cell?,hg];rw[List.getElem?_take] at hj
  split at hj
  ·simpa using hj
  ·cases hj
def BdL (r B:Nat)(w:World)(v:Value)(bs:List Bd):Prop:=r<B∧(∃g,v.ownBlock=some g)∧∃xs,w.ownsRow B 99 3 v bs.length xs∧b8 (fun b=>b≠r∧v.ownBlock≠some b) w bs xs
theorem BdL.nil {r B:Nat}{w:World}{g:Nat}{cs:Array Value}(hr:r<B)(hB:B≤g)(h:w.heap[g]?=some (.cells cs 99 (0,0)))(h0:cs.size=0):BdL r B w (.slice (some ⟨g,0,none⟩) 0 0) []:=
 ⟨hr,⟨g,rfl⟩,[],⟨rfl,.inr ⟨g,0,cs,rfl,hB,h,Nat.le_refl _,by unfold maxLen;omega,by simpa using h0,by simp⟩⟩,rfl⟩
theorem BdL.chg {r B:Nat}{w w':World}{v:Value}{bs:List Bd}(h:BdL r B w v bs)(k:Chg [r] w w'):BdL r B w' v bs:=by
 obtain⟨hr,hso,xs,h1,h2⟩:=h
 exact⟨hr,hso,xs,cg h1 k hr,h2.move (k.keeps fun b hb=>by simpa using hb.1) _ _⟩
theorem BdL.below {r B:Nat}{w w':World}{v:Value}{bs:List Bd}(h:BdL r B w v bs)(k:Below w.heap.size w w'):BdL r B w' v bs:=by
 obtain⟨hr,hso,xs,h1,h2⟩:=h
 exact⟨hr,hso,xs,aY h1 k,h2.move (.below k) _ _⟩
theorem BdL.shape {r B:Nat}{w:World}{v:Value}{bs:List Bd}(h:BdL r B w v bs) : ∃a q,v = .slice a bs.length q:=by
 obtain⟨hr,hso,xs,⟨h1,h2 | ⟨g,cap,cur,h2,hB,hg,hn,hc,hs,ht⟩⟩,-⟩:=h
 ·exact⟨none,0,by rw[h2.1,h2.2]⟩
 ·exact⟨_,cap,h2⟩
theorem BdL.push {r B g cap:Nat}{W w2:World}{v:Value}{bs:List Bd}{xs:List Value}{nm:ByteArray}{k:Int}{sl:Value}{t:Ty}(hr:r<B)(hv:b8 (fun b=>b≠r∧v.ownBlock≠some b) W bs xs)(hn:nm.size≤maxLen)
  (ht:ap (fun b=>b≠r∧v.ownBlock≠some b) W t (.agg #[.int .i64 k,sl])) (hown:w2.ownsRow B 99 3 (.slice (some ⟨g,0,none⟩) (bs.length+1) cap) (bs.length+1) (xs ++ [.string nm,.int .i64 k,sl])) (hgrow:W.grownBy w2 v.ownBlock) (hat:v.ownBlock=some g∨g=W.heap.size) :
  BdL r B w2 (.slice (some ⟨g,0,none⟩) (bs.length+1) cap) (bs ++ [⟨nm,t⟩]):=by
 have kk:bx (fun b=>b≠r∧v.ownBlock≠some b) (fun b=>b≠r∧(Value.slice (some ⟨g,0,none⟩) (bs.length+1) cap).ownBlock≠some b) W w2:=by
  refine⟨hgrow.size,fun b hb hl=>⟨hb.1,fun e=>?_⟩,fun b hb hl=>hgrow.block b hl (fun e=>hb.2 e.symm)⟩;simp only[Value.ownBlock,Option.some.injEq] at e;subst e
  rcases hat with h | h
  ·exact hb.2 h
  ·omega
 refine⟨hr,⟨g,rfl⟩,xs ++ [.string nm,.int .i64 k,sl],by simpa using hown,b8.append bs [⟨nm,t⟩] xs _ (hv.move kk _ _) ⟨k,sl,[],rfl,hn,ht.move kk,rfl⟩⟩
theorem BdL.rep {r B:Nat}{w:World}{v:Value}{bs:List Bd}(h:BdL r B w v bs):aL (fun _=>True) w bs v:=by
 obtain⟨a,q,rfl⟩:=h.shape;obtain⟨hr,hso,xs,h1,h2⟩:=h;have h1':=h1;obtain⟨hx,h3 | ⟨g,cap,cur,h3,hB,hg,hn,hc,hs,ht⟩⟩:=h1
 ·obtain⟨h3,h4⟩:=h3
  simp only[Value.slice.injEq] at h3;obtain⟨rfl,-,rfl⟩:=h3;have:bs = []:=List.length_eq_zero_iff.1 h4;subst this;unfold aL aM
  exact⟨none,0,rfl,Nat.le_refl _,by unfold maxLen;omega,.inl rfl⟩
 ·simp only[Value.slice.injEq] at h3
  obtain⟨rfl,-,rfl⟩:=h3;have hcl:=eo h1';unfold aL aM;refine⟨_,q,by rw[Bd.rows_length],by rw[Bd.rows_length];exact hn,hc,.inr ⟨g,0,rfl,trivial,(Array.getElem?_eq_some_iff.1 hg).1,?_⟩⟩
  exact b8.rows bs xs 0 (h2.move (.weaken fun _ _ _=>trivial) _ _) (fun j u hj=>by simpa using hcl j u hj)
theorem iS (F:Nat→Prop)(l:List Bd)(y:Value)(w:World)(hy:aL F w l y) :
  Calls Tryz.prog 110 #[y] w fun e w'=>e = .returned (.bool (ctxB l))∧Below w.heap.size w w':=by
 have HV:=zq (bZ F);obtain⟨a,cap,rfl,h2,h3,-⟩:=hy.open;unfold maxLen at h3;obtain⟨n,hn⟩ : ∃n,l.length=n:=⟨_,rfl⟩
 rw[hn] at h2 hy ⊢;have HN:=zq hn;clear hn
 go_enter Tryz.func110,Tryz.ntmps110
 go_wp2_with fail
 go_loopw [3] (fun i wr=>∃j:Nat,j≤n∧i = .int .i64 j∧Below w.heap.size w wr∧Hid (l.all Bd.ok=(l.drop j).all Bd.ok)) (fun i _=>n-(intOf i).toNat)
 case atStart=>exact⟨0,by omega,rfl,Below.refl _ _,rfl⟩
 case round=>
  obtain⟨j,hj,rfl,hbw,hR⟩:=hrel
  by_cases hlt:j<n
  ·have hjt:j<l.length:=by rw[HN.out];exact hlt
   obtain⟨b,off,k0,a0,m0,q0,rfl,l0,e0,ez,e1,e2,ht⟩:=hy.at hbw hjt;have hstep:l.all Bd.ok=((aO l[j].name&&l[j].ty.valid)&&(l.drop (j+1)).all Bd.ok):=by rw[hR.out,List.drop_eq_getElem_cons hjt];rfl
   have HC:=HV.out l[j].ty _ _ ht;have HM:=fun W=>l6 l[j].name W;generalize l[j].name=nm at *;generalize aO nm=nb at *;generalize l[j].ty.valid=tv at *;have HS:=zq hstep;have HCC:=zq HC;have HMM:=zq HM;clear hstep HC HM hR ht ez
   cases nb
   ·go_wp2_with fail
    refine(HMM.out _).mono ?_;rintro e w1 ⟨rfl,rfl⟩
    go_wp2_with fail
    go_ret
    exact⟨ax (by unfold ctxB;rw[HS.out];simp),hbw⟩
   ·cases tv
    ·go_wp2_with fail
     refine(HMM.out _).mono ?_;rintro e w1 ⟨rfl,rfl⟩
     go_wp2_with fail
     refine HCC.out.mono ?_;rintro e w1 ⟨rfl,hb1⟩
     go_wp2_with fail
     go_ret
     exact⟨ax (by unfold ctxB;rw[HS.out];simp),al hbw hb1⟩
    ·go_wp2_with fail
     refine(HMM.out _).mono ?_;rintro e w1 ⟨rfl,rfl⟩
     go_wp2_with fail
     refine HCC.out.mono ?_;rintro e w1 ⟨rfl,hb1⟩
     go_wp2_with fail
     go_roundw
     case rel=>exact⟨j+1,by omega,by go_num,al hbw hb1,by rw[Hid,HS.out];rfl⟩
     case measure=>simp[intOf];omega
  ·have hall:l.all Bd.ok=true:=by rw[hR.out,List.drop_eq_nil_of_le (by rw[HN.out];omega)];rfl
   have HA:=zq hall;clear hall
   go_wp2_with fail
   go_ret
   exact⟨ax (by unfold ctxB;rw[HA.out,HN.out];simp<;>omega),hbw⟩
theorem sg (s:Bool)(z:Int)(h0:(s)=true):(decide (z≤30):Bool)=(s&&decide (z≤30)):=by
 simp_all
theorem sh (s:Bool)(z:Int)(h0:(s)=false):(false:Bool)=(s&&decide (z≤30)):=by
 simp_all
theorem si (s:Bool)(z:Int)(h0:(s)=true):(decide (z≤200):Bool)=(s&&decide (z≤200)):=by
 simp_all
theorem sk (s:Bool)(z:Int)(h0:(s)=false):(false:Bool)=(s&&decide (z≤200)):=by
 simp_all
theorem ew (F:Nat→Prop)(t:Tm)(y:Value)(w:World)(hy:aA F w t y) :
  Calls Tryz.prog 33 #[y] w fun e w'=>e = .returned (.bool (t.valid))∧Below w.heap.size w w':=by
 have h1:=fun W (h:Below w.heap.size w W)=>jR F t 12 y W (hy.below h) (by omega) (by omega);have h2:=fun(hs:t.shape 14 12=true) W (h:Below w.heap.size w W)=>eX F t 14 12 hs 12 (by omega) (by omega) y W (hy.below h);obtain⟨k,nm,u,tk,ta,tn,tq,fk,fa,fn,fq,l,c,m,q,rfl⟩:=hy.shape;unfold Tm.valid;generalize t.shape 14 12=s at *;generalize t.size=z at *;have H1:=zq h1;have H2:=zq h2;clear h1 h2 hy;obtain⟨rr,hrr⟩ : ∃rr0:Bool,(s&&decide (z≤30))=rr0:=⟨_,rfl⟩
 rw[hrr];have HT:=zq hrr;clear hrr
 go_enter Tryz.func33,Tryz.ntmps33
 rcases Bool.eq_false_or_eq_true (s) with q1 | q1
 ·have Hq1:=zq q1
  clear q1
  go_wp2_with fail
  refine(H1.out _ aj).mono ?_;rintro e w1 ⟨rfl,hb1⟩;rw[Hq1.out];have hB:=(al aj hb1)
  have zw1:=hB.size;have c0_0:w1.cell? ⟨w.heap.size,0,none⟩=some (.int .i64 k):=af hb1 (au (by simp) 0);have c0_1:w1.cell? ⟨w.heap.size,1,none⟩=some (.string nm):=af hb1 (au (by simp) 1);have c0_2:w1.cell? ⟨w.heap.size,2,none⟩=some (.int .i64 u):=af hb1 (au (by simp) 2);have c0_3:w1.cell? ⟨w.heap.size,3,none⟩=some (.int .i64 tk):=af hb1 (au (by simp) 3);have c0_4:w1.cell? ⟨w.heap.size,4,none⟩=some (.slice ta tn tq):=af hb1 (au (by simp) 4);have c0_5:w1.cell? ⟨w.heap.size,5,none⟩=some (.int .i64 fk):=af hb1 (au (by simp) 5);have c0_6:w1.cell? ⟨w.heap.size,6,none⟩=some (.slice fa fn fq):=af hb1 (au (by simp) 6);have c0_7:w1.cell? ⟨w.heap.size,7,none⟩=some (.int .i64 l):=af hb1 (au (by simp) 7);have c0_8:w1.cell? ⟨w.heap.size,8,none⟩=some (.slice c m q):=af hb1 (au (by simp) 8);have d0_w1:=World.block_lt_of_cell? _ _ c0_0
  go_wp2_with fail
  refine(H2.out Hq1.out _ hB).mono ?_;rintro e w2 ⟨rfl,hb2⟩;replace hB:=(al hB hb2)
  have zw2:=hB.size
  go_wp2_with fail
  refine bodyPost_ret (v:=.bool (decide (z≤30))) (by simp[results,Tryz.results33,go_sem,bne]) rfl ?_
  exact⟨ax ((sg s z Hq1.out).trans HT.out),hB⟩
 ·have Hq1:=zq q1
  clear q1
  go_wp2_with fail
  refine(H1.out _ aj).mono ?_;rintro e w3 ⟨rfl,hb3⟩;rw[Hq1.out];have hB:=(al aj hb3)
  have zw3:=hB.size
  go_wp2_with fail
  refine bodyPost_ret (v:=.bool (false)) (by simp[results,Tryz.results33,go_sem,bne]) rfl ?_
  exact⟨ax ((sh s z Hq1.out).trans HT.out),hB⟩
theorem nO (F:Nat→Prop)(t:Tm)(y:Value)(w:World)(hy:aA F w t y) :
  Calls Tryz.prog 20 #[y] w fun e w'=>e = .returned (.bool (t.castValid))∧Below w.heap.size w w':=by
 have h1:=fun W (h:Below w.heap.size w W)=>jT F t 40 y W (hy.below h) (by omega) (by omega);have h2:=fun(hs:t.shape 13 40=true) W (h:Below w.heap.size w W)=>eX F t 13 40 hs 40 (by omega) (by omega) y W (hy.below h);obtain⟨k,nm,u,tk,ta,tn,tq,fk,fa,fn,fq,l,c,m,q,rfl⟩:=hy.shape;unfold Tm.castValid;generalize t.shape 13 40=s at *;generalize t.size=z at *;have H1:=zq h1;have H2:=zq h2;clear h1 h2 hy;obtain⟨rr,hrr⟩ : ∃rr0:Bool,(s&&decide (z≤200))=rr0:=⟨_,rfl⟩
 rw[hrr];have HT:=zq hrr;clear hrr
 go_enter Tryz.func20,Tryz.ntmps20
 rcases Bool.eq_false_or_eq_true (s) with q1 | q1
 ·have Hq1:=zq q1
  clear q1
  go_wp2_with fail
  refine(H1.out _ aj).mono ?_;rintro e w1 ⟨rfl,hb1⟩;rw[Hq1.out];have hB:=(al aj hb1)
  have zw1:=hB.size;have c0_0:w1.cell? ⟨w.heap.size,0,none⟩=some (.int .i64 k):=af hb1 (au (by simp) 0);have c0_1:w1.cell? ⟨w.heap.size,1,none⟩=some (.string nm):=af hb1 (au (by simp) 1);have c0_2:w1.cell? ⟨w.heap.size,2,none⟩=some (.int .i64 u):=af hb1 (au (by simp) 2);have c0_3:w1.cell? ⟨w.heap.size,3,none⟩=some (.int .i64 tk):=af hb1 (au (by simp) 3);have c0_4:w1.cell? ⟨w.heap.size,4,none⟩=some (.slice ta tn tq):=af hb1 (au (by simp) 4);have c0_5:w1.cell? ⟨w.heap.size,5,none⟩=some (.int .i64 fk):=af hb1 (au (by simp) 5);have c0_6:w1.cell? ⟨w.heap.size,6,none⟩=some (.slice fa fn fq):=af hb1 (au (by simp) 6);have c0_7:w1.cell? ⟨w.heap.size,7,none⟩=some (.int .i64 l):=af hb1 (au (by simp) 7);have c0_8:w1.cell? ⟨w.heap.size,8,none⟩=some (.slice c m q):=af hb1 (au (by simp) 8);have d0_w1:=World.block_lt_of_cell? _ _ c0_0
  go_wp2_with fail
  refine(H2.out Hq1.out _ hB).mono ?_;rintro e w2 ⟨rfl,hb2⟩;replace hB:=(al hB hb2)
  have zw2:=hB.size
  go_wp2_with fail
  refine bodyPost_ret (v:=.bool (decide (z≤200))) (by simp[results,Tryz.results20,go_sem,bne]) rfl ?_
  exact⟨ax ((si s z Hq1.out).trans HT.out),hB⟩
 ·have Hq1:=zq q1
  clear q1
  go_wp2_with fail
  refine(H1.out _ aj).mono ?_;rintro e w3 ⟨rfl,hb3⟩;rw[Hq1.out];have hB:=(al aj hb3)
  have zw3:=hB.size
  go_wp2_with fail
  refine bodyPost_ret (v:=.bool (false)) (by simp[results,Tryz.results20,go_sem,bne]) rfl ?_
  exact⟨ax ((sk s z Hq1.out).trans HT.out),hB⟩
theorem rX (v:Bool):(v:Bool)=(v):=by
 rfl
theorem rY (v:Bool):(v:Bool)=(v):=by
 rfl
theorem nv (F:Nat→Prop)(t:Tm)(y:Value)(w:World)(hy:aA F w t y) :
  Calls Tryz.prog 31 #[y] w fun e w'=>e = .returned (.bool (t.valid))∧Below w.heap.size w w':=by
 have hv:(t.scan 14 30 12 1 0).1=t.valid:=by
  have h:=(Tm.scan_eq t 14 30 12 1 0 (by omega)).1;unfold Tm.valid;rw[h]
  simp
 have h1:=fun W (h:Below w.heap.size w W) (r:Nat) (hr:w.heap.size≤r) (hr2:r<W.heap.size) (hc:W.cell? ⟨r,0,none⟩=some (.int .i64 0)) (hf:W.frozen? ⟨r,0,none⟩=false)=>
  (jW r 14 30 12 (by omega) (by omega) t 1 0 (by omega) (by omega) (by omega) y W (hy.move (G:=(· ≠ r)) ⟨h.size,fun b _ hl=>by omega,fun b _ hl=>h.block b hl⟩) hc hf hr2).mono
   (R':=fun e W'=>e = .returned (.bool t.valid)∧Chg [r] W W') (fun e W' h=>⟨hv▸h.1,h.2.1⟩)
 obtain⟨k,nm,u,tk,ta,tn,tq,fk,fa,fn,fq,l,c,m,q,rfl⟩:=hy.shape;generalize t.valid=v at *;have H1:=zq h1;clear h1 hy hv;obtain⟨rr,hrr⟩ : ∃rr0:Bool,(v)=rr0:=⟨_,rfl⟩
 rw[hrr];have HT:=zq hrr;clear hrr
 go_enter Tryz.func31,Tryz.ntmps31
 go_wp2_with fail
 refine(H1.out _ aH (w.heap.size+1) (by simp) (by simp) (au (by simp) 0) (di (by simp) 0)).mono ?_;rintro e w1 ⟨rfl,hb1⟩;have hB:=(bchg aH hb1 (by omega) (Nat.le_refl _))
 have zw1:=hB.size
 go_wp2_with fail
 refine bodyPost_ret (v:=.bool (v)) (by simp[results,Tryz.results31,go_sem,bne]) rfl ?_
 exact⟨ax ((rX v ).trans HT.out),hB⟩
theorem et (F:Nat→Prop)(t:Tm)(y:Value)(w:World)(hy:aA F w t y) :
  Calls Tryz.prog 15 #[y] w fun e w'=>e = .returned (.bool (t.castValid))∧Below w.heap.size w w':=by
 have hv:(t.scan 13 200 40 1 0).1=t.castValid:=by
  have h:=(Tm.scan_eq t 13 200 40 1 0 (by omega)).1;unfold Tm.castValid;rw[h]
  simp
 have h1:=fun W (h:Below w.heap.size w W) (r:Nat) (hr:w.heap.size≤r) (hr2:r<W.heap.size) (hc:W.cell? ⟨r,0,none⟩=some (.int .i64 0)) (hf:W.frozen? ⟨r,0,none⟩=false)=>
  (jW r 13 200 40 (by omega) (by omega) t 1 0 (by omega) (by omega) (by omega) y W (hy.move (G:=(· ≠ r)) ⟨h.size,fun b _ hl=>by omega,fun b _ hl=>h.block b hl⟩) hc hf hr2).mono
   (R':=fun e W'=>e = .returned (.bool t.castValid)∧Chg [r] W W') (fun e W' h=>⟨hv▸h.1,h.2.1⟩)
 obtain⟨k,nm,u,tk,ta,tn,tq,fk,fa,fn,fq,l,c,m,q,rfl⟩:=hy.shape;generalize t.castValid=v at *;have H1:=zq h1;clear h1 hy hv;obtain⟨rr,hrr⟩ : ∃rr0:Bool,(v)=rr0:=⟨_,rfl⟩
 rw[hrr];have HT:=zq hrr;clear hrr
 go_enter Tryz.func15,Tryz.ntmps15
 go_wp2_with fail
 refine(H1.out _ aH (w.heap.size+1) (by simp) (by simp) (au (by simp) 0) (di (by simp) 0)).mono ?_;rintro e w1 ⟨rfl,hb1⟩;have hB:=(bchg aH hb1 (by omega) (Nat.le_refl _))
 have zw1:=hB.size
 go_wp2_with fail
 refine bodyPost_ret (v:=.bool (v)) (by simp[results,Tryz.results15,go_sem,bne]) rfl ?_
 exact⟨ax ((rY v ).trans HT.out),hB⟩
def Tm.nodes (t:Tm):Int:=if t.valid then t.size else 0
def hasT (k:Int):Bool:=k==5||k==13
mutual
def Tm.tys:Tm→List Ty
 | .mk k _ _ t _ _ ts=>(if hasT k then [t] else [])++Tm.tyss ts
def Tm.tyss:List Tm→List Ty
 | []=> []
 | t :: ts=>t.tys++Tm.tyss ts
end
theorem bm.append {w:World} : ∀ {r1 r2:List (List C)} {x1 x2:List Value} {f1 f2:List Nat},bm w r1 x1 f1→bm w r2 x2 f2→bm w (r1++r2) (x1++x2) (f1++f2)
 | [],r2,_,x2,_,f2,⟨h1,h2⟩,h=>by subst h1 h2;exact h
 | r :: r1,r2,_,x2,_,f2,⟨ys,xs',g1,g2,e1,e2,h1,h2⟩,h=>by
  subst e1 e2
  exact⟨ys,xs'++x2,g1,g2++f2,by simp,by simp,h1,bm.append h2 h⟩
theorem aJ.one {w:World} : ∀ {c:C} {y:Value} {fp:List Nat},aJ w c y fp→y.oneCell'=true
 | .int _,_,_,h=>by unfold aJ at h;rw[h.1];rfl
 | .str _,_,_,h=>by unfold aJ at h;rw[h.1];rfl
 | .sl _,_,_,h=>by unfold aJ at h;obtain⟨a,q,h,-⟩:=h;rw[h];rfl
theorem bl.one {w:World} : ∀ {r:List C} {ys:List Value} {fp:List Nat},bl w r ys fp→∀y∈ys,y.oneCell'=true
 | [],_,_,⟨h,_⟩,y,hy=>by subst h;cases hy
 | c :: cs,_,_,⟨z,zs,f1,f2,e,_,h1,h2⟩,y,hy=>by
  subst e
  rcases List.mem_cons.1 hy with rfl | hy
  ·exact h1.one
  ·exact bl.one h2 y hy
theorem bm.one {w:World} : ∀ {rs:List (List C)} {ys:List Value} {fp:List Nat},bm w rs ys fp→∀y∈ys,y.oneCell'=true
 | [],_,_,⟨h,_⟩,y,hy=>by subst h;cases hy
 | r :: rs,_,_,⟨y1,x',f1,f2,e,_,h1,h2⟩,y,hy=>by
  subst e
  rcases List.mem_append.1 hy with hy | hy
  ·exact h1.one y hy
  ·exact bm.one h2 y hy
theorem bm.single {w:World}{r:List C}{ys:List Value}{f:List Nat}(h:bl w r ys f):bm w [r] ys f:=⟨ys,[],f,[],by simp,by simp,h,rfl,rfl⟩
theorem gz {w:World}{B:Nat}{e:TypeId}{size n q g:Nat}{xs:List Value}(h:w.ownsRow B e size (.slice (some ⟨g,0,none⟩) n q) n xs) : ∀j u,xs[j]?=some u→w.cell? ((⟨g,0,none⟩:Addr).add j)=some u:=by
 obtain⟨h1,h2 | ⟨g',cap,cur,h2,hB,hg,hn,hc,hs,ht⟩⟩:=h
 ·exact absurd h2.1 (by simp)
 ·simp only[Value.slice.injEq,Option.some.injEq,Addr.mk.injEq,and_true] at h2
  obtain⟨rfl,_⟩:=h2;intro j u hu;have e1:(⟨g,0,none⟩:Addr).add j=⟨g,j,none⟩:=by
   by_cases hj:j=0
   ·subst hj;rfl
   ·simp[Addr.add,hj]
  rw[e1];rw[←ht] at hu;have hj:j<n*size:=by
   have:=List.getElem?_eq_some_iff.1 hu;obtain⟨h,_⟩:=this
   simp at h;omega
  rw[List.getElem?_take_of_lt hj,Array.getElem?_toList] at hu
  simp[World.cell?,hg,hu]
theorem aQ.mono {B B' n size:Nat}{e:TypeId}{w:World}{v:Value}{rows:List (List C)}(h:aQ B e size w v n rows)(hb:B'≤B):aQ B' e size w v n rows:=by
 obtain⟨xs,fps,⟨h0,h1⟩,h2,h3,h4,h5⟩:=h;refine⟨xs,fps,⟨h0,?_⟩,h2,h3,h4,fun x hx=>⟨Nat.le_trans hb (h5 x hx).1,(h5 x hx).2⟩⟩
 rcases h1 with h1 | ⟨g,cap,cur,e1,e2,e3⟩
 ·exact .inl h1
 ·exact .inr ⟨g,cap,cur,e1,Nat.le_trans hb e2,e3⟩
def dL (w:World)(t:Tm)(y:Value)(fp:List Nat):Prop:=∃s1 s2 s f1 f2 f3,y = .agg #[.int .i64 t.kind,.string t.name,.int .i64 t.num,.int .i64 t.type.kind,s1,.int .i64 t.src.kind,s2,.int .i64 t.label,s]∧fp=f1++(f2++f3)∧t.name.size≤maxLen ∧
 aJ w (.sl (Ty.rows t.type.kids)) s1 f1∧aJ w (.sl (Ty.rows t.src.kids)) s2 f2∧aJ w (.sl (Tm.rows t.kids)) s f3
def TmsOwn (w:World)(ts:List Tm)(y:Value)(fp:List Nat):Prop:=aJ w (.sl (Tm.rows ts)) y fp
def b7 (B:Nat)(w:World)(t:Tm)(y:Value):Prop:=∃fp,dL w t y fp∧fp.Nodup∧∀b∈fp,B≤b
def cK (B:Nat)(w:World)(ts:List Tm)(y:Value):Prop:=∃fp,TmsOwn w ts y fp∧fp.Nodup∧∀b∈fp,B≤b
theorem dL.below {w w':World}{t:Tm}{y:Value}{fp:List Nat}(h:dL w t y fp)(k:Below w.heap.size w w'):dL w' t y fp:=by
 obtain⟨s1,s2,s,f1,f2,f3,rfl,rfl,hn,h1,h2,h3⟩:=h
 exact⟨s1,s2,s,f1,f2,f3,rfl,rfl,hn,h1.move _ _ _ fun b hb=>k.block b (h1.lt _ _ _ b hb),h2.move _ _ _ fun b hb=>k.block b (h2.lt _ _ _ b hb),h3.move _ _ _ fun b hb=>k.block b (h3.lt _ _ _ b hb)⟩
theorem dL.rep {w:World}{t:Tm}{y:Value}{fp:List Nat}(h:dL w t y fp):aA (· ∈ fp) w t y:=by
 obtain⟨s1,s2,s,f1,f2,f3,rfl,rfl,hn,h1,h2,h3⟩:=h
 exact⟨s1,s2,s,rfl,hn,h1.rep _ _ _ (fun b hb=>by simp[hb]),h2.rep _ _ _ (fun b hb=>by simp[hb]),h3.rep _ _ _ (fun b hb=>by simp[hb])⟩
theorem b7.below {B:Nat}{w w':World}{t:Tm}{y:Value}(h:b7 B w t y)(k:Below w.heap.size w w'):b7 B w' t y:=
 let ⟨fp,h1,h2,h3⟩:=h;⟨fp,h1.below k,h2,h3⟩
theorem b7.rep {B:Nat}{w:World}{t:Tm}{y:Value}(h:b7 B w t y):aA (B ≤ ·) w t y:=
 let ⟨fp,h1,_,h3⟩:=h;h1.rep.move (.weaken fun b hb _=>h3 b hb)
theorem cK.rep {B:Nat}{w:World}{ts:List Tm}{y:Value}(h:cK B w ts y):aS (B ≤ ·) w ts y:=
 let ⟨_,h1,_,h3⟩:=h;aJ.rep _ _ _ (fun b hb=>h3 b hb) h1
theorem cK.below {B:Nat}{w w':World}{ts:List Tm}{y:Value}(h:cK B w ts y)(k:Below w.heap.size w w'):cK B w' ts y:=
 let ⟨fp,h1,h2,h3⟩:=h;⟨fp,aJ.move _ _ _ (fun b hb=>k.block b (aJ.lt _ _ _ h1 b hb)) h1,h2,h3⟩
theorem b7.shape {B:Nat}{w:World}{t:Tm}{y:Value}(h:b7 B w t y) : ∃k nm u tk ta tn tq fk fa fn fq l c m q,y = .agg #[.int .i64 k,.string nm,.int .i64 u,.int .i64 tk,.slice ta tn tq,.int .i64 fk,.slice fa fn fq,.int .i64 l,.slice c m q]:=h.rep.shape
theorem b7.mono {B B':Nat}{w:World}{t:Tm}{y:Value}(h:b7 B w t y)(hB:B'≤B):b7 B' w t y:=
 let ⟨fp,h1,h2,h3⟩:=h;⟨fp,h1,h2,fun b hb=>Nat.le_trans hB (h3 b hb)⟩
theorem cK.mono {B B':Nat}{w:World}{t:List Tm}{y:Value}(h:cK B w t y)(hB:B'≤B):cK B' w t y:=
 let ⟨fp,h1,h2,h3⟩:=h;⟨fp,h1,h2,fun b hb=>Nat.le_trans hB (h3 b hb)⟩
theorem cK.setCell {B:Nat}{w:World}{ts:List Tm}{y:Value}(h:cK B w ts y){p:Addr}(hp:p.block<B)(v:Value):cK B (w.setCell p v) ts y:=by
 obtain⟨fp,h1,h2,h3⟩:=h
 exact⟨fp,aJ.move _ _ _ (fun b hb=>Below.heap_setCell w p v b (by have:=h3 b hb;omega)) h1,h2,h3⟩
theorem b7.setCell {B:Nat}{w:World}{t:Tm}{y:Value}(h:b7 B w t y){p:Addr}(hp:p.block<B)(v:Value):b7 B (w.setCell p v) t y:=by
 obtain⟨fp,⟨s1,s2,s,f1,f2,f3,rfl,rfl,hn,h1,h2,h3⟩,hd,hx⟩:=h;have hk : ∀b∈f1++(f2++f3),(w.setCell p v).heap[b]?=w.heap[b]?:=fun b hb=>Below.heap_setCell w p v b (by have:=hx b hb;omega)
 exact⟨_,⟨s1,s2,s,f1,f2,f3,rfl,rfl,hn,aJ.move _ _ _ (fun b hb=>hk b (by simp[hb])) h1,aJ.move _ _ _ (fun b hb=>hk b (by simp[hb])) h2,aJ.move _ _ _ (fun b hb=>hk b (by simp[hb])) h3⟩,hd,hx⟩
theorem b7.nil {B:Nat}{w:World}{k u l:Int}{nm:ByteArray}(hn:nm.size≤maxLen):b7 B w (.mk k nm u (.mk 0 []) (.mk 0 []) l []) (.agg #[.int .i64 k,.string nm,.int .i64 u,.int .i64 0,.slice none 0 0,.int .i64 0,.slice none 0 0,.int .i64 l,.slice none 0 0]):=by
 have z:aJ w (.sl []) (.slice none 0 0) []:=by unfold aJ;exact⟨none,0,rfl,Nat.le_refl _,by unfold maxLen;omega,.inl ⟨rfl,rfl⟩⟩
 refine⟨[],⟨_,_,_,[],[],[],rfl,rfl,hn,?_,?_,?_⟩,by simp,by simp⟩
 ·simp only[Tm.type,Ty.kids,Ty.rows];exact z
 ·simp only[Tm.src,Ty.kids,Ty.rows];exact z
 ·simp only[Tm.kids,Tm.rows];exact z
theorem Tm.flatten_length (ts:List Tm):(Tm.rows ts).flatten.length=ts.length*9:=by
 induction ts with
 | nil=>unfold Tm.rows;rfl
 | cons t ts ih=>unfold Tm.rows;rw[List.flatten_cons,List.length_append,ih,t.row_length,List.length_cons];omega
theorem b7.open {B:Nat}{w:World}{t:Tm}{y:Value}(h:b7 B w t y) : ∃k nm u tk ta tn tq fk fa fn fq l c m q fp,y = .agg #[.int .i64 k,.string nm,.int .i64 u,.int .i64 tk,.slice ta tn tq,.int .i64 fk,.slice fa fn fq,.int .i64 l,.slice c m q]∧bl w t.row [.int .i64 k,.string nm,.int .i64 u,.int .i64 tk,.slice ta tn tq,.int .i64 fk,.slice fa fn fq,.int .i64 l,.slice c m q] fp∧fp.Nodup∧∀b∈fp,B≤b:=by
 obtain⟨fp,⟨s1,s2,s,f1,f2,f3,rfl,rfl,hn,h1,h2,h3⟩,hd,hx⟩:=h;obtain⟨ta,tq,rfl,-⟩:=aM.rows (aJ.rep _ _ _ (F:=fun _=>True) (fun _ _=>trivial) h1);obtain⟨fa,fq,rfl,-⟩:=aM.rows (aJ.rep _ _ _ (F:=fun _=>True) (fun _ _=>trivial) h2);obtain⟨c,q,rfl,-⟩:=aM.rows (aJ.rep _ _ _ (F:=fun _=>True) (fun _ _=>trivial) h3);refine⟨_,_,_,_,ta,_,tq,_,fa,_,fq,_,c,_,q,_,rfl,?_,hd,hx⟩
 cases t with | mk k nm u t f l ts=>
 simp only[Tm.kind,Tm.name,Tm.num,Tm.type,Tm.src,Tm.label,Tm.kids] at *;unfold Tm.row;have i1 : ∀n:Int,aJ w (.int n) (.int .i64 n) []:=fun n=>by unfold aJ;exact⟨rfl,rfl⟩
 have i2:aJ w (.str nm) (.string nm) []:=by unfold aJ;exact⟨rfl,hn,rfl⟩
 exact⟨_,_,[],_,rfl,rfl,i1 _,_,_,[],_,rfl,rfl,i2,_,_,[],_,rfl,rfl,i1 _,_,_,[],_,rfl,rfl,i1 _,_,_,f1,_,rfl,rfl,h1,_,_,[],_,rfl,rfl,i1 _,_,_,f2,_,rfl,rfl,h2,_,_,[],_,rfl,rfl,i1 _,_,_,f3,[],rfl,by simp,h3,rfl,rfl⟩
def ex (t:Tm)(w:World)(e:Ending)(w':World):Prop:=∃v,e = .returned v∧b7 w.heap.size w' t v∧Below w.heap.size w w'
theorem Tryz.infoTm:(Tryz.prog.info? 28).map (fun i=>(i.zero,i.size,i.bytes))=some (some (.agg #[.int .i64 0,.string ByteArray.empty,.int .i64 0,.int .i64 0,.slice none 0 0,.int .i64 0,.slice none 0 0,.int .i64 0,.slice none 0 0]),9,128):=by kernel_rfl
def TyIn (B E:Nat)(w:World)(t:Ty)(y:Value):Prop:=∃fp,cf w t y fp∧fp.Nodup∧∀b∈fp,B≤b∧b<E
def ga (B E:Nat)(w:World)(ts:List Tm)(y:Value):Prop:=∃fp,TmsOwn w ts y fp∧fp.Nodup∧∀b∈fp,B≤b∧b<E
theorem bo.in {B:Nat}{w:World}{t:Ty}{y:Value}(h:bo B w t y):TyIn B w.heap.size w t y:=by
 obtain⟨fp,h1,h2,h3⟩:=h;obtain⟨s,rfl,h1⟩:=h1
 exact⟨fp,⟨s,rfl,h1⟩,h2,fun b hb=>⟨h3 b hb,aJ.lt _ _ _ h1 b hb⟩⟩
theorem cK.in {B:Nat}{w:World}{ts:List Tm}{y:Value}(h:cK B w ts y):ga B w.heap.size w ts y:=by
 obtain⟨fp,h1,h2,h3⟩:=h
 exact⟨fp,h1,h2,fun b hb=>⟨h3 b hb,aJ.lt _ _ _ h1 b hb⟩⟩
theorem TyIn.below {B E:Nat}{w w':World}{t:Ty}{y:Value}(h:TyIn B E w t y)(k:Below w.heap.size w w'):TyIn B E w' t y:=
 let ⟨fp,h1,h2,h3⟩:=h;⟨fp,h1.below k,h2,h3⟩
theorem ga.below {B E:Nat}{w w':World}{t:List Tm}{y:Value}(h:ga B E w t y)(k:Below w.heap.size w w'):ga B E w' t y:=
 let ⟨fp,h1,h2,h3⟩:=h;⟨fp,aJ.move _ _ _ (fun b hb=>k.block b (aJ.lt _ _ _ h1 b hb)) h1,h2,h3⟩
theorem TyIn.setCell {B E:Nat}{w:World}{t:Ty}{y:Value}(h:TyIn B E w t y){p:Addr}(hp:p.block<B)(v:Value):TyIn B E (w.setCell p v) t y:=by
 obtain⟨fp,⟨s,hs,h1⟩,h2,h3⟩:=h
 exact⟨fp,⟨s,hs,aJ.move _ _ _ (fun b hb=>Below.heap_setCell w p v b (by have:=h3 b hb;omega)) h1⟩,h2,h3⟩
theorem ga.setCell {B E:Nat}{w:World}{t:List Tm}{y:Value}(h:ga B E w t y){p:Addr}(hp:p.block<B)(v:Value):ga B E (w.setCell p v) t y:=by
 obtain⟨fp,h1,h2,h3⟩:=h
 exact⟨fp,aJ.move _ _ _ (fun b hb=>Below.heap_setCell w p v b (by have:=h3 b hb;omega)) h1,h2,h3⟩
theorem ck {w:World}{B:Nat}{e:TypeId}{size n q g i:Nat}{xs:List Value}{u:Value}(h:w.ownsRow B e size (.slice (some ⟨g,0,none⟩) n q) n xs)(hi:i<n*size):(w.setCell ⟨g,i,none⟩ u).ownsRow B e size (.slice (some ⟨g,0,none⟩) n q) n (xs.set i u):=by
 obtain⟨h1,h2 | ⟨g',cap,cur,h2,hB,hg,hn,hc,hs,ht⟩⟩:=h
 ·exact absurd h2.1 (by simp)
 ·simp only[Value.slice.injEq,Option.some.injEq,Addr.mk.injEq,and_true] at h2
  obtain⟨rfl,-,rfl⟩:=h2;refine⟨by rw[List.length_set];exact h1,.inr ⟨g,q,_,rfl,hB,cy hg,hn,hc,by simpa using hs,?_⟩⟩;subst ht
  simp[List.take_set]
theorem bL.cell {B g n q sz o:Nat}{e:TypeId}{w:World}{rows:List (List C)}(h:bL B e sz w (.slice (some ⟨g,0,none⟩) n q) n rows)(ho:o<n*sz):(∃u,w.cell? ⟨g,o,none⟩=some u)∧w.frozen? ⟨g,o,none⟩=false:=by
 obtain⟨hl,xs,⟨h1,h2 | ⟨g',cap,cur,h2,hB,hg,hn,hc,hs,ht⟩⟩,-⟩:=h
 ·simp at h2
 ·simp only[Value.slice.injEq,Option.some.injEq,Addr.mk.injEq,and_true] at h2
  obtain⟨rfl,-,rfl⟩:=h2;have hlt:o<cur.size:=by
   have:n*sz≤q*sz:=Nat.mul_le_mul_right _ hn
   omega
  exact⟨⟨cur[o],by simp[World.cell?,hg,hlt]⟩,by simp[World.frozen?,hg]⟩
theorem bL.form {B n sz:Nat}{e:TypeId}{w:World}{v:Value}{rows:List (List C)}(h:bL B e sz w v n rows)(hn:0<n) : ∃g q,v = .slice (some ⟨g,0,none⟩) n q∧B≤g∧g<w.heap.size∧n≤q∧q≤maxLen:=by
 obtain⟨hl,xs,⟨h1,h2 | ⟨g',cap,cur,h2,hB,hg,hn',hc,hs,ht⟩⟩,-⟩:=h
 ·omega
 ·exact⟨g',cap,h2,hB,aD hg,hn',hc⟩
theorem rA (r p:Nat)(w:World)(h:aT w r p)(hp:p≤1000000000):Calls Tryz.prog 54 #[.pointer (some ⟨r,0,none⟩)] w (DTm r p 5121 5120 w):=by
 have hrl:=h.1
 go_enter Tryz.func54,Tryz.ntmps54
 go_wp2_with fail
 refine(bO (fun k=>2≤k∧k≤5) r (p) _ 5 5 _ (h.below aH) (by omega) (by omega) (by omega) (Nat.le_refl _) (by omega) (bA [4,3,5,4,2] (by simp) _ (by decide))).mono ?_;rintro e w2 ⟨kz,rfl,⟨z1,z2⟩,hrd2,hc2⟩;have hw2:=hc2.size;simp only[World.size_alloc] at hw2;have hch2:=(Chg.of_below (aH (w:=w))).trans hc2;have hR2:w2.heap[w.heap.size]?=some (.cells #[.int .i64 0,.string {data:=#[]},.int .i64 0,.int .i64 0,.slice none 0 0,.int .i64 0,.slice none 0 0,.int .i64 0,.slice none 0 0] 28 (0,0)):=aB (ag (aF rfl) aj) hc2 (by omega);clear hc2;obtain⟨d,rfl⟩:=Int.eq_ofNat_of_zero_le (show 0≤kz by omega);have hd4:4 ^ d≤4 ^ 5:=Nat.pow_le_pow_right (by omega) (by omega);have HD4:=zq (show 4 ^ d≤1024 by simpa using hd4);clear hd4
 go_wp2_with fail
 refine(kZ d r (p+1) [] _ (by omega) (by omega) (by simp;omega) hrd2 (by have:=HD4.out;omega)).mono ?_;rintro e w3 ⟨t,v,q,rfl,hcn,hv,hq,hrd3,hc3⟩;obtain⟨kt,nm0,ut,tkt,tat,tnt,tqt,fkt,fat,fnt,fqt,lt,ct,mt,qt,rfl⟩:=hv.shape;have hw3:=hc3.size;have hch3:=hch2.trans hc3;have hR3:=aB hR2 hc3;clear hc3 hch2 hR2 hrd2;have hval:=fun W (h:Below w3.heap.size w3 W)=>ew _ t _ W (hv.below h);generalize t.valid=vv at hval;have HVAL:=zq hval;have HCN:=zq (show t.cnt≤5120 by have:=HD4.out;omega);have HQ:=zq (show q≤p+5121 by have:=HD4.out;omega);clear hval hcn hq
 go_wp2_with fail
 refine(HVAL.out _ aj).mono ?_;rintro e w4 ⟨rfl,hb4⟩;have hw4:=hb4.size;simp only[World.size_alloc] at hw4;have hrd4:=(hrd3.below (aj (o:=(.cells #[.int .i64 kt,.string nm0,.int .i64 ut,.int .i64 tkt,.slice tat tnt tqt,.int .i64 fkt,.slice fat fnt fqt,.int .i64 lt,.slice ct mt qt] 28)))).below hb4;have hv4:=(hv.below (aj (o:=(.cells #[.int .i64 kt,.string nm0,.int .i64 ut,.int .i64 tkt,.slice tat tnt tqt,.int .i64 fkt,.slice fat fnt fqt,.int .i64 lt,.slice ct mt qt] 28)))).below hb4;have hch4:=(hch3.trans (Chg.of_below (aj (o:=(.cells #[.int .i64 kt,.string nm0,.int .i64 ut,.int .i64 tkt,.slice tat tnt tqt,.int .i64 fkt,.slice fat fnt fqt,.int .i64 lt,.slice ct mt qt] 28))))).trans (Chg.of_below hb4);have hR4:=ag (ag hR3 (aj (o:=(.cells #[.int .i64 kt,.string nm0,.int .i64 ut,.int .i64 tkt,.slice tat tnt tqt,.int .i64 fkt,.slice fat fnt fqt,.int .i64 lt,.slice ct mt qt] 28)))) hb4;have hE4:w4.heap[w3.heap.size]?=some (.cells #[.int .i64 kt,.string nm0,.int .i64 ut,.int .i64 tkt,.slice tat tnt tqt,.int .i64 fkt,.slice fat fnt fqt,.int .i64 lt,.slice ct mt qt] 28 (0,0)):=ag (aF rfl) hb4;clear HVAL hrd3 hv hch3 hR3 hb4;have x0:=ah hR4 (o:=0) rfl;have f0:=ao hR4 0;have x1:=ah hR4 (o:=1) rfl;have f1:=ao hR4 1;have x2:=ah hR4 (o:=2) rfl;have f2:=ao hR4 2;have x3:=ah hR4 (o:=3) rfl;have f3:=ao hR4 3;have x4:=ah hR4 (o:=4) rfl;have f4:=ao hR4 4;have x5:=ah hR4 (o:=5) rfl;have f5:=ao hR4 5;have x6:=ah hR4 (o:=6) rfl;have f6:=ao hR4 6;have x7:=ah hR4 (o:=7) rfl;have f7:=ao hR4 7;have x8:=ah hR4 (o:=8) rfl;have f8:=ao hR4 8;obtain⟨e0,e1,e2,e3,e4,e5,e6,e7,e8⟩:=blk9 hE4;have lx:=aD hR4;have lE:=aD hE4
 cases vv
 ·go_wp2_with fail
  refine(cO 3 _).mono ?_;rintro e w5 ⟨rfl,hb5⟩;have hw5:=hb5.size;have hrd5:=hrd4.below hb5;have hch5:=hch4.trans (Chg.of_below hb5);have hR5:=ag hR4 hb5;clear x0 f0 e0 x1 f1 e1 x2 f2 e2 x3 f3 e3 x4 f4 e4 x5 f5 e5 x6 f6 e6 x7 f7 e7 x8 f8 e8;have x0:=ah hR5 (o:=0) rfl;have f0:=ao hR5 0;have x1:=ah hR5 (o:=1) rfl;have f1:=ao hR5 1;have x2:=ah hR5 (o:=2) rfl;have f2:=ao hR5 2;have x3:=ah hR5 (o:=3) rfl;have f3:=ao hR5 3;have x4:=ah hR5 (o:=4) rfl;have f4:=ao hR5 4;have x5:=ah hR5 (o:=5) rfl;have f5:=ao hR5 5;have x6:=ah hR5 (o:=6) rfl;have f6:=ao hR5 6;have x7:=ah hR5 (o:=7) rfl;have f7:=ao hR5 7;have x8:=ah hR5 (o:=8) rfl;have f8:=ao hR5 8;have HEND:=zq (DTm.stored (r:=r) (p:=p) (c:=5121) (m:=5120) (w:=w) (q:=q) (R:=w.heap.size) (B:=w.heap.size+1) (v0:=.int .i64 2) (v1:=.string {data:=#[]}) (v2:=.int .i64 3) (v3:=.int .i64 0) (v4:=.slice none 0 0) (v5:=.int .i64 0) (v6:=.slice none 0 0) (v7:=.int .i64 0) (v8:=.slice none 0 0) (aA.leaf0 (nm:={data:=#[]}) 2 3 (by unfold maxLen;decide)) (by simp[Tm.cnt,Tm.cnts,Ty.cnt,Ty.cnts,ByteArray.size]) (by omega) HQ.out hrd5 hch5 (Nat.le_refl _) (by omega) hrl)
  go_wp2_with fail
  refine bodyPost_ret (v:=.agg #[.int .i64 2,.string {data:=#[]},.int .i64 3,.int .i64 0,.slice none 0 0,.int .i64 0,.slice none 0 0,.int .i64 0,.slice none 0 0]) (by simp[results,Tryz.results54,go_sem,x0,x1,x2,x3,x4,x5,x6,x7,x8]) rfl ?_
  exact HEND.out
 ·have HEND:=zq (DTm.stored (r:=r) (p:=p) (c:=5121) (m:=5120) (w:=w) (q:=q) (R:=w.heap.size) (B:=w2.heap.size) (v0:=.int .i64 kt) (v1:=.string nm0) (v2:=.int .i64 ut) (v3:=.int .i64 tkt) (v4:=.slice tat tnt tqt) (v5:=.int .i64 fkt) (v6:=.slice fat fnt fqt) (v7:=.int .i64 lt) (v8:=.slice ct mt qt) hv4 HCN.out (by omega) HQ.out hrd4 hch4 (Nat.le_refl _) (by omega) hrl)
  go_wp2_with fail
  refine bodyPost_ret (v:=.agg #[.int .i64 kt,.string nm0,.int .i64 ut,.int .i64 tkt,.slice tat tnt tqt,.int .i64 fkt,.slice fat fnt fqt,.int .i64 lt,.slice ct mt qt]) (by simp[results,Tryz.results54,go_sem,x0,x1,x2,x3,x4,x5,x6,x7,x8]) rfl ?_
  exact HEND.out
end Go.Proofs.YtfahhonmiimmdaaGreat
