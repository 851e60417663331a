/- Lists of types read off a block's cells. And what else its parts name. -/
import Derived.Test.YtfahhonmiimmdaaGreatB11
set_option linter.unusedSimpArgs false
set_option linter.unusedVariables false
set_option maxRecDepth 100000
set_option maxHeartbeats 16000000
namespace Go.Proofs.YtfahhonmiimmdaaGreat
open Go.RowKit
theorem eT {F:Nat→Prop}{w:World}{b o:Nat}{t:Ty}{k1:Int}{c1:Value}(e0:w.cell? ⟨b,o,none⟩=some (.int .i64 k1))(e1:w.cell? ⟨b,o+1,none⟩=some c1)(ht:ap F w t (.agg #[.int .i64 k1,c1])):aR F w b o t.row:=by
 obtain⟨p1,p2⟩:=ht.parts
 cases t with | mk k1' ts=>
 simp only[Ty.kind,Ty.kids] at p1 p2;subst p1;unfold Ty.row aR;refine⟨⟨_,e0,by unfold aM;rfl⟩,?_⟩;unfold aR
 exact⟨⟨_,e1,p2⟩,by unfold aR;trivial⟩
theorem aE.one_mk {F:Nat→Prop}{w:World}{b cap:Nat}{t:Ty}{k1:Int}{c1:Value}(hF:F b)(hc:1≤cap)(hm:cap≤maxLen)
  (e0:w.cell? ⟨b,0,none⟩=some (.int .i64 k1)) (e1:w.cell? ⟨b,1,none⟩=some c1) (ht:ap F w t (.agg #[.int .i64 k1,c1])):aE F w [t] (.slice (some ⟨b,0,none⟩) 1 cap):=by
 unfold aE aM;refine⟨_,cap,by simp[Ty.rows_length],by rw[Ty.rows_length];simpa using hc,hm,.inr ⟨b,0,rfl,hF,World.block_lt_of_cell? _ _ e0,?_⟩⟩;simp only[Ty.rows];unfold bg
 exact⟨eT e0 e1 ht,by unfold bg;trivial⟩
theorem aE.two_mk {F:Nat→Prop}{w:World}{b cap:Nat}{t u:Ty}{k1 k2:Int}{c1 c2:Value}(hF:F b)(hc:2≤cap)(hm:cap≤maxLen)
  (e0:w.cell? ⟨b,0,none⟩=some (.int .i64 k1)) (e1:w.cell? ⟨b,1,none⟩=some c1) (e2:w.cell? ⟨b,2,none⟩=some (.int .i64 k2)) (e3:w.cell? ⟨b,3,none⟩=some c2)
  (ht:ap F w t (.agg #[.int .i64 k1,c1])) (hu:ap F w u (.agg #[.int .i64 k2,c2])):aE F w [t,u] (.slice (some ⟨b,0,none⟩) 2 cap):=(ap.two_mk (k:=0) hF hc hm e0 e1 e2 e3 ht hu).parts.2
theorem aE.three_mk {F:Nat→Prop}{w:World}{b cap:Nat}{t u s:Ty}{k1 k2 k3:Int}{c1 c2 c3:Value}(hF:F b)(hc:3≤cap)(hm:cap≤maxLen)
  (e0:w.cell? ⟨b,0,none⟩=some (.int .i64 k1)) (e1:w.cell? ⟨b,1,none⟩=some c1) (e2:w.cell? ⟨b,2,none⟩=some (.int .i64 k2)) (e3:w.cell? ⟨b,3,none⟩=some c2) (e4:w.cell? ⟨b,4,none⟩=some (.int .i64 k3)) (e5:w.cell? ⟨b,5,none⟩=some c3)
  (ht:ap F w t (.agg #[.int .i64 k1,c1])) (hu:ap F w u (.agg #[.int .i64 k2,c2])) (hs:ap F w s (.agg #[.int .i64 k3,c3])):aE F w [t,u,s] (.slice (some ⟨b,0,none⟩) 3 cap):=by
 have lt:t.row.length=2:=by cases t;rfl
 have lu:u.row.length=2:=by cases u;rfl
 unfold aE aM;refine⟨_,cap,by simp[Ty.rows_length],by rw[Ty.rows_length];simpa using hc,hm,.inr ⟨b,0,rfl,hF,World.block_lt_of_cell? _ _ e0,?_⟩⟩;simp only[Ty.rows];unfold bg;refine⟨eT e0 e1 ht,?_⟩;unfold bg;refine⟨eT (by rw[lt];exact e2) (by rw[lt];exact e3) hu,?_⟩;unfold bg
 exact⟨eT (by rw[lt,lu];exact e4) (by rw[lt,lu];exact e5) hs,by unfold bg;trivial⟩
def eM (F:Nat→Prop)(B:Nat)(e:TypeId)(sz:Nat)(w:World)(v:Value)(n:Nat)(rows:List (List C)):Prop:=
 rows.length=n∧∃xs,w.ownsRow B e sz v n xs∧aW (fun b=>F b∧v.ownBlock≠some b) w rows xs
theorem eM.nil {F:Nat→Prop}{B:Nat}{e:TypeId}{sz:Nat}{w:World}:eM F B e sz w (.slice none 0 0) 0 []:=⟨rfl,[],World.ownsRow_nil w B e sz,rfl⟩
theorem eM.below {F:Nat→Prop}{B:Nat}{e:TypeId}{sz n:Nat}{w w':World}{v:Value}{rows:List (List C)}(h:eM F B e sz w v n rows)(k:Below w.heap.size w w'):eM F B e sz w' v n rows:=by
 obtain⟨hl,xs,h1,h2⟩:=h
 exact⟨hl,xs,aY h1 k,h2.move (.below k) _ _⟩
theorem eM.shape {F:Nat→Prop}{B:Nat}{e:TypeId}{sz n:Nat}{w:World}{v:Value}{rows:List (List C)}(h:eM F B e sz w v n rows) : ∃a q,v = .slice a n q:=by
 obtain⟨hl,xs,⟨h1,h2 | ⟨g,cap,cur,h2,hB,hg,hn,hc,hs,ht⟩⟩,-⟩:=h
 ·exact⟨none,0,by rw[h2.1,h2.2]⟩
 ·exact⟨_,cap,h2⟩
theorem eM.push {F:Nat→Prop}{B g cap n sz:Nat}{e:TypeId}{wr W w2:World}{v:Value}{rows:List (List C)}{xs ys:List Value}{rw':List C}(hl:rows.length=n)(hv:aW (fun b=>F b∧v.ownBlock≠some b) wr rows xs)
  (hb:Below wr.heap.size wr W) (hr:bE (fun b=>F b∧v.ownBlock≠some b) W rw' ys)
  (hown:w2.ownsRow B e sz (.slice (some ⟨g,0,none⟩) (n+1) cap) (n+1) (xs++ys)) (hgrow:W.grownBy w2 v.ownBlock) (hat:v.ownBlock=some g∨g=W.heap.size) :
  eM F B e sz w2 (.slice (some ⟨g,0,none⟩) (n+1) cap) (n+1) (rows ++ [rw']):=by
 have kk:bx (fun b=>F b∧v.ownBlock≠some b) (fun b=>F b∧(Value.slice (some ⟨g,0,none⟩) (n+1) cap).ownBlock≠some b) W w2:=by
  refine⟨hgrow.size,fun b hb hl=>⟨hb.1,fun e=>?_⟩,fun b hb hl=>hgrow.block b hl (fun e=>hb.2 e.symm)⟩;simp only[Value.ownBlock,Option.some.injEq] at e;subst e
  rcases hat with h | h
  ·exact hb.2 h
  ·omega
 exact⟨by simp[hl],xs++ys,hown,aW.append rows [rw'] xs ys ((hv.move (.below hb) _ _).move kk _ _) (aW.one (hr.move kk))⟩
theorem eM.rep {F:Nat→Prop}{B:Nat}{e:TypeId}{sz n:Nat}{w:World}{v:Value}{rows:List (List C)}(h:eM F B e sz w v n rows)(hF : ∀b,B≤b→F b):aM F w (.sl rows) v:=by
 obtain⟨hl,xs,h1,h2⟩:=h;subst hl;obtain⟨hx,h3 | ⟨g,cap,cur,h3,hB,hg,hn,hc,hs,ht⟩⟩:=h1
 ·obtain⟨rfl,h4⟩:=h3
  have:rows = []:=List.length_eq_zero_iff.1 h4;subst this;unfold aM
  exact⟨none,0,rfl,Nat.le_refl _,by unfold maxLen;omega,.inl rfl⟩
 ·subst h3
  have hcl : ∀j u,xs[j]?=some u→w.cell? ⟨g,j,none⟩=some u:=by
   intro j u hj;subst ht;simp only[World.cell?,hg];rw[List.getElem?_take] at hj
   split at hj
   ·simpa using hj
   ·cases hj
  unfold aM
  exact⟨_,cap,rfl,hn,hc,.inr ⟨g,0,rfl,hF g hB,(Array.getElem?_eq_some_iff.1 hg).1,aW.rows rows xs 0 (h2.move (.weaken fun _ hb _=>hb.1) _ _) (fun j u hj=>by simpa using hcl j u hj)⟩⟩
def BdG (F:Nat→Prop)(B:Nat)(w:World)(v:Value)(bs:List Bd):Prop:=∃xs,w.ownsRow B 99 3 v bs.length xs∧b8 (fun b=>F b∧v.ownBlock≠some b) w bs xs
theorem BdG.none {F:Nat→Prop}{B:Nat}{w:World}:BdG F B w (.slice none 0 0) []:=⟨[],World.ownsRow_nil w B _ _,rfl⟩
theorem BdG.below {F:Nat→Prop}{B:Nat}{w w':World}{v:Value}{bs:List Bd}(h:BdG F B w v bs)(k:Below w.heap.size w w'):BdG F B w' v bs:=by
 obtain⟨xs,h1,h2⟩:=h
 exact⟨xs,aY h1 k,h2.move (.below k) _ _⟩
theorem BdG.push {F:Nat→Prop}{B:Nat}{W w2:World}{v v':Value}{bs cs:List Bd}{xs ys:List Value}(hv:b8 (fun b=>F b∧v.ownBlock≠some b) W bs xs)(hc:b8 (fun b=>F b∧v.ownBlock≠some b) W cs ys)
  (hown:w2.ownsRow B 99 3 v' (bs.length+cs.length) (xs++ys)) (hgrow:W.grownBy w2 v.ownBlock) (hat:v'.ownBlock=v.ownBlock∨v'.ownBlock=some W.heap.size) :
  BdG F B w2 v' (bs++cs):=by
 have kk:bx (fun b=>F b∧v.ownBlock≠some b) (fun b=>F b∧v'.ownBlock≠some b) W w2:=by
  refine⟨hgrow.size,fun b hb hl=>⟨hb.1,fun e=>?_⟩,fun b hb hl=>hgrow.block b hl (fun e=>hb.2 e.symm)⟩
  rcases hat with h | h
  ·exact hb.2 (h▸e)
  ·rw[h] at e
   simp only[Option.some.injEq] at e
   omega
 exact⟨xs++ys,by simpa using hown,b8.append bs cs xs ys (hv.move kk _ _) (hc.move kk _ _)⟩
theorem BdG.shape {F:Nat→Prop}{B:Nat}{w:World}{v:Value}{bs:List Bd}(h:BdG F B w v bs) : ∃a q,v = .slice a bs.length q:=by
 obtain⟨xs,⟨h1,h2 | ⟨g,cap,cur,h2,hB,hg,hn,hc,hs,ht⟩⟩,-⟩:=h
 ·exact⟨Option.none,0,by rw[h2.1,h2.2]⟩
 ·exact⟨_,cap,h2⟩
theorem BdG.rep {F:Nat→Prop}{B:Nat}{w:World}{v:Value}{bs:List Bd}(h:BdG F B w v bs):aL (fun b=>F b∨B≤b) w bs v:=by
 obtain⟨a,q,rfl⟩:=h.shape;obtain⟨xs,h1,h2⟩:=h;have h1':=h1;obtain⟨hx,h3 | ⟨g,cap,cur,h3,hB,hg,hn,hc,hs,ht⟩⟩:=h1
 ·obtain⟨h3,h4⟩:=h3
  simp only[Value.slice.injEq] at h3;obtain⟨rfl,-,rfl⟩:=h3;have:bs = []:=List.length_eq_zero_iff.1 h4;subst this;unfold aL aM
  exact⟨Option.none,0,rfl,Nat.le_refl _,by unfold maxLen;omega,.inl rfl⟩
 ·simp only[Value.slice.injEq] at h3
  obtain⟨rfl,-,rfl⟩:=h3;have hcl:=eo h1';unfold aL aM;refine⟨_,q,by rw[Bd.rows_length],by rw[Bd.rows_length];exact hn,hc,.inr ⟨g,0,rfl,.inr hB,(Array.getElem?_eq_some_iff.1 hg).1,?_⟩⟩
  exact b8.rows bs xs 0 (h2.move (.weaken fun _ hb _=>.inl hb.1) _ _) (fun j u hj=>by simpa using hcl j u hj)
theorem bareS5 (nt:Int)(F:Nat→Prop)(t:Tm)(hk5:t.kind=5)(IH0 : ∀t'∈t.kids,eQ nt F t'):eQ nt F t:=by
 intro d y w hsh hy hcnt;have IH : ∀t'∈t.kids,∀(y:Value) (W:World),aA F W t' y→Calls Tryz.prog 34 #[y] W (ex t'.bare W):=
  fun t' ht y W h=>IH0 t' ht (d-1) y W (by cases t with | mk k s u ty f l ts=>exact Tm.shapes_mem (Tm.shape_parts hsh).2.2.2.2 ht) h (by have:=Tm.cnt_kid ht;omega)
 clear IH0;obtain⟨k,nm,u,tk,ta,tn,tq,fk,fa,fn,fq,l,c,m,q,rfl⟩:=hy.shape;obtain⟨r1,r2,r3,r4,r5,r6,r7,r8,r9,rn,rm,rq,hty,hsr,hks⟩:=hy.parts;obtain⟨i0,hi,hz0,hz1,hz2⟩:=info_parts Tryz.infoTm
 cases t with | mk kk nn uu tt ff ll ts=>
 obtain⟨-,-,htop,-,-⟩:=Tm.shape_parts hsh;simp only[Tm.kind,Tm.name,Tm.num,Tm.type,Tm.src,Tm.label,Tm.kids] at *;subst r1 r2 r3 r8;unfold Tm.cnt at hcnt;have hcl:m≤1048576:=by omega
 have HN:=zq r9;have HRN:=zq rn;have IHH:=zq IH;have Z0:=zq hz0;have Z1:=zq hz1;have Z2:=zq hz2;have HI:=zq hi;unfold maxLen at rq;subst hk5;have hbare:(Tm.mk 5 nm u tt ff l ts).bare = .mk 5 nm u .any1 .no 0 (Tm.bares ts):=by unfold Tm.bare eR;rfl
 rw[hbare];clear IH hy r9 r4 r5 r6 r7 rn hsh hz0 hz1 hz2 hi hcnt htop hbare hty hsr
 go_enter Tryz.func34,Tryz.ntmps34
 go_wp2_with fail
 refine(cM _).mono ?_;rintro e w3 ⟨v3,rfl,hv3,hb3⟩;obtain⟨k3,c3,m3,q3,fp3,rfl,hk3,hm3,hs3,hd3,hx3⟩:=hv3.open;simp only[Ty.kind] at hk3;have hm3':m3=0:=hm3;subst hk3 hm3';have hq3:q3≤maxLen:=by
  unfold Ty.row at hs3;unfold bl at hs3;obtain⟨z,zs,f1,f2,e,-,h1,h2⟩:=hs3;unfold bl at h2;obtain⟨z',zs',f1',f2',e',-,h1',h2'⟩:=h2;simp only[List.cons.injEq] at e;obtain⟨-,rfl⟩:=e;simp only[List.cons.injEq] at e';obtain⟨rfl,-⟩:=e';unfold aJ at h1';obtain⟨a',q',e,-,hq,-⟩:=h1';simp only[Value.slice.injEq] at e
  omega
 have HQ3:=zq hq3;clear hm3 hs3 hd3 hx3 hv3 hq3;have o0:w3.cell? ⟨w.heap.size+1+1,0,none⟩=some (.int .i64 5):=af hb3 (bh 0);have o1:w3.cell? ⟨w.heap.size+1+1,1,none⟩=some (.string nm):=af hb3 (bh 1);have o2:w3.cell? ⟨w.heap.size+1+1,2,none⟩=some (.int .i64 u):=af hb3 (bh 2);have o3:w3.cell? ⟨w.heap.size+1+1,3,none⟩=some (.int .i64 0):=af hb3 (bh 3);have o4:w3.cell? ⟨w.heap.size+1+1,4,none⟩=some (.slice none 0 0):=af hb3 (bh 4);have o5:w3.cell? ⟨w.heap.size+1+1,5,none⟩=some (.int .i64 0):=af hb3 (bh 5);have o6:w3.cell? ⟨w.heap.size+1+1,6,none⟩=some (.slice none 0 0):=af hb3 (bh 6);have o7:w3.cell? ⟨w.heap.size+1+1,7,none⟩=some (.int .i64 0):=af hb3 (bh 7);have o8:w3.cell? ⟨w.heap.size+1+1,8,none⟩=some (.slice none 0 0):=af hb3 (bh 8);have p3:w3.frozen? ⟨w.heap.size+1+1,3,none⟩=false:=az hb3 (bh 3) (df 3);have p4:w3.frozen? ⟨w.heap.size+1+1,4,none⟩=false:=az hb3 (bh 4) (df 4);have lw3:=World.block_lt_of_cell? _ _ o0;have x8:w3.cell? ⟨w.heap.size,8,none⟩=some (.slice c m q):=af hb3 (af aj (af aj (aw 8)));have x0:w3.cell? ⟨w.heap.size,0,none⟩=some (.int .i64 5):=af hb3 (af aj (af aj (aw 0)));have HB3:=zq hb3;clear hb3
 go_wp2_with fail
 have hB1:Below w.heap.size w ((w3.setCell ⟨w.heap.size+1+1,3,none⟩ (.int .i64 1)).setCell ⟨w.heap.size+1+1,4,none⟩ (.slice c3 0 q3)):=((al (al aj aH) HB3.out).setCell (by show w.heap.size≤w.heap.size+1+1;omega) _).setCell (by show w.heap.size≤w.heap.size+1+1;omega) _;have hS1:w.heap.size+1+1+1≤((w3.setCell ⟨w.heap.size+1+1,3,none⟩ (.int .i64 1)).setCell ⟨w.heap.size+1+1,4,none⟩ (.slice c3 0 q3)).heap.size:=by simp[World.setCell];omega
 have hE8:((w3.setCell ⟨w.heap.size+1+1,3,none⟩ (.int .i64 1)).setCell ⟨w.heap.size+1+1,4,none⟩ (.slice c3 0 q3)).cell? ⟨w.heap.size,8,none⟩=some (.slice c m q):=aX (aX x8 (by simp)) (by simp);have z0 : ∃uu:Value,((w3.setCell ⟨w.heap.size+1+1,3,none⟩ (.int .i64 1)).setCell ⟨w.heap.size+1+1,4,none⟩ (.slice c3 0 q3)).cell? ⟨w.heap.size+1,0,none⟩=some uu:=⟨_,aX (aX (af HB3.out (af aj (av 0))) (by simp)) (by simp)⟩
 have z1 : ∃uu:Value,((w3.setCell ⟨w.heap.size+1+1,3,none⟩ (.int .i64 1)).setCell ⟨w.heap.size+1+1,4,none⟩ (.slice c3 0 q3)).cell? ⟨w.heap.size+1,1,none⟩=some uu:=⟨_,aX (aX (af HB3.out (af aj (av 1))) (by simp)) (by simp)⟩
 have z2 : ∃uu:Value,((w3.setCell ⟨w.heap.size+1+1,3,none⟩ (.int .i64 1)).setCell ⟨w.heap.size+1+1,4,none⟩ (.slice c3 0 q3)).cell? ⟨w.heap.size+1,2,none⟩=some uu:=⟨_,aX (aX (af HB3.out (af aj (av 2))) (by simp)) (by simp)⟩
 have z3 : ∃uu:Value,((w3.setCell ⟨w.heap.size+1+1,3,none⟩ (.int .i64 1)).setCell ⟨w.heap.size+1+1,4,none⟩ (.slice c3 0 q3)).cell? ⟨w.heap.size+1,3,none⟩=some uu:=⟨_,aX (aX (af HB3.out (af aj (av 3))) (by simp)) (by simp)⟩
 have z4 : ∃uu:Value,((w3.setCell ⟨w.heap.size+1+1,3,none⟩ (.int .i64 1)).setCell ⟨w.heap.size+1+1,4,none⟩ (.slice c3 0 q3)).cell? ⟨w.heap.size+1,4,none⟩=some uu:=⟨_,aX (aX (af HB3.out (af aj (av 4))) (by simp)) (by simp)⟩
 have z5 : ∃uu:Value,((w3.setCell ⟨w.heap.size+1+1,3,none⟩ (.int .i64 1)).setCell ⟨w.heap.size+1+1,4,none⟩ (.slice c3 0 q3)).cell? ⟨w.heap.size+1,5,none⟩=some uu:=⟨_,aX (aX (af HB3.out (af aj (av 5))) (by simp)) (by simp)⟩
 have z6 : ∃uu:Value,((w3.setCell ⟨w.heap.size+1+1,3,none⟩ (.int .i64 1)).setCell ⟨w.heap.size+1+1,4,none⟩ (.slice c3 0 q3)).cell? ⟨w.heap.size+1,6,none⟩=some uu:=⟨_,aX (aX (af HB3.out (af aj (av 6))) (by simp)) (by simp)⟩
 have z7 : ∃uu:Value,((w3.setCell ⟨w.heap.size+1+1,3,none⟩ (.int .i64 1)).setCell ⟨w.heap.size+1+1,4,none⟩ (.slice c3 0 q3)).cell? ⟨w.heap.size+1,7,none⟩=some uu:=⟨_,aX (aX (af HB3.out (af aj (av 7))) (by simp)) (by simp)⟩
 have z8 : ∃uu:Value,((w3.setCell ⟨w.heap.size+1+1,3,none⟩ (.int .i64 1)).setCell ⟨w.heap.size+1+1,4,none⟩ (.slice c3 0 q3)).cell? ⟨w.heap.size+1,8,none⟩=some uu:=⟨_,aX (aX (af HB3.out (af aj (av 8))) (by simp)) (by simp)⟩
 have hFZ : ∀o,((w3.setCell ⟨w.heap.size+1+1,3,none⟩ (.int .i64 1)).setCell ⟨w.heap.size+1+1,4,none⟩ (.slice c3 0 q3)).frozen? ⟨w.heap.size+1,o,none⟩=false:=fun o=>(cr _ _ _ _).trans ((cr _ _ _ _).trans (cb HB3.out (by simp) (cb aj (by simp) (aI o))));have hFO : ∀o,((w3.setCell ⟨w.heap.size+1+1,3,none⟩ (.int .i64 1)).setCell ⟨w.heap.size+1+1,4,none⟩ (.slice c3 0 q3)).frozen? ⟨w.heap.size+1+1,o,none⟩=false:=fun o=>(cr _ _ _ _).trans ((cr _ _ _ _).trans (cb HB3.out (by simp) (df o)));have g0:((w3.setCell ⟨w.heap.size+1+1,3,none⟩ (.int .i64 1)).setCell ⟨w.heap.size+1+1,4,none⟩ (.slice c3 0 q3)).cell? ⟨w.heap.size+1+1,0,none⟩=some (.int .i64 5):=aX (aX o0 (by simp)) (by simp);have g1:((w3.setCell ⟨w.heap.size+1+1,3,none⟩ (.int .i64 1)).setCell ⟨w.heap.size+1+1,4,none⟩ (.slice c3 0 q3)).cell? ⟨w.heap.size+1+1,1,none⟩=some (.string nm):=aX (aX o1 (by simp)) (by simp);have g2:((w3.setCell ⟨w.heap.size+1+1,3,none⟩ (.int .i64 1)).setCell ⟨w.heap.size+1+1,4,none⟩ (.slice c3 0 q3)).cell? ⟨w.heap.size+1+1,2,none⟩=some (.int .i64 u):=aX (aX o2 (by simp)) (by simp);have g3:((w3.setCell ⟨w.heap.size+1+1,3,none⟩ (.int .i64 1)).setCell ⟨w.heap.size+1+1,4,none⟩ (.slice c3 0 q3)).cell? ⟨w.heap.size+1+1,3,none⟩=some (.int .i64 1):=aX (bv o3) (by simp);have g4:((w3.setCell ⟨w.heap.size+1+1,3,none⟩ (.int .i64 1)).setCell ⟨w.heap.size+1+1,4,none⟩ (.slice c3 0 q3)).cell? ⟨w.heap.size+1+1,4,none⟩=some (.slice c3 0 q3):=bv (aX o4 (by simp));have g5:((w3.setCell ⟨w.heap.size+1+1,3,none⟩ (.int .i64 1)).setCell ⟨w.heap.size+1+1,4,none⟩ (.slice c3 0 q3)).cell? ⟨w.heap.size+1+1,5,none⟩=some (.int .i64 0):=aX (aX o5 (by simp)) (by simp);have g6:((w3.setCell ⟨w.heap.size+1+1,3,none⟩ (.int .i64 1)).setCell ⟨w.heap.size+1+1,4,none⟩ (.slice c3 0 q3)).cell? ⟨w.heap.size+1+1,6,none⟩=some (.slice none 0 0):=aX (aX o6 (by simp)) (by simp);have g7:((w3.setCell ⟨w.heap.size+1+1,3,none⟩ (.int .i64 1)).setCell ⟨w.heap.size+1+1,4,none⟩ (.slice c3 0 q3)).cell? ⟨w.heap.size+1+1,7,none⟩=some (.int .i64 0):=aX (aX o7 (by simp)) (by simp);have g8:((w3.setCell ⟨w.heap.size+1+1,3,none⟩ (.int .i64 1)).setCell ⟨w.heap.size+1+1,4,none⟩ (.slice c3 0 q3)).cell? ⟨w.heap.size+1+1,8,none⟩=some (.slice none 0 0):=aX (aX o8 (by simp)) (by simp);clear x8 x0 lw3 p3 p4 o0 o1 o2 o3 o4 o5 o6 o7 o8;obtain⟨W1,hW1⟩ : ∃x,((w3.setCell ⟨w.heap.size+1+1,3,none⟩ (.int .i64 1)).setCell ⟨w.heap.size+1+1,4,none⟩ (.slice c3 0 q3))=x:=⟨_,rfl⟩
 rw[hW1] at hB1 hS1 hE8 hFZ hFO z0 z1 z2 z3 z4 z5 z6 z7 z8 g0 g1 g2 g3 g4 g5 g6 g7 g8 ⊢;clear hW1;have ZC:Hid ((∃uu:Value,W1.cell? ⟨w.heap.size+1,0,none⟩=some uu)∧(∃uu:Value,W1.cell? ⟨w.heap.size+1,1,none⟩=some uu)∧(∃uu:Value,W1.cell? ⟨w.heap.size+1,2,none⟩=some uu)∧(∃uu:Value,W1.cell? ⟨w.heap.size+1,3,none⟩=some uu)∧(∃uu:Value,W1.cell? ⟨w.heap.size+1,4,none⟩=some uu)∧(∃uu:Value,W1.cell? ⟨w.heap.size+1,5,none⟩=some uu)∧(∃uu:Value,W1.cell? ⟨w.heap.size+1,6,none⟩=some uu)∧(∃uu:Value,W1.cell? ⟨w.heap.size+1,7,none⟩=some uu)∧(∃uu:Value,W1.cell? ⟨w.heap.size+1,8,none⟩=some uu)):=zq ⟨z0,z1,z2,z3,z4,z5,z6,z7,z8⟩;have GC:Hid (W1.cell? ⟨w.heap.size+1+1,0,none⟩=some (.int .i64 5)∧W1.cell? ⟨w.heap.size+1+1,1,none⟩=some (.string nm)∧W1.cell? ⟨w.heap.size+1+1,2,none⟩=some (.int .i64 u)∧W1.cell? ⟨w.heap.size+1+1,3,none⟩=some (.int .i64 1)∧W1.cell? ⟨w.heap.size+1+1,4,none⟩=some (.slice c3 0 q3)∧W1.cell? ⟨w.heap.size+1+1,5,none⟩=some (.int .i64 0)∧W1.cell? ⟨w.heap.size+1+1,6,none⟩=some (.slice none 0 0)∧W1.cell? ⟨w.heap.size+1+1,7,none⟩=some (.int .i64 0)):=zq ⟨g0,g1,g2,g3,g4,g5,g6,g7⟩;have HB1:=zq hB1;have HFZ:=zq hFZ;have HFO:=zq hFO;clear hB1 hFZ hFO z0 z1 z2 z3 z4 z5 z6 z7 z8 g0 g1 g2 g3 g4 g5 g6 g7
 go_loopw [4] (fun i wr=>∃j:Nat,j≤m∧i = .int .i64 j∧Hid (Below w.heap.size w wr)∧w.heap.size+1+1+1≤wr.heap.size∧wr.cell? ⟨w.heap.size,8,none⟩=some (.slice c m q)∧Hid (wr.heap[w.heap.size+1]?=W1.heap[w.heap.size+1]?)∧Hid (∀o,o≠8→wr.cell? ⟨w.heap.size+1+1,o,none⟩=W1.cell? ⟨w.heap.size+1+1,o,none⟩)∧Hid (∀o,wr.frozen? ⟨w.heap.size+1+1,o,none⟩=false) ∧
     ∃v,wr.cell? ⟨w.heap.size+1+1,8,none⟩=some v∧aQ (w.heap.size+1+1+1) 28 9 wr v j (Tm.rows (Tm.bares (ts.take j)))) (fun i _=>m-(intOf i).toNat)
 case atStart=>exact⟨0,by omega,rfl,HB1.out,hS1,hE8,rfl,fun _ _=>rfl,HFO.out,_,g8,by simpa [Tm.bares,Tm.rows] using aQ.nil _ _ _ _⟩
 case round=>
  obtain⟨j,hj,rfl,hbw,hsz,x8,hR,hO,hF,v,hv,hacc⟩:=hrel;have lx8:=World.block_lt_of_cell? _ _ x8;have lhv:=World.block_lt_of_cell? _ _ hv
  by_cases hlt:j<m
  ·have hjt:j<ts.length:=by rw[←HN.out];exact hlt
   obtain⟨b,off,k0,nm0,u0,tk0,ta0,tn0,tq0,fk0,fa0,fn0,fq0,l0,a0,m0,q0,rfl,lb,e0,e1,e2,e3,e4,e5,e6,e7,e8,ht⟩:=hks.at hbw.out hjt;have HC:=zq (fun W (h:Below wr.heap.size wr W)=>IHH.out ts[j] (List.getElem_mem hjt) _ W (ht.below h));have hts:=Tm.bares_take_succ ts j hjt;generalize ts[j].bare=gt at HC hts;have HTS:=zq hts;obtain⟨cv,qv,rfl⟩:=hacc.shape;obtain⟨xs,fps,ho,hl,hs,hd,hfp⟩:=hacc;have HO:=zq ho;have HS:=zq hs;have HD:=zq hd;have HFP:=zq hfp;have HL:=zq hl;clear ho hs hd hfp hl hts ht
   go_wp2_with fail
   go_region_law (first
     | (go_simp;go_at_call 34;refine(HC.out _ bdr).mono ?_;rintro e w1 ⟨v1,rfl,hv1,hb1⟩;obtain⟨k1,nm1,u1,tk1,ta1,tn1,tq1,fk1,fa1,fn1,fq1,l1,c1,m1,q1,fp1,rfl,hs1,hd1,hx1⟩:=hv1.open;have hq1:w1.cell? ⟨w.heap.size+1+1,8,none⟩=some (.slice cv j qv):=af (al bdr hb1) hv;have hbz:wr.heap.size≤w1.heap.size:=hb1.size;have hl1:w.heap.size+1+1<w1.heap.size:=World.block_lt_of_cell? _ _ hq1)
     | (refine step_append_lies _ (by rfl) (.tmp 38) (.tmp 45) 26 (by rfl) (w.heap.size+1+1+1) 28 i0 _ 9 128 Tryz.underlying26 HI.out Z0.out Z1.out Z2.out rfl (by omega) (.slice cv j qv) j xs (by rfl) (aY HO.out (al (al bdr hb1) aj))
         ⟨w1.heap.size,0,none⟩ 1 1 [.int .i64 k1,.string nm1,.int .i64 u1,.int .i64 tk1,.slice ta1 tn1 tq1,.int .i64 fk1,.slice fa1 fn1 fq1,.int .i64 l1,.slice c1 m1 q1] (by rfl) (by rfl) (World.news_of_block (cs:=#[.int .i64 k1,.string nm1,.int .i64 u1,.int .i64 tk1,.slice ta1 tn1 tq1,.int .i64 fk1,.slice fa1 fn1 fq1,.int .i64 l1,.slice c1 m1 q1]) (t:=28) (fr:=(0,0)) (heap_alloc_new w1 _)) (by simp[Value.oneCell'])
         (by omega) (by unfold maxLen;omega) (by omega) (by simp;omega) _ rfl ?_
        intro gg cap2 w2 hown2 hgrow hat hlt2;have hfar:=cV (al (al bdr hb1) aj) HO.out hgrow;have hq:w2.cell? ⟨w.heap.size+1+1,8,none⟩=some (.slice cv j qv):=(World.cell?_of_block (a:=⟨w.heap.size+1+1,8,none⟩) (hfar (w.heap.size+1+1) (by omega) (by omega))).trans hv;have hqf:w2.frozen? ⟨w.heap.size+1+1,8,none⟩=false:=(World.frozen?_of_block (a:=⟨w.heap.size+1+1,8,none⟩) (hfar (w.heap.size+1+1) (by omega) (by omega))).trans (hF.out _);have HFAR:=zq hfar;have hacc2:=aQ.push HL.out HO.out HS.out HD.out HFP.out hsz (al (al bdr hb1) aj) (Nat.le_refl _) (hs1.move _ _ _ fun b hb=>heap_alloc_old w1 _ (bl.lt _ _ _ hs1 b hb)) hd1 hx1 hown2 hgrow hat;have HACC:=zq hacc2;have HBEL:=zq (bH hbw.out (al (al bdr hb1) aj) HO.out (by omega) hgrow);have hsz2:wr.heap.size≤w2.heap.size:=Nat.le_trans (al (al bdr hb1) aj).size hgrow.size;clear hfar hacc2 hown2 hgrow hat hq1 hs1 hd1 hx1 hv1 hb1))
   all_goals
    go_wp2_with fail
    go_roundw
    case rel=>
     refine⟨j+1,by omega,by go_num,HBEL.out.setCell (by show w.heap.size≤w.heap.size+1+1;omega) _,by simp[World.setCell];omega,(aX ((World.cell?_of_block (a:=⟨w.heap.size,8,none⟩) (HFAR.out w.heap.size (by omega) (by omega))).trans x8) (by simp)),
       (Below.heap_setCell w2 ⟨w.heap.size+1+1,8,none⟩ _ _ (by show w.heap.size+1≠w.heap.size+1+1;omega)).trans ((HFAR.out (w.heap.size+1) (by omega) (by omega)).trans hR.out),
       fun o ho=>(World.cell?_setCell_other w2 _ _ _ (fun e=>by cases e;exact ho rfl)).trans ((World.cell?_of_block (a:=⟨w.heap.size+1+1,o,none⟩) (HFAR.out (w.heap.size+1+1) (by omega) (by omega))).trans (hO.out o ho)),
       fun o=>(cr _ _ _ _).trans ((World.frozen?_of_block (a:=⟨w.heap.size+1+1,o,none⟩) (HFAR.out (w.heap.size+1+1) (by omega) (by omega))).trans (hF.out o)),_,bv hq,?_⟩
     have h:=HACC.out.setCell (p:=⟨w.heap.size+1+1,8,none⟩) (by show w.heap.size+1+1<w.heap.size+1+1+1;omega) (.slice (some ⟨gg,0,none⟩) (j+1) cap2);rw[HTS.out,Tm.rows_eq,List.map_append,←Tm.rows_eq]
     exact h
    case measure=>simp[intOf];omega
  ·have hje:Tm.bares (ts.take j)=Tm.bares ts:=by rw[List.take_of_length_le (by have:=HN.out;omega)]
   rw[hje] at hacc;obtain⟨cv,qv,rfl⟩:=hacc.shape;have HACC:=zq hacc;clear hacc hje;obtain⟨u0',z0⟩:=ZC.out.1;replace z0:=(World.cell?_of_block (a:=⟨w.heap.size+1,0,none⟩) hR.out).trans z0;have y0:=(World.frozen?_of_block (a:=⟨w.heap.size+1,0,none⟩) hR.out).trans (HFZ.out 0);obtain⟨u1',z1⟩:=ZC.out.2.1;replace z1:=(World.cell?_of_block (a:=⟨w.heap.size+1,1,none⟩) hR.out).trans z1;have y1:=(World.frozen?_of_block (a:=⟨w.heap.size+1,1,none⟩) hR.out).trans (HFZ.out 1);obtain⟨u2',z2⟩:=ZC.out.2.2.1;replace z2:=(World.cell?_of_block (a:=⟨w.heap.size+1,2,none⟩) hR.out).trans z2;have y2:=(World.frozen?_of_block (a:=⟨w.heap.size+1,2,none⟩) hR.out).trans (HFZ.out 2);obtain⟨u3',z3⟩:=ZC.out.2.2.2.1;replace z3:=(World.cell?_of_block (a:=⟨w.heap.size+1,3,none⟩) hR.out).trans z3;have y3:=(World.frozen?_of_block (a:=⟨w.heap.size+1,3,none⟩) hR.out).trans (HFZ.out 3);obtain⟨u4',z4⟩:=ZC.out.2.2.2.2.1;replace z4:=(World.cell?_of_block (a:=⟨w.heap.size+1,4,none⟩) hR.out).trans z4;have y4:=(World.frozen?_of_block (a:=⟨w.heap.size+1,4,none⟩) hR.out).trans (HFZ.out 4);obtain⟨u5',z5⟩:=ZC.out.2.2.2.2.2.1;replace z5:=(World.cell?_of_block (a:=⟨w.heap.size+1,5,none⟩) hR.out).trans z5;have y5:=(World.frozen?_of_block (a:=⟨w.heap.size+1,5,none⟩) hR.out).trans (HFZ.out 5);obtain⟨u6',z6⟩:=ZC.out.2.2.2.2.2.2.1;replace z6:=(World.cell?_of_block (a:=⟨w.heap.size+1,6,none⟩) hR.out).trans z6;have y6:=(World.frozen?_of_block (a:=⟨w.heap.size+1,6,none⟩) hR.out).trans (HFZ.out 6);obtain⟨u7',z7⟩:=ZC.out.2.2.2.2.2.2.2.1;replace z7:=(World.cell?_of_block (a:=⟨w.heap.size+1,7,none⟩) hR.out).trans z7;have y7:=(World.frozen?_of_block (a:=⟨w.heap.size+1,7,none⟩) hR.out).trans (HFZ.out 7);obtain⟨u8',z8⟩:=ZC.out.2.2.2.2.2.2.2.2;replace z8:=(World.cell?_of_block (a:=⟨w.heap.size+1,8,none⟩) hR.out).trans z8;have y8:=(World.frozen?_of_block (a:=⟨w.heap.size+1,8,none⟩) hR.out).trans (HFZ.out 8);have g0:=(hO.out 0 (by omega)).trans GC.out.1;have g1:=(hO.out 1 (by omega)).trans GC.out.2.1;have g2:=(hO.out 2 (by omega)).trans GC.out.2.2.1;have g3:=(hO.out 3 (by omega)).trans GC.out.2.2.2.1;have g4:=(hO.out 4 (by omega)).trans GC.out.2.2.2.2.1;have g5:=(hO.out 5 (by omega)).trans GC.out.2.2.2.2.2.1;have g6:=(hO.out 6 (by omega)).trans GC.out.2.2.2.2.2.2.1;have g7:=(hO.out 7 (by omega)).trans GC.out.2.2.2.2.2.2.2;have lz0:=World.block_lt_of_cell? _ _ z0
   go_wp2_with fail
   refine bodyPost_ret (v:=.agg #[.int .i64 5,.string nm,.int .i64 u,.int .i64 1,(.slice c3 0 q3),.int .i64 0,.slice none 0 0,.int .i64 0,.slice cv j qv]) (by simp[results,Tryz.results34,go_sem,z0,z1,z2,z3,z4,z5,z6,z7,z8]) rfl ?_;obtain⟨fp3,ho3,hd3,hx3⟩:=HACC.out.tms;have hnew:b7 (w.heap.size+1+1+1) wr (Tm.mk 5 nm u .any1 .no 0 (Tm.bares ts)) (.agg #[.int .i64 5,.string nm,.int .i64 u,.int .i64 1,(.slice c3 0 q3),.int .i64 0,.slice none 0 0,.int .i64 0,.slice cv j qv]):=
    b7.of (f1:= []) (f2:= []) HRN.out rfl rfl (by unfold Ty.any1 Ty.kids Ty.rows;exact aJ.sl_nil HQ3.out) (by unfold Ty.no Ty.kids Ty.rows;exact aJ.sl_nil (by unfold maxLen;omega)) ho3 (by simpa using hd3) (by simpa using hx3)
   exact⟨_,rfl,b7.mono ((((((((((hnew).setCell (by show w.heap.size+1<w.heap.size+1+1+1;omega) _).setCell (by show w.heap.size+1<w.heap.size+1+1+1;omega) _).setCell (by show w.heap.size+1<w.heap.size+1+1+1;omega) _).setCell (by show w.heap.size+1<w.heap.size+1+1+1;omega) _).setCell (by show w.heap.size+1<w.heap.size+1+1+1;omega) _).setCell (by show w.heap.size+1<w.heap.size+1+1+1;omega) _).setCell (by show w.heap.size+1<w.heap.size+1+1+1;omega) _).setCell (by show w.heap.size+1<w.heap.size+1+1+1;omega) _).setCell (by show w.heap.size+1<w.heap.size+1+1+1;omega) _) (by omega),(((((((((hbw.out).setCell (by show w.heap.size≤w.heap.size+1;omega) _).setCell (by show w.heap.size≤w.heap.size+1;omega) _).setCell (by show w.heap.size≤w.heap.size+1;omega) _).setCell (by show w.heap.size≤w.heap.size+1;omega) _).setCell (by show w.heap.size≤w.heap.size+1;omega) _).setCell (by show w.heap.size≤w.heap.size+1;omega) _).setCell (by show w.heap.size≤w.heap.size+1;omega) _).setCell (by show w.heap.size≤w.heap.size+1;omega) _).setCell (by show w.heap.size≤w.heap.size+1;omega) _⟩
mutual
def Tm.casts:Tm→List Tm
 | .mk k s u t f l ts=>(if k==14 then [.mk k s u t f l ts] else [])++Tm.castss ts
def Tm.castss:List Tm→List Tm
 | []=> []
 | t :: ts=>t.casts++Tm.castss ts
end
theorem Tm.castss_take_succ : ∀(ts:List Tm) (j:Nat) (h:j<ts.length),Tm.castss (ts.take (j+1))=Tm.castss (ts.take j)++ts[j].casts
 | [],_,h=>absurd h (Nat.not_lt_zero _)
 | t :: ts,0,_=>by simp[Tm.castss]
 | t :: ts,j+1,h=>by
  have:=Tm.castss_take_succ ts j (by simpa using h);simp only[List.take_succ_cons,Tm.castss,List.getElem_cons_succ,this,List.append_assoc]
theorem Tm.castss_take_le (ts:List Tm)(j:Nat):(Tm.castss (ts.take j)).length≤(Tm.castss ts).length:=by
 induction ts generalizing j with
 | nil=>simp
 | cons t ts ih=>
  cases j with
  | zero=>simp[Tm.castss]
  | succ j=>have:=ih j;simp only[List.take_succ_cons,Tm.castss,List.length_append];omega
mutual
theorem Tm.casts_len : ∀t:Tm,((t.casts.length:Nat):Int)≤t.size
 | .mk k _ _ t _ _ ts=>by
  unfold Tm.casts Tm.size;have:=Tm.castss_len ts;rw[List.length_append]
  split<;>simp<;>omega
theorem Tm.castss_len : ∀ts:List Tm,(((Tm.castss ts).length:Nat):Int)≤Tm.sizes ts
 | []=>by unfold Tm.castss Tm.sizes;simp
 | t :: ts=>by
  unfold Tm.castss Tm.sizes;have:=Tm.casts_len t;have:=Tm.castss_len ts;rw[List.length_append]
  omega
end
def bz (F:Nat→Prop)(w:World):List (List C)→List Value→Prop
 | [],xs=>xs = []
 | r :: rs,xs=>∃ys xs',xs=ys++xs'∧bE F w r ys∧bz F w rs xs'
theorem bz.move {F G:Nat→Prop}{w w':World}(k:bx F G w w') : ∀(rs:List (List C)) (xs:List Value),bz F w rs xs→bz G w' rs xs
 | [],_,h=>h
 | _ :: rs,_,⟨ys,xs',e,h1,h2⟩=>⟨ys,xs',e,h1.move k _ _,bz.move k rs xs' h2⟩
theorem bz.append {F:Nat→Prop}{w:World} : ∀ {r1 r2:List (List C)} {x1 x2:List Value},bz F w r1 x1→bz F w r2 x2→bz F w (r1++r2) (x1++x2)
 | [],r2,_,x2,h1,h=>by unfold bz at h1;subst h1;exact h
 | r :: r1,r2,_,x2,⟨ys,xs',e1,h1,h2⟩,h=>by
  subst e1
  exact⟨ys,xs'++x2,by simp,h1,bz.append h2 h⟩
theorem aM.one {F:Nat→Prop}{w:World} : ∀ {c:C} {y:Value},aM F w c y→y.oneCell'=true
 | .int _,_,h=>by rw[aM.int_eq h];rfl
 | .str _,_,h=>by rw[(aM.str_eq h).1];rfl
 | .sl _,_,h=>by obtain⟨a,q,h,-⟩:=aM.rows h;rw[h];rfl
theorem bE.one {F:Nat→Prop}{w:World} : ∀ {r:List C} {ys:List Value},bE F w r ys→∀y∈ys,y.oneCell'=true
 | [],_,h,y,hy=>by unfold bE at h;subst h;cases hy
 | c :: cs,_,⟨z,zs,e,h1,h2⟩,y,hy=>by
  subst e
  rcases List.mem_cons.1 hy with rfl | hy
  ·exact h1.one
  ·exact bE.one h2 y hy
theorem bz.one {F:Nat→Prop}{w:World} : ∀ {rs:List (List C)} {ys:List Value},bz F w rs ys→∀y∈ys,y.oneCell'=true
 | [],_,h,y,hy=>by unfold bz at h;subst h;cases hy
 | r :: rs,_,⟨y1,x',e,h1,h2⟩,y,hy=>by
  subst e
  rcases List.mem_append.1 hy with hy | hy
  ·exact h1.one y hy
  ·exact bz.one h2 y hy
def cd (B:Nat)(F:Nat→Prop)(e:TypeId)(size:Nat)(w:World)(v:Value)(n:Nat)(rows:List (List C)):Prop:=
 ∃xs,w.ownsRow B e size v n xs∧rows.length=n∧bz F w rows xs
theorem cd.nil (B:Nat)(F:Nat→Prop)(e:TypeId)(size:Nat)(w:World):cd B F e size w (.slice none 0 0) 0 []:=⟨[],World.ownsRow_nil w B e size,rfl,rfl⟩
theorem cd.shape {B:Nat}{F:Nat→Prop}{e:TypeId}{size n:Nat}{w:World}{v:Value}{rows:List (List C)}(h:cd B F e size w v n rows) : ∃c q,v = .slice c n q:=by
 obtain⟨xs,⟨_,h1⟩,_⟩:=h
 rcases h1 with ⟨rfl,rfl⟩ | ⟨g,cap,cur,rfl,_⟩
 ·exact⟨none,0,rfl⟩
 ·exact⟨_,cap,rfl⟩
theorem cd.mono {B B' n size:Nat}{F:Nat→Prop}{e:TypeId}{w:World}{v:Value}{rows:List (List C)}(h:cd B F e size w v n rows)(hb:B'≤B):cd B' F e size w v n rows:=by
 obtain⟨xs,⟨h0,h1⟩,h2,h3⟩:=h;refine⟨xs,⟨h0,?_⟩,h2,h3⟩
 rcases h1 with h1 | ⟨g,cap,cur,e1,e2,e3⟩
 ·exact .inl h1
 ·exact .inr ⟨g,cap,cur,e1,Nat.le_trans hb e2,e3⟩
theorem cd.pushR {B g cap m:Nat}{F:Nat→Prop}{e:TypeId}{size n:Nat}{W w2:World}{v:Value}{xs ys:List Value}{rows rs:List (List C)}(hl:rows.length=n)(hs:bz F W rows xs)(hrl:rs.length=m)(hr:bz F W rs ys)
  (hF : ∀b,F b→b<B) (hv : ∀g,v.ownBlock=some g→B≤g)
  (hown:w2.ownsRow B e size (.slice (some ⟨g,0,none⟩) (n+m) cap) (n+m) (xs++ys)) (hgrow:W.grownBy w2 v.ownBlock):cd B F e size w2 (.slice (some ⟨g,0,none⟩) (n+m) cap) (n+m) (rows++rs):=by
 have k:bx F F W w2:=⟨hgrow.size,fun _ h _=>h,fun b hb hl=>hgrow.block b hl (fun e=>by have h1:=hF b hb;have h2:=hv b e.symm;omega)⟩
 exact⟨xs++ys,hown,by simp[hl,hrl],bz.append (hs.move k _ _) (hr.move k _ _)⟩
theorem nN {W:World}{B:Nat}{e:TypeId}{cs z:Array Value}{size tp cap:Nat}(hcs:cs.size=size)(hz:z.size=size)(hcap:cap=1+tp % (2 ^ 63-1))(hB:B≤W.heap.size) :
  (World.drew (W.alloc (.cells (cs++Builtin.zeroCells z (cap-1)) e))).ownsRow B e size (.slice (some ⟨W.heap.size,0,none⟩) 1 cap) 1 cs.toList:=by
 have hlt:=Nat.mod_lt tp (show 0<2 ^ 63-1 by omega);refine⟨by simp[hcs],.inr ⟨W.heap.size,cap,cs++Builtin.zeroCells z (cap-1),rfl,hB,?_,by omega,by unfold maxLen;omega,?_,?_⟩⟩
 ·exact heap_alloc_new _ _
 ·rw[Array.size_append,size_zeroCells,hcs,hz]
  obtain⟨k,rfl⟩ : ∃k,cap=1+k:=⟨cap-1,by omega⟩
  simp[Nat.add_mul]
 ·rw[Array.toList_append,Nat.one_mul,←hcs]
  simp
theorem rV (W:World)(o:Obj):W.grownBy (World.drew (W.alloc o)) (Value.ownBlock (.slice none 0 0)):=
 have h:=World.grownBy_alloc W o (Value.ownBlock (.slice none 0 0))
 ⟨h.os,h.tape,h.output,h.size,h.block⟩
theorem aA.srepQ {F:Nat→Prop}{w:World}{t:Tm}{k u tk fk l:Int}{nm:ByteArray}{ta fa c:Option Addr}{tn tq fn fq m q:Nat}(h:aA F w t (.agg #[.int .i64 k,.string nm,.int .i64 u,.int .i64 tk,.slice ta tn tq,.int .i64 fk,.slice fa fn fq,.int .i64 l,.slice c m q])):bE F w t.row [.int .i64 k,.string nm,.int .i64 u,.int .i64 tk,.slice ta tn tq,.int .i64 fk,.slice fa fn fq,.int .i64 l,.slice c m q]:=by
 obtain⟨r1,r2,r3,r4,r5,r6,r7,r8,r9,rn,rm,rq,hty,hsr,hks⟩:=h.parts;obtain⟨s1,e1,p1⟩:=hty;obtain⟨s2,e2,p2⟩:=hsr;simp only[Value.agg.injEq,Array.mk.injEq,List.cons.injEq,and_true,true_and] at e1 e2
 cases t with | mk kk nn uu tt ff ll ts=>
 simp only[Tm.kind,Tm.name,Tm.num,Tm.type,Tm.src,Tm.label,Tm.kids] at *;subst r1 r2 r3 r8;unfold Tm.row;have i1 : ∀n:Int,aM F w (.int n) (.int .i64 n):=fun n=>by unfold aM;rfl
 exact⟨_,_,rfl,i1 _,_,_,rfl,by unfold aM;exact⟨rfl,rn⟩,_,_,rfl,i1 _,_,_,rfl,by rw[r4];exact i1 _,_,_,rfl,by rw[e1.2];exact p1,_,_,rfl,by rw[r6];exact i1 _,_,_,rfl,by rw[e2.2];exact p2,_,_,rfl,i1 _,_,_,rfl,hks,rfl⟩
def nW (F:Nat→Prop)(w:World)(us:List Tm)(e:Ending)(w':World):Prop:=∃v,e = .returned v∧cd w.heap.size F 28 9 w' v us.length (Tm.rows us)∧(us.length=0→v = .slice none 0 0)∧Below w.heap.size w w'
def eZ (F:Nat→Prop)(N0:Nat)(t:Tm):Prop:=∀(_:t.casts.length≤1000000) (y:Value) (w:World),aA F w t y→N0≤w.heap.size→Calls Tryz.prog 17 #[y] w (nW F w t.casts)
theorem castsA (F:Nat→Prop)(N0:Nat)(hF : ∀b,F b→b<N0)(t:Tm)(hk:(t.kind==14)=true)(IH : ∀t'∈t.kids,eZ F N0 t'):eZ F N0 t:=by
 intro hlen y w hy hN0;obtain⟨k,nm,u,tk,ta,tn,tq,fk,fa,fn,fq,l,c,m,q,rfl⟩:=hy.shape;obtain⟨r1,r2,r3,r4,r5,r6,r7,r8,r9,rn,rm,rq,hty,hsr,hks⟩:=hy.parts;have hsr0:=hy.srepQ;obtain⟨i0,hi,hz0,hz1,hz2⟩:=info_parts Tryz.infoTm
 cases t with | mk kk nn uu tt ff ll ts=>
 simp only[Tm.kind,Tm.name,Tm.num,Tm.type,Tm.src,Tm.label,Tm.kids] at *;subst r1 r2 r3 r8;have hl2:(Tm.castss ts).length≤1000000:=by unfold Tm.casts at hlen;rw[List.length_append] at hlen;omega
 have HLEN:=zq hl2;have HN:=zq r9;have IHH:=zq IH;have Z0:=zq hz0;have Z1:=zq hz1;have Z2:=zq hz2;have HI:=zq hi;have HF:=zq hF;have HSR:=zq hsr0;unfold maxLen at rq;unfold nW Tm.casts;clear hl2 IH hy r9 r4 r5 r6 r7 rn hsr hty hlen hz0 hz1 hz2 hi hF hsr0;rw[hk,if_pos rfl];obtain⟨TL,hTL⟩ : ∃x,[Tm.mk k nm u tt ff l ts]++Tm.castss ts=x:=⟨_,rfl⟩
 rw[hTL];have HTL:=zq hTL;clear hTL
 go_enter Tryz.func17,Tryz.ntmps17
 go_wp2_with fail
 have hown3:=nN (W:=(w.alloc (.cells #[.int .i64 k,.string nm,.int .i64 u,.int .i64 tk,.slice ta tn tq,.int .i64 fk,.slice fa fn fq,.int .i64 l,.slice c m q] 28)).alloc (.cells #[.int .i64 k,.string nm,.int .i64 u,.int .i64 tk,.slice ta tn tq,.int .i64 fk,.slice fa fn fq,.int .i64 l,.slice c m q] 28)) (B:=w.heap.size+1) (e:=28) (cs:=#[.int .i64 k,.string nm,.int .i64 u,.int .i64 tk,.slice ta tn tq,.int .i64 fk,.slice fa fn fq,.int .i64 l,.slice c m q]) (z:=#[.int .i64 0,.string {data:=#[]},.int .i64 0,.int .i64 0,.slice none 0 0,.int .i64 0,.slice none 0 0,.int .i64 0,.slice none 0 0]) (size:=9) (cap:=(Question.appendCap 1 0 28).cut (w.tape w.drawn (Question.appendCap 1 0 28))) rfl rfl rfl (by simp);have hgrow:=rV ((w.alloc (.cells #[.int .i64 k,.string nm,.int .i64 u,.int .i64 tk,.slice ta tn tq,.int .i64 fk,.slice fa fn fq,.int .i64 l,.slice c m q] 28)).alloc (.cells #[.int .i64 k,.string nm,.int .i64 u,.int .i64 tk,.slice ta tn tq,.int .i64 fk,.slice fa fn fq,.int .i64 l,.slice c m q] 28)) (.cells (#[.int .i64 k,.string nm,.int .i64 u,.int .i64 tk,.slice ta tn tq,.int .i64 fk,.slice fa fn fq,.int .i64 l,.slice c m q]++Builtin.zeroCells #[.int .i64 0,.string {data:=#[]},.int .i64 0,.int .i64 0,.slice none 0 0,.int .i64 0,.slice none 0 0,.int .i64 0,.slice none 0 0] ((Question.appendCap 1 0 28).cut (w.tape w.drawn (Question.appendCap 1 0 28))-1)) 28);rw[show((w.alloc (.cells #[.int .i64 k,.string nm,.int .i64 u,.int .i64 tk,.slice ta tn tq,.int .i64 fk,.slice fa fn fq,.int .i64 l,.slice c m q] 28)).alloc (.cells #[.int .i64 k,.string nm,.int .i64 u,.int .i64 tk,.slice ta tn tq,.int .i64 fk,.slice fa fn fq,.int .i64 l,.slice c m q] 28)).heap.size=w.heap.size+1+1 by simp] at hown3;generalize (Question.appendCap 1 0 28).cut (w.tape w.drawn (Question.appendCap 1 0 28))=cap2 at *;generalize World.drew (World.alloc ((w.alloc (.cells #[.int .i64 k,.string nm,.int .i64 u,.int .i64 tk,.slice ta tn tq,.int .i64 fk,.slice fa fn fq,.int .i64 l,.slice c m q] 28)).alloc (.cells #[.int .i64 k,.string nm,.int .i64 u,.int .i64 tk,.slice ta tn tq,.int .i64 fk,.slice fa fn fq,.int .i64 l,.slice c m q] 28)) _)=w3 at *;have hacc0:=cd.pushR (F:=F) (W:=(w.alloc (.cells #[.int .i64 k,.string nm,.int .i64 u,.int .i64 tk,.slice ta tn tq,.int .i64 fk,.slice fa fn fq,.int .i64 l,.slice c m q] 28)).alloc (.cells #[.int .i64 k,.string nm,.int .i64 u,.int .i64 tk,.slice ta tn tq,.int .i64 fk,.slice fa fn fq,.int .i64 l,.slice c m q] 28)) (v:=.slice none 0 0) (n:=0) (m:=1) (rows:= []) (xs:= []) (rs:= [(Tm.mk k nm u tt ff l ts).row]) rfl rfl rfl ⟨_,[],by simp,HSR.out.move (bx.below aH) _ _,rfl⟩ (fun b hb=>by have:=HF.out b hb;omega) (fun g e=>by simp[Value.ownBlock] at e) hown3 hgrow
 have hB:Below w.heap.size w w3:=(aH (o:=.cells #[.int .i64 k,.string nm,.int .i64 u,.int .i64 tk,.slice ta tn tq,.int .i64 fk,.slice fa fn fq,.int .i64 l,.slice c m q] 28) (o':=.cells #[.int .i64 k,.string nm,.int .i64 u,.int .i64 tk,.slice ta tn tq,.int .i64 fk,.slice fa fn fq,.int .i64 l,.slice c m q] 28)).grown hgrow aH.size (fun k hk=>by simp[Value.ownBlock] at hk);have c8c:w3.cell? ⟨w.heap.size,8,none⟩=some (.slice c m q):=(World.cell?_of_block (a:=⟨w.heap.size,8,none⟩) (hgrow.block _ (by simp;omega) (by simp[Value.ownBlock]))).trans (af aj (aw 8));have HACC0:=zq hacc0;clear hacc0 hown3 hgrow
 go_loopw [16,3] (fun i p wr=>∃j:Nat,j≤m∧i = .int .i64 j∧(∃nn:Nat,nn=([Tm.mk k nm u tt ff l ts]++Tm.castss (ts.take j)).length∧(nn=0→p = .slice none 0 0)∧cd (w.heap.size+1) F 28 9 wr p nn (Tm.rows ([Tm.mk k nm u tt ff l ts]++Tm.castss (ts.take j))))∧Below w.heap.size w wr) (fun i _ _=>m-(intOf i).toNat)
 case atStart=>exact⟨0,by omega,rfl,⟨1,by simp[Tm.castss],by simp,by simpa [Tm.castss,Tm.rows] using HACC0.out⟩,hB⟩
 case round=>
  obtain⟨j,hj,rfl,⟨nn,hnn,hnil,hacc⟩,hbw⟩:=hrel;have hbz0:=hbw.size
  by_cases hlt:j<m
  ·have hjt:j<ts.length:=by have:=HN.out;omega
   obtain⟨b,off,k0,nm0,u0,tk0,ta0,tn0,tq0,fk0,fa0,fn0,fq0,l0,a0,m0,q0,rfl,lb,e0,e1,e2,e3,e4,e5,e6,e7,e8,ht⟩:=hks.at hbw hjt;have hcall:=fun(W:World) (y:Value) (h:aA F W ts[j] y) (hN:N0≤W.heap.size)=>IHH.out ts[j] (List.getElem_mem hjt) (by have:=Tm.castss_take_le ts (j+1);rw[Tm.castss_take_succ ts j hjt,List.length_append] at this;have:=HLEN.out;omega) y W h hN;have htl:nn+ts[j].casts.length≤1000001:=by
    have h1:=Tm.castss_take_le ts (j+1);rw[Tm.castss_take_succ ts j hjt,List.length_append] at h1;rw[hnn,List.length_append];have:=HLEN.out;have:([Tm.mk k nm u tt ff l ts]:List Tm).length≤1:=by simp
    omega
   have hts:=Tm.castss_take_succ ts j hjt;generalize ts[j].casts=us at hcall htl hts;have HC:=zq hcall;have HTS:=zq hts;have HNN:=zq hnn;have HNIL:=zq hnil;clear hcall hts hnn hnil;obtain⟨cv,qv,rfl⟩:=hacc.shape;have HACC:=zq hacc;clear hacc
   go_wp2_with fail
   refine(HC.out _ _ (ht.below aj) (by simp;omega)).mono ?_;rintro e w1 ⟨v1,rfl,hv1,hv1n,hb1⟩;have hbz:=hb1.size
   simp at hbz
   obtain⟨xs,ho,hl,hs⟩:=HACC.out;obtain⟨xs1,ho1,hl1,hs1⟩:=hv1;have hxl:=ho1.1;obtain⟨ml,hml⟩ : ∃x,us.length=x:=⟨_,rfl⟩
   rw[hml] at htl ho1 hl1 hxl hv1n;have hlt2 : ∀x,(Value.slice cv nn qv).ownBlock=some x→w.heap.size+1≤x:=fun x e=>(ho.lt x e).1;have ho':=aY ho (al aj hb1);have hs':=hs.move (bx.below (al aj hb1)) _ _;have hbel:=fun w2=>bH (w2:=w2) hbw (al aj hb1) ho (by omega);have HML:=zq hml;have HBEL:=zq hbel;have HO:=zq ho';have HS:=zq hs';have HL:=zq hl;have HLT2:=zq hlt2;have HO1:=zq ho1;have HS1:=zq hs1;have HL1:=zq hl1;have HXL:=zq hxl;have hsl:=ho1.2;clear ho hl hs ho1 hl1 hs1 hlt2 ho' hs' hbel hxl hml
   by_cases hm0:ml=0
   ·obtain rfl:=hv1n hm0
    have hus:us = []:=List.eq_nil_of_length_eq_zero (HML.out.trans hm0);have HUS:=zq hus;clear hsl hus hv1n
    go_wp2_with (first | (at_builtin;refine wpList_append_own_none rfl (.tmp 20) (.tmp 22) 26 rfl (w.heap.size+1) 28 i0 9 Tryz.underlying26 HI.out (.slice cv nn qv) nn xs rfl HO.out rfl ?_) | fail)
    go_roundw
    case rel=>exact⟨j+1,by omega,by go_num,⟨nn,by rw[HTS.out,HUS.out,List.append_nil];exact HNN.out,HNIL.out,by rw[HTS.out,HUS.out,List.append_nil];exact⟨xs,HO.out,HL.out,HS.out⟩⟩,al (al hbw aj) hb1⟩
    case measure=>simp[intOf];omega
   ·have hpos:0<ml:=by omega
    rcases hsl with ⟨rfl,h0⟩ | ⟨g1,q1,cur,rfl,hg1,-⟩
    ·exact absurd h0 hm0
    have hcells:=gz HO1.out;have HCE:=zq hcells;have hsz1:w.heap.size+1≤w1.heap.size:=by omega
    clear hcells hv1n
    go_wp2_with (first | (at_builtin;refine wpList_append_lies _ rfl (.tmp 20) (.tmp 22) 26 rfl (w.heap.size+1) 28 i0 _ 9 128 Tryz.underlying26 HI.out Z0.out Z1.out Z2.out rfl (by omega) (.slice cv nn qv) nn xs rfl HO.out ⟨g1,0,none⟩ ml q1 xs1 rfl HXL.out HCE.out HS1.out.one hpos (by unfold maxLen;omega) (by omega) hsz1 _ rfl ?_) | fail)
    intro gg cap2 w2 hown2 hgrow hat hlt3;have hacc2:=cd.pushR HL.out HS.out HL1.out HS1.out (fun b hb=>by have:=HF.out b hb;omega) HLT2.out hown2 hgrow;have HACC2:=zq hacc2;have hbel2:=HBEL.out w2 hgrow;clear hacc2 hown2 hgrow hat
    go_wp2_with fail
    go_roundw
    case rel=>exact⟨j+1,by omega,by go_num,⟨nn+ml,by rw[HTS.out,←List.append_assoc,List.length_append,←HNN.out,HML.out],by omega,by rw[HTS.out,←List.append_assoc,Tm.rows_eq,List.map_append,←Tm.rows_eq,←Tm.rows_eq];exact HACC2.out⟩,hbel2⟩
    case measure=>simp[intOf];omega
  ·have HNN:=zq hnn
   have HNIL:=zq hnil;have HACC:=zq hacc;clear hnn hnil hacc
   go_wp2_with fail
   go_ret
   have e:TL = [Tm.mk k nm u tt ff l ts]++Tm.castss (ts.take j):=HTL.out.symm.trans (by rw[List.take_of_length_le (by have:=HN.out;omega)]);refine⟨_,rfl,?_,?_,hbw⟩
   ·rw[e,←HNN.out];exact HACC.out.mono (by omega)
   ·rw[e,←HNN.out];exact HNIL.out
end Go.Proofs.YtfahhonmiimmdaaGreat
