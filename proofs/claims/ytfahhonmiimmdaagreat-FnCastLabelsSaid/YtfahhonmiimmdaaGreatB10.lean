/- What a law about a result that is a tree needs: what a mark leaves as it was. And what else its parts name. -/
import Derived.Laws.Bits64
import Derived.Test.YtfahhonmiimmdaaGreatB7
set_option linter.unusedSimpArgs false
set_option linter.unusedVariables false
set_option maxRecDepth 100000
set_option maxHeartbeats 16000000
namespace Go.Proofs.YtfahhonmiimmdaaGreat
open Go.RowKit
theorem bT.chg {fp fp':List Nat}{w w':World}{t:Ty}{y:Value}(h:Chg fp w w')(hn : ∀b∈fp',b∉fp)(r:bT w t y fp'):bT w' t y fp':=by
 obtain⟨s,rfl,ho⟩:=r
 exact⟨s,rfl,aF.move _ _ _ (fun b hb=>h.block b (aF.lt _ _ _ ho b hb) (hn b hb)) ho⟩
theorem bT.lt {w:World}{t:Ty}{y:Value}{fp:List Nat}(r:bT w t y fp) : ∀b∈fp,b<w.heap.size:=by
 obtain⟨s,rfl,ho⟩:=r
 exact aF.lt _ _ _ ho
theorem ao.old {F:Nat→Prop}{w:World}{t:Ty}{y:Value}(r:ao F w t y):ao (· < w.heap.size) w t y:=r.move (.weaken fun _ _ h=>h)
theorem bT.ks {w:World}{t:Ty}{y:Value}{fp:List Nat}(r:bT w t y fp) : ∃k a n q,y = .agg #[.int .i64 k,.slice a n q]:=by
 obtain⟨k,a,n,q,rfl,-⟩:=r.shape
 exact⟨k,a,n,q,rfl⟩
theorem xor_bd (a b:Int)(h1:0≤a)(h2:a<9223372036854775808)(h3:0≤b)(h4:b<9223372036854775808):0≤bits .xor .i64 a b∧bits .xor .i64 a b<9223372036854775808:=by
 obtain⟨A,rfl⟩:=Int.eq_ofNat_of_zero_le h1;obtain⟨B,rfl⟩:=Int.eq_ofNat_of_zero_le h3;have hx:A ^^^ B<2 ^ 63:=Nat.xor_lt_two_pow (by omega) (by omega);have e1:(BitVec.ofInt 64 (A:Int)).toNat=A:=by
  rw[BitVec.ofInt_natCast,BitVec.toNat_ofNat];exact Nat.mod_eq_of_lt (by omega)
 have e2:(BitVec.ofInt 64 (B:Int)).toNat=B:=by
  rw[BitVec.ofInt_natCast,BitVec.toNat_ofNat];exact Nat.mod_eq_of_lt (by omega)
 have e:bits .xor .i64 (A:Int) (B:Int)=((A ^^^ B:Nat):Int):=by
  show IntKind.i64.wrap ((BitVec.ofInt 64 (A:Int) ^^^ BitVec.ofInt 64 (B:Int)).toNat:Int)=_
  rw[BitVec.toNat_xor,e1,e2]
  simp[IntKind.wrap,IntKind.bits,IntKind.signed]
  omega
 rw[e]
 omega
def cd (w:World)(r:Nat)(v:Value):Prop:=∃a n cap,v = .slice a n cap∧n≤cap∧cap≤maxLen ∧
 ∀i,i<n→∃b off c,a=some ⟨b,off,none⟩∧b<r∧b<w.heap.size∧w.cell? ⟨b,off+i,none⟩=some (.int .u8 c)∧0≤c∧c<256
theorem cd.keep {w w':World}{r:Nat}{v:Value}(h:cd w r v)(hs:w.heap.size≤w'.heap.size)(k : ∀b,b<w.heap.size→b<r→w'.heap[b]?=w.heap[b]?):cd w' r v:=by
 obtain⟨a,n,cap,h1,h2,h3,h4⟩:=h;refine⟨a,n,cap,h1,h2,h3,fun i hi=>?_⟩;obtain⟨b,off,c,e,hb,hl,hc,c1,c2⟩:=h4 i hi
 exact⟨b,off,c,e,hb,Nat.lt_of_lt_of_le hl hs,(World.cell?_of_block (a:=⟨b,off+i,none⟩) (k b hl hb)).trans hc,c1,c2⟩
def aQ (w:World)(r p:Nat):Prop:=r<w.heap.size∧∃s,w.cell? ⟨r,0,none⟩=some s∧cd w r s∧w.cell? ⟨r,1,none⟩=some (.int .i64 (p:Int))∧w.frozen? ⟨r,1,none⟩=false
theorem aQ.below {w w':World}{r p:Nat}(h:aQ w r p)(k:Below w.heap.size w w'):aQ w' r p:=by
 obtain⟨hl,s,h1,h2,h3,h4⟩:=h
 exact⟨Nat.lt_of_lt_of_le hl k.size,s,ah k h1,h2.keep k.size (fun b hb _=>k.block b hb),ah k h3,cC k hl h4⟩
theorem aQ.keep {w w':World}{r p:Nat}(h:aQ w r p)(hs:w.heap.size≤w'.heap.size)(k : ∀b,b≤r→w'.heap[b]?=w.heap[b]?):aQ w' r p:=by
 obtain⟨hl,s,h1,h2,h3,h4⟩:=h
 exact⟨Nat.lt_of_lt_of_le hl hs,s,(World.cell?_of_block (a:=⟨r,0,none⟩) (k r (Nat.le_refl _))).trans h1,h2.keep hs (fun b _ hb=>k b (Nat.le_of_lt hb)),(World.cell?_of_block (a:=⟨r,1,none⟩) (k r (Nat.le_refl _))).trans h3,(World.frozen?_of_block (a:=⟨r,1,none⟩) (k r (Nat.le_refl _))).trans h4⟩
theorem aQ.setCell {w:World}{r p:Nat}(h:aQ w r p){a:Addr}(ha:r<a.block)(v:Value):aQ (w.setCell a v) r p:=
 h.keep (by simp[World.setCell]) (fun b hb=>Below.heap_setCell w a v b (by omega))
def oT (r p:Nat)(n:Int)(w:World)(e:Ending)(w':World):Prop:=∃k:Int,e = .returned (.int .i64 k)∧0≤k∧(k<n∨k=0)∧aQ w' r (p+1)∧Chg [r] w w'
theorem vp {r p:Nat}{w w1:World}{n k:Int}{s:Value}(hl:r<w.heap.size)(h0:w.cell? ⟨r,0,none⟩=some s)(hby:cd w r s)(h1:w.cell? ⟨r,1,none⟩=some (.int .i64 (p:Int)))(hf:w.frozen? ⟨r,1,none⟩=false)
  (hk:0≤k) (hkn:k<n∨k=0) (hw:Below w.heap.size (w.setCell ⟨r,1,none⟩ (.int .i64 ((p:Int)+1))) w1):oT r p n w (.returned (.int .i64 k)) w1:=by
 have hs:(w.setCell ⟨r,1,none⟩ (.int .i64 ((p:Int)+1))).heap.size=w.heap.size:=by simp[World.setCell]
 have hw':Below (w.setCell ⟨r,1,none⟩ (.int .i64 ((p:Int)+1))).heap.size (w.setCell ⟨r,1,none⟩ (.int .i64 ((p:Int)+1))) w1:=by rw[hs];exact hw
 have hb:cd (w.setCell ⟨r,1,none⟩ (.int .i64 ((p:Int)+1))) r s:=hby.keep (by rw[hs];exact Nat.le_refl _) (fun b _ hb=>Below.heap_setCell w ⟨r,1,none⟩ _ b (Nat.ne_of_lt hb));refine⟨k,rfl,hk,hkn,aQ.below ⟨by rw[hs];exact hl,s,cA h0 (by simp),hb,by have:=bE (v:=.int .i64 ((p:Int)+1)) h1;rw[this];simp,eN hf⟩ hw',?_⟩
 exact((Chg.refl _ _).setCell (p:=⟨r,1,none⟩) (by simp) _).trans (Chg.of_below hw')
theorem bo (r p:Nat)(n:Int)(w:World)(h:aQ w r p)(hp:p≤1125899906842624)(hn:n≤1125899906842624) :
  Calls Tryz.prog 26 #[.pointer (some ⟨r,0,none⟩),.int .i64 n] w (oT r p n w):=by
 obtain⟨hl,s,h0,hby,h1,hf⟩:=h;have HEND:=zq (fun(k:Int) (w1:World)=>vp (r:=r) (p:=p) (w:=w) (w1:=w1) (n:=n) (k:=k) hl h0 hby h1 hf);obtain⟨a,m,cap,rfl,hm,hcap,hg⟩:=hby;unfold maxLen at hcap;have HG:=zq hg;clear hg
 by_cases hn1:n<1
 ·go_enter Tryz.func26,Tryz.ntmps26
  go_wp2_with fail
  go_ret
  exact HEND.out _ _ (Int.le_refl _) (.inr rfl) (Below.refl _ _)
 ·by_cases hm0:m=0
  ·have hnb:decide (n<1)=false:=by simpa using hn1
   have hmb:((m:Int)==0)=true:=by simp[hm0]
   clear hm0
   go_enter Tryz.func26,Tryz.ntmps26
   go_wp2_with fail
   go_ret
   exact HEND.out _ _ (Int.le_refl _) (.inr rfl) (Below.refl _ _)
  ·have hm1:0<m:=by omega
   have hm1':(0:Int)<(m:Int):=by omega
   have hmb:((m:Int)==0)=false:=by simp;omega
   have hnb:decide (n<1)=false:=by simpa using hn1
   have hn0:(0:Int)<n:=by omega
   by_cases hpm:p<m
   ·obtain⟨b,off,c2,rfl,hbr0,hbl,hc2,c02,c12⟩:=HG.out p hpm
    have hbr:b≠r:=Nat.ne_of_lt hbr0;have hrb:r≠b:=fun e=>hbr e.symm
    go_enter Tryz.func26,Tryz.ntmps26
    go_wp2_with fail
    go_ret
    exact HEND.out _ _ (Int.emod_nonneg _ (by omega)) (.inl (Int.emod_lt_of_pos _ hn0)) (Below.refl _ _)
   ·obtain⟨i,hi⟩ : ∃i,p % m=i:=⟨_,rfl⟩
    obtain⟨j,hj⟩ : ∃j,(p*7+3) % m=j:=⟨_,rfl⟩
    obtain⟨d,hd⟩ : ∃d,p / m=d:=⟨_,rfl⟩
    have him:i<m:=hi▸Nat.mod_lt _ hm1;have hjm:j<m:=hj▸Nat.mod_lt _ hm1;have hdp:d≤p:=hd▸Nat.div_le_self _ _;obtain⟨b,off,c,rfl,hbr0,hbl,hc,c0,c1⟩:=HG.out i him;have hbr:b≠r:=Nat.ne_of_lt hbr0;obtain⟨b',off',c',he,hbr',hbl',hc',c0',c1'⟩:=HG.out j hjm;simp only[Option.some.injEq,Addr.mk.injEq,and_true] at he;obtain⟨rfl,rfl⟩:=he;have t1:((p:Int)).tmod (m:Int)=(i:Int):=by rw[←hi,Int.tmod_eq_emod_of_nonneg (by omega)];exact(Int.natCast_emod p m).symm
    have t4:((p:Int)*7+3).tmod (m:Int)=(j:Int):=by rw[←hj,Int.tmod_eq_emod_of_nonneg (by omega)];rw[Int.natCast_emod];simp
    have t5:((p:Int)).tdiv (m:Int)=(d:Int):=by rw[←hd,Int.tdiv_eq_ediv_of_nonneg (by omega)];exact(Int.natCast_ediv p m).symm
    have t2:IntKind.i64.wrap ((p:Int)*7)=(p:Int)*7:=IntWalk.i64_in _ (by omega);have t3:IntKind.i64.wrap ((p:Int)*7+3)=(p:Int)*7+3:=IntWalk.i64_in _ (by omega);have u1:IntKind.i64.wrap (c*131)=c*131:=IntWalk.i64_in _ (by omega);have u2:IntKind.i64.wrap (c'*1117)=c'*1117:=IntWalk.i64_in _ (by omega);have u3:IntKind.i64.wrap (c*131+c'*1117)=c*131+c'*1117:=IntWalk.i64_in _ (by omega);have u4:IntKind.i64.wrap ((p:Int)*29)=(p:Int)*29:=IntWalk.i64_in _ (by omega);have u5:IntKind.i64.wrap (c*131+c'*1117+(p:Int)*29)=c*131+c'*1117+(p:Int)*29:=IntWalk.i64_in _ (by omega);have u6:IntKind.i64.wrap ((d:Int)*53)=(d:Int)*53:=IntWalk.i64_in _ (by omega);have u7:IntKind.i64.wrap (c*131+c'*1117+(p:Int)*29+(d:Int)*53)=c*131+c'*1117+(p:Int)*29+(d:Int)*53:=IntWalk.i64_in _ (by omega);clear hi hj hd
    go_enter Tryz.func26,Tryz.ntmps26
    go_wp2_with fail
    go_region_held3 (fun w'=>w'.cell? ⟨r,0,none⟩=some (.slice (some ⟨b,off,none⟩) m cap)∧w'.cell? ⟨b,off+i,none⟩=some (.int .u8 c)∧w'.cell? ⟨b,off+j,none⟩=some (.int .u8 c'))
     (exact⟨av (cA h0 (by simp)),av (b8 hc hbr),av (b8 hc' hbr)⟩)
     (fail)
    clear t1 t2 t3 t4 t5 u1 u2 u3 u4 u5 u6 u7;obtain⟨X,hX⟩ : ∃X:Int,c*131+c'*1117+(p:Int)*29+(d:Int)*53=X:=⟨_,rfl⟩
    have hX0:0≤X:=by omega
    have hX1:X<9223372036854775808:=by omega
    obtain⟨x0,x1⟩:=xor_bd X (X / 64) hX0 hX1 (by omega) (by omega);have HX:=zq hX;clear hX
    go_wp2_with fail
    go_ret
    refine HEND.out _ _ ?_ ?_ (Below.refl _ _).drew
    ·rw[HX.out]
     exact Int.tmod_nonneg _ x0
    ·rw[HX.out,Int.tmod_eq_emod_of_nonneg x0]
     exact .inl (Int.emod_lt_of_pos _ hn0)
theorem Chg.grown {r:Nat}{w w':World}(h:Chg [r] w w'):w.grownBy w' (some r):=⟨h.os,h.tape,h.output,h.size,fun k hk hn=>h.block k hk (fun hm=>hn (by simpa using hm))⟩
theorem bZ {r B:Nat}{e:TypeId}{size n:Nat}{w w':World}{v:Value}{xs:List Value}(h:w.ownsRow B e size v n xs)(k:Chg [r] w w')(hr:r<B):w'.ownsRow B e size v n xs:=
 h.kept (row:=some r) k.grown (by
   cases hv:v.ownBlock with
   | none=>exact .inl rfl
   | some g=>exact .inr (fun e=>by have:=(h.lt g hv).1;simp at e;omega))
theorem dQ {r B:Nat}{e:TypeId}{size n:Nat}{wr W w2:World}{v:Value}{xs:List Value}(hb:Chg [r] wr W)(ho:wr.ownsRow B e size v n xs)(hg:W.grownBy w2 v.ownBlock)(b:Nat)(hl:b<wr.heap.size)(hB:b<B)(hn:b≠r):w2.heap[b]?=wr.heap[b]?:=
 (hg.block b (Nat.lt_of_lt_of_le hl hb.size) (fun e=>by have:=(ho.lt b e.symm).1;omega)).trans (hb.block b hl (by simpa using hn))
theorem dC {r B:Nat}{e:TypeId}{size n:Nat}{w0 wr W w2:World}{v:Value}{xs:List Value}(h0:Chg [r] w0 wr)(hb:Chg [r] wr W)(ho:wr.ownsRow B e size v n xs)(hB:w0.heap.size≤B)(hg:W.grownBy w2 v.ownBlock):Chg [r] w0 w2:=by
 have h:=h0.trans hb
 exact⟨hg.os.trans h.os,hg.tape.trans h.tape,hg.output.trans h.output,Nat.le_trans h.size hg.size,fun k hk hn=>(hg.block k (Nat.lt_of_lt_of_le hk h.size) (fun e=>by have:=(ho.lt k e.symm).1;omega)).trans (h.block k hk hn)⟩
theorem aL.pushC {r B g cap:Nat}{e:TypeId}{size n:Nat}{wr W0 W w2:World}{v:Value}{xs ys:List Value}{fps f:List Nat}{rows:List (List C)}{rw':List C}(hl:rows.length=n)(ho:wr.ownsRow B e size v n xs)(hs:b5 wr rows xs fps)(hd:fps.Nodup)
  (hfp : ∀x∈fps,B≤x∧v.ownBlock≠some x) (hB:B≤wr.heap.size) (hrB:r<B) (hb:Chg [r] wr W) (h0:wr.heap.size≤W0.heap.size) (hr:bf W rw' ys f) (hdf:f.Nodup) (hxf : ∀x∈f,W0.heap.size≤x)
  (hown:w2.ownsRow B e size (.slice (some ⟨g,0,none⟩) (n+1) cap) (n+1) (xs++ys)) (hgrow:W.grownBy w2 v.ownBlock) (hat:v.ownBlock=some g∨g=W.heap.size):aL B e size w2 (.slice (some ⟨g,0,none⟩) (n+1) cap) (n+1) (rows ++ [rw']):=by
 have hlt : ∀x∈fps,x<wr.heap.size:=fun x hx=>b5.lt _ _ _ hs x hx;refine aL.append (w:=W) hl (hs.move _ _ _ fun b hx=>hb.block b (hlt b hx) (by have:=(hfp b hx).1;simp;omega)) hd hfp hr hdf (fun x hx=>?_) hown hgrow hat rfl;have h1:=hxf x hx;refine⟨by omega,fun e=>by have:=(ho.lt x e).2;omega,fun e=>by have:=hlt x e;omega⟩
theorem aQ.grown {B r p:Nat}{e:TypeId}{size n:Nat}{wr W w2:World}{v:Value}{xs:List Value}(h:aQ W r p)(ho:wr.ownsRow B e size v n xs)(hr:r<B)(hg:W.grownBy w2 v.ownBlock):aQ w2 r p:=
 h.keep hg.size (fun b hb=>hg.block b (Nat.lt_of_le_of_lt hb h.1) (fun e=>by have:=(ho.lt b e.symm).1;omega))
def NumPost (r p:Nat)(Q:Int→Prop)(w:World)(e:Ending)(w':World):Prop:=∃k:Int,e = .returned (.int .i64 k)∧Q k∧aQ w' r (p+1)∧Chg [r] w w'
theorem bJ (Q:Int→Prop)(r p b n cap:Nat)(w:World)(h:aQ w r p)(hp:p≤1125899906842623)(hn0:0<n)(hn:n≤1048576)(hcap:n≤cap)(hbr:r<b)
  (hc : ∀i,i<n→∃x,w.cell? ⟨b,i,none⟩=some (.int .i64 x)∧Q x) :
  Calls Tryz.prog 46 #[.pointer (some ⟨r,0,none⟩),.slice (some ⟨b,0,none⟩) n cap] w (NumPost r p Q w):=by
 have H:=zq (bo r p (n:Int) w h (by omega) (by omega));have HC:=zq hc;clear hc
 go_enter Tryz.func46,Tryz.ntmps46
 go_wp2_with fail
 refine H.out.mono ?_;rintro e w1 ⟨k,rfl,k0,hk,hrd,hch⟩;obtain⟨q,rfl⟩:=Int.eq_ofNat_of_zero_le k0;have hqn:q<n:=by omega
 obtain⟨x,hx,hq⟩:=HC.out q hqn;have hx1:=hch.cellne (by show b≠r;omega) hx;have hqi:(0:Int)≤(q:Int):=by omega
 have hqj:(q:Int)<(n:Int):=by omega
 clear hk k0 hx
 go_wp2_with fail
 go_ret
 exact⟨x,rfl,hq,hrd,hch⟩
def OfPost (r p:Nat)(Q:ByteArray→Prop)(w:World)(e:Ending)(w':World):Prop:=∃k:ByteArray,e = .returned (.string k)∧Q k∧aQ w' r (p+1)∧Chg [r] w w'
theorem td (Q:ByteArray→Prop)(r p b n cap:Nat)(w:World)(h:aQ w r p)(hp:p≤1125899906842623)(hn0:0<n)(hn:n≤1048576)(hcap:n≤cap)(hbr:r<b)
  (hc : ∀i,i<n→∃x,w.cell? ⟨b,i,none⟩=some (.string x)∧Q x) :
  Calls Tryz.prog 47 #[.pointer (some ⟨r,0,none⟩),.slice (some ⟨b,0,none⟩) n cap] w (OfPost r p Q w):=by
 have H:=zq (bo r p (n:Int) w h (by omega) (by omega));have HC:=zq hc;clear hc
 go_enter Tryz.func47,Tryz.ntmps47
 go_wp2_with fail
 refine H.out.mono ?_;rintro e w1 ⟨k,rfl,k0,hk,hrd,hch⟩;obtain⟨q,rfl⟩:=Int.eq_ofNat_of_zero_le k0;have hqn:q<n:=by omega
 obtain⟨x,hx,hq⟩:=HC.out q hqn;have hx1:=hch.cellne (by show b≠r;omega) hx;have hqi:(0:Int)≤(q:Int):=by omega
 have hqj:(q:Int)<(n:Int):=by omega
 clear hk k0 hx
 go_wp2_with fail
 go_ret
 exact⟨x,rfl,hq,hrd,hch⟩
theorem ao.ne {B r:Nat}{w:World}{t:Ty}{y:Value}(h:ao (B ≤ ·) w t y)(hr:r<B):ao (· ≠ r) w t y:=h.move (.weaken fun b hb _=>by omega)
theorem ao.setCell {B:Nat}{w:World}{t:Ty}{y:Value}(h:ao (B ≤ ·) w t y){p:Addr}(hp:p.block<B)(v:Value):ao (B ≤ ·) (w.setCell p v) t y:=
 h.move ⟨by simp[World.setCell],fun _ h _=>h,fun b hb _=>Below.heap_setCell w p v b (by omega)⟩
theorem ao.lower {B B':Nat}{w:World}{t:Ty}{y:Value}(h:ao (B ≤ ·) w t y)(hB:B'≤B):ao (B' ≤ ·) w t y:=h.move (.weaken fun b hb _=>Nat.le_trans hB hb)
theorem cd.below {w w':World}{r:Nat}{v:Value}(h:cd w r v)(k:Below w.heap.size w w'):cd w' r v:=h.keep k.size fun b hb _=>k.block b hb
theorem cd.up {w:World}{r r':Nat}{v:Value}(h:cd w r v)(hr:r≤r'):cd w r' v:=by
 obtain⟨a,n,cap,h1,h2,h3,h4⟩:=h;refine⟨a,n,cap,h1,h2,h3,fun i hi=>?_⟩;obtain⟨b,off,c,e,hb,hr⟩:=h4 i hi
 exact⟨b,off,c,e,by omega,hr⟩
theorem cd.shape {w:World}{r:Nat}{v:Value}(h:cd w r v) : ∃a n cap,v = .slice a n cap:=let ⟨a,n,cap,h1,_⟩:=h;⟨a,n,cap,h1⟩
def li (r p c m:Nat)(w:World)(e:Ending)(w':World):Prop:=∃(t:Ty) (v:Value) (q:Nat),e = .returned v∧t.cnt+2≤m∧bh w.heap.size w' t v∧q≤p+c∧aQ w' r q∧Chg [r] w w'
theorem li.mono {r p c c' m m':Nat}{w w':World}{e:Ending}(h:li r p c m w e w')(hc:c≤c')(hm:m≤m'):li r p c' m' w e w':=
 let ⟨s,v,q,h1,h2,h3,h4,h5,h6⟩:=h;⟨s,v,q,h1,by omega,h3,by omega,h5,h6⟩
def DT (r p m:Nat)(w:World)(e:Ending)(w':World):Prop:=∃(t:Ty) (v:Value) (q:Nat),e = .returned v∧t.cnt≤m∧ao (w.heap.size ≤ ·) w' t v∧q≤p+200∧aQ w' r q∧Chg [r] w w'
def uX (w:World)(e:Ending)(w':World):Prop:=∃rb,e = .returned (.pointer (some ⟨rb,0,none⟩))∧w.heap.size≤rb∧aQ w' rb 0∧Below w.heap.size w w'
theorem bp {X:World}{B:Nat}(xs:List Int){T:TypeId}(hB:X.heap.size=B)(Q:Int→Prop)(hQ : ∀x∈xs,Q x)(i:Nat)(hi:i<xs.length) :
  ∃x,(X.alloc (.cells (xs.map (Value.int .i64)).toArray T)).cell? ⟨B,i,none⟩=some (.int .i64 x)∧Q x:=by
 refine⟨xs[i],?_,hQ _ (List.getElem_mem hi)⟩;rw[ap hB]
 simp[hi]
theorem Ty.cnts_append : ∀(ts us:List Ty),Ty.cnts (ts++us)=Ty.cnts ts+Ty.cnts us
 | [],us=>by simp[Ty.cnts]
 | t :: ts,us=>by simp[Ty.cnts,Ty.cnts_append ts us];omega
mutual
def Ty.join:Ty→Ty→Ty
 | .mk k ts,.mk l us=>if k=l then .mk k (Ty.joins ts us) else .mk 1 []
def Ty.joins:List Ty→List Ty→List Ty
 | t :: ts,u :: us=>t.join u :: Ty.joins ts us
 | _,_=> []
end
theorem ic {α β γ:Type}(f:α→β→γ) : ∀(xs:List α) (ys:List β) (j:Nat) (h:j<xs.length) (h':j<ys.length),List.zipWith f (xs.take (j+1)) (ys.take (j+1))=List.zipWith f (xs.take j) (ys.take j) ++ [f xs[j] ys[j]]
 | [],_,_,h,_=>by simp at h
 | _ :: _,[],_,_,h=>by simp at h
 | x :: xs,y :: ys,0,_,_=>by simp
 | x :: xs,y :: ys,j+1,h,h'=>by simp only[List.take_succ_cons,List.zipWith_cons_cons,List.cons_append,List.getElem_cons_succ];rw[ic f xs ys j (by simpa using h) (by simpa using h')]
theorem ao.all {F:Nat→Prop}{w:World}{t:Ty}{y:Value}(h:ao F w t y):ao (fun _=>True) w t y:=h.move (.weaken fun _ _ _=>trivial)
theorem ao.zero {F:Nat→Prop}{w:World}:ao F w Ty.none (.agg #[.int .i64 0,.slice none 0 0]):=by
 refine⟨_,rfl,?_⟩;unfold aA Ty.none Ty.kids Ty.rows aH
 exact⟨none,0,rfl,Nat.le_refl _,by unfold maxLen;omega,.inl rfl⟩
def bK (B:Nat)(w:World)(t u:Ty)(y z:Value):Prop:=∃f g,bT w t y f∧bT w u z g∧(f++g).Nodup∧∀b∈f++g,B≤b
theorem bT.setCell {w:World}{t:Ty}{y:Value}{f:List Nat}(h:bT w t y f){p:Addr}(hp : ∀b∈f,b≠p.block)(v:Value):bT (w.setCell p v) t y f:=by
 obtain⟨s,hs,h1⟩:=h
 exact⟨s,hs,aF.move _ _ _ (fun b hb=>Below.heap_setCell w p v b (hp b hb)) h1⟩
theorem bK.below {B:Nat}{w w':World}{t u:Ty}{y z:Value}(h:bK B w t u y z)(k:Below w.heap.size w w'):bK B w' t u y z:=
 let ⟨f,g,h1,h2,h3,h4⟩:=h;⟨f,g,h1.below k,h2.below k,h3,h4⟩
theorem bK.setCell {B:Nat}{w:World}{t u:Ty}{y z:Value}(h:bK B w t u y z){p:Addr}(hp:p.block<B)(v:Value):bK B (w.setCell p v) t u y z:=by
 obtain⟨f,g,h1,h2,h3,h4⟩:=h
 exact⟨f,g,h1.setCell (fun b hb e=>by have:=h4 b (by simp[hb]);omega) v,h2.setCell (fun b hb e=>by have:=h4 b (by simp[hb]);omega) v,h3,h4⟩
theorem bK.mono {B B':Nat}{w:World}{t u:Ty}{y z:Value}(h:bK B w t u y z)(hB:B'≤B):bK B' w t u y z:=
 let ⟨f,g,h1,h2,h3,h4⟩:=h;⟨f,g,h1,h2,h3,fun b hb=>Nat.le_trans hB (h4 b hb)⟩
theorem bK.zero {B:Nat}{w:World}:bK B w Ty.none Ty.none (.agg #[.int .i64 0,.slice none 0 0]) (.agg #[.int .i64 0,.slice none 0 0]):=by
 refine⟨[],[],⟨_,rfl,?_⟩,⟨_,rfl,?_⟩,List.nodup_nil,by simp⟩<;>exact aF.sl_nil (by unfold maxLen;omega)
theorem bK.shape {B:Nat}{w:World}{t u:Ty}{y z:Value}(h:bK B w t u y z) : ∃k a n q l c m r,y = .agg #[.int .i64 k,.slice a n q]∧z = .agg #[.int .i64 l,.slice c m r]:=by
 obtain⟨f,g,h1,h2,-,-⟩:=h;obtain⟨k,a,n,q,rfl,-⟩:=h1.shape;obtain⟨l,c,m,r,rfl,-⟩:=h2.shape
 exact⟨k,a,n,q,l,c,m,r,rfl,rfl⟩
theorem bK.mk {B:Nat}{w1 w2:World}{t u:Ty}{y z:Value}(h1:bh B w1 t y)(hB:B≤w1.heap.size)(hb:Below w1.heap.size w1 w2)(h2:bh w1.heap.size w2 u z):bK B w2 t u y z:=by
 obtain⟨f,o1,d1,l1⟩:=h1;obtain⟨g,o2,d2,l2⟩:=h2;have hl : ∀b∈f,b<w1.heap.size:=by
  obtain⟨s,rfl,h⟩:=o1
  exact aF.lt _ _ _ h
 refine⟨f,g,o1.below hb,o2,List.nodup_append.2 ⟨d1,d2,fun x hx y hy e=>by have:=hl x hx;have:=l2 y hy;omega⟩,fun b hb=>?_⟩
 rcases List.mem_append.1 hb with hb | hb
 ·exact l1 b hb
 ·have:=l2 b hb;omega
def jO (t u:Ty)(b:Bool)(w:World)(e:Ending)(w':World):Prop:=∃y z,e = .returned (.tuple #[y,z,.bool b])∧bK w.heap.size w' t u y z∧Below w.heap.size w w'
theorem aA.two {F:Nat→Prop}{w:World}{t u:Ty}{y:Value}(h:aA F w [t,u] y) :
  ∃b off cap k1 c1 m1 q1 k2 c2 m2 q2,y = .slice (some ⟨b,off,none⟩) 2 cap∧2≤cap∧cap≤maxLen∧b<w.heap.size ∧
   w.cell? ⟨b,off,none⟩=some (.int .i64 k1)∧w.cell? ⟨b,off+1,none⟩=some (.slice c1 m1 q1)∧w.cell? ⟨b,off+2,none⟩=some (.int .i64 k2)∧w.cell? ⟨b,off+3,none⟩=some (.slice c2 m2 q2) ∧
   ao F w t (.agg #[.int .i64 k1,.slice c1 m1 q1])∧ao F w u (.agg #[.int .i64 k2,.slice c2 m2 q2]):=by
 obtain⟨a,cap,rfl,h2,h3,hg⟩:=h.open;obtain⟨b,off,k1,c1,m1,q1,rfl,e0,e1,ht⟩:=hg 0 (by simp);obtain⟨b',off',k2,c2,m2,q2,he,e2,e3,hu⟩:=hg 1 (by simp);simp only[Option.some.injEq,Addr.mk.injEq,and_true] at he;obtain⟨rfl,rfl⟩:=he
 exact⟨b,off,cap,k1,c1,m1,q1,k2,c2,m2,q2,rfl,by simpa using h2,h3,World.block_lt_of_cell? w _ e0,by simpa using e0,by simpa using e1,by simpa using e2,by simpa using e3,ht,hu⟩
def S.mat (k:Int):S→S × S × Bool
 | .any=>(.any,.any,true)
 | .fn a b=>if k=4 then (a,b,true) else (.zero,.zero,false)
 | .pr a b=>if k=5 then (a,b,true) else (.zero,.zero,false)
 | _=>(.zero,.zero,false)
theorem i4 (d:Nat) : ∀(r p:Nat) (w:World),1≤d→d≤8→aQ w r p→p+2 ^ d≤1125899906842000 →
  Calls Tryz.prog 52 #[.pointer (some ⟨r,0,none⟩),.int .i64 (d:Int)] w (li r p (2 ^ d-1) (2 ^ d) w):=by
 intro r p w hd1 hd8 hrd0 hp;have IH:2≤d→∀(p:Nat) (W:World),aQ W r p→p+2 ^ (d-1)≤1125899906842000→Calls Tryz.prog 52 #[.pointer (some ⟨r,0,none⟩),.int .i64 ((d:Int)-1)] W (li r p (2 ^ (d-1)-1) (2 ^ (d-1)) W):=by
  intro h2 p W a b;have h:=i4 (d-1) r p W (by omega) (by omega) a b;rw[show((d-1:Nat):Int)=(d:Int)-1 from by omega] at h
  exact h
 have hpw:2≤d→2 ^ d=2*2 ^ (d-1):=fun h=>by
  obtain⟨e,rfl⟩ : ∃e,d=e+1:=⟨d-1,by omega⟩
  simp[Nat.pow_succ];omega
 have hp1:1≤2 ^ (d-1):=Nat.one_le_two_pow;have hp2:2≤2 ^ d:=by have:2 ^ 1≤2 ^ d:=Nat.pow_le_pow_right (by omega) hd1;omega
 have hp8:2 ^ (d-1)≤128:=by have:2 ^ (d-1)≤2 ^ 7:=Nat.pow_le_pow_right (by omega) (by omega);omega
 generalize 2 ^ (d-1)=m at *;generalize 2 ^ d=M at *;obtain⟨c,rfl⟩ : ∃c,m=c+1:=⟨m-1,by omega⟩
 have IHH:=zq IH;have HPW:=zq hpw;clear IH hpw;obtain⟨i0,hi,hz0,hz1,hz2⟩:=info_parts Tryz.infoTy;have Z0:=zq hz0;have Z1:=zq hz1;have Z2:=zq hz2;have HI:=zq hi;clear hz0 hz1 hz2 hi;have hrl0:=hrd0.1
 go_enter Tryz.func52,Tryz.ntmps52
 go_wp2_with fail
 refine(bJ (fun k=>1≤k∧k≤5) r p _ 7 7 _ (hrd0.below aT) (by omega) (by omega) (by omega) (Nat.le_refl _) (by omega) (bp [2,1,4,3,5,2,4] (by simp) _ (by decide))).mono ?_;rintro e w1 ⟨k,rfl,⟨k1,k5⟩,hrd1,hch1⟩;have hw1:w.heap.size+2≤w1.heap.size:=by have:=hch1.size;simp at this;omega
 have hch0:Chg [r] w w1:=(Chg.of_below aT).trans hch1;have x0:w1.cell? ⟨w.heap.size,0,none⟩=some (.int .i64 0):=hch1.cellne (by show w.heap.size≠r;omega) (ah ai (az 0));have x1:w1.cell? ⟨w.heap.size,1,none⟩=some (.slice none 0 0):=hch1.cellne (by show w.heap.size≠r;omega) (ah ai (az 1));have xf : ∀o,w1.frozen? ⟨w.heap.size,o,none⟩=false:=fun o=>(hch1.frone (by omega) (by simp;omega)).trans (cC ai (by simp) (aV o));have HXF:=zq xf;clear xf
 by_cases hA:d<2∧4≤k
 ·have hc1:decide ((d:Int)<2)=true:=by simp;omega
  have hc2:decide (k≥4)=true:=by simp;omega
  have HTK:=zq (show bx 1=((0:Nat):Int) by rfl);have HCAP:=zq (show(0:Nat)≤2 by omega)
  go_wp2_with fail
  go_loopw [7] (fun i wr=>∃j:Nat,j≤0∧i = .int .i64 j∧Chg [r] w wr∧w1.heap.size<wr.heap.size∧(∃u,wr.cell? ⟨w.heap.size,0,none⟩=some u)∧(∃u,wr.cell? ⟨w.heap.size,1,none⟩=some u) ∧
      (∀o,wr.frozen? ⟨w.heap.size,o,none⟩=false)∧(∀o,wr.frozen? ⟨w1.heap.size,o,none⟩=false)∧wr.cell? ⟨w1.heap.size,0,none⟩=some (.int .i64 1) ∧
      ∃(ts:List Ty) (q:Nat),ts.length=j∧Hid (Ty.cnts ts+2*j≤j*(c+1))∧q≤p+1+j*c∧aQ wr r q∧∃v,wr.cell? ⟨w1.heap.size,1,none⟩=some v∧aL (w1.heap.size+1) 25 2 wr v j (Ty.rows ts)) (fun i _=>0-(intOf i).toNat)
  case atStart=>exact⟨0,by omega,rfl,hch0.trans (Chg.of_below ai),by simp,⟨_,ah ai x0⟩,⟨_,ah ai x1⟩,fun o=>cC ai (by omega) (HXF.out o),fun o=>aV o,az 0,[],_,rfl,by simp[Hid,Ty.cnts],by first | omega | (simp[Ty.cnts];omega),hrd1.below ai,.slice none 0 0,az 1,by simpa [Ty.rows] using aL.nil _ _ _ _⟩
  case round=>
   obtain⟨j,hj,rfl,hbw,hsz,⟨u0,hu0⟩,⟨u1,hu1⟩,hf1,hf2,hk0,ts,q,hts,hbs,hq,hrd,v,hv,hacc⟩:=hrel;have hrl:=hrd.1;have hj0:j=0:=by omega
   have hlt : ¬j<0:=by omega
   ·obtain⟨cv,qv,rfl⟩:=hacc.shape
    have f0:=hf1 0;have f1:=hf1 1
    go_wp2_with fail
    refine(bU 1 _).mono ?_;rintro e w' ⟨rfl,rfl⟩;rw[HTK.out]
    go_wp2_with fail
    refine bodyPost_ret (v:=.agg #[.int .i64 1,.slice cv j qv]) (by simp[results,Tryz.results52,go_sem,hu0,hu1];omega) rfl ?_;have hjn:j=0:=by omega
    rw[hjn] at hts hbs hq;have hb0:=hbs.out;refine⟨.mk 1 ts,_,q,rfl,?_,bh.mono (bg.ty ((hacc.tys.setCell (by show w.heap.size<w1.heap.size+1;omega) _).setCell (by show w.heap.size<w1.heap.size+1;omega) _)) (by omega),?_,(hrd.setCell (by show r<w.heap.size;omega) _).setCell (by show r<w.heap.size;omega) _,(hbw.trans' (Nat.le_refl _) _).trans' (Nat.le_refl _) _⟩
    ·simp only[Ty.cnt,hts]
     simp at hb0 hq ⊢;omega
    ·simp at hb0 hq ⊢;omega
 ·obtain⟨n,hn⟩ : ∃n:Nat,bx k=n:=⟨(bx k).toNat,by unfold bx;split;rfl;split;rfl;omega⟩
  have hn2:n≤2:=by have:=lf k;omega
  have hd2:0<n→2≤d:=by intro h;unfold bx at hn;split at hn;omega;omega
  have HTK:=zq hn;have HCAP:=zq hn2;clear hn
  by_cases hc:d<2
  ·have hc1:decide ((d:Int)<2)=true:=by simp;omega
   have hc2:decide (k≥4)=false:=by simp;omega
   go_wp2_with fail
   go_loopw [7] (fun i wr=>∃j:Nat,j≤n∧i = .int .i64 j∧Chg [r] w wr∧w1.heap.size<wr.heap.size∧(∃u,wr.cell? ⟨w.heap.size,0,none⟩=some u)∧(∃u,wr.cell? ⟨w.heap.size,1,none⟩=some u) ∧
       (∀o,wr.frozen? ⟨w.heap.size,o,none⟩=false)∧(∀o,wr.frozen? ⟨w1.heap.size,o,none⟩=false)∧wr.cell? ⟨w1.heap.size,0,none⟩=some (.int .i64 k) ∧
       ∃(ts:List Ty) (q:Nat),ts.length=j∧Hid (Ty.cnts ts+2*j≤j*(c+1))∧q≤p+1+j*c∧aQ wr r q∧∃v,wr.cell? ⟨w1.heap.size,1,none⟩=some v∧aL (w1.heap.size+1) 25 2 wr v j (Ty.rows ts)) (fun i _=>n-(intOf i).toNat)
   case atStart=>exact⟨0,by omega,rfl,hch0.trans (Chg.of_below ai),by simp,⟨_,ah ai x0⟩,⟨_,ah ai x1⟩,fun o=>cC ai (by omega) (HXF.out o),fun o=>aV o,az 0,[],_,rfl,by simp[Hid,Ty.cnts],by first | omega | (simp[Ty.cnts];omega),hrd1.below ai,.slice none 0 0,az 1,by simpa [Ty.rows] using aL.nil _ _ _ _⟩
   case round=>
    obtain⟨j,hj,rfl,hbw,hsz,⟨u0,hu0⟩,⟨u1,hu1⟩,hf1,hf2,hk0,ts,q,hts,hbs,hq,hrd,v,hv,hacc⟩:=hrel;have hrl:=hrd.1
    by_cases hlt:j<n
    ·have HD2:=zq (hd2 (by omega))
     have HQB:=zq (show q+(c+1)≤1125899906842000 by have:=HPW.out HD2.out;have:j*c≤1*c:=Nat.mul_le_mul_right _ (by omega);omega);have hwr:IntKind.i64.wrap ((d:Int)-1)=(d:Int)-1:=IntWalk.i64_in _ (by omega);obtain⟨xs,fps,ho,hl,hs,hd,hfp⟩:=hacc;have HO:=zq ho;have HS:=zq hs;have HD:=zq hd;have HFP:=zq hfp;have HL:=zq hl;have HTS:=zq hts;clear ho hs hd hfp hl hts;obtain⟨cv,qv,rfl⟩ : ∃c q,v = .slice c j q:=by
      rcases HO.out.2 with ⟨h,h0⟩ | ⟨g,cap,cur,h,_⟩
      ·exact⟨none,0,by rw[h,h0]⟩
      ·exact⟨_,cap,h⟩
     go_wp2_with fail
     refine(bU k _).mono ?_;rintro e w' ⟨rfl,rfl⟩;rw[HTK.out]
     go_wp2_with fail
     have hB3:w1.heap.size+1≤wr.heap.size:=by omega
     go_region_law (first
       | (go_simp;go_at_call 52;(with_reducible refine(IHH.out HD2.out q _ (hrd.below bdr) HQB.out).mono ?_);rintro e wc1 ⟨s1,v1,q1,rfl,hsc,hv1,hq1,hrd1,hch1⟩;obtain⟨k1,c1,m1,qq1,fp1,rfl,-,-,hs1,hd1,hx1⟩:=hv1.open;have hC1:=(Chg.of_below bdr).trans hch1;have hbz:=hch1.size;have hq1c:wc1.cell? ⟨w1.heap.size,1,none⟩=some (.slice cv j qv):=hC1.cellne (by show w1.heap.size≠r;omega) hv;have hl1:w1.heap.size<wc1.heap.size:=World.block_lt_of_cell? _ _ hq1c)
       | (refine step_append_lies _ (by rfl) (.tmp 26) (.tmp 31) 23 (by rfl) (w1.heap.size+1) 25 i0 _ 2 32 Tryz.underlying23 HI.out Z0.out Z1.out Z2.out rfl (by omega) (.slice cv j qv) j xs (by rfl) (bZ HO.out (hC1.trans (Chg.of_below ai)) (by omega))
           ⟨wc1.heap.size,0,none⟩ 1 1 [.int .i64 k1,.slice c1 m1 qq1] (by rfl) (by rfl) (World.news_of_block (cs:=#[.int .i64 k1,.slice c1 m1 qq1]) (t:=25) (fr:=(0,0)) (heap_alloc_new wc1 _)) (by simp[Value.oneCell'])
           (by omega) (by have:=HCAP.out;unfold maxLen;omega) (by have:=HCAP.out;omega) (by simp at hbz ⊢;omega) _ rfl ?_
          intro gg cap2 w2 hown2 hgrow hat hlt2;have hC2:=hC1.trans (Chg.of_below (ai (o:=.cells #[.int .i64 k1,.slice c1 m1 qq1] 25)));have hfar:=dQ hC2 HO.out hgrow;have hq:w2.cell? ⟨w1.heap.size,1,none⟩=some (.slice cv j qv):=(World.cell?_of_block (a:=⟨w1.heap.size,1,none⟩) (hfar (w1.heap.size) (by omega) (by omega) (by omega))).trans hv;have hqf:w2.frozen? ⟨w1.heap.size,1,none⟩=false:=(World.frozen?_of_block (a:=⟨w1.heap.size,1,none⟩) (hfar (w1.heap.size) (by omega) (by omega) (by omega))).trans (hf2 _);have HFAR:=zq hfar;have hacc2:=aL.pushC HL.out HO.out HS.out HD.out HFP.out hB3 (by omega) hC2 (by simp) (hs1.move _ _ _ fun b hb=>heap_alloc_old wc1 _ (bf.lt _ _ _ hs1 b hb)) hd1 hx1 hown2 hgrow hat;have HACC:=zq hacc2;have HBEL:=zq (dC hbw hC2 HO.out (by have:=hbw.size;omega) hgrow);have HRD:=zq (aQ.grown (hrd1.below ai) HO.out (by omega) hgrow);have hsz2:wr.heap.size≤w2.heap.size:=Nat.le_trans hC2.size hgrow.size;clear hfar hacc2 hown2 hgrow hat hq1c hC1 hC2 hrd1))
     all_goals
      go_wp2_with fail
      go_roundw
      case rel=>
       have c1:(w2.setCell ⟨w1.heap.size,1,none⟩ (.slice (some ⟨gg,0,none⟩) (j+1) cap2)).heap[w.heap.size]?=wr.heap[w.heap.size]?:=
        (Below.heap_setCell w2 ⟨w1.heap.size,1,none⟩ _ _ (by show w.heap.size≠w1.heap.size;omega)).trans (HFAR.out (w.heap.size) (by omega) (by omega) (by omega))
       have hk2:=(World.cell?_of_block (a:=⟨w1.heap.size,0,none⟩) (HFAR.out (w1.heap.size) (by omega) (by omega) (by omega))).trans hk0;have hf4:=fun o=>(World.frozen?_of_block (a:=⟨w1.heap.size,o,none⟩) (HFAR.out (w1.heap.size) (by omega) (by omega) (by omega))).trans (hf2 o);have hbel2:Chg [r] w (w2.setCell ⟨w1.heap.size,1,none⟩ (.slice (some ⟨gg,0,none⟩) (j+1) cap2)):=
        HBEL.out.trans' (by show w.heap.size≤w1.heap.size;omega) _
       refine⟨j+1,by omega,by go_num,hbel2,by simp[World.setCell];omega,⟨u0,(World.cell?_of_block (a:=⟨w.heap.size,0,none⟩) c1).trans hu0⟩,⟨u1,(World.cell?_of_block (a:=⟨w.heap.size,1,none⟩) c1).trans hu1⟩,
         fun o=>(World.frozen?_of_block (a:=⟨w.heap.size,o,none⟩) c1).trans (hf1 o),fun o=>(dK _ _ _ _).trans (hf4 o),cA hk2 (by simp),ts ++ [s1],q1,by simp[HTS.out],by have:=hbs.out;rw[Ty.cnts_append,Nat.add_mul];simp only[Ty.cnts];show _≤_;omega,by rw[Nat.add_mul];omega,HRD.out.setCell (by show r<w1.heap.size;omega) _,_,bE hq,?_⟩
       have h:=HACC.out.setCell (p:=⟨w1.heap.size,1,none⟩) (by show w1.heap.size<w1.heap.size+1;omega) (.slice (some ⟨gg,0,none⟩) (j+1) cap2);rw[Ty.rows_eq] at h ⊢;simp only[List.map_append,List.map_cons,List.map_nil]
       exact h
      case measure=>simp[intOf];omega
    ·obtain⟨cv,qv,rfl⟩:=hacc.shape
     have f0:=hf1 0;have f1:=hf1 1
     go_wp2_with fail
     refine(bU k _).mono ?_;rintro e w' ⟨rfl,rfl⟩;rw[HTK.out]
     go_wp2_with fail
     refine bodyPost_ret (v:=.agg #[.int .i64 k,.slice cv j qv]) (by simp[results,Tryz.results52,go_sem,hu0,hu1]) rfl ?_;have hjn:j=n:=by omega
     rw[hjn] at hts hbs hq;have hb0:=hbs.out;refine⟨.mk k ts,_,q,rfl,?_,bh.mono (bg.ty ((hacc.tys.setCell (by show w.heap.size<w1.heap.size+1;omega) _).setCell (by show w.heap.size<w1.heap.size+1;omega) _)) (by omega),?_,(hrd.setCell (by show r<w.heap.size;omega) _).setCell (by show r<w.heap.size;omega) _,(hbw.trans' (Nat.le_refl _) _).trans' (Nat.le_refl _) _⟩
     ·simp only[Ty.cnt,hts]
      rcases(show n=0∨n=1∨n=2 by omega) with rfl | rfl | rfl
      ·simp at hb0 hq ⊢;omega
      ·have h2:=hd2 (by omega)
       have:=HPW.out h2;simp at hb0 hq ⊢;omega
      ·have h2:=hd2 (by omega)
       have:=HPW.out h2;simp at hb0 hq ⊢;omega
     ·rcases(show n=0∨n=1∨n=2 by omega) with rfl | rfl | rfl
      ·simp at hb0 hq ⊢;omega
      ·have h2:=hd2 (by omega)
       have:=HPW.out h2;simp at hb0 hq ⊢;omega
      ·have h2:=hd2 (by omega)
       have:=HPW.out h2;simp at hb0 hq ⊢;omega
  ·have hc1:decide ((d:Int)<2)=false:=by simp;omega
   go_wp2_with fail
   go_loopw [7] (fun i wr=>∃j:Nat,j≤n∧i = .int .i64 j∧Chg [r] w wr∧w1.heap.size<wr.heap.size∧(∃u,wr.cell? ⟨w.heap.size,0,none⟩=some u)∧(∃u,wr.cell? ⟨w.heap.size,1,none⟩=some u) ∧
       (∀o,wr.frozen? ⟨w.heap.size,o,none⟩=false)∧(∀o,wr.frozen? ⟨w1.heap.size,o,none⟩=false)∧wr.cell? ⟨w1.heap.size,0,none⟩=some (.int .i64 k) ∧
       ∃(ts:List Ty) (q:Nat),ts.length=j∧Hid (Ty.cnts ts+2*j≤j*(c+1))∧q≤p+1+j*c∧aQ wr r q∧∃v,wr.cell? ⟨w1.heap.size,1,none⟩=some v∧aL (w1.heap.size+1) 25 2 wr v j (Ty.rows ts)) (fun i _=>n-(intOf i).toNat)
   case atStart=>exact⟨0,by omega,rfl,hch0.trans (Chg.of_below ai),by simp,⟨_,ah ai x0⟩,⟨_,ah ai x1⟩,fun o=>cC ai (by omega) (HXF.out o),fun o=>aV o,az 0,[],_,rfl,by simp[Hid,Ty.cnts],by first | omega | (simp[Ty.cnts];omega),hrd1.below ai,.slice none 0 0,az 1,by simpa [Ty.rows] using aL.nil _ _ _ _⟩
   case round=>
    obtain⟨j,hj,rfl,hbw,hsz,⟨u0,hu0⟩,⟨u1,hu1⟩,hf1,hf2,hk0,ts,q,hts,hbs,hq,hrd,v,hv,hacc⟩:=hrel;have hrl:=hrd.1
    by_cases hlt:j<n
    ·have HD2:=zq (hd2 (by omega))
     have HQB:=zq (show q+(c+1)≤1125899906842000 by have:=HPW.out HD2.out;have:j*c≤1*c:=Nat.mul_le_mul_right _ (by omega);omega);have hwr:IntKind.i64.wrap ((d:Int)-1)=(d:Int)-1:=IntWalk.i64_in _ (by omega);obtain⟨xs,fps,ho,hl,hs,hd,hfp⟩:=hacc;have HO:=zq ho;have HS:=zq hs;have HD:=zq hd;have HFP:=zq hfp;have HL:=zq hl;have HTS:=zq hts;clear ho hs hd hfp hl hts;obtain⟨cv,qv,rfl⟩ : ∃c q,v = .slice c j q:=by
      rcases HO.out.2 with ⟨h,h0⟩ | ⟨g,cap,cur,h,_⟩
      ·exact⟨none,0,by rw[h,h0]⟩
      ·exact⟨_,cap,h⟩
     go_wp2_with fail
     refine(bU k _).mono ?_;rintro e w' ⟨rfl,rfl⟩;rw[HTK.out]
     go_wp2_with fail
     have hB3:w1.heap.size+1≤wr.heap.size:=by omega
     go_region_law (first
       | (go_simp;go_at_call 52;(with_reducible refine(IHH.out HD2.out q _ (hrd.below bdr) HQB.out).mono ?_);rintro e wc1 ⟨s1,v1,q1,rfl,hsc,hv1,hq1,hrd1,hch1⟩;obtain⟨k1,c1,m1,qq1,fp1,rfl,-,-,hs1,hd1,hx1⟩:=hv1.open;have hC1:=(Chg.of_below bdr).trans hch1;have hbz:=hch1.size;have hq1c:wc1.cell? ⟨w1.heap.size,1,none⟩=some (.slice cv j qv):=hC1.cellne (by show w1.heap.size≠r;omega) hv;have hl1:w1.heap.size<wc1.heap.size:=World.block_lt_of_cell? _ _ hq1c)
       | (refine step_append_lies _ (by rfl) (.tmp 26) (.tmp 31) 23 (by rfl) (w1.heap.size+1) 25 i0 _ 2 32 Tryz.underlying23 HI.out Z0.out Z1.out Z2.out rfl (by omega) (.slice cv j qv) j xs (by rfl) (bZ HO.out (hC1.trans (Chg.of_below ai)) (by omega))
           ⟨wc1.heap.size,0,none⟩ 1 1 [.int .i64 k1,.slice c1 m1 qq1] (by rfl) (by rfl) (World.news_of_block (cs:=#[.int .i64 k1,.slice c1 m1 qq1]) (t:=25) (fr:=(0,0)) (heap_alloc_new wc1 _)) (by simp[Value.oneCell'])
           (by omega) (by have:=HCAP.out;unfold maxLen;omega) (by have:=HCAP.out;omega) (by simp at hbz ⊢;omega) _ rfl ?_
          intro gg cap2 w2 hown2 hgrow hat hlt2;have hC2:=hC1.trans (Chg.of_below (ai (o:=.cells #[.int .i64 k1,.slice c1 m1 qq1] 25)));have hfar:=dQ hC2 HO.out hgrow;have hq:w2.cell? ⟨w1.heap.size,1,none⟩=some (.slice cv j qv):=(World.cell?_of_block (a:=⟨w1.heap.size,1,none⟩) (hfar (w1.heap.size) (by omega) (by omega) (by omega))).trans hv;have hqf:w2.frozen? ⟨w1.heap.size,1,none⟩=false:=(World.frozen?_of_block (a:=⟨w1.heap.size,1,none⟩) (hfar (w1.heap.size) (by omega) (by omega) (by omega))).trans (hf2 _);have HFAR:=zq hfar;have hacc2:=aL.pushC HL.out HO.out HS.out HD.out HFP.out hB3 (by omega) hC2 (by simp) (hs1.move _ _ _ fun b hb=>heap_alloc_old wc1 _ (bf.lt _ _ _ hs1 b hb)) hd1 hx1 hown2 hgrow hat;have HACC:=zq hacc2;have HBEL:=zq (dC hbw hC2 HO.out (by have:=hbw.size;omega) hgrow);have HRD:=zq (aQ.grown (hrd1.below ai) HO.out (by omega) hgrow);have hsz2:wr.heap.size≤w2.heap.size:=Nat.le_trans hC2.size hgrow.size;clear hfar hacc2 hown2 hgrow hat hq1c hC1 hC2 hrd1))
     all_goals
      go_wp2_with fail
      go_roundw
      case rel=>
       have c1:(w2.setCell ⟨w1.heap.size,1,none⟩ (.slice (some ⟨gg,0,none⟩) (j+1) cap2)).heap[w.heap.size]?=wr.heap[w.heap.size]?:=
        (Below.heap_setCell w2 ⟨w1.heap.size,1,none⟩ _ _ (by show w.heap.size≠w1.heap.size;omega)).trans (HFAR.out (w.heap.size) (by omega) (by omega) (by omega))
       have hk2:=(World.cell?_of_block (a:=⟨w1.heap.size,0,none⟩) (HFAR.out (w1.heap.size) (by omega) (by omega) (by omega))).trans hk0;have hf4:=fun o=>(World.frozen?_of_block (a:=⟨w1.heap.size,o,none⟩) (HFAR.out (w1.heap.size) (by omega) (by omega) (by omega))).trans (hf2 o);have hbel2:Chg [r] w (w2.setCell ⟨w1.heap.size,1,none⟩ (.slice (some ⟨gg,0,none⟩) (j+1) cap2)):=
        HBEL.out.trans' (by show w.heap.size≤w1.heap.size;omega) _
       refine⟨j+1,by omega,by go_num,hbel2,by simp[World.setCell];omega,⟨u0,(World.cell?_of_block (a:=⟨w.heap.size,0,none⟩) c1).trans hu0⟩,⟨u1,(World.cell?_of_block (a:=⟨w.heap.size,1,none⟩) c1).trans hu1⟩,
         fun o=>(World.frozen?_of_block (a:=⟨w.heap.size,o,none⟩) c1).trans (hf1 o),fun o=>(dK _ _ _ _).trans (hf4 o),cA hk2 (by simp),ts ++ [s1],q1,by simp[HTS.out],by have:=hbs.out;rw[Ty.cnts_append,Nat.add_mul];simp only[Ty.cnts];show _≤_;omega,by rw[Nat.add_mul];omega,HRD.out.setCell (by show r<w1.heap.size;omega) _,_,bE hq,?_⟩
       have h:=HACC.out.setCell (p:=⟨w1.heap.size,1,none⟩) (by show w1.heap.size<w1.heap.size+1;omega) (.slice (some ⟨gg,0,none⟩) (j+1) cap2);rw[Ty.rows_eq] at h ⊢;simp only[List.map_append,List.map_cons,List.map_nil]
       exact h
      case measure=>simp[intOf];omega
    ·obtain⟨cv,qv,rfl⟩:=hacc.shape
     have f0:=hf1 0;have f1:=hf1 1
     go_wp2_with fail
     refine(bU k _).mono ?_;rintro e w' ⟨rfl,rfl⟩;rw[HTK.out]
     go_wp2_with fail
     refine bodyPost_ret (v:=.agg #[.int .i64 k,.slice cv j qv]) (by simp[results,Tryz.results52,go_sem,hu0,hu1]) rfl ?_;have hjn:j=n:=by omega
     rw[hjn] at hts hbs hq;have hb0:=hbs.out;refine⟨.mk k ts,_,q,rfl,?_,bh.mono (bg.ty ((hacc.tys.setCell (by show w.heap.size<w1.heap.size+1;omega) _).setCell (by show w.heap.size<w1.heap.size+1;omega) _)) (by omega),?_,(hrd.setCell (by show r<w.heap.size;omega) _).setCell (by show r<w.heap.size;omega) _,(hbw.trans' (Nat.le_refl _) _).trans' (Nat.le_refl _) _⟩
     ·simp only[Ty.cnt,hts]
      rcases(show n=0∨n=1∨n=2 by omega) with rfl | rfl | rfl
      ·simp at hb0 hq ⊢;omega
      ·have h2:=hd2 (by omega)
       have:=HPW.out h2;simp at hb0 hq ⊢;omega
      ·have h2:=hd2 (by omega)
       have:=HPW.out h2;simp at hb0 hq ⊢;omega
     ·rcases(show n=0∨n=1∨n=2 by omega) with rfl | rfl | rfl
      ·simp at hb0 hq ⊢;omega
      ·have h2:=hd2 (by omega)
       have:=HPW.out h2;simp at hb0 hq ⊢;omega
      ·have h2:=hd2 (by omega)
       have:=HPW.out h2;simp at hb0 hq ⊢;omega
termination_by d
end Go.Proofs.YtfahhonmiimmdaaGreat
