/- The reference's source of numbers: what a draw leaves. Only bounds are said of what is drawn. And what else its parts name. -/
import Derived.Laws.Bits64
import Derived.Test.YtfhglkmjibjjoaaB7
set_option linter.unusedSimpArgs false
set_option linter.unusedVariables false
set_option maxRecDepth 100000
set_option maxHeartbeats 16000000
namespace Go.Proofs.Ytfhglkmjibjjoaa
open Go.RowKit
theorem xor_bd (a b:Int)(h1:0<=a)(h2:a<9223372036854775808)(h3:0<=b)(h4:b<9223372036854775808):0<=bits .xor .i64 a b∧bits .xor .i64 a b<9223372036854775808:=by
 obtain⟨A,rfl⟩:=Int.eq_ofNat_of_zero_le h1;obtain⟨B,rfl⟩:=Int.eq_ofNat_of_zero_le h3;have hx:A ^^^ B<2 ^ 63:=Nat.xor_lt_two_pow (by omega) (by omega);have e1:(BitVec.ofInt 64 (A:Int)).toNat=A:=by
  rw[BitVec.ofInt_natCast,BitVec.toNat_ofNat];exact Nat.mod_eq_of_lt (by omega)
 have e2:(BitVec.ofInt 64 (B:Int)).toNat=B:=by
  rw[BitVec.ofInt_natCast,BitVec.toNat_ofNat];exact Nat.mod_eq_of_lt (by omega)
 have e:bits .xor .i64 (A:Int) (B:Int)=((A ^^^ B:Nat):Int):=by
  show IntKind.i64.wrap ((BitVec.ofInt 64 (A:Int) ^^^ BitVec.ofInt 64 (B:Int)).toNat:Int)=_
  rw[BitVec.toNat_xor,e1,e2]
  simp[IntKind.wrap,IntKind.bits,IntKind.signed]
  omega
 rw[e]
 omega
def cl (w:World)(r:Nat)(v:Value):Prop:=∃a n cap,v = .slice a n cap∧n<=cap∧cap<=maxLen ∧
 ∀i,i<n->∃b off c,a=some ⟨b,off,none⟩∧b<r∧b<w.heap.size∧w.cell? ⟨b,off+i,none⟩=some (.int .u8 c)∧0<=c∧c<256
theorem cl.keep {w w':World}{r:Nat}{v:Value}(h:cl w r v)(hs:w.heap.size<=w'.heap.size)(k : ∀b,b<w.heap.size->b<r->w'.heap[b]?=w.heap[b]?):cl w' r v:=by
 obtain⟨a,n,cap,h1,h2,h3,h4⟩:=h;refine⟨a,n,cap,h1,h2,h3,fun i hi=>?_⟩;obtain⟨b,off,c,e,hb,hl,hc,c1,c2⟩:=h4 i hi
 exact⟨b,off,c,e,hb,Nat.lt_of_lt_of_le hl hs,(World.cell?_of_block (a:=⟨b,off+i,none⟩) (k b hl hb)).trans hc,c1,c2⟩
def aR (w:World)(r p:Nat):Prop:=r<w.heap.size∧∃s,w.cell? ⟨r,0,none⟩=some s∧cl w r s∧w.cell? ⟨r,1,none⟩=some (.int .i64 (p:Int))∧w.frozen? ⟨r,1,none⟩=false
theorem aR.below {w w':World}{r p:Nat}(h:aR w r p)(k:Below w.heap.size w w'):aR w' r p:=by
 obtain⟨hl,s,h1,h2,h3,h4⟩:=h
 exact⟨Nat.lt_of_lt_of_le hl k.size,s,af k h1,h2.keep k.size (fun b hb _=>k.block b hb),af k h3,cG k hl h4⟩
theorem aR.keep {w w':World}{r p:Nat}(h:aR w r p)(hs:w.heap.size<=w'.heap.size)(k : ∀b,b<=r->w'.heap[b]?=w.heap[b]?):aR w' r p:=by
 obtain⟨hl,s,h1,h2,h3,h4⟩:=h
 exact⟨Nat.lt_of_lt_of_le hl hs,s,(World.cell?_of_block (a:=⟨r,0,none⟩) (k r (Nat.le_refl _))).trans h1,h2.keep hs (fun b _ hb=>k b (Nat.le_of_lt hb)),(World.cell?_of_block (a:=⟨r,1,none⟩) (k r (Nat.le_refl _))).trans h3,(World.frozen?_of_block (a:=⟨r,1,none⟩) (k r (Nat.le_refl _))).trans h4⟩
theorem aR.setCell {w:World}{r p:Nat}(h:aR w r p){a:Addr}(ha:r<a.block)(v:Value):aR (w.setCell a v) r p:=
 h.keep (by simp[World.setCell]) (fun b hb=>Below.heap_setCell w a v b (by omega))
def l9 (r p:Nat)(n:Int)(w:World)(e:Ending)(w':World):Prop:=∃k:Int,e = .returned (.int .i64 k)∧0<=k∧(k<n∨k=0)∧aR w' r (p+1)∧Chg [r] w w'
theorem oJ {r p:Nat}{w w1:World}{n k:Int}{s:Value}(hl:r<w.heap.size)(h0:w.cell? ⟨r,0,none⟩=some s)(hby:cl w r s)(h1:w.cell? ⟨r,1,none⟩=some (.int .i64 (p:Int)))(hf:w.frozen? ⟨r,1,none⟩=false)
  (hk:0<=k) (hkn:k<n∨k=0) (hw:Below w.heap.size (w.setCell ⟨r,1,none⟩ (.int .i64 ((p:Int)+1))) w1):l9 r p n w (.returned (.int .i64 k)) w1:=by
 have hs:(w.setCell ⟨r,1,none⟩ (.int .i64 ((p:Int)+1))).heap.size=w.heap.size:=by simp[World.setCell]
 have hw':Below (w.setCell ⟨r,1,none⟩ (.int .i64 ((p:Int)+1))).heap.size (w.setCell ⟨r,1,none⟩ (.int .i64 ((p:Int)+1))) w1:=by rw[hs];exact hw
 have hb:cl (w.setCell ⟨r,1,none⟩ (.int .i64 ((p:Int)+1))) r s:=hby.keep (by rw[hs];exact Nat.le_refl _) (fun b _ hb=>Below.heap_setCell w ⟨r,1,none⟩ _ b (Nat.ne_of_lt hb));refine⟨k,rfl,hk,hkn,aR.below ⟨by rw[hs];exact hl,s,cF h0 (by simp),hb,by have:=bP (v:=.int .i64 ((p:Int)+1)) h1;rw[this];simp,dG hf⟩ hw',?_⟩
 exact((Chg.refl _ _).setCell (p:=⟨r,1,none⟩) (by simp) _).trans (Chg.of_below hw')
theorem bH (r p:Nat)(n:Int)(w:World)(h:aR w r p)(hp:p<=1125899906842624)(hn:n<=1125899906842624) :
  Calls Try.prog 38 #[.pointer (some ⟨r,0,none⟩),.int .i64 n] w (l9 r p n w):=by
 obtain⟨hl,s,h0,hby,h1,hf⟩:=h;have HEND:=zq (fun(k:Int) (w1:World)=>oJ (r:=r) (p:=p) (w:=w) (w1:=w1) (n:=n) (k:=k) hl h0 hby h1 hf);obtain⟨a,m,cap,rfl,hm,hcap,hg⟩:=hby;unfold maxLen at hcap;have HG:=zq hg;clear hg
 by_cases hn1:n<1
 ·go_enter Try.func38,Try.ntmps38
  go_wp2_with fail
  go_ret
  exact HEND.out _ _ (Int.le_refl _) (.inr rfl) (Below.refl _ _)
 ·by_cases hm0:m=0
  ·have hnb:decide (n<1)=false:=by simpa using hn1
   have hmb:((m:Int)==0)=true:=by simp[hm0]
   clear hm0
   go_enter Try.func38,Try.ntmps38
   go_wp2_with fail
   go_ret
   exact HEND.out _ _ (Int.le_refl _) (.inr rfl) (Below.refl _ _)
  ·have hm1:0<m:=by omega
   have hm1':(0:Int)<(m:Int):=by omega
   have hmb:((m:Int)==0)=false:=by simp;omega
   have hnb:decide (n<1)=false:=by simpa using hn1
   have hn0:(0:Int)<n:=by omega
   by_cases hpm:p<m
   ·obtain⟨b,off,c2,rfl,hbr0,hbl,hc2,c02,c12⟩:=HG.out p hpm
    have hbr:b≠r:=Nat.ne_of_lt hbr0;have hrb:r≠b:=fun e=>hbr e.symm
    go_enter Try.func38,Try.ntmps38
    go_wp2_with fail
    go_ret
    exact HEND.out _ _ (Int.emod_nonneg _ (by omega)) (.inl (Int.emod_lt_of_pos _ hn0)) (Below.refl _ _)
   ·obtain⟨i,hi⟩ : ∃i,p % m=i:=⟨_,rfl⟩
    obtain⟨j,hj⟩ : ∃j,(p*7+3) % m=j:=⟨_,rfl⟩
    obtain⟨d,hd⟩ : ∃d,p / m=d:=⟨_,rfl⟩
    have him:i<m:=hi▸Nat.mod_lt _ hm1;have hjm:j<m:=hj▸Nat.mod_lt _ hm1;have hdp:d<=p:=hd▸Nat.div_le_self _ _;obtain⟨b,off,c,rfl,hbr0,hbl,hc,c0,c1⟩:=HG.out i him;have hbr:b≠r:=Nat.ne_of_lt hbr0;obtain⟨b',off',c',he,hbr',hbl',hc',c0',c1'⟩:=HG.out j hjm;simp only[Option.some.injEq,Addr.mk.injEq,and_true] at he;obtain⟨rfl,rfl⟩:=he;have t1:((p:Int)).tmod (m:Int)=(i:Int):=by rw[<-hi,Int.tmod_eq_emod_of_nonneg (by omega)];exact(Int.natCast_emod p m).symm
    have t4:((p:Int)*7+3).tmod (m:Int)=(j:Int):=by rw[<-hj,Int.tmod_eq_emod_of_nonneg (by omega)];rw[Int.natCast_emod];simp
    have t5:((p:Int)).tdiv (m:Int)=(d:Int):=by rw[<-hd,Int.tdiv_eq_ediv_of_nonneg (by omega)];exact(Int.natCast_ediv p m).symm
    have t2:IntKind.i64.wrap ((p:Int)*7)=(p:Int)*7:=IntWalk.i64_in _ (by omega);have t3:IntKind.i64.wrap ((p:Int)*7+3)=(p:Int)*7+3:=IntWalk.i64_in _ (by omega);have u1:IntKind.i64.wrap (c*131)=c*131:=IntWalk.i64_in _ (by omega);have u2:IntKind.i64.wrap (c'*1117)=c'*1117:=IntWalk.i64_in _ (by omega);have u3:IntKind.i64.wrap (c*131+c'*1117)=c*131+c'*1117:=IntWalk.i64_in _ (by omega);have u4:IntKind.i64.wrap ((p:Int)*29)=(p:Int)*29:=IntWalk.i64_in _ (by omega);have u5:IntKind.i64.wrap (c*131+c'*1117+(p:Int)*29)=c*131+c'*1117+(p:Int)*29:=IntWalk.i64_in _ (by omega);have u6:IntKind.i64.wrap ((d:Int)*53)=(d:Int)*53:=IntWalk.i64_in _ (by omega);have u7:IntKind.i64.wrap (c*131+c'*1117+(p:Int)*29+(d:Int)*53)=c*131+c'*1117+(p:Int)*29+(d:Int)*53:=IntWalk.i64_in _ (by omega);clear hi hj hd
    go_enter Try.func38,Try.ntmps38
    go_wp2_with fail
    go_region_held3 (fun w'=>w'.cell? ⟨r,0,none⟩=some (.slice (some ⟨b,off,none⟩) m cap)∧w'.cell? ⟨b,off+i,none⟩=some (.int .u8 c)∧w'.cell? ⟨b,off+j,none⟩=some (.int .u8 c'))
     (exact⟨ap (cF h0 (by simp)),ap (aT hc hbr),ap (aT hc' hbr)⟩)
     (fail)
    clear t1 t2 t3 t4 t5 u1 u2 u3 u4 u5 u6 u7;obtain⟨X,hX⟩ : ∃X:Int,c*131+c'*1117+(p:Int)*29+(d:Int)*53=X:=⟨_,rfl⟩
    have hX0:0<=X:=by omega
    have hX1:X<9223372036854775808:=by omega
    obtain⟨x0,x1⟩:=xor_bd X (X / 64) hX0 hX1 (by omega) (by omega);have HX:=zq hX;clear hX
    go_wp2_with fail
    go_ret
    refine HEND.out _ _ ?_ ?_ (Below.refl _ _).drew
    ·rw[HX.out]
     exact Int.tmod_nonneg _ x0
    ·rw[HX.out,Int.tmod_eq_emod_of_nonneg x0]
     exact .inl (Int.emod_lt_of_pos _ hn0)
end Go.Proofs.Ytfhglkmjibjjoaa
namespace Go.Proofs.Ytfhglkmjibjjoaa
open Go.RowKit Go.ChangeShapes Go.WideShapes
theorem Try.cellsU8:Try.prog.cellsOf 5=1:=by kernel_rfl
section
variable {H:Type} {enc:TypeId × Value->H} {w:World} {base:Nat} {held:Bool} {spare:Nat->Bool}
theorem nI (n:Nat)(cs:List Value)(x:DataW H × List MemPlace)(h:DataW.trod enc Try.prog w base spare held (n+1) 22 cs=some x) :
  ∃s,cs = [s]∧cl w w.heap.size s:=by
 rcases DataW.trod_slice Try.underlying22 h with ⟨rfl,_⟩ | ⟨a,len,cap,elems,rest,n',hn,rfl,_,_,hlc,hcm,hel,he,_⟩
 ·exact⟨_,rfl,none,0,0,rfl,Nat.le_refl _,by unfold maxLen;omega,fun i hi=>absurd hi (Nat.not_lt_zero _)⟩
 ·obtain rfl:n=n':=by omega
  rw[Try.cellsU8] at he;have get : ∀i,i<len->∃k,w.cell? (a.add i)=some (.int .u8 k)∧0<=k∧k<256:=by
   intro i hi;have hk:=he i hi;rw[List.getElem?_eq_getElem (by omega)] at hk;obtain⟨cs',hc,ht⟩:=Option.bind_eq_some_iff.1 hk;obtain⟨k,rfl,-,hwf⟩:=DataW.trod_int Try.underlying5 ht;obtain⟨_,hl,g⟩:=World.cells?_some hc;have g0:=g 0 (by omega);rw[Nat.mul_one,show(a.add i).add 0=a.add i from by simp[Addr.add]] at g0;refine⟨k,by simpa using g0,?_⟩
   simp[Lit.wf,IntKind.min,IntKind.max,IntKind.signed,IntKind.bits] at hwf
   omega
  refine⟨_,rfl,some a,len,cap,rfl,hlc,hcm,fun i hi=>?_⟩;obtain⟨k0,h0,-,-⟩:=get 0 (by omega);have hs:=mC (show w.cell? a=some (.int .u8 k0) from by simpa [Addr.add] using h0);obtain⟨k,h1,h2,h3⟩:=get i hi;rw[l7 i hs] at h1;have hb:=World.block_lt_of_cell? w _ h1;refine⟨a.block,a.off,k,?_,hb,hb,h1,h2,h3⟩
  cases a;simp at hs;subst hs;rfl
theorem jY {v:Value}{d:DataW H}{ps:List MemPlace}{r:Reach}{b:Nat}(hv:Value.okWide Try.prog w r b 22 v)(h:DataW.Trod enc Try.prog w base spare held 22 v d ps):cl w w.heap.size v:=by
 obtain⟨fuel,hf⟩:=h
 cases fuel with
 | zero=>simp[DataW.trod] at hf
 | succ n=>
  obtain⟨s,hs,hr⟩:=nI n _ _ hf;obtain⟨a,m,c,rfl⟩:=okWide_slice Try.underlying22 hv;have hvs:Value.slice a m c=s:=by simpa [Value.cells] using hs
  rw[hvs];exact hr
end
end Go.Proofs.Ytfhglkmjibjjoaa
namespace Go.Proofs.Ytfhglkmjibjjoaa
open Go.RowKit
theorem Chg.grown {r:Nat}{w w':World}(h:Chg [r] w w'):w.grownBy w' (some r):=⟨h.os,h.tape,h.output,h.size,fun k hk hn=>h.block k hk (fun hm=>hn (by simpa using hm))⟩
theorem ck {r B:Nat}{e:TypeId}{size n:Nat}{w w':World}{v:Value}{xs:List Value}(h:w.ownsRow B e size v n xs)(k:Chg [r] w w')(hr:r<B):w'.ownsRow B e size v n xs:=
 h.kept (row:=some r) k.grown (by
   cases hv:v.ownBlock with
   | none=>exact .inl rfl
   | some g=>exact .inr (fun e=>by have:=(h.lt g hv).1;simp at e;omega))
theorem dk {r B:Nat}{e:TypeId}{size n:Nat}{wr W w2:World}{v:Value}{xs:List Value}(hb:Chg [r] wr W)(ho:wr.ownsRow B e size v n xs)(hg:W.grownBy w2 v.ownBlock)(b:Nat)(hl:b<wr.heap.size)(hB:b<B)(hn:b≠r):w2.heap[b]?=wr.heap[b]?:=
 (hg.block b (Nat.lt_of_lt_of_le hl hb.size) (fun e=>by have:=(ho.lt b e.symm).1;omega)).trans (hb.block b hl (by simpa using hn))
theorem dg {r B:Nat}{e:TypeId}{size n:Nat}{w0 wr W w2:World}{v:Value}{xs:List Value}(h0:Chg [r] w0 wr)(hb:Chg [r] wr W)(ho:wr.ownsRow B e size v n xs)(hB:w0.heap.size<=B)(hg:W.grownBy w2 v.ownBlock):Chg [r] w0 w2:=by
 have h:=h0.trans hb
 exact⟨hg.os.trans h.os,hg.tape.trans h.tape,hg.output.trans h.output,Nat.le_trans h.size hg.size,fun k hk hn=>(hg.block k (Nat.lt_of_lt_of_le hk h.size) (fun e=>by have:=(ho.lt k e.symm).1;omega)).trans (h.block k hk hn)⟩
theorem aS.pushC {r B g cap:Nat}{e:TypeId}{size n:Nat}{wr W0 W w2:World}{v:Value}{xs ys:List Value}{fps f:List Nat}{rows:List (List C)}{rw':List C}(hl:rows.length=n)(ho:wr.ownsRow B e size v n xs)(hs:bE wr rows xs fps)(hd:fps.Nodup)
  (hfp : ∀x∈fps,B<=x∧v.ownBlock≠some x) (hB:B<=wr.heap.size) (hrB:r<B) (hb:Chg [r] wr W) (h0:wr.heap.size<=W0.heap.size) (hr:bL W rw' ys f) (hdf:f.Nodup) (hxf : ∀x∈f,W0.heap.size<=x)
  (hown:w2.ownsRow B e size (.slice (some ⟨g,0,none⟩) (n+1) cap) (n+1) (xs++ys)) (hgrow:W.grownBy w2 v.ownBlock) (hat:v.ownBlock=some g∨g=W.heap.size):aS B e size w2 (.slice (some ⟨g,0,none⟩) (n+1) cap) (n+1) (rows ++ [rw']):=by
 have hlt : ∀x∈fps,x<wr.heap.size:=fun x hx=>bE.lt _ _ _ hs x hx;refine aS.append (w:=W) hl (hs.move _ _ _ fun b hx=>hb.block b (hlt b hx) (by have:=(hfp b hx).1;simp;omega)) hd hfp hr hdf (fun x hx=>?_) hown hgrow hat rfl;have h1:=hxf x hx;refine⟨by omega,fun e=>by have:=(ho.lt x e).2;omega,fun e=>by have:=hlt x e;omega⟩
theorem aR.grown {B r p:Nat}{e:TypeId}{size n:Nat}{wr W w2:World}{v:Value}{xs:List Value}(h:aR W r p)(ho:wr.ownsRow B e size v n xs)(hr:r<B)(hg:W.grownBy w2 v.ownBlock):aR w2 r p:=
 h.keep hg.size (fun b hb=>hg.block b (Nat.lt_of_le_of_lt hb h.1) (fun e=>by have:=(ho.lt b e.symm).1;omega))
def NumPost (r p:Nat)(Q:Int->Prop)(w:World)(e:Ending)(w':World):Prop:=∃k:Int,e = .returned (.int .i64 k)∧Q k∧aR w' r (p+1)∧Chg [r] w w'
theorem bY (Q:Int->Prop)(r p b n cap:Nat)(w:World)(h:aR w r p)(hp:p<=1125899906842623)(hn0:0<n)(hn:n<=1048576)(hcap:n<=cap)(hbr:r<b)
  (hc : ∀i,i<n->∃x,w.cell? ⟨b,i,none⟩=some (.int .i64 x)∧Q x) :
  Calls Try.prog 39 #[.pointer (some ⟨r,0,none⟩),.slice (some ⟨b,0,none⟩) n cap] w (NumPost r p Q w):=by
 have H:=zq (bH r p (n:Int) w h (by omega) (by omega));have HC:=zq hc;clear hc
 go_enter Try.func39,Try.ntmps39
 go_wp2_with fail
 refine H.out.mono ?_;rintro e w1 ⟨k,rfl,k0,hk,hrd,hch⟩;obtain⟨q,rfl⟩:=Int.eq_ofNat_of_zero_le k0;have hqn:q<n:=by omega
 obtain⟨x,hx,hq⟩:=HC.out q hqn;have hx1:=hch.cellne (by show b≠r;omega) hx;have hqi:(0:Int)<=(q:Int):=by omega
 have hqj:(q:Int)<(n:Int):=by omega
 clear hk k0 hx
 go_wp2_with fail
 go_ret
 exact⟨x,rfl,hq,hrd,hch⟩
def OfPost (r p:Nat)(Q:ByteArray->Prop)(w:World)(e:Ending)(w':World):Prop:=∃k:ByteArray,e = .returned (.string k)∧Q k∧aR w' r (p+1)∧Chg [r] w w'
theorem mA (Q:ByteArray->Prop)(r p b n cap:Nat)(w:World)(h:aR w r p)(hp:p<=1125899906842623)(hn0:0<n)(hn:n<=1048576)(hcap:n<=cap)(hbr:r<b)
  (hc : ∀i,i<n->∃x,w.cell? ⟨b,i,none⟩=some (.string x)∧Q x) :
  Calls Try.prog 71 #[.pointer (some ⟨r,0,none⟩),.slice (some ⟨b,0,none⟩) n cap] w (OfPost r p Q w):=by
 have H:=zq (bH r p (n:Int) w h (by omega) (by omega));have HC:=zq hc;clear hc
 go_enter Try.func71,Try.ntmps71
 go_wp2_with fail
 refine H.out.mono ?_;rintro e w1 ⟨k,rfl,k0,hk,hrd,hch⟩;obtain⟨q,rfl⟩:=Int.eq_ofNat_of_zero_le k0;have hqn:q<n:=by omega
 obtain⟨x,hx,hq⟩:=HC.out q hqn;have hx1:=hch.cellne (by show b≠r;omega) hx;have hqi:(0:Int)<=(q:Int):=by omega
 have hqj:(q:Int)<(n:Int):=by omega
 clear hk k0 hx
 go_wp2_with fail
 go_ret
 exact⟨x,rfl,hq,hrd,hch⟩
end Go.Proofs.Ytfhglkmjibjjoaa
