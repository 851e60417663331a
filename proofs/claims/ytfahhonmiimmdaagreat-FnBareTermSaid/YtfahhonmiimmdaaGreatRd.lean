/- The reference's source of numbers: what a draw leaves. Only bounds are said of what is drawn. -/
import Derived.Test.YtfahhonmiimmdaaGreatB2
import Derived.Test.YtfahhonmiimmdaaGreatB2
import Derived.Test.YtfahhonmiimmdaaGreatB2
import Derived.Laws.Bits64
set_option linter.unusedSimpArgs false
set_option linter.unusedVariables false
set_option maxRecDepth 100000
set_option maxHeartbeats 16000000
namespace Go.Proofs.YtfahhonmiimmdaaGreat
open Go.RowKit
theorem xor_bd (a b:Int)(h1:0≤a)(h2:a<9223372036854775808)(h3:0≤b)(h4:b<9223372036854775808):0≤bits .xor .i64 a b∧bits .xor .i64 a b<9223372036854775808:=by
 obtain⟨A,rfl⟩:=Int.eq_ofNat_of_zero_le h1;obtain⟨B,rfl⟩:=Int.eq_ofNat_of_zero_le h3;have hx:A ^^^ B<2 ^ 63:=Nat.xor_lt_two_pow (by omega) (by omega);have e1:(BitVec.ofInt 64 (A:Int)).toNat=A:=by
  rw[BitVec.ofInt_natCast,BitVec.toNat_ofNat];exact Nat.mod_eq_of_lt (by omega)
 have e2:(BitVec.ofInt 64 (B:Int)).toNat=B:=by
  rw[BitVec.ofInt_natCast,BitVec.toNat_ofNat];exact Nat.mod_eq_of_lt (by omega)
 have e:bits .xor .i64 (A:Int) (B:Int)=((A ^^^ B:Nat):Int):=by
  show IntKind.i64.wrap ((BitVec.ofInt 64 (A:Int) ^^^ BitVec.ofInt 64 (B:Int)).toNat:Int)=_
  rw[BitVec.toNat_xor,e1,e2]
  simp[IntKind.wrap,IntKind.bits,IntKind.signed]
  omega
 rw[e]
 omega
def cz (w:World)(r:Nat)(v:Value):Prop:=∃a n cap,v = .slice a n cap∧n≤cap∧cap≤maxLen ∧
 ∀i,i<n→∃b off c,a=some ⟨b,off,none⟩∧b<r∧b<w.heap.size∧w.cell? ⟨b,off+i,none⟩=some (.int .u8 c)∧0≤c∧c<256
theorem cz.keep {w w':World}{r:Nat}{v:Value}(h:cz w r v)(hs:w.heap.size≤w'.heap.size)(k : ∀b,b<w.heap.size→b<r→w'.heap[b]?=w.heap[b]?):cz w' r v:=by
 obtain⟨a,n,cap,h1,h2,h3,h4⟩:=h;refine⟨a,n,cap,h1,h2,h3,fun i hi=>?_⟩;obtain⟨b,off,c,e,hb,hl,hc,c1,c2⟩:=h4 i hi
 exact⟨b,off,c,e,hb,Nat.lt_of_lt_of_le hl hs,(World.cell?_of_block (a:=⟨b,off+i,none⟩) (k b hl hb)).trans hc,c1,c2⟩
def aT (w:World)(r p:Nat):Prop:=r<w.heap.size∧∃s,w.cell? ⟨r,0,none⟩=some s∧cz w r s∧w.cell? ⟨r,1,none⟩=some (.int .i64 (p:Int))∧w.frozen? ⟨r,1,none⟩=false
theorem aT.below {w w':World}{r p:Nat}(h:aT w r p)(k:Below w.heap.size w w'):aT w' r p:=by
 obtain⟨hl,s,h1,h2,h3,h4⟩:=h
 exact⟨Nat.lt_of_lt_of_le hl k.size,s,af k h1,h2.keep k.size (fun b hb _=>k.block b hb),af k h3,cb k hl h4⟩
theorem aT.keep {w w':World}{r p:Nat}(h:aT w r p)(hs:w.heap.size≤w'.heap.size)(k : ∀b,b≤r→w'.heap[b]?=w.heap[b]?):aT w' r p:=by
 obtain⟨hl,s,h1,h2,h3,h4⟩:=h
 exact⟨Nat.lt_of_lt_of_le hl hs,s,(World.cell?_of_block (a:=⟨r,0,none⟩) (k r (Nat.le_refl _))).trans h1,h2.keep hs (fun b _ hb=>k b (Nat.le_of_lt hb)),(World.cell?_of_block (a:=⟨r,1,none⟩) (k r (Nat.le_refl _))).trans h3,(World.frozen?_of_block (a:=⟨r,1,none⟩) (k r (Nat.le_refl _))).trans h4⟩
theorem aT.setCell {w:World}{r p:Nat}(h:aT w r p){a:Addr}(ha:r<a.block)(v:Value):aT (w.setCell a v) r p:=
 h.keep (by simp[World.setCell]) (fun b hb=>Below.heap_setCell w a v b (by omega))
def nX (r p:Nat)(n:Int)(w:World)(e:Ending)(w':World):Prop:=∃k:Int,e = .returned (.int .i64 k)∧0≤k∧(k<n∨k=0)∧aT w' r (p+1)∧Chg [r] w w'
theorem uh {r p:Nat}{w w1:World}{n k:Int}{s:Value}(hl:r<w.heap.size)(h0:w.cell? ⟨r,0,none⟩=some s)(hby:cz w r s)(h1:w.cell? ⟨r,1,none⟩=some (.int .i64 (p:Int)))(hf:w.frozen? ⟨r,1,none⟩=false)
  (hk:0≤k) (hkn:k<n∨k=0) (hw:Below w.heap.size (w.setCell ⟨r,1,none⟩ (.int .i64 ((p:Int)+1))) w1):nX r p n w (.returned (.int .i64 k)) w1:=by
 have hs:(w.setCell ⟨r,1,none⟩ (.int .i64 ((p:Int)+1))).heap.size=w.heap.size:=by simp[World.setCell]
 have hw':Below (w.setCell ⟨r,1,none⟩ (.int .i64 ((p:Int)+1))).heap.size (w.setCell ⟨r,1,none⟩ (.int .i64 ((p:Int)+1))) w1:=by rw[hs];exact hw
 have hb:cz (w.setCell ⟨r,1,none⟩ (.int .i64 ((p:Int)+1))) r s:=hby.keep (by rw[hs];exact Nat.le_refl _) (fun b _ hb=>Below.heap_setCell w ⟨r,1,none⟩ _ b (Nat.ne_of_lt hb));refine⟨k,rfl,hk,hkn,aT.below ⟨by rw[hs];exact hl,s,aX h0 (by simp),hb,by have:=bv (v:=.int .i64 ((p:Int)+1)) h1;rw[this];simp,ep hf⟩ hw',?_⟩
 exact((Chg.refl _ _).setCell (p:=⟨r,1,none⟩) (by simp) _).trans (Chg.of_below hw')
theorem bw (r p:Nat)(n:Int)(w:World)(h:aT w r p)(hp:p≤1125899906842624)(hn:n≤1125899906842624) :
  Calls Tryz.prog 26 #[.pointer (some ⟨r,0,none⟩),.int .i64 n] w (nX r p n w):=by
 obtain⟨hl,s,h0,hby,h1,hf⟩:=h;have HEND:=zq (fun(k:Int) (w1:World)=>uh (r:=r) (p:=p) (w:=w) (w1:=w1) (n:=n) (k:=k) hl h0 hby h1 hf);obtain⟨a,m,cap,rfl,hm,hcap,hg⟩:=hby;unfold maxLen at hcap;have HG:=zq hg;clear hg
 by_cases hn1:n<1
 ·go_enter Tryz.func26,Tryz.ntmps26
  go_wp2_with fail
  go_ret
  exact HEND.out _ _ (Int.le_refl _) (.inr rfl) (Below.refl _ _)
 ·by_cases hm0:m=0
  ·have hnb:decide (n<1)=false:=by simpa using hn1
   have hmb:((m:Int)==0)=true:=by simp[hm0]
   clear hm0
   go_enter Tryz.func26,Tryz.ntmps26
   go_wp2_with fail
   go_ret
   exact HEND.out _ _ (Int.le_refl _) (.inr rfl) (Below.refl _ _)
  ·have hm1:0<m:=by omega
   have hm1':(0:Int)<(m:Int):=by omega
   have hmb:((m:Int)==0)=false:=by simp;omega
   have hnb:decide (n<1)=false:=by simpa using hn1
   have hn0:(0:Int)<n:=by omega
   by_cases hpm:p<m
   ·obtain⟨b,off,c2,rfl,hbr0,hbl,hc2,c02,c12⟩:=HG.out p hpm
    have hbr:b≠r:=Nat.ne_of_lt hbr0;have hrb:r≠b:=fun e=>hbr e.symm
    go_enter Tryz.func26,Tryz.ntmps26
    go_wp2_with fail
    go_ret
    exact HEND.out _ _ (Int.emod_nonneg _ (by omega)) (.inl (Int.emod_lt_of_pos _ hn0)) (Below.refl _ _)
   ·obtain⟨i,hi⟩ : ∃i,p % m=i:=⟨_,rfl⟩
    obtain⟨j,hj⟩ : ∃j,(p*7+3) % m=j:=⟨_,rfl⟩
    obtain⟨d,hd⟩ : ∃d,p / m=d:=⟨_,rfl⟩
    have him:i<m:=hi▸Nat.mod_lt _ hm1;have hjm:j<m:=hj▸Nat.mod_lt _ hm1;have hdp:d≤p:=hd▸Nat.div_le_self _ _;obtain⟨b,off,c,rfl,hbr0,hbl,hc,c0,c1⟩:=HG.out i him;have hbr:b≠r:=Nat.ne_of_lt hbr0;obtain⟨b',off',c',he,hbr',hbl',hc',c0',c1'⟩:=HG.out j hjm;simp only[Option.some.injEq,Addr.mk.injEq,and_true] at he;obtain⟨rfl,rfl⟩:=he;have t1:((p:Int)).tmod (m:Int)=(i:Int):=by rw[←hi,Int.tmod_eq_emod_of_nonneg (by omega)];exact(Int.natCast_emod p m).symm
    have t4:((p:Int)*7+3).tmod (m:Int)=(j:Int):=by rw[←hj,Int.tmod_eq_emod_of_nonneg (by omega)];rw[Int.natCast_emod];simp
    have t5:((p:Int)).tdiv (m:Int)=(d:Int):=by rw[←hd,Int.tdiv_eq_ediv_of_nonneg (by omega)];exact(Int.natCast_ediv p m).symm
    have t2:IntKind.i64.wrap ((p:Int)*7)=(p:Int)*7:=IntWalk.i64_in _ (by omega);have t3:IntKind.i64.wrap ((p:Int)*7+3)=(p:Int)*7+3:=IntWalk.i64_in _ (by omega);have u1:IntKind.i64.wrap (c*131)=c*131:=IntWalk.i64_in _ (by omega);have u2:IntKind.i64.wrap (c'*1117)=c'*1117:=IntWalk.i64_in _ (by omega);have u3:IntKind.i64.wrap (c*131+c'*1117)=c*131+c'*1117:=IntWalk.i64_in _ (by omega);have u4:IntKind.i64.wrap ((p:Int)*29)=(p:Int)*29:=IntWalk.i64_in _ (by omega);have u5:IntKind.i64.wrap (c*131+c'*1117+(p:Int)*29)=c*131+c'*1117+(p:Int)*29:=IntWalk.i64_in _ (by omega);have u6:IntKind.i64.wrap ((d:Int)*53)=(d:Int)*53:=IntWalk.i64_in _ (by omega);have u7:IntKind.i64.wrap (c*131+c'*1117+(p:Int)*29+(d:Int)*53)=c*131+c'*1117+(p:Int)*29+(d:Int)*53:=IntWalk.i64_in _ (by omega);clear hi hj hd
    go_enter Tryz.func26,Tryz.ntmps26
    go_wp2_with fail
    go_region_held3 (fun w'=>w'.cell? ⟨r,0,none⟩=some (.slice (some ⟨b,off,none⟩) m cap)∧w'.cell? ⟨b,off+i,none⟩=some (.int .u8 c)∧w'.cell? ⟨b,off+j,none⟩=some (.int .u8 c'))
     (exact⟨ay (aX h0 (by simp)),ay (bf hc hbr),ay (bf hc' hbr)⟩)
     (fail)
    clear t1 t2 t3 t4 t5 u1 u2 u3 u4 u5 u6 u7;obtain⟨X,hX⟩ : ∃X:Int,c*131+c'*1117+(p:Int)*29+(d:Int)*53=X:=⟨_,rfl⟩
    have hX0:0≤X:=by omega
    have hX1:X<9223372036854775808:=by omega
    obtain⟨x0,x1⟩:=xor_bd X (X / 64) hX0 hX1 (by omega) (by omega);have HX:=zq hX;clear hX
    go_wp2_with fail
    go_ret
    refine HEND.out _ _ ?_ ?_ (Below.refl _ _).drew
    ·rw[HX.out]
     exact Int.tmod_nonneg _ x0
    ·rw[HX.out,Int.tmod_eq_emod_of_nonneg x0]
     exact .inl (Int.emod_lt_of_pos _ hn0)
end Go.Proofs.YtfahhonmiimmdaaGreat
