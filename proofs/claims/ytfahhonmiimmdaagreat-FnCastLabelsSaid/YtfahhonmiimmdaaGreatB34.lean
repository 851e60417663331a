/- Numbers are drawn from given bytes; types are drawn. And what else its parts name. -/
import Derived.Test.YtfahhonmiimmdaaGreatB48
import Derived.Test.YtfahhonmiimmdaaGreatB11
set_option linter.unusedSimpArgs false
set_option linter.unusedVariables false
set_option maxRecDepth 100000
set_option maxHeartbeats 16000000
namespace Go.Proofs.YtfahhonmiimmdaaGreat
open Go.RowKit
theorem vr (r:Nat)(y:Value)(w:World)(h:cd w r y)(hr:r≤w.heap.size):Calls Tryz.prog 25 #[y] w (uX w):=by
 obtain⟨a,n,cap,rfl,hn,hc,hg⟩:=h;unfold maxLen at hc;have HG:=zq hg;clear hg
 by_cases h2:2000<n
 ·have hd:decide ((n:Int)>2000)=true:=by simp;omega
  obtain⟨b,off,c,rfl,-⟩:=HG.out 0 (by omega);have h3:2000≤cap:=by omega
  go_enter Tryz.func25,Tryz.ntmps25
  go_wp2_with fail
  go_ret
  refine⟨w.heap.size,rfl,Nat.le_refl _,⟨by simp,.slice (some ⟨b,off,none⟩) 2000 cap,az 0,?_,az 1,aV 1⟩,ai⟩;refine⟨_,2000,cap,rfl,by omega,by unfold maxLen;omega,fun i hi=>?_⟩;obtain⟨b,off,c,e,hb,hl,hcell,c0,c1⟩:=HG.out i (by omega)
  exact⟨b,off,c,e,hl,by simp;omega,ah ai hcell,c0,c1⟩
 ·have hd:decide ((n:Int)>2000)=false:=by simp;omega
  go_enter Tryz.func25,Tryz.ntmps25
  go_wp2_with fail
  go_ret
  refine⟨w.heap.size,rfl,Nat.le_refl _,⟨by simp,.slice a n cap,az 0,?_,az 1,aV 1⟩,ai⟩;refine⟨_,n,cap,rfl,by omega,by unfold maxLen;omega,fun i hi=>?_⟩;obtain⟨b,off,c,e,hb,hl,hcell,c0,c1⟩:=HG.out i (by omega)
  exact⟨b,off,c,e,hl,by simp;omega,ah ai hcell,c0,c1⟩
theorem lN (r p:Nat)(w:World)(h:aQ w r p)(hp:p≤1000000000):Calls Tryz.prog 49 #[.pointer (some ⟨r,0,none⟩)] w (DT r p 14 w):=by
 have hrl:=h.1
 go_enter Tryz.func49,Tryz.ntmps49
 go_wp2_with fail
 refine(bJ (fun k=>1≤k∧k≤4) r p _ 5 5 _ (h.below aT) (by omega) (by omega) (by omega) (Nat.le_refl _) (by omega) (bp [3,2,4,1,3] (by simp) _ (by decide))).mono ?_;rintro e w1 ⟨k,rfl,⟨k1,k4⟩,hrd1,hch1⟩;obtain⟨d,rfl⟩:=Int.eq_ofNat_of_zero_le (show 0≤k by omega);have hw1:w.heap.size+2≤w1.heap.size:=by have:=hch1.size;simp at this;omega
 have x0:w1.cell? ⟨w.heap.size,0,none⟩=some (.int .i64 0):=hch1.cellne (by show w.heap.size≠r;omega) (ah ai (az 0));have x1:w1.cell? ⟨w.heap.size,1,none⟩=some (.slice none 0 0):=hch1.cellne (by show w.heap.size≠r;omega) (ah ai (az 1));have f0:w1.frozen? ⟨w.heap.size,0,none⟩=false:=(hch1.frone (by omega) (by simp;omega)).trans (cC ai (by simp) (aV 0));have f1:w1.frozen? ⟨w.heap.size,1,none⟩=false:=(hch1.frone (by omega) (by simp;omega)).trans (cC ai (by simp) (aV 1));have h24:2 ^ d≤2 ^ 4:=Nat.pow_le_pow_right (by omega) (by omega);have H24:=zq h24
 go_wp2_with fail
 refine(i4 d r (p+1) _ (by omega) (by omega) hrd1 (by have:=H24.out;omega)).mono ?_;intro e w2 hd2;obtain⟨t,v,q,rfl,hn,hv,hq,hrd2,hch2⟩:=hd2.mono (show 2 ^ d-1≤15 by omega) (show 2 ^ d≤16 by omega);clear h24 H24;obtain⟨kk,aa,nn,qq,rfl⟩:=hv.shape;have hw2:=hch2.size;replace f0:w2.frozen? ⟨w.heap.size,0,none⟩=false:=aR hch2 (by omega) x0 f0;replace f1:w2.frozen? ⟨w.heap.size,1,none⟩=false:=aR hch2 (by omega) x1 f1;replace x0:w2.cell? ⟨w.heap.size,0,none⟩=some (.int .i64 0):=aK hch2 (by omega) x0;replace x1:w2.cell? ⟨w.heap.size,1,none⟩=some (.slice none 0 0):=aK hch2 (by omega) x1
 go_wp2_with fail
 refine bodyPost_ret (v:=.agg #[.int .i64 kk,.slice aa nn qq]) (by simp[results,Tryz.results49,go_sem,x0,x1]) rfl ?_;refine⟨t,_,q,rfl,by omega,ao.lower ((hv.rep.setCell (by show w.heap.size<w1.heap.size;omega) _).setCell (by show w.heap.size<w1.heap.size;omega) _) (by omega),by omega,
   (hrd2.setCell (by show r<w.heap.size;omega) _).setCell (by show r<w.heap.size;omega) _,?_⟩
 exact((((Chg.of_below aT).trans hch1).trans hch2).trans' (Nat.le_refl _) _).trans' (Nat.le_refl _) _
def gV:Oper:=⟨some 6,.move (.tmp 1),3,"l2_terms.go:44",#[],none⟩
def gW:Oper:=⟨some 7,.binOp .lss 3 (.tmp 6) (.const (.int .i64 1)) 3,4,"l2_terms.go:44",#[⟨0,.data⟩],none⟩
def hG:Oper:=⟨some 8,.move (.tmp 7),4,"l2_terms.go:44",#[⟨1,.data⟩],none⟩
def oSt3:Oper:=⟨some 9,.fieldAddr 28 (.tmp 2) 0,0,"l2_terms.go:44",#[⟨2,.guard⟩],some (2,false)⟩
def oSt4:Oper:=⟨some 10,.load 3 (.tmp 9),3,"l2_terms.go:44",#[⟨3,.data⟩,⟨2,.guard⟩],some (2,false)⟩
def oSt5:Oper:=⟨some 11,.call {callee:=.value (.func 76),args:=#[.tmp 10],argTypes:=#[3]},3,"l2_terms.go:44",#[⟨4,.data⟩,⟨2,.chain⟩,⟨2,.guard⟩],some (2,false)⟩
def oSt6:Oper:=⟨some 12,.fieldAddr 28 (.tmp 2) 6,0,"l2_terms.go:44",#[⟨2,.guard⟩],some (2,false)⟩
def oSt7:Oper:=⟨some 13,.load 26 (.tmp 12),26,"l2_terms.go:44",#[⟨6,.data⟩,⟨2,.guard⟩],some (2,false)⟩
def oSt8:Oper:=⟨some 14,.call {callee:=.builtin .len,args:=#[.tmp 13],argTypes:=#[26]},3,"l2_terms.go:44",#[⟨7,.data⟩,⟨2,.guard⟩],some (2,false)⟩
def oSt9:Oper:=⟨some 15,.binOp .neq 3 (.tmp 11) (.tmp 14) 3,4,"l2_terms.go:44",#[⟨5,.data⟩,⟨8,.data⟩,⟨2,.guard⟩],some (2,false)⟩
def eX:Oper:=⟨some 16,.pick (.tmp 8) (.const (.bool true)) (.tmp 15),4,"l2_terms.go:44",#[⟨2,.data⟩,⟨9,.data⟩],none⟩
def eY:Oper:=⟨some 17,.move (.tmp 16),4,"l2_terms.go:44",#[⟨10,.data⟩,⟨5,.chain⟩],none⟩
def gX:Oper:=⟨some 18,.fieldAddr 28 (.tmp 2) 0,0,"l2_terms.go:44",#[⟨11,.guard⟩],some (11,false)⟩
def gY:Oper:=⟨some 19,.load 3 (.tmp 18),3,"l2_terms.go:44",#[⟨12,.data⟩,⟨11,.guard⟩],some (11,false)⟩
def gZ:Oper:=⟨some 20,.binOp .eql 3 (.tmp 19) (.const (.int .i64 14)) 3,4,"l2_terms.go:44",#[⟨13,.data⟩,⟨11,.guard⟩],some (11,false)⟩
def eZ:Oper:=⟨some 21,.pick (.tmp 17) (.const (.bool true)) (.tmp 20),4,"l2_terms.go:44",#[⟨11,.data⟩,⟨14,.data⟩],none⟩
def f9:Oper:=⟨some 22,.move (.tmp 21),4,"l2_terms.go:44",#[⟨15,.data⟩,⟨11,.chain⟩],none⟩
def ku:Oper:=⟨some 23,.load 28 (.tmp 2),28,"l2_terms.go:44",#[⟨16,.guard⟩],some (16,false)⟩
def kv:Oper:=⟨some 24,.call {callee:=.value (.func 78),args:=#[.tmp 23],argTypes:=#[28]},4,"l2_terms.go:44",#[⟨17,.data⟩,⟨16,.chain⟩,⟨16,.guard⟩],some (16,false)⟩
def kw:Oper:=⟨some 25,.unOp .not 4 (.tmp 24),4,"l2_terms.go:44",#[⟨18,.data⟩,⟨16,.guard⟩],some (16,false)⟩
def fb:Oper:=⟨some 26,.pick (.tmp 22) (.const (.bool true)) (.tmp 25),4,"l2_terms.go:44",#[⟨16,.data⟩,⟨19,.data⟩],none⟩
theorem oo (k d:Int)(m:Nat)(ow rk:Bool)(h0:(decide (d<1))=true):(false:Bool)=(decide (1≤d) && !(k==14)&&((aD k==(m:Int))&&ow)&&rk):=by
 first | (simp_all;done) | (simp_all;omega) | grind
theorem oq (k d:Int)(m:Nat)(ow rk:Bool)(h0:(decide (d<1))=false)(h1:((aD k)==(m:Int))=true)(h2:(k==14)=true):(false:Bool)=(decide (1≤d) && !(k==14)&&((aD k==(m:Int))&&ow)&&rk):=by
 first | (simp_all;done) | (simp_all;omega) | grind
theorem ot (k d:Int)(m:Nat)(ow rk:Bool)(h0:(decide (d<1))=false)(h1:((aD k)==(m:Int))=true)(h2:(k==14)=false)(h3:(ow)=true)(h4:rk=false):(false:Bool)=(decide (1≤d) && !(k==14)&&((aD k==(m:Int))&&ow)&&rk):=by
 first | (simp_all;done) | (simp_all;omega) | grind
theorem ou (k d:Int)(m:Nat)(ow rk:Bool)(h0:(decide (d<1))=false)(h1:((aD k)==(m:Int))=true)(h2:(k==14)=false)(h3:(ow)=true)(h4:rk=true):(true:Bool)=(decide (1≤d) && !(k==14)&&((aD k==(m:Int))&&ow)&&rk):=by
 first | (simp_all;done) | (simp_all;omega) | grind
theorem ox (k d:Int)(m:Nat)(ow rk:Bool)(h0:(decide (d<1))=false)(h1:((aD k)==(m:Int))=true)(h2:(k==14)=false)(h3:(ow)=false):(false:Bool)=(decide (1≤d) && !(k==14)&&((aD k==(m:Int))&&ow)&&rk):=by
 first | (simp_all;done) | (simp_all;omega) | grind
theorem oy (k d:Int)(m:Nat)(ow rk:Bool)(h0:(decide (d<1))=false)(h1:((aD k)==(m:Int))=false):(false:Bool)=(decide (1≤d) && !(k==14)&&((aD k==(m:Int))&&ow)&&rk):=by
 first | (simp_all;done) | (simp_all;omega) | grind
theorem kR (F:Nat→Prop)(t:Tm) : ∀(d:Int) (y:Value) (w:World),ax F w t y→0≤d→d≤100 →
  Calls Tryz.prog 63 #[y,.int .i64 d] w fun e w'=>e = .returned (.bool (t.shape 14 d))∧Below w.heap.size w w':=by
 intro d y w hy hd0 hd5;have IH : ∀t'∈t.kids,∀(d:Int) (y:Value) (W:World),ax F W t' y→0≤d→d≤100→Calls Tryz.prog 63 #[y,.int .i64 d] W fun e W'=>e = .returned (.bool (t'.shape 14 d))∧Below W.heap.size W W':=
  fun t' ht d y W a b c=>kR F t' d y W a b c
 have ho:=fun(hk:(t.kind==14)=false) W (h:Below w.heap.size w W)=>oa F t y W (hy.below h) hk;obtain⟨k,nm,u,tk,ta,tn,tq,fk,fa,fn,fq,l,c,m,q,rfl⟩:=hy.shape;obtain⟨r1,r2,r3,r4,r5,r6,r7,r8,r9,rn,rm,rq,hty,hsr,hks⟩:=hy.parts
 cases t with | mk kk nn uu tt ff ll ts=>
 simp only[Tm.kind,Tm.name,Tm.num,Tm.type,Tm.src,Tm.label,Tm.kids] at *;subst r1 r2 r3 r8;unfold Tm.shape;generalize (Tm.mk k nm u tt ff l ts).ownB=ow at *;obtain⟨rk,hrk⟩ : ∃r,r=Tm.shapes ts 14 (d-1):=⟨_,rfl⟩
 rw[←hrk,←r9];have HN:=zq r9;have HRK:=zq hrk;have HO:=zq ho;have IHH:=zq IH;unfold maxLen at rq;clear hrk ho IH hy r9 r4 r5 r6 r7 rn hty hsr;obtain⟨rr,hrr⟩ : ∃rr0:Bool,(decide (1≤d) && !(k==14)&&((aD k==(m:Int))&&ow)&&rk)=rr0:=⟨_,rfl⟩
 rw[hrr];have HT:=zq hrr;clear hrr
 go_enter Tryz.func63,Tryz.ntmps63
 rcases Bool.eq_false_or_eq_true (decide (d<1)) with q1 | q1
 ·skip
  go_wp2_with fail
  refine wp_region_noPanic ?_;refine wp_region_held_drew (S:=fun w'=>True) (by kernel_rfl) ?_ (fun hH0=>?_)
  ·exact trivial
  refine hwt 0 gV (.int .i64 d) hH0 ?_ ?_
  ·intro w' hSw;dsimp only[gV];go_simp
  try simp only[gV,hwA]
  refine hwt 1 gW (.bool true) hH0 ?_ ?_
  ·intro w' hSw;dsimp only[gW];go_simp
  try simp only[gW,hwA]
  refine hwt 2 hG (.bool true) hH0 ?_ ?_
  ·intro w' hSw;dsimp only[hG];go_simp
  try simp only[hG,hwA]
  refine hwn 3 oSt3 hH0 ?_
  try simp only[oSt3,hwA]
  refine hwn 4 oSt4 hH0 ?_
  try simp only[oSt4,hwA]
  refine hwn 5 oSt5 hH0 ?_
  try simp only[oSt5,hwA]
  refine hwn 6 oSt6 hH0 ?_
  try simp only[oSt6,hwA]
  refine hwn 7 oSt7 hH0 ?_
  try simp only[oSt7,hwA]
  refine hwn 8 oSt8 hH0 ?_
  try simp only[oSt8,hwA]
  refine hwn 9 oSt9 hH0 ?_
  try simp only[oSt9,hwA]
  refine hwt 10 eX (.bool true) hH0 ?_ ?_
  ·intro w' hSw;dsimp only[eX];go_simp
  try simp only[eX,hwA]
  refine hwt 11 eY (.bool true) hH0 ?_ ?_
  ·intro w' hSw;dsimp only[eY];go_simp
  try simp only[eY,hwA]
  refine hwn 12 gX hH0 ?_
  try simp only[gX,hwA]
  refine hwn 13 gY hH0 ?_
  try simp only[gY,hwA]
  refine hwn 14 gZ hH0 ?_
  try simp only[gZ,hwA]
  refine hwt 15 eZ (.bool true) hH0 ?_ ?_
  ·intro w' hSw;dsimp only[eZ];go_simp
  try simp only[eZ,hwA]
  refine hwt 16 f9 (.bool true) hH0 ?_ ?_
  ·intro w' hSw;dsimp only[f9];go_simp
  try simp only[f9,hwA]
  refine hwn 17 ku hH0 ?_
  try simp only[ku,hwA]
  refine hwn 18 kv hH0 ?_
  try simp only[kv,hwA]
  refine hwn 19 kw hH0 ?_
  try simp only[kw,hwA]
  refine hwt 20 fb (.bool true) hH0 ?_ ?_
  ·intro w' hSw;dsimp only[fb];go_simp
  try simp only[fb,hwA]
  refine wpAnyH_done (by kernel_rfl) ?_ _;refine NoPanic.normal ?_;clear hH0
  go_wp2_with fail
  refine bodyPost_ret (v:=.bool (false)) (by simp[results,Tryz.results63,go_sem,bne]) rfl ?_
  exact⟨au ((oo k d m ow rk q1).trans HT.out),ai.drew⟩
 ·skip
  rcases Bool.eq_false_or_eq_true ((aD k)==(m:Int)) with q2 | q2
  ·skip
   have nq2:((aD k) != (m:Int))=false:=by simp only[bne,q2];rfl
   rcases Bool.eq_false_or_eq_true (k==14) with q3 | q3
   ·skip
    have nq3:(k != 14)=false:=by simp only[bne,q3];rfl
    go_wp2_with fail
    have s0_:(World.alloc w (Obj.cells #[.int .i64 k,.string nm,.int .i64 u,.int .i64 tk,.slice ta tn tq,.int .i64 fk,.slice fa fn fq,.int .i64 l,.slice c m q] 28)).cell? ⟨w.heap.size,0,none⟩=some (.int .i64 k):=ap (by simp) 0;have s1_:(World.alloc w (Obj.cells #[.int .i64 k,.string nm,.int .i64 u,.int .i64 tk,.slice ta tn tq,.int .i64 fk,.slice fa fn fq,.int .i64 l,.slice c m q] 28)).cell? ⟨w.heap.size,8,none⟩=some (.slice c m q):=ap (by simp) 8;refine wp_region_noPanic ?_;refine wp_region_held_drew (S:=fun w'=>w'.cell? ⟨w.heap.size,0,none⟩=some (.int .i64 k)∧w'.cell? ⟨w.heap.size,8,none⟩=some (.slice c m q)) (by kernel_rfl) ?_ (fun hH0=>?_)
    ·exact⟨av (s0_),av (s1_)⟩
    refine hwt 0 gV (.int .i64 d) hH0 ?_ ?_
    ·intro w' hSw;dsimp only[gV];go_simp
    try simp only[gV,hwA]
    refine hwt 1 gW (.bool false) hH0 ?_ ?_
    ·intro w' hSw;dsimp only[gW];go_simp
    try simp only[gW,hwA]
    refine hwt 2 hG (.bool false) hH0 ?_ ?_
    ·intro w' hSw;dsimp only[hG];go_simp
    try simp only[hG,hwA]
    refine hwt 3 oSt3 (.pointer (some ⟨w.heap.size,0,none⟩)) hH0 ?_ ?_
    ·intro w' hSw;dsimp only[oSt3];go_simp
    try simp only[oSt3,hwA]
    refine hwt 4 oSt4 (.int .i64 k) hH0 ?_ ?_
    ·intro w' hSw;dsimp only[oSt4];go_simp
    try simp only[oSt4,hwA]
    refine hwt 6 oSt6 (.pointer (some ⟨w.heap.size,8,none⟩)) hH0 ?_ ?_
    ·intro w' hSw;dsimp only[oSt6];go_simp
    try simp only[oSt6,hwA]
    refine hwt 7 oSt7 (.slice c m q) hH0 ?_ ?_
    ·intro w' hSw;dsimp only[oSt7];go_simp
    try simp only[oSt7,hwA]
    refine hwt 8 oSt8 (.int .i64 (m:Int)) hH0 ?_ ?_
    ·intro w' hSw;dsimp only[oSt8];go_simp
    try simp only[oSt8,hwA]
    refine hwr 5 oSt5 (fun K hK=>?_)
    dsimp only[oSt5];go_simp
    go_at_call 76
    (with_reducible refine(cD k _).mono ?_)
    rintro e w1 ⟨rfl,hb1⟩
    go_wp2_with fail
    refine hK.out _ _ ?_ (fun hH1=>?_)
    ·exact⟨ah hb1 (av (s0_)),ah hb1 (av (s1_))⟩
    clear hK K hH0
    try simp only[oSt5,hwA]
    refine hwt 9 oSt9 (.bool false) hH1 ?_ ?_
    ·intro w' hSw;dsimp only[oSt9];go_simp
    try simp only[oSt9,hwA]
    refine hwt 10 eX (.bool false) hH1 ?_ ?_
    ·intro w' hSw;dsimp only[eX];go_simp
    try simp only[eX,hwA]
    refine hwt 11 eY (.bool false) hH1 ?_ ?_
    ·intro w' hSw;dsimp only[eY];go_simp
    try simp only[eY,hwA]
    refine hwt 12 gX (.pointer (some ⟨w.heap.size,0,none⟩)) hH1 ?_ ?_
    ·intro w' hSw;dsimp only[gX];go_simp
    try simp only[gX,hwA]
    refine hwt 13 gY (.int .i64 k) hH1 ?_ ?_
    ·intro w' hSw;dsimp only[gY];go_simp
    try simp only[gY,hwA]
    refine hwt 14 gZ (.bool true) hH1 ?_ ?_
    ·intro w' hSw;dsimp only[gZ];go_simp
    try simp only[gZ,hwA]
    refine hwt 15 eZ (.bool true) hH1 ?_ ?_
    ·intro w' hSw;dsimp only[eZ];go_simp
    try simp only[eZ,hwA]
    refine hwt 16 f9 (.bool true) hH1 ?_ ?_
    ·intro w' hSw;dsimp only[f9];go_simp
    try simp only[f9,hwA]
    refine hwn 17 ku hH1 ?_
    try simp only[ku,hwA]
    refine hwn 18 kv hH1 ?_
    try simp only[kv,hwA]
    refine hwn 19 kw hH1 ?_
    try simp only[kw,hwA]
    refine hwt 20 fb (.bool true) hH1 ?_ ?_
    ·intro w' hSw;dsimp only[fb];go_simp
    try simp only[fb,hwA]
    refine wpAnyH_done (by kernel_rfl) ?_ _;refine NoPanic.normal ?_;clear hH1 s0_ s1_;have hB:=(aj ai.drew hb1)
    have zw1:=hB.size
    go_wp2_with fail
    refine bodyPost_ret (v:=.bool (false)) (by simp[results,Tryz.results63,go_sem,bne]) rfl ?_
    exact⟨au ((oq k d m ow rk q1 q2 q3).trans HT.out),hB⟩
   ·skip
    have nq3:(k != 14)=true:=by simp only[bne,q3];rfl
    go_wp2_with fail
    have s0_:(World.alloc w (Obj.cells #[.int .i64 k,.string nm,.int .i64 u,.int .i64 tk,.slice ta tn tq,.int .i64 fk,.slice fa fn fq,.int .i64 l,.slice c m q] 28)).cell? ⟨w.heap.size,0,none⟩=some (.int .i64 k):=ap (by simp) 0;have s1_:(World.alloc w (Obj.cells #[.int .i64 k,.string nm,.int .i64 u,.int .i64 tk,.slice ta tn tq,.int .i64 fk,.slice fa fn fq,.int .i64 l,.slice c m q] 28)).cell? ⟨w.heap.size,8,none⟩=some (.slice c m q):=ap (by simp) 8;have s2_:(World.alloc w (Obj.cells #[.int .i64 k,.string nm,.int .i64 u,.int .i64 tk,.slice ta tn tq,.int .i64 fk,.slice fa fn fq,.int .i64 l,.slice c m q] 28)).cell? ⟨w.heap.size,1,none⟩=some (.string nm):=ap (by simp) 1;have s3_:(World.alloc w (Obj.cells #[.int .i64 k,.string nm,.int .i64 u,.int .i64 tk,.slice ta tn tq,.int .i64 fk,.slice fa fn fq,.int .i64 l,.slice c m q] 28)).cell? ⟨w.heap.size,2,none⟩=some (.int .i64 u):=ap (by simp) 2;have s4_:(World.alloc w (Obj.cells #[.int .i64 k,.string nm,.int .i64 u,.int .i64 tk,.slice ta tn tq,.int .i64 fk,.slice fa fn fq,.int .i64 l,.slice c m q] 28)).cell? ⟨w.heap.size,3,none⟩=some (.int .i64 tk):=ap (by simp) 3;have s5_:(World.alloc w (Obj.cells #[.int .i64 k,.string nm,.int .i64 u,.int .i64 tk,.slice ta tn tq,.int .i64 fk,.slice fa fn fq,.int .i64 l,.slice c m q] 28)).cell? ⟨w.heap.size,4,none⟩=some (.slice ta tn tq):=ap (by simp) 4;have s6_:(World.alloc w (Obj.cells #[.int .i64 k,.string nm,.int .i64 u,.int .i64 tk,.slice ta tn tq,.int .i64 fk,.slice fa fn fq,.int .i64 l,.slice c m q] 28)).cell? ⟨w.heap.size,5,none⟩=some (.int .i64 fk):=ap (by simp) 5;have s7_:(World.alloc w (Obj.cells #[.int .i64 k,.string nm,.int .i64 u,.int .i64 tk,.slice ta tn tq,.int .i64 fk,.slice fa fn fq,.int .i64 l,.slice c m q] 28)).cell? ⟨w.heap.size,6,none⟩=some (.slice fa fn fq):=ap (by simp) 6;have s8_:(World.alloc w (Obj.cells #[.int .i64 k,.string nm,.int .i64 u,.int .i64 tk,.slice ta tn tq,.int .i64 fk,.slice fa fn fq,.int .i64 l,.slice c m q] 28)).cell? ⟨w.heap.size,7,none⟩=some (.int .i64 l):=ap (by simp) 7
    have hS0:=zq (show(World.drew (World.alloc w (Obj.cells #[.int .i64 k,.string nm,.int .i64 u,.int .i64 tk,.slice ta tn tq,.int .i64 fk,.slice fa fn fq,.int .i64 l,.slice c m q] 28))).cell? ⟨w.heap.size,0,none⟩=some (.int .i64 k)∧(World.drew (World.alloc w (Obj.cells #[.int .i64 k,.string nm,.int .i64 u,.int .i64 tk,.slice ta tn tq,.int .i64 fk,.slice fa fn fq,.int .i64 l,.slice c m q] 28))).cell? ⟨w.heap.size,8,none⟩=some (.slice c m q)∧(World.drew (World.alloc w (Obj.cells #[.int .i64 k,.string nm,.int .i64 u,.int .i64 tk,.slice ta tn tq,.int .i64 fk,.slice fa fn fq,.int .i64 l,.slice c m q] 28))).cell? ⟨w.heap.size,1,none⟩=some (.string nm)∧(World.drew (World.alloc w (Obj.cells #[.int .i64 k,.string nm,.int .i64 u,.int .i64 tk,.slice ta tn tq,.int .i64 fk,.slice fa fn fq,.int .i64 l,.slice c m q] 28))).cell? ⟨w.heap.size,2,none⟩=some (.int .i64 u)∧(World.drew (World.alloc w (Obj.cells #[.int .i64 k,.string nm,.int .i64 u,.int .i64 tk,.slice ta tn tq,.int .i64 fk,.slice fa fn fq,.int .i64 l,.slice c m q] 28))).cell? ⟨w.heap.size,3,none⟩=some (.int .i64 tk)∧(World.drew (World.alloc w (Obj.cells #[.int .i64 k,.string nm,.int .i64 u,.int .i64 tk,.slice ta tn tq,.int .i64 fk,.slice fa fn fq,.int .i64 l,.slice c m q] 28))).cell? ⟨w.heap.size,4,none⟩=some (.slice ta tn tq)∧(World.drew (World.alloc w (Obj.cells #[.int .i64 k,.string nm,.int .i64 u,.int .i64 tk,.slice ta tn tq,.int .i64 fk,.slice fa fn fq,.int .i64 l,.slice c m q] 28))).cell? ⟨w.heap.size,5,none⟩=some (.int .i64 fk)∧(World.drew (World.alloc w (Obj.cells #[.int .i64 k,.string nm,.int .i64 u,.int .i64 tk,.slice ta tn tq,.int .i64 fk,.slice fa fn fq,.int .i64 l,.slice c m q] 28))).cell? ⟨w.heap.size,6,none⟩=some (.slice fa fn fq)∧(World.drew (World.alloc w (Obj.cells #[.int .i64 k,.string nm,.int .i64 u,.int .i64 tk,.slice ta tn tq,.int .i64 fk,.slice fa fn fq,.int .i64 l,.slice c m q] 28))).cell? ⟨w.heap.size,7,none⟩=some (.int .i64 l) from⟨av (s0_),av (s1_),av (s2_),av (s3_),av (s4_),av (s5_),av (s6_),av (s7_),av (s8_)⟩)
    have hSb:=zq (show ∀X Y:World,Below X.heap.size X Y→(X.cell? ⟨w.heap.size,0,none⟩=some (.int .i64 k)∧X.cell? ⟨w.heap.size,8,none⟩=some (.slice c m q)∧X.cell? ⟨w.heap.size,1,none⟩=some (.string nm)∧X.cell? ⟨w.heap.size,2,none⟩=some (.int .i64 u)∧X.cell? ⟨w.heap.size,3,none⟩=some (.int .i64 tk)∧X.cell? ⟨w.heap.size,4,none⟩=some (.slice ta tn tq)∧X.cell? ⟨w.heap.size,5,none⟩=some (.int .i64 fk)∧X.cell? ⟨w.heap.size,6,none⟩=some (.slice fa fn fq)∧X.cell? ⟨w.heap.size,7,none⟩=some (.int .i64 l))→(Y.cell? ⟨w.heap.size,0,none⟩=some (.int .i64 k)∧Y.cell? ⟨w.heap.size,8,none⟩=some (.slice c m q)∧Y.cell? ⟨w.heap.size,1,none⟩=some (.string nm)∧Y.cell? ⟨w.heap.size,2,none⟩=some (.int .i64 u)∧Y.cell? ⟨w.heap.size,3,none⟩=some (.int .i64 tk)∧Y.cell? ⟨w.heap.size,4,none⟩=some (.slice ta tn tq)∧Y.cell? ⟨w.heap.size,5,none⟩=some (.int .i64 fk)∧Y.cell? ⟨w.heap.size,6,none⟩=some (.slice fa fn fq)∧Y.cell? ⟨w.heap.size,7,none⟩=some (.int .i64 l)) from fun X Y h s=>⟨ah h s.1,ah h s.2.1,ah h s.2.2.1,ah h s.2.2.2.1,ah h s.2.2.2.2.1,ah h s.2.2.2.2.2.1,ah h s.2.2.2.2.2.2.1,ah h s.2.2.2.2.2.2.2.1,ah h s.2.2.2.2.2.2.2.2⟩)
    go_region_held3 (fun w'=>w'.cell? ⟨w.heap.size,0,none⟩=some (.int .i64 k)∧w'.cell? ⟨w.heap.size,8,none⟩=some (.slice c m q)∧w'.cell? ⟨w.heap.size,1,none⟩=some (.string nm)∧w'.cell? ⟨w.heap.size,2,none⟩=some (.int .i64 u)∧w'.cell? ⟨w.heap.size,3,none⟩=some (.int .i64 tk)∧w'.cell? ⟨w.heap.size,4,none⟩=some (.slice ta tn tq)∧w'.cell? ⟨w.heap.size,5,none⟩=some (.int .i64 fk)∧w'.cell? ⟨w.heap.size,6,none⟩=some (.slice fa fn fq)∧w'.cell? ⟨w.heap.size,7,none⟩=some (.int .i64 l))
     (repeat (first | with_reducible refine hSb.out _ _ hb3 ?_ | with_reducible refine hSb.out _ _ hb2 ?_ | with_reducible exact hS0.out))
     (first | (go_at_call 76;((with_reducible refine(cD k _).mono ?_);rintro e w2 ⟨rfl,hb2⟩)) | (go_at_call 78;((with_reducible refine(HO.out q3 _ (aj ai.drew hb2)).mono ?_);rintro e w3 ⟨rfl,hb3⟩)))
    clear s0_ s1_ s2_ s3_ s4_ s5_ s6_ s7_ s8_;have hB:=(aj (aj ai.drew hb2) hb3)
    have zw3:=hB.size;have c0_8:w3.cell? ⟨w.heap.size,8,none⟩=some (.slice c m q):=ah hb3 (ah hb2 (av (ap (by simp) 8)));have d0_w3:=World.block_lt_of_cell? _ _ c0_8
    rcases Bool.eq_false_or_eq_true (ow) with q4 | q4
    ·(try rw[q4])
     have Hq4:=zq q4;clear q4
     go_wp2_with fail
     go_loopw [5] (fun i wr=>∃j:Nat,j≤m∧i = .int .i64 j∧Below w.heap.size w wr∧wr.cell? ⟨w.heap.size,8,none⟩=some (.slice c m q)∧Hid (rk=Tm.shapes (ts.drop j) 14 (d-1))) (fun i _=>m-(intOf i).toNat)
     case atStart=>exact⟨0,by omega,rfl,hB,c0_8,HRK.out⟩
     case round=>
      obtain⟨j,hj,rfl,hB,x0,hR0⟩:=hrel;have lx1:=World.block_lt_of_cell? _ _ x0
      by_cases hlt:j<m
      ·have hjt:j<ts.length:=by have:=HN.out;omega
       obtain⟨b,off,k0,nm0,u0,tk0,ta0,tn0,tq0,fk0,fa0,fn0,fq0,l0,a0,m0,q0,rfl,lb,e0,e1,e2,e3,e4,e5,e6,e7,e8,ht⟩:=hks.at hB hjt;have hcall:=IHH.out ts[j] (List.getElem_mem hjt) (d-1);have hstep:=hR0.out.trans (Tm.shapes_drop ts 14 (d-1) j hjt);generalize ts[j].shape 14 (d-1)=r at hcall hstep;have HC:=zq hcall;have HS:=zq hstep;clear hcall hstep hR0;have hwr:=IntWalk.i64_in (d-1) (by omega)
       go_wp2_with fail
       refine(HC.out _ _ ht (by have h:=q1;simp only[decide_eq_false_iff_not] at h;omega) (by have h:=q1;simp only[decide_eq_false_iff_not] at h;omega)).mono ?_;rintro e w4 ⟨rfl,hb4⟩;replace hB:=(aj hB hb4)
       have zw4:=hB.size;replace x0:=ah hb4 x0;have d0_w4:=World.block_lt_of_cell? _ _ x0
       rcases Bool.eq_false_or_eq_true (r) with q5 | q5
       ·(try rw[q5])
        have Hq5:=zq q5;clear q5;have hwr:=IntWalk.i64_in ((j:Int)+1) (by omega)
        go_wp2_with fail
        go_roundw
        case rel=>exact⟨j+1,by omega,by go_num,hB,x0,(by rw[Hid,HS.out,Hq5.out];rfl)⟩
        case measure=>simp[intOf];omega
       ·(try rw[q5])
        have Hq5:=zq q5;clear q5
        go_wp2_with fail
        refine bodyPost_ret (v:=.bool (false)) (by simp[results,Tryz.results63,go_sem,bne]) rfl ?_
        exact⟨au ((ot k d m ow rk q1 q2 q3 Hq4.out (by rw[HS.out,Hq5.out];rfl)).trans HT.out),hB⟩
      ·skip
       have HRK:Hid (rk=true):=zq (by rw[hR0.out,List.drop_eq_nil_of_le (by have:=HN.out;omega)];unfold Tm.shapes;rfl)
       go_wp2_with fail
       refine bodyPost_ret (v:=.bool (true)) (by simp[results,Tryz.results63,go_sem,bne]) rfl ?_
       exact⟨au ((ou k d m ow rk q1 q2 q3 Hq4.out HRK.out).trans HT.out),hB⟩
    ·(try rw[q4])
     have Hq4:=zq q4;clear q4
     go_wp2_with fail
     refine bodyPost_ret (v:=.bool (false)) (by simp[results,Tryz.results63,go_sem,bne]) rfl ?_
     exact⟨au ((ox k d m ow rk q1 q2 q3 Hq4.out).trans HT.out),hB⟩
  ·skip
   have nq2:((aD k) != (m:Int))=true:=by simp only[bne,q2];rfl
   go_wp2_with fail
   have s0_:(World.alloc w (Obj.cells #[.int .i64 k,.string nm,.int .i64 u,.int .i64 tk,.slice ta tn tq,.int .i64 fk,.slice fa fn fq,.int .i64 l,.slice c m q] 28)).cell? ⟨w.heap.size,0,none⟩=some (.int .i64 k):=ap (by simp) 0;have s1_:(World.alloc w (Obj.cells #[.int .i64 k,.string nm,.int .i64 u,.int .i64 tk,.slice ta tn tq,.int .i64 fk,.slice fa fn fq,.int .i64 l,.slice c m q] 28)).cell? ⟨w.heap.size,8,none⟩=some (.slice c m q):=ap (by simp) 8;refine wp_region_noPanic ?_;refine wp_region_held_drew (S:=fun w'=>w'.cell? ⟨w.heap.size,0,none⟩=some (.int .i64 k)∧w'.cell? ⟨w.heap.size,8,none⟩=some (.slice c m q)) (by kernel_rfl) ?_ (fun hH0=>?_)
   ·exact⟨av (s0_),av (s1_)⟩
   refine hwt 0 gV (.int .i64 d) hH0 ?_ ?_
   ·intro w' hSw;dsimp only[gV];go_simp
   try simp only[gV,hwA]
   refine hwt 1 gW (.bool false) hH0 ?_ ?_
   ·intro w' hSw;dsimp only[gW];go_simp
   try simp only[gW,hwA]
   refine hwt 2 hG (.bool false) hH0 ?_ ?_
   ·intro w' hSw;dsimp only[hG];go_simp
   try simp only[hG,hwA]
   refine hwt 3 oSt3 (.pointer (some ⟨w.heap.size,0,none⟩)) hH0 ?_ ?_
   ·intro w' hSw;dsimp only[oSt3];go_simp
   try simp only[oSt3,hwA]
   refine hwt 4 oSt4 (.int .i64 k) hH0 ?_ ?_
   ·intro w' hSw;dsimp only[oSt4];go_simp
   try simp only[oSt4,hwA]
   refine hwt 6 oSt6 (.pointer (some ⟨w.heap.size,8,none⟩)) hH0 ?_ ?_
   ·intro w' hSw;dsimp only[oSt6];go_simp
   try simp only[oSt6,hwA]
   refine hwt 7 oSt7 (.slice c m q) hH0 ?_ ?_
   ·intro w' hSw;dsimp only[oSt7];go_simp
   try simp only[oSt7,hwA]
   refine hwt 8 oSt8 (.int .i64 (m:Int)) hH0 ?_ ?_
   ·intro w' hSw;dsimp only[oSt8];go_simp
   try simp only[oSt8,hwA]
   refine hwr 5 oSt5 (fun K hK=>?_)
   dsimp only[oSt5];go_simp
   go_at_call 76
   (with_reducible refine(cD k _).mono ?_)
   rintro e w5 ⟨rfl,hb5⟩
   go_wp2_with fail
   refine hK.out _ _ ?_ (fun hH1=>?_)
   ·exact⟨ah hb5 (av (s0_)),ah hb5 (av (s1_))⟩
   clear hK K hH0
   try simp only[oSt5,hwA]
   refine hwt 9 oSt9 (.bool true) hH1 ?_ ?_
   ·intro w' hSw;dsimp only[oSt9];go_simp
   try simp only[oSt9,hwA]
   refine hwt 10 eX (.bool true) hH1 ?_ ?_
   ·intro w' hSw;dsimp only[eX];go_simp
   try simp only[eX,hwA]
   refine hwt 11 eY (.bool true) hH1 ?_ ?_
   ·intro w' hSw;dsimp only[eY];go_simp
   try simp only[eY,hwA]
   refine hwn 12 gX hH1 ?_
   try simp only[gX,hwA]
   refine hwn 13 gY hH1 ?_
   try simp only[gY,hwA]
   refine hwn 14 gZ hH1 ?_
   try simp only[gZ,hwA]
   refine hwt 15 eZ (.bool true) hH1 ?_ ?_
   ·intro w' hSw;dsimp only[eZ];go_simp
   try simp only[eZ,hwA]
   refine hwt 16 f9 (.bool true) hH1 ?_ ?_
   ·intro w' hSw;dsimp only[f9];go_simp
   try simp only[f9,hwA]
   refine hwn 17 ku hH1 ?_
   try simp only[ku,hwA]
   refine hwn 18 kv hH1 ?_
   try simp only[kv,hwA]
   refine hwn 19 kw hH1 ?_
   try simp only[kw,hwA]
   refine hwt 20 fb (.bool true) hH1 ?_ ?_
   ·intro w' hSw;dsimp only[fb];go_simp
   try simp only[fb,hwA]
   refine wpAnyH_done (by kernel_rfl) ?_ _;refine NoPanic.normal ?_;clear hH1 s0_ s1_;have hB:=(aj ai.drew hb5)
   have zw5:=hB.size
   go_wp2_with fail
   refine bodyPost_ret (v:=.bool (false)) (by simp[results,Tryz.results63,go_sem,bne]) rfl ?_
   exact⟨au ((oy k d m ow rk q1 q2).trans HT.out),hB⟩
termination_by SizeOf.sizeOf t
decreasing_by exact Tm.kid_lt ht
theorem tu (v:Bool):(v:Bool)=(v):=by
 rfl
theorem i9 (F:Nat→Prop)(t:Tm)(y:Value)(w:World)(hy:ax F w t y) :
  Calls Tryz.prog 15 #[y] w fun e w'=>e = .returned (.bool (t.castValid))∧Below w.heap.size w w':=by
 have hv:(t.scan 13 200 40 1 0).1=t.castValid:=by
  have h:=(Tm.scan_eq t 13 200 40 1 0 (by omega)).1;unfold Tm.castValid;rw[h]
  simp
 have h1:=fun W (h:Below w.heap.size w W) (r:Nat) (hr:w.heap.size≤r) (hr2:r<W.heap.size) (hc:W.cell? ⟨r,0,none⟩=some (.int .i64 0)) (hf:W.frozen? ⟨r,0,none⟩=false)=>
  (pa r 13 200 40 (by omega) (by omega) t 1 0 (by omega) (by omega) (by omega) y W (hy.move (G:=(· ≠ r)) ⟨h.size,fun b _ hl=>by omega,fun b _ hl=>h.block b hl⟩) hc hf hr2).mono
   (R':=fun e W'=>e = .returned (.bool t.castValid)∧Chg [r] W W') (fun e W' h=>⟨hv▸h.1,h.2.1⟩)
 obtain⟨k,nm,u,tk,ta,tn,tq,fk,fa,fn,fq,l,c,m,q,rfl⟩:=hy.shape;generalize t.castValid=v at *;have H1:=zq h1;clear h1 hy hv;obtain⟨rr,hrr⟩ : ∃rr0:Bool,(v)=rr0:=⟨_,rfl⟩
 rw[hrr];have HT:=zq hrr;clear hrr
 go_enter Tryz.func15,Tryz.ntmps15
 go_wp2_with fail
 refine(H1.out _ aT (w.heap.size+1) (by simp) (by simp) (ap (by simp) 0) (dP (by simp) 0)).mono ?_;rintro e w1 ⟨rfl,hb1⟩;have hB:=(bchg aT hb1 (by omega) (Nat.le_refl _))
 have zw1:=hB.size
 go_wp2_with fail
 refine bodyPost_ret (v:=.bool (v)) (by simp[results,Tryz.results15,go_sem,bne]) rfl ?_
 exact⟨au ((tu v ).trans HT.out),hB⟩
def fm (F:Nat→Prop)(B:Nat)(e:TypeId)(sz:Nat)(w:World)(v:Value)(n:Nat)(rows:List (List C)):Prop:=
 rows.length=n∧∃xs,w.ownsRow B e sz v n xs∧aS (fun b=>F b∧v.ownBlock≠some b) w rows xs
theorem fm.nil {F:Nat→Prop}{B:Nat}{e:TypeId}{sz:Nat}{w:World}:fm F B e sz w (.slice none 0 0) 0 []:=⟨rfl,[],World.ownsRow_nil w B e sz,rfl⟩
theorem fm.below {F:Nat→Prop}{B:Nat}{e:TypeId}{sz n:Nat}{w w':World}{v:Value}{rows:List (List C)}(h:fm F B e sz w v n rows)(k:Below w.heap.size w w'):fm F B e sz w' v n rows:=by
 obtain⟨hl,xs,h1,h2⟩:=h
 exact⟨hl,xs,aP h1 k,h2.move (.below k) _ _⟩
theorem fm.shape {F:Nat→Prop}{B:Nat}{e:TypeId}{sz n:Nat}{w:World}{v:Value}{rows:List (List C)}(h:fm F B e sz w v n rows) : ∃a q,v = .slice a n q:=by
 obtain⟨hl,xs,⟨h1,h2 | ⟨g,cap,cur,h2,hB,hg,hn,hc,hs,ht⟩⟩,-⟩:=h
 ·exact⟨none,0,by rw[h2.1,h2.2]⟩
 ·exact⟨_,cap,h2⟩
theorem fm.push {F:Nat→Prop}{B g cap n sz:Nat}{e:TypeId}{wr W w2:World}{v:Value}{rows:List (List C)}{xs ys:List Value}{rw':List C}(hl:rows.length=n)(hv:aS (fun b=>F b∧v.ownBlock≠some b) wr rows xs)
  (hb:Below wr.heap.size wr W) (hr:bz (fun b=>F b∧v.ownBlock≠some b) W rw' ys)
  (hown:w2.ownsRow B e sz (.slice (some ⟨g,0,none⟩) (n+1) cap) (n+1) (xs++ys)) (hgrow:W.grownBy w2 v.ownBlock) (hat:v.ownBlock=some g∨g=W.heap.size) :
  fm F B e sz w2 (.slice (some ⟨g,0,none⟩) (n+1) cap) (n+1) (rows ++ [rw']):=by
 have kk:bl (fun b=>F b∧v.ownBlock≠some b) (fun b=>F b∧(Value.slice (some ⟨g,0,none⟩) (n+1) cap).ownBlock≠some b) W w2:=by
  refine⟨hgrow.size,fun b hb hl=>⟨hb.1,fun e=>?_⟩,fun b hb hl=>hgrow.block b hl (fun e=>hb.2 e.symm)⟩;simp only[Value.ownBlock,Option.some.injEq] at e;subst e
  rcases hat with h | h
  ·exact hb.2 h
  ·omega
 exact⟨by simp[hl],xs++ys,hown,aS.append rows [rw'] xs ys ((hv.move (.below hb) _ _).move kk _ _) (aS.one (hr.move kk))⟩
theorem fm.rep {F:Nat→Prop}{B:Nat}{e:TypeId}{sz n:Nat}{w:World}{v:Value}{rows:List (List C)}(h:fm F B e sz w v n rows)(hF : ∀b,B≤b→F b):aH F w (.sl rows) v:=by
 obtain⟨hl,xs,h1,h2⟩:=h;subst hl;obtain⟨hx,h3 | ⟨g,cap,cur,h3,hB,hg,hn,hc,hs,ht⟩⟩:=h1
 ·obtain⟨rfl,h4⟩:=h3
  have:rows = []:=List.length_eq_zero_iff.1 h4;subst this;unfold aH
  exact⟨none,0,rfl,Nat.le_refl _,by unfold maxLen;omega,.inl rfl⟩
 ·subst h3
  have hcl : ∀j u,xs[j]?=some u→w.cell? ⟨g,j,none⟩=some u:=by
   intro j u hj;subst ht;simp only[World.cell?,hg];rw[List.getElem?_take] at hj
   split at hj
   ·simpa using hj
   ·cases hj
  unfold aH
  exact⟨_,cap,rfl,hn,hc,.inr ⟨g,0,rfl,hF g hB,(Array.getElem?_eq_some_iff.1 hg).1,aS.rows rows xs 0 (h2.move (.weaken fun _ hb _=>hb.1) _ _) (fun j u hj=>by simpa using hcl j u hj)⟩⟩
def BdG (F:Nat→Prop)(B:Nat)(w:World)(v:Value)(bs:List Bd):Prop:=∃xs,w.ownsRow B 99 3 v bs.length xs∧aW (fun b=>F b∧v.ownBlock≠some b) w bs xs
theorem BdG.none {F:Nat→Prop}{B:Nat}{w:World}:BdG F B w (.slice none 0 0) []:=⟨[],World.ownsRow_nil w B _ _,rfl⟩
theorem BdG.below {F:Nat→Prop}{B:Nat}{w w':World}{v:Value}{bs:List Bd}(h:BdG F B w v bs)(k:Below w.heap.size w w'):BdG F B w' v bs:=by
 obtain⟨xs,h1,h2⟩:=h
 exact⟨xs,aP h1 k,h2.move (.below k) _ _⟩
theorem BdG.push {F:Nat→Prop}{B:Nat}{W w2:World}{v v':Value}{bs cs:List Bd}{xs ys:List Value}(hv:aW (fun b=>F b∧v.ownBlock≠some b) W bs xs)(hc:aW (fun b=>F b∧v.ownBlock≠some b) W cs ys)
  (hown:w2.ownsRow B 99 3 v' (bs.length+cs.length) (xs++ys)) (hgrow:W.grownBy w2 v.ownBlock) (hat:v'.ownBlock=v.ownBlock∨v'.ownBlock=some W.heap.size) :
  BdG F B w2 v' (bs++cs):=by
 have kk:bl (fun b=>F b∧v.ownBlock≠some b) (fun b=>F b∧v'.ownBlock≠some b) W w2:=by
  refine⟨hgrow.size,fun b hb hl=>⟨hb.1,fun e=>?_⟩,fun b hb hl=>hgrow.block b hl (fun e=>hb.2 e.symm)⟩
  rcases hat with h | h
  ·exact hb.2 (h▸e)
  ·rw[h] at e
   simp only[Option.some.injEq] at e
   omega
 exact⟨xs++ys,by simpa using hown,aW.append bs cs xs ys (hv.move kk _ _) (hc.move kk _ _)⟩
theorem BdG.shape {F:Nat→Prop}{B:Nat}{w:World}{v:Value}{bs:List Bd}(h:BdG F B w v bs) : ∃a q,v = .slice a bs.length q:=by
 obtain⟨xs,⟨h1,h2 | ⟨g,cap,cur,h2,hB,hg,hn,hc,hs,ht⟩⟩,-⟩:=h
 ·exact⟨Option.none,0,by rw[h2.1,h2.2]⟩
 ·exact⟨_,cap,h2⟩
theorem BdG.rep {F:Nat→Prop}{B:Nat}{w:World}{v:Value}{bs:List Bd}(h:BdG F B w v bs):aE (fun b=>F b∨B≤b) w bs v:=by
 obtain⟨a,q,rfl⟩:=h.shape;obtain⟨xs,h1,h2⟩:=h;have h1':=h1;obtain⟨hx,h3 | ⟨g,cap,cur,h3,hB,hg,hn,hc,hs,ht⟩⟩:=h1
 ·obtain⟨h3,h4⟩:=h3
  simp only[Value.slice.injEq] at h3;obtain⟨rfl,-,rfl⟩:=h3;have:bs = []:=List.length_eq_zero_iff.1 h4;subst this;unfold aE aH
  exact⟨Option.none,0,rfl,Nat.le_refl _,by unfold maxLen;omega,.inl rfl⟩
 ·simp only[Value.slice.injEq] at h3
  obtain⟨rfl,-,rfl⟩:=h3;have hcl:=eM h1';unfold aE aH;refine⟨_,q,by rw[Bd.rows_length],by rw[Bd.rows_length];exact hn,hc,.inr ⟨g,0,rfl,.inr hB,(Array.getElem?_eq_some_iff.1 hg).1,?_⟩⟩
  exact aW.rows bs xs 0 (h2.move (.weaken fun _ hb _=>.inl hb.1) _ _) (fun j u hj=>by simpa using hcl j u hj)
end Go.Proofs.YtfahhonmiimmdaaGreat
