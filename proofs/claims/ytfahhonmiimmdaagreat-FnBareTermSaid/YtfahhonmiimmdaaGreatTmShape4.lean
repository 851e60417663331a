/- The shape of a term, by the reference. -/
import Derived.Test.YtfahhonmiimmdaaGreatB7
import Derived.Test.YtfahhonmiimmdaaGreatB7
set_option linter.unusedSimpArgs false
set_option linter.unusedVariables false
set_option maxRecDepth 100000
set_option maxHeartbeats 16000000
namespace Go.Proofs.YtfahhonmiimmdaaGreat
open Go.RowKit
def dk:Oper:=⟨some 6,.move (.tmp 1),3,"l4_casts.go:24",#[],none⟩
def dl:Oper:=⟨some 7,.binOp .lss 3 (.tmp 6) (.const (.int .i64 1)) 3,4,"l4_casts.go:24",#[⟨0,.data⟩],none⟩
def dm:Oper:=⟨some 8,.move (.tmp 7),4,"l4_casts.go:24",#[⟨1,.data⟩],none⟩
def dB:Oper:=⟨some 9,.fieldAddr 28 (.tmp 2) 0,0,"l4_casts.go:24",#[⟨2,.guard⟩],some (2,false)⟩
def dC:Oper:=⟨some 10,.load 3 (.tmp 9),3,"l4_casts.go:24",#[⟨3,.data⟩,⟨2,.guard⟩],some (2,false)⟩
def dD:Oper:=⟨some 11,.call {callee:=.value (.func 76),args:=#[.tmp 10],argTypes:=#[3]},3,"l4_casts.go:24",#[⟨4,.data⟩,⟨2,.chain⟩,⟨2,.guard⟩],some (2,false)⟩
def dE:Oper:=⟨some 12,.fieldAddr 28 (.tmp 2) 6,0,"l4_casts.go:24",#[⟨2,.guard⟩],some (2,false)⟩
def dF:Oper:=⟨some 13,.load 26 (.tmp 12),26,"l4_casts.go:24",#[⟨6,.data⟩,⟨2,.guard⟩],some (2,false)⟩
def dG:Oper:=⟨some 14,.call {callee:=.builtin .len,args:=#[.tmp 13],argTypes:=#[26]},3,"l4_casts.go:24",#[⟨7,.data⟩,⟨2,.guard⟩],some (2,false)⟩
def dH:Oper:=⟨some 15,.binOp .neq 3 (.tmp 11) (.tmp 14) 3,4,"l4_casts.go:24",#[⟨5,.data⟩,⟨8,.data⟩,⟨2,.guard⟩],some (2,false)⟩
def cD:Oper:=⟨some 16,.pick (.tmp 8) (.const (.bool true)) (.tmp 15),4,"l4_casts.go:24",#[⟨2,.data⟩,⟨9,.data⟩],none⟩
def cE:Oper:=⟨some 17,.move (.tmp 16),4,"l4_casts.go:24",#[⟨10,.data⟩,⟨5,.chain⟩],none⟩
def cP:Oper:=⟨some 18,.fieldAddr 28 (.tmp 2) 0,0,"l4_casts.go:24",#[⟨11,.guard⟩],some (11,false)⟩
def cQ:Oper:=⟨some 19,.load 3 (.tmp 18),3,"l4_casts.go:24",#[⟨12,.data⟩,⟨11,.guard⟩],some (11,false)⟩
def cR:Oper:=⟨some 20,.binOp .eql 3 (.tmp 19) (.const (.int .i64 13)) 3,4,"l4_casts.go:24",#[⟨13,.data⟩,⟨11,.guard⟩],some (11,false)⟩
def cF:Oper:=⟨some 21,.pick (.tmp 17) (.const (.bool true)) (.tmp 20),4,"l4_casts.go:24",#[⟨11,.data⟩,⟨14,.data⟩],none⟩
def cG:Oper:=⟨some 22,.move (.tmp 21),4,"l4_casts.go:24",#[⟨15,.data⟩,⟨11,.chain⟩],none⟩
def cY:Oper:=⟨some 23,.fieldAddr 28 (.tmp 2) 0,0,"l4_casts.go:24",#[⟨16,.guard⟩],some (16,false)⟩
def cZ:Oper:=⟨some 24,.load 3 (.tmp 23),3,"l4_casts.go:24",#[⟨17,.data⟩,⟨16,.guard⟩],some (16,false)⟩
def d9:Oper:=⟨some 25,.binOp .eql 3 (.tmp 24) (.const (.int .i64 14)) 3,4,"l4_casts.go:24",#[⟨18,.data⟩,⟨16,.guard⟩],some (16,false)⟩
def da:Oper:=⟨some 26,.move (.tmp 25),4,"l4_casts.go:24",#[⟨19,.data⟩,⟨16,.chain⟩,⟨16,.guard⟩],some (16,false)⟩
def dn:Oper:=⟨some 27,.load 28 (.tmp 2),28,"l4_casts.go:24",#[⟨20,.guard⟩],some (20,true)⟩
def dp:Oper:=⟨some 28,.call {callee:=.value (.func 77),args:=#[.tmp 27],argTypes:=#[28]},4,"l4_casts.go:24",#[⟨21,.data⟩,⟨20,.chain⟩,⟨20,.guard⟩],some (20,true)⟩
def dq:Oper:=⟨some 29,.unOp .not 4 (.tmp 28),4,"l4_casts.go:24",#[⟨22,.data⟩,⟨20,.guard⟩],some (20,true)⟩
def db:Oper:=⟨some 30,.pick (.tmp 26) (.tmp 29) (.const (.bool false)),4,"l4_casts.go:24",#[⟨20,.data⟩,⟨23,.data⟩,⟨16,.guard⟩],some (16,false)⟩
def cH:Oper:=⟨some 31,.pick (.tmp 22) (.const (.bool true)) (.tmp 30),4,"l4_casts.go:24",#[⟨16,.data⟩,⟨24,.data⟩],none⟩
def cI:Oper:=⟨some 32,.move (.tmp 31),4,"l4_casts.go:24",#[⟨25,.data⟩,⟨22,.chain⟩],none⟩
def dr:Oper:=⟨some 33,.fieldAddr 28 (.tmp 2) 0,0,"l4_casts.go:24",#[⟨26,.guard⟩],some (26,false)⟩
def dt:Oper:=⟨some 34,.load 3 (.tmp 33),3,"l4_casts.go:24",#[⟨27,.data⟩,⟨26,.guard⟩],some (26,false)⟩
def du:Oper:=⟨some 35,.binOp .neq 3 (.tmp 34) (.const (.int .i64 14)) 3,4,"l4_casts.go:24",#[⟨28,.data⟩,⟨26,.guard⟩],some (26,false)⟩
def dv:Oper:=⟨some 36,.move (.tmp 35),4,"l4_casts.go:24",#[⟨29,.data⟩,⟨26,.chain⟩,⟨26,.guard⟩],some (26,false)⟩
def dO:Oper:=⟨some 37,.load 28 (.tmp 2),28,"l4_casts.go:24",#[⟨30,.guard⟩],some (30,true)⟩
def dP:Oper:=⟨some 38,.call {callee:=.value (.func 78),args:=#[.tmp 37],argTypes:=#[28]},4,"l4_casts.go:24",#[⟨31,.data⟩,⟨30,.chain⟩,⟨30,.guard⟩],some (30,true)⟩
def dQ:Oper:=⟨some 39,.unOp .not 4 (.tmp 38),4,"l4_casts.go:24",#[⟨32,.data⟩,⟨30,.guard⟩],some (30,true)⟩
def dw:Oper:=⟨some 40,.pick (.tmp 36) (.tmp 39) (.const (.bool false)),4,"l4_casts.go:24",#[⟨30,.data⟩,⟨33,.data⟩,⟨26,.guard⟩],some (26,false)⟩
def cJ:Oper:=⟨some 41,.pick (.tmp 32) (.const (.bool true)) (.tmp 40),4,"l4_casts.go:24",#[⟨26,.data⟩,⟨34,.data⟩],none⟩
theorem nD (k d:Int)(m:Nat)(ow rk:Bool)(h0:(decide (d<1))=true):(false:Bool)=(decide (1≤d) && !(k==13)&&((aG k==(m:Int))&&ow)&&rk):=by
 first | (simp_all;done) | (simp_all;omega) | grind
theorem nE (k d:Int)(m:Nat)(ow rk:Bool)(h0:(decide (d<1))=false)(h1:((aG k)==(m:Int))=true)(h2:(k==13)=true):(false:Bool)=(decide (1≤d) && !(k==13)&&((aG k==(m:Int))&&ow)&&rk):=by
 first | (simp_all;done) | (simp_all;omega) | grind
theorem nF (k d:Int)(m:Nat)(ow rk:Bool)(h0:(decide (d<1))=false)(h1:((aG k)==(m:Int))=true)(h2:(k==13)=false)(h3:(k==14)=true)(h4:(ow)=true)(h5:rk=false):(false:Bool)=(decide (1≤d) && !(k==13)&&((aG k==(m:Int))&&ow)&&rk):=by
 first | (simp_all;done) | (simp_all;omega) | grind
theorem nG (k d:Int)(m:Nat)(ow rk:Bool)(h0:(decide (d<1))=false)(h1:((aG k)==(m:Int))=true)(h2:(k==13)=false)(h3:(k==14)=true)(h4:(ow)=true)(h5:rk=true):(true:Bool)=(decide (1≤d) && !(k==13)&&((aG k==(m:Int))&&ow)&&rk):=by
 first | (simp_all;done) | (simp_all;omega) | grind
theorem nH (k d:Int)(m:Nat)(ow rk:Bool)(h0:(decide (d<1))=false)(h1:((aG k)==(m:Int))=true)(h2:(k==13)=false)(h3:(k==14)=true)(h4:(ow)=false):(false:Bool)=(decide (1≤d) && !(k==13)&&((aG k==(m:Int))&&ow)&&rk):=by
 first | (simp_all;done) | (simp_all;omega) | grind
theorem nI (k d:Int)(m:Nat)(ow rk:Bool)(h0:(decide (d<1))=false)(h1:((aG k)==(m:Int))=true)(h2:(k==13)=false)(h3:(k==14)=false)(h4:(ow)=true)(h5:rk=false):(false:Bool)=(decide (1≤d) && !(k==13)&&((aG k==(m:Int))&&ow)&&rk):=by
 first | (simp_all;done) | (simp_all;omega) | grind
theorem nJ (k d:Int)(m:Nat)(ow rk:Bool)(h0:(decide (d<1))=false)(h1:((aG k)==(m:Int))=true)(h2:(k==13)=false)(h3:(k==14)=false)(h4:(ow)=true)(h5:rk=true):(true:Bool)=(decide (1≤d) && !(k==13)&&((aG k==(m:Int))&&ow)&&rk):=by
 first | (simp_all;done) | (simp_all;omega) | grind
theorem nK (k d:Int)(m:Nat)(ow rk:Bool)(h0:(decide (d<1))=false)(h1:((aG k)==(m:Int))=true)(h2:(k==13)=false)(h3:(k==14)=false)(h4:(ow)=false):(false:Bool)=(decide (1≤d) && !(k==13)&&((aG k==(m:Int))&&ow)&&rk):=by
 first | (simp_all;done) | (simp_all;omega) | grind
theorem nL (k d:Int)(m:Nat)(ow rk:Bool)(h0:(decide (d<1))=false)(h1:((aG k)==(m:Int))=false):(false:Bool)=(decide (1≤d) && !(k==13)&&((aG k==(m:Int))&&ow)&&rk):=by
 first | (simp_all;done) | (simp_all;omega) | grind
theorem jT (F:Nat→Prop)(t:Tm) : ∀(d:Int) (y:Value) (w:World),aA F w t y→0≤d→d≤100 →
  Calls Tryz.prog 40 #[y,.int .i64 d] w fun e w'=>e = .returned (.bool (t.shape 13 d))∧Below w.heap.size w w':=by
 intro d y w hy hd0 hd5;have IH : ∀t'∈t.kids,∀(d:Int) (y:Value) (W:World),aA F W t' y→0≤d→d≤100→Calls Tryz.prog 40 #[y,.int .i64 d] W fun e W'=>e = .returned (.bool (t'.shape 13 d))∧Below W.heap.size W W':=
  fun t' ht d y W a b c=>jT F t' d y W a b c
 have ho:=fun(hk:(t.kind==14)=false) W (h:Below w.heap.size w W)=>ni F t y W (hy.below h) hk;have ho4:=fun(hk:(t.kind==14)=true) W (h:Below w.heap.size w W)=>tI F t y W (hy.below h) hk;obtain⟨k,nm,u,tk,ta,tn,tq,fk,fa,fn,fq,l,c,m,q,rfl⟩:=hy.shape;obtain⟨r1,r2,r3,r4,r5,r6,r7,r8,r9,rn,rm,rq,hty,hsr,hks⟩:=hy.parts
 cases t with | mk kk nn uu tt ff ll ts=>
 simp only[Tm.kind,Tm.name,Tm.num,Tm.type,Tm.src,Tm.label,Tm.kids] at *;subst r1 r2 r3 r8;unfold Tm.shape;generalize (Tm.mk k nm u tt ff l ts).ownB=ow at *;obtain⟨rk,hrk⟩ : ∃r,r=Tm.shapes ts 13 (d-1):=⟨_,rfl⟩
 rw[←hrk,←r9];have HN:=zq r9;have HRK:=zq hrk;have HO:=zq ho;have HO4:=zq ho4;have IHH:=zq IH;unfold maxLen at rq;clear hrk ho IH hy r9 r4 r5 r6 r7 rn hty hsr ho4;obtain⟨rr,hrr⟩ : ∃rr0:Bool,(decide (1≤d) && !(k==13)&&((aG k==(m:Int))&&ow)&&rk)=rr0:=⟨_,rfl⟩
 rw[hrr];have HT:=zq hrr;clear hrr
 go_enter Tryz.func40,Tryz.ntmps40
 rcases Bool.eq_false_or_eq_true (decide (d<1)) with q1 | q1
 ·skip
  go_wp2_with fail
  refine wp_region_noPanic ?_;refine wp_region_held_drew (S:=fun w'=>True) (by kernel_rfl) ?_ (fun hH0=>?_)
  ·exact trivial
  refine hwt 0 dk (.int .i64 d) hH0 ?_ ?_
  ·intro w' hSw;dsimp only[dk];go_simp
  try simp only[dk,hwA]
  refine hwt 1 dl (.bool true) hH0 ?_ ?_
  ·intro w' hSw;dsimp only[dl];go_simp
  try simp only[dl,hwA]
  refine hwt 2 dm (.bool true) hH0 ?_ ?_
  ·intro w' hSw;dsimp only[dm];go_simp
  try simp only[dm,hwA]
  refine hwn 3 dB hH0 ?_
  try simp only[dB,hwA]
  refine hwn 4 dC hH0 ?_
  try simp only[dC,hwA]
  refine hwn 5 dD hH0 ?_
  try simp only[dD,hwA]
  refine hwn 6 dE hH0 ?_
  try simp only[dE,hwA]
  refine hwn 7 dF hH0 ?_
  try simp only[dF,hwA]
  refine hwn 8 dG hH0 ?_
  try simp only[dG,hwA]
  refine hwn 9 dH hH0 ?_
  try simp only[dH,hwA]
  refine hwt 10 cD (.bool true) hH0 ?_ ?_
  ·intro w' hSw;dsimp only[cD];go_simp
  try simp only[cD,hwA]
  refine hwt 11 cE (.bool true) hH0 ?_ ?_
  ·intro w' hSw;dsimp only[cE];go_simp
  try simp only[cE,hwA]
  refine hwn 12 cP hH0 ?_
  try simp only[cP,hwA]
  refine hwn 13 cQ hH0 ?_
  try simp only[cQ,hwA]
  refine hwn 14 cR hH0 ?_
  try simp only[cR,hwA]
  refine hwt 15 cF (.bool true) hH0 ?_ ?_
  ·intro w' hSw;dsimp only[cF];go_simp
  try simp only[cF,hwA]
  refine hwt 16 cG (.bool true) hH0 ?_ ?_
  ·intro w' hSw;dsimp only[cG];go_simp
  try simp only[cG,hwA]
  refine hwn 17 cY hH0 ?_
  try simp only[cY,hwA]
  refine hwn 18 cZ hH0 ?_
  try simp only[cZ,hwA]
  refine hwn 19 d9 hH0 ?_
  try simp only[d9,hwA]
  refine hwn 20 da hH0 ?_
  try simp only[da,hwA]
  refine hwn 21 dn hH0 ?_
  try simp only[dn,hwA]
  refine hwn 22 dp hH0 ?_
  try simp only[dp,hwA]
  refine hwn 23 dq hH0 ?_
  try simp only[dq,hwA]
  refine hwn 24 db hH0 ?_
  try simp only[db,hwA]
  refine hwt 25 cH (.bool true) hH0 ?_ ?_
  ·intro w' hSw;dsimp only[cH];go_simp
  try simp only[cH,hwA]
  refine hwt 26 cI (.bool true) hH0 ?_ ?_
  ·intro w' hSw;dsimp only[cI];go_simp
  try simp only[cI,hwA]
  refine hwn 27 dr hH0 ?_
  try simp only[dr,hwA]
  refine hwn 28 dt hH0 ?_
  try simp only[dt,hwA]
  refine hwn 29 du hH0 ?_
  try simp only[du,hwA]
  refine hwn 30 dv hH0 ?_
  try simp only[dv,hwA]
  refine hwn 31 dO hH0 ?_
  try simp only[dO,hwA]
  refine hwn 32 dP hH0 ?_
  try simp only[dP,hwA]
  refine hwn 33 dQ hH0 ?_
  try simp only[dQ,hwA]
  refine hwn 34 dw hH0 ?_
  try simp only[dw,hwA]
  refine hwt 35 cJ (.bool true) hH0 ?_ ?_
  ·intro w' hSw;dsimp only[cJ];go_simp
  try simp only[cJ,hwA]
  refine wpAnyH_done (by kernel_rfl) ?_ _;refine NoPanic.normal ?_;clear hH0
  go_wp2_with fail
  refine bodyPost_ret (v:=.bool (false)) (by simp[results,Tryz.results40,go_sem,bne]) rfl ?_
  exact⟨ax ((nD k d m ow rk q1).trans HT.out),aj.drew⟩
 ·skip
  rcases Bool.eq_false_or_eq_true ((aG k)==(m:Int)) with q2 | q2
  ·skip
   have nq2:((aG k) != (m:Int))=false:=by simp only[bne,q2];rfl
   rcases Bool.eq_false_or_eq_true (k==13) with q3 | q3
   ·skip
    have nq3:(k != 13)=false:=by simp only[bne,q3];rfl
    go_wp2_with fail
    have s0_:(World.alloc w (Obj.cells #[.int .i64 k,.string nm,.int .i64 u,.int .i64 tk,.slice ta tn tq,.int .i64 fk,.slice fa fn fq,.int .i64 l,.slice c m q] 28)).cell? ⟨w.heap.size,0,none⟩=some (.int .i64 k):=au (by simp) 0;have s1_:(World.alloc w (Obj.cells #[.int .i64 k,.string nm,.int .i64 u,.int .i64 tk,.slice ta tn tq,.int .i64 fk,.slice fa fn fq,.int .i64 l,.slice c m q] 28)).cell? ⟨w.heap.size,8,none⟩=some (.slice c m q):=au (by simp) 8;refine wp_region_noPanic ?_;refine wp_region_held_drew (S:=fun w'=>w'.cell? ⟨w.heap.size,0,none⟩=some (.int .i64 k)∧w'.cell? ⟨w.heap.size,8,none⟩=some (.slice c m q)) (by kernel_rfl) ?_ (fun hH0=>?_)
    ·exact⟨ay (s0_),ay (s1_)⟩
    refine hwt 0 dk (.int .i64 d) hH0 ?_ ?_
    ·intro w' hSw;dsimp only[dk];go_simp
    try simp only[dk,hwA]
    refine hwt 1 dl (.bool false) hH0 ?_ ?_
    ·intro w' hSw;dsimp only[dl];go_simp
    try simp only[dl,hwA]
    refine hwt 2 dm (.bool false) hH0 ?_ ?_
    ·intro w' hSw;dsimp only[dm];go_simp
    try simp only[dm,hwA]
    refine hwt 3 dB (.pointer (some ⟨w.heap.size,0,none⟩)) hH0 ?_ ?_
    ·intro w' hSw;dsimp only[dB];go_simp
    try simp only[dB,hwA]
    refine hwt 4 dC (.int .i64 k) hH0 ?_ ?_
    ·intro w' hSw;dsimp only[dC];go_simp
    try simp only[dC,hwA]
    refine hwt 6 dE (.pointer (some ⟨w.heap.size,8,none⟩)) hH0 ?_ ?_
    ·intro w' hSw;dsimp only[dE];go_simp
    try simp only[dE,hwA]
    refine hwt 7 dF (.slice c m q) hH0 ?_ ?_
    ·intro w' hSw;dsimp only[dF];go_simp
    try simp only[dF,hwA]
    refine hwt 8 dG (.int .i64 (m:Int)) hH0 ?_ ?_
    ·intro w' hSw;dsimp only[dG];go_simp
    try simp only[dG,hwA]
    refine hwr 5 dD (fun K hK=>?_)
    dsimp only[dD];go_simp
    go_at_call 76
    (with_reducible refine(cB k _).mono ?_)
    rintro e w1 ⟨rfl,hb1⟩
    go_wp2_with fail
    refine hK.out _ _ ?_ (fun hH1=>?_)
    ·exact⟨af hb1 (ay (s0_)),af hb1 (ay (s1_))⟩
    clear hK K hH0
    try simp only[dD,hwA]
    refine hwt 9 dH (.bool false) hH1 ?_ ?_
    ·intro w' hSw;dsimp only[dH];go_simp
    try simp only[dH,hwA]
    refine hwt 10 cD (.bool false) hH1 ?_ ?_
    ·intro w' hSw;dsimp only[cD];go_simp
    try simp only[cD,hwA]
    refine hwt 11 cE (.bool false) hH1 ?_ ?_
    ·intro w' hSw;dsimp only[cE];go_simp
    try simp only[cE,hwA]
    refine hwt 12 cP (.pointer (some ⟨w.heap.size,0,none⟩)) hH1 ?_ ?_
    ·intro w' hSw;dsimp only[cP];go_simp
    try simp only[cP,hwA]
    refine hwt 13 cQ (.int .i64 k) hH1 ?_ ?_
    ·intro w' hSw;dsimp only[cQ];go_simp
    try simp only[cQ,hwA]
    refine hwt 14 cR (.bool true) hH1 ?_ ?_
    ·intro w' hSw;dsimp only[cR];go_simp
    try simp only[cR,hwA]
    refine hwt 15 cF (.bool true) hH1 ?_ ?_
    ·intro w' hSw;dsimp only[cF];go_simp
    try simp only[cF,hwA]
    refine hwt 16 cG (.bool true) hH1 ?_ ?_
    ·intro w' hSw;dsimp only[cG];go_simp
    try simp only[cG,hwA]
    refine hwn 17 cY hH1 ?_
    try simp only[cY,hwA]
    refine hwn 18 cZ hH1 ?_
    try simp only[cZ,hwA]
    refine hwn 19 d9 hH1 ?_
    try simp only[d9,hwA]
    refine hwn 20 da hH1 ?_
    try simp only[da,hwA]
    refine hwn 21 dn hH1 ?_
    try simp only[dn,hwA]
    refine hwn 22 dp hH1 ?_
    try simp only[dp,hwA]
    refine hwn 23 dq hH1 ?_
    try simp only[dq,hwA]
    refine hwn 24 db hH1 ?_
    try simp only[db,hwA]
    refine hwt 25 cH (.bool true) hH1 ?_ ?_
    ·intro w' hSw;dsimp only[cH];go_simp
    try simp only[cH,hwA]
    refine hwt 26 cI (.bool true) hH1 ?_ ?_
    ·intro w' hSw;dsimp only[cI];go_simp
    try simp only[cI,hwA]
    refine hwn 27 dr hH1 ?_
    try simp only[dr,hwA]
    refine hwn 28 dt hH1 ?_
    try simp only[dt,hwA]
    refine hwn 29 du hH1 ?_
    try simp only[du,hwA]
    refine hwn 30 dv hH1 ?_
    try simp only[dv,hwA]
    refine hwn 31 dO hH1 ?_
    try simp only[dO,hwA]
    refine hwn 32 dP hH1 ?_
    try simp only[dP,hwA]
    refine hwn 33 dQ hH1 ?_
    try simp only[dQ,hwA]
    refine hwn 34 dw hH1 ?_
    try simp only[dw,hwA]
    refine hwt 35 cJ (.bool true) hH1 ?_ ?_
    ·intro w' hSw;dsimp only[cJ];go_simp
    try simp only[cJ,hwA]
    refine wpAnyH_done (by kernel_rfl) ?_ _;refine NoPanic.normal ?_;clear hH1 s0_ s1_;have hB:=(al aj.drew hb1)
    have zw1:=hB.size
    go_wp2_with fail
    refine bodyPost_ret (v:=.bool (false)) (by simp[results,Tryz.results40,go_sem,bne]) rfl ?_
    exact⟨ax ((nE k d m ow rk q1 q2 q3).trans HT.out),hB⟩
   ·skip
    have nq3:(k != 13)=true:=by simp only[bne,q3];rfl
    rcases Bool.eq_false_or_eq_true (k==14) with q4 | q4
    ·skip
     have nq4:(k != 14)=false:=by simp only[bne,q4];rfl
     rcases Bool.eq_false_or_eq_true (ow) with q5 | q5
     ·have Hq5:=zq q5
      clear q5
      go_wp2_with fail
      have s0_:(World.alloc w (Obj.cells #[.int .i64 k,.string nm,.int .i64 u,.int .i64 tk,.slice ta tn tq,.int .i64 fk,.slice fa fn fq,.int .i64 l,.slice c m q] 28)).cell? ⟨w.heap.size,0,none⟩=some (.int .i64 k):=au (by simp) 0;have s1_:(World.alloc w (Obj.cells #[.int .i64 k,.string nm,.int .i64 u,.int .i64 tk,.slice ta tn tq,.int .i64 fk,.slice fa fn fq,.int .i64 l,.slice c m q] 28)).cell? ⟨w.heap.size,8,none⟩=some (.slice c m q):=au (by simp) 8;have s2_:(World.alloc w (Obj.cells #[.int .i64 k,.string nm,.int .i64 u,.int .i64 tk,.slice ta tn tq,.int .i64 fk,.slice fa fn fq,.int .i64 l,.slice c m q] 28)).cell? ⟨w.heap.size,1,none⟩=some (.string nm):=au (by simp) 1;have s3_:(World.alloc w (Obj.cells #[.int .i64 k,.string nm,.int .i64 u,.int .i64 tk,.slice ta tn tq,.int .i64 fk,.slice fa fn fq,.int .i64 l,.slice c m q] 28)).cell? ⟨w.heap.size,2,none⟩=some (.int .i64 u):=au (by simp) 2;have s4_:(World.alloc w (Obj.cells #[.int .i64 k,.string nm,.int .i64 u,.int .i64 tk,.slice ta tn tq,.int .i64 fk,.slice fa fn fq,.int .i64 l,.slice c m q] 28)).cell? ⟨w.heap.size,3,none⟩=some (.int .i64 tk):=au (by simp) 3;have s5_:(World.alloc w (Obj.cells #[.int .i64 k,.string nm,.int .i64 u,.int .i64 tk,.slice ta tn tq,.int .i64 fk,.slice fa fn fq,.int .i64 l,.slice c m q] 28)).cell? ⟨w.heap.size,4,none⟩=some (.slice ta tn tq):=au (by simp) 4;have s6_:(World.alloc w (Obj.cells #[.int .i64 k,.string nm,.int .i64 u,.int .i64 tk,.slice ta tn tq,.int .i64 fk,.slice fa fn fq,.int .i64 l,.slice c m q] 28)).cell? ⟨w.heap.size,5,none⟩=some (.int .i64 fk):=au (by simp) 5;have s7_:(World.alloc w (Obj.cells #[.int .i64 k,.string nm,.int .i64 u,.int .i64 tk,.slice ta tn tq,.int .i64 fk,.slice fa fn fq,.int .i64 l,.slice c m q] 28)).cell? ⟨w.heap.size,6,none⟩=some (.slice fa fn fq):=au (by simp) 6;have s8_:(World.alloc w (Obj.cells #[.int .i64 k,.string nm,.int .i64 u,.int .i64 tk,.slice ta tn tq,.int .i64 fk,.slice fa fn fq,.int .i64 l,.slice c m q] 28)).cell? ⟨w.heap.size,7,none⟩=some (.int .i64 l):=au (by simp) 7;refine wp_region_noPanic ?_;refine wp_region_held_drew (S:=fun w'=>w'.cell? ⟨w.heap.size,0,none⟩=some (.int .i64 k)∧w'.cell? ⟨w.heap.size,8,none⟩=some (.slice c m q)∧w'.cell? ⟨w.heap.size,1,none⟩=some (.string nm)∧w'.cell? ⟨w.heap.size,2,none⟩=some (.int .i64 u)∧w'.cell? ⟨w.heap.size,3,none⟩=some (.int .i64 tk)∧w'.cell? ⟨w.heap.size,4,none⟩=some (.slice ta tn tq)∧w'.cell? ⟨w.heap.size,5,none⟩=some (.int .i64 fk)∧w'.cell? ⟨w.heap.size,6,none⟩=some (.slice fa fn fq)∧w'.cell? ⟨w.heap.size,7,none⟩=some (.int .i64 l)) (by kernel_rfl) ?_ (fun hH0=>?_)
      ·exact⟨ay (s0_),ay (s1_),ay (s2_),ay (s3_),ay (s4_),ay (s5_),ay (s6_),ay (s7_),ay (s8_)⟩
      refine hwt 0 dk (.int .i64 d) hH0 ?_ ?_
      ·intro w' hSw;dsimp only[dk];go_simp
      try simp only[dk,hwA]
      refine hwt 1 dl (.bool false) hH0 ?_ ?_
      ·intro w' hSw;dsimp only[dl];go_simp
      try simp only[dl,hwA]
      refine hwt 2 dm (.bool false) hH0 ?_ ?_
      ·intro w' hSw;dsimp only[dm];go_simp
      try simp only[dm,hwA]
      refine hwt 3 dB (.pointer (some ⟨w.heap.size,0,none⟩)) hH0 ?_ ?_
      ·intro w' hSw;dsimp only[dB];go_simp
      try simp only[dB,hwA]
      refine hwt 4 dC (.int .i64 k) hH0 ?_ ?_
      ·intro w' hSw;dsimp only[dC];go_simp
      try simp only[dC,hwA]
      refine hwt 6 dE (.pointer (some ⟨w.heap.size,8,none⟩)) hH0 ?_ ?_
      ·intro w' hSw;dsimp only[dE];go_simp
      try simp only[dE,hwA]
      refine hwt 7 dF (.slice c m q) hH0 ?_ ?_
      ·intro w' hSw;dsimp only[dF];go_simp
      try simp only[dF,hwA]
      refine hwt 8 dG (.int .i64 (m:Int)) hH0 ?_ ?_
      ·intro w' hSw;dsimp only[dG];go_simp
      try simp only[dG,hwA]
      refine hwr 5 dD (fun K hK=>?_)
      dsimp only[dD];go_simp
      go_at_call 76
      (with_reducible refine(cB k _).mono ?_)
      rintro e w2 ⟨rfl,hb2⟩
      go_wp2_with fail
      refine hK.out _ _ ?_ (fun hH1=>?_)
      ·exact⟨af hb2 (ay (s0_)),af hb2 (ay (s1_)),af hb2 (ay (s2_)),af hb2 (ay (s3_)),af hb2 (ay (s4_)),af hb2 (ay (s5_)),af hb2 (ay (s6_)),af hb2 (ay (s7_)),af hb2 (ay (s8_))⟩
      clear hK K hH0
      try simp only[dD,hwA]
      refine hwt 9 dH (.bool false) hH1 ?_ ?_
      ·intro w' hSw;dsimp only[dH];go_simp
      try simp only[dH,hwA]
      refine hwt 10 cD (.bool false) hH1 ?_ ?_
      ·intro w' hSw;dsimp only[cD];go_simp
      try simp only[cD,hwA]
      refine hwt 11 cE (.bool false) hH1 ?_ ?_
      ·intro w' hSw;dsimp only[cE];go_simp
      try simp only[cE,hwA]
      refine hwt 12 cP (.pointer (some ⟨w.heap.size,0,none⟩)) hH1 ?_ ?_
      ·intro w' hSw;dsimp only[cP];go_simp
      try simp only[cP,hwA]
      refine hwt 13 cQ (.int .i64 k) hH1 ?_ ?_
      ·intro w' hSw;dsimp only[cQ];go_simp
      try simp only[cQ,hwA]
      refine hwt 14 cR (.bool false) hH1 ?_ ?_
      ·intro w' hSw;dsimp only[cR];go_simp
      try simp only[cR,hwA]
      refine hwt 15 cF (.bool false) hH1 ?_ ?_
      ·intro w' hSw;dsimp only[cF];go_simp
      try simp only[cF,hwA]
      refine hwt 16 cG (.bool false) hH1 ?_ ?_
      ·intro w' hSw;dsimp only[cG];go_simp
      try simp only[cG,hwA]
      refine hwt 17 cY (.pointer (some ⟨w.heap.size,0,none⟩)) hH1 ?_ ?_
      ·intro w' hSw;dsimp only[cY];go_simp
      try simp only[cY,hwA]
      refine hwt 18 cZ (.int .i64 k) hH1 ?_ ?_
      ·intro w' hSw;dsimp only[cZ];go_simp
      try simp only[cZ,hwA]
      refine hwt 19 d9 (.bool true) hH1 ?_ ?_
      ·intro w' hSw;dsimp only[d9];go_simp
      try simp only[d9,hwA]
      refine hwt 20 da (.bool true) hH1 ?_ ?_
      ·intro w' hSw;dsimp only[da];go_simp
      try simp only[da,hwA]
      refine hwt 21 dn (.agg #[.int .i64 k,.string nm,.int .i64 u,.int .i64 tk,.slice ta tn tq,.int .i64 fk,.slice fa fn fq,.int .i64 l,.slice c m q]) hH1 ?_ ?_
      ·intro w' hSw;dsimp only[dn];go_simp
      try simp only[dn,hwA]
      refine hwr 22 dp (fun K hK=>?_)
      dsimp only[dp];go_simp
      go_at_call 77
      (with_reducible refine(HO4.out q4 _ (al aj.drew hb2)).mono ?_)
      rintro e w3 ⟨rfl,hb3⟩;rw[Hq5.out]
      go_wp2_with fail
      refine hK.out _ _ ?_ (fun hH2=>?_)
      ·exact⟨af hb3 (af hb2 (ay (s0_))),af hb3 (af hb2 (ay (s1_))),af hb3 (af hb2 (ay (s2_))),af hb3 (af hb2 (ay (s3_))),af hb3 (af hb2 (ay (s4_))),af hb3 (af hb2 (ay (s5_))),af hb3 (af hb2 (ay (s6_))),af hb3 (af hb2 (ay (s7_))),af hb3 (af hb2 (ay (s8_)))⟩
      clear hK K hH1
      try simp only[dp,hwA]
      refine hwt 23 dq (.bool false) hH2 ?_ ?_
      ·intro w' hSw;dsimp only[dq];go_simp
      try simp only[dq,hwA]
      refine hwt 24 db (.bool false) hH2 ?_ ?_
      ·intro w' hSw;dsimp only[db];go_simp
      try simp only[db,hwA]
      refine hwt 25 cH (.bool false) hH2 ?_ ?_
      ·intro w' hSw;dsimp only[cH];go_simp
      try simp only[cH,hwA]
      refine hwt 26 cI (.bool false) hH2 ?_ ?_
      ·intro w' hSw;dsimp only[cI];go_simp
      try simp only[cI,hwA]
      refine hwt 27 dr (.pointer (some ⟨w.heap.size,0,none⟩)) hH2 ?_ ?_
      ·intro w' hSw;dsimp only[dr];go_simp
      try simp only[dr,hwA]
      refine hwt 28 dt (.int .i64 k) hH2 ?_ ?_
      ·intro w' hSw;dsimp only[dt];go_simp
      try simp only[dt,hwA]
      refine hwt 29 du (.bool false) hH2 ?_ ?_
      ·intro w' hSw;dsimp only[du];go_simp
      try simp only[du,hwA]
      refine hwt 30 dv (.bool false) hH2 ?_ ?_
      ·intro w' hSw;dsimp only[dv];go_simp
      try simp only[dv,hwA]
      refine hwn 31 dO hH2 ?_
      try simp only[dO,hwA]
      refine hwn 32 dP hH2 ?_
      try simp only[dP,hwA]
      refine hwn 33 dQ hH2 ?_
      try simp only[dQ,hwA]
      refine hwt 34 dw (.bool false) hH2 ?_ ?_
      ·intro w' hSw;dsimp only[dw];go_simp
      try simp only[dw,hwA]
      refine hwt 35 cJ (.bool false) hH2 ?_ ?_
      ·intro w' hSw;dsimp only[cJ];go_simp
      try simp only[cJ,hwA]
      refine wpAnyH_done (by kernel_rfl) ?_ _;refine NoPanic.normal ?_;clear hH2 s0_ s1_ s2_ s3_ s4_ s5_ s6_ s7_ s8_;have hB:=(al (al aj.drew hb2) hb3)
      have zw3:=hB.size;have c0_8:w3.cell? ⟨w.heap.size,8,none⟩=some (.slice c m q):=af hb3 (af hb2 (ay (au (by simp) 8)));have d0_w3:=World.block_lt_of_cell? _ _ c0_8
      go_wp2_with fail
      go_loopw [5] (fun i wr=>∃j:Nat,j≤m∧i = .int .i64 j∧Below w.heap.size w wr∧wr.cell? ⟨w.heap.size,8,none⟩=some (.slice c m q)∧Hid (rk=Tm.shapes (ts.drop j) 13 (d-1))) (fun i _=>m-(intOf i).toNat)
      case atStart=>exact⟨0,by omega,rfl,hB,c0_8,HRK.out⟩
      case round=>
       obtain⟨j,hj,rfl,hB,x0,hR0⟩:=hrel;have lx1:=World.block_lt_of_cell? _ _ x0
       by_cases hlt:j<m
       ·have hjt:j<ts.length:=by have:=HN.out;omega
        obtain⟨b,off,k0,nm0,u0,tk0,ta0,tn0,tq0,fk0,fa0,fn0,fq0,l0,a0,m0,q0,rfl,lb,e0,e1,e2,e3,e4,e5,e6,e7,e8,ht⟩:=hks.at hB hjt;have hcall:=IHH.out ts[j] (List.getElem_mem hjt) (d-1);have hstep:=hR0.out.trans (Tm.shapes_drop ts 13 (d-1) j hjt);generalize ts[j].shape 13 (d-1)=r at hcall hstep;have HC:=zq hcall;have HS:=zq hstep;clear hcall hstep hR0;have hwr:=IntWalk.i64_in (d-1) (by omega)
        go_wp2_with fail
        refine(HC.out _ _ ht (by have h:=q1;simp only[decide_eq_false_iff_not] at h;omega) (by have h:=q1;simp only[decide_eq_false_iff_not] at h;omega)).mono ?_;rintro e w4 ⟨rfl,hb4⟩;replace hB:=(al hB hb4)
        have zw4:=hB.size;replace x0:=af hb4 x0;have d0_w4:=World.block_lt_of_cell? _ _ x0
        rcases Bool.eq_false_or_eq_true (r) with q6 | q6
        ·(try rw[q6])
         have Hq6:=zq q6;clear q6;have hwr:=IntWalk.i64_in ((j:Int)+1) (by omega)
         go_wp2_with fail
         go_roundw
         case rel=>exact⟨j+1,by omega,by go_num,hB,x0,(by rw[Hid,HS.out,Hq6.out];rfl)⟩
         case measure=>simp[intOf];omega
        ·(try rw[q6])
         have Hq6:=zq q6;clear q6
         go_wp2_with fail
         refine bodyPost_ret (v:=.bool (false)) (by simp[results,Tryz.results40,go_sem,bne]) rfl ?_
         exact⟨ax ((nF k d m ow rk q1 q2 q3 q4 Hq5.out (by rw[HS.out,Hq6.out];rfl)).trans HT.out),hB⟩
       ·skip
        have HRK:Hid (rk=true):=zq (by rw[hR0.out,List.drop_eq_nil_of_le (by have:=HN.out;omega)];unfold Tm.shapes;rfl)
        go_wp2_with fail
        refine bodyPost_ret (v:=.bool (true)) (by simp[results,Tryz.results40,go_sem,bne]) rfl ?_
        exact⟨ax ((nG k d m ow rk q1 q2 q3 q4 Hq5.out HRK.out).trans HT.out),hB⟩
     ·have Hq5:=zq q5
      clear q5
      go_wp2_with fail
      have s0_:(World.alloc w (Obj.cells #[.int .i64 k,.string nm,.int .i64 u,.int .i64 tk,.slice ta tn tq,.int .i64 fk,.slice fa fn fq,.int .i64 l,.slice c m q] 28)).cell? ⟨w.heap.size,0,none⟩=some (.int .i64 k):=au (by simp) 0;have s1_:(World.alloc w (Obj.cells #[.int .i64 k,.string nm,.int .i64 u,.int .i64 tk,.slice ta tn tq,.int .i64 fk,.slice fa fn fq,.int .i64 l,.slice c m q] 28)).cell? ⟨w.heap.size,8,none⟩=some (.slice c m q):=au (by simp) 8;have s2_:(World.alloc w (Obj.cells #[.int .i64 k,.string nm,.int .i64 u,.int .i64 tk,.slice ta tn tq,.int .i64 fk,.slice fa fn fq,.int .i64 l,.slice c m q] 28)).cell? ⟨w.heap.size,1,none⟩=some (.string nm):=au (by simp) 1;have s3_:(World.alloc w (Obj.cells #[.int .i64 k,.string nm,.int .i64 u,.int .i64 tk,.slice ta tn tq,.int .i64 fk,.slice fa fn fq,.int .i64 l,.slice c m q] 28)).cell? ⟨w.heap.size,2,none⟩=some (.int .i64 u):=au (by simp) 2;have s4_:(World.alloc w (Obj.cells #[.int .i64 k,.string nm,.int .i64 u,.int .i64 tk,.slice ta tn tq,.int .i64 fk,.slice fa fn fq,.int .i64 l,.slice c m q] 28)).cell? ⟨w.heap.size,3,none⟩=some (.int .i64 tk):=au (by simp) 3;have s5_:(World.alloc w (Obj.cells #[.int .i64 k,.string nm,.int .i64 u,.int .i64 tk,.slice ta tn tq,.int .i64 fk,.slice fa fn fq,.int .i64 l,.slice c m q] 28)).cell? ⟨w.heap.size,4,none⟩=some (.slice ta tn tq):=au (by simp) 4;have s6_:(World.alloc w (Obj.cells #[.int .i64 k,.string nm,.int .i64 u,.int .i64 tk,.slice ta tn tq,.int .i64 fk,.slice fa fn fq,.int .i64 l,.slice c m q] 28)).cell? ⟨w.heap.size,5,none⟩=some (.int .i64 fk):=au (by simp) 5;have s7_:(World.alloc w (Obj.cells #[.int .i64 k,.string nm,.int .i64 u,.int .i64 tk,.slice ta tn tq,.int .i64 fk,.slice fa fn fq,.int .i64 l,.slice c m q] 28)).cell? ⟨w.heap.size,6,none⟩=some (.slice fa fn fq):=au (by simp) 6;have s8_:(World.alloc w (Obj.cells #[.int .i64 k,.string nm,.int .i64 u,.int .i64 tk,.slice ta tn tq,.int .i64 fk,.slice fa fn fq,.int .i64 l,.slice c m q] 28)).cell? ⟨w.heap.size,7,none⟩=some (.int .i64 l):=au (by simp) 7;refine wp_region_noPanic ?_;refine wp_region_held_drew (S:=fun w'=>w'.cell? ⟨w.heap.size,0,none⟩=some (.int .i64 k)∧w'.cell? ⟨w.heap.size,8,none⟩=some (.slice c m q)∧w'.cell? ⟨w.heap.size,1,none⟩=some (.string nm)∧w'.cell? ⟨w.heap.size,2,none⟩=some (.int .i64 u)∧w'.cell? ⟨w.heap.size,3,none⟩=some (.int .i64 tk)∧w'.cell? ⟨w.heap.size,4,none⟩=some (.slice ta tn tq)∧w'.cell? ⟨w.heap.size,5,none⟩=some (.int .i64 fk)∧w'.cell? ⟨w.heap.size,6,none⟩=some (.slice fa fn fq)∧w'.cell? ⟨w.heap.size,7,none⟩=some (.int .i64 l)) (by kernel_rfl) ?_ (fun hH0=>?_)
      ·exact⟨ay (s0_),ay (s1_),ay (s2_),ay (s3_),ay (s4_),ay (s5_),ay (s6_),ay (s7_),ay (s8_)⟩
      refine hwt 0 dk (.int .i64 d) hH0 ?_ ?_
      ·intro w' hSw;dsimp only[dk];go_simp
      try simp only[dk,hwA]
      refine hwt 1 dl (.bool false) hH0 ?_ ?_
      ·intro w' hSw;dsimp only[dl];go_simp
      try simp only[dl,hwA]
      refine hwt 2 dm (.bool false) hH0 ?_ ?_
      ·intro w' hSw;dsimp only[dm];go_simp
      try simp only[dm,hwA]
      refine hwt 3 dB (.pointer (some ⟨w.heap.size,0,none⟩)) hH0 ?_ ?_
      ·intro w' hSw;dsimp only[dB];go_simp
      try simp only[dB,hwA]
      refine hwt 4 dC (.int .i64 k) hH0 ?_ ?_
      ·intro w' hSw;dsimp only[dC];go_simp
      try simp only[dC,hwA]
      refine hwt 6 dE (.pointer (some ⟨w.heap.size,8,none⟩)) hH0 ?_ ?_
      ·intro w' hSw;dsimp only[dE];go_simp
      try simp only[dE,hwA]
      refine hwt 7 dF (.slice c m q) hH0 ?_ ?_
      ·intro w' hSw;dsimp only[dF];go_simp
      try simp only[dF,hwA]
      refine hwt 8 dG (.int .i64 (m:Int)) hH0 ?_ ?_
      ·intro w' hSw;dsimp only[dG];go_simp
      try simp only[dG,hwA]
      refine hwr 5 dD (fun K hK=>?_)
      dsimp only[dD];go_simp
      go_at_call 76
      (with_reducible refine(cB k _).mono ?_)
      rintro e w5 ⟨rfl,hb5⟩
      go_wp2_with fail
      refine hK.out _ _ ?_ (fun hH1=>?_)
      ·exact⟨af hb5 (ay (s0_)),af hb5 (ay (s1_)),af hb5 (ay (s2_)),af hb5 (ay (s3_)),af hb5 (ay (s4_)),af hb5 (ay (s5_)),af hb5 (ay (s6_)),af hb5 (ay (s7_)),af hb5 (ay (s8_))⟩
      clear hK K hH0
      try simp only[dD,hwA]
      refine hwt 9 dH (.bool false) hH1 ?_ ?_
      ·intro w' hSw;dsimp only[dH];go_simp
      try simp only[dH,hwA]
      refine hwt 10 cD (.bool false) hH1 ?_ ?_
      ·intro w' hSw;dsimp only[cD];go_simp
      try simp only[cD,hwA]
      refine hwt 11 cE (.bool false) hH1 ?_ ?_
      ·intro w' hSw;dsimp only[cE];go_simp
      try simp only[cE,hwA]
      refine hwt 12 cP (.pointer (some ⟨w.heap.size,0,none⟩)) hH1 ?_ ?_
      ·intro w' hSw;dsimp only[cP];go_simp
      try simp only[cP,hwA]
      refine hwt 13 cQ (.int .i64 k) hH1 ?_ ?_
      ·intro w' hSw;dsimp only[cQ];go_simp
      try simp only[cQ,hwA]
      refine hwt 14 cR (.bool false) hH1 ?_ ?_
      ·intro w' hSw;dsimp only[cR];go_simp
      try simp only[cR,hwA]
      refine hwt 15 cF (.bool false) hH1 ?_ ?_
      ·intro w' hSw;dsimp only[cF];go_simp
      try simp only[cF,hwA]
      refine hwt 16 cG (.bool false) hH1 ?_ ?_
      ·intro w' hSw;dsimp only[cG];go_simp
      try simp only[cG,hwA]
      refine hwt 17 cY (.pointer (some ⟨w.heap.size,0,none⟩)) hH1 ?_ ?_
      ·intro w' hSw;dsimp only[cY];go_simp
      try simp only[cY,hwA]
      refine hwt 18 cZ (.int .i64 k) hH1 ?_ ?_
      ·intro w' hSw;dsimp only[cZ];go_simp
      try simp only[cZ,hwA]
      refine hwt 19 d9 (.bool true) hH1 ?_ ?_
      ·intro w' hSw;dsimp only[d9];go_simp
      try simp only[d9,hwA]
      refine hwt 20 da (.bool true) hH1 ?_ ?_
      ·intro w' hSw;dsimp only[da];go_simp
      try simp only[da,hwA]
      refine hwt 21 dn (.agg #[.int .i64 k,.string nm,.int .i64 u,.int .i64 tk,.slice ta tn tq,.int .i64 fk,.slice fa fn fq,.int .i64 l,.slice c m q]) hH1 ?_ ?_
      ·intro w' hSw;dsimp only[dn];go_simp
      try simp only[dn,hwA]
      refine hwr 22 dp (fun K hK=>?_)
      dsimp only[dp];go_simp
      go_at_call 77
      (with_reducible refine(HO4.out q4 _ (al aj.drew hb5)).mono ?_)
      rintro e w6 ⟨rfl,hb6⟩;rw[Hq5.out]
      go_wp2_with fail
      refine hK.out _ _ ?_ (fun hH2=>?_)
      ·exact⟨af hb6 (af hb5 (ay (s0_))),af hb6 (af hb5 (ay (s1_))),af hb6 (af hb5 (ay (s2_))),af hb6 (af hb5 (ay (s3_))),af hb6 (af hb5 (ay (s4_))),af hb6 (af hb5 (ay (s5_))),af hb6 (af hb5 (ay (s6_))),af hb6 (af hb5 (ay (s7_))),af hb6 (af hb5 (ay (s8_)))⟩
      clear hK K hH1
      try simp only[dp,hwA]
      refine hwt 23 dq (.bool true) hH2 ?_ ?_
      ·intro w' hSw;dsimp only[dq];go_simp
      try simp only[dq,hwA]
      refine hwt 24 db (.bool true) hH2 ?_ ?_
      ·intro w' hSw;dsimp only[db];go_simp
      try simp only[db,hwA]
      refine hwt 25 cH (.bool true) hH2 ?_ ?_
      ·intro w' hSw;dsimp only[cH];go_simp
      try simp only[cH,hwA]
      refine hwt 26 cI (.bool true) hH2 ?_ ?_
      ·intro w' hSw;dsimp only[cI];go_simp
      try simp only[cI,hwA]
      refine hwn 27 dr hH2 ?_
      try simp only[dr,hwA]
      refine hwn 28 dt hH2 ?_
      try simp only[dt,hwA]
      refine hwn 29 du hH2 ?_
      try simp only[du,hwA]
      refine hwn 30 dv hH2 ?_
      try simp only[dv,hwA]
      refine hwn 31 dO hH2 ?_
      try simp only[dO,hwA]
      refine hwn 32 dP hH2 ?_
      try simp only[dP,hwA]
      refine hwn 33 dQ hH2 ?_
      try simp only[dQ,hwA]
      refine hwn 34 dw hH2 ?_
      try simp only[dw,hwA]
      refine hwt 35 cJ (.bool true) hH2 ?_ ?_
      ·intro w' hSw;dsimp only[cJ];go_simp
      try simp only[cJ,hwA]
      refine wpAnyH_done (by kernel_rfl) ?_ _;refine NoPanic.normal ?_;clear hH2 s0_ s1_ s2_ s3_ s4_ s5_ s6_ s7_ s8_;have hB:=(al (al aj.drew hb5) hb6)
      have zw6:=hB.size
      go_wp2_with fail
      refine bodyPost_ret (v:=.bool (false)) (by simp[results,Tryz.results40,go_sem,bne]) rfl ?_
      exact⟨ax ((nH k d m ow rk q1 q2 q3 q4 Hq5.out).trans HT.out),hB⟩
    ·skip
     have nq4:(k != 14)=true:=by simp only[bne,q4];rfl
     go_wp2_with fail
     have s0_:(World.alloc w (Obj.cells #[.int .i64 k,.string nm,.int .i64 u,.int .i64 tk,.slice ta tn tq,.int .i64 fk,.slice fa fn fq,.int .i64 l,.slice c m q] 28)).cell? ⟨w.heap.size,0,none⟩=some (.int .i64 k):=au (by simp) 0;have s1_:(World.alloc w (Obj.cells #[.int .i64 k,.string nm,.int .i64 u,.int .i64 tk,.slice ta tn tq,.int .i64 fk,.slice fa fn fq,.int .i64 l,.slice c m q] 28)).cell? ⟨w.heap.size,8,none⟩=some (.slice c m q):=au (by simp) 8;have s2_:(World.alloc w (Obj.cells #[.int .i64 k,.string nm,.int .i64 u,.int .i64 tk,.slice ta tn tq,.int .i64 fk,.slice fa fn fq,.int .i64 l,.slice c m q] 28)).cell? ⟨w.heap.size,1,none⟩=some (.string nm):=au (by simp) 1;have s3_:(World.alloc w (Obj.cells #[.int .i64 k,.string nm,.int .i64 u,.int .i64 tk,.slice ta tn tq,.int .i64 fk,.slice fa fn fq,.int .i64 l,.slice c m q] 28)).cell? ⟨w.heap.size,2,none⟩=some (.int .i64 u):=au (by simp) 2;have s4_:(World.alloc w (Obj.cells #[.int .i64 k,.string nm,.int .i64 u,.int .i64 tk,.slice ta tn tq,.int .i64 fk,.slice fa fn fq,.int .i64 l,.slice c m q] 28)).cell? ⟨w.heap.size,3,none⟩=some (.int .i64 tk):=au (by simp) 3;have s5_:(World.alloc w (Obj.cells #[.int .i64 k,.string nm,.int .i64 u,.int .i64 tk,.slice ta tn tq,.int .i64 fk,.slice fa fn fq,.int .i64 l,.slice c m q] 28)).cell? ⟨w.heap.size,4,none⟩=some (.slice ta tn tq):=au (by simp) 4;have s6_:(World.alloc w (Obj.cells #[.int .i64 k,.string nm,.int .i64 u,.int .i64 tk,.slice ta tn tq,.int .i64 fk,.slice fa fn fq,.int .i64 l,.slice c m q] 28)).cell? ⟨w.heap.size,5,none⟩=some (.int .i64 fk):=au (by simp) 5;have s7_:(World.alloc w (Obj.cells #[.int .i64 k,.string nm,.int .i64 u,.int .i64 tk,.slice ta tn tq,.int .i64 fk,.slice fa fn fq,.int .i64 l,.slice c m q] 28)).cell? ⟨w.heap.size,6,none⟩=some (.slice fa fn fq):=au (by simp) 6;have s8_:(World.alloc w (Obj.cells #[.int .i64 k,.string nm,.int .i64 u,.int .i64 tk,.slice ta tn tq,.int .i64 fk,.slice fa fn fq,.int .i64 l,.slice c m q] 28)).cell? ⟨w.heap.size,7,none⟩=some (.int .i64 l):=au (by simp) 7;refine wp_region_noPanic ?_;refine wp_region_held_drew (S:=fun w'=>w'.cell? ⟨w.heap.size,0,none⟩=some (.int .i64 k)∧w'.cell? ⟨w.heap.size,8,none⟩=some (.slice c m q)∧w'.cell? ⟨w.heap.size,1,none⟩=some (.string nm)∧w'.cell? ⟨w.heap.size,2,none⟩=some (.int .i64 u)∧w'.cell? ⟨w.heap.size,3,none⟩=some (.int .i64 tk)∧w'.cell? ⟨w.heap.size,4,none⟩=some (.slice ta tn tq)∧w'.cell? ⟨w.heap.size,5,none⟩=some (.int .i64 fk)∧w'.cell? ⟨w.heap.size,6,none⟩=some (.slice fa fn fq)∧w'.cell? ⟨w.heap.size,7,none⟩=some (.int .i64 l)) (by kernel_rfl) ?_ (fun hH0=>?_)
     ·exact⟨ay (s0_),ay (s1_),ay (s2_),ay (s3_),ay (s4_),ay (s5_),ay (s6_),ay (s7_),ay (s8_)⟩
     refine hwt 0 dk (.int .i64 d) hH0 ?_ ?_
     ·intro w' hSw;dsimp only[dk];go_simp
     try simp only[dk,hwA]
     refine hwt 1 dl (.bool false) hH0 ?_ ?_
     ·intro w' hSw;dsimp only[dl];go_simp
     try simp only[dl,hwA]
     refine hwt 2 dm (.bool false) hH0 ?_ ?_
     ·intro w' hSw;dsimp only[dm];go_simp
     try simp only[dm,hwA]
     refine hwt 3 dB (.pointer (some ⟨w.heap.size,0,none⟩)) hH0 ?_ ?_
     ·intro w' hSw;dsimp only[dB];go_simp
     try simp only[dB,hwA]
     refine hwt 4 dC (.int .i64 k) hH0 ?_ ?_
     ·intro w' hSw;dsimp only[dC];go_simp
     try simp only[dC,hwA]
     refine hwt 6 dE (.pointer (some ⟨w.heap.size,8,none⟩)) hH0 ?_ ?_
     ·intro w' hSw;dsimp only[dE];go_simp
     try simp only[dE,hwA]
     refine hwt 7 dF (.slice c m q) hH0 ?_ ?_
     ·intro w' hSw;dsimp only[dF];go_simp
     try simp only[dF,hwA]
     refine hwt 8 dG (.int .i64 (m:Int)) hH0 ?_ ?_
     ·intro w' hSw;dsimp only[dG];go_simp
     try simp only[dG,hwA]
     refine hwr 5 dD (fun K hK=>?_)
     dsimp only[dD];go_simp
     go_at_call 76
     (with_reducible refine(cB k _).mono ?_)
     rintro e w7 ⟨rfl,hb7⟩
     go_wp2_with fail
     refine hK.out _ _ ?_ (fun hH1=>?_)
     ·exact⟨af hb7 (ay (s0_)),af hb7 (ay (s1_)),af hb7 (ay (s2_)),af hb7 (ay (s3_)),af hb7 (ay (s4_)),af hb7 (ay (s5_)),af hb7 (ay (s6_)),af hb7 (ay (s7_)),af hb7 (ay (s8_))⟩
     clear hK K hH0
     try simp only[dD,hwA]
     refine hwt 9 dH (.bool false) hH1 ?_ ?_
     ·intro w' hSw;dsimp only[dH];go_simp
     try simp only[dH,hwA]
     refine hwt 10 cD (.bool false) hH1 ?_ ?_
     ·intro w' hSw;dsimp only[cD];go_simp
     try simp only[cD,hwA]
     refine hwt 11 cE (.bool false) hH1 ?_ ?_
     ·intro w' hSw;dsimp only[cE];go_simp
     try simp only[cE,hwA]
     refine hwt 12 cP (.pointer (some ⟨w.heap.size,0,none⟩)) hH1 ?_ ?_
     ·intro w' hSw;dsimp only[cP];go_simp
     try simp only[cP,hwA]
     refine hwt 13 cQ (.int .i64 k) hH1 ?_ ?_
     ·intro w' hSw;dsimp only[cQ];go_simp
     try simp only[cQ,hwA]
     refine hwt 14 cR (.bool false) hH1 ?_ ?_
     ·intro w' hSw;dsimp only[cR];go_simp
     try simp only[cR,hwA]
     refine hwt 15 cF (.bool false) hH1 ?_ ?_
     ·intro w' hSw;dsimp only[cF];go_simp
     try simp only[cF,hwA]
     refine hwt 16 cG (.bool false) hH1 ?_ ?_
     ·intro w' hSw;dsimp only[cG];go_simp
     try simp only[cG,hwA]
     refine hwt 17 cY (.pointer (some ⟨w.heap.size,0,none⟩)) hH1 ?_ ?_
     ·intro w' hSw;dsimp only[cY];go_simp
     try simp only[cY,hwA]
     refine hwt 18 cZ (.int .i64 k) hH1 ?_ ?_
     ·intro w' hSw;dsimp only[cZ];go_simp
     try simp only[cZ,hwA]
     refine hwt 19 d9 (.bool false) hH1 ?_ ?_
     ·intro w' hSw;dsimp only[d9];go_simp
     try simp only[d9,hwA]
     refine hwt 20 da (.bool false) hH1 ?_ ?_
     ·intro w' hSw;dsimp only[da];go_simp
     try simp only[da,hwA]
     refine hwn 21 dn hH1 ?_
     try simp only[dn,hwA]
     refine hwn 22 dp hH1 ?_
     try simp only[dp,hwA]
     refine hwn 23 dq hH1 ?_
     try simp only[dq,hwA]
     refine hwt 24 db (.bool false) hH1 ?_ ?_
     ·intro w' hSw;dsimp only[db];go_simp
     try simp only[db,hwA]
     refine hwt 25 cH (.bool false) hH1 ?_ ?_
     ·intro w' hSw;dsimp only[cH];go_simp
     try simp only[cH,hwA]
     refine hwt 26 cI (.bool false) hH1 ?_ ?_
     ·intro w' hSw;dsimp only[cI];go_simp
     try simp only[cI,hwA]
     refine hwt 27 dr (.pointer (some ⟨w.heap.size,0,none⟩)) hH1 ?_ ?_
     ·intro w' hSw;dsimp only[dr];go_simp
     try simp only[dr,hwA]
     refine hwt 28 dt (.int .i64 k) hH1 ?_ ?_
     ·intro w' hSw;dsimp only[dt];go_simp
     try simp only[dt,hwA]
     refine hwt 29 du (.bool true) hH1 ?_ ?_
     ·intro w' hSw;dsimp only[du];go_simp
     try simp only[du,hwA]
     refine hwt 30 dv (.bool true) hH1 ?_ ?_
     ·intro w' hSw;dsimp only[dv];go_simp
     try simp only[dv,hwA]
     refine hwt 31 dO (.agg #[.int .i64 k,.string nm,.int .i64 u,.int .i64 tk,.slice ta tn tq,.int .i64 fk,.slice fa fn fq,.int .i64 l,.slice c m q]) hH1 ?_ ?_
     ·intro w' hSw;dsimp only[dO];go_simp
     try simp only[dO,hwA]
     refine hwr 32 dP (fun K hK=>?_)
     dsimp only[dP];go_simp
     go_at_call 78
     (with_reducible refine(HO.out q4 _ (al aj.drew hb7)).mono ?_)
     rintro e w8 ⟨rfl,hb8⟩
     go_wp2_with fail
     refine hK.out _ _ ?_ (fun hH2=>?_)
     ·exact⟨af hb8 (af hb7 (ay (s0_))),af hb8 (af hb7 (ay (s1_))),af hb8 (af hb7 (ay (s2_))),af hb8 (af hb7 (ay (s3_))),af hb8 (af hb7 (ay (s4_))),af hb8 (af hb7 (ay (s5_))),af hb8 (af hb7 (ay (s6_))),af hb8 (af hb7 (ay (s7_))),af hb8 (af hb7 (ay (s8_)))⟩
     clear hK K hH1
     try simp only[dP,hwA]
     refine hwt 33 dQ (.bool (!ow)) hH2 ?_ ?_
     ·intro w' hSw;dsimp only[dQ];go_simp
     try simp only[dQ,hwA]
     refine hwt 34 dw (.bool (!ow)) hH2 ?_ ?_
     ·intro w' hSw;dsimp only[dw];go_simp
     try simp only[dw,hwA]
     refine hwt 35 cJ (.bool (!ow)) hH2 ?_ ?_
     ·intro w' hSw;dsimp only[cJ];go_simp
     try simp only[cJ,hwA]
     refine wpAnyH_done (by kernel_rfl) ?_ _;refine NoPanic.normal ?_;clear hH2 s0_ s1_ s2_ s3_ s4_ s5_ s6_ s7_ s8_;have hB:=(al (al aj.drew hb7) hb8)
     have zw8:=hB.size;have c0_8:w8.cell? ⟨w.heap.size,8,none⟩=some (.slice c m q):=af hb8 (af hb7 (ay (au (by simp) 8)));have d0_w8:=World.block_lt_of_cell? _ _ c0_8
     rcases Bool.eq_false_or_eq_true (ow) with q7 | q7
     ·(try rw[q7])
      have Hq7:=zq q7;clear q7
      go_wp2_with fail
      go_loopw [5] (fun i wr=>∃j:Nat,j≤m∧i = .int .i64 j∧Below w.heap.size w wr∧wr.cell? ⟨w.heap.size,8,none⟩=some (.slice c m q)∧Hid (rk=Tm.shapes (ts.drop j) 13 (d-1))) (fun i _=>m-(intOf i).toNat)
      case atStart=>exact⟨0,by omega,rfl,hB,c0_8,HRK.out⟩
      case round=>
       obtain⟨j,hj,rfl,hB,x0,hR0⟩:=hrel;have lx1:=World.block_lt_of_cell? _ _ x0
       by_cases hlt:j<m
       ·have hjt:j<ts.length:=by have:=HN.out;omega
        obtain⟨b,off,k0,nm0,u0,tk0,ta0,tn0,tq0,fk0,fa0,fn0,fq0,l0,a0,m0,q0,rfl,lb,e0,e1,e2,e3,e4,e5,e6,e7,e8,ht⟩:=hks.at hB hjt;have hcall:=IHH.out ts[j] (List.getElem_mem hjt) (d-1);have hstep:=hR0.out.trans (Tm.shapes_drop ts 13 (d-1) j hjt);generalize ts[j].shape 13 (d-1)=r at hcall hstep;have HC:=zq hcall;have HS:=zq hstep;clear hcall hstep hR0;have hwr:=IntWalk.i64_in (d-1) (by omega)
        go_wp2_with fail
        refine(HC.out _ _ ht (by have h:=q1;simp only[decide_eq_false_iff_not] at h;omega) (by have h:=q1;simp only[decide_eq_false_iff_not] at h;omega)).mono ?_;rintro e w9 ⟨rfl,hb9⟩;replace hB:=(al hB hb9)
        have zw9:=hB.size;replace x0:=af hb9 x0;have d0_w9:=World.block_lt_of_cell? _ _ x0
        rcases Bool.eq_false_or_eq_true (r) with q8 | q8
        ·(try rw[q8])
         have Hq8:=zq q8;clear q8;have hwr:=IntWalk.i64_in ((j:Int)+1) (by omega)
         go_wp2_with fail
         go_roundw
         case rel=>exact⟨j+1,by omega,by go_num,hB,x0,(by rw[Hid,HS.out,Hq8.out];rfl)⟩
         case measure=>simp[intOf];omega
        ·(try rw[q8])
         have Hq8:=zq q8;clear q8
         go_wp2_with fail
         refine bodyPost_ret (v:=.bool (false)) (by simp[results,Tryz.results40,go_sem,bne]) rfl ?_
         exact⟨ax ((nI k d m ow rk q1 q2 q3 q4 Hq7.out (by rw[HS.out,Hq8.out];rfl)).trans HT.out),hB⟩
       ·skip
        have HRK:Hid (rk=true):=zq (by rw[hR0.out,List.drop_eq_nil_of_le (by have:=HN.out;omega)];unfold Tm.shapes;rfl)
        go_wp2_with fail
        refine bodyPost_ret (v:=.bool (true)) (by simp[results,Tryz.results40,go_sem,bne]) rfl ?_
        exact⟨ax ((nJ k d m ow rk q1 q2 q3 q4 Hq7.out HRK.out).trans HT.out),hB⟩
     ·(try rw[q7])
      have Hq7:=zq q7;clear q7
      go_wp2_with fail
      refine bodyPost_ret (v:=.bool (false)) (by simp[results,Tryz.results40,go_sem,bne]) rfl ?_
      exact⟨ax ((nK k d m ow rk q1 q2 q3 q4 Hq7.out).trans HT.out),hB⟩
  ·skip
   have nq2:((aG k) != (m:Int))=true:=by simp only[bne,q2];rfl
   go_wp2_with fail
   have s0_:(World.alloc w (Obj.cells #[.int .i64 k,.string nm,.int .i64 u,.int .i64 tk,.slice ta tn tq,.int .i64 fk,.slice fa fn fq,.int .i64 l,.slice c m q] 28)).cell? ⟨w.heap.size,0,none⟩=some (.int .i64 k):=au (by simp) 0;have s1_:(World.alloc w (Obj.cells #[.int .i64 k,.string nm,.int .i64 u,.int .i64 tk,.slice ta tn tq,.int .i64 fk,.slice fa fn fq,.int .i64 l,.slice c m q] 28)).cell? ⟨w.heap.size,8,none⟩=some (.slice c m q):=au (by simp) 8;refine wp_region_noPanic ?_;refine wp_region_held_drew (S:=fun w'=>w'.cell? ⟨w.heap.size,0,none⟩=some (.int .i64 k)∧w'.cell? ⟨w.heap.size,8,none⟩=some (.slice c m q)) (by kernel_rfl) ?_ (fun hH0=>?_)
   ·exact⟨ay (s0_),ay (s1_)⟩
   refine hwt 0 dk (.int .i64 d) hH0 ?_ ?_
   ·intro w' hSw;dsimp only[dk];go_simp
   try simp only[dk,hwA]
   refine hwt 1 dl (.bool false) hH0 ?_ ?_
   ·intro w' hSw;dsimp only[dl];go_simp
   try simp only[dl,hwA]
   refine hwt 2 dm (.bool false) hH0 ?_ ?_
   ·intro w' hSw;dsimp only[dm];go_simp
   try simp only[dm,hwA]
   refine hwt 3 dB (.pointer (some ⟨w.heap.size,0,none⟩)) hH0 ?_ ?_
   ·intro w' hSw;dsimp only[dB];go_simp
   try simp only[dB,hwA]
   refine hwt 4 dC (.int .i64 k) hH0 ?_ ?_
   ·intro w' hSw;dsimp only[dC];go_simp
   try simp only[dC,hwA]
   refine hwt 6 dE (.pointer (some ⟨w.heap.size,8,none⟩)) hH0 ?_ ?_
   ·intro w' hSw;dsimp only[dE];go_simp
   try simp only[dE,hwA]
   refine hwt 7 dF (.slice c m q) hH0 ?_ ?_
   ·intro w' hSw;dsimp only[dF];go_simp
   try simp only[dF,hwA]
   refine hwt 8 dG (.int .i64 (m:Int)) hH0 ?_ ?_
   ·intro w' hSw;dsimp only[dG];go_simp
   try simp only[dG,hwA]
   refine hwr 5 dD (fun K hK=>?_)
   dsimp only[dD];go_simp
   go_at_call 76
   (with_reducible refine(cB k _).mono ?_)
   rintro e w10 ⟨rfl,hb10⟩
   go_wp2_with fail
   refine hK.out _ _ ?_ (fun hH1=>?_)
   ·exact⟨af hb10 (ay (s0_)),af hb10 (ay (s1_))⟩
   clear hK K hH0
   try simp only[dD,hwA]
   refine hwt 9 dH (.bool true) hH1 ?_ ?_
   ·intro w' hSw;dsimp only[dH];go_simp
   try simp only[dH,hwA]
   refine hwt 10 cD (.bool true) hH1 ?_ ?_
   ·intro w' hSw;dsimp only[cD];go_simp
   try simp only[cD,hwA]
   refine hwt 11 cE (.bool true) hH1 ?_ ?_
   ·intro w' hSw;dsimp only[cE];go_simp
   try simp only[cE,hwA]
   refine hwn 12 cP hH1 ?_
   try simp only[cP,hwA]
   refine hwn 13 cQ hH1 ?_
   try simp only[cQ,hwA]
   refine hwn 14 cR hH1 ?_
   try simp only[cR,hwA]
   refine hwt 15 cF (.bool true) hH1 ?_ ?_
   ·intro w' hSw;dsimp only[cF];go_simp
   try simp only[cF,hwA]
   refine hwt 16 cG (.bool true) hH1 ?_ ?_
   ·intro w' hSw;dsimp only[cG];go_simp
   try simp only[cG,hwA]
   refine hwn 17 cY hH1 ?_
   try simp only[cY,hwA]
   refine hwn 18 cZ hH1 ?_
   try simp only[cZ,hwA]
   refine hwn 19 d9 hH1 ?_
   try simp only[d9,hwA]
   refine hwn 20 da hH1 ?_
   try simp only[da,hwA]
   refine hwn 21 dn hH1 ?_
   try simp only[dn,hwA]
   refine hwn 22 dp hH1 ?_
   try simp only[dp,hwA]
   refine hwn 23 dq hH1 ?_
   try simp only[dq,hwA]
   refine hwn 24 db hH1 ?_
   try simp only[db,hwA]
   refine hwt 25 cH (.bool true) hH1 ?_ ?_
   ·intro w' hSw;dsimp only[cH];go_simp
   try simp only[cH,hwA]
   refine hwt 26 cI (.bool true) hH1 ?_ ?_
   ·intro w' hSw;dsimp only[cI];go_simp
   try simp only[cI,hwA]
   refine hwn 27 dr hH1 ?_
   try simp only[dr,hwA]
   refine hwn 28 dt hH1 ?_
   try simp only[dt,hwA]
   refine hwn 29 du hH1 ?_
   try simp only[du,hwA]
   refine hwn 30 dv hH1 ?_
   try simp only[dv,hwA]
   refine hwn 31 dO hH1 ?_
   try simp only[dO,hwA]
   refine hwn 32 dP hH1 ?_
   try simp only[dP,hwA]
   refine hwn 33 dQ hH1 ?_
   try simp only[dQ,hwA]
   refine hwn 34 dw hH1 ?_
   try simp only[dw,hwA]
   refine hwt 35 cJ (.bool true) hH1 ?_ ?_
   ·intro w' hSw;dsimp only[cJ];go_simp
   try simp only[cJ,hwA]
   refine wpAnyH_done (by kernel_rfl) ?_ _;refine NoPanic.normal ?_;clear hH1 s0_ s1_;have hB:=(al aj.drew hb10)
   have zw10:=hB.size
   go_wp2_with fail
   refine bodyPost_ret (v:=.bool (false)) (by simp[results,Tryz.results40,go_sem,bne]) rfl ?_
   exact⟨ax ((nL k d m ow rk q1 q2).trans HT.out),hB⟩
termination_by SizeOf.sizeOf t
decreasing_by exact Tm.kid_lt ht
end Go.Proofs.YtfahhonmiimmdaaGreat
