/- The shape of a term, by the reference. -/
import Derived.Test.YtfahhonmiimmdaaGreatB48
import Derived.Test.YtfahhonmiimmdaaGreatB5
set_option linter.unusedSimpArgs false
set_option linter.unusedVariables false
set_option maxRecDepth 100000
set_option maxHeartbeats 16000000
namespace Go.Proofs.YtfahhonmiimmdaaGreat
open Go.RowKit
def dm:Oper:=⟨some 6,.move (.tmp 1),3,"l4_casts.go:24",#[],none⟩
def dp:Oper:=⟨some 7,.binOp .lss 3 (.tmp 6) (.const (.int .i64 1)) 3,4,"l4_casts.go:24",#[⟨0,.data⟩],none⟩
def dq:Oper:=⟨some 8,.move (.tmp 7),4,"l4_casts.go:24",#[⟨1,.data⟩],none⟩
def dD:Oper:=⟨some 9,.fieldAddr 28 (.tmp 2) 0,0,"l4_casts.go:24",#[⟨2,.guard⟩],some (2,false)⟩
def dE:Oper:=⟨some 10,.load 3 (.tmp 9),3,"l4_casts.go:24",#[⟨3,.data⟩,⟨2,.guard⟩],some (2,false)⟩
def dF:Oper:=⟨some 11,.call {callee:=.value (.func 76),args:=#[.tmp 10],argTypes:=#[3]},3,"l4_casts.go:24",#[⟨4,.data⟩,⟨2,.chain⟩,⟨2,.guard⟩],some (2,false)⟩
def dG:Oper:=⟨some 12,.fieldAddr 28 (.tmp 2) 6,0,"l4_casts.go:24",#[⟨2,.guard⟩],some (2,false)⟩
def dH:Oper:=⟨some 13,.load 26 (.tmp 12),26,"l4_casts.go:24",#[⟨6,.data⟩,⟨2,.guard⟩],some (2,false)⟩
def dI:Oper:=⟨some 14,.call {callee:=.builtin .len,args:=#[.tmp 13],argTypes:=#[26]},3,"l4_casts.go:24",#[⟨7,.data⟩,⟨2,.guard⟩],some (2,false)⟩
def dJ:Oper:=⟨some 15,.binOp .neq 3 (.tmp 11) (.tmp 14) 3,4,"l4_casts.go:24",#[⟨5,.data⟩,⟨8,.data⟩,⟨2,.guard⟩],some (2,false)⟩
def cF:Oper:=⟨some 16,.pick (.tmp 8) (.const (.bool true)) (.tmp 15),4,"l4_casts.go:24",#[⟨2,.data⟩,⟨9,.data⟩],none⟩
def cG:Oper:=⟨some 17,.move (.tmp 16),4,"l4_casts.go:24",#[⟨10,.data⟩,⟨5,.chain⟩],none⟩
def cT:Oper:=⟨some 18,.fieldAddr 28 (.tmp 2) 0,0,"l4_casts.go:24",#[⟨11,.guard⟩],some (11,false)⟩
def cU:Oper:=⟨some 19,.load 3 (.tmp 18),3,"l4_casts.go:24",#[⟨12,.data⟩,⟨11,.guard⟩],some (11,false)⟩
def cV:Oper:=⟨some 20,.binOp .eql 3 (.tmp 19) (.const (.int .i64 13)) 3,4,"l4_casts.go:24",#[⟨13,.data⟩,⟨11,.guard⟩],some (11,false)⟩
def cH:Oper:=⟨some 21,.pick (.tmp 17) (.const (.bool true)) (.tmp 20),4,"l4_casts.go:24",#[⟨11,.data⟩,⟨14,.data⟩],none⟩
def cI:Oper:=⟨some 22,.move (.tmp 21),4,"l4_casts.go:24",#[⟨15,.data⟩,⟨11,.chain⟩],none⟩
def db:Oper:=⟨some 23,.fieldAddr 28 (.tmp 2) 0,0,"l4_casts.go:24",#[⟨16,.guard⟩],some (16,false)⟩
def dc:Oper:=⟨some 24,.load 3 (.tmp 23),3,"l4_casts.go:24",#[⟨17,.data⟩,⟨16,.guard⟩],some (16,false)⟩
def de:Oper:=⟨some 25,.binOp .eql 3 (.tmp 24) (.const (.int .i64 14)) 3,4,"l4_casts.go:24",#[⟨18,.data⟩,⟨16,.guard⟩],some (16,false)⟩
def df:Oper:=⟨some 26,.move (.tmp 25),4,"l4_casts.go:24",#[⟨19,.data⟩,⟨16,.chain⟩,⟨16,.guard⟩],some (16,false)⟩
def dr:Oper:=⟨some 27,.load 28 (.tmp 2),28,"l4_casts.go:24",#[⟨20,.guard⟩],some (20,true)⟩
def dt:Oper:=⟨some 28,.call {callee:=.value (.func 77),args:=#[.tmp 27],argTypes:=#[28]},4,"l4_casts.go:24",#[⟨21,.data⟩,⟨20,.chain⟩,⟨20,.guard⟩],some (20,true)⟩
def du:Oper:=⟨some 29,.unOp .not 4 (.tmp 28),4,"l4_casts.go:24",#[⟨22,.data⟩,⟨20,.guard⟩],some (20,true)⟩
def dg:Oper:=⟨some 30,.pick (.tmp 26) (.tmp 29) (.const (.bool false)),4,"l4_casts.go:24",#[⟨20,.data⟩,⟨23,.data⟩,⟨16,.guard⟩],some (16,false)⟩
def cJ:Oper:=⟨some 31,.pick (.tmp 22) (.const (.bool true)) (.tmp 30),4,"l4_casts.go:24",#[⟨16,.data⟩,⟨24,.data⟩],none⟩
def cK:Oper:=⟨some 32,.move (.tmp 31),4,"l4_casts.go:24",#[⟨25,.data⟩,⟨22,.chain⟩],none⟩
def dv:Oper:=⟨some 33,.fieldAddr 28 (.tmp 2) 0,0,"l4_casts.go:24",#[⟨26,.guard⟩],some (26,false)⟩
def dw:Oper:=⟨some 34,.load 3 (.tmp 33),3,"l4_casts.go:24",#[⟨27,.data⟩,⟨26,.guard⟩],some (26,false)⟩
def dx:Oper:=⟨some 35,.binOp .neq 3 (.tmp 34) (.const (.int .i64 14)) 3,4,"l4_casts.go:24",#[⟨28,.data⟩,⟨26,.guard⟩],some (26,false)⟩
def dy:Oper:=⟨some 36,.move (.tmp 35),4,"l4_casts.go:24",#[⟨29,.data⟩,⟨26,.chain⟩,⟨26,.guard⟩],some (26,false)⟩
def dR:Oper:=⟨some 37,.load 28 (.tmp 2),28,"l4_casts.go:24",#[⟨30,.guard⟩],some (30,true)⟩
def dS:Oper:=⟨some 38,.call {callee:=.value (.func 78),args:=#[.tmp 37],argTypes:=#[28]},4,"l4_casts.go:24",#[⟨31,.data⟩,⟨30,.chain⟩,⟨30,.guard⟩],some (30,true)⟩
def dT:Oper:=⟨some 39,.unOp .not 4 (.tmp 38),4,"l4_casts.go:24",#[⟨32,.data⟩,⟨30,.guard⟩],some (30,true)⟩
def dz:Oper:=⟨some 40,.pick (.tmp 36) (.tmp 39) (.const (.bool false)),4,"l4_casts.go:24",#[⟨30,.data⟩,⟨33,.data⟩,⟨26,.guard⟩],some (26,false)⟩
def cL:Oper:=⟨some 41,.pick (.tmp 32) (.const (.bool true)) (.tmp 40),4,"l4_casts.go:24",#[⟨26,.data⟩,⟨34,.data⟩],none⟩
theorem oz (k d:Int)(m:Nat)(ow rk:Bool)(h0:(decide (d<1))=true):(false:Bool)=(decide (1≤d) && !(k==13)&&((aD k==(m:Int))&&ow)&&rk):=by
 first | (simp_all;done) | (simp_all;omega) | grind
theorem oA (k d:Int)(m:Nat)(ow rk:Bool)(h0:(decide (d<1))=false)(h1:((aD k)==(m:Int))=true)(h2:(k==13)=true):(false:Bool)=(decide (1≤d) && !(k==13)&&((aD k==(m:Int))&&ow)&&rk):=by
 first | (simp_all;done) | (simp_all;omega) | grind
theorem oB (k d:Int)(m:Nat)(ow rk:Bool)(h0:(decide (d<1))=false)(h1:((aD k)==(m:Int))=true)(h2:(k==13)=false)(h3:(k==14)=true)(h4:(ow)=true)(h5:rk=false):(false:Bool)=(decide (1≤d) && !(k==13)&&((aD k==(m:Int))&&ow)&&rk):=by
 first | (simp_all;done) | (simp_all;omega) | grind
theorem oC (k d:Int)(m:Nat)(ow rk:Bool)(h0:(decide (d<1))=false)(h1:((aD k)==(m:Int))=true)(h2:(k==13)=false)(h3:(k==14)=true)(h4:(ow)=true)(h5:rk=true):(true:Bool)=(decide (1≤d) && !(k==13)&&((aD k==(m:Int))&&ow)&&rk):=by
 first | (simp_all;done) | (simp_all;omega) | grind
theorem oD (k d:Int)(m:Nat)(ow rk:Bool)(h0:(decide (d<1))=false)(h1:((aD k)==(m:Int))=true)(h2:(k==13)=false)(h3:(k==14)=true)(h4:(ow)=false):(false:Bool)=(decide (1≤d) && !(k==13)&&((aD k==(m:Int))&&ow)&&rk):=by
 first | (simp_all;done) | (simp_all;omega) | grind
theorem oE (k d:Int)(m:Nat)(ow rk:Bool)(h0:(decide (d<1))=false)(h1:((aD k)==(m:Int))=true)(h2:(k==13)=false)(h3:(k==14)=false)(h4:(ow)=true)(h5:rk=false):(false:Bool)=(decide (1≤d) && !(k==13)&&((aD k==(m:Int))&&ow)&&rk):=by
 first | (simp_all;done) | (simp_all;omega) | grind
theorem oF (k d:Int)(m:Nat)(ow rk:Bool)(h0:(decide (d<1))=false)(h1:((aD k)==(m:Int))=true)(h2:(k==13)=false)(h3:(k==14)=false)(h4:(ow)=true)(h5:rk=true):(true:Bool)=(decide (1≤d) && !(k==13)&&((aD k==(m:Int))&&ow)&&rk):=by
 first | (simp_all;done) | (simp_all;omega) | grind
theorem oG (k d:Int)(m:Nat)(ow rk:Bool)(h0:(decide (d<1))=false)(h1:((aD k)==(m:Int))=true)(h2:(k==13)=false)(h3:(k==14)=false)(h4:(ow)=false):(false:Bool)=(decide (1≤d) && !(k==13)&&((aD k==(m:Int))&&ow)&&rk):=by
 first | (simp_all;done) | (simp_all;omega) | grind
theorem oH (k d:Int)(m:Nat)(ow rk:Bool)(h0:(decide (d<1))=false)(h1:((aD k)==(m:Int))=false):(false:Bool)=(decide (1≤d) && !(k==13)&&((aD k==(m:Int))&&ow)&&rk):=by
 first | (simp_all;done) | (simp_all;omega) | grind
theorem kS (F:Nat→Prop)(t:Tm) : ∀(d:Int) (y:Value) (w:World),ax F w t y→0≤d→d≤100 →
  Calls Tryz.prog 40 #[y,.int .i64 d] w fun e w'=>e = .returned (.bool (t.shape 13 d))∧Below w.heap.size w w':=by
 intro d y w hy hd0 hd5;have IH : ∀t'∈t.kids,∀(d:Int) (y:Value) (W:World),ax F W t' y→0≤d→d≤100→Calls Tryz.prog 40 #[y,.int .i64 d] W fun e W'=>e = .returned (.bool (t'.shape 13 d))∧Below W.heap.size W W':=
  fun t' ht d y W a b c=>kS F t' d y W a b c
 have ho:=fun(hk:(t.kind==14)=false) W (h:Below w.heap.size w W)=>oa F t y W (hy.below h) hk;have ho4:=fun(hk:(t.kind==14)=true) W (h:Below w.heap.size w W)=>uS F t y W (hy.below h) hk;obtain⟨k,nm,u,tk,ta,tn,tq,fk,fa,fn,fq,l,c,m,q,rfl⟩:=hy.shape;obtain⟨r1,r2,r3,r4,r5,r6,r7,r8,r9,rn,rm,rq,hty,hsr,hks⟩:=hy.parts
 cases t with | mk kk nn uu tt ff ll ts=>
 simp only[Tm.kind,Tm.name,Tm.num,Tm.type,Tm.src,Tm.label,Tm.kids] at *;subst r1 r2 r3 r8;unfold Tm.shape;generalize (Tm.mk k nm u tt ff l ts).ownB=ow at *;obtain⟨rk,hrk⟩ : ∃r,r=Tm.shapes ts 13 (d-1):=⟨_,rfl⟩
 rw[←hrk,←r9];have HN:=zq r9;have HRK:=zq hrk;have HO:=zq ho;have HO4:=zq ho4;have IHH:=zq IH;unfold maxLen at rq;clear hrk ho IH hy r9 r4 r5 r6 r7 rn hty hsr ho4;obtain⟨rr,hrr⟩ : ∃rr0:Bool,(decide (1≤d) && !(k==13)&&((aD k==(m:Int))&&ow)&&rk)=rr0:=⟨_,rfl⟩
 rw[hrr];have HT:=zq hrr;clear hrr
 go_enter Tryz.func40,Tryz.ntmps40
 rcases Bool.eq_false_or_eq_true (decide (d<1)) with q1 | q1
 ·skip
  go_wp2_with fail
  refine wp_region_noPanic ?_;refine wp_region_held_drew (S:=fun w'=>True) (by kernel_rfl) ?_ (fun hH0=>?_)
  ·exact trivial
  refine hwt 0 dm (.int .i64 d) hH0 ?_ ?_
  ·intro w' hSw;dsimp only[dm];go_simp
  try simp only[dm,hwA]
  refine hwt 1 dp (.bool true) hH0 ?_ ?_
  ·intro w' hSw;dsimp only[dp];go_simp
  try simp only[dp,hwA]
  refine hwt 2 dq (.bool true) hH0 ?_ ?_
  ·intro w' hSw;dsimp only[dq];go_simp
  try simp only[dq,hwA]
  refine hwn 3 dD hH0 ?_
  try simp only[dD,hwA]
  refine hwn 4 dE hH0 ?_
  try simp only[dE,hwA]
  refine hwn 5 dF hH0 ?_
  try simp only[dF,hwA]
  refine hwn 6 dG hH0 ?_
  try simp only[dG,hwA]
  refine hwn 7 dH hH0 ?_
  try simp only[dH,hwA]
  refine hwn 8 dI hH0 ?_
  try simp only[dI,hwA]
  refine hwn 9 dJ hH0 ?_
  try simp only[dJ,hwA]
  refine hwt 10 cF (.bool true) hH0 ?_ ?_
  ·intro w' hSw;dsimp only[cF];go_simp
  try simp only[cF,hwA]
  refine hwt 11 cG (.bool true) hH0 ?_ ?_
  ·intro w' hSw;dsimp only[cG];go_simp
  try simp only[cG,hwA]
  refine hwn 12 cT hH0 ?_
  try simp only[cT,hwA]
  refine hwn 13 cU hH0 ?_
  try simp only[cU,hwA]
  refine hwn 14 cV hH0 ?_
  try simp only[cV,hwA]
  refine hwt 15 cH (.bool true) hH0 ?_ ?_
  ·intro w' hSw;dsimp only[cH];go_simp
  try simp only[cH,hwA]
  refine hwt 16 cI (.bool true) hH0 ?_ ?_
  ·intro w' hSw;dsimp only[cI];go_simp
  try simp only[cI,hwA]
  refine hwn 17 db hH0 ?_
  try simp only[db,hwA]
  refine hwn 18 dc hH0 ?_
  try simp only[dc,hwA]
  refine hwn 19 de hH0 ?_
  try simp only[de,hwA]
  refine hwn 20 df hH0 ?_
  try simp only[df,hwA]
  refine hwn 21 dr hH0 ?_
  try simp only[dr,hwA]
  refine hwn 22 dt hH0 ?_
  try simp only[dt,hwA]
  refine hwn 23 du hH0 ?_
  try simp only[du,hwA]
  refine hwn 24 dg hH0 ?_
  try simp only[dg,hwA]
  refine hwt 25 cJ (.bool true) hH0 ?_ ?_
  ·intro w' hSw;dsimp only[cJ];go_simp
  try simp only[cJ,hwA]
  refine hwt 26 cK (.bool true) hH0 ?_ ?_
  ·intro w' hSw;dsimp only[cK];go_simp
  try simp only[cK,hwA]
  refine hwn 27 dv hH0 ?_
  try simp only[dv,hwA]
  refine hwn 28 dw hH0 ?_
  try simp only[dw,hwA]
  refine hwn 29 dx hH0 ?_
  try simp only[dx,hwA]
  refine hwn 30 dy hH0 ?_
  try simp only[dy,hwA]
  refine hwn 31 dR hH0 ?_
  try simp only[dR,hwA]
  refine hwn 32 dS hH0 ?_
  try simp only[dS,hwA]
  refine hwn 33 dT hH0 ?_
  try simp only[dT,hwA]
  refine hwn 34 dz hH0 ?_
  try simp only[dz,hwA]
  refine hwt 35 cL (.bool true) hH0 ?_ ?_
  ·intro w' hSw;dsimp only[cL];go_simp
  try simp only[cL,hwA]
  refine wpAnyH_done (by kernel_rfl) ?_ _;refine NoPanic.normal ?_;clear hH0
  go_wp2_with fail
  refine bodyPost_ret (v:=.bool (false)) (by simp[results,Tryz.results40,go_sem,bne]) rfl ?_
  exact⟨au ((oz k d m ow rk q1).trans HT.out),ai.drew⟩
 ·skip
  rcases Bool.eq_false_or_eq_true ((aD k)==(m:Int)) with q2 | q2
  ·skip
   have nq2:((aD k) != (m:Int))=false:=by simp only[bne,q2];rfl
   rcases Bool.eq_false_or_eq_true (k==13) with q3 | q3
   ·skip
    have nq3:(k != 13)=false:=by simp only[bne,q3];rfl
    go_wp2_with fail
    have s0_:(World.alloc w (Obj.cells #[.int .i64 k,.string nm,.int .i64 u,.int .i64 tk,.slice ta tn tq,.int .i64 fk,.slice fa fn fq,.int .i64 l,.slice c m q] 28)).cell? ⟨w.heap.size,0,none⟩=some (.int .i64 k):=ap (by simp) 0;have s1_:(World.alloc w (Obj.cells #[.int .i64 k,.string nm,.int .i64 u,.int .i64 tk,.slice ta tn tq,.int .i64 fk,.slice fa fn fq,.int .i64 l,.slice c m q] 28)).cell? ⟨w.heap.size,8,none⟩=some (.slice c m q):=ap (by simp) 8;refine wp_region_noPanic ?_;refine wp_region_held_drew (S:=fun w'=>w'.cell? ⟨w.heap.size,0,none⟩=some (.int .i64 k)∧w'.cell? ⟨w.heap.size,8,none⟩=some (.slice c m q)) (by kernel_rfl) ?_ (fun hH0=>?_)
    ·exact⟨av (s0_),av (s1_)⟩
    refine hwt 0 dm (.int .i64 d) hH0 ?_ ?_
    ·intro w' hSw;dsimp only[dm];go_simp
    try simp only[dm,hwA]
    refine hwt 1 dp (.bool false) hH0 ?_ ?_
    ·intro w' hSw;dsimp only[dp];go_simp
    try simp only[dp,hwA]
    refine hwt 2 dq (.bool false) hH0 ?_ ?_
    ·intro w' hSw;dsimp only[dq];go_simp
    try simp only[dq,hwA]
    refine hwt 3 dD (.pointer (some ⟨w.heap.size,0,none⟩)) hH0 ?_ ?_
    ·intro w' hSw;dsimp only[dD];go_simp
    try simp only[dD,hwA]
    refine hwt 4 dE (.int .i64 k) hH0 ?_ ?_
    ·intro w' hSw;dsimp only[dE];go_simp
    try simp only[dE,hwA]
    refine hwt 6 dG (.pointer (some ⟨w.heap.size,8,none⟩)) hH0 ?_ ?_
    ·intro w' hSw;dsimp only[dG];go_simp
    try simp only[dG,hwA]
    refine hwt 7 dH (.slice c m q) hH0 ?_ ?_
    ·intro w' hSw;dsimp only[dH];go_simp
    try simp only[dH,hwA]
    refine hwt 8 dI (.int .i64 (m:Int)) hH0 ?_ ?_
    ·intro w' hSw;dsimp only[dI];go_simp
    try simp only[dI,hwA]
    refine hwr 5 dF (fun K hK=>?_)
    dsimp only[dF];go_simp
    go_at_call 76
    (with_reducible refine(cD k _).mono ?_)
    rintro e w1 ⟨rfl,hb1⟩
    go_wp2_with fail
    refine hK.out _ _ ?_ (fun hH1=>?_)
    ·exact⟨ah hb1 (av (s0_)),ah hb1 (av (s1_))⟩
    clear hK K hH0
    try simp only[dF,hwA]
    refine hwt 9 dJ (.bool false) hH1 ?_ ?_
    ·intro w' hSw;dsimp only[dJ];go_simp
    try simp only[dJ,hwA]
    refine hwt 10 cF (.bool false) hH1 ?_ ?_
    ·intro w' hSw;dsimp only[cF];go_simp
    try simp only[cF,hwA]
    refine hwt 11 cG (.bool false) hH1 ?_ ?_
    ·intro w' hSw;dsimp only[cG];go_simp
    try simp only[cG,hwA]
    refine hwt 12 cT (.pointer (some ⟨w.heap.size,0,none⟩)) hH1 ?_ ?_
    ·intro w' hSw;dsimp only[cT];go_simp
    try simp only[cT,hwA]
    refine hwt 13 cU (.int .i64 k) hH1 ?_ ?_
    ·intro w' hSw;dsimp only[cU];go_simp
    try simp only[cU,hwA]
    refine hwt 14 cV (.bool true) hH1 ?_ ?_
    ·intro w' hSw;dsimp only[cV];go_simp
    try simp only[cV,hwA]
    refine hwt 15 cH (.bool true) hH1 ?_ ?_
    ·intro w' hSw;dsimp only[cH];go_simp
    try simp only[cH,hwA]
    refine hwt 16 cI (.bool true) hH1 ?_ ?_
    ·intro w' hSw;dsimp only[cI];go_simp
    try simp only[cI,hwA]
    refine hwn 17 db hH1 ?_
    try simp only[db,hwA]
    refine hwn 18 dc hH1 ?_
    try simp only[dc,hwA]
    refine hwn 19 de hH1 ?_
    try simp only[de,hwA]
    refine hwn 20 df hH1 ?_
    try simp only[df,hwA]
    refine hwn 21 dr hH1 ?_
    try simp only[dr,hwA]
    refine hwn 22 dt hH1 ?_
    try simp only[dt,hwA]
    refine hwn 23 du hH1 ?_
    try simp only[du,hwA]
    refine hwn 24 dg hH1 ?_
    try simp only[dg,hwA]
    refine hwt 25 cJ (.bool true) hH1 ?_ ?_
    ·intro w' hSw;dsimp only[cJ];go_simp
    try simp only[cJ,hwA]
    refine hwt 26 cK (.bool true) hH1 ?_ ?_
    ·intro w' hSw;dsimp only[cK];go_simp
    try simp only[cK,hwA]
    refine hwn 27 dv hH1 ?_
    try simp only[dv,hwA]
    refine hwn 28 dw hH1 ?_
    try simp only[dw,hwA]
    refine hwn 29 dx hH1 ?_
    try simp only[dx,hwA]
    refine hwn 30 dy hH1 ?_
    try simp only[dy,hwA]
    refine hwn 31 dR hH1 ?_
    try simp only[dR,hwA]
    refine hwn 32 dS hH1 ?_
    try simp only[dS,hwA]
    refine hwn 33 dT hH1 ?_
    try simp only[dT,hwA]
    refine hwn 34 dz hH1 ?_
    try simp only[dz,hwA]
    refine hwt 35 cL (.bool true) hH1 ?_ ?_
    ·intro w' hSw;dsimp only[cL];go_simp
    try simp only[cL,hwA]
    refine wpAnyH_done (by kernel_rfl) ?_ _;refine NoPanic.normal ?_;clear hH1 s0_ s1_;have hB:=(aj ai.drew hb1)
    have zw1:=hB.size
    go_wp2_with fail
    refine bodyPost_ret (v:=.bool (false)) (by simp[results,Tryz.results40,go_sem,bne]) rfl ?_
    exact⟨au ((oA k d m ow rk q1 q2 q3).trans HT.out),hB⟩
   ·skip
    have nq3:(k != 13)=true:=by simp only[bne,q3];rfl
    rcases Bool.eq_false_or_eq_true (k==14) with q4 | q4
    ·skip
     have nq4:(k != 14)=false:=by simp only[bne,q4];rfl
     rcases Bool.eq_false_or_eq_true (ow) with q5 | q5
     ·have Hq5:=zq q5
      clear q5
      go_wp2_with fail
      have s0_:(World.alloc w (Obj.cells #[.int .i64 k,.string nm,.int .i64 u,.int .i64 tk,.slice ta tn tq,.int .i64 fk,.slice fa fn fq,.int .i64 l,.slice c m q] 28)).cell? ⟨w.heap.size,0,none⟩=some (.int .i64 k):=ap (by simp) 0;have s1_:(World.alloc w (Obj.cells #[.int .i64 k,.string nm,.int .i64 u,.int .i64 tk,.slice ta tn tq,.int .i64 fk,.slice fa fn fq,.int .i64 l,.slice c m q] 28)).cell? ⟨w.heap.size,8,none⟩=some (.slice c m q):=ap (by simp) 8;have s2_:(World.alloc w (Obj.cells #[.int .i64 k,.string nm,.int .i64 u,.int .i64 tk,.slice ta tn tq,.int .i64 fk,.slice fa fn fq,.int .i64 l,.slice c m q] 28)).cell? ⟨w.heap.size,1,none⟩=some (.string nm):=ap (by simp) 1;have s3_:(World.alloc w (Obj.cells #[.int .i64 k,.string nm,.int .i64 u,.int .i64 tk,.slice ta tn tq,.int .i64 fk,.slice fa fn fq,.int .i64 l,.slice c m q] 28)).cell? ⟨w.heap.size,2,none⟩=some (.int .i64 u):=ap (by simp) 2;have s4_:(World.alloc w (Obj.cells #[.int .i64 k,.string nm,.int .i64 u,.int .i64 tk,.slice ta tn tq,.int .i64 fk,.slice fa fn fq,.int .i64 l,.slice c m q] 28)).cell? ⟨w.heap.size,3,none⟩=some (.int .i64 tk):=ap (by simp) 3;have s5_:(World.alloc w (Obj.cells #[.int .i64 k,.string nm,.int .i64 u,.int .i64 tk,.slice ta tn tq,.int .i64 fk,.slice fa fn fq,.int .i64 l,.slice c m q] 28)).cell? ⟨w.heap.size,4,none⟩=some (.slice ta tn tq):=ap (by simp) 4;have s6_:(World.alloc w (Obj.cells #[.int .i64 k,.string nm,.int .i64 u,.int .i64 tk,.slice ta tn tq,.int .i64 fk,.slice fa fn fq,.int .i64 l,.slice c m q] 28)).cell? ⟨w.heap.size,5,none⟩=some (.int .i64 fk):=ap (by simp) 5;have s7_:(World.alloc w (Obj.cells #[.int .i64 k,.string nm,.int .i64 u,.int .i64 tk,.slice ta tn tq,.int .i64 fk,.slice fa fn fq,.int .i64 l,.slice c m q] 28)).cell? ⟨w.heap.size,6,none⟩=some (.slice fa fn fq):=ap (by simp) 6;have s8_:(World.alloc w (Obj.cells #[.int .i64 k,.string nm,.int .i64 u,.int .i64 tk,.slice ta tn tq,.int .i64 fk,.slice fa fn fq,.int .i64 l,.slice c m q] 28)).cell? ⟨w.heap.size,7,none⟩=some (.int .i64 l):=ap (by simp) 7;refine wp_region_noPanic ?_;refine wp_region_held_drew (S:=fun w'=>w'.cell? ⟨w.heap.size,0,none⟩=some (.int .i64 k)∧w'.cell? ⟨w.heap.size,8,none⟩=some (.slice c m q)∧w'.cell? ⟨w.heap.size,1,none⟩=some (.string nm)∧w'.cell? ⟨w.heap.size,2,none⟩=some (.int .i64 u)∧w'.cell? ⟨w.heap.size,3,none⟩=some (.int .i64 tk)∧w'.cell? ⟨w.heap.size,4,none⟩=some (.slice ta tn tq)∧w'.cell? ⟨w.heap.size,5,none⟩=some (.int .i64 fk)∧w'.cell? ⟨w.heap.size,6,none⟩=some (.slice fa fn fq)∧w'.cell? ⟨w.heap.size,7,none⟩=some (.int .i64 l)) (by kernel_rfl) ?_ (fun hH0=>?_)
      ·exact⟨av (s0_),av (s1_),av (s2_),av (s3_),av (s4_),av (s5_),av (s6_),av (s7_),av (s8_)⟩
      refine hwt 0 dm (.int .i64 d) hH0 ?_ ?_
      ·intro w' hSw;dsimp only[dm];go_simp
      try simp only[dm,hwA]
      refine hwt 1 dp (.bool false) hH0 ?_ ?_
      ·intro w' hSw;dsimp only[dp];go_simp
      try simp only[dp,hwA]
      refine hwt 2 dq (.bool false) hH0 ?_ ?_
      ·intro w' hSw;dsimp only[dq];go_simp
      try simp only[dq,hwA]
      refine hwt 3 dD (.pointer (some ⟨w.heap.size,0,none⟩)) hH0 ?_ ?_
      ·intro w' hSw;dsimp only[dD];go_simp
      try simp only[dD,hwA]
      refine hwt 4 dE (.int .i64 k) hH0 ?_ ?_
      ·intro w' hSw;dsimp only[dE];go_simp
      try simp only[dE,hwA]
      refine hwt 6 dG (.pointer (some ⟨w.heap.size,8,none⟩)) hH0 ?_ ?_
      ·intro w' hSw;dsimp only[dG];go_simp
      try simp only[dG,hwA]
      refine hwt 7 dH (.slice c m q) hH0 ?_ ?_
      ·intro w' hSw;dsimp only[dH];go_simp
      try simp only[dH,hwA]
      refine hwt 8 dI (.int .i64 (m:Int)) hH0 ?_ ?_
      ·intro w' hSw;dsimp only[dI];go_simp
      try simp only[dI,hwA]
      refine hwr 5 dF (fun K hK=>?_)
      dsimp only[dF];go_simp
      go_at_call 76
      (with_reducible refine(cD k _).mono ?_)
      rintro e w2 ⟨rfl,hb2⟩
      go_wp2_with fail
      refine hK.out _ _ ?_ (fun hH1=>?_)
      ·exact⟨ah hb2 (av (s0_)),ah hb2 (av (s1_)),ah hb2 (av (s2_)),ah hb2 (av (s3_)),ah hb2 (av (s4_)),ah hb2 (av (s5_)),ah hb2 (av (s6_)),ah hb2 (av (s7_)),ah hb2 (av (s8_))⟩
      clear hK K hH0
      try simp only[dF,hwA]
      refine hwt 9 dJ (.bool false) hH1 ?_ ?_
      ·intro w' hSw;dsimp only[dJ];go_simp
      try simp only[dJ,hwA]
      refine hwt 10 cF (.bool false) hH1 ?_ ?_
      ·intro w' hSw;dsimp only[cF];go_simp
      try simp only[cF,hwA]
      refine hwt 11 cG (.bool false) hH1 ?_ ?_
      ·intro w' hSw;dsimp only[cG];go_simp
      try simp only[cG,hwA]
      refine hwt 12 cT (.pointer (some ⟨w.heap.size,0,none⟩)) hH1 ?_ ?_
      ·intro w' hSw;dsimp only[cT];go_simp
      try simp only[cT,hwA]
      refine hwt 13 cU (.int .i64 k) hH1 ?_ ?_
      ·intro w' hSw;dsimp only[cU];go_simp
      try simp only[cU,hwA]
      refine hwt 14 cV (.bool false) hH1 ?_ ?_
      ·intro w' hSw;dsimp only[cV];go_simp
      try simp only[cV,hwA]
      refine hwt 15 cH (.bool false) hH1 ?_ ?_
      ·intro w' hSw;dsimp only[cH];go_simp
      try simp only[cH,hwA]
      refine hwt 16 cI (.bool false) hH1 ?_ ?_
      ·intro w' hSw;dsimp only[cI];go_simp
      try simp only[cI,hwA]
      refine hwt 17 db (.pointer (some ⟨w.heap.size,0,none⟩)) hH1 ?_ ?_
      ·intro w' hSw;dsimp only[db];go_simp
      try simp only[db,hwA]
      refine hwt 18 dc (.int .i64 k) hH1 ?_ ?_
      ·intro w' hSw;dsimp only[dc];go_simp
      try simp only[dc,hwA]
      refine hwt 19 de (.bool true) hH1 ?_ ?_
      ·intro w' hSw;dsimp only[de];go_simp
      try simp only[de,hwA]
      refine hwt 20 df (.bool true) hH1 ?_ ?_
      ·intro w' hSw;dsimp only[df];go_simp
      try simp only[df,hwA]
      refine hwt 21 dr (.agg #[.int .i64 k,.string nm,.int .i64 u,.int .i64 tk,.slice ta tn tq,.int .i64 fk,.slice fa fn fq,.int .i64 l,.slice c m q]) hH1 ?_ ?_
      ·intro w' hSw;dsimp only[dr];go_simp
      try simp only[dr,hwA]
      refine hwr 22 dt (fun K hK=>?_)
      dsimp only[dt];go_simp
      go_at_call 77
      (with_reducible refine(HO4.out q4 _ (aj ai.drew hb2)).mono ?_)
      rintro e w3 ⟨rfl,hb3⟩;rw[Hq5.out]
      go_wp2_with fail
      refine hK.out _ _ ?_ (fun hH2=>?_)
      ·exact⟨ah hb3 (ah hb2 (av (s0_))),ah hb3 (ah hb2 (av (s1_))),ah hb3 (ah hb2 (av (s2_))),ah hb3 (ah hb2 (av (s3_))),ah hb3 (ah hb2 (av (s4_))),ah hb3 (ah hb2 (av (s5_))),ah hb3 (ah hb2 (av (s6_))),ah hb3 (ah hb2 (av (s7_))),ah hb3 (ah hb2 (av (s8_)))⟩
      clear hK K hH1
      try simp only[dt,hwA]
      refine hwt 23 du (.bool false) hH2 ?_ ?_
      ·intro w' hSw;dsimp only[du];go_simp
      try simp only[du,hwA]
      refine hwt 24 dg (.bool false) hH2 ?_ ?_
      ·intro w' hSw;dsimp only[dg];go_simp
      try simp only[dg,hwA]
      refine hwt 25 cJ (.bool false) hH2 ?_ ?_
      ·intro w' hSw;dsimp only[cJ];go_simp
      try simp only[cJ,hwA]
      refine hwt 26 cK (.bool false) hH2 ?_ ?_
      ·intro w' hSw;dsimp only[cK];go_simp
      try simp only[cK,hwA]
      refine hwt 27 dv (.pointer (some ⟨w.heap.size,0,none⟩)) hH2 ?_ ?_
      ·intro w' hSw;dsimp only[dv];go_simp
      try simp only[dv,hwA]
      refine hwt 28 dw (.int .i64 k) hH2 ?_ ?_
      ·intro w' hSw;dsimp only[dw];go_simp
      try simp only[dw,hwA]
      refine hwt 29 dx (.bool false) hH2 ?_ ?_
      ·intro w' hSw;dsimp only[dx];go_simp
      try simp only[dx,hwA]
      refine hwt 30 dy (.bool false) hH2 ?_ ?_
      ·intro w' hSw;dsimp only[dy];go_simp
      try simp only[dy,hwA]
      refine hwn 31 dR hH2 ?_
      try simp only[dR,hwA]
      refine hwn 32 dS hH2 ?_
      try simp only[dS,hwA]
      refine hwn 33 dT hH2 ?_
      try simp only[dT,hwA]
      refine hwt 34 dz (.bool false) hH2 ?_ ?_
      ·intro w' hSw;dsimp only[dz];go_simp
      try simp only[dz,hwA]
      refine hwt 35 cL (.bool false) hH2 ?_ ?_
      ·intro w' hSw;dsimp only[cL];go_simp
      try simp only[cL,hwA]
      refine wpAnyH_done (by kernel_rfl) ?_ _;refine NoPanic.normal ?_;clear hH2 s0_ s1_ s2_ s3_ s4_ s5_ s6_ s7_ s8_;have hB:=(aj (aj ai.drew hb2) hb3)
      have zw3:=hB.size;have c0_8:w3.cell? ⟨w.heap.size,8,none⟩=some (.slice c m q):=ah hb3 (ah hb2 (av (ap (by simp) 8)));have d0_w3:=World.block_lt_of_cell? _ _ c0_8
      go_wp2_with fail
      go_loopw [5] (fun i wr=>∃j:Nat,j≤m∧i = .int .i64 j∧Below w.heap.size w wr∧wr.cell? ⟨w.heap.size,8,none⟩=some (.slice c m q)∧Hid (rk=Tm.shapes (ts.drop j) 13 (d-1))) (fun i _=>m-(intOf i).toNat)
      case atStart=>exact⟨0,by omega,rfl,hB,c0_8,HRK.out⟩
      case round=>
       obtain⟨j,hj,rfl,hB,x0,hR0⟩:=hrel;have lx1:=World.block_lt_of_cell? _ _ x0
       by_cases hlt:j<m
       ·have hjt:j<ts.length:=by have:=HN.out;omega
        obtain⟨b,off,k0,nm0,u0,tk0,ta0,tn0,tq0,fk0,fa0,fn0,fq0,l0,a0,m0,q0,rfl,lb,e0,e1,e2,e3,e4,e5,e6,e7,e8,ht⟩:=hks.at hB hjt;have hcall:=IHH.out ts[j] (List.getElem_mem hjt) (d-1);have hstep:=hR0.out.trans (Tm.shapes_drop ts 13 (d-1) j hjt);generalize ts[j].shape 13 (d-1)=r at hcall hstep;have HC:=zq hcall;have HS:=zq hstep;clear hcall hstep hR0;have hwr:=IntWalk.i64_in (d-1) (by omega)
        go_wp2_with fail
        refine(HC.out _ _ ht (by have h:=q1;simp only[decide_eq_false_iff_not] at h;omega) (by have h:=q1;simp only[decide_eq_false_iff_not] at h;omega)).mono ?_;rintro e w4 ⟨rfl,hb4⟩;replace hB:=(aj hB hb4)
        have zw4:=hB.size;replace x0:=ah hb4 x0;have d0_w4:=World.block_lt_of_cell? _ _ x0
        rcases Bool.eq_false_or_eq_true (r) with q6 | q6
        ·(try rw[q6])
         have Hq6:=zq q6;clear q6;have hwr:=IntWalk.i64_in ((j:Int)+1) (by omega)
         go_wp2_with fail
         go_roundw
         case rel=>exact⟨j+1,by omega,by go_num,hB,x0,(by rw[Hid,HS.out,Hq6.out];rfl)⟩
         case measure=>simp[intOf];omega
        ·(try rw[q6])
         have Hq6:=zq q6;clear q6
         go_wp2_with fail
         refine bodyPost_ret (v:=.bool (false)) (by simp[results,Tryz.results40,go_sem,bne]) rfl ?_
         exact⟨au ((oB k d m ow rk q1 q2 q3 q4 Hq5.out (by rw[HS.out,Hq6.out];rfl)).trans HT.out),hB⟩
       ·skip
        have HRK:Hid (rk=true):=zq (by rw[hR0.out,List.drop_eq_nil_of_le (by have:=HN.out;omega)];unfold Tm.shapes;rfl)
        go_wp2_with fail
        refine bodyPost_ret (v:=.bool (true)) (by simp[results,Tryz.results40,go_sem,bne]) rfl ?_
        exact⟨au ((oC k d m ow rk q1 q2 q3 q4 Hq5.out HRK.out).trans HT.out),hB⟩
     ·have Hq5:=zq q5
      clear q5
      go_wp2_with fail
      have s0_:(World.alloc w (Obj.cells #[.int .i64 k,.string nm,.int .i64 u,.int .i64 tk,.slice ta tn tq,.int .i64 fk,.slice fa fn fq,.int .i64 l,.slice c m q] 28)).cell? ⟨w.heap.size,0,none⟩=some (.int .i64 k):=ap (by simp) 0;have s1_:(World.alloc w (Obj.cells #[.int .i64 k,.string nm,.int .i64 u,.int .i64 tk,.slice ta tn tq,.int .i64 fk,.slice fa fn fq,.int .i64 l,.slice c m q] 28)).cell? ⟨w.heap.size,8,none⟩=some (.slice c m q):=ap (by simp) 8;have s2_:(World.alloc w (Obj.cells #[.int .i64 k,.string nm,.int .i64 u,.int .i64 tk,.slice ta tn tq,.int .i64 fk,.slice fa fn fq,.int .i64 l,.slice c m q] 28)).cell? ⟨w.heap.size,1,none⟩=some (.string nm):=ap (by simp) 1;have s3_:(World.alloc w (Obj.cells #[.int .i64 k,.string nm,.int .i64 u,.int .i64 tk,.slice ta tn tq,.int .i64 fk,.slice fa fn fq,.int .i64 l,.slice c m q] 28)).cell? ⟨w.heap.size,2,none⟩=some (.int .i64 u):=ap (by simp) 2;have s4_:(World.alloc w (Obj.cells #[.int .i64 k,.string nm,.int .i64 u,.int .i64 tk,.slice ta tn tq,.int .i64 fk,.slice fa fn fq,.int .i64 l,.slice c m q] 28)).cell? ⟨w.heap.size,3,none⟩=some (.int .i64 tk):=ap (by simp) 3;have s5_:(World.alloc w (Obj.cells #[.int .i64 k,.string nm,.int .i64 u,.int .i64 tk,.slice ta tn tq,.int .i64 fk,.slice fa fn fq,.int .i64 l,.slice c m q] 28)).cell? ⟨w.heap.size,4,none⟩=some (.slice ta tn tq):=ap (by simp) 4;have s6_:(World.alloc w (Obj.cells #[.int .i64 k,.string nm,.int .i64 u,.int .i64 tk,.slice ta tn tq,.int .i64 fk,.slice fa fn fq,.int .i64 l,.slice c m q] 28)).cell? ⟨w.heap.size,5,none⟩=some (.int .i64 fk):=ap (by simp) 5;have s7_:(World.alloc w (Obj.cells #[.int .i64 k,.string nm,.int .i64 u,.int .i64 tk,.slice ta tn tq,.int .i64 fk,.slice fa fn fq,.int .i64 l,.slice c m q] 28)).cell? ⟨w.heap.size,6,none⟩=some (.slice fa fn fq):=ap (by simp) 6;have s8_:(World.alloc w (Obj.cells #[.int .i64 k,.string nm,.int .i64 u,.int .i64 tk,.slice ta tn tq,.int .i64 fk,.slice fa fn fq,.int .i64 l,.slice c m q] 28)).cell? ⟨w.heap.size,7,none⟩=some (.int .i64 l):=ap (by simp) 7;refine wp_region_noPanic ?_;refine wp_region_held_drew (S:=fun w'=>w'.cell? ⟨w.heap.size,0,none⟩=some (.int .i64 k)∧w'.cell? ⟨w.heap.size,8,none⟩=some (.slice c m q)∧w'.cell? ⟨w.heap.size,1,none⟩=some (.string nm)∧w'.cell? ⟨w.heap.size,2,none⟩=some (.int .i64 u)∧w'.cell? ⟨w.heap.size,3,none⟩=some (.int .i64 tk)∧w'.cell? ⟨w.heap.size,4,none⟩=some (.slice ta tn tq)∧w'.cell? ⟨w.heap.size,5,none⟩=some (.int .i64 fk)∧w'.cell? ⟨w.heap.size,6,none⟩=some (.slice fa fn fq)∧w'.cell? ⟨w.heap.size,7,none⟩=some (.int .i64 l)) (by kernel_rfl) ?_ (fun hH0=>?_)
      ·exact⟨av (s0_),av (s1_),av (s2_),av (s3_),av (s4_),av (s5_),av (s6_),av (s7_),av (s8_)⟩
      refine hwt 0 dm (.int .i64 d) hH0 ?_ ?_
      ·intro w' hSw;dsimp only[dm];go_simp
      try simp only[dm,hwA]
      refine hwt 1 dp (.bool false) hH0 ?_ ?_
      ·intro w' hSw;dsimp only[dp];go_simp
      try simp only[dp,hwA]
      refine hwt 2 dq (.bool false) hH0 ?_ ?_
      ·intro w' hSw;dsimp only[dq];go_simp
      try simp only[dq,hwA]
      refine hwt 3 dD (.pointer (some ⟨w.heap.size,0,none⟩)) hH0 ?_ ?_
      ·intro w' hSw;dsimp only[dD];go_simp
      try simp only[dD,hwA]
      refine hwt 4 dE (.int .i64 k) hH0 ?_ ?_
      ·intro w' hSw;dsimp only[dE];go_simp
      try simp only[dE,hwA]
      refine hwt 6 dG (.pointer (some ⟨w.heap.size,8,none⟩)) hH0 ?_ ?_
      ·intro w' hSw;dsimp only[dG];go_simp
      try simp only[dG,hwA]
      refine hwt 7 dH (.slice c m q) hH0 ?_ ?_
      ·intro w' hSw;dsimp only[dH];go_simp
      try simp only[dH,hwA]
      refine hwt 8 dI (.int .i64 (m:Int)) hH0 ?_ ?_
      ·intro w' hSw;dsimp only[dI];go_simp
      try simp only[dI,hwA]
      refine hwr 5 dF (fun K hK=>?_)
      dsimp only[dF];go_simp
      go_at_call 76
      (with_reducible refine(cD k _).mono ?_)
      rintro e w5 ⟨rfl,hb5⟩
      go_wp2_with fail
      refine hK.out _ _ ?_ (fun hH1=>?_)
      ·exact⟨ah hb5 (av (s0_)),ah hb5 (av (s1_)),ah hb5 (av (s2_)),ah hb5 (av (s3_)),ah hb5 (av (s4_)),ah hb5 (av (s5_)),ah hb5 (av (s6_)),ah hb5 (av (s7_)),ah hb5 (av (s8_))⟩
      clear hK K hH0
      try simp only[dF,hwA]
      refine hwt 9 dJ (.bool false) hH1 ?_ ?_
      ·intro w' hSw;dsimp only[dJ];go_simp
      try simp only[dJ,hwA]
      refine hwt 10 cF (.bool false) hH1 ?_ ?_
      ·intro w' hSw;dsimp only[cF];go_simp
      try simp only[cF,hwA]
      refine hwt 11 cG (.bool false) hH1 ?_ ?_
      ·intro w' hSw;dsimp only[cG];go_simp
      try simp only[cG,hwA]
      refine hwt 12 cT (.pointer (some ⟨w.heap.size,0,none⟩)) hH1 ?_ ?_
      ·intro w' hSw;dsimp only[cT];go_simp
      try simp only[cT,hwA]
      refine hwt 13 cU (.int .i64 k) hH1 ?_ ?_
      ·intro w' hSw;dsimp only[cU];go_simp
      try simp only[cU,hwA]
      refine hwt 14 cV (.bool false) hH1 ?_ ?_
      ·intro w' hSw;dsimp only[cV];go_simp
      try simp only[cV,hwA]
      refine hwt 15 cH (.bool false) hH1 ?_ ?_
      ·intro w' hSw;dsimp only[cH];go_simp
      try simp only[cH,hwA]
      refine hwt 16 cI (.bool false) hH1 ?_ ?_
      ·intro w' hSw;dsimp only[cI];go_simp
      try simp only[cI,hwA]
      refine hwt 17 db (.pointer (some ⟨w.heap.size,0,none⟩)) hH1 ?_ ?_
      ·intro w' hSw;dsimp only[db];go_simp
      try simp only[db,hwA]
      refine hwt 18 dc (.int .i64 k) hH1 ?_ ?_
      ·intro w' hSw;dsimp only[dc];go_simp
      try simp only[dc,hwA]
      refine hwt 19 de (.bool true) hH1 ?_ ?_
      ·intro w' hSw;dsimp only[de];go_simp
      try simp only[de,hwA]
      refine hwt 20 df (.bool true) hH1 ?_ ?_
      ·intro w' hSw;dsimp only[df];go_simp
      try simp only[df,hwA]
      refine hwt 21 dr (.agg #[.int .i64 k,.string nm,.int .i64 u,.int .i64 tk,.slice ta tn tq,.int .i64 fk,.slice fa fn fq,.int .i64 l,.slice c m q]) hH1 ?_ ?_
      ·intro w' hSw;dsimp only[dr];go_simp
      try simp only[dr,hwA]
      refine hwr 22 dt (fun K hK=>?_)
      dsimp only[dt];go_simp
      go_at_call 77
      (with_reducible refine(HO4.out q4 _ (aj ai.drew hb5)).mono ?_)
      rintro e w6 ⟨rfl,hb6⟩;rw[Hq5.out]
      go_wp2_with fail
      refine hK.out _ _ ?_ (fun hH2=>?_)
      ·exact⟨ah hb6 (ah hb5 (av (s0_))),ah hb6 (ah hb5 (av (s1_))),ah hb6 (ah hb5 (av (s2_))),ah hb6 (ah hb5 (av (s3_))),ah hb6 (ah hb5 (av (s4_))),ah hb6 (ah hb5 (av (s5_))),ah hb6 (ah hb5 (av (s6_))),ah hb6 (ah hb5 (av (s7_))),ah hb6 (ah hb5 (av (s8_)))⟩
      clear hK K hH1
      try simp only[dt,hwA]
      refine hwt 23 du (.bool true) hH2 ?_ ?_
      ·intro w' hSw;dsimp only[du];go_simp
      try simp only[du,hwA]
      refine hwt 24 dg (.bool true) hH2 ?_ ?_
      ·intro w' hSw;dsimp only[dg];go_simp
      try simp only[dg,hwA]
      refine hwt 25 cJ (.bool true) hH2 ?_ ?_
      ·intro w' hSw;dsimp only[cJ];go_simp
      try simp only[cJ,hwA]
      refine hwt 26 cK (.bool true) hH2 ?_ ?_
      ·intro w' hSw;dsimp only[cK];go_simp
      try simp only[cK,hwA]
      refine hwn 27 dv hH2 ?_
      try simp only[dv,hwA]
      refine hwn 28 dw hH2 ?_
      try simp only[dw,hwA]
      refine hwn 29 dx hH2 ?_
      try simp only[dx,hwA]
      refine hwn 30 dy hH2 ?_
      try simp only[dy,hwA]
      refine hwn 31 dR hH2 ?_
      try simp only[dR,hwA]
      refine hwn 32 dS hH2 ?_
      try simp only[dS,hwA]
      refine hwn 33 dT hH2 ?_
      try simp only[dT,hwA]
      refine hwn 34 dz hH2 ?_
      try simp only[dz,hwA]
      refine hwt 35 cL (.bool true) hH2 ?_ ?_
      ·intro w' hSw;dsimp only[cL];go_simp
      try simp only[cL,hwA]
      refine wpAnyH_done (by kernel_rfl) ?_ _;refine NoPanic.normal ?_;clear hH2 s0_ s1_ s2_ s3_ s4_ s5_ s6_ s7_ s8_;have hB:=(aj (aj ai.drew hb5) hb6)
      have zw6:=hB.size
      go_wp2_with fail
      refine bodyPost_ret (v:=.bool (false)) (by simp[results,Tryz.results40,go_sem,bne]) rfl ?_
      exact⟨au ((oD k d m ow rk q1 q2 q3 q4 Hq5.out).trans HT.out),hB⟩
    ·skip
     have nq4:(k != 14)=true:=by simp only[bne,q4];rfl
     go_wp2_with fail
     have s0_:(World.alloc w (Obj.cells #[.int .i64 k,.string nm,.int .i64 u,.int .i64 tk,.slice ta tn tq,.int .i64 fk,.slice fa fn fq,.int .i64 l,.slice c m q] 28)).cell? ⟨w.heap.size,0,none⟩=some (.int .i64 k):=ap (by simp) 0;have s1_:(World.alloc w (Obj.cells #[.int .i64 k,.string nm,.int .i64 u,.int .i64 tk,.slice ta tn tq,.int .i64 fk,.slice fa fn fq,.int .i64 l,.slice c m q] 28)).cell? ⟨w.heap.size,8,none⟩=some (.slice c m q):=ap (by simp) 8;have s2_:(World.alloc w (Obj.cells #[.int .i64 k,.string nm,.int .i64 u,.int .i64 tk,.slice ta tn tq,.int .i64 fk,.slice fa fn fq,.int .i64 l,.slice c m q] 28)).cell? ⟨w.heap.size,1,none⟩=some (.string nm):=ap (by simp) 1;have s3_:(World.alloc w (Obj.cells #[.int .i64 k,.string nm,.int .i64 u,.int .i64 tk,.slice ta tn tq,.int .i64 fk,.slice fa fn fq,.int .i64 l,.slice c m q] 28)).cell? ⟨w.heap.size,2,none⟩=some (.int .i64 u):=ap (by simp) 2;have s4_:(World.alloc w (Obj.cells #[.int .i64 k,.string nm,.int .i64 u,.int .i64 tk,.slice ta tn tq,.int .i64 fk,.slice fa fn fq,.int .i64 l,.slice c m q] 28)).cell? ⟨w.heap.size,3,none⟩=some (.int .i64 tk):=ap (by simp) 3;have s5_:(World.alloc w (Obj.cells #[.int .i64 k,.string nm,.int .i64 u,.int .i64 tk,.slice ta tn tq,.int .i64 fk,.slice fa fn fq,.int .i64 l,.slice c m q] 28)).cell? ⟨w.heap.size,4,none⟩=some (.slice ta tn tq):=ap (by simp) 4;have s6_:(World.alloc w (Obj.cells #[.int .i64 k,.string nm,.int .i64 u,.int .i64 tk,.slice ta tn tq,.int .i64 fk,.slice fa fn fq,.int .i64 l,.slice c m q] 28)).cell? ⟨w.heap.size,5,none⟩=some (.int .i64 fk):=ap (by simp) 5;have s7_:(World.alloc w (Obj.cells #[.int .i64 k,.string nm,.int .i64 u,.int .i64 tk,.slice ta tn tq,.int .i64 fk,.slice fa fn fq,.int .i64 l,.slice c m q] 28)).cell? ⟨w.heap.size,6,none⟩=some (.slice fa fn fq):=ap (by simp) 6;have s8_:(World.alloc w (Obj.cells #[.int .i64 k,.string nm,.int .i64 u,.int .i64 tk,.slice ta tn tq,.int .i64 fk,.slice fa fn fq,.int .i64 l,.slice c m q] 28)).cell? ⟨w.heap.size,7,none⟩=some (.int .i64 l):=ap (by simp) 7;refine wp_region_noPanic ?_;refine wp_region_held_drew (S:=fun w'=>w'.cell? ⟨w.heap.size,0,none⟩=some (.int .i64 k)∧w'.cell? ⟨w.heap.size,8,none⟩=some (.slice c m q)∧w'.cell? ⟨w.heap.size,1,none⟩=some (.string nm)∧w'.cell? ⟨w.heap.size,2,none⟩=some (.int .i64 u)∧w'.cell? ⟨w.heap.size,3,none⟩=some (.int .i64 tk)∧w'.cell? ⟨w.heap.size,4,none⟩=some (.slice ta tn tq)∧w'.cell? ⟨w.heap.size,5,none⟩=some (.int .i64 fk)∧w'.cell? ⟨w.heap.size,6,none⟩=some (.slice fa fn fq)∧w'.cell? ⟨w.heap.size,7,none⟩=some (.int .i64 l)) (by kernel_rfl) ?_ (fun hH0=>?_)
     ·exact⟨av (s0_),av (s1_),av (s2_),av (s3_),av (s4_),av (s5_),av (s6_),av (s7_),av (s8_)⟩
     refine hwt 0 dm (.int .i64 d) hH0 ?_ ?_
     ·intro w' hSw;dsimp only[dm];go_simp
     try simp only[dm,hwA]
     refine hwt 1 dp (.bool false) hH0 ?_ ?_
     ·intro w' hSw;dsimp only[dp];go_simp
     try simp only[dp,hwA]
     refine hwt 2 dq (.bool false) hH0 ?_ ?_
     ·intro w' hSw;dsimp only[dq];go_simp
     try simp only[dq,hwA]
     refine hwt 3 dD (.pointer (some ⟨w.heap.size,0,none⟩)) hH0 ?_ ?_
     ·intro w' hSw;dsimp only[dD];go_simp
     try simp only[dD,hwA]
     refine hwt 4 dE (.int .i64 k) hH0 ?_ ?_
     ·intro w' hSw;dsimp only[dE];go_simp
     try simp only[dE,hwA]
     refine hwt 6 dG (.pointer (some ⟨w.heap.size,8,none⟩)) hH0 ?_ ?_
     ·intro w' hSw;dsimp only[dG];go_simp
     try simp only[dG,hwA]
     refine hwt 7 dH (.slice c m q) hH0 ?_ ?_
     ·intro w' hSw;dsimp only[dH];go_simp
     try simp only[dH,hwA]
     refine hwt 8 dI (.int .i64 (m:Int)) hH0 ?_ ?_
     ·intro w' hSw;dsimp only[dI];go_simp
     try simp only[dI,hwA]
     refine hwr 5 dF (fun K hK=>?_)
     dsimp only[dF];go_simp
     go_at_call 76
     (with_reducible refine(cD k _).mono ?_)
     rintro e w7 ⟨rfl,hb7⟩
     go_wp2_with fail
     refine hK.out _ _ ?_ (fun hH1=>?_)
     ·exact⟨ah hb7 (av (s0_)),ah hb7 (av (s1_)),ah hb7 (av (s2_)),ah hb7 (av (s3_)),ah hb7 (av (s4_)),ah hb7 (av (s5_)),ah hb7 (av (s6_)),ah hb7 (av (s7_)),ah hb7 (av (s8_))⟩
     clear hK K hH0
     try simp only[dF,hwA]
     refine hwt 9 dJ (.bool false) hH1 ?_ ?_
     ·intro w' hSw;dsimp only[dJ];go_simp
     try simp only[dJ,hwA]
     refine hwt 10 cF (.bool false) hH1 ?_ ?_
     ·intro w' hSw;dsimp only[cF];go_simp
     try simp only[cF,hwA]
     refine hwt 11 cG (.bool false) hH1 ?_ ?_
     ·intro w' hSw;dsimp only[cG];go_simp
     try simp only[cG,hwA]
     refine hwt 12 cT (.pointer (some ⟨w.heap.size,0,none⟩)) hH1 ?_ ?_
     ·intro w' hSw;dsimp only[cT];go_simp
     try simp only[cT,hwA]
     refine hwt 13 cU (.int .i64 k) hH1 ?_ ?_
     ·intro w' hSw;dsimp only[cU];go_simp
     try simp only[cU,hwA]
     refine hwt 14 cV (.bool false) hH1 ?_ ?_
     ·intro w' hSw;dsimp only[cV];go_simp
     try simp only[cV,hwA]
     refine hwt 15 cH (.bool false) hH1 ?_ ?_
     ·intro w' hSw;dsimp only[cH];go_simp
     try simp only[cH,hwA]
     refine hwt 16 cI (.bool false) hH1 ?_ ?_
     ·intro w' hSw;dsimp only[cI];go_simp
     try simp only[cI,hwA]
     refine hwt 17 db (.pointer (some ⟨w.heap.size,0,none⟩)) hH1 ?_ ?_
     ·intro w' hSw;dsimp only[db];go_simp
     try simp only[db,hwA]
     refine hwt 18 dc (.int .i64 k) hH1 ?_ ?_
     ·intro w' hSw;dsimp only[dc];go_simp
     try simp only[dc,hwA]
     refine hwt 19 de (.bool false) hH1 ?_ ?_
     ·intro w' hSw;dsimp only[de];go_simp
     try simp only[de,hwA]
     refine hwt 20 df (.bool false) hH1 ?_ ?_
     ·intro w' hSw;dsimp only[df];go_simp
     try simp only[df,hwA]
     refine hwn 21 dr hH1 ?_
     try simp only[dr,hwA]
     refine hwn 22 dt hH1 ?_
     try simp only[dt,hwA]
     refine hwn 23 du hH1 ?_
     try simp only[du,hwA]
     refine hwt 24 dg (.bool false) hH1 ?_ ?_
     ·intro w' hSw;dsimp only[dg];go_simp
     try simp only[dg,hwA]
     refine hwt 25 cJ (.bool false) hH1 ?_ ?_
     ·intro w' hSw;dsimp only[cJ];go_simp
     try simp only[cJ,hwA]
     refine hwt 26 cK (.bool false) hH1 ?_ ?_
     ·intro w' hSw;dsimp only[cK];go_simp
     try simp only[cK,hwA]
     refine hwt 27 dv (.pointer (some ⟨w.heap.size,0,none⟩)) hH1 ?_ ?_
     ·intro w' hSw;dsimp only[dv];go_simp
     try simp only[dv,hwA]
     refine hwt 28 dw (.int .i64 k) hH1 ?_ ?_
     ·intro w' hSw;dsimp only[dw];go_simp
     try simp only[dw,hwA]
     refine hwt 29 dx (.bool true) hH1 ?_ ?_
     ·intro w' hSw;dsimp only[dx];go_simp
     try simp only[dx,hwA]
     refine hwt 30 dy (.bool true) hH1 ?_ ?_
     ·intro w' hSw;dsimp only[dy];go_simp
     try simp only[dy,hwA]
     refine hwt 31 dR (.agg #[.int .i64 k,.string nm,.int .i64 u,.int .i64 tk,.slice ta tn tq,.int .i64 fk,.slice fa fn fq,.int .i64 l,.slice c m q]) hH1 ?_ ?_
     ·intro w' hSw;dsimp only[dR];go_simp
     try simp only[dR,hwA]
     refine hwr 32 dS (fun K hK=>?_)
     dsimp only[dS];go_simp
     go_at_call 78
     (with_reducible refine(HO.out q4 _ (aj ai.drew hb7)).mono ?_)
     rintro e w8 ⟨rfl,hb8⟩
     go_wp2_with fail
     refine hK.out _ _ ?_ (fun hH2=>?_)
     ·exact⟨ah hb8 (ah hb7 (av (s0_))),ah hb8 (ah hb7 (av (s1_))),ah hb8 (ah hb7 (av (s2_))),ah hb8 (ah hb7 (av (s3_))),ah hb8 (ah hb7 (av (s4_))),ah hb8 (ah hb7 (av (s5_))),ah hb8 (ah hb7 (av (s6_))),ah hb8 (ah hb7 (av (s7_))),ah hb8 (ah hb7 (av (s8_)))⟩
     clear hK K hH1
     try simp only[dS,hwA]
     refine hwt 33 dT (.bool (!ow)) hH2 ?_ ?_
     ·intro w' hSw;dsimp only[dT];go_simp
     try simp only[dT,hwA]
     refine hwt 34 dz (.bool (!ow)) hH2 ?_ ?_
     ·intro w' hSw;dsimp only[dz];go_simp
     try simp only[dz,hwA]
     refine hwt 35 cL (.bool (!ow)) hH2 ?_ ?_
     ·intro w' hSw;dsimp only[cL];go_simp
     try simp only[cL,hwA]
     refine wpAnyH_done (by kernel_rfl) ?_ _;refine NoPanic.normal ?_;clear hH2 s0_ s1_ s2_ s3_ s4_ s5_ s6_ s7_ s8_;have hB:=(aj (aj ai.drew hb7) hb8)
     have zw8:=hB.size;have c0_8:w8.cell? ⟨w.heap.size,8,none⟩=some (.slice c m q):=ah hb8 (ah hb7 (av (ap (by simp) 8)));have d0_w8:=World.block_lt_of_cell? _ _ c0_8
     rcases Bool.eq_false_or_eq_true (ow) with q7 | q7
     ·(try rw[q7])
      have Hq7:=zq q7;clear q7
      go_wp2_with fail
      go_loopw [5] (fun i wr=>∃j:Nat,j≤m∧i = .int .i64 j∧Below w.heap.size w wr∧wr.cell? ⟨w.heap.size,8,none⟩=some (.slice c m q)∧Hid (rk=Tm.shapes (ts.drop j) 13 (d-1))) (fun i _=>m-(intOf i).toNat)
      case atStart=>exact⟨0,by omega,rfl,hB,c0_8,HRK.out⟩
      case round=>
       obtain⟨j,hj,rfl,hB,x0,hR0⟩:=hrel;have lx1:=World.block_lt_of_cell? _ _ x0
       by_cases hlt:j<m
       ·have hjt:j<ts.length:=by have:=HN.out;omega
        obtain⟨b,off,k0,nm0,u0,tk0,ta0,tn0,tq0,fk0,fa0,fn0,fq0,l0,a0,m0,q0,rfl,lb,e0,e1,e2,e3,e4,e5,e6,e7,e8,ht⟩:=hks.at hB hjt;have hcall:=IHH.out ts[j] (List.getElem_mem hjt) (d-1);have hstep:=hR0.out.trans (Tm.shapes_drop ts 13 (d-1) j hjt);generalize ts[j].shape 13 (d-1)=r at hcall hstep;have HC:=zq hcall;have HS:=zq hstep;clear hcall hstep hR0;have hwr:=IntWalk.i64_in (d-1) (by omega)
        go_wp2_with fail
        refine(HC.out _ _ ht (by have h:=q1;simp only[decide_eq_false_iff_not] at h;omega) (by have h:=q1;simp only[decide_eq_false_iff_not] at h;omega)).mono ?_;rintro e w9 ⟨rfl,hb9⟩;replace hB:=(aj hB hb9)
        have zw9:=hB.size;replace x0:=ah hb9 x0;have d0_w9:=World.block_lt_of_cell? _ _ x0
        rcases Bool.eq_false_or_eq_true (r) with q8 | q8
        ·(try rw[q8])
         have Hq8:=zq q8;clear q8;have hwr:=IntWalk.i64_in ((j:Int)+1) (by omega)
         go_wp2_with fail
         go_roundw
         case rel=>exact⟨j+1,by omega,by go_num,hB,x0,(by rw[Hid,HS.out,Hq8.out];rfl)⟩
         case measure=>simp[intOf];omega
        ·(try rw[q8])
         have Hq8:=zq q8;clear q8
         go_wp2_with fail
         refine bodyPost_ret (v:=.bool (false)) (by simp[results,Tryz.results40,go_sem,bne]) rfl ?_
         exact⟨au ((oE k d m ow rk q1 q2 q3 q4 Hq7.out (by rw[HS.out,Hq8.out];rfl)).trans HT.out),hB⟩
       ·skip
        have HRK:Hid (rk=true):=zq (by rw[hR0.out,List.drop_eq_nil_of_le (by have:=HN.out;omega)];unfold Tm.shapes;rfl)
        go_wp2_with fail
        refine bodyPost_ret (v:=.bool (true)) (by simp[results,Tryz.results40,go_sem,bne]) rfl ?_
        exact⟨au ((oF k d m ow rk q1 q2 q3 q4 Hq7.out HRK.out).trans HT.out),hB⟩
     ·(try rw[q7])
      have Hq7:=zq q7;clear q7
      go_wp2_with fail
      refine bodyPost_ret (v:=.bool (false)) (by simp[results,Tryz.results40,go_sem,bne]) rfl ?_
      exact⟨au ((oG k d m ow rk q1 q2 q3 q4 Hq7.out).trans HT.out),hB⟩
  ·skip
   have nq2:((aD k) != (m:Int))=true:=by simp only[bne,q2];rfl
   go_wp2_with fail
   have s0_:(World.alloc w (Obj.cells #[.int .i64 k,.string nm,.int .i64 u,.int .i64 tk,.slice ta tn tq,.int .i64 fk,.slice fa fn fq,.int .i64 l,.slice c m q] 28)).cell? ⟨w.heap.size,0,none⟩=some (.int .i64 k):=ap (by simp) 0;have s1_:(World.alloc w (Obj.cells #[.int .i64 k,.string nm,.int .i64 u,.int .i64 tk,.slice ta tn tq,.int .i64 fk,.slice fa fn fq,.int .i64 l,.slice c m q] 28)).cell? ⟨w.heap.size,8,none⟩=some (.slice c m q):=ap (by simp) 8;refine wp_region_noPanic ?_;refine wp_region_held_drew (S:=fun w'=>w'.cell? ⟨w.heap.size,0,none⟩=some (.int .i64 k)∧w'.cell? ⟨w.heap.size,8,none⟩=some (.slice c m q)) (by kernel_rfl) ?_ (fun hH0=>?_)
   ·exact⟨av (s0_),av (s1_)⟩
   refine hwt 0 dm (.int .i64 d) hH0 ?_ ?_
   ·intro w' hSw;dsimp only[dm];go_simp
   try simp only[dm,hwA]
   refine hwt 1 dp (.bool false) hH0 ?_ ?_
   ·intro w' hSw;dsimp only[dp];go_simp
   try simp only[dp,hwA]
   refine hwt 2 dq (.bool false) hH0 ?_ ?_
   ·intro w' hSw;dsimp only[dq];go_simp
   try simp only[dq,hwA]
   refine hwt 3 dD (.pointer (some ⟨w.heap.size,0,none⟩)) hH0 ?_ ?_
   ·intro w' hSw;dsimp only[dD];go_simp
   try simp only[dD,hwA]
   refine hwt 4 dE (.int .i64 k) hH0 ?_ ?_
   ·intro w' hSw;dsimp only[dE];go_simp
   try simp only[dE,hwA]
   refine hwt 6 dG (.pointer (some ⟨w.heap.size,8,none⟩)) hH0 ?_ ?_
   ·intro w' hSw;dsimp only[dG];go_simp
   try simp only[dG,hwA]
   refine hwt 7 dH (.slice c m q) hH0 ?_ ?_
   ·intro w' hSw;dsimp only[dH];go_simp
   try simp only[dH,hwA]
   refine hwt 8 dI (.int .i64 (m:Int)) hH0 ?_ ?_
   ·intro w' hSw;dsimp only[dI];go_simp
   try simp only[dI,hwA]
   refine hwr 5 dF (fun K hK=>?_)
   dsimp only[dF];go_simp
   go_at_call 76
   (with_reducible refine(cD k _).mono ?_)
   rintro e w10 ⟨rfl,hb10⟩
   go_wp2_with fail
   refine hK.out _ _ ?_ (fun hH1=>?_)
   ·exact⟨ah hb10 (av (s0_)),ah hb10 (av (s1_))⟩
   clear hK K hH0
   try simp only[dF,hwA]
   refine hwt 9 dJ (.bool true) hH1 ?_ ?_
   ·intro w' hSw;dsimp only[dJ];go_simp
   try simp only[dJ,hwA]
   refine hwt 10 cF (.bool true) hH1 ?_ ?_
   ·intro w' hSw;dsimp only[cF];go_simp
   try simp only[cF,hwA]
   refine hwt 11 cG (.bool true) hH1 ?_ ?_
   ·intro w' hSw;dsimp only[cG];go_simp
   try simp only[cG,hwA]
   refine hwn 12 cT hH1 ?_
   try simp only[cT,hwA]
   refine hwn 13 cU hH1 ?_
   try simp only[cU,hwA]
   refine hwn 14 cV hH1 ?_
   try simp only[cV,hwA]
   refine hwt 15 cH (.bool true) hH1 ?_ ?_
   ·intro w' hSw;dsimp only[cH];go_simp
   try simp only[cH,hwA]
   refine hwt 16 cI (.bool true) hH1 ?_ ?_
   ·intro w' hSw;dsimp only[cI];go_simp
   try simp only[cI,hwA]
   refine hwn 17 db hH1 ?_
   try simp only[db,hwA]
   refine hwn 18 dc hH1 ?_
   try simp only[dc,hwA]
   refine hwn 19 de hH1 ?_
   try simp only[de,hwA]
   refine hwn 20 df hH1 ?_
   try simp only[df,hwA]
   refine hwn 21 dr hH1 ?_
   try simp only[dr,hwA]
   refine hwn 22 dt hH1 ?_
   try simp only[dt,hwA]
   refine hwn 23 du hH1 ?_
   try simp only[du,hwA]
   refine hwn 24 dg hH1 ?_
   try simp only[dg,hwA]
   refine hwt 25 cJ (.bool true) hH1 ?_ ?_
   ·intro w' hSw;dsimp only[cJ];go_simp
   try simp only[cJ,hwA]
   refine hwt 26 cK (.bool true) hH1 ?_ ?_
   ·intro w' hSw;dsimp only[cK];go_simp
   try simp only[cK,hwA]
   refine hwn 27 dv hH1 ?_
   try simp only[dv,hwA]
   refine hwn 28 dw hH1 ?_
   try simp only[dw,hwA]
   refine hwn 29 dx hH1 ?_
   try simp only[dx,hwA]
   refine hwn 30 dy hH1 ?_
   try simp only[dy,hwA]
   refine hwn 31 dR hH1 ?_
   try simp only[dR,hwA]
   refine hwn 32 dS hH1 ?_
   try simp only[dS,hwA]
   refine hwn 33 dT hH1 ?_
   try simp only[dT,hwA]
   refine hwn 34 dz hH1 ?_
   try simp only[dz,hwA]
   refine hwt 35 cL (.bool true) hH1 ?_ ?_
   ·intro w' hSw;dsimp only[cL];go_simp
   try simp only[cL,hwA]
   refine wpAnyH_done (by kernel_rfl) ?_ _;refine NoPanic.normal ?_;clear hH1 s0_ s1_;have hB:=(aj ai.drew hb10)
   have zw10:=hB.size
   go_wp2_with fail
   refine bodyPost_ret (v:=.bool (false)) (by simp[results,Tryz.results40,go_sem,bne]) rfl ?_
   exact⟨au ((oH k d m ow rk q1 q2).trans HT.out),hB⟩
termination_by SizeOf.sizeOf t
decreasing_by exact Tm.kid_lt ht
end Go.Proofs.YtfahhonmiimmdaaGreat
