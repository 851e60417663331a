/- Typed terms are drawn: bounds, rows, nodes. And what else its parts name. -/
import Derived.Test.YtfahhonmiimmdaaGreatB15
import Derived.Test.YtfahhonmiimmdaaGreatBlurV
import Derived.Maps.AppendAt
import Derived.Lib.SliceRun
import Derived.Test.YtfahhonmiimmdaaGreatTmMap
set_option linter.unusedSimpArgs false
set_option linter.unusedVariables false
set_option maxRecDepth 100000
set_option maxHeartbeats 16000000
namespace Go.Proofs.YtfahhonmiimmdaaGreat
open Go.RowKit
theorem aA.rg {B:Nat}{X:World}{t:Tm}{v:Value}(h:aA (B ≤ ·) X t v):Hid (aA (fun b=>B≤b∧b<X.heap.size) X t v):=zq (h.move (.weaken fun b h1 h2=>⟨h1,h2⟩))
theorem aS.blk {F:Nat→Prop}{w:World}{b n:Nat}{ts:List Tm}{cs:Array Value}{T:TypeId}(hF:F b)(h:w.heap[b]?=some (.cells cs T (0,0)))(hn:n=ts.length)(hm:n≤maxLen)(hv:aW F w (Tm.rows ts) cs.toList):aS F w ts (.slice (some ⟨b,0,none⟩) n n):=by
 subst hn;have hl:(Tm.rows ts).length=ts.length:=by rw[Tm.rows_eq];simp
 unfold aS aM;refine⟨_,ts.length,by rw[hl],by rw[hl];exact Nat.le_refl _,hm,.inr ⟨b,0,rfl,hF,aD h,?_⟩⟩;refine aW.rows _ cs.toList 0 hv fun j u hj=>?_;rw[Nat.zero_add]
 exact ah h (by simpa using hj)
theorem aW.c1 {F:Nat→Prop}{w:World}{t1:Tm}{ys1:List Value}(h1:bE F w t1.row ys1):aW F w (Tm.rows [t1]) ys1:=by
 rw[Tm.rows_eq];exact⟨ys1,[],by simp,h1,rfl⟩
theorem aW.c2 {F:Nat→Prop}{w:World}{t1 t2:Tm}{ys1 ys2:List Value}(h1:bE F w t1.row ys1)(h2:bE F w t2.row ys2):aW F w (Tm.rows [t1,t2]) (ys1++ys2):=by
 rw[Tm.rows_eq];exact⟨ys1,ys2,rfl,h1,ys2,[],by simp,h2,rfl⟩
theorem aW.c3 {F:Nat→Prop}{w:World}{t1 t2 t3:Tm}{ys1 ys2 ys3:List Value}(h1:bE F w t1.row ys1)(h2:bE F w t2.row ys2)(h3:bE F w t3.row ys3):aW F w (Tm.rows [t1,t2,t3]) (ys1++(ys2++ys3)):=by
 rw[Tm.rows_eq];exact⟨ys1,ys2++ys3,rfl,h1,ys2,ys3,rfl,h2,ys3,[],by simp,h3,rfl⟩
def mkB (d:Int)(s:S):Nat:=if d≤1 then 100*(s.cnt+1) else 4000*4 ^ (d-1).toNat
def mkU (d:Int):Nat:=4000*4 ^ (d-2).toNat
def mkM (d:Int)(s:S):Nat:=5*(max d 1).toNat+s.dep
theorem gy {s:S}(h:s.vd=true):s.cnt≤14:=by
 have h1:=Ty.cnt_shape s.ty 4 (by have:=S.valid s;rw[h] at this;exact this);rw[S.ty_cnt] at h1
 omega
theorem eP {d:Int}(s:S)(h:2≤d):mkB d s=4*mkU d:=by
 unfold mkB mkU;rw[if_neg (by omega),show(d-1).toNat=(d-2).toNat+1 by omega,Nat.pow_succ]
 omega
theorem bN {d:Int}{s:S}(h:2≤d)(hs:s.vd=true):mkB (d-1) s≤mkU d:=by
 have h1:=gy hs;have h2:1≤4 ^ (d-2).toNat:=Nat.pow_pos (by omega);unfold mkB mkU
 split
 ·omega
 ·rw[show(d-1-1).toNat=(d-2).toNat by omega];exact Nat.le_refl _
theorem eI (d:Int):4000≤mkU d:=by
 have h2:1≤4 ^ (d-2).toNat:=Nat.pow_pos (by omega);unfold mkU;omega
theorem mkU_top {d:Int}(h:d≤5):4*mkU d≤1024000:=by
 have h2:4 ^ (d-2).toNat≤4 ^ 3:=Nat.pow_le_pow_right (by omega) (by omega);unfold mkU;have:4 ^ 3=64:=rfl
 omega
theorem cL {d:Int}{s s':S}(h:2≤d)(hs:s.vd=true)(hs':s'.vd=true):mkM (d-1) s'<mkM d s:=by
 have h1:=S.vd_dep hs';have h2:1≤s.dep:=by cases s<;>simp[S.dep]
 unfold mkM;rw[show(max d 1)=d by omega,show max (d-1) 1=d-1 by omega]
 omega
theorem lA {d:Int}{s s':S}(h:s'.dep<s.dep):mkM (d-1) s'<mkM d s:=by
 unfold mkM
 omega
def MkC (r:Nat)(dd:Int)(s:S)(l:List Bd):Prop:=∀(q:Nat) (W:World) (c' y':Value),aT W r q→aL (· ≠ r) W l c'→eL l c'→ap (· ≠ r) W s.ty y'→q+mkB dd s≤1125899906800000→Calls Tryz.prog 51 #[.pointer (some ⟨r,0,none⟩),c',y',.int .i64 dd] W (DTm r q (mkB dd s) (mkB dd s) W)
theorem cN (k:Int)(a:Option Addr)(n q:Nat)(w:World):Calls Tryz.prog 84 #[.int .i64 k,.slice a n q] w fun e w'=>e = .returned (.agg #[.int .i64 k,.string {data:=#[]},.int .i64 0,.int .i64 0,.slice none 0 0,.int .i64 0,.slice none 0 0,.int .i64 0,.slice a n q])∧Below w.heap.size w w':=by
 go_enter Tryz.func84,Tryz.ntmps84
 go_wp2_with fail
 refine bodyPost_ret (v:=.agg #[.int .i64 k,.string {data:=#[]},.int .i64 0,.int .i64 0,.slice none 0 0,.int .i64 0,.slice none 0 0,.int .i64 0,.slice a n q]) (by simp[results,Tryz.results84,go_sem]) rfl ?_
 exact⟨rfl,aj⟩
theorem HSt.rd {b r p:Nat}{W X:World}(h:HSt b W X)(f:aT W r p)(hb:r<b):aT X r p:=f.keep h.2.2.1 fun c hc=>h.1 c (by omega)
theorem aL.blkF {F:Nat→Prop}{w:World}{l:List Bd}{b off n q:Nat}(h:aL F w l (.slice (some ⟨b,off,none⟩) n q))(hl:0<l.length):F b:=by
 unfold aL aM at h;obtain⟨a,cap,he,-,-,h4⟩:=h;simp only[Value.slice.injEq] at he
 rcases h4 with h4 | ⟨b',off',ha,hF,-⟩
 ·have e:(Bd.rows l).length=0:=by rw[h4];rfl
  rw[Bd.rows_length] at e;omega
 ·rw[←he.1] at ha
  simp only[Option.some.injEq,Addr.mk.injEq] at ha;rw[ha.1];exact hF
theorem bp:({data:=#[]}:ByteArray).size≤maxLen:=by unfold maxLen;decide
theorem Ty.toS_ty {t:Ty}(h:t.valid=true):t.toS.ty=t:=by
 obtain⟨s,rfl,hs⟩:=Ty.valid_S h;rw[S.ty_toS s (S.vd_ok hs)]
theorem aE.three {F:Nat→Prop}{w:World}{t u s:Ty}{y:Value}(h:aE F w [t,u,s] y) :
  ∃b off cap k1 c1 m1 q1 k2 c2 m2 q2 k3 c3 m3 q3,y = .slice (some ⟨b,off,none⟩) 3 cap∧b<w.heap.size ∧
   w.cell? ⟨b,off,none⟩=some (.int .i64 k1)∧w.cell? ⟨b,off+1,none⟩=some (.slice c1 m1 q1)∧w.cell? ⟨b,off+2,none⟩=some (.int .i64 k2)∧w.cell? ⟨b,off+3,none⟩=some (.slice c2 m2 q2)∧w.cell? ⟨b,off+4,none⟩=some (.int .i64 k3)∧w.cell? ⟨b,off+5,none⟩=some (.slice c3 m3 q3) ∧
   ap F w t (.agg #[.int .i64 k1,.slice c1 m1 q1])∧ap F w u (.agg #[.int .i64 k2,.slice c2 m2 q2])∧ap F w s (.agg #[.int .i64 k3,.slice c3 m3 q3]):=by
 obtain⟨a,cap,rfl,h2,h3,hg⟩:=h.open;obtain⟨b,off,k1,c1,m1,q1,rfl,e0,e1,ht⟩:=hg 0 (by simp);obtain⟨b',off',k2,c2,m2,q2,he,e2,e3,ht2⟩:=hg 1 (by simp);simp only[Option.some.injEq,Addr.mk.injEq,and_true] at he;obtain⟨rfl,rfl⟩:=he;obtain⟨b',off',k3,c3,m3,q3,he,e4,e5,ht3⟩:=hg 2 (by simp);simp only[Option.some.injEq,Addr.mk.injEq,and_true] at he;obtain⟨rfl,rfl⟩:=he
 exact⟨b,off,cap,k1,c1,m1,q1,k2,c2,m2,q2,k3,c3,m3,q3,rfl,World.block_lt_of_cell? _ _ e0,by simpa using e0,by simpa using e1,by simpa using e2,by simpa using e3,by simpa using e4,by simpa using e5,ht,ht2,ht3⟩
theorem ap.pairK {F:Nat→Prop}{w:World}{k k1:Int}{t u:Ty}{a:Option Addr}{n q:Nat}(h:ap F w (.mk k [t,u]) (.agg #[.int .i64 k1,.slice a n q])):k1=k∧aE F w [t,u] (.slice a n q):=by
 obtain⟨s,he,hs⟩:=h;simp only[Value.agg.injEq,Array.mk.injEq,List.cons.injEq,Value.int.injEq,true_and,and_true] at he;obtain⟨rfl,rfl⟩:=he
 exact⟨rfl,hs⟩
theorem ap.kindE {F:Nat→Prop}{w:World}{t:Ty}{k:Int}{s:Value}(h:ap F w t (.agg #[.int .i64 k,s])):k=t.kind:=by
 obtain⟨s',he,-⟩:=h;simp only[Value.agg.injEq,Array.mk.injEq,List.cons.injEq,Value.int.injEq,true_and] at he
 exact he.1
theorem ap.srep {F:Nat→Prop}{w:World}{t:Ty}{k:Int}{c:Option Addr}{m q:Nat}(h:ap F w t (.agg #[.int .i64 k,.slice c m q])):bE F w t.row [.int .i64 k,.slice c m q]:=by
 obtain⟨s,he,hs⟩:=h;simp only[Value.agg.injEq,Array.mk.injEq,List.cons.injEq,Value.int.injEq,and_true] at he;obtain⟨⟨-,rfl⟩,rfl⟩:=he
 cases t with
 | mk kk us=>
  unfold Ty.row
  exact⟨_,_,rfl,(by unfold aM;rfl),_,_,rfl,hs,rfl⟩
def BdM (B:Nat)(w:World)(v:Value)(bs:List Bd):Prop:=∃xs,w.ownsRow B 99 3 v bs.length xs∧b8 (fun b=>v.ownBlock≠some b) w bs xs
theorem BdM.nil {B:Nat}{w:World}{g:Nat}{cs:Array Value}(hB:B≤g)(h:w.heap[g]?=some (.cells cs 99 (0,0)))(h0:cs.size=0):BdM B w (.slice (some ⟨g,0,none⟩) 0 0) []:=
 ⟨[],⟨rfl,.inr ⟨g,0,cs,rfl,hB,h,Nat.le_refl _,by unfold maxLen;omega,by simpa using h0,by simp⟩⟩,rfl⟩
theorem BdM.push {B:Nat}{W w2:World}{v v':Value}{bs cs:List Bd}{xs ys:List Value}(hv:b8 (fun b=>v.ownBlock≠some b) W bs xs)(hc:b8 (fun b=>v.ownBlock≠some b) W cs ys)
  (hown:w2.ownsRow B 99 3 v' (bs.length+cs.length) (xs++ys)) (hgrow:W.grownBy w2 v.ownBlock) (hat:v'.ownBlock=v.ownBlock∨v'.ownBlock=some W.heap.size) :
  BdM B w2 v' (bs++cs):=by
 have kk:bx (fun b=>v.ownBlock≠some b) (fun b=>v'.ownBlock≠some b) W w2:=by
  refine⟨hgrow.size,fun b hb hl e=>?_,fun b hb hl=>hgrow.block b hl (fun e=>hb e.symm)⟩
  rcases hat with h | h
  ·exact hb (h▸e)
  ·rw[h] at e
   simp only[Option.some.injEq] at e
   omega
 exact⟨xs++ys,by simpa using hown,b8.append bs cs xs ys (hv.move kk _ _) (hc.move kk _ _)⟩
theorem BdM.shape {B:Nat}{w:World}{v:Value}{bs:List Bd}(h:BdM B w v bs) : ∃a q,v = .slice a bs.length q:=by
 obtain⟨xs,⟨h1,h2 | ⟨g,cap,cur,h2,hB,hg,hn,hc,hs,ht⟩⟩,-⟩:=h
 ·exact⟨none,0,by rw[h2.1,h2.2]⟩
 ·exact⟨_,cap,h2⟩
theorem BdM.rep {B:Nat}{w:World}{v:Value}{bs:List Bd}(h:BdM B w v bs):aL (fun _=>True) w bs v:=by
 obtain⟨a,q,rfl⟩:=h.shape;obtain⟨xs,h1,h2⟩:=h;have h1':=h1;obtain⟨hx,h3 | ⟨g,cap,cur,h3,hB,hg,hn,hc,hs,ht⟩⟩:=h1
 ·obtain⟨h3,h4⟩:=h3
  simp only[Value.slice.injEq] at h3;obtain⟨rfl,-,rfl⟩:=h3;have:bs = []:=List.length_eq_zero_iff.1 h4;subst this;unfold aL aM
  exact⟨none,0,rfl,Nat.le_refl _,by unfold maxLen;omega,.inl rfl⟩
 ·simp only[Value.slice.injEq] at h3
  obtain⟨rfl,-,rfl⟩:=h3;have hcl:=eo h1';unfold aL aM;refine⟨_,q,by rw[Bd.rows_length],by rw[Bd.rows_length];exact hn,hc,.inr ⟨g,0,rfl,trivial,(Array.getElem?_eq_some_iff.1 hg).1,?_⟩⟩
  exact b8.rows bs xs 0 (h2.move (.weaken fun _ _ _=>trivial) _ _) (fun j u hj=>by simpa using hcl j u hj)
theorem b8.of_rows {F:Nat→Prop}{w:World}{b:Nat} : ∀(bs:List Bd) (off:Nat),bg F w b off (Bd.rows bs)→∃xs,b8 F w bs xs∧(∀j u,xs[j]?=some u→w.cell? ⟨b,off+j,none⟩=some u)∧∀u∈xs,u.oneCell'=true
 | [],_,_=>⟨[],rfl,by simp,by simp⟩
 | d :: bs,off,h=>by
  have h':bg F w b off (d.row :: Bd.rows bs):=h;unfold bg at h';obtain⟨h1,h2⟩:=h';obtain⟨rest,r1,r2,r3⟩:=b8.of_rows bs _ h2;rw[Bd.row_length] at r2;unfold Bd.row aR at h1;obtain⟨⟨y0,e0,c0⟩,h1⟩:=h1;unfold aR at h1;obtain⟨⟨y1,e1,c1⟩,h1⟩:=h1;unfold aR at h1;obtain⟨⟨y2,e2,c2⟩,-⟩:=h1;unfold aM at c0;obtain⟨rfl,hz⟩:=c0;obtain rfl:=aM.int_eq c1;obtain⟨a,q,hs,-⟩:=aM.rows c2;subst hs;refine⟨_ :: _ :: _ :: rest,⟨_,_,rest,rfl,hz,⟨_,rfl,c2⟩,r1⟩,fun j u hj=>?_,fun u hu=>?_⟩
  ·match j with
   | 0=>simp at hj;subst hj;exact e0
   | 1=>simp at hj;subst hj;exact e1
   | 2=>simp at hj;subst hj;exact e2
   | j+3=>
    have:=r2 j u (by simpa using hj);rw[show off+(j+3)=off+3+j from by omega];exact this
  ·simp only[List.mem_cons] at hu
   rcases hu with rfl | rfl | rfl | hu
   ·rfl
   ·rfl
   ·rfl
   ·exact r3 u hu
theorem aL.cells {F:Nat→Prop}{w:World}{bs:List Bd}{a:Option Addr}{n q:Nat}(h:aL F w bs (.slice a n q))(hn:0<n) : ∃ad xs,a=some ad∧b8 F w bs xs∧(∀j u,xs[j]?=some u→w.cell? (ad.add j)=some u)∧∀u∈xs,u.oneCell'=true:=by
 unfold aL aM at h;obtain⟨a',q',he,h1,h2,h3⟩:=h;simp only[Value.slice.injEq] at he;obtain⟨rfl,rfl,rfl⟩:=he
 rcases h3 with h3 | ⟨b,off,rfl,-,-,h3⟩
 ·rw[h3] at hn;exact absurd hn (by simp)
 ·obtain⟨xs,r1,r2,r3⟩:=b8.of_rows bs off h3
  exact⟨_,xs,rfl,r1,fun j u hj=>by have:=r2 j u hj;cases j<;>simpa [Addr.add] using this,r3⟩
theorem aL.n_eq {F:Nat→Prop}{w:World}{bs:List Bd}{a:Option Addr}{n q:Nat}(h:aL F w bs (.slice a n q)):n=bs.length:=by
 unfold aL aM at h;obtain⟨a',q',he,-⟩:=h;simp only[Value.slice.injEq] at he;rw[he.2.1,Bd.rows_length]
theorem aL.cellsAny {F:Nat→Prop}{w:World}{bs:List Bd}{ad:Addr}{n q:Nat}(h:aL F w bs (.slice (some ad) n q)) : ∃ad' xs,some ad=some ad'∧b8 F w bs xs∧(∀j u,xs[j]?=some u→w.cell? (ad'.add j)=some u)∧∀u∈xs,u.oneCell'=true:=by
 by_cases hn:0<n
 ·exact h.cells hn
 ·have:=h.n_eq
  have:bs = []:=List.length_eq_zero_iff.1 (by omega);subst this
  exact⟨ad,[],rfl,rfl,by simp,by simp⟩
theorem aL.old {F:Nat→Prop}{w:World}{bs:List Bd}{y:Value}(r:aL F w bs y):aL (· < w.heap.size) w bs y:=r.move (.weaken fun _ _ h=>h)
theorem Tryz.infoBdC:(Tryz.prog.info? 99).map (fun i=>(i.zero,i.size,i.bytes))=some (some (.agg #[.string ByteArray.empty,.int .i64 0,.slice none 0 0]),3,48):=by kernel_rfl
theorem BdM.none {B:Nat}{w:World}:BdM B w (.slice none 0 0) []:=⟨[],World.ownsRow_nil w B _ _,rfl⟩
def Ty.any1:Ty:=.mk 1 []
def Ty.no:Ty:=.mk 0 []
def Tm.zero:Tm:=.mk 0 {data:=#[]} 0 .no .no 0 []
def eR (k u:Int)(s:ByteArray)(ks:List Tm):Tm:=if k==14||k==13 then ks.headD .zero else .mk k s u (if k==5 then .any1 else .no) .no 0 ks
mutual
def Tm.bare:Tm→Tm
 | .mk k s u _ _ _ ts=>eR k u s (Tm.bares ts)
def Tm.bares:List Tm→List Tm
 | []=> []
 | t :: ts=>t.bare :: Tm.bares ts
end
theorem Tm.bares_eq : ∀ts:List Tm,Tm.bares ts=ts.map Tm.bare
 | []=>by unfold Tm.bares;rfl
 | t :: ts=>by unfold Tm.bares;rw[Tm.bares_eq ts];rfl
theorem Tm.bares_take_succ (ts:List Tm)(j:Nat)(h:j<ts.length):Tm.bares (ts.take (j+1))=Tm.bares (ts.take j) ++ [ts[j].bare]:=by
 rw[Tm.bares_eq,Tm.bares_eq,List.take_succ_eq_append_getElem h,List.map_append];rfl
def RetTmB (t:Tm)(b:Bool)(w:World)(e:Ending)(w':World):Prop:=∃v,e = .returned (.tuple #[v,.bool b])∧b7 w.heap.size w' t v∧Below w.heap.size w w'
def eQ (nt:Int)(F:Nat→Prop)(t:Tm):Prop:=∀(d:Int) (y:Value) (w:World),t.shape nt d=true→aA F w t y→t.cnt≤1048576→Calls Tryz.prog 34 #[y] w (ex t.bare w)
end Go.Proofs.YtfahhonmiimmdaaGreat
