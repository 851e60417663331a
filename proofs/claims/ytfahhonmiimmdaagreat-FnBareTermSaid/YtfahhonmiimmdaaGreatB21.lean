/- An argument of type []byte reads as a slice of bytes. And what else its parts name. -/
import Derived.Test.YtfahhonmiimmdaaGreatB25
import Derived.Test.YtfahhonmiimmdaaGreatB18
import Derived.Test.YtfahhonmiimmdaaGreatB22
import Derived.Test.YtfahhonmiimmdaaGreatB23
import Derived.Test.YtfahhonmiimmdaaGreatB29
import Derived.Test.YtfahhonmiimmdaaGreatMkWany
import Derived.Test.YtfahhonmiimmdaaGreatB24
import Derived.Lib.SlicesCompact
set_option linter.unusedSimpArgs false
set_option linter.unusedVariables false
set_option maxRecDepth 100000
set_option maxHeartbeats 16000000
namespace Go.Proofs.YtfahhonmiimmdaaGreat
open Go.RowKit Go.ChangeShapes Go.WideShapes
theorem Tryz.cellsU8:Tryz.prog.cellsOf 5=1:=by kernel_rfl
section
variable {H:Type} {enc:TypeId × Value→H} {w:World} {base:Nat} {held:Bool} {spare:Nat→Bool}
theorem sX (n:Nat)(cs:List Value)(x:DataW H × List MemPlace)(h:DataW.trod enc Tryz.prog w base spare held (n+1) 22 cs=some x) :
  ∃s,cs = [s]∧cz w w.heap.size s:=by
 rcases DataW.trod_slice Tryz.underlying22 h with ⟨rfl,_⟩ | ⟨a,len,cap,elems,rest,n',hn,rfl,_,_,hlc,hcm,hel,he,_⟩
 ·exact⟨_,rfl,none,0,0,rfl,Nat.le_refl _,by unfold maxLen;omega,fun i hi=>absurd hi (Nat.not_lt_zero _)⟩
 ·obtain rfl:n=n':=by omega
  rw[Tryz.cellsU8] at he;have get : ∀i,i<len→∃k,w.cell? (a.add i)=some (.int .u8 k)∧0≤k∧k<256:=by
   intro i hi;have hk:=he i hi;rw[List.getElem?_eq_getElem (by omega)] at hk;obtain⟨cs',hc,ht⟩:=Option.bind_eq_some_iff.1 hk;obtain⟨k,rfl,-,hwf⟩:=DataW.trod_int Tryz.underlying5 ht;obtain⟨_,hl,g⟩:=World.cells?_some hc;have g0:=g 0 (by omega);rw[Nat.mul_one,show(a.add i).add 0=a.add i from by simp[Addr.add]] at g0;refine⟨k,by simpa using g0,?_⟩
   simp[Lit.wf,IntKind.min,IntKind.max,IntKind.signed,IntKind.bits] at hwf
   omega
  refine⟨_,rfl,some a,len,cap,rfl,hlc,hcm,fun i hi=>?_⟩;obtain⟨k0,h0,-,-⟩:=get 0 (by omega);have hs:=rQ (show w.cell? a=some (.int .u8 k0) from by simpa [Addr.add] using h0);obtain⟨k,h1,h2,h3⟩:=get i hi;rw[nV i hs] at h1;have hb:=World.block_lt_of_cell? w _ h1;refine⟨a.block,a.off,k,?_,hb,hb,h1,h2,h3⟩
  cases a;simp at hs;subst hs;rfl
theorem tu {v:Value}{d:DataW H}{ps:List MemPlace}{r:Reach}{b:Nat}(hv:Value.okWide Tryz.prog w r b 22 v)(h:DataW.Trod enc Tryz.prog w base spare held 22 v d ps):cz w w.heap.size v:=by
 obtain⟨fuel,hf⟩:=h
 cases fuel with
 | zero=>simp[DataW.trod] at hf
 | succ n=>
  obtain⟨s,hs,hr⟩:=sX n _ _ hf;obtain⟨a,m,c,rfl⟩:=okWide_slice Tryz.underlying22 hv;have hvs:Value.slice a m c=s:=by simpa [Value.cells] using hs
  rw[hvs];exact hr
end
end Go.Proofs.YtfahhonmiimmdaaGreat
namespace Go.Proofs.YtfahhonmiimmdaaGreat
open Go.RowKit
theorem nh {k u l:Int}{s:ByteArray}{t f:Ty}{ts:List Tm}(h:(Tm.mk k s u t f l ts).ownB=true)(hk : ¬k=14):f.noneB=true∧l=0∧(((k==5||k==13)=true→t.valid=true)∧((k==5||k==13)=false→t.noneB=true)):=by
 have h1:Go.Proofs.YtfahhonmiimmdaaGreat.ownB k u l s t.valid t.noneB f.noneB (f.valid&&t.valid&&f.cons t)=true:=h;unfold Go.Proofs.YtfahhonmiimmdaaGreat.ownB at h1;have hk14:(k==14)=false:=by rw[beq_eq_false_iff_ne];exact hk
 rw[hk14] at h1;simp only[Bool.or_false,Bool.and_eq_true,if_neg (show ¬(false=true) by simp),beq_iff_eq] at h1;refine⟨h1.2.1,h1.2.2,fun e=>?_,fun e=>?_⟩
 ·have:=h1.1.2;rw[if_pos e] at this;exact this
 ·have:=h1.1.2;rw[if_neg (by rw[e];simp)] at this;exact this
theorem tR {s:ByteArray}(h:s.toList = []):s.size≤1:=by
 have h1:s.data.toList = []:=by simpa [ByteArray.toList_eq] using h
 have e:s.data.toList.length=s.size:=by simp
 rw[h1] at e
 simp at e;omega
theorem ry {k u l:Int}{s:ByteArray}{t f:Ty}{ts:List Tm}(h:(Tm.mk k s u t f l ts).ownB=true):s.size≤1:=by
 have h1:Go.Proofs.YtfahhonmiimmdaaGreat.ownB k u l s t.valid t.noneB f.noneB (f.valid&&t.valid&&f.cons t)=true:=h;unfold Go.Proofs.YtfahhonmiimmdaaGreat.ownB at h1;simp only[Bool.and_eq_true] at h1;have h2:=h1.1.1.1
 split at h2
 ·unfold aO at h2
  by_cases hz:s.size=1
  ·omega
  ·simp[hz] at h2
 ·have h3:s.toList = []:=by simpa using h2
  exact tR h3
theorem gk {t:Ty}(h:t.noneB=true):t.cnt=0:=by
 cases t with | mk k ts=>
 unfold Ty.noneB Go.Proofs.YtfahhonmiimmdaaGreat.noneB at h;simp only[Ty.kind,Ty.kids,Bool.and_eq_true,beq_iff_eq] at h;have e:ts = []:=List.length_eq_zero_iff.1 (by simpa using h.2);subst e
 simp[Ty.cnt,Ty.cnts]
theorem nl {t:Ty}(h:t.valid=true):t.cnt≤14:=by
 have:=Ty.cnt_shape t 4 h
 omega
mutual
theorem Tm.cnt_shape14 : ∀(t:Tm) (d:Int),t.shape 14 d=true→t.cnt+1≤17*t.size
 | .mk k s u t f l ts,d,h=>by
  obtain⟨-,hk,-,ho,hs⟩:=Tm.shape_parts h;obtain⟨n1,-,p1,c1⟩:=nh ho hk;have h1:=ry ho;have h2:=gk n1;have h3:t.cnt≤14:=by
   cases hb:(k==5||k==13) with
   | true=>exact nl (p1 hb)
   | false=>rw[gk (c1 hb)];omega
  have h4:=Tm.cnts_shape14 ts (d-1) hs;simp only[Tm.cnt,Tm.size]
  omega
theorem Tm.cnts_shape14 : ∀(ts:List Tm) (d:Int),Tm.shapes ts 14 d=true→Tm.cnts ts+ts.length≤17*Tm.sizes ts
 | [],_,_=>by simp[Tm.cnts,Tm.sizes]
 | t :: ts,d,h=>by
  unfold Tm.shapes at h;simp only[Bool.and_eq_true] at h;have h1:=Tm.cnt_shape14 t d h.1;have h2:=Tm.cnts_shape14 ts d h.2;simp only[Tm.cnts,Tm.sizes,List.length_cons]
  omega
end
theorem Tm.cnt_valid30 {t:Tm}(h:t.valid=true):t.cnt≤510:=by
 unfold Tm.valid at h;rw[Bool.and_eq_true] at h;have h1:=Tm.cnt_shape14 t 12 h.1;have h2:=of_decide_eq_true h.2
 omega
def ku (t:Tm)(s:S)(lb:Int)(w:World)(e:Ending)(w':World):Prop:=∃(t':Tm) (v y:Value) (lb':Int),e = .returned (.tuple #[v,y,.int .i64 lb'])∧(t'.cnt:Int)≤200*t.size∧lb≤lb'∧lb'≤lb+4*t.size∧aA (w.heap.size ≤ ·) w' t' v∧ap (w.heap.size ≤ ·) w' s.ty y∧Below w.heap.size w w'
def L4I (t:Tm)(d:Int):Prop:=∀(l:List Bd) (F G:Nat→Prop) (c y:Value) (lb:Int) (W:World) (s:S),t.shape 14 d=true→(l.length:Int)+d≤1000→cW l→eL l c→aL F W l c→aA G W t y→t.typS l=some s→0≤lb→lb+4*t.size≤100000 →
 Calls Tryz.prog 91 #[c,y,.int .i64 lb] W (ku t s lb W)
def dy (k:Int)(nm:ByteArray)(ty:Ty)(l:List Bd):List Bd:=if k=5 then l ++ [⟨nm,ty⟩] else l
theorem um {k u lb:Int}{nm:ByteArray}{ty src:Ty}{ts:List Tm}{l:List Bd}{s:S}(hlen:aG k=(ts.length:Int))(h:(Tm.mk k nm u ty src lb ts).typS l=some s) :
  ∃hs:List S,Tm.typsS ts (dy k nm ty l)=some hs∧(6≤k→bd k ty hs=some s):=by
 have hnil:aG k=0→ts = []:=fun e=>List.length_eq_zero_iff.1 (by omega);unfold Tm.typS at h
 by_cases h1:k=1
 ·subst h1;rw[hnil rfl];exact⟨[],rfl,fun h=>absurd h (by decide)⟩
 rw[if_neg h1] at h
 by_cases h2:k=2
 ·subst h2;rw[hnil rfl];exact⟨[],rfl,fun h=>absurd h (by decide)⟩
 rw[if_neg h2] at h
 by_cases h3:k=3∨k=4
 ·have e:aG k=0:=by rcases h3 with rfl | rfl<;>rfl
  rw[hnil e];exact⟨[],rfl,fun h=>absurd h (by omega)⟩
 rw[if_neg h3] at h
 by_cases h5:k=5
 ·rw[if_pos h5] at h
  unfold dy;rw[if_pos h5]
  cases hq:Tm.typsS ts (l ++ [⟨nm,ty⟩]) with
  | none=>rw[hq] at h;cases h
  | some hs=>exact⟨hs,rfl,fun h=>by omega⟩
 ·rw[if_neg h5] at h
  unfold dy;rw[if_neg h5]
  cases hq:Tm.typsS ts l with
  | none=>rw[hq] at h;cases h
  | some hs=>rw[hq] at h;exact⟨hs,rfl,fun _=>h⟩
theorem rU : ∀(ts:List Tm) (l:List Bd) (hs:List S),Tm.typsS ts l=some hs→hs.length=ts.length∧∀(j:Nat) (h1:j<ts.length) (h2:j<hs.length),ts[j].typS l=some hs[j]
 | [],l,hs,h=>by
  unfold Tm.typsS at h
  cases h
  exact⟨rfl,fun j h1 _=>absurd h1 (Nat.not_lt_zero _)⟩
 | t :: ts,l,hs,h=>by
  unfold Tm.typsS at h
  cases ht:t.typS l with
  | none=>rw[ht] at h;cases h
  | some x=>
   rw[ht] at h
   cases hq:Tm.typsS ts l with
   | none=>rw[hq] at h;cases h
   | some xs=>
    rw[hq] at h
    cases h
    have ih:=rU ts l xs hq;refine⟨by simp[ih.1],fun j h1 h2=>?_⟩
    cases j with
    | zero=>exact ht
    | succ j=>exact ih.2 j (by simpa using h1) (by simpa using h2)
theorem own_cnt {k u lb:Int}{nm:ByteArray}{ty src:Ty}{ts:List Tm}(ho:(Tm.mk k nm u ty src lb ts).ownB=true)(hk : ¬k=14):nm.size+ty.cnt+src.cnt≤15:=by
 obtain⟨n1,-,p1,c1⟩:=nh ho hk;have h1:=ry ho;have h2:=gk n1;have h3:ty.cnt≤14:=by
  cases hb:(k==5||k==13) with
  | true=>exact nl (p1 hb)
  | false=>rw[gk (c1 hb)];omega
 omega
theorem Tm.cnts_set : ∀(L:List Tm) (j:Nat) (h:j<L.length) (t:Tm) (m:Nat),t.cnt≤L[j].cnt+m→Tm.cnts (L.set j t)≤Tm.cnts L+m
 | [],j,h,_,_,_=>absurd h (Nat.not_lt_zero _)
 | u :: L,0,h,t,m,e=>by simp only[List.set_cons_zero,Tm.cnts,List.getElem_cons_zero] at *;omega
 | u :: L,j+1,h,t,m,e=>by
  have ih:=Tm.cnts_set L j (by simpa using h) t m e;simp only[List.set_cons_succ,Tm.cnts]
  omega
theorem len1 {α:Type}{l:List α}(h:l.length=1) : ∃a,l = [a]:=List.length_eq_one_iff.1 h
theorem len2 {α:Type}{l:List α}(h:l.length=2) : ∃a b,l = [a,b]:=by
 match l,h with
 | [a,b],_=>exact⟨a,b,rfl⟩
theorem len3 {α:Type}{l:List α}(h:l.length=3) : ∃a b c,l = [a,b,c]:=by
 match l,h with
 | [a,b,c],_=>exact⟨a,b,c,rfl⟩
theorem tg (F1 F2:Nat→Prop)(k:Int)(ty:Ty)(hs0:List S)(s:S)(nm:ByteArray)(u tk fk lb uk:Int)(ta fa ca xa ua:Option Addr)(tn tq fn fq cm cq xn xq un uq:Nat)(w:World)(hv : ∀h∈hs0,h.vd=true)(hvs:s.vd=true)(hn:6≤k→bd k ty hs0=some s)(hlen:aG k=(hs0.length:Int))(hxn:xn=hs0.length)
  (hk:aE F1 w (hs0.map S.ty) (.slice xa xn xq)) (ht:ap F2 w s.ty (.agg #[.int .i64 uk,.slice ua un uq])) :
  Calls Tryz.prog 115 #[.agg #[.int .i64 k,.string nm,.int .i64 u,.int .i64 tk,.slice ta tn tq,.int .i64 fk,.slice fa fn fq,.int .i64 lb,.slice ca cm cq],.slice xa xn xq,.agg #[.int .i64 uk,.slice ua un uq]] w (dh xn (fun b=>F1 b∨F2 b) w):=by
 by_cases h6:k=6
 ·subst h6
  have e2:hs0.length=2:=by have:aG 6=2:=rfl;omega
  obtain⟨h0,h1,rfl⟩:=len2 e2;have hn':=hn (by decide);simp only[bd,if_true] at hn';have hm:(h0.mat 4).2.2=true:=by
   cases hb:(h0.mat 4).2.2 with
   | true=>rfl
   | false=>rw[hb] at hn';simp at hn'
  rw[e2] at hxn;subst hxn
  exact rK F1 F2 s h0 h1 (hv h0 (by simp)) hm nm u tk fk lb uk ta fa ca xa ua tn tq fn fq cm cq 0 xq un uq w hk ht hvs
 by_cases h7:k=7
 ·subst h7
  have e2:hs0.length=2:=by have:aG 7=2:=rfl;omega
  obtain⟨h0,h1,rfl⟩:=len2 e2;rw[e2] at hxn;subst hxn
  exact rL F1 F2 s h0 h1 nm u tk fk lb uk ta fa ca xa ua tn tq fn fq cm cq 0 xq un uq w hk ht hvs
 by_cases h8:k=8
 ·subst h8
  have e2:hs0.length=2:=by have:aG 8=2:=rfl;omega
  obtain⟨h0,h1,rfl⟩:=len2 e2;rw[e2] at hxn;subst hxn
  exact rM F1 F2 s h0 h1 nm u tk fk lb uk ta fa ca xa ua tn tq fn fq cm cq 0 xq un uq w hk ht hvs
 by_cases h9:k=9
 ·subst h9
  have e2:hs0.length=3:=by have:aG 9=3:=rfl;omega
  obtain⟨h0,h1,h2,rfl⟩:=len3 e2;rw[e2] at hxn;subst hxn
  exact rN F1 F2 s h0 h1 h2 nm u tk fk lb uk ta fa ca xa ua tn tq fn fq cm cq 0 xq un uq w hk ht hvs
 have hpm:k=11∨k=12→∃h0,hs0 = [h0]∧(h0.mat 5).2.2=true:=by
  intro hk2;have e2:hs0.length=1:=by rcases hk2 with rfl | rfl<;>(have:aG 11=1:=rfl;have:aG 12=1:=rfl;omega)
  obtain⟨h0,rfl⟩:=len1 e2;have hn':=hn (by omega);simp only[bd,if_neg (show ¬k=5 by omega),if_neg (show ¬k=13 by omega)] at hn';refine⟨h0,rfl,?_⟩
  cases hb:(h0.mat 5).2.2 with
  | true=>rfl
  | false=>rw[hb] at hn';simp at hn'
 by_cases h11:k=11
 ·subst h11
  obtain⟨h0,rfl,hm⟩:=hpm (.inl rfl);obtain rfl:xn=1:=by simpa using hxn
  exact nP F1 F2 s h0 (hv h0 (by simp)) hm nm u tk fk lb uk ta fa ca xa ua tn tq fn fq cm cq 0 xq un uq w hk ht hvs
 by_cases h12:k=12
 ·subst h12
  obtain⟨h0,rfl,hm⟩:=hpm (.inr rfl);obtain rfl:xn=1:=by simpa using hxn
  exact nQ F1 F2 s h0 (hv h0 (by simp)) hm nm u tk fk lb uk ta fa ca xa ua tn tq fn fq cm cq 0 xq un uq w hk ht hvs
 by_cases h13:k=13
 ·subst h13
  have e2:hs0.length=1:=by have:aG 13=1:=rfl;omega
  obtain⟨h0,rfl⟩:=len1 e2;rw[e2] at hxn;subst hxn
  exact nR F1 F2 s h0 nm u tk fk lb uk ta fa ca xa ua tn tq fn fq cm cq 0 xq un uq w hk ht hvs
 exact rO F1 F2 s xn k (beq_eq_false_iff_ne.2 h6) (beq_eq_false_iff_ne.2 h7) (beq_eq_false_iff_ne.2 h8) (beq_eq_false_iff_ne.2 h9) (beq_eq_false_iff_ne.2 h11) (beq_eq_false_iff_ne.2 h12) (beq_eq_false_iff_ne.2 h13) hs0 hv hxn.symm nm u tk fk lb uk ta fa ca xa ua tn tq fn fq cm cq 0 xq un uq w hk ht hvs
theorem j6.toC {Q:Nat→Prop}{l:List Bd}{w:World}{e:Ending}{w':World}(h:j6 Q l w e w'):RetC l w e w':=by
 obtain⟨a,m,q,h1,h2,h3⟩:=h
 exact⟨a,m,q,h1,h2.move (.weaken fun _ _ _=>trivial),h3⟩
theorem sP (F G:Nat→Prop)(l:List Bd)(ad:Addr)(n q:Nat)(nm:ByteArray)(ty:Ty)(tk:Int)(ta:Option Addr)(tn tq:Nat)(w:World)(hy:aL F w l (.slice (some ad) n q))(hl:l.length≤1000000)(hl1:1≤l.length)(hnm:nm.size≤maxLen)(ht:ap G w ty (.agg #[.int .i64 tk,.slice ta tn tq])) :
  Calls Tryz.prog 109 #[.slice (some ad) n q,.string nm,.agg #[.int .i64 tk,.slice ta tn tq]] w (RetC (l ++ [⟨nm,ty⟩]) w):=
 (eY (fun _=>True) l ad n q nm ty tk ta tn tq w (hy.move (.weaken fun _ _ _=>trivial)) hl hl1 hnm ht.any).mono fun _ _ h=>h.toC
theorem mW (F G:Nat→Prop)(nm:ByteArray)(ty:Ty)(tk:Int)(ta:Option Addr)(tn tq:Nat)(w:World)(hnm:nm.size≤maxLen)(ht:ap G w ty (.agg #[.int .i64 tk,.slice ta tn tq])) :
  Calls Tryz.prog 109 #[.slice none 0 0,.string nm,.agg #[.int .i64 tk,.slice ta tn tq]] w (RetC ([] ++ [⟨nm,ty⟩]) w):=
 (eq (fun _=>True) nm ty tk ta tn tq w hnm ht.any).mono fun _ _ h=>h.toC
def L3t (t:Tm)(d:Int):Prop:=∀(l:List Bd) (c y:Value) (W:World) (F G:Nat→Prop),t.shape 14 d=true→(l.length:Int)+d≤1000→cW l→eL l c→aL F W l c→aA G W t y→Calls Tryz.prog 112 #[c,y] W (bM ((t.typS l).map S.ty) W)
theorem mX (t:Tm)(d:Int)(IH : ∀t'∈t.kids,L3t t' (d-1)):L3t t d:=by
 intro l c y W F G hsh hld hc hcv hb he
 cases t with
 | mk k nm u ty src lb ts=>
  obtain⟨hd,hk13,hlen,hown,hkids⟩:=Tm.shape_parts hsh;have hcnt : ∀b∈l,b.ty.cnt≤1048576:=fun b hb=>Ty.cnt_valid (hc b hb);obtain⟨k',nm',u',tk,ta,tn,tq,fk,fa,fn,fq,lb',ca,cm,cq,rfl⟩:=he.shape;obtain⟨e1,e2,e3,-,-,-,-,e8,hcm,hnm,-,-,hty,hsrc,hks⟩:=he.parts;simp only[Tm.kind,Tm.name,Tm.num,Tm.label,Tm.type] at e1 e2 e3 e8 hty;subst e1 e2 e3 e8;have hl0:(0:Int)≤aG k':=by rw[hlen];omega
  by_cases h1:k'=1
  ·subst h1
   have hL:=rD F l c nm' u' lb' tk fk ta fa ca tn tq fn fq cm cq W hb hcnt;rw[Tm.typS,if_pos rfl,lw hc]
   exact hL
  by_cases h2:k'=2
  ·subst h2
   rw[Tm.typS,if_neg (by omega),if_pos rfl]
   exact rE c nm' u' lb' tk fk ta fa ca tn tq fn fq cm cq W
  by_cases h3:k'=3
  ·subst h3
   rw[Tm.typS,if_neg (by omega),if_neg (by omega),if_pos (by omega)]
   exact rF c nm' u' lb' tk fk ta fa ca tn tq fn fq cm cq W
  by_cases h4:k'=4
  ·subst h4
   rw[Tm.typS,if_neg (by omega),if_neg (by omega),if_pos (by omega)]
   exact rG c nm' u' lb' tk fk ta fa ca tn tq fn fq cm cq W
  by_cases h5:k'=5
  ·subst h5
   have hv:=jD hown (.inl rfl);obtain⟨t1,rfl⟩ : ∃t1,ts = [t1]:=List.length_eq_one_iff.1 (by simp[aG] at hlen;omega);have hc2:=hc.snoc (nm:=nm') hv;have hs1:t1.shape 14 (d-1)=true:=Tm.shapes_mem hkids (by simp);obtain⟨xa,xn,xq,rfl⟩:=hcv.shape;have HM:Hid (∀W',Below W.heap.size W W'→Calls Tryz.prog 109 #[.slice xa xn xq,.string nm',.agg #[.int .i64 tk,.slice ta tn tq]] W' (RetC (l ++ [⟨nm',ty⟩]) W')):=zq fun W' hW=>by
    rcases hcv with ⟨rfl,hx⟩ | ⟨hl1,a,m,q,hx⟩
    ·rw[hx];exact mW F G nm' ty tk ta tn tq W' hnm (hty.below hW)
    ·simp only[Value.slice.injEq] at hx
     obtain⟨rfl,rfl,rfl⟩:=hx
     exact sP F G l a xn xq nm' ty tk ta tn tq W' (hb.below hW) (by omega) hl1 hnm (hty.below hW)
   have IHL:Hid (∀(W':World) (c' y':Value),Below W.heap.size W W'→aL (fun _=>True) W' (l ++ [⟨nm',ty⟩]) c'→aA G W' t1 y'→(∃a m q,c' = .slice (some a) m q)→Calls Tryz.prog 112 #[c',y'] W' (bM ((t1.typS (l ++ [⟨nm',ty⟩])).map S.ty) W')):=zq fun W' c' y' hW hb' he' hx=>
    IH t1 (by simp[Tm.kids]) _ c' y' W' _ G hs1 (by simp;omega) hc2 (.inr ⟨by simp,hx⟩) hb' he'
   cases hco:t1.typS (l ++ [⟨nm',ty⟩]) with
   | none=>exact mY G nm' u' lb' tk fk ty src t1 l xa ta fa ca xn xq tn tq fn fq cm cq W he hv HM IHL hco
   | some h1'=>exact mZ G nm' u' lb' tk fk ty src t1 l xa ta fa ca xn xq tn tq fn fq cm cq W he hv HM IHL h1' (eJ t1 _ _ hs1 hc2 _ hco) hco
  have hk:6≤k'∧k'≤13:=by
   unfold aG at hl0
   split at hl0
   ·omega
   split at hl0
   ·omega
   split at hl0
   ·omega
   split at hl0
   ·omega
   ·omega
  have hsm:ts.length≤3:=by
   have:aG k'≤3:=by unfold aG;repeat' split<;>omega
   omega
  obtain⟨xa,xn,xq,rfl⟩:=hcv.shape
  exact sQ G k' nm' u' lb' tk fk ty src ts l xa ta fa ca xn xq tn tq fn fq cm cq W he
   (fun t' ht' W' y' hW he'=>IH t' ht' l _ y' W' F G (Tm.shapes_mem hkids ht') (by omega) hc hcv (hb.below hW) he')
   (fun t' ht' h e=>eJ t' _ l (Tm.shapes_mem hkids ht') hc h e) hk hlen (fun h13=>jD hown (.inr h13)) hsm
theorem gx : ∀(t:Tm) (d:Int),L3t t d
 | t,d=>mX t d fun t' ht'=>gx t' (d-1)
termination_by t=>SizeOf.sizeOf t
decreasing_by exact Tm.kid_lt ht'
theorem mV (dd:Int)(s:S)(r p:Nat)(l:List Bd)(w:World)(c y:Value)(hrd0:aT w r p)(hcx:aL (· ≠ r) w l c)(hcv:eL l c)(hok:cW l)(hl:l.length+mkM dd s≤60)(hs:s.vd=true)(hy:ap (· ≠ r) w s.ty y)(hd5:dd≤5)(hdlo : -1000≤dd)(hp:p+mkB dd s≤1125899906800000)
  (IH : ∀(s':S) (l':List Bd),mkM (dd-1) s'<mkM dd s→s'.vd=true→cW l'→l'.length≤l.length+1→(∀b∈l',b.name.size≤1)→MkC r (dd-1) s' l') (hnl : ∀b∈l,b.name.size≤1) :
  Calls Tryz.prog 51 #[.pointer (some ⟨r,0,none⟩),c,y,.int .i64 dd] w (DTm r p (mkB dd s) (mkB dd s) w):=by
 obtain⟨kt,ta,tn,tq,rfl⟩:=hy.shape;obtain⟨xa,xn,xq,rfl⟩:=hcv.shape;refine(dS dd s r p l w kt ta tn tq xa xn xq).2 hrd0 hcx hcv hok hl hs hy hd5 hdlo hp IH hnl (fun _=>mkW0 dd s r p l w kt ta tn tq xa xn xq) (fun _=>mkW1 dd s r p l w kt ta tn tq xa xn xq) (fun _=>mkW2 dd s r p l w kt ta tn tq xa xn xq) (fun _=>mkW3 dd s r p l w kt ta tn tq xa xn xq) (fun _=>?_)
 cases s with
 | zero=>exact absurd hs (by decide)
 | int=>exact mkWint dd r p l w kt ta tn tq xa xn xq
 | any=>exact mkWany dd r p l w kt ta tn tq xa xn xq
 | bool=>exact mkWbool dd r p l w kt ta tn tq xa xn xq
 | fn a b=>exact mkWfn dd r p l w kt ta tn tq xa xn xq a b
 | pr a b=>exact mkWpr dd r p l w kt ta tn tq xa xn xq a b
theorem la (r:Nat) : ∀(n:Nat) (dd:Int) (s:S) (l:List Bd),mkM dd s≤n→l.length+n≤60→s.vd=true→cW l→(∀b∈l,b.name.size≤1)→dd≤5→(n:Int)-900≤dd→MkC r dd s l
 | 0,dd,s,l,h,_,_,_,_,_,_=>absurd h (by unfold mkM;omega)
 | n+1,dd,s,l,hm,hl,hs,hok,hnl,h5,hlo=>by
  intro q W c y hrd hcx hcv hy hp
  exact mV dd s r q l W c y hrd hcx hcv hok (by omega) hs hy h5 (by omega) hp
   (fun s' l' h1 h2 h3 h4 h6=>la r n (dd-1) s' l' (by omega) (by omega) h2 h3 h6 (by omega) (by omega)) hnl
def Asc (l:List Int):Prop:=l.Pairwise (· < ·)
theorem sR : ∀ {l m:List Int},Asc l→Asc m→(∀x,x∈l↔x∈m)→l=m
 | [],[],_,_,_=>rfl
 | [],b :: m,_,_,h=>absurd ((h b).2 (List.mem_cons_self ..)) (by simp)
 | a :: l,[],_,_,h=>absurd ((h a).1 (List.mem_cons_self ..)) (by simp)
 | a :: l,b :: m,hl,hm,h=>by
  have hl1:=(List.pairwise_cons.1 hl).1;have hm1:=(List.pairwise_cons.1 hm).1;have hab:a=b:=by
   rcases List.mem_cons.1 ((h a).1 (List.mem_cons_self ..)) with e | e
   ·exact e
   ·rcases List.mem_cons.1 ((h b).2 (List.mem_cons_self ..)) with e2 | e2
    ·exact e2.symm
    ·have:=hm1 a e;have:=hl1 b e2;omega
  subst hab;rw[sR (List.pairwise_cons.1 hl).2 (List.pairwise_cons.1 hm).2 (fun x=>?_)];have hx:=h x;simp only[List.mem_cons] at hx
  constructor
  ·intro hxl
   rcases hx.1 (.inr hxl) with e | e
   ·subst e;exact absurd (hl1 x hxl) (by omega)
   ·exact e
  ·intro hxm
   rcases hx.2 (.inr hxm) with e | e
   ·subst e;exact absurd (hm1 x hxm) (by omega)
   ·exact e
def ln (n:Int)(s:List Int × Bool)(x:Int):List Int × Bool:=if (!s.2&&decide (x>n))=true then (s.1 ++ [n] ++ [x],true) else (s.1 ++ [x],s.2)
def er (n:Int)(l:List Int):List Int × Bool:=l.foldl (ln n) ([],false)
def sins (n:Int)(l:List Int):List Int:=if l.contains n then l else if (er n l).2 then (er n l).1 else (er n l).1 ++ [n]
theorem te (n:Int)(l:List Int)(x:Int):er n (l ++ [x])=ln n (er n l) x:=by unfold er;rw[List.foldl_append];rfl
theorem ui (n:Int)(l:List Int):Asc l→n∉l→er n l=if l.any (fun x=>decide (x>n)) then (l.filter (fun x=>decide (x<n))++n :: l.filter (fun x=>decide (x>n)),true) else (l,false):=by
 intro hl hn;obtain⟨r,rfl⟩ : ∃r,l=r.reverse:=⟨l.reverse,by simp⟩
 induction r with
 | nil=>rfl
 | cons x r ih=>
  rw[List.reverse_cons] at hl hn ⊢;have hp:=List.pairwise_append.1 hl;have ih2:=ih hp.1 (fun h=>hn (List.mem_append_left _ h));have hxn:x≠n:=fun e=>hn (by rw[e];simp);have hlt : ∀y∈r.reverse,y<x:=fun y hy=>hp.2.2 y hy x (by simp);rw[te,ih2];generalize r.reverse=a at *;rw[List.any_append]
  by_cases ha:(a.any fun x=>decide (x>n))=true
  ·rw[ha]
   obtain⟨z,hz,hzn⟩:=List.any_eq_true.1 ha;have hxg:x>n:=by have:=hlt z hz;have:=of_decide_eq_true hzn;omega
   simp[ln,List.filter_append,List.filter_cons,hxg,show ¬x<n by omega]
  ·have ha':(a.any fun x=>decide (x>n))=false:=by simpa using ha
   rw[ha'];have hall : ∀y∈a,y<n:=fun y hy=>by
    have h1 : ¬y>n:=by have:=List.any_eq_false.1 ha' y hy;simpa using this
    have h2:y≠n:=fun e=>hn (by rw[←e];exact List.mem_append_left _ hy)
    omega
   have hf1:a.filter (fun x=>decide (x<n))=a:=List.filter_eq_self.2 fun y hy=>decide_eq_true (hall y hy);have hf2:a.filter (fun x=>decide (x>n)) = []:=List.filter_eq_nil_iff.2 fun y hy=>by have:=hall y hy;simp;omega
   by_cases hxg:x>n
   ·simp[ln,List.filter_append,List.filter_cons,hf1,hf2,hxg,show ¬x<n by omega]
   ·simp[ln,hxg]
theorem sins_ok (n:Int)(l:List Int)(hl:Asc l):Asc (sins n l)∧∀x,x∈sins n l↔x∈l∨x=n:=by
 unfold sins
 by_cases hc:l.contains n=true
 ·rw[if_pos hc]
  exact⟨hl,fun x=>⟨.inl,fun h=>h.elim id (fun e=>by rw[e];exact List.contains_iff_mem.1 hc)⟩⟩
 ·rw[if_neg hc]
  have hn:n∉l:=fun h=>hc (List.contains_iff_mem.2 h);have he:=ui n l hl hn;have hr:(if (er n l).2=true then (er n l).1 else (er n l).1 ++ [n])=l.filter (fun x=>decide (x<n))++n :: l.filter (fun x=>decide (x>n)):=by
   by_cases ha:(l.any fun x=>decide (x>n))=true
   ·rw[if_pos ha] at he;rw[he];rfl
   ·rw[if_neg ha] at he
    have ha':(l.any fun x=>decide (x>n))=false:=by simpa using ha
    have hall : ∀y∈l,y<n:=fun y hy=>by
     have h1 : ¬y>n:=by have:=List.any_eq_false.1 ha' y hy;simpa using this
     have h2:y≠n:=fun e=>hn (by rw[←e];exact hy)
     omega
    have hf1:l.filter (fun x=>decide (x<n))=l:=List.filter_eq_self.2 fun y hy=>decide_eq_true (hall y hy);have hf2:l.filter (fun x=>decide (x>n)) = []:=List.filter_eq_nil_iff.2 fun y hy=>by have:=hall y hy;simp;omega
    rw[he,hf1,hf2];rfl
  rw[hr];refine⟨List.pairwise_append.2 ⟨hl.filter _,List.pairwise_cons.2 ⟨fun y hy=>by have:=(List.mem_filter.1 hy).2;simpa using this,hl.filter _⟩,fun x hx y hy=>?_⟩,fun x=>?_⟩
  ·have h1:x<n:=by have:=(List.mem_filter.1 hx).2;simpa using this
   rcases List.mem_cons.1 hy with e | e
   ·omega
   ·have h2:y>n:=by have:=(List.mem_filter.1 e).2;simpa using this
    omega
  ·simp only[List.mem_append,List.mem_cons,List.mem_filter,decide_eq_true_eq]
   constructor
   ·rintro (⟨h,-⟩ | h | ⟨h,-⟩)
    ·exact .inl h
    ·exact .inr h
    ·exact .inl h
   ·rintro (h | h)
    ·have h2:x≠n:=fun e=>hn (e▸h)
     by_cases h3:x<n
     ·exact .inl ⟨h,h3⟩
     ·exact .inr (.inr ⟨h,by omega⟩)
    ·exact .inr (.inl h)
theorem sZ (zs:List Int)(hs:zs.Pairwise (· ≤ ·)):Asc (Lib.compact zs)∧∀x,x∈Lib.compact zs↔x∈zs:=by
 have hg : ∀i j (hi:i<zs.length) (hj:j<zs.length),i≤j→zs.toArray[i]!≤zs.toArray[j]!:=fun i j hi hj hij=>by
  rw[getElem!_pos zs.toArray i (by simpa using hi),getElem!_pos zs.toArray j (by simpa using hj)];simp only[List.getElem_toArray]
  rcases Nat.lt_or_eq_of_le hij with h | h
  ·exact List.pairwise_iff_getElem.1 hs i j hi hj h
  ·subst h;exact Int.le_refl _
 have h : ∀m,m≤zs.length→Asc (Lib.compactUpTo zs.toArray m)∧(∀x∈Lib.compactUpTo zs.toArray m,∃j,j<m∧zs.toArray[j]! = x)∧∀j,j<m→zs.toArray[j]!∈Lib.compactUpTo zs.toArray m:=by
  intro m
  induction m with
  | zero=>intro _;exact⟨List.Pairwise.nil,(by intro x hx;cases hx),(by intro j hj;omega)⟩
  | succ m ih=>
   intro hm;obtain⟨h1,h2,h3⟩:=ih (by omega);rw[Lib.compactUpTo_succ]
   by_cases hk:Lib.keeps zs.toArray m=true
   ·rw[if_pos hk]
    refine⟨List.pairwise_append.2 ⟨h1,List.pairwise_singleton _ _,fun x hx y hy=>?_⟩,fun x hx=>?_,fun j hj=>?_⟩
    ·rw[List.mem_singleton] at hy
     subst hy;obtain⟨j,hj,rfl⟩:=h2 x hx;have hle:=hg j (m-1) (by omega) (by omega) (by omega);have hle2:=hg (m-1) m (by omega) (by omega) (by omega);have hne:zs.toArray[m]!≠zs.toArray[m-1]!:=by
      unfold Lib.keeps at hk;have:=of_decide_eq_true hk
      rcases this with e | e
      ·omega
      ·exact e
     omega
    ·rcases List.mem_append.1 hx with hx | hx
     ·obtain⟨j,hj,e⟩:=h2 x hx
      exact⟨j,by omega,e⟩
     ·rw[List.mem_singleton] at hx
      exact⟨m,by omega,hx.symm⟩
    ·rcases Nat.lt_or_eq_of_le (Nat.le_of_lt_succ hj) with h | h
     ·exact List.mem_append_left _ (h3 j h)
     ·subst h;exact List.mem_append_right _ (by simp)
   ·rw[if_neg hk,List.append_nil]
    refine⟨h1,fun x hx=>?_,fun j hj=>?_⟩
    ·obtain⟨j,hj,e⟩:=h2 x hx
     exact⟨j,by omega,e⟩
    ·rcases Nat.lt_or_eq_of_le (Nat.le_of_lt_succ hj) with h | h
     ·exact h3 j h
     ·subst h
      have h0 : ¬(j=0∨zs.toArray[j]!≠zs.toArray[j-1]!):=fun e=>hk (by unfold Lib.keeps;exact decide_eq_true e);have he:zs.toArray[j]! = zs.toArray[j-1]!:=Classical.not_not.1 (fun e=>h0 (.inr e));have hj0:j≠0:=fun e=>h0 (.inl e);rw[he]
      exact h3 (j-1) (by omega)
 obtain⟨h1,h2,h3⟩:=h zs.length (Nat.le_refl _);refine⟨h1,fun x=>⟨fun hx=>?_,fun hx=>?_⟩⟩
 ·obtain⟨j,hj,e⟩:=h2 x hx
  rw[getElem!_pos zs.toArray j (by simpa using hj)] at e;rw[←e]
  simp
 ·obtain⟨j,hj,e⟩:=List.getElem_of_mem hx
  have:=h3 j hj;rw[getElem!_pos zs.toArray j (by simpa using hj)] at this
  show x∈Lib.compactUpTo zs.toArray zs.length
  simpa [e] using this
def g9 (l:List Int):List Int:=l.mergeSort fun x y=>decide (x≤y)
theorem tF (l:List Int):(g9 l).Pairwise (· ≤ ·)∧∀x,x∈g9 l↔x∈l:=by
 constructor
 ·have h:=List.pairwise_mergeSort (le:=fun x y:Int=>decide (x≤y)) (fun a b c h1 h2=>by simp at *;omega) (fun a b=>by simp;omega) l
  exact h.imp (fun h=>by simpa using h)
 ·intro x;unfold g9;exact List.mem_mergeSort
mutual
def Tm.labs:Tm→List Int→List Int
 | .mk k _ _ _ _ lb ts,out=>Tm.labss ts (if k==14 then sins lb out else out)
def Tm.labss:List Tm→List Int→List Int
 | [],out=>out
 | t :: ts,out=>Tm.labss ts (t.labs out)
end
mutual
theorem Tm.labs_ok : ∀(t:Tm) (out:List Int),Asc out→Asc (t.labs out)∧∀x,x∈t.labs out↔x∈out∨x∈t.casts.map Tm.label
 | .mk k s u ty f lb ts,out,h=>by
  unfold Tm.labs Tm.casts
  by_cases hk:(k==14)=true
  ·rw[if_pos hk,if_pos hk]
   obtain⟨h1,h2⟩:=sins_ok lb out h;obtain⟨h3,h4⟩:=Tm.labss_ok ts _ h1;refine⟨h3,fun x=>?_⟩;rw[h4,h2,List.map_append];simp only[List.map_cons,List.map_nil,List.mem_append,List.mem_singleton,Tm.label]
   constructor
   ·rintro ((h | h) | h)
    ·exact .inl h
    ·exact .inr (.inl h)
    ·exact .inr (.inr h)
   ·rintro (h | h | h)
    ·exact .inl (.inl h)
    ·exact .inl (.inr h)
    ·exact .inr h
  ·rw[if_neg hk,if_neg hk]
   simpa using Tm.labss_ok ts out h
theorem Tm.labss_ok : ∀(ts:List Tm) (out:List Int),Asc out→Asc (Tm.labss ts out)∧∀x,x∈Tm.labss ts out↔x∈out∨x∈(Tm.castss ts).map Tm.label
 | [],out,h=>by unfold Tm.labss Tm.castss;exact⟨h,fun x=>by simp⟩
 | t :: ts,out,h=>by
  unfold Tm.labss Tm.castss;obtain⟨h1,h2⟩:=Tm.labs_ok t out h;obtain⟨h3,h4⟩:=Tm.labss_ok ts _ h1;refine⟨h3,fun x=>?_⟩;rw[h4,h2,List.map_append,List.mem_append,or_assoc]
end
theorem Tm.labs_eq (t:Tm):Lib.compact (g9 (t.casts.map Tm.label))=t.labs []:=by
 obtain⟨h1,h2⟩:=tF (t.casts.map Tm.label);obtain⟨h3,h4⟩:=sZ _ h1;obtain⟨h5,h6⟩:=Tm.labs_ok t [] List.Pairwise.nil;refine sR h3 h5 (fun x=>?_);rw[h4,h2,h6]
 simp
def Tm.labels (t:Tm):List Int:=if t.castValid then t.labs [] else []
mutual
theorem Tm.shape_le : ∀(t:Tm) (nt d e:Int),d≤e→t.shape nt d=true→t.shape nt e=true
 | .mk k s u t f l ts,nt,d,e,hde,h=>by
  obtain⟨h1,h2,h3,h4,h5⟩:=Tm.shape_parts h;have h6:=Tm.shapes_le ts nt (d-1) (e-1) (by omega) h5;unfold Tm.shape;simp only[Bool.and_eq_true,decide_eq_true_eq,Bool.not_eq_true',beq_eq_false_iff_ne,beq_iff_eq]
  exact⟨⟨⟨by omega,h2⟩,h3,h4⟩,h6⟩
theorem Tm.shapes_le : ∀(ts:List Tm) (nt d e:Int),d≤e→Tm.shapes ts nt d=true→Tm.shapes ts nt e=true
 | [],_,_,_,_,_=>by unfold Tm.shapes;rfl
 | t :: ts,nt,d,e,hde,h=>by
  unfold Tm.shapes at h ⊢;simp only[Bool.and_eq_true] at h ⊢
  exact⟨Tm.shape_le t nt d e hde h.1,Tm.shapes_le ts nt d e hde h.2⟩
end
theorem tQ {k u l:Int}{s:ByteArray}{t f:Ty}{ts ts':List Tm}(h:(Tm.mk k s u t f l ts).ownB=true)(h13 : ¬k=13)(h14 : ¬k=14):(Tm.mk k s u (if k==5 then .any1 else .no) .no 0 ts').ownB=true:=by
 have q13:(k==13)=false:=beq_eq_false_iff_ne.2 h13;have q14:(k==14)=false:=beq_eq_false_iff_ne.2 h14;unfold Tm.ownB ownB at h ⊢;simp only[Tm.kind,Tm.num,Tm.label,Tm.name,Tm.type,Tm.src,q13,q14,Bool.or_false,Bool.and_eq_true] at h ⊢;refine⟨⟨h.1.1,?_⟩,?_⟩
 ·cases hk:(k==5) with
  | true=>rfl
  | false=>rfl
 ·rfl
theorem Tm.bares_len (ts:List Tm):(Tm.bares ts).length=ts.length:=by rw[Tm.bares_eq];simp
mutual
theorem Tm.bare_ok : ∀(t:Tm) (nt d:Int),t.shape nt d=true→t.bare.shape 13 d=true∧t.bare.bare=t.bare∧t.bare.size≤t.size∧∀out,t.bare.labs out=out
 | .mk k s u t f l ts,nt,d,h=>by
  obtain⟨h1,h2,h3,h4,h5⟩:=Tm.shape_parts h;obtain⟨g1,g2,g3,g4⟩:=Tm.bares_ok ts nt (d-1) h5
  by_cases hk:k=14∨k=13
  ·have hb:(k==14||k==13)=true:=by rcases hk with rfl | rfl<;>rfl
   have hl:ts.length=1:=by
    have e:aG k=1:=by rcases hk with rfl | rfl<;>rfl
    omega
   obtain⟨t1,rfl⟩:=List.length_eq_one_iff.1 hl;have e:(Tm.mk k s u t f l [t1]).bare=t1.bare:=by
    conv=>lhs;unfold Tm.bare eR
    rw[hb]
    rfl
   rw[e];simp only[Tm.bares,Tm.shapes,Bool.and_true,List.cons.injEq,and_true,Tm.sizes] at g1 g2 g3 g4;refine⟨Tm.shape_le _ 13 (d-1) d (by omega) g1,g2,by simp only[Tm.size,Tm.sizes];omega,fun out=>?_⟩;have:=g4 out
   simpa [Tm.labss] using this
  ·have h14 : ¬k=14:=fun e=>hk (.inl e)
   have h13 : ¬k=13:=fun e=>hk (.inr e);have q14:(k==14)=false:=beq_eq_false_iff_ne.2 h14;have q13:(k==13)=false:=beq_eq_false_iff_ne.2 h13;have hb:(k==14||k==13)=false:=by rw[q14,q13];rfl
   have e:(Tm.mk k s u t f l ts).bare = .mk k s u (if k==5 then .any1 else .no) .no 0 (Tm.bares ts):=by
    conv=>lhs;unfold Tm.bare eR
    rw[hb];rfl
   rw[e];refine⟨?_,?_,by simp only[Tm.size];omega,fun out=>?_⟩
   ·have ho:=tQ (ts':=Tm.bares ts) h4 h13 h14
    unfold Tm.shape;simp only[Bool.and_eq_true,decide_eq_true_eq,Bool.not_eq_true',beq_eq_false_iff_ne,beq_iff_eq] at ho ⊢
    exact⟨⟨⟨h1,h13⟩,by rw[Tm.bares_len];exact h3,ho⟩,g1⟩
   ·conv=>lhs;unfold Tm.bare eR
    rw[hb,g2];rfl
   ·unfold Tm.labs
    rw[q14]
    exact g4 out
theorem Tm.bares_ok : ∀(ts:List Tm) (nt d:Int),Tm.shapes ts nt d=true→Tm.shapes (Tm.bares ts) 13 d=true∧Tm.bares (Tm.bares ts)=Tm.bares ts∧Tm.sizes (Tm.bares ts)≤Tm.sizes ts∧∀out,Tm.labss (Tm.bares ts) out=out
 | [],_,_,_=>by simp[Tm.bares,Tm.shapes,Tm.sizes,Tm.labss]
 | t :: ts,nt,d,h=>by
  unfold Tm.shapes at h;rw[Bool.and_eq_true] at h;obtain⟨a1,a2,a3,a4⟩:=Tm.bare_ok t nt d h.1;obtain⟨b1,b2,b3,b4⟩:=Tm.bares_ok ts nt d h.2;refine⟨?_,?_,?_,fun out=>?_⟩
  ·simp only[Tm.bares,Tm.shapes,a1,b1,Bool.and_true]
  ·simp only[Tm.bares,a2,b2]
  ·simp only[Tm.bares,Tm.sizes];omega
  ·simp only[Tm.bares,Tm.labss];rw[a4,b4]
end
theorem Tm.bare_law (t:Tm):t.bareB=true→t.bareT.bareB=true∧t.bareT.bareT.same t.bareT=true∧t.bareT.castValid=true∧t.bareT.labels = []:=by
 intro h;have hT:t.bareT=t.bare:=by unfold Tm.bareT;rw[if_pos (by unfold Tm.bareB at h;exact h)]
 have hx:t.bare.shape 13 40=true∧t.bare.bare=t.bare∧t.bare.size≤200∧∀out,t.bare.labs out=out:=by
  unfold Tm.bareB at h
  rcases Bool.or_eq_true_iff.1 h with h | h
  ·unfold Tm.valid at h
   simp only[Bool.and_eq_true,decide_eq_true_eq] at h;obtain⟨a,b,c,d⟩:=Tm.bare_ok t 14 12 h.1
   exact⟨Tm.shape_le _ 13 12 40 (by omega) a,b,by omega,d⟩
  ·unfold Tm.castValid at h
   simp only[Bool.and_eq_true,decide_eq_true_eq] at h;obtain⟨a,b,c,d⟩:=Tm.bare_ok t 13 40 h.1
   exact⟨a,b,by omega,d⟩
 have hcv:t.bare.castValid=true:=by unfold Tm.castValid;simp only[Bool.and_eq_true,decide_eq_true_eq];exact⟨hx.1,hx.2.2.1⟩
 have hbb:t.bare.bareB=true:=by unfold Tm.bareB;rw[hcv];simp
 have hTT:t.bare.bareT=t.bare:=by unfold Tm.bareT;rw[if_pos (by unfold Tm.bareB at hbb;exact hbb)];exact hx.2.1
 rw[hT,hTT]
 exact⟨hbb,Tm.same_refl _,hcv,by unfold Tm.labels;rw[if_pos hcv];exact hx.2.2.2 []⟩
theorem na (F:Nat→Prop)(N0:Nat)(hF : ∀b,F b→b<N0)(t:Tm):eZ F N0 t:=by
 have IH : ∀t'∈t.kids,eZ F N0 t':=fun t' ht=>na F N0 hF t'
 by_cases hk:(t.kind==14)=true
 ·exact castsA F N0 hF t hk IH
 ·exact castsB F N0 hF t (by simpa using hk) IH
termination_by SizeOf.sizeOf t
decreasing_by exact Tm.kid_lt ht
theorem bE.lenOf {F:Nat→Prop}{w:World} : ∀ {r:List C} {ys:List Value},bE F w r ys→ys.length=r.length
 | [],_,h=>by unfold bE at h;subst h;rfl
 | c :: cs,_,⟨z,zs,e,h1,h2⟩=>by subst e;simp[bE.lenOf h2]
theorem bE.cellsAtOf {F:Nat→Prop}{w:World}{b:Nat} : ∀(r:List C) (ys:List Value) (off:Nat),bE F w r ys→(∀i,i<ys.length→w.cell? ⟨b,off+i,none⟩=ys[i]?)→aR F w b off r
 | [],_,_,_,_=>by unfold aR;trivial
 | c :: cs,_,off,⟨z,zs,e,h1,h2⟩,k=>by
  subst e;unfold aR;refine⟨⟨z,?_,h1⟩,bE.cellsAtOf cs zs _ h2 fun i hi=>?_⟩
  ·have:=k 0 (by simp);simpa using this
  ·rw[Nat.add_assoc,k (1+i) (by simp;omega),Nat.add_comm 1 i];simp
theorem bz.rowsAt {F:Nat→Prop}{w:World}{b:Nat} : ∀(rs:List (List C)) (xs:List Value) (off:Nat),bz F w rs xs→(∀i,i<xs.length→w.cell? ⟨b,off+i,none⟩=xs[i]?)→bg F w b off rs
 | [],_,_,_,_=>by unfold bg;trivial
 | r :: rs,_,off,⟨ys,xs',e,h1,h2⟩,k=>by
  subst e;have hl:=h1.lenOf;unfold bg;refine⟨bE.cellsAtOf r ys off h1 (fun i hi=>?_),bz.rowsAt rs xs' _ h2 fun i hi=>?_⟩
  ·rw[k i (by rw[List.length_append];omega),List.getElem?_append_left hi]
  ·rw[←hl,Nat.add_assoc,k (ys.length+i) (by rw[List.length_append];omega),List.getElem?_append_right (by omega)]
   congr 1
   omega
theorem cd.crep {B n size:Nat}{F:Nat→Prop}{e:TypeId}{w:World}{v:Value}{rows:List (List C)}(h:cd B F e size w v n rows):aM (· < w.heap.size) w (.sl rows) v:=by
 obtain⟨xs,⟨hl,h1⟩,h2,h3⟩:=h;have h3':=h3.move (bx.weaken (G:=(· < w.heap.size)) fun b _ hl=>hl) _ _;unfold aM
 rcases h1 with ⟨rfl,rfl⟩ | ⟨g,cap,cur,rfl,hb,hg,hn,hc,hs,ht⟩
 ·obtain rfl:rows = []:=List.eq_nil_of_length_eq_zero h2
  exact⟨none,0,rfl,Nat.le_refl _,by unfold maxLen;omega,.inl rfl⟩
 ·have hlt:g<w.heap.size:=by
   rcases Nat.lt_or_ge g w.heap.size with h | h
   ·exact h
   ·rw[Array.getElem?_eq_none h] at hg;cases hg
  exact⟨_,cap,by rw[h2],by omega,hc,.inr ⟨g,0,rfl,hlt,hlt,h3'.rowsAt _ _ 0 (fun i hi=>by
    rw[←ht] at hi ⊢;simp only[World.cell?,hg];simp only[List.length_take] at hi
    simp
    rw[List.getElem?_take_of_lt (by omega),Array.getElem?_toList])⟩⟩
theorem cd.tms {B n:Nat}{F:Nat→Prop}{e:TypeId}{w:World}{v:Value}{us:List Tm}(h:cd B F e 9 w v n (Tm.rows us)):aS (· < w.heap.size) w us v:=h.crep
theorem Tm.casts_ok {t:Tm}(h:t.castValid=true):t.casts.length≤200:=by
 have h1:=t.casts_len;unfold Tm.castValid at h;simp only[Bool.and_eq_true,decide_eq_true_eq] at h
 omega
end Go.Proofs.YtfahhonmiimmdaaGreat
