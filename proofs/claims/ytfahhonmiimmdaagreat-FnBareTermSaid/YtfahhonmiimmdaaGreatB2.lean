/- The laws' helpers that write into a type of their own and look whether it is as written. And what else its parts name. -/
import Derived.IntWalk
import Derived.Test.YtfahhonmiimmdaaGreatB4
set_option linter.unusedSimpArgs false
set_option linter.unusedVariables false
set_option maxRecDepth 100000
set_option maxHeartbeats 16000000
namespace Go.Proofs.YtfahhonmiimmdaaGreat
open Go.RowKit
mutual
def Ty.marks:List Ty→Int→List Ty
 | [],_=> []
 | t :: ts,m=>t.marked m :: Ty.marks ts (m+1+t.cnt)
def Ty.marked:Ty→Int→Ty
 | .mk _ us,m=>.mk m (Ty.marks us (m+1))
end
theorem aK.split {w:World}{b:Nat} : ∀ {off:Nat} {r1 r2:List (List C)} {r:List C} {fp:List Nat},aK w b off (r1++r :: r2) fp →
  ∃f1 f f2,fp=f1++(f++f2)∧aK w b off r1 f1∧aV w b (off+r1.flatten.length) r f∧aK w b (off+r1.flatten.length+r.length) r2 f2
 | off,[],r2,r,fp,h=>by
  simp only[List.nil_append] at h;unfold aK at h;obtain⟨f1,f2,rfl,h1,h2⟩:=h
  exact⟨[],f1,f2,rfl,by unfold aK;rfl,by simpa using h1,by simpa using h2⟩
 | off,x :: r1,r2,r,fp,h=>by
  simp only[List.cons_append] at h;unfold aK at h;obtain⟨g1,g2,rfl,h1,h2⟩:=h;obtain⟨f1,f,f2,rfl,k1,k2,k3⟩:=aK.split h2;refine⟨g1++f1,f,f2,by simp,?_,?_,?_⟩
  ·unfold aK;exact⟨g1,f1,rfl,h1,k1⟩
  ·rw[List.flatten_cons,List.length_append,←Nat.add_assoc];exact k2
  ·rw[List.flatten_cons,List.length_append,←Nat.add_assoc];exact k3
theorem aK.join {w:World}{b:Nat} : ∀ {off:Nat} {r1 r2:List (List C)} {r:List C} {f1 f f2:List Nat},aK w b off r1 f1→aV w b (off+r1.flatten.length) r f→aK w b (off+r1.flatten.length+r.length) r2 f2 →
  aK w b off (r1++r :: r2) (f1++(f++f2))
 | off,[],r2,r,f1,f,f2,h,h1,h2=>by
  unfold aK at h;subst h;simp only[List.nil_append];unfold aK
  exact⟨f,f2,rfl,by simpa using h1,by simpa using h2⟩
 | off,x :: r1,r2,r,f1,f,f2,h,h1,h2=>by
  unfold aK at h;obtain⟨g1,g2,rfl,k1,k2⟩:=h;rw[List.flatten_cons,List.length_append,←Nat.add_assoc] at h1 h2;simp only[List.cons_append];unfold aK
  exact⟨g1,g2++(f++f2),by simp,k1,aK.join k2 h1 h2⟩
theorem Ty.rows_append (a b:List Ty):Ty.rows (a++b)=Ty.rows a++Ty.rows b:=by simp[Ty.rows_eq]
theorem Ty.rows_cons (t:Ty)(b:List Ty):Ty.rows (t :: b)=t.row :: Ty.rows b:=by conv=>lhs;unfold Ty.rows
def kv (w:World)(b:Nat)(ts:List Ty)(fps:List Nat):Prop:=(∃cs T,w.heap[b]?=some (.cells cs T (0,0)))∧aK w b 0 (Ty.rows ts) fps∧fps.Nodup∧b∉fps
theorem kv.row {w:World}{b:Nat}{ts1 ts2:List Ty}{t:Ty}{fps:List Nat}(h:kv w b (ts1++t :: ts2) fps) :
  ∃f1 f f2 s,fps=f1++(f++f2)∧aK w b 0 (Ty.rows ts1) f1∧aK w b (ts1.length*2+2) (Ty.rows ts2) f2∧w.cell? ⟨b,ts1.length*2,none⟩=some (.int .i64 t.kind)∧w.cell? ⟨b,ts1.length*2+1,none⟩=some s∧cp w t.kids s f:=by
 obtain⟨_,hr,_,_⟩:=h;rw[Ty.rows_append,Ty.rows_cons] at hr;obtain⟨f1,f,f2,rfl,h1,h2,h3⟩:=aK.split hr;rw[Ty.flatten_length,Nat.zero_add] at h2 h3;rw[Ty.row_length] at h3
 cases t with | mk k us=>
 unfold Ty.row aV at h2;obtain⟨y,g1,g2,rfl,hy,k1,k2⟩:=h2;unfold aJ at k1;obtain⟨rfl,rfl⟩:=k1;unfold aV at k2;obtain⟨y',g3,g4,rfl,hy',k3,k4⟩:=k2;unfold aV at k4;subst k4
 exact⟨f1,g3,f2,y',by simp,h1,h3,hy,hy',k3⟩
theorem kv.step {w w':World}{b:Nat}{ts1 ts2 us':List Ty}{t:Ty}{k:Int}{f1 f f2:List Nat}{s:Value}(h:kv w b (ts1++t :: ts2) (f1++(f++f2)))(h1:aK w b 0 (Ty.rows ts1) f1)(h2:aK w b (ts1.length*2+2) (Ty.rows ts2) f2)
  (hs0:w.cell? ⟨b,ts1.length*2,none⟩=some (.int .i64 t.kind)) (hs:w.cell? ⟨b,ts1.length*2+1,none⟩=some s) (hc:Chg f (w.setCell ⟨b,ts1.length*2,none⟩ (.int .i64 k)) w') (hk:cp w' us' s f):kv w' b (ts1++Ty.mk k us' :: ts2) (f1++(f++f2)):=by
 obtain⟨⟨cs,T,hb⟩,_,hd,hn⟩:=h;simp only[List.mem_append,not_or] at hn;have hbl:=(Array.getElem?_eq_some_iff.1 hb).1;have hsz:(w.setCell ⟨b,ts1.length*2,none⟩ (.int .i64 k)).heap.size=w.heap.size:=by simp[World.setCell]
 have hb1:w'.heap[b]?=some (.cells (cs.setIfInBounds (ts1.length*2) (.int .i64 k)) T (0,0)):=(hc.block b (by omega) hn.2.1).trans (cy hb);rw[List.nodup_append,List.nodup_append] at hd;obtain⟨d1,⟨d2,d3,d23⟩,d123⟩:=hd;have old : ∀x,x<w.heap.size→x≠b→x∉f→w'.heap[x]?=w.heap[x]?:=fun x hx hxb hxf=>
  (hc.block x (by omega) hxf).trans (Below.heap_setCell w ⟨b,_,none⟩ _ x hxb)
 have cell : ∀o,o≠ts1.length*2→w'.cell? ⟨b,o,none⟩=w.cell? ⟨b,o,none⟩:=fun o ho=>by
  simp only[World.cell?,hb1,hb]
  simp
  rw[Array.getElem?_setIfInBounds_ne (by omega)]
 have hl':ts1.length*2<cs.size:=by
  simp only[World.cell?,hb] at hs0
  simp at hs0
  exact(Array.getElem?_eq_some_iff.1 hs0).1
 refine⟨⟨_,T,hb1⟩,?_,?_,?_⟩
 ·rw[Ty.rows_append,Ty.rows_cons]
  refine aK.join ?_ ?_ ?_
  ·exact h1.move _ _ _ (fun x hx=>old x (h1.lt _ _ _ x hx) (fun e=>hn.1 (e▸hx)) (fun hf=>d123 x hx x (List.mem_append_left _ hf) rfl)) (fun o _ ho=>cell o (by rw[Ty.flatten_length] at ho;omega))
  ·rw[Ty.flatten_length,Nat.zero_add]
   unfold Ty.row aV;refine⟨_,[],f,by simp,?_,by unfold aJ;exact⟨rfl,rfl⟩,?_⟩
   ·simp only[World.cell?,hb1]
    simp
    rw[Array.getElem?_setIfInBounds_self]
    simp;omega
   ·unfold aV
    exact⟨s,f,[],by simp,(cell _ (by omega)).trans hs,hk,by unfold aV;rfl⟩
  ·rw[Ty.flatten_length,Ty.row_length,Nat.zero_add]
   exact h2.move _ _ _ (fun x hx=>old x (h2.lt _ _ _ x hx) (fun e=>hn.2.2 (e▸hx)) (fun hf=>d23 x hf x hx rfl)) (fun o ho _=>cell o (by omega))
 ·rw[List.nodup_append,List.nodup_append];exact⟨d1,⟨d2,d3,d23⟩,d123⟩
 ·simp only[List.mem_append,not_or];exact hn
theorem au {X:World}{n:Nat}{cs:Array Value}{T:TypeId}(h:X.heap.size=n)(j:Nat):(X.alloc (.cells cs T)).cell? ⟨n,j,none⟩=cs[j]?:=by subst h;exact aw j
theorem di {X:World}{n:Nat}{cs:Array Value}{T:TypeId}(h:X.heap.size=n)(j:Nat):(X.alloc (.cells cs T)).frozen? ⟨n,j,none⟩=false:=by subst h;exact b5 j
theorem az {w w1:World}{a:Addr}{v:Value}(h:Below w.heap.size w w1)(hc:w.cell? a=some v)(hf:w.frozen? a=false):w1.frozen? a=false:=(h.frozen (World.block_lt_of_cell? w a hc)).trans hf
theorem ay {w:World}{a:Addr}{v:Value}(hc:w.cell? a=some v):w.drew.cell? a=some v:=hc
theorem dfro {w:World}{a:Addr}(hc:w.frozen? a=false):w.drew.frozen? a=false:=hc
theorem ep {w:World}{a p:Addr}{v:Value}(hf:w.frozen? a=false):(w.setCell p v).frozen? a=false:=(cr w p v a).trans hf
theorem bf {w:World}{p a:Addr}{v u:Value}(h:w.cell? a=some u)(hne:a.block≠p.block):(w.setCell p v).cell? a=some u:=aX h (fun e=>by subst e;exact hne rfl)
theorem cf.chg {fp fp':List Nat}{w w':World}{t:Ty}{y:Value}(h:Chg fp w w')(hn : ∀b∈fp',b∉fp)(r:cf w t y fp'):cf w' t y fp':=by
 obtain⟨s,rfl,ho⟩:=r
 exact⟨s,rfl,aJ.move _ _ _ (fun b hb=>h.block b (aJ.lt _ _ _ ho b hb) (hn b hb)) ho⟩
theorem cf.lt {w:World}{t:Ty}{y:Value}{fp:List Nat}(r:cf w t y fp) : ∀b∈fp,b<w.heap.size:=by
 obtain⟨s,rfl,ho⟩:=r
 exact aJ.lt _ _ _ ho
theorem ap.old {F:Nat→Prop}{w:World}{t:Ty}{y:Value}(r:ap F w t y):ap (· < w.heap.size) w t y:=r.move (.weaken fun _ _ h=>h)
theorem cf.ks {w:World}{t:Ty}{y:Value}{fp:List Nat}(r:cf w t y fp) : ∃k a n q,y = .agg #[.int .i64 k,.slice a n q]:=by
 obtain⟨k,a,n,q,rfl,-⟩:=r.shape
 exact⟨k,a,n,q,rfl⟩
def aC (n a b:Int):Bool:=decide (a≤n)&&decide (n≤b)
def cj (n:Int):Bool:=aC n 1 99||aC n (-99) (-1)
theorem be (n a b:Int)(w:World):Calls Tryz.prog 95 #[.int .i64 n,.int .i64 a,.int .i64 b] w fun e w'=>e = .returned (.bool (aC n a b))∧Below w.heap.size w w':=by
 unfold aC
 by_cases h1:a≤n
 ·by_cases h2:n≤b
  ·go_enter Tryz.func95,Tryz.ntmps95
   go_wp2_with fail
   go_ret
   exact⟨ax (by simp[h1,h2]),Below.refl _ _⟩
  ·have h2':decide (n≤b)=false:=decide_eq_false h2
   go_enter Tryz.func95,Tryz.ntmps95
   go_wp2_with fail
   go_ret
   exact⟨ax (by simp[h1,h2']),Below.refl _ _⟩
 ·have h1':decide (a≤n)=false:=decide_eq_false h1
  go_enter Tryz.func95,Tryz.ntmps95
  go_wp2_with fail
  go_ret
  exact⟨ax (by simp[h1']),Below.refl _ _⟩
def bJ (n:Int):Int:=if n < -99∨99<n then 0 else if n<0 then -n else n
theorem tG (n:Int)(w:World):Calls Tryz.prog 104 #[.int .i64 n] w fun e w'=>e = .returned (.int .i64 (bJ n))∧w=w':=by
 by_cases h1:n < -99
 ·have ha:bJ n=0:=by unfold bJ;rw[if_pos (.inl h1)]
  have HA:=zq ha;clear ha
  go_enter Tryz.func104,Tryz.ntmps104
  go_wp2_with fail
  go_ret
  exact⟨bc HA.out.symm,rfl⟩
 ·have d1:decide (n < -99)=false:=decide_eq_false h1
  by_cases h2:n>99
  ·have ha:bJ n=0:=by unfold bJ;rw[if_pos (.inr h2)]
   have HA:=zq ha;clear ha
   go_enter Tryz.func104,Tryz.ntmps104
   go_wp2_with fail
   go_ret
   exact⟨bc HA.out.symm,rfl⟩
  ·have d2:decide (n>99)=false:=decide_eq_false h2
   by_cases h3:n<0
   ·have ha:bJ n = -n:=by unfold bJ;rw[if_neg (by omega),if_pos h3]
    have HA:=zq ha;have hw:IntKind.i64.wrap (-n) = -n:=IntWalk.i64_in _ (by omega);clear ha
    go_enter Tryz.func104,Tryz.ntmps104
    go_wp2_with fail
    go_ret
    exact⟨bc HA.out.symm,rfl⟩
   ·have ha:bJ n=n:=by unfold bJ;rw[if_neg (by omega),if_neg h3]
    have HA:=zq ha;clear ha
    go_enter Tryz.func104,Tryz.ntmps104
    go_wp2_with fail
    go_ret
    exact⟨bc HA.out.symm,rfl⟩
theorem cX (n:Int):decide (bJ n≥1)=cj n:=by
 unfold bJ cj aC;rw[Bool.eq_iff_iff]
 simp
 split
 ·omega
 ·split<;>omega
theorem ls (n:Int)(h0:(aC n 1 99)=true):(true:Bool)=(cj n):=by
 simp_all [cj]
theorem lv (n:Int)(h0:(aC n 1 99)=false):(aC n (-99) (-1):Bool)=(cj n):=by
 simp_all [cj]
theorem rW (n:Int)(w:World):Calls Tryz.prog 97 #[.int .i64 n] w fun e w'=>e = .returned (.bool (cj n))∧Below w.heap.size w w':=by
 obtain⟨rr,hrr⟩ : ∃rr0:Bool,(cj n)=rr0:=⟨_,rfl⟩
 rw[hrr];have HT:=zq hrr;clear hrr
 go_enter Tryz.func97,Tryz.ntmps97
 rcases Bool.eq_false_or_eq_true (aC n 1 99) with q1 | q1
 ·have Hq1:=zq q1
  clear q1
  go_wp2_with fail
  refine(be n 1 99 _).mono ?_;rintro e w1 ⟨rfl,hb1⟩;rw[Hq1.out];have hB:=(al (Below.refl _ _) hb1)
  have zw1:=hB.size
  go_wp2_with fail
  refine bodyPost_ret (v:=.bool (true)) (by simp[results,Tryz.results97,go_sem,bne]) rfl ?_
  exact⟨ax ((ls n Hq1.out).trans HT.out),hB⟩
 ·have Hq1:=zq q1
  clear q1
  go_wp2_with fail
  refine(be n 1 99 _).mono ?_;rintro e w2 ⟨rfl,hb2⟩;rw[Hq1.out];have hB:=(al (Below.refl _ _) hb2)
  have zw2:=hB.size
  go_wp2_with fail
  refine(be n (-99) (-1) _).mono ?_;rintro e w3 ⟨rfl,hb3⟩;replace hB:=(al hB hb3)
  have zw3:=hB.size
  go_wp2_with fail
  refine bodyPost_ret (v:=.bool (aC n (-99) (-1))) (by simp[results,Tryz.results97,go_sem,bne]) rfl ?_
  exact⟨ax ((lv n Hq1.out).trans HT.out),hB⟩
mutual
def Ty.cons:Ty→Ty→Bool
 | .mk k ts,.mk l us=>k==1||l==1||(k==l&&Ty.conss ts us)
def Ty.conss:List Ty→List Ty→Bool
 | [],[]=>true
 | t :: ts,u :: us=>t.cons u&&Ty.conss ts us
 | _,_=>false
end
theorem Ty.conss_all2 : ∀ts us:List Ty,dx Ty.cons ts us=Ty.conss ts us
 | [],[]=>by unfold Ty.conss;rfl
 | [],_ :: _=>by unfold Ty.conss;rfl
 | _ :: _,[]=>by unfold Ty.conss;rfl
 | t :: ts,u :: us=>by unfold Ty.conss dx;rw[Ty.conss_all2 ts us]
theorem eS (F G:Nat→Prop)(t:Ty) : ∀(u:Ty) (y z:Value) (w:World),ap F w t y→ap G w u z →
  Calls Tryz.prog 24 #[y,z] w fun e w'=>e = .returned (.bool (t.cons u))∧Below w.heap.size w w':=by
 intro u y z w hy hz;have IH : ∀t'∈t.kids,∀u'∈u.kids,∀(W:World) (y z:Value),ap F W t' y→ap G W u' z→Calls Tryz.prog 24 #[y,z] W fun e W'=>e = .returned (.bool (t'.cons u'))∧Below W.heap.size W W':=
  fun t' ht u' _ W y z a b=>eS F G t' u' y z W a b
 obtain⟨a,cap,rfl,h2,h3,h4⟩:=hy.open;obtain⟨c,cap',rfl,g2,g3,g4⟩:=hz.open;clear hy hz
 cases t with | mk k ts=>cases u with | mk l us=>
 simp only[Ty.kind,Ty.kids] at *;have HC:=fun W (h:Below w.heap.size w W)=>ig _ _ F G ts us _ _ W (h4.below h) (g4.below h) Tryz.call24 IH;generalize ts.length=n at *;generalize us.length=m at *;unfold Ty.cons
 by_cases hk1:k=1
 ·subst hk1
  clear HC IH
  go_enter Tryz.func24,Tryz.ntmps24
  go_wp2_with fail
  go_ret
  exact⟨ax (by simp),aH⟩
 have g1:(k==1)=false:=by simpa using hk1
 by_cases hl1:l=1
 ·subst hl1
  clear HC IH
  go_enter Tryz.func24,Tryz.ntmps24
  go_wp2_with fail
  go_ret
  exact⟨ax (by simp),aH⟩
 have g2:(l==1)=false:=by simpa using hl1
 by_cases hk:k=l
 ·subst hk
  rw[Ty.conss_all2] at HC;generalize Ty.conss ts us=r at *;have H:=zq HC;clear HC IH;clear hl1 hk1
  go_enter Tryz.func24,Tryz.ntmps24
  go_wp2_with fail
  refine(H.out _ aH).mono ?_;rintro e w1 ⟨rfl,hb1⟩
  go_wp2_with fail
  go_ret
  exact⟨ax (by simp[g2]),al aH hb1⟩
 ·have hkl:(k==l)=false:=by simpa using hk
  clear hk HC IH hl1 hk1
  go_enter Tryz.func24,Tryz.ntmps24
  go_wp2_with fail
  go_ret
  exact⟨ax (by simp[hkl,g2,g1]),aH⟩
termination_by SizeOf.sizeOf t
decreasing_by exact Ty.kid_lt ht
theorem ec (F G:Nat→Prop)(t:Ty) : ∀(u:Ty) (d d':Int) (y z:Value) (w:World),ap F w t y→ap G w u z→t.shape d=true→u.shape d'=true →
  Calls Tryz.prog 58 #[y,z] w fun e w'=>e = .returned (.bool (t.cons u))∧Below w.heap.size w w':=by
 intro u d d' y z w hy hz sy sz;have IH : ∀t'∈t.kids,∀u'∈u.kids,∀(d d':Int) (W:World) (y z:Value),ap F W t' y→ap G W u' z→t'.shape d=true→u'.shape d'=true→Calls Tryz.prog 58 #[y,z] W fun e W'=>e = .returned (.bool (t'.cons u'))∧Below W.heap.size W W':=
  fun t' ht u' _ d d' W y z a b c e=>ec F G t' u' d d' y z W a b c e
 obtain⟨a,cap,rfl,h2,h3,hy'⟩:=hy.open;obtain⟨c,cap',rfl,g2',g3,hz'⟩:=hz.open;clear hy hz;have IHH:=zq IH;clear IH
 cases t with | mk k ts=>cases u with | mk l us=>
 simp only[Ty.kind,Ty.kids] at *;unfold maxLen at h3 g3;obtain⟨-,st,sst⟩:=Ty.shape_mk sy;obtain⟨-,su,ssu⟩:=Ty.shape_mk sz;have SST:=zq sst;have SSU:=zq ssu;clear sy sz sst ssu;unfold Ty.cons;rw[←Ty.conss_all2];obtain⟨n,hn⟩ : ∃n,ts.length=n:=⟨_,rfl⟩
 obtain⟨m,hm⟩ : ∃m,us.length=m:=⟨_,rfl⟩
 rw[hn] at h2 hy' st ⊢;rw[hm] at g2' hz' su ⊢;have HN:=zq hn;have HM:=zq hm;have ST:=zq st;have SU:=zq su;clear hn hm st su
 by_cases hk1:k=1
 ·subst hk1
  clear IHH
  go_enter Tryz.func58,Tryz.ntmps58
  go_wp2_with fail
  go_ret
  exact⟨ax (by simp),aH⟩
 have g1:(k==1)=false:=by simpa using hk1
 by_cases hl1:l=1
 ·subst hl1
  clear IHH
  go_enter Tryz.func58,Tryz.ntmps58
  go_wp2_with fail
  go_ret
  exact⟨ax (by simp),aH⟩
 have g2:(l==1)=false:=by simpa using hl1
 by_cases hk:k=l
 ·subst hk
  obtain rfl:n=m:=by have:=ST.out;have:=SU.out;omega
  clear hl1 hk1
  go_enter Tryz.func58,Tryz.ntmps58
  go_wp2_with fail
  go_loopw [5] (fun i wr=>∃j:Nat,j≤n∧i = .int .i64 j∧Below w.heap.size w wr∧wr.cell? ⟨w.heap.size,1,none⟩=some (.slice a n cap)∧wr.cell? ⟨w.heap.size+1,1,none⟩=some (.slice c n cap')∧w.heap.size+1<wr.heap.size∧Hid (dx Ty.cons ts us=dx Ty.cons (ts.drop j) (us.drop j))) (fun i _=>n-(intOf i).toNat)
  case atStart=>exact⟨0,by omega,rfl,aH,by simp,by simp,by simp,rfl⟩
  case round=>
   obtain⟨j,hj,rfl,hbw,hc1,hc2,hsz,hR⟩:=hrel
   by_cases hlt:j<n
   ·have hkt:j<ts.length:=by rw[HN.out];exact hlt
    have hku:j<us.length:=by rw[HM.out];exact hlt
    obtain⟨b,off,k0,a0,m0,q0,rfl,l0,e0,e1,ht⟩:=hy'.at hbw hkt;obtain⟨b',off',k0',a0',m0',q0',rfl,l0',e0',e1',hu⟩:=hz'.at hbw hku;have hcall:=fun W (h:Below wr.heap.size wr W)=>IHH.out ts[j] (List.getElem_mem hkt) us[j] (List.getElem_mem hku) _ _ W _ _ (ht.below h) (hu.below h) (Ty.shapes_mem SST.out (List.getElem_mem hkt)) (Ty.shapes_mem SSU.out (List.getElem_mem hku));have hstep:=hR.out.trans (ic Ty.cons ts us j hkt hku);generalize ts[j].cons us[j]=r at hcall hstep;have HC:=zq hcall;have HS:=zq hstep;clear hcall hstep hR
    cases r
    all_goals
     go_wp2_with fail
     go_region_held3 (fun w'=>w'.cell? ⟨w.heap.size,1,none⟩=some (.slice (some ⟨b,off,none⟩) n cap)∧w'.cell? ⟨w.heap.size+1,1,none⟩=some (.slice (some ⟨b',off',none⟩) n cap')∧w'.cell? ⟨b,off+j*2,none⟩=some (.int .i64 k0)∧w'.cell? ⟨b,off+j*2+1,none⟩=some (.slice a0 m0 q0)∧w'.cell? ⟨b',off'+j*2,none⟩=some (.int .i64 k0')∧w'.cell? ⟨b',off'+j*2+1,none⟩=some (.slice a0' m0' q0'))
      (first | go_keep | exact⟨cn hb1 hc1,cn hb1 hc2,cn hb1 e0,cn hb1 e1,cn hb1 e0',cn hb1 e1'⟩)
      (first | (go_at_call 58;refine(HC.out _ bdr).mono ?_;rintro e w1 ⟨rfl,hb1⟩))
     go_wp2_with fail
    ·go_ret
     exact⟨ax (by rw[HS.out];simpa using g2),nT hbw hb1⟩
    ·go_roundw
     case rel=>exact⟨j+1,by omega,by go_num,nT hbw hb1,cn hb1 hc1,cn hb1 hc2,Nat.lt_of_lt_of_le hsz hb1.size,by rw[Hid,HS.out];rfl⟩
     case measure=>simp[intOf];omega
   ·go_wp2_with fail
    go_ret
    exact⟨ax (by rw[hR.out,jU _ _ _ _ (by rw[HN.out];omega) (by rw[HM.out];omega)];simp),hbw⟩
 ·have hkl:(k==l)=false:=by simpa using hk
  have hkl':(k != l)=true:=by simpa using hk
  clear hk hl1 hk1
  go_enter Tryz.func58,Tryz.ntmps58
  go_wp2_with fail
  go_ret
  exact⟨ax (by simp[hkl,g2,g1]),aH⟩
termination_by SizeOf.sizeOf t
decreasing_by exact Ty.kid_lt ht
theorem lp (F G:Nat→Prop)(t u:Ty)(y z:Value)(w:World)(hy:ap F w t y)(hz:ap G w u z) :
  Calls Tryz.prog 10 #[y,z] w fun e w'=>e = .returned (.bool (t.valid&&u.valid&&t.cons u))∧Below w.heap.size w w':=by
 obtain⟨k,a,n,q,rfl⟩:=hy.shape;obtain⟨k',a',n',q',rfl⟩:=hz.shape;have HV:=fun W (h:Below w.heap.size w W)=>eu F t _ W (hy.below h);have HU:=fun W (h:Below w.heap.size w W)=>eu G u _ W (hz.below h);have HI:=fun(hv:t.valid=true) (hu:u.valid=true) W (h:Below w.heap.size w W)=>eS F G t u _ _ W (hy.below h) (hz.below h);clear hy hz
 cases hv:t.valid
 ·rw[hv] at HV
  have HH:=zq HV;clear HV HU HI hv
  go_enter Tryz.func10,Tryz.ntmps10
  go_wp2_with fail
  refine(HH.out _ aH).mono ?_;rintro e w1 ⟨rfl,hb1⟩
  go_wp2_with fail
  go_ret
  exact⟨ax (by simp),al aH hb1⟩
 ·rw[hv] at HV
  cases hu:u.valid
  ·rw[hu] at HU
   have HH:=zq HV;have HK:=zq HU;clear HV HU HI hv hu
   go_enter Tryz.func10,Tryz.ntmps10
   go_wp2_with fail
   refine(HH.out _ aH).mono ?_;rintro e w1 ⟨rfl,hb1⟩;obtain⟨hc,hf⟩:=nY hb1
   go_wp2_with fail
   refine(HK.out _ (al aH hb1)).mono ?_;rintro e w2 ⟨rfl,hb2⟩
   go_wp2_with fail
   go_ret
   exact⟨ax (by simp),al (al aH hb1) hb2⟩
  ·rw[hu] at HU
   have HI:=HI hv hu;generalize t.cons u=r at *;have HH:=zq HV;have HK:=zq HU;have HJ:=zq HI;clear HV HU HI hv hu
   go_enter Tryz.func10,Tryz.ntmps10
   go_wp2_with fail
   refine(HH.out _ aH).mono ?_;rintro e w1 ⟨rfl,hb1⟩;obtain⟨hc,hf⟩:=nY hb1
   go_wp2_with fail
   refine(HK.out _ (al aH hb1)).mono ?_;rintro e w2 ⟨rfl,hb2⟩;clear hc hf;obtain⟨hc,hf⟩:=nY (al hb1 hb2)
   go_wp2_with fail
   refine(HJ.out _ (al (al aH hb1) hb2)).mono ?_;rintro e w3 ⟨rfl,hb3⟩
   go_wp2_with fail
   go_ret
   exact⟨ax (by simp),al (al (al aH hb1) hb2) hb3⟩
theorem eN (F G:Nat→Prop)(t:Ty) : ∀(u:Ty) (y z:Value) (w:World),ap F w t y→ap G w u z →
  Calls Tryz.prog 35 #[y,z] w fun e w'=>e = .returned (.bool (t.same u))∧Below w.heap.size w w':=by
 intro u y z w hy hz;have IH : ∀t'∈t.kids,∀u'∈u.kids,∀(W:World) (y z:Value),ap F W t' y→ap G W u' z→Calls Tryz.prog 35 #[y,z] W fun e W'=>e = .returned (.bool (t'.same u'))∧Below W.heap.size W W':=
  fun t' ht u' _ W y z a b=>eN F G t' u' y z W a b
 obtain⟨a,cap,rfl,h2,h3,h4⟩:=hy.open;obtain⟨c,cap',rfl,g2,g3,g4⟩:=hz.open;clear hy hz
 cases t with | mk k ts=>cases u with | mk l us=>
 simp only[Ty.kind,Ty.kids] at *;have HC:=fun W (h:Below w.heap.size w W)=>ig _ _ F G ts us _ _ W (h4.below h) (g4.below h) Tryz.call35 IH;have H:=zq HC;clear HC IH;generalize ts.length=n at *;generalize us.length=m at *;unfold Ty.same
 by_cases hk:k=l
 ·subst hk
  go_enter Tryz.func35,Tryz.ntmps35
  go_wp2_with fail
  refine(H.out _ aH).mono ?_;rintro e w1 ⟨rfl,hb1⟩
  go_wp2_with fail
  go_ret
  exact⟨ax (by rw[Ty.sames_all2];simp),al aH hb1⟩
 ·have hkl:(k==l)=false:=by simpa using hk
  clear hk
  go_enter Tryz.func35,Tryz.ntmps35
  go_wp2_with fail
  go_ret
  exact⟨ax (by simp[hkl]),aH⟩
termination_by SizeOf.sizeOf t
decreasing_by exact Ty.kid_lt ht
def dK (F:Nat→Prop)(w:World)(l:List Int)(y:Value):Prop:=∃(a:Option Addr) (cap:Nat),y = .slice a l.length cap∧l.length≤cap∧cap≤maxLen ∧
 (l = []∨∃b off,a=some ⟨b,off,none⟩∧F b∧b<w.heap.size∧∀i (h:i<l.length),w.cell? ⟨b,off+i,none⟩=some (.int .i64 l[i]))
def bI (w:World)(l:List Int)(y:Value)(fp:List Nat):Prop:=∃(a:Option Addr) (cap:Nat),y = .slice a l.length cap∧l.length≤cap∧cap≤maxLen ∧
 ((l = []∧fp = [])∨∃b cs T,a=some ⟨b,0,none⟩∧fp = [b]∧w.heap[b]?=some (.cells cs T (0,0))∧∀i (h:i<l.length),w.cell? ⟨b,i,none⟩=some (.int .i64 l[i]))
theorem dK.move {F G:Nat→Prop}{w w':World}{l:List Int}{y:Value}(h:dK F w l y)(k:bx F G w w'):dK G w' l y:=by
 obtain⟨a,cap,h1,h2,h3,h4⟩:=h;refine⟨a,cap,h1,h2,h3,?_⟩
 rcases h4 with h4 | ⟨b,off,ha,hF,hl,hc⟩
 ·exact .inl h4
 ·exact .inr ⟨b,off,ha,k.sub b hF hl,Nat.lt_of_lt_of_le hl k.size,fun i hi=>(World.cell?_of_block (a:=⟨b,off+i,none⟩) (k.same b hF hl)).trans (hc i hi)⟩
theorem dK.below {F:Nat→Prop}{w w':World}{l:List Int}{y:Value}(h:dK F w l y)(k:Below w.heap.size w w'):dK F w' l y:=h.move (.below k)
theorem bI.lt {w:World}{l:List Int}{y:Value}{fp:List Nat}(h:bI w l y fp) : ∀b∈fp,b<w.heap.size:=by
 obtain⟨a,cap,-,-,-,⟨-,rfl⟩ | ⟨b,cs,T,-,rfl,hb,-⟩⟩:=h
 ·simp
 ·intro x hx;rw[List.mem_singleton] at hx;subst hx;exact(Array.getElem?_eq_some_iff.1 hb).1
theorem bI.ks {w:World}{l:List Int}{y:Value}{fp:List Nat}(h:bI w l y fp) : ∃a n q,y = .slice a n q:=by
 obtain⟨a,cap,rfl,-⟩:=h
 exact⟨a,_,cap,rfl⟩
theorem bI.moveO {w w':World}{l:List Int}{y:Value}{fp:List Nat}(h:bI w l y fp)(k : ∀b∈fp,w'.heap[b]?=w.heap[b]?):bI w' l y fp:=by
 obtain⟨a,cap,h1,h2,h3,h4⟩:=h;refine⟨a,cap,h1,h2,h3,?_⟩
 rcases h4 with h4 | ⟨b,cs,T,ha,rfl,hb,hc⟩
 ·exact .inl h4
 ·have e:=k b (by simp)
  exact .inr ⟨b,cs,T,ha,rfl,e.trans hb,fun i hi=>(World.cell?_of_block (a:=⟨b,i,none⟩) e).trans (hc i hi)⟩
theorem bI.below {w w':World}{l:List Int}{y:Value}{fp:List Nat}(h:bI w l y fp)(k:Below w.heap.size w w'):bI w' l y fp:=h.moveO fun b hb=>k.block b (h.lt b hb)
theorem bI.rep {w:World}{l:List Int}{y:Value}{fp:List Nat}(h:bI w l y fp):dK (· ∈ fp) w l y:=by
 have hlt:=h.lt;obtain⟨a,cap,h1,h2,h3,h4⟩:=h;refine⟨a,cap,h1,h2,h3,?_⟩
 rcases h4 with ⟨h4,-⟩ | ⟨b,cs,T,ha,rfl,hb,hc⟩
 ·exact .inl h4
 ·exact .inr ⟨b,0,ha,by simp,hlt b (by simp),fun i hi=>by rw[Nat.zero_add];exact hc i hi⟩
theorem bI.chg {fp fp':List Nat}{w w':World}{l:List Int}{y:Value}(h:Chg fp w w')(hn : ∀b∈fp',b∉fp)(r:bI w l y fp'):bI w' l y fp':=r.moveO fun b hb=>h.block b (r.lt b hb) (hn b hb)
theorem bI.of_row {w:World}{B n:Nat}{e:TypeId}{l:List Int}{v:Value}(h:w.ownsRow B e 1 v n (l.map (Value.int .i64))) : ∃fp,bI w l v fp∧fp.Nodup∧∀b∈fp,B≤b:=by
 obtain⟨hl,h⟩:=h;have hn:l.length=n:=by simpa using hl
 rcases h with ⟨rfl,rfl⟩ | ⟨g,cap,cur,rfl,hb,hg,hc1,hc2,hs,ht⟩
 ·have:l = []:=List.eq_nil_of_length_eq_zero hn
  subst this
  exact⟨[],⟨none,0,rfl,Nat.le_refl _,Nat.zero_le _,.inl ⟨rfl,rfl⟩⟩,List.nodup_nil,by simp⟩
 ·subst hn
  refine⟨[g],⟨_,cap,rfl,hc1,hc2,.inr ⟨g,cur,e,rfl,rfl,hg,fun i hi=>?_⟩⟩,by simp,by simpa using hb⟩;have h1:(cur.toList.take (l.length*1))[i]?=(l.map (Value.int .i64))[i]?:=by rw[ht]
  rw[List.getElem?_take_of_lt (by omega),Array.getElem?_toList] at h1
  simp[World.cell?,hg,h1,hi]
theorem bI.nilv {w:World}{a:Option Addr}{q:Nat}(hq:q≤maxLen):bI w [] (.slice a 0 q) []:=⟨a,q,rfl,Nat.zero_le _,hq,.inl ⟨rfl,rfl⟩⟩
def RetInts (l:List Int)(w:World)(e:Ending)(w':World):Prop:=∃v,e = .returned v∧(∃fp,bI w' l v fp∧fp.Nodup∧∀b∈fp,w.heap.size≤b)∧Below w.heap.size w w'
theorem dK.at {F:Nat→Prop}{w wr:World}{l:List Int}{a:Option Addr}{n cap:Nat}(h:dK F w l (.slice a n cap))(hb:Below w.heap.size w wr){i:Nat}(hi:i<l.length) :
  ∃b off,a=some ⟨b,off,none⟩∧b<wr.heap.size∧wr.cell? ⟨b,off+i,none⟩=some (.int .i64 l[i]):=by
 obtain⟨a',cap',he,-,-,h4⟩:=h;simp only[Value.slice.injEq] at he;obtain⟨rfl,-,-⟩:=he
 rcases h4 with rfl | ⟨b,off,ha,hF,hl,hc⟩
 ·simp at hi
 ·exact⟨b,off,ha,Nat.lt_of_lt_of_le hl hb.size,af hb (hc i hi)⟩
end Go.Proofs.YtfahhonmiimmdaaGreat
