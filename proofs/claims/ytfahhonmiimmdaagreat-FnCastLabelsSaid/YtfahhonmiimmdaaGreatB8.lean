/- What is left of a law's purse. And what else its parts name. -/
import Derived.Test.YtfahhonmiimmdaaGreatB0
import Derived.Handy
set_option linter.unusedSimpArgs false
set_option linter.unusedVariables false
set_option maxRecDepth 100000
set_option maxHeartbeats 16000000
namespace Go.Proofs.YtfahhonmiimmdaaGreat
open Go.RowKit
mutual
def Ty.same:Ty→Ty→Bool
 | .mk k ts,.mk l us=>k==l&&Ty.sames ts us
def Ty.sames:List Ty→List Ty→Bool
 | [],[]=>true
 | t :: ts,u :: us=>t.same u&&Ty.sames ts us
 | _,_=>false
end
def dA (R:Ty→Ty→Bool):List Ty→List Ty→Bool
 | [],[]=>true
 | t :: ts,u :: us=>R t u&&dA R ts us
 | _,_=>false
theorem iQ (R:Ty→Ty→Bool)(ts us:List Ty)(k:Nat)(h:k<ts.length)(h':k<us.length):dA R (ts.drop k) (us.drop k)=(R ts[k] us[k]&&dA R (ts.drop (k+1)) (us.drop (k+1))):=by
 rw[List.drop_eq_getElem_cons h,List.drop_eq_getElem_cons h'];rfl
theorem kU (R:Ty→Ty→Bool) : ∀(ts us:List Ty),ts.length≠us.length→dA R ts us=false
 | [],[],h=>absurd rfl h
 | [],_ :: _,_=>rfl
 | _ :: _,[],_=>rfl
 | t :: ts,u :: us,h=>by
  have:=kU R ts us (fun e=>h (by simp[e]))
  simp[dA,this]
theorem kT (R:Ty→Ty→Bool)(ts us:List Ty)(k:Nat)(h:ts.length≤k)(h':us.length≤k):dA R (ts.drop k) (us.drop k)=true:=by
 rw[List.drop_eq_nil_of_le h,List.drop_eq_nil_of_le h'];rfl
theorem Ty.sames_all2 : ∀ts us:List Ty,dA Ty.same ts us=Ty.sames ts us
 | [],[]=>by unfold Ty.sames;rfl
 | [],_ :: _=>by unfold Ty.sames;rfl
 | _ :: _,[]=>by unfold Ty.sames;rfl
 | t :: ts,u :: us=>by unfold Ty.sames dA;rw[Ty.sames_all2 ts us]
def eP (t:Ty)(w:World)(e:Ending)(w':World):Prop:=∃v,e = .returned v∧bh w.heap.size w' t v∧Below w.heap.size w w'
def RetTys (ts:List Ty)(w:World)(e:Ending)(w':World):Prop:=∃v,e = .returned v∧bg w.heap.size w' ts v∧Below w.heap.size w w'
theorem Tryz.infoTy:(Tryz.prog.info? 25).map (fun i=>(i.zero,i.size,i.bytes))=some (some (.agg #[.int .i64 0,.slice none 0 0]),2,32):=by kernel_rfl
inductive Tm where
 | mk (kind:Int) (name:ByteArray) (num:Int) (type src:Ty) (label:Int) (kids:List Tm)
def Tm.kind:Tm→Int | .mk k _ _ _ _ _ _=>k
def Tm.name:Tm→ByteArray | .mk _ s _ _ _ _ _=>s
def Tm.num:Tm→Int | .mk _ _ u _ _ _ _=>u
def Tm.type:Tm→Ty | .mk _ _ _ t _ _ _=>t
def Tm.src:Tm→Ty | .mk _ _ _ _ t _ _=>t
def Tm.label:Tm→Int | .mk _ _ _ _ _ l _=>l
def Tm.kids:Tm→List Tm | .mk _ _ _ _ _ _ ts=>ts
mutual
def Tm.row:Tm→List C
 | .mk k s u t f l ts=> [.int k,.str s,.int u,.int t.kind,.sl (Ty.rows t.kids),.int f.kind,.sl (Ty.rows f.kids),.int l,.sl (Tm.rows ts)]
def Tm.rows:List Tm→List (List C)
 | []=> []
 | t :: ts=>t.row :: Tm.rows ts
end
theorem Tm.rows_eq (ts:List Tm):Tm.rows ts=ts.map Tm.row:=by
 induction ts with
 | nil=>rfl
 | cons t ts ih=>unfold Tm.rows;rw[ih];rfl
theorem Tm.rows_length (ts:List Tm):(Tm.rows ts).length=ts.length:=by rw[Tm.rows_eq];simp
theorem Tm.row_length : ∀t:Tm,t.row.length=9 | .mk _ _ _ _ _ _ _=>by unfold Tm.row;rfl
def aN (F:Nat→Prop)(w:World)(ts:List Tm)(y:Value):Prop:=aH F w (.sl (Tm.rows ts)) y
def ax (F:Nat→Prop)(w:World)(t:Tm)(y:Value):Prop:=∃s1 s2 s,y = .agg #[.int .i64 t.kind,.string t.name,.int .i64 t.num,.int .i64 t.type.kind,s1,.int .i64 t.src.kind,s2,.int .i64 t.label,s]∧t.name.size≤maxLen∧aA F w t.type.kids s1∧aA F w t.src.kids s2∧aN F w t.kids s
theorem aN.move {F G:Nat→Prop}{w w':World}{ts:List Tm}{y:Value}(h:aN F w ts y)(k:bl F G w w'):aN G w' ts y:=aH.move k _ _ h
theorem ax.move {F G:Nat→Prop}{w w':World}{t:Tm}{y:Value}(h:ax F w t y)(k:bl F G w w'):ax G w' t y:=
 let ⟨s1,s2,s,h1,h2,h3,h4,h5⟩:=h;⟨s1,s2,s,h1,h2,h3.move k,h4.move k,h5.move k⟩
theorem ax.below {F:Nat→Prop}{w w':World}{t:Tm}{y:Value}(h:ax F w t y)(k:Below w.heap.size w w'):ax F w' t y:=h.move (.below k)
theorem aN.below {F:Nat→Prop}{w w':World}{t:List Tm}{y:Value}(h:aN F w t y)(k:Below w.heap.size w w'):aN F w' t y:=h.move (.below k)
theorem ax.open {F:Nat→Prop}{w:World}{t:Tm}{y:Value}(h:ax F w t y) :
  ∃ta tq fa fq c q,y = .agg #[.int .i64 t.kind,.string t.name,.int .i64 t.num,.int .i64 t.type.kind,.slice ta t.type.kids.length tq,.int .i64 t.src.kind,.slice fa t.src.kids.length fq,.int .i64 t.label,.slice c t.kids.length q]∧t.name.size≤maxLen ∧
   t.kids.length≤q∧q≤maxLen∧ao F w t.type (.agg #[.int .i64 t.type.kind,.slice ta t.type.kids.length tq])∧ao F w t.src (.agg #[.int .i64 t.src.kind,.slice fa t.src.kids.length fq])∧aN F w t.kids (.slice c t.kids.length q):=by
 obtain⟨s1,s2,s,rfl,hn,h1,h2,h3⟩:=h;obtain⟨ta,tq,rfl,-,-,-⟩:=h1.open;obtain⟨fa,fq,rfl,-,-,-⟩:=h2.open;obtain⟨c,q,rfl,h4,h5,-⟩:=aH.rows h3;rw[Tm.rows_length] at h4 h3 ⊢
 exact⟨ta,tq,fa,fq,c,q,rfl,hn,h4,h5,⟨_,rfl,h1⟩,⟨_,rfl,h2⟩,h3⟩
theorem ax.shape {F:Nat→Prop}{w:World}{t:Tm}{y:Value}(h:ax F w t y) : ∃k nm u tk ta tn tq fk fa fn fq l c m q,y = .agg #[.int .i64 k,.string nm,.int .i64 u,.int .i64 tk,.slice ta tn tq,.int .i64 fk,.slice fa fn fq,.int .i64 l,.slice c m q]:=by
 obtain⟨ta,tq,fa,fq,c,q,rfl,_⟩:=h.open
 exact⟨_,_,_,_,ta,_,tq,_,fa,_,fq,_,c,_,q,rfl⟩
theorem aN.shape {F:Nat→Prop}{w:World}{t:List Tm}{y:Value}(h:aN F w t y) : ∃a n q,y = .slice a n q:=by
 obtain⟨a,q,rfl,_⟩:=aH.rows h
 exact⟨a,_,q,rfl⟩
theorem aN.open {F:Nat→Prop}{w:World}{ts:List Tm}{y:Value}(h:aN F w ts y) :
  ∃(a:Option Addr) (cap:Nat),y = .slice a ts.length cap∧ts.length≤cap∧cap≤maxLen ∧
   ∀i (h:i<ts.length),∃b off k nm u tk ta tn tq fk fa fn fq l c m q,a=some ⟨b,off,none⟩∧w.cell? ⟨b,off+i*9,none⟩=some (.int .i64 k)∧w.cell? ⟨b,off+i*9+1,none⟩=some (.string nm)∧w.cell? ⟨b,off+i*9+2,none⟩=some (.int .i64 u)∧w.cell? ⟨b,off+i*9+3,none⟩=some (.int .i64 tk)∧w.cell? ⟨b,off+i*9+4,none⟩=some (.slice ta tn tq)∧w.cell? ⟨b,off+i*9+5,none⟩=some (.int .i64 fk)∧w.cell? ⟨b,off+i*9+6,none⟩=some (.slice fa fn fq)∧w.cell? ⟨b,off+i*9+7,none⟩=some (.int .i64 l)∧w.cell? ⟨b,off+i*9+8,none⟩=some (.slice c m q)∧ax F w ts[i] (.agg #[.int .i64 k,.string nm,.int .i64 u,.int .i64 tk,.slice ta tn tq,.int .i64 fk,.slice fa fn fq,.int .i64 l,.slice c m q]):=by
 obtain⟨a,cap,h1,h2,h3,h4⟩:=aH.rows h;rw[Tm.rows_length] at h1 h2;refine⟨a,cap,h1,h2,h3,fun i hi=>?_⟩
 rcases h4 with h4 | ⟨b,off,ha,hF,hl,hr⟩
 ·rw[←Tm.rows_length,h4] at hi;exact absurd hi (Nat.not_lt_zero _)
 ·have hc:=hr.get (m:=9) (fun r hr=>by rw[Tm.rows_eq] at hr;obtain⟨t,_,rfl⟩:=List.mem_map.1 hr;exact t.row_length) i (by rw[Tm.rows_length];exact hi)
  have he:(Tm.rows ts)[i]'(by rw[Tm.rows_length];exact hi)=ts[i].row:=by simp[Tm.rows_eq]
  rw[he] at hc;obtain⟨k,s,u,t,f,l,ks,ht⟩ : ∃k s u t f l ks,ts[i]=Tm.mk k s u t f l ks:=by cases ts[i];exact⟨_,_,_,_,_,_,_,rfl⟩
  rw[ht] at hc ⊢;unfold Tm.row at hc;unfold aM at hc;obtain⟨⟨y0,hy0,hc0⟩,hc⟩:=hc;unfold aM at hc;obtain⟨⟨y1,hy1,hc1⟩,hc⟩:=hc;unfold aM at hc;obtain⟨⟨y2,hy2,hc2⟩,hc⟩:=hc;unfold aM at hc;obtain⟨⟨y3,hy3,hc3⟩,hc⟩:=hc;unfold aM at hc;obtain⟨⟨y4,hy4,hc4⟩,hc⟩:=hc;unfold aM at hc;obtain⟨⟨y5,hy5,hc5⟩,hc⟩:=hc;unfold aM at hc;obtain⟨⟨y6,hy6,hc6⟩,hc⟩:=hc;unfold aM at hc;obtain⟨⟨y7,hy7,hc7⟩,hc⟩:=hc;unfold aM at hc;obtain⟨⟨y8,hy8,hc8⟩,-⟩:=hc;rw[aH.int_eq hc0] at hy0;obtain⟨rfl,hsz⟩:=aH.str_eq hc1;rw[aH.int_eq hc2] at hy2;rw[aH.int_eq hc3] at hy3;obtain⟨ta,tq,rfl,-⟩:=aH.rows hc4;rw[aH.int_eq hc5] at hy5;obtain⟨fa,fq,rfl,-⟩:=aH.rows hc6;rw[aH.int_eq hc7] at hy7;obtain⟨c,q,rfl,-⟩:=aH.rows hc8
  exact⟨b,off,k,s,u,t.kind,ta,_,tq,f.kind,fa,_,fq,l,c,_,q,ha,hy0,hy1,hy2,hy3,hy4,hy5,hy6,hy7,hy8,_,_,_,rfl,hsz,hc4,hc6,hc8⟩
theorem aN.at {F:Nat→Prop}{w wr:World}{ts:List Tm}{a:Option Addr}{n cap:Nat}(h:aN F w ts (.slice a n cap))(hb:Below w.heap.size w wr){i:Nat}(hi:i<ts.length) :
  ∃b off k nm u tk ta tn tq fk fa fn fq l c m q,a=some ⟨b,off,none⟩∧b<wr.heap.size∧wr.cell? ⟨b,off+i*9,none⟩=some (.int .i64 k)∧wr.cell? ⟨b,off+i*9+1,none⟩=some (.string nm)∧wr.cell? ⟨b,off+i*9+2,none⟩=some (.int .i64 u)∧wr.cell? ⟨b,off+i*9+3,none⟩=some (.int .i64 tk)∧wr.cell? ⟨b,off+i*9+4,none⟩=some (.slice ta tn tq)∧wr.cell? ⟨b,off+i*9+5,none⟩=some (.int .i64 fk)∧wr.cell? ⟨b,off+i*9+6,none⟩=some (.slice fa fn fq)∧wr.cell? ⟨b,off+i*9+7,none⟩=some (.int .i64 l)∧wr.cell? ⟨b,off+i*9+8,none⟩=some (.slice c m q)∧ax F wr ts[i] (.agg #[.int .i64 k,.string nm,.int .i64 u,.int .i64 tk,.slice ta tn tq,.int .i64 fk,.slice fa fn fq,.int .i64 l,.slice c m q]):=by
 obtain⟨a',cap',he,_,_,hg⟩:=h.open;simp only[Value.slice.injEq] at he;obtain⟨rfl,_,rfl⟩:=he;obtain⟨b,off,k,nm,u,tk,ta,tn,tq,fk,fa,fn,fq,l,c,m,q,ha,h0,h1,h2,h3,h4,h5,h6,h7,h8,ht⟩:=hg i hi;have e0:=ah hb h0
 exact⟨b,off,k,nm,u,tk,ta,tn,tq,fk,fa,fn,fq,l,c,m,q,ha,World.block_lt_of_cell? wr _ e0,e0,ah hb h1,ah hb h2,ah hb h3,ah hb h4,ah hb h5,ah hb h6,ah hb h7,ah hb h8,ht.below hb⟩
theorem ax.parts {F:Nat→Prop}{w:World}{t:Tm}{k u tk fk l:Int}{nm:ByteArray}{ta fa c:Option Addr}{tn tq fn fq m q:Nat}(h:ax F w t (.agg #[.int .i64 k,.string nm,.int .i64 u,.int .i64 tk,.slice ta tn tq,.int .i64 fk,.slice fa fn fq,.int .i64 l,.slice c m q])) :
  k=t.kind∧nm=t.name∧u=t.num∧tk=t.type.kind∧tn=t.type.kids.length∧fk=t.src.kind∧fn=t.src.kids.length∧l=t.label∧m=t.kids.length∧nm.size≤maxLen∧m≤q∧q≤maxLen ∧
   ao F w t.type (.agg #[.int .i64 tk,.slice ta tn tq])∧ao F w t.src (.agg #[.int .i64 fk,.slice fa fn fq])∧aN F w t.kids (.slice c m q):=by
 obtain⟨ta',tq',fa',fq',c',q',he,hn,h4,h5,h6,h7,h8⟩:=h.open;simp only[Value.agg.injEq,Array.mk.injEq,List.cons.injEq,Value.int.injEq,Value.string.injEq,Value.slice.injEq,true_and,and_true] at he;obtain⟨rfl,rfl,rfl,rfl,⟨rfl,rfl,rfl⟩,rfl,⟨rfl,rfl,rfl⟩,rfl,⟨rfl,rfl,rfl⟩⟩:=he
 exact⟨rfl,rfl,rfl,rfl,rfl,rfl,rfl,rfl,rfl,hn,h4,h5,h6,h7,h8⟩
theorem Tm.kid_lt {t:Tm}{x:Tm}(h:x∈t.kids):SizeOf.sizeOf x<SizeOf.sizeOf t:=by
 cases t with
 | mk k s u t f l ts=>have:=List.sizeOf_lt_of_mem h;simp only[Tm.kids] at h this;simp;omega
mutual
def Tm.cnt:Tm→Nat
 | .mk _ s _ t f _ ts=>s.size+t.cnt+f.cnt+(ts.length+Tm.cnts ts)
def Tm.cnts:List Tm→Nat
 | []=>0
 | t :: ts=>t.cnt+Tm.cnts ts
end
theorem Tm.cnts_take_succ : ∀(ts:List Tm) (j:Nat) (h:j<ts.length),Tm.cnts (ts.take (j+1))=Tm.cnts (ts.take j)+ts[j].cnt
 | [],_,h=>absurd h (Nat.not_lt_zero _)
 | t :: ts,0,_=>by simp[Tm.cnts]
 | t :: ts,j+1,h=>by
  have:=Tm.cnts_take_succ ts j (by simpa using h);simp only[List.take_succ_cons,Tm.cnts,List.getElem_cons_succ]
  omega
theorem Tm.cnts_take_le : ∀(ts:List Tm) (j:Nat),Tm.cnts (ts.take j)≤Tm.cnts ts
 | [],_=>by simp
 | t :: ts,0=>by simp[Tm.cnts]
 | t :: ts,j+1=>by
  have:=Tm.cnts_take_le ts j;simp only[List.take_succ_cons,Tm.cnts]
  omega
theorem Tm.cnt_mem : ∀ {ts:List Tm} {t:Tm},t∈ts→t.cnt≤Tm.cnts ts
 | u :: ts,t,h=>by
  rcases List.mem_cons.1 h with rfl | h
  ·simp only[Tm.cnts];omega
  ·have:=Tm.cnt_mem h;simp only[Tm.cnts];omega
theorem Tm.cnt_parts (t:Tm):t.cnt=t.name.size+t.type.cnt+t.src.cnt+(t.kids.length+Tm.cnts t.kids):=by
 cases t with | mk k s u t f l ts=>simp only[Tm.cnt,Tm.name,Tm.type,Tm.src,Tm.kids]
theorem Tm.cnt_kid {t x:Tm}(h:x∈t.kids):x.cnt+t.kids.length≤t.cnt:=by
 have h1:=Tm.cnt_mem h;have h2:=t.cnt_parts
 omega
theorem Ty.shapes_mem : ∀ {ts:List Ty} {d:Int} {t:Ty},Ty.shapes ts d=true→t∈ts→t.shape d=true
 | u :: ts,d,t,h,ht=>by
  unfold Ty.shapes at h;simp only[Bool.and_eq_true] at h
  rcases List.mem_cons.1 ht with rfl | ht
  ·exact h.1
  ·exact Ty.shapes_mem h.2 ht
theorem lf (k:Int):bx k≤2:=by unfold bx;split;omega;split<;>omega
mutual
theorem Ty.cnt_shape : ∀(t:Ty) (n:Nat),t.shape n=true→t.cnt+2≤2 ^ n
 | .mk k ts,n,h=>by
  obtain⟨h1,h2,h3⟩:=Ty.shape_mk h;obtain⟨m,rfl⟩ : ∃m,n=m+1:=⟨n-1,by omega⟩
  rw[show((m+1:Nat):Int)-1=(m:Int) from by omega] at h3;have h4:=Ty.cnts_shape ts m h3;have h5:=lf k;unfold Ty.cnt;have:2 ^ (m+1)=2*2 ^ m:=by rw[Nat.pow_succ];omega
  have h6:ts.length=0∨ts.length=1∨ts.length=2:=by omega
  have h7:1≤2 ^ m:=Nat.one_le_two_pow
  rcases h6 with h6 | h6 | h6<;>rw[h6] at h4 ⊢ <;> omega
theorem Ty.cnts_shape : ∀(ts:List Ty) (n:Nat),Ty.shapes ts n=true→Ty.cnts ts+2*ts.length≤ts.length*2 ^ n
 | [],_,_=>by simp[Ty.cnts]
 | t :: ts,n,h=>by
  unfold Ty.shapes at h;simp only[Bool.and_eq_true] at h;have h1:=Ty.cnt_shape t n h.1;have h2:=Ty.cnts_shape ts n h.2;simp only[Ty.cnts,List.length_cons,Nat.add_mul]
  omega
end
theorem Ty.cnt_valid {t:Ty}(h:t.valid=true):t.cnt≤1048576:=by
 have:=Ty.cnt_shape t 4 h
 omega
theorem bg.nil (B:Nat)(w:World):bg B w [] (.slice none 0 0):=⟨[],aF.sl_nil (by unfold maxLen;omega),List.nodup_nil,by simp⟩
theorem cZ (w:World):Calls Tryz.prog 50 #[] w (eP (.mk 1 []) w):=by
 go_enter Tryz.func50,Tryz.ntmps50
 go_wp2_with fail
 refine bodyPost_ret (v:=.agg #[.int .i64 1,.slice none 0 0]) (by simp[results,Tryz.results50,go_sem]) rfl ?_
 exact⟨_,rfl,bh.mono (bg.ty (bg.nil _ _)) (Nat.le_refl _),ai⟩
theorem bg.two {B:Nat}{w w':World}{t u:Ty}{k1 k2:Int}{s1 s2:Value}{T:TypeId}{f1 f2:List Nat}(h1:bf w t.row [.int .i64 k1,s1] f1)(h2:bf w u.row [.int .i64 k2,s2] f2)(hd:(f1++f2).Nodup)(hB : ∀b∈f1++f2,B≤b)(hBw:B≤w.heap.size)
  (hk:Below w.heap.size w w') (hh:w'.heap[w.heap.size]?=some (.cells #[.int .i64 k1,s1,.int .i64 k2,s2] T (0,0))):bg B w' [t,u] (.slice (some ⟨w.heap.size,0,none⟩) 2 2):=by
 have hr:b5 w (Ty.rows [t,u]) [.int .i64 k1,s1,.int .i64 k2,s2] (f1++f2):=by
  unfold Ty.rows;refine⟨[_,_],[_,_],f1,f2,rfl,rfl,h1,?_⟩;unfold Ty.rows;refine⟨[_,_],[],f2,[],rfl,by simp,h2,?_⟩;unfold Ty.rows
  exact⟨rfl,rfl⟩
 have hlt:=b5.lt _ _ _ hr;have hr':=hr.move _ _ _ fun b hb=>hk.block b (hlt b hb);have ho:aG w' w.heap.size 0 (Ty.rows [t,u]) (f1++f2):=hr'.rows _ _ _ 0 (fun i hi=>by
   simp only[World.cell?,hh]
   simp)
 obtain⟨fp,k1,k2,k3⟩:=aF.sl_mk (n:=2) (cap:=2) hh (by rw[Ty.rows_length];rfl) (Nat.le_refl _) (by unfold maxLen;omega) ho
 exact⟨fp,k1,k3 hd (fun h=>by have:=hlt _ h;omega),fun b hb=>by rcases k2 b hb with rfl | hb;exact hBw;exact hB b hb⟩
def aJ (s:ByteArray):Bool:=if h:s.size=1 then decide ((97:Int)≤((s[0]'(by omega)).toNat:Int))&&decide (((s[0]'(by omega)).toNat:Int)≤122) else false
theorem kV {s:ByteArray}(h : ¬s.size=1):aJ s=false:=by unfold aJ;rw[dif_neg h]
theorem nY {s:ByteArray}(h:s.size=1)(hp:0<s.size):aJ s=(decide ((97:Int)≤((s[0]'hp).toNat:Int))&&decide (((s[0]'hp).toNat:Int)≤122)):=by unfold aJ;rw[dif_pos h]
theorem uw (s:ByteArray)(w:World):Calls Tryz.prog 94 #[.string s] w fun e w'=>e = .returned (.bool (aJ s))∧w=w':=by
 by_cases h1:s.size=1
 ·have hp:0<s.size:=by omega
  have HN:=zq (nY h1 hp);have hi:((s.size:Int)==1)=true:=by simp[h1]
  have hp':(0:Int)<(s.size:Int):=by omega
  by_cases hA:(97:Int)≤((s[0]'hp).toNat:Int)
  ·have hA':decide ((97:Int)≤((s[0]'hp).toNat:Int))=true:=decide_eq_true hA
   go_enter Tryz.func94,Tryz.ntmps94
   go_wp2_with fail
   go_ret
   exact⟨au (by rw[HN.out,hA'];rfl),rfl⟩
  ·have hA':decide ((97:Int)≤((s[0]'hp).toNat:Int))=false:=decide_eq_false hA
   go_enter Tryz.func94,Tryz.ntmps94
   go_wp2_with fail
   go_ret
   exact⟨au (by rw[HN.out,hA'];rfl),rfl⟩
 ·have HN:=zq (kV h1)
  have hi:((s.size:Int)==1)=false:=by simp;omega
  clear h1
  go_enter Tryz.func94,Tryz.ntmps94
  go_wp2_with fail
  go_ret
  exact⟨au HN.out.symm,rfl⟩
theorem lQ (s:ByteArray)(w:World):Calls Tryz.prog 105 #[.string s] w fun e w'=>e = .returned (.bool (aJ s))∧w=w':=by
 by_cases h1:s.size=1
 ·have hp:0<s.size:=by omega
  have HN:=zq (nY h1 hp);have hi:((s.size:Int)==1)=true:=by simp[h1]
  have hp':(0:Int)<(s.size:Int):=by omega
  by_cases hA:(97:Int)≤((s[0]'hp).toNat:Int)
  ·have hA':decide ((97:Int)≤((s[0]'hp).toNat:Int))=true:=decide_eq_true hA
   go_enter Tryz.func105,Tryz.ntmps105
   go_wp2_with fail
   go_ret
   exact⟨au (by rw[HN.out,hA'];rfl),rfl⟩
  ·have hA':decide ((97:Int)≤((s[0]'hp).toNat:Int))=false:=decide_eq_false hA
   go_enter Tryz.func105,Tryz.ntmps105
   go_wp2_with fail
   go_ret
   exact⟨au (by rw[HN.out,hA'];rfl),rfl⟩
 ·have HN:=zq (kV h1)
  have hi:((s.size:Int)==1)=false:=by simp;omega
  clear h1
  go_enter Tryz.func105,Tryz.ntmps105
  go_wp2_with fail
  go_ret
  exact⟨au HN.out.symm,rfl⟩
theorem oW (g:FuncId)(R:Ty→Ty→Bool)(F G:Nat→Prop)(ts us:List Ty)(ys zs:Value)(w:World)(hy:aA F w ts ys)(hz:aA G w us zs)
  (hcf : ∀xs W,(callFunc g xs).run Tryz.prog W = .ok (.enter g xs) W)
  (hg : ∀t∈ts,∀u∈us,∀(W:World) (y z:Value),ao F W t y→ao G W u z→Calls Tryz.prog g #[y,z] W fun e W'=>e = .returned (.bool (R t u))∧Below W.heap.size W W') :
  Calls Tryz.prog 44 #[ys,zs,.func (.func g) #[] #[]] w fun e w'=>e = .returned (.bool (dA R ts us))∧Below w.heap.size w w':=by
 have HG:=zq hg;clear hg;obtain⟨a,cap,rfl,h2,h3,h4⟩:=hy.open;obtain⟨c,cap',rfl,g2,g3,g4⟩:=hz.open;have H4:=zq h4;have G4:=zq g4;clear h4 g4 hy hz;unfold maxLen at h3 g3
 by_cases hl:ts.length=us.length
 ·obtain⟨n,hn⟩ : ∃n,ts.length=n:=⟨_,rfl⟩
  rw[hn] at hl h2;rw[←hl] at g2;have HN:=zq hn;have HL:=zq hl;rw[hn,←hl];clear hn hl
  go_enter Tryz.func44,Tryz.ntmps44
  go_wp2_with fail
  go_loopw [17] (fun i wr=>∃k:Nat,k≤n∧i = .int .i64 k∧Below w.heap.size w wr∧Hid (dA R ts us=dA R (ts.drop k) (us.drop k))) (fun i _=>n-(intOf i).toNat)
  case atStart=>exact⟨0,by omega,rfl,Below.refl _ _,rfl⟩
  case round=>
   obtain⟨k,hk,rfl,hbw,hR⟩:=hrel
   by_cases hlt:k<n
   ·obtain⟨b,off,k0,a0,m0,q0,rfl,c0,c1,ht⟩:=H4.out k (by rw[HN.out];exact hlt)
    obtain⟨b',off',k0',a0',m0',q0',rfl,c0',c1',hu⟩:=G4.out k (by rw[←HL.out];exact hlt);have e0:=(hbw.cell (p:=⟨b,off+k*2,none⟩) (World.block_lt_of_cell? w _ c0)).trans c0;have e1:=(hbw.cell (p:=⟨b,off+k*2+1,none⟩) (World.block_lt_of_cell? w _ c1)).trans c1;have e0':=(hbw.cell (p:=⟨b',off'+k*2,none⟩) (World.block_lt_of_cell? w _ c0')).trans c0';have e1':=(hbw.cell (p:=⟨b',off'+k*2+1,none⟩) (World.block_lt_of_cell? w _ c1')).trans c1';clear c0 c1 c0' c1';have l0:=World.block_lt_of_cell? wr _ e0;have l0':=World.block_lt_of_cell? wr _ e0';have hkt:k<ts.length:=by rw[HN.out];exact hlt
    have hku:k<us.length:=by rw[←HL.out];exact hlt
    have hcall:=HG.out ts[k] (List.getElem_mem hkt) us[k] (List.getElem_mem hku);have hstep:=hR.out.trans (iQ R ts us k hkt hku);generalize R ts[k] us[k]=r at hcall hstep;have HC:=zq hcall;have HS:=zq hstep;clear hcall hstep hR
    cases r
    all_goals
     go_wp2_with fail
     refine(HC.out _ _ _ (ht.below (aj hbw aT)) (hu.below (aj hbw aT))).mono ?_;rintro e w1 ⟨rfl,hb1⟩
     go_wp2_with fail
    ·go_ret
     exact⟨au (by rw[HS.out];rfl),aj (aj hbw aT) hb1⟩
    ·go_roundw
     case rel=>exact⟨k+1,by omega,by go_num,aj (aj hbw aT) hb1,by rw[Hid,HS.out];rfl⟩
     case measure=>simp[intOf];omega
   ·go_wp2_with fail
    go_ret
    exact⟨au (by rw[hR.out,kT _ _ _ _ (by rw[HN.out];omega) (by rw[←HL.out];omega)]),hbw⟩
 ·have HL:=zq hl
  go_enter Tryz.func44,Tryz.ntmps44
  go_wp2_with fail
  go_ret
  exact⟨au (kU R ts us HL.out).symm,Below.refl _ _⟩
mutual
def Ty.any:Ty→Nat
 | .mk k ts=>if k=1 then 1 else Ty.anys ts
def Ty.anys:List Ty→Nat
 | []=>0
 | t :: ts=>t.any+Ty.anys ts
end
end Go.Proofs.YtfahhonmiimmdaaGreat
