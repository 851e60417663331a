/- Worlds that differ in few blocks. And what else its parts name. -/
import Derived.Test.YtfhglkmjibjjoaaB2
import Derived.Handy
import Derived.Deep.RegionHeld3
set_option linter.unusedSimpArgs false
set_option linter.unusedVariables false
set_option maxRecDepth 100000
set_option maxHeartbeats 16000000
namespace Go.Proofs.Ytfhglkmjibjjoaa
open Go.RowKit
structure Chg (fp:List Nat) (w w':World):Prop where
 os:w'.os=w.os
 tape:w'.tape=w.tape
 output:w'.output=w.output
 size:w.heap.size<=w'.heap.size
 block : ∀k,k<w.heap.size->k∉fp->w'.heap[k]?=w.heap[k]?
theorem Chg.of_below {fp:List Nat}{w w':World}(h:Below w.heap.size w w'):Chg fp w w':=⟨h.os,h.tape,h.output,h.size,fun k hk _=>h.block k hk⟩
theorem Chg.refl (fp:List Nat)(w:World):Chg fp w w:=.of_below (Below.refl _ _)
theorem Chg.trans {fp:List Nat}{w w1 w2:World}(h:Chg fp w w1)(k:Chg fp w1 w2):Chg fp w w2:=
 ⟨k.os.trans h.os,k.tape.trans h.tape,k.output.trans h.output,Nat.le_trans h.size k.size,fun b hb hn=>(k.block b (Nat.lt_of_lt_of_le hb h.size) hn).trans (h.block b hb hn)⟩
theorem Chg.mono {fp fp':List Nat}{w w':World}(h:Chg fp w w')(hs : ∀x∈fp,x∈fp'):Chg fp' w w':=
 ⟨h.os,h.tape,h.output,h.size,fun b hb hn=>h.block b hb (fun hx=>hn (hs b hx))⟩
theorem Chg.setCell {fp:List Nat}{w w':World}(h:Chg fp w w'){p:Addr}(hp:p.block∈fp)(v:Value):Chg fp w (w'.setCell p v):=
 ⟨h.os,h.tape,h.output,by simpa [World.setCell] using h.size,fun b hb hn=>(Below.heap_setCell w' p v b (fun e=>hn (e▸hp))).trans (h.block b hb hn)⟩
theorem Chg.below {fp:List Nat}{w w':World}{B:Nat}(h:Chg fp w w')(hB : ∀x∈fp,B<=x)(hs:B<=w.heap.size):Below B w w':=
 ⟨h.os,h.tape,h.output,h.size,fun k hk=>h.block k (by omega) (fun hx=>by have:=hB k hx;omega)⟩
theorem Chg.cell {fp:List Nat}{w w':World}{a:Addr}{v:Value}(h:Chg fp w w')(hn:a.block∉fp)(hc:w.cell? a=some v):w'.cell? a=some v:=
 (World.cell?_of_block (h.block a.block (World.block_lt_of_cell? _ _ hc) hn)).trans hc
theorem Chg.keeps {fp:List Nat}{w w':World}{F:Nat->Prop}(h:Chg fp w w')(hn : ∀b,F b->b∉fp):bU F F w w':=
 ⟨h.size,fun _ h _=>h,fun b hF hl=>h.block b hl (hn b hF)⟩
theorem ai.chg {fp:List Nat}{w w':World}{F:Nat->Prop}{t:Ty}{y:Value}(h:Chg fp w w')(hn : ∀b,F b->b∉fp)(r:ai F w t y):ai F w' t y:=r.move (h.keeps hn)
theorem Chg.cellne {r:Nat}{w w':World}{a:Addr}{v:Value}(h:Chg [r] w w')(hn:a.block≠r)(hc:w.cell? a=some v):w'.cell? a=some v:=h.cell (by simpa using hn) hc
theorem Chg.frone {r b o:Nat}{w w':World}(h:Chg [r] w w')(hn:b≠r)(hl:b<w.heap.size):w'.frozen? ⟨b,o,none⟩=w.frozen? ⟨b,o,none⟩:=World.frozen?_of_block (a:=⟨b,o,none⟩) (h.block b hl (by simpa using hn))
theorem aH {r b o:Nat}{w w1:World}{v:Value}(h:Chg [r] w w1)(hn:b≠r)(hc:w.cell? ⟨b,o,none⟩=some v):w1.cell? ⟨b,o,none⟩=some v:=h.cellne hn hc
theorem aO {r b o:Nat}{w w1:World}{v:Value}(h:Chg [r] w w1)(hn:b≠r)(hc:w.cell? ⟨b,o,none⟩=some v)(hf:w.frozen? ⟨b,o,none⟩=false):w1.frozen? ⟨b,o,none⟩=false:=
 (h.frone hn (World.block_lt_of_cell? _ _ hc)).trans hf
theorem bchg {B r:Nat}{w w1 w2:World}(h:Below B w w1)(k:Chg [r] w1 w2)(hr:B<=r)(hw:B<=w.heap.size):Below B w w2:=
 ⟨k.os.trans h.os,k.tape.trans h.tape,k.output.trans h.output,Nat.le_trans h.size k.size,fun b hb=>(k.block b (Nat.lt_of_lt_of_le (Nat.lt_of_lt_of_le hb hw) h.size) (by simp;omega)).trans (h.block b hb)⟩
theorem Chg.trans' {r:Nat}{w w':World}(h:Chg [r] w w'){p:Addr}(hp:w.heap.size<=p.block)(v:Value):Chg [r] w (w'.setCell p v):=
 ⟨h.os,h.tape,h.output,by simpa [World.setCell] using h.size,fun b hb hn=>(Below.heap_setCell w' p v b (by omega)).trans (h.block b hb hn)⟩
theorem ai.chgA {r:Nat}{w w':World}{t:Ty}{y:Value}(h:ai (· ≠ r) w t y)(k:Chg [r] w w'):ai (· ≠ r) w' t y:=ai.chg k (fun b hb=>by simpa using hb) h
theorem av.chgA {r:Nat}{w w':World}{t:List Ty}{y:Value}(h:av (· ≠ r) w t y)(k:Chg [r] w w'):av (· ≠ r) w' t y:=h.move (k.keeps (fun b hb=>by simpa using hb))
mutual
def Ty.same:Ty->Ty->Bool
 | .mk k ts,.mk l us=>k==l&&Ty.sames ts us
def Ty.sames:List Ty->List Ty->Bool
 | [],[]=>true
 | t::ts,u::us=>t.same u&&Ty.sames ts us
 | _,_=>false
end
def de (R:Ty->Ty->Bool):List Ty->List Ty->Bool
 | [],[]=>true
 | t::ts,u::us=>R t u&&de R ts us
 | _,_=>false
theorem fz (R:Ty->Ty->Bool)(ts us:List Ty)(k:Nat)(h:k<ts.length)(h':k<us.length):de R (ts.drop k) (us.drop k)=(R ts[k] us[k]&&de R (ts.drop (k+1)) (us.drop (k+1))):=by
 rw[List.drop_eq_getElem_cons h,List.drop_eq_getElem_cons h'];rfl
theorem ip (R:Ty->Ty->Bool) : ∀(ts us:List Ty),ts.length≠us.length->de R ts us=false
 | [],[],h=>absurd rfl h
 | [],_::_,_=>rfl
 | _::_,[],_=>rfl
 | t::ts,u::us,h=>by
  have:=ip R ts us (fun e=>h (by simp[e]))
  simp[de,this]
theorem io (R:Ty->Ty->Bool)(ts us:List Ty)(k:Nat)(h:ts.length<=k)(h':us.length<=k):de R (ts.drop k) (us.drop k)=true:=by
 rw[List.drop_eq_nil_of_le h,List.drop_eq_nil_of_le h'];rfl
theorem Ty.sames_all2 : ∀ts us:List Ty,de Ty.same ts us=Ty.sames ts us
 | [],[]=>by unfold Ty.sames;rfl
 | [],_::_=>by unfold Ty.sames;rfl
 | _::_,[]=>by unfold Ty.sames;rfl
 | t::ts,u::us=>by unfold Ty.sames de;rw[Ty.sames_all2 ts us]
def cJ (t:Ty)(w:World)(e:Ending)(w':World):Prop:=∃v,e = .returned v∧bp w.heap.size w' t v∧Below w.heap.size w w'
theorem Try.infoTy:(Try.prog.info? 25).map (fun i=>(i.zero,i.size,i.bytes))=some (some (.agg #[.int .i64 0,.slice none 0 0]),2,32):=by kernel_rfl
theorem aK.split {w:World}{b:Nat} : ∀ {off:Nat} {r1 r2:List (List C)} {r:List C} {fp:List Nat},aK w b off (r1++r::r2) fp ->
  ∃f1 f f2,fp=f1++(f++f2)∧aK w b off r1 f1∧bj w b (off+r1.flatten.length) r f∧aK w b (off+r1.flatten.length+r.length) r2 f2
 | off,[],r2,r,fp,h=>by
  simp only[List.nil_append] at h;unfold aK at h;obtain⟨f1,f2,rfl,h1,h2⟩:=h
  exact⟨[],f1,f2,rfl,by unfold aK;rfl,by simpa using h1,by simpa using h2⟩
 | off,x::r1,r2,r,fp,h=>by
  simp only[List.cons_append] at h;unfold aK at h;obtain⟨g1,g2,rfl,h1,h2⟩:=h;obtain⟨f1,f,f2,rfl,k1,k2,k3⟩:=aK.split h2;refine⟨g1++f1,f,f2,by simp,?_,?_,?_⟩
  ·unfold aK;exact⟨g1,f1,rfl,h1,k1⟩
  ·rw[List.flatten_cons,List.length_append,<-Nat.add_assoc];exact k2
  ·rw[List.flatten_cons,List.length_append,<-Nat.add_assoc];exact k3
theorem aK.join {w:World}{b:Nat} : ∀ {off:Nat} {r1 r2:List (List C)} {r:List C} {f1 f f2:List Nat},aK w b off r1 f1->bj w b (off+r1.flatten.length) r f->aK w b (off+r1.flatten.length+r.length) r2 f2 ->
  aK w b off (r1++r::r2) (f1++(f++f2))
 | off,[],r2,r,f1,f,f2,h,h1,h2=>by
  unfold aK at h;subst h;simp only[List.nil_append];unfold aK
  exact⟨f,f2,rfl,by simpa using h1,by simpa using h2⟩
 | off,x::r1,r2,r,f1,f,f2,h,h1,h2=>by
  unfold aK at h;obtain⟨g1,g2,rfl,k1,k2⟩:=h;rw[List.flatten_cons,List.length_append,<-Nat.add_assoc] at h1 h2;simp only[List.cons_append];unfold aK
  exact⟨g1,g2++(f++f2),by simp,k1,aK.join k2 h1 h2⟩
theorem Ty.rows_append (a b:List Ty):Ty.rows (a++b)=Ty.rows a++Ty.rows b:=by simp[Ty.rows_eq]
theorem Ty.rows_cons (t:Ty)(b:List Ty):Ty.rows (t::b)=t.row::Ty.rows b:=by conv=>lhs;unfold Ty.rows
def iO (w:World)(b:Nat)(ts:List Ty)(fps:List Nat):Prop:=(∃cs T,w.heap[b]?=some (.cells cs T (0,0)))∧aK w b 0 (Ty.rows ts) fps∧fps.Nodup∧b∉fps
theorem iO.row {w:World}{b:Nat}{ts1 ts2:List Ty}{t:Ty}{fps:List Nat}(h:iO w b (ts1++t::ts2) fps) :
  ∃f1 f f2 s,fps=f1++(f++f2)∧aK w b 0 (Ty.rows ts1) f1∧aK w b (ts1.length*2+2) (Ty.rows ts2) f2∧w.cell? ⟨b,ts1.length*2,none⟩=some (.int .i64 t.kind)∧w.cell? ⟨b,ts1.length*2+1,none⟩=some s∧iP w t.kids s f:=by
 obtain⟨_,hr,_,_⟩:=h;rw[Ty.rows_append,Ty.rows_cons] at hr;obtain⟨f1,f,f2,rfl,h1,h2,h3⟩:=aK.split hr;rw[Ty.flatten_length,Nat.zero_add] at h2 h3;rw[Ty.row_length] at h3
 cases t with | mk k us=>
 unfold Ty.row bj at h2;obtain⟨y,g1,g2,rfl,hy,k1,k2⟩:=h2;unfold aQ at k1;obtain⟨rfl,rfl⟩:=k1;unfold bj at k2;obtain⟨y',g3,g4,rfl,hy',k3,k4⟩:=k2;unfold bj at k4;subst k4
 exact⟨f1,g3,f2,y',by simp,h1,h3,hy,hy',k3⟩
theorem iO.step {w w':World}{b:Nat}{ts1 ts2 us':List Ty}{t:Ty}{k:Int}{f1 f f2:List Nat}{s:Value}(h:iO w b (ts1++t::ts2) (f1++(f++f2)))(h1:aK w b 0 (Ty.rows ts1) f1)(h2:aK w b (ts1.length*2+2) (Ty.rows ts2) f2)
  (hs0:w.cell? ⟨b,ts1.length*2,none⟩=some (.int .i64 t.kind)) (hs:w.cell? ⟨b,ts1.length*2+1,none⟩=some s) (hc:Chg f (w.setCell ⟨b,ts1.length*2,none⟩ (.int .i64 k)) w') (hk:iP w' us' s f):iO w' b (ts1++Ty.mk k us' :: ts2) (f1++(f++f2)):=by
 obtain⟨⟨cs,T,hb⟩,_,hd,hn⟩:=h;simp only[List.mem_append,not_or] at hn;have hbl:=(Array.getElem?_eq_some_iff.1 hb).1;have hsz:(w.setCell ⟨b,ts1.length*2,none⟩ (.int .i64 k)).heap.size=w.heap.size:=by simp[World.setCell]
 have hb1:w'.heap[b]?=some (.cells (cs.setIfInBounds (ts1.length*2) (.int .i64 k)) T (0,0)):=(hc.block b (by omega) hn.2.1).trans (cR hb);rw[List.nodup_append,List.nodup_append] at hd;obtain⟨d1,⟨d2,d3,d23⟩,d123⟩:=hd;have old : ∀x,x<w.heap.size->x≠b->x∉f->w'.heap[x]?=w.heap[x]?:=fun x hx hxb hxf=>
  (hc.block x (by omega) hxf).trans (Below.heap_setCell w ⟨b,_,none⟩ _ x hxb)
 have cell : ∀o,o≠ts1.length*2->w'.cell? ⟨b,o,none⟩=w.cell? ⟨b,o,none⟩:=fun o ho=>by
  simp only[World.cell?,hb1,hb]
  simp
  rw[Array.getElem?_setIfInBounds_ne (by omega)]
 have hl':ts1.length*2<cs.size:=by
  simp only[World.cell?,hb] at hs0
  simp at hs0
  exact(Array.getElem?_eq_some_iff.1 hs0).1
 refine⟨⟨_,T,hb1⟩,?_,?_,?_⟩
 ·rw[Ty.rows_append,Ty.rows_cons]
  refine aK.join ?_ ?_ ?_
  ·exact h1.move _ _ _ (fun x hx=>old x (h1.lt _ _ _ x hx) (fun e=>hn.1 (e▸hx)) (fun hf=>d123 x hx x (List.mem_append_left _ hf) rfl)) (fun o _ ho=>cell o (by rw[Ty.flatten_length] at ho;omega))
  ·rw[Ty.flatten_length,Nat.zero_add]
   unfold Ty.row bj;refine⟨_,[],f,by simp,?_,by unfold aQ;exact⟨rfl,rfl⟩,?_⟩
   ·simp only[World.cell?,hb1]
    simp
    rw[Array.getElem?_setIfInBounds_self]
    simp;omega
   ·unfold bj
    exact⟨s,f,[],by simp,(cell _ (by omega)).trans hs,hk,by unfold bj;rfl⟩
  ·rw[Ty.flatten_length,Ty.row_length,Nat.zero_add]
   exact h2.move _ _ _ (fun x hx=>old x (h2.lt _ _ _ x hx) (fun e=>hn.2.2 (e▸hx)) (fun hf=>d23 x hf x hx rfl)) (fun o ho _=>cell o (by omega))
 ·rw[List.nodup_append,List.nodup_append];exact⟨d1,⟨d2,d3,d23⟩,d123⟩
 ·simp only[List.mem_append,not_or];exact hn
def aI (s:ByteArray):Bool:=if h:s.size=1 then decide ((97:Int)<=((s[0]'(by omega)).toNat:Int))&&decide (((s[0]'(by omega)).toNat:Int)<=122) else false
theorem iq {s:ByteArray}(h : ¬s.size=1):aI s=false:=by unfold aI;rw[dif_neg h]
theorem ka {s:ByteArray}(h:s.size=1)(hp:0<s.size):aI s=(decide ((97:Int)<=((s[0]'hp).toNat:Int))&&decide (((s[0]'hp).toNat:Int)<=122)):=by unfold aI;rw[dif_pos h]
theorem nL (s:ByteArray)(w:World):Calls Try.prog 64 #[.string s] w fun e w'=>e = .returned (.bool (aI s))∧w=w':=by
 by_cases h1:s.size=1
 ·have hp:0<s.size:=by omega
  have HN:=zq (ka h1 hp);have hi:((s.size:Int)==1)=true:=by simp[h1]
  have hp':(0:Int)<(s.size:Int):=by omega
  by_cases hA:(97:Int)<=((s[0]'hp).toNat:Int)
  ·have hA':decide ((97:Int)<=((s[0]'hp).toNat:Int))=true:=decide_eq_true hA
   go_enter Try.func64,Try.ntmps64
   go_wp2_with fail
   go_ret
   exact⟨au (by rw[HN.out,hA'];rfl),rfl⟩
  ·have hA':decide ((97:Int)<=((s[0]'hp).toNat:Int))=false:=decide_eq_false hA
   go_enter Try.func64,Try.ntmps64
   go_wp2_with fail
   go_ret
   exact⟨au (by rw[HN.out,hA'];rfl),rfl⟩
 ·have HN:=zq (iq h1)
  have hi:((s.size:Int)==1)=false:=by simp;omega
  clear h1
  go_enter Try.func64,Try.ntmps64
  go_wp2_with fail
  go_ret
  exact⟨au HN.out.symm,rfl⟩
theorem j5 (s:ByteArray)(w:World):Calls Try.prog 78 #[.string s] w fun e w'=>e = .returned (.bool (aI s))∧w=w':=by
 by_cases h1:s.size=1
 ·have hp:0<s.size:=by omega
  have HN:=zq (ka h1 hp);have hi:((s.size:Int)==1)=true:=by simp[h1]
  have hp':(0:Int)<(s.size:Int):=by omega
  by_cases hA:(97:Int)<=((s[0]'hp).toNat:Int)
  ·have hA':decide ((97:Int)<=((s[0]'hp).toNat:Int))=true:=decide_eq_true hA
   go_enter Try.func78,Try.ntmps78
   go_wp2_with fail
   go_ret
   exact⟨au (by rw[HN.out,hA'];rfl),rfl⟩
  ·have hA':decide ((97:Int)<=((s[0]'hp).toNat:Int))=false:=decide_eq_false hA
   go_enter Try.func78,Try.ntmps78
   go_wp2_with fail
   go_ret
   exact⟨au (by rw[HN.out,hA'];rfl),rfl⟩
 ·have HN:=zq (iq h1)
  have hi:((s.size:Int)==1)=false:=by simp;omega
  clear h1
  go_enter Try.func78,Try.ntmps78
  go_wp2_with fail
  go_ret
  exact⟨au HN.out.symm,rfl⟩
theorem fJ (g:FuncId)(R:Ty->Ty->Bool)(F G:Nat->Prop)(ts us:List Ty)(ys zs:Value)(w:World)(hy:av F w ts ys)(hz:av G w us zs)
  (hcf : ∀xs W,(callFunc g xs).run Try.prog W = .ok (.enter g xs) W)
  (hg : ∀t∈ts,∀u∈us,∀(W:World) (y z:Value),ai F W t y->ai G W u z->Calls Try.prog g #[y,z] W fun e W'=>e = .returned (.bool (R t u))∧Below W.heap.size W W') :
  Calls Try.prog 18 #[ys,zs,.func (.func g) #[] #[]] w fun e w'=>e = .returned (.bool (de R ts us))∧Below w.heap.size w w':=by
 have HG:=zq hg;clear hg;obtain⟨a,cap,rfl,h2,h3,h4⟩:=hy.open;obtain⟨c,cap',rfl,g2,g3,g4⟩:=hz.open;have H4:=zq h4;have G4:=zq g4;clear h4 g4 hy hz;unfold maxLen at h3 g3
 by_cases hl:ts.length=us.length
 ·obtain⟨n,hn⟩ : ∃n,ts.length=n:=⟨_,rfl⟩
  rw[hn] at hl h2;rw[<-hl] at g2;have HN:=zq hn;have HL:=zq hl;rw[hn,<-hl];clear hn hl
  go_enter Try.func18,Try.ntmps18
  go_wp2_with fail
  go_loopw [17] (fun i wr=>∃k:Nat,k<=n∧i = .int .i64 k∧Below w.heap.size w wr∧Hid (de R ts us=de R (ts.drop k) (us.drop k))) (fun i _=>n-(intOf i).toNat)
  case atStart=>exact⟨0,by omega,rfl,Below.refl _ _,rfl⟩
  case round=>
   obtain⟨k,hk,rfl,hbw,hR⟩:=hrel
   by_cases hlt:k<n
   ·obtain⟨b,off,k0,a0,m0,q0,rfl,c0,c1,ht⟩:=H4.out k (by rw[HN.out];exact hlt)
    obtain⟨b',off',k0',a0',m0',q0',rfl,c0',c1',hu⟩:=G4.out k (by rw[<-HL.out];exact hlt);have e0:=(hbw.cell (p:=⟨b,off+k*2,none⟩) (World.block_lt_of_cell? w _ c0)).trans c0;have e1:=(hbw.cell (p:=⟨b,off+k*2+1,none⟩) (World.block_lt_of_cell? w _ c1)).trans c1;have e0':=(hbw.cell (p:=⟨b',off'+k*2,none⟩) (World.block_lt_of_cell? w _ c0')).trans c0';have e1':=(hbw.cell (p:=⟨b',off'+k*2+1,none⟩) (World.block_lt_of_cell? w _ c1')).trans c1';clear c0 c1 c0' c1';have l0:=World.block_lt_of_cell? wr _ e0;have l0':=World.block_lt_of_cell? wr _ e0';have hkt:k<ts.length:=by rw[HN.out];exact hlt
    have hku:k<us.length:=by rw[<-HL.out];exact hlt
    have hcall:=HG.out ts[k] (List.getElem_mem hkt) us[k] (List.getElem_mem hku);have hstep:=hR.out.trans (fz R ts us k hkt hku);generalize R ts[k] us[k]=r at hcall hstep;have HC:=zq hcall;have HS:=zq hstep;clear hcall hstep hR
    cases r
    all_goals
     go_wp2_with fail
     refine(HC.out _ _ _ (ht.below (al hbw aZ)) (hu.below (al hbw aZ))).mono ?_;rintro e w1 ⟨rfl,hb1⟩
     go_wp2_with fail
    ·go_ret
     exact⟨au (by rw[HS.out];rfl),al (al hbw aZ) hb1⟩
    ·go_roundw
     case rel=>exact⟨k+1,by omega,by go_num,al (al hbw aZ) hb1,by rw[Hid,HS.out];rfl⟩
     case measure=>simp[intOf];omega
   ·go_wp2_with fail
    go_ret
    exact⟨au (by rw[hR.out,io _ _ _ _ (by rw[HN.out];omega) (by rw[<-HL.out];omega)]),hbw⟩
 ·have HL:=zq hl
  go_enter Try.func18,Try.ntmps18
  go_wp2_with fail
  go_ret
  exact⟨au (ip R ts us HL.out).symm,Below.refl _ _⟩
end Go.Proofs.Ytfhglkmjibjjoaa
