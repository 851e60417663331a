/- What makes a node of a term. And what else its parts name. -/
import Derived.Test.YtfahhonmiimmdaaGreatTmOps
import Derived.Shelf.Small.Bits
import Derived.Shelf.Strconv.Itoa0
import Derived.Shelf.Sort.Plain
import Derived.Ground.Names2Prog
import Derived.Shelf.Slices.CompactI
import Derived.Shelf.Slices.SearchI
import Derived.Shelf.Slices.Cells
import Derived.Shelf.Slices.In.SortNone
import Derived.Test.YtfahhonmiimmdaaGreatProg
set_option linter.unusedSimpArgs false
set_option linter.unusedVariables false
set_option maxRecDepth 100000
set_option maxHeartbeats 16000000
namespace Go.Proofs.YtfahhonmiimmdaaGreat
open Go.RowKit
def ownB (k u l:Int)(nm:ByteArray)(tv n1 n2 cv:Bool):Bool:=
 (if k==1||k==5 then aO nm else nm.toList == [])&&aC u 0 (if k==2 then 999 else 0)&&(if k==5||k==13||k==14 then tv else n1)&&(if k==14 then cv&&cj l else n2&&l==0)
def nodeB (k u l:Int)(nm:ByteArray)(m:Nat)(tv n1 n2 cv:Bool):Bool:=(aG k==(m:Int))&&ownB k u l nm tv n1 n2 cv
def Tm.ownB (t:Tm):Bool:=Go.Proofs.YtfahhonmiimmdaaGreat.ownB t.kind t.num t.label t.name t.type.valid t.type.noneB t.src.noneB (t.src.valid&&t.type.valid&&t.src.cons t.type)
def Tm.nodeB (t:Tm):Bool:=(aG t.kind==(t.kids.length:Int))&&t.ownB
theorem kinds6 (k:Int):k=1∨k=2∨k=5∨k=13∨k=14∨((k==1)=false∧(k==5)=false∧(k==13)=false∧(k==14)=false∧(k==2)=false):=by
 simp only[beq_eq_false_iff_ne]
 omega
theorem bG (u:Int):(u==0)=aC u 0 0:=by unfold aC;rw[Bool.eq_iff_iff];simp;omega
theorem ap.all {F:Nat→Prop}{w:World}{t:Ty}{y:Value}(h:ap F w t y):ap (fun _=>True) w t y:=h.move (.weaken fun _ _ _=>trivial)
theorem ap.zero {F:Nat→Prop}{w:World}:ap F w Ty.none (.agg #[.int .i64 0,.slice none 0 0]):=by
 refine⟨_,rfl,?_⟩;unfold aE Ty.none Ty.kids Ty.rows aM
 exact⟨none,0,rfl,Nat.le_refl _,by unfold maxLen;omega,.inl rfl⟩
def bP (B:Nat)(w:World)(t u:Ty)(y z:Value):Prop:=∃f g,cf w t y f∧cf w u z g∧(f++g).Nodup∧∀b∈f++g,B≤b
theorem cf.setCell {w:World}{t:Ty}{y:Value}{f:List Nat}(h:cf w t y f){p:Addr}(hp : ∀b∈f,b≠p.block)(v:Value):cf (w.setCell p v) t y f:=by
 obtain⟨s,hs,h1⟩:=h
 exact⟨s,hs,aJ.move _ _ _ (fun b hb=>Below.heap_setCell w p v b (hp b hb)) h1⟩
theorem bP.below {B:Nat}{w w':World}{t u:Ty}{y z:Value}(h:bP B w t u y z)(k:Below w.heap.size w w'):bP B w' t u y z:=
 let ⟨f,g,h1,h2,h3,h4⟩:=h;⟨f,g,h1.below k,h2.below k,h3,h4⟩
theorem bP.setCell {B:Nat}{w:World}{t u:Ty}{y z:Value}(h:bP B w t u y z){p:Addr}(hp:p.block<B)(v:Value):bP B (w.setCell p v) t u y z:=by
 obtain⟨f,g,h1,h2,h3,h4⟩:=h
 exact⟨f,g,h1.setCell (fun b hb e=>by have:=h4 b (by simp[hb]);omega) v,h2.setCell (fun b hb e=>by have:=h4 b (by simp[hb]);omega) v,h3,h4⟩
theorem bP.mono {B B':Nat}{w:World}{t u:Ty}{y z:Value}(h:bP B w t u y z)(hB:B'≤B):bP B' w t u y z:=
 let ⟨f,g,h1,h2,h3,h4⟩:=h;⟨f,g,h1,h2,h3,fun b hb=>Nat.le_trans hB (h4 b hb)⟩
theorem bP.zero {B:Nat}{w:World}:bP B w Ty.none Ty.none (.agg #[.int .i64 0,.slice none 0 0]) (.agg #[.int .i64 0,.slice none 0 0]):=by
 refine⟨[],[],⟨_,rfl,?_⟩,⟨_,rfl,?_⟩,List.nodup_nil,by simp⟩<;>exact aJ.sl_nil (by unfold maxLen;omega)
theorem bP.shape {B:Nat}{w:World}{t u:Ty}{y z:Value}(h:bP B w t u y z) : ∃k a n q l c m r,y = .agg #[.int .i64 k,.slice a n q]∧z = .agg #[.int .i64 l,.slice c m r]:=by
 obtain⟨f,g,h1,h2,-,-⟩:=h;obtain⟨k,a,n,q,rfl,-⟩:=h1.shape;obtain⟨l,c,m,r,rfl,-⟩:=h2.shape
 exact⟨k,a,n,q,l,c,m,r,rfl,rfl⟩
theorem bP.mk {B:Nat}{w1 w2:World}{t u:Ty}{y z:Value}(h1:bo B w1 t y)(hB:B≤w1.heap.size)(hb:Below w1.heap.size w1 w2)(h2:bo w1.heap.size w2 u z):bP B w2 t u y z:=by
 obtain⟨f,o1,d1,l1⟩:=h1;obtain⟨g,o2,d2,l2⟩:=h2;have hl : ∀b∈f,b<w1.heap.size:=by
  obtain⟨s,rfl,h⟩:=o1
  exact aJ.lt _ _ _ h
 refine⟨f,g,o1.below hb,o2,List.nodup_append.2 ⟨d1,d2,fun x hx y hy e=>by have:=hl x hx;have:=l2 y hy;omega⟩,fun b hb=>?_⟩
 rcases List.mem_append.1 hb with hb | hb
 ·exact l1 b hb
 ·have:=l2 b hb;omega
def j7 (t u:Ty)(b:Bool)(w:World)(e:Ending)(w':World):Prop:=∃y z,e = .returned (.tuple #[y,z,.bool b])∧bP w.heap.size w' t u y z∧Below w.heap.size w w'
theorem aE.two {F:Nat→Prop}{w:World}{t u:Ty}{y:Value}(h:aE F w [t,u] y) :
  ∃b off cap k1 c1 m1 q1 k2 c2 m2 q2,y = .slice (some ⟨b,off,none⟩) 2 cap∧2≤cap∧cap≤maxLen∧b<w.heap.size ∧
   w.cell? ⟨b,off,none⟩=some (.int .i64 k1)∧w.cell? ⟨b,off+1,none⟩=some (.slice c1 m1 q1)∧w.cell? ⟨b,off+2,none⟩=some (.int .i64 k2)∧w.cell? ⟨b,off+3,none⟩=some (.slice c2 m2 q2) ∧
   ap F w t (.agg #[.int .i64 k1,.slice c1 m1 q1])∧ap F w u (.agg #[.int .i64 k2,.slice c2 m2 q2]):=by
 obtain⟨a,cap,rfl,h2,h3,hg⟩:=h.open;obtain⟨b,off,k1,c1,m1,q1,rfl,e0,e1,ht⟩:=hg 0 (by simp);obtain⟨b',off',k2,c2,m2,q2,he,e2,e3,hu⟩:=hg 1 (by simp);simp only[Option.some.injEq,Addr.mk.injEq,and_true] at he;obtain⟨rfl,rfl⟩:=he
 exact⟨b,off,cap,k1,c1,m1,q1,k2,c2,m2,q2,rfl,by simpa using h2,h3,World.block_lt_of_cell? w _ e0,by simpa using e0,by simpa using e1,by simpa using e2,by simpa using e3,ht,hu⟩
def S.mat (k:Int):S→S × S × Bool
 | .any=>(.any,.any,true)
 | .fn a b=>if k=4 then (a,b,true) else (.zero,.zero,false)
 | .pr a b=>if k=5 then (a,b,true) else (.zero,.zero,false)
 | _=>(.zero,.zero,false)
def S.text:S→List UInt8
 | .zero=> []
 | .any=> [63]
 | .int=> [73]
 | .bool=> [66]
 | .fn a b=>40 :: (a.text++62 :: (b.text ++ [41]))
 | .pr a b=>40 :: (a.text++42 :: (b.text ++ [41]))
theorem S.text_len : ∀s:S,s.text.length+3≤2 ^ (s.dep+1)
 | .zero=>by simp[S.text,S.dep]
 | .any=>by simp[S.text,S.dep]
 | .int=>by simp[S.text,S.dep]
 | .bool=>by simp[S.text,S.dep]
 | .fn a b=>by
  have h1:=S.text_len a;have h2:=S.text_len b;have e1:2 ^ (a.dep+1)≤2 ^ (max a.dep b.dep+1):=Nat.pow_le_pow_right (by omega) (by omega);have e2:2 ^ (b.dep+1)≤2 ^ (max a.dep b.dep+1):=Nat.pow_le_pow_right (by omega) (by omega);simp only[S.text,S.dep,List.length_cons,List.length_append,List.length_nil];rw[Nat.pow_succ 2 (max a.dep b.dep+1)]
  omega
 | .pr a b=>by
  have h1:=S.text_len a;have h2:=S.text_len b;have e1:2 ^ (a.dep+1)≤2 ^ (max a.dep b.dep+1):=Nat.pow_le_pow_right (by omega) (by omega);have e2:2 ^ (b.dep+1)≤2 ^ (max a.dep b.dep+1):=Nat.pow_le_pow_right (by omega) (by omega);simp only[S.text,S.dep,List.length_cons,List.length_append,List.length_nil];rw[Nat.pow_succ 2 (max a.dep b.dep+1)]
  omega
def S.bs:S→ByteArray
 | .zero=>⟨#[]⟩
 | .any=>⟨#[63]⟩
 | .int=>⟨#[73]⟩
 | .bool=>⟨#[66]⟩
 | .fn a b=>(⟨#[40]⟩:ByteArray)++a.bs++(⟨#[62]⟩:ByteArray)++b.bs++(⟨#[41]⟩:ByteArray)
 | .pr a b=>(⟨#[40]⟩:ByteArray)++a.bs++(⟨#[42]⟩:ByteArray)++b.bs++(⟨#[41]⟩:ByteArray)
theorem S.bs_text : ∀s:S,s.bs=⟨s.text.toArray⟩
 | .zero=>rfl
 | .any=>rfl
 | .int=>rfl
 | .bool=>rfl
 | .fn a b=>by
  have e : ∀n:UInt8,(⟨#[n]⟩:ByteArray)=⟨[n].toArray⟩:=fun _=>rfl;simp only[S.bs,a.bs_text,b.bs_text,S.text,e,ByteArray.mk_append_mk]
  simp
 | .pr a b=>by
  have e : ∀n:UInt8,(⟨#[n]⟩:ByteArray)=⟨[n].toArray⟩:=fun _=>rfl;simp only[S.bs,a.bs_text,b.bs_text,S.text,e,ByteArray.mk_append_mk]
  simp
theorem S.bs_size {s:S}(h:s.dep≤4):s.bs.size≤29:=by
 rw[S.bs_text];have h1:=S.text_len s;have h2:2 ^ (s.dep+1)≤2 ^ 5:=Nat.pow_le_pow_right (by omega) (by omega)
 show s.text.toArray.size≤29
 simp
 omega
def S.ofKind (k:Int)(l:List S):S:=if k=1 then .any else if k=2 then .int else if k=3 then .bool else match l with | [a,b]=>if k=4 then .fn a b else .pr a b | _=>.zero
mutual
def Ty.toS:Ty→S
 | .mk k ts=>S.ofKind k (Ty.toSs ts)
def Ty.toSs:List Ty→List S
 | []=> []
 | t :: ts=>t.toS :: Ty.toSs ts
end
theorem S.ty_toS : ∀s:S,s.ok=true→s.ty.toS=s
 | .zero,h=>by cases h
 | .any,_=>by simp[S.ty,Ty.toS,S.ofKind]
 | .int,_=>by simp[S.ty,Ty.toS,S.ofKind]
 | .bool,_=>by simp[S.ty,Ty.toS,S.ofKind]
 | .fn a b,h=>by simp[S.ok] at h;simp[S.ty,Ty.toS,Ty.toSs,S.ofKind,a.ty_toS h.1,b.ty_toS h.2]
 | .pr a b,h=>by simp[S.ok] at h;simp[S.ty,Ty.toS,Ty.toSs,S.ofKind,a.ty_toS h.1,b.ty_toS h.2]
end Go.Proofs.YtfahhonmiimmdaaGreat
namespace Go.Proofs
open Go.Shelf
def Tryz.lays189_ren:Go.Shelf.Ren:=⟨fun | 189=>18 | 125=>39 | 257=>38 | 128=>74 | 129=>75 | 294=>65 | 295=>66 | 296=>67 | 297=>68 | 298=>69 | 299=>70 | 216=>71 | 300=>72 | 301=>73 | 328=>98 | 329=>99 | 330=>100 | 331=>101 | 332=>102 | 215=>103 | 343=>116 | n=>n,fun | 28=>30 | 3=>3 | 46=>57 | 0=>0 | 51=>92 | 53=>94 | 4=>4 | 183=>84 | 182=>83 | 131=>89 | 5=>5 | 9=>9 | 218=>109 | 222=>54 | 228=>121 | 229=>122 | n=>n,fun | n=>n⟩
theorem Tryz.lays189:Go.Proofs.Lays.n189 Tryz.prog Tryz.lays189_ren:={
  mixed:=by kernel_rfl
  f125:=Tryz.func39.trans (congrArg some (by kernel_rfl))
  f128:=Tryz.func74.trans (congrArg some (by kernel_rfl))
  f129:=Tryz.func75.trans (congrArg some (by kernel_rfl))
  f189:=Tryz.func18.trans (congrArg some (by kernel_rfl))
  f215:=Tryz.func103.trans (congrArg some (by kernel_rfl))
  f216:=Tryz.func71.trans (congrArg some (by kernel_rfl))
  f257:=Tryz.func38.trans (congrArg some (by kernel_rfl))
  f294:=Tryz.func65.trans (congrArg some (by kernel_rfl))
  f295:=Tryz.func66.trans (congrArg some (by kernel_rfl))
  f296:=Tryz.func67.trans (congrArg some (by kernel_rfl))
  f297:=Tryz.func68.trans (congrArg some (by kernel_rfl))
  f298:=Tryz.func69.trans (congrArg some (by kernel_rfl))
  f299:=Tryz.func70.trans (congrArg some (by kernel_rfl))
  f300:=Tryz.func72.trans (congrArg some (by kernel_rfl))
  f301:=Tryz.func73.trans (congrArg some (by kernel_rfl))
  f328:=Tryz.func98.trans (congrArg some (by kernel_rfl))
  f329:=Tryz.func99.trans (congrArg some (by kernel_rfl))
  f330:=Tryz.func100.trans (congrArg some (by kernel_rfl))
  f331:=Tryz.func101.trans (congrArg some (by kernel_rfl))
  f332:=Tryz.func102.trans (congrArg some (by kernel_rfl))
  f343:=Tryz.func116.trans (congrArg some (by kernel_rfl))
  t0:=Tryz.underlying0
  a0:=Tryz.isAgg0
  z0:=Tryz.sizeOf0
  v0:=Tryz.zeroValue0
  t3:=Tryz.underlying3
  a3:=Tryz.isAgg3
  z3:=Tryz.sizeOf3
  v3:=Tryz.zeroValue3
  t4:=Tryz.underlying4
  a4:=Tryz.isAgg4
  z4:=Tryz.sizeOf4
  v4:=Tryz.zeroValue4
  t5:=Tryz.underlying5
  a5:=Tryz.isAgg5
  z5:=Tryz.sizeOf5
  v5:=Tryz.zeroValue5
  t9:=Tryz.underlying9
  a9:=Tryz.isAgg9
  z9:=Tryz.sizeOf9
  v9:=Tryz.zeroValue9
  t28:=Tryz.underlying30
  a28:=Tryz.isAgg30
  z28:=Tryz.sizeOf30
  v28:=Tryz.zeroValue30
  t46:=Tryz.underlying57
  a46:=Tryz.isAgg57
  z46:=Tryz.sizeOf57
  v46:=Tryz.zeroValue57
  t51:=Tryz.underlying92
  a51:=Tryz.isAgg92
  z51:=Tryz.sizeOf92
  v51:=Tryz.zeroValue92
  t53:=Tryz.underlying94
  a53:=Tryz.isAgg94
  z53:=Tryz.sizeOf94
  v53:=Tryz.zeroValue94
  t131:=Tryz.underlying89
  a131:=Tryz.isAgg89
  z131:=Tryz.sizeOf89
  v131:=Tryz.zeroValue89
  t182:=Tryz.underlying83
  a182:=Tryz.isAgg83
  z182:=Tryz.sizeOf83
  v182:=Tryz.zeroValue83
  t183:=Tryz.underlying84
  a183:=Tryz.isAgg84
  z183:=Tryz.sizeOf84
  v183:=Tryz.zeroValue84
  t218:=Tryz.underlying109
  a218:=Tryz.isAgg109
  z218:=Tryz.sizeOf109
  v218:=Tryz.zeroValue109
  t222:=Tryz.underlying54
  a222:=Tryz.isAgg54
  z222:=Tryz.sizeOf54
  v222:=Tryz.zeroValue54
  t228:=Tryz.underlying121
  a228:=Tryz.isAgg121
  z228:=Tryz.sizeOf121
  v228:=Tryz.zeroValue121
  t229:=Tryz.underlying122
  a229:=Tryz.isAgg122
  z229:=Tryz.sizeOf122
  v229:=Tryz.zeroValue122}
open Go.Sort Go.RowKit in
theorem Tryz.slices_Sort_int (blk off cap:Nat)(zs:List Int)(w:World)(hH:Holds (Value.int .i64) w blk off zs.toArray)(hblk:blk<w.heap.size)(hsz:zs.length<4611686018427387904) :
  Calls Tryz.prog 18 #[.slice (some ⟨blk,off,none⟩) zs.length cap] w fun e w'=>
   e = .returned (.tuple #[])∧∃n os,w'=grow (putRow (Value.int .i64) (Sort.ahead w n) blk off (zs.mergeSort fun x y=>decide (x≤y)).toArray) os:=Any.slices_Sort_int Tryz.lays189 blk off cap zs w hH hblk hsz
def Tryz.laysNm220_ren:Go.Shelf.Ren:=⟨fun | 20=>19 | n=>n,fun | 22=>30 | 3=>3 | 4=>4 | 0=>0 | n=>n,fun | n=>n⟩
theorem Tryz.laysNm220:Go.Proofs.Lays2.n20 Tryz.prog Tryz.laysNm220_ren:={
  mixed:=by kernel_rfl
  f20:=Tryz.func19.trans (congrArg some (by kernel_rfl))
  t0:=Tryz.underlying0
  a0:=Tryz.isAgg0
  z0:=Tryz.sizeOf0
  v0:=Tryz.zeroValue0
  t3:=Tryz.underlying3
  a3:=Tryz.isAgg3
  z3:=Tryz.sizeOf3
  v3:=Tryz.zeroValue3
  t4:=Tryz.underlying4
  a4:=Tryz.isAgg4
  z4:=Tryz.sizeOf4
  v4:=Tryz.zeroValue4
  t22:=Tryz.underlying30
  a22:=Tryz.isAgg30
  z22:=Tryz.sizeOf30
  v22:=Tryz.zeroValue30
  i3:=by kernel_rfl}
open Go.RowKit Go.Lib Go.Sort in
open Go.RowKit Go.Lib Go.Sort in
theorem Tryz.slices_Compact_int (blk off cap:Nat)(zs:List Int)(w:World)(hH:Holds (Value.int .i64) w blk off zs.toArray)(hsz:zs.length≤9223372036854775807)(hcap:zs.length≤cap) :
  Calls Tryz.prog 19 #[.slice (some ⟨blk,off,none⟩) zs.length cap] w fun e w'=>e = .returned (.slice (some ⟨blk,off,none⟩) (Lib.compact zs).length cap)∧∃q,w'=putRow (Value.int .i64) (Sort.ahead w q) blk off (Lib.compact zs++List.replicate (zs.length-(Lib.compact zs).length) 0).toArray:=Any.slices_Compact_int Tryz.laysNm220 blk off cap zs w hH hsz hcap
open Go.RowKit Go.Lib Go.Sort in
theorem Tryz.slices_Compact_int_empty (a:Option Addr)(cap:Nat)(w:World) :
  Calls Tryz.prog 19 #[.slice a 0 cap] w fun e w'=>e = .returned (.slice a 0 cap)∧w'=w:=Any.slices_Compact_int_empty Tryz.laysNm220 a cap w
open Go.RowKit Go.Lib in
open Go.RowKit Go.Lib in
open Go.RowKit Go.Lib Go.Sort in
open Go.RowKit Go.Sort in
theorem Tryz.slices_Sort_int_none (p:Option Addr)(cap:Nat)(w:World) :
  Calls Tryz.prog 18 #[.slice p 0 cap] w fun e w'=>e = .returned (.tuple #[])∧w'=w:=Any.slices_Sort_int_none Tryz.lays189 p cap w
end Go.Proofs
