/- spec.l3Make: the loop and the forks; what remains of each way. -/
import Derived.Test.YtfhglkmjibjjoaaB37
import Derived.Test.YtfhglkmjibjjoaaB18
import Derived.Deep.DeepCutAuto
set_option linter.unusedSimpArgs false
set_option linter.unusedVariables false
set_option maxRecDepth 100000
set_option maxHeartbeats 16000000
namespace Go.Proofs.Ytfhglkmjibjjoaa
open Go.RowKit
theorem mkB_100 (d:Int)(s:S):100<=mkB d s:=by
 unfold mkB
 split
 ·omega
 ·have h2:1<=4 ^ (d-1).toNat:=Nat.pow_pos (by omega)
  omega
theorem av.blkT {F:Nat->Prop}{w:World}{ts:List Ty}{b off n q:Nat}(h:av F w ts (.slice (some ⟨b,off,none⟩) n q))(hl:0<ts.length):F b:=by
 unfold av aL at h;obtain⟨a,cap,he,-,-,h4⟩:=h;simp only[Value.slice.injEq] at he
 rcases h4 with h4 | ⟨b',off',ha,hF,-⟩
 ·have e:(Ty.rows ts).length=0:=by rw[h4];rfl
  rw[Ty.rows_length] at e;omega
 ·rw[<-he.1] at ha
  simp only[Option.some.injEq,Addr.mk.injEq] at ha;rw[ha.1];exact hF
theorem mkB_fn {d:Int}{a b:S}(h:(S.fn a b).vd=true):mkB (d-1) b+100<=mkB d (.fn a b):=by
 have hv:=dJ h
 by_cases h2:2<=d
 ·have h1:=bV h2 hv.2
  have h3:=dS d;rw[dY _ h2];omega
 ·unfold mkB
  rw[if_pos (by omega),if_pos (by omega)];simp only[S.cnt];omega
theorem mkB_pr {d:Int}{a b:S}(h:(S.pr a b).vd=true):mkB (d-1) a+mkB (d-1) b+100<=mkB d (.pr a b):=by
 have hv:=dx h
 by_cases h2:2<=d
 ·have h1:=bV h2 hv.1
  have h1':=bV h2 hv.2;have h3:=dS d;rw[dY _ h2];omega
 ·unfold mkB
  rw[if_pos (by omega),if_pos (by omega),if_pos (by omega)];simp only[S.cnt];omega
def dn (dd:Int)(s:S)(r p:Nat)(l:List Bd)(w:World)(kt:Int)(ta:Option Addr)(tn tq:Nat)(xa:Option Addr)(xn xq:Nat):{G:Prop × Prop × Prop × Prop × Prop // (aR w r p)->(aE (· ≠ r) w l (.slice xa xn xq))->(dz l (.slice xa xn xq))->(cz l)->(l.length+mkM dd s<=60)->(s.vd=true)->(ai (· ≠ r) w s.ty (.agg #[.int .i64 kt,.slice ta tn tq]))->(dd<=5)->(-1000<=dd)->(p+mkB dd s<=1125899906800000)->(∀(s':S) (l':List Bd),mkM (dd-1) s'<mkM dd s->s'.vd=true->cz l'->l'.length<=l.length+1->(∀b∈l',b.name.size<=1)->MkC r (dd-1) s' l')->(∀b∈l,b.name.size<=1)->(Unit->G.1)->(Unit->G.2.1)->(Unit->G.2.2.1)->(Unit->G.2.2.2.1)->(Unit->G.2.2.2.2)->Calls Try.prog 74 #[.pointer (some ⟨r,0,none⟩),.slice xa xn xq,.agg #[.int .i64 kt,.slice ta tn tq],.int .i64 dd] w (DTm r p (mkB dd s) (mkB dd s) w)}:=⟨(_,_,_,_,_),by
  intro hrd0 hcx hcv hok hl hs hy hd5 hdlo hp IH hnl g0 g1 g2 g3 g4;have hrl:=hrd0.1;have hn:=hcx.n_eq;have HN:=zq hn;have hx60:xn<=60:=by omega
  have hwn:wrap64 ((xn:Int)-1)=(xn:Int)-1:=by unfold wrap64;omega
  have hwdx:wrap64 (dd-1)=dd-1:=by unfold wrap64;omega
  have HWK:=zq (IntWalk.i64_in (dd-1) (by omega));have HX0:=zq (hcx.move (.weaken (G:=(fun x=>x≠r∧x<w.heap.size)) fun b h hl=>⟨h,hl⟩));have HT0:=zq (hy.move (.weaken (G:=(fun x=>x≠r∧x<w.heap.size)) fun b h hl=>⟨h,hl⟩));have HCNT:=zq (fun b hb=>Ty.cnt_valid (hok b hb) : ∀b∈l,b.ty.cnt<=1048576);have HNL:=zq hnl;have HCV:=zq hcv;have HOK:=zq hok;have HSV:=zq hs;have HIH:=zq IH;have HRD0:=zq hrd0;have HKT:=zq (show kt=s.ty.kind from hy.kindE);have HL60:=zq hl;have hmb:100<=mkB dd s:=mkB_100 dd s;obtain⟨MB,hMB⟩ : ∃m,mkB dd s=m:=⟨_,rfl⟩
  rw[hMB] at hp hmb ⊢;have HMB:=zq hMB;clear hy hcx hcv hok hs IH hrd0 hn hl hMB
  go_enter Try.func74,Try.ntmps74
  go_wp2_with fail
  go_loopw [9] (fun s9 wr=>∃(j q:Nat),j<=xn∧s9 = .int .i64 ((j:Int)-1)∧q+j<=p+xn∧w.heap.size+1<wr.heap.size∧Hid (Chg [r] w wr)∧Hid (aR wr r (q))∧Hid (wr.heap[w.heap.size]?=some (.cells #[.int .i64 kt,.slice ta tn tq] 25 (0,0)))∧Hid (wr.heap[w.heap.size+1]?=some (.cells (nz 0) 28 (0,0)))∧Hid (aE (fun x=>x≠r∧x<w.heap.size) wr l (.slice xa xn xq))∧Hid (ai (fun x=>x≠r∧x<w.heap.size) wr s.ty (.agg #[.int .i64 kt,.slice ta tn tq]))) (fun i _=>(intOf i+1).toNat)
  case atStart=>exact⟨xn,p,Nat.le_refl _,rfl,by omega,by simp,zq (Chg.of_below (al ag ag)),zq ((HRD0.out.below ag).below ag),zq (a9 (aA rfl) ag),zq (aA (by simp)),zq ((HX0.out.below ag).below ag),zq ((HT0.out.below ag).below ag)⟩
  case round=>
    obtain⟨j,q,hj,rfl,hq,hsz,fC,rd,hfT,hfR,hX,hT⟩:=hrel;have fT:=hfT.out;have fR:=hfR.out;clear hfT hfR
    cases j with
    | succ j=>
      have hjl:j<l.length:=by have:=HN.out;omega
      obtain⟨b,off,k0,a0,m0,q0,rfl,l0,e0,ez,e1,e2,ht⟩:=hX.out.at (Below.refl _ _) hjl;have hbF:=hX.out.blkF (by omega);have hbr:b≠r:=hbF.1;have hbw:b<w.heap.size:=hbF.2;clear hbF;have h0:decide (((j+1:Nat):Int)-1≥0)=true:=by simp
      have hji:((j+1:Nat):Int)-1=(j:Int):=by omega
      have hj0:(0:Int)<=(j:Int):=by omega
      have hj1:(j:Int)<(xn:Int):=by omega
      have hwj:wrap64 ((j:Int)-1)=(j:Int)-1:=by unfold wrap64;omega
      have HEZ:=zq ez;clear ht ez e1 e2;rw[hji];have HLK:=zq (j7 _ l l[j].name _ wr hX.out HCNT.out);have en:=e0
      go_wp2_with fail
      refine HLK.out.mono ?_;rintro e w1 ⟨k1,a1,n1,q1,b1,t1,rfl,-,ht1,-,hb⟩;have ht1':Hid (ai (fun b=>wr.heap.size<=b∧b<w1.heap.size) w1 t1 (.agg #[.int .i64 k1,.slice a1 n1 q1])):=zq (ht1.move (.weaken fun b h hl=>⟨h.elim False.elim id,hl⟩));have z1:=hb.size;clear ht1 HLK e0;replace fT:=a9 fT hb;replace fR:=a9 fR hb;replace fC:=zqb fC hb;replace rd:=mh hb rd;replace hX:=mh hb hX;replace hT:=mh hb hT;replace en:=af hb en;clear hb;have hbv:=ag (w:=w1) (o:=.cells #[.int .i64 k1,.slice a1 n1 q1] 25);have fV:=aA (w:=w1) (o:=.cells #[.int .i64 k1,.slice a1 n1 q1] 25) (b:=w1.heap.size) rfl;replace fT:=a9 fT hbv;replace fR:=a9 fR hbv;replace fC:=zqb fC hbv;replace rd:=mh hbv rd;replace hX:=mh hbv hX;replace hT:=mh hbv hT;replace en:=af hbv en;have ht1:=zq (ht1'.out.below hbv);clear hbv ht1'
      go_wp2_with fail
      refine(bH r q 3 _ rd.out (by omega) (by omega)).mono ?_;rintro e w2 ⟨jk,rfl,hjk0,hjk1,hrd,hb⟩;have z2:=hb.size;simp only[World.size_alloc] at z2;replace fT:=ay fT hb;replace fR:=ay fR hb;replace fC:=zqc fC hb;replace hX:=zq (hX.out.move (kpN hb (fun b hb=>hb.1)));replace hT:=zq (hT.out.move (kpN hb (fun b hb=>hb.1)));replace en:=aH hb (by omega) en;replace fV:=ay fV hb;replace ht1:=zq (ht1.out.move (kpN hb (fun b hb=>by have h1:=hb.1;omega)));replace rd:=zq hrd;clear hb hrd
      rcases Bool.eq_false_or_eq_true (jk==0) with hjk | hjk
      · obtain⟨v0,v1⟩:=blk2 fV
        have lV:=aw fV;obtain⟨tv,htv⟩ : ∃tv,t1.valid=tv:=⟨_,rfl⟩
        have HTV:=zq htv;have HVC:=zq (htv▸ce _ t1 _ w2 ht1.out);clear htv
        go_wp2_with fail
        refine HVC.out.mono ?_;rintro e w3 ⟨rfl,hb⟩;have z3:=hb.size;clear HVC v0 v1;replace fT:=a9 fT hb;replace fR:=a9 fR hb;replace fC:=zqb fC hb;replace rd:=mh hb rd;replace hX:=mh hb hX;replace hT:=mh hb hT;replace en:=af hb en;replace fV:=a9 fV hb;replace ht1:=mh hb ht1;clear hb
        cases tv with
        | false=>
          go_wp2_with fail
          go_roundw
          case rel=>exact⟨j,q+1,by omega,by go_num,by omega,by omega,fC,rd,zq fT,zq fR,hX,hT⟩
          case measure=>simp[intOf];try omega
        | true=>
          obtain⟨s1,rfl,hs1⟩:=Ty.valid_S HTV.out;obtain⟨cv,hcv⟩ : ∃cv,s1.cons s=cv:=⟨_,rfl⟩
          have HCC:=zq (hcv▸cj _ _ s1 s _ _ w3 ht1.out hT.out hs1 HSV.out);clear hcv hs1;obtain⟨v0,v1⟩:=blk2 fV;obtain⟨y0,y1⟩:=blk2 fT;have lV3:=aw fV;have lT3:=aw fT
          go_wp2_with fail
          refine HCC.out.mono ?_;rintro e w4 ⟨rfl,hb⟩;have z4:=hb.size;clear HCC v0 v1 y0 y1;replace fT:=a9 fT hb;replace fR:=a9 fR hb;replace fC:=zqb fC hb;replace rd:=mh hb rd;replace hX:=mh hb hX;replace hT:=mh hb hT;replace en:=af hb en;replace fV:=a9 fV hb;replace ht1:=mh hb ht1;clear hb
          cases cv with
          | false=>
            go_wp2_with fail
            go_roundw
            case rel=>exact⟨j,q+1,by omega,by go_num,by omega,by omega,fC,rd,zq fT,zq fR,hX,hT⟩
            case measure=>simp[intOf];try omega
          | true=>
            have hze:=HEZ.out;have len:=World.block_lt_of_cell? _ _ en;obtain⟨x0,f0,x1,f1,x2,f2,x3,f3,x4,f4,x5,f5,x6,f6,x7,f7,x8,f8⟩:=blk9f fR;have lxR:=aw fR;have HEND:=zq (DTm.stored (p:=p) (r:=r) (w:=w) (R:=w.heap.size+1) (B:=w.heap.size+1+1) (t:=.mk 1 l[j].name 0 (.mk 0 []) (.mk 0 []) 0 []) (c:=MB) (m:=MB) (v0:=.int .i64 1) (v1:=.string l[j].name) (v2:=.int .i64 0) (v3:=.int .i64 0) (v4:=.slice none 0 0) (v5:=.int .i64 0) (v6:=.slice none 0 0) (v7:=.int .i64 0) (v8:=.slice none 0 0) (aB.leaf0 1 0 HEZ.out) (by have h1:=HNL.out l[j] (List.getElem_mem hjl);simp[Tm.cnt,Tm.cnts,Ty.cnt,Ty.cnts];omega) (by omega) (by omega) rd.out fC.out (by omega) (by omega) (by omega))
            go_wp2_with fail
            refine bq (.agg #[.int .i64 1,.string l[j].name,.int .i64 0,.int .i64 0,.slice none 0 0,.int .i64 0,.slice none 0 0,.int .i64 0,.slice none 0 0]) (by simp[results,Try.results74,go_sem,x0,x1,x2,x3,x4,x5,x6,x7,x8]) ?_
            exact HEND.out
      · skip
        go_wp2_with fail
        go_roundw
        case rel=>exact⟨j,q+1,by omega,by go_num,by omega,by omega,fC,rd,zq fT,zq fR,hX,hT⟩
        case measure=>simp[intOf];try omega
    | zero=>
      have h0:decide (((0:Nat):Int)-1≥0)=false:=by simp
      go_upto_if 49 with fail
      go_cut [] (fun wx=>∃q:Nat,q<=p+61∧w.heap.size+1<wx.heap.size∧Hid (Chg [r] w wx)∧Hid (aR wx r (q))∧wx.heap[w.heap.size]?=some (.cells #[.int .i64 kt,.slice ta tn tq] 25 (0,0))∧wx.heap[w.heap.size+1]?=some (.cells (nz 0) 28 (0,0))∧Hid (aE (fun x=>x≠r∧x<w.heap.size) wx l (.slice xa xn xq))∧Hid (ai (fun x=>x≠r∧x<w.heap.size) wx s.ty (.agg #[.int .i64 kt,.slice ta tn tq])))
      case first=>
        by_cases hd1:1<dd
        · have hdb:decide (dd>1)=true:=by simpa using hd1
          have HD2:=zq (show 2<=dd by omega);have hU4:MB=4*mkU dd:=HMB.out.symm.trans (dY s (by omega));have hU0:=dS dd;obtain⟨U,hU⟩ : ∃U,mkU dd=U:=⟨_,rfl⟩
          rw[hU] at hU4 hU0;have HUU:=zq hU;have hMB1:4*U<=MB:=by omega
          have hMB2:MB<=4*U:=by omega
          clear hU hU4;have HLB:=zq (bV (s:=S.bool) HD2.out rfl);have HLI:=zq (bV (s:=S.int) HD2.out rfl);have HLS:=zq (bV HD2.out HSV.out)
          go_wp2_with fail
          refine(bH r q 9 _ rd.out (by omega) (by omega)).mono ?_;rintro e w1 ⟨jk,rfl,hjk0,hjk1,hrd,hb⟩;have zw1:=hb.size;(try simp only[World.size_alloc] at zw1);replace fT:=ay fT hb;replace fR:=ay fR hb;replace fC:=zqc fC hb;replace hX:=zq (hX.out.move (kpN hb (fun b hb=>hb.1)));replace hT:=zq (hT.out.move (kpN hb (fun b hb=>hb.1)));replace rd:=zq hrd;clear hrd;clear hb;clear hjk0 hjk1
          rcases Bool.eq_false_or_eq_true (jk==0) with hj0 | hj0
          · go_wp2_with fail
            rename_i i1_ i2_ i3_ i4_ i5_ i6_ i7_ i8_ i9_ i10_ i11_ i12_ i13_
            revert hd5 hdlo hnl hrl HN hx60 hwn hwdx HWK HX0 HT0 HCNT HNL HCV HOK HSV HIH HRD0 HKT HL60 MB hmb hp HMB i1_ wr u10 u11 u16 u17 u18 u19 u20 u21 u22 u23 u24 u25 u26 u27 u28 u29 u30 u31 u32 u33 u34 u35 u36 u37 u38 u39 u40 u41 u42 u43 u44 u45 u46 u47 q hsz hj hq h0 i2_ i3_ i4_ i5_ i6_ i7_ i8_ i9_ i10_ hd1 hdb HD2 U hU0 HUU hMB1 hMB2 HLB HLI HLS i11_ w1 jk zw1 fT fR fC hX hT rd hj0 i12_ i13_
            exact g0 ()
          rcases Bool.eq_false_or_eq_true (jk==1) with hj1 | hj1
          · go_wp2_with fail
            rename_i i1_ i2_ i3_ i4_ i5_ i6_ i7_ i8_ i9_ i10_ i11_ i12_ i13_
            revert hd5 hdlo hnl hrl HN hx60 hwn hwdx HWK HX0 HT0 HCNT HNL HCV HOK HSV HIH HRD0 HKT HL60 MB hmb hp HMB i1_ wr u10 u11 u16 u17 u18 u19 u20 u21 u22 u23 u24 u25 u26 u27 u28 u29 u30 u31 u32 u33 u34 u35 u36 u37 u38 u39 u40 u41 u42 u43 u44 u45 u46 u47 q hsz hj hq h0 i2_ i3_ i4_ i5_ i6_ i7_ i8_ i9_ i10_ hd1 hdb HD2 U hU0 HUU hMB1 hMB2 HLB HLI HLS i11_ w1 jk zw1 fT fR fC hX hT rd hj0 hj1 i12_ i13_
            exact g1 ()
          rcases Bool.eq_false_or_eq_true (jk==2) with hj2 | hj2
          · go_wp2_with fail
            rename_i i1_ i2_ i3_ i4_ i5_ i6_ i7_ i8_ i9_ i10_ i11_ i12_ i13_ i14_ i15_
            revert hd5 hdlo hnl hrl HN hx60 hwn hwdx HWK HX0 HT0 HCNT HNL HCV HOK HSV HIH HRD0 HKT HL60 MB hmb hp HMB i1_ wr u10 u11 u16 u17 u18 u19 u20 u21 u22 u23 u24 u25 u26 u27 u28 u29 u30 u31 u32 u33 u34 u35 u36 u37 u38 u39 u40 u41 u42 u43 u44 u45 u46 u47 q hsz hj hq h0 i2_ i3_ i4_ i5_ i6_ i7_ i8_ i9_ i10_ hd1 hdb HD2 U hU0 HUU hMB1 hMB2 HLB HLI HLS i11_ w1 jk zw1 fT fR fC hX hT rd hj0 hj1 hj2 i12_ i13_ i14_ i15_
            exact g2 ()
          rcases Bool.eq_false_or_eq_true (jk==3) with hj3 | hj3
          · obtain⟨y0,y1⟩:=blk2 fT;have lyT:=aw fT
            go_wp2_with fail
            rename_i i1_ i2_ i3_ i4_ i5_ i6_ i7_ i8_ i9_ i10_ i11_ i12_ i13_ i14_ i15_
            revert hd5 hdlo hnl hrl HN hx60 hwn hwdx HWK HX0 HT0 HCNT HNL HCV HOK HSV HIH HRD0 HKT HL60 MB hmb hp HMB i1_ wr u10 u11 u16 u17 u18 u19 u20 u21 u22 u23 u24 u25 u26 u27 u28 u29 u30 u31 u32 u33 u34 u35 u36 u37 u38 u39 u40 u41 u42 u43 u44 u45 u46 u47 q hsz hj hq h0 i2_ i3_ i4_ i5_ i6_ i7_ i8_ i9_ i10_ hd1 hdb HD2 U hU0 HUU hMB1 hMB2 HLB HLI HLS i11_ w1 jk zw1 fT fR fC hX hT rd hj0 hj1 hj2 hj3 y0 y1 lyT i12_ i13_ i14_ i15_
            exact g3 ()
          go_wp2_with fail
          go_meet
          exact⟨q+1,by omega,by omega,fC,rd,fT,fR,hX,hT⟩
        · have hdb:decide (dd>1)=false:=by simpa using hd1
          go_wp2_with fail
          go_meet
          exact⟨q,by omega,by omega,fC,rd,fT,fR,hX,hT⟩
      case rest=>
        clear fC rd fT fR hX hT hsz hq hj h0;obtain⟨q,hq,hsz,fC,rd,fT,fR,hX,hT⟩:=hcut
        rename_i i1_ i2_ i3_ i4_ i5_ i6_ i7_ i8_ i9_ i10_ i11_ i12_ i13_ i14_ i15_ i16_ i17_ i18_ i19_ i20_ i21_ i22_ i23_ i24_ i25_ i26_ i27_ i28_ i29_ i30_ i31_ i32_ i33_ i34_ i35_ i36_ i37_ i38_ i39_
        revert hd5 hdlo hnl hrl HN hx60 hwn hwdx HWK HX0 HT0 HCNT HNL HCV HOK HSV HIH HRD0 HKT HL60 MB hmb hp HMB i1_ wr u10 u11 i2_ i3_ i4_ i5_ i6_ i7_ i8_ i9_ i10_ i11_ i12_ i13_ i14_ i15_ i16_ i17_ i18_ i19_ i20_ i21_ i22_ i23_ i24_ i25_ i26_ i27_ i28_ i29_ i30_ i31_ i32_ i33_ i34_ i35_ i36_ i37_ i38_ i39_ wc u12 u13 u14 u15 u16 u17 u18 u19 u20 u21 u22 u23 u24 u25 u26 u27 u28 u29 u30 u31 u32 u33 u34 u35 u36 u37 u38 u39 u40 u41 u42 u43 u44 u45 u46 u47 u48 u49 u50 u51 u52 u53 u54 u55 u56 u57 u58 u59 u60 u61 u62 u63 u64 u65 u66 u67 u68 u69 u70 u71 u72 u73 u74 u75 u76 u77 u78 u79 u80 u81 u82 u83 u84 u85 u86 u87 u88 u89 u90 u91 u92 u93 u94 u95 u96 u97 u98 u99 u100 u101 u102 u103 u104 u105 u106 u107 u108 u109 u110 u111 u112 u113 u114 u115 u116 u117 u118 u119 u120 u121 u122 u125 u126 u127 u128 u129 u130 u131 u132 u133 u134 u135 u136 u137 u138 u139 u140 u141 u142 u143 u144 u145 u146 u147 u149 u150 u151 u152 u153 u154 u155 u156 u157 u158 u159 u160 u161 u162 u164 u165 u166 u167 u168 u169 u170 u171 u172 u173 u174 u175 u176 u177 u178 u179 u180 u181 u182 u183 u184 u186 u187 u188 u189 u190 u191 u192 u193 u194 u195 u196 u197 u198 u199 u200 u201 u202 u203 u204 u205 u206 u207 u208 u209 u210 u211 u212 u213 u214 u215 u216 u217 u218 u219 u220 u221 u222 u223 u224 u225 u226 u227 u228 u229 u230 u231 u232 u233 u234 q hq hsz fC rd fT fR hX hT
        exact g4 ()⟩
end Go.Proofs.Ytfhglkmjibjjoaa
