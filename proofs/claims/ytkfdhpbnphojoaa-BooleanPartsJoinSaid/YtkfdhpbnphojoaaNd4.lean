/- Part of the proof. -/
import Derived.Test.YtkfdhpbnphojoaaNd3
import Derived.IntWalk
import Derived.Deep.Cut
import Derived.Deep.CutRange
import Derived.Deep.RegionLaw
import Derived.LoopTactic
import Derived.Lib.UnsafeStr
import Derived.WideLaws
set_option linter.unusedSimpArgs false
set_option linter.unusedVariables false
set_option maxRecDepth 100000
set_option maxHeartbeats 16000000
open List renaming mem_of_getElem?→wAa,getElem?_eq_getElem→wAb,mem_cons_of_mem→wAc,mem_cons_self→wAd,range→wAe,mem_map→wAf,mem_range→wAg,mem_singleton→wAh,mem_append→wAi,getElem?_eq_some_iff→wAj,mem_cons→wAk,length_append→wAm,pairwise_cons→wAn,mem_filter→wAo,length_cons→wAq,getElem?_map→wAr,idxOf_lt_length_of_mem→wAs,getElem?_eq_none→wAt,getElem?_append_left→wAu,length_map→wAv,length_range→wAw,mem_flatMap→wAx,findSome?_eq_none_iff→wAy,append_assoc→wAz,mem_erase_of_ne→wAA,getElem?_eq_none_iff→wAB,length_erase_of_mem→wAC,length_pos_of_mem→wAD,getElem?_zip_eq_some→wAE,getElem_idxOf→wAF,exists_of_findSome?_eq_some→wAG,mem_iff_getElem→wAJ,getElem?_of_mem→wAK,eq_nil_of_length_eq_zero→wAL,mem_filterMap→wAO,map_cons→wAP,getElem?_append_right→wAQ,getElem_mem→wAR,nil_append→wAS,idxOf_cons→wAT,nodup_cons→wAU,append_inj→wAV,take_of_length_le→wAX,map_congr_left→wAY,flatMap_append→wAZ,getElem?_range→wA0,getD→wA1,take_add_one→wA2,ext_getElem?→wA3,pairwise_map→wA4,length→wA6,flatMap_def→wA7,getElem_inj→wA8,nodup_range→wA9,any_eq_true→wBa,of_mem_zip→wBd
open Nat renaming le_refl→wAl,zero_add→wAI,zero_le→wAM,lt_of_lt_of_le→wAN,mul_one→wAW,lt_trichotomy→wA5,div_eq_of_lt→wBb,mul_add_div→wBf,mul_comm→wBh
open Int renaming lt_irrefl→wBg
open Option renaming map_some→wBe
open Bool renaming and_eq_true→wBc
open Classical renaming byContradiction→wAp
open Gm.Blk renaming at_→wAH
namespace Go.Proofs.Ytkfdhpbnphojoaa
open Go.RowKit Gm
theorem zAC {w w':World} {base sz n:Nat} {e:TypeId} {v:Value} {xs:List Value} (h:w.ownsRow base e sz v n xs) (hb:Below w.heap.size w w'):w'.ownsRow base e sz v n xs :=
 h.kept (row:=none) ⟨hb.os,hb.tape,hb.output,hb.size,fun k hk _=>hb.block k hk⟩ (by cases v.ownBlock<;>simp)
theorem zAl {P:Program} {ops:Array Oper} {o:Oper} {a:Act} {w:World} {K:Act→World→Prop} {Q:Exit→Act→World→Prop} {EE:Prop} (hg:o.guard=none) (s x:Operand) (t:TypeId)
 (ho:o.op=.call { callee:=.builtin .append,args:=#[s,x],argTypes:=#[t,t] })
 (base:Nat) (e:TypeId) (i:TypeInfo) (z:Value) (size bytes:Nat) (ht:P.underlying t=some (.slice e)) (hi:P.info? e=some i) (hz:i.zero=some z)
 (hsize:i.size=size) (hby:i.bytes=bytes) (hzs:z.cells.size=size) (hsz:0<size)
 (v:Value) (n:Nat) (xs:List Value) (hs:a.eval s=v) (hown:w.ownsRow base e size v n xs)
 (B:Nat) (A:Option Addr) (m c:Nat) (news:List Value) (f:Nat→Nat→Value) (hx:a.eval x=.slice A m c) (hr:Rd w B size A m f) (hA:A=none→m=0) (hl:news.length=m*size) (hnews:∀ i j,i<m→j<size→news[i*size+j]? = some (f i j)) (h1:∀ u∈news,u.oneCell'=true)
 (h63:n+m≤maxLen) (hbytes:(n+m)*bytes≤140737488355328) (hbase:base≤w.heap.size)
 (h:∀ v' w',w'.ownsRow base e size v' (n+m) (xs++news)→w.grownBy w' v.ownBlock→(v'.ownBlock=v.ownBlock∨v'.ownBlock=some w.heap.size)→K (a.put o.dst v') w') :
 if Region.wanted o (yielded ops a.tmps)=true then Oper.wp P o a w K Q else EE:=by
 have hw:Region.wanted o (yielded ops a.tmps)=true:=by simp[Region.wanted,hg]
 rw[if_pos hw];exact zAL w s x t ho base e i z size bytes ht hi hz hsize hby hzs hsz v n xs hs hown B A m c news f hx hr hA hl hnews h1 h63 hbytes hbase h
theorem zBS {w:World} {base g sz:Nat} {e:TypeId} (h:Blk w g e #[]) (hb:base≤g):w.ownsRow base e sz (.slice (some ⟨g,0,none⟩) 0 0) 0 []:=by
 exact⟨by simp,.inr ⟨g,0,#[],rfl,hb,h,wAl _,wAM _,by simp,by simp⟩⟩
theorem zFC {w:World} {b1 b2 sz n:Nat} {e:TypeId} {v:Value} {xs:List Value} (h:w.ownsRow b1 e sz v n xs) (hb:b2≤b1):w.ownsRow b2 e sz v n xs:=by
 obtain⟨h1,h2⟩:=h;refine⟨h1,?_⟩;rcases h2 with h2 | ⟨g,cap,cur,e1,e2,e3⟩
 · exact .inl h2
 · exact .inr ⟨g,cap,cur,e1,by omega,e3⟩
theorem zBu {w:World} {g:Nat} {t:TypeId} {x:Int} (h:Blk w g t #[.int .i64 x]):Rd w w.heap.size 1 (some ⟨g,0,none⟩) 1 (intCell [x]):=fun _=>by
 refine⟨g,0,rfl,h.lt,fun i j hi hj=>?_⟩;obtain rfl:i=0:=by omega
 obtain rfl:j=0:=by omega
 have:=h.cell 0
 simpa[intCell] using this
theorem zB2 {W:World} {B:Nat} {V:Value} {l:List Int} (h:Nums W B V l):∃ A c,V=.slice A l.length c∧Rd W B 1 A l.length (intCell l)∧(A=none→l.length=0):=by
 obtain⟨A,n,c,rfl,h1,h2,h3,h4⟩:=h;have e:=h1.o;subst e;refine⟨A,c,rfl,h4,fun hA=>?_⟩;rcases Nat.eq_zero_or_pos l.length with h0 | h0
 · exact h0
 ·obtain⟨b,off,g,_⟩:=h4 h0;rw[hA] at g;cases g
theorem zBP (
 va:Value) (a:Mach) (w:World) (B:Nat) (hB:B≤w.heap.size) (ha:MachAt w B va a) (hlen:a.arcs.length≤1000000) :
 Calls Try.prog 18 #[va] w fun e w'=>∃ A' c',e=.returned (.slice A' (labsR a.arcs).length c')∧w'.ownsRow w.heap.size 3 1 (.slice A' (labsR a.arcs).length c') (labsR a.arcs).length (intRow (labsR a.arcs))∧Below w.heap.size w w':=by
 obtain⟨A,AF,n,c,nf,cf,rfl,HN,HF,hnc,hnfc,hnb,hnfb,hA,hF⟩:=ha;rw[HN.o] at hlen;have HRA:=zh hA;obtain⟨i0,hi0,hz0,hz1,hz2⟩:=info_parts zAH;clear hA hF HF;unfold big at hnb hnfb
 go_enter Try.func18,Try.ntmps18
 go_upto_region 3 with fail
 generalize hW2:World.alloc _ _=W2;have HBW:=zh (show Below w.heap.size w W2 by rw[← hW2];go_grown);have hz2':w.heap.size≤W2.heap.size:=HBW.o.size;have HRA2:=zh (HRA.o.below HBW.o hB);obtain⟨H,hH⟩:∃ H,H=w.heap.size:=⟨_,rfl⟩;rw[← hH] at HBW hz2' hB ⊢;have HHW:=zh hH;clear hW2 hH HRA
 go_loopw [3,10] (fun lv iv wr=>∃ (k:Nat) (A3:Option Addr) (q c3:Nat) (l:List Int),k≤n∧iv=.int .i64 k∧lv=.slice A3 q c3∧Hid (l=labsR (a.arcs.take k))∧Hid (l.length=q)∧q≤k∧Hid (wr.ownsRow H 3 1 (.slice A3 q c3) q (intRow l))∧Hid (Below H W2 wr)∧H≤wr.heap.size) (fun _ iv _=>n-(intOf iv).toNat)
 case atStart=>exact⟨0,none,0,0,[],by omega,rfl,rfl,zh rfl,zh rfl,by omega,zh (World.ownsRow_nil _ _ _ _),zh (Below.refl _ _),hz2'⟩
 case round =>
  obtain⟨k,A3,q,c3,l,hk,rfl,rfl,HL,HQ,hqk,HOWN,HBK,hzr⟩:=hrel;by_cases hkn:k<n
  ·obtain⟨bb,off,x,rfl,hbB,d0,d1,d2,d3,d4,HX⟩:=zAp (HRA2.o.below HBK.o hB) hkn;have hkl:k<a.arcs.length:=by rw[HN.o];exact hkn
   have HTK:=zh (show labsR (a.arcs.take (k+1))=if x.i=0 then l else insI x.i l by
    rw[HL.o,← zLs,wA2,wAb hkl,show a.arcs[k]=x by rw[← HX.o];simp[hkl]];rfl)
   (have lb:bb<wr.heap.size:=by omega);clear HX hkl;by_cases hx0:x.i=0
   ·rw[if_pos hx0] at HTK;go_wp2;go_roundw
    case rel=>exact⟨k+1,A3,q,c3,l,by omega,by go_num,rfl,zh HTK.o.symm,HQ,by omega,zh (HOWN.o.alloc _),zh (HBK.o.alloc (by omega) _),by simp;omega⟩
    case measure=>simp[intOf];omega
   ·rw[if_neg hx0] at HTK;have t0:decide (x.i=0)=false:=decide_eq_false hx0;go_wp2;generalize hW5:World.alloc _ _=W5;obtain⟨X9,hX9⟩:∃ z,z=wr.heap.size:=⟨_,rfl⟩;have HX5:=zh (show Blk W5 X9 64 #[.int .i64 x.f,.int .i64 x.t,.int .i64 x.i,.int .i64 x.o,.int .i64 x.w] by rw[← hW5];exact wAH hX9);have HOWN5:=zh (show W5.ownsRow H 3 1 (.slice A3 q c3) q (intRow l) by rw[← hW5];exact HOWN.o.alloc _);have HB5:=zh (show Below H W2 W5 by rw[← hW5];exact HBK.o.alloc (by omega) _);have hs5:X9<W5.heap.size:=HX5.o.lt;(have hHX:H≤X9:=by omega);have HP:=zh (zGV x.i l);simp only[← hX9];clear hW5 hX9 d0 d1 d2 d3 d4 lb HOWN HBK
    go_loopw [6] (fun jv wi=>∃ j:Nat,j≤posI x.i l∧jv=.int .i64 j∧Hid (Below W5.heap.size W5 wi)) (fun jv _=>posI x.i l-(intOf jv).toNat)
    case atStart=>exact⟨0,by omega,rfl,zh (Below.refl _ _)⟩
    case round =>
     obtain⟨j,hj,rfl,HB6⟩:=hrel;have HST:=zh (zE1 x.i l j hj);have HOWN6:=zh (zAC HOWN5.o HB6.o);have HRD:=zh (Rd.of_own HOWN6.o (HQ.o▸zAi l));have x2:=(HX5.o.below HB6.o hs5).cell 2;(have lX:X9<wr.heap.size:=by have:=HB6.o.size;omega);simp at x2;obtain⟨b1,hb1⟩:∃ b:Bool,b=decide (j<posI x.i l):=⟨_,rfl⟩;have HB1:=zh hb1;clear hb1;go_upto_region 7 with fail
     go_cut [29] from 17 to 29 (fun s29 wx=>s29=.bool b1∧Hid (∃ k,wx=wr.drewN k))
     case first =>
      by_cases hjq:j<q
      ·obtain⟨b2,o2,y,rfl,h2,c2,HY⟩:=zAO HRD.o hjq
       have hb:b1=decide (y<x.i):=by
        have h:=HST.o;rw[HQ.o,HY.o] at h;rw[HB1.o];by_cases g:y<x.i
        · rw[decide_eq_true g,decide_eq_true (h.1 ⟨hjq,g⟩)]
        · rw[decide_eq_false g,decide_eq_false (fun g'=>g (h.2 g').2)]
       subst hb;clear HY HB1;go_wp2;go_quiet (fail);go_wp2;go_meet;exact⟨rfl,zh ⟨nq,rfl⟩⟩
      ·have hb:b1=false:=by
        have h:=HST.o;rw[HQ.o] at h;rw[HB1.o,decide_eq_false (fun g'=>hjq (h.2 g').1)]
       (have hjq':j=q:=by have:=HP.o;rw[HQ.o] at this;omega);subst hb;clear hjq HB1;subst hjq';go_wp2;go_quiet (fail);go_wp2;go_meet;exact⟨rfl,zh ⟨nq,rfl⟩⟩
     case rest =>
      obtain⟨rfl,HWX⟩:=hcut;obtain⟨k1,rfl⟩:=HWX.o;clear HWX;by_cases hjp:j<posI x.i l
      ·(have hb:b1=true:=by rw[HB1.o,decide_eq_true hjp]);(have hjl:j<n:=by have:=HP.o;rw[HQ.o] at this;omega);clear HB1;subst hb;go_wp2;go_roundw
       case rel=>exact⟨j+1,by omega,by go_num,zh (zAc HB6.o k1)⟩
       case measure=>simp[intOf];omega
      ·(have hb:b1=false:=by rw[HB1.o,decide_eq_false hjp]);(have hjp':posI x.i l=j:=by omega);have hjq:=hj;rw[hjp'] at HP;(have hjq:j≤q:=by have:=HP.o;rw[HQ.o] at this;exact this);clear HB1 hj hjp HST;subst hb;obtain⟨WR,hWR⟩:∃ z,z=wr.drewN k1:=⟨_,rfl⟩;have HB7:=zh (show Below W5.heap.size W5 WR by rw[hWR];exact zAc HB6.o k1);rw[← hWR];clear hWR x2 lX HRD HOWN6 HB6;have HOWN7:=zh (zAC HOWN5.o HB7.o);have HRD7:=zh (Rd.of_own HOWN7.o (HQ.o▸zAi l));have x2:=(HX5.o.below HB7.o hs5).cell 2;(have lX:X9<WR.heap.size:=by have:=HB7.o.size;omega);simp at x2;(go_upto_region 9 with fail);obtain⟨b2,hb2⟩:∃ b:Bool,b = !decide (j<q∧l.getD j 0=x.i):=⟨_,rfl⟩;have HB2:=zh hb2;clear hb2
       go_cut [44] from 32 to 44 (fun s44 wx=>s44=.bool b2∧Hid (∃ k,wx=WR.drewN k))
       case first =>
        by_cases hjq':j<q
        ·obtain⟨b3,o3,y,rfl,h2,c2,HY⟩:=zAO HRD7.o hjq';have tj:((j:Int)==(q:Int))=false:=by simp;omega
         have hb:b2=(y != x.i):=by
          rw[HB2.o,HY.o];by_cases g:y=x.i
          · subst g;simp[hjq']
          · simp[g]
         subst hb;clear HY HB2;go_wp2;go_quiet (fail);go_wp2;go_meet;exact⟨rfl,zh ⟨nq,rfl⟩⟩
        ·(have hb:b2=true:=by rw[HB2.o];simp[hjq']);(have hjq3:j=q:=by omega);subst hb;clear hjq' hjq HB2;subst hjq3;go_wp2;go_quiet (fail);go_wp2;go_meet;exact⟨rfl,zh ⟨nq,rfl⟩⟩
       case rest =>
        obtain⟨rfl,HWX⟩:=hcut;obtain⟨k2,rfl⟩:=HWX.o;clear HWX;obtain⟨WW,hWW⟩:∃ z,z=WR.drewN k2:=⟨_,rfl⟩;have HB8:=zh (show Below W5.heap.size W5 WW by rw[hWW];exact zAc HB7.o k2);rw[← hWW];clear hWW x2 lX HRD7 HOWN7 HB7;have HOWN8:=zh (zAC HOWN5.o HB8.o);have HBW8:=zh (HB5.o.trans (HB8.o.mono (by omega)));have hz8:W5.heap.size≤WW.heap.size:=HB8.o.size;by_cases hin:j<q∧l.getD j 0=x.i
        ·(have hb:b2=false:=by rw[HB2.o];simp only[Bool.not_eq_false',decide_eq_true_eq];exact hin);have HIN:=zh (zKM (x:=x.i) (l:=l) ⟨by rw[hjp',HQ.o];exact hin.1,by rw[hjp'];exact hin.2⟩);rw[HIN.o] at HTK;subst hb;clear hin HB2 HIN;go_wp2;go_roundw
         case rel=>exact⟨k+1,A3,q,c3,l,by omega,by go_num,rfl,zh HTK.o.symm,HQ,by omega,HOWN8,HBW8,by omega⟩
         case measure=>simp[intOf];omega
        ·(have hb:b2=true:=by rw[HB2.o];simp only[Bool.not_eq_true',decide_eq_false_iff_not];exact hin);have HIN:=zh (zI2 (x:=x.i) (l:=l) (fun h=>hin (by rw[hjp',HQ.o] at h;exact h)));rw[HIN.o,hjp'] at HTK;subst hb;clear hin HB2 HIN;obtain⟨A3',c3',hv3,hqc3,_⟩:=zAa HOWN8.o;(have hqc3:q≤c3:=by injection hv3 with e1 e2 e3;omega);clear hv3;have HRD8:=zh (Rd.of_own HOWN8.o (HQ.o▸zAi l));have x2:=(HX5.o.below HB8.o hs5).cell 2;(have lX:X9<WW.heap.size:=by omega);simp at x2;obtain⟨V1,hV1,hn1⟩:=zGB (A:=A3) (c:=c3) (k:=j) hjq hqc3 (by unfold big;omega);obtain⟨V2,hV2,hn2⟩:=zG0 (A:=A3) (c:=c3) (k:=j) hjq hqc3 (by unfold big;omega);have HNW:=zh (show Nums WW WW.heap.size (.slice A3 q c3) l from ⟨_,_,_,rfl,HQ,hqc3,by unfold big;omega,HRD8.o⟩);obtain⟨A1,c1,rfl,hr1,hA1⟩:=zB2 (hn1 _ _ _ HNW.o);obtain⟨A2,c2,rfl,hr2,hA2⟩:=zB2 (hn2 _ _ _ HNW.o);have HL1:=zh (show (l.take j).length=j by rw[List.length_take,HQ.o];omega);have HL2:=zh (show (l.drop j).length=q-j by rw[List.length_drop,HQ.o]);rw[HL1.o] at hV1 hr1 hA1;rw[HL2.o] at hV2 hr2 hA2;have HR1:=zh hr1;have HR2:=zh hr2;clear hr1 hr2 hn1 hn2 HNW HRD8;go_upto_region 10 with fail
         go_region_law (first
          | (refine zAl rfl (.tmp 53) (.tmp 56) 26 rfl WW.heap.size 3 i0 _ 1 8 Try.underlying26 hi0 hz0 hz1 hz2 rfl (by omega) (.slice A7 (j+1) c7) (j+1) (intRow (l.take j)++intRow [x.i]) rfl (by exact hown7) WW.heap.size A2 (q-j) c2 (intRow (l.drop j)) (intCell (l.drop j)) rfl (by exact HR2.o.below HB7.o (wAl _)) hA2 (by rw[zAh,HL2.o,wAW]) (fun i j' hi hj=>zAi _ i j' (by rw[HL2.o];exact hi) hj) (zAg _) (by simp only[maxLen];omega) (by omega) (by have:=HB7.o.size;simp<;>omega) ?_;intro v8 w8 hown8 hg8 _;rw[show j+1+(q-j)=q+1 by omega] at hown8;obtain⟨A8,c8,rfl,hkc8,_⟩:=zAa hown8;have HB8':=zh (HB7.o.grown hg8 (by have:=HB7.o.size;simp<;>omega) (fun q hq=>(hown7.lt q hq).1)))
          | (refine zAl rfl (.tmp 49) (.tmp 52) 26 rfl WW.heap.size 3 i0 _ 1 8 Try.underlying26 hi0 hz0 hz1 hz2 rfl (by omega) (.slice A6 j c6) j (intRow (l.take j)) rfl (by exact hown6) _ (some ⟨WW.heap.size+1,0,none⟩) 1 1 (intRow [x.i]) (intCell [x.i]) rfl (by exact zBu (t:=3) (by (repeat (first | ((with_reducible refine wAH ?_);first | (with_reducible rfl) | (simp;done)) | (with_reducible refine Blk.alloc ?_ _) | (with_reducible refine Blk.drew ?_) | (with_reducible exact HE6.o))))) (by simp) (by simp[intRow]) (zAi [x.i]) (zAg _) (by simp only[maxLen];omega) (by omega) (by have:=HB6.o.size;simp<;>omega) ?_;intro v7 w7 hown7 hg7 _;obtain⟨A7,c7,rfl,hkc7,_⟩:=zAa hown7;have HB7:=zh (HB6.o.grown hg7 (by have:=HB6.o.size;simp<;>omega) (fun q hq=>(hown6.lt q hq).1)))
          | (refine zAl rfl (.tmp 49) (.tmp 52) 26 rfl WW.heap.size 3 i0 _ 1 8 Try.underlying26 hi0 hz0 hz1 hz2 rfl (by omega) (.slice A6 j c6) j (intRow (l.take j)) rfl (by exact hown6) _ (some ⟨WW.heap.size,0,none⟩) 1 1 (intRow [x.i]) (intCell [x.i]) rfl (by exact zBu (t:=3) (by (repeat (first | ((with_reducible refine wAH ?_);first | (with_reducible rfl) | (simp;done)) | (with_reducible refine Blk.alloc ?_ _) | (with_reducible refine Blk.drew ?_) | (with_reducible exact HE6.o))))) (by simp) (by simp[intRow]) (zAi [x.i]) (zAg _) (by simp only[maxLen];omega) (by omega) (by have:=HB6.o.size;simp<;>omega) ?_;intro v7 w7 hown7 hg7 _;obtain⟨A7,c7,rfl,hkc7,_⟩:=zAa hown7;have HB7:=zh (HB6.o.grown hg7 (by have:=HB6.o.size;simp<;>omega) (fun q hq=>(hown6.lt q hq).1)))
          | (refine zAl rfl (.tmp 49) (.tmp 52) 26 rfl WW.heap.size 3 i0 _ 1 8 Try.underlying26 hi0 hz0 hz1 hz2 rfl (by omega) (.slice A6 j c6) j (intRow (l.take j)) rfl (by exact hown6.alloc _) _ (some ⟨w6.heap.size,0,none⟩) 1 1 (intRow [x.i]) (intCell [x.i]) rfl (by exact zBu (t:=3) (by (repeat (first | ((with_reducible refine wAH ?_);first | (with_reducible rfl) | (simp;done)) | (with_reducible refine Blk.alloc ?_ _) | (with_reducible refine Blk.drew ?_) | (with_reducible exact HE6.o))))) (by simp) (by simp[intRow]) (zAi [x.i]) (zAg _) (by simp only[maxLen];omega) (by omega) (by have:=HB6.o.size;simp<;>omega) ?_;intro v7 w7 hown7 hg7 _;obtain⟨A7,c7,rfl,hkc7,_⟩:=zAa hown7;have HB7:=zh ((HB6.o.alloc (by have:=HB6.o.size;omega) _).grown hg7 (by have:=HB6.o.size;simp<;>omega) (fun q hq=>(hown6.lt q hq).1)))
          | (refine zAl rfl (.tmp 45) (.tmp 48) 26 rfl WW.heap.size 3 i0 _ 1 8 Try.underlying26 hi0 hz0 hz1 hz2 rfl (by omega) (.slice (some ⟨WW.heap.size,0,none⟩) 0 0) 0 [] rfl (zBS (by (repeat (first | ((with_reducible refine wAH ?_);first | (with_reducible rfl) | (simp;done)) | (with_reducible refine Blk.alloc ?_ _) | (with_reducible refine Blk.drew ?_) | (with_reducible exact HE6.o)))) (by simp)) WW.heap.size A1 j c1 (intRow (l.take j)) (intCell (l.take j)) rfl (by exact HR1.o.below (show Below WW.heap.size WW _ by go_grown) (wAl _)) hA1 (by rw[zAh,HL1.o,wAW]) (fun i j' hi hj=>zAi _ i j' (by rw[HL1.o];exact hi) hj) (zAg _) (by simp only[maxLen];omega) (by omega) (by simp<;>omega) ?_;intro v6 w6 hown6 hg6 _;simp only[wAI,wAS] at hown6;obtain⟨A6,c6,rfl,hkc6,_⟩:=zAa hown6;have HB6:=zh ((((Below.refl WW.heap.size WW).alloc (wAl _) _).alloc (by simp) _).drew.grown hg6 (by simp<;>omega) (fun q hq=>by simp[Value.ownBlock] at hq;omega));have HE6:=zh ((show Blk _ (WW.heap.size+1) 3 #[.int .i64 x.i] by exact (wAH (by simp))).grown hg6 (by simp[Value.ownBlock]));have x26:=zAb HB6.o x2 lX;have lX6:X9<w6.heap.size:=wAN lX HB6.o.size)
          | (refine zAl rfl (.tmp 45) (.tmp 48) 26 rfl WW.heap.size 3 i0 _ 1 8 Try.underlying26 hi0 hz0 hz1 hz2 rfl (by omega) (.slice (some ⟨WW.heap.size,0,none⟩) 0 0) 0 [] rfl (zBS (by (repeat (first | ((with_reducible refine wAH ?_);first | (with_reducible rfl) | (simp;done)) | (with_reducible refine Blk.alloc ?_ _) | (with_reducible refine Blk.drew ?_) | (with_reducible exact HE6.o)))) (by simp)) WW.heap.size A1 j c1 (intRow (l.take j)) (intCell (l.take j)) rfl (by exact HR1.o.below (show Below WW.heap.size WW _ by go_grown) (wAl _)) hA1 (by rw[zAh,HL1.o,wAW]) (fun i j' hi hj=>zAi _ i j' (by rw[HL1.o];exact hi) hj) (zAg _) (by simp only[maxLen];omega) (by omega) (by simp<;>omega) ?_;intro v6 w6 hown6 hg6 _;simp only[wAI,wAS] at hown6;obtain⟨A6,c6,rfl,hkc6,_⟩:=zAa hown6;have HB6:=zh (((Below.refl WW.heap.size WW).alloc (wAl _) _).drew.grown hg6 (by simp) (fun q hq=>by simp[Value.ownBlock] at hq;omega));have x26:=zAb HB6.o x2 lX;have lX6:X9<w6.heap.size:=wAN lX HB6.o.size)
          | (refine zAl rfl (.tmp 45) (.tmp 48) 26 rfl WW.heap.size 3 i0 _ 1 8 Try.underlying26 hi0 hz0 hz1 hz2 rfl (by omega) (.slice (some ⟨WW.heap.size+1,0,none⟩) 0 0) 0 [] rfl (zBS (by (repeat (first | ((with_reducible refine wAH ?_);first | (with_reducible rfl) | (simp;done)) | (with_reducible refine Blk.alloc ?_ _) | (with_reducible refine Blk.drew ?_) | (with_reducible exact HE6.o)))) (by simp)) WW.heap.size A1 j c1 (intRow (l.take j)) (intCell (l.take j)) rfl (by exact HR1.o.below (show Below WW.heap.size WW _ by go_grown) (wAl _)) hA1 (by rw[zAh,HL1.o,wAW]) (fun i j' hi hj=>zAi _ i j' (by rw[HL1.o];exact hi) hj) (zAg _) (by simp only[maxLen];omega) (by omega) (by simp<;>omega) ?_;intro v6 w6 hown6 hg6 _;simp only[wAI,wAS] at hown6;obtain⟨A6,c6,rfl,hkc6,_⟩:=zAa hown6;have HB6:=zh ((((Below.refl WW.heap.size WW).alloc (wAl _) _).alloc (by simp) _).drew.grown hg6 (by simp<;>omega) (fun q hq=>by simp[Value.ownBlock] at hq;omega));have HE6:=zh ((show Blk _ (WW.heap.size) 3 #[.int .i64 x.i] by exact ((wAH rfl).alloc _)).grown hg6 (by simp[Value.ownBlock]));have x26:=zAb HB6.o x2 lX;have lX6:X9<w6.heap.size:=wAN lX HB6.o.size))
         all_goals go_wp2
         all_goals
          go_roundw
          · exact⟨k+1,A8,q+1,c8,l.take j++[x.i]++l.drop j,by omega,by go_num,rfl,zh HTK.o.symm,zh (by simp only[wAm,wAq,List.length_nil];rw[HL1.o,HL2.o];omega),by omega,zh (zFC (show _ from (by rw[zAd,zAd];exact hown8)) (show H≤WW.heap.size by omega)),zh (HBW8.o.trans (HB8'.o.mono (by omega))),by have:=HB8'.o.size;omega⟩
          · simp[intOf];omega
  ·(obtain rfl:n=k:=by omega);have hend:a.arcs.take n=a.arcs:=wAX (by rw[HN.o];exact wAl _);have HL':=HL.o;rw[hend] at HL';have HE:=zh (show (labsR a.arcs).length=q by rw[← HL',HQ.o]);rw[HL'] at HOWN;have HBE:=zh (HBW.o.trans HBK.o);go_wp2;refine bodyPost_ret (v:=.slice A3 q c3) (by simp[results,Try.results18,go_sem]) rfl ⟨A3,c3,?_⟩;rw[HE.o,← HHW.o];exact⟨rfl,HOWN.o,HBE.o⟩
end Go.Proofs.Ytkfdhpbnphojoaa
namespace Gm
section
variable {α β:Type} [DecidableEq α] [DecidableEq β]
def addL (l:List α) (u:α):List α:=if u∈l then l else l++[u]
theorem addL_mem {l:List α} {u v:α} : v∈addL l u↔v∈l∨v=u:=by
 unfold addL;by_cases h:u∈l
 ·rw[if_pos h];exact⟨.inl,fun g=>by rcases g with g | rfl<;>assumption⟩
 · rw[if_neg h];simp
theorem zCl {l:List α} {u:α} (h:l.Nodup):(addL l u).Nodup:=by
 unfold addL;by_cases g:u∈l
 · rw[if_pos g];exact h
 ·rw[if_neg g];refine List.nodup_append.2 ⟨h,by simp,fun a ha b hb=>?_⟩;rw[wAh.1 hb];intro e;exact g (e▸ha)
theorem zKQ (l:List α) (u:α):∃ k,addL l u=l++k:=by
 unfold addL;by_cases g:u∈l
 · exact⟨[],by rw[if_pos g,List.append_nil]⟩
 · exact⟨[u],by rw[if_neg g]⟩
def bfsRow (i:Nat):List (Int×α)→List α×List Arc→List α×List Arc
 | [],st=>st
 | (x,u)::r,st=>bfsRow i r (addL st.1 u,st.2++[⟨(i:Int),((addL st.1 u).idxOf u:Nat),x,x,0⟩])
theorem zBx (i:Nat):∀ (p q:List (Int×α)) (st:List α×List Arc),bfsRow i (p++q) st=bfsRow i q (bfsRow i p st)
 | [],_,_=>rfl
 | (x,u)::p,q,st=>zBx i p q _
theorem zAS (i:Nat):∀ (p:List (Int×α)) (st:List α×List Arc),∃ k,(bfsRow i p st).1=st.1++k
 | [],st=>⟨[],by simp[bfsRow]⟩
 | (x,u)::p,st=>by
  obtain⟨k,e⟩:=zAS i p (addL st.1 u,st.2++[⟨(i:Int),((addL st.1 u).idxOf u:Nat),x,x,0⟩]);obtain⟨k',e'⟩:=zKQ st.1 u;refine⟨k'++k,?_⟩;unfold bfsRow;rw[e,← wAz,← e']
theorem zBq (i:Nat):∀ (p:List (Int×α)) (st:List α×List Arc),st.1.Nodup→(bfsRow i p st).1.Nodup
 | [],st,h=>h
 | (x,u)::p,st,h=>zBq i p _ (zCl h)
theorem zDk (i:Nat):∀ (p:List (Int×α)) (st:List α×List Arc) (v:α),v∈(bfsRow i p st).1↔v∈st.1∨∃ x,(x,v)∈p
 | [],st,v=>by simp[bfsRow]
 | (x,u)::p,st,v=>by
  unfold bfsRow;rw[zDk i p _ v,addL_mem];constructor
  ·rintro ((h | rfl) | ⟨y,h⟩)
   · exact .inl h
   · exact .inr ⟨x,wAd⟩
   · exact .inr ⟨y,wAc _ h⟩
  ·rintro (h | ⟨y,h⟩)
   · exact .inl (.inl h)
   ·rcases wAk.1 h with e | h
    · injection e with e1 e2;exact .inl (.inr e2)
    · exact .inr ⟨y,h⟩
theorem zFE {l k:List α} {u:α} (h:u∈l):(l++k).idxOf u=l.idxOf u:=by
 rw[List.idxOf_append,if_pos h]
theorem zCJ (i:Nat):∀ (p:List (Int×α)) (st:List α×List Arc),(bfsRow i p st).2=st.2++p.map fun e=>(⟨(i:Int),(((bfsRow i p st).1.idxOf e.2:Nat):Int),e.1,e.1,0⟩:Arc)
 | [],st=>by simp[bfsRow]
 | (x,u)::p,st=>by
  have ih:=zCJ i p (addL st.1 u,st.2++[⟨(i:Int),((addL st.1 u).idxOf u:Nat),x,x,0⟩]);obtain⟨k,e⟩:=zAS i p (addL st.1 u,st.2++[⟨(i:Int),((addL st.1 u).idxOf u:Nat),x,x,0⟩]);have hu:u∈addL st.1 u:=addL_mem.2 (.inr rfl);have e1:(bfsRow i p (addL st.1 u,st.2++[⟨(i:Int),((addL st.1 u).idxOf u:Nat),x,x,0⟩])).1.idxOf u=(addL st.1 u).idxOf u:=by rw[e];exact zFE hu
  show (bfsRow i p _).2=_++List.map _ ((x,u)::p)
  rw[ih,wAz,wAP]
  show _++([_]++_)=_++(_::_)
  rw[List.singleton_append];congr 2
  show (⟨(i:Int),((addL st.1 u).idxOf u:Nat),x,x,0⟩:Arc)=⟨(i:Int),(((bfsRow i p (addL st.1 u,st.2++[⟨(i:Int),((addL st.1 u).idxOf u:Nat),x,x,0⟩])).1.idxOf u:Nat):Int),x,x,0⟩
  rw[e1]
def bfsGo (stp:α→List (Int×α)) (fin:α→Bool):Nat→Nat→List α×List Arc→List Fnl→(List α×List Arc)×List Fnl
 | 0,_,st,F=>(st,F)
 | f+1,i,st,F=>match st.1[i]? with
  | none=>(st,F)
  | some s=>bfsGo stp fin f (i+1) (bfsRow i (stp s) st) (if fin s then F++[⟨(i:Int),0⟩] else F)
def bfsM (stp:α→List (Int×α)) (fin:α→Bool) (s0:α) (f:Nat):Mach :=
 ⟨((bfsGo stp fin f 0 ([s0],[]) []).1.1.length:Int),(bfsGo stp fin f 0 ([s0],[]) []).1.2,(bfsGo stp fin f 0 ([s0],[]) []).2⟩
inductive F2 (R:α→β→Prop):List α→List β→Prop
 | nil:F2 R [] []
 | cons {a b l k} : R a b→F2 R l k→F2 R (a::l) (b::k)
omit [DecidableEq α] [DecidableEq β] in
theorem F2.append {R:α→β→Prop} {l l':List α} {k k':List β} (h:F2 R l k) (h':F2 R l' k'):F2 R (l++l') (k++k'):=by
 induction h with
 | nil=>exact h'
 | cons r _ ih=>exact .cons r ih
omit [DecidableEq α] [DecidableEq β] in
theorem F2.len {R:α→β→Prop} {l:List α} {k:List β} (h:F2 R l k):l.length=k.length:=by
 induction h with
 | nil=>rfl
 | cons _ _ ih=>simp[ih]
omit [DecidableEq α] [DecidableEq β] in
theorem F2.at_ {R:α→β→Prop} {l:List α} {k:List β} (h:F2 R l k):∀ i:Nat,(l[i]? = none∧k[i]? = none)∨∃ a b,l[i]? = some a∧k[i]? = some b∧R a b:=by
 induction h with
 | nil=>intro i;exact .inl ⟨rfl,rfl⟩
 | @cons a b l k r _ ih =>
  intro i
  cases i with
  | zero=>exact .inr ⟨a,b,rfl,rfl,r⟩
  | succ i=>simpa using ih i
theorem F2.idx {R:α→β→Prop} {l:List α} {k:List β} (h:F2 R l k) {u:α} {v:β} (hu:∀ a b,a∈l→R a b→(a=u↔b=v)):(u∈l↔v∈k)∧l.idxOf u=k.idxOf v:=by
 induction h with
 | nil=>exact⟨by simp,rfl⟩
 | @cons a b l k r _ ih =>
  obtain⟨i1,i2⟩:=ih fun a b ha=>hu a b (wAc _ ha)
  have e:=hu a b wAd r;refine⟨?_,?_⟩
  ·rw[wAk,wAk,i1];constructor
   ·rintro (h | h)
    · exact .inl (e.1 h.symm).symm
    · exact .inr h
   ·rintro (h | h)
    · exact .inl (e.2 h.symm).symm
    · exact .inr h
  ·rw[wAT,wAT,i2];by_cases g:a=u
   ·have g':=e.1 g;subst g g';simp
   ·(have g':b≠v:=fun x=>g (e.2 x));(have e1:(a==u)=false:=by simpa using g);(have e2:(b==v)=false:=by simpa using g');rw[e1,e2]
def BiU (R:α→β→Prop):Prop:=∀ a b a' b',R a b→R a' b'→(a=a'↔b=b')
theorem F2.add {R:α→β→Prop} (hR:BiU R) {l:List α} {k:List β} (h:F2 R l k) {u:α} {v:β} (hr:R u v):F2 R (addL l u) (addL k v)∧(addL l u).idxOf u=(addL k v).idxOf v:=by
 have hu:=h.idx (u:=u) (v:=v) fun a b _ r=>hR a b u v r hr
 have h2:F2 R (addL l u) (addL k v):=by
  unfold addL;by_cases g:u∈l
  · rw[if_pos g,if_pos (hu.1.1 g)];exact h
  ·rw[if_neg g,if_neg fun x=>g (hu.1.2 x)];exact h.append (.cons hr .nil)
 exact⟨h2,(h2.idx fun a b _ r=>hR a b u v r hr).2⟩
theorem F2.row {R:α→β→Prop} (hR:BiU R) (i:Nat):∀ {p:List (Int×α)} {q:List (Int×β)},F2 (fun a b=>a.1=b.1∧R a.2 b.2) p q→∀ {st:List α×List Arc} {st':List β×List Arc},F2 R st.1 st'.1→st.2=st'.2→F2 R (bfsRow i p st).1 (bfsRow i q st').1∧(bfsRow i p st).2=(bfsRow i q st').2:=by
 intro p q h
 induction h with
 | nil=>intro st st' h1 h2;exact⟨h1,h2⟩
 | @cons a b p q r _ ih =>
  intro st st' h1 h2;obtain⟨x,u⟩:=a;obtain⟨y,v⟩:=b;obtain⟨e,r⟩:=r;dsimp only at e r;subst e;have h3:=h1.add hR r;unfold bfsRow;refine ih h3.1 ?_;dsimp only;rw[h3.2,h2]
theorem F2.go {R:α→β→Prop} (hR:BiU R) {stp:α→List (Int×α)} {stp':β→List (Int×β)} {fin:α→Bool} {fin':β→Bool} (h1:∀ a b,R a b→F2 (fun a b=>a.1=b.1∧R a.2 b.2) (stp a) (stp' b)) (h2:∀ a b,R a b→fin a=fin' b) :
 ∀ (f i:Nat) {st:List α×List Arc} {st':List β×List Arc} (F:List Fnl),F2 R st.1 st'.1→st.2=st'.2→F2 R (bfsGo stp fin f i st F).1.1 (bfsGo stp' fin' f i st' F).1.1∧(bfsGo stp fin f i st F).1.2=(bfsGo stp' fin' f i st' F).1.2∧(bfsGo stp fin f i st F).2=(bfsGo stp' fin' f i st' F).2
 | 0,i,st,st',F,g1,g2=>⟨g1,g2,rfl⟩
 | f+1,i,st,st',F,g1,g2=>by
  unfold bfsGo;rcases g1.at_ i with⟨e1,e2⟩ | ⟨a,b,e1,e2,r⟩
  · rw[e1,e2];exact⟨g1,g2,rfl⟩
  ·rw[e1,e2];dsimp only;have h3:=F2.row hR i (h1 a b r) g1 g2;rw[h2 a b r];exact F2.go hR h1 h2 f (i+1) _ h3.1 h3.2
theorem zFy {R:α→β→Prop} (hR:BiU R) {stp:α→List (Int×α)} {stp':β→List (Int×β)} {fin:α→Bool} {fin':β→Bool} (h1:∀ a b,R a b→F2 (fun a b=>a.1=b.1∧R a.2 b.2) (stp a) (stp' b)) (h2:∀ a b,R a b→fin a=fin' b) {s0:α} {t0:β} (h0:R s0 t0) (f:Nat):bfsM stp fin s0 f=bfsM stp' fin' t0 f:=by
 obtain⟨g1,g2,g3⟩:=F2.go hR h1 h2 f 0 (st:=([s0],[])) (st':=([t0],[])) [] (.cons h0 .nil) rfl;unfold bfsM;rw[g1.len,g2,g3]
end
section
variable {α:Type} [DecidableEq α] (stp:α→List (Int×α)) (fin:α→Bool)
inductive BR (s0:α):α→Prop
 | base:BR s0 s0
 | step {s u x} : BR s0 s→(x,u)∈stp s→BR s0 u
def rowA (l:List α) (j:Nat):List Arc:=match l[j]? with
 | none=>[]
 | some s=>(stp s).map fun e=>⟨(j:Int),((l.idxOf e.2:Nat):Int),e.1,e.1,0⟩
def finA (l:List α) (j:Nat):List Fnl:=match l[j]? with
 | none=>[]
 | some s=>if fin s then [⟨(j:Int),0⟩] else []
structure BInv (s0:α) (i:Nat) (st:List α×List Arc) (F:List Fnl):Prop where
 le:i≤st.1.length
 nod:st.1.Nodup
 first:st.1[0]? = some s0
 reach:∀ v∈st.1,BR stp s0 v
 clos:∀ j s,j<i→st.1[j]? = some s→∀ e∈stp s,e.2∈st.1
 arcs:st.2=(wAe i).flatMap (rowA stp st.1)
 fins:F=(wAe i).flatMap (finA fin st.1)
theorem BInv.start (s0:α):BInv stp fin s0 0 ([s0],[]) [] where
 le:=by show 0≤1;omega
 nod:=by simp
 first:=rfl
 reach:=fun v h=>by rw[wAh.1 h];exact .base
 clos:=fun j _ h=>by omega
 arcs:=rfl
 fins:=rfl
theorem zPE {l k:List α} {j:Nat} (hj:j<l.length) (h:∀ s,l[j]? = some s→∀ e∈stp s,e.2∈l):rowA stp (l++k) j=rowA stp l j:=by
 unfold rowA;rw[wAu hj]
 cases e:l[j]? with
 | none=>rfl
 | some s =>
  refine wAY fun x hx=>?_
  rw[zFE (h s e x hx)]
omit [DecidableEq α] in
theorem zPi {l k:List α} {j:Nat} (hj:j<l.length):finA fin (l++k) j=finA fin l j:=by
 unfold finA;rw[wAu hj]
theorem zBG {β:Type} {f g:Nat→List β} {n:Nat} (h:∀ j,j<n→f j=g j):(wAe n).flatMap f=(wAe n).flatMap g:=by
 rw[wA7,wA7];congr 1;exact wAY fun j hj=>h j (wAg.1 hj)
theorem zAT {β:Type} (f:Nat→List β) (n:Nat):(wAe (n+1)).flatMap f=(wAe n).flatMap f++f n:=by
 rw[List.range_succ,wAZ];simp
theorem BInv.next {s0 s:α} {i:Nat} {st:List α×List Arc} {F:List Fnl} (h:BInv stp fin s0 i st F) (hs:st.1[i]? = some s):BInv stp fin s0 (i+1) (bfsRow i (stp s) st) (if fin s then F++[⟨(i:Int),0⟩] else F):=by
 have hi:i<st.1.length:=(wAj.1 hs).1;obtain⟨k,ek⟩:=zAS i (stp s) st;have hmem:=zDk i (stp s) st;have hs':(bfsRow i (stp s) st).1[i]? = some s:=by rw[ek,wAu hi];exact hs
 have hat:∀ j,j<i+1→(bfsRow i (stp s) st).1[j]? = st.1[j]?:=fun j hj=>by rw[ek,wAu (by omega)]
 refine⟨?_,zBq i _ _ h.nod,?_,?_,?_,?_,?_⟩
 · rw[ek,wAm];omega
 · rw[hat 0 (by omega)];exact h.first
 ·intro v hv;rcases (hmem v).1 hv with g | ⟨x,g⟩
  · exact h.reach v g
  · exact .step (h.reach s (wAa hs)) g
 ·intro j t hj ht e he;rw[hat j hj] at ht;by_cases g:j=i
  ·subst g;rw[hs] at ht;(injection ht with ht);subst ht;exact (hmem e.2).2 (.inr ⟨e.1,he⟩)
  · exact (hmem e.2).2 (.inl (h.clos j t (by omega) ht e he))
 ·rw[zCJ,zAT,h.arcs];congr 1
  ·(refine zBG fun j hj=>?_);rw[ek];exact (zPE stp (by omega) fun t ht=>h.clos j t hj ht).symm
  ·unfold rowA;rw[hs']
 ·rw[zAT]
  have e1:(wAe i).flatMap (finA fin (bfsRow i (stp s) st).1)=F:=by
   rw[h.fins];(refine zBG fun j hj=>?_);rw[ek];exact zPi fin (by omega)
  rw[e1];unfold finA;rw[hs'];dsimp only;split<;>simp
theorem BInv.go {s0:α} {Z:List α} (hZ:∀ v,BR stp s0 v→v∈Z):∀ (f i:Nat) {st:List α×List Arc} {F:List Fnl},BInv stp fin s0 i st F→Z.length≤f+i→∃ l A F',bfsGo stp fin f i st F=((l,A),F')∧BInv stp fin s0 l.length (l,A) F'
 | 0,i,st,F,h,hf=>by
  have hl:st.1.length≤Z.length:=by
   have:∀ {l k:List α},l.Nodup→(∀ x∈l,x∈k)→l.length≤k.length:=by
    intro l
    induction l with
    | nil=>intros;exact wAM _
    | cons x l ih =>
     intro k hn hs;obtain⟨h1,h2⟩:=wAU.1 hn;have hx:=hs x wAd;(have h3:=ih (k:=k.erase x) h2 fun y hy=>(wAA (fun (e:y=x)=>h1 (e▸hy))).2 (hs y (wAc _ hy)));have h4:=wAC hx;have h5:=wAD hx;rw[wAq];omega
   exact this h.nod fun v hv=>hZ v (h.reach v hv)
  have:i=st.1.length:=by have:=h.le;omega
  subst this;exact⟨st.1,st.2,F,rfl,h⟩
 | f+1,i,st,F,h,hf=>by
  unfold bfsGo
  cases e:st.1[i]? with
  | none =>
   have:st.1.length≤i:=wAB.1 e
   have:i=st.1.length:=by have:=h.le;omega
   subst this;exact⟨st.1,st.2,F,rfl,h⟩
  | some s=>exact BInv.go hZ f (i+1) (h.next stp fin e) (by omega)
theorem zDb {s0:α} {Z:List α} (hZ:∀ v,BR stp s0 v→v∈Z) {f:Nat} (hf:Z.length≤f):∃ l:List α,l.Nodup∧l[0]? = some s0∧(∀ v,v∈l↔BR stp s0 v)∧bfsM stp fin s0 f=⟨(l.length:Int),(wAe l.length).flatMap (rowA stp l),(wAe l.length).flatMap (finA fin l)⟩:=by
 obtain⟨l,A,F,e,h⟩:=BInv.go stp fin hZ f 0 (BInv.start stp fin s0) (by omega);refine⟨l,h.nod,h.first,fun v=>⟨h.reach v,fun hv=>?_⟩,?_⟩
 ·induction hv with
  | base=>exact wAa h.first
  | @step s u x _ hx ih =>
   obtain⟨j,hj,rfl⟩:=wAJ.1 ih;exact h.clos j l[j] hj (wAb hj) (x,u) hx
 ·unfold bfsM;rw[e];have h1:=h.arcs;have h2:=h.fins;dsimp only at h1 h2 ⊢;rw[← h1,← h2]
end
abbrev Lang:=List Int→Prop
section
variable {α β:Type}
def accS (stp:α→List (Int×α)) (fin:α→Bool):α→Lang
 | s,[]=>fin s=true
 | s,x::w=>∃ u,(x,u)∈stp s∧accS stp fin u w
def incS (p:List (Int×α)):Prop:=p.Pairwise fun a b=>a.1<b.1
theorem zBi {p:List (Int×α)} (h:incS p) {x:Int} {u v:α} (hu:(x,u)∈p) (hv:(x,v)∈p):u=v:=by
 induction p with
 | nil=>cases hu
 | cons e p ih =>
  obtain⟨h1,h2⟩:=wAn.1 h;rcases wAk.1 hu with e1 | e1<;>rcases wAk.1 hv with e2 | e2
  · rw[← e1] at e2;injection e2 with _ e2;exact e2.symm
  · have:=h1 _ e2;rw[← e1] at this;exact absurd this (wBg x)
  · have:=h1 _ e1;rw[← e2] at this;exact absurd this (wBg x)
  · exact ih h2 e1 e2
theorem F2_of {R:α→β→Prop} : ∀ {p:List (Int×α)} {q:List (Int×β)},incS p→incS q→(∀ x,(∃ u,(x,u)∈p)↔∃ v,(x,v)∈q)→(∀ x u v,(x,u)∈p→(x,v)∈q→R u v)→F2 (fun a b=>a.1=b.1∧R a.2 b.2) p q
 | [],[],_,_,_,_=>.nil
 | [],(y,v)::q,_,_,h,_=>by obtain⟨u,hu⟩:=(h y).2 ⟨v,wAd⟩;cases hu
 | (x,u)::p,[],_,_,h,_=>by obtain⟨v,hv⟩:=(h x).1 ⟨u,wAd⟩;cases hv
 | (x,u)::p,(y,v)::q,hp,hq,h,hr=>by
  obtain⟨p1,p2⟩:=wAn.1 hp;obtain⟨q1,q2⟩:=wAn.1 hq
  have exy:x=y:=by
   obtain⟨v',hv'⟩:=(h x).1 ⟨u,wAd⟩;obtain⟨u',hu'⟩:=(h y).2 ⟨v,wAd⟩
   have a1:y≤x:=by
    rcases wAk.1 hv' with e | e
    · injection e with e _;omega
    · have:=q1 _ e;dsimp only at this;omega
   have a2:x≤y:=by
    rcases wAk.1 hu' with e | e
    · injection e with e _;omega
    · have:=p1 _ e;dsimp only at this;omega
   omega
  subst exy;refine .cons ⟨rfl,hr x u v wAd wAd⟩ (F2_of p2 q2 (fun z=>?_) fun z a b ha hb=>hr z a b (wAc _ ha) (wAc _ hb));constructor
  ·rintro⟨a,ha⟩;obtain⟨b,hb⟩:=(h z).1 ⟨a,wAc _ ha⟩;rcases wAk.1 hb with e | e
   ·injection e with e _
    have:=p1 _ ha
    dsimp only at this;omega
   · exact⟨b,e⟩
  ·rintro⟨a,ha⟩;obtain⟨b,hb⟩:=(h z).2 ⟨a,wAc _ ha⟩;rcases wAk.1 hb with e | e
   ·injection e with e _
    have:=q1 _ ha
    dsimp only at this;omega
   · exact⟨b,e⟩
open Classical in
noncomputable def stpQ (ls:List Int) (Q:Lang):List (Int×Lang):=ls.filterMap fun x=>if ∃ w,Q (x::w) then some (x,fun w=>Q (x::w)) else none
open Classical in
noncomputable def finQ (Q:Lang):Bool:=decide (Q [])
theorem mem_stpQ {ls:List Int} {Q:Lang} {x:Int} {U:Lang} : (x,U)∈stpQ ls Q↔x∈ls∧(∃ w,Q (x::w))∧U=fun w=>Q (x::w):=by
 unfold stpQ;rw[wAO];constructor
 ·rintro⟨y,hy,e⟩;split at e
  ·rename_i h
   (injection e with e);(injection e with e1 e2);subst e1;exact⟨hy,h,e2.symm⟩
  · cases e
 ·rintro⟨h1,h2,rfl⟩;exact⟨x,h1,by rw[if_pos h2]⟩
theorem zB0 {ls:List Int} (h:ls.Pairwise (· < ·)) (Q:Lang):incS (stpQ ls Q):=by
 unfold incS stpQ;refine List.Pairwise.filterMap _ (fun a a' haa b hb b' hb'=>?_) h;split at hb
 ·split at hb'
  ·simp at hb hb';subst hb hb';exact haa
  · cases hb'
 · cases hb
open Classical in
noncomputable def canonM (ls:List Int) (L:Lang) (f:Nat):Mach:=if ∃ w,L w then bfsM (stpQ ls) finQ L f else ⟨0,[],[]⟩
structure zL9 (stp:α→List (Int×α)) (fin:α→Bool) (ls:List Int) (I:α→Prop):Prop where
 inc:∀ s,I s→incS (stp s)
 lab:∀ s,I s→∀ x u,(x,u)∈stp s→x∈ls
 clos:∀ s,I s→∀ x u,(x,u)∈stp s→I u
 use:∀ s,I s→∃ w,accS stp fin s w
 min:∀ s t,I s→I t→(∀ w,accS stp fin s w↔accS stp fin t w)→s=t
open Classical in
theorem zKa [DecidableEq α] {stp:α→List (Int×α)} {fin:α→Bool} {ls:List Int} {I:α→Prop} (hls:ls.Pairwise (· < ·)) (h:zL9 stp fin ls I) {s0:α} (h0:I s0) (f:Nat):bfsM stp fin s0 f=canonM ls (accS stp fin s0) f:=by
 unfold canonM;rw[if_pos (h.use s0 h0)];refine zFy (R:=fun s (Q:Lang)=>I s∧Q=accS stp fin s) ?_ ?_ ?_ ⟨h0,rfl⟩ f
 ·rintro a b a' b' ⟨i1,rfl⟩ ⟨i2,rfl⟩;constructor
  · rintro rfl;rfl
  ·intro e;exact h.min a a' i1 i2 fun w=>by rw[e]
 ·rintro a b ⟨i1,rfl⟩;refine F2_of (R:=fun s (Q:Lang)=>I s∧Q=accS stp fin s) (h.inc a i1) (zB0 hls _) (fun x=>?_) fun x u v hu hv=>?_
  ·constructor
   ·rintro⟨u,hu⟩;obtain⟨w,hw⟩:=h.use u (h.clos a i1 x u hu);exact⟨_,mem_stpQ.2 ⟨h.lab a i1 x u hu,⟨w,u,hu,hw⟩,rfl⟩⟩
   ·rintro⟨v,hv⟩;obtain⟨_,⟨w,u,hu,_⟩,_⟩:=mem_stpQ.1 hv;exact⟨u,hu⟩
  ·obtain⟨_,_,rfl⟩:=mem_stpQ.1 hv;refine⟨h.clos a i1 x u hu,funext fun w=>propext ?_⟩;constructor
   ·rintro⟨u',hu',hw⟩;rw[zBi (h.inc a i1) hu hu'];exact hw
   ·intro hw;exact⟨u,hu,hw⟩
 ·rintro a b ⟨i1,rfl⟩;unfold finQ accS;simp
theorem accQ {ls:List Int} : ∀ (w:List Int) (Q:Lang),(∀ w,Q w→∀ x∈w,x∈ls)→(accS (stpQ ls) finQ Q w↔Q w)
 | [],Q,_=>by unfold accS finQ;simp
 | x::w,Q,h=>by
  unfold accS;constructor
  ·rintro⟨U,hU,hw⟩;obtain⟨_,_,rfl⟩:=mem_stpQ.1 hU;exact (accQ w _ fun v hv y hy=>h (x::v) hv y (wAc _ hy)).1 hw
  ·intro hw;refine⟨_,mem_stpQ.2 ⟨h _ hw x wAd,⟨w,hw⟩,rfl⟩,?_⟩;exact (accQ w _ fun v hv y hy=>h (x::v) hv y (wAc _ hy)).2 hw
theorem zPf {ls ls':List Int} (h1:ls.Pairwise (· < ·)) (h2:ls'.Pairwise (· < ·)) {L:Lang} (g1:∀ w,L w→∀ x∈w,x∈ls) (g2:∀ w,L w→∀ x∈w,x∈ls') (f:Nat):canonM ls L f=canonM ls' L f:=by
 classical
 by_cases hL:∃ w,L w
 ·have hLe:accS (stpQ ls) finQ L=L:=funext fun w=>propext (accQ w L g1)
  have key:∀ Q:Lang,(∀ w,Q w→∀ x∈w,x∈ls∧x∈ls')→∀ w,accS (stpQ ls) finQ Q w↔Q w:=fun Q hQ w=>accQ w Q fun w hw x hx=>(hQ w hw x hx).1
  have h:zL9 (stpQ ls) finQ ls' (fun Q=>(∃ w,Q w)∧∀ w,Q w→∀ x∈w,x∈ls∧x∈ls'):=by
   refine⟨fun s _=>zB0 h1 s,fun s hs x u hu=>?_,fun s hs x u hu=>?_,fun s hs=>?_,fun s t hs ht e=>?_⟩
   ·obtain⟨_,⟨w,hw⟩,_⟩:=mem_stpQ.1 hu;exact (hs.2 _ hw x wAd).2
   ·obtain⟨_,hw,rfl⟩:=mem_stpQ.1 hu;exact⟨hw,fun v hv y hy=>hs.2 _ hv y (wAc _ hy)⟩
   ·obtain⟨w,hw⟩:=hs.1;exact⟨w,(key s hs.2 w).2 hw⟩
   · exact funext fun w=>propext (((key s hs.2 w).symm.trans (e w)).trans (key t ht.2 w))
  have:=zKa h2 h (s0:=L) ⟨hL,fun w hw x hx=>⟨g1 w hw x hx,g2 w hw x hx⟩⟩ f
  rw[hLe] at this;rw[← this];unfold canonM;rw[if_pos hL]
 ·unfold canonM;rw[if_neg hL,if_neg hL]
end
section
variable {γ:Type} [DecidableEq γ]
def numD (K:Nat→γ):Nat→List γ
 | 0=>[]
 | n+1=>addL (numD K n) (K n)
theorem zGo (K:Nat→γ):∀ n,(numD K n).Nodup
 | 0=>by unfold numD;simp
 | n+1=>zCl (zGo K n)
theorem mem_numD {K:Nat→γ} {k:γ} : ∀ {n:Nat},k∈numD K n↔∃ s,s<n∧K s=k
 | 0=>by unfold numD;simp
 | n+1=>by
  unfold numD;rw[addL_mem,mem_numD (n:=n)];constructor
  ·rintro (⟨s,h,e⟩ | rfl)
   · exact⟨s,by omega,e⟩
   · exact⟨n,by omega,rfl⟩
  ·rintro⟨s,h,e⟩;by_cases g:s=n
   · subst g;exact .inr e.symm
   · exact .inl ⟨s,by omega,e⟩
theorem zJ8 {K:Nat→γ} {k:γ} {n:Nat} (h:k∈numD K n) (m:Nat):(numD K (n+m)).idxOf k=(numD K n).idxOf k:=by
 induction m with
 | zero=>rfl
 | succ m ih =>
  show (addL (numD K (n+m)) (K (n+m))).idxOf k=_
  obtain⟨r,e⟩:=zKQ (numD K (n+m)) (K (n+m))
  have hm:k∈numD K (n+m):=by
   obtain⟨s,hs,e⟩:=mem_numD.1 h;exact mem_numD.2 ⟨s,by omega,e⟩
  rw[e,zFE hm,ih]
theorem zKI (K:Nat→γ):∀ n,(numD K n).length≤n
 | 0=>wAl _
 | n+1=>by
  unfold numD addL
  have:=zKI K n
  split
  · omega
  · rw[wAm,List.length_singleton];omega
theorem zHb {l k:List Nat} (hn:l.Nodup) (hs:∀ x∈l,x∈k):l.length≤k.length:=by
 induction l generalizing k with
 | nil=>exact wAM _
 | cons x l ih =>
  obtain⟨h1,h2⟩:=wAU.1 hn;have hx:=hs x wAd;have h3:=ih (k:=k.erase x) h2 fun y hy=>(wAA (fun (e:y=x)=>h1 (e▸hy))).2 (hs y (wAc _ hy))
  have h4:=wAC hx;have h5:=wAD hx;rw[wAq];omega
end
def tstp (ls:List Int) (row:Nat→List Int) (s:Nat):List (Int×Nat):=(ls.zip (row s)).filterMap fun e=>if 0≤e.2 then some (e.1,e.2.toNat) else none
theorem mem_tstp {ls:List Int} {row:Nat→List Int} {s:Nat} {x:Int} {u:Nat} : (x,u)∈tstp ls row s↔∃ (j:Nat) (tgt:Int),ls[j]? = some x∧(row s)[j]? = some tgt∧0≤tgt∧u=tgt.toNat:=by
 unfold tstp;rw[wAO];constructor
 ·rintro⟨⟨y,tgt⟩,he,e⟩;dsimp only at e;split at e
  ·rename_i h
   (injection e with e);(injection e with e1 e2);subst e1;obtain⟨j,hj⟩:=wAK he;rw[wAE] at hj;exact⟨j,tgt,hj.1,hj.2,h,e2.symm⟩
  · cases e
 ·rintro⟨j,tgt,h1,h2,h3,rfl⟩;refine⟨(x,tgt),?_,by simp[h3]⟩
  have:(ls.zip (row s))[j]? = some (x,tgt):=by rw[wAE];exact⟨h1,h2⟩
  exact wAa this
theorem zI0:∀ {l:List Int},l.Pairwise (· < ·)→∀ r:List Int,(l.zip r).Pairwise fun a b=>a.1<b.1
 | [],_,r=>by simp
 | x::l,h,[]=>by simp
 | x::l,h,y::r=>by
  obtain⟨h1,h2⟩:=wAn.1 h;rw[List.zip_cons_cons];refine wAn.2 ⟨fun b hb=>h1 b.1 ?_,zI0 h2 r⟩;obtain⟨bx,bz⟩:=b;exact (wBd hb).1
section
variable (ls:List Int) (row:Nat→List Int) (fin:Nat→Bool) (n:Nat)
def keyK (c:Nat→Nat) (s:Nat):Nat×Bool×List Int:=(c s,fin s,(row s).map fun t=>if 0≤t then ((c t.toNat:Nat):Int) else -1)
def renK (c:Nat→Nat) (s:Nat):Nat:=(numD (keyK row fin c) n).idxOf (keyK row fin c s)
def cntC (c:Nat→Nat):Nat:=(numD (keyK row fin c) n).length
structure Tab:Prop where
 inc:ls.Pairwise (· < ·)
 len:∀ s,s<n→(row s).length=ls.length
 rng:∀ s,s<n→∀ t∈row s,t<(n:Int)
 use:∀ s,s<n→∀ t∈row s,0≤t→∃ w,accS (tstp ls row) fin t.toNat w
structure Cls (c:Nat→Nat) (k:Nat):Prop where
 onto:∀ i,i<k→∃ s,s<n∧c s=i
 low:0<k→∀ s,s<n→c s<k
 same:∀ s t,s<n→t<n→(∀ w,accS (tstp ls row) fin s w↔accS (tstp ls row) fin t w)→c s=c t
theorem Cls.start:Cls ls row fin n (fun _=>0) 0:=⟨fun i h=>by omega,fun h=>by omega,fun _ _ _ _ _=>rfl⟩
variable {ls row fin n}
theorem zJL (hT:Tab ls row fin n) {c:Nat→Nat} {k:Nat} (h:Cls ls row fin n c k) {s t:Nat} (hs:s<n) (ht:t<n) (e:∀ w,accS (tstp ls row) fin s w↔accS (tstp ls row) fin t w):keyK row fin c s=keyK row fin c t:=by
 have ef:fin s=fin t:=by
  have:=e []
  unfold accS at this;cases h1:fin s<;>cases h2:fin t<;>simp_all
 have go:∀ {s t:Nat},s<n→t<n→(∀ w,accS (tstp ls row) fin s w↔accS (tstp ls row) fin t w)→∀ (j:Nat) (p q:Int),(row s)[j]? = some p→(row t)[j]? = some q→0≤p→0≤q∧c p.toNat=c q.toNat:=by
  intro s t hs ht e j p q hp hq h0;have hpm:=wAa hp;have hqm:=wAa hq;obtain⟨w,hw⟩:=hT.use s hs p hpm h0;have hj:j<ls.length:=by rw[← hT.len s hs];exact (wAj.1 hp).1
  have hx:ls[j]? = some ls[j]:=wAb hj
  have hin:∀ (s:Nat),s<n→incS (tstp ls row s):=fun s _=>by
   unfold incS tstp;refine List.Pairwise.filterMap _ (R:=fun a b:Int×Int=>a.1<b.1) (fun a a' haa b hb b' hb'=>?_) ?_
   ·split at hb
    ·split at hb'
     ·simp at hb hb';subst hb hb';exact haa
     · cases hb'
    · cases hb
   · exact zI0 hT.inc (row s)
  have hs1:(ls[j],p.toNat)∈tstp ls row s:=mem_tstp.2 ⟨j,p,hx,hp,h0,rfl⟩;obtain⟨u,hu,hw2⟩:=(e (ls[j]::w)).1 ⟨p.toNat,hs1,hw⟩;obtain⟨j2,q2,g1,g2,g3,rfl⟩:=mem_tstp.1 hu
  have ej:j2=j:=by
   have hj2:=(wAj.1 g1);obtain⟨hl2,he2⟩:=hj2;(have hnd:ls.Nodup:=hT.inc.imp fun {a b} h e=>by omega);exact (wA8 hnd).1 he2
  subst ej;rw[hq] at g2;injection g2 with g2
  subst g2;refine⟨g3,h.same _ _ (by have:=hT.rng s hs p hpm;omega) (by have:=hT.rng t ht q hqm;omega) fun v=>?_⟩;have e2:=e (ls[j2]::v);unfold accS at e2;constructor
  ·intro hv;obtain⟨u,hu,hv2⟩:=e2.1 ⟨p.toNat,hs1,hv⟩;rw[zBi (hin t ht) (mem_tstp.2 ⟨j2,q,hx,hq,g3,rfl⟩) hu];exact hv2
  ·intro hv;obtain⟨u,hu,hv2⟩:=e2.2 ⟨q.toNat,mem_tstp.2 ⟨j2,q,hx,hq,g3,rfl⟩,hv⟩;rw[zBi (hin s hs) hs1 hu];exact hv2
 unfold keyK;rw[h.same s t hs ht e,ef];congr 2;refine wA3 fun j=>?_
 rw[wAr,wAr];have l1:=hT.len s hs;have l2:=hT.len t ht;by_cases hj:j<ls.length
 ·have e1:(row s)[j]? = some (row s)[j]:=wAb (by omega);have e2:(row t)[j]? = some (row t)[j]:=wAb (by omega);rw[e1,e2];simp only[wBe];congr 1;by_cases h0:0≤(row s)[j]
  ·obtain⟨g1,g2⟩:=go hs ht e j _ _ e1 e2 h0;rw[if_pos h0,if_pos g1,g2]
  ·by_cases h1:0≤(row t)[j]
   · exact absurd (go ht hs (fun w=>(e w).symm) j _ _ e2 e1 h1).1 h0
   · rw[if_neg h0,if_neg h1]
 · rw[wAt (by omega),wAt (by omega)]
theorem zJX {c:Nat→Nat} {s t:Nat} (hs:s<n) (ht:t<n):renK row fin n c s=renK row fin n c t↔keyK row fin c s=keyK row fin c t:=by
 unfold renK;have h1:keyK row fin c s∈numD (keyK row fin c) n:=mem_numD.2 ⟨s,hs,rfl⟩;have h2:keyK row fin c t∈numD (keyK row fin c) n:=mem_numD.2 ⟨t,ht,rfl⟩;constructor
 ·intro e;have g1:=wAF (wAs h1);have g2:=wAF (wAs h2);rw[← g1,← g2];congr 1
 · intro e;rw[e]
theorem Cls.next (hT:Tab ls row fin n) {c:Nat→Nat} {k:Nat} (h:Cls ls row fin n c k):Cls ls row fin n (renK row fin n c) (cntC row fin n c) where
 onto:=fun i hi=>by
  have hm:(numD (keyK row fin c) n)[i]'hi∈numD (keyK row fin c) n:=wAR _;obtain⟨s,hs,e⟩:=mem_numD.1 hm;refine⟨s,hs,?_⟩;unfold renK;rw[e];exact (zGo (keyK row fin c) n).idxOf_getElem i hi
 low:=fun _ s hs=>wAs (mem_numD.2 ⟨s,hs,rfl⟩)
 same:=fun s t hs ht e=>(zJX hs ht).2 (zJL hT h hs ht e)
theorem zP6 {c:Nat→Nat} {k:Nat} (h:Cls ls row fin n c k):k≤cntC row fin n c:=by
 have:=zHb (l:=wAe k) (k:=(numD (keyK row fin c) n).map (·.1)) wA9 fun i hi=>by
  obtain⟨s,hs,e⟩:=h.onto i (wAg.1 hi);exact wAf.2 ⟨_,mem_numD.2 ⟨s,hs,rfl⟩,e⟩
 rw[wAw,wAv] at this;exact this
theorem zO6 {c:Nat→Nat} {k:Nat} (h:Cls ls row fin n c k) (e:cntC row fin n c=k) {s t:Nat} (hs:s<n) (ht:t<n) (hc:c s=c t):keyK row fin c s=keyK row fin c t:=by
 refine wAp fun hne=>?_
 have hmt:keyK row fin c t∈numD (keyK row fin c) n:=mem_numD.2 ⟨t,ht,rfl⟩
 have:=zHb (l:=wAe k) (k:=((numD (keyK row fin c) n).erase (keyK row fin c t)).map (·.1)) wA9 fun i hi=>by
  obtain⟨r,hr,er⟩:=h.onto i (wAg.1 hi);by_cases g:keyK row fin c r=keyK row fin c t
  ·refine wAf.2 ⟨keyK row fin c s,(wAA hne).2 (mem_numD.2 ⟨s,hs,rfl⟩),?_⟩;have h1:c r=c t:=congrArg (·.1) g
   show c s=i
   omega
  · exact wAf.2 ⟨_,(wAA g).2 (mem_numD.2 ⟨r,hr,rfl⟩),er⟩
 rw[wAw,wAv,wAC hmt] at this;have h2:=wAD hmt;unfold cntC at e;omega
theorem zHg (hT:Tab ls row fin n) {c:Nat→Nat} (h:∀ s t,s<n→t<n→c s=c t→keyK row fin c s=keyK row fin c t):∀ (w:List Int) (s t:Nat),s<n→t<n→c s=c t→accS (tstp ls row) fin s w→accS (tstp ls row) fin t w
 | [],s,t,hs,ht,e,hw=>by
  have hk:=h s t hs ht e
  have:fin s=fin t:=congrArg (·.2.1) hk
  unfold accS at hw ⊢;rw[← this];exact hw
 | x::w,s,t,hs,ht,e,hw=>by
  have hk:=h s t hs ht e;have hr:(row s).map (fun t=>if 0≤t then ((c t.toNat:Nat):Int) else -1)=(row t).map (fun t=>if 0≤t then ((c t.toNat:Nat):Int) else -1):=congrArg (·.2.2) hk;obtain⟨u,hu,hw⟩:=hw;obtain⟨j,p,h1,h2,h3,rfl⟩:=mem_tstp.1 hu;have hj:j<ls.length:=(wAj.1 h1).1;have e2:(row t)[j]? = some ((row t)[j]'(by rw[hT.len t ht];exact hj)):=wAb _;have hq:=congrArg (·[j]?) hr;simp only[wAr,h2,e2,wBe,Option.some.injEq] at hq;generalize (row t)[j]'(by rw[hT.len t ht];exact hj)=q at e2 hq;rw[if_pos h3] at hq;by_cases hq0:0≤q
  ·rw[if_pos hq0] at hq;refine⟨q.toNat,mem_tstp.2 ⟨j,q,h1,e2,hq0,rfl⟩,?_⟩;exact zHg hT h w _ _ (by have:=hT.rng s hs p (wAa h2);omega) (by have:=hT.rng t ht q (wAa e2);omega) (by omega) hw
  · rw[if_neg hq0] at hq;omega
theorem zQR (hT:Tab ls row fin n) {c:Nat→Nat} {k:Nat} (h:Cls ls row fin n c k) (e:cntC row fin n c=k):∀ s t,s<n→t<n→(renK row fin n c s=renK row fin n c t↔∀ w,accS (tstp ls row) fin s w↔accS (tstp ls row) fin t w):=fun s t hs ht=>by
 have hst:=fun s t hs ht=>zO6 h e (s:=s) (t:=t) hs ht
 rw[zJX hs ht];constructor
 ·intro hk w;have hc:c s=c t:=congrArg (·.1) hk;exact⟨zHg hT hst w s t hs ht hc,zHg hT hst w t s ht hs hc.symm⟩
 · exact zJL hT h hs ht
end
section
variable {α:Type} [DecidableEq α]
theorem zGn {stp:α→List (Int×α)} {fin:α→Bool} (d:Nat):∀ (f i:Nat) {st:List α×List Arc} {F:List Fnl},(bfsGo stp fin f i st F).1.1.length≤f+i→i≤st.1.length→bfsGo stp fin (f+d) i st F=bfsGo stp fin f i st F
 | 0,i,st,F,h,hi=>by
  have h:st.1.length≤0+i:=h;have e:st.1[i]? = none:=wAt (by omega)
  cases d with
  | zero=>rfl
  | succ d =>
   show bfsGo stp fin (0+(d+1)) i st F=(st,F)
   rw[show 0+(d+1)=d+1 by omega];unfold bfsGo;rw[e]
 | f+1,i,st,F,h,hi=>by
  rw[show f+1+d=(f+d)+1 by omega];unfold bfsGo at h ⊢
  cases e:st.1[i]? with
  | none=>rfl
  | some s =>
   rw[e] at h;dsimp only at h ⊢;have hl:i<st.1.length:=(wAj.1 e).1;obtain⟨k,ek⟩:=zAS i (stp s) st;exact zGn d f (i+1) (by omega) (by rw[ek,wAm];omega)
theorem zDS {stp:α→List (Int×α)} {fin:α→Bool} {s0:α} {Z:List α} (hZ:∀ v,BR stp s0 v→v∈Z) {f f':Nat} (hf:Z.length≤f) (hf':Z.length≤f'):bfsM stp fin s0 f=bfsM stp fin s0 f':=by
 have key:∀ f,Z.length≤f→bfsM stp fin s0 f=bfsM stp fin s0 Z.length:=fun f hf=>by
  obtain⟨l,A,F,e,h⟩:=BInv.go stp fin hZ Z.length 0 (BInv.start stp fin s0) (by omega)
  have hl:l.length≤Z.length:=by
   have:∀ {l k:List α},l.Nodup→(∀ x∈l,x∈k)→l.length≤k.length:=by
    intro l
    induction l with
    | nil=>intros;exact wAM _
    | cons x l ih =>
     intro k hn hs;obtain⟨h1,h2⟩:=wAU.1 hn;have hx:=hs x wAd;(have h3:=ih (k:=k.erase x) h2 fun y hy=>(wAA (fun (e:y=x)=>h1 (e▸hy))).2 (hs y (wAc _ hy)));have h4:=wAC hx;have h5:=wAD hx;rw[wAq];omega
   exact this h.nod fun v hv=>hZ v (h.reach v hv)
  have g:=zGn (stp:=stp) (fin:=fin) (f-Z.length) Z.length 0 (st:=([s0],[])) (F:=[]) (by rw[e];show l.length≤_;omega) (wAM _);rw[show Z.length+(f-Z.length)=f by omega] at g;unfold bfsM;rw[g]
 rw[key f hf,key f' hf']
end
section
variable {ls:List Int} {row:Nat→List Int} {fin:Nat→Bool} {n:Nat}
theorem zD2 (h:ls.Pairwise (· < ·)) (s:Nat):incS (tstp ls row s):=by
 unfold incS tstp;refine List.Pairwise.filterMap _ (R:=fun a b:Int×Int=>a.1<b.1) (fun a a' haa b hb b' hb'=>?_) (zI0 h (row s));split at hb
 ·split at hb'
  ·simp at hb hb';subst hb hb';exact haa
  · cases hb'
 · cases hb
theorem zES (hT:Tab ls row fin n) {s:Nat} (hs:s<n) {x:Int} {u:Nat} (h:(x,u)∈tstp ls row s):u<n∧x∈ls∧∃ w,accS (tstp ls row) fin u w:=by
 obtain⟨j,p,h1,h2,h3,rfl⟩:=mem_tstp.1 h;have hm:=wAa h2;exact⟨by have:=hT.rng s hs p hm;omega,wAa h1,hT.use s hs p hm h3⟩
def cstp (ls:List Int) (row:Nat→List Int) (c rep:Nat→Nat) (k:Nat):List (Int×Nat):=(tstp ls row (rep k)).map fun e=>(e.1,c e.2)
theorem zDz (hT:Tab ls row fin n) {c rep:Nat→Nat} (hc:∀ s t,s<n→t<n→(c s=c t↔∀ w,accS (tstp ls row) fin s w↔accS (tstp ls row) fin t w)) (hr:∀ s,s<n→rep (c s)<n∧c (rep (c s))=c s) {s0:Nat} (h0:s0<n) (hu:∃ w,accS (tstp ls row) fin s0 w) {f:Nat} (hf:n≤f) (f':Nat) (hf':n≤f') :
 bfsM (cstp ls row c rep) (fun k=>fin (rep k)) (c s0) f=canonM ls (accS (tstp ls row) fin s0) f':=by
 have hlr:∀ s,s<n→∀ w,accS (tstp ls row) fin (rep (c s)) w↔accS (tstp ls row) fin s w:=fun s hs w=>((hc _ _ (hr s hs).1 hs).1 (hr s hs).2) w
 have key:∀ (w:List Int) (s:Nat),s<n→(accS (cstp ls row c rep) (fun k=>fin (rep k)) (c s) w↔accS (tstp ls row) fin s w):=by
  intro w
  induction w with
  | nil =>
   intro s hs;rw[← hlr s hs];exact Iff.rfl
  | cons x w ih =>
   intro s hs;rw[← hlr s hs];constructor
   ·rintro⟨u,hu,hw⟩;obtain⟨⟨y,v⟩,hv,e⟩:=wAf.1 hu;(injection e with e1 e2);dsimp only at e1 e2;subst e1 e2;have hvn:=(zES hT (hr s hs).1 hv).1;exact⟨v,hv,(ih v hvn).1 hw⟩
   ·rintro⟨v,hv,hw⟩;have hvn:=(zES hT (hr s hs).1 hv).1;exact⟨c v,wAf.2 ⟨(x,v),hv,rfl⟩,(ih v hvn).2 hw⟩
 have hL:zL9 (cstp ls row c rep) (fun k=>fin (rep k)) ls (fun k=>∃ s,s<n∧c s=k∧∃ w,accS (tstp ls row) fin s w):=by
  refine⟨?_,?_,?_,?_,?_⟩
  ·rintro k ⟨s,hs,rfl,_⟩;unfold incS cstp;exact wA4.2 ((zD2 hT.inc _).imp fun h=>h)
  ·rintro k ⟨s,hs,rfl,_⟩ x u hu;obtain⟨⟨y,v⟩,hv,e⟩:=wAf.1 hu;(injection e with e1 e2);dsimp only at e1 e2;subst e1;exact (zES hT (hr s hs).1 hv).2.1
  ·rintro k ⟨s,hs,rfl,_⟩ x u hu;obtain⟨⟨y,v⟩,hv,e⟩:=wAf.1 hu;(injection e with e1 e2);have g:=zES hT (hr s hs).1 hv;exact⟨v,g.1,e2,g.2.2⟩
  ·rintro k ⟨s,hs,rfl,w,hw⟩;exact⟨w,(key w s hs).2 hw⟩
  ·rintro k k' ⟨s,hs,rfl,_⟩ ⟨t,ht,rfl,_⟩ e;exact (hc s t hs ht).2 fun w=>((key w s hs).symm.trans (e w)).trans (key w t ht)
 have hI:∃ s,s<n∧c s=c s0∧∃ w,accS (tstp ls row) fin s w:=⟨s0,h0,rfl,hu⟩;have e1:accS (cstp ls row c rep) (fun k=>fin (rep k)) (c s0)=accS (tstp ls row) fin s0:=funext fun w=>propext (key w s0 h0)
 have e2:=zKa hT.inc hL hI f';rw[e1] at e2;rw[← e2]
 have hZ:∀ v,BR (cstp ls row c rep) (c s0) v→v∈(wAe n).map c:=by
  have:∀ v,BR (cstp ls row c rep) (c s0) v→∃ s,s<n∧c s=v∧∃ w,accS (tstp ls row) fin s w:=fun v hv=>by
   induction hv with
   | base=>exact hI
   | @step s u x _ hx ih=>exact hL.clos _ ih x u hx
  intro v hv;obtain⟨s,hs,e,_⟩:=this v hv;exact wAf.2 ⟨s,wAg.2 hs,e⟩
 exact zDS hZ (by rw[wAv,wAw];exact hf) (by rw[wAv,wAw];exact hf')
def cleanR (U:Nat→Bool) (r:List Int):List Int:=r.map fun t=>if 0≤t∧U t.toNat=false then -1 else t
theorem zCh {U:Nat→Bool} (hr:∀ s,s<n→∀ t∈row s,t<(n:Int)) (hU:∀ s,s<n→(U s=true↔∃ w,accS (tstp ls row) fin s w)):∀ (w:List Int) (s:Nat),s<n→(accS (tstp ls fun s=>cleanR U (row s)) fin s w↔accS (tstp ls row) fin s w)
 | [],s,hs=>Iff.rfl
 | x::w,s,hs=>by
  constructor
  ·rintro⟨u,hu,hw⟩;obtain⟨j,p,h1,h2,h3,rfl⟩:=mem_tstp.1 hu;unfold cleanR at h2;rw[wAr] at h2;obtain⟨q,hq,e⟩:=Option.map_eq_some_iff.1 h2;split at e
   · omega
   ·subst e;have hm:=wAa hq;exact⟨q.toNat,mem_tstp.2 ⟨j,q,h1,hq,h3,rfl⟩,(zCh hr hU w _ (by have:=hr s hs q hm;omega)).1 hw⟩
  ·rintro⟨u,hu,hw⟩;obtain⟨j,p,h1,h2,h3,rfl⟩:=mem_tstp.1 hu;have hm:=wAa h2;(have hpn:p.toNat<n:=by have:=hr s hs p hm;omega);have hUp:U p.toNat=true:=(hU _ hpn).2 ⟨w,hw⟩;refine⟨p.toNat,mem_tstp.2 ⟨j,p,h1,?_,h3,rfl⟩,(zCh hr hU w _ hpn).2 hw⟩;unfold cleanR;rw[wAr,h2];simp[hUp]
theorem zIP {U:Nat→Bool} (hi:ls.Pairwise (· < ·)) (hlen:∀ s,s<n→(row s).length=ls.length) (hr:∀ s,s<n→∀ t∈row s,t<(n:Int)) (hU:∀ s,s<n→(U s=true↔∃ w,accS (tstp ls row) fin s w)):Tab ls (fun s=>cleanR U (row s)) fin n where
 inc:=hi
 len:=fun s hs=>by unfold cleanR;rw[wAv];exact hlen s hs
 rng:=fun s hs t ht=>by
  obtain⟨p,hp,e⟩:=wAf.1 ht
  have:=hr s hs p hp
  split at e<;>omega
 use:=fun s hs t ht h0=>by
  obtain⟨p,hp,e⟩:=wAf.1 ht;split at e
  · omega
  ·rename_i g
   subst e;have hpn:p.toNat<n:=by have:=hr s hs p hp;omega
   have hUp:U p.toNat=true:=by
    cases h:U p.toNat
    · exact absurd ⟨h0,h⟩ g
    · rfl
   obtain⟨w,hw⟩:=(hU _ hpn).1 hUp;exact⟨w,(zCh hr hU w _ hpn).2 hw⟩
end
section
variable {ls:List Int} {row:Nat→List Int} {fin:Nat→Bool} {n:Nat}
def SameL (ls:List Int) (row:Nat→List Int) (fin:Nat→Bool) (p q:Nat):Prop:=∀ w,accS (tstp ls row) fin p w↔accS (tstp ls row) fin q w
theorem SameL.symm {p q:Nat} (h:SameL ls row fin p q):SameL ls row fin q p:=fun w=>(h w).symm
theorem SameL.trans {p q r:Nat} (h:SameL ls row fin p q) (h':SameL ls row fin q r):SameL ls row fin p r:=fun w=>(h w).trans (h' w)
theorem zLJ {p q:Nat} (h:SameL ls row fin p q):fin p=fin q:=by
 have:=h []
 unfold accS at this;cases h1:fin p<;>cases h2:fin q<;>simp_all
theorem zD7 (hT:Tab ls row fin n) {p q:Nat} (hp:p<n) (hq:q<n) (h:SameL ls row fin p q) {j:Nat} {a b:Int} (ha:(row p)[j]? = some a) (hb:(row q)[j]? = some b) (h0:0≤a):0≤b∧SameL ls row fin a.toNat b.toNat:=by
 obtain⟨w,hw⟩:=hT.use p hp a (wAa ha) h0;have hj:j<ls.length:=by rw[← hT.len p hp];exact (wAj.1 ha).1
 have hx:ls[j]? = some ls[j]:=wAb hj;have hs1:(ls[j],a.toNat)∈tstp ls row p:=mem_tstp.2 ⟨j,a,hx,ha,h0,rfl⟩;obtain⟨u,hu,hw2⟩:=(h (ls[j]::w)).1 ⟨a.toNat,hs1,hw⟩;obtain⟨j2,q2,g1,g2,g3,rfl⟩:=mem_tstp.1 hu
 have ej:j2=j:=by
  obtain⟨hl2,he2⟩:=wAj.1 g1;have hnd:ls.Nodup:=hT.inc.imp fun {a b} h e=>by omega
  exact (wA8 hnd).1 he2
 subst ej;rw[hb] at g2;injection g2 with g2
 subst g2;refine⟨g3,fun v=>?_⟩;have e2:=h (ls[j2]::v);unfold accS at e2;constructor
 ·intro hv;obtain⟨u,hu,hv2⟩:=e2.1 ⟨a.toNat,hs1,hv⟩;rw[zBi (zD2 hT.inc q) (mem_tstp.2 ⟨j2,b,hx,hb,g3,rfl⟩) hu];exact hv2
 ·intro hv;obtain⟨u,hu,hv2⟩:=e2.2 ⟨b.toNat,mem_tstp.2 ⟨j2,b,hx,hb,g3,rfl⟩,hv⟩;rw[zBi (zD2 hT.inc p) hs1 hu];exact hv2
def differK (row:Nat→List Int) (fin:Nat→Bool) (ap:Nat→Nat→Bool) (p q:Nat):Prop:=fin p≠fin q∨∃ (j:Nat) (a b:Int),(row p)[j]? = some a∧(row q)[j]? = some b∧((a<0∧¬ b<0)∨(¬ a<0∧b<0)∨(0≤a∧ap a.toNat b.toNat=true))
def Sound (ls:List Int) (row:Nat→List Int) (fin:Nat→Bool) (n:Nat) (ap:Nat→Nat→Bool):Prop:=∀ p q,p<n→q<n→ap p q=true→¬ SameL ls row fin p q
theorem zIJ (hT:Tab ls row fin n) {ap:Nat→Nat→Bool} (h:Sound ls row fin n ap) {p q:Nat} (hp:p<n) (hq:q<n) (hd:differK row fin ap p q):¬ SameL ls row fin p q:=by
 intro hs;rcases hd with hf | ⟨j,a,b,ha,hb,hd⟩
 · exact hf (zLJ hs)
 ·rcases hd with⟨h1,h2⟩ | ⟨h1,h2⟩ | ⟨h1,h2⟩
  · have:=(zD7 hT hq hp hs.symm hb ha (by omega)).1;omega
  · have:=(zD7 hT hp hq hs ha hb (by omega)).1;omega
  ·obtain⟨h3,h4⟩:=zD7 hT hp hq hs ha hb h1;exact h _ _ (by have:=hT.rng p hp a (wAa ha);omega) (by have:=hT.rng q hq b (wAa hb);omega) h2 h4
theorem zLU (hT:Tab ls row fin n) {ap:Nat→Nat→Bool} (h:Sound ls row fin n ap) (hd:∀ p q,p<n→q<n→ap p q=false→¬ differK row fin ap p q):∀ p q,p<n→q<n→(ap p q=false↔SameL ls row fin p q):=by
 have go:∀ (w:List Int) (p q:Nat),p<n→q<n→ap p q=false→(accS (tstp ls row) fin p w↔accS (tstp ls row) fin q w):=by
  intro w
  induction w with
  | nil =>
   intro p q hp hq e
   have:fin p=fin q:=wAp fun g=>hd p q hp hq e (.inl g)
   unfold accS;rw[this]
  | cons x w ih =>
   intro p q hp hq e;have hnd:ls.Nodup:=hT.inc.imp fun {a b} h e=>by omega
   have step:∀ p q,p<n→q<n→(∀ (j:Nat) (a b:Int),(row p)[j]? = some a→(row q)[j]? = some b→0≤a→0≤b∧∀ w',w'=w→(accS (tstp ls row) fin a.toNat w↔accS (tstp ls row) fin b.toNat w))→accS (tstp ls row) fin p (x::w)→accS (tstp ls row) fin q (x::w):=by
    intro p q hp hq hh hw;obtain⟨u,hu,hw⟩:=hw;obtain⟨j,a,g1,g2,g3,rfl⟩:=mem_tstp.1 hu;have hj:j<ls.length:=(wAj.1 g1).1;have e2:(row q)[j]? = some ((row q)[j]'(by rw[hT.len q hq];exact hj)):=wAb _;obtain⟨g4,g5⟩:=hh j a _ g2 e2 g3;exact⟨_,mem_tstp.2 ⟨j,_,g1,e2,g4,rfl⟩,(g5 w rfl).1 hw⟩
   have hh:∀ (j:Nat) (a b:Int),(row p)[j]? = some a→(row q)[j]? = some b→(0≤a↔0≤b)∧(0≤a→(accS (tstp ls row) fin a.toNat w↔accS (tstp ls row) fin b.toNat w)):=by
    intro j a b ha hb;have hn:=hd p q hp hq e
    have h1:0≤a↔0≤b:=by
     constructor
     · intro g;exact wAp fun g'=>hn (.inr ⟨j,a,b,ha,hb,.inr (.inl ⟨by omega,by omega⟩)⟩)
     · intro g;exact wAp fun g'=>hn (.inr ⟨j,a,b,ha,hb,.inl ⟨by omega,by omega⟩⟩)
    refine⟨h1,fun g=>ih _ _ (by have:=hT.rng p hp a (wAa ha);omega) (by have:=hT.rng q hq b (wAa hb);have:=h1.1 g;omega) ?_⟩;cases hap:ap a.toNat b.toNat
    · rfl
    · exact absurd (.inr ⟨j,a,b,ha,hb,.inr (.inr ⟨g,hap⟩)⟩) hn
   constructor
   · exact step p q hp hq fun j a b ha hb g=>⟨(hh j a b ha hb).1.1 g,fun _ _=>(hh j a b ha hb).2 g⟩
   · exact step q p hq hp fun j b a hb ha g=>⟨(hh j a b ha hb).1.2 g,fun _ _=>((hh j a b ha hb).2 ((hh j a b ha hb).1.2 g)).symm⟩
 intro p q hp hq;constructor
 · exact fun e w=>go w p q hp hq e
 ·intro e;cases hap:ap p q
  · rfl
  · exact absurd e (h p q hp hq hap)
structure UInv (ls:List Int) (row:Nat→List Int) (fin:Nat→Bool) (n:Nat) (U:Nat→Bool) (T:List Nat):Prop where
 rng:∀ s∈T,s<n
 good:∀ s,s<n→(U s=true∨s∈T)→∃ w,accS (tstp ls row) fin s w
 fins:∀ s,s<n→fin s=true→U s=true∨s∈T
 back:∀ t,t<n→U t=true→∀ s,s<n→(t:Int)∈row s→U s=true∨s∈T
theorem UInv.all (hlen:∀ s,s<n→(row s).length=ls.length) (hr:∀ s,s<n→∀ t∈row s,t<(n:Int)) {U:Nat→Bool} (h:UInv ls row fin n U []):∀ s,s<n→(U s=true↔∃ w,accS (tstp ls row) fin s w):=fun s hs=>by
 refine⟨fun g=>h.good s hs (.inl g),?_⟩;rintro⟨w,hw⟩
 induction w generalizing s with
 | nil =>
  rcases h.fins s hs hw with g | g
  · exact g
  · cases g
 | cons x w ih =>
  obtain⟨u,hu,hw⟩:=hw;obtain⟨j,p,h1,h2,h3,rfl⟩:=mem_tstp.1 hu;have hm:=wAa h2;have hpn:p.toNat<n:=by have:=hr s hs p hm;omega
  have:=ih p.toNat hpn hw
  rcases h.back p.toNat hpn this s hs (by rw[show ((p.toNat:Nat):Int)=p by omega];exact hm) with g | g
  · exact g
  · cases g
theorem UInv.skip {U:Nat→Bool} {T:List Nat} {s:Nat} (h:UInv ls row fin n U (T++[s])) (hU:U s=true):UInv ls row fin n U T:=by
 have e:∀ r,(U r=true∨r∈T++[s])→U r=true∨r∈T:=fun r hr=>by
  rcases hr with g | g
  · exact .inl g
  ·rcases wAi.1 g with g | g
   · exact .inr g
   · rw[wAh.1 g];exact .inl hU
 exact⟨fun r hr=>h.rng r (wAi.2 (.inl hr)),fun r hr g=>h.good r hr (g.imp id fun g=>wAi.2 (.inl g)),fun r hr g=>e r (h.fins r hr g),fun t ht g r hr hm=>e r (h.back t ht g r hr hm)⟩
theorem UInv.take (hlen:∀ s,s<n→(row s).length=ls.length) {U:Nat→Bool} {T B:List Nat} {s:Nat} (h:UInv ls row fin n U (T++[s])) (hB:∀ r,r∈B↔r<n∧(s:Int)∈row r):UInv ls row fin n (fun i=>if i=s then true else U i) (T++B):=by
 have hs:s<n:=h.rng s (wAi.2 (.inr (wAh.2 rfl)));obtain⟨w,hw⟩:=h.good s hs (.inr (wAi.2 (.inr (wAh.2 rfl))))
 have up:∀ r,(U r=true∨r∈T++[s])→(if r=s then true else U r)=true∨r∈T++B:=fun r hr=>by
  by_cases e:r=s
  · exact .inl (by rw[if_pos e])
  ·rw[if_neg e];rcases hr with g | g
   · exact .inl g
   ·rcases wAi.1 g with g | g
    · exact .inr (wAi.2 (.inl g))
    · exact absurd (wAh.1 g) e
 refine⟨fun r hr=>?_,fun r hr g=>?_,fun r hr g=>up r (h.fins r hr g),fun t ht g r hr hm=>?_⟩
 ·rcases wAi.1 hr with g | g
  · exact h.rng r (wAi.2 (.inl g))
  · exact ((hB r).1 g).1
 ·by_cases e:r=s
  · subst e;exact⟨w,hw⟩
  ·rw[if_neg e] at g;rcases g with g | g
   · exact h.good r hr (.inl g)
   ·rcases wAi.1 g with g | g
    · exact h.good r hr (.inr (wAi.2 (.inl g)))
    ·obtain⟨_,hm⟩:=(hB r).1 g;obtain⟨j,hj⟩:=wAK hm;(have hjl:j<ls.length:=by rw[← hlen r hr];exact (wAj.1 hj).1);exact⟨ls[j]::w,s,mem_tstp.2 ⟨j,(s:Int),wAb hjl,hj,by omega,by omega⟩,hw⟩
 ·by_cases e:t=s
  ·subst e;exact .inr (wAi.2 (.inr ((hB r).2 ⟨hr,hm⟩)))
  ·rw[if_neg e] at g;exact up r (h.back t ht g r hr hm)
end
section
variable {α:Type} [DecidableEq α] {stp:α→List (Int×α)} {fin:α→Bool}
theorem zA8 {i:Nat} {st:List α×List Arc} {F:List Fnl} (h:st.1.length≤i):∀ f,bfsGo stp fin f i st F=(st,F)
 | 0=>rfl
 | f+1=>by
  unfold bfsGo;rw[wAt h]
theorem zBb:∀ (f i:Nat) (st:List α×List Arc) (F:List Fnl),bfsGo stp fin (f+1) i st F=bfsGo stp fin 1 (i+f) (bfsGo stp fin f i st F).1 (bfsGo stp fin f i st F).2
 | 0,i,st,F=>rfl
 | f+1,i,st,F=>by
  cases e:st.1[i]? with
  | none =>
   have hl:st.1.length≤i:=wAB.1 e;rw[zA8 hl,zA8 hl,zA8 (by show st.1.length≤_;omega)]
  | some s =>
   have h1:∀ g,bfsGo stp fin (g+1) i st F=bfsGo stp fin g (i+1) (bfsRow i (stp s) st) (if fin s then F++[⟨(i:Int),0⟩] else F):=fun g=>by
    rw[bfsGo];rw[e]
   rw[h1 (f+1),h1 f,zBb f (i+1),show i+1+f=i+(f+1) by omega]
theorem zMK {i:Nat} {st:List α×List Arc} {F:List Fnl} {s:α} (h:st.1[i]? = some s):bfsGo stp fin 1 i st F=(bfsRow i (stp s) st,if fin s then F++[⟨(i:Int),0⟩] else F):=by
 rw[bfsGo,h];rfl
theorem zFn:∀ (f i:Nat) (st:List α×List Arc) (F:List Fnl),∃ k A,(bfsGo stp fin f i st F).1.1=st.1++k∧(bfsGo stp fin f i st F).1.2=st.2++A
 | 0,i,st,F=>⟨[],[],by simp[bfsGo],by simp[bfsGo]⟩
 | f+1,i,st,F=>by
  unfold bfsGo
  cases e:st.1[i]? with
  | none=>exact⟨[],[],by simp,by simp⟩
  | some s =>
   obtain⟨k,A,h1,h2⟩:=zFn f (i+1) (bfsRow i (stp s) st) (if fin s then F++[⟨(i:Int),0⟩] else F);obtain⟨k',h3⟩:=zAS i (stp s) st;have h4:=zCJ i (stp s) st;rw[h4,wAz] at h2;exact⟨k'++k,_,by rw[h1,h3,wAz],h2⟩
theorem zLB (i d:Nat) (st:List α×List Arc) (F:List Fnl):(bfsGo stp fin i 0 st F).1.1.length≤(bfsGo stp fin (i+d) 0 st F).1.1.length∧(bfsGo stp fin i 0 st F).1.2.length≤(bfsGo stp fin (i+d) 0 st F).1.2.length:=by
 induction d with
 | zero=>exact⟨wAl _,wAl _⟩
 | succ d ih =>
  rw[← Nat.add_assoc,zBb];obtain⟨k,A,h1,h2⟩:=zFn (stp:=stp) (fin:=fin) 1 (0+(i+d)) (bfsGo stp fin (i+d) 0 st F).1 (bfsGo stp fin (i+d) 0 st F).2;rw[h1,h2,wAm,wAm];omega
end
def afterL (A:List Arc) (s:Nat) (x:Int):Int:=A.foldl (fun v a=>if a.f=(s:Int)∧a.i=x then a.t else v) (-1)
theorem zBl (A:List Arc) (a:Arc) (s:Nat) (x:Int):afterL (A++[a]) s x=if a.f=(s:Int)∧a.i=x then a.t else afterL A s x:=by
 unfold afterL;rw[List.foldl_append];rfl
def DetA (A:List Arc):Prop:=∀ a∈A,∀ b∈A,a.f=b.f→a.i=b.i→a.t=b.t
theorem zLl {P:List Arc→Int→Prop} {s:Nat} {x:Int} (h0:P [] (-1)) (h1:∀ l a v,P l v→P (l++[a]) (if a.f=(s:Int)∧a.i=x then a.t else v)) (l:List Arc):P l (afterL l s x):=by
 have h:∀ (k p:List Arc) (v:Int),P p v→P (p++k) (k.foldl (fun v a=>if a.f=(s:Int)∧a.i=x then a.t else v) v):=by
  intro k
  induction k with
  | nil=>intro p v hp;simpa using hp
  | cons a k ih =>
   intro p v hp
   have:=ih (p++[a]) _ (h1 p a v hp)
   rw[wAz] at this;exact this
 exact h l [] (-1) h0
theorem zBk {s:Nat} {x:Int} (l:List Arc):(afterL l s x = -1∧∀ a∈l,¬ (a.f=(s:Int)∧a.i=x))∨∃ a∈l,a.f=(s:Int)∧a.i=x∧afterL l s x=a.t :=
 zLl (P:=fun l v=>(v = -1∧∀ a∈l,¬ (a.f=(s:Int)∧a.i=x))∨∃ a∈l,a.f=(s:Int)∧a.i=x∧v=a.t) (.inl ⟨rfl,fun a h=>by cases h⟩) (fun l a v h=>by
  by_cases g:a.f=(s:Int)∧a.i=x
  ·rw[if_pos g];exact .inr ⟨a,wAi.2 (.inr (wAh.2 rfl)),g.1,g.2,rfl⟩
  ·rw[if_neg g];rcases h with⟨h1,h2⟩ | ⟨b,hb,h1,h2,h3⟩
   ·refine .inl ⟨h1,fun b hb=>?_⟩;rcases wAi.1 hb with hb | hb
    · exact h2 b hb
    · rw[wAh.1 hb];exact g
   · exact .inr ⟨b,wAi.2 (.inl hb),h1,h2,h3⟩) l
theorem zDh {A:List Arc} (hd:DetA A) (h0:∀ a∈A,0≤a.t) {s:Nat} {x:Int} {u:Nat} : (0≤afterL A s x∧u=(afterL A s x).toNat)↔∃ a∈A,a.f=(s:Int)∧a.i=x∧a.t=(u:Int):=by
 constructor
 ·rintro⟨h1,rfl⟩;rcases zBk (s:=s) (x:=x) A with⟨e,_⟩ | ⟨a,ha,g1,g2,g3⟩
  · omega
  · exact⟨a,ha,g1,g2,by omega⟩
 ·rintro⟨a,ha,g1,g2,g3⟩;rcases zBk (s:=s) (x:=x) A with⟨_,e⟩ | ⟨b,hb,k1,k2,k3⟩
  · exact absurd ⟨g1,g2⟩ (e a ha)
  ·have:=hd a ha b hb (by rw[g1,k1]) (by rw[g2,k2])
   rw[k3];omega
def rowL (ls:List Int) (A:List Arc) (s:Nat):List Int:=ls.map (afterL A s)
theorem zB9 {ls:List Int} {A:List Arc} (hd:DetA A) (h0:∀ a∈A,0≤a.t) {s:Nat} {x:Int} {u:Nat} : (x,u)∈tstp ls (rowL ls A) s↔x∈ls∧∃ a∈A,a.f=(s:Int)∧a.i=x∧a.t=(u:Int):=by
 rw[mem_tstp];constructor
 ·rintro⟨j,tgt,h1,h2,h3,rfl⟩;unfold rowL at h2;rw[wAr,h1] at h2;simp at h2;subst h2;exact⟨wAa h1,(zDh hd h0).1 ⟨h3,rfl⟩⟩
 ·rintro⟨hx,h⟩;obtain⟨g1,g2⟩:=(zDh hd h0).2 h;obtain⟨j,hj⟩:=wAK hx;refine⟨j,afterL A s x,hj,?_,g1,g2⟩;unfold rowL;rw[wAr,hj];rfl
def tabA (ls:List Int) (row:Nat→List Int) (n:Nat):List Arc:=(wAe n).flatMap fun s=>(tstp ls row s).map fun e=>⟨(s:Int),(e.2:Int),e.1,e.1,0⟩
def tabF (fin:Nat→Bool) (n:Nat):List Fnl:=(wAe n).flatMap fun s=>if fin s then [⟨(s:Int),0⟩] else []
theorem mem_tabA {ls:List Int} {row:Nat→List Int} {n:Nat} {a:Arc} : a∈tabA ls row n↔∃ s,s<n∧∃ x u,(x,u)∈tstp ls row s∧a=⟨(s:Int),(u:Int),x,x,0⟩:=by
 unfold tabA;rw[wAx];constructor
 ·rintro⟨s,hs,h⟩;obtain⟨⟨x,u⟩,he,rfl⟩:=wAf.1 h;exact⟨s,wAg.1 hs,x,u,he,rfl⟩
 ·rintro⟨s,hs,x,u,he,rfl⟩;exact⟨s,wAg.2 hs,wAf.2 ⟨(x,u),he,rfl⟩⟩
theorem mem_tabF {fin:Nat→Bool} {n:Nat} {x:Fnl} : x∈tabF fin n↔∃ s,s<n∧fin s=true∧x=⟨(s:Int),0⟩:=by
 unfold tabF;rw[wAx];constructor
 ·rintro⟨s,hs,h⟩;split at h
  ·rename_i g
   exact⟨s,wAg.1 hs,g,wAh.1 h⟩
  · cases h
 ·rintro⟨s,hs,g,rfl⟩;exact⟨s,wAg.2 hs,by rw[if_pos g];exact wAh.2 rfl⟩
section
variable {ls:List Int} {row:Nat→List Int} {fin:Nat→Bool} {n:Nat}
end
theorem zFP {K:Nat→Bool} {s t:Nat} (hs:K s=true) (ht:K t=true) (h:cntK K s=cntK K t):s=t:=by
 rcases wA5 s t with g | g | g
 · have:=zAo g hs;omega
 · exact g
 · have:=zAo g ht;omega
def lsM (m:Mach):List Int:=labsR m.arcs
def rowM (m:Mach):Nat→List Int:=rowL (lsM m) m.arcs
def finM' (m:Mach) (s:Nat):Bool:=m.fins.any fun x=>decide (x.s=(s:Int))
theorem zMi {ls:List Int} {row:Nat→List Int} {fin:Nat→Bool} : ∀ (w:List Int) (s:Nat),accS (tstp ls row) fin s w→∀ x∈w,x∈ls
 | [],_,_,x,h=>by cases h
 | y::w,s,⟨u,hu,hw⟩,x,h=>by
  rcases wAk.1 h with rfl | h
  ·obtain⟨j,tgt,h1,_⟩:=mem_tstp.1 hu;exact wAa h1
  · exact zMi w u hw x h
section
variable {ls:List Int} {row:Nat→List Int} {fin:Nat→Bool} {n:Nat}
variable (hi:ls.Pairwise (· < ·)) (h0:∀ x∈ls,x≠0) (hr:∀ s,s<n→∀ t∈row s,t<(n:Int))
include hr in
theorem zCL {s:Nat} (hs:s<n) {x:Int} {u:Nat} (h:(x,u)∈tstp ls row s):u<n:=by
 obtain⟨j,p,_,h2,h3,rfl⟩:=mem_tstp.1 h
 have:=hr s hs p (wAa h2)
 omega
include hr in
include hr in
include hi in
include hi h0 hr in
include hi h0 hr in
end
def langM (m:Mach) (s:Nat):Lang:=accS (tstp (lsM m) (rowM m)) (finM' m) s
section
variable {α:Type} [DecidableEq α] {stp:α→List (Int×α)} {fin:α→Bool}
theorem mem_rows {l:List α} {a:Arc} : a∈(wAe l.length).flatMap (rowA stp l)↔∃ (j:Nat) (hj:j<l.length) (x:Int) (u:α),(x,u)∈stp l[j]∧a=⟨(j:Int),((l.idxOf u:Nat):Int),x,x,0⟩:=by
 rw[wAx];constructor
 ·rintro⟨j,hj,h⟩;have hj:=wAg.1 hj;unfold rowA at h;rw[wAb hj] at h;obtain⟨⟨x,u⟩,he,rfl⟩:=wAf.1 h;exact⟨j,hj,x,u,he,rfl⟩
 ·rintro⟨j,hj,x,u,he,rfl⟩;refine⟨j,wAg.2 hj,?_⟩;unfold rowA;rw[wAb hj];exact wAf.2 ⟨(x,u),he,rfl⟩
omit [DecidableEq α] in
theorem mem_fins {l:List α} {x:Fnl} : x∈(wAe l.length).flatMap (finA fin l)↔∃ (j:Nat) (hj:j<l.length),fin l[j]=true∧x=⟨(j:Int),0⟩:=by
 rw[wAx];constructor
 ·rintro⟨j,hj,h⟩;have hj:=wAg.1 hj;unfold finA at h;rw[wAb hj] at h;dsimp only at h;split at h
  ·rename_i g
   exact⟨j,hj,g,wAh.1 h⟩
  · cases h
 ·rintro⟨j,hj,g,rfl⟩;refine⟨j,wAg.2 hj,?_⟩;unfold finA;rw[wAb hj];dsimp only;rw[if_pos g];exact wAh.2 rfl
theorem zFA {l:List α} {N:Int} (hn:l.Nodup) (hc:∀ (j:Nat) (hj:j<l.length),∀ e∈stp l[j],e.2∈l) (hi:∀ (j:Nat) (hj:j<l.length),incS (stp l[j])) (h0:∀ (j:Nat) (hj:j<l.length),∀ e∈stp l[j],e.1≠0) :
 ∀ (w:List Int) (j:Nat) (hj:j<l.length),langM ⟨N,(wAe l.length).flatMap (rowA stp l),(wAe l.length).flatMap (finA fin l)⟩ j w↔accS stp fin l[j] w:=by
 have hd:DetA ((wAe l.length).flatMap (rowA stp l)):=fun a ha b hb e1 e2=>by
  obtain⟨j,hj,x,u,hx,rfl⟩:=mem_rows.1 ha;obtain⟨k,hk,y,v,hy,rfl⟩:=mem_rows.1 hb;dsimp only at e1 e2
  have:j=k:=by omega
  subst this;subst e2;rw[zBi (hi j hj) hx hy]
 have hp:∀ a∈(wAe l.length).flatMap (rowA stp l),0≤a.t:=fun a ha=>by
  obtain⟨j,hj,x,u,hx,rfl⟩:=mem_rows.1 ha
  show (0:Int)≤((l.idxOf u:Nat):Int)
  omega
 intro w
 induction w with
 | nil =>
  intro j hj
  show finM' _ j=true↔fin l[j]=true
  unfold finM';rw[wBa];constructor
  ·rintro⟨x,hx,hx2⟩;obtain⟨k,hk,g,rfl⟩:=mem_fins.1 hx;have e:(k:Int)=(j:Int):=of_decide_eq_true hx2
   have:k=j:=by omega
   subst this;exact g
  ·intro g;exact⟨⟨(j:Int),0⟩,mem_fins.2 ⟨j,hj,g,rfl⟩,decide_eq_true rfl⟩
 | cons x w ih =>
  intro j hj;have hm:=fun u=>zB9 (ls:=labsR ((wAe l.length).flatMap (rowA stp l))) hd hp (s:=j) (x:=x) (u:=u)
  constructor
  ·rintro⟨u,hu,hw⟩;obtain⟨_,a,ha,g1,g2,g3⟩:=(hm u).1 hu;obtain⟨k,hk,y,v,hy,rfl⟩:=mem_rows.1 ha;dsimp only at g1 g2 g3
   have:k=j:=by omega
   subst this;subst g2;have hv:=hc k hk (y,v) hy;have hvl:=wAs hv;(have hu':u=l.idxOf v:=by omega);subst hu'
   have:=(ih (l.idxOf v) hvl).1 hw
   rw[wAF hvl] at this;exact⟨v,hy,this⟩
  ·rintro⟨v,hv,hw⟩;have hvm:=hc j hj (x,v) hv;have hvl:=wAs hvm;have ha:(⟨(j:Int),((l.idxOf v:Nat):Int),x,x,0⟩:Arc)∈(wAe l.length).flatMap (rowA stp l):=mem_rows.2 ⟨j,hj,x,v,hv,rfl⟩;refine⟨l.idxOf v,(hm _).2 ⟨(zAy _ _).2 ⟨h0 j hj (x,v) hv,_,ha,rfl⟩,_,ha,rfl,rfl,rfl⟩,(ih _ hvl).2 ?_⟩;rw[wAF hvl];exact hw
theorem zIf {s0:α} {Z:List α} (hZ:∀ v,BR stp s0 v→v∈Z) {f:Nat} (hf:Z.length≤f) (hi:∀ s,BR stp s0 s→incS (stp s)) (h0:∀ s,BR stp s0 s→∀ e∈stp s,e.1≠0) (w:List Int):langM (bfsM stp fin s0 f) 0 w↔accS stp fin s0 w:=by
 obtain⟨l,hn,hfi,hm,e⟩:=zDb stp fin hZ hf;have h00:0<l.length:=(wAj.1 hfi).1;have hr:∀ (j:Nat) (hj:j<l.length),BR stp s0 l[j]:=fun j hj=>(hm _).1 (wAR hj)
 have:=zFA (stp:=stp) (fin:=fin) (N:=(l.length:Int)) hn (fun j hj x hx=>(hm _).2 (.step (hr j hj) hx)) (fun j hj=>hi _ (hr j hj)) (fun j hj=>h0 _ (hr j hj)) w 0 h00
 rw[e,this]
 have e0:l[0]=s0:=by
  have:=wAb h00
  rw[hfi] at this;injection this with this
  exact this.symm
 rw[e0]
end
structure Reg (ls:List Int) (L:Lang) (N:Nat):Prop where
 inc:ls.Pairwise (· < ·)
 pos:∀ x∈ls,x≠0
 over:∀ w,L w→∀ x∈w,x∈ls
 res:∃ Z:List Lang,Z.length≤N∧∀ Q,BR (stpQ ls) L Q→Q∈Z
theorem zA7 (s:Nat) (w:List Int):¬ langM ⟨0,[],[]⟩ s w:=by
 cases w with
 | nil=>intro h;cases h
 | cons x w =>
  rintro⟨u,hu,_⟩;obtain⟨j,tgt,h1,_⟩:=mem_tstp.1 hu;cases h1
open Classical in
theorem zBT {ls:List Int} {L:Lang} {N f:Nat} (h:Reg ls L N) (hf:N≤f) (w:List Int):langM (canonM ls L f) 0 w↔L w:=by
 obtain⟨Z,hZ1,hZ⟩:=h.res;unfold canonM;by_cases hL:∃ w,L w
 ·rw[if_pos hL,zIf hZ (by omega) (fun s _=>zB0 h.inc s) (fun s _ e he=>?_) w]
  · exact accQ w L h.over
  ·obtain⟨x,U⟩:=e;exact h.pos x (mem_stpQ.1 he).1
 ·rw[if_neg hL];exact⟨fun g=>absurd g (zA7 0 w),fun g=>absurd ⟨w,g⟩ hL⟩
open Classical in
theorem zGq {ls:List Int} {L:Lang} {N f f':Nat} (h:Reg ls L N) (hf:N≤f) (hf':N≤f'):canonM ls L f=canonM ls L f':=by
 obtain⟨Z,hZ1,hZ⟩:=h.res;unfold canonM;by_cases hL:∃ w,L w
 ·rw[if_pos hL,if_pos hL];exact zDS hZ (by omega) (by omega)
 · rw[if_neg hL,if_neg hL]
theorem zBw {ls ls':List Int} {L L':Lang} {N N' f f':Nat} (h:Reg ls L N) (h':Reg ls' L' N') (hf:N≤f) (hf':N'≤f'):canonM ls L f=canonM ls' L' f'↔∀ w,L w↔L' w:=by
 constructor
 ·intro e w;rw[← zBT h hf w,e,zBT h' hf' w]
 ·intro e
  have:L=L':=funext fun w=>propext (e w)
  subst this;rw[zGq h hf (show N≤f+f' by omega),zGq h' hf' (show N'≤f+f' by omega)];exact zPf h.inc h'.inc h.over h'.over (f+f')
theorem zCd {ls:List Int} {row:Nat→List Int} {fin:Nat→Bool} {n:Nat} (hi:ls.Pairwise (· < ·)) (h0:∀ x∈ls,x≠0) (hr:∀ s,s<n→∀ t∈row s,t<(n:Int)) {s:Nat} (hs:s<n):Reg ls (accS (tstp ls row) fin s) n where
 inc:=hi
 pos:=h0
 over:=fun w hw=>zMi w s hw
 res:=by
  refine⟨(wAe n).map (accS (tstp ls row) fin),by rw[wAv,wAw];exact wAl _,fun Q hQ=>?_⟩
  have:∃ t,t<n∧Q=accS (tstp ls row) fin t:=by
   induction hQ with
   | base=>exact⟨s,hs,rfl⟩
   | @step P U x _ hx ih =>
    obtain⟨t,ht,rfl⟩:=ih;obtain⟨_,⟨w,u,hu,_⟩,rfl⟩:=mem_stpQ.1 hx;refine⟨u,zCL hr ht hu,funext fun v=>propext ⟨?_,fun hv=>⟨u,hu,hv⟩⟩⟩;rintro⟨u',hu',hv⟩;rw[zBi (zD2 hi t) hu hu'];exact hv
  obtain⟨t,ht,rfl⟩:=this;exact wAf.2 ⟨t,wAg.2 ht,rfl⟩
section
variable {ls:List Int} {row:Nat→List Int} {fin:Nat→Bool} {n:Nat}
def smM (ls:List Int) (row:Nat→List Int) (fin:Nat→Bool) (n:Nat) (U:Nat→Bool) (c rep:Nat→Nat) (f:Nat):Mach:=if n=0∨U 0=false then ⟨0,[],[]⟩ else bfsM (cstp ls (fun s=>cleanR U (row s)) c rep) (fun k=>fin (rep k)) (c 0) f
theorem zKL (hi:ls.Pairwise (· < ·)) (hlen:∀ s,s<n→(row s).length=ls.length) (hr:∀ s,s<n→∀ t∈row s,t<(n:Int)) {U:Nat→Bool} (hU:∀ s,s<n→(U s=true↔∃ w,accS (tstp ls row) fin s w)) {c rep:Nat→Nat} (hc:∀ s t,s<n→t<n→(c s=c t↔∀ w,accS (tstp ls fun s=>cleanR U (row s)) fin s w↔accS (tstp ls fun s=>cleanR U (row s)) fin t w)) (hrep:∀ s,s<n→rep (c s)<n∧c (rep (c s))=c s) (hn:0<n) (h0:U 0=true) {f:Nat} (hf:n≤f) :
 smM ls row fin n U c rep f=canonM ls (accS (tstp ls row) fin 0) n:=by
 unfold smM;rw[if_neg (by rw[h0];simp;omega)];have hT:=zIP hi hlen hr hU;obtain⟨w,hw⟩:=(hU 0 hn).1 h0;rw[zDz hT hc hrep hn ⟨w,(zCh hr hU w 0 hn).2 hw⟩ hf n (wAl _)];congr 1;exact funext fun v=>propext (zCh hr hU v 0 hn)
end
theorem zId {β:Type} {f:Nat→Option β} {n k:Nat} {r:β} (hk:k<n) (h:∀ j,j<k→f j=none) (hr:f k=some r):(wAe n).findSome? f=some r:=by
 have e:wAe n=wAe k++(k::(wAe (n-k-1)).map (· + (k+1))):=by
  refine wA3 fun i=>?_
  rcases wA5 i k with g | g | g
  · rw[wAu (by simpa using g)];simp[g,Nat.lt_trans g hk]
  · subst g;rw[wAQ (by simp)];simp[hk]
  ·rw[wAQ (by simp;omega)];obtain⟨d,rfl⟩:∃ d,i=k+1+d:=⟨i-(k+1),by omega⟩;simp only[wAw,show k+1+d-k=d+1 by omega,List.getElem?_cons_succ,wAr];by_cases gd:k+1+d<n
   · rw[wA0 gd,wA0 (by omega)];simp;omega
   · rw[wAt (by simp;omega),wAt (by simp;omega)];rfl
 rw[e,List.findSome?_append,wAy.2 (fun j hj=>h j (wAg.1 hj)),List.findSome?_cons,hr];rfl
theorem zDG {β:Type} {f:Nat→Option β} {n:Nat} (h:∀ j,j<n→f j=none):(wAe n).findSome? f=none :=
 wAy.2 fun j hj=>h j (wAg.1 hj)
def labB (l:List Int) (k:Nat):Option (Int×Int):=if l.getD k 0<1∨1114111<l.getD k 0 then some (3,(k:Int)) else if 0<k∧l.getD k 0≤l.getD (k-1) 0 then some (13,(k:Int)) else none
def rowB (q n:Nat) (L:List (List Int)) (i:Nat):Option (Int×Int):=if (L.getD i []).length≠q then some (9,(i:Int)) else if ∀ t∈L.getD i [],-1≤t∧t<(n:Int) then none else some (3,(i:Int))
def tblF (l:List Int) (L:List (List Int)) (nf:Nat):Int×Int :=
 if 300<l.length then (2,-1) else
 match (wAe l.length).findSome? (labB l) with
 | some r=>r
 | none =>
  if 20000<L.length then (2,-2) else
  match (wAe L.length).findSome? (rowB l.length L.length L) with
  | some r=>r
  | none=>if nf≠L.length then (9,-3) else (0,0)
section
variable {l:List Int} {L:List (List Int)} {nf:Nat}
theorem zIu (h:300<l.length):tblF l L nf=(2,-1):=by unfold tblF;rw[if_pos h]
theorem zG5 (h:¬ 300<l.length) {k:Nat} {r:Int×Int} (hk:k<l.length) (h1:∀ j,j<k→labB l j=none) (hr:labB l k=some r):tblF l L nf=r:=by
 unfold tblF;rw[if_neg h,zId hk h1 hr]
theorem zIt (h:¬ 300<l.length) (h1:∀ j,j<l.length→labB l j=none) (h2:20000<L.length):tblF l L nf=(2,-2):=by
 unfold tblF;rw[if_neg h,zDG h1]
 show (if 20000<L.length then _ else _)=_
 rw[if_pos h2]
theorem zGA (h:¬ 300<l.length) (h1:∀ j,j<l.length→labB l j=none) (h2:¬ 20000<L.length) {k:Nat} {r:Int×Int} (hk:k<L.length) (h3:∀ j,j<k→rowB l.length L.length L j=none) (hr:rowB l.length L.length L k=some r):tblF l L nf=r:=by
 unfold tblF;rw[if_neg h,zDG h1]
 show (if 20000<L.length then _ else _)=_
 rw[if_neg h2,zId hk h3 hr]
theorem zET (h:¬ 300<l.length) (h1:∀ j,j<l.length→labB l j=none) (h2:¬ 20000<L.length) (h3:∀ j,j<L.length→rowB l.length L.length L j=none):tblF l L nf=if nf≠L.length then (9,-3) else (0,0):=by
 unfold tblF;rw[if_neg h,zDG h1]
 show (if 20000<L.length then _ else _)=_
 rw[if_neg h2,zDG h3]
theorem zPN {k:Nat} {r:Int×Int} (h:labB l k=some r):r.1≠0:=by
 unfold labB at h;split at h
 · injection h with h;rw[← h];simp
 ·split at h
  · injection h with h;rw[← h];simp
  · cases h
theorem zPS {q n k:Nat} {r:Int×Int} (h:rowB q n L k=some r):r.1≠0:=by
 unfold rowB at h;split at h
 · injection h with h;rw[← h];simp
 ·split at h
  · cases h
  · injection h with h;rw[← h];simp
structure TabOk (l:List Int) (L:List (List Int)) (nf:Nat):Prop where
 l3:l.length≤300
 inc:l.Pairwise (· < ·)
 lab:∀ x∈l,1≤x∧x≤1114111
 n2:L.length≤20000
 len:∀ r∈L,r.length=l.length
 rng:∀ r∈L,∀ t∈r,-1≤t∧t<(L.length:Int)
 fin:nf=L.length
theorem zDv:∀ {l:List Int},(∀ k,0<k→k<l.length→l.getD (k-1) 0<l.getD k 0)→l.Pairwise (· < ·)
 | [],_=>.nil
 | [x],_=>by simp
 | x::y::l,h=>by
  have ih:=zDv (l:=y::l) fun k h0 hk=>by
   have:=h (k+1) (by omega) (by simp at hk ⊢;omega)
   obtain⟨j,rfl⟩:∃ j,k=j+1:=⟨k-1,by omega⟩;simpa using this
  have hxy:x<y:=by simpa using h 1 (by omega) (by simp)
  refine wAn.2 ⟨fun z hz=>?_,ih⟩;rcases wAk.1 hz with rfl | hz
  · exact hxy
  ·have:=(wAn.1 ih).1 z hz
   omega
theorem zD0 (h:(tblF l L nf).1=0):tblF l L nf=(0,0)∧TabOk l L nf:=by
 by_cases h0:300<l.length
 · rw[zIu h0] at h;cases h
 have h1:∀ j,j<l.length→labB l j=none:=by
  refine wAp fun h1=>?_
  obtain⟨r,hr⟩:∃ r,(wAe l.length).findSome? (labB l)=some r:=by
   cases e:(wAe l.length).findSome? (labB l) with
   | none=>exact absurd (fun j hj=>wAy.1 e j (wAg.2 hj)) h1
   | some r=>exact⟨r,rfl⟩
  have e:tblF l L nf=r:=by unfold tblF;rw[if_neg h0,hr]
  obtain⟨k,_,hk⟩:=wAG hr;rw[e] at h;exact absurd h (zPN hk)
 by_cases h2:20000<L.length
 · rw[zIt h0 h1 h2] at h;cases h
 have h3:∀ j,j<L.length→rowB l.length L.length L j=none:=by
  refine wAp fun h3=>?_
  obtain⟨r,hr⟩:∃ r,(wAe L.length).findSome? (rowB l.length L.length L)=some r:=by
   cases e:(wAe L.length).findSome? (rowB l.length L.length L) with
   | none=>exact absurd (fun j hj=>wAy.1 e j (wAg.2 hj)) h3
   | some r=>exact⟨r,rfl⟩
  have e:tblF l L nf=r:=by
   unfold tblF;rw[if_neg h0,zDG h1]
   show (if 20000<L.length then _ else _)=_
   rw[if_neg h2,hr]
  obtain⟨k,_,hk⟩:=wAG hr;rw[e] at h;exact absurd h (zPS hk)
 have e:=zET (nf:=nf) h0 h1 h2 h3;by_cases h4:nf≠L.length
 · rw[e,if_pos h4] at h;cases h
 rw[if_neg h4] at e
 have g1:∀ k,k<l.length→1≤l.getD k 0∧l.getD k 0≤1114111∧(0<k→l.getD (k-1) 0<l.getD k 0):=fun k hk=>by
  have g:=h1 k hk;unfold labB at g;split at g
  · cases g
  ·split at g
   · cases g
   ·rename_i a b
    exact⟨by omega,by omega,fun h0=>by omega⟩
 have g3:∀ k,k<L.length→(L.getD k []).length=l.length∧∀ t∈L.getD k [],-1≤t∧t<(L.length:Int):=fun k hk=>by
  have g:=h3 k hk;unfold rowB at g;split at g
  · cases g
  ·split at g
   ·rename_i a b
    exact⟨by omega,b⟩
   · cases g
 have gm:∀ r∈L,r.length=l.length∧∀ t∈r,-1≤t∧t<(L.length:Int):=fun r hr=>by
  obtain⟨k,hk,rfl⟩:=wAJ.1 hr
  have:=g3 k hk
  simpa[wA1,hk] using this
 refine⟨e,by omega,zDv fun k hk hkl=>(g1 k hkl).2.2 hk,fun x hx=>?_,by omega,fun r hr=>(gm r hr).1,fun r hr=>(gm r hr).2,by omega⟩;obtain⟨k,hk,rfl⟩:=wAJ.1 hx
 have:=g1 k hk
 simp[wA1,hk] at this;exact⟨this.1,this.2.1⟩
end
section
variable {α:Type} [DecidableEq α] (stp:α→List (Int×α)) (fin:α→Bool) (s0:α)
def StB (i:Nat):(List α×List Arc)×List Fnl:=bfsGo stp fin i 0 ([s0],[]) []
variable {stp fin s0}
theorem zJ3:StB stp fin s0 0=(([s0],[]),[]):=rfl
theorem zB5 {i:Nat} {s:α} (h:(StB stp fin s0 i).1.1[i]? = some s):StB stp fin s0 (i+1)=(bfsRow i (stp s) (StB stp fin s0 i).1,if fin s then (StB stp fin s0 i).2++[⟨(i:Int),0⟩] else (StB stp fin s0 i).2):=by
 show bfsGo stp fin (i+1) 0 ([s0],[]) []=_
 rw[zBb,wAI];exact zMK h
theorem zJg {i f:Nat} (h:(StB stp fin s0 i).1.1.length≤i) (hf:i≤f):bfsM stp fin s0 f=⟨((StB stp fin s0 i).1.1.length:Int),(StB stp fin s0 i).1.2,(StB stp fin s0 i).2⟩:=by
 have key:∀ d,StB stp fin s0 (i+d)=StB stp fin s0 i:=by
  intro d
  induction d with
  | zero=>rfl
  | succ d ih =>
   show bfsGo stp fin (i+d+1) 0 ([s0],[]) []=_
   rw[zBb]
   show bfsGo stp fin 1 (0+(i+d)) (StB stp fin s0 (i+d)).1 (StB stp fin s0 (i+d)).2=_
   rw[ih,zA8 (by omega)]
 have h2:=key (f-i);rw[show i+(f-i)=f by omega] at h2
 show (⟨((StB stp fin s0 f).1.1.length:Int),(StB stp fin s0 f).1.2,(StB stp fin s0 f).2⟩:Mach)=_
 rw[h2]
theorem zJa {i f:Nat} (hf:i≤f):((StB stp fin s0 i).1.1.length:Int)≤(bfsM stp fin s0 f).n∧(StB stp fin s0 i).1.2.length≤(bfsM stp fin s0 f).arcs.length:=by
 have:=zLB (stp:=stp) (fin:=fin) i (f-i) ([s0],[]) []
 rw[show i+(f-i)=f by omega] at this;refine⟨?_,this.2⟩
 show (((StB stp fin s0 i).1.1.length:Nat):Int)≤(((StB stp fin s0 f).1.1.length:Nat):Int)
 have:=this.1
 unfold StB;omega
theorem zBQ {P:α→Prop} {i:Nat} {p:List (Int×α)} {st:List α×List Arc} (h:∀ v∈st.1,P v) (hp:∀ e∈p,P e.2):∀ v∈(bfsRow i p st).1,P v:=fun v hv=>by
 rcases (zDk i p st v).1 hv with g | ⟨x,g⟩
 · exact h v g
 · exact hp _ g
theorem zLd {i:Nat} {p:List (Int×α)} {st:List α×List Arc} : (bfsRow i p st).2.length=st.2.length+p.length:=by
 rw[zCJ,wAm,wAv]
theorem zCV {P:α→Prop} (h0:P s0) (hc:∀ s,P s→∀ e∈stp s,P e.2):∀ i,∀ v∈(StB stp fin s0 i).1.1,P v
 | 0=>fun v hv=>by rw[wAh.1 hv];exact h0
 | i+1=>by
  have ih:=zCV h0 hc i
  cases e:(StB stp fin s0 i).1.1[i]? with
  | none =>
   have:StB stp fin s0 (i+1)=StB stp fin s0 i:=by
    show bfsGo stp fin (i+1) 0 ([s0],[]) []=_
    rw[zBb]
    show bfsGo stp fin 1 (0+i) (StB stp fin s0 i).1 (StB stp fin s0 i).2=_
    exact zA8 (by have:=wAB.1 e;omega) 1
   rw[this];exact ih
  | some s =>
   rw[zB5 e];exact zBQ ih (hc s (ih s (wAa e)))
theorem zBJ:∀ i,(StB stp fin s0 i).1.1.Nodup
 | 0=>by rw[zJ3];simp
 | i+1=>by
  have ih:=zBJ i
  cases e:(StB stp fin s0 i).1.1[i]? with
  | none =>
   have:StB stp fin s0 (i+1)=StB stp fin s0 i:=by
    show bfsGo stp fin (i+1) 0 ([s0],[]) []=_
    rw[zBb]
    show bfsGo stp fin 1 (0+i) (StB stp fin s0 i).1 (StB stp fin s0 i).2=_
    exact zA8 (by have:=wAB.1 e;omega) 1
   rw[this];exact ih
  | some s =>
   rw[zB5 e];exact zBq _ _ _ ih
theorem zCs (i:Nat) (p:List (Int×α)) (x:Int) (u:α) (st:List α×List Arc):bfsRow i (p++[(x,u)]) st=(addL (bfsRow i p st).1 u,(bfsRow i p st).2++[⟨(i:Int),(((addL (bfsRow i p st).1 u).idxOf u:Nat):Int),x,x,0⟩]):=by
 rw[zBx];rfl
end
theorem zDW {l:List Nat} {n:Nat} (hn:l.Nodup) (h:∀ v∈l,v<n):l.length≤n:=by
 have:=zHb (k:=wAe n) hn fun x hx=>wAg.2 (h x hx)
 rwa [wAw] at this
def stpJ (ls r:List Int) (c:Nat→Nat) (j:Nat):List (Int×Nat):=((ls.zip r).take j).filterMap fun e=>if 0≤e.2 then some (e.1,c e.2.toNat) else none
theorem zIo (ls r:List Int) (c:Nat→Nat):stpJ ls r c 0=[]:=rfl
theorem zID {ls r:List Int} {c:Nat→Nat} {j:Nat} {x t:Int} (hx:ls[j]? = some x) (ht:r[j]? = some t):stpJ ls r c (j+1)=stpJ ls r c j++if 0≤t then [(x,c t.toNat)] else []:=by
 have hz:(ls.zip r)[j]? = some (x,t):=by rw[wAE];exact⟨hx,ht⟩
 unfold stpJ;rw[wA2,hz,List.filterMap_append];congr 1;by_cases h:0≤t<;>simp[h]
theorem zKP {ls r:List Int} {c:Nat→Nat} {j:Nat} (hj:ls.length≤j):stpJ ls r c j=((ls.zip r).filterMap fun e=>if 0≤e.2 then some (e.1,e.2.toNat) else none).map fun e=>(e.1,c e.2):=by
 unfold stpJ;rw[wAX (by rw[List.length_zip];omega),List.map_filterMap];congr 1;funext e;by_cases h:0≤e.2<;>simp[h]
theorem zFD {ls:List Int} {row:Nat→List Int} {c rep:Nat→Nat} {k j:Nat} (hj:ls.length≤j):stpJ ls (row (rep k)) c j=cstp ls row c rep k:=zKP hj
theorem zHs {ls r:List Int} {c:Nat→Nat} {j n:Nat} (h:∀ t∈r,0≤t→c t.toNat<n):∀ e∈stpJ ls r c j,e.2<n:=by
 intro e he;unfold stpJ at he;obtain⟨⟨x,t⟩,h1,h2⟩:=wAO.1 he;have h3:=(wBd (List.mem_of_mem_take h1)).2;dsimp only at h2;split at h2
 ·rename_i g
  injection h2 with h2
  rw[← h2];exact h t h3 g
 · cases h2
def rowOf (L:List (List Int)) (s:Nat):List Int:=L.getD s []
def finOf (F:List Bool) (s:Nat):Bool:=F.getD s false
theorem zCO {L:List (List Int)} {s:Nat} (h:s<L.length):rowOf L s∈L:=by
 unfold rowOf;rw[List.getD_eq_getElem?_getD,wAb h];exact wAR h
theorem TabOk.row {l:List Int} {L:List (List Int)} {nf:Nat} (h:TabOk l L nf) {s:Nat} (hs:s<L.length):(rowOf L s).length=l.length∧∀ t∈rowOf L s,-1≤t∧t<(L.length:Int) :=
 ⟨h.len _ (zCO hs),h.rng _ (zCO hs)⟩
theorem TabOk.pos {l:List Int} {L:List (List Int)} {nf:Nat} (h:TabOk l L nf):∀ x∈l,x≠0:=fun x hx=>by have:=h.lab x hx;omega
theorem zPn {L:List (List Int)} {s j:Nat} {r:List Int} {t:Int} (hr:L.getD s []=r) (hj:j<r.length) (ht:r.getD j 0=t):(rowOf L s)[j]? = some t:=by
 unfold rowOf;rw[hr,wAb hj,← ht];simp[wA1,hj]
theorem zFg {l:List Int} {j:Nat} {x:Int} (hj:j<l.length) (hx:l.getD j 0=x):l[j]? = some x:=by
 rw[wAb hj,← hx];simp[wA1,hj]
theorem TabOk.sz {l:List Int} {L:List (List Int)} {F:List Bool} (h:TabOk l L F.length):inRange (tabA l (rowOf L) L.length) L.length∧∀ x∈tabF (finOf F) L.length,0≤x.s∧x.s<(L.length:Int):=by
 constructor
 ·intro a ha;obtain⟨s,hs,x,u,hx,rfl⟩:=mem_tabA.1 ha;obtain⟨j,p,_,h2,h3,rfl⟩:=mem_tstp.1 hx
  have:=(h.row hs).2 p (wAa h2)
  dsimp only;omega
 ·intro x hx;obtain⟨s,hs,_,rfl⟩:=mem_tabF.1 hx;dsimp only;omega
structure SmOk (l:List Int) (L:List (List Int)) (nf:Nat):Prop where
 l3:l.length≤2000
 inc:l.Pairwise (· < ·)
 pos:∀ x∈l,x≠0
 n2:L.length≤20000
 len:∀ r∈L,r.length=l.length
 rng:∀ r∈L,∀ t∈r,-1≤t∧t<(L.length:Int)
 fin:nf=L.length
theorem TabOk.sm {l:List Int} {L:List (List Int)} {nf:Nat} (h:TabOk l L nf):SmOk l L nf:=⟨by have:=h.l3;omega,h.inc,h.pos,h.n2,h.len,h.rng,h.fin⟩
theorem SmOk.row {l:List Int} {L:List (List Int)} {nf:Nat} (h:SmOk l L nf) {s:Nat} (hs:s<L.length):(rowOf L s).length=l.length∧∀ t∈rowOf L s,-1≤t∧t<(L.length:Int) :=
 ⟨h.len _ (zCO hs),h.rng _ (zCO hs)⟩
theorem SmOk.lens {l:List Int} {L:List (List Int)} {nf:Nat} (h:SmOk l L nf):∀ s,s<L.length→(rowOf L s).length=l.length:=fun s hs=>(h.row hs).1
theorem SmOk.rngs {l:List Int} {L:List (List Int)} {nf:Nat} (h:SmOk l L nf):∀ s,s<L.length→∀ t∈rowOf L s,t<(L.length:Int):=fun s hs t ht=>((h.row hs).2 t ht).2
def limR (M:Mach):Mach×(Int×Int):=if 400<M.n∨2000<M.arcs.length then (⟨0,[],[]⟩,(17,-1)) else (M,(0,0))
noncomputable def canT (l:List Int) (L:List (List Int)) (F:List Bool):Mach:=canonM l (accS (tstp l (rowOf L)) (finOf F) 0) L.length
noncomputable def leastR (l:List Int) (L:List (List Int)) (F:List Bool):Mach×(Int×Int):=if (tblF l L F.length).1≠0 then (⟨0,[],[]⟩,tblF l L F.length) else limR (canT l L F)
theorem zBc {l:List Int} {L:List (List Int)} {F:List Bool} {p q:Int} (h:tblF l L F.length=(p,q)) (hp:p≠0):leastR l L F=(⟨0,[],[]⟩,(p,q)):=by
 unfold leastR;rw[h,if_pos hp]
theorem zDR {l:List Int} {L:List (List Int)} {F:List Bool} (h:tblF l L F.length=(0,0)):leastR l L F=limR (canT l L F):=by
 unfold leastR;rw[h,if_neg (by simp)]
open Classical in
theorem zAz {ls:List Int} {L:Lang} {f:Nat} (h:¬ ∃ w,L w):canonM ls L f=⟨0,[],[]⟩:=by unfold canonM;rw[if_neg h]
open Classical in
theorem zFi {l:List Int} {L:List (List Int)} {F:List Bool} (h:¬ ∃ w,accS (tstp l (rowOf L)) (finOf F) 0 w):canT l L F=⟨0,[],[]⟩:=zAz h
theorem zIq {l:List Int} {L:List (List Int)} {F:List Bool} (h:L.length=0) (hF:F.length=L.length):¬ ∃ w,accS (tstp l (rowOf L)) (finOf F) 0 w:=by
 rintro⟨w,hw⟩;have hF0:F=[]:=wAL (by omega);have hL0:L=[]:=wAL h;subst hF0 hL0
 cases w with
 | nil=>cases hw
 | cons x w =>
  obtain⟨u,hu,_⟩:=hw;obtain⟨j,p,_,h2,_⟩:=mem_tstp.1 hu;cases h2
theorem zL8 {l:List Int} {L:List (List Int)} {F:List Bool} (h:L.length=0) (hF:F.length=L.length):canT l L F=⟨0,[],[]⟩:=zFi (zIq h hF)
def offN (A:Nat→Bool):Nat→Nat
 | 0=>0
 | n+1=>offN A n+(if A n=true then 0 else 1)
theorem zGQ (A:Nat→Bool):∀ n,offN A n≤n
 | 0=>wAl _
 | n+1=>by
  have:=zGQ A n
  unfold offN;split<;>omega
theorem zKd {A:Nat→Bool} {k:Nat} : ∀ n,n≤k→offN (upd A k) n=offN A n
 | 0,_=>rfl
 | n+1,h=>by
  unfold offN;rw[zKd n (by omega)]
  have:upd A k n=A n:=by unfold upd;rw[if_neg (by omega)]
  rw[this]
theorem zEJ {A:Nat→Bool} {k:Nat} (h:A k=false):∀ n,k<n→offN (upd A k) n+1=offN A n
 | 0,hk=>by omega
 | n+1,hk=>by
  unfold offN;by_cases e:n=k
  ·subst e;rw[zKd n (wAl _),zBI,h];simp
  ·have ih:=zEJ h n (by omega)
   have:upd A k n=A n:=by unfold upd;rw[if_neg e]
   rw[this];omega
theorem zI7 {p q n:Nat} (hp:p<n) (hq:q<n):p*n+q<n*n:=by
 have h:=Nat.mul_le_mul_right n (show p+1≤n by omega);rw[Nat.succ_mul] at h;omega
theorem zJC {p q p' q' n:Nat} (hq:q<n) (hq':q'<n) (h:p*n+q=p'*n+q'):p=p'∧q=q':=by
 have h1:(p*n+q)/n=p:=by rw[wBh,wBf (by omega),wBb hq];omega
 have h2:(p'*n+q')/n=p':=by rw[wBh,wBf (by omega),wBb hq'];omega
 have:p=p':=by rw[← h1,h,h2]
 subst this;exact⟨rfl,by omega⟩
section
variable {ls:List Int} {row:Nat→List Int} {fin:Nat→Bool} {n:Nat}
def apO (A:Nat→Bool) (n p q:Nat):Bool:=A (p*n+q)
structure ApI (ls:List Int) (row:Nat→List Int) (fin:Nat→Bool) (n:Nat) (A0 A:Nat→Bool) (again:Bool) (P:Nat):Prop where
 snd:Sound ls row fin n (apO A n)
 done:again=false→∀ p q,p<n→q<n→p*n+q<P→A (p*n+q)=false→¬ differK row fin (apO A n) p q
 le:offN A (n*n)≤offN A0 (n*n)
 lt:again=true→offN A (n*n)<offN A0 (n*n)
theorem ApI.start {A:Nat→Bool} (h:Sound ls row fin n (apO A n)):ApI ls row fin n A A false 0:=⟨h,fun _ p q _ _ g=>by omega,wAl _,fun h=>by cases h⟩
theorem ApI.skip {A0 A:Nat→Bool} {again:Bool} {p q:Nat} (hq:q<n) (h:ApI ls row fin n A0 A again (p*n+q)) (hA:A (p*n+q)=true):ApI ls row fin n A0 A again (p*n+q+1) :=
 ⟨h.snd,fun g p' q' hp' hq' hlt hA'=>by
  by_cases e:p'*n+q'=p*n+q
  · rw[e,hA] at hA';exact absurd hA' (by simp)
  · exact h.done g p' q' hp' hq' (by omega) hA',h.le,h.lt⟩
theorem ApI.same {A0 A:Nat→Bool} {again:Bool} {p q:Nat} (hq:q<n) (h:ApI ls row fin n A0 A again (p*n+q)) (hd:¬ differK row fin (apO A n) p q):ApI ls row fin n A0 A again (p*n+q+1) :=
 ⟨h.snd,fun g p' q' hp' hq' hlt hA'=>by
  by_cases e:p'*n+q'=p*n+q
  ·obtain⟨rfl,rfl⟩:=zJC hq' hq e;exact hd
  · exact h.done g p' q' hp' hq' (by omega) hA',h.le,h.lt⟩
theorem ApI.mark (hT:Tab ls row fin n) {A0 A:Nat→Bool} {again:Bool} {p q:Nat} (hp:p<n) (hq:q<n) (h:ApI ls row fin n A0 A again (p*n+q)) (hA:A (p*n+q)=false) (hd:differK row fin (apO A n) p q):ApI ls row fin n A0 (upd A (p*n+q)) true (p*n+q+1):=by
 have hlt:=zI7 hp hq;have hc:=zEJ hA (n*n) hlt
 have:=h.le
 refine⟨fun p' q' hp' hq' g=>?_,fun g=>absurd g (by simp),by omega,fun _=>by omega⟩;unfold apO upd at g;by_cases e:p'*n+q'=p*n+q
 ·obtain⟨rfl,rfl⟩:=zJC hq' hq e;exact zIJ hT h.snd hp hq hd
 ·rw[if_neg e] at g;exact h.snd p' q' hp' hq' g
theorem ApI.all (hT:Tab ls row fin n) {A0 A:Nat→Bool} (h:ApI ls row fin n A0 A false (n*n)):∀ p q,p<n→q<n→(A (p*n+q)=false↔SameL ls row fin p q) :=
 zLU hT h.snd fun p q hp hq hA=>h.done rfl p q hp hq (zI7 hp hq) hA
end
structure FwI (m:Mach) (S:Nat) (c:Nat→Nat):Prop where
 tab:Tab (lsM m) (rowM m) (finM' m) S
 low:∀ s,s<S→c s<S
 zero:c 0=0
 pos:0<S
 canon:bfsM (cstp (lsM m) (rowM m) c id) (finM' m) 0 S=canonM (lsM m) (langM m 0) S
abbrev StW (m:Mach) (c:Nat→Nat) (i:Nat):(List Nat×List Arc)×List Fnl:=StB (cstp (lsM m) (rowM m) c id) (finM' m) 0 i
section
variable {m:Mach} {S:Nat} {c:Nat→Nat}
theorem FwI.steps (h:FwI m S c) {v j:Nat} (hv:v<S):∀ e∈stpJ (lsM m) (rowM m v) c j,e.2<S :=
 zHs fun t ht h0=>h.low _ (by have:=h.tab.rng v hv t ht;omega)
theorem FwI.cst (v:Nat):cstp (lsM m) (rowM m) c id v=stpJ (lsM m) (rowM m v) c (lsM m).length:=(zFD (rep:=id) (wAl _)).symm
theorem FwI.rng (h:FwI m S c) (i:Nat):∀ v∈(StW m c i).1.1,v<S :=
 zCV (P:=fun v=>v<S) h.pos (fun v hv e he=>by
  rw[FwI.cst] at he
  exact h.steps hv e he) i
theorem FwI.len (h:FwI m S c) (i:Nat):(StW m c i).1.1.length≤S:=zDW (zBJ i) (h.rng i)
theorem FwI.done (h:FwI m S c) {i:Nat} (hi:i≤S) (he:(StW m c i).1.1.length≤i):canonM (lsM m) (langM m 0) S=⟨((StW m c i).1.1.length:Int),(StW m c i).1.2,(StW m c i).2⟩:=by
 rw[← h.canon,zJg he hi]
end
def setI (l:List Int):List Int:=l.foldl (fun s x=>insI x s) []
theorem zJH {P:List Int→List Int→Prop} (h0:P [] []) (h1:∀ l x s,P l s→P (l++[x]) (insI x s)) (l:List Int):P l (setI l):=by
 have h:∀ (k p:List Int) (s:List Int),P p s→P (p++k) (k.foldl (fun s x=>insI x s) s):=by
  intro k
  induction k with
  | nil=>intro p s hp;simpa using hp
  | cons a k ih =>
   intro p s hp
   have:=ih (p++[a]) _ (h1 p a s hp)
   rw[wAz] at this;exact this
 exact h l [] [] h0
theorem zAm (l:List Int):(setI l).Pairwise (· < ·):=zJH (P:=fun _ s=>s.Pairwise (· < ·)) .nil (fun _ _ _ h=>zDr h) l
theorem zAB (l:List Int):∀ x,x∈setI l↔x∈l:=zJH (P:=fun l s=>∀ x,x∈s↔x∈l) (fun x=>Iff.rfl) (fun l y s h x=>by
 rw[zGH,h x,wAi,wAh]
 exact⟨fun g=>g.symm,fun g=>g.symm⟩) l
theorem zA3:∀ {l k:List Int},l.Pairwise (· < ·)→k.Pairwise (· < ·)→(∀ x,x∈l↔x∈k)→l=k
 | [],[],_,_,_=>rfl
 | [],y::k,_,_,h=>absurd ((h y).2 wAd) (by simp)
 | x::l,[],_,_,h=>absurd ((h x).1 wAd) (by simp)
 | x::l,y::k,hl,hk,h=>by
  obtain⟨l1,l2⟩:=wAn.1 hl;obtain⟨k1,k2⟩:=wAn.1 hk
  have e:x=y:=by
   have a1:y≤x:=by
    rcases wAk.1 ((h x).1 wAd) with e | e
    · omega
    · have:=k1 x e;omega
   have a2:x≤y:=by
    rcases wAk.1 ((h y).2 wAd) with e | e
    · omega
    · have:=l1 y e;omega
   omega
  subst e;rw[zA3 l2 k2 fun z=>?_];constructor
  ·intro hz;rcases wAk.1 ((h z).1 (wAc _ hz)) with e | e
   · have:=l1 z hz;omega
   · exact e
  ·intro hz;rcases wAk.1 ((h z).2 (wAc _ hz)) with e | e
   · have:=k1 z hz;omega
   · exact e
def accE (A:List Arc) (F:List Fnl):Int→Lang
 | s,[]=>∃ x∈F,x.s=s
 | s,x::w=>∃ a∈A,a.f=s∧a.i=x∧accE A F a.t w
def stpD (A:List Arc) (S:List Int):List (Int×List Int):=(setI ((A.filter fun a=>decide (a.f∈S)).map (·.i))).map fun x=>(x,setI ((A.filter fun a=>decide (a.f∈S∧a.i=x)).map (·.t)))
def finD (F:List Fnl) (S:List Int):Bool:=F.any fun x=>decide (x.s∈S)
theorem zDY (A:List Arc) (S:List Int):incS (stpD A S):=by
 unfold incS stpD;exact wA4.2 ((zAm _).imp fun h=>h)
theorem mem_stpD {A:List Arc} {S:List Int} {x:Int} {U:List Int} : (x,U)∈stpD A S↔(∃ a∈A,a.f∈S∧a.i=x)∧U=setI ((A.filter fun a=>decide (a.f∈S∧a.i=x)).map (·.t)):=by
 unfold stpD;rw[wAf];constructor
 ·rintro⟨y,hy,e⟩;injection e with e1 e2
  subst e1;obtain⟨a,ha,rfl⟩:=wAf.1 ((zAB _ _).1 hy);obtain⟨h1,h2⟩:=wAo.1 ha;exact⟨⟨a,h1,of_decide_eq_true h2,rfl⟩,e2.symm⟩
 ·rintro⟨⟨a,ha,hs,rfl⟩,rfl⟩;exact⟨a.i,(zAB _ _).2 (wAf.2 ⟨a,wAo.2 ⟨ha,decide_eq_true hs⟩,rfl⟩),rfl⟩
theorem mem_tgt {A:List Arc} {S:List Int} {x t:Int} : t∈setI ((A.filter fun a=>decide (a.f∈S∧a.i=x)).map (·.t))↔∃ a∈A,a.f∈S∧a.i=x∧a.t=t:=by
 rw[zAB,wAf];constructor
 ·rintro⟨a,ha,rfl⟩;obtain⟨h1,h2⟩:=wAo.1 ha
  have:=of_decide_eq_true h2
  exact⟨a,h1,this.1,this.2,rfl⟩
 ·rintro⟨a,ha,hs,hx,rfl⟩;exact⟨a,wAo.2 ⟨ha,decide_eq_true ⟨hs,hx⟩⟩,rfl⟩
theorem accD {A:List Arc} {F:List Fnl} : ∀ (w:List Int) (S:List Int),accS (stpD A) (finD F) S w↔∃ s∈S,accE A F s w
 | [],S=>by
  unfold accS accE finD;rw[wBa];constructor
  ·rintro⟨x,hx,h⟩;exact⟨x.s,of_decide_eq_true h,x,hx,rfl⟩
  ·rintro⟨s,hs,x,hx,rfl⟩;exact⟨x,hx,decide_eq_true hs⟩
 | x::w,S=>by
  constructor
  ·rintro⟨U,hU,hw⟩;obtain⟨_,rfl⟩:=mem_stpD.1 hU;obtain⟨t,ht,hw⟩:=(accD w _).1 hw;obtain⟨a,ha,hs,hx,rfl⟩:=mem_tgt.1 ht;exact⟨a.f,hs,a,ha,rfl,hx,hw⟩
  ·rintro⟨s,hs,a,ha,rfl,hx,hw⟩;exact⟨_,mem_stpD.2 ⟨⟨a,ha,hs,hx⟩,rfl⟩,(accD w _).2 ⟨a.t,mem_tgt.2 ⟨a,ha,hs,hx,rfl⟩,hw⟩⟩
inductive Pth (A:List Arc):Int→List Int→Int→Prop
 | nil {s} : Pth A s [] s
 | eps {a w t} : a∈A→a.i=0→Pth A a.t w t→Pth A a.f w t
 | lab {a w t} : a∈A→a.i≠0→Pth A a.t w t→Pth A a.f (a.i::w) t
def accA (A:List Arc) (F:List Fnl) (s:Int):Lang:=fun w=>∃ t,Pth A s w t∧∃ x∈F,x.s=t
inductive Near (A:List Arc) (s:Int):Int→Prop
 | base:Near A s s
 | step {a} : Near A s a.f→a∈A→a.i=0→Near A s a.t
theorem zC8 {A:List Arc} {s u t:Int} {w:List Int} (h:Near A s u) (hp:Pth A u w t):Pth A s w t:=by
 induction h with
 | base=>exact hp
 | step _ ha hi ih=>exact ih (.eps ha hi hp)
theorem zJO {A:List Arc} {a:Arc} {u:Int} (ha:a∈A) (hi:a.i=0) (h:Near A a.t u):Near A a.f u:=by
 induction h with
 | base=>exact .step .base ha hi
 | step _ hb hj ih=>exact .step ih hb hj
theorem zHm {A:List Arc} {s t:Int} {w:List Int} (h:Pth A s w t):w=[]→Near A s t:=by
 induction h with
 | nil=>intro _;exact .base
 | eps ha hi _ ih=>intro e;exact zJO ha hi (ih e)
 | lab=>intro e;cases e
theorem zEX {A:List Arc} {s t:Int} {w:List Int} (h:Pth A s w t):∀ {x v},w=x::v→∃ a∈A,Near A s a.f∧a.i=x∧a.i≠0∧Pth A a.t v t:=by
 induction h with
 | nil=>intro x v e;cases e
 | eps ha hi _ ih =>
  intro x v e;obtain⟨b,hb,h1,h2⟩:=ih e;exact⟨b,hb,zJO ha hi h1,h2⟩
 | @lab a w t ha hi hp _ =>
  intro x v e;injection e with e1 e2
  subst e1 e2;exact⟨a,ha,.base,rfl,hi,hp⟩
open Classical in
noncomputable def silA (m:Mach):List Arc:=(wAe m.n.toNat).flatMap fun s:Nat=>(m.arcs.filter fun a=>decide (a.i≠0∧Near m.arcs (s:Int) a.f)).map fun a=>⟨(s:Int),a.t,a.i,a.i,0⟩
open Classical in
noncomputable def silF (m:Mach):List Fnl:=(wAe m.n.toNat).flatMap fun s:Nat=>if ∃ x∈m.fins,Near m.arcs (s:Int) x.s then [⟨(s:Int),0⟩] else []
open Classical in
theorem mem_silA {m:Mach} {z:Arc} : z∈silA m↔∃ s:Nat,s<m.n.toNat∧∃ a∈m.arcs,a.i≠0∧Near m.arcs (s:Int) a.f∧z=⟨(s:Int),a.t,a.i,a.i,0⟩:=by
 unfold silA;rw[wAx];constructor
 ·rintro⟨s,hs,h⟩;obtain⟨a,ha,rfl⟩:=wAf.1 h;obtain⟨h1,h2⟩:=wAo.1 ha
  have:=of_decide_eq_true h2
  exact⟨s,wAg.1 hs,a,h1,this.1,this.2,rfl⟩
 ·rintro⟨s,hs,a,ha,h1,h2,rfl⟩;exact⟨s,wAg.2 hs,wAf.2 ⟨a,wAo.2 ⟨ha,decide_eq_true ⟨h1,h2⟩⟩,rfl⟩⟩
open Classical in
theorem mem_silF {m:Mach} {z:Fnl} : z∈silF m↔∃ s:Nat,s<m.n.toNat∧(∃ x∈m.fins,Near m.arcs (s:Int) x.s)∧z=⟨(s:Int),0⟩:=by
 unfold silF;rw[wAx];constructor
 ·rintro⟨s,hs,h⟩;split at h
  ·rename_i g
   exact⟨s,wAg.1 hs,g,wAh.1 h⟩
  · cases h
 ·rintro⟨s,hs,g,rfl⟩;exact⟨s,wAg.2 hs,by rw[if_pos g];exact wAh.2 rfl⟩
theorem zGL {m:Mach} (hr:∀ a∈m.arcs,0≤a.t∧a.t<m.n):∀ (w:List Int) (s:Int),0≤s→s<m.n→(accE (silA m) (silF m) s w↔accA m.arcs m.fins s w)
 | [],s,h0,h1=>by
  constructor
  ·rintro⟨z,hz,e⟩;obtain⟨k,hk,⟨x,hx,hn⟩,rfl⟩:=mem_silF.1 hz;have e:(k:Int)=s:=e;subst e;exact⟨x.s,zC8 hn .nil,x,hx,rfl⟩
  ·rintro⟨t,hp,x,hx,rfl⟩;have hn:=zHm hp rfl;exact⟨⟨s,0⟩,mem_silF.2 ⟨s.toNat,by omega,⟨x,hx,by rw[show ((s.toNat:Nat):Int)=s by omega];exact hn⟩,by rw[show ((s.toNat:Nat):Int)=s by omega]⟩,rfl⟩
 | x::w,s,h0,h1=>by
  constructor
  ·rintro⟨z,hz,e1,e2,hw⟩;obtain⟨k,hk,a,ha,hi,hn,rfl⟩:=mem_silA.1 hz;have e1:(k:Int)=s:=e1;have e2:a.i=x:=e2;subst e1 e2;have hr':=hr a ha;obtain⟨t,hp,hx⟩:=(zGL hr w a.t hr'.1 hr'.2).1 hw;exact⟨t,zC8 hn (.lab ha hi hp),hx⟩
  ·rintro⟨t,hp,hx⟩;obtain⟨a,ha,hn,e,hi,hq⟩:=zEX hp rfl;have hr':=hr a ha;subst e;refine⟨⟨s,a.t,a.i,a.i,0⟩,mem_silA.2 ⟨s.toNat,by omega,a,ha,hi,by rw[show ((s.toNat:Nat):Int)=s by omega];exact hn,by rw[show ((s.toNat:Nat):Int)=s by omega]⟩,rfl,rfl,(zGL hr w a.t hr'.1 hr'.2).2 ⟨t,hq,hx⟩⟩
theorem zEL {A:List Arc} {F:List Fnl} : ∀ (w:List Int) (s:Int),accE A F s w→RS true A (finStates F) s
 | [],s,⟨x,hx,e⟩=>.base (by unfold finStates;exact wAf.2 ⟨x,hx,e⟩)
 | x::w,s,⟨a,ha,e,_,hw⟩=>.step (a:=a) (zEL w a.t hw) ha rfl e
theorem zDH {m:Mach} (hr:∀ a∈m.arcs,0≤a.f∧0≤a.t) (hF:∀ x∈m.fins,0≤x.s):∀ (w:List Int) (s:Nat),keepK m s=true→(accE (partM m (keepK m)).arcs (partM m (keepK m)).fins (cntK (keepK m) s:Int) w↔accE m.arcs m.fins (s:Int) w)
 | [],s,hs=>by
  constructor
  ·rintro⟨z,hz,e⟩;obtain⟨x,hx,rfl⟩:=wAf.1 (show z∈partFins _ _ from hz);obtain⟨h1,h2⟩:=wAo.1 hx;have e:((cntK (keepK m) x.s.toNat:Nat):Int)=(cntK (keepK m) s:Int):=e
   have:=zFP h2 hs (by omega)
   have:=hF x h1
   exact⟨x,h1,by omega⟩
  ·rintro⟨x,hx,e⟩;(have hxs:x.s.toNat=s:=by omega);refine⟨partFin (keepK m) x,wAf.2 ⟨x,wAo.2 ⟨hx,by rw[hxs];exact hs⟩,rfl⟩,?_⟩
   show ((cntK (keepK m) x.s.toNat:Nat):Int)=_
   rw[hxs]
 | x::w,s,hs=>by
  constructor
  ·rintro⟨z,hz,e1,e2,hw⟩;obtain⟨a,ha,rfl⟩:=wAf.1 (show z∈partArcs _ _ from hz);obtain⟨h1,h2⟩:=wAo.1 ha;simp only[wBc] at h2;have e1:((cntK (keepK m) a.f.toNat:Nat):Int)=(cntK (keepK m) s:Int):=e1
   have:=zFP h2.1 hs (by omega)
   have hp:=hr a h1;have e2:a.i=x:=e2;have hw':=(zDH hr hF w a.t.toNat h2.2).1 hw;rw[show ((a.t.toNat:Nat):Int)=a.t by omega] at hw';exact⟨a,h1,by omega,e2,hw'⟩
  ·rintro⟨a,ha,e1,e2,hw⟩;have hp:=hr a ha;(have hf:a.f.toNat=s:=by omega);(have ht:((a.t.toNat:Nat):Int)=a.t:=by omega);have hk:keepK m a.t.toNat=true:=keepK_iff.2 ⟨by rw[ht];exact .step (a:=a) (keepK_iff.1 hs).1 ha e1 rfl,by rw[ht];exact zEL w a.t hw⟩;refine⟨partArc (keepK m) a,wAf.2 ⟨a,wAo.2 ⟨ha,by simp only[wBc];rw[hf];exact⟨hs,hk⟩⟩,rfl⟩,?_,e2,?_⟩
   ·show ((cntK (keepK m) a.f.toNat:Nat):Int)=_
    rw[hf]
   · exact (zDH hr hF w a.t.toNat hk).2 (by rw[ht];exact hw)
theorem zJV (s:Int):∀ w,¬ accE [] [] s w
 | [],⟨x,hx,_⟩=>by cases hx
 | x::w,⟨a,ha,_⟩=>by cases ha
theorem zNE {m:Mach} (hr:∀ a∈m.arcs,0≤a.f∧0≤a.t) (hF:∀ x∈m.fins,0≤x.s) (hn:m.n≠0) (w:List Int):accE (trimOf m).arcs (trimOf m).fins 0 w↔accE m.arcs m.fins 0 w:=by
 unfold trimOf;by_cases hk:keepK m 0=true
 ·rw[if_neg (by rintro (g | g);exact hn g;rw[hk] at g;cases g)]
  have:=zDH hr hF w 0 hk
  rw[show ((0:Nat):Int)=0 from rfl] at this;exact this
 ·rw[if_pos (.inr (by simpa using hk))];refine⟨fun g=>absurd g (zJV 0 w),fun g=>?_⟩;exact absurd (keepK_iff.2 ⟨.base (by simp),zEL w 0 g⟩) hk
def hsF (A:List Arc) (H:Int→Prop) (x:Int):Int→Prop:=fun t=>∃ a∈A,H a.f∧a.i=x∧a.i≠0∧Near A a.t t
theorem zA0 {γ:Type} (i1 i2:BEq γ) [l1 : @LawfulBEq γ i1] [l2 : @LawfulBEq γ i2] (a:γ) (l:List γ) : @List.idxOf γ i1 a l=@List.idxOf γ i2 a l:=by
 have e:i1=i2:=by
  have h1:∀ x y,@BEq.beq γ i1 x y=true↔x=y:=fun x y=>@beq_iff_eq γ i1 l1 x y
  have h2:∀ x y,@BEq.beq γ i2 x y=true↔x=y:=fun x y=>@beq_iff_eq γ i2 l2 x y
  cases i1 with
  | mk f =>
   cases i2 with
   | mk g =>
    congr 1;funext x y;exact Bool.eq_iff_iff.2 ((h1 x y).trans (h2 x y).symm)
 subst e;rfl
section
variable {γ δ:Type} [DecidableEq γ] [DecidableEq δ]
theorem zNu {K:Nat→γ} {K':Nat→δ} {n:Nat} (h:∀ s t,s<n→t<n→(K s=K t↔K' s=K' t)):(numD K n).length=(numD K' n).length∧∀ s,s<n→(numD K n).idxOf (K s)=(numD K' n).idxOf (K' s):=by
 have hR:BiU fun (a:γ) (b:δ)=>∃ s,s<n∧K s=a∧K' s=b:=by
  rintro a b a' b' ⟨s,hs,rfl,rfl⟩ ⟨t,ht,rfl,rfl⟩;exact h s t hs ht
 have hF:∀ m,m≤n→F2 (fun (a:γ) (b:δ)=>∃ s,s<n∧K s=a∧K' s=b) (numD K m) (numD K' m):=by
  intro m
  induction m with
  | zero=>intro _;exact .nil
  | succ m ih=>intro hm;exact (F2.add hR (ih (by omega)) ⟨m,by omega,rfl,rfl⟩).1
 refine⟨(hF n (wAl _)).len,fun s hs=>((hF n (wAl _)).idx fun a b _ r=>hR a b (K s) (K' s) r ⟨s,hs,rfl,rfl⟩).2⟩
def numE:List γ→Nat→List (γ×Go.Value)
 | [],_=>[]
 | a::l,i=>(a,.int .i64 (i:Nat))::numE l (i+1)
theorem zCK (a:γ):∀ (l:List γ) (i:Nat),lk (numE l i) a=if a∈l then some (.int .i64 ((i+l.idxOf a:Nat):Int)) else none
 | [],i=>by simp[numE]
 | b::l,i=>by
  unfold numE;rw[zBL,zCK a l (i+1)];by_cases h:b=a
  · subst h;simp
  ·rw[if_neg h,wAT,show (b==a)=false by simpa using h];by_cases g:a∈l
   ·rw[if_pos g,if_pos (wAc _ g)];congr 3
    show i+1+_=i+(_+1)
    omega
   · rw[if_neg g,if_neg (by rw[wAk];rintro (e | e);exact h e.symm;exact g e)]
omit [DecidableEq γ] in
theorem zFR:∀ (l k:List γ) (i:Nat),numE (l++k) i=numE l i++numE k (i+l.length)
 | [],k,i=>by simp[numE]
 | a::l,k,i=>by
  rw[List.cons_append]
  show _::numE (l++k) (i+1)=_::(numE l (i+1)++_)
  rw[zFR l k (i+1),wAq,show i+1+l.length=i+(l.length+1) by omega]
omit [DecidableEq γ] in
theorem zDB:∀ (l:List γ) (i:Nat),(numE l i).length=l.length
 | [],_=>rfl
 | a::l,i=>by unfold numE;rw[wAq,wAq,zDB l (i+1)]
theorem zJq {a:γ} {l:List γ} (h:a∉l):upL (numE l 0) a (.int .i64 (l.length:Nat))=numE (l++[a]) 0:=by
 unfold upL;rw[zCK,if_neg h,if_neg (by simp),zFR];simp[numE]
theorem zOF {a:γ} {l:List γ} (h:a∉l):addL l a=l++[a]:=by unfold addL;rw[if_neg h]
theorem zPb {a:γ} {l:List γ} (h:a∈l):addL l a=l:=by unfold addL;rw[if_pos h]
end
def b3 (x:Int):List Int:=[x/65536%256,x/256%256,x%256]
theorem zQw {x y:Int} (hx : -1≤x∧x<1000000) (hy : -1≤y∧y<1000000) (h:b3 x=b3 y):x=y:=by
 unfold b3 at h;simp only[List.cons.injEq,and_true] at h;omega
theorem zQo (x:Int):∀ b∈b3 x,0≤b∧b<256:=by
 intro b hb;unfold b3 at hb;simp only[wAk,List.not_mem_nil,or_false] at hb;omega
def toB (l:List Int):List UInt8:=l.map fun x=>UInt8.ofNat x.toNat
theorem zIW:∀ {l k:List Int},(∀ x∈l,0≤x∧x<256)→(∀ x∈k,0≤x∧x<256)→toB l=toB k→l=k
 | [],[],_,_,_=>rfl
 | [],y::k,_,_,h=>by cases h
 | x::l,[],_,_,h=>by cases h
 | x::l,y::k,hl,hk,h=>by
  injection h with h1 h2
  have e:=congrArg UInt8.toNat h1;have gx:=hl x wAd;have gy:=hk y wAd;rw[UInt8.toNat_ofNat',UInt8.toNat_ofNat'] at e
  have:x=y:=by omega
  subst this;rw[zIW (fun z hz=>hl z (wAc _ hz)) (fun z hz=>hk z (wAc _ hz)) h2]
section
variable (row:Nat→List Int) (fin:Nat→Bool) (c:Nat→Nat)
def clT (t:Int):Int:=if 0≤t then ((c t.toNat:Nat):Int) else -1
def rowBy (l:List Int):List Int:=l.flatMap fun t=>b3 (clT c t)
def keyBy (s:Nat):List Int:=b3 (c s)++[if fin s then 1 else 0]++rowBy c (row s)
theorem zKU (l:List Int) (t:Int):rowBy c (l++[t])=rowBy c l++b3 (clT c t):=by unfold rowBy;rw[wAZ];simp
theorem zCU (l:List Int):(rowBy c l).length=3*l.length:=by
 unfold rowBy
 induction l with
 | nil=>rfl
 | cons t l ih=>rw[List.flatMap_cons,wAm,ih,wAq];simp[b3];omega
theorem zFc (s:Nat):∀ b∈keyBy row fin c s,0≤b∧b<256:=by
 intro b hb;unfold keyBy rowBy at hb;rcases wAi.1 hb with hb | hb
 ·rcases wAi.1 hb with hb | hb
  · exact zQo _ b hb
  · rw[wAh.1 hb];split<;>omega
 ·obtain⟨t,_,ht⟩:=wAx.1 hb;exact zQo _ b ht
variable {row fin c}
theorem zHE:∀ {l k:List Int},(∀ t∈l,clT c t<1000000)→(∀ t∈k,clT c t<1000000)→rowBy c l=rowBy c k→l.map (clT c)=k.map (clT c)
 | [],[],_,_,_=>rfl
 | [],y::k,_,_,h=>by
  have:=congrArg wA6 h
  rw[zCU,zCU] at this;simp at this
 | x::l,[],_,_,h=>by
  have:=congrArg wA6 h
  rw[zCU,zCU] at this;simp at this
 | x::l,y::k,hl,hk,h=>by
  have e:b3 (clT c x)++rowBy c l=b3 (clT c y)++rowBy c k:=h;obtain⟨h1,h2⟩:=wAV e (by simp[b3]);have g:∀ t,-1≤clT c t:=fun t=>by unfold clT;split<;>omega
  have:=zQw ⟨g x,hl x wAd⟩ ⟨g y,hk y wAd⟩ h1
  rw[wAP,wAP,this,zHE (fun z hz=>hl z (wAc _ hz)) (fun z hz=>hk z (wAc _ hz)) h2]
theorem zNf {n:Nat} (hc:∀ s,s<n→c s<1000000) (hr:∀ s,s<n→∀ t∈row s,t<(n:Int)) {s t:Nat} (hs:s<n) (ht:t<n):keyK row fin c s=keyK row fin c t↔toB (keyBy row fin c s)=toB (keyBy row fin c t):=by
 have hk:∀ s,keyK row fin c s=(c s,fin s,(row s).map (clT c)):=fun s=>rfl
 have hcl:∀ s,s<n→∀ t∈row s,clT c t<1000000:=fun s hs t ht=>by
  unfold clT;split
  ·have:=hr s hs t ht
   have:=hc t.toNat (by omega)
   omega
  · omega
 constructor
 ·intro h;rw[hk,hk] at h;injection h with h1 h2
  injection h2 with h2 h3
  have e:∀ l k:List Int,l.map (clT c)=k.map (clT c)→rowBy c l=rowBy c k:=fun l k h=>by
   (have g:∀ l:List Int,rowBy c l=(l.map (clT c)).flatMap b3:=fun l=>by unfold rowBy;rw[List.flatMap_map]);rw[g,g,h]
  unfold keyBy;rw[h1,h2,e _ _ h3]
 ·intro h;have h:=zIW (zFc row fin c s) (zFc row fin c t) h;unfold keyBy at h;obtain⟨h1,h2⟩:=wAV h (by simp[b3]);obtain⟨h3,h4⟩:=wAV h1 (by simp[b3]);have e1:=zQw ⟨by omega,by have:=hc s hs;omega⟩ ⟨by omega,by have:=hc t ht;omega⟩ h3
  have e2:fin s=fin t:=by
   simp only[List.cons.injEq,and_true] at h4;cases h5:fin s<;>cases h6:fin t<;>simp_all
  have e3:=zHE (hcl s hs) (hcl t ht) h2;rw[hk,hk,show c s=c t by omega,e2,e3]
def keyU (row:Nat→List Int) (fin:Nat→Bool) (c:Nat→Nat) (s:Nat):List UInt8:=toB (keyBy row fin c s)
theorem zO8 {n:Nat} (hc:∀ s,s<n→c s<1000000) (hr:∀ s,s<n→∀ t∈row s,t<(n:Int)):cntC row fin n c=(numD (keyU row fin c) n).length∧∀ s,s<n→renK row fin n c s=(numD (keyU row fin c) n).idxOf (keyU row fin c s):=by
 have h:=zNu (K:=keyK row fin c) (K':=keyU row fin c) (n:=n) fun s t hs ht=>zNf hc hr hs ht
 refine⟨h.1,fun s hs=>?_⟩;have h2:=h.2 s hs;unfold renK;refine Eq.trans ?_ (h2.trans ?_)
 · exact zA0 _ _ _ _
 · exact zA0 _ _ _ _
end
def posU (K:Nat→List UInt8) (n s:Nat):Nat:=(numD K n).idxOf (K s)
theorem zNs {K:Nat→List UInt8} {s m n:Nat} (hs:s<m) (hm:m≤n):lk (numE (numD K m) 0) (K s)=some (.int .i64 ((posU K n s:Nat):Int)):=by
 have hmem:K s∈numD K m:=mem_numD.2 ⟨s,hs,rfl⟩;rw[zCK,if_pos hmem];have h:=zJ8 hmem (n-m);rw[show m+(n-m)=n by omega] at h;unfold posU;rw[wAI,← h];exact congrArg (fun z:Nat=>some (Go.Value.int .i64 ((z:Nat):Int))) (zA0 _ _ _ _)
theorem zRl {K:Nat→List UInt8} {s:Nat} (h:K s∉numD K s):lk (numE (numD K s) 0) (K s)=none:=by rw[zCK,if_neg h]
theorem zRM {K:Nat→List UInt8} {s:Nat} (h:K s∉numD K s):upL (numE (numD K s) 0) (K s) (.int .i64 (((numD K s).length:Nat):Int))=numE (numD K (s+1)) 0:=by
 rw[zJq h]
 show _=numE (addL (numD K s) (K s)) 0
 rw[zOF h]
theorem zNw {K:Nat→List UInt8} {s:Nat} (h:K s∈numD K s):numD K (s+1)=numD K s:=zPb h
theorem zSu {K:Nat→List UInt8} {s n:Nat} (h:K s∈numD K s) (hs:s<n):lk (numE (numD K s) 0) (K s)=some (.int .i64 ((posU K n s:Nat):Int)):=by
 have:=zNs (K:=K) (s:=s) (m:=s+1) (n:=n) (by omega) (by omega)
 rw[zNw h] at this;exact this
def byRow (l:List Int):List Go.Value:=l.map (.int .u8)
theorem zEs (l k:List Int):byRow (l++k)=byRow l++byRow k:=by unfold byRow;rw[List.map_append]
theorem zHM (l:List Int):∀ u∈byRow l,u.oneCell'=true:=by
 intro u hu;obtain⟨x,_,rfl⟩:=wAf.1 hu;rfl
theorem zDu:∀ {l:List Int},(∀ x∈l,0≤x∧x<256)→byRow l=Go.Lib.byteCells (toB l)
 | [],_=>rfl
 | x::l,h=>by
  have gx:=h x wAd;have ih:=zDu (l:=l) fun y hy=>h y (wAc _ hy)
  show Go.Value.int .u8 x::byRow l=Go.Value.int .u8 ((UInt8.ofNat x.toNat).toNat:Int)::Go.Lib.byteCells (toB l)
  rw[ih,UInt8.toNat_ofNat'];congr 2;omega
theorem zN9 (row:Nat→List Int) (fin:Nat→Bool) (c:Nat→Nat) (s:Nat):(keyBy row fin c s).length=4+3*(row s).length:=by
 unfold keyBy;rw[wAm,wAm,zCU];simp[b3]
def kvS (l:List UInt8):Go.Value:=.string ⟨l.toArray⟩
def okS (l:List UInt8):Prop:=l.length≤1000000
theorem zRT (a b:List UInt8) (h:kvS a=kvS b):a=b:=by
 unfold kvS at h;injection h with h
 injection h with h
 injection h
section
open Go
variable {α:Type} {P:Program} {w:World} {kv:α→Value} {ok:α→Prop} {b:Nat} {L:List (α×Value)}
theorem MapIs.len (h:MapIs w kv ok b L):∃ es clock,w.heap[b]? = some (.map es clock)∧es.size=L.length:=by
 obtain⟨es,clock,hb,_,hE,_⟩:=h;exact⟨es,clock,hb,by have:=congrArg wA6 hE;simpa using this⟩
theorem MapIs.run_len (h:MapIs w kv ok b L) {t k e:TypeId} (ht:P.underlying t=some (.map k e)) {n:Nat} (hn:L.length=n) (ty:TypeId):(Builtin.len_ #[t] ty #[.map (some b)]).run P w=.ok (.int .i64 ((n:Nat):Int)) w:=by
 obtain⟨es,clock,hb,hsz⟩:=h.len;have hrun:=run_len_map (P:=P) (w:=w) t ty b es clock (by simp[Program.mapKeyOf,Program.mapElemOf,ht]) hb;rw[hrun,hsz,hn];rfl
end
theorem zJY (ls:List Int) (s:Nat):rowL ls [] s=List.replicate ls.length (-1):=by
 unfold rowL afterL
 induction ls with
 | nil=>rfl
 | cons x l ih=>rw[wAP,ih,wAq,List.replicate_succ];rfl
theorem zOv (ls:List Int) (A:List Arc) (s:Nat):(rowL ls A s).length=ls.length:=by unfold rowL;rw[wAv]
end Gm
