/- Part of the proof. -/
import Derived.Test.YtkfdhpbnphojoaaNd5
import Derived.Test.YtkfdhpbnphojoaaNd8
import Derived.Test.YtkfdhpbnphojoaaNd9
set_option linter.unusedSimpArgs false
set_option linter.unusedVariables false
set_option maxRecDepth 100000
set_option maxHeartbeats 32000000
open List renaming length_append→wAc,setIfInBounds_toArray→wAj,getElem_cons_zero→wAk,getElem_cons_succ→wAl,mem_of_getElem?→wAm,getElem_toArray→wAn,set_cons_zero→wAp,set_cons_succ→wAq,getElem?_map→wAs
open Nat renaming le_refl→wAa,le_succ→wAg,eq_zero_or_pos→wAo,lt_succ_of_lt→wAr,mul_le_mul→wAt
open Go.World renaming setCell→wAb
open Go.RowKit.Below renaming refl→wAd
open Go.World renaming news_of_block→wAe
open Go.World renaming rowIs_made→wAf
open Go.World renaming alloc→wAh
open Gm.Blk renaming at_→wAi
namespace Go.Proofs.Ytkfdhpbnphojoaa
open Go.RowKit Gm
theorem zEn (
 vl vn vf:Value) (l:List Int) (L:List (List Int)) (F:List Bool) (w:World) (B:Nat) (hB:B≤w.heap.size) (hl:Nums w B vl l) (hn:NumsL w B vn L) (hf:Bools w B vf F) (hok:SmOk l L F.length) :
 Calls Try.prog 48 #[vl,vn,vf] w fun e w'=>∃ v1,e=.returned (.tuple #[v1,.agg #[.int .i64 (limR (canT l L F)).2.1,.int .i64 (limR (canT l L F)).2.2]])∧MachNew w.heap.size w' v1 (limR (canT l L F)).1∧Below w.heap.size w w':=by
 have HHF:=zh hf;obtain⟨AL,ql,cl,rfl,HQ,hqc,hqb,hL⟩:=hl;obtain⟨AN,n,cn,rfl,HN,hnc,hnb,hR⟩:=hn;obtain⟨AF,nf,cf,rfl,HF,hfc,hfb,hFF⟩:=hf;obtain⟨i0,hi0,hz0,hz1,hz2⟩:=info_parts zAH;obtain⟨ia,ha0,ha1,ha2,ha3⟩:=info_parts zBa;obtain⟨iF,hF0,hF1,hF2,hF3⟩:=info_parts zB6;have HRL:=zh hL;have HRR:=zh (show RdL w B AN n L from hR);have HRF:=zh hFF;have hq3:=hok.l3;have hn2:=hok.n2;have hnf:=hok.fin;have HOK:=zh hok;rw[HQ.o] at hq3;rw[HN.o] at hn2;rw[HF.o,HN.o] at hnf;subst hnf;unfold big at hqb hnb hfb;have HMKL:=zh (fun (W:World)=>run_make_row' (P:=Try.prog) 73 26 (.slice none 0 0) 24 Try.underlying73 zCi rfl .i64 .i64 nf (by omega) (by omega) W);have HMKB:=zh (fun (W:World)=>run_make_row' (P:=Try.prog) 51 4 (.bool false) 1 Try.underlying51 zAN rfl .i64 .i64 nf (by omega) (by omega) W);have HMKI:=zh (fun (k:Nat) (hk:k≤20000) (W:World)=>run_make_row' (P:=Try.prog) 26 3 (.int .i64 0) 8 Try.underlying26 zAH rfl .i64 .i64 k (by omega) (by omega) W);have HLQ:=zh (show ∀ s,s<nf→(rowOf L s).length=ql from fun s hs=>by rw[(hok.row (s:=s) (by rw[HN.o];exact hs)).1,HQ.o]);have HRG:=zh (show ∀ s,s<nf→∀ t∈rowOf L s,-1≤t∧t<(nf:Int) from fun s hs t ht=>by have h:=(hok.row (s:=s) (by rw[HN.o];exact hs)).2 t ht;rw[HN.o] at h;exact h);clear hL hR hFF hok;have hmk:=HMKL.o
 go_enter Try.func48,Try.ntmps48
 go_upto_region 3 with fail
 clear hmk;generalize hW1:wAh _ _=W1;obtain⟨G,hG⟩:∃ z,z=w.heap.size+1+1:=⟨_,rfl⟩;have HRM:=zh (show Blk W1 w.heap.size 25 #[.int .i64 0,.slice none 0 0,.slice none 0 0] by rw[← hW1];exact ((wAi rfl).alloc _).alloc _);have HRX:=zh (show Blk W1 (w.heap.size+1) 28 #[.int .i64 0,.int .i64 0] by rw[← hW1];exact (wAi (by simp)).alloc _);have HB1:=zh (show Below w.heap.size w W1 by rw[← hW1];go_grown)
 have HLL0:=zh (show OwnLL W1 (G+1) 26 3 1 G nf (fun _=>.slice none 0 0) (fun t=>intRow (castL (bkN L 0 t))) (fun t=>(bkN L 0 t).length) by
  rw[← hW1,hG];refine⟨?_,by omega,fun i _=>World.ownsRow_nil _ _ _ _,fun i j _ _ _=>.inl rfl⟩
  have:=wAf ((w.alloc (Obj.cells #[.int .i64 0,.slice none 0 0,.slice none 0 0] 25)).alloc (Obj.cells #[.int .i64 0,.int .i64 0] 28)) (.slice none 0 0) nf 26
  simpa using this)
 have HT0:=zh (World.ownsRow_nil W1 (G+1) 3 1);have hz1:G<W1.heap.size:=HLL0.o.row.lt;have HRR1:=zh (HRR.o.below HB1.o hB);have HRF1:=zh (HRF.o.below HB1.o hB);have HRL1:=zh (HRL.o.below HB1.o hB);have hBG:B<G:=by omega
 have hwG:w.heap.size+1<G:=by omega
 have HWG:=zh hG;simp only[← hG];clear hW1 hG;go_wp2
 go_loopw [9,39] (fun tv iv wr=>∃ (i:Nat) (vs:Nat→Value),i≤nf∧iv=.int .i64 (i:Int)∧Hid (OwnLL wr (G+1) 26 3 1 G nf vs (fun t=>intRow (castL (bkN L i t))) (fun t=>(bkN L i t).length))∧Hid (wr.ownsRow (G+1) 3 1 tv (finN F i).length (intRow (castL (finN F i))))∧Hid (∀ t,t<nf→(vs t).ownBlock=none∨(vs t).ownBlock≠tv.ownBlock)∧Hid (Below G W1 wr)∧G<wr.heap.size) (fun _ iv _=>nf-(intOf iv).toNat)
 case atStart=>exact⟨0,_,by omega,rfl,HLL0,HT0,zh (fun t _=>.inl rfl),zh (wAd _ _),hz1⟩
 case round =>
  clear HLL0 HT0 hz1;obtain⟨i,vs,hi,rfl,HLL,HTO,HDI,HBK,hzr⟩:=hrel;by_cases hin:i<nf
  ·obtain⟨b1,o1,A1,n1,c1,rw1,rfl,hb1,d1,HR1,HL1,hc1,hn1b,hrd1⟩:=zEo (HRR1.o.below HBK.o (by omega)) hin
   have hn1:ql=n1:=by
    have h:=HLQ.o i hin;unfold rowOf at h;rw[HR1.o,HL1.o] at h;exact h.symm
   subst hn1;have HRD1:=zh hrd1;(have lb1:b1<wr.heap.size:=by omega);obtain⟨tv,htv⟩:∃ z,z=u9:=⟨_,rfl⟩;rw[← htv] at HTO HDI;have HLL1:=zh (show OwnLL wr (G+1) 26 3 1 G nf vs (fun t=>intRow (castL (bkP L i 0 t))) (fun t=>(bkP L i 0 t).length) from HLL.o.congr (fun t _=>by rw[zJ6]) (fun t _=>by rw[zJ6]));have HTV:=zh htv;obtain⟨W3,hW3⟩:∃ z,z=wr:=⟨_,rfl⟩;rw[← hW3] at HLL1 HTO HBK hzr HRD1 d1 lb1 ⊢;clear hW3 HLL hrd1 htv;(go_upto_region 7 with fail);clear d1
   go_loopw [46] (fun kv wr=>∃ (k:Nat) (vs:Nat→Value),k≤ql∧kv=.int .i64 (k:Int)∧Hid (OwnLL wr (G+1) 26 3 1 G nf vs (fun t=>intRow (castL (bkP L i k t))) (fun t=>(bkP L i k t).length))∧Hid (wr.ownsRow (G+1) 3 1 tv (finN F i).length (intRow (castL (finN F i))))∧Hid (∀ t,t<nf→(vs t).ownBlock=none∨(vs t).ownBlock≠tv.ownBlock)∧Hid (Below G W3 wr)∧G<wr.heap.size) (fun kv _=>ql-(intOf kv).toNat)
   case atStart=>exact⟨0,vs,by omega,rfl,HLL1,HTO,HDI,zh (wAd _ _),hzr⟩
   case round =>
    clear HLL1 HTO HDI hzr;obtain⟨k,vs,hk,rfl,HLL,HTO,HDI,HBK',hzr⟩:=hrel;by_cases hkq:k<ql
    ·obtain⟨b2,o2,x,rfl,hb2,d2,HX⟩:=zAO (HRD1.o.below HBK'.o (by omega)) hkq;(have lb2:b2<wr.heap.size:=by omega);have HXA:=zh (show (rowOf L i)[k]? = some x from zPn HR1.o (by rw[HL1.o];exact hkq) HX.o);obtain⟨hxm,hxn⟩:=HRG.o i hin x (wAm HXA.o);by_cases hx0:0≤x
     ·have t1:decide (x≥0)=true:=decide_eq_true hx0;have t1':decide (0≤x)=true:=decide_eq_true hx0;(have hkey:x.toNat<nf:=by omega);have cG:=HLL.o.row.cell hkey;have fG:=HLL.o.row.frozen x.toNat;obtain⟨vk,hvk⟩:∃ z,z=vs x.toNat:=⟨_,rfl⟩;have HVK:=zh hvk;rw[← hvk] at cG;have ownk:=HLL.o.own _ hkey;rw[← hvk] at ownk;obtain⟨m1,hm1⟩:∃ z,z=(bkP L i k x.toNat).length:=⟨_,rfl⟩
      have hml:m1≤40002000:=by
       have h1:=zRq (L:=L) (q:=ql) (i:=i) (k:=k) (fun s hs=>by rw[HLQ.o s (by omega)];exact wAa _) x.toNat;have h2:i*ql≤20000*2000:=wAt (by omega) hq3;omega
      rw[← hm1] at ownk;have HM1:=zh hm1;have HOWN:=zh ownk;have HLOW:=zh (show ∀ z,vk.ownBlock=some z→G+1≤z from fun z hz=>(ownk.lt z hz).1);(have ne2:vk.ownBlock≠some G:=fun e=>by have:=(ownk.lt _ e).1;omega);clear hvk hm1 ownk HX;go_wp2_with (at_builtin;refine wpList_append_own_at _ rfl (.tmp 57) (.tmp 59) 26 rfl (G+1) 3 i0 _ 1 8 Try.underlying26 hi0 hz0 hz1 hz2 rfl (by omega) vk m1 _ rfl (HOWN.o.alloc _) ⟨wr.heap.size,0,none⟩ 1 1 (intRow [(i:Int)]) rfl (by rfl) (wAe (cs:=(intRow [(i:Int)]).toArray) (t:=3) (fr:=(0,0)) (wAi rfl)) (zAg _) (by simp only[maxLen];omega) (by omega) (by simp<;>omega) ?_;intro v' w6 hown2 hg2 _ hat2;obtain⟨Av,cv,rfl,hkcv,_⟩:=zAa hown2;have HAT:=zh hat2;have fG1:w6.frozen? ⟨G,x.toNat,none⟩=false:=zAD hg2 ne2 (by simp;omega) ((HLL.o.alloc _).row.frozen _);have cG1:w6.cell? ⟨G,x.toNat,none⟩=some vk:=zAf hg2 ne2 (by rw[HVK.o];exact (HLL.o.alloc _).row.cell hkey);have lG1:G<w6.heap.size:=by have:=hg2.size;simp at this;omega)
      have HLN:=zh ((((HLL.o.alloc _).push hkey (HVK.o▸hg2) hown2 (HAT.o.elim (fun e=>.inl (by rw[← HVK.o];exact e)) (fun e=>.inr ⟨_,e,wAa _⟩))).congr (L':=fun t=>intRow (castL (bkP L i (k+1) t))) (m':=fun t=>(bkP L i (k+1) t).length) (fun t ht=>by
       rw[zEP HXA.o];by_cases e:t=x.toNat
       ·subst e;rw[if_pos rfl,if_pos (by omega),zAA,zAd];rfl
       · rw[if_neg e,if_neg (by omega)]) (fun t ht=>by
       rw[zEP HXA.o];by_cases e:t=x.toNat
       ·subst e;rw[if_pos rfl,if_pos (by omega),wAc,HM1.o];rfl
       · rw[if_neg e,if_neg (by omega)])))
      have HDT:=zh (show tv.ownBlock=none∨tv.ownBlock≠vk.ownBlock by rw[HVK.o];exact zFt (HDI.o _ hkey))
      have HDN:=zh (show ∀ t,t<nf→(if t=x.toNat then Value.slice Av (m1+1) cv else vs t).ownBlock=none∨(if t=x.toNat then Value.slice Av (m1+1) cv else vs t).ownBlock≠tv.ownBlock from fun t ht=>by
       by_cases e:t=x.toNat
       ·rw[if_pos e];exact zFt (zHn (HTO.o.alloc _) HDT.o (HAT.o.imp id .inl))
       ·rw[if_neg e]
        exact HDI.o t ht)
      have HTN:=zh (ownsRow_setCell_below ((HTO.o.alloc _).kept hg2 HDT.o) (a:=⟨G,x.toNat,none⟩) (by show G<G+1;omega) (.slice Av (m1+1) cv));have HBN:=zh (((HBK'.o.alloc (by omega) _).grown hg2 (by simp<;>omega) (fun z hz=>by have:=HLOW.o z hz;omega)).setCell (p:=⟨G,x.toNat,none⟩) (by exact wAa _) (.slice Av (m1+1) cv));clear hown2 hg2 cG fG fG1 cG1;go_roundw
      case rel=>exact⟨k+1,_,by omega,by go_num,HLN,HTN,HDN,HBN,by simp[wAb];omega⟩
      case measure=>simp[intOf];omega
     ·have t1:decide (x≥0)=false:=decide_eq_false hx0;have t1':decide (0≤x)=false:=decide_eq_false hx0;have HLN:=zh (HLL.o.congr (L':=fun t=>intRow (castL (bkP L i (k+1) t))) (m':=fun t=>(bkP L i (k+1) t).length) (fun t ht=>by rw[zEP HXA.o,if_neg (by omega)]) (fun t ht=>by rw[zEP HXA.o,if_neg (by omega)]));clear HX hx0;go_wp2;go_roundw
      case rel=>exact⟨k+1,vs,by omega,by go_num,HLN,HTO,HDI,HBK',hzr⟩
      case measure=>simp[intOf];omega
    ·(obtain rfl:ql=k:=by omega);have HLN:=zh (HLL.o.congr (L':=fun t=>intRow (castL (bkN L (i+1) t))) (m':=fun t=>(bkN L (i+1) t).length) (fun t ht=>by rw[zND (by rw[HLQ.o i hin];exact wAa _)]) (fun t ht=>by rw[zND (by rw[HLQ.o i hin];exact wAa _)]));have HBK3:=zh (HBK.o.trans HBK'.o);obtain⟨b2,o2,x,rfl,hb2,d2,HX⟩:=zIV (HRF1.o.below HBK3.o (by omega)) hin;(have lb2:b2<wr.heap.size:=by omega);have htvu:tv=u9:=HTV.o;subst htvu;cases x
     ·have HFS:=zh (show finN F (i+1)=finN F i by rw[zIs,show finOf F i=false from HX.o];simp);clear HX;go_wp2;go_roundw
      case rel=>exact⟨i+1,vs,by omega,by go_num,HLN,zh (by rw[HFS.o];exact HTO.o),HDI,HBK3,hzr⟩
      case measure=>simp[intOf];omega
     ·have HFS:=zh (show finN F (i+1)=finN F i++[i] by rw[zIs,show finOf F i=true from HX.o];simp);obtain⟨m1,hm1⟩:∃ z,z=(finN F i).length:=⟨_,rfl⟩;(have hml:m1≤20000:=by rw[hm1];have:=zKB (F:=F) i;omega);rw[← hm1] at HTO;have HM1:=zh hm1;obtain⟨A5,c5,rfl,hjc,_⟩:=zAa HTO.o;clear hm1 HX;go_wp2_with (at_builtin;refine wpList_append_own_at _ rfl (.tmp 67) (.tmp 69) 26 rfl (G+1) 3 i0 _ 1 8 Try.underlying26 hi0 hz0 hz1 hz2 rfl (by omega) (.slice A5 m1 c5) m1 _ rfl (HTO.o.alloc _) ⟨wr.heap.size,0,none⟩ 1 1 (intRow [(i:Int)]) rfl (by rfl) (wAe (cs:=(intRow [(i:Int)]).toArray) (t:=3) (fr:=(0,0)) (wAi rfl)) (zAg _) (by simp only[maxLen];omega) (by omega) (by simp<;>omega) ?_;intro v' w6 hown2 hg2 _ hat2);have HLN2:=zh ((HLN.o.alloc _).kept hg2 (fun e=>by have:=(HTO.o.lt G e).1;omega) (fun t ht=>HDI.o t ht));have HDN:=zh (show ∀ t,t<nf→(vs t).ownBlock=none∨(vs t).ownBlock≠v'.ownBlock from fun t ht=>zHn ((HLN.o.alloc _).own t ht) (HDI.o t ht) (hat2.imp id .inl))
      have HTN:=zh (show w6.ownsRow (G+1) 3 1 v' (finN F (i+1)).length (intRow (castL (finN F (i+1)))) by
       rw[HFS.o,zAA,zAd,wAc,← HM1.o]
       exact hown2)
      have HBN:=zh ((HBK3.o.alloc (by omega) _).grown hg2 (by simp<;>omega) (fun z hz=>by have:=(HTO.o.lt z hz).1;omega));have hs6:=hg2.size;simp at hs6;clear hown2 hg2 hat2;go_roundw
      case rel=>exact⟨i+1,vs,by omega,by go_num,HLN2,HTN,HDN,HBN,by omega⟩
      case measure=>simp[intOf];omega
  ·obtain rfl:nf=i:=by
    omega
   have hmk:=HMKB.o;obtain⟨W4,hW4⟩:∃ z,z=wr:=⟨_,rfl⟩;rw[← hW4] at HLL HTO HBK hzr ⊢;clear hW4;(go_upto_region 16 with fail);clear hmk;generalize hW5:wAh _ _=W5;obtain⟨gU,hgU⟩:∃ z,z=W4.heap.size:=⟨_,rfl⟩;have HLL5:=zh (show OwnLL W5 (G+1) 26 3 1 G nf vs (fun t=>intRow (castL (bkN L nf t))) (fun t=>(bkN L nf t).length) by rw[← hW5];exact HLL.o.alloc _);have HTO5:=zh (show W5.ownsRow (G+1) 3 1 u9 (finN F nf).length (intRow (castL (finN F nf))) by rw[← hW5];exact HTO.o.alloc _);have HRU5:=zh (show W5.rowIs gU 4 nf (fun i=>.bool ((fun _=>false:Nat→Bool) i)) by rw[← hW5,hgU];exact wAf W4 (.bool false) nf 4);have HB5:=zh (show Below G W1 W5 by rw[← hW5];exact HBK.o.alloc (by omega) _);(have hGU:G<gU:=by omega);have hz5:gU<W5.heap.size:=HRU5.o.lt;have HUI5:=zh (show UInv l (rowOf L) (finOf F) nf (fun _=>false) (finN F nf) by have h:=zKY (L:=L) (F:=F) (l:=l);rw[HN.o] at h;exact h);(obtain⟨f,hf⟩:∃ f:Nat→Nat,f=fun t=>(bkN L nf t).length:=⟨_,rfl⟩);have HFF:=zh (show ∀ t,f t=(bkN L nf t).length from fun t=>by rw[hf])
   have hM:=zh (show (finN F nf).length+pendF f (fun _=>false) nf≤800000020000 by
    have h1:=zKB (F:=F) nf
    have h2:=zG9 (f:=f) (U:=fun _=>false) (M:=40000000) nf (fun t ht=>by
     rw[hf];have h3:=zMy (L:=L) (n:=nf) (q:=ql) (fun s hs=>by rw[HLQ.o s hs];exact wAa _) t;have h4:nf*ql≤20000*2000:=wAt hn2 hq3
     show (bkN L nf t).length≤40000000
     omega)
    have h5:nf*40000000≤20000*40000000:=Nat.mul_le_mul_right _ hn2
    omega)
   simp only[← hgU];have HGU:=zh hgU;clear hW5 hgU hf HLL HTO HBK hzr
   go_loopg [9] ((finN F nf).length+pendF f (fun _=>false) nf) (fun gk tv wr=>∃ (U:Nat→Bool) (T:List Nat),Hid (wr.ownsRow (G+1) 3 1 tv T.length (intRow (castL T)))∧Hid (wr.rowIs gU 4 nf (fun i=>.bool (U i)))∧Hid (OwnLL wr (G+1) 26 3 1 G nf vs (fun t=>intRow (castL (bkN L nf t))) (fun t=>(bkN L nf t).length))∧Hid (∀ t,t<nf→(vs t).ownBlock=none∨(vs t).ownBlock≠tv.ownBlock)∧Hid (UInv l (rowOf L) (finOf F) nf U T)∧Hid (T.length+pendF f U nf≤gk)∧Hid (gk≤800000020000)∧Hid (Below G W1 wr)∧gU<wr.heap.size)
   case atStart=>exact⟨fun _=>false,finN F nf,HTO5,HRU5,HLL5,HDI,HUI5,zh (wAa _),hM,HB5,hz5⟩
   case round =>
    clear HTO5 HRU5 HLL5 HDI HUI5 hM HB5 hz5;obtain⟨U,T,HTO,HRU,HLL,HDI,HUI,HGK,HG8,HBK,hzr⟩:=hrel;rcases List.eq_nil_or_concat T with hnil | ⟨T',s,hcat⟩
    ·subst hnil;have hto:=HTO.o;simp only[List.length_nil] at hto;obtain⟨Av,cv,rfl,_,_⟩:=zAa hto;clear hto;have HUA:=zh (HUI.o.all (ls:=l) (fun s hs=>by rw[HLQ.o s hs,HQ.o]) (fun s hs t ht=>(HRG.o s hs t ht).2));obtain⟨bb,hbb⟩:∃ b:Bool,b=(decide (nf=0) || !U 0):=⟨_,rfl⟩;have HBB:=zh hbb;clear hbb HTO HLL HDI HUI HGK HG8;obtain⟨W7,hW7⟩:∃ z,z=wr:=⟨_,rfl⟩;rw[← hW7] at HRU HBK hzr ⊢;clear hW7;go_upto_region 22 with fail
     go_cut [111] from 103 to 111 (fun s111 wx=>s111=.bool bb∧wx=W7)
     case first =>
      by_cases h0:nf=0
      ·(have hb:bb=true:=by rw[HBB.o];simp[h0]);(have t6:((nf:Int)==0)=true:=by simp;omega);subst hb;clear HBB h0;go_wp2;go_meet;exact⟨rfl,rfl⟩
      ·have c0:=HRU.o.cell (show 0<nf by omega);(have t6:((nf:Int)==0)=false:=by simp;omega);(have j0:(0:Int)<(nf:Int):=by omega);(have hb:bb = !U 0:=by rw[HBB.o];simp[h0]);subst hb;have lU:=HRU.o.lt;cases hu0:U 0
       ·rw[hu0] at c0;clear HBB h0;go_wp2;go_meet;exact⟨by rw[hu0];rfl,rfl⟩
       ·rw[hu0] at c0;clear HBB h0;go_wp2;go_meet;exact⟨by rw[hu0];rfl,rfl⟩
     case rest =>
      obtain⟨rfl,hwc⟩:=hcut;subst hwc;have HBW:=zh (HB1.o.trans (HBK.o.mono (by omega)));cases bb
      ·have HUZ:=zh (
        show 0<nf∧U 0=true by
        have h:=HBB.o;rcases wAo nf with h0 | h0
        · rw[h0] at h;simp at h
        ·refine⟨h0,?_⟩;cases hu:U 0
         · rw[hu] at h;simp at h
         · rfl)
       clear HBB;obtain⟨W8,hW8⟩:∃ z,z=wc:=⟨_,rfl⟩;rw[← hW8] at HRU HBK hzr HBW ⊢;clear hW8;have hmk:=HMKL.o;(go_upto_region 26 with fail);clear hmk;generalize hW9:wAh _ _=W9;obtain⟨gW,hgW⟩:∃ z,z=W8.heap.size:=⟨_,rfl⟩
       have HLL0:=zh (show OwnLL W9 (gW+1) 26 3 1 gW nf (fun _=>.slice none 0 0) (fun s=>intRow (if s<0 then cleanR U (rowOf L s) else [])) (fun s=>if s<0 then ql else 0) by
        rw[← hW9,hgW];refine⟨?_,by omega,fun i _=>by simpa[intRow] using World.ownsRow_nil _ _ _ _,fun i j _ _ _=>.inl rfl⟩
        exact wAf W8 (.slice none 0 0) nf 26)
       have HRU9:=zh (show W9.rowIs gU 4 nf (fun i=>.bool (U i)) by rw[← hW9];exact HRU.o.alloc _);have HB9:=zh (show Below G W1 W9 by rw[← hW9];exact HBK.o.alloc (by omega) _);(have hUW:gU<gW:=by omega);have hz9:gW<W9.heap.size:=HLL0.o.row.lt;simp only[← hgW];have HGW:=zh hgW;clear hW9 hgW HRU HBK hzr
       go_loopw [119] (fun iv wr=>∃ (i:Nat) (vs:Nat→Value),i≤nf∧iv=.int .i64 (i:Int)∧Hid (OwnLL wr (gW+1) 26 3 1 gW nf vs (fun s=>intRow (if s<i then cleanR U (rowOf L s) else [])) (fun s=>if s<i then ql else 0))∧Hid (Below gW W9 wr)∧gW<wr.heap.size) (fun iv _=>nf-(intOf iv).toNat)
       case atStart=>exact⟨0,_,by omega,rfl,HLL0,zh (wAd _ _),hz9⟩
       case round =>
        clear HLL0 hz9;obtain⟨i,vs2,hi,rfl,HLL,HB10,hzr⟩:=hrel;by_cases hin:i<nf
        ·obtain⟨b1,o1,A1,n1,c1,rw1,rfl,hb1,d1,HR1,HL1,hc1,hn1b,hrd1⟩:=zEo (HRR1.o.below (HB9.o.trans (HB10.o.mono (by omega))) (by omega)) hin
         have hn1:ql=n1:=by
          have h:=HLQ.o i hin;unfold rowOf at h;rw[HR1.o,HL1.o] at h;exact h.symm
         subst hn1;have HRD1:=zh hrd1;(have lb1:b1<wr.heap.size:=by omega);have HROW:=zh (show rowOf L i=rw1 from HR1.o);have cW:=HLL.o.row.cell hin;obtain⟨vk,hvk⟩:∃ z,z=vs2 i:=⟨_,rfl⟩;have HVK:=zh hvk;rw[← hvk] at cW;clear hvk hrd1;go_wp2_with fail;refine (zMQ A1 ql c1 rw1 _ B HL1.o (by omega) HRD1.o).mono ?_;rintro e w1 ⟨v1,rfl,hown,hbc⟩;obtain⟨A3,c3,rfl,hc3,_⟩:=zAa hown;have HB11:=zh ((HB10.o.trans (hbc.mono (by omega))).setCell (p:=⟨gW,i,none⟩) (by exact wAa _) (.slice A3 ql c3))
         have HLP:=zh ((HLL.o.put (i:=i) (by omega) hbc hown).congr (L':=fun s=>intRow (if s=i then clnK U rw1 0 else if s<i then cleanR U (rowOf L s) else [])) (m':=fun s=>if s<i+1 then ql else 0) (fun s hs=>by
          by_cases e:s=i
          · simp[e,zNt]
          · simp[e]) (fun s hs=>by
          by_cases e:s=i
          · simp[e]
          ·by_cases e2:s<i
           · simp[e,e2,wAr e2]
           · rw[if_neg e,if_neg e2,if_neg (by omega)]))
         have cW1:=(HLL.o.row.of_block (hbc.block gW (by omega))).cell hin;have fW1:=(HLL.o.row.of_block (hbc.block gW (by omega))).frozen i;rw[← HVK.o] at cW1;(have lW1:gW<w1.heap.size:=by have:=hbc.size;omega);have HRD2:=zh (HRD1.o.below ((hbc.mono (show gW≤wr.heap.size by omega)).setCell (p:=⟨gW,i,none⟩) (by exact wAa _) (.slice A3 ql c3)) (by omega));clear hbc hown cW;(go_upto_region 30 with fail);generalize hW12:wAb _ _ _=W12;rw[hW12] at HB11 HLP HRD2;have hz12:gW<W12.heap.size:=HLP.o.row.lt;clear hW12 cW1 fW1 lW1 HLL HB10 HRD1 d1 lb1 HVK;(obtain⟨vs3,hvs3⟩:∃ f:Nat→Value,f=fun j=>if j=i then Value.slice A3 ql c3 else vs2 j:=⟨_,rfl⟩);rw[← hvs3] at HLP;have HV3:=zh (show vs3 i=.slice A3 ql c3 by rw[hvs3];simp);clear hvs3
         go_loopw [131] (fun kv wr=>∃ k:Nat,k≤ql∧kv=.int .i64 (k:Int)∧Hid (OwnLL wr (gW+1) 26 3 1 gW nf vs3 (fun s=>intRow (if s=i then clnK U rw1 k else if s<i then cleanR U (rowOf L s) else [])) (fun s=>if s<i+1 then ql else 0))∧Hid (Below gW W12 wr)∧gW<wr.heap.size) (fun kv _=>ql-(intOf kv).toNat)
         case atStart=>exact⟨0,by omega,rfl,HLP,zh (wAd _ _),hz12⟩
         case round =>
          clear HLP hz12;obtain⟨k,hk,rfl,HLL,HB12,hzr⟩:=hrel;have HB13:=zh (HB11.o.trans HB12.o);by_cases hkq:k<ql
          ·obtain⟨b2,o2,y,rfl,hb2,d2,HY⟩:=zAO (HRD2.o.below HB12.o (by omega)) hkq;(have lb2:b2<wr.heap.size:=by omega);(have hkl:k<rw1.length:=by rw[HL1.o];exact hkq);have HCN:=zh (zNy (U:=U) hkl HY.o);have hyn:y<(nf:Int):=(HRG.o i hin y (by rw[HROW.o,← HY.o];simp[List.getD,hkl])).2;clear HY hkl;by_cases hy0:0≤y
           ·have t1:decide (y≥0)=true:=decide_eq_true hy0;have t1':decide (0≤y)=true:=decide_eq_true hy0;have rU:=HRU9.o.of_block (HB13.o.block gU hUW);have cU:=rU.cell (show y.toNat<nf by omega);(have lU:gU<wr.heap.size:=by omega);clear rU;cases hu:U y.toNat
            ·have hrow:=HLL.o.own i hin;(have hmi:(if i<i+1 then ql else 0)=ql:=by rw[if_pos (by omega)]);simp only[hmi] at hrow;rw[HV3.o] at hrow;obtain⟨g3,cg,hg3,hg31,hg32⟩:=hrow.form (by omega);(injection hg3 with hg3 _ hcg);subst hg3;have fg:=hrow.frozenAt k;obtain⟨_,_,hgv2,hgc,_⟩:=zAa hrow;have hgc:ql≤c3:=by injection hgv2 with _ _ e3<;>omega
             obtain⟨z0,cgk⟩:∃ z0,wr.cell? ⟨g3,k,none⟩=some (.int .i64 z0):=by
              have h1:=hrow.cellAt k (by omega);(have h2:k<(clnK U rw1 k).length:=by rw[zPq,HL1.o];exact hkq);refine⟨(clnK U rw1 k)[k],?_⟩;rw[h1];simp[intRow,h2]
             have cW:=HLL.o.row.cell hin;rw[HV3.o] at cW
             have HST:=zh ((HLL.o.store (i:=i) (g:=g3) (c:=c3) hin (by rw[HV3.o];simp) k (.int .i64 (-1))).congr (L':=fun s=>intRow (if s=i then clnK U rw1 (k+1) else if s<i then cleanR U (rowOf L s) else [])) (m':=fun s=>if s<i+1 then ql else 0) (fun s hs=>by
              by_cases e:s=i
              ·subst e;simp only[if_pos];rw[HCN.o,if_pos ⟨hy0,hu⟩];unfold intRow;rw[List.map_set]
              · simp only[if_neg e]) (fun _ _=>rfl))
             (have hg3W:gW<g3:=by omega);rw[hu] at cU;clear hrow hgv2 hmi hu hg31;go_wp2;go_roundw
             case rel=>exact⟨k+1,by omega,by go_num,HST,zh (HB12.o.setCell (p:=⟨g3,k,none⟩) (by show gW≤g3;omega) _),by simp[wAb];omega⟩
             case measure=>simp[intOf];omega
            ·have HCS:=zh (show clnK U rw1 (k+1)=clnK U rw1 k by rw[HCN.o,if_neg (by rw[hu];simp)]);rw[hu] at cU;clear hu;go_wp2;go_roundw
             case rel=>exact⟨k+1,by omega,by go_num,zh (by rw[HCS.o];exact HLL.o),HB12,hzr⟩
             case measure=>simp[intOf];omega
           ·have t1:decide (y≥0)=false:=decide_eq_false hy0;have t1':decide (0≤y)=false:=decide_eq_false hy0;have HCS:=zh (show clnK U rw1 (k+1)=clnK U rw1 k by rw[HCN.o,if_neg (fun h=>hy0 h.1)]);clear hy0;go_wp2;go_roundw
            case rel=>exact⟨k+1,by omega,by go_num,zh (by rw[HCS.o];exact HLL.o),HB12,hzr⟩
            case measure=>simp[intOf];omega
          ·obtain rfl:ql=k:=by omega
           have HLN:=zh (HLL.o.congr (L':=fun s=>intRow (if s<i+1 then cleanR U (rowOf L s) else [])) (m':=fun s=>if s<i+1 then ql else 0) (fun s hs=>by
            by_cases e:s=i
            ·subst e;rw[if_pos rfl,if_pos (by omega),zPT U rw1 (by rw[HL1.o];exact wAa _),HROW.o]
            ·rw[if_neg e];by_cases e2:s<i
             · rw[if_pos e2,if_pos (by omega)]
             · rw[if_neg e2,if_neg (by omega)]) (fun _ _=>rfl))
           clear HLL;go_wp2;go_roundw
           case rel=>exact⟨i+1,vs3,by omega,by go_num,HLN,HB13,hzr⟩
           case measure=>simp[intOf];omega
        ·(obtain rfl:nf=i:=by omega);(have hcl:(clnL U L).length=nf:=by rw[zKK,HN.o]);have HLF:=zh (HLL.o.congr (L':=fun s=>intRow (cleanR U (rowOf L s))) (m':=fun _=>ql) (fun s hs=>by rw[if_pos hs]) (fun s hs=>by rw[if_pos hs]))
         have HRDL:=zh (show RdL wr wr.heap.size (some ⟨gW,0,none⟩) nf (clnL U L) by
          have h:=HLF.o.rdl (r:=fun s=>cleanR U (rowOf L s)) (fun _ _=>by unfold big;omega);unfold clnL;rw[HN.o]
          exact h)
         have HNLL:=zh (show NumsL wr wr.heap.size (.slice (some ⟨gW,0,none⟩) nf nf) (clnL U L) from ⟨_,nf,nf,rfl,zh hcl,wAa _,by unfold big;omega,HRDL.o⟩);have HB14:=zh (HB9.o.trans (HB10.o.mono (by omega)));(have hww:w.heap.size≤wr.heap.size:=by omega);have HBFF:=zh (((HHF.o.below (HB1.o.trans (HB14.o.mono (by omega))) hB).mono (by omega):Bools wr wr.heap.size (.slice AF nf cf) F))
         have HTAB:=zh (show Tab l (rowOf (clnL U L)) (finOf F) (clnL U L).length by
          rw[zHi,zKK]
          exact SmI.of HOK.o (by rw[HN.o];exact HUA.o))
         have HFL:=zh (show F.length=(clnL U L).length by rw[hcl,HF.o]);have HCL:=zh hcl;clear HLL hcl HB10 HLF;go_wp2_with fail;refine (zLf _ _ l (clnL U L) F _ _ (wAa _) HNLL.o HBFF.o HTAB.o HFL.o (by rw[HQ.o];exact hq3) (by rw[HCL.o];exact hn2)).mono ?_;rintro e w5 ⟨gC,c,k,rfl,rC,hgC,hkn,hlow,hsame,honto,hb5⟩;rw[HCL.o] at rC hkn hlow hsame honto ⊢;rw[zHi] at hsame;have HSM:=zh (show SmI l L F U c k from ⟨HOK.o,by rw[HN.o];exact HUA.o,by rw[HN.o];exact HUZ.o,by rw[HN.o];exact hlow,by rw[HN.o];exact honto,by rw[HN.o];exact hsame,by rw[HN.o];exact hkn⟩);have HRC:=zh rC;have HLW:=zh hlow;have HRL5:=zh (HRDL.o.below hb5 (wAa _));have HB15:=zh (HB14.o.trans (hb5.mono (by omega)));have hlC:=rC.lt;(have hgWC:gW<gC:=by omega);obtain⟨X5,hX5⟩:∃ z,z=wr.heap.size:=⟨_,rfl⟩;rw[← hX5] at HRL5 hgC;have hX5C:X5≤gC:=hgC;clear rC hlow hsame honto hb5 hX5 hgC;have hmk:=HMKI.o k (by omega);(go_upto_region 39 with fail);clear hmk;generalize hW10:wAh _ _=W10;obtain⟨gS,hgS⟩:∃ z,z=w5.heap.size:=⟨_,rfl⟩;have HRS10:=zh (show W10.rowIs gS 3 k (fun v=>.int .i64 ((repF c 0 v:Nat):Int)) by rw[← hW10,hgS];exact wAf w5 (.int .i64 0) k 3);have HRC10:=zh (show W10.rowIs gC 3 nf (fun i=>.int .i64 ((c i:Nat):Int)) by rw[← hW10];exact HRC.o.alloc _);have HB16:=zh (show Below G W1 W10 by rw[← hW10];exact HB15.o.alloc (by omega) _);have HRL6:=zh (show RdL W10 X5 (some ⟨gW,0,none⟩) nf (clnL U L) by rw[← hW10];exact HRL5.o.below (B':=w5.heap.size) ((wAd _ _).alloc (wAa _) _) (by omega));(have hCS:gC<gS:=by omega);have hz10:gS<W10.heap.size:=HRS10.o.lt;have HGS:=zh hgS;simp only[← hgS];clear hW10 hgS HRC HB15 HRL5
         go_loopw [163] (fun iv wr=>∃ i:Nat,i≤nf∧iv=.int .i64 (i:Int)∧Hid (wr.rowIs gS 3 k (fun v=>.int .i64 ((repF c i v:Nat):Int)))∧Hid (Below gS W10 wr)∧gS<wr.heap.size) (fun iv _=>nf-(intOf iv).toNat)
         case atStart=>exact⟨0,by omega,rfl,HRS10,zh (wAd _ _),hz10⟩
         case round =>
          clear HRS10 hz10;obtain⟨i,hi,rfl,HRS,HBK,hzr⟩:=hrel;by_cases hin:i<nf
          ·have cC:=(HRC10.o.of_block (HBK.o.block gC hCS)).cell hin;(have lC:gC<wr.heap.size:=by omega);have hck:c i<k:=HLW.o i hin;have cS:=HRS.o.cell hck;have fS:=HRS.o.frozen (c i)
           have HRN:=zh ((HRS.o.set (c i) (.int .i64 (i:Int))).congr (g:=fun v=>.int .i64 ((repF c (i+1) v:Nat):Int)) (fun v hv=>by
            show _=Value.int .i64 (((if v=c i then i else repF c i v:Nat)):Int)
            by_cases e:v=c i
            · rw[if_pos e,if_pos e]
            · rw[if_neg e,if_neg e]))
           go_wp2;go_roundw
           case rel=>exact⟨i+1,by omega,by go_num,HRN,zh (HBK.o.setCell (p:=⟨gS,c i,none⟩) (by exact wAa _) _),by simp[wAb];omega⟩
           case measure=>simp[intOf];omega
          ·(obtain rfl:nf=i:=by omega);have HRC11:=zh (HRC10.o.of_block (HBK.o.block gC hCS));have HB17:=zh (HB16.o.trans (HBK.o.mono (by omega)));have HRL7:=zh (HRL6.o.below HBK.o (by omega));obtain⟨w6,hw6⟩:∃ z,z=wr:=⟨_,rfl⟩;rw[← hw6] at HRS HRC11 HB17 HRL7 hzr ⊢;clear hw6 HBK HRC10 HB16 HRL6;have hmk:=HMKI.o k (by omega);(go_upto_region 45 with fail);clear hmk;generalize hW11:wAh _ _=W11;obtain⟨gP,hgP⟩:∃ z,z=w6.heap.size:=⟨_,rfl⟩;have HRP11:=zh (show W11.rowIs gP 3 k (fun v=>.int .i64 (if v<0 then -1 else 0)) by rw[← hW11,hgP];exact (wAf w6 (.int .i64 0) k 3).congr (fun v _=>by simp));have HRC12:=zh (show W11.rowIs gC 3 nf (fun i=>.int .i64 ((c i:Nat):Int)) by rw[← hW11];exact HRC11.o.alloc _);have HRS12:=zh (show W11.rowIs gS 3 k (fun v=>.int .i64 ((repF c nf v:Nat):Int)) by rw[← hW11];exact HRS.o.alloc _);have HB18:=zh (show Below G W1 W11 by rw[← hW11];exact HB17.o.alloc (by omega) _);have HRL8:=zh (show RdL W11 X5 (some ⟨gW,0,none⟩) nf (clnL U L) by rw[← hW11];exact HRL7.o.below (B':=w6.heap.size) ((wAd _ _).alloc (wAa _) _) (by omega));(have hSP:gS<gP:=by omega);have hz11:gP<W11.heap.size:=HRP11.o.lt;have HGP:=zh hgP;simp only[← hgP];clear hW11 hgP HRS HRC11 HB17 HRL7
           go_loopw [178] (fun iv wr=>∃ i:Nat,i≤k∧iv=.int .i64 (i:Int)∧Hid (wr.rowIs gP 3 k (fun v=>.int .i64 (if v<i then -1 else 0)))∧Hid (Below gP W11 wr)∧gP<wr.heap.size) (fun iv _=>k-(intOf iv).toNat)
           case atStart=>exact⟨0,by omega,rfl,HRP11,zh (wAd _ _),hz11⟩
           case round =>
            clear HRP11 hz11;obtain⟨i,hi,rfl,HRP,HBK,hzr⟩:=hrel;by_cases hik:i<k
            ·have cP:=HRP.o.cell hik;have fP:=HRP.o.frozen i
             have HRN:=zh ((HRP.o.set i (.int .i64 (-1))).congr (g:=fun v=>.int .i64 (if v<i+1 then -1 else 0)) (fun v hv=>by
              by_cases e:v=i
              · simp[e]
              ·by_cases e2:v<i
               · simp[e,e2,wAr e2]
               · rw[if_neg e,if_neg e2,if_neg (by omega)]))
             go_wp2;go_roundw
             case rel=>exact⟨i+1,by omega,by go_num,HRN,zh (HBK.o.setCell (p:=⟨gP,i,none⟩) (by exact wAa _) _),by simp[wAb];omega⟩
             case measure=>simp[intOf];omega
            ·(obtain rfl:k=i:=by omega);have hkz:0<nf:=HUZ.o.1;have HRPN:=zh (HRP.o.congr (g:=fun v=>.int .i64 (-1)) (fun v hv=>by rw[if_pos hv]));have hc0:c 0<k:=HLW.o 0 hkz;have cC:=(HRC12.o.of_block (HBK.o.block gC (by omega))).cell hkz;(have lC:gC<wr.heap.size:=by omega);have cP:=HRPN.o.cell hc0;have fP:=HRPN.o.frozen (c 0);obtain⟨w7,hw7⟩:∃ z,z=wr:=⟨_,rfl⟩;rw[← hw7] at HRPN HBK hzr cC lC cP fP ⊢;clear hw7 HRP;(go_upto_region 53 with fail);generalize hW14:wAh _ _=W14;obtain⟨gO,hgO⟩:∃ z,z=w7.heap.size:=⟨_,rfl⟩;obtain⟨O,hO⟩:∃ z,z=gO+1:=⟨_,rfl⟩
             have HRP14:=zh (show W14.rowIs gP 3 k (fun v=>.int .i64 (plc (StS l L F U c 0).1.1 v)) by
              rw[← hW14];refine ((((HRPN.o.set (c 0) (.int .i64 0)).alloc _).alloc _)).congr (fun v hv=>?_)
              show _=Value.int .i64 (plc [c 0] v)
              unfold plc;by_cases e:v=c 0
              · subst e;simp
              · simp[e])
             have HOD14:=zh (show W14.ownsRow gO 3 1 (.slice (some ⟨gO,0,none⟩) 1 1) 1 (intRow (castL (StS l L F U c 0).1.1)) by
              rw[← hW14];have hb:Blk ((w7.setCell ⟨gP,c 0,none⟩ (.int .i64 0)).alloc (Obj.cells #[.int .i64 ((c 0:Nat):Int)] 3)) gO 3 #[.int .i64 ((c 0:Nat):Int)]:=wAi (by rw[hgO];simp[wAb])
              exact zBE (base:=gO) (hb.alloc _) (wAa _) (by simp[maxLen]))
             have HMG14:=zh (show Mg 25 64 69 W14 O gO 0 0 (StS l L F U c 0).1.2 0 (StS l L F U c 0).2 by
              rw[← hW14]
              exact Mg.start (wAi (by rw[hO,hgO];simp[wAb])) gO)
             have HB19:=zh (show Below gP W11 W14 by
              rw[← hW14]
              exact ((HBK.o.setCell (p:=⟨gP,c 0,none⟩) (by exact wAa _) _).alloc (by simp[wAb];omega) _).alloc (by simp[wAb];omega) _)
             (have hPO:gP<gO:=by omega);have hz14:O<W14.heap.size:=HMG14.o.lt;have HGO:=zh hgO;have HHO:=zh hO;(have hgO1:gO<O:=by omega);simp only[← hgO];simp only[← hO];clear hW14 hgO hO HRPN HBK cC cP fP hzr;have HP0:=zh (show (StS l L F U c 0).1.1.length=1 from rfl)
             go_loopw [27,29] (fun ov iv wr=>∃ (i p q r:Nat),i≤p∧iv=.int .i64 (i:Int)∧p≤400∧q≤2000∧r≤i∧p≤k∧Hid ((StS l L F U c i).1.1.length=p)∧Hid (wr.ownsRow gO 3 1 ov p (intRow (castL (StS l L F U c i).1.1)))∧Hid (wr.rowIs gP 3 k (fun v=>.int .i64 (plc (StS l L F U c i).1.1 v)))∧Hid (Mg 25 64 69 wr O gO 0 q (StS l L F U c i).1.2 r (StS l L F U c i).2)∧Hid (Below gP W11 wr)∧O<wr.heap.size) (fun _ iv _=>k-(intOf iv).toNat)
             case atStart=>exact⟨0,1,0,0,by omega,rfl,by omega,by omega,by omega,by omega,HP0,HOD14,HRP14,HMG14,HB19,hz14⟩
             case round =>
              clear HRP14 HOD14 HMG14 HB19 hz14 HP0;obtain⟨i,p,q,r,hip,rfl,hp4,hq2,hri,hpk,HPL,HOD,HRP,HMG,HBK,hzr⟩:=hrel;have HIN:=zh (show i≤L.length by rw[HN.o];omega);by_cases hlt:i<p
              ·obtain⟨v,hv⟩:∃ v,(StS l L F U c i).1.1[i]? = some v:=⟨_,List.getElem?_eq_getElem (by rw[HPL.o];exact hlt)⟩;have hvk:v<k:=HSM.o.rng i v (wAm hv);obtain⟨hs0,hs1⟩:=HSM.o.rep hvk;have HNX:=zh (zB5 hv);obtain⟨s,hs⟩:∃ s,s=repF c nf v:=⟨_,rfl⟩;have HS:=zh hs;have hsn:s<nf:=by rw[hs];have h:=hs0;rw[HN.o] at h;exact h
               have HCT:=zh (show cstp l (fun s=>cleanR U (rowOf L s)) c (repF c L.length) v=stpJ l (cleanR U (rowOf L s)) c l.length by
                have h:=(zFD (ls:=l) (row:=fun s=>cleanR U (rowOf L s)) (c:=c) (rep:=repF c L.length) (k:=v) (j:=l.length) (wAa _)).symm;rw[HN.o,← hs] at h;rw[HN.o]
                exact h)
               have HFV:=zh (show finS F c L.length v=finOf F s by unfold finS;rw[HN.o,← hs]);obtain⟨gD,cD,rfl,hgD1,hgD2⟩:=HOD.o.form (by omega);have cO:=HOD.o.cellAt i (by omega);rw[show (intRow (castL (StS l L F U c i).1.1))[i]? = some (.int .i64 ((v:Nat):Int)) by unfold intRow castL;rw[wAs,wAs,hv];rfl] at cO;obtain⟨_,_,hgv2,hpc,_⟩:=zAa HOD.o;(have hpc:p≤cD:=by injection hgv2 with _ _ e3<;>omega);have cS:=(HRS12.o.of_block (HBK.o.block gS (by omega))).cell hvk;rw[← hs] at cS;(have lS:gS<wr.heap.size:=by omega);obtain⟨b1,o1,A2,n2,c2,r2,hA1,hb1,d1,HR2,HL2,hc2,hn2b,hrd2⟩:=zEo (HRL8.o.below HBK.o (by omega)) hsn;simp only[Option.some.injEq,Addr.mk.injEq,and_true] at hA1;obtain⟨rfl,rfl⟩:=hA1
               have HR2C:=zh (show r2=cleanR U (rowOf L s) by
                have h:=congrFun (zHi U L) s;rw[← HR2.o]
                exact h)
               have hn2q:n2=ql:=by
                have h:=(HSM.o.row (s:=s) (by rw[HN.o];exact hsn)).1;rw[← HR2C.o,HL2.o,HQ.o] at h;exact h
               have hsz:=hgD2;subst hn2q;simp only[Nat.zero_add] at d1;have HRD2:=zh hrd2;have lW:gW<wr.heap.size:=by omega
               have HOD0:=zh (show wr.ownsRow gO 3 1 (.slice (some ⟨gD,0,none⟩) p cD) (bfsRow i (stpJ l r2 c 0) (StS l L F U c i).1).1.length (intRow (castL (bfsRow i (stpJ l r2 c 0) (StS l L F U c i).1).1)) by
                have h:=HOD.o;rw[zIo]
                show wr.ownsRow gO 3 1 _ (StS l L F U c i).1.1.length _
                rw[HPL.o]
                exact h)
               have HRP0:=zh (show wr.rowIs gP 3 k (fun v=>.int .i64 (plc (bfsRow i (stpJ l r2 c 0) (StS l L F U c i).1).1 v)) from HRP.o);have HMG0:=zh (show Mg 25 64 69 wr O gO 0 q (bfsRow i (stpJ l r2 c 0) (StS l L F U c i).1).2 r (StS l L F U c i).2 from HMG.o);clear hv hs hs0 hs1 hgv2 hrd2 HOD HRP HMG;obtain⟨W15,hW15⟩:∃ z,z=wr:=⟨_,rfl⟩;rw[← hW15] at HOD0 HRP0 HMG0 HBK hzr HRD2 cO cS lS d1 lW hgD2 hsz ⊢;clear hW15;(go_upto_region 57 with fail);clear cO cS d1
               go_loopw [27,212] (fun ov jv wr=>∃ (j p q:Nat),j≤n2∧jv=.int .i64 (j:Int)∧q≤2000+j∧p≤k∧Hid ((bfsRow i (stpJ l r2 c j) (StS l L F U c i).1).1.length=p)∧Hid (wr.ownsRow gO 3 1 ov p (intRow (castL (bfsRow i (stpJ l r2 c j) (StS l L F U c i).1).1)))∧Hid (wr.rowIs gP 3 k (fun v=>.int .i64 (plc (bfsRow i (stpJ l r2 c j) (StS l L F U c i).1).1 v)))∧Hid (Mg 25 64 69 wr O gO 0 q (bfsRow i (stpJ l r2 c j) (StS l L F U c i).1).2 r (StS l L F U c i).2)∧Hid (Below gP W15 wr)∧O<wr.heap.size) (fun _ jv _=>n2-(intOf jv).toNat)
               case atStart=>exact⟨0,p,q,by omega,rfl,by omega,hpk,HPL,zh (by have h:=HOD0.o;rw[show (bfsRow i (stpJ l r2 c 0) (StS l L F U c i).1).1.length=p from HPL.o] at h;exact h),HRP0,HMG0,zh (wAd _ _),hzr⟩
               case round =>
                clear HOD0 HRP0 HMG0 hzr;obtain⟨j,p',q',hj,rfl,hq',hpk',HPL',HOD,HRP,HMG,HB20,hzr⟩:=hrel;have HB21:=zh (HBK.o.trans HB20.o);by_cases hjn:j<n2
                ·obtain⟨b2,o2,t,rfl,hb2,d2,HT⟩:=zAO (HRD2.o.below HB20.o (by omega)) hjn;(have hBb3:B<gP:=by omega);obtain⟨b3',o3,x,rfl,hb3,d3,HX⟩:=zAO (HRL1.o.below (HB18.o.trans (HB21.o.mono (by omega))) (by omega)) hjn;(have lb2:b2<wr.heap.size:=by omega);(have lb3:b3'<wr.heap.size:=by omega);(have hjr:j<r2.length:=by rw[HL2.o];exact hjn);(have hjl:j<l.length:=by rw[HQ.o];exact hjn);have HSJ:=zh (zID (c:=c) (zFg hjl HX.o) (zFg hjr HT.o));have hrm:t∈r2:=by rw[← HT.o];simp[List.getD,hjr]
                 have htn:t<(nf:Int):=by
                  have h:=((HSM.o.row (s:=s) (by rw[HN.o];exact hsn)).2 t (by rw[← HR2C.o];exact hrm)).2;rw[HN.o] at h;exact h
                 clear hjr hjl hrm HT HX;by_cases ht0:0≤t
                 ·have t1:decide (t<0)=false:=decide_eq_false (by omega);obtain⟨cc,hcc⟩:∃ z,z=c t.toNat:=⟨_,rfl⟩;(have hck:cc<k:=by rw[hcc];exact HLW.o _ (by omega));have cC:=(HRC12.o.of_block (HB21.o.block gC (by omega))).cell (show t.toNat<nf by omega);rw[← hcc] at cC;(have lC:gC<wr.heap.size:=by omega);obtain⟨ST,hST⟩:∃ z,z=bfsRow i (stpJ l r2 c j) (StS l L F U c i).1:=⟨_,rfl⟩
                  have HSN:=zh (show bfsRow i (stpJ l r2 c (j+1)) (StS l L F U c i).1=(addL ST.1 cc,ST.2++[⟨(i:Int),(((addL ST.1 cc).idxOf cc:Nat):Int),x,x,0⟩]) by
                   rw[HSJ.o,if_pos ht0,← hcc,zCs,← hST])
                  have HSK:=zh (show (addL ST.1 cc).length≤k from zDW (zCl (by rw[hST];exact zBq _ _ _ (zBJ i))) (fun z hz=>by
                   rcases addL_mem.1 hz with hz | rfl
                   ·rw[hST] at hz
                    exact zBQ (P:=fun z=>z<k) (HSM.o.rng i) (zHs (fun t ht h0=>HLW.o _ (by
                     have h:=((HSM.o.row (s:=s) (by rw[HN.o];exact hsn)).2 t (by rw[← HR2C.o];exact ht)).2;rw[HN.o] at h
                     omega))) z hz
                   · exact hck))
                  rw[← hST] at HPL' HOD HRP HMG;have cP:=HRP.o.cell hck;have fP:=HRP.o.frozen cc;obtain⟨pv,hpv⟩:∃ z,z=plc ST.1 cc:=⟨_,rfl⟩;rw[← hpv] at cP;have HPV:=zh hpv;obtain⟨bb,hbb⟩:∃ b:Bool,decide (pv<0)=b:=⟨_,rfl⟩;have HBB:=zh hbb;have HCC:=zh hcc;clear hcc hST hpv;(go_upto_if 227 with fail);clear hbb
                  go_cut [27] from 228 to 236 (fun s27 wx=>∃ p2:Nat,Hid ((addL ST.1 cc).length=p2)∧Hid (wx.ownsRow gO 3 1 s27 p2 (intRow (castL (addL ST.1 cc))))∧Hid (wx.rowIs gP 3 k (fun v=>.int .i64 (plc (addL ST.1 cc) v)))∧Hid (Mg 25 64 69 wx O gO 0 q' ST.2 r (StS l L F U c i).2)∧Hid (Below gP wr wx)∧O<wx.heap.size)
                  case first =>
                   cases bb
                   ·have hm:cc∈ST.1:=by
                     have h:=of_decide_eq_false HBB.o;rw[HPV.o,zHd] at h;exact Classical.byContradiction h
                    have HOL:=zh (zNh hm);clear hm;go_wp2;go_meet;exact⟨p',zh (by rw[HOL.o];exact HPL'.o),zh (by rw[HOL.o];exact HOD.o),zh (by rw[HOL.o];exact HRP.o),HMG,zh (wAd _ _),hzr⟩
                   ·have hm:cc∉ST.1:=by
                     have h:=of_decide_eq_true HBB.o;rw[HPV.o,zHd] at h;exact h
                    have HNE:=zh (fun v=>zRC hm v);have HAP:=zh (show addL ST.1 cc=ST.1++[cc] by unfold addL;rw[if_neg hm]);obtain⟨A5,c5,hu27,hpc5,_⟩:=zAa HOD.o;subst hu27
                    have HRN:=zh ((HRP.o.set cc (.int .i64 (p':Int))).congr (g:=fun v=>.int .i64 (plc (addL ST.1 cc) v)) (fun v _=>by
                     rw[← HNE.o v,HPL'.o];by_cases e:v=cc
                     · rw[if_pos e,if_pos e]
                     · rw[if_neg e,if_neg e]))
                    have HODS:=zh (ownsRow_setCell_below HOD.o (a:=⟨gP,cc,none⟩) hPO (.int .i64 (p':Int)));have HMGS:=zh (HMG.o.far (p:=⟨gP,cc,none⟩) (by show O≠gP;omega) hPO (.int .i64 (p':Int)));clear hm;go_wp2_with (at_builtin;refine wpList_append_own_at _ rfl (.tmp 233) (.tmp 235) 26 rfl gO 3 i0 _ 1 8 Try.underlying26 hi0 hz0 hz1 hz2 rfl (by omega) (.slice A5 p' c5) p' _ rfl (HODS.o.alloc _) ⟨wr.heap.size,0,none⟩ 1 1 (intRow [(cc:Int)]) rfl (by rfl) (wAe (cs:=(intRow [(cc:Int)]).toArray) (t:=3) (fr:=(0,0)) (wAi (by simp[wAb]))) (zAg _) (by simp only[maxLen];omega) (by omega) (by simp[wAb]<;>omega) ?_;intro v' w6 hown2 hg2 _ hat2);have hs6:=hg2.size;simp[wAb] at hs6;have HLOW:=zh (show ∀ z,(Value.slice A5 p' c5).ownBlock=some z→gO≤z from fun z hz=>(HOD.o.lt z hz).1);have h1:=((HRN.o.alloc _).of_block (hg2.block gP (by simp[wAb];omega) (fun e=>by have:=HLOW.o gP e.symm;omega)));have h2:=(HMGS.o.alloc _).own (HODS.o.alloc _) (by decide) (by decide) (by decide) hg2;have h3:=(((wAd gP wr).setCell (p:=⟨gP,cc,none⟩) (by exact wAa _) (.int .i64 (p':Int))).alloc (by simp[wAb];omega) _).grown hg2 (by simp[wAb];omega) (fun z hz=>by have:=HLOW.o z hz;omega);have H1:=zh h1;have H2:=zh h2;have H3:=zh h3;have H4:=zh hown2;clear h1 h2 h3 hown2 hg2 hat2;go_meet;exact⟨p'+1,zh (by rw[HAP.o,wAc,HPL'.o];rfl),zh (by rw[HAP.o,zAA,zAd];exact H4.o),H1,H2,H3,by omega⟩
                  case rest =>
                   obtain⟨p2,HP2,HOD2,HRP2,HMG2,HB22,hz22⟩:=hcut;clear HOD HRP HMG cP fP cC lC;have HB23:=zh (HB20.o.trans HB22.o);have d3':=zAb HB22.o d3 (by omega);(have lb3':b3'<wc.heap.size:=by omega);have cP2:=HRP2.o.cell hck;obtain⟨ix,hix⟩:∃ z,z=(addL ST.1 cc).idxOf cc:=⟨_,rfl⟩;rw[zQD,← hix] at cP2;have lP2:=HRP2.o.lt;rw[← hix] at HSN;obtain⟨A5,c5,AF5,cf5,bO5,hown5,hfin5⟩:=HMG2.o;have lO:=bO5.lt;have oc1:=bO5.cell 1;have of1:=bO5.frozen 1;simp at oc1;have HBKO:=zh bO5;have HOWN:=zh hown5;have HFIN:=zh hfin5;have HLOW:=zh (show ∀ z,(Value.slice A5 q' c5).ownBlock=some z→gO≤z from fun z hz=>(hown5.lt z hz).1);have hneO:(Value.slice A5 q' c5).ownBlock≠some O:=zAe hown5 bO5 (by decide);have HN27:=zh (zAt HOD2.o hown5 (by decide));clear HMG2 bO5 hown5 hfin5 d2 d3 lb2 lb3 hix;go_wp2;refine zAE (fun w'=>w'.cell? ⟨O,1,none⟩=some (.slice A5 q' c5)∧w'.cell? ⟨b3',o3+j,none⟩=some (.int .i64 x)∧w'.cell? ⟨gP,cc,none⟩=some (.int .i64 (ix:Int))) 17 [(0,false),(1,false),(2,false),(3,false),(4,false),(5,false),(6,false),(7,false),(8,false),(9,false),(10,false),(11,false),(12,false),(13,false),(14,false),(15,false),(16,true)] (by kernel_rfl) (by kernel_rfl) ?_ ?_
                   · go_simp
                   simp only[List.drop_succ_cons,List.drop_zero]
                   repeat (refine mix_q (v:=?_) (by rfl) (by rfl) ?_ ?_;rotate_left;(focus (intro w' hC;(try dsimp only at hC);go_simp;(first | done | with_reducible rfl)));simp only[Act.put,wAj,wAp,wAq,wAn,wAk,wAl])
                   refine mix_l (by rfl) (by rfl) (fun K hK=>?_);go_simp;refine hK _ _ (by go_simp) ?_;clear hK K;refine zAs ?_;(try simp only[Act.put,wAj,wAp,wAq,wAn,wAk,wAl]);go_wp2_with (at_builtin;refine wpList_append_own_at _ rfl (.tmp 238) (.tmp 253) 22 rfl gO 64 ia _ 5 40 Try.underlying22 ha0 ha1 ha2 ha3 rfl (by omega) (.slice A5 q' c5) q' _ rfl ((HOWN.o.alloc _).drew) ⟨wc.heap.size,0,none⟩ 1 1 (arcRow [⟨(i:Int),(ix:Int),x,x,0⟩]) rfl (by rfl) (wAe (cs:=(arcRow [⟨(i:Int),(ix:Int),x,x,0⟩]).toArray) (t:=64) (fr:=(0,0)) ((wAi (by simp)).drew)) (zAq _) (by simp only[maxLen];omega) (by omega) (by simp<;>omega) ?_;intro v' w6 hown2 hg2 _ hat2;obtain⟨Av,cv,rfl,hkcv,_⟩:=zAa hown2;have o1':=zAf hg2 hneO (o:=1) (v:=(.slice A5 q' c5)) (by exact ((HBKO.o.alloc _).drew).cell 1);have bO6:=((HBKO.o.alloc _).drew).grown hg2 (Ne.symm hneO);have of1':=bO6.frozen 1;have lO6:=bO6.lt);refine NoPanic.normal ?_;go_wp2;have hs6:=hg2.size;simp at hs6;have HNEW:=zh (zCI ((HBKO.o.alloc _).drew) ((HOWN.o.alloc _).drew) ((HFIN.o.alloc _).drew) (by decide) (by decide) (by decide) hg2 hown2);have HBN:=zh ((((HB23.o.alloc (by omega) _).drew).grown hg2 (by simp<;>omega) (fun z hz=>by have:=HLOW.o z hz;omega)).setCell (p:=⟨O,1,none⟩) (by show gP≤O;omega) (.slice Av (q'+1) cv));have HRN:=zh ((((HRP2.o.alloc _).drew).of_block (hg2.block gP (by simp;omega) (fun e=>by have:=HLOW.o gP e.symm;omega))).setOther (a:=⟨O,1,none⟩) (by show gP≠O;omega) (.slice Av (q'+1) cv));have hod6:=((HOD2.o.alloc _).drew).kept hg2 HN27.o;have HON:=zh (ownsRow_setCell_other hod6 (a:=⟨O,1,none⟩) (zAe hod6 bO6 (by decide)) (.slice Av (q'+1) cv));(have hp2k:p2≤k:=by rw[← HP2.o];exact HSK.o);clear hown2 hg2 hat2 bO6 hod6;go_roundw
                   case rel=>exact⟨j+1,p2,q'+1,by omega,by go_num,by omega,hp2k,zh (by rw[HSN.o];exact HP2.o),zh (by rw[HSN.o];exact HON.o),zh (by rw[HSN.o];exact HRN.o),zh (by rw[HSN.o];exact HNEW.o),HBN,by simp[wAb];omega⟩
                   case measure=>simp[intOf];omega
                 ·have t1:decide (t<0)=true:=decide_eq_true (by omega);have HSN:=zh (show stpJ l r2 c (j+1)=stpJ l r2 c j by rw[HSJ.o,if_neg ht0,List.append_nil]);clear ht0;go_wp2;go_roundw
                  case rel=>exact⟨j+1,p',q',by omega,by go_num,by omega,hpk',zh (by rw[HSN.o];exact HPL'.o),zh (by rw[HSN.o];exact HOD.o),zh (by rw[HSN.o];exact HRP.o),zh (by rw[HSN.o];exact HMG.o),HB20,hzr⟩
                  case measure=>simp[intOf];omega
                ·(obtain rfl:n2=j:=by omega);(have hww:w.heap.size≤W15.heap.size:=by omega);obtain⟨bf,of_,fx,rfl,hbf,df,HFX⟩:=zIV (HRF1.o.below (HB18.o.trans (HB21.o.mono (by omega))) (by omega)) hsn;(have lbf:bf<wr.heap.size:=by omega);(obtain⟨SF,hSF⟩:∃ z,z=if fx=true then (StS l L F U c i).2++[⟨(i:Int),0⟩] else (StS l L F U c i).2:=⟨_,rfl⟩);have HSF:=zh hSF
                 have HST1:=zh (show StS l L F U c (i+1)=(bfsRow i (stpJ l r2 c n2) (StS l L F U c i).1,SF) by
                  have h:=HNX.o;rw[HFV.o,show finOf F s=fx from HFX.o,← hSF] at h;rw[show stpS l L U c v=stpJ l r2 c n2 from by unfold stpS;rw[HCT.o,HR2C.o,HQ.o]] at h
                  exact h)
                 obtain⟨ST,hST⟩:∃ z,z=bfsRow i (stpJ l r2 c n2) (StS l L F U c i).1:=⟨_,rfl⟩;rw[← hST] at HST1 HPL' HOD HRP HMG;clear hSF hST HFX;(go_upto_if 260 with fail);clear df lbf
                 go_cut [] from 261 to 267 (fun wx=>∃ r':Nat,r'≤i+1∧Hid (wx.ownsRow gO 3 1 u27 p' (intRow (castL ST.1)))∧Hid (wx.rowIs gP 3 k (fun v=>.int .i64 (plc ST.1 v)))∧Hid (Mg 25 64 69 wx O gO 0 q' ST.2 r' SF)∧Hid (Below gP W15 wx)∧O<wx.heap.size)
                 case first =>
                  cases fx
                  ·have HE:=zh (show SF=(StS l L F U c i).2 by rw[HSF.o];simp);go_wp2;go_meet;exact⟨r,by omega,HOD,HRP,zh (by rw[HE.o];exact HMG.o),HB20,hzr⟩
                  ·have HE:=zh (show SF=(StS l L F U c i).2++[⟨(i:Int),0⟩] by rw[HSF.o];simp);obtain⟨A5,c5,AF5,cf5,bO5,hown5,hfin5⟩:=HMG.o;have lO:=bO5.lt;have oc2:=bO5.cell 2;have of2:=bO5.frozen 2;simp at oc2;have HBKO:=zh bO5;have HOWN:=zh hown5;have HFIN:=zh hfin5;have HLOW:=zh (show ∀ z,(Value.slice AF5 r cf5).ownBlock=some z→gO≤z from fun z hz=>(hfin5.lt z hz).1);have hneO:(Value.slice AF5 r cf5).ownBlock≠some O:=zAe hfin5 bO5 (by decide);have HN27:=zh (zAt HOD.o hfin5 (by decide));have HNO:=zh (zAe HOD.o bO5 (by decide));clear HMG bO5 hown5 hfin5;go_wp2_with (at_builtin;refine wpList_append_own_at _ rfl (.tmp 262) (.tmp 265) 23 rfl gO 69 iF _ 2 16 Try.underlying23 hF0 hF1 hF2 hF3 rfl (by omega) (.slice AF5 r cf5) r _ rfl (HFIN.o.alloc _) ⟨wr.heap.size,0,none⟩ 1 1 (finRow [⟨(i:Int),0⟩]) rfl (by rfl) (wAe (cs:=(finRow [⟨(i:Int),0⟩]).toArray) (t:=69) (fr:=(0,0)) (wAi (by first | rfl | simp))) (zA9 _) (by simp only[maxLen];omega) (by omega) (by simp<;>omega) ?_;intro v' w6 hown2 hg2 _ hat2;obtain⟨Av,cv,rfl,hkcv,_⟩:=zAa hown2;have o2':=zAf hg2 hneO (o:=2) (v:=(.slice AF5 r cf5)) (by exact (HBKO.o.alloc _).cell 2);have bO6:=(HBKO.o.alloc _).grown hg2 (Ne.symm hneO);have of2':=bO6.frozen 2;have lO6:=bO6.lt);have hs6:=hg2.size;simp at hs6;have HNEW:=zh (zCz (HBKO.o.alloc _) (HOWN.o.alloc _) (HFIN.o.alloc _) (by decide) (by decide) (by decide) hg2 hown2);have HBN:=zh (((HB20.o.alloc (by omega) _).grown hg2 (by simp<;>omega) (fun z hz=>by have:=HLOW.o z hz;omega)).setCell (p:=⟨O,2,none⟩) (by show gP≤O;omega) (.slice Av (r+1) cv));have HRN:=zh (((HRP.o.alloc _).of_block (hg2.block gP (by simp;omega) (fun e=>by have:=HLOW.o gP e.symm;omega))).setOther (a:=⟨O,2,none⟩) (by show gP≠O;omega) (.slice Av (r+1) cv));have hod6:=(HOD.o.alloc _).kept hg2 HN27.o;have HON:=zh (ownsRow_setCell_other hod6 (a:=⟨O,2,none⟩) HNO.o (.slice Av (r+1) cv));clear hown2 hg2 hat2 bO6 hod6 o2' of2' lO6;go_meet;exact⟨r+1,by omega,HON,HRN,zh (by rw[HE.o];exact HNEW.o),HBN,by simp[wAb];omega⟩
                 case rest =>
                  obtain⟨r',hr',HOD2,HRP2,HMG2,HB24,hz24⟩:=hcut;clear HOD HRP HMG HB20 HB21 hzr;have HB25:=zh (HBK.o.trans HB24.o);obtain⟨bb,hbb⟩:∃ b:Bool,b=(decide (400<p')||decide (2000<q')):=⟨_,rfl⟩;have HBB:=zh hbb;obtain⟨A5,c5,AF5,cf5,bO5,hown5,hfin5⟩:=HMG2.o;have lO:=bO5.lt;have oc1:=bO5.cell 1;simp at oc1;have HQL:=zh (zA6 hown5);obtain⟨A7,c7,hu27,hpc7,_⟩:=zAa HOD2.o;subst hu27;obtain⟨W16,hW16⟩:∃ z,z=wc:=⟨_,rfl⟩;rw[← hW16] at HOD2 HRP2 HMG2 HB24 HB25 hz24 lO oc1 ⊢;clear hbb bO5 hown5 hfin5 hW16;go_upto_region 68 with fail
                  go_cut [276] from 268 to 276 (fun s276 wx=>s276=.bool bb∧wx=W16)
                  case first =>
                   by_cases h4:400<p'
                   ·(have hb:bb=true:=by rw[HBB.o];simp[h4]);have t2:decide ((p':Int)>400)=true:=decide_eq_true (by omega);have t2':decide ((400:Int)<(p':Int))=true:=decide_eq_true (by omega);subst hb;clear HBB h4;go_wp2;go_meet;exact⟨rfl,rfl⟩
                   ·have t2:decide ((p':Int)>400)=false:=decide_eq_false (by omega);have t2':decide ((400:Int)<(p':Int))=false:=decide_eq_false (by omega);by_cases h5:2000<q'
                    ·(have hb:bb=true:=by rw[HBB.o];simp[h5]);have t3:decide ((q':Int)>2000)=true:=decide_eq_true (by omega);have t3':decide ((2000:Int)<(q':Int))=true:=decide_eq_true (by omega);subst hb;clear HBB h4 h5;go_wp2;go_meet;exact⟨rfl,rfl⟩
                    ·(have hb:bb=false:=by rw[HBB.o];simp[h4,h5]);have t3:decide ((q':Int)>2000)=false:=decide_eq_false (by omega);have t3':decide ((2000:Int)<(q':Int))=false:=decide_eq_false (by omega);subst hb;clear HBB h4 h5;go_wp2;go_meet;exact⟨rfl,rfl⟩
                  case rest =>
                   obtain⟨rfl,hwc⟩:=hcut;subst hwc;have HPN:=zh (show (StS l L F U c (i+1)).1.1.length=p' by rw[HST1.o];exact HPL'.o);have HQN:=zh (show (StS l L F U c (i+1)).1.2.length=q' by rw[HST1.o];exact HQL.o);cases bb
                   ·have hlim:p'≤400∧q'≤2000:=by
                     have h:=HBB.o;simp at h;omega
                    obtain⟨hl1,hl2⟩:=hlim
                    have hip1:i+1≤p':=by
                     have h:(((StS l L F U c i).1.1.length:Nat):Int)≤(((StS l L F U c (i+1)).1.1.length:Nat):Int):=(zJa (stp:=stpS l L U c) (fin:=finS F c L.length) (s0:=c 0) (i:=i) (f:=i+1) (by omega)).1;rw[HPL.o,HPN.o] at h;omega
                    clear HBB;go_wp2;go_roundw
                    case rel=>exact⟨i+1,p',q',r',by omega,by go_num,hl1,hl2,hr',hpk',HPN,zh (by rw[HST1.o];exact HOD2.o),zh (by rw[HST1.o];exact HRP2.o),zh (by rw[HST1.o];exact HMG2.o),HB25,hz24⟩
                    case measure=>simp[intOf];omega
                   ·have HRES:=zh (HSM.o.big (i:=i+1) (by rw[HN.o];omega) (by
                     rw[HPN.o,HQN.o];have h:=HBB.o;simp at h
                     omega))
                    have hG26:=HB18.o.trans (HB25.o.mono (show G≤gP by omega));have bM:=HRM.o.below hG26 (by omega);have bX:=HRX.o.below hG26 hwG;have HBW9:=zh (HB1.o.trans (hG26.mono (by omega)));have lM0:=bM.lt;have lX0:=bX.lt;clear HBB hG26;go_wp2_with fail;refine (zAx _ _ _).mono ?_;rintro e w9 ⟨rfl,hb9⟩;have bM9:=bM.below hb9 lM0;have bX9:=bX.below hb9 lX0;have HBWF:=zh (HBW9.o.trans (hb9.mono (by omega)));have q0:=bM9.cell 0;have q1:=bM9.cell 1;have q2:=bM9.cell 2;have q3:=bX9.cell 0;have q4:=bX9.cell 1;have qf:=bM9.frozen 0;have qf1:=bM9.frozen 1;have qf2:=bM9.frozen 2;have qf3:=bX9.frozen 0;have qf4:=bX9.frozen 1;simp at q0 q1 q2 q3 q4;have lM:=bM9.lt;have lX:=bX9.lt;clear bM bX bM9 bX9 hb9;go_wp21;refine bodyPost_ret (v:=.tuple #[.agg #[.int .i64 0,.slice none 0 0,.slice none 0 0],.agg #[.int .i64 17,.int .i64 (-1)]]) (by simp[results,Try.results48,go_sem,lM,lX,q0,q1,q2,q3,q4,qf,qf1,qf2,qf3,qf4]) rfl ?_;rw[HRES.o];exact⟨_,rfl,MachNew.empty _ _,((((HBWF.o.setCell (p:=⟨w.heap.size,0,none⟩) (by exact wAa _) _).setCell (p:=⟨w.heap.size,1,none⟩) (by exact wAa _) _).setCell (p:=⟨w.heap.size,2,none⟩) (by exact wAa _) _).setCell (p:=⟨w.heap.size+1,0,none⟩) (by exact wAg _) _).setCell (p:=⟨w.heap.size+1,1,none⟩) (by exact wAg _) _⟩
              ·obtain rfl:p=i:=by omega
               have HDN:=zh (HSM.o.done HIN.o (by rw[HPL.o];exact wAa _) (by rw[HPL.o];exact hp4) (by
                obtain⟨_,_,_,_,_,h,_⟩:=HMG.o
                rw[zA6 h];exact hq2))
               have hpl:=HPL.o;rw[hpl] at HDN;obtain⟨A5,c5,AF5,cf5,bO5,hown5,hfin5⟩:=HMG.o;obtain⟨A7,c7,hu27,hpc7,_⟩:=zAa HOD.o;subst hu27;have hG26:=HB18.o.trans (HBK.o.mono (show G≤gP by omega));have bM:=HRM.o.below hG26 (by omega);have bX:=HRX.o.below hG26 hwG;have HBW9:=zh (HB1.o.trans (hG26.mono (by omega)));have HNO:=zh (zAe hown5 bO5 (by decide));have HNF:=zh (zAe hfin5 bO5 (by decide));have o0:=bO5.cell 0;have o1:=bO5.cell 1;have o2:=bO5.cell 2;have of0:=bO5.frozen 0;have q0:=bM.cell 0;have q1:=bM.cell 1;have q2:=bM.cell 2;have q3:=bX.cell 0;have q4:=bX.cell 1;have qf:=bM.frozen 0;have qf1:=bM.frozen 1;have qf2:=bM.frozen 2;have qf3:=bX.frozen 0;have qf4:=bX.frozen 1;simp at o0 o1 o2 q0 q1 q2 q3 q4;have lM:=bM.lt;have lX:=bX.lt;have lO:=bO5.lt;(have hOw1:w.heap.size≠O:=by omega);(have hOw2:w.heap.size+1≠O:=by omega);(have hOw3:O≠w.heap.size:=by omega);(have hOw4:O≠w.heap.size+1:=by omega);(have hwg0:w.heap.size<gO:=by omega);(have hwg1:w.heap.size+1<gO:=by omega);have HA9:=zh (ownsRow_setCell_below (ownsRow_setCell_below (ownsRow_setCell_below (ownsRow_setCell_below (ownsRow_setCell_below (ownsRow_setCell_other hown5 (a:=⟨O,0,none⟩) HNO.o (.int .i64 (p:Int))) (a:=⟨w.heap.size,0,none⟩) hwg0 (.int .i64 (p:Int))) (a:=⟨w.heap.size,1,none⟩) hwg0 (.slice A5 q c5)) (a:=⟨w.heap.size,2,none⟩) hwg0 (.slice AF5 r cf5)) (a:=⟨w.heap.size+1,0,none⟩) hwg1 (.int .i64 0)) (a:=⟨w.heap.size+1,1,none⟩) hwg1 (.int .i64 0));have HF9:=zh (ownsRow_setCell_below (ownsRow_setCell_below (ownsRow_setCell_below (ownsRow_setCell_below (ownsRow_setCell_below (ownsRow_setCell_other hfin5 (a:=⟨O,0,none⟩) HNF.o (.int .i64 (p:Int))) (a:=⟨w.heap.size,0,none⟩) hwg0 (.int .i64 (p:Int))) (a:=⟨w.heap.size,1,none⟩) hwg0 (.slice A5 q c5)) (a:=⟨w.heap.size,2,none⟩) hwg0 (.slice AF5 r cf5)) (a:=⟨w.heap.size+1,0,none⟩) hwg1 (.int .i64 0)) (a:=⟨w.heap.size+1,1,none⟩) hwg1 (.int .i64 0));have HBF:=zh ((((((HBW9.o.setCell (p:=⟨O,0,none⟩) (by show w.heap.size≤O;omega) (.int .i64 (p:Int))).setCell (p:=⟨w.heap.size,0,none⟩) (by exact wAa _) (.int .i64 (p:Int))).setCell (p:=⟨w.heap.size,1,none⟩) (by exact wAa _) (.slice A5 q c5)).setCell (p:=⟨w.heap.size,2,none⟩) (by exact wAa _) (.slice AF5 r cf5)).setCell (p:=⟨w.heap.size+1,0,none⟩) (by exact wAg _) (.int .i64 0)).setCell (p:=⟨w.heap.size+1,1,none⟩) (by exact wAg _) (.int .i64 0));have hqL:=zA6 hown5;have hrL:=zBv hfin5;obtain⟨LA,hLA⟩:∃ z,z=(StS l L F U c p).1.2:=⟨_,rfl⟩;obtain⟨LF,hLF⟩:∃ z,z=(StS l L F U c p).2:=⟨_,rfl⟩;rw[← hLA] at hqL HA9 HDN;rw[← hLF] at hrL HF9 HDN;have HQL:=zh hqL;have HRL9:=zh hrL;clear bM bX bO5 hown5 hfin5 HMG hG26 HOD HRP hpl hqL hrL hLA hLF;go_wp21;refine bodyPost_ret (v:=.tuple #[.agg #[.int .i64 (p:Int),.slice A5 q c5,.slice AF5 r cf5],.agg #[.int .i64 0,.int .i64 0]]) (by simp[results,Try.results48,go_sem,lM,lX,hOw1,hOw2,hOw3,hOw4,q0,q1,q2,q3,q4,qf,qf1,qf2,qf3,qf4]) rfl ?_;rw[HDN.o];refine⟨_,rfl,?_,HBF.o⟩;(have hbq:q≤big:=by unfold big;omega);(have hbr:r≤big:=by unfold big;omega);(have hwl:w.heap.size≤gO:=by omega);have HA8:=HA9.o;have HF8:=HF9.o;obtain⟨_,_,e1,k1,_⟩:=zAa HA8;obtain⟨_,_,e2,k2,_⟩:=zAa HF8;(injection e1 with _ _ e1);(injection e2 with _ _ e2);subst e1 e2;have hq9:=HQL.o;have hr9:=HRL9.o;subst hq9 hr9;exact MachNew.of_own (m:=⟨(p:Int),LA,LF⟩) (base:=gO) (b2:=gO) HA8 HF8 hwl hwl k1 k2 hbq hbr
      ·have HRES:=zh (zPW (l:=l) (L:=L) (F:=F) (U:=U) HOK.o (by rw[HN.o];exact HUA.o) (by
        have h:=HBB.o;rw[HN.o];by_cases h0:nf=0
        · exact .inl h0
        ·right;cases hu:U 0
         · rfl
         · rw[hu] at h;simp[h0] at h))
       have bM:=HRM.o.below HBK.o (by omega);have bX:=HRX.o.below HBK.o hwG;have q0:=bM.cell 0;have q1:=bM.cell 1;have q2:=bM.cell 2;have q3:=bX.cell 0;have q4:=bX.cell 1;have qf:=bM.frozen 0;have qf1:=bM.frozen 1;have qf2:=bM.frozen 2;have qf3:=bX.frozen 0;have qf4:=bX.frozen 1;simp at q0 q1 q2 q3 q4;have lM:=bM.lt;have lX:=bX.lt;clear bM bX HBB;go_wp21;refine bodyPost_ret (v:=.tuple #[.agg #[.int .i64 0,.slice none 0 0,.slice none 0 0],.agg #[.int .i64 0,.int .i64 0]]) (by simp[results,Try.results48,go_sem,lM,lX,q0,q1,q2,q3,q4,qf,qf1,qf2,qf3,qf4]) rfl ?_;rw[HRES.o];exact⟨_,rfl,MachNew.empty _ _,((((HBW.o.setCell (p:=⟨w.heap.size,0,none⟩) (by exact wAa _) _).setCell (p:=⟨w.heap.size,1,none⟩) (by exact wAa _) _).setCell (p:=⟨w.heap.size,2,none⟩) (by exact wAa _) _).setCell (p:=⟨w.heap.size+1,0,none⟩) (by exact wAg _) _).setCell (p:=⟨w.heap.size+1,1,none⟩) (by exact wAg _) _⟩
    ·rw[List.concat_eq_append] at hcat;subst hcat;have hsn:s<nf:=HUI.o.rng s (by simp);rw[zAA,zAd,wAc] at HTO;obtain⟨g,cap,rfl,hg1,hg2⟩:=HTO.o.form (by simp);have hown:wr.ownsRow (G+1) 3 1 (.slice (some ⟨g,0,none⟩) (T'.length+1) cap) (T'.length+1) (intRow (castL T')++[.int .i64 (s:Int)]):=HTO.o;obtain⟨A1,c1,hv1,hc1,hc2⟩:=zAa hown;(obtain⟨rfl,rfl⟩:A1=some ⟨g,0,none⟩∧c1=cap:=by injection hv1 with e1 e2 e3;exact⟨e1.symm,e3.symm⟩);have hlT:(intRow (castL T')).length=T'.length:=by rw[zAh,zBf]
     have cT:wr.cell? ⟨g,T'.length,none⟩=some (.int .i64 (s:Int)):=by
      rw[hown.cellAt _ (by omega),List.getElem?_append_right (by rw[hlT];exact wAa _),hlT];simp
     have cS:=HRU.o.cell hsn;have fS:=HRU.o.frozen s;have hpop:=ownsRow_pop (by rw[hlT];omega) hown;(have hgU:g≠gU:=fun e=>zCC hown HRU.o (by decide) (by rw[← e];rfl));obtain⟨n1,hn1⟩:∃ z,z=T'.length:=⟨_,rfl⟩;have HGK':=zh (show n1+1+pendF f U nf≤gk by have:=HGK.o;rw[wAc,List.length_singleton] at this;omega);have HPOP:=zh hpop;have HN1:=zh hn1;rw[← hn1] at HPOP hc1 cT ⊢;have HDG:=zh (show ∀ t,t<nf→(vs t).ownBlock=none∨(vs t).ownBlock≠some g from fun t ht=>HDI.o t ht);(have hn8:n1≤800000020000:=by have h1:=HGK'.o;have h2:=HG8.o;omega);clear hv1 hn1 hown hpop HTO hlT HGK HDI;cases hU:U s
     ·rw[hU] at cS;have HPU:=zh (zFv (f:=f) hU nf hsn);have HUT:=zh (HUI.o.take (ls:=l) (fun s hs=>by rw[HLQ.o s hs,HQ.o]) (B:=bkN L nf s) (fun r=>zQP));have HLL2:=zh (HLL.o.farB (p:=⟨gU,s,none⟩) (by show G≠gU;omega) (fun i hi=>zCC (HLL.o.own i hi) HRU.o (by decide)) (.bool true));have HTP:=zh (ownsRow_setCell_other HPOP.o (a:=⟨gU,s,none⟩) (by simp[Value.ownBlock];exact hgU) (.bool true));have lx:=HLL2.o.own s hsn;have cG:=HLL2.o.row.cell hsn;obtain⟨Ax,cx,hvx,hcx1,hcx2⟩:=zAa lx;rw[hvx] at lx cG;have HRX2:=zh (Rd.of_own lx (fun i j hi hj=>zAi _ i j (by rw[zBf];exact hi) hj))
      have hAx:Ax=none→(bkN L nf s).length=0:=by
       intro e;rcases wAo (bkN L nf s).length with h0 | h0
       · exact h0
       ·obtain⟨b,off,h1,_⟩:=HRX2.o h0;rw[e] at h1;cases h1
      obtain⟨ml,hml⟩:∃ ml,ml=(bkN L nf s).length:=⟨_,rfl⟩;have HML:=zh hml;have HFS:=zh (show f s=ml by rw[HFF.o,hml]);rw[← hml] at hAx hcx1 cG HRX2
      have hnm:n1+ml≤800000020000:=by
       have h1:=HPU.o;have h2:=HGK'.o;have h3:=HG8.o;have h4:=HFS.o;omega
      (have lG2:G<wr.heap.size:=by omega);clear hml hvx lx hU HUI HLL;go_wp2_with (at_builtin;refine zAw _ rfl (.tmp 97) (.tmp 101) _ rfl (G+1) 3 i0 _ 1 8 Try.underlying26 hi0 hz0 hz1 hz2 rfl (by omega) (.slice (some ⟨g,0,none⟩) n1 c1) n1 (intRow (castL T')) rfl HTP.o _ Ax ml cx (intRow (castL (bkN L nf s))) (intCell (castL (bkN L nf s))) rfl HRX2.o hAx (by rw[zAh,zBf,HML.o];omega) (fun i j hi hj=>zAi _ i j (by rw[zBf,← HML.o];exact hi) hj) (zAg _) (by simp only[maxLen];omega) (by omega) (by simp[wAb];omega) ?_;intro v2 w2 hown2 hg2' hat2);have HB3:=zh ((HBK.o.setCell (p:=⟨gU,s,none⟩) (by show G≤gU;omega) (.bool true)).grown hg2' (by simp[wAb];omega) (fun k hk=>by simp[Value.ownBlock] at hk;omega));have HLL3:=zh (HLL2.o.kept hg2' (by simp[Value.ownBlock];omega) (fun t ht=>HDG.o t ht));have HRU3:=zh (((HRU.o.set s (.bool true)).of_block (hg2'.block gU (by simp[wAb];omega) (by simp[Value.ownBlock];exact Ne.symm hgU))).congr (g:=fun i=>.bool (upd U s i)) (fun i _=>by unfold upd;split<;>rfl));have HDN:=zh (show ∀ t,t<nf→(vs t).ownBlock=none∨(vs t).ownBlock≠v2.ownBlock from fun t ht=>zHn (v0:=.slice (some ⟨g,0,none⟩) n1 c1) (HLL2.o.own t ht) (HDG.o t ht) (hat2.imp id .inl));have hs2:=hg2'.size;simp[wAb] at hs2;have HTN:=zh (show w2.ownsRow (G+1) 3 1 v2 (T'++bkN L nf s).length (intRow (castL (T'++bkN L nf s))) by rw[zAA,zAd,wAc,← HN1.o,← HML.o];exact hown2);clear hown2 hg2' hat2
      go_roundg (gk-1)
      case measure=>have:=HGK'.o;omega
      case rel=>exact⟨upd U s,T'++bkN L nf s,HTN,HRU3,HLL3,HDN,HUT,zh (by
       rw[wAc,← HN1.o,← HML.o];have h1:=HPU.o;have h2:=HGK'.o;have h4:=HFS.o
       omega),zh (by have:=HG8.o;omega),HB3,by omega⟩
     ·rw[hU] at cS;have HUS:=zh (HUI.o.skip hU);have HTN:=zh (show wr.ownsRow (G+1) 3 1 (.slice (some ⟨g,0,none⟩) n1 c1) T'.length (intRow (castL T')) by rw[← HN1.o];exact HPOP.o);clear HUI hU;go_wp2
      go_roundg (gk-1)
      case measure=>have:=HGK'.o;omega
      case rel=>exact⟨U,T',HTN,HRU,HLL,HDG,HUS,zh (by rw[← HN1.o];have:=HGK'.o;omega),zh (by have:=HG8.o;omega),HBK,hzr⟩
end Go.Proofs.Ytkfdhpbnphojoaa
