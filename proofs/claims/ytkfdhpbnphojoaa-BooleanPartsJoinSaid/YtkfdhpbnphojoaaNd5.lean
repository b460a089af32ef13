/- Part of the proof. -/
import Derived.Test.YtkfdhpbnphojoaaNd4
set_option linter.unusedSimpArgs false
set_option linter.unusedVariables false
set_option maxRecDepth 100000
set_option maxHeartbeats 16000000
open List renaming mem_singleton→wAa,mem_filter→wAb,take_of_length_le→wAc,mem_append_left→wAd,filter_append→wAe,length_filter_le→wAf,mem_append→wAh,take_add_one→wAi,length_append→wAj,mem_map→wAk,length_map→wAl,mem_flatMap→wAm,range→wAn,take_length→wAo,mem_range→wAp,map_append→wAq,mem_append_right→wAr,length_take→wAs,mem_cons_self→wAt,filter_cons→wAv,pairwise_cons→wAx,any_eq_true→wAy,filter_nil→wAA,mem_cons_of_mem→wAB,set_cons_zero→wAC,getD→wAD,setIfInBounds_toArray→wAE,getD_eq_getElem?_getD→wAF,mem_cons→wAG,append_assoc→wAH,length_range→wAI,getElem?_eq_none_iff→wAJ,append_nil→wAK,any_append→wAL,getElem_cons_zero→wAM,getElem_cons_succ→wAN,getElem_toArray→wAO,pairwise_append→wAP,flatMap_append→wAQ,set_cons_succ→wAR,range_succ→wAW,nodup_cons→wAX,map_cons→wAZ,map_nil→wA0
open Nat renaming le_refl→wAg,le_trans→wAu,succ_mul→wAw,lt_succ_of_lt→wAU,lt_irrefl→wAY
open Option renaming toList_some→wAS
open Bool renaming eq_iff_iff→wAz,false_eq_true→wAT,and_eq_true→wAV
namespace Gm
open Go Go.RowKit
theorem zBE {w:World} {base g:Nat} {e:TypeId} {cs:Array Value} (h:Blk w g e cs) (hb:base≤g) (hm:cs.size≤maxLen):w.ownsRow base e 1 (.slice (some ⟨g,0,none⟩) cs.size cs.size) cs.size cs.toList :=
 ⟨by simp,.inr ⟨g,cs.size,cs,rfl,hb,h,wAg _,hm,by simp,wAc (by simp)⟩⟩
theorem wrap8 (x:Int):IntKind.u8.wrap x=x%256:=by simp[IntKind.wrap,IntKind.signed,IntKind.bits]
def b3w (x:Int):List Int:=[IntKind.u8.wrap (x/65536),IntKind.u8.wrap (x/256),IntKind.u8.wrap x]
theorem zQq (x:Int):b3w x=b3 x:=by unfold b3w b3;rw[wrap8,wrap8,wrap8]
end Gm
namespace Go.Proofs.Ytkfdhpbnphojoaa
open Go.RowKit Gm
theorem zMH:(Try.prog.info? 5).map (fun i=>(i.zero,i.size,i.bytes))=some (some (.int .u8 0),1,1):=by kernel_rfl
theorem zQG {w:World} {base:Nat} {v:Value} {n:Nat} {l:List UInt8} (h:w.ownsRow base 5 1 v n (Lib.byteCells l)):(convert 114 9 v).run Try.prog w=.ok (.string ⟨l.toArray⟩) w:=by
 have hl:l.length=n:=by have:=h.1;simpa[Lib.byteCells] using this
 subst hl;rcases h.2 with⟨rfl,h0⟩ | ⟨g,cap,cur,rfl,_⟩
 ·obtain rfl:l=[]:=List.eq_nil_of_length_eq_zero h0;rw[run_convert_bytes_string w 114 9 5 none 0 0 Try.underlying114 Try.underlying5 Try.underlying9];simp[Conv.bytesToString];rfl
 ·refine run_convert_bytes_back w 114 9 5 ⟨g,0,none⟩ cap l Try.underlying114 Try.underlying5 Try.underlying9 (fun j hj=>?_);refine h.cells (g:=g) rfl j _ ?_;simp[Lib.byteCells,hj]
theorem zDF:KL Try.prog 9 kvS okS:=⟨Maps.string_keyed Try.underlying9,fun a ha=>by
 unfold okS at ha;refine⟨.string a,?_⟩;have hs:ByteArray.size ⟨a.toArray⟩≤maxLen:=by show a.toArray.size≤_;simp[maxLen];omega
 unfold keyOf kvS;rw[Try.underlying9]
 simp[mapKey,Try.underlying9,hs],zRT⟩
theorem zCo (W:World):(zeroValue 3).run Try.prog W=.ok (.int .i64 0) W:=by kernel_rfl
theorem zLf (
 vn vf:Value) (l:List Int) (L:List (List Int)) (F:List Bool) (w:World) (B:Nat) (hB:B≤w.heap.size) (hn:NumsL w B vn L) (hf:Bools w B vf F) (hT:Tab l (rowOf L) (finOf F) L.length) (hF:F.length=L.length) (hq:l.length≤2000) (hn2:L.length≤20000) :
 Calls Try.prog 85 #[vn,vf] w fun e w'=>∃ (g:Nat) (c:Nat→Nat) (k:Nat),e=.returned (.tuple #[.slice (some ⟨g,0,none⟩) L.length L.length,.int .i64 (k:Int)])∧w'.rowIs g 3 L.length (fun i=>.int .i64 ((c i:Nat):Int))∧w.heap.size≤g∧k≤L.length ∧
  (∀ s,s<L.length→c s<k)∧(∀ s t,s<L.length→t<L.length→(c s=c t↔∀ v,accS (tstp l (rowOf L)) (finOf F) s v↔accS (tstp l (rowOf L)) (finOf F) t v))∧(∀ i,i<k→∃ s,s<L.length∧c s=i)∧Below w.heap.size w w':=by
 obtain⟨AN,n,cn,rfl,HN,hnc,hnb,hR⟩:=hn;obtain⟨AF,nf,cf,rfl,HF,hfc,hfb,hFF⟩:=hf;obtain⟨i8,h80,h81,h82,h83⟩:=info_parts zMH;have HRR:=zh (show RdL w B AN n L from hR);have HRF:=zh hFF;rw[HN.o] at hT hF hn2 ⊢;have hnf:nf=n:=by rw[← HF.o];exact hF
 subst hnf;have HT:=zh hT;have HQ2:=zh hq;have hmk:=fun (W:World)=>run_make_row' (P:=Try.prog) 26 3 (.int .i64 0) 8 Try.underlying26 zAH rfl .i64 .i64 nf (by omega) (by omega) W
 have HMK:=zh hmk;unfold big at hnb hfb;clear hR hFF hT hF hq hmk;have hmk:=HMK.o
 go_enter Try.func85,Try.ntmps85
 go_upto_region 2 with fail
 clear hmk;generalize hW1:World.alloc _ _=W1
 have hgC:Hid (W1.rowIs w.heap.size 3 nf (fun i=>.int .i64 (((fun _=>0:Nat→Nat) i:Nat):Int))):=by
  rw[← hW1];exact zh (World.rowIs_made w (.int .i64 0) nf 3)
 have HB1:=zh (show Below w.heap.size w W1 by rw[← hW1];go_grown);have hz1:w.heap.size<W1.heap.size:=hgC.o.lt;have HC0:=zh (Cls.start (ls:=l) (row:=rowOf L) (fin:=finOf F) (n:=nf));obtain⟨H,hH⟩:∃ z,z=w.heap.size:=⟨_,rfl⟩;rw[← hH] at HB1 hz1 hgC hB;simp only[← hH];have HHW:=zh hH;clear hW1 hH;go_wp2
 go_loopw [6,7] (fun cv nv wr=>∃ (gC:Nat) (cl:Nat→Nat) (k:Nat),cv=.slice (some ⟨gC,0,none⟩) nf nf∧nv=.int .i64 (k:Int)∧Hid (wr.rowIs gC 3 nf (fun i=>.int .i64 ((cl i:Nat):Int)))∧Hid (Cls l (rowOf L) (finOf F) nf cl k)∧Hid (∀ i,i<nf→cl i<20001)∧k≤nf∧H≤gC∧Hid (Below H w wr)∧H<wr.heap.size) (fun _ nv _=>nf+1-(intOf nv).toNat)
 case atStart=>exact⟨H,fun _=>0,0,rfl,rfl,hgC,HC0,zh (fun i _=>by show (0:Nat)<20001;omega),by omega,wAg _,HB1,hz1⟩
 case round =>
  clear hgC HC0 HB1 hz1;obtain⟨gC,cl,k,rfl,rfl,HGC,HCL,HCB,hkn,hHC,HBK,hzr⟩:=hrel;have hmk:=HMK.o;have hmm:=@run_makeMap Try.prog;go_upto_region 6 with fail
  clear hmk hmm;generalize hW4:World.alloc _ _=W4;obtain⟨Mb,hMb⟩:∃ z,z=wr.heap.size:=⟨_,rfl⟩;obtain⟨gR,hgR⟩:∃ z,z=Mb+1:=⟨_,rfl⟩;obtain⟨K,hK⟩:∃ z,z=keyU (rowOf L) (finOf F) cl:=⟨_,rfl⟩;have HKU:=zh (zO8 (row:=rowOf L) (fin:=finOf F) (c:=cl) (n:=nf) (fun s hs=>by have:=HCB.o s hs;omega) HT.o.rng);rw[← hK] at HKU;have HKE:=zh (show ∀ s,K s=toB (keyBy (rowOf L) (finOf F) cl s) from fun s=>by rw[hK];rfl);have HM4:=zh (show MapIs W4 kvS okS Mb (numE (numD K 0) 0) by rw[← hW4,hMb];exact (MapIs.made wr kvS okS).alloc _)
  have HGR4:=zh (show W4.rowIs gR 3 nf (fun i=>if i<0 then .int .i64 ((posU K nf i:Nat):Int) else .int .i64 0) by
   rw[← hW4,hgR,hMb]
   have:=World.rowIs_made (wr.alloc (.map #[] 0)) (.int .i64 0) nf 3
   exact (by simpa using this:World.rowIs _ _ _ _ _).congr (fun i _=>by simp))
  have HGC4:=zh (show W4.rowIs gC 3 nf (fun i=>.int .i64 ((cl i:Nat):Int)) by rw[← hW4];exact (HGC.o.alloc _).alloc _);have HB4:=zh (show Below H w W4 by rw[← hW4];exact (HBK.o.alloc (by omega) _).alloc (by simp;omega) _);have hCM:gC<Mb:=by rw[hMb];exact HGC.o.lt
  have hMR:Mb<gR:=by omega
  have hR4:gR<W4.heap.size:=HGR4.o.lt;have hHM:H<Mb:=by omega
  simp only[← hMb,← hgR];clear hW4 hMb hgR hK HGC HBK hzr
  go_loopw [28] (fun iv wr=>∃ s:Nat,s≤nf∧iv=.int .i64 (s:Int)∧Hid (MapIs wr kvS okS Mb (numE (numD K s) 0))∧Hid (wr.rowIs gR 3 nf (fun i=>if i<s then .int .i64 ((posU K nf i:Nat):Int) else .int .i64 0))∧Hid (wr.rowIs gC 3 nf (fun i=>.int .i64 ((cl i:Nat):Int)))∧Hid (Below H w wr)∧gR<wr.heap.size) (fun iv _=>nf-(intOf iv).toNat)
  case atStart=>exact⟨0,by omega,rfl,HM4,HGR4,HGC4,HB4,hR4⟩
  case round =>
   clear HM4 HGR4 HGC4 HB4 hR4;obtain⟨s,hs,rfl,HM,HGR,HGC,HBK,hR4⟩:=hrel;by_cases hsn:s<nf
   ·obtain⟨b1,o1,A1,n1,c1,rw1,rfl,hb1,d1,HR1,HL1,hc1,hn1b,hrd1⟩:=zEo (HRR.o.below HBK.o hB) hsn
    have hn1:n1≤2000:=by
     have h:=HT.o.len s hsn;unfold rowOf at h;rw[HR1.o,HL1.o] at h
     have:=HQ2.o
     omega
    have HRD1:=zh hrd1;(have lb1:b1<wr.heap.size:=by omega);have cC:=HGC.o.cell hsn;have fC:=HGC.o.frozen s;have lC:=HGC.o.lt;obtain⟨z,hz⟩:∃ z:Int,z=((cl s:Nat):Int):=⟨_,rfl⟩;rw[← hz] at cC;have HZ:=zh hz;obtain⟨q1,hq1⟩:∃ q,IntKind.u8.wrap (z/65536)=q:=⟨_,rfl⟩;obtain⟨q2,hq2⟩:∃ q,IntKind.u8.wrap (z/256)=q:=⟨_,rfl⟩;obtain⟨q3,hq3⟩:∃ q,IntKind.u8.wrap z=q:=⟨_,rfl⟩;have HB3:=zh (show [q1,q2,q3]=b3 z by rw[← zQq,← hq1,← hq2,← hq3];rfl);clear hz hrd1;(go_upto_region 8 with fail);refine zAE (fun w'=>w'.cell? ⟨gC,s,none⟩=some (.int .i64 z)) 17 [(0,false),(1,false),(2,false),(3,false),(4,false),(5,false),(6,false),(7,false),(8,false),(9,false),(10,false),(11,false),(12,false),(13,false),(14,false),(15,false),(16,false)] (by kernel_rfl) (by kernel_rfl) ?_ ?_
    · go_simp
    simp only[List.drop_succ_cons,List.drop_zero]
    repeat (refine mix_q (v:=?_) (by rfl) (by rfl) ?_ ?_;rotate_left;(focus (intro w' hC;(try dsimp only at hC);go_simp;(first | done | with_reducible rfl)));simp only[Act.put,wAE,wAC,wAR,wAO,wAM,wAN])
    refine zAs ?_;(try simp only[Act.put,wAE,wAC,wAR,wAO,wAM,wAN]);go_wp2;refine NoPanic.normal ?_;generalize hW5:(World.alloc _ _).drew=W5;obtain⟨W3,hW3⟩:∃ z,z=wr:=⟨_,rfl⟩;rw[← hW3] at HM HGR HGC HBK hR4 HRD1 hW5 cC fC lC lb1 d1 ⊢;obtain⟨gB,hgB⟩:∃ z,z=W3.heap.size:=⟨_,rfl⟩;have HGB5:=zh (show Blk W5 gB 5 #[.int .u8 q1,.int .u8 q2,.int .u8 q3,.int .u8 0] by rw[← hW5];exact (Blk.at_ hgB:Blk (World.alloc W3 _) gB _ _));have HB5:=zh (show Below gB W3 W5 by rw[← hW5,hgB];go_grown);(have hgR5:gR<gB:=by omega);(have lb1':b1<gB:=by omega);obtain⟨b2,o2,x,rfl,hb2,d2,HX⟩:=zIV (HRF.o.below (HBK.o.trans (HB5.o.mono (by omega))) hB) hsn;(have lb2:b2<W5.heap.size:=by have:=HGB5.o.lt;omega);simp only[← hgB];have HW3:=zh hgB;clear hW5 hW3 hgB d1 cC fC lC lb1 hq1 hq2 hq3;go_upto_if 54 with fail
    go_cut [] from 55 to 56 (fun wx=>Hid (Blk wx gB 5 #[.int .u8 q1,.int .u8 q2,.int .u8 q3,.int .u8 (if x=true then 1 else 0)])∧Hid (Below gB W3 wx))
    case first =>
     have c3:=HGB5.o.cell 3;have f3:=HGB5.o.frozen 3;have l3:=HGB5.o.lt;simp at c3;clear HX;cases x
     ·go_wp2;go_meet;exact⟨by simpa using HGB5,HB5⟩
     ·go_wp2;go_meet;exact⟨zh (by simpa using HGB5.o.set_ 3 (.int .u8 1)),zh (HB5.o.setCell (p:=⟨gB,3,none⟩) (by exact wAg _) _)⟩
    case rest =>
     obtain⟨HGB6,HB6⟩:=hcut;clear HGB5 HB5 d2 lb2
     have HO0:=zh (show wc.ownsRow gB 5 1 (.slice (some ⟨gB,0,none⟩) 4 4) 4 (byRow (b3 z++[if x=true then 1 else 0]++rowBy cl (rw1.take 0))) by
      have h:=zBE (base:=gB) HGB6.o (wAg _) (by simp[maxLen]);rw[← HB3.o]
      exact h)
     have hz6:gB<wc.heap.size:=HGB6.o.lt;obtain⟨W6,hW6⟩:∃ z,z=wc:=⟨_,rfl⟩;rw[← hW6] at HO0 HB6 hz6 ⊢;clear hW6 HGB6;have HC6:=zh (HGC.o.of_block (HB6.o.block gC (by omega)));have HRD6:=zh (HRD1.o.below HB6.o (by omega));go_upto_region 12 with fail
     go_loopw [12,59] (fun bv jv wr=>∃ (j m:Nat),j≤n1∧jv=.int .i64 (j:Int)∧m=4+3*j∧Hid (wr.ownsRow gB 5 1 bv m (byRow (b3 z++[if x=true then 1 else 0]++rowBy cl (rw1.take j))))∧Hid (Below gB W6 wr)∧gB<wr.heap.size) (fun _ jv _=>n1-(intOf jv).toNat)
     case atStart=>exact⟨0,4,by omega,rfl,by omega,HO0,zh (Below.refl _ _),hz6⟩
     case round =>
      clear HO0 hz6;obtain⟨j,m,hj,rfl,hm,HO,HB7,hz7⟩:=hrel;by_cases hjn:j<n1
      ·obtain⟨b3',o3,y,rfl,hb3,d3,HY⟩:=zAO (HRD6.o.below HB7.o (by omega)) hjn;(have lb3:b3'<wr.heap.size:=by omega);(have hjl:j<rw1.length:=by rw[HL1.o];exact hjn);have HTK:=zh (zDD hjl HY.o)
       have hyn:y<(nf:Int):=by
        have h:=HT.o.rng s hsn y;unfold rowOf at h;rw[HR1.o] at h;exact h (by rw[← HY.o];simp[wAD,hjl])
       obtain⟨cc,hcc⟩:∃ z,z=clT cl y:=⟨_,rfl⟩;have HCC:=zh hcc;have HM7:=zh hm;(have hm6:m≤6004:=by omega);clear HY hjl hcc hm;obtain⟨bb,hbb⟩:∃ b:Bool,decide (0≤y)=b:=⟨_,rfl⟩;have HBB:=zh hbb;(go_upto_if 64 with fail);clear hbb
       go_cut [15] from 65 to 68 (fun s15 wx=>s15=.int .i64 cc∧wx=wr)
       case first =>
        have e:=HCC.o;unfold clT at e;cases bb
        ·have hy0:¬ 0≤y:=of_decide_eq_false HBB.o;rw[if_neg hy0] at e;have HE:=zh e;clear e;go_wp2;go_meet;exact⟨by rw[HE.o],rfl⟩
        ·have hy0:0≤y:=of_decide_eq_true HBB.o;have cC:=(HC6.o.of_block (HB7.o.block gC (by omega))).cell (show y.toNat<nf by omega);rw[if_pos hy0] at e;rw[← e] at cC;(have lC:gC<wr.heap.size:=by omega);clear e;go_wp2;go_meet;exact⟨rfl,rfl⟩
       case rest =>
        obtain⟨rfl,hwc⟩:=hcut;subst hwc;obtain⟨A5,c5,rfl,hmc,_⟩:=zAa HO.o;obtain⟨q4,hq4⟩:∃ q,IntKind.u8.wrap (cc/65536)=q:=⟨_,rfl⟩;obtain⟨q5,hq5⟩:∃ q,IntKind.u8.wrap (cc/256)=q:=⟨_,rfl⟩;obtain⟨q6,hq6⟩:∃ q,IntKind.u8.wrap cc=q:=⟨_,rfl⟩;have HB4:=zh (show [q4,q5,q6]=b3 cc by rw[← zQq,← hq4,← hq5,← hq6];rfl);go_wp2_with (at_builtin;refine wpList_append_own_at _ rfl (.tmp 69) (.tmp 78) 114 rfl gB 5 i8 _ 1 1 Try.underlying114 h80 h81 h82 h83 rfl (by omega) (.slice A5 m c5) m _ rfl (HO.o.alloc _) ⟨wc.heap.size,0,none⟩ 3 3 (byRow [q4,q5,q6]) rfl (by rfl) (World.news_of_block (cs:=(byRow [q4,q5,q6]).toArray) (t:=5) (fr:=(0,0)) (Blk.at_ rfl)) (zHM _) (by simp only[maxLen];omega) (by omega) (by simp<;>omega) ?_;intro v' w8 hown2 hg2 _ hat2)
        have HON:=zh (show w8.ownsRow gB 5 1 v' (m+3) (byRow (b3 z++[if x=true then 1 else 0]++rowBy cl (rw1.take (j+1)))) by
         rw[HTK.o,zKU,← HCC.o,← wAH,zEs _ (b3 cc),← HB4.o]
         exact hown2)
        have HBN:=zh ((HB7.o.alloc (by omega) _).grown hg2 (by simp<;>omega) (fun z hz=>(HO.o.lt z hz).1));have hs8:=hg2.size;simp at hs8;(have hm3:m+3=4+3*(j+1):=by have:=HM7.o;omega);have HM3:=zh hm3;clear hown2 hg2 hat2 hm3 hq4 hq5 hq6;go_roundw
        case rel=>exact⟨j+1,m+3,by omega,by go_num,HM3.o,HON,HBN,by omega⟩
        case measure=>simp[intOf];omega
      ·(obtain rfl:n1=j:=by omega);have hend:rw1.take n1=rw1:=wAc (by rw[HL1.o];exact wAg _)
       have HKS:=zh (show byRow (b3 z++[if x=true then 1 else 0]++rowBy cl (rw1.take n1))=Lib.byteCells (K s) by
        rw[hend,HKE.o,← zDu (zFc _ _ _ _)];unfold keyBy rowOf
        rw[HR1.o,← HZ.o,show finOf F s=x from HX.o])
       have HOK:=zh (show okS (K s) by
        unfold okS;rw[HKE.o];unfold toB;rw[wAl,zN9];unfold rowOf;rw[HR1.o,HL1.o]
        omega)
       rw[HKS.o] at HO;have hcv:=zQG HO.o;have HB8:=zh (HB6.o.trans HB7.o);have HM8:=zh (HM.o.below HB8.o (by omega));have HGR8:=zh (HGR.o.of_block (HB8.o.block gR hgR5));have HGC8:=zh (HGC.o.of_block (HB8.o.block gC (by omega)));have HBK8:=zh (HBK.o.trans (HB8.o.mono (by omega)));obtain⟨W8,hW8⟩:∃ z,z=wr:=⟨_,rfl⟩;rw[← hW8] at hcv HM8 HGR8 HGC8 HBK8 hz7 ⊢;clear hW8 hend HO HB7 HB8 HKS HX HM HGR HGC HBK;(have hR8:gR<W8.heap.size:=by omega);by_cases hmem:K s∈numD K s
       ·have HLY:=zh (zSu (n:=nf) hmem hsn);have HLY1:=zh (show (lk (numE (numD K s) 0) (K s)).getD (.int .i64 0)=.int .i64 ((posU K nf s:Nat):Int) by rw[HLY.o];rfl);have HNO:=zh (zNw hmem);have rc:=HGR8.o.cell hsn;have rf:=HGR8.o.frozen s;have HOLD:=zh (show (if s<s then Value.int .i64 ((posU K nf s:Nat):Int) else .int .i64 0)=.int .i64 0 by rw[if_neg (wAY _)]);rw[HOLD.o] at rc;clear hmem HOLD
        go_wp2_with (first
         | (at_lookup;refine zBz rfl _ _ 87 rfl zDF Try.underlying87 zCo rfl HM8.o (K s) rfl HOK.o _ HLY.o ?_)
         | (at_lookup;refine zAK rfl _ _ 87 rfl zDF Try.underlying87 zCo rfl HM8.o (K s) rfl HOK.o _ HLY1.o ?_))
        go_roundw
        case rel=>exact⟨s+1,by omega,by go_num,zh (by rw[HNO.o];exact HM8.o.set_ (p:=⟨gR,s,none⟩) (by show Mb≠gR;omega) _),zh ((HGR8.o.set s (.int .i64 ((posU K nf s:Nat):Int))).congr (fun i hi=>by
         by_cases e:i=s
         · subst e;simp
         ·by_cases e2:i<s
          · simp[e,e2,wAU e2]
          · rw[if_neg e,if_neg e2,if_neg (by omega)])),zh (HGC8.o.setOther (a:=⟨gR,s,none⟩) (by show gC≠gR;omega) _),zh (HBK8.o.setCell (p:=⟨gR,s,none⟩) (by show H≤gR;omega) _),by simp[World.setCell];omega⟩
        case measure=>simp[intOf];omega
       ·have HLN:=zh (zRl hmem);have HNN:=zh (zRM hmem);have HLA:=zh (show (lk (numE (numD K (s+1)) 0) (K s)).getD (.int .i64 0)=.int .i64 ((posU K nf s:Nat):Int) by rw[zNs (K:=K) (s:=s) (m:=s+1) (n:=nf) (by omega) (by omega)];rfl);have rc:=HGR8.o.cell hsn;have rf:=HGR8.o.frozen s;have HOLD:=zh (show (if s<s then Value.int .i64 ((posU K nf s:Nat):Int) else .int .i64 0)=.int .i64 0 by rw[if_neg (wAY _)]);rw[HOLD.o] at rc;obtain⟨nl,hnl⟩:∃ z,z=(numD K s).length:=⟨_,rfl⟩;rw[← hnl] at HNN;have HNL:=zh (show (numE (numD K s) 0).length=nl by rw[zDB,hnl]);have hln:=HM8.o.run_len (P:=Try.prog) Try.underlying87 HNL.o;clear hmem HOLD hnl
        go_wp2_with (first
         | (at_lookup;refine zBH rfl _ _ 87 rfl zDF Try.underlying87 zCo rfl HM8.o (K s) rfl HOK.o HLN.o ?_)
         | (at_mapUpdate;go_loud (refine zBs rfl _ _ _ 87 rfl zDF Try.underlying87 rfl HM8.o (K s) rfl HOK.o (.int .i64 (nl:Int)) rfl ?_);intro w9 hm9 hg9 hz9;rw[HNN.o] at hm9;have rc9:=hg9.cell rc (by simp;omega);have rf9:=zAD hg9 (by simp;omega) hR8 rf)
         | (at_lookup;refine zAK rfl _ _ 87 rfl zDF Try.underlying87 zCo rfl hm9 (K s) rfl HOK.o _ HLA.o ?_))
        have HR9:=zh (HGR8.o.of_block (hg9.block gR hR8 (by simp;omega)));have HC9:=zh (HGC8.o.of_block (hg9.block gC (by omega) (by simp;omega)));have HBK9:=zh (HBK8.o.grown hg9 (by omega) (fun z hz=>by injection hz with hz;omega));go_roundw
        case rel=>exact⟨s+1,by omega,by go_num,zh (hm9.set_ (p:=⟨gR,s,none⟩) (by show Mb≠gR;omega) _),zh ((HR9.o.set s (.int .i64 ((posU K nf s:Nat):Int))).congr (fun i hi=>by
         by_cases e:i=s
         · subst e;simp
         ·by_cases e2:i<s
          · simp[e,e2,wAU e2]
          · rw[if_neg e,if_neg e2,if_neg (by omega)])),zh (HC9.o.setOther (a:=⟨gR,s,none⟩) (by show gC≠gR;omega) _),zh (HBK9.o.setCell (p:=⟨gR,s,none⟩) (by show H≤gR;omega) _),by simp[World.setCell];omega⟩
        case measure=>simp[intOf];omega
   ·(obtain rfl:nf=s:=by omega);have HNX:=zh (HCL.o.next HT.o);have HGX:=zh (zP6 HCL.o);obtain⟨k',hk'⟩:∃ z,z=cntC (rowOf L) (finOf F) nf cl:=⟨_,rfl⟩;rw[← hk'] at HNX HGX;have HLE:=zh (show k'≤nf by rw[hk',HKU.o.1];exact zKI K nf);have HNL:=zh (show (numE (numD K nf) 0).length=k' by rw[zDB,hk',HKU.o.1]);have HREN:=zh (show ∀ i,i<nf→posU K nf i=renK (rowOf L) (finOf F) nf cl i from fun i hi=>((HKU.o.2 i hi).symm));have HGR9:=zh (HGR.o.congr (g:=fun i=>.int .i64 ((renK (rowOf L) (finOf F) nf cl i:Nat):Int)) (fun i hi=>by rw[if_pos hi,HREN.o i hi]));have HLOW:=zh (show ∀ i,i<nf→renK (rowOf L) (finOf F) nf cl i<k' from fun i hi=>by rw[hk'];exact List.idxOf_lt_length_of_mem (mem_numD.2 ⟨i,hi,rfl⟩));have HK':=zh hk';clear hk';by_cases hstop:k'=k
    ·subst hstop;have HEND:=zh (zQR HT.o HCL.o HK'.o.symm);(have t5:((k':Int)==(k':Int))=true:=by simp);have hln:=HM.o.run_len (P:=Try.prog) Try.underlying87 HNL.o;go_wp2;exact bodyPost_ret (v:=.tuple #[.slice (some ⟨gR,0,none⟩) nf nf,.int .i64 (k':Int)]) (by simp[results,Try.results85,go_sem]) rfl ⟨gR,renK (rowOf L) (finOf F) nf cl,k',rfl,HGR9.o,by rw[← HHW.o];omega,HLE.o,HLOW.o,HEND.o,HNX.o.onto,by rw[← HHW.o];exact HBK.o⟩
    ·(have t5:((k':Int)==(k:Int))=false:=by simp;omega);(have hgrow:k<k':=by have:=HGX.o;omega);have hle':=HLE.o;clear hstop;have hln:=HM.o.run_len (P:=Try.prog) Try.underlying87 HNL.o;go_wp2;go_roundw
     case rel=>exact⟨gR,renK (rowOf L) (finOf F) nf cl,k',rfl,rfl,HGR9,HNX,zh (fun i hi=>by have:=HLOW.o i hi;omega),HLE.o,by omega,HBK,by omega⟩
     case measure=>simp[intOf];omega
end Go.Proofs.Ytkfdhpbnphojoaa
namespace Gm
def castL (l:List Nat):List Int:=l.map fun s:Nat=>(s:Int)
theorem zAA (l k:List Nat):castL (l++k)=castL l++castL k:=by unfold castL;rw[wAq]
theorem zBf (l:List Nat):(castL l).length=l.length:=by unfold castL;rw[wAl]
theorem zPt {l:List Nat} {i s:Nat} (h:l[i]? = some s):(castL l).getD i 0=(s:Int):=by
 unfold castL;rw[wAF,List.getElem?_map,h];rfl
section
variable {L:List (List Int)} {F:List Bool}
def bkN (L:List (List Int)) (i t:Nat):List Nat:=(wAn i).flatMap fun s=>((rowOf L s).filter fun x=>decide (x=(t:Int))).map fun _=>s
def bkP (L:List (List Int)) (i k t:Nat):List Nat:=bkN L i t++(((rowOf L i).take k).filter fun x=>decide (x=(t:Int))).map fun _=>i
theorem zJ6 (i t:Nat):bkP L i 0 t=bkN L i t:=by unfold bkP;simp
theorem zND {i k:Nat} (hk:(rowOf L i).length≤k) (t:Nat):bkP L i k t=bkN L (i+1) t:=by
 unfold bkP bkN;rw[wAc hk,zAT]
theorem zEP {i k:Nat} {x:Int} (hx:(rowOf L i)[k]? = some x) (t:Nat):bkP L i (k+1) t=if x=(t:Int) then bkP L i k t++[i] else bkP L i k t:=by
 unfold bkP;rw[wAi,hx,wAe,wAq];by_cases h:x=(t:Int)
 · simp[h]
 · simp[h]
theorem zQP {n r t:Nat} : r∈bkN L n t↔r<n∧(t:Int)∈rowOf L r:=by
 unfold bkN;rw[wAm];constructor
 ·rintro⟨s,hs,h⟩;obtain⟨x,hx,rfl⟩:=wAk.1 h;obtain⟨h1,h2⟩:=wAb.1 hx
  have:=of_decide_eq_true h2
  subst this;exact⟨wAp.1 hs,h1⟩
 ·rintro⟨hr,h⟩;exact⟨r,wAp.2 hr,wAk.2 ⟨_,wAb.2 ⟨h,decide_eq_true rfl⟩,rfl⟩⟩
theorem zMy {q n:Nat} (h:∀ s,s<n→(rowOf L s).length≤q) (t:Nat):(bkN L n t).length≤n*q:=by
 induction n with
 | zero=>simp[bkN]
 | succ n ih =>
  have e:bkN L (n+1) t=bkN L n t++((rowOf L n).filter fun x=>decide (x=(t:Int))).map fun _=>n:=by unfold bkN;rw[zAT]
  rw[e,wAj,wAl,wAw];have h1:=ih fun s hs=>h s (by omega)
  have h2:=wAf (fun x:Int=>decide (x=(t:Int))) (rowOf L n);have h3:=h n (by omega);omega
theorem zRq {q i k:Nat} (h:∀ s,s<i→(rowOf L s).length≤q) (t:Nat):(bkP L i k t).length≤i*q+k:=by
 unfold bkP;rw[wAj,wAl];have h1:=zMy h t;have h2:=wAf (fun x:Int=>decide (x=(t:Int))) ((rowOf L i).take k);rw[wAs] at h2;omega
def finN (F:List Bool) (i:Nat):List Nat:=(wAn i).filter (finOf F)
theorem zIs (i:Nat):finN F (i+1)=finN F i++if finOf F i=true then [i] else []:=by
 unfold finN;rw[wAW,wAe];congr 1;cases h:finOf F i<;>simp[h]
theorem zKB (i:Nat):(finN F i).length≤i:=by
 unfold finN;refine wAu (wAf _ _) ?_;rw[wAI];exact wAg _
theorem finN_mem {i s:Nat} : s∈finN F i↔s<i∧finOf F s=true:=by unfold finN;rw[wAb,wAp]
theorem zKY {l:List Int} : UInv l (rowOf L) (finOf F) L.length (fun _=>false) (finN F L.length) where
 rng:=fun s hs=>(finN_mem.1 hs).1
 good:=fun s hs h=>by
  rcases h with h | h
  · cases h
  · exact⟨[],(finN_mem.1 h).2⟩
 fins:=fun s hs h=>.inr (finN_mem.2 ⟨hs,h⟩)
 back:=fun t _ h=>by cases h
def pendF (f:Nat→Nat) (U:Nat→Bool):Nat→Nat
 | 0=>0
 | n+1=>pendF f U n+(if U n=true then 0 else f n)
theorem zHA {f:Nat→Nat} {U:Nat→Bool} {k:Nat} : ∀ n,n≤k→pendF f (upd U k) n=pendF f U n
 | 0,_=>rfl
 | n+1,h=>by
  unfold pendF;rw[zHA n (by omega)]
  have:upd U k n=U n:=by unfold upd;rw[if_neg (by omega)]
  rw[this]
theorem zFv {f:Nat→Nat} {U:Nat→Bool} {k:Nat} (h:U k=false):∀ n,k<n→pendF f (upd U k) n+f k=pendF f U n
 | 0,hk=>by omega
 | n+1,hk=>by
  unfold pendF;by_cases e:n=k
  ·subst e;rw[zHA n (wAg _),zBI,h];simp
  ·have ih:=zFv (f:=f) h n (by omega)
   have:upd U k n=U n:=by unfold upd;rw[if_neg e]
   rw[this];omega
theorem zG9 {f:Nat→Nat} {U:Nat→Bool} {M:Nat} : ∀ n,(∀ i,i<n→f i≤M)→pendF f U n≤n*M
 | 0,_=>by simp[pendF]
 | n+1,h=>by
  have ih:=zG9 (f:=f) (U:=U) n fun i hi=>h i (by omega)
  have h2:=h n (by omega);unfold pendF;rw[wAw];split<;>omega
def repF (c:Nat→Nat):Nat→Nat→Nat
 | 0,_=>0
 | i+1,k=>if k=c i then i else repF c i k
theorem zFU {c:Nat→Nat} : ∀ {n s:Nat},s<n→repF c n (c s)<n∧c (repF c n (c s))=c s
 | 0,s,h=>by omega
 | n+1,s,h=>by
  unfold repF;by_cases e:c s=c n
  · rw[if_pos e];exact⟨by omega,e.symm⟩
  ·rw[if_neg e]
   have:s≠n:=fun g=>e (by rw[g])
   obtain⟨h1,h2⟩:=zFU (c:=c) (n:=n) (s:=s) (by omega);exact⟨by omega,h2⟩
def plc (l:List Nat) (v:Nat):Int:=if v∈l then ((l.idxOf v:Nat):Int) else -1
theorem zRC {l:List Nat} {u:Nat} (h:u∉l) (v:Nat):(if v=u then ((l.length:Nat):Int) else plc l v)=plc (addL l u) v:=by
 rw[show addL l u=l++[u] by unfold addL;rw[if_neg h]];unfold plc;by_cases e:v=u
 ·subst e;rw[if_pos rfl,if_pos (by simp),List.idxOf_append,if_neg h];simp
 ·rw[if_neg e];by_cases g:v∈l
  · rw[if_pos g,if_pos (by simp[g]),zFE g]
  · rw[if_neg g,if_neg (by simp[g,e])]
theorem zNh {l:List Nat} {u:Nat} (h:u∈l):addL l u=l:=by unfold addL;rw[if_pos h]
theorem zQD (l:List Nat) (u:Nat):plc (addL l u) u=(((addL l u).idxOf u:Nat):Int):=by unfold plc;rw[if_pos (addL_mem.2 (.inr rfl))]
theorem zHd {l:List Nat} {v:Nat} : plc l v<0↔v∉l:=by
 unfold plc;by_cases h:v∈l
 ·rw[if_pos h];exact⟨fun g=>by omega,fun g=>absurd h g⟩
 ·rw[if_neg h];exact⟨fun _=>h,fun _=>by omega⟩
def clnL (U:Nat→Bool) (L:List (List Int)):List (List Int):=(wAn L.length).map fun s=>cleanR U (rowOf L s)
theorem zKK (U:Nat→Bool) (L:List (List Int)):(clnL U L).length=L.length:=by unfold clnL;simp
theorem zHi (U:Nat→Bool) (L:List (List Int)):rowOf (clnL U L)=fun s=>cleanR U (rowOf L s):=by
 funext s
 show (clnL U L).getD s []=_
 unfold clnL;by_cases h:s<L.length
 · simp[wAD,h]
 ·have e:rowOf L s=[]:=by unfold rowOf;rw[wAF,List.getElem?_eq_none (by omega)];rfl
  rw[e];simp[wAD,h,cleanR]
def clnK (U:Nat→Bool) (r:List Int) (k:Nat):List Int:=cleanR U (r.take k)++r.drop k
theorem zNt (U:Nat→Bool) (r:List Int):clnK U r 0=r:=by unfold clnK cleanR;simp
theorem zPT (U:Nat→Bool) (r:List Int) {k:Nat} (h:r.length≤k):clnK U r k=cleanR U r:=by unfold clnK;rw[wAc h,List.drop_of_length_le h,wAK]
theorem zPq (U:Nat→Bool) (r:List Int) (k:Nat):(clnK U r k).length=r.length:=by
 unfold clnK cleanR;rw[wAj,wAl,wAs,List.length_drop];omega
theorem zNy {U:Nat→Bool} {r:List Int} {k:Nat} {t:Int} (hk:k<r.length) (ht:r.getD k 0=t):clnK U r (k+1)=if 0≤t∧U t.toNat=false then (clnK U r k).set k (-1) else clnK U r k:=by
 have e1:r.take (k+1)=r.take k++[t]:=by
  rw[wAi];congr 1;rw[← ht];simp[wAD,hk]
 have e2:r.drop k=t::r.drop (k+1):=by
  rw[List.drop_eq_getElem_cons hk];congr 1;rw[← ht];simp[wAD,hk]
 unfold clnK;rw[e1,e2];unfold cleanR;rw[wAq,wAZ,wA0,wAH];have hl:((r.take k).map fun t=>if 0≤t∧U t.toNat=false then -1 else t).length=k:=by rw[wAl,wAs];omega
 by_cases h:0≤t∧U t.toNat=false
 ·rw[if_pos h,if_pos h,List.set_append,hl,if_neg (by omega),show k-k=0 by omega,wAC];rfl
 ·rw[if_neg h,if_neg h];rfl
end
/-! What is in the result. -/
section
variable {l:List Int} {L:List (List Int)} {F:List Bool} {U:Nat→Bool} {c:Nat→Nat} {k:Nat}
structure SmI (l:List Int) (L:List (List Int)) (F:List Bool) (U:Nat→Bool) (c:Nat→Nat) (k:Nat):Prop where
 ok:SmOk l L F.length
 use:∀ s,s<L.length→(U s=true↔∃ w,accS (tstp l (rowOf L)) (finOf F) s w)
 zero:0<L.length∧U 0=true
 low:∀ s,s<L.length→c s<k
 onto:∀ i,i<k→∃ s,s<L.length∧c s=i
 same:∀ s t,s<L.length→t<L.length→(c s=c t↔∀ w,accS (tstp l fun s=>cleanR U (rowOf L s)) (finOf F) s w↔accS (tstp l fun s=>cleanR U (rowOf L s)) (finOf F) t w)
 le:k≤L.length
def stpS (l:List Int) (L:List (List Int)) (U:Nat→Bool) (c:Nat→Nat):Nat→List (Int×Nat):=cstp l (fun s=>cleanR U (rowOf L s)) c (repF c L.length)
def finS (F:List Bool) (c:Nat→Nat) (n:Nat):Nat→Bool:=fun v=>finOf F (repF c n v)
abbrev StS (l:List Int) (L:List (List Int)) (F:List Bool) (U:Nat→Bool) (c:Nat→Nat) (i:Nat):(List Nat×List Arc)×List Fnl:=StB (stpS l L U c) (finS F c L.length) (c 0) i
theorem SmI.rep (h:SmI l L F U c k) {v:Nat} (hv:v<k):repF c L.length v<L.length∧c (repF c L.length v)=v:=by
 obtain⟨s,hs,rfl⟩:=h.onto v hv;exact zFU hs
theorem SmI.row (h:SmI l L F U c k) {s:Nat} (hs:s<L.length):(cleanR U (rowOf L s)).length=l.length∧∀ t∈cleanR U (rowOf L s),-1≤t∧t<(L.length:Int):=by
 obtain⟨h1,h2⟩:=h.ok.row hs;refine⟨by unfold cleanR;rw[wAl];exact h1,fun t ht=>?_⟩;unfold cleanR at ht;obtain⟨p,hp,e⟩:=wAk.1 ht
 have:=h2 p hp
 split at e<;>omega
theorem SmI.steps (h:SmI l L F U c k) {v j:Nat} (hv:v<k):∀ e∈stpJ l (cleanR U (rowOf L (repF c L.length v))) c j,e.2<k :=
 zHs fun t ht h0=>h.low _ (by have:=(h.row (h.rep hv).1).2 t ht;omega)
theorem SmI.rng (h:SmI l L F U c k) (i:Nat):∀ v∈(StS l L F U c i).1.1,v<k :=
 zCV (P:=fun v=>v<k) (h.low 0 h.zero.1) (fun v hv e he=>by
  unfold stpS at he;rw[← zFD (j:=l.length) (wAg _)] at he
  exact h.steps hv e he) i
theorem SmI.len (h:SmI l L F U c k) (i:Nat):(StS l L F U c i).1.1.length≤k:=zDW (zBJ i) (h.rng i)
theorem SmI.canT_eq (h:SmI l L F U c k):bfsM (stpS l L U c) (finS F c L.length) (c 0) L.length=canT l L F:=by
 have hs:=zKL (ls:=l) (row:=rowOf L) (fin:=finOf F) (n:=L.length) h.ok.inc h.ok.lens h.ok.rngs h.use (c:=c) (rep:=repF c L.length) h.same (fun s hs=>zFU hs) h.zero.1 h.zero.2 (f:=L.length) (wAg _);unfold smM at hs;rw[if_neg (by rw[h.zero.2];simp;have:=h.zero.1;intro e;rw[e] at this;simp at this)] at hs;exact hs
theorem SmI.big (h:SmI l L F U c k) {i:Nat} (hi:i≤L.length) (hb:400<(StS l L F U c i).1.1.length∨2000<(StS l L F U c i).1.2.length):limR (canT l L F)=(⟨0,[],[]⟩,(17,-1)):=by
 rw[← h.canT_eq];unfold StS at hb;obtain⟨h1,h2⟩:=zJa (stp:=stpS l L U c) (fin:=finS F c L.length) (s0:=c 0) hi;unfold limR;rw[if_pos];rcases hb with hb | hb
 · exact .inl (by omega)
 · exact .inr (by omega)
theorem SmI.done (h:SmI l L F U c k) {i:Nat} (hi:i≤L.length) (he:(StS l L F U c i).1.1.length≤i) (h1:(StS l L F U c i).1.1.length≤400) (h2:(StS l L F U c i).1.2.length≤2000):limR (canT l L F)=(⟨((StS l L F U c i).1.1.length:Int),(StS l L F U c i).1.2,(StS l L F U c i).2⟩,(0,0)):=by
 rw[← h.canT_eq,zJg he hi];unfold limR;rw[if_neg];rintro (g | g)
 ·have g:(400:Int)<(((StS l L F U c i).1.1.length:Nat):Int):=g;omega
 ·have g:2000<(StS l L F U c i).1.2.length:=g;omega
theorem zPW (hok:SmOk l L F.length) (hU:∀ s,s<L.length→(U s=true↔∃ w,accS (tstp l (rowOf L)) (finOf F) s w)) (h:L.length=0∨U 0=false):limR (canT l L F)=(⟨0,[],[]⟩,(0,0)):=by
 have e:canT l L F=⟨0,[],[]⟩:=by
  by_cases h0:L.length=0
  · exact zL8 h0 hok.fin
  ·rcases h with h | h
   · exact absurd h h0
   ·(refine zFi fun hw=>?_);rw[(hU 0 (by omega)).2 hw] at h;cases h
 rw[e];unfold limR;rw[if_neg (by simp)]
theorem SmI.of (hok:SmOk l L F.length) (hU:∀ s,s<L.length→(U s=true↔∃ w,accS (tstp l (rowOf L)) (finOf F) s w)):Tab l (fun s=>cleanR U (rowOf L s)) (finOf F) L.length:=zIP hok.inc hok.lens hok.rngs hU
end
/-! Rows in memory. -/
section
open Go Go.RowKit
theorem zCC {w:World} {base sz n m g:Nat} {e t:TypeId} {v:Value} {xs:List Value} {f:Nat→Value} (h:w.ownsRow base e sz v n xs) (hr:w.rowIs g t m f) (hne:e≠t):v.ownBlock≠some g:=by
 obtain⟨c,hb,_⟩:=hr;exact zAe h (show Blk w g t c from hb) hne
theorem zMO {w w':World} {b1 s1 n1 b2 s2 n2:Nat} {e1 e2:TypeId} {v1 v2:Value} {x1 x2:List Value} (h1:w.ownsRow b1 e1 s1 v1 n1 x1) (h2:w'.ownsRow b2 e2 s2 v2 n2 x2) (hb:w.heap.size≤b2):v1.ownBlock=none∨v1.ownBlock≠v2.ownBlock:=by
 cases e:v1.ownBlock with
 | none=>exact .inl rfl
 | some k =>
  right;intro e2
  have:=(h1.lt k e).2
  have:=(h2.lt k e2.symm).1
  omega
theorem zHn {w:World} {base sz n:Nat} {e:TypeId} {v v0 v1:Value} {xs:List Value} (h:w.ownsRow base e sz v n xs) (hd:v.ownBlock=none∨v.ownBlock≠v0.ownBlock) (hat:v1.ownBlock=v0.ownBlock∨v1.ownBlock=some w.heap.size∨∃ H,v1.ownBlock=some H∧w.heap.size≤H):v.ownBlock=none∨v.ownBlock≠v1.ownBlock:=by
 cases e:v.ownBlock with
 | none=>exact .inl rfl
 | some k =>
  right;have hk:=(h.lt k e).2;rcases hat with g | g | ⟨H,g,hH⟩
  ·rw[g,← e];rcases hd with d | d
   · rw[d] at e;cases e
   · exact d
  · rw[g];intro e2;injection e2 with e2;omega
  · rw[g];intro e2;injection e2 with e2;omega
theorem zFt {v v0:Value} (h:v.ownBlock=none∨v.ownBlock≠v0.ownBlock):v0.ownBlock=none∨v0.ownBlock≠v.ownBlock:=by
 rcases h with h | h
 ·rw[h];cases v0.ownBlock<;>simp
 · exact .inr (Ne.symm h)
variable {w w1:World} {base:Nat} {eO eI:TypeId} {sz G n:Nat} {vs:Nat→Value} {L:Nat→List Value} {m:Nat→Nat}
theorem OwnLL.congr {L':Nat→List Value} {m':Nat→Nat} (h:OwnLL w base eO eI sz G n vs L m) (e:∀ i,i<n→L i=L' i) (e':∀ i,i<n→m i=m' i):OwnLL w base eO eI sz G n vs L' m' :=
 ⟨h.row,h.low,fun i hi=>by rw[← e i hi,← e' i hi];exact h.own i hi,h.dis⟩
theorem OwnLL.farB (h:OwnLL w base eO eI sz G n vs L m) {p:Addr} (hG:G≠p.block) (hp:∀ i,i<n→(vs i).ownBlock≠some p.block) (u:Value):OwnLL (w.setCell p u) base eO eI sz G n vs L m :=
 ⟨h.row.setOther hG u,h.low,fun i hi=>ownsRow_setCell_other (h.own i hi) (hp i hi) u,h.dis⟩
theorem OwnLL.store (h:OwnLL w base eO eI sz G n vs L m) {i g c:Nat} (hi:i<n) (hv:vs i=.slice (some ⟨g,0,none⟩) (m i) c) (j:Nat) (u:Value) :
 OwnLL (w.setCell ⟨g,j,none⟩ u) base eO eI sz G n vs (fun k=>if k=i then (L i).set j u else L k) m:=by
 have h1:=h.own i hi;rw[hv] at h1;obtain⟨h2,hg⟩:=h1.stored j u;have hob:(vs i).ownBlock=some g:=by rw[hv];rfl
 have hGg:G≠g:=by have:=((h.own i hi).lt g hob).1;have:=h.low;omega
 refine⟨h.row.setOther hGg u,h.low,fun k hk=>?_,h.dis⟩;by_cases e:k=i
 ·subst e;simp only[if_pos];rw[hv];exact h2
 ·simp only[if_neg e];refine (h.own k hk).kept hg ?_;rw[← hob];exact h.dis k i hk hi e
theorem OwnLL.rdl {r:Nat→List Int} (h:OwnLL w base eO eI 1 G n vs (fun i=>intRow (r i)) m) (hm:∀ i,i<n→m i≤big):RdL w w.heap.size (some ⟨G,0,none⟩) n ((wAn n).map r):=by
 refine⟨vs,fun hn=>⟨G,0,rfl,h.row.lt,fun i j hi hj=>?_⟩,fun i hi=>?_⟩
 ·obtain rfl:j=0:=by omega
  rw[Nat.zero_add,Nat.mul_one,Nat.add_zero];exact h.row.cell hi
 ·have e:((wAn n).map r).getD i []=r i:=by simp[wAD,hi]
  rw[e];exact zAZ (h.own i hi) (hm i hi)
end
open Go Go.RowKit
theorem OwnLL.put {w w1:World} {base:Nat} {eO eI:TypeId} {sz G n:Nat} {vs:Nat→Value} {L:Nat→List Value} {m:Nat→Nat} (h:OwnLL w base eO eI sz G n vs L m) (hb:base≤w.heap.size) (hbw:Below w.heap.size w w1) {i:Nat} {v':Value} {m':Nat} {xs':List Value} (hown:w1.ownsRow w.heap.size eI sz v' m' xs') :
 OwnLL (w1.setCell ⟨G,i,none⟩ v') base eO eI sz G n (fun j=>if j=i then v' else vs j) (fun j=>if j=i then xs' else L j) (fun j=>if j=i then m' else m j):=by
 have h1:=h.below hbw;have hset:∀ (v:Value) (k:Nat) (xs:List Value),w1.ownsRow base eI sz v k xs→(w1.setCell ⟨G,i,none⟩ v').ownsRow base eI sz v k xs:=fun v k xs hh=>ownsRow_setCell_below hh (a:=⟨G,i,none⟩) h.low v'
 have hnew:∀ j,j<n→(vs j).ownBlock=none∨(vs j).ownBlock≠v'.ownBlock:=fun j hj=>zMO (h.own j hj) hown (wAg _)
 refine⟨h1.row.set i v',h.low,fun j hj=>?_,fun j k hj hk hjk=>?_⟩
 ·by_cases e:j=i
  ·simp only[if_pos e];exact hset _ _ _ (zEl hown hb)
  ·simp only[if_neg e];exact hset _ _ _ (h1.own j hj)
 ·by_cases e:j=i
  ·by_cases e2:k=i
   · omega
   ·simp only[if_pos e,if_neg e2];exact zFt (hnew k hk)
  ·by_cases e2:k=i
   ·simp only[if_neg e,if_pos e2];exact hnew j hj
   ·simp only[if_neg e,if_neg e2];exact h.dis j k hj hk hjk
def slN (A:List Arc) (i s:Nat):List Nat:=((A.take i).filter fun a=>decide (a.i=0∧a.f=(s:Int))).map fun a=>a.t.toNat
theorem zPQ (A:List Arc) (s:Nat):slN A 0 s=[]:=by unfold slN;simp
theorem zHy {A:List Arc} {i:Nat} {a:Arc} (h:A[i]? = some a) (s:Nat):slN A (i+1) s=if a.i=0∧a.f=(s:Int) then slN A i s++[a.t.toNat] else slN A i s:=by
 unfold slN;rw[wAi,h];by_cases e:a.i=0∧a.f=(s:Int)
 · rw[if_pos e];simp[wAe,e.1,e.2]
 ·rw[if_neg e]
  have:(decide (a.i=0∧a.f=(s:Int)))=false:=decide_eq_false e
  simp[wAe,wAv,this];simpa using e
theorem slN_mem {A:List Arc} {s t:Nat} : t∈slN A A.length s↔∃ a∈A,a.i=0∧a.f=(s:Int)∧a.t.toNat=t:=by
 unfold slN;rw[wAo];simp only[wAk,wAb,decide_eq_true_eq,and_assoc]
theorem zM4 (A:List Arc) (i s:Nat):(slN A i s).length≤i:=by
 unfold slN;rw[wAl];refine wAu (wAf _ _) ?_;rw[wAs];omega
structure ClI (A:List Arc) (n s:Nat) (U:Nat→Bool) (T:List Nat):Prop where
 rng:∀ k∈T,k<n
 top:U s=true∨s∈T
 good:∀ k,k<n→(U k=true∨k∈T)→Near A (s:Int) (k:Int)
 step:∀ k,k<n→U k=true→∀ t∈slN A A.length k,U t=true∨t∈T
theorem ClI.start {A:List Arc} {n s:Nat} (hs:s<n):ClI A n s (fun _=>false) [s] where
 rng:=fun k hk=>by rw[wAa.1 hk];exact hs
 top:=.inr (wAa.2 rfl)
 good:=fun k _ h=>by
  rcases h with h | h
  · cases h
  · rw[wAa.1 h];exact .base
 step:=fun k _ h=>by cases h
theorem ClI.skip {A:List Arc} {n s k:Nat} {U:Nat→Bool} {T:List Nat} (h:ClI A n s U (T++[k])) (hU:U k=true):ClI A n s U T where
 rng:=fun j hj=>h.rng j (wAd _ hj)
 top:=by
  rcases h.top with g | g
  · exact .inl g
  ·rcases wAh.1 g with g | g
   · exact .inr g
   · rw[wAa.1 g];exact .inl hU
 good:=fun j hj g=>h.good j hj (g.imp id fun g=>wAd _ g)
 step:=fun j hj hu t ht=>by
  rcases h.step j hj hu t ht with g | g
  · exact .inl g
  ·rcases wAh.1 g with g | g
   · exact .inr g
   · rw[wAa.1 g];exact .inl hU
theorem ClI.take {A:List Arc} {n s k:Nat} {U:Nat→Bool} {T:List Nat} (hA:∀ a∈A,0≤a.t∧a.t<(n:Int)) (h:ClI A n s U (T++[k])):ClI A n s (upd U k) (T++slN A A.length k) where
 rng:=fun j hj=>by
  rcases wAh.1 hj with g | g
  · exact h.rng j (wAd _ g)
  ·obtain⟨a,ha,_,_,rfl⟩:=slN_mem.1 g
   have:=hA a ha;omega
 top:=by
  by_cases e:s=k
  · exact .inl (by unfold upd;rw[if_pos e])
  ·rcases h.top with g | g
   · exact .inl (by unfold upd;rw[if_neg e];exact g)
   ·rcases wAh.1 g with g | g
    · exact .inr (wAd _ g)
    · exact absurd (wAa.1 g) e
 good:=fun j hj g=>by
  have hk:Near A (s:Int) (k:Int):=h.good k (h.rng k (wAr _ (wAa.2 rfl))) (.inr (wAr _ (wAa.2 rfl)));rcases g with g | g
  ·by_cases e:j=k
   · rw[e];exact hk
   ·unfold upd at g;rw[if_neg e] at g;exact h.good j hj (.inl g)
  ·rcases wAh.1 g with g | g
   · exact h.good j hj (.inr (wAd _ g))
   ·obtain⟨a,ha,hi,hf,ht⟩:=slN_mem.1 g;have h0:=(hA a ha).1;rw[show (j:Int)=a.t by omega];exact .step (hf▸hk) ha hi
 step:=fun j hj hu t ht=>by
  by_cases e:j=k
  · subst e;exact .inr (wAr _ ht)
  ·unfold upd at hu;rw[if_neg e] at hu;rcases h.step j hj hu t ht with g | g
   ·refine .inl ?_;unfold upd;split
    · rfl
    · exact g
   ·rcases wAh.1 g with g | g
    · exact .inr (wAd _ g)
    ·refine .inl ?_;unfold upd;rw[if_pos (wAa.1 g)]
theorem ClI.all {A:List Arc} {n s:Nat} {U:Nat→Bool} (hA:∀ a∈A,0≤a.f∧a.f<(n:Int)∧0≤a.t∧a.t<(n:Int)) (hs:s<n) (h:ClI A n s U []):∀ k,k<n→(U k=true↔Near A (s:Int) (k:Int)):=fun k hk=>by
 constructor
 · exact fun g=>h.good k hk (.inl g)
 ·intro g
  have key:∀ t:Int,Near A (s:Int) t→U t.toNat=true:=fun t ht=>by
   induction ht with
   | base =>
    rcases h.top with g | g
    · simpa using g
    · cases g
   | @step a hn ha hi ih =>
    have hr:=hA a ha;rcases h.step a.f.toNat (by omega) ih a.t.toNat (slN_mem.2 ⟨a,ha,hi,by omega,rfl⟩) with g | g
    · exact g
    · cases g
  simpa using key _ g
def selN (U:Nat→Bool) (i:Nat):List Nat:=(wAn i).filter U
theorem zMU (U:Nat→Bool) (i:Nat):selN U (i+1)=selN U i++if U i=true then [i] else []:=by
 unfold selN;rw[wAW,wAe];congr 1;cases h:U i<;>simp[h]
theorem zOX (U:Nat→Bool) (i:Nat):(selN U i).length≤i:=by
 unfold selN;refine wAu (wAf _ _) ?_;rw[wAI];exact wAg _
open Classical in
noncomputable def nearN (A:List Arc) (n s:Nat):List Nat:=(wAn n).filter fun k:Nat=>decide (Near A (s:Int) (k:Int))
open Classical in
theorem nearN_mem {A:List Arc} {n s k:Nat} : k∈nearN A n s↔k<n∧Near A (s:Int) (k:Int):=by unfold nearN;rw[wAb,wAp,decide_eq_true_eq]
open Classical in
theorem zDX (A:List Arc) (n s:Nat):(nearN A n s).length≤n:=by
 unfold nearN;refine wAu (wAf _ _) ?_;rw[wAI];exact wAg _
open Classical in
theorem zNm {A:List Arc} {n s:Nat} {U:Nat→Bool} (h:∀ k,k<n→(U k=true↔Near A (s:Int) (k:Int))):selN U n=nearN A n s:=by
 unfold selN nearN;refine List.filter_congr fun k hk=>?_
 rw[wAz,decide_eq_true_eq];exact h k (wAp.1 hk)
/-! The example of the law: a table of three states. -/
def exL:List (List Int):=[[1],[-1],[1]]
def exF:List Bool:=[false,true,true]
def letM:Mach:=⟨2,[⟨0,1,97,97,0⟩],[⟨1,0⟩]⟩
theorem zQr:tblF [97] exL exF.length=(0,0):=by decide
theorem ex_ok:SmOk [97] exL exF.length:=(zD0 (by rw[zQr])).2.sm
theorem zSg:∀ s,s<exL.length→((fun _=>true:Nat→Bool) s=true↔∃ w,accS (tstp [97] (rowOf exL)) (finOf exF) s w):=fun s hs=>by
 refine⟨fun _=>?_,fun _=>rfl⟩;have hs:s<3:=hs;rcases (by omega:s=0∨s=1∨s=2) with rfl | rfl | rfl
 · exact⟨[97],1,by decide,rfl⟩
 · exact⟨[],rfl⟩
 · exact⟨[],rfl⟩
theorem zSq:(fun s=>cleanR (fun _=>true) (rowOf exL s))=rowOf exL:=by
 funext s;unfold cleanR
 have:(fun t:Int=>if 0≤t∧(fun _:Nat=>true) t.toNat=false then (-1:Int) else t)=id:=by funext t;simp
 rw[this,List.map_id]
theorem ex_smi:SmI [97] exL exF (fun _=>true) (fun s=>s) 3:=by
 refine⟨ex_ok,zSg,⟨by decide,rfl⟩,fun s hs=>hs,fun i hi=>⟨i,hi,rfl⟩,fun s t hs ht=>⟨fun e=>by subst e;exact fun w=>Iff.rfl,fun h=>?_⟩,wAg _⟩;rw[zSq] at h;have hs:s<3:=hs;have ht:t<3:=ht;have e1:=h [];have e2:=h [97];have f0:¬ accS (tstp [97] (rowOf exL)) (finOf exF) 0 []:=by intro h;cases h
 have f1:accS (tstp [97] (rowOf exL)) (finOf exF) 1 []:=rfl;have f2:accS (tstp [97] (rowOf exL)) (finOf exF) 2 []:=rfl
 have g1:¬ accS (tstp [97] (rowOf exL)) (finOf exF) 1 [97]:=by
  rintro⟨u,hu,_⟩
  have:tstp [97] (rowOf exL) 1=[]:=by decide
  rw[this] at hu;cases hu
 have g2:accS (tstp [97] (rowOf exL)) (finOf exF) 2 [97]:=⟨1,by decide,rfl⟩;rcases (by omega:s=0∨s=1∨s=2) with rfl | rfl | rfl<;>rcases (by omega:t=0∨t=1∨t=2) with rfl | rfl | rfl
 · rfl
 · exact absurd (e1.2 f1) f0
 · exact absurd (e1.2 f2) f0
 · exact absurd (e1.1 f1) f0
 · rfl
 · exact absurd (e2.2 g2) g1
 · exact absurd (e1.1 f2) f0
 · exact absurd (e2.1 g2) g1
 · rfl
theorem zLZ:canT [97] exL exF=letM:=by
 rw[← ex_smi.canT_eq];decide
def arN (A:List Arc) (i s:Nat):List Arc:=(A.take i).filter fun a=>decide (a.i≠0∧a.f=(s:Int))
theorem zOA (A:List Arc) (s:Nat):arN A 0 s=[]:=by unfold arN;simp
theorem zGM {A:List Arc} {i:Nat} {a:Arc} (h:A[i]? = some a) (s:Nat):arN A (i+1) s=if a.i≠0∧a.f=(s:Int) then arN A i s++[a] else arN A i s:=by
 unfold arN;rw[wAi,h];by_cases e:a.i≠0∧a.f=(s:Int)
 · rw[if_pos e];simp[wAe,e.1,e.2]
 ·rw[if_neg e]
  have:(decide (a.i≠0∧a.f=(s:Int)))=false:=decide_eq_false e
  rw[wAe];simp only[wAS,wAv,this,wAA,wAT,if_false,wAK]
theorem arN_mem {A:List Arc} {s:Nat} {a:Arc} : a∈arN A A.length s↔a∈A∧a.i≠0∧a.f=(s:Int):=by
 unfold arN;rw[wAo,wAb,decide_eq_true_eq]
theorem zFH (A:List Arc) (i s:Nat):(arN A i s).length≤i:=by
 unfold arN;refine wAu (wAf _ _) ?_;rw[wAs];omega
def fnB (F:List Fnl) (i:Nat):Nat→Bool:=fun s=>(F.take i).any fun x=>decide (x.s=(s:Int))
theorem zEZ (F:List Fnl):fnB F 0=fun _=>false:=by funext s;unfold fnB;simp
theorem zEK {F:List Fnl} {i:Nat} {x:Fnl} (h:F[i]? = some x) (h0:0≤x.s):upd (fnB F i) x.s.toNat=fnB F (i+1):=by
 funext s;unfold fnB upd;rw[wAi,h,wAL];by_cases e:s=x.s.toNat
 ·rw[if_pos e]
  have:decide (x.s=(s:Int))=true:=decide_eq_true (by omega)
  simp[this]
 ·rw[if_neg e]
  have:decide (x.s=(s:Int))=false:=decide_eq_false (by omega)
  simp[this]
theorem fnB_all {F:List Fnl} {s:Nat} : fnB F F.length s=true↔∃ x∈F,x.s=(s:Int):=by
 unfold fnB;rw[wAo,wAy];simp only[decide_eq_true_eq]
def ldB (A:List Arc) (F:List Fnl) (U:Nat→Bool) (s:Nat):Prop:=∃ k:Nat,Near A (s:Int) (k:Int)∧(fnB F F.length k=true∨∃ a∈arN A A.length k,U a.t.toNat=true)
def okU (A:List Arc) (F:List Fnl) (n:Nat) (U:Nat→Bool):Prop:=∀ s,s<n→U s=true→∃ w,accA A F (s:Int) w
theorem zMB {A:List Arc} {F:List Fnl} {n:Nat} : okU A F n (fun _=>false):=fun s _ h=>by cases h
theorem zOO {A:List Arc} {F:List Fnl} {n:Nat} {U:Nat→Bool} (hA:∀ a∈A,0≤a.t∧a.t<(n:Int)) (h:okU A F n U) {s:Nat} (hl:ldB A F U s):okU A F n (upd U s):=fun t ht g=>by
 unfold upd at g;split at g
 ·rename_i e
  subst e;obtain⟨k,hk,hf | ⟨a,ha,hu⟩⟩:=hl
  ·obtain⟨x,hx,hs⟩:=fnB_all.1 hf;exact⟨[],(k:Int),zC8 hk .nil,x,hx,hs⟩
  ·obtain⟨ha1,ha2,ha3⟩:=arN_mem.1 ha;have hr:=hA a ha1;obtain⟨w,u,hp,hx⟩:=h a.t.toNat (by omega) hu;rw[show ((a.t.toNat:Nat):Int)=a.t by omega] at hp;refine⟨a.i::w,u,zC8 hk ?_,hx⟩;rw[← ha3];exact .lab ha1 ha2 hp
 · exact h t ht g
theorem zQ3 {A:List Arc} {F:List Fnl} {n:Nat} {U:Nat→Bool} (hA:∀ a∈A,0≤a.f∧a.f<(n:Int)∧0≤a.t∧a.t<(n:Int)) (h:okU A F n U) (he:∀ s,s<n→U s=false→¬ ldB A F U s):∀ s,s<n→(U s=true↔∃ w,accA A F (s:Int) w):=by
 have rng:∀ {s t:Int},0≤s∧s<(n:Int)→Near A s t→0≤t∧t<(n:Int):=fun hs hn=>by
  induction hn with
  | base=>exact hs
  | @step a _ ha _ _=>have:=hA a ha;omega
 have key:∀ (w:List Int) (s:Nat),s<n→accA A F (s:Int) w→U s=true:=by
  intro w
  induction w with
  | nil =>
   rintro s hs ⟨t,hp,x,hx,ht⟩;cases hu:U s
   ·have hn:=zHm hp rfl;have hr:=rng ⟨by omega,by omega⟩ hn;exact absurd ⟨t.toNat,by rw[show ((t.toNat:Nat):Int)=t by omega];exact hn,.inl (fnB_all.2 ⟨x,hx,by omega⟩)⟩ (he s hs hu)
   · rfl
  | cons x w ih =>
   rintro s hs ⟨t,hp,y,hy,ht⟩;cases hu:U s
   ·obtain⟨a,ha,hn,hi,hi0,hp'⟩:=zEX hp rfl;have hr:=hA a ha;have h1:=ih a.t.toNat (by omega) ⟨t,by rw[show ((a.t.toNat:Nat):Int)=a.t by omega];exact hp',y,hy,ht⟩;exact absurd ⟨a.f.toNat,by rw[show ((a.f.toNat:Nat):Int)=a.f by omega];exact hn,.inr ⟨a,arN_mem.2 ⟨ha,hi0,by omega⟩,h1⟩⟩ (he s hs hu)
   · rfl
 exact fun s hs=>⟨fun g=>h s hs g,fun ⟨w,g⟩=>key w s hs g⟩
inductive TR (A:List Arc) (U:Nat→Bool):Nat→Prop
 | base:TR A U 0
 | step {s a} : TR A U s→a∈A→a.i≠0→Near A (s:Int) a.f→U a.t.toNat=true→TR A U a.t.toNat
def clsR (A:List Arc) (U H:Nat→Bool) (k:Nat):Prop:=∀ a∈A,a.i≠0→Near A (k:Int) a.f→U a.t.toNat=true→H a.t.toNat=true
theorem clsR.mono {A:List Arc} {U H:Nat→Bool} {k:Nat} (h:clsR A U H k) (t:Nat):clsR A U (upd H t) k:=fun a ha h1 h2 h3=>zE8 (h a ha h1 h2 h3)
structure RcI (A:List Arc) (U:Nat→Bool) (n:Nat) (H:Nat→Bool) (T:List Nat):Prop where
 rng:∀ k∈T,k<n
 top:H 0=true
 good:∀ k,k<n→H k=true→TR A U k
 here:∀ k∈T,H k=true
 step:∀ k,k<n→H k=true→k∈T∨clsR A U H k
structure RcJ (A:List Arc) (U:Nat→Bool) (n s:Nat) (V:List Arc) (H:Nat→Bool) (T:List Nat):Prop where
 rng:∀ k∈T,k<n
 top:H 0=true
 good:∀ k,k<n→H k=true→TR A U k
 here:∀ k∈T,H k=true
 step:∀ k,k<n→H k=true→k∈T∨k=s∨clsR A U H k
 self:s<n∧TR A U s
 seen:∀ a∈V,U a.t.toNat=true→H a.t.toNat=true
theorem RcI.start {A:List Arc} {U:Nat→Bool} {n:Nat} (hn:0<n):RcI A U n (upd (fun _=>false) 0) [0] where
 rng:=fun k hk=>by rw[wAa.1 hk];exact hn
 top:=zBI _ _
 good:=fun k _ h=>by
  unfold upd at h;split at h
  · rename_i e;rw[e];exact .base
  · cases h
 here:=fun k hk=>by rw[wAa.1 hk];exact zBI _ _
 step:=fun k _ h=>by
  unfold upd at h;split at h
  · rename_i e;exact .inl (wAa.2 e)
  · cases h
theorem RcI.pop {A:List Arc} {U:Nat→Bool} {n s:Nat} {H:Nat→Bool} {T:List Nat} (h:RcI A U n H (T++[s])):RcJ A U n s [] H T where
 rng:=fun k hk=>h.rng k (wAd _ hk)
 top:=h.top
 good:=h.good
 here:=fun k hk=>h.here k (wAd _ hk)
 step:=fun k hk hH=>by
  rcases h.step k hk hH with g | g
  ·rcases wAh.1 g with g | g
   · exact .inl g
   · exact .inr (.inl (wAa.1 g))
  · exact .inr (.inr g)
 self:=⟨h.rng s (by simp),h.good s (h.rng s (by simp)) (h.here s (by simp))⟩
 seen:=fun a ha=>by cases ha
theorem RcJ.skip {A:List Arc} {U:Nat→Bool} {n s:Nat} {V:List Arc} {H:Nat→Bool} {T:List Nat} (h:RcJ A U n s V H T) {a:Arc} (hs:U a.t.toNat=true→H a.t.toNat=true):RcJ A U n s (V++[a]) H T :=
 ⟨h.rng,h.top,h.good,h.here,h.step,h.self,fun b hb=>by
  rcases wAh.1 hb with g | g
  · exact h.seen b g
  · rw[wAa.1 g];exact hs⟩
theorem RcJ.push {A:List Arc} {U:Nat→Bool} {n s:Nat} {V:List Arc} {H:Nat→Bool} {T:List Nat} (h:RcJ A U n s V H T) (hA:inRange A n) {a:Arc} (ha:a∈A) (hi:a.i≠0) (hn:Near A (s:Int) a.f) (hu:U a.t.toNat=true):RcJ A U n s (V++[a]) (upd H a.t.toNat) (T++[a.t.toNat]) where
 rng:=fun k hk=>by
  rcases wAh.1 hk with g | g
  · exact h.rng k g
  · rw[wAa.1 g];have:=hA a ha;omega
 top:=zE8 h.top
 good:=fun k hk g=>by
  unfold upd at g;split at g
  · rename_i e;rw[e];exact .step h.self.2 ha hi hn hu
  · exact h.good k hk g
 here:=fun k hk=>by
  rcases wAh.1 hk with g | g
  · exact zE8 (h.here k g)
  · rw[wAa.1 g];exact zBI _ _
 step:=fun k hk g=>by
  unfold upd at g;split at g
  · rename_i e;exact .inl (wAr _ (wAa.2 e))
  ·rcases h.step k hk g with g | g | g
   · exact .inl (wAd _ g)
   · exact .inr (.inl g)
   · exact .inr (.inr (g.mono _))
 self:=h.self
 seen:=fun b hb g=>by
  rcases wAh.1 hb with e | e
  · exact zE8 (h.seen b e g)
  · rw[wAa.1 e];exact zBI _ _
theorem RcJ.all {A:List Arc} {U:Nat→Bool} {n s:Nat} {V:List Arc} {H:Nat→Bool} {T:List Nat} (h:RcJ A U n s V H T) (hV:∀ a∈A,a.i≠0→Near A (s:Int) a.f→a∈V):RcI A U n H T where
 rng:=h.rng
 top:=h.top
 good:=h.good
 here:=h.here
 step:=fun k hk g=>by
  rcases h.step k hk g with g | g | g
  · exact .inl g
  · subst g;exact .inr fun a ha h1 h2 h3=>h.seen a (hV a ha h1 h2) h3
  · exact .inr g
theorem RcI.all {A:List Arc} {U:Nat→Bool} {n:Nat} {H:Nat→Bool} (hA:inRange A n) (hn:0<n) (h:RcI A U n H []):∀ k,k<n→(H k=true↔TR A U k):=by
 have key:∀ k,TR A U k→k<n∧H k=true:=fun k hk=>by
  induction hk with
  | base=>exact⟨hn,h.top⟩
  | @step s a _ ha hi hnr hu ih =>
   have hr:=hA a ha;refine⟨by omega,?_⟩;rcases h.step s ih.1 ih.2 with g | g
   · cases g
   · exact g a ha hi hnr hu
 exact fun k hk=>⟨h.good k hk,fun g=>(key k g).2⟩
noncomputable def visL (A:List Arc) (n s j:Nat):List Arc:=((nearN A n s).take j).flatMap fun k=>arN A A.length k
theorem zFB (A:List Arc) (n s:Nat):visL A n s 0=[]:=by unfold visL;simp
theorem zE5 {A:List Arc} {n s j k:Nat} (h:(nearN A n s)[j]? = some k):visL A n s (j+1)=visL A n s j++arN A A.length k:=by
 unfold visL;rw[wAi,h,wAQ];simp
theorem zPl {A:List Arc} {n s j:Nat} {a:Arc} (h:a∈visL A n s j):a∈A∧a.i≠0∧Near A (s:Int) a.f:=by
 unfold visL at h;obtain⟨k,hk,ha⟩:=wAm.1 h;obtain⟨h1,h2,h3⟩:=arN_mem.1 ha;exact⟨h1,h2,by rw[h3];exact (nearN_mem.1 (List.mem_of_mem_take hk)).2⟩
theorem zG8 {A:List Arc} {n s:Nat} (hA:inRange A n) {a:Arc} : a∈visL A n s (nearN A n s).length↔a∈A∧a.i≠0∧Near A (s:Int) a.f:=by
 refine⟨zPl,fun ⟨h1,h2,h3⟩=>?_⟩;have hr:=hA a h1;unfold visL;rw[wAo];exact wAm.2 ⟨a.f.toNat,nearN_mem.2 ⟨by omega,by rw[show ((a.f.toNat:Nat):Int)=a.f by omega];exact h3⟩,arN_mem.2 ⟨h1,h2,by omega⟩⟩
theorem zEN (A:List Arc) (n s:Nat):∀ j,(visL A n s j).length≤j*A.length
 | 0=>by rw[zFB];simp
 | j+1=>by
  have ih:=zEN A n s j
  cases e:(nearN A n s)[j]? with
  | none =>
   have hl:(nearN A n s).length≤j:=wAJ.1 e
   have:visL A n s (j+1)=visL A n s j:=by unfold visL;rw[wAc hl,wAc (by omega)]
   rw[this,wAw];omega
  | some k =>
   rw[zE5 e,wAj,wAw]
   have:=zFH A A.length k
   omega
theorem zJe {A:List Arc} {U K:Nat→Bool} {n s:Nat} (hA:inRange A n) (hK:∀ k,k<n→(K k=true↔TR A U k)) (hs:s<n) (hk:K s=true) {a:Arc} (ha:a∈A) (hi:a.i≠0) (hn:Near A (s:Int) a.f) (hu:U a.t.toNat=true):K a.t.toNat=true:=by
 have hr:=hA a ha;exact (hK _ (by omega)).2 (.step ((hK s hs).1 hk) ha hi hn hu)
theorem zIx {A:List Arc} {U:Nat→Bool} (h0:U 0=true) {k:Nat} (h:TR A U k):U k=true:=by
 cases h with
 | base=>exact h0
 | step _ _ _ _ hu=>exact hu
def rowV (U K:Nat→Bool) (s:Nat) (V:List Arc):List Arc:=(V.filter fun a=>U a.t.toNat).map fun a=>⟨(cntK K s:Int),(cntK K a.t.toNat:Int),a.i,a.i,0⟩
theorem zNW (U K:Nat→Bool) (s:Nat) (V:List Arc) (a:Arc):rowV U K s (V++[a])=rowV U K s V++if U a.t.toNat=true then [⟨(cntK K s:Int),(cntK K a.t.toNat:Int),a.i,a.i,0⟩] else []:=by
 unfold rowV;rw[wAe,wAq];congr 1;cases h:U a.t.toNat<;>simp[h]
theorem zHc (U K:Nat→Bool) (s:Nat) (V:List Arc):(rowV U K s V).length≤V.length:=by
 unfold rowV;rw[wAl];exact wAf _ _
noncomputable def endB (A:List Arc) (F:List Fnl) (n s j:Nat):Bool:=((nearN A n s).take j).any (fnB F F.length)
theorem zNO (A:List Arc) (F:List Fnl) (n s:Nat):endB A F n s 0=false:=by unfold endB;simp
theorem zLK {A:List Arc} {F:List Fnl} {n s j k:Nat} (h:(nearN A n s)[j]? = some k):endB A F n s (j+1)=(endB A F n s j||fnB F F.length k):=by
 unfold endB;rw[wAi,h,wAL];simp
theorem zJK {A:List Arc} {F:List Fnl} {n s:Nat} (hF:∀ x∈F,0≤x.s∧x.s<(n:Int)):endB A F n s (nearN A n s).length=true↔∃ x∈F,Near A (s:Int) x.s:=by
 unfold endB;rw[wAo,wAy];constructor
 ·rintro⟨k,hk,hf⟩;obtain⟨x,hx,e⟩:=fnB_all.1 hf;exact⟨x,hx,by rw[e];exact (nearN_mem.1 hk).2⟩
 ·rintro⟨x,hx,hn⟩;have hr:=hF x hx;exact⟨x.s.toNat,nearN_mem.2 ⟨by omega,by rw[show ((x.s.toNat:Nat):Int)=x.s by omega];exact hn⟩,fnB_all.2 ⟨x,hx,by omega⟩⟩
noncomputable def silRow (A:List Arc) (n:Nat) (U K:Nat→Bool) (s:Nat):List Arc:=if K s=true then compact eqA (srtA (rowV U K s (visL A n s (nearN A n s).length))) else []
noncomputable def silG (A:List Arc) (n:Nat) (U K:Nat→Bool) (i:Nat):List Arc:=(wAn i).flatMap (silRow A n U K)
noncomputable def silE (A:List Arc) (F:List Fnl) (n:Nat) (K:Nat→Bool) (s:Nat):List Fnl:=if K s=true∧endB A F n s (nearN A n s).length=true then [⟨(cntK K s:Int),0⟩] else []
noncomputable def silH (A:List Arc) (F:List Fnl) (n:Nat) (K:Nat→Bool) (i:Nat):List Fnl:=(wAn i).flatMap (silE A F n K)
theorem zIp (A:List Arc) (n:Nat) (U K:Nat→Bool):silG A n U K 0=[]:=rfl
theorem zFp (A:List Arc) (n:Nat) (U K:Nat→Bool) (i:Nat):silG A n U K (i+1)=silG A n U K i++silRow A n U K i:=zAT _ _
theorem zIv (A:List Arc) (F:List Fnl) (n:Nat) (K:Nat→Bool):silH A F n K 0=[]:=rfl
theorem zFz (A:List Arc) (F:List Fnl) (n:Nat) (K:Nat→Bool) (i:Nat):silH A F n K (i+1)=silH A F n K i++silE A F n K i:=zAT _ _
theorem zJE (A:List Arc) (F:List Fnl) (n:Nat) (K:Nat→Bool):∀ i,(silH A F n K i).length≤i
 | 0=>by rw[zIv];exact wAg _
 | i+1=>by
  have ih:=zJE A F n K i;rw[zFz,wAj];unfold silE;split<;>simp<;>omega
theorem zNg (A:List Arc) (n:Nat) (U K:Nat→Bool) {i j:Nat} (h:i≤j):(silG A n U K i).length≤(silG A n U K j).length:=by
 induction j with
 | zero=>rw[show i=0 by omega];exact wAg _
 | succ j ih =>
  rcases Nat.lt_or_ge j i with g | g
  · rw[show i=j+1 by omega];exact wAg _
  ·have:=ih g
   rw[zFp,wAj];omega
theorem zEH (l:List Arc):(srtA l).length=l.length:=(zAR l).length_eq
open Classical in
noncomputable def usB (m:Mach) (s:Nat):Bool:=decide (∃ w,accA m.arcs m.fins (s:Int) w)
open Classical in
noncomputable def trB (m:Mach) (s:Nat):Bool:=decide (TR m.arcs (usB m) s)
theorem usB_iff {m:Mach} {s:Nat} : usB m s=true↔∃ w,accA m.arcs m.fins (s:Int) w:=by simp[usB]
theorem trB_iff {m:Mach} {s:Nat} : trB m s=true↔TR m.arcs (usB m) s:=by simp[trB]
noncomputable def silM (m:Mach):Mach:=if m.n=0∨usB m 0=false then emptyM else ⟨(cntK (trB m) m.n.toNat:Int),silG m.arcs m.n.toNat (usB m) (trB m) m.n.toNat,silH m.arcs m.fins m.n.toNat (trB m) m.n.toNat⟩
theorem zBr:∀ {l k:List Arc},l.Pairwise (fun a b=>arcLess a b=true)→k.Pairwise (fun a b=>arcLess a b=true)→(∀ x,x∈l↔x∈k)→l=k
 | [],[],_,_,_=>rfl
 | [],y::k,_,_,h=>absurd ((h y).2 wAt) (by simp)
 | x::l,[],_,_,h=>absurd ((h x).1 wAt) (by simp)
 | x::l,y::k,hl,hk,h=>by
  obtain⟨l1,l2⟩:=wAx.1 hl;obtain⟨k1,k2⟩:=wAx.1 hk
  have e:x=y:=by
   rcases wAG.1 ((h x).1 wAt) with e | e
   · exact e
   ·rcases wAG.1 ((h y).2 wAt) with g | g
    · exact g.symm
    ·have a1:=l1 y g;have a2:=zCE (k1 x e);rw[a1] at a2;cases a2
  subst e;rw[zBr l2 k2 fun z=>?_];constructor
  ·intro hz;rcases wAG.1 ((h z).1 (wAB _ hz)) with e | e
   · have:=l1 z hz;rw[e,zBg] at this;cases this
   · exact e
  ·intro hz;rcases wAG.1 ((h z).2 (wAB _ hz)) with e | e
   · have:=k1 z hz;rw[e,zBg] at this;cases this
   · exact e
theorem zD8 {A A':List Arc} {F:List Fnl} (h:∀ x,x∈A↔x∈A'):∀ (w:List Int) (s:Int),accE A F s w↔accE A' F s w
 | [],s=>Iff.rfl
 | x::w,s=>by
  constructor
  · rintro⟨a,ha,e1,e2,hw⟩;exact⟨a,(h a).1 ha,e1,e2,(zD8 h w _).1 hw⟩
  · rintro⟨a,ha,e1,e2,hw⟩;exact⟨a,(h a).2 ha,e1,e2,(zD8 h w _).2 hw⟩
noncomputable def silO (m:Mach):Mach:=⟨m.n,compact eqA (srtA (silA m)),silF m⟩
theorem mem_silO {m:Mach} {z:Arc} : z∈(silO m).arcs↔z∈silA m:=by
 show z∈compact eqA (srtA (silA m))↔_
 rw[zFY];exact (zAR _).mem_iff
theorem RS.arc {b:Bool} {l l':List Arc} {I:List Int} (h:∀ a,a∈l→a∈l') {s:Int} (hs:RS b l I s):RS b l' I s:=by
 induction hs with
 | base g=>exact .base g
 | step _ ha h1 h2 ih=>exact .step ih (h _ ha) h1 h2
section
variable {m:Mach} (hn0:0≤m.n) (hA:inRange m.arcs m.n.toNat) (hF:∀ x∈m.fins,0≤x.s∧x.s<(m.n.toNat:Int))
include hn0 hA in
theorem zD4 {z:Arc} (h:z∈silA m):0≤z.f∧z.f<m.n∧0≤z.t∧z.t<m.n:=by
 obtain⟨s,hs,a,ha,_,_,rfl⟩:=mem_silA.1 h
 have:=hA a ha
 dsimp only;omega
include hn0 hA in
theorem zFo (w:List Int) (s:Nat) (hs:s<m.n.toNat):accE (silO m).arcs (silO m).fins (s:Int) w↔accA m.arcs m.fins (s:Int) w:=by
 rw[zD8 (fun x=>mem_silO) w];exact zGL (fun a ha=>by have:=hA a ha;omega) w _ (by omega) (by omega)
theorem zQe {A:List Arc} {F:List Fnl} {s:Int} (h:RS true A (finStates F) s):∃ w,accE A F s w:=by
 induction h with
 | base h =>
  obtain⟨x,hx,e⟩:=wAk.1 h;exact⟨[],x,hx,e⟩
 | @step u v a _ ha h1 h2 ih =>
  obtain⟨w,hw⟩:=ih;have h1:a.t=u:=h1;have h2:a.f=v:=h2;exact⟨a.i::w,a,ha,h2,rfl,by rw[h1];exact hw⟩
include hn0 hA in
theorem us_rs {s:Nat} (hs:s<m.n.toNat):usB m s=true↔RS true (silO m).arcs (finStates (silO m).fins) (s:Int):=by
 rw[usB_iff];constructor
 ·rintro⟨w,h⟩;exact zEL w _ ((zFo hn0 hA w s hs).2 h)
 ·intro h;obtain⟨w,hw⟩:=zQe h;exact⟨w,(zFo hn0 hA w s hs).1 hw⟩
include hn0 hA in
theorem zGZ (h0:usB m 0=true) {s:Nat} (hs:s<m.n.toNat):keepK (silO m) s=trB m s:=by
 rw[wAz,keepK_iff,trB_iff]
 have hu:∀ {k:Nat},TR m.arcs (usB m) k→k<m.n.toNat∧RS false (silO m).arcs [0] (k:Int):=fun {k} hk=>by
  induction hk with
  | base=>exact⟨by omega,.base (by simp)⟩
  | @step s a _ ha hi hn hu ih =>
   have hr:=hA a ha;refine⟨by omega,?_⟩;exact .step (a:=⟨(s:Int),a.t,a.i,a.i,0⟩) ih.2 (mem_silO.2 (mem_silA.2 ⟨s,ih.1,a,ha,hi,hn,rfl⟩)) rfl (by show a.t=_;omega)
 constructor
 ·rintro⟨h1,h2⟩
  have key:∀ t:Int,RS false (silO m).arcs [0] t→0≤t∧t<m.n∧(RS true (silO m).arcs (finStates (silO m).fins) t→TR m.arcs (usB m) t.toNat):=fun t ht=>by
   induction ht with
   | base h=>rw[wAa.1 h];exact⟨by omega,by omega,fun _=>.base⟩
   | @step u v a hu ha e1 e2 ih =>
    have e1:a.f=u:=e1;have e2:a.t=v:=e2;have hr:=zD4 hn0 hA (mem_silO.1 ha);refine⟨by omega,by omega,fun hv=>?_⟩;have hus:usB m v.toNat=true:=(us_rs hn0 hA (by omega)).2 (by rw[show ((v.toNat:Nat):Int)=v by omega];exact hv);have ih':=ih.2.2 (.step (a:=a) hv ha e2 e1);obtain⟨k,hk,b,hb,hbi,hbn,rfl⟩:=mem_silA.1 (mem_silO.1 ha);have e1:(k:Int)=u:=e1;have e2:b.t=v:=e2;rw[show u.toNat=k by omega] at ih';rw[← e2] at hus ⊢;exact .step ih' hb hbi hbn hus
  have:=(key _ h1).2.2 h2
  simpa using this
 ·intro h;refine⟨(hu h).2,(us_rs hn0 hA hs).1 (zIx h0 h)⟩
include hn0 hA in
theorem zHW (hn:m.n≠0):keepK (silO m) 0=usB m 0:=by
 rw[wAz,keepK_iff];have h:=us_rs hn0 hA (s:=0) (by omega);rw[h];exact⟨fun g=>g.2,fun g=>⟨.base (by simp),g⟩⟩
theorem zFK {K:Nat→Bool} {l:List Arc} (hr:∀ a∈l,0≤a.f∧0≤a.t) (h:l.Pairwise (fun a b=>arcLess a b=true)):(partArcs K l).Pairwise (fun a b=>arcLess a b=true):=by
 unfold partArcs;refine List.pairwise_map.2 (List.Pairwise.imp_of_mem (fun {a b} ha hb hab=>?_) (h.filter _));obtain⟨ha,hka⟩:=wAb.1 ha;obtain⟨hb,hkb⟩:=wAb.1 hb;rw[wAV] at hka hkb;have ra:=hr a ha;have rb:=hr b hb;exact zHL (fun e=>zCx (by omega) hka.1 e) (fun e=>by show ((cntK K a.f.toNat:Nat):Int)=((cntK K b.f.toNat:Nat):Int);rw[e]) (fun e=>zCx (by omega) hka.2 e) (fun e=>by show ((cntK K a.t.toNat:Nat):Int)=((cntK K b.t.toNat:Nat):Int);rw[e]) hab
theorem zCy:(silO m).arcs.Pairwise (fun a b=>arcLess a b=true):=zDm (zBm _)
include hA in
theorem zBB {K:Nat→Bool} {s:Nat} {z:Arc} : z∈silRow m.arcs m.n.toNat (usB m) K s↔K s=true∧∃ a∈m.arcs,a.i≠0∧Near m.arcs (s:Int) a.f∧usB m a.t.toNat=true∧z=⟨(cntK K s:Int),(cntK K a.t.toNat:Int),a.i,a.i,0⟩:=by
 unfold silRow;by_cases hk:K s=true
 ·rw[if_pos hk,zFY,(zAR _).mem_iff];unfold rowV;constructor
  ·intro h;obtain⟨a,ha,rfl⟩:=wAk.1 h;obtain⟨h1,h2⟩:=wAb.1 ha;obtain⟨g1,g2,g3⟩:=(zG8 hA).1 h1;exact⟨hk,a,g1,g2,g3,h2,rfl⟩
  ·rintro⟨_,a,g1,g2,g3,h2,rfl⟩;exact wAk.2 ⟨a,wAb.2 ⟨(zG8 hA).2 ⟨g1,g2,g3⟩,h2⟩,rfl⟩
 ·rw[if_neg hk];exact⟨fun h=>(by cases h),fun h=>absurd h.1 hk⟩
include hA in
theorem zFk {K:Nat→Bool} : ∀ i,(silG m.arcs m.n.toNat (usB m) K i).Pairwise (fun a b=>arcLess a b=true)
 | 0=>by rw[zIp];exact .nil
 | i+1=>by
  rw[zFp];refine wAP.2 ⟨zFk i,?_,fun a ha b hb=>?_⟩
  ·unfold silRow;split
   · exact zDm (zBm _)
   · exact .nil
  ·obtain⟨s,hs,ha⟩:=wAm.1 (show a∈(wAn i).flatMap _ from ha);obtain⟨hk,_,_,_,_,_,rfl⟩:=(zBB hA).1 ha;obtain⟨_,_,_,_,_,_,rfl⟩:=(zBB hA).1 hb;have hlt:=zAo (K:=K) (wAp.1 hs) hk
   show lessL _ _=true
   unfold arcKey lessL;dsimp only;rw[if_neg (by omega)];exact decide_eq_true (by omega)
include hn0 hA in
theorem zNH (h0:usB m 0=true):silG m.arcs m.n.toNat (usB m) (trB m) m.n.toNat=partArcs (keepK (silO m)) (silO m).arcs:=by
 have hk:∀ {s:Nat},s<m.n.toNat→keepK (silO m) s=trB m s:=fun {s} hs=>zGZ hn0 hA h0 hs
 have hc:∀ {s:Nat},s≤m.n.toNat→cntK (keepK (silO m)) s=cntK (trB m) s:=fun {s} hs=>zBR s fun i hi=>hk (by omega)
 refine zBr (zFk hA _) (zFK (fun a ha=>by have:=zD4 hn0 hA (mem_silO.1 ha);omega) zCy) fun z=>?_
 constructor
 ·intro h;obtain⟨s,hs,hz⟩:=wAm.1 (show z∈(wAn _).flatMap _ from h);have hs:=wAp.1 hs;obtain⟨hks,a,ha,hi,hn,hu,rfl⟩:=(zBB hA).1 hz;have hr:=hA a ha;have hkt:trB m a.t.toNat=true:=zJe hA (fun k _=>trB_iff) hs hks ha hi hn hu;refine wAk.2 ⟨⟨(s:Int),a.t,a.i,a.i,0⟩,wAb.2 ⟨mem_silO.2 (mem_silA.2 ⟨s,hs,a,ha,hi,hn,rfl⟩),?_⟩,?_⟩
  ·show (keepK (silO m) ((s:Int)).toNat&&keepK (silO m) a.t.toNat)=true
   rw[show ((s:Int)).toNat=s by omega,hk hs,hk (by omega),hks,hkt];rfl
  ·unfold partArc
   show (⟨((cntK _ ((s:Int)).toNat:Nat):Int),((cntK _ a.t.toNat:Nat):Int),a.i,a.i,0⟩:Arc)=_
   rw[show ((s:Int)).toNat=s by omega,hc (by omega),hc (by omega)]
 ·intro h;obtain⟨y,hy,rfl⟩:=wAk.1 (show z∈List.map _ _ from h);obtain⟨h1,h2⟩:=wAb.1 hy;obtain⟨s,hs,a,ha,hi,hn,rfl⟩:=mem_silA.1 (mem_silO.1 h1);have hr:=hA a ha;have h2:(keepK (silO m) ((s:Int)).toNat&&keepK (silO m) a.t.toNat)=true:=h2;rw[show ((s:Int)).toNat=s by omega,hk hs,hk (by omega),wAV] at h2;refine wAm.2 ⟨s,wAp.2 hs,(zBB hA).2 ⟨h2.1,a,ha,hi,hn,zIx h0 (trB_iff.1 h2.2),?_⟩⟩;unfold partArc
  show (⟨((cntK _ ((s:Int)).toNat:Nat):Int),((cntK _ a.t.toNat:Nat):Int),a.i,a.i,0⟩:Arc)=_
  rw[show ((s:Int)).toNat=s by omega,hc (by omega),hc (by omega)]
include hn0 hA hF in
theorem zN4 (h0:usB m 0=true):silH m.arcs m.fins m.n.toNat (trB m) m.n.toNat=partFins (keepK (silO m)) (silO m).fins:=by
 have hk:∀ {s:Nat},s<m.n.toNat→keepK (silO m) s=trB m s:=fun {s} hs=>zGZ hn0 hA h0 hs
 have hc:∀ {s:Nat},s≤m.n.toNat→cntK (keepK (silO m)) s=cntK (trB m) s:=fun {s} hs=>zBR s fun i hi=>hk (by omega)
 have key:∀ i,i≤m.n.toNat→silH m.arcs m.fins m.n.toNat (trB m) i=partFins (keepK (silO m)) ((wAn i).flatMap fun s:Nat=>if endB m.arcs m.fins m.n.toNat s (nearN m.arcs m.n.toNat s).length=true then [⟨(s:Int),0⟩] else []):=by
  intro i
  induction i with
  | zero=>intro _;rfl
  | succ i ih =>
   intro hi;rw[zFz,zAT,ih (by omega)];(have happ:∀ (l k:List Fnl),partFins (keepK (silO m)) (l++k)=partFins (keepK (silO m)) l++partFins (keepK (silO m)) k:=fun l k=>by unfold partFins;rw[wAe,wAq]);rw[happ];congr 1;unfold silE;by_cases he:endB m.arcs m.fins m.n.toNat i (nearN m.arcs m.n.toNat i).length=true
   ·rw[if_pos he];unfold partFins partFin;by_cases hki:trB m i=true
    ·rw[if_pos ⟨hki,he⟩]
     have:keepK (silO m) ((i:Int)).toNat=true:=by rw[show ((i:Int)).toNat=i by omega,hk (by omega),hki]
     simp only[wAv,wAA];rw[if_pos this];simp only[wAZ,wA0];rw[show ((i:Int)).toNat=i by omega,hc (by omega)]
    ·rw[if_neg (fun g=>hki g.1)]
     have:¬ keepK (silO m) ((i:Int)).toNat=true:=by rw[show ((i:Int)).toNat=i by omega,hk (by omega)];exact hki
     simp only[wAv,wAA];rw[if_neg this];rfl
   · rw[if_neg he,if_neg (fun g=>he g.2)];rfl
 rw[key _ (wAg _)];congr 1
 show _=silF m
 unfold silF;refine zBG fun s hs=>?_
 by_cases e:∃ x∈m.fins,Near m.arcs (s:Int) x.s
 · rw[if_pos e,if_pos ((zJK hF).2 e)]
 · rw[if_neg e,if_neg (fun g=>e ((zJK hF).1 g))]
include hn0 hA hF in
theorem zBK:silM m=trimOf (silO m):=by
 unfold silM trimOf;by_cases hn:m.n=0
 · rw[if_pos (.inl hn),if_pos (.inl hn)]
 ·cases h0:usB m 0
  · rw[if_pos (.inr rfl),if_pos (.inr (by rw[zHW hn0 hA hn,h0]))]
  ·rw[if_neg (by rintro (g | g);exact hn g;cases g),if_neg (by rintro (g | g);exact hn g;rw[zHW hn0 hA hn,h0] at g;cases g)];unfold partM;rw[zNH hn0 hA h0,zN4 hn0 hA hF h0];congr 2;exact zBR _ fun i hi=>(zGZ hn0 hA h0 hi).symm
include hn0 hA hF in
theorem zNl (hn:m.n≠0) (w:List Int):accE (silM m).arcs (silM m).fins 0 w↔accA m.arcs m.fins 0 w:=by
 rw[zBK hn0 hA hF,zNE (m:=silO m) (fun a ha=>by have:=zD4 hn0 hA (mem_silO.1 ha);omega) (fun x hx=>by
  obtain⟨s,_,_,rfl⟩:=mem_silF.1 (show x∈silF m from hx)
  dsimp only;omega) hn]
 have:=zFo hn0 hA w 0 (by omega)
 simpa using this
end
theorem zEU {l k:List Int} (hl:l.Pairwise (· < ·)) (h:∀ x∈l,x∈k):l.length≤k.length:=by
 have:∀ {l k:List Int},l.Nodup→(∀ x∈l,x∈k)→l.length≤k.length:=by
  intro l
  induction l with
  | nil=>intros;exact Nat.zero_le _
  | cons x l ih =>
   intro k hn hs;obtain⟨h1,h2⟩:=wAX.1 hn;have hx:=hs x wAt;(have h3:=ih (k:=k.erase x) h2 fun y hy=>(List.mem_erase_of_ne (fun (e:y=x)=>h1 (e▸hy))).2 (hs y (wAB _ hy)));have h4:=List.length_erase_of_mem hx;have h5:=List.length_pos_of_mem hx;rw[List.length_cons];omega
 exact this (hl.imp fun h=>by omega) h
def arT (A:List Arc) (i s:Nat):List Arc:=(A.take i).filter fun a=>decide (a.f=(s:Int))
theorem zKo (A:List Arc) (s:Nat):arT A 0 s=[]:=by unfold arT;simp
theorem zJR {A:List Arc} {i:Nat} {a:Arc} (h:A[i]? = some a) (s:Nat):arT A (i+1) s=if a.f=(s:Int) then arT A i s++[a] else arT A i s:=by
 unfold arT;rw[wAi,h];by_cases e:a.f=(s:Int)
 · rw[if_pos e];simp[wAe,e]
 ·rw[if_neg e]
  have:(decide (a.f=(s:Int)))=false:=decide_eq_false e
  rw[wAe];simp only[wAS,wAv,this,wAA,wAT,if_false,wAK]
theorem arT_mem {A:List Arc} {s:Nat} {a:Arc} : a∈arT A A.length s↔a∈A∧a.f=(s:Int):=by
 unfold arT;rw[wAo,wAb,decide_eq_true_eq]
theorem zG7 (A:List Arc) (i s:Nat):(arT A i s).length≤i:=by
 unfold arT;refine wAu (wAf _ _) ?_;rw[wAs];omega
def visS (A:List Arc) (S:List Int) (j:Nat):List Arc:=(S.take j).flatMap fun s=>arT A A.length s.toNat
theorem zIA (A:List Arc) (S:List Int):visS A S 0=[]:=by unfold visS;simp
theorem zIG {A:List Arc} {S:List Int} {j:Nat} {s:Int} (h:S[j]? = some s):visS A S (j+1)=visS A S j++arT A A.length s.toNat:=by
 unfold visS;rw[wAi,h,wAQ];simp
theorem zE0 {A:List Arc} {S:List Int} (hS:∀ s∈S,0≤s) {a:Arc} : a∈visS A S S.length↔a∈A∧a.f∈S:=by
 unfold visS;rw[wAo];constructor
 ·intro h;obtain⟨s,hs,ha⟩:=wAm.1 h;obtain⟨h1,h2⟩:=arT_mem.1 ha
  have:=hS s hs
  exact⟨h1,by rw[show a.f=s by omega];exact hs⟩
 ·rintro⟨h1,h2⟩
  have:=hS _ h2
  exact wAm.2 ⟨a.f,h2,arT_mem.2 ⟨h1,by omega⟩⟩
theorem zJW {A:List Arc} {S:List Int} {j:Nat} {a:Arc} (h:a∈visS A S j):a∈A:=by
 obtain⟨s,_,ha⟩:=wAm.1 (show a∈(S.take j).flatMap _ from h);exact (arT_mem.1 ha).1
theorem zHw (A:List Arc) (S:List Int):∀ j,(visS A S j).length≤j*A.length
 | 0=>by rw[zIA];simp
 | j+1=>by
  have ih:=zHw A S j
  cases e:S[j]? with
  | none =>
   have hl:S.length≤j:=wAJ.1 e
   have:visS A S (j+1)=visS A S j:=by unfold visS;rw[wAc hl,wAc (by omega)]
   rw[this,wAw];omega
  | some s =>
   rw[zIG e,wAj,wAw]
   have:=zG7 A A.length s.toNat
   omega
def tgtV (V:List Arc) (x:Int):List Int:=(V.filter fun a=>decide (a.i=x)).map (·.t)
theorem zIM (V:List Arc) (a:Arc) (x:Int):tgtV (V++[a]) x=if a.i=x then tgtV V x++[a.t] else tgtV V x:=by
 unfold tgtV;rw[wAe,wAq];by_cases h:a.i=x
 · rw[if_pos h];simp[h]
 · rw[if_neg h];simp[h]
theorem zKr (V:List Arc) (x:Int):(tgtV V x).length≤V.length:=by unfold tgtV;rw[wAl];exact wAf _ _
theorem tgtV_mem {V:List Arc} {x t:Int} : t∈tgtV V x↔∃ a∈V,a.i=x∧a.t=t:=by
 unfold tgtV;rw[wAk];constructor
 ·rintro⟨a,ha,rfl⟩;obtain⟨h1,h2⟩:=wAb.1 ha;exact⟨a,h1,of_decide_eq_true h2,rfl⟩
 ·rintro⟨a,ha,hx,rfl⟩;exact⟨a,wAb.2 ⟨ha,decide_eq_true hx⟩,rfl⟩
def labV (V:List Arc):List Int:=V.foldl (fun l a=>addL l a.i) []
theorem zDU:labV []=[]:=rfl
theorem zFs (V:List Arc) (a:Arc):labV (V++[a])=addL (labV V) a.i:=by unfold labV;rw[List.foldl_append];rfl
theorem zHj {P:List Arc→List Int→Prop} (h0:P [] []) (h1:∀ V a l,P V l→P (V++[a]) (addL l a.i)) (V:List Arc):P V (labV V):=by
 have h:∀ (k p:List Arc) (s:List Int),P p s→P (p++k) (k.foldl (fun l a=>addL l a.i) s):=by
  intro k
  induction k with
  | nil=>intro p s hp;simpa using hp
  | cons a k ih =>
   intro p s hp
   have:=ih (p++[a]) _ (h1 p a s hp)
   rw[wAH] at this;exact this
 exact h V [] [] h0
theorem zEO (V:List Arc):∀ x,x∈labV V↔∃ a∈V,a.i=x:=zHj (P:=fun V l=>∀ x,x∈l↔∃ a∈V,a.i=x) (fun x=>by simp) (fun V a l h x=>by
 rw[addL_mem,h x];constructor
 ·rintro (⟨b,hb,e⟩ | e)
  · exact⟨b,wAd _ hb,e⟩
  · exact⟨a,by simp,e.symm⟩
 ·rintro⟨b,hb,e⟩;rcases wAh.1 hb with g | g
  · exact .inl ⟨b,g,e⟩
  · rw[wAa.1 g] at e;exact .inr e.symm) V
theorem zGj (V:List Arc):(labV V).Nodup:=zHj (P:=fun _ l=>l.Nodup) .nil (fun _ _ _ h=>zCl h) V
theorem zJ9 (V:List Arc):(labV V).length≤V.length:=zHj (P:=fun V l=>l.length≤V.length) (wAg _) (fun V a l h=>by
 unfold addL;rw[wAj];split
 · simp;omega
 · simp;omega) V
theorem zK3 {l:List Int} (h:l.Pairwise (· ≤ ·)) (hn:l.Nodup):l.Pairwise (· < ·):=by
 induction l with
 | nil=>exact .nil
 | cons a l ih =>
  obtain⟨h1,h2⟩:=wAx.1 h;obtain⟨n1,n2⟩:=wAX.1 hn;refine wAx.2 ⟨fun b hb=>?_,ih h2 n2⟩
  have:=h1 b hb
  have:a≠b:=fun e=>n1 (e▸hb)
  omega
theorem zOK {l k:List Int} (h:k.Pairwise (· ≤ ·)) (hp:k.Perm l) (hn:l.Nodup):k=setI l:=zA3 (zK3 h (hp.nodup_iff.2 hn)) (zAm l) fun x=>(hp.mem_iff).trans (zAB l x).symm
theorem zKk (l:List Int):(setI l).length≤l.length:=zEU (zAm l) fun x hx=>(zAB l x).1 hx
theorem zKv {A:List Arc} {S:List Int} (hS:∀ s∈S,0≤s):stpD A S=(setI (labV (visS A S S.length))).map fun x=>(x,setI (tgtV (visS A S S.length) x)):=by
 unfold stpD
 have e1:setI ((A.filter fun a=>decide (a.f∈S)).map (·.i))=setI (labV (visS A S S.length)):=by
  refine zA3 (zAm _) (zAm _) fun x=>?_
  rw[zAB,zAB,zEO,wAk];constructor
  ·rintro⟨a,ha,rfl⟩;obtain⟨h1,h2⟩:=wAb.1 ha;exact⟨a,(zE0 hS).2 ⟨h1,of_decide_eq_true h2⟩,rfl⟩
  ·rintro⟨a,ha,rfl⟩;obtain⟨h1,h2⟩:=(zE0 hS).1 ha;exact⟨a,wAb.2 ⟨h1,decide_eq_true h2⟩,rfl⟩
 rw[e1];refine List.map_congr_left fun x _=>?_
 congr 1;refine zA3 (zAm _) (zAm _) fun t=>?_
 rw[mem_tgt,zAB,tgtV_mem];constructor
 · rintro⟨a,h1,h2,h3,h4⟩;exact⟨a,(zE0 hS).2 ⟨h1,h2⟩,h3,h4⟩
 ·rintro⟨a,h1,h3,h4⟩;obtain⟨g1,g2⟩:=(zE0 hS).1 h1;exact⟨a,g1,g2,h3,h4⟩
def stpV (V:List Arc) (j:Nat):List (Int×List Int):=((setI (labV V)).take j).map fun x=>(x,setI (tgtV V x))
theorem zDE (V:List Arc):stpV V 0=[]:=by unfold stpV;simp
theorem zL4 {V:List Arc} {j:Nat} {x:Int} (h:(setI (labV V))[j]? = some x):stpV V (j+1)=stpV V j++[(x,setI (tgtV V x))]:=by
 unfold stpV;rw[wAi,h,wAq];rfl
theorem zKb {A:List Arc} {S:List Int} (hS:∀ s∈S,0≤s) {j:Nat} (hj:(setI (labV (visS A S S.length))).length≤j):stpV (visS A S S.length) j=stpD A S:=by
 rw[zKv hS];unfold stpV;rw[wAc hj]
theorem zPu (V:List Arc) {j:Nat} : ∃ q,stpV V (setI (labV V)).length=stpV V j++q:=by
 refine⟨((setI (labV V)).drop j).map fun x=>(x,setI (tgtV V x)),?_⟩;unfold stpV;rw[wAo,← wAq,List.take_append_drop]
def endS (F:List Fnl) (S:List Int) (j:Nat):Bool:=(S.take j).any fun s=>fnB F F.length s.toNat
theorem zMY (F:List Fnl) (S:List Int):endS F S 0=false:=by unfold endS;simp
theorem zNL {F:List Fnl} {S:List Int} {j:Nat} {s:Int} (h:S[j]? = some s):endS F S (j+1)=(endS F S j||fnB F F.length s.toNat):=by
 unfold endS;rw[wAi,h,wAL];simp
theorem zO3 {F:List Fnl} {S:List Int} (hS:∀ s∈S,0≤s) {j:Nat} (hj:S.length≤j):endS F S j=finD F S:=by
 rw[wAz];unfold endS finD;rw[wAc hj,wAy,wAy];constructor
 ·rintro⟨s,hs,hf⟩;obtain⟨x,hx,e⟩:=fnB_all.1 hf
  have:=hS s hs
  exact⟨x,hx,decide_eq_true (by rw[show x.s=s by omega];exact hs)⟩
 ·rintro⟨x,hx,hs⟩;have hs:=of_decide_eq_true hs
  have:=hS _ hs
  exact⟨x.s,hs,fnB_all.2 ⟨x,hx,by omega⟩⟩
def subsI:Nat→List (List Int)
 | 0=>[[]]
 | n+1=>subsI n++(subsI n).map (· ++ [(n:Int)])
theorem zCR:∀ n,(subsI n).length=2 ^ n
 | 0=>rfl
 | n+1=>by
  unfold subsI;rw[wAj,wAl,zCR n,Nat.pow_succ];omega
theorem zCM:∀ {n:Nat} {S:List Int},S.Pairwise (· < ·)→(∀ s∈S,0≤s∧s<(n:Int))→S∈subsI n
 | 0,S,_,h=>by
  cases S with
  | nil=>simp[subsI]
  | cons a S=>have:=h a (by simp);omega
 | n+1,S,hs,h=>by
  have hf:(S.filter fun s=>decide (s<(n:Int))).Pairwise (· < ·):=hs.filter _
  have ih:=zCM (n:=n) hf fun s hs=>by
   obtain⟨h1,h2⟩:=wAb.1 hs;exact⟨(h s h1).1,of_decide_eq_true h2⟩
  unfold subsI;by_cases hn:(n:Int)∈S
  ·refine wAr _ (wAk.2 ⟨_,ih,?_⟩);refine zA3 (wAP.2 ⟨hf,by simp,fun a ha b hb=>?_⟩) hs fun x=>?_
   · rw[wAa.1 hb];exact of_decide_eq_true (wAb.1 ha).2
   ·rw[wAh,wAa,wAb];constructor
    ·rintro (⟨g,_⟩ | g)
     · exact g
     · rw[g];exact hn
    ·intro g
     have:=h x g
     by_cases e:x=(n:Int)
     · exact .inr e
     · exact .inl ⟨g,decide_eq_true (by omega)⟩
  ·refine wAd _ ?_
   have e:(S.filter fun s=>decide (s<(n:Int)))=S:=List.filter_eq_self.2 fun s hs=>by
    have:=h s hs
    refine decide_eq_true ?_
    have:s≠(n:Int):=fun e=>hn (e▸hs)
    omega
   rw[e] at ih;exact ih
def okSet (n:Nat) (S:List Int):Prop:=S.Pairwise (· < ·)∧∀ s∈S,0≤s∧s<(n:Int)
theorem okSet.len {n:Nat} {S:List Int} (h:okSet n S):S.length≤n:=by
 have:=zEU (k:=(wAn n).map fun i:Nat=>(i:Int)) h.1 fun x hx=>wAk.2 ⟨x.toNat,wAp.2 (by have:=h.2 x hx;omega),by have:=h.2 x hx;omega⟩
 simpa using this
theorem zGs {n:Nat} (h:0<n):okSet n [0]:=⟨by simp,fun s hs=>by rw[wAa.1 hs];omega⟩
theorem zFJ {A:List Arc} {n:Nat} (hA:inRange A n) {V:List Arc} (hV:∀ a∈V,a∈A) (x:Int):okSet n (setI (tgtV V x)):=⟨zAm _,fun t ht=>by
 obtain⟨a,ha,_,rfl⟩:=tgtV_mem.1 ((zAB _ _).1 ht)
 have:=hA a (hV a ha);omega⟩
theorem zGu {A:List Arc} {n:Nat} (hA:inRange A n) {S:List Int} (hS:okSet n S):∀ e∈stpD A S,okSet n e.2:=by
 rintro⟨x,U⟩ he;rw[zKv (fun s hs=>(hS.2 s hs).1)] at he;obtain⟨y,hy,e⟩:=wAk.1 he;injection e with e1 e2
 dsimp only;rw[← e2];exact zFJ hA (fun a ha=>zJW ha) y
abbrev StD (m:Mach) (i:Nat):(List (List Int)×List Arc)×List Fnl:=StB (stpD m.arcs) (finD m.fins) [0] i
def fuD (m:Mach):Nat:=2 ^ m.n.toNat+401
def setM (m:Mach):Mach:=bfsM (stpD m.arcs) (finD m.fins) [0] (fuD m)
section
variable {m:Mach} {n:Nat} (hA:inRange m.arcs n) (hn:0<n)
include hA hn in
theorem zM3 (i:Nat):∀ S∈(StD m i).1.1,okSet n S:=zCV (P:=okSet n) (zGs hn) (fun S hS=>zGu hA hS) i
include hA hn in
theorem br_ok {S:List Int} (h:BR (stpD m.arcs) [0] S):okSet n S:=by
 induction h with
 | base=>exact zGs hn
 | @step S U x _ hx ih=>exact zGu hA ih (x,U) hx
omit hA hn in
theorem zQx:401≤fuD m:=Nat.le_add_left _ _
theorem zRH {i j:Nat} (hi:i<401) {S:List Int} (hS:(StD m i).1.1[i]? = some S) (h0:∀ s∈S,0≤s):((bfsRow i (stpV (visS m.arcs S S.length) j) (StD m i).1).1.length:Int)≤(setM m).n∧(bfsRow i (stpV (visS m.arcs S S.length) j) (StD m i).1).2.length≤(setM m).arcs.length:=by
 have h1:=zJa (stp:=stpD m.arcs) (fin:=finD m.fins) (s0:=[0]) (i:=i+1) (f:=fuD m) (by have:=zQx (m:=m);omega);rw[zB5 hS] at h1;obtain⟨q,hq⟩:=zPu (visS m.arcs S S.length) (j:=j);rw[zKb h0 (wAg _)] at hq;rw[hq,zBx] at h1;obtain⟨k,hk⟩:=zAS i q (bfsRow i (stpV (visS m.arcs S S.length) j) (StD m i).1);have hl:=zLd (i:=i) (p:=q) (st:=bfsRow i (stpV (visS m.arcs S S.length) j) (StD m i).1);have e1:=congrArg List.length hk;rw[wAj] at e1;have h1a:=h1.1;have h1b:=h1.2;dsimp only at h1a h1b;refine⟨Int.le_trans ?_ h1a,wAu ?_ h1b⟩
 ·have:(bfsRow i (stpV (visS m.arcs S S.length) j) (StD m i).1).1.length≤(bfsRow i q (bfsRow i (stpV (visS m.arcs S S.length) j) (StD m i).1)).1.length:=by omega
  exact Int.ofNat_le.2 this
 ·show _≤(bfsRow i q (bfsRow i (stpV (visS m.arcs S S.length) j) (StD m i).1)).2.length
  omega
theorem zNz {i:Nat} (h:(StD m i).1.1.length≤i) (hi:i≤401):setM m=⟨((StD m i).1.1.length:Int),(StD m i).1.2,(StD m i).2⟩:=zJg h (by have:=zQx (m:=m);omega)
end
def detR (m:Mach):Mach×(Int×Int):=limR (setM m)
end Gm
