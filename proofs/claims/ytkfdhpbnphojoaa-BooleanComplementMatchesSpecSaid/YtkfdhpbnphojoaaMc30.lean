/- Part of the proof. -/
import Derived.Test.YtkfdhpbnphojoaaMc25
import Derived.DeepKeys4
set_option linter.unusedSimpArgs false
set_option linter.unusedVariables false
set_option maxRecDepth 100000
set_option maxHeartbeats 8000000
open List renaming getElem?_eq_getElem→wAb,getD_eq_getElem?_getD→wAd,take_of_length_le→wAe,mem_cons_self→wAf,getElem?_map→wAh,getElem?_append_left→wAi,mem_of_getElem?→wAl,mem_cons_of_mem→wAm,take_add_one→wAo,all_eq_true→wAq,map_append→wAr,range→wAs,length_map→wAt,mem_range→wAv,take_zero→wAw,mem_map→wAx
open Nat renaming le_refl→wAa,zero_add→wAn,lt_or_ge→wAy
open Array renaming getD→wAj,getElem?_eq_none→wAk,replicate→wAu
open Bool renaming and_eq_true→wAp
open Gm.MachNew renaming empty→wAc
open Go.Region renaming ready→wAg
namespace Go.Proofs.Ytkfdhpbnphojoaa
open Go.RowKit Gm
theorem zLL (vl vn vf:Value) (l:List Int) (L:List (List Int)) (F:List Bool) (w:World) (B:Nat) (hB:B≤w.heap.size) (hl:Nums w B vl l) (hn:NumsL w B vn L) (hf:Bools w B vf F) :
 Calls Try.prog 89 #[vl,vn,vf] w fun e w'=>∃ v1,e=.returned (.tuple #[v1,.agg #[.int .i64 (leastR l L F).2.1,.int .i64 (leastR l L F).2.2]])∧MachNew w.heap.size w' v1 (leastR l L F).1∧Below w.heap.size w w':=by
 have HHL:=zh hl;have HHN:=zh hn;have HHF:=zh hf;obtain⟨AL,ql,cl,rfl,HQ,hqc,hqb,hL⟩:=hl;obtain⟨AN,n,cn,rfl,HN,hnc,hnb,hR⟩:=hn;obtain⟨AF,nf,cf,rfl,HF,hfc,hfb,hFF⟩:=hf;have HRL:=zh hL;have HRR:=zh (show RdL w B AN n L from hR);unfold big at hqb hnb hfb;clear hL hR hFF
 go_enter Try.func89,Try.ntmps89
 go_upto_region 1 with fail
 generalize hW2:World.alloc _ _=W2;have HRM2:=zh (show Blk W2 w.heap.size 25 #[.int .i64 0,.slice none 0 0,.slice none 0 0] by rw[← hW2];exact (Blk.at_ rfl).alloc _);obtain⟨R,hR⟩:∃ z,z=w.heap.size+1:=⟨_,rfl⟩;have HR2:=zh (show Blk W2 R 28 #[.int .i64 0,.int .i64 0] by rw[← hW2];exact Blk.at_ (by simp[hR]));have HB2:=zh (show Below w.heap.size w W2 by rw[← hW2];go_grown);have hwR:w.heap.size<R:=by omega
 have lM2:w.heap.size<W2.heap.size:=HRM2.o.lt;have HRL2:=zh (HRL.o.below HB2.o hB);have HRR2:=zh (HRR.o.below HB2.o hB);have lR2:R<W2.heap.size:=HR2.o.lt;simp only[← hR];clear hW2 hR HRL HRR;by_cases h3:300<ql
 ·have t1:decide ((ql:Int)>300)=true:=decide_eq_true (by omega);have t1':decide ((300:Int)<(ql:Int))=true:=decide_eq_true (by omega);have HR:=zh (show tblF l L F.length=(2,-1) from zIu (by rw[HQ.o];exact h3));have bR:=HR2.o;have bM:=HRM2.o;have HBE:=zh HB2.o;clear h3;go_wp2_with fail;refine (zAx _ _ _).mono ?_;rintro e w9 ⟨rfl,hb9⟩;have bR9:=bR.below hb9 lR2;have bM9:=bM.below hb9 lM2;have HB9:=zh (HBE.o.trans (hb9.mono (by omega)));have r0:=bR9.cell 0;have rf0:=bR9.frozen 0;have r1:=bR9.cell 1;have rf1:=bR9.frozen 1;have q0:=bM9.cell 0;have qf0:=bM9.frozen 0;have q1:=bM9.cell 1;have qf1:=bM9.frozen 1;have q2:=bM9.cell 2;have qf2:=bM9.frozen 2;simp at r0 r1 q0 q1 q2;have lR:=bR9.lt;have lM:=bM9.lt;have hne1:R≠w.heap.size:=by omega
  have hne2:w.heap.size≠R:=by omega
  clear hb9 bR9 bR HBE bM bM9;go_wp21;refine bodyPost_ret (v:=.tuple #[.agg #[.int .i64 0,.slice none 0 0,.slice none 0 0],.agg #[.int .i64 2,.int .i64 (-1)]]) (by simp[results,Try.results89,go_sem,lR,lM,hne1,hne2,r0,r1,rf0,rf1,q0,q1,q2,qf0,qf1,qf2]) rfl ?_;rw[zBc HR.o (by omega)];exact⟨_,rfl,wAc _ _,((((HB9.o.setCell (p:=⟨w.heap.size,0,none⟩) (by exact wAa _) (.int .i64 0)).setCell (p:=⟨w.heap.size,1,none⟩) (by exact wAa _) (.slice none 0 0)).setCell (p:=⟨w.heap.size,2,none⟩) (by exact wAa _) (.slice none 0 0)).setCell (p:=⟨R,0,none⟩) (by show w.heap.size≤R;omega) (.int .i64 2)).setCell (p:=⟨R,1,none⟩) (by show w.heap.size≤R;omega) (.int .i64 (-1))⟩
 ·have t1:decide (
   (ql:Int)>300)=false:=decide_eq_false (by omega)
  have t1':decide ((300:Int)<(ql:Int))=false:=decide_eq_false (by omega);have HL3:=zh (show ¬ 300<l.length by rw[HQ.o];exact h3);go_upto_region 4 with fail
  clear t1 t1'
  go_loopw [21] (fun iv wr=>∃ k:Nat,k≤ql∧iv=.int .i64 k∧wr=W2∧Hid (∀ j,j<k→labB l j=none)) (fun iv _=>ql-(intOf iv).toNat)
  case atStart=>exact⟨0,by omega,rfl,rfl,zh (fun j hj=>by omega)⟩
  case round =>
   obtain⟨k,hk,rfl,hwr,HALL⟩:=hrel;have HRK:=zh (show Rd wr B 1 AL ql (intCell l) by rw[hwr];exact HRL2.o);(have hzr:w.heap.size≤wr.heap.size:=by rw[hwr];exact HB2.o.size);have HWW:=zh hwr;clear hwr;by_cases hkn:k<ql
   ·obtain⟨bb,off,x,rfl,hbB,d0,HY⟩:=zAO HRK.o hkn;(have hkl:k<l.length:=by rw[HQ.o];exact hkn);(have lb:bb<wr.heap.size:=by omega);by_cases h1:x<1
    ·have s1:decide (x<1)=true:=decide_eq_true h1;have HR:=zh (show tblF l L F.length=(3,(k:Int)) from zG5 HL3.o hkl HALL.o (by unfold labB;rw[HY.o,if_pos (.inl h1)]));have bR:=HR2.o;have bM:=HRM2.o;have HBE:=zh HB2.o;have hww:W2=wr:=HWW.o.symm;rw[hww] at bR HBE lR2 bM lM2;clear hww;clear h1 hkl HY HALL;go_wp2_with fail;refine (zAx _ _ _).mono ?_;rintro e w9 ⟨rfl,hb9⟩;have bR9:=bR.below hb9 lR2;have bM9:=bM.below hb9 lM2;have HB9:=zh (HBE.o.trans (hb9.mono (by omega)));have r0:=bR9.cell 0;have rf0:=bR9.frozen 0;have r1:=bR9.cell 1;have rf1:=bR9.frozen 1;have q0:=bM9.cell 0;have qf0:=bM9.frozen 0;have q1:=bM9.cell 1;have qf1:=bM9.frozen 1;have q2:=bM9.cell 2;have qf2:=bM9.frozen 2;simp at r0 r1 q0 q1 q2;have lR:=bR9.lt;have lM:=bM9.lt;(have hne1:R≠w.heap.size:=by omega);(have hne2:w.heap.size≠R:=by omega);clear hb9 bR9 bR HBE bM bM9;go_wp21;refine bodyPost_ret (v:=.tuple #[.agg #[.int .i64 0,.slice none 0 0,.slice none 0 0],.agg #[.int .i64 3,.int .i64 (k:Int)]]) (by simp[results,Try.results89,go_sem,lR,lM,hne1,hne2,r0,r1,rf0,rf1,q0,q1,q2,qf0,qf1,qf2]) rfl ?_;rw[zBc HR.o (by omega)];exact⟨_,rfl,wAc _ _,((((HB9.o.setCell (p:=⟨w.heap.size,0,none⟩) (by exact wAa _) (.int .i64 0)).setCell (p:=⟨w.heap.size,1,none⟩) (by exact wAa _) (.slice none 0 0)).setCell (p:=⟨w.heap.size,2,none⟩) (by exact wAa _) (.slice none 0 0)).setCell (p:=⟨R,0,none⟩) (by show w.heap.size≤R;omega) (.int .i64 3)).setCell (p:=⟨R,1,none⟩) (by show w.heap.size≤R;omega) (.int .i64 (k:Int))⟩
    ·by_cases h2:1114111<x
     ·have s1:decide (x<1)=false:=decide_eq_false h1;have s2:decide (x>1114111)=true:=decide_eq_true (by omega);have s2':decide (1114111<x)=true:=decide_eq_true h2;have HR:=zh (show tblF l L F.length=(3,(k:Int)) from zG5 HL3.o hkl HALL.o (by unfold labB;rw[HY.o,if_pos (.inr h2)]));have bR:=HR2.o;have bM:=HRM2.o;have HBE:=zh HB2.o;have hww:W2=wr:=HWW.o.symm;rw[hww] at bR HBE lR2 bM lM2;clear hww;clear h1 h2 hkl HY HALL;go_wp2_with fail;refine (zAx _ _ _).mono ?_;rintro e w9 ⟨rfl,hb9⟩;have bR9:=bR.below hb9 lR2;have bM9:=bM.below hb9 lM2;have HB9:=zh (HBE.o.trans (hb9.mono (by omega)));have r0:=bR9.cell 0;have rf0:=bR9.frozen 0;have r1:=bR9.cell 1;have rf1:=bR9.frozen 1;have q0:=bM9.cell 0;have qf0:=bM9.frozen 0;have q1:=bM9.cell 1;have qf1:=bM9.frozen 1;have q2:=bM9.cell 2;have qf2:=bM9.frozen 2;simp at r0 r1 q0 q1 q2;have lR:=bR9.lt;have lM:=bM9.lt;(have hne1:R≠w.heap.size:=by omega);(have hne2:w.heap.size≠R:=by omega);clear hb9 bR9 bR HBE bM bM9;go_wp21;refine bodyPost_ret (v:=.tuple #[.agg #[.int .i64 0,.slice none 0 0,.slice none 0 0],.agg #[.int .i64 3,.int .i64 (k:Int)]]) (by simp[results,Try.results89,go_sem,lR,lM,hne1,hne2,r0,r1,rf0,rf1,q0,q1,q2,qf0,qf1,qf2]) rfl ?_;rw[zBc HR.o (by omega)];exact⟨_,rfl,wAc _ _,((((HB9.o.setCell (p:=⟨w.heap.size,0,none⟩) (by exact wAa _) (.int .i64 0)).setCell (p:=⟨w.heap.size,1,none⟩) (by exact wAa _) (.slice none 0 0)).setCell (p:=⟨w.heap.size,2,none⟩) (by exact wAa _) (.slice none 0 0)).setCell (p:=⟨R,0,none⟩) (by show w.heap.size≤R;omega) (.int .i64 3)).setCell (p:=⟨R,1,none⟩) (by show w.heap.size≤R;omega) (.int .i64 (k:Int))⟩
     ·have s1:decide (x<1)=false:=decide_eq_false h1;have s2:decide (x>1114111)=false:=decide_eq_false (by omega);have s2':decide (1114111<x)=false:=decide_eq_false h2;rcases Nat.eq_zero_or_pos k with hk0 | hk0
      ·have HNX:=zh (show ∀ j,j<k+1→labB l j=none from fun j hj=>by
        have:j=k:=by omega
        subst this;unfold labB
        rw[HY.o,if_neg (by omega),if_neg (by omega)])
       have s3:decide ((k:Int)>0)=false:=decide_eq_false (by omega);have s3':decide ((0:Int)<(k:Int))=false:=decide_eq_false (by omega);have hg:decide (0<k)=false:=decide_eq_false (by omega);have HK0:=zh hk0;clear h1 h2 hkl HY HALL hk0;go_wp2;go_roundw
       case rel=>exact⟨k+1,by omega,by go_num,HWW.o,HNX⟩
       case measure=>simp[intOf];omega
      ·obtain⟨j,rfl⟩:∃ j,k=j+1:=⟨k-1,by omega⟩;obtain⟨bb',off',y,hA',_,d1,HZ⟩:=zAO HRK.o (show j<ql by omega);simp only[Option.some.injEq,Addr.mk.injEq,and_true] at hA';obtain⟨rfl,rfl⟩:=hA';(have j0:(0:Int)≤(j:Int):=by omega);(have j1:(j:Int)<(ql:Int):=by omega);(have hsub:((j+1:Nat):Int)-1=(j:Int):=by omega);have s3:decide (((j+1:Nat):Int)>0)=true:=decide_eq_true (by omega);have s3':decide ((0:Int)<((j+1:Nat):Int))=true:=decide_eq_true (by omega);by_cases h4:x≤y
       ·have s4:decide (y≥x)=true:=decide_eq_true h4;have s4':decide (x≤y)=true:=decide_eq_true h4;have HR:=zh (show tblF l L F.length=(13,((j+1:Nat):Int)) from zG5 HL3.o hkl HALL.o (by unfold labB;rw[HY.o,if_neg (by omega),show j+1-1=j by omega,HZ.o,if_pos ⟨by omega,h4⟩]));have bR:=HR2.o;have bM:=HRM2.o;have HBE:=zh HB2.o;have hww:W2=wr:=HWW.o.symm;rw[hww] at bR HBE lR2 bM lM2;clear hww;clear h1 h2 h4 hkl HY HZ HALL;go_wp2_with fail;refine (zAx _ _ _).mono ?_;rintro e w9 ⟨rfl,hb9⟩;have bR9:=bR.below hb9 lR2;have bM9:=bM.below hb9 lM2;have HB9:=zh (HBE.o.trans (hb9.mono (by omega)));have r0:=bR9.cell 0;have rf0:=bR9.frozen 0;have r1:=bR9.cell 1;have rf1:=bR9.frozen 1;have q0:=bM9.cell 0;have qf0:=bM9.frozen 0;have q1:=bM9.cell 1;have qf1:=bM9.frozen 1;have q2:=bM9.cell 2;have qf2:=bM9.frozen 2;simp at r0 r1 q0 q1 q2;have lR:=bR9.lt;have lM:=bM9.lt;(have hne1:R≠w.heap.size:=by omega);(have hne2:w.heap.size≠R:=by omega);clear hb9 bR9 bR HBE bM bM9;go_wp21;refine bodyPost_ret (v:=.tuple #[.agg #[.int .i64 0,.slice none 0 0,.slice none 0 0],.agg #[.int .i64 13,.int .i64 ((j+1:Nat):Int)]]) (by simp[results,Try.results89,go_sem,lR,lM,hne1,hne2,r0,r1,rf0,rf1,q0,q1,q2,qf0,qf1,qf2]) rfl ?_;rw[zBc HR.o (by omega)];exact⟨_,rfl,wAc _ _,((((HB9.o.setCell (p:=⟨w.heap.size,0,none⟩) (by exact wAa _) (.int .i64 0)).setCell (p:=⟨w.heap.size,1,none⟩) (by exact wAa _) (.slice none 0 0)).setCell (p:=⟨w.heap.size,2,none⟩) (by exact wAa _) (.slice none 0 0)).setCell (p:=⟨R,0,none⟩) (by show w.heap.size≤R;omega) (.int .i64 13)).setCell (p:=⟨R,1,none⟩) (by show w.heap.size≤R;omega) (.int .i64 ((j+1:Nat):Int))⟩
       ·have s4:decide (y≥x)=false:=decide_eq_false h4;have s4':decide (x≤y)=false:=decide_eq_false h4
        have HNX:=zh (show ∀ i,i<j+1+1→labB l i=none from fun i hi=>by
         by_cases g:i=j+1
         ·subst g;unfold labB;rw[HY.o,if_neg (by omega),show j+1-1=j by omega,HZ.o,if_neg (by omega)]
         · exact HALL.o i (by omega))
        clear h1 h2 h4 hkl HY HZ HALL;go_wp2;go_roundw
        case rel=>exact⟨j+1+1,by omega,by go_num,HWW.o,HNX⟩
        case measure=>simp[intOf];omega
   ·(obtain rfl:ql=k:=by omega);have HLB:=zh (show ∀ j,j<l.length→labB l j=none from fun j hj=>HALL.o j (by rw[← HQ.o];exact hj));have hww:wr=W2:=HWW.o;subst hww;clear HALL HRK HWW;by_cases hn2:20000<n
    ·have t2:decide ((n:Int)>20000)=true:=decide_eq_true (by omega);have t2':decide ((20000:Int)<(n:Int))=true:=decide_eq_true (by omega);have HR:=zh (show tblF l L F.length=(2,-2) from zIt HL3.o HLB.o (by rw[HN.o];exact hn2));have bR:=HR2.o;have bM:=HRM2.o;have HBE:=zh HB2.o;clear hn2;go_wp2_with fail;refine (zAx _ _ _).mono ?_;rintro e w9 ⟨rfl,hb9⟩;have bR9:=bR.below hb9 lR2;have bM9:=bM.below hb9 lM2;have HB9:=zh (HBE.o.trans (hb9.mono (by omega)));have r0:=bR9.cell 0;have rf0:=bR9.frozen 0;have r1:=bR9.cell 1;have rf1:=bR9.frozen 1;have q0:=bM9.cell 0;have qf0:=bM9.frozen 0;have q1:=bM9.cell 1;have qf1:=bM9.frozen 1;have q2:=bM9.cell 2;have qf2:=bM9.frozen 2;simp at r0 r1 q0 q1 q2;have lR:=bR9.lt;have lM:=bM9.lt;(have hne1:R≠w.heap.size:=by omega);(have hne2:w.heap.size≠R:=by omega);clear hb9 bR9 bR HBE bM bM9;go_wp21;refine bodyPost_ret (v:=.tuple #[.agg #[.int .i64 0,.slice none 0 0,.slice none 0 0],.agg #[.int .i64 2,.int .i64 (-2)]]) (by simp[results,Try.results89,go_sem,lR,lM,hne1,hne2,r0,r1,rf0,rf1,q0,q1,q2,qf0,qf1,qf2]) rfl ?_;rw[zBc HR.o (by omega)];exact⟨_,rfl,wAc _ _,((((HB9.o.setCell (p:=⟨w.heap.size,0,none⟩) (by exact wAa _) (.int .i64 0)).setCell (p:=⟨w.heap.size,1,none⟩) (by exact wAa _) (.slice none 0 0)).setCell (p:=⟨w.heap.size,2,none⟩) (by exact wAa _) (.slice none 0 0)).setCell (p:=⟨R,0,none⟩) (by show w.heap.size≤R;omega) (.int .i64 2)).setCell (p:=⟨R,1,none⟩) (by show w.heap.size≤R;omega) (.int .i64 (-2))⟩
    ·have t2:decide ((n:Int)>20000)=false:=decide_eq_false (by omega);have t2':decide ((20000:Int)<(n:Int))=false:=decide_eq_false (by omega);have HN2:=zh (show ¬ 20000<L.length by rw[HN.o];exact hn2);obtain⟨W2,hW2⟩:∃ z,z=wr:=⟨_,rfl⟩;rw[← hW2] at HR2 HB2 HRL2 HRR2 lR2 lM2 HRM2 ⊢;clear hW2;(go_upto_region 14 with fail);clear t2 t2'
     go_loopw [57] (fun iv wr=>∃ i:Nat,i≤n∧iv=.int .i64 i∧wr=W2∧Hid (∀ j,j<i→rowB l.length L.length L j=none)) (fun iv _=>n-(intOf iv).toNat)
     case atStart=>exact⟨0,by omega,rfl,rfl,zh (fun j hj=>by omega)⟩
     case round =>
      obtain⟨i,hi,rfl,hwr,HALL⟩:=hrel;have HRK:=zh (show RdL wr B AN n L by rw[hwr];exact HRR2.o);(have hzr:w.heap.size≤wr.heap.size:=by rw[hwr];exact HB2.o.size);have HWW:=zh hwr;clear hwr;by_cases hin:i<n
      ·obtain⟨b1,o1,A1,n1,c1,rw1,rfl,hb1,d1,HR1,HL1,hc1,hn1b,hrd1⟩:=zEo HRK.o hin;(have hil:i<L.length:=by rw[HN.o];exact hin);(have lb1:b1<wr.heap.size:=by omega);have HRD1:=zh hrd1;unfold big at hn1b;clear hrd1;by_cases hlen:n1=ql
       ·have HLN:=zh hlen;(have t3:((n1:Int) != (ql:Int))=false:=by simp;omega);(have t3':((n1:Int)==(ql:Int))=true:=by simp;omega);subst hlen;obtain⟨W3,hW3⟩:∃ z,z=wr:=⟨_,rfl⟩;rw[← hW3] at HRK hzr HWW lb1 HRD1 d1 ⊢;clear hW3;(go_upto_region 19 with fail);clear t3 t3' d1
        go_loopw [72] (fun jv wr=>∃ j:Nat,j≤n1∧jv=.int .i64 j∧wr=W3∧Hid (∀ t∈rw1.take j,-1≤t∧t<(n:Int))) (fun jv _=>n1-(intOf jv).toNat)
        case atStart=>exact⟨0,by omega,rfl,rfl,zh (fun t ht=>by simp at ht)⟩
        case round =>
         obtain⟨j,hj,rfl,hwr,HT⟩:=hrel;have HRD2:=zh (show Rd wr B 1 A1 n1 (intCell rw1) by rw[hwr];exact HRD1.o);(have hzr2:w.heap.size≤wr.heap.size:=by rw[hwr];exact hzr);have HW3:=zh hwr;clear hwr;by_cases hjn:j<n1
         ·obtain⟨b2,o2,t,rfl,hb2,d2,HY⟩:=zAO HRD2.o hjn;(have hjl:j<rw1.length:=by rw[HL1.o];exact hjn);(have lb2:b2<wr.heap.size:=by omega);have HTK:=zh (zDD hjl HY.o);(have hmem:t∈rw1:=by rw[← HY.o];simp[List.getD,hjl]);by_cases h1:t < -1
          ·have s1:decide (t < -1)=true:=decide_eq_true h1
           have HR:=zh (show tblF l L F.length=(3,(i:Int)) from zGA HL3.o HLB.o HN2.o hil HALL.o (by
            unfold rowB
            rw[HR1.o,if_neg (by rw[HL1.o,HQ.o];simp),if_neg (fun h=>by have:=(h t hmem).1;omega)]))
           have HWW:=zh (HW3.o.trans HWW.o);have bR:=HR2.o;have bM:=HRM2.o;have HBE:=zh HB2.o;have hww:W2=wr:=HWW.o.symm;rw[hww] at bR HBE lR2 bM lM2;clear hww;clear h1 hjl HY HALL HT HTK hmem HW3 hil;go_wp2_with fail;refine (zAx _ _ _).mono ?_;rintro e w9 ⟨rfl,hb9⟩;have bR9:=bR.below hb9 lR2;have bM9:=bM.below hb9 lM2;have HB9:=zh (HBE.o.trans (hb9.mono (by omega)));have r0:=bR9.cell 0;have rf0:=bR9.frozen 0;have r1:=bR9.cell 1;have rf1:=bR9.frozen 1;have q0:=bM9.cell 0;have qf0:=bM9.frozen 0;have q1:=bM9.cell 1;have qf1:=bM9.frozen 1;have q2:=bM9.cell 2;have qf2:=bM9.frozen 2;simp at r0 r1 q0 q1 q2;have lR:=bR9.lt;have lM:=bM9.lt;(have hne1:R≠w.heap.size:=by omega);(have hne2:w.heap.size≠R:=by omega);clear hb9 bR9 bR HBE bM bM9;go_wp21;refine bodyPost_ret (v:=.tuple #[.agg #[.int .i64 0,.slice none 0 0,.slice none 0 0],.agg #[.int .i64 3,.int .i64 (i:Int)]]) (by simp[results,Try.results89,go_sem,lR,lM,hne1,hne2,r0,r1,rf0,rf1,q0,q1,q2,qf0,qf1,qf2]) rfl ?_;rw[zBc HR.o (by omega)];exact⟨_,rfl,wAc _ _,((((HB9.o.setCell (p:=⟨w.heap.size,0,none⟩) (by exact wAa _) (.int .i64 0)).setCell (p:=⟨w.heap.size,1,none⟩) (by exact wAa _) (.slice none 0 0)).setCell (p:=⟨w.heap.size,2,none⟩) (by exact wAa _) (.slice none 0 0)).setCell (p:=⟨R,0,none⟩) (by show w.heap.size≤R;omega) (.int .i64 3)).setCell (p:=⟨R,1,none⟩) (by show w.heap.size≤R;omega) (.int .i64 (i:Int))⟩
          ·by_cases h2:(n:Int)≤t
           ·have s1:decide (t < -1)=false:=decide_eq_false h1;have s2:decide (t≥(n:Int))=true:=decide_eq_true h2;have s2':decide ((n:Int)≤t)=true:=decide_eq_true h2
            have HR:=zh (show tblF l L F.length=(3,(i:Int)) from zGA HL3.o HLB.o HN2.o hil HALL.o (by
             unfold rowB
             rw[HR1.o,if_neg (by rw[HL1.o,HQ.o];simp),if_neg (fun h=>by have:=(h t hmem).2;rw[HN.o] at this;omega)]))
            have HWW:=zh (HW3.o.trans HWW.o);have bR:=HR2.o;have bM:=HRM2.o;have HBE:=zh HB2.o;have hww:W2=wr:=HWW.o.symm;rw[hww] at bR HBE lR2 bM lM2;clear hww;clear h1 h2 hjl HY HALL HT HTK hmem HW3 hil;go_wp2_with fail;refine (zAx _ _ _).mono ?_;rintro e w9 ⟨rfl,hb9⟩;have bR9:=bR.below hb9 lR2;have bM9:=bM.below hb9 lM2;have HB9:=zh (HBE.o.trans (hb9.mono (by omega)));have r0:=bR9.cell 0;have rf0:=bR9.frozen 0;have r1:=bR9.cell 1;have rf1:=bR9.frozen 1;have q0:=bM9.cell 0;have qf0:=bM9.frozen 0;have q1:=bM9.cell 1;have qf1:=bM9.frozen 1;have q2:=bM9.cell 2;have qf2:=bM9.frozen 2;simp at r0 r1 q0 q1 q2;have lR:=bR9.lt;have lM:=bM9.lt;(have hne1:R≠w.heap.size:=by omega);(have hne2:w.heap.size≠R:=by omega);clear hb9 bR9 bR HBE bM bM9;go_wp21;refine bodyPost_ret (v:=.tuple #[.agg #[.int .i64 0,.slice none 0 0,.slice none 0 0],.agg #[.int .i64 3,.int .i64 (i:Int)]]) (by simp[results,Try.results89,go_sem,lR,lM,hne1,hne2,r0,r1,rf0,rf1,q0,q1,q2,qf0,qf1,qf2]) rfl ?_;rw[zBc HR.o (by omega)];exact⟨_,rfl,wAc _ _,((((HB9.o.setCell (p:=⟨w.heap.size,0,none⟩) (by exact wAa _) (.int .i64 0)).setCell (p:=⟨w.heap.size,1,none⟩) (by exact wAa _) (.slice none 0 0)).setCell (p:=⟨w.heap.size,2,none⟩) (by exact wAa _) (.slice none 0 0)).setCell (p:=⟨R,0,none⟩) (by show w.heap.size≤R;omega) (.int .i64 3)).setCell (p:=⟨R,1,none⟩) (by show w.heap.size≤R;omega) (.int .i64 (i:Int))⟩
           ·have s1:decide (t < -1)=false:=decide_eq_false h1;have s2:decide (t≥(n:Int))=false:=decide_eq_false h2;have s2':decide ((n:Int)≤t)=false:=decide_eq_false h2
            have HTN:=zh (show ∀ z∈rw1.take (j+1),-1≤z∧z<(n:Int) from fun z hz=>by
             rw[HTK.o] at hz;rcases List.mem_append.1 hz with hz | hz
             · exact HT.o z hz
             · rw[List.mem_singleton.1 hz];omega)
            clear h1 h2 hjl HY HT HTK hmem;go_wp2;go_roundw
            case rel=>exact⟨j+1,by omega,by go_num,HW3.o,HTN⟩
            case measure=>simp[intOf];omega
         ·obtain rfl:n1=j:=by omega
          have HNX:=zh (show ∀ j,j<i+1→rowB l.length L.length L j=none from fun j hj=>by
           by_cases g:j=i
           ·subst g;unfold rowB;rw[HR1.o,if_neg (by rw[HL1.o,HQ.o];simp),if_pos];intro z hz;rw[HN.o];exact HT.o z (by rw[wAe (by rw[HL1.o];exact wAa _)];exact hz)
           · exact HALL.o j (by omega))
          clear HALL HT hil;go_wp2;go_roundw
          case rel=>exact⟨i+1,by omega,by go_num,HW3.o.trans HWW.o,HNX⟩
          case measure=>simp[intOf];omega
       ·(have t3:((n1:Int) != (ql:Int))=true:=by simp;omega);have t3':((n1:Int)==(ql:Int))=false:=by simp;omega
        have HR:=zh (show tblF l L F.length=(9,(i:Int)) from zGA HL3.o HLB.o HN2.o hil HALL.o (by
         unfold rowB
         rw[HR1.o,if_pos (by rw[HL1.o,HQ.o];exact hlen)]))
        have bR:=HR2.o;have bM:=HRM2.o;have HBE:=zh HB2.o;have hww:W2=wr:=HWW.o.symm;rw[hww] at bR HBE lR2 bM lM2;clear hww;clear hlen hil HALL;go_wp2_with fail;refine (zAx _ _ _).mono ?_;rintro e w9 ⟨rfl,hb9⟩;have bR9:=bR.below hb9 lR2;have bM9:=bM.below hb9 lM2;have HB9:=zh (HBE.o.trans (hb9.mono (by omega)));have r0:=bR9.cell 0;have rf0:=bR9.frozen 0;have r1:=bR9.cell 1;have rf1:=bR9.frozen 1;have q0:=bM9.cell 0;have qf0:=bM9.frozen 0;have q1:=bM9.cell 1;have qf1:=bM9.frozen 1;have q2:=bM9.cell 2;have qf2:=bM9.frozen 2;simp at r0 r1 q0 q1 q2;have lR:=bR9.lt;have lM:=bM9.lt;(have hne1:R≠w.heap.size:=by omega);(have hne2:w.heap.size≠R:=by omega);clear hb9 bR9 bR HBE bM bM9;go_wp21;refine bodyPost_ret (v:=.tuple #[.agg #[.int .i64 0,.slice none 0 0,.slice none 0 0],.agg #[.int .i64 9,.int .i64 (i:Int)]]) (by simp[results,Try.results89,go_sem,lR,lM,hne1,hne2,r0,r1,rf0,rf1,q0,q1,q2,qf0,qf1,qf2]) rfl ?_;rw[zBc HR.o (by omega)];exact⟨_,rfl,wAc _ _,((((HB9.o.setCell (p:=⟨w.heap.size,0,none⟩) (by exact wAa _) (.int .i64 0)).setCell (p:=⟨w.heap.size,1,none⟩) (by exact wAa _) (.slice none 0 0)).setCell (p:=⟨w.heap.size,2,none⟩) (by exact wAa _) (.slice none 0 0)).setCell (p:=⟨R,0,none⟩) (by show w.heap.size≤R;omega) (.int .i64 9)).setCell (p:=⟨R,1,none⟩) (by show w.heap.size≤R;omega) (.int .i64 (i:Int))⟩
      ·(obtain rfl:n=i:=by omega);have HRB:=zh (show ∀ j,j<L.length→rowB l.length L.length L j=none from fun j hj=>HALL.o j (by rw[← HN.o];exact hj));clear HALL HRK;by_cases hfn:nf=n
       ·have HR:=zh (show tblF l L F.length=(0,0) by rw[zET HL3.o HLB.o HN2.o HRB.o,if_neg (by rw[HF.o,HN.o];omega)]);(have t4:((nf:Int) != (n:Int))=false:=by simp;omega);(have t4':((nf:Int)==(n:Int))=true:=by simp;omega);have bR:=HR2.o;have HBE:=zh HB2.o;have HLE:=HWW.o;rw[← HLE] at bR HBE lR2;clear hfn;have bM:=HRM2.o;rw[← HLE] at bM lM2;have HSO:=zh (zD0 (by rw[HR.o])).2.sm;have HHL3:=zh (HHL.o.below HBE.o hB);have HHN3:=zh (HHN.o.below HBE.o hB);have HHF3:=zh (HHF.o.below HBE.o hB);(have hB3:B≤wr.heap.size:=by omega);clear HLE HWW;go_wp2_with fail;refine (zEn _ _ _ l L F _ B hB3 HHL3.o HHN3.o HHF3.o HSO.o).mono ?_;rintro e w9 ⟨v1,rfl,hnew,hb9⟩;obtain⟨A9,AF9,n9,c9,nf9,cf9,rfl,_⟩:=hnew.at_;have bR9:=bR.below hb9 lR2;have bM9:=bM.below hb9 lM2;have HB9:=zh (HBE.o.trans (hb9.mono hzr));have r0:=bR9.cell 0;have r1:=bR9.cell 1;have rf0:=bR9.frozen 0;have rf1:=bR9.frozen 1;have q0:=bM9.cell 0;have q1:=bM9.cell 1;have q2:=bM9.cell 2;have qf0:=bM9.frozen 0;have qf1:=bM9.frozen 1;have qf2:=bM9.frozen 2;simp at r0 r1 q0 q1 q2;have lR:=bR9.lt;have lM:=bM9.lt;(have hne1:R≠w.heap.size:=by omega);(have hne2:w.heap.size≠R:=by omega);obtain⟨g9,hg9⟩:∃ z,z=(limR (canT l L F)).1.n:=⟨_,rfl⟩;obtain⟨f1,hf1⟩:∃ z,z=(limR (canT l L F)).2.1:=⟨_,rfl⟩;obtain⟨f2,hf2⟩:∃ z,z=(limR (canT l L F)).2.2:=⟨_,rfl⟩;rw[← hg9] at hnew;simp only[← hg9,← hf1,← hf2];have HF1:=zh hf1;have HF2:=zh hf2;have HNW:=zh (((((hnew.set (p:=⟨w.heap.size,0,none⟩) (by show w.heap.size<wr.heap.size;omega) (.int .i64 g9)).set (p:=⟨w.heap.size,1,none⟩) (by show w.heap.size<wr.heap.size;omega) (.slice A9 n9 c9)).set (p:=⟨w.heap.size,2,none⟩) (by show w.heap.size<wr.heap.size;omega) (.slice AF9 nf9 cf9)).set (p:=⟨R,0,none⟩) (by show R<wr.heap.size;omega) (.int .i64 f1)).set (p:=⟨R,1,none⟩) (by show R<wr.heap.size;omega) (.int .i64 f2));have HB10:=zh (((((HB9.o.setCell (p:=⟨w.heap.size,0,none⟩) (by exact wAa _) (.int .i64 g9)).setCell (p:=⟨w.heap.size,1,none⟩) (by exact wAa _) (.slice A9 n9 c9)).setCell (p:=⟨w.heap.size,2,none⟩) (by exact wAa _) (.slice AF9 nf9 cf9)).setCell (p:=⟨R,0,none⟩) (by show w.heap.size≤R;omega) (.int .i64 f1)).setCell (p:=⟨R,1,none⟩) (by show w.heap.size≤R;omega) (.int .i64 f2));clear hb9 hnew bR9 bM9 bR bM HBE hg9 hf1 hf2 HB9;go_wp21;refine bodyPost_ret (v:=.tuple #[.agg #[.int .i64 g9,.slice A9 n9 c9,.slice AF9 nf9 cf9],.agg #[.int .i64 f1,.int .i64 f2]]) (by simp[results,Try.results89,go_sem,lR,lM,hne1,hne2,r0,r1,rf0,rf1,q0,q1,q2,qf0,qf1,qf2]) rfl ?_;rw[zDR HR.o,← HF1.o,← HF2.o];exact⟨_,rfl,HNW.o.mono hzr,HB10.o⟩
       ·have HR:=zh (show tblF l L F.length=(9,-3) by rw[zET HL3.o HLB.o HN2.o HRB.o,if_pos (by rw[HF.o,HN.o];exact hfn)]);(have t4:((nf:Int) != (n:Int))=true:=by simp;omega);(have t4':((nf:Int)==(n:Int))=false:=by simp;omega);have bR:=HR2.o;have bM:=HRM2.o;have HBE:=zh HB2.o;have hww:W2=wr:=HWW.o.symm;rw[hww] at bR HBE lR2 bM lM2;clear hww;clear hfn;go_wp2_with fail;refine (zAx _ _ _).mono ?_;rintro e w9 ⟨rfl,hb9⟩;have bR9:=bR.below hb9 lR2;have bM9:=bM.below hb9 lM2;have HB9:=zh (HBE.o.trans (hb9.mono (by omega)));have r0:=bR9.cell 0;have rf0:=bR9.frozen 0;have r1:=bR9.cell 1;have rf1:=bR9.frozen 1;have q0:=bM9.cell 0;have qf0:=bM9.frozen 0;have q1:=bM9.cell 1;have qf1:=bM9.frozen 1;have q2:=bM9.cell 2;have qf2:=bM9.frozen 2;simp at r0 r1 q0 q1 q2;have lR:=bR9.lt;have lM:=bM9.lt;(have hne1:R≠w.heap.size:=by omega);(have hne2:w.heap.size≠R:=by omega);clear hb9 bR9 bR HBE bM bM9;go_wp21;refine bodyPost_ret (v:=.tuple #[.agg #[.int .i64 0,.slice none 0 0,.slice none 0 0],.agg #[.int .i64 9,.int .i64 (-3)]]) (by simp[results,Try.results89,go_sem,lR,lM,hne1,hne2,r0,r1,rf0,rf1,q0,q1,q2,qf0,qf1,qf2]) rfl ?_;rw[zBc HR.o (by omega)];exact⟨_,rfl,wAc _ _,((((HB9.o.setCell (p:=⟨w.heap.size,0,none⟩) (by exact wAa _) (.int .i64 0)).setCell (p:=⟨w.heap.size,1,none⟩) (by exact wAa _) (.slice none 0 0)).setCell (p:=⟨w.heap.size,2,none⟩) (by exact wAa _) (.slice none 0 0)).setCell (p:=⟨R,0,none⟩) (by show w.heap.size≤R;omega) (.int .i64 9)).setCell (p:=⟨R,1,none⟩) (by show w.heap.size≤R;omega) (.int .i64 (-3))⟩
end Go.Proofs.Ytkfdhpbnphojoaa
namespace Gm
structure DmOk (t:Mach) (S:Nat):Prop where
 n:t.n=(S:Int)
 n4:S≤400
 len:t.arcs.length≤2000
 flen:t.fins.length≤400
 rng:inRange t.arcs S
 frng:∀ x∈t.fins,0≤x.s∧x.s<(S:Int)
 det:DetA t.arcs
 lab:∀ a∈t.arcs,0<a.i∧a.i≤1114111
theorem zC6:DmOk emptyM 0:=⟨rfl,by omega,by decide,by decide,(fun a ha=>by cases ha),(fun x hx=>by cases hx),(fun a ha=>by cases ha),(fun a ha=>by cases ha)⟩
theorem zAW {m:Mach} (h:(detW m).2=(0,0)):∃ S,DmOk (detW m).1 S:=by
 obtain⟨_,⟨e,_⟩ | ⟨N,_,_,_,K,hK,hB⟩⟩:=zBe h
 · rw[e];exact⟨0,zC6⟩
 · exact⟨K,hK.n,hK.n4,hK.len,hK.flen,hK.rng,hK.frng,hB.det,hK.lab⟩
def nxI (t:Mach) (s x:Int):Int:=if 0≤s then afterL t.arcs s.toNat x else -1
def acI (t:Mach) (s:Int):Bool:=decide (0≤s)&&(decide (s<t.n)&&fnB t.fins t.fins.length s.toNat)
def acR (t:Mach):Int→List Int→Bool
 | s,[]=>acI t s
 | s,x::w=>acR t (nxI t s x) w
def s0I (t:Mach):Int:=if 0<t.n then 0 else -1
section
variable {t:Mach} {S:Nat}
theorem zCc (h:DmOk t S) (s x:Int) : -1≤nxI t s x∧nxI t s x<(S:Int)∨nxI t s x = -1:=by
 unfold nxI;split
 · exact zCr h.rng _ _
 · exact .inr rfl
theorem zEk:∀ (w:List Int),acR t (-1) w=false
 | []=>by unfold acR acI;rfl
 | x::w=>by
  unfold acR
  have:nxI t (-1) x = -1:=by unfold nxI;rw[if_neg (by omega)]
  rw[this];exact zEk w
theorem zEG (h:DmOk t S):∀ (w:List Int) (s:Nat),s<S→(acR t (s:Int) w=true↔langM t s w)
 | [],s,hs=>by
  show acI t (s:Int)=true↔finM' t s=true
  unfold acI;rw[← zHx,h.n];simp;intro _;omega
 | x::w,s,hs=>by
  show acR t (nxI t (s:Int) x) w=true↔∃ u,(x,u)∈tstp (lsM t) (rowM t) s∧langM t u w
  unfold rowM;have h0:∀ a∈t.arcs,0≤a.t:=fun a ha=>(h.rng a ha).2.2.1
  have e:nxI t (s:Int) x=afterL t.arcs s x:=by unfold nxI;rw[if_pos (by omega)];simp
  constructor
  ·intro hw;by_cases hn:0≤afterL t.arcs s x
   ·have hr:=zCc h (s:Int) x;rw[e] at hr hw;(have e2:afterL t.arcs s x=(((afterL t.arcs s x).toNat:Nat):Int):=by omega);rw[e2] at hw;obtain⟨a,ha,g1,g2,g3⟩:=(zDh h.det h0 (u:=(afterL t.arcs s x).toNat)).1 ⟨hn,rfl⟩;refine⟨(afterL t.arcs s x).toNat,(zB9 h.det h0).2 ⟨(zAy _ _).2 ⟨by rw[← g2];have:=(h.lab a ha).1;omega,a,ha,g2⟩,a,ha,g1,g2,g3⟩,(zEG h w _ (by omega)).1 hw⟩
   ·have e3:afterL t.arcs s x = -1:=by
     rcases zCc h (s:Int) x with g | g<;>(rw[e] at g;omega)
    rw[e,e3,zEk] at hw;cases hw
  ·rintro⟨u,hu,hw⟩;obtain⟨_,a,ha,g1,g2,g3⟩:=(zB9 h.det h0).1 hu;obtain⟨k1,k2⟩:=(zDh h.det h0 (u:=u)).2 ⟨a,ha,g1,g2,g3⟩;have hr:=h.rng a ha;rw[e,show afterL t.arcs s x=(u:Int) by omega];exact (zEG h w u (by omega)).2 hw
theorem zIg (h:DmOk t S) (w:List Int):acR t (s0I t) w=true↔langM t 0 w:=by
 unfold s0I;by_cases hn:0<t.n
 ·rw[if_pos hn];exact zEG h w 0 (by have:=h.n;omega)
 ·rw[if_neg hn,zEk];have hS:S=0:=by have:=h.n;omega
  constructor
  · intro g;cases g
  ·intro g;exfalso
   have hA:t.arcs=[]:=by
    cases e:t.arcs with
    | nil=>rfl
    | cons a l=>have:=h.rng a (by rw[e];exact wAf);omega
   have hF:t.fins=[]:=by
    cases e:t.fins with
    | nil=>rfl
    | cons a l=>have:=h.frng a (by rw[e];exact wAf);omega
   have g':=(zC9 h.det (fun a ha=>(h.rng a ha).2.2.1) (fun a ha=>by have:=(h.lab a ha).1;omega) w 0).1 g;rw[hA,hF] at g';exact zJV _ w g'
end
def stpC (a b:Mach) (l:List Int) (c:Int×Int):List (Int×(Int×Int)):=l.map fun x=>(x,(nxI a c.1 x,nxI b c.2 x))
def stpCk (a b:Mach) (l:List Int) (c:Int×Int) (k:Nat):List (Int×(Int×Int)):=(l.take k).map fun x=>(x,(nxI a c.1 x,nxI b c.2 x))
theorem zGv (a b:Mach) (l:List Int) (c:Int×Int):stpCk a b l c 0=[]:=by unfold stpCk;simp
theorem zGc {a b:Mach} {l:List Int} {c:Int×Int} {k:Nat} {x:Int} (h:l[k]? = some x):stpCk a b l c (k+1)=stpCk a b l c k++[(x,(nxI a c.1 x,nxI b c.2 x))]:=by
 unfold stpCk;rw[wAo,h,wAr];rfl
theorem zNT {a b:Mach} {l:List Int} {c:Int×Int} {k:Nat} (h:l.length≤k):stpCk a b l c k=stpC a b l c:=by unfold stpCk stpC;rw[wAe h]
abbrev StC (a b:Mach) (l:List Int) (i:Nat):(List (Int×Int)×List Arc)×List Fnl:=StB (stpC a b l) (fun _=>false) (s0I a,s0I b) i
def LsC (a b:Mach) (l:List Int) (i:Nat):List (Int×Int):=(StC a b l i).1.1
def cpC (a b:Mach) (l:List Int) (i:Nat):Int×Int:=(LsC a b l i).getD i (-1,-1)
def rowC (a b:Mach) (l:List Int) (i:Nat):List Int:=l.map fun x=>(((LsC a b l (i+1)).idxOf (nxI a (cpC a b l i).1 x,nxI b (cpC a b l i).2 x):Nat):Int)
def finC (a b:Mach) (l:List Int) (K:Bool→Bool→Bool) (i:Nat):Bool:=K (acI a (cpC a b l i).1) (acI b (cpC a b l i).2)
def rowsC (a b:Mach) (l:List Int) (i:Nat):List (List Int):=(wAs i).map (rowC a b l)
def finsC (a b:Mach) (l:List Int) (K:Bool→Bool→Bool) (i:Nat):List Bool:=(wAs i).map (finC a b l K)
section
variable {a b:Mach} {l:List Int}
theorem zGP {i:Nat} (h:i<(LsC a b l i).length):LsC a b l (i+1)=(bfsRow i (stpC a b l (cpC a b l i)) (StC a b l i).1).1:=by
 have hc:(StC a b l i).1.1[i]? = some (cpC a b l i):=by
  unfold cpC;rw[wAd,wAb h];exact wAb h
 unfold LsC;rw[show StC a b l (i+1)=StB (stpC a b l) (fun _=>false) (s0I a,s0I b) (i+1) from rfl,zB5 hc]
theorem zD9 {i j:Nat} (h:i≤j):∃ k,LsC a b l j=LsC a b l i++k:=by
 obtain⟨d,rfl⟩:∃ d,j=i+d:=⟨j-i,by omega⟩;unfold LsC
 induction d with
 | zero=>exact⟨[],by simp⟩
 | succ d ih =>
  obtain⟨k,hk⟩:=ih (by omega)
  show ∃ k,(bfsGo _ _ (i+d+1) 0 _ _).1.1=_
  rw[zBb];obtain⟨k2,A,e,_⟩:=zFn (stp:=stpC a b l) (fin:=fun _=>false) 1 (0+(i+d)) (StC a b l (i+d)).1 (StC a b l (i+d)).2;refine⟨k++k2,?_⟩;rw[← List.append_assoc,← hk];exact e
theorem zQg {i j:Nat} (hi:i<(LsC a b l i).length) (h:i≤j):(LsC a b l j)[i]? = some (cpC a b l i):=by
 obtain⟨k,e⟩:=zD9 (a:=a) (b:=b) (l:=l) h;rw[e,wAi hi];unfold cpC;rw[wAd,wAb hi];rfl
theorem zKe {i:Nat} (h:i<(LsC a b l i).length) {x:Int} (hx:x∈l):(nxI a (cpC a b l i).1 x,nxI b (cpC a b l i).2 x)∈LsC a b l (i+1):=by
 rw[zGP h];exact (zDk i _ _ _).2 (.inr ⟨x,wAx.2 ⟨x,hx,rfl⟩⟩)
theorem zGl {K:Bool→Bool→Bool} {I:Nat} (hI:(LsC a b l I).length=I) (hs:l.Pairwise (· < ·)):∀ (w:List Int) (i:Nat),i<I→(accS (tstp l (rowOf (rowsC a b l I))) (finOf (finsC a b l K I)) i w↔(∀ x∈w,x∈l)∧K (acR a (cpC a b l i).1 w) (acR b (cpC a b l i).2 w)=true):=by
 have hlt:∀ i,i<I→i<(LsC a b l i).length:=by
  intro i hi;apply Decidable.byContradiction;intro g;have e:=zA8 (stp:=stpC a b l) (fin:=fun _=>false) (i:=0+i) (st:=(StC a b l i).1) (F:=(StC a b l i).2) (by unfold LsC at g;omega)
  have e2:(StC a b l I).1.1=(StC a b l i).1.1:=by
   obtain⟨d,rfl⟩:∃ d,I=i+d:=⟨I-i,by omega⟩;clear hI hi
   induction d with
   | zero=>rfl
   | succ d ih =>
    show (bfsGo _ _ (i+d+1) 0 _ _).1.1=_
    rw[zBb];have e3:=zA8 (stp:=stpC a b l) (fin:=fun _=>false) (i:=0+(i+d)) (st:=(StC a b l (i+d)).1) (F:=(StC a b l (i+d)).2) (by rw[ih];unfold LsC at g;omega) 1
    show (bfsGo _ _ 1 (0+(i+d)) (StC a b l (i+d)).1 (StC a b l (i+d)).2).1.1=_
    rw[e3];exact ih
  unfold LsC at hI g;rw[e2] at hI;omega
 intro w
 induction w with
 | nil =>
  intro i hi
  show finOf (finsC a b l K I) i=true↔_
  have e:finOf (finsC a b l K I) i=finC a b l K i:=by
   unfold finOf finsC;simp[wAd,hi]
  rw[e];unfold finC;constructor
  · intro h;exact⟨(fun x hx=>by cases hx),h⟩
  · intro h;exact h.2
 | cons x w ih =>
  intro i hi
  have er:rowOf (rowsC a b l I) i=rowC a b l i:=by
   unfold rowOf rowsC;simp[wAd,hi]
  have key:∀ (x:Int),x∈l→∃ u:Nat,u<I∧(((LsC a b l (i+1)).idxOf (nxI a (cpC a b l i).1 x,nxI b (cpC a b l i).2 x):Nat):Int)=(u:Int)∧cpC a b l u=(nxI a (cpC a b l i).1 x,nxI b (cpC a b l i).2 x):=by
   intro x hx;have hm:=zKe (hlt i hi) hx;have hu:=List.idxOf_lt_length_of_mem hm;obtain⟨k,e⟩:=zD9 (a:=a) (b:=b) (l:=l) (show i+1≤I by omega);(have hle:(LsC a b l (i+1)).length≤I:=by rw[← hI,e,List.length_append];omega);refine⟨_,by omega,rfl,?_⟩
   have h1:(LsC a b l I)[(LsC a b l (i+1)).idxOf (nxI a (cpC a b l i).1 x,nxI b (cpC a b l i).2 x)]? = some (nxI a (cpC a b l i).1 x,nxI b (cpC a b l i).2 x):=by
    rw[e,wAi hu,wAb hu,List.getElem_idxOf]
   have h2:=zQg (a:=a) (b:=b) (l:=l) (hlt ((LsC a b l (i+1)).idxOf (nxI a (cpC a b l i).1 x,nxI b (cpC a b l i).2 x)) (by omega)) (show _≤I by omega);rw[h1] at h2;(injection h2 with h2);exact h2.symm
  show (∃ u,(x,u)∈tstp l (rowOf (rowsC a b l I)) i∧accS _ _ u w)↔(∀ y∈x::w,y∈l)∧K (acR a (nxI a (cpC a b l i).1 x) w) (acR b (nxI b (cpC a b l i).2 x) w)=true
  constructor
  ·rintro⟨u,hu,hw⟩;obtain⟨j,tg,h1,h2,h3,rfl⟩:=mem_tstp.1 hu;rw[er] at h2;unfold rowC at h2;rw[wAh,h1] at h2;(have h2:(((LsC a b l (i+1)).idxOf (nxI a (cpC a b l i).1 x,nxI b (cpC a b l i).2 x):Nat):Int)=tg:=by injection h2);have hx:=wAl h1;obtain⟨u,hu1,hu2,hu3⟩:=key x hx;(have e:tg.toNat=u:=by omega);rw[e] at hw;obtain⟨g1,g2⟩:=(ih u hu1).1 hw;rw[hu3] at g2;exact⟨fun y hy=>by rcases List.mem_cons.1 hy with rfl | hy;exact hx;exact g1 y hy,g2⟩
  ·rintro⟨g1,g2⟩;have hx:=g1 x wAf;obtain⟨u,hu1,hu2,hu3⟩:=key x hx;obtain⟨j,hj⟩:=List.getElem?_of_mem hx;refine⟨u,mem_tstp.2 ⟨j,(u:Int),hj,?_,by omega,by simp⟩,(ih u hu1).2 ⟨fun y hy=>g1 y (wAm _ hy),by rw[hu3];exact g2⟩⟩;rw[er];unfold rowC;rw[wAh,hj];exact congrArg some hu2
theorem zQ7 {i k:Nat} (hi:i<(LsC a b l i).length) {x:Int} (hx:l[k]? = some x):(rowC a b l i)[k]? = some ((((addL (bfsRow i (stpCk a b l (cpC a b l i) k) (StC a b l i).1).1 (nxI a (cpC a b l i).1 x,nxI b (cpC a b l i).2 x)).idxOf (nxI a (cpC a b l i).1 x,nxI b (cpC a b l i).2 x):Nat):Int)):=by
 unfold rowC;rw[wAh,hx]
 have e:∃ p,stpC a b l (cpC a b l i)=stpCk a b l (cpC a b l i) (k+1)++p:=by
  refine⟨(l.drop (k+1)).map fun x=>(x,(nxI a (cpC a b l i).1 x,nxI b (cpC a b l i).2 x)),?_⟩;unfold stpC stpCk;rw[← wAr,List.take_append_drop]
 obtain⟨p,e⟩:=e
 have e3:∃ k2,LsC a b l (i+1)=addL (bfsRow i (stpCk a b l (cpC a b l i) k) (StC a b l i).1).1 (nxI a (cpC a b l i).1 x,nxI b (cpC a b l i).2 x)++k2:=by
  rw[zGP hi,e,zBx,zGc hx,zCs];exact zAS i p _
 obtain⟨k2,e3⟩:=e3
 show some ((((LsC a b l (i+1)).idxOf (nxI a (cpC a b l i).1 x,nxI b (cpC a b l i).2 x):Nat):Int))=_
 rw[e3];have h:=zFE (k:=k2) (show (nxI a (cpC a b l i).1 x,nxI b (cpC a b l i).2 x)∈addL (bfsRow i (stpCk a b l (cpC a b l i) k) (StC a b l i).1).1 (nxI a (cpC a b l i).1 x,nxI b (cpC a b l i).2 x) from addL_mem.2 (.inr rfl));exact congrArg (fun z:Nat=>some ((z:Nat):Int)) ((zA0 _ _ _ _).trans (h.trans (zA0 _ _ _ _)))
theorem zC1 (i:Nat):(rowC a b l i).length=l.length:=by unfold rowC;rw[wAt]
def okCp (n:Int) (c:Int×Int):Prop := -1≤c.1∧c.1<n ∧ -1≤c.2∧c.2<n
theorem zFL {Sa Sb:Nat} (ha:DmOk a Sa) (hb:DmOk b Sb) (p q x:Int):okCp 401 (nxI a p x,nxI b q x):=by
 have h1:=zCc ha p x;have h2:=zCc hb q x
 have:=ha.n4
 have:=hb.n4
 unfold okCp;dsimp only;omega
theorem zGi {Sa Sb:Nat} (ha:DmOk a Sa) (hb:DmOk b Sb):okCp 401 (s0I a,s0I b):=by
 unfold okCp s0I;dsimp only;split<;>split<;>omega
theorem zQi {Sa Sb:Nat} (ha:DmOk a Sa) (hb:DmOk b Sb) (i:Nat):∀ c∈LsC a b l i,okCp 401 c:=zCV (P:=okCp 401) (zGi ha hb) (fun s _ e he=>by
 obtain⟨x,_,rfl⟩:=wAx.1 he
 exact zFL ha hb _ _ _) i
theorem zFf {α:Type} [DecidableEq α] (i:Nat):∀ (p:List (Int×α)) (st:List α×List Arc),(bfsRow i p st).1.length≤st.1.length+p.length
 | [],st=>by simp[bfsRow]
 | (x,u)::p,st=>by
  unfold bfsRow;have h:=zFf i p (addL st.1 u,st.2++[⟨(i:Int),((addL st.1 u).idxOf u:Nat),x,x,0⟩])
  have h2:(addL st.1 u).length≤st.1.length+1:=by
   unfold addL;split
   · omega
   · simp
  rw[List.length_cons];dsimp only at h;omega
theorem zMI (i k:Nat):(bfsRow i (stpCk a b l (cpC a b l i) k) (StC a b l i).1).1.length≤(LsC a b l i).length+k:=by
 have h:=zFf i (stpCk a b l (cpC a b l i) k) (StC a b l i).1;have h2:(stpCk a b l (cpC a b l i) k).length≤k:=by unfold stpCk;rw[wAt,List.length_take];omega
 unfold LsC;omega
end
def JoinR (a b:Mach) (l:List Int) (K:Bool→Bool→Bool) (r:Mach×(Int×Int)):Prop:=(r=(emptyM,(17,-1))∧∃ i,20000<(LsC a b l i).length)∨∃ I,(LsC a b l I).length=I∧I≤20000∧r=leastR l (rowsC a b l I) (finsC a b l K I)
open Go
def updR {α:Type} (f:Nat→α) (i:Nat) (x:α):Nat→α:=fun k=>if k=i then x else f k
theorem zLP {α:Type} (f:Nat→α) (i:Nat) (x:α):updR f i x i=x:=by simp[updR]
theorem zJw {α:Type} (f:Nat→α) {i k:Nat} (x:α) (h:k≠i):updR f i x k=f k:=by simp[updR,h]
def putR:List Oper→Nat→(Nat→Value)→Act→Act
 | [],_,_,a=>a
 | o::os,n,v,a=>putR os (n+1) v (a.put o.dst (v n))
theorem zO2 (os:List Oper):∀ (n:Nat) (v:Nat→Value) (a:Act) (d:Option Tmp) (u:Value),
 (∀ o∈os,∀ t,d=some t→o.dst≠some t)→(putR os n v a).put d u=putR os n v (a.put d u):=by
 induction os with
 | nil=>intro n v a d u _;rfl
 | cons o os ih =>
  intro n v a d u h
  show (putR os (n+1) v (a.put o.dst (v n))).put d u=putR os (n+1) v ((a.put d u).put o.dst (v n))
  rw[ih _ _ _ _ _ (fun o' ho'=>h o' (wAm _ ho')),Act.put_comm a u (v n) (fun t ht=>h o wAf t ht)]
theorem zO1 (a:Act) (d:Option Tmp) (x y:Value):(a.put d x).put d y=a.put d y:=by
 cases d with
 | none=>rfl
 | some t=>simp[Act.put]
theorem zPB (os:List Oper):∀ (n:Nat) (v v':Nat→Value) (a:Act),(∀ k,n≤k→v k=v' k)→putR os n v a=putR os n v' a:=by
 induction os with
 | nil=>intro n v v' a _;rfl
 | cons o os ih =>
  intro n v v' a h
  show putR os (n+1) v (a.put o.dst (v n))=putR os (n+1) v' (a.put o.dst (v' n))
  rw[h n (wAa _),ih _ v v' _ (fun k hk=>h k (by omega))]
def dstsB:List Oper→Bool
 | []=>true
 | o::os=>(match o.dst with | some t=>os.all (fun o'=>o'.dst != some t) | none=>true)&&dstsB os
theorem zOV (os:List Oper):∀ (n i:Nat) (v:Nat→Value) (a:Act) (o:Oper) (u:Value),dstsB os=true→os[i]? = some o →
 (putR os n v a).put o.dst u=putR os n (updR v (n+i) u) a:=by
 induction os with
 | nil=>intro n i v a o u _ h;cases h
 | cons o os ih =>
  intro n i v a o' u hd h
  have hd':dstsB os=true:=by
   unfold dstsB at hd;rw[wAp] at hd;exact hd.2
  cases i with
  | zero =>
   (injection h with h);subst h
   show (putR os (n+1) v (a.put o.dst (v n))).put o.dst u=putR os (n+1) (updR v n u) (a.put o.dst (updR v n u n))
   rw[zO2 _ _ _ _ _ _ (fun o' ho' t ht=>by
    unfold dstsB at hd;rw[wAp,ht] at hd
    have:=wAq.1 hd.1 o' ho'
    simpa using this),zO1,zLP]
   exact zPB _ _ _ _ _ (fun k hk=>(zJw v u (by omega)).symm)
  | succ i =>
   have h':os[i]? = some o':=h
   show (putR os (n+1) v (a.put o.dst (v n))).put o'.dst u=putR os (n+1) (updR v (n+(i+1)) u) (a.put o.dst (updR v (n+(i+1)) u n))
   rw[ih (n+1) i v _ o' u hd' h',zJw v u (by omega),show n+1+i=n+(i+1) by omega]
theorem zNK (a:Act) (d:Option Tmp):a.put d (match d with | some t=>a.tmps.getD t undef | none=>undef)=a:=by
 cases d with
 | none=>rfl
 | some t =>
  obtain⟨ts,ds⟩:=a;simp only[Act.put];congr 1;apply Array.ext
  · simp
  ·intro i h1 h2;by_cases e:t=i
   · subst e;simp[h2]
   · rw[Array.getElem_setIfInBounds_ne h2 e]
def valR (os:List Oper) (a:Act) (k:Nat):Value:=match (os[k]?).bind (·.dst) with | some t=>a.tmps.getD t undef | none=>undef
theorem zIQ (a:Act) (os:List Oper):∀ (n:Nat) (v:Nat→Value),(∀ k o,os[k]? = some o→v (n+k)=(match o.dst with | some t=>a.tmps.getD t undef | none=>undef))→putR os n v a=a:=by
 induction os with
 | nil=>intro n v _;rfl
 | cons o os ih =>
  intro n v h
  show putR os (n+1) v (a.put o.dst (v n))=a
  rw[show v n=_ from h 0 o rfl,zNK];exact ih (n+1) v (fun k o' ho'=>by rw[show n+1+k=n+(k+1) by omega];exact h (k+1) o' ho')
def CloR (os:List Oper) (l:Nat→Bool):Prop:=∀ k o,os[k]? = some o→l k=true→∀ e∈o.after,Region.binds .any e=true→l e.on=true
theorem CloR.step {os:List Oper} {l:Nat→Bool} (h:CloR os l) {i:Nat} {o:Oper} (ho:os[i]? = some o) (hd:∀ e∈o.after,Region.binds .any e=true→l e.on=true):CloR os (updR l i true):=by
 intro k o' hk hl e he hb
 have h1:l e.on=true:=by
  by_cases g:k=i
  ·subst g;rw[ho] at hk;(injection hk with hk);subst hk;exact hd e he hb
  ·rw[zJw _ _ g] at hl;exact h k o' hk hl e he hb
 unfold updR;split
 · rfl
 · exact h1
def StepR (P:Program) (Q:Exit→Act→World→Prop) (F:(Nat→Bool)→(Nat→Value)→World→Prop) (A:(Nat→Value)→Act) (ops:Array Oper) (i:Nat) (o:Oper):Prop :=
 ∀ (l:Nat→Bool) (v:Nat→Value) (w:World),l i=false→(∀ e∈o.after,Region.binds .any e=true→l e.on=true)→CloR ops.toList l→F l v w →
  ∀ K:Act→World→Prop,Shut (∀ u w',F (updR l i true) (updR v i u) w'→K ((A v).put o.dst u) w') →
   if Region.wanted o (yielded ops (A v).tmps)=true then Oper.wp P o (A v) w K Q else K ((A v).put o.dst undef) w
def StepsR (P:Program) (Q:Exit→Act→World→Prop) (F:(Nat→Bool)→(Nat→Value)→World→Prop) (A:(Nat→Value)→Act) (ops:Array Oper):Nat→List Oper→Prop
 | _,[]=>True
 | n,o::os=>StepR P Q F A ops n o∧StepsR P Q F A ops (n+1) os
theorem StepsR.cons {P:Program} {Q:Exit→Act→World→Prop} {F:(Nat→Bool)→(Nat→Value)→World→Prop} {A:(Nat→Value)→Act} {ops:Array Oper} {n:Nat} {o:Oper} {os:List Oper} (h:StepR P Q F A ops n o) (hs:StepsR P Q F A ops (n+1) os):StepsR P Q F A ops n (o::os):=⟨h,hs⟩
theorem StepsR.at_ {P:Program} {Q:Exit→Act→World→Prop} {F:(Nat→Bool)→(Nat→Value)→World→Prop} {A:(Nat→Value)→Act} {ops:Array Oper} : ∀ (os:List Oper) (n:Nat),StepsR P Q F A ops n os→∀ i o,os[i]? = some o→StepR P Q F A ops (n+i) o
 | [],_,_,i,o,h=>by cases h
 | o::os,n,hs,0,o',h=>by injection h with h;subst h;exact hs.1
 | o::os,n,hs,i+1,o',h=>by
  have:=StepsR.at_ os (n+1) hs.2 i o' h
  rw[show n+1+i=n+(i+1) by omega] at this;exact this
theorem zEC {L:Array Bool} {i:Nat} (h:L.getD i true=false):i<L.size:=by
 rcases wAy i L.size with g | g
 · exact g
 · simp[wAk g] at h
theorem zLO {P:Program} {os:List Oper} {Q:Exit→Act→World→Prop} {F:(Nat→Bool)→(Nat→Value)→World→Prop} {A:(Nat→Value)→Act} {a0:Act}
 (hA:∀ v,putR os 0 v a0=A v) (hd:dstsB os=true) (hsteps:StepsR P Q F A os.toArray 0 os)
 (hend:∀ l v w,(∀ k,k<os.length→l k=true)→F l v w→Q .normal (A v) w) :
 ∀ (fuel:Nat) (L:Array Bool) (v:Nat→Value) (w:World) (hready:wAg .any os.toArray L=[]→∀ k,k<os.length→L.getD k true=true) (hsz:L.size=os.length)
  (hmore:∀ L':Array Bool,L'.size=os.length→wAg .any os.toArray L'=[]→∀ k,k<os.length→L'.getD k true=true)
  (hcount:(L.toList.filter (fun b => !b)).length≤fuel) (hcl:CloR os (fun k=>L.getD k true)),
  F (fun k=>L.getD k true) v w→wpAny P .any os.toArray Q fuel L (A v) w:=by
 have hfin:∀ (L:Array Bool) (v:Nat→Value) (w:World),(∀ k,k<os.length→L.getD k true=true)→F (fun k=>L.getD k true) v w→Q .normal (A v) w:=fun L v w h hF=>hend _ v w h hF
 intro fuel
 induction fuel with
 | zero =>
  intro L v w hready hsz hmore hcount hcl hF
  have hall:∀ k,k<os.length→L.getD k true=true:=by
   intro k hk;by_cases e:L.getD k true=true
   · exact e
   ·exfalso;(have hk':k<L.size:=by omega);have e2:L[k]=false:=by simpa[wAj,hk'] using e
    have:false∈L.toList.filter (fun b => !b):=List.mem_filter.2 ⟨by rw[← e2];exact Array.getElem_mem_toList hk',rfl⟩
    have:=List.length_pos_of_mem this
    omega
  refine⟨?_,hfin L v w hall hF⟩;unfold wAg;rw[List.filter_eq_nil_iff];intro i hi;have hi':i<os.length:=by simpa using wAv.1 hi
  rw[hall i hi'];simp
 | succ fuel ih =>
  intro L v w hready hsz hmore hcount hcl hF;refine⟨fun hr=>hfin L v w (hready hr) hF,fun i hi=>?_⟩;obtain⟨hun,o,ho,hall⟩:=mem_ready.1 hi;have ho':os[i]? = some o:=by simpa using ho
  have hil:i<L.size:=zEC hun;refine wpOp_step ho (fun K hK=>?_);have hst:=StepsR.at_ os 0 hsteps i o ho';rw[wAn] at hst
  have hdn:∀ e∈o.after,Region.binds .any e=true→L.getD e.on true=true:=fun e he hb=>by
   have:=hall e he hb
   rcases wAy e.on L.size with g | g
   · simpa[wAj,g] using this
   · simp[wAk g] at this
  have hfun:(fun k=>(L.setIfInBounds i true).getD k true)=updR (fun k=>L.getD k true) i true:=by
   funext k;unfold updR;by_cases e:k=i
   · subst e;simp[wAj]
   ·rw[if_neg e];simp[Array.getElem?_setIfInBounds,Ne.symm e]
  refine hst (fun k=>L.getD k true) v w hun hdn hcl hF K (show Shut _ from fun u w' hF'=>?_)
  ·refine hK _ _ ?_
   have hput:(A v).put o.dst u=A (updR v i u):=by
    rw[← hA v,← hA (updR v i u),zOV os 0 i v a0 o u hd ho',wAn]
   rw[hput];refine ih (L.setIfInBounds i true) (updR v i u) w' (fun hr=>hmore _ (by simp[hsz]) hr) (by simp[hsz]) hmore ?_ (by rw[hfun];exact hcl.step ho' hdn) ?_
   ·(have h1:(L.setIfInBounds i true).toList=L.toList.set i true:=by simp);rw[h1]
    have h2:L.toList[i]? = some false:=by
     have:L[i]=false:=by simpa[wAj,hil] using hun
     simp[hil,this]
    have h3:∀ (l:List Bool) (i:Nat),l[i]? = some false→((l.set i true).filter (fun b => !b)).length+1=(l.filter (fun b => !b)).length:=by
     intro l
     induction l with
     | nil=>intro i h;cases h
     | cons b l ihl =>
      intro i h
      cases i with
      | zero=>injection h with h;subst h;simp
      | succ i =>
       have:=ihl i h
       cases b
       · simp at this ⊢;omega
       · simpa using this
    have:=h3 _ _ h2
    omega
   ·rw[hfun];exact hF'
def downB (os:List Oper):Bool:=(wAs os.length).all fun i=>match os[i]? with | some o=>o.after.all (fun e => !Region.binds .any e||decide (e.on<i)) | none=>true
theorem zDf {os:List Oper} (h:downB os=true) (L:Array Bool) (hsz:L.size=os.length) (hr:wAg .any os.toArray L=[]):∀ k,k<os.length→L.getD k true=true:=by
 intro k
 induction k using Nat.strongRecOn with
 | ind k ih =>
  intro hk;by_cases e:L.getD k true=true
  · exact e
  ·exfalso;have e2:L.getD k true=false:=by simpa using e
   have hm:k∈wAg .any os.toArray L:=by
    rw[mem_ready];refine⟨e2,os[k],by simp[hk],fun ed hed hb=>?_⟩;unfold downB at h;have h1:=wAq.1 h k (wAv.2 hk);rw[wAb hk] at h1
    have h2:ed.on<k:=by
     have h3:=Array.all_eq_true_iff_forall_mem.1 h1 ed hed;rw[hb] at h3;simpa using h3
    have h4:=ih ed.on h2 (by omega);(have h5:ed.on<L.size:=by omega);simpa[wAj,h5] using h4
   rw[hr] at hm;cases hm
theorem zAj {P:Program} {id:Nat} {os:List Oper} {Q:Exit→Act→World→Prop} (F:(Nat→Bool)→(Nat→Value)→World→Prop) {A:(Nat→Value)→Act} {a0:Act} {w:World}
 (hA:∀ v,putR os 0 v a0=A v) (hm:P.follows .mixedOrders=true) (hd:dstsB os=true) (hdown:downB os=true)
 (h0:∀ v,F (fun k=>(wAu os.length false).getD k true) v w.drew)
 (hend:∀ l v w,(∀ k,k<os.length→l k=true)→F l v w→Q .normal (A v) w)
 (hsteps:StepsR P Q F A os.toArray 0 os):(Code.region id os.toArray true).wp P Q a0 w:=by
 refine wp_region_any hm ?_
 have h:=zLO (P:=P) (Q:=Q) (F:=F) (A:=A) (a0:=a0) hA hd hsteps hend os.toArray.size (wAu os.toArray.size false) (valR os a0) w.drew
  (fun hr=>zDf hdown _ (by simp) hr) (by simp) (fun L' h1 h2=>zDf hdown L' h1 h2)
  (by simp) (fun k o hk hl=>by
   have hk':k<os.length:=(List.getElem?_eq_some_iff.1 hk).1
   simp[hk'] at hl) (by have:=h0 (valR os a0);simpa using this)
 rw[← hA (valR os a0),zIQ a0 os 0 (valR os a0) (fun k o ho=>by
  unfold valR;rw[wAn,ho]
  rfl)] at h
 exact h
open Go Go.RowKit
def cplB (c:Int×Int):Value:=.agg #[.int .i64 c.1,.int .i64 c.2]
def okB (c:Int×Int):Prop := -1≤c.1∧c.1≤2000000 ∧ -1≤c.2∧c.2≤2000000
theorem zOo (c d:Int×Int) (h:cplB c=cplB d):c=d:=by
 unfold cplB at h;injection h with h
 have h1:=congrArg (fun a:Array Value=>a[0]?) h;have h2:=congrArg (fun a:Array Value=>a[1]?) h;simp at h1 h2;exact Prod.ext h1 h2
def mapC (A:List Arc):List ((Int×Int)×Value):=A.foldl (fun L a=>upL L (a.f,a.i) (.int .i64 a.t)) []
theorem zII (A:List Arc) (a:Arc):mapC (A++[a])=upL (mapC A) (a.f,a.i) (.int .i64 a.t):=by unfold mapC;rw[List.foldl_append];rfl
def nxA (A:List Arc) (s x:Int):Int:=if 0≤s then afterL A s.toNat x else -1
theorem lkC {A:List Arc} (h0:∀ a∈A,0≤a.f) (s x:Int):∀ i,(lk (mapC (A.take i)) (s,x)=none∧nxA (A.take i) s x = -1)∨lk (mapC (A.take i)) (s,x)=some (.int .i64 (nxA (A.take i) s x))
 | 0=>.inl ⟨by rw[wAw];rfl,by rw[wAw];unfold nxA;split<;>rfl⟩
 | i+1=>by
  have ih:=lkC h0 s x i
  cases e:A[i]? with
  | none =>
   have hl:A.length≤i:=List.getElem?_eq_none_iff.1 e;rw[wAe hl] at ih;rw[wAe (by omega)];exact ih
  | some a =>
   have ha:=h0 a (wAl e);rw[wAo,e]
   show (lk (mapC (A.take i++[a])) (s,x)=none∧nxA (A.take i++[a]) s x = -1)∨lk (mapC (A.take i++[a])) (s,x)=some (.int .i64 (nxA (A.take i++[a]) s x))
   rw[zII,lk_up];by_cases g:(s,x)=(a.f,a.i)
   ·right;rw[if_pos g];(injection g with g1 g2);unfold nxA;rw[if_pos (by omega),zBl,if_pos ⟨by omega,g2.symm⟩]
   ·rw[if_neg g]
    have:nxA (A.take i++[a]) s x=nxA (A.take i) s x:=by
     unfold nxA;split
     ·rw[zBl,if_neg];rintro⟨g1,g2⟩;exact g (by rw[g1,g2];congr 1;omega)
     · rfl
    rw[this];exact ih
end Gm
namespace Go.Proofs.Ytkfdhpbnphojoaa
open Go.RowKit Gm
theorem zLI:laidOutB Try.prog=true:=by kernel_rfl
theorem zKH:(110:TypeId)<Try.prog.types.size:=of_decide_eq_true (by kernel_rfl)
theorem zMR:(match Try.prog.underlying 110 with | some (.array _ _) | some (.struct _)=>true | _=>false)=true:=by rw[Try.underlying110]
theorem zOu:WideMaps.KeyLaw Try.prog 110:=deep_law_laid zLI (m:=2) (by omega) zKH (by kernel_rfl) zMR
theorem zML:Try.prog.keyType 110=true:=by kernel_rfl
theorem cpl_sizeB:Try.prog.cellsOf 110=2:=by kernel_rfl
theorem zKW:Try.prog.cellsOf 3=1:=by kernel_rfl
theorem zMf (c:Int×Int) (h:okB c):∃ l,keyOf Try.prog 110 (cplB c)=some l:=by
 unfold okB at h;have w1:(Lit.int .i64 c.1).wf=true:=by simp[Lit.wf,IntKind.min,IntKind.max,IntKind.signed,IntKind.bits];omega
 have w2:(Lit.int .i64 c.2).wf=true:=by simp[Lit.wf,IntKind.min,IntKind.max,IntKind.signed,IntKind.bits];omega
 have hf:(cplB c).formed Try.prog 110=true:=by
  unfold cplB;simp[Value.formed,Try.underlying110];exact cpl_sizeB.symm
 have hN:Try.prog.types.size=(Try.prog.types.size-1)+1:=by have h:(110:Nat)<Try.prog.types.size:=zKH;omega
 have hi:∀ (N:Nat) (x:Int),(Lit.int .i64 x).wf=true→Try.prog.keyLits (N+1) 3 [.int .i64 x]=some [.int .i64 x]:=fun N x hx=>by
  unfold Program.keyLits;rw[Try.underlying3];simp[hx]
 have hl:Try.prog.keyLits (Try.prog.types.size+1) 110 [.int .i64 c.1,.int .i64 c.2]=some [.int .i64 c.1,.int .i64 c.2]:=by
  unfold Program.keyLits;rw[Try.underlying110,hN];simp[cpl_sizeB,zKW,hi _ _ w1,hi _ _ w2]
 refine⟨.string (keyBytes [.int .i64 c.1,.int .i64 c.2]),?_⟩;unfold keyOf;rw[Try.underlying110,zML,hf];simp only[Bool.and_self,if_true];rw[show (cplB c).cells.toList=[.int .i64 c.1,.int .i64 c.2] from rfl,hl];rfl
theorem zCw:KL Try.prog 110 cplB okB:=⟨Maps.Keyed.of_law zOu,zMf,zOo⟩
theorem zCj (W:World):(zeroValue 3).run Try.prog W=.ok (.int .i64 0) W:=by kernel_rfl
theorem zLT:(Try.prog.info? 110).map (fun i=>(i.zero,i.size,i.bytes))=some (some (.agg #[.int .i64 0,.int .i64 0]),2,16):=by kernel_rfl
end Go.Proofs.Ytkfdhpbnphojoaa
