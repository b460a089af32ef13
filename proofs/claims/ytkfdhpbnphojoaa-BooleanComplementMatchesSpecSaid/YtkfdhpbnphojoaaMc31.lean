/- Part of the proof. -/
import Derived.Test.YtkfdhpbnphojoaaMc29
set_option linter.unusedSimpArgs false
set_option linter.unusedVariables false
set_option maxRecDepth 100000
set_option maxHeartbeats 32000000
open List renaming setIfInBounds_toArray→wAa,getElem_cons_zero→wAc,getElem_cons_succ→wAd,getElem_toArray→wAe,set_cons_zero→wAf,set_cons_succ→wAg,getElem?_map→wAh,getElem?_eq_getElem→wAl,mem_of_getElem?→wAn,drop_succ_cons→wAq,getD→wAr,range→wAt,drop_zero→wAu
open Nat renaming le_refl→wAb,le_succ→wAj,mul_le_mul_right→wAm,add_assoc→wAo,mul_le_mul_left→wAp,succ_mul→wAs
open Go.RowKit.Below renaming refl→wAi
open Go.World renaming news_of_block→wAk
namespace Gm
theorem zK7 (row:Nat→List Int) (fin:Nat→Bool) (n:Nat) (A:Nat→Bool) (p q:Nat):diffJ row fin n A p q 0=(fin p != fin q):=by unfold diffJ;simp
open Go Go.RowKit in
theorem zIZ {w:World} {base g:Nat} {e:TypeId} {cs:Array Value} (h:Blk w g e cs) (hb:base≤g) (hm:cs.size≤maxLen):w.ownsRow base e 1 (.slice (some ⟨g,0,none⟩) cs.size cs.size) cs.size cs.toList :=
 ⟨by simp,.inr ⟨g,cs.size,cs,rfl,hb,h,wAb _,hm,by simp,List.take_of_length_le (by simp)⟩⟩
end Gm
namespace Go.Proofs.Ytkfdhpbnphojoaa
open Go.RowKit Gm
theorem zNd (va:Value) (
 m:Mach) (S:Nat) (w:World) (B:Nat) (hB:B≤w.heap.size) (ha:MachAt w B va m) (hS:m.n=(S:Int)) (hS2:S≤200) (hrng:inRange m.arcs S) (hlen:m.arcs.length≤1000000) (hw0:∀ x∈m.fins,0≤x.w) (hT:Tab (lsM m) (rowM m) (finM' m) S) (hq:(lsM m).length≤2000) (hu:0<S→∃ v,langM m 0 v) (hz:S=0→¬ ∃ v,langM m 0 v) :
 Calls Try.prog 43 #[va] w fun e w'=>∃ v',e=.returned v'∧MachNew w.heap.size w' v' (canonM (lsM m) (langM m 0) S)∧Below w.heap.size w w':=by
 have HM:=zh ha;obtain⟨A,AF,n,c,nf,cf,rfl,HN,HF,hnc,hnfc,hnb,hnfb,hA,hF⟩:=ha;obtain⟨i0,hi0,hz0,hz1,hz2⟩:=info_parts zAH;obtain⟨ia,ha0,ha1,ha2,ha3⟩:=info_parts zBa;obtain⟨iF,hF0,hF1,hF2,hF3⟩:=info_parts zB6;have HSS:=zh hS;have HRNG:=zh hrng;have HT:=zh hT;have HU:=zh hu;have HZ:=zh hz;have HQ2:=zh hq;have HLEN:=zh hlen;have HW0:=zh (fun s=>zKn (m:=m) hw0 s);unfold big at hnb hnfb;rw[hS] at HM ⊢;clear hA hF hS hrng hT hu hz hq hlen hw0
 go_enter Try.func43,Try.ntmps43
 go_upto_region 1 with fail
 generalize hW1:World.alloc _ _=W1;obtain⟨X,hX⟩:∃ z,z=w.heap.size:=⟨_,rfl⟩;have HXM:=zh (show Blk W1 X 25 #[.int .i64 (S:Int),.slice A n c,.slice AF nf cf] by rw[← hW1,hX];exact (Blk.at_ rfl).alloc _);have HRM:=zh (show Blk W1 (X+1) 25 #[.int .i64 0,.slice none 0 0,.slice none 0 0] by rw[← hW1,hX];exact Blk.at_ (by simp));have HB1:=zh (show Below X w W1 by rw[← hW1,hX];go_grown);have hBX:B≤X:=by omega
 have HXW:=zh hX;have HM1:=zh (HM.o.below HB1.o hBX);have hz1':X+1<W1.heap.size:=HRM.o.lt;simp only[← hX];clear hW1 hX HM;have x0:=HXM.o.cell 0;have x1:=HXM.o.cell 1;have x2:=HXM.o.cell 2;simp at x0 x1 x2;have lX:=HXM.o.lt;by_cases hS0:S=0
 ·have HR:=zh (zAz (ls:=lsM m) (L:=langM m 0) (f:=S) (HZ.o hS0));have t1:((S:Int)==0)=true:=by simp;omega
  have q0:=HRM.o.cell 0;have q1:=HRM.o.cell 1;have q2:=HRM.o.cell 2;have qf:=HRM.o.frozen 0;have qf1:=HRM.o.frozen 1;have qf2:=HRM.o.frozen 2;simp at q0 q1 q2;have lR:=HRM.o.lt;clear hS0;go_wp2;refine bodyPost_ret (v:=.agg #[.int .i64 0,.slice none 0 0,.slice none 0 0]) (by simp[results,Try.results43,go_sem,lR,q0,q1,q2,qf,qf1,qf2]) rfl ?_;rw[HR.o,← HXW.o];exact⟨_,rfl,MachNew.empty _ _,((HB1.o.setCell (p:=⟨X+1,0,none⟩) (by exact wAj _) _).setCell (p:=⟨X+1,1,none⟩) (by exact wAj _) _).setCell (p:=⟨X+1,2,none⟩) (by exact wAj _) _⟩
 ·have t1:((
   S:Int)==0)=false:=by simp;omega
  have hSp:0<S:=by omega
  clear hS0;go_wp2_with fail;refine (zBP _ m _ _ (wAb _) (HM1.o.mono (by omega)) HLEN.o).mono ?_;rintro e w2 ⟨AL,cL,rfl,hownL,hb2⟩;obtain⟨q,hq⟩:∃ z,z=(labsR m.arcs).length:=⟨_,rfl⟩;rw[← hq] at hownL ⊢;have HQ:=zh (show (lsM m).length=q from hq.symm);have hqb:q≤2000:=by have:=HQ2.o;rw[HQ.o] at this;exact this
  have HNL:=zh (show Nums w2 w2.heap.size (.slice AL q cL) (lsM m) from zAZ hownL (by unfold big;omega));have HX2:=zh (HXM.o.below hb2 (by omega));have HR2:=zh (HRM.o.below hb2 (by omega));have HM2:=zh (HM1.o.below hb2 (by omega));have HB2:=zh (HB1.o.trans (hb2.mono (by omega)));have hz2':X+1<w2.heap.size:=HR2.o.lt;clear hownL hb2 hq x0 x1 x2 lX;have x0:=HX2.o.cell 0;have x1:=HX2.o.cell 1;have x2:=HX2.o.cell 2;simp at x0 x1 x2;have lX:=HX2.o.lt;go_wp2_with fail;refine (zOr _ _ m (lsM m) S _ _ (wAb _) (HM2.o.mono (by omega)) HNL.o HSS.o (by omega) (by rw[HQ.o];omega) HRNG.o).mono ?_;rintro e w3 ⟨v3,rfl,hnl,hb3⟩;obtain⟨AR,nR,cR,rfl,HNR,hcR,hnRb,hRR⟩:=hnl;have hnR:S=nR:=by have h:=HNR.o;rw[List.length_map,List.length_range] at h;exact h
  subst hnR;have HRR:=zh (show RdL w3 w3.heap.size AR S ((wAt S).map (rowL (lsM m) m.arcs)) from hRR);have HX3:=zh (HX2.o.below hb3 (by omega));have HR3:=zh (HR2.o.below hb3 (by omega));have HM3:=zh (HM2.o.below hb3 (by omega));have HB3:=zh (HB2.o.trans (hb3.mono (by omega)));have HNL3:=zh ((HNL.o.below hb3 (wAb _)).mono (show w2.heap.size≤w3.heap.size from hb3.size));have hz3':X+1<w3.heap.size:=HR3.o.lt;have HROW:=zh (show ∀ p,p<S→((wAt S).map (rowL (lsM m) m.arcs)).getD p []=rowM m p from fun p hp=>by simp[wAr,hp,rowM]);obtain⟨SS,hSS⟩:∃ z,z=S*S:=⟨_,rfl⟩;have hSSI:(S:Int)*(S:Int)=(SS:Int):=by rw[hSS];push_cast;rfl
  have hSS4:SS≤40000:=by rw[hSS];exact Nat.mul_le_mul hS2 hS2
  have HSQ:=zh hSS;clear hRR hb3 hSS x0 x1 x2 lX;have hmk:=run_make_row' (P:=Try.prog) 51 4 (.bool false) 1 Try.underlying51 zAN rfl .i64 .i64 SS (by omega) (by omega) w3;go_upto_region 7 with fail
  clear hmk;generalize hW4:World.alloc _ _=W4;obtain⟨gA,hgA⟩:∃ z,z=w3.heap.size:=⟨_,rfl⟩;have HRA4:=zh (show W4.rowIs gA 4 SS (fun i=>.bool ((fun _=>false:Nat→Bool) i)) by rw[← hW4,hgA];exact World.rowIs_made w3 (.bool false) SS 4);have HBA:=zh (show Below gA w3 W4 by rw[← hW4,hgA];go_grown);have hz4:gA<W4.heap.size:=HRA4.o.lt;have HX4:=zh (HX3.o.below HBA.o (by omega));have HM4:=zh (HM3.o.below HBA.o (by omega));have HRR4:=zh (show RdL W4 gA AR S ((wAt S).map (rowL (lsM m) m.arcs)) by have h:=HRR.o.below HBA.o (by omega);rw[← hgA] at h;exact h);have HNL4:=zh (show Nums W4 gA (.slice AL q cL) (lsM m) by have h:=HNL3.o.below HBA.o (by omega);rw[← hgA] at h;exact h);have HSND0:=zh (zLD (ls:=lsM m) (row:=rowM m) (fin:=finM' m) (n:=S));have HOF0:=zh (show offN (fun _=>false) SS+(if true=true then 1 else 0)≤40001 by have:=zGQ (fun _=>false) SS;simp;omega);have hXA:X+1<gA:=by omega
  have HGA:=zh hgA;simp only[← hgA];clear hW4 hgA hSSI;go_wp2
  go_loopg [7] (40001) (fun gk av wr=>∃ (T:Nat→Bool) (again:Bool),av=.bool again∧Hid (wr.rowIs gA 4 SS (fun i=>.bool (T i)))∧Hid (Sound (lsM m) (rowM m) (finM' m) S (apO T S))∧Hid (again=false→∀ p q,p<S→q<S→(T (p*S+q)=false↔SameL (lsM m) (rowM m) (finM' m) p q))∧Hid (offN T SS+(if again=true then 1 else 0)≤gk)∧Hid (Below gA W4 wr)∧gA<wr.heap.size)
  case atStart=>exact⟨fun _=>false,true,rfl,HRA4,HSND0,zh (fun h=>by cases h),HOF0,zh (wAi _ _),hz4⟩
  case round =>
   clear HRA4 HSND0 HOF0 hz4;obtain⟨T,again,rfl,HRA,HSND,HFIN,HOF,HBK,hzr⟩:=hrel;cases again
   ·have HSAME:=zh (
     HFIN.o rfl)
    have HFI:=zh (zSi (m:=m) HT.o HSAME.o hSp (HU.o hSp));clear HFIN HOF HSND HSAME;obtain⟨W5,hW5⟩:∃ z,z=wr:=⟨_,rfl⟩;rw[← hW5] at HRA HBK hzr ⊢;clear hW5;have hmk:=run_make_row' (P:=Try.prog) 26 3 (.int .i64 0) 8 Try.underlying26 zAH rfl .i64 .i64 S (by omega) (by omega) W5;(go_upto_region 32 with fail);clear hmk;generalize hW6:World.alloc _ _=W6;obtain⟨gL,hgL⟩:∃ z,z=W5.heap.size:=⟨_,rfl⟩;have HRL6:=zh (show W6.rowIs gL 3 S (fun i=>.int .i64 ((if i<0 then lq T S i S else 0:Nat):Int)) by rw[← hW6,hgL];exact (World.rowIs_made W5 (.int .i64 0) S 3).congr (fun i _=>by simp));have HRA6:=zh (show W6.rowIs gA 4 SS (fun i=>.bool (T i)) by rw[← hW6];exact HRA.o.alloc _);have HB6:=zh (show Below gA W4 W6 by rw[← hW6];exact HBK.o.alloc (by omega) _);(have hAL:gA<gL:=by omega);have hz6:gL<W6.heap.size:=HRL6.o.lt;have HGL:=zh hgL;simp only[← hgL];clear hW6 hgL HRA HBK hzr
    go_loopw [118] (fun iv wr=>∃ p:Nat,p≤S∧iv=.int .i64 (p:Int)∧Hid (wr.rowIs gL 3 S (fun i=>.int .i64 ((if i<p then lq T S i S else 0:Nat):Int)))∧Hid (Below gL W6 wr)∧gL<wr.heap.size) (fun iv _=>S-(intOf iv).toNat)
    case atStart=>exact⟨0,by omega,rfl,HRL6,zh (wAi _ _),hz6⟩
    case round =>
     clear HRL6 hz6;obtain⟨p,hp,rfl,HRL,HBK,hzr⟩:=hrel;by_cases hpS:p<S
     ·obtain⟨PS,hPS⟩:∃ z,z=p*S:=⟨_,rfl⟩;have hPSI:(p:Int)*(S:Int)=(PS:Int):=by rw[hPS];push_cast;rfl
      have hPSb:PS+S≤SS:=by
       have h1:=wAm S (show p+1≤S by omega);rw[wAs] at h1;rw[hPS,HSQ.o];exact h1
      have HRL1:=zh (show wr.rowIs gL 3 S (fun i=>.int .i64 ((if i<p then lq T S i S else if i=p then lq T S p 0 else 0:Nat):Int)) from HRL.o.congr (fun i _=>by
       by_cases e:i<p
       · rw[if_pos e,if_pos e]
       ·by_cases e2:i=p
        · rw[if_neg e,if_neg e,if_pos e2];rfl
        · rw[if_neg e,if_neg e,if_neg e2]))
      have HPS:=zh hPS;obtain⟨W7,hW7⟩:∃ z,z=wr:=⟨_,rfl⟩;rw[← hW7] at HRL1 HBK hzr ⊢;clear hW7 HRL hPS;go_upto_region 35 with fail
      go_loopw [16] (fun qv wr=>∃ (j:Nat) (x:Int),j≤S∧x=(S:Int)-1-j∧qv=.int .i64 x∧Hid (wr.rowIs gL 3 S (fun i=>.int .i64 ((if i<p then lq T S i S else if i=p then lq T S p j else 0:Nat):Int)))∧Hid (Below gL W6 wr)∧gL<wr.heap.size) (fun qv _=>(intOf qv+1).toNat)
      case atStart=>exact⟨0,(S:Int)-1,by omega,by omega,rfl,HRL1,HBK,hzr⟩
      case round =>
       clear HRL1 HBK hzr;obtain⟨j,x,hj,hx,rfl,HRL,HBK,hzr⟩:=hrel;by_cases hjS:j<S
       ·obtain⟨qn,hqn⟩:∃ z:Nat,z=S-1-j:=⟨_,rfl⟩;(have hxq:x=(qn:Int):=by omega);(have hqS:qn<S:=by omega);subst hxq;have t2:decide ((qn:Int)≥0)=true:=decide_eq_true (by omega);have t2':decide ((0:Int)≤(qn:Int))=true:=decide_eq_true (by omega);have rA:=HRA6.o.of_block (HBK.o.block gA hAL);have cA:=rA.cell (show PS+qn<SS by omega);(have lA:gA<wr.heap.size:=by omega);have cL:=HRL.o.cell hpS;have fL:=HRL.o.frozen p;have HXN:=zh (show (qn:Int)-1=(S:Int)-1-((j+1:Nat):Int) by omega)
        have HLQ:=zh (show lq T S p (j+1)=if T (PS+qn)=false then qn else lq T S p j by
         show (if T (p*S+(S-1-j))=false then S-1-j else lq T S p j)=_
         rw[← hqn,HPS.o])
        clear rA hx hqn;cases hT1:T (PS+qn)
        ·rw[hT1] at cA
         have HRN:=zh ((HRL.o.set p (.int .i64 (qn:Int))).congr (g:=fun i=>.int .i64 ((if i<p then lq T S i S else if i=p then lq T S p (j+1) else 0:Nat):Int)) (fun i _=>by
          rw[HLQ.o,if_pos hT1];by_cases e:i=p
          · subst e;simp
          · rw[if_neg e,if_neg e,if_neg e]))
         clear hT1;go_wp2;go_roundw
         case rel=>exact⟨j+1,(qn:Int)-1,by omega,HXN.o,rfl,HRN,zh (HBK.o.setCell (p:=⟨gL,p,none⟩) (by exact wAb _) _),by simp[World.setCell];omega⟩
         case measure=>simp[intOf]<;>omega
        ·rw[hT1] at cA
         have HRN:=zh (HRL.o.congr (g:=fun i=>.int .i64 ((if i<p then lq T S i S else if i=p then lq T S p (j+1) else 0:Nat):Int)) (fun i _=>by
          have e:=HLQ.o;rw[if_neg (by rw[hT1];simp)] at e
          rw[e]))
         clear hT1;go_wp2;go_roundw
         case rel=>exact⟨j+1,(qn:Int)-1,by omega,HXN.o,rfl,HRN,HBK,hzr⟩
         case measure=>simp[intOf]<;>omega
       ·(obtain rfl:S=j:=by omega);(have hx1:x = -1:=by omega);subst hx1
        have HRN:=zh (HRL.o.congr (g:=fun i=>.int .i64 ((if i<p+1 then lq T S i S else 0:Nat):Int)) (fun i _=>by
         by_cases e:i<p
         · rw[if_pos e,if_pos (by omega)]
         ·by_cases e2:i=p
          · subst e2;rw[if_neg e,if_pos rfl,if_pos (by omega)]
          · rw[if_neg e,if_neg e2,if_neg (by omega)]))
        go_wp2;go_roundw
        case rel=>exact⟨p+1,by omega,by go_num,HRN,HBK,hzr⟩
        case measure=>simp[intOf];omega
     ·(obtain rfl:S=p:=by omega);(obtain⟨cq,hcq⟩:∃ f:Nat→Nat,f=fun p=>lq T S p S:=⟨_,rfl⟩);rw[← hcq] at HFI;have HRLN:=zh (HRL.o.congr (g:=fun i=>.int .i64 ((cq i:Nat):Int)) (fun i hi=>by rw[if_pos hi,hcq]));clear hcq HRL;obtain⟨W7,hW7⟩:∃ z,z=wr:=⟨_,rfl⟩;rw[← hW7] at HRLN HBK hzr ⊢;clear hW7;(go_upto_region 43 with fail);generalize hW14:World.alloc _ _=W14;obtain⟨gO,hgO⟩:∃ z,z=W7.heap.size:=⟨_,rfl⟩;obtain⟨O,hO⟩:∃ z,z=gO+1:=⟨_,rfl⟩
      have HOD14:=zh (show W14.ownsRow gO 3 1 (.slice (some ⟨gO,0,none⟩) 1 1) 1 (intRow (castL (StW m cq 0).1.1)) by
       rw[← hW14];have hb:Blk (W7.alloc (Obj.cells #[.int .i64 0] 3)) gO 3 #[.int .i64 0]:=Blk.at_ hgO
       exact zIZ (base:=gO) (hb.alloc _) (wAb _) (by simp[maxLen]))
      have HMG14:=zh (show Mg 25 64 69 W14 O gO 0 0 (StW m cq 0).1.2 0 (StW m cq 0).2 by
       rw[← hW14]
       exact Mg.start (Blk.at_ (by rw[hO,hgO];simp)) gO)
      have HB14:=zh (show Below gO W7 W14 by rw[← hW14,hgO];go_grown);have hz14:O<W14.heap.size:=HMG14.o.lt;(have hgO1:gO<O:=by omega);(have hLO:gL<gO:=by omega);have HRL14:=zh (HRLN.o.of_block (HB14.o.block gL hLO));have HB74:=zh (show Below gA W4 W14 from HB6.o.trans ((HBK.o.mono (by omega)).trans (HB14.o.mono (by omega))));have HX14:=zh (HX4.o.below HB74.o (by omega));have HM14:=zh ((HM4.o.below HB74.o (by omega)).mono (show B≤X by omega));have HRR14:=zh (HRR4.o.below HB74.o (wAb _));have HNL14:=zh (HNL4.o.below HB74.o (wAb _));have HR14:=zh ((HR3.o.below HBA.o (by omega)).below HB74.o (by omega));have HBW14:=zh (show Below X w W14 from (HB3.o.trans (HBA.o.mono (by omega))).trans (HB74.o.mono (by omega)));have HGO:=zh hgO;have HHO:=zh hO;simp only[← hgO];simp only[← hO];have HP0:=zh (show (StW m cq 0).1.1.length=1 from rfl);clear hW14 hgO hO HRLN HBK hzr
      go_loopw [17,19] (fun ov iv wr=>∃ (i p q' r:Nat),i≤p∧iv=.int .i64 (i:Int)∧q'≤2000*i∧r≤i∧p≤S∧Hid ((StW m cq i).1.1.length=p)∧Hid (wr.ownsRow gO 3 1 ov p (intRow (castL (StW m cq i).1.1)))∧Hid (Mg 25 64 69 wr O gO 0 q' (StW m cq i).1.2 r (StW m cq i).2)∧Hid (Below gO W14 wr)∧O<wr.heap.size) (fun _ iv _=>S-(intOf iv).toNat)
      case atStart=>exact⟨0,1,0,0,by omega,rfl,by omega,by omega,by omega,HP0,HOD14,HMG14,zh (wAi _ _),hz14⟩
      case round =>
       clear HOD14 HMG14 hz14 HP0;obtain⟨i,p,q',r,hip,rfl,hq',hri,hpS',HPL,HOD,HMG,HBK,hzr⟩:=hrel;obtain⟨A17,c17,hu17,_,_⟩:=zAa HOD.o;subst hu17;by_cases hlt:i<p
       ·obtain⟨v,hv⟩:∃ v,(StW m cq i).1.1[i]? = some v:=⟨_,wAl (by rw[HPL.o];exact hlt)⟩;have hvS:v<S:=HFI.o.rng i v (wAn hv);have HNX:=zh (zB5 hv);have HV:=zh hv;have HVM:=zh (wAn hv);have HPR:=zh (show ∀ st:List Nat×List Arc,∀ p,(∃ k,(bfsRow i p st).1=st.1++k) from fun st p=>zAS i p st)
        have HOD0:=zh (show wr.ownsRow gO 3 1 (.slice A17 p c17) (bfsRow i (stpJ (lsM m) (rowM m v) cq 0) (StW m cq i).1).1.length (intRow (castL (bfsRow i (stpJ (lsM m) (rowM m v) cq 0) (StW m cq i).1).1)) by
         have h:=HOD.o;rw[zIo]
         show wr.ownsRow gO 3 1 _ (StW m cq i).1.1.length _
         rw[HPL.o]
         exact h)
        have HMG0:=zh (show Mg 25 64 69 wr O gO 0 q' (bfsRow i (stpJ (lsM m) (rowM m v) cq 0) (StW m cq i).1).2 r (StW m cq i).2 from HMG.o);obtain⟨W15,hW15⟩:∃ z,z=wr:=⟨_,rfl⟩;rw[← hW15] at HOD0 HMG0 HBK hzr ⊢;clear hW15 hv HOD HMG;go_upto_region 46 with fail
        go_loopw [17,150] (fun ov jv wr=>∃ (j p q1:Nat),j≤q∧jv=.int .i64 (j:Int)∧q1≤2000*i+j∧p≤S∧Hid ((bfsRow i (stpJ (lsM m) (rowM m v) cq j) (StW m cq i).1).1.length=p)∧Hid (wr.ownsRow gO 3 1 ov p (intRow (castL (bfsRow i (stpJ (lsM m) (rowM m v) cq j) (StW m cq i).1).1)))∧Hid (Mg 25 64 69 wr O gO 0 q1 (bfsRow i (stpJ (lsM m) (rowM m v) cq j) (StW m cq i).1).2 r (StW m cq i).2)∧Hid (Below gO W14 wr)∧O<wr.heap.size) (fun _ jv _=>q-(intOf jv).toNat)
        case atStart=>exact⟨0,p,q',by omega,rfl,by omega,hpS',HPL,zh (by have h:=HOD0.o;rw[show (bfsRow i (stpJ (lsM m) (rowM m v) cq 0) (StW m cq i).1).1.length=p from HPL.o] at h;exact h),HMG0,HBK,hzr⟩
        case round =>
         clear HOD0 HMG0 hzr HBK;obtain⟨j,p',q1,hj,rfl,hq1,hpS2,HPL',HOD,HMG,HBK,hzr⟩:=hrel;have HB20:=zh (HB74.o.trans (HBK.o.mono (by omega)));obtain⟨ST,hST⟩:∃ z,z=bfsRow i (stpJ (lsM m) (rowM m v) cq j) (StW m cq i).1:=⟨_,rfl⟩
         have HSV:=zh (show ST.1[i]? = some v by
          obtain⟨k,hk⟩:=zAS i (stpJ (lsM m) (rowM m v) cq j) (StW m cq i).1;rw[hST,hk,List.getElem?_append_left (by rw[HPL.o];exact hlt)]
          exact HV.o)
         have HND:=zh (show ST.1.Nodup by rw[hST];exact zBq _ _ _ (zBJ i));have HSR:=zh (show ∀ z∈ST.1,z<S by rw[hST];exact zBQ (P:=fun z=>z<S) (HFI.o.rng i) (HFI.o.steps hvS))
         have hip':i<p':=by
          have h:=(List.getElem?_eq_some_iff.1 HSV.o).1;rw[hST,HPL'.o] at h;exact h
         rw[← hST] at HPL' HOD HMG;by_cases hjq:j<q
         ·obtain⟨ALv,nLv,cLv,hLv,HLv1,hLv2,hLv3,hLv4⟩:=HNL14.o;simp only[Value.slice.injEq] at hLv;obtain⟨rfl,rfl,rfl⟩:=hLv;obtain⟨b3,o3,x,rfl,hb3,d3,HXL⟩:=zAO (hLv4.below HBK.o (by omega)) hjq;obtain⟨b1,o1,A2,n2,c2,r2,rfl,hb1,d1,HR2,HL2,hc2,hn2b,hrd2⟩:=zEo (HRR14.o.below HBK.o (by omega)) hvS;(have hr2:r2=rowM m v:=by rw[← HR2.o,HROW.o v hvS]);(have hn2:n2=q:=by rw[← HL2.o,hr2,HT.o.len v hvS,HQ.o]);subst hn2;obtain⟨b2,o2,t,rfl,hb2,d2,HTX⟩:=zAO hrd2 hjq;(have lb1:b1<wr.heap.size:=by omega);(have lb2:b2<wr.heap.size:=by omega);(have lb3:b3<wr.heap.size:=by omega);(have hjr:j<r2.length:=by rw[HL2.o];exact hjq);have HSJ:=zh (show stpJ (lsM m) (rowM m v) cq (j+1)=stpJ (lsM m) (rowM m v) cq j++if 0≤t then [(x,cq t.toNat)] else [] from zID (zFg (by rw[HQ.o];exact hjq) HXL.o) (by rw[← hr2];exact zFg hjr HTX.o));have htS:t<(S:Int):=HT.o.rng v hvS t (by rw[← hr2,← HTX.o];simp[wAr,hjr]);obtain⟨gD,cD,rfl,hgD1,hgD2⟩:=HOD.o.form (by omega);have cO:=HOD.o.cellAt i (by omega);rw[show (intRow (castL ST.1))[i]? = some (.int .i64 ((v:Nat):Int)) by unfold intRow castL;rw[wAh,wAh,HSV.o];rfl] at cO;obtain⟨_,_,hgv2,hpc,_⟩:=zAa HOD.o;(have hpc:p'≤cD:=by injection hgv2 with _ _ e3<;>omega);clear hr2 hjr HXL HTX hrd2 hLv4 hgv2;by_cases ht0:0≤t
          ·have t2:decide (t<0)=false:=decide_eq_false (by omega);obtain⟨cc,hcc⟩:∃ z,z=cq t.toNat:=⟨_,rfl⟩;have hcS:cc<S:=by rw[hcc];exact HFI.o.low _ (by omega)
           have HSN:=zh (show bfsRow i (stpJ (lsM m) (rowM m v) cq (j+1)) (StW m cq i).1=(addL ST.1 cc,ST.2++[⟨(i:Int),(((addL ST.1 cc).idxOf cc:Nat):Int),x,x,0⟩]) by
            rw[HSJ.o,if_pos ht0,← hcc,zCs,← hST])
           have HSK:=zh (show (addL ST.1 cc).length≤S from zDW (zCl HND.o) (fun z hz=>by
            rcases addL_mem.1 hz with hz | rfl
            · exact HSR.o z hz
            · exact hcS))
           have HRLK:=zh (HRL14.o.of_block (HBK.o.block gL hLO));have HCC:=zh hcc;obtain⟨W16,hW16⟩:∃ z,z=wr:=⟨_,rfl⟩;rw[← hW16] at HOD HMG HBK hzr cO d1 d2 d3 lb1 lb2 lb3 HRLK HB20 hgD2 ⊢;clear hW16 hcc hST;go_upto_region 52 with fail
           go_loopw [23,169] (fun av tv wr=>∃ (k:Nat),k≤p'∧av=.int .i64 (atF ST.1 cc k)∧tv=.int .i64 (k:Int)∧wr=W16) (fun _ tv _=>p'-(intOf tv).toNat)
           case atStart=>exact⟨0,by omega,by rw[zPX],rfl,rfl⟩
           case round =>
            obtain⟨k,hk,rfl,rfl,hwr⟩:=hrel;have HW:=zh hwr;by_cases hkp:k<p'
            ·obtain⟨u,hu⟩:∃ u,ST.1[k]? = some u:=⟨_,wAl (by rw[HPL'.o];exact hkp)⟩;have cK:=HOD.o.cellAt k (by omega);rw[show (intRow (castL ST.1))[k]? = some (.int .i64 ((u:Nat):Int)) by unfold intRow castL;rw[wAh,wAh,hu];rfl] at cK;have cC:=HRLK.o.cell (show t.toNat<S by omega);rw[← HCC.o] at cC;have lL:=HRLK.o.lt;have HAN:=zh (zPs HND.o (u:=cc) hu);rw[← hwr] at cK cC lL hgD2;clear hwr hu;by_cases he:u=cc
             ·have HAE:=zh (show atF ST.1 cc (k+1)=(k:Int) by rw[HAN.o,if_pos he]);(have t3:((u:Int)==(cc:Int))=true:=by simp[he]);subst he;clear HAN;go_wp2;go_roundw
              case rel=>exact⟨k+1,by omega,by rw[HAE.o],by go_num,HW.o⟩
              case measure=>simp[intOf];omega
             ·have HAE:=zh (show atF ST.1 cc (k+1)=atF ST.1 cc k by rw[HAN.o,if_neg he]);(have t3:((u:Int)==(cc:Int))=false:=by simp;omega);clear HAN he;go_wp2;go_roundw
              case rel=>exact⟨k+1,by omega,by rw[HAE.o],by go_num,HW.o⟩
              case measure=>simp[intOf];omega
            ·(obtain rfl:p'=k:=by omega);have HAT:=zh (show atF ST.1 cc p'=plc ST.1 cc from zRJ (by rw[HPL'.o];exact wAb _));rw[HAT.o];subst hwr;clear HAT;obtain⟨pv,hpv⟩:∃ z,z=plc ST.1 cc:=⟨_,rfl⟩;rw[← hpv];have HPV:=zh hpv;obtain⟨bb,hbb⟩:∃ b:Bool,decide (pv<0)=b:=⟨_,rfl⟩;have HBB:=zh hbb;obtain⟨ix,hix⟩:∃ z,z=(addL ST.1 cc).idxOf cc:=⟨_,rfl⟩;rw[← hix] at HSN;have HIX:=zh hix;have hrng0:=zRy ST.1 cc;rw[← hpv] at hrng0;clear hpv hix;(go_upto_if 183 with fail);clear hbb
             go_cut [17,23] from 184 to 192 (fun s17 s23 wx=>s23=.int .i64 (ix:Int)∧∃ p2:Nat,Hid ((addL ST.1 cc).length=p2)∧Hid (wx.ownsRow gO 3 1 s17 p2 (intRow (castL (addL ST.1 cc))))∧Hid (Mg 25 64 69 wx O gO 0 q1 ST.2 r (StW m cq i).2)∧Hid (Below gO wr wx)∧O<wx.heap.size)
             case first =>
              cases bb
              ·have hm:cc∈ST.1:=by
                have h:=of_decide_eq_false HBB.o;rw[HPV.o,zHd] at h;exact Classical.byContradiction h
               have HOL:=zh (zNh hm);have HPI:=zh (show pv=(ix:Int) by rw[HPV.o,HIX.o,← zQD,HOL.o]);clear hm;go_wp2;go_meet;exact⟨by rw[HPI.o],p',zh (by rw[HOL.o];exact HPL'.o),zh (by rw[HOL.o];exact HOD.o),HMG,zh (wAi _ _),hzr⟩
              ·have hm:cc∉ST.1:=by
                have h:=of_decide_eq_true HBB.o;rw[HPV.o,zHd] at h;exact h
               have HAP:=zh (show addL ST.1 cc=ST.1++[cc] by unfold addL;rw[if_neg hm])
               have HPI:=zh (show (p':Int)=(ix:Int) by
                rw[HIX.o,HAP.o,List.idxOf_append,if_neg hm]
                have:=HPL'.o
                simp;omega)
               have cC:=HRLK.o.cell (show t.toNat<S by omega);rw[← HCC.o] at cC;have lL:=HRLK.o.lt;clear hm;go_wp2_with (at_builtin;refine wpList_append_own_at _ rfl (.tmp 186) (.tmp 191) 26 rfl gO 3 i0 _ 1 8 Try.underlying26 hi0 hz0 hz1 hz2 rfl (by omega) (.slice (some ⟨gD,0,none⟩) p' cD) p' _ rfl (HOD.o.alloc _) ⟨wr.heap.size,0,none⟩ 1 1 (intRow [(cc:Int)]) rfl (by rfl) (wAk (cs:=(intRow [(cc:Int)]).toArray) (t:=3) (fr:=(0,0)) (Blk.at_ rfl)) (zAg _) (by simp only[maxLen];omega) (by omega) (by simp<;>omega) ?_;intro v' w6 hown2 hg2 _ hat2);have hs6:=hg2.size;simp at hs6;have H2:=zh ((HMG.o.alloc _).own (HOD.o.alloc _) (by decide) (by decide) (by decide) hg2);have H3:=zh (((wAi gO wr).alloc (by omega) _).grown hg2 (by simp;omega) (fun z hz=>(HOD.o.lt z hz).1));have H4:=zh hown2;clear hown2 hg2 hat2;go_meet;exact⟨by rw[HPI.o],p'+1,zh (by rw[HAP.o,List.length_append,HPL'.o];rfl),zh (by rw[HAP.o,zAA,zAd];exact H4.o),H2,H3,by omega⟩
             case rest =>
              obtain⟨rfl,p2,HP2,HOD2,HMG2,HB22,hz22⟩:=hcut;have HB23:=zh (HBK.o.trans HB22.o);obtain⟨A5,c5,AF5,cf5,bO5,hown5,hfin5⟩:=HMG2.o;have lO:=bO5.lt;have oc1:=bO5.cell 1;have of1:=bO5.frozen 1;simp at oc1;have HBKO:=zh bO5;have HOWN:=zh hown5;have HFIN:=zh hfin5;have HLOW:=zh (show ∀ z,(Value.slice A5 q1 c5).ownBlock=some z→gO≤z from fun z hz=>(hown5.lt z hz).1);have hneO:(Value.slice A5 q1 c5).ownBlock≠some O:=zAe hown5 bO5 (by decide);have HN27:=zh (zAt HOD2.o hown5 (by decide));have HNO:=zh (zAe HOD2.o bO5 (by decide))
              have hqb5:q1≤800000:=by
               have h:2000*i≤2000*200:=wAp _ (by omega);omega
              clear HMG2 bO5 hown5 hfin5 HOD HMG cO d1 d2 d3 lb1 lb2 lb3 hgD2;go_wp2_with (at_builtin;refine wpList_append_own_at _ rfl (.tmp 194) (.tmp 200) 22 rfl gO 64 ia _ 5 40 Try.underlying22 ha0 ha1 ha2 ha3 rfl (by omega) (.slice A5 q1 c5) q1 _ rfl (HOWN.o.alloc _) ⟨wc.heap.size,0,none⟩ 1 1 (arcRow [⟨(i:Int),(ix:Int),x,x,0⟩]) rfl (by rfl) (wAk (cs:=(arcRow [⟨(i:Int),(ix:Int),x,x,0⟩]).toArray) (t:=64) (fr:=(0,0)) (Blk.at_ (by first | rfl | simp))) (zAq _) (by simp only[maxLen];omega) (by omega) (by simp<;>omega) ?_;intro v' w6 hown2 hg2 _ hat2;obtain⟨Av,cv,rfl,hkcv,_⟩:=zAa hown2;have o1':=zAf hg2 hneO (o:=1) (v:=(.slice A5 q1 c5)) (by exact (HBKO.o.alloc _).cell 1);have bO6:=(HBKO.o.alloc _).grown hg2 (Ne.symm hneO);have of1':=bO6.frozen 1;have lO6:=bO6.lt);have hs6:=hg2.size;simp at hs6;have HNEW:=zh (zCI (HBKO.o.alloc _) (HOWN.o.alloc _) (HFIN.o.alloc _) (by decide) (by decide) (by decide) hg2 hown2);have HBN:=zh (((HB23.o.alloc (by omega) _).grown hg2 (by simp<;>omega) (fun z hz=>HLOW.o z hz)).setCell (p:=⟨O,1,none⟩) (by show gO≤O;omega) (.slice Av (q1+1) cv));have hod6:=(HOD2.o.alloc _).kept hg2 HN27.o;have HON:=zh (ownsRow_setCell_other hod6 (a:=⟨O,1,none⟩) HNO.o (.slice Av (q1+1) cv));(have hp2S:p2≤S:=by rw[← HP2.o];exact HSK.o);clear hown2 hg2 hat2 bO6 hod6;go_roundw
              case rel=>exact⟨j+1,p2,q1+1,by omega,by go_num,by omega,hp2S,zh (by rw[HSN.o];exact HP2.o),zh (by rw[HSN.o];exact HON.o),zh (by rw[HSN.o];exact HNEW.o),HBN,by simp[World.setCell];omega⟩
              case measure=>simp[intOf];omega
          ·have t2:decide (t<0)=true:=decide_eq_true (by omega);have HSN:=zh (show stpJ (lsM m) (rowM m v) cq (j+1)=stpJ (lsM m) (rowM m v) cq j by rw[HSJ.o,if_neg ht0,List.append_nil]);rw[hST] at HPL' HOD HMG;clear ht0 hST;go_wp2;go_roundw
           case rel=>exact⟨j+1,p',q1,by omega,by go_num,by omega,hpS2,zh (by rw[HSN.o];exact HPL'.o),zh (by rw[HSN.o];exact HOD.o),zh (by rw[HSN.o];exact HMG.o),HBK,hzr⟩
           case measure=>simp[intOf];omega
         ·(obtain rfl:q=j:=by omega);obtain⟨gD,cD,rfl,hgD1,hgD2⟩:=HOD.o.form (by omega);have cO:=HOD.o.cellAt i (by omega);rw[show (intRow (castL ST.1))[i]? = some (.int .i64 ((v:Nat):Int)) by unfold intRow castL;rw[wAh,wAh,HSV.o];rfl] at cO;obtain⟨_,_,hgv2,hpc,_⟩:=zAa HOD.o;(have hpc:p'≤cD:=by injection hgv2 with _ _ e3<;>omega);obtain⟨fx,hfx⟩:∃ b:Bool,b=finM' m v:=⟨_,rfl⟩;(obtain⟨SF,hSF⟩:∃ z,z=if fx=true then (StW m cq i).2++[⟨(i:Int),0⟩] else (StW m cq i).2:=⟨_,rfl⟩);have HSF:=zh hSF
          have HST1:=zh (show StW m cq (i+1)=(ST,SF) by
           have h:=HNX.o;rw[FwI.cst,HQ.o,← hfx,← hSF] at h;rw[hST]
           exact h)
          obtain⟨f1,hf1⟩:∃ z,z=finW m.fins (v:Int):=⟨_,rfl⟩
          have HF1:=zh (show decide (0≤f1)=fx by
           have h:=HW0.o v;rw[← hf1,← hfx] at h;cases fx
           · simp at h;simp;omega
           · simp at h;simp;omega)
          have bX:=HX14.o.below HBK.o (by omega);have x0:=bX.cell 0;have x1:=bX.cell 1;have x2:=bX.cell 2;simp at x0 x1 x2;have lX:=bX.lt;have HMR:=zh (HM14.o.below HBK.o (by omega));have HC1:=zh (fun (W:World) (hW:X≤W.heap.size) (h:MachAt W X (.agg #[.int .i64 (S:Int),.slice A n c,.slice AF nf cf]) m)=>zD5 _ m (v:Int) W X hW h);rw[← hf1] at HC1;obtain⟨W16,hW16⟩:∃ z,z=wr:=⟨_,rfl⟩;rw[← hW16] at HOD HMG HBK hzr cO x0 x1 x2 lX HMR hgD2 HB20 ⊢;clear hW16 hf1 hfx hSF hST bX hgv2;go_upto_region 62 with fail
          go_cut [210] from 204 to 210 (fun s210 wx=>s210=.bool fx∧Hid (Below W16.heap.size W16 wx))
          case first =>
           refine zAE (fun w'=>w'.cell? ⟨X,0,none⟩=some (.int .i64 (S:Int))∧w'.cell? ⟨X,1,none⟩=some (.slice A n c)∧w'.cell? ⟨X,2,none⟩=some (.slice AF nf cf)∧w'.cell? ⟨gD,i,none⟩=some (.int .i64 (v:Int))) 5 [(0,false),(1,false),(2,false),(3,false),(4,false)] (by kernel_rfl) (by kernel_rfl) ?_ ?_
           · go_simp
           simp only[wAq,wAu]
           repeat (refine mix_q (v:=?_) (by rfl) (by rfl) ?_ ?_;rotate_left;(focus (intro w' hC;(try dsimp only at hC);go_simp;(first | done | with_reducible rfl)));simp only[Act.put,wAa,wAf,wAg,wAe,wAc,wAd])
           refine zAs ?_;(try simp only[Act.put,wAa,wAf,wAg,wAe,wAc,wAd]);go_wp2_with fail;refine (HC1.o _ (by simp;omega) (HMR.o.below ((wAi X W16).drew) (wAb _))).mono ?_;rintro e w8 ⟨rfl,hb8⟩;have HB8:=zh (((wAi W16.heap.size W16).drew).trans (hb8.mono (by simp)));clear hb8;go_wp2;refine NoPanic.normal ?_;go_wp2;go_meet;exact⟨by rw[HF1.o],HB8⟩
          case rest =>
           obtain⟨rfl,HB8⟩:=hcut;have HOD8:=zh (zAG HOD.o HB8.o);have HMG8:=zh (HMG.o.below HB8.o);have HBK8:=zh (HBK.o.trans (HB8.o.mono (by omega)));(have hz8:O<wc.heap.size:=by have:=HB8.o.size;omega);obtain⟨W17,hW17⟩:∃ z,z=wc:=⟨_,rfl⟩;rw[← hW17] at HOD8 HMG8 HBK8 hz8 ⊢;have HPN:=zh (show (StW m cq (i+1)).1.1.length=p' by rw[HST1.o];exact HPL'.o);(have hq1':q1≤2000*(i+1):=by omega);clear hW17 HOD HMG HBK hzr cO x0 x1 x2 lX HMR hgD2 HC1 HB8 HB20;cases fx
           ·have HE:=zh (show SF=(StW m cq i).2 by rw[HSF.o];simp);go_wp2;go_roundw
            case rel=>exact⟨i+1,p',q1,r,by omega,by go_num,hq1',by omega,hpS2,HPN,zh (by rw[HST1.o];exact HOD8.o),zh (by rw[HST1.o,HE.o];exact HMG8.o),HBK8,hz8⟩
            case measure=>simp[intOf];omega
           ·have HE:=zh (show SF=(StW m cq i).2++[⟨(i:Int),0⟩] by rw[HSF.o];simp);obtain⟨A5,c5,AF5,cf5,bO5,hown5,hfin5⟩:=HMG8.o;have lO:=bO5.lt;have oc2:=bO5.cell 2;have of2:=bO5.frozen 2;simp at oc2;have HBKO:=zh bO5;have HOWN:=zh hown5;have HFIN:=zh hfin5;have HLOW:=zh (show ∀ z,(Value.slice AF5 r cf5).ownBlock=some z→gO≤z from fun z hz=>(hfin5.lt z hz).1);have hneO:(Value.slice AF5 r cf5).ownBlock≠some O:=zAe hfin5 bO5 (by decide);have HN27:=zh (zAt HOD8.o hfin5 (by decide));have HNO:=zh (zAe HOD8.o bO5 (by decide));clear HMG8 bO5 hown5 hfin5;go_wp2_with (at_builtin;refine wpList_append_own_at _ rfl (.tmp 212) (.tmp 215) 23 rfl gO 69 iF _ 2 16 Try.underlying23 hF0 hF1 hF2 hF3 rfl (by omega) (.slice AF5 r cf5) r _ rfl (HFIN.o.alloc _) ⟨W17.heap.size,0,none⟩ 1 1 (finRow [⟨(i:Int),0⟩]) rfl (by rfl) (wAk (cs:=(finRow [⟨(i:Int),0⟩]).toArray) (t:=69) (fr:=(0,0)) (Blk.at_ (by first | rfl | simp))) (zA9 _) (by simp only[maxLen];omega) (by omega) (by simp<;>omega) ?_;intro v' w6 hown2 hg2 _ hat2;obtain⟨Av,cv,rfl,hkcv,_⟩:=zAa hown2;have o2':=zAf hg2 hneO (o:=2) (v:=(.slice AF5 r cf5)) (by exact (HBKO.o.alloc _).cell 2);have bO6:=(HBKO.o.alloc _).grown hg2 (Ne.symm hneO);have of2':=bO6.frozen 2;have lO6:=bO6.lt);have hs6:=hg2.size;simp at hs6;have HNEW:=zh (zCz (HBKO.o.alloc _) (HOWN.o.alloc _) (HFIN.o.alloc _) (by decide) (by decide) (by decide) hg2 hown2);have HBN:=zh (((HBK8.o.alloc (by omega) _).grown hg2 (by simp<;>omega) (fun z hz=>HLOW.o z hz)).setCell (p:=⟨O,2,none⟩) (by show gO≤O;omega) (.slice Av (r+1) cv));have hod6:=(HOD8.o.alloc _).kept hg2 HN27.o;have HON:=zh (ownsRow_setCell_other hod6 (a:=⟨O,2,none⟩) HNO.o (.slice Av (r+1) cv));clear hown2 hg2 hat2 bO6 hod6;go_roundw
            case rel=>exact⟨i+1,p',q1,r+1,by omega,by go_num,hq1',by omega,hpS2,HPN,zh (by rw[HST1.o];exact HON.o),zh (by rw[HST1.o,HE.o];exact HNEW.o),HBN,by simp[World.setCell];omega⟩
            case measure=>simp[intOf];omega
       ·(obtain rfl:p=i:=by omega);have HDN:=zh (HFI.o.done (i:=p) hpS' (by rw[HPL.o];exact wAb _));have hpl:=HPL.o;rw[hpl] at HDN;obtain⟨A5,c5,AF5,cf5,bO5,hown5,hfin5⟩:=HMG.o;have bR:=HR14.o.below HBK.o (by omega);have HBW9:=zh (HBW14.o.trans (HBK.o.mono (by omega)));have HNO:=zh (zAe hown5 bO5 (by decide));have HNF:=zh (zAe hfin5 bO5 (by decide));have o0:=bO5.cell 0;have o1:=bO5.cell 1;have o2:=bO5.cell 2;have of0:=bO5.frozen 0;have q0:=bR.cell 0;have q1':=bR.cell 1;have q2:=bR.cell 2;have qf:=bR.frozen 0;have qf1:=bR.frozen 1;have qf2:=bR.frozen 2;simp at o0 o1 o2 q0 q1' q2;have lR:=bR.lt;have lO:=bO5.lt;(have hOw2:X+1≠O:=by omega);(have hOw4:O≠X+1:=by omega);(have hwg1:X+1<gO:=by omega);have HA9:=zh (ownsRow_setCell_below (ownsRow_setCell_below (ownsRow_setCell_below (ownsRow_setCell_other hown5 (a:=⟨O,0,none⟩) HNO.o (.int .i64 (p:Int))) (a:=⟨X+1,0,none⟩) hwg1 (.int .i64 (p:Int))) (a:=⟨X+1,1,none⟩) hwg1 (.slice A5 q' c5)) (a:=⟨X+1,2,none⟩) hwg1 (.slice AF5 r cf5));have HF9:=zh (ownsRow_setCell_below (ownsRow_setCell_below (ownsRow_setCell_below (ownsRow_setCell_other hfin5 (a:=⟨O,0,none⟩) HNF.o (.int .i64 (p:Int))) (a:=⟨X+1,0,none⟩) hwg1 (.int .i64 (p:Int))) (a:=⟨X+1,1,none⟩) hwg1 (.slice A5 q' c5)) (a:=⟨X+1,2,none⟩) hwg1 (.slice AF5 r cf5));have HBF:=zh ((((HBW9.o.setCell (p:=⟨O,0,none⟩) (by show X≤O;omega) (.int .i64 (p:Int))).setCell (p:=⟨X+1,0,none⟩) (by exact wAj _) (.int .i64 (p:Int))).setCell (p:=⟨X+1,1,none⟩) (by exact wAj _) (.slice A5 q' c5)).setCell (p:=⟨X+1,2,none⟩) (by exact wAj _) (.slice AF5 r cf5));have hqL:=zA6 hown5;have hrL:=zBv hfin5;obtain⟨LA,hLA⟩:∃ z,z=(StW m cq p).1.2:=⟨_,rfl⟩;obtain⟨LF,hLF⟩:∃ z,z=(StW m cq p).2:=⟨_,rfl⟩;rw[← hLA] at hqL HA9 HDN;rw[← hLF] at hrL HF9 HDN;have HQL:=zh hqL;have HRL9:=zh hrL
        have hqb5:q'≤800000:=by
         have h:2000*p≤2000*200:=wAp _ (by omega);omega
        clear bR bO5 hown5 hfin5 HMG HOD hpl hqL hrL hLA hLF;go_wp21;refine bodyPost_ret (v:=.agg #[.int .i64 (p:Int),.slice A5 q' c5,.slice AF5 r cf5]) (by simp[results,Try.results43,go_sem,lR,hOw2,hOw4,q0,q1',q2,qf,qf1,qf2]) rfl ?_;rw[HDN.o,← HXW.o];refine⟨_,rfl,?_,HBF.o⟩;(have hbq:q'≤big:=by unfold big;omega);(have hbr:r≤big:=by unfold big;omega);(have hwl:X≤gO:=by omega);have HA8:=HA9.o;have HF8:=HF9.o;obtain⟨_,_,e1,k1,_⟩:=zAa HA8;obtain⟨_,_,e2,k2,_⟩:=zAa HF8;(injection e1 with _ _ e1);(injection e2 with _ _ e2);subst e1 e2;have hq9:=HQL.o;have hr9:=HRL9.o;subst hq9 hr9;exact MachNew.of_own (m:=⟨(p:Int),LA,LF⟩) (base:=gO) (b2:=gO) HA8 HF8 hwl hwl k1 k2 hbq hbr
   ·have HAI0:=zh (show ApI (lsM m) (rowM m) (finM' m) S T T false (0*S) by rw[Nat.zero_mul];exact ApI.start HSND.o);have HOF1:=zh (show offN T SS+1≤gk from HOF.o);clear HFIN HOF HSND;obtain⟨W5,hW5⟩:∃ z,z=wr:=⟨_,rfl⟩;rw[← hW5] at HRA HBK hzr ⊢;clear hW5;go_upto_region 11 with fail
    go_loopw [7,42] (fun av iv wr=>∃ (T':Nat→Bool) (ag:Bool) (p:Nat),p≤S∧av=.bool ag∧iv=.int .i64 (p:Int)∧Hid (wr.rowIs gA 4 SS (fun i=>.bool (T' i)))∧Hid (ApI (lsM m) (rowM m) (finM' m) S T T' ag (p*S))∧Hid (Below gA W4 wr)∧gA<wr.heap.size) (fun _ iv _=>S-(intOf iv).toNat)
    case atStart=>exact⟨T,false,0,by omega,rfl,rfl,HRA,HAI0,HBK,hzr⟩
    case round =>
     clear HRA HAI0 hzr;obtain⟨T',ag,p,hp,rfl,rfl,HRA,HAI,HBK',hzr⟩:=hrel;by_cases hpS:p<S
     ·obtain⟨PS,hPS⟩:∃ z,z=p*S:=⟨_,rfl⟩;have hPSI:(p:Int)*(S:Int)=(PS:Int):=by rw[hPS];push_cast;rfl
      have hPSb:PS+S≤SS:=by
       have h1:=wAm S (show p+1≤S by omega);rw[wAs] at h1;rw[hPS,HSQ.o];exact h1
      have HAI1:=zh (show ApI (lsM m) (rowM m) (finM' m) S T T' ag (PS+0) by rw[hPS];exact HAI.o);have HPS:=zh hPS;obtain⟨W6,hW6⟩:∃ z,z=wr:=⟨_,rfl⟩;rw[← hW6] at HRA HBK' hzr ⊢;clear hW6 HAI hPS;go_upto_region 14 with fail
      go_loopw [7,46] (fun av iv wr=>∃ (T':Nat→Bool) (ag:Bool) (j:Nat),j≤S∧av=.bool ag∧iv=.int .i64 (j:Int)∧Hid (wr.rowIs gA 4 SS (fun i=>.bool (T' i)))∧Hid (ApI (lsM m) (rowM m) (finM' m) S T T' ag (PS+j))∧Hid (Below gA W4 wr)∧gA<wr.heap.size) (fun _ iv _=>S-(intOf iv).toNat)
      case atStart=>exact⟨T',ag,0,by omega,rfl,rfl,HRA,HAI1,HBK',hzr⟩
      case round =>
       clear HRA HAI1 HBK' hzr;obtain⟨T',ag,j,hj,rfl,rfl,HRA,HAI,HBK',hzr⟩:=hrel;by_cases hjS:j<S
       ·have cA:=HRA.o.cell (show PS+j<SS by omega);have fA:=HRA.o.frozen (PS+j);cases hTj:T' (PS+j)
        ·rw[hTj] at cA;have HTJ:=zh hTj;have bX:=HX4.o.below HBK'.o (by omega);have x0:=bX.cell 0;have x1:=bX.cell 1;have x2:=bX.cell 2;simp at x0 x1 x2;have lX:=bX.lt;have HMR:=zh ((HM4.o.below HBK'.o (by omega)).mono (show B≤X by omega));obtain⟨f1,hf1⟩:∃ z,z=finW m.fins (p:Int):=⟨_,rfl⟩;obtain⟨f2,hf2⟩:∃ z,z=finW m.fins (j:Int):=⟨_,rfl⟩;obtain⟨d0,hd0⟩:∃ b:Bool,b=diffJ (rowM m) (finM' m) S T' p j 0:=⟨_,rfl⟩
         have HD0:=zh (show (!(decide (f1<0)==decide (f2<0)))=d0 by
          rw[hd0,zK7,hf1,hf2,HW0.o p,HW0.o j]
          cases finM' m p<;>cases finM' m j<;>rfl)
         have HD0':=zh hd0;have HC1:=zh (fun (W:World) (hW:X≤W.heap.size) (h:MachAt W X (.agg #[.int .i64 (S:Int),.slice A n c,.slice AF nf cf]) m)=>zD5 _ m (p:Int) W X hW h);have HC2:=zh (fun (W:World) (hW:X≤W.heap.size) (h:MachAt W X (.agg #[.int .i64 (S:Int),.slice A n c,.slice AF nf cf]) m)=>zD5 _ m (j:Int) W X hW h);rw[← hf1] at HC1;rw[← hf2] at HC2;clear hTj hf1 hf2 hd0 bX;obtain⟨W7,hW7⟩:∃ z,z=wr:=⟨_,rfl⟩;rw[← hW7] at HRA HBK' hzr cA fA x0 x1 x2 lX HMR ⊢;clear hW7;go_upto_region 17 with fail
         go_cut [10] from 57 to 65 (fun s10 wx=>s10=.bool d0∧Hid (Below gA W7 wx)∧Hid (wx.rowIs gA 4 SS (fun i=>.bool (T' i))))
         case first =>
          refine zAE (fun w'=>w'.cell? ⟨X,0,none⟩=some (.int .i64 (S:Int))∧w'.cell? ⟨X,1,none⟩=some (.slice A n c)∧w'.cell? ⟨X,2,none⟩=some (.slice AF nf cf)) 8 [(0,false),(1,false),(4,false),(5,false),(2,true),(3,false),(6,true),(7,false)] (by kernel_rfl) (by kernel_rfl) ?_ ?_
          · go_simp
          simp only[wAq,wAu]
          repeat (refine mix_q (v:=?_) (by rfl) (by rfl) ?_ ?_;rotate_left;(focus (intro w' hC;(try dsimp only at hC);go_simp;(first | done | with_reducible rfl)));simp only[Act.put,wAa,wAf,wAg,wAe,wAc,wAd])
          refine mix_l (by rfl) (by rfl) (fun K hK=>?_);go_simp;refine (HC1.o _ (by simp;omega) (HMR.o.below ((wAi X W7).drew) (wAb _))).mono ?_;rintro e w8 ⟨rfl,hb8⟩;have hb8':Below W7.heap.size W7 w8:=((wAi W7.heap.size W7).drew).trans (hb8.mono (by simp));have y0:=zAb hb8' x0 lX;have y1:=zAb hb8' x1 lX;have y2:=zAb hb8' x2 lX;(have lX8:X<w8.heap.size:=by have:=hb8'.size;omega);have HB8:=zh hb8';clear hb8 hb8';refine hK _ _ ⟨y0,y1,y2⟩ ?_;clear hK K
          repeat (refine mix_q (v:=?_) (by rfl) (by rfl) ?_ ?_;rotate_left;(focus (intro w' hC;(try dsimp only at hC);go_simp;(first | done | with_reducible rfl)));simp only[Act.put,wAa,wAf,wAg,wAe,wAc,wAd])
          refine mix_l (by rfl) (by rfl) (fun K hK=>?_);go_simp;refine (HC2.o _ (by omega) (HMR.o.below HB8.o (by omega))).mono ?_;rintro e w9 ⟨rfl,hb9⟩;have z0:=zAb hb9 y0 lX8;have z1:=zAb hb9 y1 lX8;have z2:=zAb hb9 y2 lX8;have HB9:=zh (HB8.o.trans (hb9.mono (by have:=HB8.o.size;omega)));clear hb9;refine hK _ _ ⟨z0,z1,z2⟩ ?_;clear hK K
          repeat (refine mix_q (v:=?_) (by rfl) (by rfl) ?_ ?_;rotate_left;(focus (intro w' hC;(try dsimp only at hC);go_simp;(first | done | with_reducible rfl)));simp only[Act.put,wAa,wAf,wAg,wAe,wAc,wAd])
          refine zAs ?_;(try simp only[Act.put,wAa,wAf,wAg,wAe,wAc,wAd]);go_wp2;refine NoPanic.normal ?_;go_wp2;go_meet;exact⟨by rw[HD0.o],zh (HB9.o.mono (by omega)),zh (HRA.o.of_block (HB9.o.block gA (by omega)))⟩
         case rest =>
          obtain⟨rfl,HBC,HRA2⟩:=hcut;have HBW8:=zh (HBK'.o.trans HBC.o);have hz8:gA<wc.heap.size:=HRA2.o.lt;obtain⟨W8,hW8⟩:∃ z,z=wc:=⟨_,rfl⟩;rw[← hW8] at HRA2 HBW8 hz8 ⊢;clear hW8 HRA HBC cA fA x0 x1 x2 lX HMR HBK' hzr HD0 HC1 HC2;go_upto_region 19 with fail
          go_loopw [10,68] (fun dv kv wr=>∃ (k:Nat),k≤q∧dv=.bool (diffJ (rowM m) (finM' m) S T' p j k)∧kv=.int .i64 (k:Int)∧Hid (Below W8.heap.size W8 wr)) (fun _ kv _=>q-(intOf kv).toNat)
          case atStart=>exact⟨0,by omega,by rw[HD0'.o],rfl,zh (wAi _ _)⟩
          case round =>
           obtain⟨k,hk,rfl,rfl,HB9⟩:=hrel;have HRA3:=zh (HRA2.o.of_block (HB9.o.block gA hz8));have hz9:gA<wr.heap.size:=HRA3.o.lt;by_cases hkq:k<q
           ·have HB10:=zh (HBW8.o.trans (HB9.o.mono (by omega)));have HRL:=zh (HRR4.o.below HB10.o (wAb _));obtain⟨b1,o1,A1,n1,c1,r1,rfl,hb1,d1,HR1,HL1,hc1,hn1b,hrd1⟩:=zEo HRL.o hpS;obtain⟨b2,o2,A2,n2,c2,r2,hA2,hb2,d2,HR2',HL2,hc2,hn2b,hrd2⟩:=zEo HRL.o hjS;simp only[Option.some.injEq,Addr.mk.injEq,and_true] at hA2;obtain⟨rfl,rfl⟩:=hA2;(have hr1:r1=rowM m p:=by rw[← HR1.o,HROW.o p hpS]);(have hr2:r2=rowM m j:=by rw[← HR2'.o,HROW.o j hjS]);(have hn1:n1=q:=by rw[← HL1.o,hr1,HT.o.len p hpS,HQ.o]);(have hn2:n2=q:=by rw[← HL2.o,hr2,HT.o.len j hjS,HQ.o]);subst hn1;subst hn2;obtain⟨b3,o3,y1,rfl,hb3,e1,HY1⟩:=zAO hrd1 hkq;obtain⟨b4,o4,y2,rfl,hb4,e2,HY2⟩:=zAO hrd2 hkq;(have lb1:b1<wr.heap.size:=by omega);(have lb3:b3<wr.heap.size:=by omega);have lb4:b4<wr.heap.size:=by omega
            have HDN:=zh (show diffJ (rowM m) (finM' m) S T' p j (k+1)=(diffJ (rowM m) (finM' m) S T' p j k||difB T' S y1 y2) by
             rw[zLb,← hr1,← hr2,HY1.o,HY2.o])
            have hy1:y1<(S:Int):=HT.o.rng p hpS y1 (by rw[← hr1,← HY1.o];simp[wAr,show k<r1.length by rw[HL1.o];exact hkq]);have hy2:y2<(S:Int):=HT.o.rng j hjS y2 (by rw[← hr2,← HY2.o];simp[wAr,show k<r2.length by rw[HL2.o];exact hkq]);obtain⟨dk,hdk⟩:∃ b:Bool,b=diffJ (rowM m) (finM' m) S T' p j k:=⟨_,rfl⟩;rw[← hdk] at HDN ⊢;obtain⟨db,hdb⟩:∃ b:Bool,b=difB T' S y1 y2:=⟨_,rfl⟩;rw[← hdb] at HDN;have HDB:=zh hdb;clear hr1 hr2 HY1 HY2 HR1 HR2' hdk hdb hrd1 hrd2;go_upto_region 21 with fail
            go_cut [12,13] from 71 to 84 (fun s12 s13 wx=>s12=.int .i64 y1∧s13=.int .i64 y2∧wx=wr.drew)
            case first =>
             go_region
             go_wp2;go_meet;exact⟨rfl,rfl,rfl⟩
            case rest =>
             obtain⟨rfl,rfl,hwc⟩:=hcut;subst hwc;have HRA4:=zh (HRA3.o.drew);obtain⟨W10,hW10⟩:∃ z,z=wr.drew:=⟨_,rfl⟩;rw[← hW10] at HRA4 ⊢;have HB11:=zh (show Below W8.heap.size W8 W10 by rw[hW10];exact HB9.o.drew);clear hW10 d1 d2 e1 e2 lb1 lb3 lb4;go_upto_region 22 with fail
             go_cut [103] from 85 to 103 (fun s103 wx=>s103=.bool db∧wx=W10)
             case first =>
              have hd:=HDB.o;unfold difB at hd;by_cases hy10:0≤y1
              ·have t2:decide (y1<0)=false:=decide_eq_false (by omega);have t3:decide (y1≥0)=true:=decide_eq_true hy10;have t3':decide (0≤y1)=true:=decide_eq_true hy10;by_cases hy20:0≤y2
               ·have t4:decide (y2<0)=false:=decide_eq_false (by omega);obtain⟨P1,hP1⟩:∃ z,z=y1.toNat*S:=⟨_,rfl⟩;(have hP1I:y1*(S:Int)=(P1:Int):=by rw[hP1];push_cast;rw[Int.toNat_of_nonneg hy10]);(have hP1b:P1+y2.toNat<SS:=by rw[hP1,HSQ.o];exact zI7 (by omega) (by omega));rw[← hP1] at hd;have cA:=HRA4.o.cell hP1b;have lA:=HRA4.o.lt;obtain⟨Z,hZ⟩:∃ Z:Nat,Z=y2.toNat:=⟨_,rfl⟩;(have hZ':y2=(Z:Int):=by omega);rw[← hZ] at cA hd hP1b;subst hZ';(have hb:db=T' (P1+Z):=by rw[hd,t2,t4,t3'];simp);subst hb;clear hd hP1 hZ HDB;go_wp2;go_meet;exact⟨rfl,rfl⟩
               ·have t4:decide (y2<0)=true:=decide_eq_true (by omega);(have hb:db=true:=by rw[hd,t2,t4];simp);subst hb;clear hd HDB;go_wp2;go_meet;exact⟨rfl,rfl⟩
              ·have t2:decide (y1<0)=true:=decide_eq_true (by omega);have t3:decide (y1≥0)=false:=decide_eq_false hy10;have t3':decide (0≤y1)=false:=decide_eq_false hy10;by_cases hy20:0≤y2
               ·have t4:decide (y2<0)=false:=decide_eq_false (by omega);(have hb:db=true:=by rw[hd,t2,t4];simp);subst hb;clear hd HDB;go_wp2;go_meet;exact⟨rfl,rfl⟩
               ·have t4:decide (y2<0)=true:=decide_eq_true (by omega);(have hb:db=false:=by rw[hd,t2,t4,t3'];simp);subst hb;clear hd HDB;go_wp2;go_meet;exact⟨rfl,rfl⟩
             case rest =>
              obtain⟨rfl,hwc⟩:=hcut;subst hwc;cases db
              ·have HDN2:=zh (show diffJ (rowM m) (finM' m) S T' p j (k+1)=dk by rw[HDN.o];simp);go_wp2;go_roundw
               case rel=>exact⟨k+1,by omega,by rw[HDN2.o],by go_num,HB11⟩
               case measure=>simp[intOf];omega
              ·have HDN2:=zh (show diffJ (rowM m) (finM' m) S T' p j (k+1)=true by rw[HDN.o];simp);go_wp2;go_roundw
               case rel=>exact⟨k+1,by omega,by rw[HDN2.o],by go_num,HB11⟩
               case measure=>simp[intOf];omega
           ·(obtain rfl:q=k:=by omega);have HDI:=zh (zMa (row:=rowM m) (fin:=finM' m) (n:=S) (A:=T') (p:=p) (q:=j) (k:=q) (by rw[HT.o.len p hpS,HQ.o]) (by rw[HT.o.len j hjS,HQ.o]));have HB10:=zh (HBW8.o.trans (HB9.o.mono (by omega)));obtain⟨dk,hdk⟩:∃ b:Bool,b=diffJ (rowM m) (finM' m) S T' p j q:=⟨_,rfl⟩;rw[← hdk] at HDI ⊢;have HPJ:=zh (show PS+j=p*S+j by rw[HPS.o]);have cA:=HRA3.o.cell (show PS+j<SS by omega);have fA:=HRA3.o.frozen (PS+j);have lA:=HRA3.o.lt;clear hdk HRA2;cases dk
            ·have HAN:=zh (show ApI (lsM m) (rowM m) (finM' m) S T T' ag (PS+(j+1)) by
              have h:=HAI.o;rw[HPJ.o] at h;rw[← wAo,HPJ.o]
              exact h.same hjS (fun hd=>by have:=HDI.o.2 hd;cases this))
             go_wp2;go_roundw
             case rel=>exact⟨T',ag,j+1,by omega,rfl,by go_num,HRA3,HAN,HB10,by omega⟩
             case measure=>simp[intOf];omega
            ·have HAN:=zh (show ApI (lsM m) (rowM m) (finM' m) S T (upd T' (PS+j)) true (PS+(j+1)) by
              have h:=HAI.o;have hf:=HTJ.o;rw[HPJ.o] at h hf;rw[← wAo,HPJ.o]
              exact h.mark HT.o hpS hjS hf (HDI.o.1 rfl))
             have HRN:=zh ((HRA3.o.set (PS+j) (.bool true)).congr (g:=fun i=>.bool (upd T' (PS+j) i)) (fun i _=>by unfold upd;split<;>rfl));have HBN:=zh (HB10.o.setCell (p:=⟨gA,PS+j,none⟩) (by exact wAb _) (.bool true));go_wp2;go_roundw
             case rel=>exact⟨upd T' (PS+j),true,j+1,by omega,rfl,by go_num,HRN,HAN,HBN,by simp[World.setCell];omega⟩
             case measure=>simp[intOf];omega
        ·rw[hTj] at cA
         have HAN:=zh (show ApI (lsM m) (rowM m) (finM' m) S T T' ag (PS+(j+1)) by
          have h:=HAI.o;rw[HPS.o] at h hTj;rw[← wAo,HPS.o]
          exact h.skip hjS hTj)
         clear hTj;go_wp2;go_roundw
         case rel=>exact⟨T',ag,j+1,by omega,rfl,by go_num,HRA,HAN,HBK',hzr⟩
         case measure=>simp[intOf];omega
       ·(obtain rfl:S=j:=by omega);have HAN:=zh (show ApI (lsM m) (rowM m) (finM' m) S T T' ag ((p+1)*S) by rw[wAs,← HPS.o];exact HAI.o);go_wp2;go_roundw
        case rel=>exact⟨T',ag,p+1,by omega,rfl,by go_num,HRA,HAN,HBK',hzr⟩
        case measure=>simp[intOf];omega
     ·(obtain rfl:S=p:=by omega);have HSN:=zh HAI.o.snd;have HFN:=zh (show ag=false→∀ p q,p<S→q<S→(T' (p*S+q)=false↔SameL (lsM m) (rowM m) (finM' m) p q) from fun h=>by subst h;exact HAI.o.all HT.o)
      have HON:=zh (show offN T' SS+(if ag=true then 1 else 0)≤gk-1 by
       have h1:=HAI.o.le;have h2:=HOF1.o;rw[← HSQ.o] at h1;cases ag
       · simp;omega
       ·have h3:=HAI.o.lt rfl;rw[← HSQ.o] at h3
        simp;omega)
      (have hgk:0<gk:=by have:=HOF1.o;omega);go_wp2
      go_roundg (gk-1)
      case measure=>omega
      case rel=>exact⟨T',ag,rfl,HRA,HSN,HFN,HON,HBK',hzr⟩
end Go.Proofs.Ytkfdhpbnphojoaa
