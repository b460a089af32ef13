/- Part of the proof. -/
import Derived.Test.YtkfdhpbnphojoaaMc41
set_option linter.unusedSimpArgs false
set_option linter.unusedVariables false
set_option maxRecDepth 100000
set_option maxHeartbeats 32000000
open Nat renaming le_refl→wAa
namespace Go.Proofs.Ytkfdhpbnphojoaa
open Go.RowKit Gm
theorem zMM (v0 v1:Value) (a:Mach) (al:List Int) (w:World) (hm:MachAt w w.heap.size v0 a) (hl:Nums w w.heap.size v1 al) :
 Calls Try.prog 6 #[v0,v1] w fun e w'=>e=.returned (.bool true)∧Below w.heap.size w w':=by
 have HMA:=zh hm;have HAL:=zh hl;obtain⟨A1,AF1,n1,c1,nf1,cf1,rfl,_,_,_,_,_,_,_,_⟩:=hm;obtain⟨AL,nl,cl,rfl,HN,hnc,hnb,_⟩:=hl;unfold big at hnb;obtain⟨sa,hsa⟩:∃ z,z=a.n:=⟨_,rfl⟩;rw[← hsa] at HMA ⊢;clear hsa;have he:=fun a b c d W=>zAn a b c d W
 have he2:=fun a b c d W=>zAV a b c d W
 go_enter Try.func6,Try.ntmps6
 go_upto_region 3 with (go_at_call 23;refine (zCY _).mono ?_;rintro e w2 ⟨rfl,hb2⟩;have HB2:=zh hb2;clear hb2)
 obtain⟨X,hX⟩:∃ z,z=w.heap.size:=⟨_,rfl⟩;have bX:=zh ((Blk.at_ (w:=w) (g:=X) (t:=25) (cs:=#[.int .i64 sa,.slice A1 n1 c1,.slice AF1 nf1 cf1]) hX).below HB2.o (by simp[hX]));have HBW:=zh (show Below w.heap.size w w2 from ((Below.refl _ _).alloc (wAa _) _).trans (HB2.o.mono (by simp)));replace HMA:=zh ((HMA.o.below HBW.o (wAa _)).mono HBW.o.size);replace HAL:=zh ((HAL.o.below HBW.o (wAa _)).mono HBW.o.size)
 try simp only[← hX]
 clear HB2 hX;have x0:=bX.o.cell 0;have x1:=bX.o.cell 1;have x2:=bX.o.cell 2;simp at x0 x1 x2;have lX:=bX.o.lt;go_upto_region 4 with (go_at_call 28;refine (zDJ _ _ a al w2 _ (wAa _) HMA.o HAL.o).mono ?_;rintro e w3 ⟨r3,v3,rfl,hr3,hm3,hb3⟩;obtain⟨A3,n3,c3,AF3,nf3,cf3,rfl⟩:=zBd hm3;have HR3:=zh hr3;have HN3:=zh hm3;have HB3:=zh hb3;clear hr3 hm3 hb3)
 clear x0 x1 x2 lX;generalize hW3:World.alloc _ _=W3;obtain⟨S,hS⟩:∃ z,z=w3.heap.size:=⟨_,rfl⟩;obtain⟨F,hF⟩:∃ z,z=w3.heap.size+1:=⟨_,rfl⟩;have bS:=zh (show Blk W3 S 25 #[.int .i64 r3.1.n,.slice A3 n3 c3,.slice AF3 nf3 cf3] by rw[← hW3];exact (Blk.at_ hS).alloc _);have bF:=zh (show Blk W3 F 28 #[.int .i64 r3.2.1,.int .i64 r3.2.2] by rw[← hW3];exact Blk.at_ (by simp[hF]));have q3:=zh (show Below w3.heap.size w3 W3 by rw[← hW3];go_grown);simp only[← hF]
 try simp only[← hS]
 have t3:=zh (HB3.o.trans (q3.o.mono HB3.o.size));replace bX:=zh (bX.o.below t3.o bX.o.lt);replace HMA:=zh ((HMA.o.below t3.o (wAa _)).mono t3.o.size);replace HAL:=zh ((HAL.o.below t3.o (wAa _)).mono t3.o.size);replace HBW:=zh (HBW.o.trans (t3.o.mono HBW.o.size));have MS:=zh ((HN3.o.at_.below q3.o (wAa _)).mono q3.o.size);clear HN3 HB3 q3 t3 hW3 hS hF;obtain⟨f3,hf3⟩:∃ z,z=r3.2.1:=⟨_,rfl⟩;obtain⟨g3,hg3⟩:∃ z,z=r3.2.2:=⟨_,rfl⟩;have HE3:=zh (show r3.2=(f3,g3) by rw[hf3,hg3])
 try simp only[← hf3,← hg3]
 rw[← hf3,← hg3] at bF;clear hf3 hg3;obtain⟨t3,ht3⟩:∃ z,z=r3.1.n:=⟨_,rfl⟩;have HTN3:=zh ht3
 try simp only[← ht3]
 rw[← ht3] at bS MS;clear ht3;obtain⟨P1,hP1⟩:∃ z,z=(accF a).1:=⟨_,rfl⟩;obtain⟨P2,hP2⟩:∃ z,z=(accF a).2:=⟨_,rfl⟩;have HP1:=zh hP1;have HP2:=zh hP2;clear hP1 hP2;have x0:=bX.o.cell 0;have x1:=bX.o.cell 1;have x2:=bX.o.cell 2;simp at x0 x1 x2;have lX:=bX.o.lt;go_upto_region 5 with (go_at_call 14;refine (zC2 _ a W3 W3.heap.size (wAa _) HMA.o).mono ?_;rintro e w4 ⟨rfl,hb4⟩;rw[← HP1.o,← HP2.o];have HBP:=zh hb4;clear hb4)
 generalize hW4:World.alloc _ _=W4;obtain⟨H,hH⟩:∃ z,z=w4.heap.size:=⟨_,rfl⟩;have bH:=zh (show Blk W4 H 28 #[.int .i64 P1,.int .i64 P2] by rw[← hW4];exact Blk.at_ hH);have uP:=zh (show Below w4.heap.size w4 W4 by rw[← hW4];go_grown);have tP:=zh (HBP.o.trans (uP.o.mono HBP.o.size))
 try simp only[← hH]
 clear x0 x1 x2 lX;replace bX:=zh (bX.o.below tP.o bX.o.lt);replace bS:=zh (bS.o.below tP.o bS.o.lt);replace bF:=zh (bF.o.below tP.o bF.o.lt);replace MS:=zh ((MS.o.below tP.o (wAa _)).mono tP.o.size);replace HMA:=zh ((HMA.o.below tP.o (wAa _)).mono tP.o.size);replace HAL:=zh ((HAL.o.below tP.o (wAa _)).mono tP.o.size);replace HBW:=zh (HBW.o.trans (tP.o.mono HBW.o.size));clear uP tP HBP hW4 hH;have yH0:=bH.o.cell 0;have yH1:=bH.o.cell 1;simp at yH0 yH1;have lH:=bH.o.lt;obtain⟨zP,hzP⟩:∃ z,z=fEq P1 P2 0 0:=⟨_,rfl⟩;cases zP
 ·have eP:fEq P1 P2 0 0=false:=hzP.symm;clear hzP
  have hbad:(accF a)≠(0,0):=fun h=>by
   have h2:=eP;rw[HP1.o,HP2.o,fEq0A.2 h] at h2;cases h2
  have hb3:r3=(emptyM,accF a):=zNQ HR3.o hbad;have hx3:(f3,g3)=(P1,P2):=by rw[← HE3.o,hb3,HP1.o,HP2.o]
  have hy3:t3=0:=by rw[HTN3.o,hb3];rfl
  injection hx3 with hx3 hw3
  rw[hx3,hw3] at bF;rw[hy3] at bS;have yF30:=bF.o.cell 0;have yF31:=bF.o.cell 1;have yS30:=bS.o.cell 0;simp at yF30 yF31 yS30;have lF:=bF.o.lt;have lS:=bS.o.lt;clear hb3 hx3 hw3 hy3 HR3;have hself:fEq P1 P2 P1 P2=true:=by simp[fEq]
  clear hbad;go_wp2;exact bodyPost_ret (v:=.bool true) (by simp[results,Try.results6,go_sem]) rfl ⟨rfl,HBW.o⟩
 ·have eP:fEq P1 P2 0 0=true:=hzP.symm;clear hzP;have ZP:=zh (show (accF a)=(0,0) by have h:=eP;rw[HP1.o,HP2.o] at h;exact fEq0A.1 h);go_upto_region 7 with fail
  clear yH0 yH1 lH eP HP1 HP2 bH;obtain⟨Q1,hQ1⟩:∃ z,z=(alphF al (-2)).1:=⟨_,rfl⟩;obtain⟨Q2,hQ2⟩:∃ z,z=(alphF al (-2)).2:=⟨_,rfl⟩;have HQ1:=zh hQ1;have HQ2:=zh hQ2;clear hQ1 hQ2;go_upto_region 8 with (go_at_call 29;refine (zGC _ al (-2) W4 W4.heap.size (wAa _) HAL.o).mono ?_;rintro e w5 ⟨rfl,hb5⟩;rw[← HQ1.o,← HQ2.o];have HBQ:=zh hb5;clear hb5)
  generalize hW5:World.alloc _ _=W5;obtain⟨G,hG⟩:∃ z,z=w5.heap.size:=⟨_,rfl⟩;have bG:=zh (show Blk W5 G 28 #[.int .i64 Q1,.int .i64 Q2] by rw[← hW5];exact Blk.at_ hG);have uQ:=zh (show Below w5.heap.size w5 W5 by rw[← hW5];go_grown);have tQ:=zh (HBQ.o.trans (uQ.o.mono HBQ.o.size))
  try simp only[← hG]
  replace bX:=zh (bX.o.below tQ.o bX.o.lt);replace bS:=zh (bS.o.below tQ.o bS.o.lt);replace bF:=zh (bF.o.below tQ.o bF.o.lt);replace MS:=zh ((MS.o.below tQ.o (wAa _)).mono tQ.o.size);replace HMA:=zh ((HMA.o.below tQ.o (wAa _)).mono tQ.o.size);replace HAL:=zh ((HAL.o.below tQ.o (wAa _)).mono tQ.o.size);replace HBW:=zh (HBW.o.trans (tQ.o.mono HBW.o.size));clear uQ tQ HBQ hW5 hG;have yG0:=bG.o.cell 0;have yG1:=bG.o.cell 1;simp at yG0 yG1;have lG:=bG.o.lt;obtain⟨zQ,hzQ⟩:∃ z,z=fEq Q1 Q2 0 0:=⟨_,rfl⟩;cases zQ
  ·have eQ:fEq Q1 Q2 0 0=false:=hzQ.symm;clear hzQ
   have hbad:(alphF al (-2))≠(0,0):=fun h=>by
    have h2:=eQ;rw[HQ1.o,HQ2.o,fEq0A.2 h] at h2;cases h2
   have hb3:r3=(emptyM,alphF al (-2)):=zMP HR3.o ZP.o hbad;(have hx3:(f3,g3)=(Q1,Q2):=by rw[← HE3.o,hb3,HQ1.o,HQ2.o]);(have hy3:t3=0:=by rw[HTN3.o,hb3];rfl);(injection hx3 with hx3 hw3);rw[hx3,hw3] at bF;rw[hy3] at bS;have yF30:=bF.o.cell 0;have yF31:=bF.o.cell 1;have yS30:=bS.o.cell 0;simp at yF30 yF31 yS30;have lF:=bF.o.lt;have lS:=bS.o.lt;clear hb3 hx3 hw3 hy3 HR3;(have hself:fEq Q1 Q2 Q1 Q2=true:=by simp[fEq]);clear hbad;go_wp2;exact bodyPost_ret (v:=.bool true) (by simp[results,Try.results6,go_sem]) rfl ⟨rfl,HBW.o⟩
  ·have eQ:fEq Q1 Q2 0 0=true:=hzQ.symm;clear hzQ;have ZQ:=zh (show (alphF al (-2))=(0,0) by have h:=eQ;rw[HQ1.o,HQ2.o] at h;exact fEq0A.1 h);(go_upto_region 10 with fail);clear yG0 yG1 lG eQ HQ1 HQ2 bG;obtain⟨bl,hbl⟩:∃ b:Bool,decide ((20:Int)<(nl:Int))=b:=⟨_,rfl⟩;cases bl
   rotate_left
   ·clear HR3;go_wp2;exact bodyPost_ret (v:=.bool true) (by simp[results,Try.results6,go_sem]) rfl ⟨rfl,HBW.o⟩
   ·skip;have x0:=bX.o.cell 0;have x1:=bX.o.cell 1;have x2:=bX.o.cell 2;simp at x0 x1 x2;have lX:=bX.o.lt;(go_upto_region 13 with (go_at_call 26;refine (zL5 _ _ _ a al r3 HR3.o W5 W5.heap.size (wAa _) HMA.o (MachAt.empty _ _) HAL.o ZP.o ZQ.o).mono ?_;rintro e w6 ⟨v6,bo,rfl,hb6,⟨a6,A6,AF6,n6,c6,nf6,cf6,rfl⟩,ht6⟩;have HT6:=zh ht6;have HB6:=zh hb6;clear ht6 hb6));generalize hW6:World.alloc _ _=W6;obtain⟨T,hT⟩:∃ z,z=w6.heap.size:=⟨_,rfl⟩;have bT:=zh (show Blk W6 T 25 #[.int .i64 a6,.slice A6 n6 c6,.slice AF6 nf6 cf6] by rw[← hW6];exact Blk.at_ hT);have u6:=zh (show Below w6.heap.size w6 W6 by rw[← hW6];go_grown);have t6:=zh (HB6.o.trans (u6.o.mono HB6.o.size))
    try simp only[← hT]
    clear x0 x1 x2 lX;replace bX:=zh (bX.o.below t6.o bX.o.lt);replace bS:=zh (bS.o.below t6.o bS.o.lt);replace bF:=zh (bF.o.below t6.o bF.o.lt);replace MS:=zh ((MS.o.below t6.o (wAa _)).mono t6.o.size);replace HMA:=zh ((HMA.o.below t6.o (wAa _)).mono t6.o.size);replace HAL:=zh ((HAL.o.below t6.o (wAa _)).mono t6.o.size);replace HBW:=zh (HBW.o.trans (t6.o.mono HBW.o.size));cases bo
    ·clear HR3;go_wp2;exact bodyPost_ret (v:=.bool true) (by simp[results,Try.results6,go_sem]) rfl ⟨rfl,HBW.o⟩
    ·obtain⟨tm,hfit,hnew⟩:=HT6.o rfl;have HFIT:=zh hfit;have MT9:=zh ((hnew.at_.below u6.o (wAa _)).mono u6.o.size);clear hfit hnew HT6 u6 t6 HB6 hW6 hT HR3;have hEF:=HE3.o;have yF0:=bF.o.cell 0;have yF1:=bF.o.cell 1;simp at yF0 yF1;have lF:=bF.o.lt;have HF3:=zh (show f3=r3.2.1 by rw[hEF]);have HG3:=zh (show g3=r3.2.2 by rw[hEF]);clear hEF;have x0:=bS.o.cell 0;have x1:=bS.o.cell 1;have x2:=bS.o.cell 2;simp at x0 x1 x2;have lS:=bS.o.lt;have y0:=bT.o.cell 0;have y1:=bT.o.cell 1;have y2:=bT.o.cell 2;simp at y0 y1 y2;have lT:=bT.o.lt;go_wp2_with (go_at_call 27;have hcl:=zGW (.agg #[.int .i64 t3,.slice A3 n3 c3,.slice AF3 nf3 cf3]) (.agg #[.int .i64 a6,.slice A6 n6 c6,.slice AF6 nf6 cf6]) r3 tm W6 MS.o MT9.o HFIT.o;rw[← HF3.o,← HG3.o] at hcl;refine hcl.mono ?_;rintro e w7 ⟨rfl,hb7⟩;have HB7:=zh hb7;clear hb7 hcl);exact bodyPost_ret (v:=.bool true) (by simp[results,Try.results6,go_sem]) rfl ⟨rfl,HBW.o.trans (HB7.o.mono HBW.o.size)⟩
end Go.Proofs.Ytkfdhpbnphojoaa
