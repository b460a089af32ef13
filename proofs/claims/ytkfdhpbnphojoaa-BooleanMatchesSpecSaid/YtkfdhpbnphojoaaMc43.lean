/- Part of the proof. -/
import Derived.Test.YtkfdhpbnphojoaaMc41
set_option linter.unusedSimpArgs false
set_option linter.unusedVariables false
set_option maxRecDepth 100000
set_option maxHeartbeats 64000000
open List renaming setIfInBounds_toArray→wAa,set_cons_zero→wAc,set_cons_succ→wAd
open Nat renaming le_refl→wAb,reduceAdd→wAi,zero_add→wAj
open Go.Region renaming binds→wAe
open Gm.StepsR renaming cons→wAf
open Go.Act renaming put→wAg
open Gm.Blk renaming at_→wAh
namespace Go.Proofs.Ytkfdhpbnphojoaa
open Go.RowKit Gm
theorem zI5 {m:Mach} (h:accF m=(0,0)):m.arcs.length≤2000:=by
 have val:=zAX (zAU h);exact val.len
theorem zK9 (A:List Arc):(labsR A).length≤A.length:=zGt A
theorem zB7 {a b c d:Value} (h:Value.tuple #[a,b]=.tuple #[c,d]):a=c∧b=d:=by
 injection h with h
 have h:=congrArg Array.toList h;simpa using h
def LgV (w:World) (v:Value) (r:Mach×(Int×Int)) (dT:Bool) (vT:Value):Prop:=∃ (x:Int) (A AF:Option Addr) (n c nf cf:Nat) (bo:Bool) (lo:Nat) (w9:World),v=.tuple #[.agg #[.int .i64 x,.slice A n c,.slice AF nf cf],.bool bo]∧(bo=true→∃ t,FitsR r t∧MachNew lo w9 (.agg #[.int .i64 x,.slice A n c,.slice AF nf cf]) t)∧w9.heap.size≤w.heap.size∧(∀ k,lo≤k→k<w9.heap.size→w.heap[k]? = w9.heap[k]?)∧(dT=true→∃ T,vT=.pointer (some ⟨T,0,none⟩)∧(T<lo∨w9.heap.size≤T))
theorem LgV.below {w w':World} {v:Value} {r:Mach×(Int×Int)} {dT:Bool} {vT:Value} (h:LgV w v r dT vT) (hb:Below w.heap.size w w'):LgV w' v r dT vT:=by
 obtain⟨x,A,AF,n,c,nf,cf,bo,lo,w9,h1,h2,h3,h4,h5⟩:=h;exact⟨x,A,AF,n,c,nf,cf,bo,lo,w9,h1,h2,by have:=hb.size;omega,fun k hk hl=>(hb.block k (by omega)).trans (h4 k hk hl),h5⟩
theorem LgV.alloc {w:World} {v:Value} {r:Mach×(Int×Int)} {dT:Bool} {vT:Value} (h:LgV w v r dT vT) (ob:Obj):LgV (w.alloc ob) v r true (.pointer (some ⟨w.heap.size,0,none⟩)):=by
 have hb:Below w.heap.size w (w.alloc ob):=(Below.refl _ _).alloc (wAb _) _;obtain⟨x,A,AF,n,c,nf,cf,bo,lo,w9,h1,h2,h3,h4,_⟩:=h;exact⟨x,A,AF,n,c,nf,cf,bo,lo,w9,h1,h2,by have:=hb.size;omega,fun k hk hl=>(hb.block k (by omega)).trans (h4 k hk hl),fun _=>⟨_,rfl,.inr h3⟩⟩
theorem LgV.setT {w:World} {v:Value} {r:Mach×(Int×Int)} {T:Nat} (h:LgV w v r true (.pointer (some ⟨T,0,none⟩))) (i:Nat) (u:Value):LgV (w.setCell ⟨T,i,none⟩ u) v r true (.pointer (some ⟨T,0,none⟩)):=by
 obtain⟨x,A,AF,n,c,nf,cf,bo,lo,w9,h1,h2,h3,h4,h5⟩:=h;obtain⟨T',e,hT⟩:=h5 rfl;injection e with e;injection e with e;injection e with e
 subst e;exact⟨x,A,AF,n,c,nf,cf,bo,lo,w9,h1,h2,by simpa using h3,fun k hk hl=>(Below.heap_setCell w ⟨T,i,none⟩ u k (by show k≠T;omega)).trans (h4 k hk hl),h5⟩
theorem zM0 (v0 v1:Value) (a b:Mach) (w:World) (hm:MachAt w w.heap.size v0 a) (hm':MachAt w w.heap.size v1 b) :
 Calls Try.prog 5 #[v0,v1] w fun e w'=>e=.returned (.bool true)∧Below w.heap.size w w':=by
 have HMA:=zh hm;have HMB:=zh hm';obtain⟨A1,AF1,n1,c1,nf1,cf1,rfl,_,_,_,_,_,_,_,_⟩:=hm;obtain⟨A2,AF2,n2,c2,nf2,cf2,rfl,_,_,_,_,_,_,_,_⟩:=hm';obtain⟨sa,hsa⟩:∃ z,z=a.n:=⟨_,rfl⟩;obtain⟨sb,hsb⟩:∃ z,z=b.n:=⟨_,rfl⟩;rw[← hsa] at HMA ⊢;rw[← hsb] at HMB ⊢;clear hsa hsb;have he:=fun a b c d W=>zAn a b c d W
 have he2:=fun a b c d W=>zAV a b c d W
 go_enter Try.func5,Try.ntmps5
 go_upto_region 3 with (go_at_call 23;refine (zCY _).mono ?_;rintro e w2 ⟨rfl,hb2⟩;have HB2:=zh hb2;clear hb2)
 obtain⟨X,hX⟩:∃ z,z=w.heap.size:=⟨_,rfl⟩;obtain⟨Y,hY⟩:∃ z,z=w.heap.size+1:=⟨_,rfl⟩;have bX:=zh (((wAh (w:=w) (g:=X) (t:=25) (cs:=#[.int .i64 sa,.slice A1 n1 c1,.slice AF1 nf1 cf1]) hX).alloc (.cells #[.int .i64 sb,.slice A2 n2 c2,.slice AF2 nf2 cf2] 25)).below HB2.o (by simp[hX]<;>omega));have bY:=zh ((wAh (w:=w.alloc (.cells #[.int .i64 sa,.slice A1 n1 c1,.slice AF1 nf1 cf1] 25)) (g:=Y) (t:=25) (cs:=#[.int .i64 sb,.slice A2 n2 c2,.slice AF2 nf2 cf2]) (by simp[hY])).below HB2.o (by simp[hY]));have HBW:=zh (show Below w.heap.size w w2 from (((Below.refl _ _).alloc (wAb _) _).alloc (by simp) _).trans (HB2.o.mono (by simp<;>omega)));replace HMA:=zh ((HMA.o.below HBW.o (wAb _)).mono HBW.o.size);replace HMB:=zh ((HMB.o.below HBW.o (wAb _)).mono HBW.o.size);simp only[← hY]
 try simp only[← hX]
 clear HB2 hX hY;have x0:=bX.o.cell 0;have x1:=bX.o.cell 1;have x2:=bX.o.cell 2;simp at x0 x1 x2;have lX:=bX.o.lt;have y0:=bY.o.cell 0;have y1:=bY.o.cell 1;have y2:=bY.o.cell 2;simp at y0 y1 y2;have lY:=bY.o.lt;go_upto_region 4 with (go_at_call 24;refine (zFQ _ _ a b w2 _ (wAb _) HMA.o HMB.o).mono ?_;rintro e w3 ⟨r3,v3,rfl,hr3,hm3,hb3⟩;obtain⟨A3,n3,c3,AF3,nf3,cf3,rfl⟩:=zBd hm3;have HR3:=zh hr3;have HN3:=zh hm3;have HB3:=zh hb3;clear hr3 hm3 hb3)
 clear x0 x1 x2 lX;clear y0 y1 y2 lY;generalize hW3:World.alloc _ _=W3;obtain⟨S,hS⟩:∃ z,z=w3.heap.size:=⟨_,rfl⟩;obtain⟨F,hF⟩:∃ z,z=w3.heap.size+1:=⟨_,rfl⟩;have bS:=zh (show Blk W3 S 25 #[.int .i64 r3.1.n,.slice A3 n3 c3,.slice AF3 nf3 cf3] by rw[← hW3];exact (wAh hS).alloc _);have bF:=zh (show Blk W3 F 28 #[.int .i64 r3.2.1,.int .i64 r3.2.2] by rw[← hW3];exact wAh (by simp[hF]));have q3:=zh (show Below w3.heap.size w3 W3 by rw[← hW3];go_grown);simp only[← hF]
 try simp only[← hS]
 have t3:=zh (HB3.o.trans (q3.o.mono HB3.o.size));replace bX:=zh (bX.o.below t3.o bX.o.lt);replace bY:=zh (bY.o.below t3.o bY.o.lt);replace HMA:=zh ((HMA.o.below t3.o (wAb _)).mono t3.o.size);replace HMB:=zh ((HMB.o.below t3.o (wAb _)).mono t3.o.size);replace HBW:=zh (HBW.o.trans (t3.o.mono HBW.o.size));have MS:=zh ((HN3.o.at_.below q3.o (wAb _)).mono q3.o.size);clear HN3 HB3 q3 t3 hW3 hS hF;have x0:=bX.o.cell 0;have x1:=bX.o.cell 1;have x2:=bX.o.cell 2;simp at x0 x1 x2;have lX:=bX.o.lt;have y0:=bY.o.cell 0;have y1:=bY.o.cell 1;have y2:=bY.o.cell 2;simp at y0 y1 y2;have lY:=bY.o.lt;go_upto_region 5 with (go_at_call 25;refine (zHI _ _ a b W3 _ (wAb _) HMA.o HMB.o).mono ?_;rintro e w4 ⟨r4,v4,rfl,hr4,hm4,hb4⟩;obtain⟨A4,n4,c4,AF4,nf4,cf4,rfl⟩:=zBd hm4;have HR4:=zh hr4;have HN4:=zh hm4;have HB4:=zh hb4;clear hr4 hm4 hb4)
 clear x0 x1 x2 lX;clear y0 y1 y2 lY;generalize hW4:World.alloc _ _=W4;obtain⟨T,hT⟩:∃ z,z=w4.heap.size:=⟨_,rfl⟩;obtain⟨G,hG⟩:∃ z,z=w4.heap.size+1:=⟨_,rfl⟩;have bT:=zh (show Blk W4 T 25 #[.int .i64 r4.1.n,.slice A4 n4 c4,.slice AF4 nf4 cf4] by rw[← hW4];exact (wAh hT).alloc _);have bG:=zh (show Blk W4 G 28 #[.int .i64 r4.2.1,.int .i64 r4.2.2] by rw[← hW4];exact wAh (by simp[hG]));have q4:=zh (show Below w4.heap.size w4 W4 by rw[← hW4];go_grown);simp only[← hG]
 try simp only[← hT]
 have t4:=zh (HB4.o.trans (q4.o.mono HB4.o.size));replace bX:=zh (bX.o.below t4.o bX.o.lt);replace bY:=zh (bY.o.below t4.o bY.o.lt);replace bS:=zh (bS.o.below t4.o bS.o.lt);replace bF:=zh (bF.o.below t4.o bF.o.lt);replace MS:=zh ((MS.o.below t4.o (wAb _)).mono t4.o.size);replace HMA:=zh ((HMA.o.below t4.o (wAb _)).mono t4.o.size);replace HMB:=zh ((HMB.o.below t4.o (wAb _)).mono t4.o.size);replace HBW:=zh (HBW.o.trans (t4.o.mono HBW.o.size));have MT:=zh ((HN4.o.at_.below q4.o (wAb _)).mono q4.o.size);clear HN4 HB4 q4 t4 hW4 hT hG;obtain⟨f3,hf3⟩:∃ z,z=r3.2.1:=⟨_,rfl⟩;obtain⟨g3,hg3⟩:∃ z,z=r3.2.2:=⟨_,rfl⟩;have HE3:=zh (show r3.2=(f3,g3) by rw[hf3,hg3])
 try simp only[← hf3,← hg3]
 rw[← hf3,← hg3] at bF;clear hf3 hg3;obtain⟨t3,ht3⟩:∃ z,z=r3.1.n:=⟨_,rfl⟩;have HTN3:=zh ht3
 try simp only[← ht3]
 rw[← ht3] at bS MS;clear ht3;obtain⟨f4,hf4⟩:∃ z,z=r4.2.1:=⟨_,rfl⟩;obtain⟨g4,hg4⟩:∃ z,z=r4.2.2:=⟨_,rfl⟩;have HE4:=zh (show r4.2=(f4,g4) by rw[hf4,hg4])
 try simp only[← hf4,← hg4]
 rw[← hf4,← hg4] at bG;clear hf4 hg4;obtain⟨t4,ht4⟩:∃ z,z=r4.1.n:=⟨_,rfl⟩;have HTN4:=zh ht4
 try simp only[← ht4]
 rw[← ht4] at bT MT;clear ht4;obtain⟨P1,hP1⟩:∃ z,z=(accF a).1:=⟨_,rfl⟩;obtain⟨P2,hP2⟩:∃ z,z=(accF a).2:=⟨_,rfl⟩;have HP1:=zh hP1;have HP2:=zh hP2;clear hP1 hP2;have x0:=bX.o.cell 0;have x1:=bX.o.cell 1;have x2:=bX.o.cell 2;simp at x0 x1 x2;have lX:=bX.o.lt;go_upto_region 6 with (go_at_call 14;refine (zC2 _ a W4 W4.heap.size (wAb _) HMA.o).mono ?_;rintro e w5 ⟨rfl,hb5⟩;rw[← HP1.o,← HP2.o];have HBP:=zh hb5;clear hb5)
 generalize hW5:World.alloc _ _=W5;obtain⟨H,hH⟩:∃ z,z=w5.heap.size:=⟨_,rfl⟩;have bH:=zh (show Blk W5 H 28 #[.int .i64 P1,.int .i64 P2] by rw[← hW5];exact wAh hH);have uP:=zh (show Below w5.heap.size w5 W5 by rw[← hW5];go_grown);have tP:=zh (HBP.o.trans (uP.o.mono HBP.o.size))
 try simp only[← hH]
 clear x0 x1 x2 lX;replace bX:=zh (bX.o.below tP.o bX.o.lt);replace bY:=zh (bY.o.below tP.o bY.o.lt);replace bS:=zh (bS.o.below tP.o bS.o.lt);replace bF:=zh (bF.o.below tP.o bF.o.lt);replace bT:=zh (bT.o.below tP.o bT.o.lt);replace bG:=zh (bG.o.below tP.o bG.o.lt);replace MS:=zh ((MS.o.below tP.o (wAb _)).mono tP.o.size);replace MT:=zh ((MT.o.below tP.o (wAb _)).mono tP.o.size);replace HMA:=zh ((HMA.o.below tP.o (wAb _)).mono tP.o.size);replace HMB:=zh ((HMB.o.below tP.o (wAb _)).mono tP.o.size);replace HBW:=zh (HBW.o.trans (tP.o.mono HBW.o.size));clear uP tP HBP hW5 hH;have yH0:=bH.o.cell 0;have yH1:=bH.o.cell 1;simp at yH0 yH1;have lH:=bH.o.lt;obtain⟨zP,hzP⟩:∃ z,z=fEq P1 P2 0 0:=⟨_,rfl⟩;cases zP
 ·have eP:fEq P1 P2 0 0=false:=hzP.symm;clear hzP
  have hbad:(accF a)≠(0,0):=fun h=>by
   have h2:=eP;rw[HP1.o,HP2.o,fEq0A.2 h] at h2;cases h2
  have hb3:r3=(emptyM,accF a):=zIm HR3.o hbad;have hx3:(f3,g3)=(P1,P2):=by rw[← HE3.o,hb3,HP1.o,HP2.o]
  have hy3:t3=0:=by rw[HTN3.o,hb3];rfl
  injection hx3 with hx3 hw3
  rw[hx3,hw3] at bF;rw[hy3] at bS;have yF30:=bF.o.cell 0;have yF31:=bF.o.cell 1;have yS30:=bS.o.cell 0;simp at yF30 yF31 yS30;have lF:=bF.o.lt;have lS:=bS.o.lt;clear hb3 hx3 hw3 hy3 HR3;have hb4:r4=(emptyM,accF a):=zIm HR4.o hbad;have hx4:(f4,g4)=(P1,P2):=by rw[← HE4.o,hb4,HP1.o,HP2.o]
  have hy4:t4=0:=by rw[HTN4.o,hb4];rfl
  injection hx4 with hx4 hw4
  rw[hx4,hw4] at bG;rw[hy4] at bT;have yF40:=bG.o.cell 0;have yF41:=bG.o.cell 1;have yS40:=bT.o.cell 0;simp at yF40 yF41 yS40;have lG:=bG.o.lt;have lT:=bT.o.lt;clear hb4 hx4 hw4 hy4 HR4;have hself:fEq P1 P2 P1 P2=true:=by simp[fEq]
  clear hbad;go_wp2;exact bodyPost_ret (v:=.bool true) (by simp[results,Try.results5,go_sem]) rfl ⟨rfl,HBW.o⟩
 ·have eP:fEq P1 P2 0 0=true:=hzP.symm;clear hzP;have ZP:=zh (show (accF a)=(0,0) by have h:=eP;rw[HP1.o,HP2.o] at h;exact fEq0A.1 h);go_upto_region 8 with fail
  clear yH0 yH1 lH eP HP1 HP2 bH;obtain⟨Q1,hQ1⟩:∃ z,z=(accF b).1:=⟨_,rfl⟩;obtain⟨Q2,hQ2⟩:∃ z,z=(accF b).2:=⟨_,rfl⟩;have HQ1:=zh hQ1;have HQ2:=zh hQ2;clear hQ1 hQ2;have y0:=bY.o.cell 0;have y1:=bY.o.cell 1;have y2:=bY.o.cell 2;simp at y0 y1 y2;have lY:=bY.o.lt;go_upto_region 9 with (go_at_call 14;refine (zC2 _ b W5 W5.heap.size (wAb _) HMB.o).mono ?_;rintro e w6 ⟨rfl,hb6⟩;rw[← HQ1.o,← HQ2.o];have HBQ:=zh hb6;clear hb6)
  generalize hW6:World.alloc _ _=W6;obtain⟨K,hK⟩:∃ z,z=w6.heap.size:=⟨_,rfl⟩;have bK:=zh (show Blk W6 K 28 #[.int .i64 Q1,.int .i64 Q2] by rw[← hW6];exact wAh hK);have uQ:=zh (show Below w6.heap.size w6 W6 by rw[← hW6];go_grown);have tQ:=zh (HBQ.o.trans (uQ.o.mono HBQ.o.size))
  try simp only[← hK]
  clear y0 y1 y2 lY;replace bX:=zh (bX.o.below tQ.o bX.o.lt);replace bY:=zh (bY.o.below tQ.o bY.o.lt);replace bS:=zh (bS.o.below tQ.o bS.o.lt);replace bF:=zh (bF.o.below tQ.o bF.o.lt);replace bT:=zh (bT.o.below tQ.o bT.o.lt);replace bG:=zh (bG.o.below tQ.o bG.o.lt);replace MS:=zh ((MS.o.below tQ.o (wAb _)).mono tQ.o.size);replace MT:=zh ((MT.o.below tQ.o (wAb _)).mono tQ.o.size);replace HMA:=zh ((HMA.o.below tQ.o (wAb _)).mono tQ.o.size);replace HMB:=zh ((HMB.o.below tQ.o (wAb _)).mono tQ.o.size);replace HBW:=zh (HBW.o.trans (tQ.o.mono HBW.o.size));clear uQ tQ HBQ hW6 hK;have yK0:=bK.o.cell 0;have yK1:=bK.o.cell 1;simp at yK0 yK1;have lK:=bK.o.lt;obtain⟨zQ,hzQ⟩:∃ z,z=fEq Q1 Q2 0 0:=⟨_,rfl⟩;cases zQ
  ·have eQ:fEq Q1 Q2 0 0=false:=hzQ.symm;clear hzQ
   have hbad:(accF b)≠(0,0):=fun h=>by
    have h2:=eQ;rw[HQ1.o,HQ2.o,fEq0A.2 h] at h2;cases h2
   have hb3:r3=(emptyM,accF b):=zH7 HR3.o ZP.o hbad;(have hx3:(f3,g3)=(Q1,Q2):=by rw[← HE3.o,hb3,HQ1.o,HQ2.o]);(have hy3:t3=0:=by rw[HTN3.o,hb3];rfl);(injection hx3 with hx3 hw3);rw[hx3,hw3] at bF;rw[hy3] at bS;have yF30:=bF.o.cell 0;have yF31:=bF.o.cell 1;have yS30:=bS.o.cell 0;simp at yF30 yF31 yS30;have lF:=bF.o.lt;have lS:=bS.o.lt;clear hb3 hx3 hw3 hy3 HR3;have hb4:r4=(emptyM,accF b):=zH7 HR4.o ZP.o hbad;(have hx4:(f4,g4)=(Q1,Q2):=by rw[← HE4.o,hb4,HQ1.o,HQ2.o]);(have hy4:t4=0:=by rw[HTN4.o,hb4];rfl);(injection hx4 with hx4 hw4);rw[hx4,hw4] at bG;rw[hy4] at bT;have yF40:=bG.o.cell 0;have yF41:=bG.o.cell 1;have yS40:=bT.o.cell 0;simp at yF40 yF41 yS40;have lG:=bG.o.lt;have lT:=bT.o.lt;clear hb4 hx4 hw4 hy4 HR4;(have hself:fEq Q1 Q2 Q1 Q2=true:=by simp[fEq]);clear hbad;go_wp2;exact bodyPost_ret (v:=.bool true) (by simp[results,Try.results5,go_sem]) rfl ⟨rfl,HBW.o⟩
  ·have eQ:fEq Q1 Q2 0 0=true:=hzQ.symm;clear hzQ;have ZQ:=zh (show (accF b)=(0,0) by have h:=eQ;rw[HQ1.o,HQ2.o] at h;exact fEq0A.1 h);(go_upto_region 11 with fail);clear yK0 yK1 lK eQ HQ1 HQ2 bK;have HLA:=zh (zI5 ZP.o);obtain⟨la,hla⟩:∃ z,z=labsR a.arcs:=⟨_,rfl⟩;have HLLA:=zh hla;obtain⟨nl,hnl⟩:∃ z,z=la.length:=⟨_,rfl⟩;have HNL:=zh hnl;(have hnl2:nl≤2000:=by have:=zK9 a.arcs;have:=HLA.o;rw[hnl,hla];omega);clear hla hnl;obtain⟨bl,hbl⟩:∃ b:Bool,decide ((300:Int)<(nl:Int))=b:=⟨_,rfl⟩;have HBL:=zh hbl;have x0:=bX.o.cell 0;have x1:=bX.o.cell 1;have x2:=bX.o.cell 2;simp at x0 x1 x2;have lX:=bX.o.lt;(go_upto_if 78 with (go_at_call 18;refine (zBP _ a W6 _ (wAb _) HMA.o (by have:=HLA.o;omega)).mono ?_;rintro e w7 ⟨A7,c7,rfl,ho7,hb7⟩;rw[← HLLA.o,← HNL.o];have HB7:=zh hb7;clear ho7 hb7));clear x0 x1 x2 lX;replace bX:=zh (bX.o.below HB7.o bX.o.lt);replace bY:=zh (bY.o.below HB7.o bY.o.lt);replace bS:=zh (bS.o.below HB7.o bS.o.lt);replace bF:=zh (bF.o.below HB7.o bF.o.lt);replace bT:=zh (bT.o.below HB7.o bT.o.lt);replace bG:=zh (bG.o.below HB7.o bG.o.lt);replace MS:=zh ((MS.o.below HB7.o (wAb _)).mono HB7.o.size);replace MT:=zh ((MT.o.below HB7.o (wAb _)).mono HB7.o.size);replace HMA:=zh ((HMA.o.below HB7.o (wAb _)).mono HB7.o.size);replace HMB:=zh ((HMB.o.below HB7.o (wAb _)).mono HB7.o.size);replace HBW:=zh (HBW.o.trans (HB7.o.mono HBW.o.size));clear HB7 hbl;cases bl
   rotate_left
   ·clear HR3 HR4;go_wp2;exact bodyPost_ret (v:=.bool true) (by simp[results,Try.results5,go_sem]) rfl ⟨rfl,HBW.o⟩
   ·have HL3:=zh (show (labsR a.arcs).length≤300 by have h:=of_decide_eq_false HBL.o;rw[← HLLA.o,← HNL.o];omega);clear HBL;go_upto_region 13 with fail
    go_cut [11,12] from 79 to 86 (fun s1 s2 wx=>∃ (T:Nat) (x9:Int) (A9 AF9:Option Addr) (n9 c9 nf9 cf9:Nat) (bo9:Bool),s1=.pointer (some ⟨T,0,none⟩)∧s2=.bool bo9∧Hid (Blk wx T 25 #[.int .i64 x9,.slice A9 n9 c9,.slice AF9 nf9 cf9])∧Hid (bo9=true→∃ t,FitsR r3 t∧MachAt wx wx.heap.size (.agg #[.int .i64 x9,.slice A9 n9 c9,.slice AF9 nf9 cf9]) t)∧Hid (Below w7.heap.size w7 wx))
    case first =>
     obtain⟨F,hF⟩:∃ F:(Nat→Bool)→(Nat→Value)→World→Prop,F=fun l v wr =>
      Hid ((l 0=true→v 0=(.agg #[.int .i64 sa,.slice A1 n1 c1,.slice AF1 nf1 cf1]))) ∧
      Hid ((l 1=true→v 1=(.agg #[.int .i64 sb,.slice A2 n2 c2,.slice AF2 nf2 cf2]))) ∧
      Hid ((l 2=true→v 2=(.agg #[.int .i64 sa,.slice A1 n1 c1,.slice AF1 nf1 cf1]))) ∧
      Hid ((l 3=true→l 4=false→∃ A c,v 3=.slice A nl c∧Nums wr wr.heap.size (.slice A nl c) la)) ∧
      Hid ((l 4=true→LgV wr (v 4) r3 (l 8) (v 8))) ∧
      Hid ((l 5=true→v 5=v 4)) ∧
      Hid ((l 6=true→∃ z,v 4=.tuple #[v 6,z])) ∧
      Hid ((l 7=true→∃ z,v 4=.tuple #[z,v 7])) ∧
      Hid ((l 8=true→∃ T c0 c1 c2,v 8=.pointer (some ⟨T,0,none⟩)∧w7.heap.size≤T∧Blk wr T 25 #[c0,c1,c2]∧(l 9=true→v 6=.agg #[c0,c1,c2]))) ∧
      Hid ((l 10=true→v 10=v 7)) ∧
      Hid (Below w7.heap.size w7 wr):=⟨_,rfl⟩
     have HFD:=zh hF;clear hF;refine zAj F (A:=?AR1) ?hA (by kernel_rfl) (by kernel_rfl) (by kernel_rfl) ?h0 ?hend ?hsteps
     case hA=>intro v;simp only[putR,wAg,wAa,wAc,wAd,wAi,wAj];exact rfl
     case h0 =>
      intro v;rw[HFD.o];exact⟨zh (nofun),zh (nofun),zh (nofun),zh (nofun),zh (nofun),zh (nofun),zh (nofun),zh (nofun),zh (nofun),zh (nofun),zh ((Below.refl _ _).drew)⟩
     case hend =>
      intro l v wr hall hF;rw[HFD.o] at hF;obtain⟨H0,H1,H2,H3,H4,H5,H6,H7,H8,H9,H10⟩:=hF;have f0:=H0.o;have f1:=H1.o;have f2:=H2.o;have f3:=H3.o;have f4:=H4.o;have f5:=H5.o;have f6:=H6.o;have f7:=H7.o;have f8:=H8.o;have f9:=H9.o;have f10:=H10.o;clear H0 H1 H2 H3 H4 H5 H6 H7 H8 H9 H10;obtain⟨z6,e6⟩:=f6 (hall 6 (by simp));obtain⟨z7,e7⟩:=f7 (hall 7 (by simp));have e10:=f9 (hall 10 (by simp));obtain⟨T,a0,a1,a2,e8,_,hT,s9⟩:=f8 (hall 8 (by simp));obtain⟨x9,A9,AF9,n9,c9,nf9,cf9,bo9,lo,w9,e4,g2,g3,g4,_⟩:=f4 (hall 4 (by simp));have s9:=s9 (hall 9 (by simp));have t1:=(zB7 (e4.symm.trans e6)).1;have t2:=(zB7 (e4.symm.trans e7)).2;rw[s9] at t1;(injection t1 with t1);rw[← t1] at hT;have HT:=zh hT;have HE8:=zh e8;have HE10:=zh (e10.trans t2.symm);have HT9:=zh (show bo9=true→∃ t,FitsR r3 t∧MachAt wr wr.heap.size (.agg #[.int .i64 x9,.slice A9 n9 c9,.slice AF9 nf9 cf9]) t from fun h=>by obtain⟨t,h1,h2⟩:=g2 h;exact⟨t,h1,h2 wr g3 g4⟩);have HB9:=zh f10;clear f0 f1 f2 f3 f4 f5 f6 f7 f8 f9 f10 hall e4 e6 e7 e8 e10 g2 g3 g4 s9 t1 t2 hT;go_wp2;go_meet;exact⟨T,x9,A9,AF9,n9,c9,nf9,cf9,bo9,HE8.o,HE10.o,HT,HT9,HB9⟩
     case hsteps =>
      refine wAf (n:=0) ?_ (wAf (n:=1) ?_ (wAf (n:=2) ?_ (wAf (n:=3) ?_ (wAf (n:=4) ?_ (wAf (n:=5) ?_ (wAf (n:=6) ?_ (wAf (n:=7) ?_ (wAf (n:=8) ?_ (wAf (n:=9) ?_ (wAf (n:=10) ?_ (trivial)))))))))))
      ·intro l v wr hn hdep hcl hF K hK;rw[HFD.o] at hF;obtain⟨H0,H1,H2,H3,H4,H5,H6,H7,H8,H9,H10⟩:=hF;simp[wAe] at hdep;have HCL:=zh hcl;have HN:=zh hn;clear hcl hn;have bq:=zh (bX.o.below H10.o bX.o.lt);have x0:=bq.o.cell 0;have x1:=bq.o.cell 1;have x2:=bq.o.cell 2;simp at x0 x1 x2;go_simp
       have hk:=hK.out (.agg #[.int .i64 sa,.slice A1 n1 c1,.slice AF1 nf1 cf1]) wr (by
        rw[HFD.o]
        exact⟨zh ((fun _=>rfl)),H1,H2,H3,H4,H5,H6,H7,H8,H9,H10⟩)
       simp only[wAg,wAa,wAc,wAd] at hk;exact hk
      ·intro l v wr hn hdep hcl hF K hK;rw[HFD.o] at hF;obtain⟨H0,H1,H2,H3,H4,H5,H6,H7,H8,H9,H10⟩:=hF;simp[wAe] at hdep;have HCL:=zh hcl;have HN:=zh hn;clear hcl hn;have bq:=zh (bY.o.below H10.o bY.o.lt);have x0:=bq.o.cell 0;have x1:=bq.o.cell 1;have x2:=bq.o.cell 2;simp at x0 x1 x2;go_simp
       have hk:=hK.out (.agg #[.int .i64 sb,.slice A2 n2 c2,.slice AF2 nf2 cf2]) wr (by
        rw[HFD.o]
        exact⟨H0,zh ((fun _=>rfl)),H2,H3,H4,H5,H6,H7,H8,H9,H10⟩)
       simp only[wAg,wAa,wAc,wAd] at hk;exact hk
      ·intro l v wr hn hdep hcl hF K hK;rw[HFD.o] at hF;obtain⟨H0,H1,H2,H3,H4,H5,H6,H7,H8,H9,H10⟩:=hF;simp[wAe] at hdep;have HCL:=zh hcl;have HN:=zh hn;clear hcl hn;have bq:=zh (bX.o.below H10.o bX.o.lt);have x0:=bq.o.cell 0;have x1:=bq.o.cell 1;have x2:=bq.o.cell 2;simp at x0 x1 x2;go_simp
       have hk:=hK.out (.agg #[.int .i64 sa,.slice A1 n1 c1,.slice AF1 nf1 cf1]) wr (by
        rw[HFD.o]
        exact⟨H0,H1,zh ((fun _=>rfl)),H3,H4,H5,H6,H7,H8,H9,H10⟩)
       simp only[wAg,wAa,wAc,wAd] at hk;exact hk
      ·intro l v wr hn hdep hcl hF K hK;rw[HFD.o] at hF;obtain⟨H0,H1,H2,H3,H4,H5,H6,H7,H8,H9,H10⟩:=hF;simp[wAe] at hdep;have HCL:=zh hcl;have HN:=zh hn;clear hcl hn;have e2:=H2.o (by simp[hdep]);go_simp;refine (zBP _ a wr _ (wAb _) ((HMA.o.below H10.o (wAb _)).mono H10.o.size) (by have:=HLA.o;omega)).mono ?_;rintro e w9 ⟨A9,c9,rfl,ho9,hb9⟩;rw[← HLLA.o,← HNL.o] at ho9 ⊢;have HU9:=zh (zAZ ho9 (by unfold big;omega));clear ho9
       have hk:=hK.out (.slice A9 nl c9) w9 (by
        rw[HFD.o]
        exact⟨H0,H1,H2,zh ((fun _ _=>⟨A9,c9,rfl,HU9.o⟩)),zh ((fun h=>(H4.o h).below hb9)),H5,H6,H7,zh ((fun h=>by obtain⟨T,c0,c1,c2,z1,z2,z3,z4⟩:=H8.o h;exact⟨T,c0,c1,c2,z1,z2,z3.below hb9 z3.lt,z4⟩)),H9,zh (H10.o.trans ((hb9).mono H10.o.size))⟩)
       simp only[wAg,wAa,wAc,wAd] at hk;simp only[e2] at hk;exact hk
      ·intro l v wr hn hdep hcl hF K hK;rw[HFD.o] at hF;obtain⟨H0,H1,H2,H3,H4,H5,H6,H7,H8,H9,H10⟩:=hF;simp[wAe] at hdep;have HCL:=zh hcl;have HN:=zh hn;clear hcl hn;have e0:=H0.o (by simp[hdep]);have e1:=H1.o (by simp[hdep]);have h6:=HN.o;obtain⟨A8,c8,e3,hn3⟩:=H3.o (by simp[hdep]) h6;have HN3:=zh hn3;clear hdep h6 hn3;go_simp;refine (zIB _ _ _ a b 1 _ howK1 (fun q=>rfl) r3 HR3.o wr _ (wAb _) ((HMA.o.below H10.o (wAb _)).mono H10.o.size) ((HMB.o.below H10.o (wAb _)).mono H10.o.size) (by rw[← HLLA.o];exact HN3.o) ZP.o ZQ.o HL3.o).mono ?_;rintro e w9 ⟨v9,bo9,rfl,hb9,⟨x9,A9,AF9,n9,c9,nf9,cf9,rfl⟩,ht9⟩
       have hk:=hK.out (.tuple #[.agg #[.int .i64 x9,.slice A9 n9 c9,.slice AF9 nf9 cf9],.bool bo9]) w9 (by
        rw[HFD.o]
        exact⟨H0,H1,H2,zh ((fun _ h=>absurd h (by simp[updR]))),zh ((fun _=>⟨x9,A9,AF9,n9,c9,nf9,cf9,bo9,wr.heap.size,w9,rfl,ht9,wAb _,fun _ _ _=>rfl,fun h=>by obtain⟨T,c0,c1,c2,z1,z2,z3,z4⟩:=H8.o h;exact⟨T,z1,.inl z3.lt⟩⟩)),zh ((fun h=>absurd (HCL.o 5 _ rfl h ⟨4,.data⟩ (by simp) rfl) (by rw[HN.o];decide))),zh ((fun h=>absurd (HCL.o 5 _ rfl (HCL.o 6 _ rfl h ⟨5,.data⟩ (by simp) rfl) ⟨4,.data⟩ (by simp) rfl) (by rw[HN.o];decide))),zh ((fun h=>absurd (HCL.o 5 _ rfl (HCL.o 7 _ rfl h ⟨5,.data⟩ (by simp) rfl) ⟨4,.data⟩ (by simp) rfl) (by rw[HN.o];decide))),zh ((fun h=>by obtain⟨T,c0,c1,c2,z1,z2,z3,z4⟩:=H8.o h;exact⟨T,c0,c1,c2,z1,z2,z3.below hb9 z3.lt,z4⟩)),zh ((fun h=>absurd (HCL.o 5 _ rfl (HCL.o 7 _ rfl (HCL.o 10 _ rfl h ⟨7,.data⟩ (by simp) rfl) ⟨5,.data⟩ (by simp) rfl) ⟨4,.data⟩ (by simp) rfl) (by rw[HN.o];decide))),zh (H10.o.trans ((hb9).mono H10.o.size))⟩)
       simp only[wAg,wAa,wAc,wAd] at hk;simp only[e0,e1] at hk;simp only[e3] at hk;exact hk
      ·intro l v wr hn hdep hcl hF K hK;rw[HFD.o] at hF;obtain⟨H0,H1,H2,H3,H4,H5,H6,H7,H8,H9,H10⟩:=hF;simp[wAe] at hdep;have HCL:=zh hcl;have HN:=zh hn;clear hcl hn;obtain⟨x9,A9,AF9,n9,c9,nf9,cf9,bo9,lo,w9,e4,z2,z3,z4,z5⟩:=H4.o (by simp[hdep]);clear z2 z3 z4 z5;go_simp
       have hk:=hK.out (.tuple #[.agg #[.int .i64 x9,.slice A9 n9 c9,.slice AF9 nf9 cf9],.bool bo9]) wr (by
        rw[HFD.o]
        exact⟨H0,H1,H2,H3,H4,zh ((fun _=>e4.symm)),zh ((fun h=>absurd (HCL.o 6 _ rfl h ⟨5,.data⟩ (by simp) rfl) (by rw[HN.o];decide))),zh ((fun h=>absurd (HCL.o 7 _ rfl h ⟨5,.data⟩ (by simp) rfl) (by rw[HN.o];decide))),H8,zh ((fun h=>absurd (HCL.o 7 _ rfl (HCL.o 10 _ rfl h ⟨7,.data⟩ (by simp) rfl) ⟨5,.data⟩ (by simp) rfl) (by rw[HN.o];decide))),H10⟩)
       simp only[wAg,wAa,wAc,wAd] at hk;simp only[e4] at hk;exact hk
      ·intro l v wr hn hdep hcl hF K hK;rw[HFD.o] at hF;obtain⟨H0,H1,H2,H3,H4,H5,H6,H7,H8,H9,H10⟩:=hF;simp[wAe] at hdep;have HCL:=zh hcl;have HN:=zh hn;clear hcl hn;obtain⟨x9,A9,AF9,n9,c9,nf9,cf9,bo9,lo,w9,e4,z2,z3,z4,z5⟩:=H4.o (HCL.o 5 _ rfl (by simp[hdep]) ⟨4,.data⟩ (by simp) rfl);clear z2 z3 z4 z5;have e5:=(H5.o (by simp[hdep])).trans e4;have E4:=zh e4;clear e4;go_simp
       have hk:=hK.out (.agg #[.int .i64 x9,.slice A9 n9 c9,.slice AF9 nf9 cf9]) wr (by
        rw[HFD.o]
        exact⟨H0,H1,H2,H3,H4,H5,zh ((fun _=>⟨_,E4.o⟩)),H7,zh ((fun h=>by obtain⟨T,c0,c1,c2,z1,z2,z3,z4⟩:=H8.o h;exact⟨T,c0,c1,c2,z1,z2,z3,fun h=>absurd (HCL.o 9 _ rfl h ⟨6,.data⟩ (by simp) rfl) (by rw[HN.o];decide)⟩)),H9,H10⟩)
       simp only[wAg,wAa,wAc,wAd] at hk;simp only[e5] at hk;exact hk
      ·intro l v wr hn hdep hcl hF K hK;rw[HFD.o] at hF;obtain⟨H0,H1,H2,H3,H4,H5,H6,H7,H8,H9,H10⟩:=hF;simp[wAe] at hdep;have HCL:=zh hcl;have HN:=zh hn;clear hcl hn;obtain⟨x9,A9,AF9,n9,c9,nf9,cf9,bo9,lo,w9,e4,z2,z3,z4,z5⟩:=H4.o (HCL.o 5 _ rfl (by simp[hdep]) ⟨4,.data⟩ (by simp) rfl);clear z2 z3 z4 z5;have e5:=(H5.o (by simp[hdep])).trans e4;have E4:=zh e4;clear e4;go_simp
       have hk:=hK.out (.bool bo9) wr (by
        rw[HFD.o]
        exact⟨H0,H1,H2,H3,H4,H5,H6,zh ((fun _=>⟨_,E4.o⟩)),H8,zh ((fun h=>absurd (HCL.o 10 _ rfl h ⟨7,.data⟩ (by simp) rfl) (by rw[HN.o];decide))),H10⟩)
       simp only[wAg,wAa,wAc,wAd] at hk;simp only[e5] at hk;exact hk
      ·intro l v wr hn hdep hcl hF K hK;rw[HFD.o] at hF;obtain⟨H0,H1,H2,H3,H4,H5,H6,H7,H8,H9,H10⟩:=hF;simp[wAe] at hdep;have HCL:=zh hcl;have HN:=zh hn;clear hcl hn;have HBA:=zh (show Below wr.heap.size wr (wr.alloc (.cells #[.int .i64 0,.slice none 0 0,.slice none 0 0] 25)) from (Below.refl _ _).alloc (wAb _) _);go_simp
       have hk:=hK.out (.pointer (some ⟨wr.heap.size,0,none⟩)) (wr.alloc (.cells #[.int .i64 0,.slice none 0 0,.slice none 0 0] 25)) (by
        rw[HFD.o]
        exact⟨H0,H1,H2,zh ((fun h h6=>by obtain⟨A,c,z1,z2⟩:=H3.o h h6;exact⟨A,c,z1,(z2.below HBA.o (wAb _)).mono (HBA.o).size⟩)),zh ((fun h=>(H4.o h).alloc _)),H5,H6,H7,zh ((fun _=>⟨wr.heap.size,_,_,_,rfl,H10.o.size,wAh rfl,(fun h=>absurd (HCL.o 9 _ rfl h ⟨8,.data⟩ (by simp) rfl) (by rw[HN.o];decide))⟩)),H9,zh (H10.o.trans ((HBA.o).mono H10.o.size))⟩)
       simp only[wAg,wAa,wAc,wAd] at hk;exact hk
      ·intro l v wr hn hdep hcl hF K hK;rw[HFD.o] at hF;obtain⟨H0,H1,H2,H3,H4,H5,H6,H7,H8,H9,H10⟩:=hF;simp[wAe] at hdep;have HCL:=zh hcl;have HN:=zh hn;clear hcl hn;have d4:l 4=true:=HCL.o 5 _ rfl (HCL.o 6 _ rfl (by simp[hdep]) ⟨5,.data⟩ (by simp) rfl) ⟨4,.data⟩ (by simp) rfl;(have da:l 8=true:=by simp[hdep]);have HD4:=zh d4;have HC4:=zh (H4.o d4);obtain⟨x9,A9,AF9,n9,c9,nf9,cf9,bo9,lo,w9,e4,z2,z3,z4,z5⟩:=H4.o d4;clear z2 z3 z4 z5;obtain⟨z,e60⟩:=H6.o (by simp[hdep]);obtain⟨t6,t7⟩:=zB7 (e4.symm.trans e60);have E6:=zh t6.symm;obtain⟨T,b0,b1,b2,e8,hT,hblk,_⟩:=H8.o da;have HDA:=zh da;have x0:=hblk.cell 0;have xf0:=hblk.frozen 0;have x1:=hblk.cell 1;have xf1:=hblk.frozen 1;have x2:=hblk.cell 2;have xf2:=hblk.frozen 2;simp at x0 x1 x2;have lg:=hblk.lt;have HBK:=zh hblk;have HT:=zh hT;have HE8:=zh e8;have e6:=E6.o;clear hdep d4 da hblk hT t6 t7 e4 e60;go_simp
       have hk:=hK.out undef (((wr.setCell ⟨T,0,none⟩ (.int .i64 x9)).setCell ⟨T,1,none⟩ (.slice A9 n9 c9)).setCell ⟨T,2,none⟩ (.slice AF9 nf9 cf9)) (by
        rw[HFD.o]
        exact⟨H0,H1,H2,zh ((fun _ h=>absurd HD4.o (by rw[show l 4=false from h];decide))),zh ((fun _=>by have h:=(((((by have h:=HC4.o;rw[HDA.o,HE8.o] at h;exact h):LgV _ _ _ true _).setT 0 (.int .i64 x9)).setT 1 (.slice A9 n9 c9)).setT 2 (.slice AF9 nf9 cf9));rw[show updR l 9 true 8=l 8 from rfl,show updR v 9 undef 8=v 8 from rfl,HDA.o,HE8.o];exact h)),H5,H6,H7,zh ((fun _=>⟨T,_,_,_,HE8.o,HT.o,(((HBK.o.set_ 0 _).set_ 1 _).set_ 2 _),fun _=>E6.o⟩)),H9,zh ((((H10.o.setCell (p:=⟨T,0,none⟩) (by exact HT.o) _).setCell (p:=⟨T,1,none⟩) (by exact HT.o) _).setCell (p:=⟨T,2,none⟩) (by exact HT.o) _))⟩)
       simp only[wAg,wAa,wAc,wAd] at hk;simp only[e6,e8] at hk;exact hk
      ·intro l v wr hn hdep hcl hF K hK;rw[HFD.o] at hF;obtain⟨H0,H1,H2,H3,H4,H5,H6,H7,H8,H9,H10⟩:=hF;simp[wAe] at hdep;have HCL:=zh hcl;have HN:=zh hn;clear hcl hn;obtain⟨x9,A9,AF9,n9,c9,nf9,cf9,bo9,lo,w9,e4,z2,z3,z4,z5⟩:=H4.o (HCL.o 5 _ rfl (HCL.o 7 _ rfl (by simp[hdep]) ⟨5,.data⟩ (by simp) rfl) ⟨4,.data⟩ (by simp) rfl);clear z2 z3 z4 z5;obtain⟨z,e70⟩:=H7.o (by simp[hdep]);have E7:=zh (zB7 (e4.symm.trans e70)).2.symm;have e7:=E7.o;clear e4 e70;go_simp
       have hk:=hK.out (.bool bo9) wr (by
        rw[HFD.o]
        exact⟨H0,H1,H2,H3,H4,H5,H6,H7,H8,zh ((fun _=>E7.o.symm)),H10⟩)
       simp only[wAg,wAa,wAc,wAd] at hk;simp only[e7] at hk;exact hk
    case rest =>
     obtain⟨U,x3,B3,BF3,m3,d3,mf3,df3,bo3,rfl,rfl,bU,HT3,HBC3⟩:=hcut;obtain⟨W3c,hW3⟩:∃ z,z=wc:=⟨_,rfl⟩;rw[← hW3] at bU HT3 HBC3 ⊢;clear hW3;replace bX:=zh (bX.o.below HBC3.o bX.o.lt);replace bY:=zh (bY.o.below HBC3.o bY.o.lt);replace bS:=zh (bS.o.below HBC3.o bS.o.lt);replace bF:=zh (bF.o.below HBC3.o bF.o.lt);replace bT:=zh (bT.o.below HBC3.o bT.o.lt);replace bG:=zh (bG.o.below HBC3.o bG.o.lt);replace MS:=zh ((MS.o.below HBC3.o (wAb _)).mono HBC3.o.size);replace MT:=zh ((MT.o.below HBC3.o (wAb _)).mono HBC3.o.size);replace HMA:=zh ((HMA.o.below HBC3.o (wAb _)).mono HBC3.o.size);replace HMB:=zh ((HMB.o.below HBC3.o (wAb _)).mono HBC3.o.size);replace HBW:=zh (HBW.o.trans (HBC3.o.mono HBW.o.size));clear HBC3;go_upto_region 14 with fail
     go_cut [13,14] from 87 to 94 (fun s1 s2 wx=>∃ (T:Nat) (x9:Int) (A9 AF9:Option Addr) (n9 c9 nf9 cf9:Nat) (bo9:Bool),s1=.pointer (some ⟨T,0,none⟩)∧s2=.bool bo9∧Hid (Blk wx T 25 #[.int .i64 x9,.slice A9 n9 c9,.slice AF9 nf9 cf9])∧Hid (bo9=true→∃ t,FitsR r4 t∧MachAt wx wx.heap.size (.agg #[.int .i64 x9,.slice A9 n9 c9,.slice AF9 nf9 cf9]) t)∧Hid (Below W3c.heap.size W3c wx))
     case first =>
      obtain⟨F,hF⟩:∃ F:(Nat→Bool)→(Nat→Value)→World→Prop,F=fun l v wr =>
       Hid ((l 0=true→v 0=(.agg #[.int .i64 sa,.slice A1 n1 c1,.slice AF1 nf1 cf1]))) ∧
       Hid ((l 1=true→v 1=(.agg #[.int .i64 sb,.slice A2 n2 c2,.slice AF2 nf2 cf2]))) ∧
       Hid ((l 2=true→v 2=(.agg #[.int .i64 sa,.slice A1 n1 c1,.slice AF1 nf1 cf1]))) ∧
       Hid ((l 3=true→l 4=false→∃ A c,v 3=.slice A nl c∧Nums wr wr.heap.size (.slice A nl c) la)) ∧
       Hid ((l 4=true→LgV wr (v 4) r4 (l 8) (v 8))) ∧
       Hid ((l 5=true→v 5=v 4)) ∧
       Hid ((l 6=true→∃ z,v 4=.tuple #[v 6,z])) ∧
       Hid ((l 7=true→∃ z,v 4=.tuple #[z,v 7])) ∧
       Hid ((l 8=true→∃ T c0 c1 c2,v 8=.pointer (some ⟨T,0,none⟩)∧W3c.heap.size≤T∧Blk wr T 25 #[c0,c1,c2]∧(l 9=true→v 6=.agg #[c0,c1,c2]))) ∧
       Hid ((l 10=true→v 10=v 7)) ∧
       Hid (Below W3c.heap.size W3c wr):=⟨_,rfl⟩
      have HFD:=zh hF;clear hF;refine zAj F (A:=?AR2) ?hA (by kernel_rfl) (by kernel_rfl) (by kernel_rfl) ?h0 ?hend ?hsteps
      case hA=>intro v;simp only[putR,wAg,wAa,wAc,wAd,wAi,wAj];exact rfl
      case h0 =>
       intro v;rw[HFD.o];exact⟨zh (nofun),zh (nofun),zh (nofun),zh (nofun),zh (nofun),zh (nofun),zh (nofun),zh (nofun),zh (nofun),zh (nofun),zh ((Below.refl _ _).drew)⟩
      case hend =>
       intro l v wr hall hF;rw[HFD.o] at hF;obtain⟨H0,H1,H2,H3,H4,H5,H6,H7,H8,H9,H10⟩:=hF;have f0:=H0.o;have f1:=H1.o;have f2:=H2.o;have f3:=H3.o;have f4:=H4.o;have f5:=H5.o;have f6:=H6.o;have f7:=H7.o;have f8:=H8.o;have f9:=H9.o;have f10:=H10.o;clear H0 H1 H2 H3 H4 H5 H6 H7 H8 H9 H10;obtain⟨z6,e6⟩:=f6 (hall 6 (by simp));obtain⟨z7,e7⟩:=f7 (hall 7 (by simp));have e10:=f9 (hall 10 (by simp));obtain⟨T,a0,a1,a2,e8,_,hT,s9⟩:=f8 (hall 8 (by simp));obtain⟨x9,A9,AF9,n9,c9,nf9,cf9,bo9,lo,w9,e4,g2,g3,g4,_⟩:=f4 (hall 4 (by simp));have s9:=s9 (hall 9 (by simp));have t1:=(zB7 (e4.symm.trans e6)).1;have t2:=(zB7 (e4.symm.trans e7)).2;rw[s9] at t1;(injection t1 with t1);rw[← t1] at hT;have HT:=zh hT;have HE8:=zh e8;have HE10:=zh (e10.trans t2.symm);have HT9:=zh (show bo9=true→∃ t,FitsR r4 t∧MachAt wr wr.heap.size (.agg #[.int .i64 x9,.slice A9 n9 c9,.slice AF9 nf9 cf9]) t from fun h=>by obtain⟨t,h1,h2⟩:=g2 h;exact⟨t,h1,h2 wr g3 g4⟩);have HB9:=zh f10;clear f0 f1 f2 f3 f4 f5 f6 f7 f8 f9 f10 hall e4 e6 e7 e8 e10 g2 g3 g4 s9 t1 t2 hT;go_wp2;go_meet;exact⟨T,x9,A9,AF9,n9,c9,nf9,cf9,bo9,HE8.o,HE10.o,HT,HT9,HB9⟩
      case hsteps =>
       refine wAf (n:=0) ?_ (wAf (n:=1) ?_ (wAf (n:=2) ?_ (wAf (n:=3) ?_ (wAf (n:=4) ?_ (wAf (n:=5) ?_ (wAf (n:=6) ?_ (wAf (n:=7) ?_ (wAf (n:=8) ?_ (wAf (n:=9) ?_ (wAf (n:=10) ?_ (trivial)))))))))))
       ·intro l v wr hn hdep hcl hF K hK;rw[HFD.o] at hF;obtain⟨H0,H1,H2,H3,H4,H5,H6,H7,H8,H9,H10⟩:=hF;simp[wAe] at hdep;have HCL:=zh hcl;have HN:=zh hn;clear hcl hn;have bq:=zh (bX.o.below H10.o bX.o.lt);have x0:=bq.o.cell 0;have x1:=bq.o.cell 1;have x2:=bq.o.cell 2;simp at x0 x1 x2;go_simp
        have hk:=hK.out (.agg #[.int .i64 sa,.slice A1 n1 c1,.slice AF1 nf1 cf1]) wr (by
         rw[HFD.o]
         exact⟨zh ((fun _=>rfl)),H1,H2,H3,H4,H5,H6,H7,H8,H9,H10⟩)
        simp only[wAg,wAa,wAc,wAd] at hk;exact hk
       ·intro l v wr hn hdep hcl hF K hK;rw[HFD.o] at hF;obtain⟨H0,H1,H2,H3,H4,H5,H6,H7,H8,H9,H10⟩:=hF;simp[wAe] at hdep;have HCL:=zh hcl;have HN:=zh hn;clear hcl hn;have bq:=zh (bY.o.below H10.o bY.o.lt);have x0:=bq.o.cell 0;have x1:=bq.o.cell 1;have x2:=bq.o.cell 2;simp at x0 x1 x2;go_simp
        have hk:=hK.out (.agg #[.int .i64 sb,.slice A2 n2 c2,.slice AF2 nf2 cf2]) wr (by
         rw[HFD.o]
         exact⟨H0,zh ((fun _=>rfl)),H2,H3,H4,H5,H6,H7,H8,H9,H10⟩)
        simp only[wAg,wAa,wAc,wAd] at hk;exact hk
       ·intro l v wr hn hdep hcl hF K hK;rw[HFD.o] at hF;obtain⟨H0,H1,H2,H3,H4,H5,H6,H7,H8,H9,H10⟩:=hF;simp[wAe] at hdep;have HCL:=zh hcl;have HN:=zh hn;clear hcl hn;have bq:=zh (bX.o.below H10.o bX.o.lt);have x0:=bq.o.cell 0;have x1:=bq.o.cell 1;have x2:=bq.o.cell 2;simp at x0 x1 x2;go_simp
        have hk:=hK.out (.agg #[.int .i64 sa,.slice A1 n1 c1,.slice AF1 nf1 cf1]) wr (by
         rw[HFD.o]
         exact⟨H0,H1,zh ((fun _=>rfl)),H3,H4,H5,H6,H7,H8,H9,H10⟩)
        simp only[wAg,wAa,wAc,wAd] at hk;exact hk
       ·intro l v wr hn hdep hcl hF K hK;rw[HFD.o] at hF;obtain⟨H0,H1,H2,H3,H4,H5,H6,H7,H8,H9,H10⟩:=hF;simp[wAe] at hdep;have HCL:=zh hcl;have HN:=zh hn;clear hcl hn;have e2:=H2.o (by simp[hdep]);go_simp;refine (zBP _ a wr _ (wAb _) ((HMA.o.below H10.o (wAb _)).mono H10.o.size) (by have:=HLA.o;omega)).mono ?_;rintro e w9 ⟨A9,c9,rfl,ho9,hb9⟩;rw[← HLLA.o,← HNL.o] at ho9 ⊢;have HU9:=zh (zAZ ho9 (by unfold big;omega));clear ho9
        have hk:=hK.out (.slice A9 nl c9) w9 (by
         rw[HFD.o]
         exact⟨H0,H1,H2,zh ((fun _ _=>⟨A9,c9,rfl,HU9.o⟩)),zh ((fun h=>(H4.o h).below hb9)),H5,H6,H7,zh ((fun h=>by obtain⟨T,c0,c1,c2,z1,z2,z3,z4⟩:=H8.o h;exact⟨T,c0,c1,c2,z1,z2,z3.below hb9 z3.lt,z4⟩)),H9,zh (H10.o.trans ((hb9).mono H10.o.size))⟩)
        simp only[wAg,wAa,wAc,wAd] at hk;simp only[e2] at hk;exact hk
       ·intro l v wr hn hdep hcl hF K hK;rw[HFD.o] at hF;obtain⟨H0,H1,H2,H3,H4,H5,H6,H7,H8,H9,H10⟩:=hF;simp[wAe] at hdep;have HCL:=zh hcl;have HN:=zh hn;clear hcl hn;have e0:=H0.o (by simp[hdep]);have e1:=H1.o (by simp[hdep]);have h6:=HN.o;obtain⟨A8,c8,e3,hn3⟩:=H3.o (by simp[hdep]) h6;have HN3:=zh hn3;clear hdep h6 hn3;go_simp;refine (zIB _ _ _ a b 2 _ howK2 (fun q=>rfl) r4 HR4.o wr _ (wAb _) ((HMA.o.below H10.o (wAb _)).mono H10.o.size) ((HMB.o.below H10.o (wAb _)).mono H10.o.size) (by rw[← HLLA.o];exact HN3.o) ZP.o ZQ.o HL3.o).mono ?_;rintro e w9 ⟨v9,bo9,rfl,hb9,⟨x9,A9,AF9,n9,c9,nf9,cf9,rfl⟩,ht9⟩
        have hk:=hK.out (.tuple #[.agg #[.int .i64 x9,.slice A9 n9 c9,.slice AF9 nf9 cf9],.bool bo9]) w9 (by
         rw[HFD.o]
         exact⟨H0,H1,H2,zh ((fun _ h=>absurd h (by simp[updR]))),zh ((fun _=>⟨x9,A9,AF9,n9,c9,nf9,cf9,bo9,wr.heap.size,w9,rfl,ht9,wAb _,fun _ _ _=>rfl,fun h=>by obtain⟨T,c0,c1,c2,z1,z2,z3,z4⟩:=H8.o h;exact⟨T,z1,.inl z3.lt⟩⟩)),zh ((fun h=>absurd (HCL.o 5 _ rfl h ⟨4,.data⟩ (by simp) rfl) (by rw[HN.o];decide))),zh ((fun h=>absurd (HCL.o 5 _ rfl (HCL.o 6 _ rfl h ⟨5,.data⟩ (by simp) rfl) ⟨4,.data⟩ (by simp) rfl) (by rw[HN.o];decide))),zh ((fun h=>absurd (HCL.o 5 _ rfl (HCL.o 7 _ rfl h ⟨5,.data⟩ (by simp) rfl) ⟨4,.data⟩ (by simp) rfl) (by rw[HN.o];decide))),zh ((fun h=>by obtain⟨T,c0,c1,c2,z1,z2,z3,z4⟩:=H8.o h;exact⟨T,c0,c1,c2,z1,z2,z3.below hb9 z3.lt,z4⟩)),zh ((fun h=>absurd (HCL.o 5 _ rfl (HCL.o 7 _ rfl (HCL.o 10 _ rfl h ⟨7,.data⟩ (by simp) rfl) ⟨5,.data⟩ (by simp) rfl) ⟨4,.data⟩ (by simp) rfl) (by rw[HN.o];decide))),zh (H10.o.trans ((hb9).mono H10.o.size))⟩)
        simp only[wAg,wAa,wAc,wAd] at hk;simp only[e0,e1] at hk;simp only[e3] at hk;exact hk
       ·intro l v wr hn hdep hcl hF K hK;rw[HFD.o] at hF;obtain⟨H0,H1,H2,H3,H4,H5,H6,H7,H8,H9,H10⟩:=hF;simp[wAe] at hdep;have HCL:=zh hcl;have HN:=zh hn;clear hcl hn;obtain⟨x9,A9,AF9,n9,c9,nf9,cf9,bo9,lo,w9,e4,z2,z3,z4,z5⟩:=H4.o (by simp[hdep]);clear z2 z3 z4 z5;go_simp
        have hk:=hK.out (.tuple #[.agg #[.int .i64 x9,.slice A9 n9 c9,.slice AF9 nf9 cf9],.bool bo9]) wr (by
         rw[HFD.o]
         exact⟨H0,H1,H2,H3,H4,zh ((fun _=>e4.symm)),zh ((fun h=>absurd (HCL.o 6 _ rfl h ⟨5,.data⟩ (by simp) rfl) (by rw[HN.o];decide))),zh ((fun h=>absurd (HCL.o 7 _ rfl h ⟨5,.data⟩ (by simp) rfl) (by rw[HN.o];decide))),H8,zh ((fun h=>absurd (HCL.o 7 _ rfl (HCL.o 10 _ rfl h ⟨7,.data⟩ (by simp) rfl) ⟨5,.data⟩ (by simp) rfl) (by rw[HN.o];decide))),H10⟩)
        simp only[wAg,wAa,wAc,wAd] at hk;simp only[e4] at hk;exact hk
       ·intro l v wr hn hdep hcl hF K hK;rw[HFD.o] at hF;obtain⟨H0,H1,H2,H3,H4,H5,H6,H7,H8,H9,H10⟩:=hF;simp[wAe] at hdep;have HCL:=zh hcl;have HN:=zh hn;clear hcl hn;obtain⟨x9,A9,AF9,n9,c9,nf9,cf9,bo9,lo,w9,e4,z2,z3,z4,z5⟩:=H4.o (HCL.o 5 _ rfl (by simp[hdep]) ⟨4,.data⟩ (by simp) rfl);clear z2 z3 z4 z5;have e5:=(H5.o (by simp[hdep])).trans e4;have E4:=zh e4;clear e4;go_simp
        have hk:=hK.out (.agg #[.int .i64 x9,.slice A9 n9 c9,.slice AF9 nf9 cf9]) wr (by
         rw[HFD.o]
         exact⟨H0,H1,H2,H3,H4,H5,zh ((fun _=>⟨_,E4.o⟩)),H7,zh ((fun h=>by obtain⟨T,c0,c1,c2,z1,z2,z3,z4⟩:=H8.o h;exact⟨T,c0,c1,c2,z1,z2,z3,fun h=>absurd (HCL.o 9 _ rfl h ⟨6,.data⟩ (by simp) rfl) (by rw[HN.o];decide)⟩)),H9,H10⟩)
        simp only[wAg,wAa,wAc,wAd] at hk;simp only[e5] at hk;exact hk
       ·intro l v wr hn hdep hcl hF K hK;rw[HFD.o] at hF;obtain⟨H0,H1,H2,H3,H4,H5,H6,H7,H8,H9,H10⟩:=hF;simp[wAe] at hdep;have HCL:=zh hcl;have HN:=zh hn;clear hcl hn;obtain⟨x9,A9,AF9,n9,c9,nf9,cf9,bo9,lo,w9,e4,z2,z3,z4,z5⟩:=H4.o (HCL.o 5 _ rfl (by simp[hdep]) ⟨4,.data⟩ (by simp) rfl);clear z2 z3 z4 z5;have e5:=(H5.o (by simp[hdep])).trans e4;have E4:=zh e4;clear e4;go_simp
        have hk:=hK.out (.bool bo9) wr (by
         rw[HFD.o]
         exact⟨H0,H1,H2,H3,H4,H5,H6,zh ((fun _=>⟨_,E4.o⟩)),H8,zh ((fun h=>absurd (HCL.o 10 _ rfl h ⟨7,.data⟩ (by simp) rfl) (by rw[HN.o];decide))),H10⟩)
        simp only[wAg,wAa,wAc,wAd] at hk;simp only[e5] at hk;exact hk
       ·intro l v wr hn hdep hcl hF K hK;rw[HFD.o] at hF;obtain⟨H0,H1,H2,H3,H4,H5,H6,H7,H8,H9,H10⟩:=hF;simp[wAe] at hdep;have HCL:=zh hcl;have HN:=zh hn;clear hcl hn;have HBA:=zh (show Below wr.heap.size wr (wr.alloc (.cells #[.int .i64 0,.slice none 0 0,.slice none 0 0] 25)) from (Below.refl _ _).alloc (wAb _) _);go_simp
        have hk:=hK.out (.pointer (some ⟨wr.heap.size,0,none⟩)) (wr.alloc (.cells #[.int .i64 0,.slice none 0 0,.slice none 0 0] 25)) (by
         rw[HFD.o]
         exact⟨H0,H1,H2,zh ((fun h h6=>by obtain⟨A,c,z1,z2⟩:=H3.o h h6;exact⟨A,c,z1,(z2.below HBA.o (wAb _)).mono (HBA.o).size⟩)),zh ((fun h=>(H4.o h).alloc _)),H5,H6,H7,zh ((fun _=>⟨wr.heap.size,_,_,_,rfl,H10.o.size,wAh rfl,(fun h=>absurd (HCL.o 9 _ rfl h ⟨8,.data⟩ (by simp) rfl) (by rw[HN.o];decide))⟩)),H9,zh (H10.o.trans ((HBA.o).mono H10.o.size))⟩)
        simp only[wAg,wAa,wAc,wAd] at hk;exact hk
       ·intro l v wr hn hdep hcl hF K hK;rw[HFD.o] at hF;obtain⟨H0,H1,H2,H3,H4,H5,H6,H7,H8,H9,H10⟩:=hF;simp[wAe] at hdep;have HCL:=zh hcl;have HN:=zh hn;clear hcl hn;have d4:l 4=true:=HCL.o 5 _ rfl (HCL.o 6 _ rfl (by simp[hdep]) ⟨5,.data⟩ (by simp) rfl) ⟨4,.data⟩ (by simp) rfl;(have da:l 8=true:=by simp[hdep]);have HD4:=zh d4;have HC4:=zh (H4.o d4);obtain⟨x9,A9,AF9,n9,c9,nf9,cf9,bo9,lo,w9,e4,z2,z3,z4,z5⟩:=H4.o d4;clear z2 z3 z4 z5;obtain⟨z,e60⟩:=H6.o (by simp[hdep]);obtain⟨t6,t7⟩:=zB7 (e4.symm.trans e60);have E6:=zh t6.symm;obtain⟨T,b0,b1,b2,e8,hT,hblk,_⟩:=H8.o da;have HDA:=zh da;have x0:=hblk.cell 0;have xf0:=hblk.frozen 0;have x1:=hblk.cell 1;have xf1:=hblk.frozen 1;have x2:=hblk.cell 2;have xf2:=hblk.frozen 2;simp at x0 x1 x2;have lg:=hblk.lt;have HBK:=zh hblk;have HT:=zh hT;have HE8:=zh e8;have e6:=E6.o;clear hdep d4 da hblk hT t6 t7 e4 e60;go_simp
        have hk:=hK.out undef (((wr.setCell ⟨T,0,none⟩ (.int .i64 x9)).setCell ⟨T,1,none⟩ (.slice A9 n9 c9)).setCell ⟨T,2,none⟩ (.slice AF9 nf9 cf9)) (by
         rw[HFD.o]
         exact⟨H0,H1,H2,zh ((fun _ h=>absurd HD4.o (by rw[show l 4=false from h];decide))),zh ((fun _=>by have h:=(((((by have h:=HC4.o;rw[HDA.o,HE8.o] at h;exact h):LgV _ _ _ true _).setT 0 (.int .i64 x9)).setT 1 (.slice A9 n9 c9)).setT 2 (.slice AF9 nf9 cf9));rw[show updR l 9 true 8=l 8 from rfl,show updR v 9 undef 8=v 8 from rfl,HDA.o,HE8.o];exact h)),H5,H6,H7,zh ((fun _=>⟨T,_,_,_,HE8.o,HT.o,(((HBK.o.set_ 0 _).set_ 1 _).set_ 2 _),fun _=>E6.o⟩)),H9,zh ((((H10.o.setCell (p:=⟨T,0,none⟩) (by exact HT.o) _).setCell (p:=⟨T,1,none⟩) (by exact HT.o) _).setCell (p:=⟨T,2,none⟩) (by exact HT.o) _))⟩)
        simp only[wAg,wAa,wAc,wAd] at hk;simp only[e6,e8] at hk;exact hk
       ·intro l v wr hn hdep hcl hF K hK;rw[HFD.o] at hF;obtain⟨H0,H1,H2,H3,H4,H5,H6,H7,H8,H9,H10⟩:=hF;simp[wAe] at hdep;have HCL:=zh hcl;have HN:=zh hn;clear hcl hn;obtain⟨x9,A9,AF9,n9,c9,nf9,cf9,bo9,lo,w9,e4,z2,z3,z4,z5⟩:=H4.o (HCL.o 5 _ rfl (HCL.o 7 _ rfl (by simp[hdep]) ⟨5,.data⟩ (by simp) rfl) ⟨4,.data⟩ (by simp) rfl);clear z2 z3 z4 z5;obtain⟨z,e70⟩:=H7.o (by simp[hdep]);have E7:=zh (zB7 (e4.symm.trans e70)).2.symm;have e7:=E7.o;clear e4 e70;go_simp
        have hk:=hK.out (.bool bo9) wr (by
         rw[HFD.o]
         exact⟨H0,H1,H2,H3,H4,H5,H6,H7,H8,zh ((fun _=>E7.o.symm)),H10⟩)
        simp only[wAg,wAa,wAc,wAd] at hk;simp only[e7] at hk;exact hk
     case rest =>
      obtain⟨V,x4,B4,BF4,m4,d4,mf4,df4,bo4,rfl,rfl,bV,HT4,HBC4⟩:=hcut;obtain⟨W4c,hW4⟩:∃ z,z=wc:=⟨_,rfl⟩;rw[← hW4] at bV HT4 HBC4 ⊢;clear hW4;replace HT3:=zh (show bo3=true→∃ t,FitsR r3 t∧MachAt W4c W4c.heap.size (.agg #[.int .i64 x3,.slice B3 m3 d3,.slice BF3 mf3 df3]) t from fun h=>by obtain⟨t,h1,h2⟩:=HT3.o h;exact⟨t,h1,(h2.below HBC4.o (wAb _)).mono HBC4.o.size⟩);replace bX:=zh (bX.o.below HBC4.o bX.o.lt);replace bY:=zh (bY.o.below HBC4.o bY.o.lt);replace bS:=zh (bS.o.below HBC4.o bS.o.lt);replace bF:=zh (bF.o.below HBC4.o bF.o.lt);replace bT:=zh (bT.o.below HBC4.o bT.o.lt);replace bG:=zh (bG.o.below HBC4.o bG.o.lt);replace bU:=zh (bU.o.below HBC4.o bU.o.lt);replace MS:=zh ((MS.o.below HBC4.o (wAb _)).mono HBC4.o.size);replace MT:=zh ((MT.o.below HBC4.o (wAb _)).mono HBC4.o.size);replace HMA:=zh ((HMA.o.below HBC4.o (wAb _)).mono HBC4.o.size);replace HMB:=zh ((HMB.o.below HBC4.o (wAb _)).mono HBC4.o.size);replace HBW:=zh (HBW.o.trans (HBC4.o.mono HBW.o.size));clear HBC4;cases bo3
      ·clear HR3 HR4 HT4;go_wp2;exact bodyPost_ret (v:=.bool true) (by simp[results,Try.results5,go_sem]) rfl ⟨rfl,HBW.o⟩
      ·cases bo4
       ·clear HR3 HR4;go_wp2;exact bodyPost_ret (v:=.bool true) (by simp[results,Try.results5,go_sem]) rfl ⟨rfl,HBW.o⟩
       ·obtain⟨tm3,hfit3,hnew3⟩:=HT3.o rfl;obtain⟨tm4,hfit4,hnew4⟩:=HT4.o rfl;have HFIT3:=zh hfit3;have HFIT4:=zh hfit4;have MU:=zh hnew3;have MV:=zh hnew4;clear hfit3 hfit4 hnew3 hnew4 HT3 HT4 HR3 HR4;have HF3:=zh (show f3=r3.2.1 by rw[HE3.o]);have HG3:=zh (show g3=r3.2.2 by rw[HE3.o]);have HF4:=zh (show f4=r4.2.1 by rw[HE4.o]);have HG4:=zh (show g4=r4.2.2 by rw[HE4.o]);have bT2:=bT;have bG2:=bG;have bV2:=bV;have yF0:=bF.o.cell 0;have yF1:=bF.o.cell 1;have yG0:=bG.o.cell 0;have yG1:=bG.o.cell 1;simp at yF0 yF1 yG0 yG1;have lF:=bF.o.lt;have lG:=bG.o.lt;have x0:=bS.o.cell 0;have x1:=bS.o.cell 1;have x2:=bS.o.cell 2;simp at x0 x1 x2;have lS:=bS.o.lt;have y0:=bU.o.cell 0;have y1:=bU.o.cell 1;have y2:=bU.o.cell 2;simp at y0 y1 y2;have lU:=bU.o.lt;have u0:=bT.o.cell 0;have u1:=bT.o.cell 1;have u2:=bT.o.cell 2;simp at u0 u1 u2;have lT:=bT.o.lt;have z0:=bV.o.cell 0;have z1:=bV.o.cell 1;have z2:=bV.o.cell 2;simp at z0 z1 z2;have lV:=bV.o.lt
        go_wp2_with (first
         | (go_at_call 27;have hcl:=zGW (.agg #[.int .i64 t3,.slice A3 n3 c3,.slice AF3 nf3 cf3]) (.agg #[.int .i64 x3,.slice B3 m3 d3,.slice BF3 mf3 df3]) r3 tm3 W4c MS.o MU.o HFIT3.o;rw[← HF3.o,← HG3.o] at hcl;with_reducible refine hcl.mono ?_;rintro e w7 ⟨rfl,hb7⟩;have HB7:=zh hb7;have bT7:=bT.o.below hb7 bT.o.lt;have bG7:=bG.o.below hb7 bG.o.lt;have bV7:=bV.o.below hb7 bV.o.lt;have k0:=bT7.cell 0;have k1:=bT7.cell 1;have k2:=bT7.cell 2;have k3:=bG7.cell 0;have k4:=bG7.cell 1;have k5:=bV7.cell 0;have k6:=bV7.cell 1;have k7:=bV7.cell 2;simp at k0 k1 k2 k3 k4 k5 k6 k7;have lT7:=bT7.lt;have lG7:=bG7.lt;have lV7:=bV7.lt;have MT7:=zh ((MT.o.below hb7 (wAb _)).mono hb7.size);have MV7:=zh ((MV.o.below hb7 (wAb _)).mono hb7.size);clear hb7 hcl bT7 bG7 bV7)
         | (go_at_call 27;have hcl:=zGW (.agg #[.int .i64 t4,.slice A4 n4 c4,.slice AF4 nf4 cf4]) (.agg #[.int .i64 x4,.slice B4 m4 d4,.slice BF4 mf4 df4]) r4 tm4 w7 MT7.o MV7.o HFIT4.o;rw[← HF4.o,← HG4.o] at hcl;with_reducible refine hcl.mono ?_;rintro e w8 ⟨rfl,hb8⟩;have HB8:=zh hb8;clear hb8 hcl))
        exact bodyPost_ret (v:=.bool true) (by simp[results,Try.results5,go_sem]) rfl ⟨rfl,HBW.o.trans ((HB7.o.trans (HB8.o.mono HB7.o.size)).mono HBW.o.size)⟩
end Go.Proofs.Ytkfdhpbnphojoaa
