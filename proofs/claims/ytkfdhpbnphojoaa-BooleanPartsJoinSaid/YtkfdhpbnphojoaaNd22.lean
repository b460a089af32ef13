/- Part of the proof. -/
import Derived.Test.YtkfdhpbnphojoaaNd20
import Derived.Test.YtkfdhpbnphojoaaNd21
set_option linter.unusedSimpArgs false
set_option linter.unusedVariables false
set_option maxRecDepth 100000
set_option maxHeartbeats 8000000
open List renaming setIfInBounds_toArray→wAa,getElem_cons_zero→wAb,getElem_cons_succ→wAc,getElem_toArray→wAd,set_cons_zero→wAe,set_cons_succ→wAf,drop_succ_cons→wAg,drop_zero→wAh
namespace Go.Proofs.Ytkfdhpbnphojoaa
open Go.RowKit Gm
theorem zHR (va:Value) (m:Mach) (w:World) (B:Nat) (hB:B≤w.heap.size) (ha:MachAt w B va m) (hv:(silR m).2≠(0,0)∨(silR m).1.n=0) :
 Calls Try.prog 33 #[va] w fun e w'=>∃ v1,e=.returned (.tuple #[v1,.agg #[.int .i64 (detW m).2.1,.int .i64 (detW m).2.2]])∧MachNew w.heap.size w' v1 (detW m).1∧Below w.heap.size w w':=by
 have HR:=zh (show detW m=(emptyM,(silR m).2) by
  unfold detW;by_cases h:(silR m).2≠(0,0)
  · rw[if_pos h]
  · rw[if_neg h,if_pos (hv.resolve_left h),Decidable.not_not.1 h])
 rw[HR.o];have h0:=ha;obtain⟨A,AF,n,c,nf,cf,rfl,HN,HF,hnc,hnfc,hnb,hnfb,hA,hF⟩:=ha;have H0:=zh h0;clear h0 hA hF HN HF;have HC:=zh (fun W (hB:B≤W.heap.size) (h:MachAt W B (.agg #[.int .i64 m.n,.slice A n c,.slice AF nf cf]) m)=>zG4 _ m W B hB h);obtain⟨f1,hf1⟩:∃ z,z=(silR m).2.1:=⟨_,rfl⟩;obtain⟨f2,hf2⟩:∃ z,z=(silR m).2.2:=⟨_,rfl⟩;obtain⟨t,ht⟩:∃ z,z=(silR m).1:=⟨_,rfl⟩;rw[← hf1,← hf2,← ht] at HC;obtain⟨sn,hsn⟩:∃ z,z=m.n:=⟨_,rfl⟩;rw[← hsn] at HC H0 ⊢;have he:=fun a b c d W=>zAn a b c d W
 have HV:=zh (show fEq f1 f2 0 0=false∨t.n=0 by
  rcases hv with h | h
  · exact .inl (zFm (fun ⟨e1,e2⟩=>h (Prod.ext (by rw[← hf1];exact e1) (by rw[← hf2];exact e2))))
  · exact .inr (by rw[ht];exact h))
 dsimp only;rw[← hf1,← hf2];clear hf1 hf2 ht hv hsn HR
 go_enter Try.func33,Try.ntmps33
 go_upto_region 1 with fail
 generalize hW1:World.alloc _ _=W1;obtain⟨X,hX⟩:∃ z,z=w.heap.size:=⟨_,rfl⟩;obtain⟨M,hM⟩:∃ z,z=w.heap.size+1:=⟨_,rfl⟩;obtain⟨R,hR⟩:∃ z,z=w.heap.size+1+1:=⟨_,rfl⟩;have HX1:=zh (show Blk W1 X 25 #[.int .i64 sn,.slice A n c,.slice AF nf cf] by rw[← hW1];exact ((Blk.at_ hX).alloc _).alloc _);have HM1:=zh (show Blk W1 M 25 #[.int .i64 0,.slice none 0 0,.slice none 0 0] by rw[← hW1];exact (Blk.at_ (by simp[hM])).alloc _);have HR1:=zh (show Blk W1 R 28 #[.int .i64 0,.int .i64 0] by rw[← hW1];exact Blk.at_ (by simp[hR]));have HB1:=zh (show Below w.heap.size w W1 by rw[← hW1];go_grown);have hwM:w.heap.size≤M:=by omega
 have hwR:w.heap.size≤R:=by omega
 have hwX:w.heap.size≤X:=by omega
 have hMR:M≠R:=by omega
 have hRM:R≠M:=by omega
 have hXM:X≠M:=by omega
 have hMX:M≠X:=by omega
 have hXR:X≠R:=by omega
 have hRX:R≠X:=by omega
 have hR2:M+1=R:=by omega
 simp only[← hM];simp only[hR2]
 try simp only[← hX]
 have lX1:X<W1.heap.size:=HX1.o.lt;have lM1:M<W1.heap.size:=HM1.o.lt;have lR1:R<W1.heap.size:=HR1.o.lt;have x0:=HX1.o.cell 0;have x1:=HX1.o.cell 1;have x2:=HX1.o.cell 2;simp at x0 x1 x2;clear hW1 hX hM hR hR2;go_wp2_with fail;refine (HC.o W1 (by have:=HB1.o.size;omega) (H0.o.below HB1.o hB)).mono ?_;rintro e w2 ⟨v1,rfl,hm2,hb2⟩;have HMN:=zh hm2;obtain⟨A2,AF2,n2,c2,nf2,cf2,rfl,HN2,HF2,hn2c,hnf2c,hn2b,hnf2b,_,_⟩:=hm2.at_;have HB2:=zh hb2;have hz2:=hb2.size;have HX2:=zh (HX1.o.below hb2 lX1);have HM2:=zh (HM1.o.below hb2 lM1);have HR2:=zh (HR1.o.below hb2 lR1);have HBW:=zh (HB1.o.trans (hb2.mono HB1.o.size));have lX2:X<w2.heap.size:=by omega
 have y0:=HX2.o.cell 0;have y1:=HX2.o.cell 1;have y2:=HX2.o.cell 2;have yf0:=HX2.o.frozen 0;have yf1:=HX2.o.frozen 1;have yf2:=HX2.o.frozen 2;simp at y0 y1 y2;clear hb2 hm2 x0 x1 x2 HX1 HM1 HR1 HC H0;obtain⟨q,hq⟩:∃ q,q=fEq f1 f2 0 0:=⟨_,rfl⟩;cases q
 ·have hf:fEq f1 f2 0 0=false:=hq.symm;clear hq;have HMX:=HM2.o;have HRX:=HR2.o;have HBX:=zh (((HBW.o.setCell (p:=⟨X,0,none⟩) (by exact hwX) (.int .i64 t.n)).setCell (p:=⟨X,1,none⟩) (by exact hwX) (.slice A2 n2 c2)).setCell (p:=⟨X,2,none⟩) (by exact hwX) (.slice AF2 nf2 cf2));clear HMN HBW HX2 HM2 HR2 HV;go_upto_region 3 with fail
  generalize hW3:World.alloc _ _=W3;obtain⟨P,hP⟩:∃ z,z=w2.heap.size:=⟨_,rfl⟩;have bP:=(show Blk W3 P 28 #[.int .i64 f1,.int .i64 f2] by rw[← hW3];exact Blk.at_ (by simp[hP]));have bM:=(show Blk W3 M 25 #[.int .i64 0,.slice none 0 0,.slice none 0 0] by rw[← hW3];exact (((HMX.far (p:=⟨X,0,none⟩) hMX _).far (p:=⟨X,1,none⟩) hMX _).far (p:=⟨X,2,none⟩) hMX _).alloc _);have bR:=(show Blk W3 R 28 #[.int .i64 0,.int .i64 0] by rw[← hW3];exact (((HRX.far (p:=⟨X,0,none⟩) hRX _).far (p:=⟨X,1,none⟩) hRX _).far (p:=⟨X,2,none⟩) hRX _).alloc _);have HB3:=zh (show Below w.heap.size w W3 by rw[← hW3];exact HBX.o.alloc HBX.o.size _);have hMP:M≠P:=by have:=HMX.lt;omega
  have hRP:R≠P:=by have:=HRX.lt;omega
  have hPM:P≠M:=Ne.symm hMP;have hPR:P≠R:=Ne.symm hRP;have p0:=bP.cell 0;have p1:=bP.cell 1;have lP:=bP.lt;simp at p0 p1;simp only[← hP];clear hW3 hP HBX;have q0:=bM.cell 0;have q1:=bM.cell 1;have q2:=bM.cell 2;have q3:=bR.cell 0;have q4:=bR.cell 1;have qf:=bM.frozen 0;have qf1:=bM.frozen 1;have qf2:=bM.frozen 2;have qf3:=bR.frozen 0;have qf4:=bR.frozen 1;have lM:=bM.lt;have lR:=bR.lt;simp at q0 q1 q2 q3 q4;clear bM bR bP HMX HRX y0 y1 y2 yf0 yf1 yf2 lX2;refine zAE (fun w'=>w'.cell? ⟨P,0,none⟩=some (.int .i64 f1)∧w'.cell? ⟨P,1,none⟩=some (.int .i64 f2)) 3 [(0,false),(1,false),(2,true)] (by kernel_rfl) (by kernel_rfl) ?_ ?_
  · go_simp
  simp only[wAg,wAh]
  repeat (refine mix_q (v:=?_) (by rfl) (by rfl) ?_ ?_;rotate_left;(focus (intro w' hC;(try dsimp only at hC);go_simp;(first | done | with_reducible rfl)));simp only[Act.put,wAa,wAe,wAf,wAd,wAb,wAc])
  refine mix_l (by rfl) (by rfl) (fun K hK=>?_);go_simp;refine hK _ _ (by go_simp) ?_;clear hK K;refine zAs ?_;try simp only[Act.put,wAa,wAe,wAf,wAd,wAb,wAc]
  go_wp2;refine NoPanic.normal ?_;go_wp2;refine bodyPost_ret (v:=.tuple #[.agg #[.int .i64 0,.slice none 0 0,.slice none 0 0],.agg #[.int .i64 f1,.int .i64 f2]]) (by simp[results,Try.results33,go_sem,lM,lR,hMR,hRM,q0,q1,q2,q3,q4,qf,qf1,qf2,qf3,qf4]) rfl ?_;exact⟨_,rfl,MachNew.empty _ _,by have hz:=HB3.o.size;go_grown;exact HB3.o⟩
 ·have hf:fEq f1 f2 0 0=true:=hq.symm
  have hn0:t.n=0:=by
   rcases HV.o with g | g
   · rw[hf] at g;cases g
   · exact g
  clear hq;have HMX:=HM2.o;have HRX:=HR2.o;have HBX:=zh (((HBW.o.setCell (p:=⟨X,0,none⟩) (by exact hwX) (.int .i64 t.n)).setCell (p:=⟨X,1,none⟩) (by exact hwX) (.slice A2 n2 c2)).setCell (p:=⟨X,2,none⟩) (by exact hwX) (.slice AF2 nf2 cf2));have t0:(t.n==0)=true:=by simp[hn0]
  have t1:decide (t.n=0)=true:=decide_eq_true hn0;clear hn0;clear HMN HBW HX2 HM2 HR2 HV;go_upto_region 3 with fail
  generalize hW3:World.alloc _ _=W3;obtain⟨P,hP⟩:∃ z,z=w2.heap.size:=⟨_,rfl⟩;have bP:=(show Blk W3 P 28 #[.int .i64 f1,.int .i64 f2] by rw[← hW3];exact Blk.at_ (by simp[hP]));have bM:=(show Blk W3 M 25 #[.int .i64 0,.slice none 0 0,.slice none 0 0] by rw[← hW3];exact (((HMX.far (p:=⟨X,0,none⟩) hMX _).far (p:=⟨X,1,none⟩) hMX _).far (p:=⟨X,2,none⟩) hMX _).alloc _);have bR:=(show Blk W3 R 28 #[.int .i64 0,.int .i64 0] by rw[← hW3];exact (((HRX.far (p:=⟨X,0,none⟩) hRX _).far (p:=⟨X,1,none⟩) hRX _).far (p:=⟨X,2,none⟩) hRX _).alloc _);have HB3:=zh (show Below w.heap.size w W3 by rw[← hW3];exact HBX.o.alloc HBX.o.size _);have hMP:M≠P:=by have:=HMX.lt;omega
  have hRP:R≠P:=by have:=HRX.lt;omega
  have hPM:P≠M:=Ne.symm hMP;have hPR:P≠R:=Ne.symm hRP;have p0:=bP.cell 0;have p1:=bP.cell 1;have lP:=bP.lt;simp at p0 p1;simp only[← hP];clear hW3 hP HBX;have q0:=bM.cell 0;have q1:=bM.cell 1;have q2:=bM.cell 2;have q3:=bR.cell 0;have q4:=bR.cell 1;have qf:=bM.frozen 0;have qf1:=bM.frozen 1;have qf2:=bM.frozen 2;have qf3:=bR.frozen 0;have qf4:=bR.frozen 1;have lM:=bM.lt;have lR:=bR.lt;simp at q0 q1 q2 q3 q4;clear bM bR bP HMX HRX y0 y1 y2 yf0 yf1 yf2 lX2;refine zAE (fun w'=>w'.cell? ⟨P,0,none⟩=some (.int .i64 f1)∧w'.cell? ⟨P,1,none⟩=some (.int .i64 f2)) 3 [(0,false),(1,false),(2,true)] (by kernel_rfl) (by kernel_rfl) ?_ ?_
  · go_simp
  simp only[wAg,wAh]
  repeat (refine mix_q (v:=?_) (by rfl) (by rfl) ?_ ?_;rotate_left;(focus (intro w' hC;(try dsimp only at hC);go_simp;(first | done | with_reducible rfl)));simp only[Act.put,wAa,wAe,wAf,wAd,wAb,wAc])
  refine mix_l (by rfl) (by rfl) (fun K hK=>?_);go_simp;refine hK _ _ (by go_simp) ?_;clear hK K;refine zAs ?_;try simp only[Act.put,wAa,wAe,wAf,wAd,wAb,wAc]
  go_wp2;refine NoPanic.normal ?_;go_wp2;refine bodyPost_ret (v:=.tuple #[.agg #[.int .i64 0,.slice none 0 0,.slice none 0 0],.agg #[.int .i64 f1,.int .i64 f2]]) (by simp[results,Try.results33,go_sem,lM,lR,hMR,hRM,q0,q1,q2,q3,q4,qf,qf1,qf2,qf3,qf4]) rfl ?_;exact⟨_,rfl,MachNew.empty _ _,by have hz:=HB3.o.size;go_grown;exact HB3.o⟩
end Go.Proofs.Ytkfdhpbnphojoaa
