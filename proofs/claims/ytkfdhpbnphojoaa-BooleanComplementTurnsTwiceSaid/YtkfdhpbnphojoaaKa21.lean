/- The texts SlW of this proof. No conditions. -/
import Derived.Test.YtkfdhpbnphojoaaKa19
/- Text SlW. -/
namespace Go.Proofs.Ytkfdhpbnphojoaa
open Go.RowKit Gm
set_option linter.unusedSimpArgs false
set_option linter.unusedVariables false
set_option maxRecDepth 100000 in
set_option maxHeartbeats 32000000 in
theorem silw_ok (va:Value) (m:Mach) (w:World) (B:Nat) (hB:B≤w.heap.size) (ha:MachAt w B va m) (hv:accF m=(0,0)) :
 Calls Try.prog 46 #[va] w fun e w'=>∃ v1,e=.returned (.tuple #[v1,.agg #[.int .i64 (silR m).2.1,.int .i64 (silR m).2.2]])∧MachNew w.heap.size w' v1 (silR m).1∧Below w.heap.size w w':=by
 obtain⟨ia,ha0,ha1,ha2,ha3⟩:=info_parts arc_info;obtain⟨iF,hF0,hF1,hF2,hF3⟩:=info_parts fin_info;have HSR:=hide (show silR m=if 2000<(silM m).arcs.length then (emptyM,(17,-1)) else (silM m,(0,0)) by unfold silR;rw[if_neg (fun g=>g hv)]);have val:=valid_of (accF_val hv);obtain⟨S,hS⟩:∃ S:Nat,m.n=(S:Int):=⟨m.n.toNat,by have:=val.n0;omega⟩;have hSn:m.n.toNat=S:=by omega
 have hS4:S≤400:=by have:=val.n4;omega
 have HN4:=hide val.len;have HNF4:=hide val.finLen;have HA:=hide (show inRange m.arcs S by rw[← hSn];exact val.inRange);have HRF:=hide (show ∀ x∈m.fins,0≤x.s∧x.s<(S:Int) by have:=val.finRange;rw[hSn] at this;exact this)
 have HSM:=hide (show silM m=if S=0∨usB m 0=false then emptyM else ⟨(cntK (trB m) S:Int),silG m.arcs S (usB m) (trB m) S,silH m.arcs m.fins S (trB m) S⟩ by
  unfold silM;rw[hSn];by_cases e:S=0
  · rw[if_pos (.inl (by omega)),if_pos (.inl e)]
  ·
   by_cases g:usB m 0=false
   · rw[if_pos (.inr g),if_pos (.inr g)]
   · rw[if_neg (by rintro (h | h);omega;exact g h),if_neg (by rintro (h | h);exact e h;exact g h)])
 have HCK:=hide (fun W (hb:Below w.heap.size w W)=>check_any va m W B (by have:=hb.size;omega) (ha.below hb hB));have HOP:=hide (fun W (hb:Below w.heap.size w W)=>openOf_any va m W B S (by have:=hb.size;omega) (ha.below hb hB) hS hS4 HN4.out HNF4.out HA.out HRF.out);rw[hv] at HCK;obtain⟨A,AF,n,c,nf,cf,rfl,HN,HF,hnc,hnfc,hnb,hnfb,hA,hF⟩:=ha;rw[hS] at HCK HOP ⊢;clear hA hF hv val hSn hS HN HF;have he:=fun a b c d W=>run_neq_fault a b c d W
 have hf0:fEq 0 0 0 0=true:=rfl
 go_enter Try.func46,Try.ntmps46
 go_upto_region 1 with fail
 generalize hW1:World.alloc _ _=W1;obtain⟨X,hX⟩:∃ z,z=w.heap.size:=⟨_,rfl⟩;obtain⟨M,hM⟩:∃ z,z=w.heap.size+1:=⟨_,rfl⟩;obtain⟨R,hR⟩:∃ z,z=w.heap.size+1+1:=⟨_,rfl⟩;have HX1:=hide (show Blk W1 X 25 #[.int .i64 (S:Int),.slice A n c,.slice AF nf cf] by rw[← hW1];exact ((Blk.at_ hX).alloc _).alloc _);have HM1:=hide (show Blk W1 M 25 #[.int .i64 0,.slice none 0 0,.slice none 0 0] by rw[← hW1];exact (Blk.at_ (by simp[hM])).alloc _);have HR1:=hide (show Blk W1 R 28 #[.int .i64 0,.int .i64 0] by rw[← hW1];exact Blk.at_ (by simp[hR]));have HB1:=hide (show Below w.heap.size w W1 by rw[← hW1];go_grown);have hwM:w.heap.size≤M:=by omega
 have hwR:w.heap.size≤R:=by omega
 have hMR:M≠R:=by omega
 have hRM:R≠M:=by omega
 have hXM:X<M:=by omega
 have hR2:M+1=R:=by omega
 simp only[← hM];simp only[hR2]
 try simp only[← hX]
 have lX1:X<W1.heap.size:=HX1.out.lt;have lM1:M<W1.heap.size:=HM1.out.lt;have lR1:R<W1.heap.size:=HR1.out.lt;have x0:=HX1.out.cell 0;have x1:=HX1.out.cell 1;have x2:=HX1.out.cell 2;simp at x0 x1 x2;clear hW1 hX hM hR hR2;go_upto_region 2 with (go_at_call 32;refine (HCK.out W1 HB1.out).mono ?_;rintro e w2 ⟨rfl,hb2⟩;have HB2:=hide hb2;clear hb2)
 have hz2:=HB2.out.size;have HX2:=hide (HX1.out.below HB2.out lX1);clear x0 x1 x2;have x0:=HX2.out.cell 0;have x1:=HX2.out.cell 1;have x2:=HX2.out.cell 2;simp at x0 x1 x2;have lX2:X<w2.heap.size:=by omega
 have HBP:=hide (HB1.out.trans (HB2.out.mono HB1.out.size));go_upto_region 5 with (go_at_call 77;refine (HOP.out _ (HBP.out.alloc HBP.out.size _)).mono ?_;rintro e w4 ⟨gF,gA,gN,vA,vN,rfl,hO4,hb4⟩;have HO4:=hide hO4;have HB4:=hide hb4;unfold opV;clear hO4 hb4)
 generalize hW5:World.alloc _ _=W5;obtain⟨OB,hOB⟩:∃ z,z=w4.heap.size:=⟨_,rfl⟩;have HOB5:=hide (show Blk W5 OB 95 #[.int .i64 (S:Int),.slice (some ⟨gF,0,none⟩) S S,.slice (some ⟨gA,0,none⟩) S S,.slice (some ⟨gN,0,none⟩) S S] by rw[← hW5];exact Blk.at_ hOB);have hz4:=HB4.out.size;simp at hz4;have HB5:=hide (show Below w2.heap.size w2 W5 by rw[← hW5];exact (((Below.refl _ _).alloc (Nat.le_refl _) _).trans (HB4.out.mono (by simp))).alloc (by omega) _);have HO5:=hide (show OpenAt W5 m S gF gA gN vA vN by rw[← hW5];exact HO4.out.below ((Below.refl _ _).alloc (Nat.le_refl _) _));have HX5:=hide (HX2.out.below HB5.out lX2);have HM5:=hide ((HM1.out.below HB2.out lM1).below HB5.out (by omega));have HR5:=hide ((HR1.out.below HB2.out lR1).below HB5.out (by omega));have HBW5:=hide (HBP.out.trans (HB5.out.mono HBP.out.size));have hz5:w2.heap.size<OB:=by omega
 have lO5:OB<W5.heap.size:=HOB5.out.lt;simp only[← hOB];clear hW5 hOB HO4 HB4 HB5 hz4 x0 x1 x2 HCK HOP HX1 HM1 HR1 HX2 HBP HB1 HB2;have HEN:=hide (fun W (hb:Below W5.heap.size W5 W)=>(by have h:=oends_any m S gF gA gN vA vN W (HO5.out.below hb) hS4 HN4.out HA.out;unfold opV at h;exact h));have y0:=HOB5.out.cell 0;have y1:=HOB5.out.cell 1;have y2:=HOB5.out.cell 2;have y3:=HOB5.out.cell 3;simp at y0 y1 y2 y3;go_upto_region 7 with (go_at_call 78;refine (HEN.out W5 (Below.refl _ _)).mono ?_;rintro e w6 ⟨gU,U,rfl,hgU,hrU,hU,hb6⟩;have HRU:=hide hrU;have HUU:=hide hU;have HB6:=hide hb6;clear hrU hU hb6)
 generalize hW7:World.alloc _ _=W7;obtain⟨D,hD⟩:∃ z,z=w6.heap.size:=⟨_,rfl⟩;have hz6:=HB6.out.size;have HD7:=hide (show Blk W7 D 25 #[.int .i64 0,.slice none 0 0,.slice none 0 0] by rw[← hW7];exact Blk.at_ hD);have HDE:=hide (show D=w6.heap.size from hD);have HX6:=hide (HX5.out.below HB6.out (by omega));have HM6:=hide (HM5.out.below HB6.out (by omega));have HR6:=hide (HR5.out.below HB6.out (by omega));have HOB6:=hide (HOB5.out.below HB6.out lO5);have HO6:=hide (HO5.out.below HB6.out);have HU6:=hide (show w6.rowIs gU 4 S (fun i=>.bool (usB m i)) from HRU.out.congr (fun i hi=>by rw[Bool.eq_iff_iff.2 ((HUU.out i hi).trans usB_iff.symm)]));have HBW6:=hide (HBW5.out.trans (HB6.out.mono HBW5.out.size));have HB67:=hide (show Below w6.heap.size w6 W7 by rw[← hW7];exact (Below.refl _ _).alloc (Nat.le_refl _) _);have HU7:=hide (show W7.rowIs gU 4 S (fun i=>.bool (usB m i)) by rw[← hW7];exact (HRU.out.alloc _).congr (fun i hi=>by rw[Bool.eq_iff_iff.2 ((HUU.out i hi).trans usB_iff.symm)]));have HB57:=hide (show Below W5.heap.size W5 W7 by rw[← hW7];exact HB6.out.alloc (by omega) _);have HX7:=hide (HX5.out.below HB57.out (by omega));have HM7:=hide (HM5.out.below HB57.out (by omega));have HR7:=hide (HR5.out.below HB57.out (by omega));have HOB7:=hide (HOB5.out.below HB57.out lO5);have HO7:=hide (HO5.out.below HB57.out);have HBW7:=hide (HBW5.out.trans (HB57.out.mono HBW5.out.size));have hUD:gU<D:=by have:=HRU.out.lt;omega
 have hOU:OB<gU:=by omega
 have hMU:M<OB:=by omega
 have hRU:R<OB:=by omega
 have hXU:X<OB:=by omega
 have lD7:D<W7.heap.size:=HD7.out.lt;simp only[← hD];clear hW7 hD HEN HRU HUU HB6 HB57 hz6 y0 y1 y2 y3 HX5 HM5 HR5 HOB5 HO5 HBW5 hgU lO5 hz5 lX1 lM1 lR1 lX2 hz2;have x0:=HX7.out.cell 0;simp at x0;have lX7:X<W7.heap.size:=by omega
 have lU7:gU<W7.heap.size:=by omega
 have hwD:w.heap.size≤D:=by omega
 by_cases h0:S=0∨usB m 0=false
 ·
  have HSR0:=hide (show silR m=(emptyM,(0,0)) by
   rw[HSR.out,HSM.out,if_pos h0]
   rfl)
  have bM:=HM7.out;have bR:=HR7.out;have bD:=HD7.out;have d0:=bD.cell 0;have d1:=bD.cell 1;have d2:=bD.cell 2;simp at d0 d1 d2;have q0:=bM.cell 0;have q1:=bM.cell 1;have q2:=bM.cell 2;have q3:=bR.cell 0;have q4:=bR.cell 1;have qf:=bM.frozen 0;have qf1:=bM.frozen 1;have qf2:=bM.frozen 2;have qf3:=bR.frozen 0;have qf4:=bR.frozen 1;have lM:=bM.lt;have lR:=bR.lt;simp at q0 q1 q2 q3 q4;have hDM:D≠M:=by omega
  have hDR:D≠R:=by omega
  have HBE:=hide HBW7.out;clear bM bR bD HSR HSM HO7 HOB7 HX7 HM7 HR7 HD7 HBW7 he hf0 HX6 HM6 HR6 HOB6 HO6 HU6 HBW6 HB67 HDE;by_cases hs:S=0
  ·
   have t0:((S:Int)==0)=true:=by simp[hs]
   have t1:decide ((S:Int)=0)=true:=decide_eq_true (by omega);clear h0 hs HU7;go_wp21;refine bodyPost_ret (v:=.tuple #[.agg #[.int .i64 0,.slice none 0 0,.slice none 0 0],.agg #[.int .i64 0,.int .i64 0]]) (by simp[results,Try.results46,go_sem,lM,lR,hMR,hRM,q0,q1,q2,q3,q4,qf,qf1,qf2,qf3,qf4]) rfl ?_;rw[HSR0.out];exact⟨_,rfl,MachNew.empty _ _,(((((HBE.out.setCell (p:=⟨M,0,none⟩) (by exact hwM) (.int .i64 0)).setCell (p:=⟨M,1,none⟩) (by exact hwM) (.slice none 0 0)).setCell (p:=⟨M,2,none⟩) (by exact hwM) (.slice none 0 0)).setCell (p:=⟨R,0,none⟩) (by exact hwR) (.int .i64 0)).setCell (p:=⟨R,1,none⟩) (by exact hwR) (.int .i64 0))⟩
  ·
   have t0:((S:Int)==0)=false:=by simp;omega
   have t1:decide ((S:Int)=0)=false:=decide_eq_false (by omega);have cU:=HU7.out.cell (show 0<S by omega);rw[h0.resolve_left hs] at cU;have s0:(0:Int)<(S:Int):=by omega
   clear h0 hs;go_wp21;refine bodyPost_ret (v:=.tuple #[.agg #[.int .i64 0,.slice none 0 0,.slice none 0 0],.agg #[.int .i64 0,.int .i64 0]]) (by simp[results,Try.results46,go_sem,lM,lR,hMR,hRM,q0,q1,q2,q3,q4,qf,qf1,qf2,qf3,qf4]) rfl ?_;rw[HSR0.out];exact⟨_,rfl,MachNew.empty _ _,(((((HBE.out.setCell (p:=⟨M,0,none⟩) (by exact hwM) (.int .i64 0)).setCell (p:=⟨M,1,none⟩) (by exact hwM) (.slice none 0 0)).setCell (p:=⟨M,2,none⟩) (by exact hwM) (.slice none 0 0)).setCell (p:=⟨R,0,none⟩) (by exact hwR) (.int .i64 0)).setCell (p:=⟨R,1,none⟩) (by exact hwR) (.int .i64 0))⟩
 ·
  have hS0:0<S:=by
   rcases Nat.eq_zero_or_pos S with g | g
   · exact absurd (.inl g) h0
   · exact g
  have HU0:=hide (show usB m 0=true by
   cases g:usB m 0
   · exact absurd (.inr g) h0
   · rfl)
  have HSM2:=hide (show silM m=⟨(cntK (trB m) S:Int),silG m.arcs S (usB m) (trB m) S,silH m.arcs m.fins S (trB m) S⟩ by rw[HSM.out,if_neg h0]);have HKT:=hide (show ∀ k,k<S→(trB m k=true↔TR m.arcs (usB m) k) from fun k _=>trB_iff);have t0:((S:Int)==0)=false:=by simp;omega
  have t1:decide ((S:Int)=0)=false:=decide_eq_false (by omega);have cU:=HU7.out.cell hS0;rw[HU0.out] at cU;have s0:(0:Int)<(S:Int):=by omega
  have HRE:=hide (fun W (hb:Below W7.heap.size W7 W)=>(by have h:=reached_any m S gF gA gN gU vA vN (usB m) W (HO7.out.below hb) (HU7.out.of_block (hb.block gU HU7.out.lt)) hS0 hS4 HN4.out HA.out;unfold opV at h;exact h));have y0:=HOB7.out.cell 0;have y1:=HOB7.out.cell 1;have y2:=HOB7.out.cell 2;have y3:=HOB7.out.cell 3;have lOB7:=HOB7.out.lt;simp at y0 y1 y2 y3;clear h0 HSM HU0 HX7 HM7 HR7 HOB7 HO7 HBW7 he hf0;go_upto_region 10 with (go_at_call 79;refine (HRE.out W7 (Below.refl _ _)).mono ?_;rintro e w9 ⟨gM,K,rfl,hgM,hrM,hK,hb9⟩;have HRM:=hide hrM;have HKK:=hide hK;have HB9:=hide hb9;clear hrM hK hb9)
  have hKe:∀ i,i<S→K i=trB m i:=fun i hi=>Bool.eq_iff_iff.2 ((HKK.out i hi).trans trB_iff.symm)
  have hce:∀ i,i≤S→cntK K i=cntK (trB m) i:=fun i hi=>cntK_congr i fun j hj=>hKe j (by omega)
  have HRM9:=hide (show w9.rowIs gM 3 S (fun i=>.int .i64 (numK (trB m) i)) from HRM.out.congr (fun i hi=>by unfold numK;rw[hKe i hi,hce i (by omega)]));rw[hce S (Nat.le_refl _)];have hz9:=HB9.out.size;have HD9:=hide (HD7.out.below HB9.out lD7);have HB69:=hide (HB67.out.trans (HB9.out.mono HB67.out.size));have hDM:D<gM:=by omega
  have lD9:D<w9.heap.size:=by omega
  have HX9:=hide (HX6.out.below HB69.out HX6.out.lt);obtain⟨cs,hcs⟩:∃ z,z=cntK (trB m) S:=⟨_,rfl⟩;have HCS:=hide hcs;rw[← hcs];have hcsS:cs≤S:=by rw[hcs];exact cntK_le _ _
  have d0:=HD9.out.cell 0;have df0:=HD9.out.frozen 0;have x0':=HX9.out.cell 0;simp at d0 x0';have lX9:X<w9.heap.size:=by omega
  have hXD:X≠D:=by omega
  have hDX:D≠X:=by omega
  clear hKe hce HKK HRM HRE HB9 cU x0 t0 t1 s0 y0 y1 y2 y3 hcs HD7 HB67;go_upto_region 11 with fail
  generalize hW10:World.setCell _ _ _=W10;have HD10:=hide (show Blk W10 D 25 #[.int .i64 (cs:Int),.slice none 0 0,.slice none 0 0] by rw[← hW10];exact HD9.out.set_ 0 _);have HRM10:=hide (show W10.rowIs gM 3 S (fun i=>.int .i64 (numK (trB m) i)) by rw[← hW10];exact HRM9.out.setOther (a:=⟨D,0,none⟩) (by show gM≠D;omega) _);have HB610:=hide (show Below w6.heap.size w6 W10 by rw[← hW10];exact HB69.out.setCell (p:=⟨D,0,none⟩) (by show w6.heap.size≤D;have:=HDE.out;omega) _);have hz10:gM<W10.heap.size:=HRM10.out.lt;clear hW10 HD9 HRM9 HB69 HX9 d0 df0 x0' lX9 lX7 lU7 lD7 lD9 lOB7 hz9 HU7;have x0:=(HX6.out.below HB610.out HX6.out.lt).cell 0;simp at x0;have lX10:X<W10.heap.size:=by omega
  go_upto_region 12 with fail
  clear x0 lX10;obtain⟨Z,hZ⟩:∃ z,z=W10.heap.size:=⟨_,rfl⟩;have hMZ:gM<Z:=by omega
  have hZ10:Z≤W10.heap.size:=by omega
  have HMG10:=hide (show Mg 25 64 69 W10 D Z (cs:Int) 0 (silG m.arcs S (usB m) (trB m) 0) 0 (silH m.arcs m.fins S (trB m) 0) by rw[silG_zero,silH_zero];exact Mg.start HD10.out Z);clear hZ HD10 hz10
  go_loopw [49] (fun iv wr=>∃ (s q r:Nat),s≤S∧iv=.int .i64 (s:Int)∧q≤2000∧r≤s∧Hid (Mg 25 64 69 wr D Z (cs:Int) q (silG m.arcs S (usB m) (trB m) s) r (silH m.arcs m.fins S (trB m) s))∧Hid (wr.rowIs gM 3 S (fun i=>.int .i64 (numK (trB m) i)))∧Hid (Below w6.heap.size w6 wr)∧Z≤wr.heap.size) (fun iv _=>S-(intOf iv).toNat)
  case atStart=>exact⟨0,0,0,by omega,rfl,by omega,by omega,HMG10,HRM10,HB610,hZ10⟩
  case round =>
   clear HMG10 HRM10 HB610 hZ10;obtain⟨s,q,r,hs,rfl,hq2,hrs,HMG,HRM,HB6r,hZr⟩:=hrel;have HBW:=hide (HBW6.out.trans (HB6r.out.mono HBW6.out.size));by_cases hsS:s<S
   ·
    have cN:=HRM.out.cell hsS;have lMr:gM<wr.heap.size:=by omega
    have HGN:=hide (silG_succ m.arcs S (usB m) (trB m) s);have HHN:=hide (silH_succ m.arcs m.fins S (trB m) s);cases hks:trB m s
    ·
     have e1:numK (trB m) s = -1:=by unfold numK;rw[hks];simp
     rw[e1] at cN;have HG2:=hide (show silG m.arcs S (usB m) (trB m) (s+1)=silG m.arcs S (usB m) (trB m) s by rw[HGN.out];unfold silRow;rw[hks];simp);have HH2:=hide (show silH m.arcs m.fins S (trB m) (s+1)=silH m.arcs m.fins S (trB m) s by rw[HHN.out];unfold silE;rw[hks];simp);clear e1 hks HGN HHN;go_wp2;go_roundw
     case rel=>exact⟨s+1,q,r,by omega,by go_num,hq2,by omega,hide (by rw[HG2.out,HH2.out];exact HMG.out),HRM,HB6r,hZr⟩
     case measure=>simp[intOf];omega
    ·
     have HKS:=hide hks;have hcnS:=cntK_le (trB m) s;obtain⟨cn,hcn⟩:∃ z,z=cntK (trB m) s:=⟨_,rfl⟩;have HCN:=hide hcn;rw[← hcn] at hcnS;have e1:numK (trB m) s=(cn:Int):=by unfold numK;rw[hks,hcn];simp
     rw[e1] at cN;have t2:decide ((cn:Int)<0)=false:=decide_eq_false (by omega);have HRW:=hide (show silRow m.arcs S (usB m) (trB m) s=compact eqA (srtA (rowV (usB m) (trB m) s (visL m.arcs S s (nearN m.arcs S s).length))) by unfold silRow;rw[hks,if_pos rfl]);have HEW:=hide (show silE m.arcs m.fins S (trB m) s=if endB m.arcs m.fins S s (nearN m.arcs S s).length=true then [⟨(cn:Int),0⟩] else [] by unfold silE;rw[hks,hcn];simp);obtain⟨AN,cN',cn0,hrn⟩:=HO6.out.nearAt hsS;have HRN:=hide hrn;have cnr:=keep_cell HB6r.out cn0 HO6.out.lts.2.2;obtain⟨N,hN⟩:∃ z,z=(nearN m.arcs S s).length:=⟨_,rfl⟩;rw[← hN] at cnr HRN HRW HEW;have hN4:N≤400:=by have:=nearN_len m.arcs S s;omega
     have HNL:=hide hN;have hDr:D≤wr.heap.size:=by omega
     have lNr:gN<wr.heap.size:=by have:=HO6.out.lts.2.2;have:=HDE.out;omega
     have y3:=(HOB6.out.below HB6r.out HOB6.out.lt).cell 3;simp at y3;have lOBr:OB<wr.heap.size:=by omega
     clear hks hcn e1 cn0 hrn hN;obtain⟨W11,hW11⟩:∃ z,z=wr:=⟨_,rfl⟩;rw[← hW11] at HMG HRM HB6r HBW hZr cN cnr y3 lMr lNr lOBr hDr ⊢;clear hW11;go_upto_region 18 with fail
     clear cN cnr y3;obtain⟨Y,hY⟩:∃ z,z=W11.heap.size:=⟨_,rfl⟩;have HYE:=hide (show Y=W11.heap.size from hY);have hZY:Z≤Y:=by omega
     have hMY:gM<Y:=by omega
     have hDY:D<Y:=by omega
     have HOW0:=hide (show W11.ownsRow Y 64 5 (.slice none 0 0) (rowV (usB m) (trB m) s (visL m.arcs S s 0)).length (arcRow (rowV (usB m) (trB m) s (visL m.arcs S s 0))) by rw[visL_zero];exact World.ownsRow_nil _ _ _ _);have HE0:=hide (endB_zero m.arcs m.fins S s);clear hY
     go_loopw [11,12,63] (fun lv ev jv wr=>∃ (j:Nat) (eb:Bool),j≤N∧jv=.int .i64 (j:Int)∧ev=.bool eb∧Hid (eb=endB m.arcs m.fins S s j)∧Hid (wr.ownsRow Y 64 5 lv (rowV (usB m) (trB m) s (visL m.arcs S s j)).length (arcRow (rowV (usB m) (trB m) s (visL m.arcs S s j))))∧Hid (Below Y W11 wr)) (fun _ _ jv _=>N-(intOf jv).toNat)
     case atStart=>exact⟨0,false,by omega,rfl,rfl,hide HE0.out.symm,HOW0,hide (Below.refl _ _)⟩
     case round =>
      clear HOW0 HE0;obtain⟨j,eb,hj,rfl,rfl,HEB,HOW,HBY⟩:=hrel;have HBV:=hide (show Below w6.heap.size w6 wr from HB6r.out.trans (HBY.out.mono (by have:=HDE.out;omega)));have hzv:=HBY.out.size;have HYW:=HYE.out;by_cases hjN:j<N
      ·
       obtain⟨bb,off,k,rfl,hbB,d0,HK⟩:=nums_at (HRN.out.below HBV.out (Nat.le_refl _)) HNL.out.symm hjN;obtain⟨hkS,hkn⟩:=nearN_mem.1 (List.mem_of_getElem? HK.out);have HKN:=hide hkn;have HVN:=hide (visL_next HK.out);have HEN:=hide (endB_next (A:=m.arcs) (F:=m.fins) HK.out);rw[← HEB.out] at HEN;obtain⟨fb,hfb⟩:∃ z,z=fnB m.fins m.fins.length k:=⟨_,rfl⟩;rw[← hfb] at HEN;have hD6:=HDE.out;have lbb:bb<wr.heap.size:=by omega
       have cf:wr.cell? ⟨gF,k,none⟩=some (.bool fb):=by rw[hfb];exact keep_cell HBV.out (HO6.out.fin.cell hkS) HO6.out.lts.1
       have lFr:gF<wr.heap.size:=by have:=HO6.out.lts.1;omega
       have lAr:gA<wr.heap.size:=by have:=HO6.out.lts.2.1;omega
       have y1:=(HOB6.out.below HBV.out HOB6.out.lt).cell 1;have y2:=(HOB6.out.below HBV.out HOB6.out.lt).cell 2;simp at y1 y2;have lOBv:OB<wr.heap.size:=by omega
       obtain⟨AA,cA,ca0,hra⟩:=HO6.out.arcsAt hkS;have HRA:=hide hra;have ca:=keep_cell HBV.out ca0 HO6.out.lts.2.1;obtain⟨q1,hq1⟩:∃ z,z=(arN m.arcs m.arcs.length k).length:=⟨_,rfl⟩;rw[← hq1] at ca HRA;have hq12:q1≤2000:=by have:=arN_len m.arcs m.arcs.length k;have:=HN4.out;omega
       have HQL:=hide hq1;clear hkn HK hra hq1 ca0 hfb HEB hD6 HYW;obtain⟨W12,hW12⟩:∃ z,z=wr:=⟨_,rfl⟩;rw[← hW12] at HOW HBY HBV hzv d0 cf ca y1 y2 lbb lFr lAr lOBv ⊢;clear hW12;go_upto_region 20 with fail
       go_cut [12] from 64 to 108 (fun s12 wx=>s12=.bool (eb||fb)∧wx=W12)
       case first =>
        cases eb
        ·
         cases fb
         ·
          go_wp2;go_meet;exact⟨rfl,rfl⟩
         ·
          go_wp2;go_meet;exact⟨rfl,rfl⟩
        ·
         go_wp2;go_meet;exact⟨rfl,rfl⟩
       case rest =>
        obtain⟨rfl,hwc⟩:=hcut;subst hwc;obtain⟨eb2,heb2⟩:∃ z,z=(eb||fb):=⟨_,rfl⟩;rw[← heb2] at HEN ⊢;have HOW12:=hide (show wc.ownsRow Y 64 5 u11 (rowV (usB m) (trB m) s (visL m.arcs S s j++(arN m.arcs m.arcs.length k).take 0)).length (arcRow (rowV (usB m) (trB m) s (visL m.arcs S s j++(arN m.arcs m.arcs.length k).take 0))) by simpa using HOW.out);clear heb2 cf d0 y1;go_upto_region 22 with fail
        clear ca y2
        go_loopw [11,81] (fun lv iv wr=>∃ i:Nat,i≤q1∧iv=.int .i64 (i:Int)∧Hid (wr.ownsRow Y 64 5 lv (rowV (usB m) (trB m) s (visL m.arcs S s j++(arN m.arcs m.arcs.length k).take i)).length (arcRow (rowV (usB m) (trB m) s (visL m.arcs S s j++(arN m.arcs m.arcs.length k).take i))))∧Hid (Below Y W11 wr)) (fun _ iv _=>q1-(intOf iv).toNat)
        case atStart=>exact⟨0,by omega,rfl,HOW12,HBY⟩
        case round =>
         clear HOW12 HBY HBV hzv lbb lFr lAr lOBv HOW;obtain⟨i,hi,rfl,HOW,HBY⟩:=hrel;have HBV:=hide (show Below w6.heap.size w6 wr from HB6r.out.trans (HBY.out.mono (by have:=HDE.out;omega)));have hzv:=HBY.out.size;by_cases hiq:i<q1
         ·
          obtain⟨b2,off2,x,rfl,hbB2,e0,e1,e2,e3,e4,HX⟩:=arcs_at (HRA.out.below HBV.out (Nat.le_refl _)) hiq;have hxl:=getD_mem (by rw[← HQL.out];exact hiq) HX.out;obtain⟨hxA,hxi,hxf⟩:=arN_mem.1 hxl;have HXA:=hide hxA;have HXI:=hide hxi;have HXF:=hide (show Near m.arcs (s:Int) x.f by rw[hxf];exact HKN.out);have HTK:=hide (show visL m.arcs S s j++(arN m.arcs m.arcs.length k).take (i+1)=(visL m.arcs S s j++(arN m.arcs m.arcs.length k).take i)++[x] by rw[take_push (by rw[← HQL.out];exact hiq) HX.out,List.append_assoc]);obtain⟨r0,r1,r2,r3⟩:=HA.out x hxA;have hts:x.t.toNat<S:=by omega
          have cU:=(HU6.out.of_block (HBV.out.block gU HU6.out.lt)).cell hts;have hYE:=HYE.out;have hDE:=HDE.out;have lUr:gU<wr.heap.size:=by omega
          have lb2:b2<wr.heap.size:=by omega
          obtain⟨u,hu⟩:∃ u,u=usB m x.t.toNat:=⟨_,rfl⟩;rw[← hu] at cU;have HUU:=hide hu;have HRV:=hide (rowV_snoc (usB m) (trB m) s (visL m.arcs S s j++(arN m.arcs m.arcs.length k).take i) x);rw[← HTK.out,← hu] at HRV;clear hxl hxA hxi hxf HX hu hYE hDE;cases u
          ·
           have HON:=hide (show wr.ownsRow Y 64 5 u11 (rowV (usB m) (trB m) s (visL m.arcs S s j++(arN m.arcs m.arcs.length k).take (i+1))).length (arcRow (rowV (usB m) (trB m) s (visL m.arcs S s j++(arN m.arcs m.arcs.length k).take (i+1)))) by rw[HRV.out];simpa using HOW.out);clear HOW HRV;go_wp2;go_roundw
           case rel=>exact⟨i+1,by omega,by go_num,hide (HON.out.alloc _),hide (HBY.out.alloc (by have:=HYE.out;omega) _)⟩
           case measure=>simp[intOf];omega
          ·
           have hkt:trB m x.t.toNat=true:=tr_next HA.out HKT.out hsS HKS.out HXA.out HXI.out HXF.out HUU.out.symm
           have hlen2:(rowV (usB m) (trB m) s (visL m.arcs S s j++(arN m.arcs m.arcs.length k).take i)).length≤802000:=by
            have h1:=rowV_len (usB m) (trB m) s (visL m.arcs S s j++(arN m.arcs m.arcs.length k).take i);have h2:=visL_len m.arcs S s j;have h3:j*m.arcs.length≤400*2000:=Nat.mul_le_mul (by omega) HN4.out;rw[List.length_append,List.length_take] at h1;omega
           obtain⟨Av,cv,rfl,hcv,_⟩:=own_value HOW.out;obtain⟨n2,hn2⟩:∃ z,z=(rowV (usB m) (trB m) s (visL m.arcs S s j++(arN m.arcs m.arcs.length k).take i)).length:=⟨_,rfl⟩;have HN2:=hide hn2;rw[← hn2] at HOW hlen2 hcv ⊢;obtain⟨ct,hct⟩:∃ z,z=cntK (trB m) x.t.toNat:=⟨_,rfl⟩;rw[← hct,← HCN.out,if_pos rfl] at HRV;have e1':numK (trB m) x.t.toNat=(ct:Int):=by unfold numK;rw[hkt,hct];simp
           have e2':numK (trB m) s=(cn:Int):=by unfold numK;rw[HKS.out,HCN.out];simp
           have HMr:=HRM.out.of_block (HBY.out.block gM hMY);clear hn2 hct hkt;go_upto_region 25 with fail
           generalize hW5:World.alloc _ _=W5;obtain⟨bx,hbx⟩:∃ z,z=wr.heap.size:=⟨_,rfl⟩;have HX5:=hide (show Blk W5 bx 64 #[.int .i64 x.f,.int .i64 x.t,.int .i64 x.i,.int .i64 x.o,.int .i64 x.w] by rw[← hW5];exact Blk.at_ hbx);have HOW5:=hide (show W5.ownsRow Y 64 5 (.slice Av n2 cv) n2 (arcRow (rowV (usB m) (trB m) s (visL m.arcs S s j++(arN m.arcs m.arcs.length k).take i))) by rw[← hW5];exact HOW.out.alloc _);have HB5:=hide (show Below Y W11 W5 by rw[← hW5];exact HBY.out.alloc (by have:=HYE.out;omega) _);have cS:=(show W5.rowIs gM 3 S (fun i=>.int .i64 (numK (trB m) i)) by rw[← hW5];exact HMr.alloc _).cell hsS;have cT:=(show W5.rowIs gM 3 S (fun i=>.int .i64 (numK (trB m) i)) by rw[← hW5];exact HMr.alloc _).cell hts;rw[e2'] at cS;rw[e1'] at cT;have hs5:bx<W5.heap.size:=HX5.out.lt;have hYx:Y≤bx:=by have:=HYE.out;omega
           have lM5:gM<W5.heap.size:=by omega
           have lD5:D<W5.heap.size:=by omega
           simp only[← hbx];clear hW5 hbx HOW cU e0 e1 e2 e3 e4 e1' e2' HMr lb2;have x1:=HX5.out.cell 1;have x2:=HX5.out.cell 2;simp at x1 x2;have z0:(0:Int)≤(s:Int):=by omega
           have z1:(s:Int)<(S:Int):=by omega
           have z3:x.t<(S:Int):=r3;refine wp_mix (fun w'=>w'.cell? ⟨bx,1,none⟩=some (.int .i64 x.t)∧w'.cell? ⟨bx,2,none⟩=some (.int .i64 x.i)∧w'.cell? ⟨gM,s,none⟩=some (.int .i64 (cn:Int))∧w'.cell? ⟨gM,x.t.toNat,none⟩=some (.int .i64 (ct:Int))) 16 [(0,false),(1,false),(2,false),(3,false),(4,false),(5,false),(6,false),(7,false),(8,false),(9,false),(10,false),(11,false),(12,false),(13,false),(14,false),(15,true)] (by kernel_rfl) (by kernel_rfl) ?_ ?_
           · go_simp
           simp only[List.drop_succ_cons,List.drop_zero]
           repeat (refine mix_q (v:=?_) (by rfl) (by rfl) ?_ ?_;rotate_left;(focus (intro w' hC;(try dsimp only at hC);go_simp;(first | done | with_reducible rfl)));simp only[Act.put,List.setIfInBounds_toArray,List.set_cons_zero,List.set_cons_succ,List.getElem_toArray,List.getElem_cons_zero,List.getElem_cons_succ])
           refine mix_l (by rfl) (by rfl) (fun K hK=>?_);go_simp;refine hK _ _ (by go_simp) ?_;clear hK K cS cT x1 x2;refine mix_nil ?_;try simp only[Act.put,List.setIfInBounds_toArray,List.set_cons_zero,List.set_cons_succ,List.getElem_toArray,List.getElem_cons_zero,List.getElem_cons_succ]
           go_wp2_with (at_builtin;go_loud (refine wpList_append_own_at _ rfl (.tmp 90) (.tmp 105) 22 rfl Y 64 ia _ 5 40 Try.underlying22 ha0 ha1 ha2 ha3 rfl (by omega) (.slice Av n2 cv) n2 _ rfl (by first | exact (HOW5.out.alloc _).drew | exact HOW5.out.drew.alloc _) ⟨W5.heap.size,0,none⟩ 1 1 (arcRow [⟨(cn:Int),(ct:Int),x.i,x.i,0⟩]) rfl (by rfl) (World.news_of_block (cs:=(arcRow [⟨(cn:Int),(ct:Int),x.i,x.i,0⟩]).toArray) (t:=64) (fr:=(0,0)) ((Blk.at_ (by simp)).drew)) (arcRow_one _) (by simp only[maxLen];omega) (by omega) (by simp<;>omega) ?_;intro v' w6' hown2 hg2 _ hat2;obtain⟨Av2,cv2,rfl,hkcv,_⟩:=own_value hown2));refine NoPanic.normal ?_;go_wp2;have hs6:=hg2.size;simp at hs6;have HON:=hide (show w6'.ownsRow Y 64 5 (.slice Av2 (n2+1) cv2) (rowV (usB m) (trB m) s (visL m.arcs S s j++(arN m.arcs m.arcs.length k).take (i+1))).length (arcRow (rowV (usB m) (trB m) s (visL m.arcs S s j++(arN m.arcs m.arcs.length k).take (i+1)))) by rw[HRV.out,arcRow_append,List.length_append,← HN2.out];exact hown2);have HBN:=hide ((((HB5.out.alloc (by omega) _).drew).grown hg2 (by simp;omega) (fun z hz=>(HOW5.out.lt z hz).1)));clear hown2 hg2 hat2 HRV;go_roundw
           case rel=>exact⟨i+1,by omega,by go_num,HON,HBN⟩
           case measure=>simp[intOf];omega
         ·
          obtain rfl:q1=i:=by omega
          have HON:=hide (show wr.ownsRow Y 64 5 u11 (rowV (usB m) (trB m) s (visL m.arcs S s (j+1))).length (arcRow (rowV (usB m) (trB m) s (visL m.arcs S s (j+1)))) by rw[HVN.out];have:=HOW.out;rwa [HQL.out,List.take_length] at this);clear HOW;go_wp2;go_roundw
          case rel=>exact⟨j+1,eb2,by omega,by go_num,rfl,hide HEN.out.symm,HON,HBY⟩
          case measure=>simp[intOf];omega
      ·
       obtain rfl:N=j:=by omega
       have HLE:=hide (show (rowV (usB m) (trB m) s (visL m.arcs S s N)).length≤802000 by
        have h1:=rowV_len (usB m) (trB m) s (visL m.arcs S s N);have h2:=visL_len m.arcs S s N;have h3:N*m.arcs.length≤400*2000:=Nat.mul_le_mul (by omega) HN4.out
        omega)
       obtain⟨Av,cv,rfl,hcv,_⟩:=own_value HOW.out;obtain⟨LV,hLV⟩:∃ z,z=rowV (usB m) (trB m) s (visL m.arcs S s N):=⟨_,rfl⟩;rw[← hLV] at HOW HLE HRW hcv ⊢;obtain⟨n2,hn2⟩:∃ z,z=LV.length:=⟨_,rfl⟩;have HN2:=hide hn2;rw[← hn2] at HOW HLE hcv ⊢;have hn28:n2≤802000:=HLE.out;have HSO:=hide (sort_any LV n2 Y _ wr hn2.symm (by omega) HOW.out);clear hn2 hLV HLE;go_upto_region 29 with (go_at_call 80;refine HSO.out.mono ?_;rintro e w5 ⟨rfl,ho5,hg5⟩;have HO5':=hide ho5;have HG5:=hide hg5;clear ho5 hg5)
       have hYW:=HYE.out;have HB5:=hide (HBY.out.grown HG5.out (by omega) (fun z hz=>(HOW.out.lt z hz).1));have hz5:=HB5.out.size;obtain⟨A5,c5,AF5,cf5,bO,hoA,hoF⟩:=HMG.out;have HBA:=hide bO;have HAA:=hide hoA;have HAF:=hide hoF;have lD5:D<w5.heap.size:=by omega
       have d1:=(bO.below HB5.out hDY).cell 1;simp at d1;clear bO hoA hoF HSO;refine wp_mix (fun w'=>w'.cell? ⟨D,1,none⟩=some (.slice A5 q c5)) 4 [(0,false),(1,false),(2,false),(3,true)] (by kernel_rfl) (by kernel_rfl) ?_ ?_
       · go_simp
       simp only[List.drop_succ_cons,List.drop_zero]
       repeat (refine mix_q (v:=?_) (by rfl) (by rfl) ?_ ?_;rotate_left;(focus (intro w' hC;(try dsimp only at hC);go_simp;(first | done | with_reducible rfl)));simp only[Act.put,List.setIfInBounds_toArray,List.set_cons_zero,List.set_cons_succ,List.getElem_toArray,List.getElem_cons_zero,List.getElem_cons_succ])
       refine mix_l (by rfl) (by rfl) (fun K hK=>?_);go_simp;refine (compacta_any (srtA LV) n2 Y _ _ (by rw[srtA_len,HN2.out]) (by omega) (by simp;omega) HO5'.out.drew).mono ?_;rintro e w6' ⟨A6,c6,rfl,ho6,hb6⟩;have HB6':=hide (show Below Y W11 w6' from HB5.out.drew.trans hb6);have HBL:=hide (show Below W11.heap.size W11 w6' by rw[← HYE.out];exact HB6'.out);have bO6:=HBA.out.below HB6'.out hDY;have hoA6:=own_blw HAA.out HBL.out;have hoF6:=own_blw HAF.out HBL.out;have hRX:=Rd.of_own ho6 (fun i j hi hj=>arcRow_at _ i j hi hj)
       have hA6:A6=none→(compact eqA (srtA LV)).length=0:=by
        intro e;rcases Nat.eq_zero_or_pos (compact eqA (srtA LV)).length with h0 | h0
        · exact h0
        ·
         obtain⟨b,off,h1,_⟩:=hRX h0;rw[e] at h1;cases h1
       obtain⟨CL,hCL⟩:∃ z,z=compact eqA (srtA LV):=⟨_,rfl⟩;rw[← hCL] at hRX hA6 HRW ho6 ⊢;obtain⟨k6,hk6⟩:∃ z,z=CL.length:=⟨_,rfl⟩;have HK6:=hide hk6;have hk68:k6≤802000:=by rw[hk6,hCL];have:=compact_len eqA (srtA LV);rw[srtA_len,← HN2.out] at this;omega
       rw[← hk6] at hRX hA6 ho6 ⊢;obtain⟨qk,hqk⟩:∃ z,z=q+k6:=⟨_,rfl⟩;have HQK:=hide hqk;have hqk8:qk≤804000:=by omega
       have HRX:=hide hRX;have HBO6:=hide bO6;have HOA6:=hide hoA6;have HOF6:=hide hoF6;have lD6:D<w6'.heap.size:=bO6.lt;have d1':=bO6.cell 1;have df1:=bO6.frozen 1;simp at d1';have HDN:=hide (show (Value.slice A5 q c5).ownBlock≠some D from own_bne hoA6 bO6 (by decide));have hZ66:Z≤w6'.heap.size:=by have:=HBL.out.size;omega
       refine hK _ _ d1' ?_;clear hK K hk6 hCL hRX bO6 hoA6 hoF6 hqk d1 ho6 hb6 HO5' HG5 HOW HBY HBV;refine mix_nil ?_;try simp only[Act.put,List.setIfInBounds_toArray,List.set_cons_zero,List.set_cons_succ,List.getElem_toArray,List.getElem_cons_zero,List.getElem_cons_succ]
       go_upto_region 30 with (at_builtin;go_loud (refine wpList_append_any _ rfl (.tmp 112) (.tmp 114) 22 rfl Z 64 ia _ 5 40 Try.underlying22 ha0 ha1 ha2 ha3 rfl (by omega) (.slice A5 q c5) q _ rfl HOA6.out _ A6 k6 c6 (arcRow CL) (arcCell CL) rfl HRX.out hA6 (by rw[arcRow_length,HK6.out]) (fun i j hi hj=>arcRow_at _ i j (by rw[← HK6.out];exact hi) hj) (arcRow_one _) (by simp only[maxLen];omega) (by omega) (by omega) ?_;intro v2 w7 hown7 hg7 hat7;rw[← HQK.out] at hown7;obtain⟨A7,c7,rfl,hc7,_⟩:=own_value hown7;have HOWN7:=hide hown7;have HG7:=hide hg7;have df7:w7.frozen? ⟨D,1,none⟩=false:=far_free hg7 HDN.out lD6 df1;have d7:w7.cell? ⟨D,1,none⟩=some (.slice A5 q c5):=far_cell hg7 HDN.out d1';have lD7':D<w7.heap.size:=(by have:=hg7.size;omega);clear hown7 hg7 hat7))
       generalize hW8:World.setCell _ _ _=W8;have hD6e:=HDE.out;have hZ6:w6.heap.size≤Z:=by omega
       have HMG8:=hide (show Mg 25 64 69 W8 D Z (cs:Int) qk (silG m.arcs S (usB m) (trB m) (s+1)) r (silH m.arcs m.fins S (trB m) s) by
        have h:=mg_pushs (k:=k6) (X:=CL) HBO6.out HOA6.out HOF6.out (by decide) (by decide) (by decide) HG7.out (by rw[← HQK.out];exact HOWN7.out);rw[← HQK.out,hW8] at h;rw[HGN.out,HRW.out]
        exact h)
       have HRM6:=HRM.out.of_block (HB6'.out.block gM hMY)
       have HRM8:=hide (show W8.rowIs gM 3 S (fun i=>.int .i64 (numK (trB m) i)) by
        rw[← hW8]
        exact (HRM6.of_block (HG7.out.block gM HRM6.lt (Ne.symm (rowIs_ne HOA6.out HRM6 (by decide))))).setOther (a:=⟨D,1,none⟩) (by show gM≠D;omega) _)
       have hs7:=HG7.out.size
       have HB68:=hide (show Below w6.heap.size w6 W8 by
        rw[← hW8]
        exact ((HB6r.out.trans (HB6'.out.mono (by omega))).grown HG7.out (by have:=HB6'.out.size;omega) (fun z hz=>by have:=(HOA6.out.lt z hz).1;omega)).setCell (p:=⟨D,1,none⟩) (by show w6.heap.size≤D;omega) _)
       have hz8:Z≤W8.heap.size:=by rw[← hW8];have:=HB6'.out.size;simp[World.setCell];omega
       have HEW2:=hide (show silH m.arcs m.fins S (trB m) (s+1)=silH m.arcs m.fins S (trB m) s++if eb=true then [⟨(cn:Int),0⟩] else [] by rw[HHN.out,HEW.out,HEB.out]);have HMGe:=HMG8.out;obtain⟨A8,c8,AF8,cf8,bO8,hoA8,hoF8⟩:=HMGe;have d8:=bO8.cell 1;simp at d8;have lD8:=bO8.lt;have HBO8:=hide bO8;have HOA8:=hide hoA8;have HOF8:=hide hoF8;clear hW8 HRM6 HMG HRM HB6r HBW HBO6 HOA6 HOF6 HOWN7 HG7 hs7 df7 d7 lD7' HBA HAA HAF HB6' HBL HRX d1' df1 lD6 HEB HEW HGN HRW bO8 hoA8 hoF8 hD6e hYW;refine NoPanic.normal ?_;by_cases h2000:2000<qk
       ·
        have t3:decide ((qk:Int)>2000)=true:=decide_eq_true (by omega);have t3':decide ((2000:Int)<(qk:Int))=true:=decide_eq_true (by omega)
        have HLIM:=hide (show silR m=(emptyM,(17,-1)) by
         rw[HSR.out,if_pos];rw[HSM2.out]
         show 2000<(silG m.arcs S (usB m) (trB m) S).length
         have h1:=silG_grow m.arcs S (usB m) (trB m) (show s+1≤S by omega);have h2:=HMG8.out.lens.1
         omega)
        have bM8:=HM6.out.below HB68.out HM6.out.lt;have bR8:=HR6.out.below HB68.out HR6.out.lt;have lM8:=bM8.lt;have lR8:=bR8.lt;have HBE8:=hide (HBW6.out.trans (HB68.out.mono HBW6.out.size));clear h2000;go_wp2_with fail;refine (dfault_any _ _ _).mono ?_;rintro e w9 ⟨rfl,hb9⟩;have bM:=bM8.below hb9 lM8;have bR:=bR8.below hb9 lR8;have HBE:=hide (HBE8.out.trans (hb9.mono HBE8.out.size));have q0:=bM.cell 0;have q1:=bM.cell 1;have q2:=bM.cell 2;have q3:=bR.cell 0;have q4:=bR.cell 1;have qf:=bM.frozen 0;have qf1:=bM.frozen 1;have qf2:=bM.frozen 2;have qf3:=bR.frozen 0;have qf4:=bR.frozen 1;have lM:=bM.lt;have lR:=bR.lt;simp at q0 q1 q2 q3 q4;clear hb9 bM bR bM8 bR8 HBE8 HMG8 HBO8 HOA8 HOF8 HRM8 HB68 d8;go_wp21;refine bodyPost_ret (v:=.tuple #[.agg #[.int .i64 0,.slice none 0 0,.slice none 0 0],.agg #[.int .i64 17,.int .i64 (-1)]]) (by simp[results,Try.results46,go_sem,lM,lR,hMR,hRM,q0,q1,q2,q3,q4,qf,qf1,qf2,qf3,qf4]) rfl ?_;rw[HLIM.out];exact⟨_,rfl,MachNew.empty _ _,(((((HBE.out.setCell (p:=⟨M,0,none⟩) (by exact hwM) (.int .i64 0)).setCell (p:=⟨M,1,none⟩) (by exact hwM) (.slice none 0 0)).setCell (p:=⟨M,2,none⟩) (by exact hwM) (.slice none 0 0)).setCell (p:=⟨R,0,none⟩) (by exact hwR) (.int .i64 17)).setCell (p:=⟨R,1,none⟩) (by exact hwR) (.int .i64 (-1)))⟩
       ·
        have t3:decide ((qk:Int)>2000)=false:=decide_eq_false (by omega);have t3':decide ((2000:Int)<(qk:Int))=false:=decide_eq_false (by omega);have hq2k:qk≤2000:=by omega
        cases eb
        ·
         have HH2:=hide (show silH m.arcs m.fins S (trB m) (s+1)=silH m.arcs m.fins S (trB m) s by rw[HEW2.out];simp);clear h2000 HEW2 HHN;go_wp2;go_roundw
         case rel=>exact⟨s+1,qk,r,by omega,by go_num,by omega,by omega,hide (by rw[HH2.out];exact HMG8.out),HRM8,HB68,hz8⟩
         case measure=>simp[intOf];omega
        ·
         have HH2:=hide (show silH m.arcs m.fins S (trB m) (s+1)=silH m.arcs m.fins S (trB m) s++[⟨(cn:Int),0⟩] by rw[HEW2.out];simp);have d2:=HBO8.out.cell 2;have df2:=HBO8.out.frozen 2;simp at d2;have cS:=HRM8.out.cell hsS;have e2':numK (trB m) s=(cn:Int):=by unfold numK;rw[HKS.out,HCN.out];simp
         rw[e2'] at cS;have lM8:=HRM8.out.lt;have z0:(0:Int)≤(s:Int):=by omega
         have z1:(s:Int)<(S:Int):=by omega
         clear h2000 HEW2 HHN e2';go_upto_region 33 with fail
         refine wp_mix (fun w'=>w'.cell? ⟨D,2,none⟩=some (.slice AF8 r cf8)∧w'.cell? ⟨gM,s,none⟩=some (.int .i64 (cn:Int))) 8 [(0,false),(1,false),(2,false),(3,false),(4,false),(5,false),(6,false),(7,true)] (by kernel_rfl) (by kernel_rfl) ?_ ?_
         · go_simp
         simp only[List.drop_succ_cons,List.drop_zero]
         repeat (refine mix_q (v:=?_) (by rfl) (by rfl) ?_ ?_;rotate_left;(focus (intro w' hC;(try dsimp only at hC);go_simp;(first | done | with_reducible rfl)));simp only[Act.put,List.setIfInBounds_toArray,List.set_cons_zero,List.set_cons_succ,List.getElem_toArray,List.getElem_cons_zero,List.getElem_cons_succ])
         refine mix_l (by rfl) (by rfl) (fun K hK=>?_);go_simp;refine hK _ _ (by go_simp) ?_;clear hK K cS;refine mix_nil ?_;try simp only[Act.put,List.setIfInBounds_toArray,List.set_cons_zero,List.set_cons_succ,List.getElem_toArray,List.getElem_cons_zero,List.getElem_cons_succ]
         have HNF:=hide (show (Value.slice AF8 r cf8).ownBlock≠some D from own_bne HOF8.out HBO8.out (by decide));go_wp2_with (at_builtin;go_loud (refine wpList_append_own_at _ rfl (.tmp 125) (.tmp 131) 23 rfl Z 69 iF _ 2 16 Try.underlying23 hF0 hF1 hF2 hF3 rfl (by omega) (.slice AF8 r cf8) r _ rfl (by first | exact (HOF8.out.alloc _).drew | exact HOF8.out.drew.alloc _) ⟨W8.heap.size,0,none⟩ 1 1 (finRow [⟨(cn:Int),0⟩]) rfl (by rfl) (World.news_of_block (cs:=(finRow [⟨(cn:Int),0⟩]).toArray) (t:=69) (fr:=(0,0)) ((Blk.at_ (by simp)).drew)) (finRow_one _) (by simp only[maxLen];omega) (by omega) (by simp<;>omega) ?_;intro v' w9 hown9 hg9 _ hat9;obtain⟨AF9,cf9,rfl,hkcv,_⟩:=own_value hown9;have HOWN9:=hide hown9;have HG9:=hide hg9;have df9:w9.frozen? ⟨D,2,none⟩=false:=far_free hg9 HNF.out (by simp;omega) (by first | exact ((HBO8.out.alloc _).drew).frozen 2 | exact ((HBO8.out.drew).alloc _).frozen 2);have d9:w9.cell? ⟨D,2,none⟩=some (.slice AF8 r cf8):=far_cell hg9 HNF.out (by first | exact ((HBO8.out.alloc _).drew).cell 2 | exact ((HBO8.out.drew).alloc _).cell 2);have lD9':D<w9.heap.size:=(by have:=hg9.size;simp at this;omega);clear hown9 hg9 hat9));refine NoPanic.normal ?_;go_wp2;have hD6e:=HDE.out;have P1:=hide ((HBO8.out.alloc (Obj.cells #[.int .i64 (cn:Int),.int .i64 0] 69)).drew);have P2:=hide ((HOA8.out.alloc (Obj.cells #[.int .i64 (cn:Int),.int .i64 0] 69)).drew);have P3:=hide ((HOF8.out.alloc (Obj.cells #[.int .i64 (cn:Int),.int .i64 0] 69)).drew);have P4:=hide ((HRM8.out.alloc (Obj.cells #[.int .i64 (cn:Int),.int .i64 0] 69)).drew);have P5:=hide ((HB68.out.alloc (by omega) (Obj.cells #[.int .i64 (cn:Int),.int .i64 0] 69)).drew);have P6:=hide (rowIs_ne P3.out P4.out (by decide));have HMG9:=mg_pushF P1.out P2.out P3.out (by decide) (by decide) (by decide) HG9.out HOWN9.out;have HRM9:=(P4.out.of_block (HG9.out.block gM P4.out.lt (Ne.symm P6.out))).setOther (a:=⟨D,2,none⟩) (by show gM≠D;omega) (.slice AF9 (r+1) cf9);have HB9':=(P5.out.grown HG9.out P5.out.size (fun z hz=>by have:=(HOF8.out.lt z hz).1;omega)).setCell (p:=⟨D,2,none⟩) (by show w6.heap.size≤D;omega) (.slice AF9 (r+1) cf9);have hs9:=HG9.out.size;simp at hs9;have HMG9':=hide HMG9;have HRM9':=hide HRM9;have HB9'':=hide HB9';clear HMG9 HRM9 HB9' HG9 HOWN9 d9 df9 hD6e P1 P2 P3 P4 P5 P6;go_roundw
         case rel=>exact⟨s+1,qk,r+1,by omega,by go_num,hq2k,by omega,hide (by rw[HH2.out];exact HMG9'.out),HRM9',HB9'',by simp[World.setCell];omega⟩
         case measure=>simp[intOf];omega
   ·
    obtain rfl:S=s:=by omega
    have HDN:=hide (show silR m=(⟨(cs:Int),silG m.arcs S (usB m) (trB m) S,silH m.arcs m.fins S (trB m) S⟩,(0,0)) by
     have h2:=HMG.out.lens.1
     rw[HSR.out,HSM2.out,← HCS.out,if_neg (by show ¬ 2000<(silG m.arcs S (usB m) (trB m) S).length;omega)])
    have hD6e:=HDE.out;have hDM:D≠M:=by omega
    have hMD:M≠D:=by omega
    have hDR:D≠R:=by omega
    have hRD:R≠D:=by omega
    have hMZ:M<Z:=by omega
    have hRZ:R<Z:=by omega
    have hwZ:w.heap.size≤Z:=by omega
    obtain⟨A5,c5,AF5,cf5,bO5,hoA,hoF⟩:=HMG.out;have bM:=HM6.out.below HB6r.out HM6.out.lt;have bR:=HR6.out.below HB6r.out HR6.out.lt;have o0:=bO5.cell 0;have o1:=bO5.cell 1;have o2:=bO5.cell 2;simp at o0 o1 o2;have lO:=bO5.lt;have q0:=bM.cell 0;have q1:=bM.cell 1;have q2:=bM.cell 2;have q3:=bR.cell 0;have q4:=bR.cell 1;have qf:=bM.frozen 0;have qf1:=bM.frozen 1;have qf2:=bM.frozen 2;have qf3:=bR.frozen 0;have qf4:=bR.frozen 1;have lM:=bM.lt;have lR:=bR.lt;simp at q0 q1 q2 q3 q4;have HA9:=hide (ownsRow_setCell_below (ownsRow_setCell_below (ownsRow_setCell_below (ownsRow_setCell_below (ownsRow_setCell_below hoA (a:=⟨M,0,none⟩) hMZ (.int .i64 (cs:Int))) (a:=⟨M,1,none⟩) hMZ (.slice A5 q c5)) (a:=⟨M,2,none⟩) hMZ (.slice AF5 r cf5)) (a:=⟨R,0,none⟩) hRZ (.int .i64 0)) (a:=⟨R,1,none⟩) hRZ (.int .i64 0));have HF9:=hide (ownsRow_setCell_below (ownsRow_setCell_below (ownsRow_setCell_below (ownsRow_setCell_below (ownsRow_setCell_below hoF (a:=⟨M,0,none⟩) hMZ (.int .i64 (cs:Int))) (a:=⟨M,1,none⟩) hMZ (.slice A5 q c5)) (a:=⟨M,2,none⟩) hMZ (.slice AF5 r cf5)) (a:=⟨R,0,none⟩) hRZ (.int .i64 0)) (a:=⟨R,1,none⟩) hRZ (.int .i64 0));have HBF:=hide (((((((HBW6.out.trans (HB6r.out.mono HBW6.out.size)).setCell (p:=⟨M,0,none⟩) (by exact hwM) (.int .i64 (cs:Int))).setCell (p:=⟨M,1,none⟩) (by exact hwM) (.slice A5 q c5)).setCell (p:=⟨M,2,none⟩) (by exact hwM) (.slice AF5 r cf5)).setCell (p:=⟨R,0,none⟩) (by exact hwR) (.int .i64 0)).setCell (p:=⟨R,1,none⟩) (by exact hwR) (.int .i64 0)));have HQL:=hide (own_lenA hoA);have HRL:=hide (own_lenF hoF);obtain⟨LA,hLA⟩:∃ z,z=silG m.arcs S (usB m) (trB m) S:=⟨_,rfl⟩;obtain⟨LF,hLF⟩:∃ z,z=silH m.arcs m.fins S (trB m) S:=⟨_,rfl⟩;rw[← hLA] at HQL HA9 HDN;rw[← hLF] at HRL HF9 HDN;clear bM bR bO5 hoA hoF HMG HRM HB6r hLA hLF hD6e;go_wp21;refine bodyPost_ret (v:=.tuple #[.agg #[.int .i64 (cs:Int),.slice A5 q c5,.slice AF5 r cf5],.agg #[.int .i64 0,.int .i64 0]]) (by simp[results,Try.results46,go_sem,lM,lR,hMR,hRM,q0,q1,q2,q3,q4,qf,qf1,qf2,qf3,qf4]) rfl ?_;rw[HDN.out];refine⟨_,rfl,?_,HBF.out⟩;have hbq:q≤big:=by unfold big;omega
    have hbr:r≤big:=by unfold big;omega
    have HA8:=HA9.out;have HF8:=HF9.out;obtain⟨_,_,e1,k1,_⟩:=own_value HA8;obtain⟨_,_,e2,k2,_⟩:=own_value HF8;injection e1 with _ _ e1
    injection e2 with _ _ e2
    subst e1 e2;have hq9:=HQL.out;have hr9:=HRL.out;subst hq9 hr9;exact MachNew.of_own (m:=⟨(cs:Int),LA,LF⟩) (base:=Z) (b2:=Z) HA8 HF8 hwZ hwZ k1 k2 hbq hbr
theorem silw_any (va:Value) (m:Mach) (w:World) (B:Nat) (hB:B≤w.heap.size) (ha:MachAt w B va m) :
 Calls Try.prog 46 #[va] w fun e w'=>∃ v1,e=.returned (.tuple #[v1,.agg #[.int .i64 (silR m).2.1,.int .i64 (silR m).2.2]])∧MachNew w.heap.size w' v1 (silR m).1∧Below w.heap.size w w':=by
 by_cases hv:accF m=(0,0)
 · exact silw_ok va m w B hB ha hv
 · exact silw_bad va m w B hB ha hv
end Go.Proofs.Ytkfdhpbnphojoaa
