/- The texts BoW of this proof. No conditions. -/
import Derived.Test.YtkfdhpbnphojoaaKa30
import Derived.Test.YtkfdhpbnphojoaaKa29
/- Text BoW. -/
namespace Go.Proofs.Ytkfdhpbnphojoaa
open Go.RowKit Gm
set_option linter.unusedSimpArgs false
set_option linter.unusedVariables false
theorem bfaultB_any (a b:Int) (w:World) :
 Calls Try.prog 59 #[.int .i64 a,.int .i64 b] w fun e w'=>e=.returned (.agg #[.int .i64 a,.int .i64 b])∧Below w.heap.size w w':=by
 go_enter Try.func59,Try.ntmps59
 go_wp2;exact bodyPost_ret (v:=.agg #[.int .i64 a,.int .i64 b]) (by simp[results,Try.results59,go_sem]) rfl ⟨rfl,by go_grown⟩
set_option maxRecDepth 100000 in
set_option maxHeartbeats 16000000 in
theorem both_any (
 va vb:Value) (a b:Mach) (w:World) (B:Nat) (hB:B≤w.heap.size) (ha:MachAt w B va a) (hb:MachAt w B vb b) :
 Calls Try.prog 50 #[va,vb] w fun e w'=>∃ (v1 v2:Value) (x y:Mach),e=.returned (.tuple #[v1,v2,.agg #[.int .i64 (bothF a b).1,.int .i64 (bothF a b).2]])∧MachAt w' w'.heap.size v1 x∧MachAt w' w'.heap.size v2 y∧(bothF a b=(0,0)→x=(detW a).1∧y=(detW b).1)∧Below w.heap.size w w':=by
 have HA0:=hide ha;have HB0:=hide hb;obtain⟨A1,AF1,n1,c1,nf1,cf1,rfl,_,_,_,_,_,_,_,_⟩:=ha;obtain⟨A2,AF2,n2,c2,nf2,cf2,rfl,_,_,_,_,_,_,_,_⟩:=hb;obtain⟨sa,hsa⟩:∃ z,z=a.n:=⟨_,rfl⟩;obtain⟨sb,hsb⟩:∃ z,z=b.n:=⟨_,rfl⟩;rw[← hsa] at HA0 ⊢;rw[← hsb] at HB0 ⊢;clear hsa hsb;have he:=fun a b c d W=>run_neq_fault a b c d W
 have he2:=fun a b c d W=>run_eql_fault a b c d W
 go_enter Try.func50,Try.ntmps50
 go_upto_region 1 with fail
 generalize hW1:World.alloc _ _=W1;obtain⟨X,hX⟩:∃ z,z=w.heap.size:=⟨_,rfl⟩;obtain⟨Y,hY⟩:∃ z,z=w.heap.size+1:=⟨_,rfl⟩;obtain⟨M,hM⟩:∃ z,z=w.heap.size+1+1:=⟨_,rfl⟩;obtain⟨N,hN⟩:∃ z,z=w.heap.size+1+1+1:=⟨_,rfl⟩;obtain⟨R,hR⟩:∃ z,z=w.heap.size+1+1+1+1:=⟨_,rfl⟩;have bX:=hide (show Blk W1 X 25 #[.int .i64 sa,.slice A1 n1 c1,.slice AF1 nf1 cf1] by rw[← hW1];exact ((((Blk.at_ hX).alloc _).alloc _).alloc _).alloc _);have bY:=hide (show Blk W1 Y 25 #[.int .i64 sb,.slice A2 n2 c2,.slice AF2 nf2 cf2] by rw[← hW1];exact (((Blk.at_ (by simp[hY])).alloc _).alloc _).alloc _);have bM:=hide (show Blk W1 M 25 #[.int .i64 0,.slice none 0 0,.slice none 0 0] by rw[← hW1];exact ((Blk.at_ (by simp[hM])).alloc _).alloc _);have bN:=hide (show Blk W1 N 25 #[.int .i64 0,.slice none 0 0,.slice none 0 0] by rw[← hW1];exact (Blk.at_ (by simp[hN])).alloc _);have bR:=hide (show Blk W1 R 28 #[.int .i64 0,.int .i64 0] by rw[← hW1];exact Blk.at_ (by simp[hR]));have HW:=hide (show Below w.heap.size w W1 by rw[← hW1];go_grown);have hwM:w.heap.size≤M:=by omega
 have hwN:w.heap.size≤N:=by omega
 have hwR:w.heap.size≤R:=by omega
 have hMN:M≠N:=by omega
 have hNM:N≠M:=by omega
 have hMR:M≠R:=by omega
 have hRM:R≠M:=by omega
 have hNR:N≠R:=by omega
 have hRN:R≠N:=by omega
 have hXM:X≠M:=by omega
 have hMX:M≠X:=by omega
 have hXN:X≠N:=by omega
 have hNX:N≠X:=by omega
 have hXR:X≠R:=by omega
 have hRX:R≠X:=by omega
 have hYM:Y≠M:=by omega
 have hMY:M≠Y:=by omega
 have hYN:Y≠N:=by omega
 have hNY:N≠Y:=by omega
 have hYR:Y≠R:=by omega
 have hRY:R≠Y:=by omega
 have hMlt:M<w.heap.size+1+1+1+1+1:=by omega
 have hNlt:N<w.heap.size+1+1+1+1+1:=by omega
 have hRlt:R<w.heap.size+1+1+1+1+1:=by omega
 have hW1s:w.heap.size+1+1+1+1+1=W1.heap.size:=by rw[← hW1];simp
 rw[hW1s] at hMlt hNlt hRlt;have e1:M+1=N:=by omega
 have e2:N+1=R:=by omega
 simp only[← hM];simp only[e1,e2];simp only[← hY]
 try simp only[← hX]
 have x0:=bX.out.cell 0;have x1:=bX.out.cell 1;have x2:=bX.out.cell 2;simp at x0 x1 x2;clear hW1 hX hY hM hN hR hW1s e1 e2;obtain⟨f1,hf1⟩:∃ z,z=(accF a).1:=⟨_,rfl⟩;obtain⟨f2,hf2⟩:∃ z,z=(accF a).2:=⟨_,rfl⟩;have HF1:=hide hf1;have HF2:=hide hf2;clear hf1 hf2;go_upto_region 2 with (go_at_call 32;refine (check_any _ a W1 w.heap.size HW.out.size ((HA0.out.below HW.out hB).mono hB)).mono ?_;rintro e w2 ⟨rfl,hb9⟩;rw[← HF1.out,← HF2.out];have HB9:=hide hb9;clear hb9)
 generalize hW2:World.alloc _ _=W2;obtain⟨P,hP⟩:∃ z,z=w2.heap.size:=⟨_,rfl⟩;have bP:=hide (show Blk W2 P 28 #[.int .i64 f1,.int .i64 f2] by rw[← hW2];exact (Blk.at_ hP));have q9:=hide (show Below W1.heap.size W1 W2 by rw[← hW2];exact (HB9.out.alloc (by have:=HB9.out.size;(try simp);omega) _));have hMP:M≠P:=by have:=HB9.out.size;have:=bM.out.lt;omega
 have hPM:P≠M:=Ne.symm hMP;have hNP:N≠P:=by have:=HB9.out.size;have:=bN.out.lt;omega
 have hPN:P≠N:=Ne.symm hNP;have hRP:R≠P:=by have:=HB9.out.size;have:=bR.out.lt;omega
 have hPR:P≠R:=Ne.symm hRP
 try simp only[← hP]
 clear hW2 hP HB9 x0 x1 x2;replace bX:=hide (bX.out.below q9.out bX.out.lt);replace bY:=hide (bY.out.below q9.out bY.out.lt);replace bM:=hide (bM.out.below q9.out bM.out.lt);replace bN:=hide (bN.out.below q9.out bN.out.lt);replace bR:=hide (bR.out.below q9.out bR.out.lt);replace HW:=hide (HW.out.trans (q9.out.mono HW.out.size));clear q9;have p0:=bP.out.cell 0;have p1:=bP.out.cell 1;simp at p0 p1;have lP:=bP.out.lt;obtain⟨q,hq⟩:∃ q,q=fEq f1 f2 0 0:=⟨_,rfl⟩;cases q
 ·
  have hf:fEq f1 f2 0 0=false:=hq.symm;clear hq;have HNA:=hide (show accF a≠(0,0) by intro h;have g:=hf;rw[HF1.out,HF2.out,h] at g;exact absurd g (by decide));have HEQ:=hide (show bothF a b=accF a by unfold bothF;rw[if_pos HNA.out]);have HNZ:=hide (show bothF a b≠(0,0) by rw[HEQ.out];exact HNA.out);go_upto_region 3 with fail
  clear p0 p1 lP he he2
  obtain⟨F,hF⟩:∃ F:(Nat→Bool)→(Nat→Value)→World→Prop,F=fun l v wr =>
   Hid ((l 0=true→v 0=(.agg #[.int .i64 sa,.slice A1 n1 c1,.slice AF1 nf1 cf1]))) ∧
   Hid ((l 1=true→v 1=(.agg #[.int .i64 sb,.slice A2 n2 c2,.slice AF2 nf2 cf2]))) ∧
   Hid ((l 2=true→v 2=(.agg #[.int .i64 f1,.int .i64 f2]))) ∧
   Hid ((∃ cq0 cq1 cq2,Blk wr M 25 #[cq0,cq1,cq2]∧(l 3=true→#[cq0,cq1,cq2]=#[.int .i64 sa,.slice A1 n1 c1,.slice AF1 nf1 cf1]))) ∧
   Hid ((∃ cq0 cq1 cq2,Blk wr N 25 #[cq0,cq1,cq2]∧(l 4=true→#[cq0,cq1,cq2]=#[.int .i64 sb,.slice A2 n2 c2,.slice AF2 nf2 cf2]))) ∧
   Hid ((∃ cq0 cq1,Blk wr R 28 #[cq0,cq1]∧(l 5=true→#[cq0,cq1]=#[.int .i64 f1,.int .i64 f2]))) ∧
   Hid (Blk wr X 25 #[.int .i64 sa,.slice A1 n1 c1,.slice AF1 nf1 cf1]) ∧
   Hid (Blk wr Y 25 #[.int .i64 sb,.slice A2 n2 c2,.slice AF2 nf2 cf2]) ∧
   Hid (Blk wr P 28 #[.int .i64 f1,.int .i64 f2]) ∧
   Hid (Below w.heap.size w wr):=⟨_,rfl⟩
  have HFD:=hide hF;clear hF;refine wp_region_inv F (A:=?AR1) ?hA (by kernel_rfl) (by kernel_rfl) (by kernel_rfl) ?h0 ?hend ?hsteps
  case hA=>intro v;simp only[putR,Act.put,List.setIfInBounds_toArray,List.set_cons_zero,List.set_cons_succ,Nat.reduceAdd,Nat.zero_add];exact rfl
  case h0 =>
   intro v;rw[HFD.out];exact⟨hide (fun h=>by exfalso;simp at h),hide (fun h=>by exfalso;simp at h),hide (fun h=>by exfalso;simp at h),hide (⟨_,_,_,bM.out.drew,fun h=>by exfalso;simp at h⟩),hide (⟨_,_,_,bN.out.drew,fun h=>by exfalso;simp at h⟩),hide (⟨_,_,bR.out.drew,fun h=>by exfalso;simp at h⟩),hide (bX.out.drew),hide (bY.out.drew),hide (bP.out.drew),hide (HW.out.drew)⟩
  case hend =>
   intro l v wr hall hF;rw[HFD.out] at hF;obtain⟨H0,H1,H2,H3,H4,H5,H6,H7,H8,H9⟩:=hF;have f0:=H0.out;have f1:=H1.out;have f2:=H2.out;have f3:=H3.out;have f4:=H4.out;have f5:=H5.out;have f6:=H6.out;have f7:=H7.out;have f8:=H8.out;have f9:=H9.out;clear H0 H1 H2 H3 H4 H5 H6 H7 H8 H9;obtain⟨z0,z1,z2,hbM,hsM⟩:=f3;have hsM:=hsM (hall 3 (by simp));rw[hsM] at hbM;have qM0:=hbM.cell 0;have qfM0:=hbM.frozen 0;have qM1:=hbM.cell 1;have qfM1:=hbM.frozen 1;have qM2:=hbM.cell 2;have qfM2:=hbM.frozen 2;simp at qM0 qM1 qM2;have lM:=hbM.lt;clear hsM hbM;obtain⟨z0,z1,z2,hbN,hsN⟩:=f4;have hsN:=hsN (hall 4 (by simp));rw[hsN] at hbN;have qN0:=hbN.cell 0;have qfN0:=hbN.frozen 0;have qN1:=hbN.cell 1;have qfN1:=hbN.frozen 1;have qN2:=hbN.cell 2;have qfN2:=hbN.frozen 2;simp at qN0 qN1 qN2;have lN:=hbN.lt;clear hsN hbN;obtain⟨z0,z1,hbR,hsR⟩:=f5;have hsR:=hsR (hall 5 (by simp));rw[hsR] at hbR;have qR0:=hbR.cell 0;have qfR0:=hbR.frozen 0;have qR1:=hbR.cell 1;have qfR1:=hbR.frozen 1;simp at qR0 qR1;have lR:=hbR.lt;clear hsR hbR;have HBF0:=hide f9;clear f0 f1 f2 f6 f7 f8 f9  hall;go_wp21;refine bodyPost_ret (v:=.tuple #[.agg #[.int .i64 sa,.slice A1 n1 c1,.slice AF1 nf1 cf1],.agg #[.int .i64 sb,.slice A2 n2 c2,.slice AF2 nf2 cf2],.agg #[.int .i64 f1,.int .i64 f2]]) (by simp[results,Try.results50,go_sem,hMN,hMR,hNM,hNR,hRM,hRN,lM,qM0,qM1,qM2,qfM0,qfM1,qfM2,lN,qN0,qN1,qN2,qfN0,qfN1,qfN2,lR,qR0,qR1,qfR0,qfR1]) rfl ?_;have HBF:=HBF0.out;exact⟨_,_,a,b,by rw[HEQ.out,HF1.out,HF2.out],(HA0.out.below HBF hB).mono (by have:=HBF.size;omega),(HB0.out.below HBF hB).mono (by have:=HBF.size;omega),(fun h=>absurd h HNZ.out),HBF⟩
  case hsteps =>
   refine StepsR.cons (n:=0) ?_ (StepsR.cons (n:=1) ?_ (StepsR.cons (n:=2) ?_ (StepsR.cons (n:=3) ?_ (StepsR.cons (n:=4) ?_ (StepsR.cons (n:=5) ?_ (trivial))))))
   ·
    intro l v wr hn hdep hcl hF K hK;rw[HFD.out] at hF;obtain⟨H0,H1,H2,H3,H4,H5,H6,H7,H8,H9⟩:=hF;simp[Region.binds] at hdep;have HCL:=hide hcl;have HN:=hide hn;clear hcl hn;have x0:=H6.out.cell 0;have x1:=H6.out.cell 1;have x2:=H6.out.cell 2;simp at x0 x1 x2;have lS:=H6.out.lt;go_simp
    have hk:=hK.out (.agg #[.int .i64 sa,.slice A1 n1 c1,.slice AF1 nf1 cf1]) wr (by
     rw[HFD.out]
     exact⟨hide ((fun _=>rfl)),H1,H2,H3,H4,H5,H6,H7,H8,H9⟩)
    simp only[Act.put,List.setIfInBounds_toArray,List.set_cons_zero,List.set_cons_succ] at hk;exact hk
   ·
    intro l v wr hn hdep hcl hF K hK;rw[HFD.out] at hF;obtain⟨H0,H1,H2,H3,H4,H5,H6,H7,H8,H9⟩:=hF;simp[Region.binds] at hdep;have HCL:=hide hcl;have HN:=hide hn;clear hcl hn;have x0:=H7.out.cell 0;have x1:=H7.out.cell 1;have x2:=H7.out.cell 2;simp at x0 x1 x2;have lS:=H7.out.lt;go_simp
    have hk:=hK.out (.agg #[.int .i64 sb,.slice A2 n2 c2,.slice AF2 nf2 cf2]) wr (by
     rw[HFD.out]
     exact⟨H0,hide ((fun _=>rfl)),H2,H3,H4,H5,H6,H7,H8,H9⟩)
    simp only[Act.put,List.setIfInBounds_toArray,List.set_cons_zero,List.set_cons_succ] at hk;exact hk
   ·
    intro l v wr hn hdep hcl hF K hK;rw[HFD.out] at hF;obtain⟨H0,H1,H2,H3,H4,H5,H6,H7,H8,H9⟩:=hF;simp[Region.binds] at hdep;have HCL:=hide hcl;have HN:=hide hn;clear hcl hn;have x0:=H8.out.cell 0;have x1:=H8.out.cell 1;simp at x0 x1;have lS:=H8.out.lt;go_simp
    have hk:=hK.out (.agg #[.int .i64 f1,.int .i64 f2]) wr (by
     rw[HFD.out]
     exact⟨H0,H1,hide ((fun _=>rfl)),H3,H4,H5,H6,H7,H8,H9⟩)
    simp only[Act.put,List.setIfInBounds_toArray,List.set_cons_zero,List.set_cons_succ] at hk;exact hk
   ·
    intro l v wr hn hdep hcl hF K hK;rw[HFD.out] at hF;obtain⟨H0,H1,H2,H3,H4,H5,H6,H7,H8,H9⟩:=hF;simp[Region.binds] at hdep;have HCL:=hide hcl;have HN:=hide hn;clear hcl hn;have e0:=H0.out (by simp[hdep]);obtain⟨d0,d1,d2,hblk,_⟩:=H3.out;have x0:=hblk.cell 0;have xf0:=hblk.frozen 0;have x1:=hblk.cell 1;have xf1:=hblk.frozen 1;have x2:=hblk.cell 2;have xf2:=hblk.frozen 2;simp at x0 x1 x2;have lT:=hblk.lt;have HBK:=hide hblk;clear hblk;go_simp
    have hk:=hK.out undef (((wr.setCell ⟨M,0,none⟩ (.int .i64 sa)).setCell ⟨M,1,none⟩ (.slice A1 n1 c1)).setCell ⟨M,2,none⟩ (.slice AF1 nf1 cf1)) (by
     rw[HFD.out]
     exact⟨H0,H1,H2,hide (⟨_,_,_,(((HBK.out.set_ 0 _).set_ 1 _).set_ 2 _),fun _=>rfl⟩),hide ((by obtain⟨g0,g1,g2,hb2,hs2⟩:=H4.out;exact⟨g0,g1,g2,(((hb2.far (p:=⟨M,0,none⟩) hNM _).far (p:=⟨M,1,none⟩) hNM _).far (p:=⟨M,2,none⟩) hNM _),hs2⟩)),hide ((by obtain⟨g0,g1,hb2,hs2⟩:=H5.out;exact⟨g0,g1,(((hb2.far (p:=⟨M,0,none⟩) hRM _).far (p:=⟨M,1,none⟩) hRM _).far (p:=⟨M,2,none⟩) hRM _),hs2⟩)),hide ((((H6.out.far (p:=⟨M,0,none⟩) hXM _).far (p:=⟨M,1,none⟩) hXM _).far (p:=⟨M,2,none⟩) hXM _)),hide ((((H7.out.far (p:=⟨M,0,none⟩) hYM _).far (p:=⟨M,1,none⟩) hYM _).far (p:=⟨M,2,none⟩) hYM _)),hide ((((H8.out.far (p:=⟨M,0,none⟩) hPM _).far (p:=⟨M,1,none⟩) hPM _).far (p:=⟨M,2,none⟩) hPM _)),hide ((((H9.out.setCell (p:=⟨M,0,none⟩) (by exact hwM) _).setCell (p:=⟨M,1,none⟩) (by exact hwM) _).setCell (p:=⟨M,2,none⟩) (by exact hwM) _))⟩)
    simp only[Act.put,List.setIfInBounds_toArray,List.set_cons_zero,List.set_cons_succ] at hk;simp only[e0] at hk;exact hk
   ·
    intro l v wr hn hdep hcl hF K hK;rw[HFD.out] at hF;obtain⟨H0,H1,H2,H3,H4,H5,H6,H7,H8,H9⟩:=hF;simp[Region.binds] at hdep;have HCL:=hide hcl;have HN:=hide hn;clear hcl hn;have e1:=H1.out (by simp[hdep]);obtain⟨d0,d1,d2,hblk,_⟩:=H4.out;have x0:=hblk.cell 0;have xf0:=hblk.frozen 0;have x1:=hblk.cell 1;have xf1:=hblk.frozen 1;have x2:=hblk.cell 2;have xf2:=hblk.frozen 2;simp at x0 x1 x2;have lT:=hblk.lt;have HBK:=hide hblk;clear hblk;go_simp
    have hk:=hK.out undef (((wr.setCell ⟨N,0,none⟩ (.int .i64 sb)).setCell ⟨N,1,none⟩ (.slice A2 n2 c2)).setCell ⟨N,2,none⟩ (.slice AF2 nf2 cf2)) (by
     rw[HFD.out]
     exact⟨H0,H1,H2,hide ((by obtain⟨g0,g1,g2,hb2,hs2⟩:=H3.out;exact⟨g0,g1,g2,(((hb2.far (p:=⟨N,0,none⟩) hMN _).far (p:=⟨N,1,none⟩) hMN _).far (p:=⟨N,2,none⟩) hMN _),hs2⟩)),hide (⟨_,_,_,(((HBK.out.set_ 0 _).set_ 1 _).set_ 2 _),fun _=>rfl⟩),hide ((by obtain⟨g0,g1,hb2,hs2⟩:=H5.out;exact⟨g0,g1,(((hb2.far (p:=⟨N,0,none⟩) hRN _).far (p:=⟨N,1,none⟩) hRN _).far (p:=⟨N,2,none⟩) hRN _),hs2⟩)),hide ((((H6.out.far (p:=⟨N,0,none⟩) hXN _).far (p:=⟨N,1,none⟩) hXN _).far (p:=⟨N,2,none⟩) hXN _)),hide ((((H7.out.far (p:=⟨N,0,none⟩) hYN _).far (p:=⟨N,1,none⟩) hYN _).far (p:=⟨N,2,none⟩) hYN _)),hide ((((H8.out.far (p:=⟨N,0,none⟩) hPN _).far (p:=⟨N,1,none⟩) hPN _).far (p:=⟨N,2,none⟩) hPN _)),hide ((((H9.out.setCell (p:=⟨N,0,none⟩) (by exact hwN) _).setCell (p:=⟨N,1,none⟩) (by exact hwN) _).setCell (p:=⟨N,2,none⟩) (by exact hwN) _))⟩)
    simp only[Act.put,List.setIfInBounds_toArray,List.set_cons_zero,List.set_cons_succ] at hk;simp only[e1] at hk;exact hk
   ·
    intro l v wr hn hdep hcl hF K hK;rw[HFD.out] at hF;obtain⟨H0,H1,H2,H3,H4,H5,H6,H7,H8,H9⟩:=hF;simp[Region.binds] at hdep;have HCL:=hide hcl;have HN:=hide hn;clear hcl hn;have e2:=H2.out (by simp[hdep]);obtain⟨d0,d1,hblk,_⟩:=H5.out;have x0:=hblk.cell 0;have xf0:=hblk.frozen 0;have x1:=hblk.cell 1;have xf1:=hblk.frozen 1;simp at x0 x1;have lT:=hblk.lt;have HBK:=hide hblk;clear hblk;go_simp
    have hk:=hK.out undef ((wr.setCell ⟨R,0,none⟩ (.int .i64 f1)).setCell ⟨R,1,none⟩ (.int .i64 f2)) (by
     rw[HFD.out]
     exact⟨H0,H1,H2,hide ((by obtain⟨g0,g1,g2,hb2,hs2⟩:=H3.out;exact⟨g0,g1,g2,((hb2.far (p:=⟨R,0,none⟩) hMR _).far (p:=⟨R,1,none⟩) hMR _),hs2⟩)),hide ((by obtain⟨g0,g1,g2,hb2,hs2⟩:=H4.out;exact⟨g0,g1,g2,((hb2.far (p:=⟨R,0,none⟩) hNR _).far (p:=⟨R,1,none⟩) hNR _),hs2⟩)),hide (⟨_,_,((HBK.out.set_ 0 _).set_ 1 _),fun _=>rfl⟩),hide (((H6.out.far (p:=⟨R,0,none⟩) hXR _).far (p:=⟨R,1,none⟩) hXR _)),hide (((H7.out.far (p:=⟨R,0,none⟩) hYR _).far (p:=⟨R,1,none⟩) hYR _)),hide (((H8.out.far (p:=⟨R,0,none⟩) hPR _).far (p:=⟨R,1,none⟩) hPR _)),hide (((H9.out.setCell (p:=⟨R,0,none⟩) (by exact hwR) _).setCell (p:=⟨R,1,none⟩) (by exact hwR) _))⟩)
    simp only[Act.put,List.setIfInBounds_toArray,List.set_cons_zero,List.set_cons_succ] at hk;simp only[e2] at hk;exact hk
 ·
  have hf:fEq f1 f2 0 0=true:=hq.symm;clear hq;have HZP:=hide (show accF a=(0,0) by have h:=hf;rw[HF1.out,HF2.out] at h;exact fEq0A.1 h);go_upto_region 4 with fail
  clear p0 p1 lP hf HF1 HF2 bP hMP hPM hNP hPN hRP hPR;have x0:=bY.out.cell 0;have x1:=bY.out.cell 1;have x2:=bY.out.cell 2;simp at x0 x1 x2;obtain⟨f1,hf1⟩:∃ z,z=(accF b).1:=⟨_,rfl⟩;obtain⟨f2,hf2⟩:∃ z,z=(accF b).2:=⟨_,rfl⟩;have HF1:=hide hf1;have HF2:=hide hf2;clear hf1 hf2;go_upto_region 5 with (go_at_call 32;refine (check_any _ b W2 w.heap.size HW.out.size ((HB0.out.below HW.out hB).mono hB)).mono ?_;rintro e w3 ⟨rfl,hb9⟩;rw[← HF1.out,← HF2.out];have HB9:=hide hb9;clear hb9)
  generalize hW3:World.alloc _ _=W3;obtain⟨P2,hP2⟩:∃ z,z=w3.heap.size:=⟨_,rfl⟩;have bP2:=hide (show Blk W3 P2 28 #[.int .i64 f1,.int .i64 f2] by rw[← hW3];exact (Blk.at_ hP2));have q9:=hide (show Below W2.heap.size W2 W3 by rw[← hW3];exact (HB9.out.alloc (by have:=HB9.out.size;(try simp);omega) _));have hMP2:M≠P2:=by have:=HB9.out.size;have:=bM.out.lt;omega
  have hP2M:P2≠M:=Ne.symm hMP2;have hNP2:N≠P2:=by have:=HB9.out.size;have:=bN.out.lt;omega
  have hP2N:P2≠N:=Ne.symm hNP2;have hRP2:R≠P2:=by have:=HB9.out.size;have:=bR.out.lt;omega
  have hP2R:P2≠R:=Ne.symm hRP2
  try simp only[← hP2]
  clear hW3 hP2 HB9 x0 x1 x2;replace bX:=hide (bX.out.below q9.out bX.out.lt);replace bY:=hide (bY.out.below q9.out bY.out.lt);replace bM:=hide (bM.out.below q9.out bM.out.lt);replace bN:=hide (bN.out.below q9.out bN.out.lt);replace bR:=hide (bR.out.below q9.out bR.out.lt);replace HW:=hide (HW.out.trans (q9.out.mono HW.out.size));clear q9;have p0:=bP2.out.cell 0;have p1:=bP2.out.cell 1;simp at p0 p1;have lP:=bP2.out.lt;obtain⟨q,hq⟩:∃ q,q=fEq f1 f2 0 0:=⟨_,rfl⟩;cases q
  ·
   have hf:fEq f1 f2 0 0=false:=hq.symm;clear hq;have HNA:=hide (show accF b≠(0,0) by intro h;have g:=hf;rw[HF1.out,HF2.out,h] at g;exact absurd g (by decide));have HEQ:=hide (show bothF a b=accF b by unfold bothF;rw[if_neg (fun g=>g HZP.out),if_pos HNA.out]);have HNZ:=hide (show bothF a b≠(0,0) by rw[HEQ.out];exact HNA.out);go_upto_region 6 with fail
   clear p0 p1 lP he he2
   obtain⟨F,hF⟩:∃ F:(Nat→Bool)→(Nat→Value)→World→Prop,F=fun l v wr =>
    Hid ((l 0=true→v 0=(.agg #[.int .i64 sa,.slice A1 n1 c1,.slice AF1 nf1 cf1]))) ∧
    Hid ((l 1=true→v 1=(.agg #[.int .i64 sb,.slice A2 n2 c2,.slice AF2 nf2 cf2]))) ∧
    Hid ((l 2=true→v 2=(.agg #[.int .i64 f1,.int .i64 f2]))) ∧
    Hid ((∃ cq0 cq1 cq2,Blk wr M 25 #[cq0,cq1,cq2]∧(l 3=true→#[cq0,cq1,cq2]=#[.int .i64 sa,.slice A1 n1 c1,.slice AF1 nf1 cf1]))) ∧
    Hid ((∃ cq0 cq1 cq2,Blk wr N 25 #[cq0,cq1,cq2]∧(l 4=true→#[cq0,cq1,cq2]=#[.int .i64 sb,.slice A2 n2 c2,.slice AF2 nf2 cf2]))) ∧
    Hid ((∃ cq0 cq1,Blk wr R 28 #[cq0,cq1]∧(l 5=true→#[cq0,cq1]=#[.int .i64 f1,.int .i64 f2]))) ∧
    Hid (Blk wr X 25 #[.int .i64 sa,.slice A1 n1 c1,.slice AF1 nf1 cf1]) ∧
    Hid (Blk wr Y 25 #[.int .i64 sb,.slice A2 n2 c2,.slice AF2 nf2 cf2]) ∧
    Hid (Blk wr P2 28 #[.int .i64 f1,.int .i64 f2]) ∧
    Hid (Below w.heap.size w wr):=⟨_,rfl⟩
   have HFD:=hide hF;clear hF;refine wp_region_inv F (A:=?AR2) ?hA (by kernel_rfl) (by kernel_rfl) (by kernel_rfl) ?h0 ?hend ?hsteps
   case hA=>intro v;simp only[putR,Act.put,List.setIfInBounds_toArray,List.set_cons_zero,List.set_cons_succ,Nat.reduceAdd,Nat.zero_add];exact rfl
   case h0 =>
    intro v;rw[HFD.out];exact⟨hide (fun h=>by exfalso;simp at h),hide (fun h=>by exfalso;simp at h),hide (fun h=>by exfalso;simp at h),hide (⟨_,_,_,bM.out.drew,fun h=>by exfalso;simp at h⟩),hide (⟨_,_,_,bN.out.drew,fun h=>by exfalso;simp at h⟩),hide (⟨_,_,bR.out.drew,fun h=>by exfalso;simp at h⟩),hide (bX.out.drew),hide (bY.out.drew),hide (bP2.out.drew),hide (HW.out.drew)⟩
   case hend =>
    intro l v wr hall hF;rw[HFD.out] at hF;obtain⟨H0,H1,H2,H3,H4,H5,H6,H7,H8,H9⟩:=hF;have f0:=H0.out;have f1:=H1.out;have f2:=H2.out;have f3:=H3.out;have f4:=H4.out;have f5:=H5.out;have f6:=H6.out;have f7:=H7.out;have f8:=H8.out;have f9:=H9.out;clear H0 H1 H2 H3 H4 H5 H6 H7 H8 H9;obtain⟨z0,z1,z2,hbM,hsM⟩:=f3;have hsM:=hsM (hall 3 (by simp));rw[hsM] at hbM;have qM0:=hbM.cell 0;have qfM0:=hbM.frozen 0;have qM1:=hbM.cell 1;have qfM1:=hbM.frozen 1;have qM2:=hbM.cell 2;have qfM2:=hbM.frozen 2;simp at qM0 qM1 qM2;have lM:=hbM.lt;clear hsM hbM;obtain⟨z0,z1,z2,hbN,hsN⟩:=f4;have hsN:=hsN (hall 4 (by simp));rw[hsN] at hbN;have qN0:=hbN.cell 0;have qfN0:=hbN.frozen 0;have qN1:=hbN.cell 1;have qfN1:=hbN.frozen 1;have qN2:=hbN.cell 2;have qfN2:=hbN.frozen 2;simp at qN0 qN1 qN2;have lN:=hbN.lt;clear hsN hbN;obtain⟨z0,z1,hbR,hsR⟩:=f5;have hsR:=hsR (hall 5 (by simp));rw[hsR] at hbR;have qR0:=hbR.cell 0;have qfR0:=hbR.frozen 0;have qR1:=hbR.cell 1;have qfR1:=hbR.frozen 1;simp at qR0 qR1;have lR:=hbR.lt;clear hsR hbR;have HBF0:=hide f9;clear f0 f1 f2 f6 f7 f8 f9  hall;go_wp21;refine bodyPost_ret (v:=.tuple #[.agg #[.int .i64 sa,.slice A1 n1 c1,.slice AF1 nf1 cf1],.agg #[.int .i64 sb,.slice A2 n2 c2,.slice AF2 nf2 cf2],.agg #[.int .i64 f1,.int .i64 f2]]) (by simp[results,Try.results50,go_sem,hMN,hMR,hNM,hNR,hRM,hRN,lM,qM0,qM1,qM2,qfM0,qfM1,qfM2,lN,qN0,qN1,qN2,qfN0,qfN1,qfN2,lR,qR0,qR1,qfR0,qfR1]) rfl ?_;have HBF:=HBF0.out;exact⟨_,_,a,b,by rw[HEQ.out,HF1.out,HF2.out],(HA0.out.below HBF hB).mono (by have:=HBF.size;omega),(HB0.out.below HBF hB).mono (by have:=HBF.size;omega),(fun h=>absurd h HNZ.out),HBF⟩
   case hsteps =>
    refine StepsR.cons (n:=0) ?_ (StepsR.cons (n:=1) ?_ (StepsR.cons (n:=2) ?_ (StepsR.cons (n:=3) ?_ (StepsR.cons (n:=4) ?_ (StepsR.cons (n:=5) ?_ (trivial))))))
    ·
     intro l v wr hn hdep hcl hF K hK;rw[HFD.out] at hF;obtain⟨H0,H1,H2,H3,H4,H5,H6,H7,H8,H9⟩:=hF;simp[Region.binds] at hdep;have HCL:=hide hcl;have HN:=hide hn;clear hcl hn;have x0:=H6.out.cell 0;have x1:=H6.out.cell 1;have x2:=H6.out.cell 2;simp at x0 x1 x2;have lS:=H6.out.lt;go_simp
     have hk:=hK.out (.agg #[.int .i64 sa,.slice A1 n1 c1,.slice AF1 nf1 cf1]) wr (by
      rw[HFD.out]
      exact⟨hide ((fun _=>rfl)),H1,H2,H3,H4,H5,H6,H7,H8,H9⟩)
     simp only[Act.put,List.setIfInBounds_toArray,List.set_cons_zero,List.set_cons_succ] at hk;exact hk
    ·
     intro l v wr hn hdep hcl hF K hK;rw[HFD.out] at hF;obtain⟨H0,H1,H2,H3,H4,H5,H6,H7,H8,H9⟩:=hF;simp[Region.binds] at hdep;have HCL:=hide hcl;have HN:=hide hn;clear hcl hn;have x0:=H7.out.cell 0;have x1:=H7.out.cell 1;have x2:=H7.out.cell 2;simp at x0 x1 x2;have lS:=H7.out.lt;go_simp
     have hk:=hK.out (.agg #[.int .i64 sb,.slice A2 n2 c2,.slice AF2 nf2 cf2]) wr (by
      rw[HFD.out]
      exact⟨H0,hide ((fun _=>rfl)),H2,H3,H4,H5,H6,H7,H8,H9⟩)
     simp only[Act.put,List.setIfInBounds_toArray,List.set_cons_zero,List.set_cons_succ] at hk;exact hk
    ·
     intro l v wr hn hdep hcl hF K hK;rw[HFD.out] at hF;obtain⟨H0,H1,H2,H3,H4,H5,H6,H7,H8,H9⟩:=hF;simp[Region.binds] at hdep;have HCL:=hide hcl;have HN:=hide hn;clear hcl hn;have x0:=H8.out.cell 0;have x1:=H8.out.cell 1;simp at x0 x1;have lS:=H8.out.lt;go_simp
     have hk:=hK.out (.agg #[.int .i64 f1,.int .i64 f2]) wr (by
      rw[HFD.out]
      exact⟨H0,H1,hide ((fun _=>rfl)),H3,H4,H5,H6,H7,H8,H9⟩)
     simp only[Act.put,List.setIfInBounds_toArray,List.set_cons_zero,List.set_cons_succ] at hk;exact hk
    ·
     intro l v wr hn hdep hcl hF K hK;rw[HFD.out] at hF;obtain⟨H0,H1,H2,H3,H4,H5,H6,H7,H8,H9⟩:=hF;simp[Region.binds] at hdep;have HCL:=hide hcl;have HN:=hide hn;clear hcl hn;have e0:=H0.out (by simp[hdep]);obtain⟨d0,d1,d2,hblk,_⟩:=H3.out;have x0:=hblk.cell 0;have xf0:=hblk.frozen 0;have x1:=hblk.cell 1;have xf1:=hblk.frozen 1;have x2:=hblk.cell 2;have xf2:=hblk.frozen 2;simp at x0 x1 x2;have lT:=hblk.lt;have HBK:=hide hblk;clear hblk;go_simp
     have hk:=hK.out undef (((wr.setCell ⟨M,0,none⟩ (.int .i64 sa)).setCell ⟨M,1,none⟩ (.slice A1 n1 c1)).setCell ⟨M,2,none⟩ (.slice AF1 nf1 cf1)) (by
      rw[HFD.out]
      exact⟨H0,H1,H2,hide (⟨_,_,_,(((HBK.out.set_ 0 _).set_ 1 _).set_ 2 _),fun _=>rfl⟩),hide ((by obtain⟨g0,g1,g2,hb2,hs2⟩:=H4.out;exact⟨g0,g1,g2,(((hb2.far (p:=⟨M,0,none⟩) hNM _).far (p:=⟨M,1,none⟩) hNM _).far (p:=⟨M,2,none⟩) hNM _),hs2⟩)),hide ((by obtain⟨g0,g1,hb2,hs2⟩:=H5.out;exact⟨g0,g1,(((hb2.far (p:=⟨M,0,none⟩) hRM _).far (p:=⟨M,1,none⟩) hRM _).far (p:=⟨M,2,none⟩) hRM _),hs2⟩)),hide ((((H6.out.far (p:=⟨M,0,none⟩) hXM _).far (p:=⟨M,1,none⟩) hXM _).far (p:=⟨M,2,none⟩) hXM _)),hide ((((H7.out.far (p:=⟨M,0,none⟩) hYM _).far (p:=⟨M,1,none⟩) hYM _).far (p:=⟨M,2,none⟩) hYM _)),hide ((((H8.out.far (p:=⟨M,0,none⟩) hP2M _).far (p:=⟨M,1,none⟩) hP2M _).far (p:=⟨M,2,none⟩) hP2M _)),hide ((((H9.out.setCell (p:=⟨M,0,none⟩) (by exact hwM) _).setCell (p:=⟨M,1,none⟩) (by exact hwM) _).setCell (p:=⟨M,2,none⟩) (by exact hwM) _))⟩)
     simp only[Act.put,List.setIfInBounds_toArray,List.set_cons_zero,List.set_cons_succ] at hk;simp only[e0] at hk;exact hk
    ·
     intro l v wr hn hdep hcl hF K hK;rw[HFD.out] at hF;obtain⟨H0,H1,H2,H3,H4,H5,H6,H7,H8,H9⟩:=hF;simp[Region.binds] at hdep;have HCL:=hide hcl;have HN:=hide hn;clear hcl hn;have e1:=H1.out (by simp[hdep]);obtain⟨d0,d1,d2,hblk,_⟩:=H4.out;have x0:=hblk.cell 0;have xf0:=hblk.frozen 0;have x1:=hblk.cell 1;have xf1:=hblk.frozen 1;have x2:=hblk.cell 2;have xf2:=hblk.frozen 2;simp at x0 x1 x2;have lT:=hblk.lt;have HBK:=hide hblk;clear hblk;go_simp
     have hk:=hK.out undef (((wr.setCell ⟨N,0,none⟩ (.int .i64 sb)).setCell ⟨N,1,none⟩ (.slice A2 n2 c2)).setCell ⟨N,2,none⟩ (.slice AF2 nf2 cf2)) (by
      rw[HFD.out]
      exact⟨H0,H1,H2,hide ((by obtain⟨g0,g1,g2,hb2,hs2⟩:=H3.out;exact⟨g0,g1,g2,(((hb2.far (p:=⟨N,0,none⟩) hMN _).far (p:=⟨N,1,none⟩) hMN _).far (p:=⟨N,2,none⟩) hMN _),hs2⟩)),hide (⟨_,_,_,(((HBK.out.set_ 0 _).set_ 1 _).set_ 2 _),fun _=>rfl⟩),hide ((by obtain⟨g0,g1,hb2,hs2⟩:=H5.out;exact⟨g0,g1,(((hb2.far (p:=⟨N,0,none⟩) hRN _).far (p:=⟨N,1,none⟩) hRN _).far (p:=⟨N,2,none⟩) hRN _),hs2⟩)),hide ((((H6.out.far (p:=⟨N,0,none⟩) hXN _).far (p:=⟨N,1,none⟩) hXN _).far (p:=⟨N,2,none⟩) hXN _)),hide ((((H7.out.far (p:=⟨N,0,none⟩) hYN _).far (p:=⟨N,1,none⟩) hYN _).far (p:=⟨N,2,none⟩) hYN _)),hide ((((H8.out.far (p:=⟨N,0,none⟩) hP2N _).far (p:=⟨N,1,none⟩) hP2N _).far (p:=⟨N,2,none⟩) hP2N _)),hide ((((H9.out.setCell (p:=⟨N,0,none⟩) (by exact hwN) _).setCell (p:=⟨N,1,none⟩) (by exact hwN) _).setCell (p:=⟨N,2,none⟩) (by exact hwN) _))⟩)
     simp only[Act.put,List.setIfInBounds_toArray,List.set_cons_zero,List.set_cons_succ] at hk;simp only[e1] at hk;exact hk
    ·
     intro l v wr hn hdep hcl hF K hK;rw[HFD.out] at hF;obtain⟨H0,H1,H2,H3,H4,H5,H6,H7,H8,H9⟩:=hF;simp[Region.binds] at hdep;have HCL:=hide hcl;have HN:=hide hn;clear hcl hn;have e2:=H2.out (by simp[hdep]);obtain⟨d0,d1,hblk,_⟩:=H5.out;have x0:=hblk.cell 0;have xf0:=hblk.frozen 0;have x1:=hblk.cell 1;have xf1:=hblk.frozen 1;simp at x0 x1;have lT:=hblk.lt;have HBK:=hide hblk;clear hblk;go_simp
     have hk:=hK.out undef ((wr.setCell ⟨R,0,none⟩ (.int .i64 f1)).setCell ⟨R,1,none⟩ (.int .i64 f2)) (by
      rw[HFD.out]
      exact⟨H0,H1,H2,hide ((by obtain⟨g0,g1,g2,hb2,hs2⟩:=H3.out;exact⟨g0,g1,g2,((hb2.far (p:=⟨R,0,none⟩) hMR _).far (p:=⟨R,1,none⟩) hMR _),hs2⟩)),hide ((by obtain⟨g0,g1,g2,hb2,hs2⟩:=H4.out;exact⟨g0,g1,g2,((hb2.far (p:=⟨R,0,none⟩) hNR _).far (p:=⟨R,1,none⟩) hNR _),hs2⟩)),hide (⟨_,_,((HBK.out.set_ 0 _).set_ 1 _),fun _=>rfl⟩),hide (((H6.out.far (p:=⟨R,0,none⟩) hXR _).far (p:=⟨R,1,none⟩) hXR _)),hide (((H7.out.far (p:=⟨R,0,none⟩) hYR _).far (p:=⟨R,1,none⟩) hYR _)),hide (((H8.out.far (p:=⟨R,0,none⟩) hP2R _).far (p:=⟨R,1,none⟩) hP2R _)),hide (((H9.out.setCell (p:=⟨R,0,none⟩) (by exact hwR) _).setCell (p:=⟨R,1,none⟩) (by exact hwR) _))⟩)
     simp only[Act.put,List.setIfInBounds_toArray,List.set_cons_zero,List.set_cons_succ] at hk;simp only[e2] at hk;exact hk
  ·
   have hf:fEq f1 f2 0 0=true:=hq.symm;clear hq;have HZP2:=hide (show accF b=(0,0) by have h:=hf;rw[HF1.out,HF2.out] at h;exact fEq0A.1 h);go_upto_region 7 with fail
   clear p0 p1 lP hf HF1 HF2 bP2 hMP2 hP2M hNP2 hP2N hRP2 hP2R;have x0:=bX.out.cell 0;have x1:=bX.out.cell 1;have x2:=bX.out.cell 2;simp at x0 x1 x2;obtain⟨f1,hf1⟩:∃ z,z=(detW a).2.1:=⟨_,rfl⟩;obtain⟨f2,hf2⟩:∃ z,z=(detW a).2.2:=⟨_,rfl⟩;have HF1:=hide hf1;have HF2:=hide hf2;clear hf1 hf2;obtain⟨ta,hta⟩:∃ z,z=(detW a).1:=⟨_,rfl⟩;obtain⟨tn,htn⟩:∃ z,z=ta.n:=⟨_,rfl⟩;have HTA:=hide hta;have HTN:=hide htn;clear hta htn;go_upto_region 8 with (go_at_call 33;refine (deter_any _ a W3 w.heap.size HW.out.size ((HA0.out.below HW.out hB).mono hB)).mono ?_;rintro e w4 ⟨v4,rfl,hm4,hb9⟩;rw[← HF1.out,← HF2.out];rw[← HTA.out] at hm4;obtain⟨A4,AF4,n4,c4,nf4,cf4,rfl,_,_,_,_,_,_,_,_⟩:=hm4.at_;rw[← HTN.out] at hm4 ⊢;have HMN:=hide hm4;have HB9:=hide hb9;clear hm4 hb9)
   generalize hW4:World.alloc _ _=W4;obtain⟨S,hS⟩:∃ z,z=w4.heap.size:=⟨_,rfl⟩;obtain⟨P,hP⟩:∃ z,z=w4.heap.size+1:=⟨_,rfl⟩;have bS:=hide (show Blk W4 S 25 #[.int .i64 tn,.slice A4 n4 c4,.slice AF4 nf4 cf4] by rw[← hW4];exact (Blk.at_ hS).alloc _);have bP:=hide (show Blk W4 P 28 #[.int .i64 f1,.int .i64 f2] by rw[← hW4];exact (Blk.at_ (by simp[hP])));have q9:=hide (show Below W3.heap.size W3 W4 by rw[← hW4];exact ((HB9.out.alloc (by have:=HB9.out.size;(try simp);omega) _).alloc (by have:=HB9.out.size;(try simp);omega) _));have hMS:M≠S:=by have:=HB9.out.size;have:=bM.out.lt;omega
   have hSM:S≠M:=Ne.symm hMS;have hNS:N≠S:=by have:=HB9.out.size;have:=bN.out.lt;omega
   have hSN:S≠N:=Ne.symm hNS;have hRS:R≠S:=by have:=HB9.out.size;have:=bR.out.lt;omega
   have hSR:S≠R:=Ne.symm hRS;have hMP:M≠P:=by have:=HB9.out.size;have:=bM.out.lt;omega
   have hPM:P≠M:=Ne.symm hMP;have hNP:N≠P:=by have:=HB9.out.size;have:=bN.out.lt;omega
   have hPN:P≠N:=Ne.symm hNP;have hRP:R≠P:=by have:=HB9.out.size;have:=bR.out.lt;omega
   have hPR:P≠R:=Ne.symm hRP
   try simp only[← hP]
   try simp only[← hS]
   have HB4:=hide (show Below w4.heap.size w4 W4 by rw[← hW4];exact ((Below.refl _ _).alloc (Nat.le_refl _) _).alloc (by simp) _);have hP4:w4.heap.size≤P:=by omega
   have hSP0:S+1=P:=by omega
   have HW3:=HW.out.size;have hwP:w.heap.size≤P:=by have:=HB9.out.size;omega
   have hM4:M<W4.heap.size:=by have:=HB9.out.size;have:=HB4.out.size;have:=bM.out.lt;omega
   have hN4:N<W4.heap.size:=by have:=HB9.out.size;have:=HB4.out.size;have:=bN.out.lt;omega
   have hR4:R<W4.heap.size:=by have:=HB9.out.size;have:=HB4.out.size;have:=bR.out.lt;omega
   have hM3:M<W3.heap.size:=bM.out.lt;have hN3:N<W3.heap.size:=bN.out.lt;have hR3:R<W3.heap.size:=bR.out.lt;clear hW4 hS hP HB9 x0 x1 x2;replace bX:=hide (bX.out.below q9.out bX.out.lt);replace bY:=hide (bY.out.below q9.out bY.out.lt);replace bM:=hide (bM.out.below q9.out bM.out.lt);replace bN:=hide (bN.out.below q9.out bN.out.lt);replace bR:=hide (bR.out.below q9.out bR.out.lt);replace HW:=hide (HW.out.trans (q9.out.mono HW.out.size));clear q9;have p0:=bP.out.cell 0;have p1:=bP.out.cell 1;simp at p0 p1;have lP:=bP.out.lt;obtain⟨q,hq⟩:∃ q,q=fEq f1 f2 0 0:=⟨_,rfl⟩;cases q
   ·
    have hf:fEq f1 f2 0 0=false:=hq.symm;clear hq;have HNA:=hide (show (detW a).2≠(0,0) by intro h;have g:=hf;rw[HF1.out,HF2.out,h] at g;exact absurd g (by decide));have HEQ:=hide (show bothF a b=(detW a).2 by unfold bothF;rw[if_neg (fun g=>g HZP.out),if_neg (fun g=>g HZP2.out),if_pos HNA.out]);have HNZ:=hide (show bothF a b≠(0,0) by rw[HEQ.out];exact HNA.out);go_upto_region 9 with fail
    clear p0 p1 lP he he2
    obtain⟨F,hF⟩:∃ F:(Nat→Bool)→(Nat→Value)→World→Prop,F=fun l v wr =>
     Hid ((l 0=true→v 0=(.agg #[.int .i64 sa,.slice A1 n1 c1,.slice AF1 nf1 cf1]))) ∧
     Hid ((l 1=true→v 1=(.agg #[.int .i64 sb,.slice A2 n2 c2,.slice AF2 nf2 cf2]))) ∧
     Hid ((l 2=true→v 2=(.agg #[.int .i64 f1,.int .i64 f2]))) ∧
     Hid ((∃ cq0 cq1 cq2,Blk wr M 25 #[cq0,cq1,cq2]∧(l 3=true→#[cq0,cq1,cq2]=#[.int .i64 sa,.slice A1 n1 c1,.slice AF1 nf1 cf1]))) ∧
     Hid ((∃ cq0 cq1 cq2,Blk wr N 25 #[cq0,cq1,cq2]∧(l 4=true→#[cq0,cq1,cq2]=#[.int .i64 sb,.slice A2 n2 c2,.slice AF2 nf2 cf2]))) ∧
     Hid ((∃ cq0 cq1,Blk wr R 28 #[cq0,cq1]∧(l 5=true→#[cq0,cq1]=#[.int .i64 f1,.int .i64 f2]))) ∧
     Hid (Blk wr X 25 #[.int .i64 sa,.slice A1 n1 c1,.slice AF1 nf1 cf1]) ∧
     Hid (Blk wr Y 25 #[.int .i64 sb,.slice A2 n2 c2,.slice AF2 nf2 cf2]) ∧
     Hid (Blk wr P 28 #[.int .i64 f1,.int .i64 f2]) ∧
     Hid (Below w.heap.size w wr):=⟨_,rfl⟩
    have HFD:=hide hF;clear hF;refine wp_region_inv F (A:=?AR3) ?hA (by kernel_rfl) (by kernel_rfl) (by kernel_rfl) ?h0 ?hend ?hsteps
    case hA=>intro v;simp only[putR,Act.put,List.setIfInBounds_toArray,List.set_cons_zero,List.set_cons_succ,Nat.reduceAdd,Nat.zero_add];exact rfl
    case h0 =>
     intro v;rw[HFD.out];exact⟨hide (fun h=>by exfalso;simp at h),hide (fun h=>by exfalso;simp at h),hide (fun h=>by exfalso;simp at h),hide (⟨_,_,_,bM.out.drew,fun h=>by exfalso;simp at h⟩),hide (⟨_,_,_,bN.out.drew,fun h=>by exfalso;simp at h⟩),hide (⟨_,_,bR.out.drew,fun h=>by exfalso;simp at h⟩),hide (bX.out.drew),hide (bY.out.drew),hide (bP.out.drew),hide (HW.out.drew)⟩
    case hend =>
     intro l v wr hall hF;rw[HFD.out] at hF;obtain⟨H0,H1,H2,H3,H4,H5,H6,H7,H8,H9⟩:=hF;have f0:=H0.out;have f1:=H1.out;have f2:=H2.out;have f3:=H3.out;have f4:=H4.out;have f5:=H5.out;have f6:=H6.out;have f7:=H7.out;have f8:=H8.out;have f9:=H9.out;clear H0 H1 H2 H3 H4 H5 H6 H7 H8 H9;obtain⟨z0,z1,z2,hbM,hsM⟩:=f3;have hsM:=hsM (hall 3 (by simp));rw[hsM] at hbM;have qM0:=hbM.cell 0;have qfM0:=hbM.frozen 0;have qM1:=hbM.cell 1;have qfM1:=hbM.frozen 1;have qM2:=hbM.cell 2;have qfM2:=hbM.frozen 2;simp at qM0 qM1 qM2;have lM:=hbM.lt;clear hsM hbM;obtain⟨z0,z1,z2,hbN,hsN⟩:=f4;have hsN:=hsN (hall 4 (by simp));rw[hsN] at hbN;have qN0:=hbN.cell 0;have qfN0:=hbN.frozen 0;have qN1:=hbN.cell 1;have qfN1:=hbN.frozen 1;have qN2:=hbN.cell 2;have qfN2:=hbN.frozen 2;simp at qN0 qN1 qN2;have lN:=hbN.lt;clear hsN hbN;obtain⟨z0,z1,hbR,hsR⟩:=f5;have hsR:=hsR (hall 5 (by simp));rw[hsR] at hbR;have qR0:=hbR.cell 0;have qfR0:=hbR.frozen 0;have qR1:=hbR.cell 1;have qfR1:=hbR.frozen 1;simp at qR0 qR1;have lR:=hbR.lt;clear hsR hbR;have HBF0:=hide f9;clear f0 f1 f2 f6 f7 f8 f9  hall;go_wp21;refine bodyPost_ret (v:=.tuple #[.agg #[.int .i64 sa,.slice A1 n1 c1,.slice AF1 nf1 cf1],.agg #[.int .i64 sb,.slice A2 n2 c2,.slice AF2 nf2 cf2],.agg #[.int .i64 f1,.int .i64 f2]]) (by simp[results,Try.results50,go_sem,hMN,hMR,hNM,hNR,hRM,hRN,lM,qM0,qM1,qM2,qfM0,qfM1,qfM2,lN,qN0,qN1,qN2,qfN0,qfN1,qfN2,lR,qR0,qR1,qfR0,qfR1]) rfl ?_;have HBF:=HBF0.out;exact⟨_,_,a,b,by rw[HEQ.out,HF1.out,HF2.out],(HA0.out.below HBF hB).mono (by have:=HBF.size;omega),(HB0.out.below HBF hB).mono (by have:=HBF.size;omega),(fun h=>absurd h HNZ.out),HBF⟩
    case hsteps =>
     refine StepsR.cons (n:=0) ?_ (StepsR.cons (n:=1) ?_ (StepsR.cons (n:=2) ?_ (StepsR.cons (n:=3) ?_ (StepsR.cons (n:=4) ?_ (StepsR.cons (n:=5) ?_ (trivial))))))
     ·
      intro l v wr hn hdep hcl hF K hK;rw[HFD.out] at hF;obtain⟨H0,H1,H2,H3,H4,H5,H6,H7,H8,H9⟩:=hF;simp[Region.binds] at hdep;have HCL:=hide hcl;have HN:=hide hn;clear hcl hn;have x0:=H6.out.cell 0;have x1:=H6.out.cell 1;have x2:=H6.out.cell 2;simp at x0 x1 x2;have lS:=H6.out.lt;go_simp
      have hk:=hK.out (.agg #[.int .i64 sa,.slice A1 n1 c1,.slice AF1 nf1 cf1]) wr (by
       rw[HFD.out]
       exact⟨hide ((fun _=>rfl)),H1,H2,H3,H4,H5,H6,H7,H8,H9⟩)
      simp only[Act.put,List.setIfInBounds_toArray,List.set_cons_zero,List.set_cons_succ] at hk;exact hk
     ·
      intro l v wr hn hdep hcl hF K hK;rw[HFD.out] at hF;obtain⟨H0,H1,H2,H3,H4,H5,H6,H7,H8,H9⟩:=hF;simp[Region.binds] at hdep;have HCL:=hide hcl;have HN:=hide hn;clear hcl hn;have x0:=H7.out.cell 0;have x1:=H7.out.cell 1;have x2:=H7.out.cell 2;simp at x0 x1 x2;have lS:=H7.out.lt;go_simp
      have hk:=hK.out (.agg #[.int .i64 sb,.slice A2 n2 c2,.slice AF2 nf2 cf2]) wr (by
       rw[HFD.out]
       exact⟨H0,hide ((fun _=>rfl)),H2,H3,H4,H5,H6,H7,H8,H9⟩)
      simp only[Act.put,List.setIfInBounds_toArray,List.set_cons_zero,List.set_cons_succ] at hk;exact hk
     ·
      intro l v wr hn hdep hcl hF K hK;rw[HFD.out] at hF;obtain⟨H0,H1,H2,H3,H4,H5,H6,H7,H8,H9⟩:=hF;simp[Region.binds] at hdep;have HCL:=hide hcl;have HN:=hide hn;clear hcl hn;have x0:=H8.out.cell 0;have x1:=H8.out.cell 1;simp at x0 x1;have lS:=H8.out.lt;go_simp
      have hk:=hK.out (.agg #[.int .i64 f1,.int .i64 f2]) wr (by
       rw[HFD.out]
       exact⟨H0,H1,hide ((fun _=>rfl)),H3,H4,H5,H6,H7,H8,H9⟩)
      simp only[Act.put,List.setIfInBounds_toArray,List.set_cons_zero,List.set_cons_succ] at hk;exact hk
     ·
      intro l v wr hn hdep hcl hF K hK;rw[HFD.out] at hF;obtain⟨H0,H1,H2,H3,H4,H5,H6,H7,H8,H9⟩:=hF;simp[Region.binds] at hdep;have HCL:=hide hcl;have HN:=hide hn;clear hcl hn;have e0:=H0.out (by simp[hdep]);obtain⟨d0,d1,d2,hblk,_⟩:=H3.out;have x0:=hblk.cell 0;have xf0:=hblk.frozen 0;have x1:=hblk.cell 1;have xf1:=hblk.frozen 1;have x2:=hblk.cell 2;have xf2:=hblk.frozen 2;simp at x0 x1 x2;have lT:=hblk.lt;have HBK:=hide hblk;clear hblk;go_simp
      have hk:=hK.out undef (((wr.setCell ⟨M,0,none⟩ (.int .i64 sa)).setCell ⟨M,1,none⟩ (.slice A1 n1 c1)).setCell ⟨M,2,none⟩ (.slice AF1 nf1 cf1)) (by
       rw[HFD.out]
       exact⟨H0,H1,H2,hide (⟨_,_,_,(((HBK.out.set_ 0 _).set_ 1 _).set_ 2 _),fun _=>rfl⟩),hide ((by obtain⟨g0,g1,g2,hb2,hs2⟩:=H4.out;exact⟨g0,g1,g2,(((hb2.far (p:=⟨M,0,none⟩) hNM _).far (p:=⟨M,1,none⟩) hNM _).far (p:=⟨M,2,none⟩) hNM _),hs2⟩)),hide ((by obtain⟨g0,g1,hb2,hs2⟩:=H5.out;exact⟨g0,g1,(((hb2.far (p:=⟨M,0,none⟩) hRM _).far (p:=⟨M,1,none⟩) hRM _).far (p:=⟨M,2,none⟩) hRM _),hs2⟩)),hide ((((H6.out.far (p:=⟨M,0,none⟩) hXM _).far (p:=⟨M,1,none⟩) hXM _).far (p:=⟨M,2,none⟩) hXM _)),hide ((((H7.out.far (p:=⟨M,0,none⟩) hYM _).far (p:=⟨M,1,none⟩) hYM _).far (p:=⟨M,2,none⟩) hYM _)),hide ((((H8.out.far (p:=⟨M,0,none⟩) hPM _).far (p:=⟨M,1,none⟩) hPM _).far (p:=⟨M,2,none⟩) hPM _)),hide ((((H9.out.setCell (p:=⟨M,0,none⟩) (by exact hwM) _).setCell (p:=⟨M,1,none⟩) (by exact hwM) _).setCell (p:=⟨M,2,none⟩) (by exact hwM) _))⟩)
      simp only[Act.put,List.setIfInBounds_toArray,List.set_cons_zero,List.set_cons_succ] at hk;simp only[e0] at hk;exact hk
     ·
      intro l v wr hn hdep hcl hF K hK;rw[HFD.out] at hF;obtain⟨H0,H1,H2,H3,H4,H5,H6,H7,H8,H9⟩:=hF;simp[Region.binds] at hdep;have HCL:=hide hcl;have HN:=hide hn;clear hcl hn;have e1:=H1.out (by simp[hdep]);obtain⟨d0,d1,d2,hblk,_⟩:=H4.out;have x0:=hblk.cell 0;have xf0:=hblk.frozen 0;have x1:=hblk.cell 1;have xf1:=hblk.frozen 1;have x2:=hblk.cell 2;have xf2:=hblk.frozen 2;simp at x0 x1 x2;have lT:=hblk.lt;have HBK:=hide hblk;clear hblk;go_simp
      have hk:=hK.out undef (((wr.setCell ⟨N,0,none⟩ (.int .i64 sb)).setCell ⟨N,1,none⟩ (.slice A2 n2 c2)).setCell ⟨N,2,none⟩ (.slice AF2 nf2 cf2)) (by
       rw[HFD.out]
       exact⟨H0,H1,H2,hide ((by obtain⟨g0,g1,g2,hb2,hs2⟩:=H3.out;exact⟨g0,g1,g2,(((hb2.far (p:=⟨N,0,none⟩) hMN _).far (p:=⟨N,1,none⟩) hMN _).far (p:=⟨N,2,none⟩) hMN _),hs2⟩)),hide (⟨_,_,_,(((HBK.out.set_ 0 _).set_ 1 _).set_ 2 _),fun _=>rfl⟩),hide ((by obtain⟨g0,g1,hb2,hs2⟩:=H5.out;exact⟨g0,g1,(((hb2.far (p:=⟨N,0,none⟩) hRN _).far (p:=⟨N,1,none⟩) hRN _).far (p:=⟨N,2,none⟩) hRN _),hs2⟩)),hide ((((H6.out.far (p:=⟨N,0,none⟩) hXN _).far (p:=⟨N,1,none⟩) hXN _).far (p:=⟨N,2,none⟩) hXN _)),hide ((((H7.out.far (p:=⟨N,0,none⟩) hYN _).far (p:=⟨N,1,none⟩) hYN _).far (p:=⟨N,2,none⟩) hYN _)),hide ((((H8.out.far (p:=⟨N,0,none⟩) hPN _).far (p:=⟨N,1,none⟩) hPN _).far (p:=⟨N,2,none⟩) hPN _)),hide ((((H9.out.setCell (p:=⟨N,0,none⟩) (by exact hwN) _).setCell (p:=⟨N,1,none⟩) (by exact hwN) _).setCell (p:=⟨N,2,none⟩) (by exact hwN) _))⟩)
      simp only[Act.put,List.setIfInBounds_toArray,List.set_cons_zero,List.set_cons_succ] at hk;simp only[e1] at hk;exact hk
     ·
      intro l v wr hn hdep hcl hF K hK;rw[HFD.out] at hF;obtain⟨H0,H1,H2,H3,H4,H5,H6,H7,H8,H9⟩:=hF;simp[Region.binds] at hdep;have HCL:=hide hcl;have HN:=hide hn;clear hcl hn;have e2:=H2.out (by simp[hdep]);obtain⟨d0,d1,hblk,_⟩:=H5.out;have x0:=hblk.cell 0;have xf0:=hblk.frozen 0;have x1:=hblk.cell 1;have xf1:=hblk.frozen 1;simp at x0 x1;have lT:=hblk.lt;have HBK:=hide hblk;clear hblk;go_simp
      have hk:=hK.out undef ((wr.setCell ⟨R,0,none⟩ (.int .i64 f1)).setCell ⟨R,1,none⟩ (.int .i64 f2)) (by
       rw[HFD.out]
       exact⟨H0,H1,H2,hide ((by obtain⟨g0,g1,g2,hb2,hs2⟩:=H3.out;exact⟨g0,g1,g2,((hb2.far (p:=⟨R,0,none⟩) hMR _).far (p:=⟨R,1,none⟩) hMR _),hs2⟩)),hide ((by obtain⟨g0,g1,g2,hb2,hs2⟩:=H4.out;exact⟨g0,g1,g2,((hb2.far (p:=⟨R,0,none⟩) hNR _).far (p:=⟨R,1,none⟩) hNR _),hs2⟩)),hide (⟨_,_,((HBK.out.set_ 0 _).set_ 1 _),fun _=>rfl⟩),hide (((H6.out.far (p:=⟨R,0,none⟩) hXR _).far (p:=⟨R,1,none⟩) hXR _)),hide (((H7.out.far (p:=⟨R,0,none⟩) hYR _).far (p:=⟨R,1,none⟩) hYR _)),hide (((H8.out.far (p:=⟨R,0,none⟩) hPR _).far (p:=⟨R,1,none⟩) hPR _)),hide (((H9.out.setCell (p:=⟨R,0,none⟩) (by exact hwR) _).setCell (p:=⟨R,1,none⟩) (by exact hwR) _))⟩)
      simp only[Act.put,List.setIfInBounds_toArray,List.set_cons_zero,List.set_cons_succ] at hk;simp only[e2] at hk;exact hk
   ·
    have hf:fEq f1 f2 0 0=true:=hq.symm;clear hq;have HZ3:=hide (show (detW a).2=(0,0) by have h:=hf;rw[HF1.out,HF2.out] at h;exact fEq0A.1 h);have z1:f1=0:=by rw[HF1.out,HZ3.out]
    have z2:f2=0:=by rw[HF2.out,HZ3.out]
    clear HF1 HF2 hf;subst z1 z2;have hf0:fEq 0 0 0 0=true:=rfl;go_upto_region 10 with fail
    clear hf0 p0 p1;have x0:=bY.out.cell 0;have x1:=bY.out.cell 1;have x2:=bY.out.cell 2;have p0:=bP.out.cell 0;have p1:=bP.out.cell 1;simp at x0 x1 x2 p0 p1;have pf0:=bP.out.frozen 0;have pf1:=bP.out.frozen 1;obtain⟨g1,hg1⟩:∃ z,z=(detW b).2.1:=⟨_,rfl⟩;obtain⟨g2,hg2⟩:∃ z,z=(detW b).2.2:=⟨_,rfl⟩;have HF1:=hide hg1;have HF2:=hide hg2;clear hg1 hg2;obtain⟨tb,htb⟩:∃ z,z=(detW b).1:=⟨_,rfl⟩;obtain⟨tm,htm⟩:∃ z,z=tb.n:=⟨_,rfl⟩;have HTB:=hide htb;have HTM:=hide htm;clear htb htm;have lP4:P<W4.heap.size:=lP;go_upto_region 11 with (go_at_call 33;refine (deter_any _ b W4 w.heap.size HW.out.size ((HB0.out.below HW.out hB).mono hB)).mono ?_;rintro e w5 ⟨v5,rfl,hm5,hb9⟩;rw[← HF1.out,← HF2.out];rw[← HTB.out] at hm5;obtain⟨A5,AF5,n5,c5,nf5,cf5,rfl,_,_,_,_,_,_,_,_⟩:=hm5.at_;rw[← HTM.out] at hm5 ⊢;have HMM:=hide hm5;have HB9:=hide hb9;have bP5:=hide (bP.out.below hb9 lP4);clear hm5 hb9 p0 p1 pf0 pf1 lP;have p0:=bP5.out.cell 0;have p1:=bP5.out.cell 1;simp at p0 p1;have pf0:=bP5.out.frozen 0;have pf1:=bP5.out.frozen 1;have lP:=bP5.out.lt)
    clear p0 p1 pf0 pf1 lP x0 x1 x2;obtain⟨T,hT⟩:∃ z,z=w5.heap.size:=⟨_,rfl⟩;have hz5:W4.heap.size≤w5.heap.size:=HB9.out.size;have hMT:M≠T:=by have:=bM.out.lt;omega
    have hNT:N≠T:=by have:=bN.out.lt;omega
    have hRT:R≠T:=by have:=bR.out.lt;omega
    have hPT:P≠T:=by omega
    have hTM:=Ne.symm hMT;have hTN:=Ne.symm hNT;have hTR:=Ne.symm hRT;have hTP:=Ne.symm hPT;have hSP:S≠P:=by omega
    have bT:=hide (show Blk (((w5.setCell ⟨P,0,none⟩ (.int .i64 g1)).setCell ⟨P,1,none⟩ (.int .i64 g2)).alloc (.cells #[.int .i64 tm,.slice A5 n5 c5,.slice AF5 nf5 cf5] 25)) T 25 #[.int .i64 tm,.slice A5 n5 c5,.slice AF5 nf5 cf5] from Blk.at_ (by simp[hT]));replace HMM:=hide (((HMM.out.set (p:=⟨P,0,none⟩) lP4 (.int .i64 g1)).set (p:=⟨P,1,none⟩) lP4 (.int .i64 g2)).alloc (.cells #[.int .i64 tm,.slice A5 n5 c5,.slice AF5 nf5 cf5] 25));replace HB4:=hide ((((HB4.out.trans (HB9.out.mono HB4.out.size)).setCell (p:=⟨P,0,none⟩) hP4 (.int .i64 g1)).setCell (p:=⟨P,1,none⟩) hP4 (.int .i64 g2)).alloc (by have:=HB4.out.size;simp;omega) (.cells #[.int .i64 tm,.slice A5 n5 c5,.slice AF5 nf5 cf5] 25));have bPn:=hide ((((bP.out.below HB9.out lP4).set_ 0 (.int .i64 g1)).set_ 1 (.int .i64 g2)).alloc (.cells #[.int .i64 tm,.slice A5 n5 c5,.slice AF5 nf5 cf5] 25));replace bS:=hide ((((bS.out.below HB9.out bS.out.lt).far (p:=⟨P,0,none⟩) hSP (.int .i64 g1)).far (p:=⟨P,1,none⟩) hSP (.int .i64 g2)).alloc (.cells #[.int .i64 tm,.slice A5 n5 c5,.slice AF5 nf5 cf5] 25));replace bM:=hide ((((bM.out.below HB9.out bM.out.lt).far (p:=⟨P,0,none⟩) hMP (.int .i64 g1)).far (p:=⟨P,1,none⟩) hMP (.int .i64 g2)).alloc (.cells #[.int .i64 tm,.slice A5 n5 c5,.slice AF5 nf5 cf5] 25));replace bN:=hide ((((bN.out.below HB9.out bN.out.lt).far (p:=⟨P,0,none⟩) hNP (.int .i64 g1)).far (p:=⟨P,1,none⟩) hNP (.int .i64 g2)).alloc (.cells #[.int .i64 tm,.slice A5 n5 c5,.slice AF5 nf5 cf5] 25));replace bR:=hide ((((bR.out.below HB9.out bR.out.lt).far (p:=⟨P,0,none⟩) hRP (.int .i64 g1)).far (p:=⟨P,1,none⟩) hRP (.int .i64 g2)).alloc (.cells #[.int .i64 tm,.slice A5 n5 c5,.slice AF5 nf5 cf5] 25));replace HW:=hide ((((HW.out.trans (HB9.out.mono HW.out.size)).setCell (p:=⟨P,0,none⟩) hwP (.int .i64 g1)).setCell (p:=⟨P,1,none⟩) hwP (.int .i64 g2)).alloc (by have:=HW.out.size;simp;omega) (.cells #[.int .i64 tm,.slice A5 n5 c5,.slice AF5 nf5 cf5] 25))
    try simp only[← hT]
    generalize hW5:World.alloc _ _=W5;rw[hW5] at bT HMM HB4 bPn bS bM bN bR HW;clear hW5 bP bP5 bX bY HB9 hT hz5;have bP:=bPn;clear bPn;have p0:=bP.out.cell 0;have p1:=bP.out.cell 1;simp at p0 p1;have lP:=bP.out.lt;obtain⟨q,hq⟩:∃ q,q=fEq g1 g2 0 0:=⟨_,rfl⟩;cases q
    ·
     have hf:fEq g1 g2 0 0=false:=hq.symm;clear hq;have HNA:=hide (show (detW b).2≠(0,0) by intro h;have g:=hf;rw[HF1.out,HF2.out,h] at g;exact absurd g (by decide));have HEQ:=hide (show bothF a b=(detW b).2 by unfold bothF;rw[if_neg (fun g=>g HZP.out),if_neg (fun g=>g HZP2.out),if_neg (fun g=>g HZ3.out),if_pos HNA.out]);have HNZ:=hide (show bothF a b≠(0,0) by rw[HEQ.out];exact HNA.out);go_upto_region 13 with fail
     clear p0 p1 lP he he2
     obtain⟨F,hF⟩:∃ F:(Nat→Bool)→(Nat→Value)→World→Prop,F=fun l v wr =>
      Hid ((l 0=true→v 0=(.agg #[.int .i64 tn,.slice A4 n4 c4,.slice AF4 nf4 cf4]))) ∧
      Hid ((l 1=true→v 1=(.agg #[.int .i64 tm,.slice A5 n5 c5,.slice AF5 nf5 cf5]))) ∧
      Hid ((l 2=true→v 2=(.agg #[.int .i64 g1,.int .i64 g2]))) ∧
      Hid ((∃ cq0 cq1 cq2,Blk wr M 25 #[cq0,cq1,cq2]∧(l 3=true→#[cq0,cq1,cq2]=#[.int .i64 tn,.slice A4 n4 c4,.slice AF4 nf4 cf4]))) ∧
      Hid ((∃ cq0 cq1 cq2,Blk wr N 25 #[cq0,cq1,cq2]∧(l 4=true→#[cq0,cq1,cq2]=#[.int .i64 tm,.slice A5 n5 c5,.slice AF5 nf5 cf5]))) ∧
      Hid ((∃ cq0 cq1,Blk wr R 28 #[cq0,cq1]∧(l 5=true→#[cq0,cq1]=#[.int .i64 g1,.int .i64 g2]))) ∧
      Hid (Blk wr S 25 #[.int .i64 tn,.slice A4 n4 c4,.slice AF4 nf4 cf4]) ∧
      Hid (Blk wr T 25 #[.int .i64 tm,.slice A5 n5 c5,.slice AF5 nf5 cf5]) ∧
      Hid (Blk wr P 28 #[.int .i64 g1,.int .i64 g2]) ∧
      Hid (Below w.heap.size w wr) ∧
      Hid (MachNew W3.heap.size wr (.agg #[.int .i64 tn,.slice A4 n4 c4,.slice AF4 nf4 cf4]) ta) ∧
      Hid (MachNew W4.heap.size wr (.agg #[.int .i64 tm,.slice A5 n5 c5,.slice AF5 nf5 cf5]) tb):=⟨_,rfl⟩
     have HFD:=hide hF;clear hF;refine wp_region_inv F (A:=?AR4) ?hA (by kernel_rfl) (by kernel_rfl) (by kernel_rfl) ?h0 ?hend ?hsteps
     case hA=>intro v;simp only[putR,Act.put,List.setIfInBounds_toArray,List.set_cons_zero,List.set_cons_succ,Nat.reduceAdd,Nat.zero_add];exact rfl
     case h0 =>
      intro v;rw[HFD.out];exact⟨hide (fun h=>by exfalso;simp at h),hide (fun h=>by exfalso;simp at h),hide (fun h=>by exfalso;simp at h),hide (⟨_,_,_,bM.out.drew,fun h=>by exfalso;simp at h⟩),hide (⟨_,_,_,bN.out.drew,fun h=>by exfalso;simp at h⟩),hide (⟨_,_,bR.out.drew,fun h=>by exfalso;simp at h⟩),hide (bS.out.drew),hide (bT.out.drew),hide (bP.out.drew),hide (HW.out.drew),hide ((HMN.out.below HB4.out (Nat.le_refl _)).drew),hide (HMM.out.drew)⟩
     case hend =>
      intro l v wr hall hF;rw[HFD.out] at hF;obtain⟨H0,H1,H2,H3,H4,H5,H6,H7,H8,H9,H10,H11⟩:=hF;have f0:=H0.out;have f1:=H1.out;have f2:=H2.out;have f3:=H3.out;have f4:=H4.out;have f5:=H5.out;have f6:=H6.out;have f7:=H7.out;have f8:=H8.out;have f9:=H9.out;have f10:=H10.out;have f11:=H11.out;clear H0 H1 H2 H3 H4 H5 H6 H7 H8 H9 H10 H11;obtain⟨z0,z1,z2,hbM,hsM⟩:=f3;have hsM:=hsM (hall 3 (by simp));rw[hsM] at hbM;have qM0:=hbM.cell 0;have qfM0:=hbM.frozen 0;have qM1:=hbM.cell 1;have qfM1:=hbM.frozen 1;have qM2:=hbM.cell 2;have qfM2:=hbM.frozen 2;simp at qM0 qM1 qM2;have lM:=hbM.lt;clear hsM hbM;obtain⟨z0,z1,z2,hbN,hsN⟩:=f4;have hsN:=hsN (hall 4 (by simp));rw[hsN] at hbN;have qN0:=hbN.cell 0;have qfN0:=hbN.frozen 0;have qN1:=hbN.cell 1;have qfN1:=hbN.frozen 1;have qN2:=hbN.cell 2;have qfN2:=hbN.frozen 2;simp at qN0 qN1 qN2;have lN:=hbN.lt;clear hsN hbN;obtain⟨z0,z1,hbR,hsR⟩:=f5;have hsR:=hsR (hall 5 (by simp));rw[hsR] at hbR;have qR0:=hbR.cell 0;have qfR0:=hbR.frozen 0;have qR1:=hbR.cell 1;have qfR1:=hbR.frozen 1;simp at qR0 qR1;have lR:=hbR.lt;clear hsR hbR;have HBF0:=hide f9;have HX0:=hide f10;have HX1:=hide f11;clear f0 f1 f2 f6 f7 f8 f9 f10 f11 hall;go_wp21;refine bodyPost_ret (v:=.tuple #[.agg #[.int .i64 tn,.slice A4 n4 c4,.slice AF4 nf4 cf4],.agg #[.int .i64 tm,.slice A5 n5 c5,.slice AF5 nf5 cf5],.agg #[.int .i64 g1,.int .i64 g2]]) (by simp[results,Try.results50,go_sem,hMN,hMR,hNM,hNR,hRM,hRN,lM,qM0,qM1,qM2,qfM0,qfM1,qfM2,lN,qN0,qN1,qN2,qfN0,qfN1,qfN2,lR,qR0,qR1,qfR0,qfR1]) rfl ?_;have HBF:=HBF0.out;exact⟨_,_,ta,tb,by rw[HEQ.out,HF1.out,HF2.out],HX0.out.at_,HX1.out.at_,(fun h=>absurd h HNZ.out),HBF⟩
     case hsteps =>
      refine StepsR.cons (n:=0) ?_ (StepsR.cons (n:=1) ?_ (StepsR.cons (n:=2) ?_ (StepsR.cons (n:=3) ?_ (StepsR.cons (n:=4) ?_ (StepsR.cons (n:=5) ?_ (trivial))))))
      ·
       intro l v wr hn hdep hcl hF K hK;rw[HFD.out] at hF;obtain⟨H0,H1,H2,H3,H4,H5,H6,H7,H8,H9,H10,H11⟩:=hF;simp[Region.binds] at hdep;have HCL:=hide hcl;have HN:=hide hn;clear hcl hn;have x0:=H6.out.cell 0;have x1:=H6.out.cell 1;have x2:=H6.out.cell 2;simp at x0 x1 x2;have lS:=H6.out.lt;go_simp
       have hk:=hK.out (.agg #[.int .i64 tn,.slice A4 n4 c4,.slice AF4 nf4 cf4]) wr (by
        rw[HFD.out]
        exact⟨hide ((fun _=>rfl)),H1,H2,H3,H4,H5,H6,H7,H8,H9,H10,H11⟩)
       simp only[Act.put,List.setIfInBounds_toArray,List.set_cons_zero,List.set_cons_succ] at hk;exact hk
      ·
       intro l v wr hn hdep hcl hF K hK;rw[HFD.out] at hF;obtain⟨H0,H1,H2,H3,H4,H5,H6,H7,H8,H9,H10,H11⟩:=hF;simp[Region.binds] at hdep;have HCL:=hide hcl;have HN:=hide hn;clear hcl hn;have x0:=H7.out.cell 0;have x1:=H7.out.cell 1;have x2:=H7.out.cell 2;simp at x0 x1 x2;have lS:=H7.out.lt;go_simp
       have hk:=hK.out (.agg #[.int .i64 tm,.slice A5 n5 c5,.slice AF5 nf5 cf5]) wr (by
        rw[HFD.out]
        exact⟨H0,hide ((fun _=>rfl)),H2,H3,H4,H5,H6,H7,H8,H9,H10,H11⟩)
       simp only[Act.put,List.setIfInBounds_toArray,List.set_cons_zero,List.set_cons_succ] at hk;exact hk
      ·
       intro l v wr hn hdep hcl hF K hK;rw[HFD.out] at hF;obtain⟨H0,H1,H2,H3,H4,H5,H6,H7,H8,H9,H10,H11⟩:=hF;simp[Region.binds] at hdep;have HCL:=hide hcl;have HN:=hide hn;clear hcl hn;have x0:=H8.out.cell 0;have x1:=H8.out.cell 1;simp at x0 x1;have lS:=H8.out.lt;go_simp
       have hk:=hK.out (.agg #[.int .i64 g1,.int .i64 g2]) wr (by
        rw[HFD.out]
        exact⟨H0,H1,hide ((fun _=>rfl)),H3,H4,H5,H6,H7,H8,H9,H10,H11⟩)
       simp only[Act.put,List.setIfInBounds_toArray,List.set_cons_zero,List.set_cons_succ] at hk;exact hk
      ·
       intro l v wr hn hdep hcl hF K hK;rw[HFD.out] at hF;obtain⟨H0,H1,H2,H3,H4,H5,H6,H7,H8,H9,H10,H11⟩:=hF;simp[Region.binds] at hdep;have HCL:=hide hcl;have HN:=hide hn;clear hcl hn;have e0:=H0.out (by simp[hdep]);obtain⟨d0,d1,d2,hblk,_⟩:=H3.out;have x0:=hblk.cell 0;have xf0:=hblk.frozen 0;have x1:=hblk.cell 1;have xf1:=hblk.frozen 1;have x2:=hblk.cell 2;have xf2:=hblk.frozen 2;simp at x0 x1 x2;have lT:=hblk.lt;have HBK:=hide hblk;clear hblk;go_simp
       have hk:=hK.out undef (((wr.setCell ⟨M,0,none⟩ (.int .i64 tn)).setCell ⟨M,1,none⟩ (.slice A4 n4 c4)).setCell ⟨M,2,none⟩ (.slice AF4 nf4 cf4)) (by
        rw[HFD.out]
        exact⟨H0,H1,H2,hide (⟨_,_,_,(((HBK.out.set_ 0 _).set_ 1 _).set_ 2 _),fun _=>rfl⟩),hide ((by obtain⟨g0,g1,g2,hb2,hs2⟩:=H4.out;exact⟨g0,g1,g2,(((hb2.far (p:=⟨M,0,none⟩) hNM _).far (p:=⟨M,1,none⟩) hNM _).far (p:=⟨M,2,none⟩) hNM _),hs2⟩)),hide ((by obtain⟨g0,g1,hb2,hs2⟩:=H5.out;exact⟨g0,g1,(((hb2.far (p:=⟨M,0,none⟩) hRM _).far (p:=⟨M,1,none⟩) hRM _).far (p:=⟨M,2,none⟩) hRM _),hs2⟩)),hide ((((H6.out.far (p:=⟨M,0,none⟩) hSM _).far (p:=⟨M,1,none⟩) hSM _).far (p:=⟨M,2,none⟩) hSM _)),hide ((((H7.out.far (p:=⟨M,0,none⟩) hTM _).far (p:=⟨M,1,none⟩) hTM _).far (p:=⟨M,2,none⟩) hTM _)),hide ((((H8.out.far (p:=⟨M,0,none⟩) hPM _).far (p:=⟨M,1,none⟩) hPM _).far (p:=⟨M,2,none⟩) hPM _)),hide ((((H9.out.setCell (p:=⟨M,0,none⟩) (by exact hwM) _).setCell (p:=⟨M,1,none⟩) (by exact hwM) _).setCell (p:=⟨M,2,none⟩) (by exact hwM) _)),hide ((((H10.out.set (p:=⟨M,0,none⟩) (by exact hM3) _).set (p:=⟨M,1,none⟩) (by exact hM3) _).set (p:=⟨M,2,none⟩) (by exact hM3) _)),hide ((((H11.out.set (p:=⟨M,0,none⟩) (by exact hM4) _).set (p:=⟨M,1,none⟩) (by exact hM4) _).set (p:=⟨M,2,none⟩) (by exact hM4) _))⟩)
       simp only[Act.put,List.setIfInBounds_toArray,List.set_cons_zero,List.set_cons_succ] at hk;simp only[e0] at hk;exact hk
      ·
       intro l v wr hn hdep hcl hF K hK;rw[HFD.out] at hF;obtain⟨H0,H1,H2,H3,H4,H5,H6,H7,H8,H9,H10,H11⟩:=hF;simp[Region.binds] at hdep;have HCL:=hide hcl;have HN:=hide hn;clear hcl hn;have e1:=H1.out (by simp[hdep]);obtain⟨d0,d1,d2,hblk,_⟩:=H4.out;have x0:=hblk.cell 0;have xf0:=hblk.frozen 0;have x1:=hblk.cell 1;have xf1:=hblk.frozen 1;have x2:=hblk.cell 2;have xf2:=hblk.frozen 2;simp at x0 x1 x2;have lT:=hblk.lt;have HBK:=hide hblk;clear hblk;go_simp
       have hk:=hK.out undef (((wr.setCell ⟨N,0,none⟩ (.int .i64 tm)).setCell ⟨N,1,none⟩ (.slice A5 n5 c5)).setCell ⟨N,2,none⟩ (.slice AF5 nf5 cf5)) (by
        rw[HFD.out]
        exact⟨H0,H1,H2,hide ((by obtain⟨g0,g1,g2,hb2,hs2⟩:=H3.out;exact⟨g0,g1,g2,(((hb2.far (p:=⟨N,0,none⟩) hMN _).far (p:=⟨N,1,none⟩) hMN _).far (p:=⟨N,2,none⟩) hMN _),hs2⟩)),hide (⟨_,_,_,(((HBK.out.set_ 0 _).set_ 1 _).set_ 2 _),fun _=>rfl⟩),hide ((by obtain⟨g0,g1,hb2,hs2⟩:=H5.out;exact⟨g0,g1,(((hb2.far (p:=⟨N,0,none⟩) hRN _).far (p:=⟨N,1,none⟩) hRN _).far (p:=⟨N,2,none⟩) hRN _),hs2⟩)),hide ((((H6.out.far (p:=⟨N,0,none⟩) hSN _).far (p:=⟨N,1,none⟩) hSN _).far (p:=⟨N,2,none⟩) hSN _)),hide ((((H7.out.far (p:=⟨N,0,none⟩) hTN _).far (p:=⟨N,1,none⟩) hTN _).far (p:=⟨N,2,none⟩) hTN _)),hide ((((H8.out.far (p:=⟨N,0,none⟩) hPN _).far (p:=⟨N,1,none⟩) hPN _).far (p:=⟨N,2,none⟩) hPN _)),hide ((((H9.out.setCell (p:=⟨N,0,none⟩) (by exact hwN) _).setCell (p:=⟨N,1,none⟩) (by exact hwN) _).setCell (p:=⟨N,2,none⟩) (by exact hwN) _)),hide ((((H10.out.set (p:=⟨N,0,none⟩) (by exact hN3) _).set (p:=⟨N,1,none⟩) (by exact hN3) _).set (p:=⟨N,2,none⟩) (by exact hN3) _)),hide ((((H11.out.set (p:=⟨N,0,none⟩) (by exact hN4) _).set (p:=⟨N,1,none⟩) (by exact hN4) _).set (p:=⟨N,2,none⟩) (by exact hN4) _))⟩)
       simp only[Act.put,List.setIfInBounds_toArray,List.set_cons_zero,List.set_cons_succ] at hk;simp only[e1] at hk;exact hk
      ·
       intro l v wr hn hdep hcl hF K hK;rw[HFD.out] at hF;obtain⟨H0,H1,H2,H3,H4,H5,H6,H7,H8,H9,H10,H11⟩:=hF;simp[Region.binds] at hdep;have HCL:=hide hcl;have HN:=hide hn;clear hcl hn;have e2:=H2.out (by simp[hdep]);obtain⟨d0,d1,hblk,_⟩:=H5.out;have x0:=hblk.cell 0;have xf0:=hblk.frozen 0;have x1:=hblk.cell 1;have xf1:=hblk.frozen 1;simp at x0 x1;have lT:=hblk.lt;have HBK:=hide hblk;clear hblk;go_simp
       have hk:=hK.out undef ((wr.setCell ⟨R,0,none⟩ (.int .i64 g1)).setCell ⟨R,1,none⟩ (.int .i64 g2)) (by
        rw[HFD.out]
        exact⟨H0,H1,H2,hide ((by obtain⟨g0,g1,g2,hb2,hs2⟩:=H3.out;exact⟨g0,g1,g2,((hb2.far (p:=⟨R,0,none⟩) hMR _).far (p:=⟨R,1,none⟩) hMR _),hs2⟩)),hide ((by obtain⟨g0,g1,g2,hb2,hs2⟩:=H4.out;exact⟨g0,g1,g2,((hb2.far (p:=⟨R,0,none⟩) hNR _).far (p:=⟨R,1,none⟩) hNR _),hs2⟩)),hide (⟨_,_,((HBK.out.set_ 0 _).set_ 1 _),fun _=>rfl⟩),hide (((H6.out.far (p:=⟨R,0,none⟩) hSR _).far (p:=⟨R,1,none⟩) hSR _)),hide (((H7.out.far (p:=⟨R,0,none⟩) hTR _).far (p:=⟨R,1,none⟩) hTR _)),hide (((H8.out.far (p:=⟨R,0,none⟩) hPR _).far (p:=⟨R,1,none⟩) hPR _)),hide (((H9.out.setCell (p:=⟨R,0,none⟩) (by exact hwR) _).setCell (p:=⟨R,1,none⟩) (by exact hwR) _)),hide (((H10.out.set (p:=⟨R,0,none⟩) (by exact hR3) _).set (p:=⟨R,1,none⟩) (by exact hR3) _)),hide (((H11.out.set (p:=⟨R,0,none⟩) (by exact hR4) _).set (p:=⟨R,1,none⟩) (by exact hR4) _))⟩)
       simp only[Act.put,List.setIfInBounds_toArray,List.set_cons_zero,List.set_cons_succ] at hk;simp only[e2] at hk;exact hk
    ·
     have hf:fEq g1 g2 0 0=true:=hq.symm;clear hq;have HZ4:=hide (show (detW b).2=(0,0) by have h:=hf;rw[HF1.out,HF2.out] at h;exact fEq0A.1 h);have z1:g1=0:=by rw[HF1.out,HZ4.out]
     have z2:g2=0:=by rw[HF2.out,HZ4.out]
     have hf0:fEq 0 0 0 0=true:=rfl;clear HF1 HF2 hf;subst z1 z2;have x0:=bS.out.cell 0;have x1:=bS.out.cell 1;have x2:=bS.out.cell 2;simp at x0 x1 x2;have lS:=bS.out.lt;have HLN:=hide (show ta.arcs.length≤2000 by obtain⟨S',hS'⟩:=dmOk_det HZ3.out;rw[HTA.out];exact hS'.len);obtain⟨nl,hnl⟩:∃ z,z=(setI (ta.arcs.map (·.i))).length:=⟨_,rfl⟩;have HNL:=hide hnl;by_cases h3:300<nl
     ·
      have t3:decide ((nl:Int)>300)=true:=decide_eq_true (by omega);have t3':decide ((300:Int)<(nl:Int))=true:=decide_eq_true (by omega);have HEQ:=hide (show bothF a b=(17,-1) by unfold bothF;rw[if_neg (fun g=>g HZP.out),if_neg (fun g=>g HZP2.out),if_neg (fun g=>g HZ3.out),if_neg (fun g=>g HZ4.out),if_pos (show 300<(labD (detW a).1).length by rw[← HTA.out];unfold labD;omega)]);have HNZ:=hide (show bothF a b≠(0,0) by rw[HEQ.out];decide);clear h3 hnl;go_upto_region 12 with (go_at_call 52;refine (labelsOf_any _ ta W5 (HMN.out.below HB4.out (Nat.le_refl _)).at_ HLN.out).mono ?_;rintro e w6 ⟨A6,c6,rfl,_,hb6⟩;rw[← HNL.out];have HB6:=hide hb6;clear hb6)
      clear p0 p1 x0 x1 x2 lP lS t3 t3';replace bS:=hide (bS.out.below HB6.out bS.out.lt);replace bT:=hide (bT.out.below HB6.out bT.out.lt);replace bP:=hide (bP.out.below HB6.out bP.out.lt);replace bM:=hide (bM.out.below HB6.out bM.out.lt);replace bN:=hide (bN.out.below HB6.out bN.out.lt);replace bR:=hide (bR.out.below HB6.out bR.out.lt);replace HB4:=hide (HB4.out.trans (HB6.out.mono HB4.out.size));replace HMM:=hide (HMM.out.below HB6.out (Nat.le_refl _));replace HW:=hide (HW.out.trans (HB6.out.mono HW.out.size));clear HB6;go_upto_region 13 with (go_at_call 59;refine (bfaultB_any _ _ _).mono ?_;rintro e w7 ⟨rfl,hb7⟩;have HB7:=hide hb7;have bP7:=hide (bP.out.below hb7 bP.out.lt);clear hb7;have p0:=bP7.out.cell 0;have p1:=bP7.out.cell 1;simp at p0 p1;have pf0:=bP7.out.frozen 0;have pf1:=bP7.out.frozen 1;have lP:=bP7.out.lt)
      clear p0 p1 pf0 pf1 lP he he2;have bPn:=hide ((bP7.out.set_ 0 (.int .i64 17)).set_ 1 (.int .i64 (-1)));replace bS:=hide (((bS.out.below HB7.out bS.out.lt).far (p:=⟨P,0,none⟩) hSP (.int .i64 17)).far (p:=⟨P,1,none⟩) hSP (.int .i64 (-1)));replace bT:=hide (((bT.out.below HB7.out bT.out.lt).far (p:=⟨P,0,none⟩) hTP (.int .i64 17)).far (p:=⟨P,1,none⟩) hTP (.int .i64 (-1)));replace bM:=hide (((bM.out.below HB7.out bM.out.lt).far (p:=⟨P,0,none⟩) hMP (.int .i64 17)).far (p:=⟨P,1,none⟩) hMP (.int .i64 (-1)));replace bN:=hide (((bN.out.below HB7.out bN.out.lt).far (p:=⟨P,0,none⟩) hNP (.int .i64 17)).far (p:=⟨P,1,none⟩) hNP (.int .i64 (-1)));replace bR:=hide (((bR.out.below HB7.out bR.out.lt).far (p:=⟨P,0,none⟩) hRP (.int .i64 17)).far (p:=⟨P,1,none⟩) hRP (.int .i64 (-1)));replace HMM:=hide (((HMM.out.below HB7.out (Nat.le_refl _)).set (p:=⟨P,0,none⟩) lP4 (.int .i64 17)).set (p:=⟨P,1,none⟩) lP4 (.int .i64 (-1)));replace HB4:=hide (((HB4.out.trans (HB7.out.mono HB4.out.size)).setCell (p:=⟨P,0,none⟩) hP4 (.int .i64 17)).setCell (p:=⟨P,1,none⟩) hP4 (.int .i64 (-1)));replace HW:=hide (((HW.out.trans (HB7.out.mono HW.out.size)).setCell (p:=⟨P,0,none⟩) hwP (.int .i64 17)).setCell (p:=⟨P,1,none⟩) hwP (.int .i64 (-1)));generalize hW7:World.setCell _ _ _=W7;rw[hW7] at bS bT bM bN bR HMM HB4 HW bPn;clear hW7 bP bP7 HB7;have bP:=bPn;clear bPn
      obtain⟨F,hF⟩:∃ F:(Nat→Bool)→(Nat→Value)→World→Prop,F=fun l v wr =>
       Hid ((l 0=true→v 0=(.agg #[.int .i64 tn,.slice A4 n4 c4,.slice AF4 nf4 cf4]))) ∧
       Hid ((l 1=true→v 1=(.agg #[.int .i64 tm,.slice A5 n5 c5,.slice AF5 nf5 cf5]))) ∧
       Hid ((l 2=true→v 2=(.agg #[.int .i64 17,.int .i64 (-1)]))) ∧
       Hid ((∃ cq0 cq1 cq2,Blk wr M 25 #[cq0,cq1,cq2]∧(l 3=true→#[cq0,cq1,cq2]=#[.int .i64 tn,.slice A4 n4 c4,.slice AF4 nf4 cf4]))) ∧
       Hid ((∃ cq0 cq1 cq2,Blk wr N 25 #[cq0,cq1,cq2]∧(l 4=true→#[cq0,cq1,cq2]=#[.int .i64 tm,.slice A5 n5 c5,.slice AF5 nf5 cf5]))) ∧
       Hid ((∃ cq0 cq1,Blk wr R 28 #[cq0,cq1]∧(l 5=true→#[cq0,cq1]=#[.int .i64 17,.int .i64 (-1)]))) ∧
       Hid (Blk wr S 25 #[.int .i64 tn,.slice A4 n4 c4,.slice AF4 nf4 cf4]) ∧
       Hid (Blk wr T 25 #[.int .i64 tm,.slice A5 n5 c5,.slice AF5 nf5 cf5]) ∧
       Hid (Blk wr P 28 #[.int .i64 17,.int .i64 (-1)]) ∧
       Hid (Below w.heap.size w wr) ∧
       Hid (MachNew W3.heap.size wr (.agg #[.int .i64 tn,.slice A4 n4 c4,.slice AF4 nf4 cf4]) ta) ∧
       Hid (MachNew W4.heap.size wr (.agg #[.int .i64 tm,.slice A5 n5 c5,.slice AF5 nf5 cf5]) tb):=⟨_,rfl⟩
      have HFD:=hide hF;clear hF;refine wp_region_inv F (A:=?AR5) ?hA (by kernel_rfl) (by kernel_rfl) (by kernel_rfl) ?h0 ?hend ?hsteps
      case hA=>intro v;simp only[putR,Act.put,List.setIfInBounds_toArray,List.set_cons_zero,List.set_cons_succ,Nat.reduceAdd,Nat.zero_add];exact rfl
      case h0 =>
       intro v;rw[HFD.out];exact⟨hide (fun h=>by exfalso;simp at h),hide (fun h=>by exfalso;simp at h),hide (fun h=>by exfalso;simp at h),hide (⟨_,_,_,bM.out.drew,fun h=>by exfalso;simp at h⟩),hide (⟨_,_,_,bN.out.drew,fun h=>by exfalso;simp at h⟩),hide (⟨_,_,bR.out.drew,fun h=>by exfalso;simp at h⟩),hide (bS.out.drew),hide (bT.out.drew),hide (bP.out.drew),hide (HW.out.drew),hide ((HMN.out.below HB4.out (Nat.le_refl _)).drew),hide (HMM.out.drew)⟩
      case hend =>
       intro l v wr hall hF;rw[HFD.out] at hF;obtain⟨H0,H1,H2,H3,H4,H5,H6,H7,H8,H9,H10,H11⟩:=hF;have f0:=H0.out;have f1:=H1.out;have f2:=H2.out;have f3:=H3.out;have f4:=H4.out;have f5:=H5.out;have f6:=H6.out;have f7:=H7.out;have f8:=H8.out;have f9:=H9.out;have f10:=H10.out;have f11:=H11.out;clear H0 H1 H2 H3 H4 H5 H6 H7 H8 H9 H10 H11;obtain⟨z0,z1,z2,hbM,hsM⟩:=f3;have hsM:=hsM (hall 3 (by simp));rw[hsM] at hbM;have qM0:=hbM.cell 0;have qfM0:=hbM.frozen 0;have qM1:=hbM.cell 1;have qfM1:=hbM.frozen 1;have qM2:=hbM.cell 2;have qfM2:=hbM.frozen 2;simp at qM0 qM1 qM2;have lM:=hbM.lt;clear hsM hbM;obtain⟨z0,z1,z2,hbN,hsN⟩:=f4;have hsN:=hsN (hall 4 (by simp));rw[hsN] at hbN;have qN0:=hbN.cell 0;have qfN0:=hbN.frozen 0;have qN1:=hbN.cell 1;have qfN1:=hbN.frozen 1;have qN2:=hbN.cell 2;have qfN2:=hbN.frozen 2;simp at qN0 qN1 qN2;have lN:=hbN.lt;clear hsN hbN;obtain⟨z0,z1,hbR,hsR⟩:=f5;have hsR:=hsR (hall 5 (by simp));rw[hsR] at hbR;have qR0:=hbR.cell 0;have qfR0:=hbR.frozen 0;have qR1:=hbR.cell 1;have qfR1:=hbR.frozen 1;simp at qR0 qR1;have lR:=hbR.lt;clear hsR hbR;have HBF0:=hide f9;have HX0:=hide f10;have HX1:=hide f11;clear f0 f1 f2 f6 f7 f8 f9 f10 f11 hall;go_wp21;refine bodyPost_ret (v:=.tuple #[.agg #[.int .i64 tn,.slice A4 n4 c4,.slice AF4 nf4 cf4],.agg #[.int .i64 tm,.slice A5 n5 c5,.slice AF5 nf5 cf5],.agg #[.int .i64 17,.int .i64 (-1)]]) (by simp[results,Try.results50,go_sem,hMN,hMR,hNM,hNR,hRM,hRN,lM,qM0,qM1,qM2,qfM0,qfM1,qfM2,lN,qN0,qN1,qN2,qfN0,qfN1,qfN2,lR,qR0,qR1,qfR0,qfR1]) rfl ?_;have HBF:=HBF0.out;exact⟨_,_,ta,tb,by rw[HEQ.out],HX0.out.at_,HX1.out.at_,(fun h=>absurd h HNZ.out),HBF⟩
      case hsteps =>
       refine StepsR.cons (n:=0) ?_ (StepsR.cons (n:=1) ?_ (StepsR.cons (n:=2) ?_ (StepsR.cons (n:=3) ?_ (StepsR.cons (n:=4) ?_ (StepsR.cons (n:=5) ?_ (trivial))))))
       ·
        intro l v wr hn hdep hcl hF K hK;rw[HFD.out] at hF;obtain⟨H0,H1,H2,H3,H4,H5,H6,H7,H8,H9,H10,H11⟩:=hF;simp[Region.binds] at hdep;have HCL:=hide hcl;have HN:=hide hn;clear hcl hn;have x0:=H6.out.cell 0;have x1:=H6.out.cell 1;have x2:=H6.out.cell 2;simp at x0 x1 x2;have lS:=H6.out.lt;go_simp
        have hk:=hK.out (.agg #[.int .i64 tn,.slice A4 n4 c4,.slice AF4 nf4 cf4]) wr (by
         rw[HFD.out]
         exact⟨hide ((fun _=>rfl)),H1,H2,H3,H4,H5,H6,H7,H8,H9,H10,H11⟩)
        simp only[Act.put,List.setIfInBounds_toArray,List.set_cons_zero,List.set_cons_succ] at hk;exact hk
       ·
        intro l v wr hn hdep hcl hF K hK;rw[HFD.out] at hF;obtain⟨H0,H1,H2,H3,H4,H5,H6,H7,H8,H9,H10,H11⟩:=hF;simp[Region.binds] at hdep;have HCL:=hide hcl;have HN:=hide hn;clear hcl hn;have x0:=H7.out.cell 0;have x1:=H7.out.cell 1;have x2:=H7.out.cell 2;simp at x0 x1 x2;have lS:=H7.out.lt;go_simp
        have hk:=hK.out (.agg #[.int .i64 tm,.slice A5 n5 c5,.slice AF5 nf5 cf5]) wr (by
         rw[HFD.out]
         exact⟨H0,hide ((fun _=>rfl)),H2,H3,H4,H5,H6,H7,H8,H9,H10,H11⟩)
        simp only[Act.put,List.setIfInBounds_toArray,List.set_cons_zero,List.set_cons_succ] at hk;exact hk
       ·
        intro l v wr hn hdep hcl hF K hK;rw[HFD.out] at hF;obtain⟨H0,H1,H2,H3,H4,H5,H6,H7,H8,H9,H10,H11⟩:=hF;simp[Region.binds] at hdep;have HCL:=hide hcl;have HN:=hide hn;clear hcl hn;have x0:=H8.out.cell 0;have x1:=H8.out.cell 1;simp at x0 x1;have lS:=H8.out.lt;go_simp
        have hk:=hK.out (.agg #[.int .i64 17,.int .i64 (-1)]) wr (by
         rw[HFD.out]
         exact⟨H0,H1,hide ((fun _=>rfl)),H3,H4,H5,H6,H7,H8,H9,H10,H11⟩)
        simp only[Act.put,List.setIfInBounds_toArray,List.set_cons_zero,List.set_cons_succ] at hk;exact hk
       ·
        intro l v wr hn hdep hcl hF K hK;rw[HFD.out] at hF;obtain⟨H0,H1,H2,H3,H4,H5,H6,H7,H8,H9,H10,H11⟩:=hF;simp[Region.binds] at hdep;have HCL:=hide hcl;have HN:=hide hn;clear hcl hn;have e0:=H0.out (by simp[hdep]);obtain⟨d0,d1,d2,hblk,_⟩:=H3.out;have x0:=hblk.cell 0;have xf0:=hblk.frozen 0;have x1:=hblk.cell 1;have xf1:=hblk.frozen 1;have x2:=hblk.cell 2;have xf2:=hblk.frozen 2;simp at x0 x1 x2;have lT:=hblk.lt;have HBK:=hide hblk;clear hblk;go_simp
        have hk:=hK.out undef (((wr.setCell ⟨M,0,none⟩ (.int .i64 tn)).setCell ⟨M,1,none⟩ (.slice A4 n4 c4)).setCell ⟨M,2,none⟩ (.slice AF4 nf4 cf4)) (by
         rw[HFD.out]
         exact⟨H0,H1,H2,hide (⟨_,_,_,(((HBK.out.set_ 0 _).set_ 1 _).set_ 2 _),fun _=>rfl⟩),hide ((by obtain⟨g0,g1,g2,hb2,hs2⟩:=H4.out;exact⟨g0,g1,g2,(((hb2.far (p:=⟨M,0,none⟩) hNM _).far (p:=⟨M,1,none⟩) hNM _).far (p:=⟨M,2,none⟩) hNM _),hs2⟩)),hide ((by obtain⟨g0,g1,hb2,hs2⟩:=H5.out;exact⟨g0,g1,(((hb2.far (p:=⟨M,0,none⟩) hRM _).far (p:=⟨M,1,none⟩) hRM _).far (p:=⟨M,2,none⟩) hRM _),hs2⟩)),hide ((((H6.out.far (p:=⟨M,0,none⟩) hSM _).far (p:=⟨M,1,none⟩) hSM _).far (p:=⟨M,2,none⟩) hSM _)),hide ((((H7.out.far (p:=⟨M,0,none⟩) hTM _).far (p:=⟨M,1,none⟩) hTM _).far (p:=⟨M,2,none⟩) hTM _)),hide ((((H8.out.far (p:=⟨M,0,none⟩) hPM _).far (p:=⟨M,1,none⟩) hPM _).far (p:=⟨M,2,none⟩) hPM _)),hide ((((H9.out.setCell (p:=⟨M,0,none⟩) (by exact hwM) _).setCell (p:=⟨M,1,none⟩) (by exact hwM) _).setCell (p:=⟨M,2,none⟩) (by exact hwM) _)),hide ((((H10.out.set (p:=⟨M,0,none⟩) (by exact hM3) _).set (p:=⟨M,1,none⟩) (by exact hM3) _).set (p:=⟨M,2,none⟩) (by exact hM3) _)),hide ((((H11.out.set (p:=⟨M,0,none⟩) (by exact hM4) _).set (p:=⟨M,1,none⟩) (by exact hM4) _).set (p:=⟨M,2,none⟩) (by exact hM4) _))⟩)
        simp only[Act.put,List.setIfInBounds_toArray,List.set_cons_zero,List.set_cons_succ] at hk;simp only[e0] at hk;exact hk
       ·
        intro l v wr hn hdep hcl hF K hK;rw[HFD.out] at hF;obtain⟨H0,H1,H2,H3,H4,H5,H6,H7,H8,H9,H10,H11⟩:=hF;simp[Region.binds] at hdep;have HCL:=hide hcl;have HN:=hide hn;clear hcl hn;have e1:=H1.out (by simp[hdep]);obtain⟨d0,d1,d2,hblk,_⟩:=H4.out;have x0:=hblk.cell 0;have xf0:=hblk.frozen 0;have x1:=hblk.cell 1;have xf1:=hblk.frozen 1;have x2:=hblk.cell 2;have xf2:=hblk.frozen 2;simp at x0 x1 x2;have lT:=hblk.lt;have HBK:=hide hblk;clear hblk;go_simp
        have hk:=hK.out undef (((wr.setCell ⟨N,0,none⟩ (.int .i64 tm)).setCell ⟨N,1,none⟩ (.slice A5 n5 c5)).setCell ⟨N,2,none⟩ (.slice AF5 nf5 cf5)) (by
         rw[HFD.out]
         exact⟨H0,H1,H2,hide ((by obtain⟨g0,g1,g2,hb2,hs2⟩:=H3.out;exact⟨g0,g1,g2,(((hb2.far (p:=⟨N,0,none⟩) hMN _).far (p:=⟨N,1,none⟩) hMN _).far (p:=⟨N,2,none⟩) hMN _),hs2⟩)),hide (⟨_,_,_,(((HBK.out.set_ 0 _).set_ 1 _).set_ 2 _),fun _=>rfl⟩),hide ((by obtain⟨g0,g1,hb2,hs2⟩:=H5.out;exact⟨g0,g1,(((hb2.far (p:=⟨N,0,none⟩) hRN _).far (p:=⟨N,1,none⟩) hRN _).far (p:=⟨N,2,none⟩) hRN _),hs2⟩)),hide ((((H6.out.far (p:=⟨N,0,none⟩) hSN _).far (p:=⟨N,1,none⟩) hSN _).far (p:=⟨N,2,none⟩) hSN _)),hide ((((H7.out.far (p:=⟨N,0,none⟩) hTN _).far (p:=⟨N,1,none⟩) hTN _).far (p:=⟨N,2,none⟩) hTN _)),hide ((((H8.out.far (p:=⟨N,0,none⟩) hPN _).far (p:=⟨N,1,none⟩) hPN _).far (p:=⟨N,2,none⟩) hPN _)),hide ((((H9.out.setCell (p:=⟨N,0,none⟩) (by exact hwN) _).setCell (p:=⟨N,1,none⟩) (by exact hwN) _).setCell (p:=⟨N,2,none⟩) (by exact hwN) _)),hide ((((H10.out.set (p:=⟨N,0,none⟩) (by exact hN3) _).set (p:=⟨N,1,none⟩) (by exact hN3) _).set (p:=⟨N,2,none⟩) (by exact hN3) _)),hide ((((H11.out.set (p:=⟨N,0,none⟩) (by exact hN4) _).set (p:=⟨N,1,none⟩) (by exact hN4) _).set (p:=⟨N,2,none⟩) (by exact hN4) _))⟩)
        simp only[Act.put,List.setIfInBounds_toArray,List.set_cons_zero,List.set_cons_succ] at hk;simp only[e1] at hk;exact hk
       ·
        intro l v wr hn hdep hcl hF K hK;rw[HFD.out] at hF;obtain⟨H0,H1,H2,H3,H4,H5,H6,H7,H8,H9,H10,H11⟩:=hF;simp[Region.binds] at hdep;have HCL:=hide hcl;have HN:=hide hn;clear hcl hn;have e2:=H2.out (by simp[hdep]);obtain⟨d0,d1,hblk,_⟩:=H5.out;have x0:=hblk.cell 0;have xf0:=hblk.frozen 0;have x1:=hblk.cell 1;have xf1:=hblk.frozen 1;simp at x0 x1;have lT:=hblk.lt;have HBK:=hide hblk;clear hblk;go_simp
        have hk:=hK.out undef ((wr.setCell ⟨R,0,none⟩ (.int .i64 17)).setCell ⟨R,1,none⟩ (.int .i64 (-1))) (by
         rw[HFD.out]
         exact⟨H0,H1,H2,hide ((by obtain⟨g0,g1,g2,hb2,hs2⟩:=H3.out;exact⟨g0,g1,g2,((hb2.far (p:=⟨R,0,none⟩) hMR _).far (p:=⟨R,1,none⟩) hMR _),hs2⟩)),hide ((by obtain⟨g0,g1,g2,hb2,hs2⟩:=H4.out;exact⟨g0,g1,g2,((hb2.far (p:=⟨R,0,none⟩) hNR _).far (p:=⟨R,1,none⟩) hNR _),hs2⟩)),hide (⟨_,_,((HBK.out.set_ 0 _).set_ 1 _),fun _=>rfl⟩),hide (((H6.out.far (p:=⟨R,0,none⟩) hSR _).far (p:=⟨R,1,none⟩) hSR _)),hide (((H7.out.far (p:=⟨R,0,none⟩) hTR _).far (p:=⟨R,1,none⟩) hTR _)),hide (((H8.out.far (p:=⟨R,0,none⟩) hPR _).far (p:=⟨R,1,none⟩) hPR _)),hide (((H9.out.setCell (p:=⟨R,0,none⟩) (by exact hwR) _).setCell (p:=⟨R,1,none⟩) (by exact hwR) _)),hide (((H10.out.set (p:=⟨R,0,none⟩) (by exact hR3) _).set (p:=⟨R,1,none⟩) (by exact hR3) _)),hide (((H11.out.set (p:=⟨R,0,none⟩) (by exact hR4) _).set (p:=⟨R,1,none⟩) (by exact hR4) _))⟩)
        simp only[Act.put,List.setIfInBounds_toArray,List.set_cons_zero,List.set_cons_succ] at hk;simp only[e2] at hk;exact hk
     ·
      have t3:decide ((nl:Int)>300)=false:=decide_eq_false (by omega);have t3':decide ((300:Int)<(nl:Int))=false:=decide_eq_false (by omega);have HEQ:=hide (show bothF a b=(0,0) by unfold bothF;rw[if_neg (fun g=>g HZP.out),if_neg (fun g=>g HZP2.out),if_neg (fun g=>g HZ3.out),if_neg (fun g=>g HZ4.out),if_neg (show ¬ 300<(labD (detW a).1).length by rw[← HTA.out];unfold labD;omega)]);clear h3 hnl;go_upto_region 13 with (go_at_call 52;refine (labelsOf_any _ ta W5 (HMN.out.below HB4.out (Nat.le_refl _)).at_ HLN.out).mono ?_;rintro e w6 ⟨A6,c6,rfl,_,hb6⟩;rw[← HNL.out];have HB6:=hide hb6;clear hb6)
      clear p0 p1 x0 x1 x2 lP lS t3 t3' he he2;replace bS:=hide (bS.out.below HB6.out bS.out.lt);replace bT:=hide (bT.out.below HB6.out bT.out.lt);replace bP:=hide (bP.out.below HB6.out bP.out.lt);replace bM:=hide (bM.out.below HB6.out bM.out.lt);replace bN:=hide (bN.out.below HB6.out bN.out.lt);replace bR:=hide (bR.out.below HB6.out bR.out.lt);replace HB4:=hide (HB4.out.trans (HB6.out.mono HB4.out.size));replace HMM:=hide (HMM.out.below HB6.out (Nat.le_refl _));replace HW:=hide (HW.out.trans (HB6.out.mono HW.out.size));clear HB6
      obtain⟨F,hF⟩:∃ F:(Nat→Bool)→(Nat→Value)→World→Prop,F=fun l v wr =>
       Hid ((l 0=true→v 0=(.agg #[.int .i64 tn,.slice A4 n4 c4,.slice AF4 nf4 cf4]))) ∧
       Hid ((l 1=true→v 1=(.agg #[.int .i64 tm,.slice A5 n5 c5,.slice AF5 nf5 cf5]))) ∧
       Hid ((l 2=true→v 2=(.agg #[.int .i64 0,.int .i64 0]))) ∧
       Hid ((∃ cq0 cq1 cq2,Blk wr M 25 #[cq0,cq1,cq2]∧(l 3=true→#[cq0,cq1,cq2]=#[.int .i64 tn,.slice A4 n4 c4,.slice AF4 nf4 cf4]))) ∧
       Hid ((∃ cq0 cq1 cq2,Blk wr N 25 #[cq0,cq1,cq2]∧(l 4=true→#[cq0,cq1,cq2]=#[.int .i64 tm,.slice A5 n5 c5,.slice AF5 nf5 cf5]))) ∧
       Hid ((∃ cq0 cq1,Blk wr R 28 #[cq0,cq1]∧(l 5=true→#[cq0,cq1]=#[.int .i64 0,.int .i64 0]))) ∧
       Hid (Blk wr S 25 #[.int .i64 tn,.slice A4 n4 c4,.slice AF4 nf4 cf4]) ∧
       Hid (Blk wr T 25 #[.int .i64 tm,.slice A5 n5 c5,.slice AF5 nf5 cf5]) ∧
       Hid (Blk wr P 28 #[.int .i64 0,.int .i64 0]) ∧
       Hid (Below w.heap.size w wr) ∧
       Hid (MachNew W3.heap.size wr (.agg #[.int .i64 tn,.slice A4 n4 c4,.slice AF4 nf4 cf4]) ta) ∧
       Hid (MachNew W4.heap.size wr (.agg #[.int .i64 tm,.slice A5 n5 c5,.slice AF5 nf5 cf5]) tb):=⟨_,rfl⟩
      have HFD:=hide hF;clear hF;refine wp_region_inv F (A:=?AR6) ?hA (by kernel_rfl) (by kernel_rfl) (by kernel_rfl) ?h0 ?hend ?hsteps
      case hA=>intro v;simp only[putR,Act.put,List.setIfInBounds_toArray,List.set_cons_zero,List.set_cons_succ,Nat.reduceAdd,Nat.zero_add];exact rfl
      case h0 =>
       intro v;rw[HFD.out];exact⟨hide (fun h=>by exfalso;simp at h),hide (fun h=>by exfalso;simp at h),hide (fun h=>by exfalso;simp at h),hide (⟨_,_,_,bM.out.drew,fun h=>by exfalso;simp at h⟩),hide (⟨_,_,_,bN.out.drew,fun h=>by exfalso;simp at h⟩),hide (⟨_,_,bR.out.drew,fun h=>by exfalso;simp at h⟩),hide (bS.out.drew),hide (bT.out.drew),hide (bP.out.drew),hide (HW.out.drew),hide ((HMN.out.below HB4.out (Nat.le_refl _)).drew),hide (HMM.out.drew)⟩
      case hend =>
       intro l v wr hall hF;rw[HFD.out] at hF;obtain⟨H0,H1,H2,H3,H4,H5,H6,H7,H8,H9,H10,H11⟩:=hF;have f0:=H0.out;have f1:=H1.out;have f2:=H2.out;have f3:=H3.out;have f4:=H4.out;have f5:=H5.out;have f6:=H6.out;have f7:=H7.out;have f8:=H8.out;have f9:=H9.out;have f10:=H10.out;have f11:=H11.out;clear H0 H1 H2 H3 H4 H5 H6 H7 H8 H9 H10 H11;obtain⟨z0,z1,z2,hbM,hsM⟩:=f3;have hsM:=hsM (hall 3 (by simp));rw[hsM] at hbM;have qM0:=hbM.cell 0;have qfM0:=hbM.frozen 0;have qM1:=hbM.cell 1;have qfM1:=hbM.frozen 1;have qM2:=hbM.cell 2;have qfM2:=hbM.frozen 2;simp at qM0 qM1 qM2;have lM:=hbM.lt;clear hsM hbM;obtain⟨z0,z1,z2,hbN,hsN⟩:=f4;have hsN:=hsN (hall 4 (by simp));rw[hsN] at hbN;have qN0:=hbN.cell 0;have qfN0:=hbN.frozen 0;have qN1:=hbN.cell 1;have qfN1:=hbN.frozen 1;have qN2:=hbN.cell 2;have qfN2:=hbN.frozen 2;simp at qN0 qN1 qN2;have lN:=hbN.lt;clear hsN hbN;obtain⟨z0,z1,hbR,hsR⟩:=f5;have hsR:=hsR (hall 5 (by simp));rw[hsR] at hbR;have qR0:=hbR.cell 0;have qfR0:=hbR.frozen 0;have qR1:=hbR.cell 1;have qfR1:=hbR.frozen 1;simp at qR0 qR1;have lR:=hbR.lt;clear hsR hbR;have HBF0:=hide f9;have HX0:=hide f10;have HX1:=hide f11;clear f0 f1 f2 f6 f7 f8 f9 f10 f11 hall;go_wp21;refine bodyPost_ret (v:=.tuple #[.agg #[.int .i64 tn,.slice A4 n4 c4,.slice AF4 nf4 cf4],.agg #[.int .i64 tm,.slice A5 n5 c5,.slice AF5 nf5 cf5],.agg #[.int .i64 0,.int .i64 0]]) (by simp[results,Try.results50,go_sem,hMN,hMR,hNM,hNR,hRM,hRN,lM,qM0,qM1,qM2,qfM0,qfM1,qfM2,lN,qN0,qN1,qN2,qfN0,qfN1,qfN2,lR,qR0,qR1,qfR0,qfR1]) rfl ?_;have HBF:=HBF0.out;exact⟨_,_,ta,tb,by rw[HEQ.out],HX0.out.at_,HX1.out.at_,(fun _=>⟨HTA.out,HTB.out⟩),HBF⟩
      case hsteps =>
       refine StepsR.cons (n:=0) ?_ (StepsR.cons (n:=1) ?_ (StepsR.cons (n:=2) ?_ (StepsR.cons (n:=3) ?_ (StepsR.cons (n:=4) ?_ (StepsR.cons (n:=5) ?_ (trivial))))))
       ·
        intro l v wr hn hdep hcl hF K hK;rw[HFD.out] at hF;obtain⟨H0,H1,H2,H3,H4,H5,H6,H7,H8,H9,H10,H11⟩:=hF;simp[Region.binds] at hdep;have HCL:=hide hcl;have HN:=hide hn;clear hcl hn;have x0:=H6.out.cell 0;have x1:=H6.out.cell 1;have x2:=H6.out.cell 2;simp at x0 x1 x2;have lS:=H6.out.lt;go_simp
        have hk:=hK.out (.agg #[.int .i64 tn,.slice A4 n4 c4,.slice AF4 nf4 cf4]) wr (by
         rw[HFD.out]
         exact⟨hide ((fun _=>rfl)),H1,H2,H3,H4,H5,H6,H7,H8,H9,H10,H11⟩)
        simp only[Act.put,List.setIfInBounds_toArray,List.set_cons_zero,List.set_cons_succ] at hk;exact hk
       ·
        intro l v wr hn hdep hcl hF K hK;rw[HFD.out] at hF;obtain⟨H0,H1,H2,H3,H4,H5,H6,H7,H8,H9,H10,H11⟩:=hF;simp[Region.binds] at hdep;have HCL:=hide hcl;have HN:=hide hn;clear hcl hn;have x0:=H7.out.cell 0;have x1:=H7.out.cell 1;have x2:=H7.out.cell 2;simp at x0 x1 x2;have lS:=H7.out.lt;go_simp
        have hk:=hK.out (.agg #[.int .i64 tm,.slice A5 n5 c5,.slice AF5 nf5 cf5]) wr (by
         rw[HFD.out]
         exact⟨H0,hide ((fun _=>rfl)),H2,H3,H4,H5,H6,H7,H8,H9,H10,H11⟩)
        simp only[Act.put,List.setIfInBounds_toArray,List.set_cons_zero,List.set_cons_succ] at hk;exact hk
       ·
        intro l v wr hn hdep hcl hF K hK;rw[HFD.out] at hF;obtain⟨H0,H1,H2,H3,H4,H5,H6,H7,H8,H9,H10,H11⟩:=hF;simp[Region.binds] at hdep;have HCL:=hide hcl;have HN:=hide hn;clear hcl hn;have x0:=H8.out.cell 0;have x1:=H8.out.cell 1;simp at x0 x1;have lS:=H8.out.lt;go_simp
        have hk:=hK.out (.agg #[.int .i64 0,.int .i64 0]) wr (by
         rw[HFD.out]
         exact⟨H0,H1,hide ((fun _=>rfl)),H3,H4,H5,H6,H7,H8,H9,H10,H11⟩)
        simp only[Act.put,List.setIfInBounds_toArray,List.set_cons_zero,List.set_cons_succ] at hk;exact hk
       ·
        intro l v wr hn hdep hcl hF K hK;rw[HFD.out] at hF;obtain⟨H0,H1,H2,H3,H4,H5,H6,H7,H8,H9,H10,H11⟩:=hF;simp[Region.binds] at hdep;have HCL:=hide hcl;have HN:=hide hn;clear hcl hn;have e0:=H0.out (by simp[hdep]);obtain⟨d0,d1,d2,hblk,_⟩:=H3.out;have x0:=hblk.cell 0;have xf0:=hblk.frozen 0;have x1:=hblk.cell 1;have xf1:=hblk.frozen 1;have x2:=hblk.cell 2;have xf2:=hblk.frozen 2;simp at x0 x1 x2;have lT:=hblk.lt;have HBK:=hide hblk;clear hblk;go_simp
        have hk:=hK.out undef (((wr.setCell ⟨M,0,none⟩ (.int .i64 tn)).setCell ⟨M,1,none⟩ (.slice A4 n4 c4)).setCell ⟨M,2,none⟩ (.slice AF4 nf4 cf4)) (by
         rw[HFD.out]
         exact⟨H0,H1,H2,hide (⟨_,_,_,(((HBK.out.set_ 0 _).set_ 1 _).set_ 2 _),fun _=>rfl⟩),hide ((by obtain⟨g0,g1,g2,hb2,hs2⟩:=H4.out;exact⟨g0,g1,g2,(((hb2.far (p:=⟨M,0,none⟩) hNM _).far (p:=⟨M,1,none⟩) hNM _).far (p:=⟨M,2,none⟩) hNM _),hs2⟩)),hide ((by obtain⟨g0,g1,hb2,hs2⟩:=H5.out;exact⟨g0,g1,(((hb2.far (p:=⟨M,0,none⟩) hRM _).far (p:=⟨M,1,none⟩) hRM _).far (p:=⟨M,2,none⟩) hRM _),hs2⟩)),hide ((((H6.out.far (p:=⟨M,0,none⟩) hSM _).far (p:=⟨M,1,none⟩) hSM _).far (p:=⟨M,2,none⟩) hSM _)),hide ((((H7.out.far (p:=⟨M,0,none⟩) hTM _).far (p:=⟨M,1,none⟩) hTM _).far (p:=⟨M,2,none⟩) hTM _)),hide ((((H8.out.far (p:=⟨M,0,none⟩) hPM _).far (p:=⟨M,1,none⟩) hPM _).far (p:=⟨M,2,none⟩) hPM _)),hide ((((H9.out.setCell (p:=⟨M,0,none⟩) (by exact hwM) _).setCell (p:=⟨M,1,none⟩) (by exact hwM) _).setCell (p:=⟨M,2,none⟩) (by exact hwM) _)),hide ((((H10.out.set (p:=⟨M,0,none⟩) (by exact hM3) _).set (p:=⟨M,1,none⟩) (by exact hM3) _).set (p:=⟨M,2,none⟩) (by exact hM3) _)),hide ((((H11.out.set (p:=⟨M,0,none⟩) (by exact hM4) _).set (p:=⟨M,1,none⟩) (by exact hM4) _).set (p:=⟨M,2,none⟩) (by exact hM4) _))⟩)
        simp only[Act.put,List.setIfInBounds_toArray,List.set_cons_zero,List.set_cons_succ] at hk;simp only[e0] at hk;exact hk
       ·
        intro l v wr hn hdep hcl hF K hK;rw[HFD.out] at hF;obtain⟨H0,H1,H2,H3,H4,H5,H6,H7,H8,H9,H10,H11⟩:=hF;simp[Region.binds] at hdep;have HCL:=hide hcl;have HN:=hide hn;clear hcl hn;have e1:=H1.out (by simp[hdep]);obtain⟨d0,d1,d2,hblk,_⟩:=H4.out;have x0:=hblk.cell 0;have xf0:=hblk.frozen 0;have x1:=hblk.cell 1;have xf1:=hblk.frozen 1;have x2:=hblk.cell 2;have xf2:=hblk.frozen 2;simp at x0 x1 x2;have lT:=hblk.lt;have HBK:=hide hblk;clear hblk;go_simp
        have hk:=hK.out undef (((wr.setCell ⟨N,0,none⟩ (.int .i64 tm)).setCell ⟨N,1,none⟩ (.slice A5 n5 c5)).setCell ⟨N,2,none⟩ (.slice AF5 nf5 cf5)) (by
         rw[HFD.out]
         exact⟨H0,H1,H2,hide ((by obtain⟨g0,g1,g2,hb2,hs2⟩:=H3.out;exact⟨g0,g1,g2,(((hb2.far (p:=⟨N,0,none⟩) hMN _).far (p:=⟨N,1,none⟩) hMN _).far (p:=⟨N,2,none⟩) hMN _),hs2⟩)),hide (⟨_,_,_,(((HBK.out.set_ 0 _).set_ 1 _).set_ 2 _),fun _=>rfl⟩),hide ((by obtain⟨g0,g1,hb2,hs2⟩:=H5.out;exact⟨g0,g1,(((hb2.far (p:=⟨N,0,none⟩) hRN _).far (p:=⟨N,1,none⟩) hRN _).far (p:=⟨N,2,none⟩) hRN _),hs2⟩)),hide ((((H6.out.far (p:=⟨N,0,none⟩) hSN _).far (p:=⟨N,1,none⟩) hSN _).far (p:=⟨N,2,none⟩) hSN _)),hide ((((H7.out.far (p:=⟨N,0,none⟩) hTN _).far (p:=⟨N,1,none⟩) hTN _).far (p:=⟨N,2,none⟩) hTN _)),hide ((((H8.out.far (p:=⟨N,0,none⟩) hPN _).far (p:=⟨N,1,none⟩) hPN _).far (p:=⟨N,2,none⟩) hPN _)),hide ((((H9.out.setCell (p:=⟨N,0,none⟩) (by exact hwN) _).setCell (p:=⟨N,1,none⟩) (by exact hwN) _).setCell (p:=⟨N,2,none⟩) (by exact hwN) _)),hide ((((H10.out.set (p:=⟨N,0,none⟩) (by exact hN3) _).set (p:=⟨N,1,none⟩) (by exact hN3) _).set (p:=⟨N,2,none⟩) (by exact hN3) _)),hide ((((H11.out.set (p:=⟨N,0,none⟩) (by exact hN4) _).set (p:=⟨N,1,none⟩) (by exact hN4) _).set (p:=⟨N,2,none⟩) (by exact hN4) _))⟩)
        simp only[Act.put,List.setIfInBounds_toArray,List.set_cons_zero,List.set_cons_succ] at hk;simp only[e1] at hk;exact hk
       ·
        intro l v wr hn hdep hcl hF K hK;rw[HFD.out] at hF;obtain⟨H0,H1,H2,H3,H4,H5,H6,H7,H8,H9,H10,H11⟩:=hF;simp[Region.binds] at hdep;have HCL:=hide hcl;have HN:=hide hn;clear hcl hn;have e2:=H2.out (by simp[hdep]);obtain⟨d0,d1,hblk,_⟩:=H5.out;have x0:=hblk.cell 0;have xf0:=hblk.frozen 0;have x1:=hblk.cell 1;have xf1:=hblk.frozen 1;simp at x0 x1;have lT:=hblk.lt;have HBK:=hide hblk;clear hblk;go_simp
        have hk:=hK.out undef ((wr.setCell ⟨R,0,none⟩ (.int .i64 0)).setCell ⟨R,1,none⟩ (.int .i64 0)) (by
         rw[HFD.out]
         exact⟨H0,H1,H2,hide ((by obtain⟨g0,g1,g2,hb2,hs2⟩:=H3.out;exact⟨g0,g1,g2,((hb2.far (p:=⟨R,0,none⟩) hMR _).far (p:=⟨R,1,none⟩) hMR _),hs2⟩)),hide ((by obtain⟨g0,g1,g2,hb2,hs2⟩:=H4.out;exact⟨g0,g1,g2,((hb2.far (p:=⟨R,0,none⟩) hNR _).far (p:=⟨R,1,none⟩) hNR _),hs2⟩)),hide (⟨_,_,((HBK.out.set_ 0 _).set_ 1 _),fun _=>rfl⟩),hide (((H6.out.far (p:=⟨R,0,none⟩) hSR _).far (p:=⟨R,1,none⟩) hSR _)),hide (((H7.out.far (p:=⟨R,0,none⟩) hTR _).far (p:=⟨R,1,none⟩) hTR _)),hide (((H8.out.far (p:=⟨R,0,none⟩) hPR _).far (p:=⟨R,1,none⟩) hPR _)),hide (((H9.out.setCell (p:=⟨R,0,none⟩) (by exact hwR) _).setCell (p:=⟨R,1,none⟩) (by exact hwR) _)),hide (((H10.out.set (p:=⟨R,0,none⟩) (by exact hR3) _).set (p:=⟨R,1,none⟩) (by exact hR3) _)),hide (((H11.out.set (p:=⟨R,0,none⟩) (by exact hR4) _).set (p:=⟨R,1,none⟩) (by exact hR4) _))⟩)
        simp only[Act.put,List.setIfInBounds_toArray,List.set_cons_zero,List.set_cons_succ] at hk;simp only[e2] at hk;exact hk
end Go.Proofs.Ytkfdhpbnphojoaa
