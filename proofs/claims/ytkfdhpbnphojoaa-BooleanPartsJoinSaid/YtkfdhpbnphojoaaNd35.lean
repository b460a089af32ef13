/- Part of the proof. -/
import Derived.Test.YtkfdhpbnphojoaaNd33
import Derived.Test.YtkfdhpbnphojoaaNd32
set_option linter.unusedSimpArgs false
set_option linter.unusedVariables false
set_option maxRecDepth 100000
set_option maxHeartbeats 16000000
open List renaming setIfInBounds_toArray→wAa,set_cons_zero→wAb,set_cons_succ→wAc
open Nat renaming le_refl→wAg,reduceAdd→wAh,zero_add→wAi
open Go.Region renaming binds→wAd
open Gm.StepsR renaming cons→wAe
open Go.Act renaming put→wAf
open Gm.Blk renaming at_→wAj
open Go.World renaming alloc→wAk
namespace Go.Proofs.Ytkfdhpbnphojoaa
open Go.RowKit Gm
theorem zBY (a b:Int) (w:World) :
 Calls Try.prog 59 #[.int .i64 a,.int .i64 b] w fun e w'=>e=.returned (.agg #[.int .i64 a,.int .i64 b])∧Below w.heap.size w w':=by
 go_enter Try.func59,Try.ntmps59
 go_wp2;exact bodyPost_ret (v:=.agg #[.int .i64 a,.int .i64 b]) (by simp[results,Try.results59,go_sem]) rfl ⟨rfl,by go_grown⟩
theorem zJT (
 va vb:Value) (a b:Mach) (w:World) (B:Nat) (hB:B≤w.heap.size) (ha:MachAt w B va a) (hb:MachAt w B vb b) :
 Calls Try.prog 50 #[va,vb] w fun e w'=>∃ (v1 v2:Value) (x y:Mach),e=.returned (.tuple #[v1,v2,.agg #[.int .i64 (bothF a b).1,.int .i64 (bothF a b).2]])∧MachAt w' w'.heap.size v1 x∧MachAt w' w'.heap.size v2 y∧(bothF a b=(0,0)→x=(detW a).1∧y=(detW b).1)∧Below w.heap.size w w':=by
 have HA0:=zh ha;have HB0:=zh hb;obtain⟨A1,AF1,n1,c1,nf1,cf1,rfl,_,_,_,_,_,_,_,_⟩:=ha;obtain⟨A2,AF2,n2,c2,nf2,cf2,rfl,_,_,_,_,_,_,_,_⟩:=hb;obtain⟨sa,hsa⟩:∃ z,z=a.n:=⟨_,rfl⟩;obtain⟨sb,hsb⟩:∃ z,z=b.n:=⟨_,rfl⟩;rw[← hsa] at HA0 ⊢;rw[← hsb] at HB0 ⊢;clear hsa hsb;have he:=fun a b c d W=>zAn a b c d W
 have he2:=fun a b c d W=>zAV a b c d W
 go_enter Try.func50,Try.ntmps50
 go_upto_region 1 with fail
 generalize hW1:wAk _ _=W1;obtain⟨X,hX⟩:∃ z,z=w.heap.size:=⟨_,rfl⟩;obtain⟨Y,hY⟩:∃ z,z=w.heap.size+1:=⟨_,rfl⟩;obtain⟨M,hM⟩:∃ z,z=w.heap.size+1+1:=⟨_,rfl⟩;obtain⟨N,hN⟩:∃ z,z=w.heap.size+1+1+1:=⟨_,rfl⟩;obtain⟨R,hR⟩:∃ z,z=w.heap.size+1+1+1+1:=⟨_,rfl⟩;have bX:=zh (show Blk W1 X 25 #[.int .i64 sa,.slice A1 n1 c1,.slice AF1 nf1 cf1] by rw[← hW1];exact ((((wAj hX).alloc _).alloc _).alloc _).alloc _);have bY:=zh (show Blk W1 Y 25 #[.int .i64 sb,.slice A2 n2 c2,.slice AF2 nf2 cf2] by rw[← hW1];exact (((wAj (by simp[hY])).alloc _).alloc _).alloc _);have bM:=zh (show Blk W1 M 25 #[.int .i64 0,.slice none 0 0,.slice none 0 0] by rw[← hW1];exact ((wAj (by simp[hM])).alloc _).alloc _);have bN:=zh (show Blk W1 N 25 #[.int .i64 0,.slice none 0 0,.slice none 0 0] by rw[← hW1];exact (wAj (by simp[hN])).alloc _);have bR:=zh (show Blk W1 R 28 #[.int .i64 0,.int .i64 0] by rw[← hW1];exact wAj (by simp[hR]));have HW:=zh (show Below w.heap.size w W1 by rw[← hW1];go_grown);have hwM:w.heap.size≤M:=by omega
 have hwN:w.heap.size≤N:=by omega
 have hwR:w.heap.size≤R:=by omega
 have hMN:M≠N:=by omega
 have hNM:N≠M:=by omega
 have hMR:M≠R:=by omega
 have hRM:R≠M:=by omega
 have hNR:N≠R:=by omega
 have hRN:R≠N:=by omega
 have hXM:X≠M:=by omega
 have hMX:M≠X:=by omega
 have hXN:X≠N:=by omega
 have hNX:N≠X:=by omega
 have hXR:X≠R:=by omega
 have hRX:R≠X:=by omega
 have hYM:Y≠M:=by omega
 have hMY:M≠Y:=by omega
 have hYN:Y≠N:=by omega
 have hNY:N≠Y:=by omega
 have hYR:Y≠R:=by omega
 have hRY:R≠Y:=by omega
 have hMlt:M<w.heap.size+1+1+1+1+1:=by omega
 have hNlt:N<w.heap.size+1+1+1+1+1:=by omega
 have hRlt:R<w.heap.size+1+1+1+1+1:=by omega
 have hW1s:w.heap.size+1+1+1+1+1=W1.heap.size:=by rw[← hW1];simp
 rw[hW1s] at hMlt hNlt hRlt;have e1:M+1=N:=by omega
 have e2:N+1=R:=by omega
 simp only[← hM];simp only[e1,e2];simp only[← hY]
 try simp only[← hX]
 have x0:=bX.o.cell 0;have x1:=bX.o.cell 1;have x2:=bX.o.cell 2;simp at x0 x1 x2;clear hW1 hX hY hM hN hR hW1s e1 e2;obtain⟨f1,hf1⟩:∃ z,z=(accF a).1:=⟨_,rfl⟩;obtain⟨f2,hf2⟩:∃ z,z=(accF a).2:=⟨_,rfl⟩;have HF1:=zh hf1;have HF2:=zh hf2;clear hf1 hf2;go_upto_region 2 with (go_at_call 32;refine (zCZ _ a W1 w.heap.size HW.o.size ((HA0.o.below HW.o hB).mono hB)).mono ?_;rintro e w2 ⟨rfl,hb9⟩;rw[← HF1.o,← HF2.o];have HB9:=zh hb9;clear hb9)
 generalize hW2:wAk _ _=W2;obtain⟨P,hP⟩:∃ z,z=w2.heap.size:=⟨_,rfl⟩;have bP:=zh (show Blk W2 P 28 #[.int .i64 f1,.int .i64 f2] by rw[← hW2];exact (wAj hP));have q9:=zh (show Below W1.heap.size W1 W2 by rw[← hW2];exact (HB9.o.alloc (by have:=HB9.o.size;(try simp);omega) _));have hMP:M≠P:=by have:=HB9.o.size;have:=bM.o.lt;omega
 have hPM:P≠M:=Ne.symm hMP;have hNP:N≠P:=by have:=HB9.o.size;have:=bN.o.lt;omega
 have hPN:P≠N:=Ne.symm hNP;have hRP:R≠P:=by have:=HB9.o.size;have:=bR.o.lt;omega
 have hPR:P≠R:=Ne.symm hRP
 try simp only[← hP]
 clear hW2 hP HB9 x0 x1 x2;replace bX:=zh (bX.o.below q9.o bX.o.lt);replace bY:=zh (bY.o.below q9.o bY.o.lt);replace bM:=zh (bM.o.below q9.o bM.o.lt);replace bN:=zh (bN.o.below q9.o bN.o.lt);replace bR:=zh (bR.o.below q9.o bR.o.lt);replace HW:=zh (HW.o.trans (q9.o.mono HW.o.size));clear q9;have p0:=bP.o.cell 0;have p1:=bP.o.cell 1;simp at p0 p1;have lP:=bP.o.lt;obtain⟨q,hq⟩:∃ q,q=fEq f1 f2 0 0:=⟨_,rfl⟩;cases q
 ·have hf:fEq f1 f2 0 0=false:=hq.symm;clear hq;have HNA:=zh (show accF a≠(0,0) by intro h;have g:=hf;rw[HF1.o,HF2.o,h] at g;exact absurd g (by decide));have HEQ:=zh (show bothF a b=accF a by unfold bothF;rw[if_pos HNA.o]);have HNZ:=zh (show bothF a b≠(0,0) by rw[HEQ.o];exact HNA.o);go_upto_region 3 with fail
  clear p0 p1 lP he he2
  obtain⟨F,hF⟩:∃ F:(Nat→Bool)→(Nat→Value)→World→Prop,F=fun l v wr =>
   Hid ((l 0=true→v 0=(.agg #[.int .i64 sa,.slice A1 n1 c1,.slice AF1 nf1 cf1]))) ∧
   Hid ((l 1=true→v 1=(.agg #[.int .i64 sb,.slice A2 n2 c2,.slice AF2 nf2 cf2]))) ∧
   Hid ((l 2=true→v 2=(.agg #[.int .i64 f1,.int .i64 f2]))) ∧
   Hid ((∃ cq0 cq1 cq2,Blk wr M 25 #[cq0,cq1,cq2]∧(l 3=true→#[cq0,cq1,cq2]=#[.int .i64 sa,.slice A1 n1 c1,.slice AF1 nf1 cf1]))) ∧
   Hid ((∃ cq0 cq1 cq2,Blk wr N 25 #[cq0,cq1,cq2]∧(l 4=true→#[cq0,cq1,cq2]=#[.int .i64 sb,.slice A2 n2 c2,.slice AF2 nf2 cf2]))) ∧
   Hid ((∃ cq0 cq1,Blk wr R 28 #[cq0,cq1]∧(l 5=true→#[cq0,cq1]=#[.int .i64 f1,.int .i64 f2]))) ∧
   Hid (Blk wr X 25 #[.int .i64 sa,.slice A1 n1 c1,.slice AF1 nf1 cf1]) ∧
   Hid (Blk wr Y 25 #[.int .i64 sb,.slice A2 n2 c2,.slice AF2 nf2 cf2]) ∧
   Hid (Blk wr P 28 #[.int .i64 f1,.int .i64 f2]) ∧
   Hid (Below w.heap.size w wr):=⟨_,rfl⟩
  have HFD:=zh hF;clear hF;refine zAj F (A:=?AR1) ?hA (by kernel_rfl) (by kernel_rfl) (by kernel_rfl) ?h0 ?hend ?hsteps
  case hA=>intro v;simp only[putR,wAf,wAa,wAb,wAc,wAh,wAi];exact rfl
  case h0 =>
   intro v;rw[HFD.o];exact⟨zh (nofun),zh (nofun),zh (nofun),zh (⟨_,_,_,bM.o.drew,nofun⟩),zh (⟨_,_,_,bN.o.drew,nofun⟩),zh (⟨_,_,bR.o.drew,nofun⟩),zh (bX.o.drew),zh (bY.o.drew),zh (bP.o.drew),zh (HW.o.drew)⟩
  case hend =>
   intro l v wr hall hF;rw[HFD.o] at hF;obtain⟨H0,H1,H2,H3,H4,H5,H6,H7,H8,H9⟩:=hF;have f0:=H0.o;have f1:=H1.o;have f2:=H2.o;have f3:=H3.o;have f4:=H4.o;have f5:=H5.o;have f6:=H6.o;have f7:=H7.o;have f8:=H8.o;have f9:=H9.o;clear H0 H1 H2 H3 H4 H5 H6 H7 H8 H9;obtain⟨z0,z1,z2,hbM,hsM⟩:=f3;have hsM:=hsM (hall 3 (by simp));rw[hsM] at hbM;have qM0:=hbM.cell 0;have qfM0:=hbM.frozen 0;have qM1:=hbM.cell 1;have qfM1:=hbM.frozen 1;have qM2:=hbM.cell 2;have qfM2:=hbM.frozen 2;simp at qM0 qM1 qM2;have lM:=hbM.lt;clear hsM hbM;obtain⟨z0,z1,z2,hbN,hsN⟩:=f4;have hsN:=hsN (hall 4 (by simp));rw[hsN] at hbN;have qN0:=hbN.cell 0;have qfN0:=hbN.frozen 0;have qN1:=hbN.cell 1;have qfN1:=hbN.frozen 1;have qN2:=hbN.cell 2;have qfN2:=hbN.frozen 2;simp at qN0 qN1 qN2;have lN:=hbN.lt;clear hsN hbN;obtain⟨z0,z1,hbR,hsR⟩:=f5;have hsR:=hsR (hall 5 (by simp));rw[hsR] at hbR;have qR0:=hbR.cell 0;have qfR0:=hbR.frozen 0;have qR1:=hbR.cell 1;have qfR1:=hbR.frozen 1;simp at qR0 qR1;have lR:=hbR.lt;clear hsR hbR;have HBF0:=zh f9;clear f0 f1 f2 f6 f7 f8 f9  hall;go_wp21;refine bodyPost_ret (v:=.tuple #[.agg #[.int .i64 sa,.slice A1 n1 c1,.slice AF1 nf1 cf1],.agg #[.int .i64 sb,.slice A2 n2 c2,.slice AF2 nf2 cf2],.agg #[.int .i64 f1,.int .i64 f2]]) (by simp[results,Try.results50,go_sem,hMN,hMR,hNM,hNR,hRM,hRN,lM,qM0,qM1,qM2,qfM0,qfM1,qfM2,lN,qN0,qN1,qN2,qfN0,qfN1,qfN2,lR,qR0,qR1,qfR0,qfR1]) rfl ?_;have HBF:=HBF0.o;exact⟨_,_,a,b,by rw[HEQ.o,HF1.o,HF2.o],(HA0.o.below HBF hB).mono (by have:=HBF.size;omega),(HB0.o.below HBF hB).mono (by have:=HBF.size;omega),(fun h=>absurd h HNZ.o),HBF⟩
  case hsteps =>
   refine wAe (n:=0) ?_ (wAe (n:=1) ?_ (wAe (n:=2) ?_ (wAe (n:=3) ?_ (wAe (n:=4) ?_ (wAe (n:=5) ?_ (trivial))))))
   ·intro l v wr hn hdep hcl hF K hK;rw[HFD.o] at hF;obtain⟨H0,H1,H2,H3,H4,H5,H6,H7,H8,H9⟩:=hF;simp[wAd] at hdep;have HCL:=zh hcl;have HN:=zh hn;clear hcl hn;have x0:=H6.o.cell 0;have x1:=H6.o.cell 1;have x2:=H6.o.cell 2;simp at x0 x1 x2;have lS:=H6.o.lt;go_simp
    have hk:=hK.out (.agg #[.int .i64 sa,.slice A1 n1 c1,.slice AF1 nf1 cf1]) wr (by
     rw[HFD.o]
     exact⟨zh ((fun _=>rfl)),H1,H2,H3,H4,H5,H6,H7,H8,H9⟩)
    simp only[wAf,wAa,wAb,wAc] at hk;exact hk
   ·intro l v wr hn hdep hcl hF K hK;rw[HFD.o] at hF;obtain⟨H0,H1,H2,H3,H4,H5,H6,H7,H8,H9⟩:=hF;simp[wAd] at hdep;have HCL:=zh hcl;have HN:=zh hn;clear hcl hn;have x0:=H7.o.cell 0;have x1:=H7.o.cell 1;have x2:=H7.o.cell 2;simp at x0 x1 x2;have lS:=H7.o.lt;go_simp
    have hk:=hK.out (.agg #[.int .i64 sb,.slice A2 n2 c2,.slice AF2 nf2 cf2]) wr (by
     rw[HFD.o]
     exact⟨H0,zh ((fun _=>rfl)),H2,H3,H4,H5,H6,H7,H8,H9⟩)
    simp only[wAf,wAa,wAb,wAc] at hk;exact hk
   ·intro l v wr hn hdep hcl hF K hK;rw[HFD.o] at hF;obtain⟨H0,H1,H2,H3,H4,H5,H6,H7,H8,H9⟩:=hF;simp[wAd] at hdep;have HCL:=zh hcl;have HN:=zh hn;clear hcl hn;have x0:=H8.o.cell 0;have x1:=H8.o.cell 1;simp at x0 x1;have lS:=H8.o.lt;go_simp
    have hk:=hK.out (.agg #[.int .i64 f1,.int .i64 f2]) wr (by
     rw[HFD.o]
     exact⟨H0,H1,zh ((fun _=>rfl)),H3,H4,H5,H6,H7,H8,H9⟩)
    simp only[wAf,wAa,wAb,wAc] at hk;exact hk
   ·intro l v wr hn hdep hcl hF K hK;rw[HFD.o] at hF;obtain⟨H0,H1,H2,H3,H4,H5,H6,H7,H8,H9⟩:=hF;simp[wAd] at hdep;have HCL:=zh hcl;have HN:=zh hn;clear hcl hn;have e0:=H0.o (by simp[hdep]);obtain⟨d0,d1,d2,hblk,_⟩:=H3.o;have x0:=hblk.cell 0;have xf0:=hblk.frozen 0;have x1:=hblk.cell 1;have xf1:=hblk.frozen 1;have x2:=hblk.cell 2;have xf2:=hblk.frozen 2;simp at x0 x1 x2;have lT:=hblk.lt;have HBK:=zh hblk;clear hblk;go_simp
    have hk:=hK.out undef (((wr.setCell ⟨M,0,none⟩ (.int .i64 sa)).setCell ⟨M,1,none⟩ (.slice A1 n1 c1)).setCell ⟨M,2,none⟩ (.slice AF1 nf1 cf1)) (by
     rw[HFD.o]
     exact⟨H0,H1,H2,zh (⟨_,_,_,(((HBK.o.set_ 0 _).set_ 1 _).set_ 2 _),fun _=>rfl⟩),zh ((by obtain⟨g0,g1,g2,hb2,hs2⟩:=H4.o;exact⟨g0,g1,g2,(((hb2.far (p:=⟨M,0,none⟩) hNM _).far (p:=⟨M,1,none⟩) hNM _).far (p:=⟨M,2,none⟩) hNM _),hs2⟩)),zh ((by obtain⟨g0,g1,hb2,hs2⟩:=H5.o;exact⟨g0,g1,(((hb2.far (p:=⟨M,0,none⟩) hRM _).far (p:=⟨M,1,none⟩) hRM _).far (p:=⟨M,2,none⟩) hRM _),hs2⟩)),zh ((((H6.o.far (p:=⟨M,0,none⟩) hXM _).far (p:=⟨M,1,none⟩) hXM _).far (p:=⟨M,2,none⟩) hXM _)),zh ((((H7.o.far (p:=⟨M,0,none⟩) hYM _).far (p:=⟨M,1,none⟩) hYM _).far (p:=⟨M,2,none⟩) hYM _)),zh ((((H8.o.far (p:=⟨M,0,none⟩) hPM _).far (p:=⟨M,1,none⟩) hPM _).far (p:=⟨M,2,none⟩) hPM _)),zh ((((H9.o.setCell (p:=⟨M,0,none⟩) (by exact hwM) _).setCell (p:=⟨M,1,none⟩) (by exact hwM) _).setCell (p:=⟨M,2,none⟩) (by exact hwM) _))⟩)
    simp only[wAf,wAa,wAb,wAc] at hk;simp only[e0] at hk;exact hk
   ·intro l v wr hn hdep hcl hF K hK;rw[HFD.o] at hF;obtain⟨H0,H1,H2,H3,H4,H5,H6,H7,H8,H9⟩:=hF;simp[wAd] at hdep;have HCL:=zh hcl;have HN:=zh hn;clear hcl hn;have e1:=H1.o (by simp[hdep]);obtain⟨d0,d1,d2,hblk,_⟩:=H4.o;have x0:=hblk.cell 0;have xf0:=hblk.frozen 0;have x1:=hblk.cell 1;have xf1:=hblk.frozen 1;have x2:=hblk.cell 2;have xf2:=hblk.frozen 2;simp at x0 x1 x2;have lT:=hblk.lt;have HBK:=zh hblk;clear hblk;go_simp
    have hk:=hK.out undef (((wr.setCell ⟨N,0,none⟩ (.int .i64 sb)).setCell ⟨N,1,none⟩ (.slice A2 n2 c2)).setCell ⟨N,2,none⟩ (.slice AF2 nf2 cf2)) (by
     rw[HFD.o]
     exact⟨H0,H1,H2,zh ((by obtain⟨g0,g1,g2,hb2,hs2⟩:=H3.o;exact⟨g0,g1,g2,(((hb2.far (p:=⟨N,0,none⟩) hMN _).far (p:=⟨N,1,none⟩) hMN _).far (p:=⟨N,2,none⟩) hMN _),hs2⟩)),zh (⟨_,_,_,(((HBK.o.set_ 0 _).set_ 1 _).set_ 2 _),fun _=>rfl⟩),zh ((by obtain⟨g0,g1,hb2,hs2⟩:=H5.o;exact⟨g0,g1,(((hb2.far (p:=⟨N,0,none⟩) hRN _).far (p:=⟨N,1,none⟩) hRN _).far (p:=⟨N,2,none⟩) hRN _),hs2⟩)),zh ((((H6.o.far (p:=⟨N,0,none⟩) hXN _).far (p:=⟨N,1,none⟩) hXN _).far (p:=⟨N,2,none⟩) hXN _)),zh ((((H7.o.far (p:=⟨N,0,none⟩) hYN _).far (p:=⟨N,1,none⟩) hYN _).far (p:=⟨N,2,none⟩) hYN _)),zh ((((H8.o.far (p:=⟨N,0,none⟩) hPN _).far (p:=⟨N,1,none⟩) hPN _).far (p:=⟨N,2,none⟩) hPN _)),zh ((((H9.o.setCell (p:=⟨N,0,none⟩) (by exact hwN) _).setCell (p:=⟨N,1,none⟩) (by exact hwN) _).setCell (p:=⟨N,2,none⟩) (by exact hwN) _))⟩)
    simp only[wAf,wAa,wAb,wAc] at hk;simp only[e1] at hk;exact hk
   ·intro l v wr hn hdep hcl hF K hK;rw[HFD.o] at hF;obtain⟨H0,H1,H2,H3,H4,H5,H6,H7,H8,H9⟩:=hF;simp[wAd] at hdep;have HCL:=zh hcl;have HN:=zh hn;clear hcl hn;have e2:=H2.o (by simp[hdep]);obtain⟨d0,d1,hblk,_⟩:=H5.o;have x0:=hblk.cell 0;have xf0:=hblk.frozen 0;have x1:=hblk.cell 1;have xf1:=hblk.frozen 1;simp at x0 x1;have lT:=hblk.lt;have HBK:=zh hblk;clear hblk;go_simp
    have hk:=hK.out undef ((wr.setCell ⟨R,0,none⟩ (.int .i64 f1)).setCell ⟨R,1,none⟩ (.int .i64 f2)) (by
     rw[HFD.o]
     exact⟨H0,H1,H2,zh ((by obtain⟨g0,g1,g2,hb2,hs2⟩:=H3.o;exact⟨g0,g1,g2,((hb2.far (p:=⟨R,0,none⟩) hMR _).far (p:=⟨R,1,none⟩) hMR _),hs2⟩)),zh ((by obtain⟨g0,g1,g2,hb2,hs2⟩:=H4.o;exact⟨g0,g1,g2,((hb2.far (p:=⟨R,0,none⟩) hNR _).far (p:=⟨R,1,none⟩) hNR _),hs2⟩)),zh (⟨_,_,((HBK.o.set_ 0 _).set_ 1 _),fun _=>rfl⟩),zh (((H6.o.far (p:=⟨R,0,none⟩) hXR _).far (p:=⟨R,1,none⟩) hXR _)),zh (((H7.o.far (p:=⟨R,0,none⟩) hYR _).far (p:=⟨R,1,none⟩) hYR _)),zh (((H8.o.far (p:=⟨R,0,none⟩) hPR _).far (p:=⟨R,1,none⟩) hPR _)),zh (((H9.o.setCell (p:=⟨R,0,none⟩) (by exact hwR) _).setCell (p:=⟨R,1,none⟩) (by exact hwR) _))⟩)
    simp only[wAf,wAa,wAb,wAc] at hk;simp only[e2] at hk;exact hk
 ·have hf:fEq f1 f2 0 0=true:=hq.symm;clear hq;have HZP:=zh (show accF a=(0,0) by have h:=hf;rw[HF1.o,HF2.o] at h;exact fEq0A.1 h);go_upto_region 4 with fail
  clear p0 p1 lP hf HF1 HF2 bP hMP hPM hNP hPN hRP hPR;have x0:=bY.o.cell 0;have x1:=bY.o.cell 1;have x2:=bY.o.cell 2;simp at x0 x1 x2;obtain⟨f1,hf1⟩:∃ z,z=(accF b).1:=⟨_,rfl⟩;obtain⟨f2,hf2⟩:∃ z,z=(accF b).2:=⟨_,rfl⟩;have HF1:=zh hf1;have HF2:=zh hf2;clear hf1 hf2;go_upto_region 5 with (go_at_call 32;refine (zCZ _ b W2 w.heap.size HW.o.size ((HB0.o.below HW.o hB).mono hB)).mono ?_;rintro e w3 ⟨rfl,hb9⟩;rw[← HF1.o,← HF2.o];have HB9:=zh hb9;clear hb9)
  generalize hW3:wAk _ _=W3;obtain⟨P2,hP2⟩:∃ z,z=w3.heap.size:=⟨_,rfl⟩;have bP2:=zh (show Blk W3 P2 28 #[.int .i64 f1,.int .i64 f2] by rw[← hW3];exact (wAj hP2));have q9:=zh (show Below W2.heap.size W2 W3 by rw[← hW3];exact (HB9.o.alloc (by have:=HB9.o.size;(try simp);omega) _));have hMP2:M≠P2:=by have:=HB9.o.size;have:=bM.o.lt;omega
  have hP2M:P2≠M:=Ne.symm hMP2;have hNP2:N≠P2:=by have:=HB9.o.size;have:=bN.o.lt;omega
  have hP2N:P2≠N:=Ne.symm hNP2;have hRP2:R≠P2:=by have:=HB9.o.size;have:=bR.o.lt;omega
  have hP2R:P2≠R:=Ne.symm hRP2
  try simp only[← hP2]
  clear hW3 hP2 HB9 x0 x1 x2;replace bX:=zh (bX.o.below q9.o bX.o.lt);replace bY:=zh (bY.o.below q9.o bY.o.lt);replace bM:=zh (bM.o.below q9.o bM.o.lt);replace bN:=zh (bN.o.below q9.o bN.o.lt);replace bR:=zh (bR.o.below q9.o bR.o.lt);replace HW:=zh (HW.o.trans (q9.o.mono HW.o.size));clear q9;have p0:=bP2.o.cell 0;have p1:=bP2.o.cell 1;simp at p0 p1;have lP:=bP2.o.lt;obtain⟨q,hq⟩:∃ q,q=fEq f1 f2 0 0:=⟨_,rfl⟩;cases q
  ·have hf:fEq f1 f2 0 0=false:=hq.symm;clear hq;have HNA:=zh (show accF b≠(0,0) by intro h;have g:=hf;rw[HF1.o,HF2.o,h] at g;exact absurd g (by decide));have HEQ:=zh (show bothF a b=accF b by unfold bothF;rw[if_neg (fun g=>g HZP.o),if_pos HNA.o]);have HNZ:=zh (show bothF a b≠(0,0) by rw[HEQ.o];exact HNA.o);(go_upto_region 6 with fail);clear p0 p1 lP he he2
   obtain⟨F,hF⟩:∃ F:(Nat→Bool)→(Nat→Value)→World→Prop,F=fun l v wr =>
    Hid ((l 0=true→v 0=(.agg #[.int .i64 sa,.slice A1 n1 c1,.slice AF1 nf1 cf1]))) ∧
    Hid ((l 1=true→v 1=(.agg #[.int .i64 sb,.slice A2 n2 c2,.slice AF2 nf2 cf2]))) ∧
    Hid ((l 2=true→v 2=(.agg #[.int .i64 f1,.int .i64 f2]))) ∧
    Hid ((∃ cq0 cq1 cq2,Blk wr M 25 #[cq0,cq1,cq2]∧(l 3=true→#[cq0,cq1,cq2]=#[.int .i64 sa,.slice A1 n1 c1,.slice AF1 nf1 cf1]))) ∧
    Hid ((∃ cq0 cq1 cq2,Blk wr N 25 #[cq0,cq1,cq2]∧(l 4=true→#[cq0,cq1,cq2]=#[.int .i64 sb,.slice A2 n2 c2,.slice AF2 nf2 cf2]))) ∧
    Hid ((∃ cq0 cq1,Blk wr R 28 #[cq0,cq1]∧(l 5=true→#[cq0,cq1]=#[.int .i64 f1,.int .i64 f2]))) ∧
    Hid (Blk wr X 25 #[.int .i64 sa,.slice A1 n1 c1,.slice AF1 nf1 cf1]) ∧
    Hid (Blk wr Y 25 #[.int .i64 sb,.slice A2 n2 c2,.slice AF2 nf2 cf2]) ∧
    Hid (Blk wr P2 28 #[.int .i64 f1,.int .i64 f2]) ∧
    Hid (Below w.heap.size w wr):=⟨_,rfl⟩
   have HFD:=zh hF;clear hF;refine zAj F (A:=?AR2) ?hA (by kernel_rfl) (by kernel_rfl) (by kernel_rfl) ?h0 ?hend ?hsteps
   case hA=>intro v;simp only[putR,wAf,wAa,wAb,wAc,wAh,wAi];exact rfl
   case h0 =>
    intro v;rw[HFD.o];exact⟨zh (nofun),zh (nofun),zh (nofun),zh (⟨_,_,_,bM.o.drew,nofun⟩),zh (⟨_,_,_,bN.o.drew,nofun⟩),zh (⟨_,_,bR.o.drew,nofun⟩),zh (bX.o.drew),zh (bY.o.drew),zh (bP2.o.drew),zh (HW.o.drew)⟩
   case hend =>
    intro l v wr hall hF;rw[HFD.o] at hF;obtain⟨H0,H1,H2,H3,H4,H5,H6,H7,H8,H9⟩:=hF;have f0:=H0.o;have f1:=H1.o;have f2:=H2.o;have f3:=H3.o;have f4:=H4.o;have f5:=H5.o;have f6:=H6.o;have f7:=H7.o;have f8:=H8.o;have f9:=H9.o;clear H0 H1 H2 H3 H4 H5 H6 H7 H8 H9;obtain⟨z0,z1,z2,hbM,hsM⟩:=f3;have hsM:=hsM (hall 3 (by simp));rw[hsM] at hbM;have qM0:=hbM.cell 0;have qfM0:=hbM.frozen 0;have qM1:=hbM.cell 1;have qfM1:=hbM.frozen 1;have qM2:=hbM.cell 2;have qfM2:=hbM.frozen 2;simp at qM0 qM1 qM2;have lM:=hbM.lt;clear hsM hbM;obtain⟨z0,z1,z2,hbN,hsN⟩:=f4;have hsN:=hsN (hall 4 (by simp));rw[hsN] at hbN;have qN0:=hbN.cell 0;have qfN0:=hbN.frozen 0;have qN1:=hbN.cell 1;have qfN1:=hbN.frozen 1;have qN2:=hbN.cell 2;have qfN2:=hbN.frozen 2;simp at qN0 qN1 qN2;have lN:=hbN.lt;clear hsN hbN;obtain⟨z0,z1,hbR,hsR⟩:=f5;have hsR:=hsR (hall 5 (by simp));rw[hsR] at hbR;have qR0:=hbR.cell 0;have qfR0:=hbR.frozen 0;have qR1:=hbR.cell 1;have qfR1:=hbR.frozen 1;simp at qR0 qR1;have lR:=hbR.lt;clear hsR hbR;have HBF0:=zh f9;clear f0 f1 f2 f6 f7 f8 f9  hall;go_wp21;refine bodyPost_ret (v:=.tuple #[.agg #[.int .i64 sa,.slice A1 n1 c1,.slice AF1 nf1 cf1],.agg #[.int .i64 sb,.slice A2 n2 c2,.slice AF2 nf2 cf2],.agg #[.int .i64 f1,.int .i64 f2]]) (by simp[results,Try.results50,go_sem,hMN,hMR,hNM,hNR,hRM,hRN,lM,qM0,qM1,qM2,qfM0,qfM1,qfM2,lN,qN0,qN1,qN2,qfN0,qfN1,qfN2,lR,qR0,qR1,qfR0,qfR1]) rfl ?_;have HBF:=HBF0.o;exact⟨_,_,a,b,by rw[HEQ.o,HF1.o,HF2.o],(HA0.o.below HBF hB).mono (by have:=HBF.size;omega),(HB0.o.below HBF hB).mono (by have:=HBF.size;omega),(fun h=>absurd h HNZ.o),HBF⟩
   case hsteps =>
    refine wAe (n:=0) ?_ (wAe (n:=1) ?_ (wAe (n:=2) ?_ (wAe (n:=3) ?_ (wAe (n:=4) ?_ (wAe (n:=5) ?_ (trivial))))))
    ·intro l v wr hn hdep hcl hF K hK;rw[HFD.o] at hF;obtain⟨H0,H1,H2,H3,H4,H5,H6,H7,H8,H9⟩:=hF;simp[wAd] at hdep;have HCL:=zh hcl;have HN:=zh hn;clear hcl hn;have x0:=H6.o.cell 0;have x1:=H6.o.cell 1;have x2:=H6.o.cell 2;simp at x0 x1 x2;have lS:=H6.o.lt;go_simp
     have hk:=hK.out (.agg #[.int .i64 sa,.slice A1 n1 c1,.slice AF1 nf1 cf1]) wr (by
      rw[HFD.o]
      exact⟨zh ((fun _=>rfl)),H1,H2,H3,H4,H5,H6,H7,H8,H9⟩)
     simp only[wAf,wAa,wAb,wAc] at hk;exact hk
    ·intro l v wr hn hdep hcl hF K hK;rw[HFD.o] at hF;obtain⟨H0,H1,H2,H3,H4,H5,H6,H7,H8,H9⟩:=hF;simp[wAd] at hdep;have HCL:=zh hcl;have HN:=zh hn;clear hcl hn;have x0:=H7.o.cell 0;have x1:=H7.o.cell 1;have x2:=H7.o.cell 2;simp at x0 x1 x2;have lS:=H7.o.lt;go_simp
     have hk:=hK.out (.agg #[.int .i64 sb,.slice A2 n2 c2,.slice AF2 nf2 cf2]) wr (by
      rw[HFD.o]
      exact⟨H0,zh ((fun _=>rfl)),H2,H3,H4,H5,H6,H7,H8,H9⟩)
     simp only[wAf,wAa,wAb,wAc] at hk;exact hk
    ·intro l v wr hn hdep hcl hF K hK;rw[HFD.o] at hF;obtain⟨H0,H1,H2,H3,H4,H5,H6,H7,H8,H9⟩:=hF;simp[wAd] at hdep;have HCL:=zh hcl;have HN:=zh hn;clear hcl hn;have x0:=H8.o.cell 0;have x1:=H8.o.cell 1;simp at x0 x1;have lS:=H8.o.lt;go_simp
     have hk:=hK.out (.agg #[.int .i64 f1,.int .i64 f2]) wr (by
      rw[HFD.o]
      exact⟨H0,H1,zh ((fun _=>rfl)),H3,H4,H5,H6,H7,H8,H9⟩)
     simp only[wAf,wAa,wAb,wAc] at hk;exact hk
    ·intro l v wr hn hdep hcl hF K hK;rw[HFD.o] at hF;obtain⟨H0,H1,H2,H3,H4,H5,H6,H7,H8,H9⟩:=hF;simp[wAd] at hdep;have HCL:=zh hcl;have HN:=zh hn;clear hcl hn;have e0:=H0.o (by simp[hdep]);obtain⟨d0,d1,d2,hblk,_⟩:=H3.o;have x0:=hblk.cell 0;have xf0:=hblk.frozen 0;have x1:=hblk.cell 1;have xf1:=hblk.frozen 1;have x2:=hblk.cell 2;have xf2:=hblk.frozen 2;simp at x0 x1 x2;have lT:=hblk.lt;have HBK:=zh hblk;clear hblk;go_simp
     have hk:=hK.out undef (((wr.setCell ⟨M,0,none⟩ (.int .i64 sa)).setCell ⟨M,1,none⟩ (.slice A1 n1 c1)).setCell ⟨M,2,none⟩ (.slice AF1 nf1 cf1)) (by
      rw[HFD.o]
      exact⟨H0,H1,H2,zh (⟨_,_,_,(((HBK.o.set_ 0 _).set_ 1 _).set_ 2 _),fun _=>rfl⟩),zh ((by obtain⟨g0,g1,g2,hb2,hs2⟩:=H4.o;exact⟨g0,g1,g2,(((hb2.far (p:=⟨M,0,none⟩) hNM _).far (p:=⟨M,1,none⟩) hNM _).far (p:=⟨M,2,none⟩) hNM _),hs2⟩)),zh ((by obtain⟨g0,g1,hb2,hs2⟩:=H5.o;exact⟨g0,g1,(((hb2.far (p:=⟨M,0,none⟩) hRM _).far (p:=⟨M,1,none⟩) hRM _).far (p:=⟨M,2,none⟩) hRM _),hs2⟩)),zh ((((H6.o.far (p:=⟨M,0,none⟩) hXM _).far (p:=⟨M,1,none⟩) hXM _).far (p:=⟨M,2,none⟩) hXM _)),zh ((((H7.o.far (p:=⟨M,0,none⟩) hYM _).far (p:=⟨M,1,none⟩) hYM _).far (p:=⟨M,2,none⟩) hYM _)),zh ((((H8.o.far (p:=⟨M,0,none⟩) hP2M _).far (p:=⟨M,1,none⟩) hP2M _).far (p:=⟨M,2,none⟩) hP2M _)),zh ((((H9.o.setCell (p:=⟨M,0,none⟩) (by exact hwM) _).setCell (p:=⟨M,1,none⟩) (by exact hwM) _).setCell (p:=⟨M,2,none⟩) (by exact hwM) _))⟩)
     simp only[wAf,wAa,wAb,wAc] at hk;simp only[e0] at hk;exact hk
    ·intro l v wr hn hdep hcl hF K hK;rw[HFD.o] at hF;obtain⟨H0,H1,H2,H3,H4,H5,H6,H7,H8,H9⟩:=hF;simp[wAd] at hdep;have HCL:=zh hcl;have HN:=zh hn;clear hcl hn;have e1:=H1.o (by simp[hdep]);obtain⟨d0,d1,d2,hblk,_⟩:=H4.o;have x0:=hblk.cell 0;have xf0:=hblk.frozen 0;have x1:=hblk.cell 1;have xf1:=hblk.frozen 1;have x2:=hblk.cell 2;have xf2:=hblk.frozen 2;simp at x0 x1 x2;have lT:=hblk.lt;have HBK:=zh hblk;clear hblk;go_simp
     have hk:=hK.out undef (((wr.setCell ⟨N,0,none⟩ (.int .i64 sb)).setCell ⟨N,1,none⟩ (.slice A2 n2 c2)).setCell ⟨N,2,none⟩ (.slice AF2 nf2 cf2)) (by
      rw[HFD.o]
      exact⟨H0,H1,H2,zh ((by obtain⟨g0,g1,g2,hb2,hs2⟩:=H3.o;exact⟨g0,g1,g2,(((hb2.far (p:=⟨N,0,none⟩) hMN _).far (p:=⟨N,1,none⟩) hMN _).far (p:=⟨N,2,none⟩) hMN _),hs2⟩)),zh (⟨_,_,_,(((HBK.o.set_ 0 _).set_ 1 _).set_ 2 _),fun _=>rfl⟩),zh ((by obtain⟨g0,g1,hb2,hs2⟩:=H5.o;exact⟨g0,g1,(((hb2.far (p:=⟨N,0,none⟩) hRN _).far (p:=⟨N,1,none⟩) hRN _).far (p:=⟨N,2,none⟩) hRN _),hs2⟩)),zh ((((H6.o.far (p:=⟨N,0,none⟩) hXN _).far (p:=⟨N,1,none⟩) hXN _).far (p:=⟨N,2,none⟩) hXN _)),zh ((((H7.o.far (p:=⟨N,0,none⟩) hYN _).far (p:=⟨N,1,none⟩) hYN _).far (p:=⟨N,2,none⟩) hYN _)),zh ((((H8.o.far (p:=⟨N,0,none⟩) hP2N _).far (p:=⟨N,1,none⟩) hP2N _).far (p:=⟨N,2,none⟩) hP2N _)),zh ((((H9.o.setCell (p:=⟨N,0,none⟩) (by exact hwN) _).setCell (p:=⟨N,1,none⟩) (by exact hwN) _).setCell (p:=⟨N,2,none⟩) (by exact hwN) _))⟩)
     simp only[wAf,wAa,wAb,wAc] at hk;simp only[e1] at hk;exact hk
    ·intro l v wr hn hdep hcl hF K hK;rw[HFD.o] at hF;obtain⟨H0,H1,H2,H3,H4,H5,H6,H7,H8,H9⟩:=hF;simp[wAd] at hdep;have HCL:=zh hcl;have HN:=zh hn;clear hcl hn;have e2:=H2.o (by simp[hdep]);obtain⟨d0,d1,hblk,_⟩:=H5.o;have x0:=hblk.cell 0;have xf0:=hblk.frozen 0;have x1:=hblk.cell 1;have xf1:=hblk.frozen 1;simp at x0 x1;have lT:=hblk.lt;have HBK:=zh hblk;clear hblk;go_simp
     have hk:=hK.out undef ((wr.setCell ⟨R,0,none⟩ (.int .i64 f1)).setCell ⟨R,1,none⟩ (.int .i64 f2)) (by
      rw[HFD.o]
      exact⟨H0,H1,H2,zh ((by obtain⟨g0,g1,g2,hb2,hs2⟩:=H3.o;exact⟨g0,g1,g2,((hb2.far (p:=⟨R,0,none⟩) hMR _).far (p:=⟨R,1,none⟩) hMR _),hs2⟩)),zh ((by obtain⟨g0,g1,g2,hb2,hs2⟩:=H4.o;exact⟨g0,g1,g2,((hb2.far (p:=⟨R,0,none⟩) hNR _).far (p:=⟨R,1,none⟩) hNR _),hs2⟩)),zh (⟨_,_,((HBK.o.set_ 0 _).set_ 1 _),fun _=>rfl⟩),zh (((H6.o.far (p:=⟨R,0,none⟩) hXR _).far (p:=⟨R,1,none⟩) hXR _)),zh (((H7.o.far (p:=⟨R,0,none⟩) hYR _).far (p:=⟨R,1,none⟩) hYR _)),zh (((H8.o.far (p:=⟨R,0,none⟩) hP2R _).far (p:=⟨R,1,none⟩) hP2R _)),zh (((H9.o.setCell (p:=⟨R,0,none⟩) (by exact hwR) _).setCell (p:=⟨R,1,none⟩) (by exact hwR) _))⟩)
     simp only[wAf,wAa,wAb,wAc] at hk;simp only[e2] at hk;exact hk
  ·have hf:fEq f1 f2 0 0=true:=hq.symm;clear hq;have HZP2:=zh (show accF b=(0,0) by have h:=hf;rw[HF1.o,HF2.o] at h;exact fEq0A.1 h);(go_upto_region 7 with fail);clear p0 p1 lP hf HF1 HF2 bP2 hMP2 hP2M hNP2 hP2N hRP2 hP2R;have x0:=bX.o.cell 0;have x1:=bX.o.cell 1;have x2:=bX.o.cell 2;simp at x0 x1 x2;obtain⟨f1,hf1⟩:∃ z,z=(detW a).2.1:=⟨_,rfl⟩;obtain⟨f2,hf2⟩:∃ z,z=(detW a).2.2:=⟨_,rfl⟩;have HF1:=zh hf1;have HF2:=zh hf2;clear hf1 hf2;obtain⟨ta,hta⟩:∃ z,z=(detW a).1:=⟨_,rfl⟩;obtain⟨tn,htn⟩:∃ z,z=ta.n:=⟨_,rfl⟩;have HTA:=zh hta;have HTN:=zh htn;clear hta htn;(go_upto_region 8 with (go_at_call 33;refine (zCm _ a W3 w.heap.size HW.o.size ((HA0.o.below HW.o hB).mono hB)).mono ?_;rintro e w4 ⟨v4,rfl,hm4,hb9⟩;rw[← HF1.o,← HF2.o];rw[← HTA.o] at hm4;obtain⟨A4,AF4,n4,c4,nf4,cf4,rfl,_,_,_,_,_,_,_,_⟩:=hm4.at_;rw[← HTN.o] at hm4 ⊢;have HMN:=zh hm4;have HB9:=zh hb9;clear hm4 hb9));generalize hW4:wAk _ _=W4;obtain⟨S,hS⟩:∃ z,z=w4.heap.size:=⟨_,rfl⟩;obtain⟨P,hP⟩:∃ z,z=w4.heap.size+1:=⟨_,rfl⟩;have bS:=zh (show Blk W4 S 25 #[.int .i64 tn,.slice A4 n4 c4,.slice AF4 nf4 cf4] by rw[← hW4];exact (wAj hS).alloc _);have bP:=zh (show Blk W4 P 28 #[.int .i64 f1,.int .i64 f2] by rw[← hW4];exact (wAj (by simp[hP])));have q9:=zh (show Below W3.heap.size W3 W4 by rw[← hW4];exact ((HB9.o.alloc (by have:=HB9.o.size;(try simp);omega) _).alloc (by have:=HB9.o.size;(try simp);omega) _));(have hMS:M≠S:=by have:=HB9.o.size;have:=bM.o.lt;omega);have hSM:S≠M:=Ne.symm hMS;(have hNS:N≠S:=by have:=HB9.o.size;have:=bN.o.lt;omega);have hSN:S≠N:=Ne.symm hNS;(have hRS:R≠S:=by have:=HB9.o.size;have:=bR.o.lt;omega);have hSR:S≠R:=Ne.symm hRS;(have hMP:M≠P:=by have:=HB9.o.size;have:=bM.o.lt;omega);have hPM:P≠M:=Ne.symm hMP;(have hNP:N≠P:=by have:=HB9.o.size;have:=bN.o.lt;omega);have hPN:P≠N:=Ne.symm hNP;(have hRP:R≠P:=by have:=HB9.o.size;have:=bR.o.lt;omega);have hPR:P≠R:=Ne.symm hRP
   try simp only[← hP]
   try simp only[← hS]
   have HB4:=zh (show Below w4.heap.size w4 W4 by rw[← hW4];exact ((Below.refl _ _).alloc (wAg _) _).alloc (by simp) _);(have hP4:w4.heap.size≤P:=by omega);(have hSP0:S+1=P:=by omega);have HW3:=HW.o.size;(have hwP:w.heap.size≤P:=by have:=HB9.o.size;omega);(have hM4:M<W4.heap.size:=by have:=HB9.o.size;have:=HB4.o.size;have:=bM.o.lt;omega);(have hN4:N<W4.heap.size:=by have:=HB9.o.size;have:=HB4.o.size;have:=bN.o.lt;omega);(have hR4:R<W4.heap.size:=by have:=HB9.o.size;have:=HB4.o.size;have:=bR.o.lt;omega);have hM3:M<W3.heap.size:=bM.o.lt;have hN3:N<W3.heap.size:=bN.o.lt;have hR3:R<W3.heap.size:=bR.o.lt;clear hW4 hS hP HB9 x0 x1 x2;replace bX:=zh (bX.o.below q9.o bX.o.lt);replace bY:=zh (bY.o.below q9.o bY.o.lt);replace bM:=zh (bM.o.below q9.o bM.o.lt);replace bN:=zh (bN.o.below q9.o bN.o.lt);replace bR:=zh (bR.o.below q9.o bR.o.lt);replace HW:=zh (HW.o.trans (q9.o.mono HW.o.size));clear q9;have p0:=bP.o.cell 0;have p1:=bP.o.cell 1;simp at p0 p1;have lP:=bP.o.lt;obtain⟨q,hq⟩:∃ q,q=fEq f1 f2 0 0:=⟨_,rfl⟩;cases q
   ·have hf:fEq f1 f2 0 0=false:=hq.symm;clear hq;have HNA:=zh (show (detW a).2≠(0,0) by intro h;have g:=hf;rw[HF1.o,HF2.o,h] at g;exact absurd g (by decide));have HEQ:=zh (show bothF a b=(detW a).2 by unfold bothF;rw[if_neg (fun g=>g HZP.o),if_neg (fun g=>g HZP2.o),if_pos HNA.o]);have HNZ:=zh (show bothF a b≠(0,0) by rw[HEQ.o];exact HNA.o);(go_upto_region 9 with fail);clear p0 p1 lP he he2
    obtain⟨F,hF⟩:∃ F:(Nat→Bool)→(Nat→Value)→World→Prop,F=fun l v wr =>
     Hid ((l 0=true→v 0=(.agg #[.int .i64 sa,.slice A1 n1 c1,.slice AF1 nf1 cf1]))) ∧
     Hid ((l 1=true→v 1=(.agg #[.int .i64 sb,.slice A2 n2 c2,.slice AF2 nf2 cf2]))) ∧
     Hid ((l 2=true→v 2=(.agg #[.int .i64 f1,.int .i64 f2]))) ∧
     Hid ((∃ cq0 cq1 cq2,Blk wr M 25 #[cq0,cq1,cq2]∧(l 3=true→#[cq0,cq1,cq2]=#[.int .i64 sa,.slice A1 n1 c1,.slice AF1 nf1 cf1]))) ∧
     Hid ((∃ cq0 cq1 cq2,Blk wr N 25 #[cq0,cq1,cq2]∧(l 4=true→#[cq0,cq1,cq2]=#[.int .i64 sb,.slice A2 n2 c2,.slice AF2 nf2 cf2]))) ∧
     Hid ((∃ cq0 cq1,Blk wr R 28 #[cq0,cq1]∧(l 5=true→#[cq0,cq1]=#[.int .i64 f1,.int .i64 f2]))) ∧
     Hid (Blk wr X 25 #[.int .i64 sa,.slice A1 n1 c1,.slice AF1 nf1 cf1]) ∧
     Hid (Blk wr Y 25 #[.int .i64 sb,.slice A2 n2 c2,.slice AF2 nf2 cf2]) ∧
     Hid (Blk wr P 28 #[.int .i64 f1,.int .i64 f2]) ∧
     Hid (Below w.heap.size w wr):=⟨_,rfl⟩
    have HFD:=zh hF;clear hF;refine zAj F (A:=?AR3) ?hA (by kernel_rfl) (by kernel_rfl) (by kernel_rfl) ?h0 ?hend ?hsteps
    case hA=>intro v;simp only[putR,wAf,wAa,wAb,wAc,wAh,wAi];exact rfl
    case h0 =>
     intro v;rw[HFD.o];exact⟨zh (nofun),zh (nofun),zh (nofun),zh (⟨_,_,_,bM.o.drew,nofun⟩),zh (⟨_,_,_,bN.o.drew,nofun⟩),zh (⟨_,_,bR.o.drew,nofun⟩),zh (bX.o.drew),zh (bY.o.drew),zh (bP.o.drew),zh (HW.o.drew)⟩
    case hend =>
     intro l v wr hall hF;rw[HFD.o] at hF;obtain⟨H0,H1,H2,H3,H4,H5,H6,H7,H8,H9⟩:=hF;have f0:=H0.o;have f1:=H1.o;have f2:=H2.o;have f3:=H3.o;have f4:=H4.o;have f5:=H5.o;have f6:=H6.o;have f7:=H7.o;have f8:=H8.o;have f9:=H9.o;clear H0 H1 H2 H3 H4 H5 H6 H7 H8 H9;obtain⟨z0,z1,z2,hbM,hsM⟩:=f3;have hsM:=hsM (hall 3 (by simp));rw[hsM] at hbM;have qM0:=hbM.cell 0;have qfM0:=hbM.frozen 0;have qM1:=hbM.cell 1;have qfM1:=hbM.frozen 1;have qM2:=hbM.cell 2;have qfM2:=hbM.frozen 2;simp at qM0 qM1 qM2;have lM:=hbM.lt;clear hsM hbM;obtain⟨z0,z1,z2,hbN,hsN⟩:=f4;have hsN:=hsN (hall 4 (by simp));rw[hsN] at hbN;have qN0:=hbN.cell 0;have qfN0:=hbN.frozen 0;have qN1:=hbN.cell 1;have qfN1:=hbN.frozen 1;have qN2:=hbN.cell 2;have qfN2:=hbN.frozen 2;simp at qN0 qN1 qN2;have lN:=hbN.lt;clear hsN hbN;obtain⟨z0,z1,hbR,hsR⟩:=f5;have hsR:=hsR (hall 5 (by simp));rw[hsR] at hbR;have qR0:=hbR.cell 0;have qfR0:=hbR.frozen 0;have qR1:=hbR.cell 1;have qfR1:=hbR.frozen 1;simp at qR0 qR1;have lR:=hbR.lt;clear hsR hbR;have HBF0:=zh f9;clear f0 f1 f2 f6 f7 f8 f9  hall;go_wp21;refine bodyPost_ret (v:=.tuple #[.agg #[.int .i64 sa,.slice A1 n1 c1,.slice AF1 nf1 cf1],.agg #[.int .i64 sb,.slice A2 n2 c2,.slice AF2 nf2 cf2],.agg #[.int .i64 f1,.int .i64 f2]]) (by simp[results,Try.results50,go_sem,hMN,hMR,hNM,hNR,hRM,hRN,lM,qM0,qM1,qM2,qfM0,qfM1,qfM2,lN,qN0,qN1,qN2,qfN0,qfN1,qfN2,lR,qR0,qR1,qfR0,qfR1]) rfl ?_;have HBF:=HBF0.o;exact⟨_,_,a,b,by rw[HEQ.o,HF1.o,HF2.o],(HA0.o.below HBF hB).mono (by have:=HBF.size;omega),(HB0.o.below HBF hB).mono (by have:=HBF.size;omega),(fun h=>absurd h HNZ.o),HBF⟩
    case hsteps =>
     refine wAe (n:=0) ?_ (wAe (n:=1) ?_ (wAe (n:=2) ?_ (wAe (n:=3) ?_ (wAe (n:=4) ?_ (wAe (n:=5) ?_ (trivial))))))
     ·intro l v wr hn hdep hcl hF K hK;rw[HFD.o] at hF;obtain⟨H0,H1,H2,H3,H4,H5,H6,H7,H8,H9⟩:=hF;simp[wAd] at hdep;have HCL:=zh hcl;have HN:=zh hn;clear hcl hn;have x0:=H6.o.cell 0;have x1:=H6.o.cell 1;have x2:=H6.o.cell 2;simp at x0 x1 x2;have lS:=H6.o.lt;go_simp
      have hk:=hK.out (.agg #[.int .i64 sa,.slice A1 n1 c1,.slice AF1 nf1 cf1]) wr (by
       rw[HFD.o]
       exact⟨zh ((fun _=>rfl)),H1,H2,H3,H4,H5,H6,H7,H8,H9⟩)
      simp only[wAf,wAa,wAb,wAc] at hk;exact hk
     ·intro l v wr hn hdep hcl hF K hK;rw[HFD.o] at hF;obtain⟨H0,H1,H2,H3,H4,H5,H6,H7,H8,H9⟩:=hF;simp[wAd] at hdep;have HCL:=zh hcl;have HN:=zh hn;clear hcl hn;have x0:=H7.o.cell 0;have x1:=H7.o.cell 1;have x2:=H7.o.cell 2;simp at x0 x1 x2;have lS:=H7.o.lt;go_simp
      have hk:=hK.out (.agg #[.int .i64 sb,.slice A2 n2 c2,.slice AF2 nf2 cf2]) wr (by
       rw[HFD.o]
       exact⟨H0,zh ((fun _=>rfl)),H2,H3,H4,H5,H6,H7,H8,H9⟩)
      simp only[wAf,wAa,wAb,wAc] at hk;exact hk
     ·intro l v wr hn hdep hcl hF K hK;rw[HFD.o] at hF;obtain⟨H0,H1,H2,H3,H4,H5,H6,H7,H8,H9⟩:=hF;simp[wAd] at hdep;have HCL:=zh hcl;have HN:=zh hn;clear hcl hn;have x0:=H8.o.cell 0;have x1:=H8.o.cell 1;simp at x0 x1;have lS:=H8.o.lt;go_simp
      have hk:=hK.out (.agg #[.int .i64 f1,.int .i64 f2]) wr (by
       rw[HFD.o]
       exact⟨H0,H1,zh ((fun _=>rfl)),H3,H4,H5,H6,H7,H8,H9⟩)
      simp only[wAf,wAa,wAb,wAc] at hk;exact hk
     ·intro l v wr hn hdep hcl hF K hK;rw[HFD.o] at hF;obtain⟨H0,H1,H2,H3,H4,H5,H6,H7,H8,H9⟩:=hF;simp[wAd] at hdep;have HCL:=zh hcl;have HN:=zh hn;clear hcl hn;have e0:=H0.o (by simp[hdep]);obtain⟨d0,d1,d2,hblk,_⟩:=H3.o;have x0:=hblk.cell 0;have xf0:=hblk.frozen 0;have x1:=hblk.cell 1;have xf1:=hblk.frozen 1;have x2:=hblk.cell 2;have xf2:=hblk.frozen 2;simp at x0 x1 x2;have lT:=hblk.lt;have HBK:=zh hblk;clear hblk;go_simp
      have hk:=hK.out undef (((wr.setCell ⟨M,0,none⟩ (.int .i64 sa)).setCell ⟨M,1,none⟩ (.slice A1 n1 c1)).setCell ⟨M,2,none⟩ (.slice AF1 nf1 cf1)) (by
       rw[HFD.o]
       exact⟨H0,H1,H2,zh (⟨_,_,_,(((HBK.o.set_ 0 _).set_ 1 _).set_ 2 _),fun _=>rfl⟩),zh ((by obtain⟨g0,g1,g2,hb2,hs2⟩:=H4.o;exact⟨g0,g1,g2,(((hb2.far (p:=⟨M,0,none⟩) hNM _).far (p:=⟨M,1,none⟩) hNM _).far (p:=⟨M,2,none⟩) hNM _),hs2⟩)),zh ((by obtain⟨g0,g1,hb2,hs2⟩:=H5.o;exact⟨g0,g1,(((hb2.far (p:=⟨M,0,none⟩) hRM _).far (p:=⟨M,1,none⟩) hRM _).far (p:=⟨M,2,none⟩) hRM _),hs2⟩)),zh ((((H6.o.far (p:=⟨M,0,none⟩) hXM _).far (p:=⟨M,1,none⟩) hXM _).far (p:=⟨M,2,none⟩) hXM _)),zh ((((H7.o.far (p:=⟨M,0,none⟩) hYM _).far (p:=⟨M,1,none⟩) hYM _).far (p:=⟨M,2,none⟩) hYM _)),zh ((((H8.o.far (p:=⟨M,0,none⟩) hPM _).far (p:=⟨M,1,none⟩) hPM _).far (p:=⟨M,2,none⟩) hPM _)),zh ((((H9.o.setCell (p:=⟨M,0,none⟩) (by exact hwM) _).setCell (p:=⟨M,1,none⟩) (by exact hwM) _).setCell (p:=⟨M,2,none⟩) (by exact hwM) _))⟩)
      simp only[wAf,wAa,wAb,wAc] at hk;simp only[e0] at hk;exact hk
     ·intro l v wr hn hdep hcl hF K hK;rw[HFD.o] at hF;obtain⟨H0,H1,H2,H3,H4,H5,H6,H7,H8,H9⟩:=hF;simp[wAd] at hdep;have HCL:=zh hcl;have HN:=zh hn;clear hcl hn;have e1:=H1.o (by simp[hdep]);obtain⟨d0,d1,d2,hblk,_⟩:=H4.o;have x0:=hblk.cell 0;have xf0:=hblk.frozen 0;have x1:=hblk.cell 1;have xf1:=hblk.frozen 1;have x2:=hblk.cell 2;have xf2:=hblk.frozen 2;simp at x0 x1 x2;have lT:=hblk.lt;have HBK:=zh hblk;clear hblk;go_simp
      have hk:=hK.out undef (((wr.setCell ⟨N,0,none⟩ (.int .i64 sb)).setCell ⟨N,1,none⟩ (.slice A2 n2 c2)).setCell ⟨N,2,none⟩ (.slice AF2 nf2 cf2)) (by
       rw[HFD.o]
       exact⟨H0,H1,H2,zh ((by obtain⟨g0,g1,g2,hb2,hs2⟩:=H3.o;exact⟨g0,g1,g2,(((hb2.far (p:=⟨N,0,none⟩) hMN _).far (p:=⟨N,1,none⟩) hMN _).far (p:=⟨N,2,none⟩) hMN _),hs2⟩)),zh (⟨_,_,_,(((HBK.o.set_ 0 _).set_ 1 _).set_ 2 _),fun _=>rfl⟩),zh ((by obtain⟨g0,g1,hb2,hs2⟩:=H5.o;exact⟨g0,g1,(((hb2.far (p:=⟨N,0,none⟩) hRN _).far (p:=⟨N,1,none⟩) hRN _).far (p:=⟨N,2,none⟩) hRN _),hs2⟩)),zh ((((H6.o.far (p:=⟨N,0,none⟩) hXN _).far (p:=⟨N,1,none⟩) hXN _).far (p:=⟨N,2,none⟩) hXN _)),zh ((((H7.o.far (p:=⟨N,0,none⟩) hYN _).far (p:=⟨N,1,none⟩) hYN _).far (p:=⟨N,2,none⟩) hYN _)),zh ((((H8.o.far (p:=⟨N,0,none⟩) hPN _).far (p:=⟨N,1,none⟩) hPN _).far (p:=⟨N,2,none⟩) hPN _)),zh ((((H9.o.setCell (p:=⟨N,0,none⟩) (by exact hwN) _).setCell (p:=⟨N,1,none⟩) (by exact hwN) _).setCell (p:=⟨N,2,none⟩) (by exact hwN) _))⟩)
      simp only[wAf,wAa,wAb,wAc] at hk;simp only[e1] at hk;exact hk
     ·intro l v wr hn hdep hcl hF K hK;rw[HFD.o] at hF;obtain⟨H0,H1,H2,H3,H4,H5,H6,H7,H8,H9⟩:=hF;simp[wAd] at hdep;have HCL:=zh hcl;have HN:=zh hn;clear hcl hn;have e2:=H2.o (by simp[hdep]);obtain⟨d0,d1,hblk,_⟩:=H5.o;have x0:=hblk.cell 0;have xf0:=hblk.frozen 0;have x1:=hblk.cell 1;have xf1:=hblk.frozen 1;simp at x0 x1;have lT:=hblk.lt;have HBK:=zh hblk;clear hblk;go_simp
      have hk:=hK.out undef ((wr.setCell ⟨R,0,none⟩ (.int .i64 f1)).setCell ⟨R,1,none⟩ (.int .i64 f2)) (by
       rw[HFD.o]
       exact⟨H0,H1,H2,zh ((by obtain⟨g0,g1,g2,hb2,hs2⟩:=H3.o;exact⟨g0,g1,g2,((hb2.far (p:=⟨R,0,none⟩) hMR _).far (p:=⟨R,1,none⟩) hMR _),hs2⟩)),zh ((by obtain⟨g0,g1,g2,hb2,hs2⟩:=H4.o;exact⟨g0,g1,g2,((hb2.far (p:=⟨R,0,none⟩) hNR _).far (p:=⟨R,1,none⟩) hNR _),hs2⟩)),zh (⟨_,_,((HBK.o.set_ 0 _).set_ 1 _),fun _=>rfl⟩),zh (((H6.o.far (p:=⟨R,0,none⟩) hXR _).far (p:=⟨R,1,none⟩) hXR _)),zh (((H7.o.far (p:=⟨R,0,none⟩) hYR _).far (p:=⟨R,1,none⟩) hYR _)),zh (((H8.o.far (p:=⟨R,0,none⟩) hPR _).far (p:=⟨R,1,none⟩) hPR _)),zh (((H9.o.setCell (p:=⟨R,0,none⟩) (by exact hwR) _).setCell (p:=⟨R,1,none⟩) (by exact hwR) _))⟩)
      simp only[wAf,wAa,wAb,wAc] at hk;simp only[e2] at hk;exact hk
   ·have hf:fEq f1 f2 0 0=true:=hq.symm;clear hq;have HZ3:=zh (show (detW a).2=(0,0) by have h:=hf;rw[HF1.o,HF2.o] at h;exact fEq0A.1 h);(have z1:f1=0:=by rw[HF1.o,HZ3.o]);(have z2:f2=0:=by rw[HF2.o,HZ3.o]);clear HF1 HF2 hf;subst z1 z2;have hf0:fEq 0 0 0 0=true:=rfl;(go_upto_region 10 with fail);clear hf0 p0 p1;have x0:=bY.o.cell 0;have x1:=bY.o.cell 1;have x2:=bY.o.cell 2;have p0:=bP.o.cell 0;have p1:=bP.o.cell 1;simp at x0 x1 x2 p0 p1;have pf0:=bP.o.frozen 0;have pf1:=bP.o.frozen 1;obtain⟨g1,hg1⟩:∃ z,z=(detW b).2.1:=⟨_,rfl⟩;obtain⟨g2,hg2⟩:∃ z,z=(detW b).2.2:=⟨_,rfl⟩;have HF1:=zh hg1;have HF2:=zh hg2;clear hg1 hg2;obtain⟨tb,htb⟩:∃ z,z=(detW b).1:=⟨_,rfl⟩;obtain⟨tm,htm⟩:∃ z,z=tb.n:=⟨_,rfl⟩;have HTB:=zh htb;have HTM:=zh htm;clear htb htm;have lP4:P<W4.heap.size:=lP;(go_upto_region 11 with (go_at_call 33;refine (zCm _ b W4 w.heap.size HW.o.size ((HB0.o.below HW.o hB).mono hB)).mono ?_;rintro e w5 ⟨v5,rfl,hm5,hb9⟩;rw[← HF1.o,← HF2.o];rw[← HTB.o] at hm5;obtain⟨A5,AF5,n5,c5,nf5,cf5,rfl,_,_,_,_,_,_,_,_⟩:=hm5.at_;rw[← HTM.o] at hm5 ⊢;have HMM:=zh hm5;have HB9:=zh hb9;have bP5:=zh (bP.o.below hb9 lP4);clear hm5 hb9 p0 p1 pf0 pf1 lP;have p0:=bP5.o.cell 0;have p1:=bP5.o.cell 1;simp at p0 p1;have pf0:=bP5.o.frozen 0;have pf1:=bP5.o.frozen 1;have lP:=bP5.o.lt));clear p0 p1 pf0 pf1 lP x0 x1 x2;obtain⟨T,hT⟩:∃ z,z=w5.heap.size:=⟨_,rfl⟩;have hz5:W4.heap.size≤w5.heap.size:=HB9.o.size;(have hMT:M≠T:=by have:=bM.o.lt;omega);(have hNT:N≠T:=by have:=bN.o.lt;omega);(have hRT:R≠T:=by have:=bR.o.lt;omega);(have hPT:P≠T:=by omega);have hTM:=Ne.symm hMT;have hTN:=Ne.symm hNT;have hTR:=Ne.symm hRT;have hTP:=Ne.symm hPT;(have hSP:S≠P:=by omega);have bT:=zh (show Blk (((w5.setCell ⟨P,0,none⟩ (.int .i64 g1)).setCell ⟨P,1,none⟩ (.int .i64 g2)).alloc (.cells #[.int .i64 tm,.slice A5 n5 c5,.slice AF5 nf5 cf5] 25)) T 25 #[.int .i64 tm,.slice A5 n5 c5,.slice AF5 nf5 cf5] from wAj (by simp[hT]));replace HMM:=zh (((HMM.o.set (p:=⟨P,0,none⟩) lP4 (.int .i64 g1)).set (p:=⟨P,1,none⟩) lP4 (.int .i64 g2)).alloc (.cells #[.int .i64 tm,.slice A5 n5 c5,.slice AF5 nf5 cf5] 25));replace HB4:=zh ((((HB4.o.trans (HB9.o.mono HB4.o.size)).setCell (p:=⟨P,0,none⟩) hP4 (.int .i64 g1)).setCell (p:=⟨P,1,none⟩) hP4 (.int .i64 g2)).alloc (by have:=HB4.o.size;simp;omega) (.cells #[.int .i64 tm,.slice A5 n5 c5,.slice AF5 nf5 cf5] 25));have bPn:=zh ((((bP.o.below HB9.o lP4).set_ 0 (.int .i64 g1)).set_ 1 (.int .i64 g2)).alloc (.cells #[.int .i64 tm,.slice A5 n5 c5,.slice AF5 nf5 cf5] 25));replace bS:=zh ((((bS.o.below HB9.o bS.o.lt).far (p:=⟨P,0,none⟩) hSP (.int .i64 g1)).far (p:=⟨P,1,none⟩) hSP (.int .i64 g2)).alloc (.cells #[.int .i64 tm,.slice A5 n5 c5,.slice AF5 nf5 cf5] 25));replace bM:=zh ((((bM.o.below HB9.o bM.o.lt).far (p:=⟨P,0,none⟩) hMP (.int .i64 g1)).far (p:=⟨P,1,none⟩) hMP (.int .i64 g2)).alloc (.cells #[.int .i64 tm,.slice A5 n5 c5,.slice AF5 nf5 cf5] 25));replace bN:=zh ((((bN.o.below HB9.o bN.o.lt).far (p:=⟨P,0,none⟩) hNP (.int .i64 g1)).far (p:=⟨P,1,none⟩) hNP (.int .i64 g2)).alloc (.cells #[.int .i64 tm,.slice A5 n5 c5,.slice AF5 nf5 cf5] 25));replace bR:=zh ((((bR.o.below HB9.o bR.o.lt).far (p:=⟨P,0,none⟩) hRP (.int .i64 g1)).far (p:=⟨P,1,none⟩) hRP (.int .i64 g2)).alloc (.cells #[.int .i64 tm,.slice A5 n5 c5,.slice AF5 nf5 cf5] 25));replace HW:=zh ((((HW.o.trans (HB9.o.mono HW.o.size)).setCell (p:=⟨P,0,none⟩) hwP (.int .i64 g1)).setCell (p:=⟨P,1,none⟩) hwP (.int .i64 g2)).alloc (by have:=HW.o.size;simp;omega) (.cells #[.int .i64 tm,.slice A5 n5 c5,.slice AF5 nf5 cf5] 25))
    try simp only[← hT]
    generalize hW5:wAk _ _=W5;rw[hW5] at bT HMM HB4 bPn bS bM bN bR HW;clear hW5 bP bP5 bX bY HB9 hT hz5;have bP:=bPn;clear bPn;have p0:=bP.o.cell 0;have p1:=bP.o.cell 1;simp at p0 p1;have lP:=bP.o.lt;obtain⟨q,hq⟩:∃ q,q=fEq g1 g2 0 0:=⟨_,rfl⟩;cases q
    ·have hf:fEq g1 g2 0 0=false:=hq.symm;clear hq;have HNA:=zh (show (detW b).2≠(0,0) by intro h;have g:=hf;rw[HF1.o,HF2.o,h] at g;exact absurd g (by decide));have HEQ:=zh (show bothF a b=(detW b).2 by unfold bothF;rw[if_neg (fun g=>g HZP.o),if_neg (fun g=>g HZP2.o),if_neg (fun g=>g HZ3.o),if_pos HNA.o]);have HNZ:=zh (show bothF a b≠(0,0) by rw[HEQ.o];exact HNA.o);(go_upto_region 13 with fail);clear p0 p1 lP he he2
     obtain⟨F,hF⟩:∃ F:(Nat→Bool)→(Nat→Value)→World→Prop,F=fun l v wr =>
      Hid ((l 0=true→v 0=(.agg #[.int .i64 tn,.slice A4 n4 c4,.slice AF4 nf4 cf4]))) ∧
      Hid ((l 1=true→v 1=(.agg #[.int .i64 tm,.slice A5 n5 c5,.slice AF5 nf5 cf5]))) ∧
      Hid ((l 2=true→v 2=(.agg #[.int .i64 g1,.int .i64 g2]))) ∧
      Hid ((∃ cq0 cq1 cq2,Blk wr M 25 #[cq0,cq1,cq2]∧(l 3=true→#[cq0,cq1,cq2]=#[.int .i64 tn,.slice A4 n4 c4,.slice AF4 nf4 cf4]))) ∧
      Hid ((∃ cq0 cq1 cq2,Blk wr N 25 #[cq0,cq1,cq2]∧(l 4=true→#[cq0,cq1,cq2]=#[.int .i64 tm,.slice A5 n5 c5,.slice AF5 nf5 cf5]))) ∧
      Hid ((∃ cq0 cq1,Blk wr R 28 #[cq0,cq1]∧(l 5=true→#[cq0,cq1]=#[.int .i64 g1,.int .i64 g2]))) ∧
      Hid (Blk wr S 25 #[.int .i64 tn,.slice A4 n4 c4,.slice AF4 nf4 cf4]) ∧
      Hid (Blk wr T 25 #[.int .i64 tm,.slice A5 n5 c5,.slice AF5 nf5 cf5]) ∧
      Hid (Blk wr P 28 #[.int .i64 g1,.int .i64 g2]) ∧
      Hid (Below w.heap.size w wr) ∧
      Hid (MachNew W3.heap.size wr (.agg #[.int .i64 tn,.slice A4 n4 c4,.slice AF4 nf4 cf4]) ta) ∧
      Hid (MachNew W4.heap.size wr (.agg #[.int .i64 tm,.slice A5 n5 c5,.slice AF5 nf5 cf5]) tb):=⟨_,rfl⟩
     have HFD:=zh hF;clear hF;refine zAj F (A:=?AR4) ?hA (by kernel_rfl) (by kernel_rfl) (by kernel_rfl) ?h0 ?hend ?hsteps
     case hA=>intro v;simp only[putR,wAf,wAa,wAb,wAc,wAh,wAi];exact rfl
     case h0 =>
      intro v;rw[HFD.o];exact⟨zh (nofun),zh (nofun),zh (nofun),zh (⟨_,_,_,bM.o.drew,nofun⟩),zh (⟨_,_,_,bN.o.drew,nofun⟩),zh (⟨_,_,bR.o.drew,nofun⟩),zh (bS.o.drew),zh (bT.o.drew),zh (bP.o.drew),zh (HW.o.drew),zh ((HMN.o.below HB4.o (wAg _)).drew),zh (HMM.o.drew)⟩
     case hend =>
      intro l v wr hall hF;rw[HFD.o] at hF;obtain⟨H0,H1,H2,H3,H4,H5,H6,H7,H8,H9,H10,H11⟩:=hF;have f0:=H0.o;have f1:=H1.o;have f2:=H2.o;have f3:=H3.o;have f4:=H4.o;have f5:=H5.o;have f6:=H6.o;have f7:=H7.o;have f8:=H8.o;have f9:=H9.o;have f10:=H10.o;have f11:=H11.o;clear H0 H1 H2 H3 H4 H5 H6 H7 H8 H9 H10 H11;obtain⟨z0,z1,z2,hbM,hsM⟩:=f3;have hsM:=hsM (hall 3 (by simp));rw[hsM] at hbM;have qM0:=hbM.cell 0;have qfM0:=hbM.frozen 0;have qM1:=hbM.cell 1;have qfM1:=hbM.frozen 1;have qM2:=hbM.cell 2;have qfM2:=hbM.frozen 2;simp at qM0 qM1 qM2;have lM:=hbM.lt;clear hsM hbM;obtain⟨z0,z1,z2,hbN,hsN⟩:=f4;have hsN:=hsN (hall 4 (by simp));rw[hsN] at hbN;have qN0:=hbN.cell 0;have qfN0:=hbN.frozen 0;have qN1:=hbN.cell 1;have qfN1:=hbN.frozen 1;have qN2:=hbN.cell 2;have qfN2:=hbN.frozen 2;simp at qN0 qN1 qN2;have lN:=hbN.lt;clear hsN hbN;obtain⟨z0,z1,hbR,hsR⟩:=f5;have hsR:=hsR (hall 5 (by simp));rw[hsR] at hbR;have qR0:=hbR.cell 0;have qfR0:=hbR.frozen 0;have qR1:=hbR.cell 1;have qfR1:=hbR.frozen 1;simp at qR0 qR1;have lR:=hbR.lt;clear hsR hbR;have HBF0:=zh f9;have HX0:=zh f10;have HX1:=zh f11;clear f0 f1 f2 f6 f7 f8 f9 f10 f11 hall;go_wp21;refine bodyPost_ret (v:=.tuple #[.agg #[.int .i64 tn,.slice A4 n4 c4,.slice AF4 nf4 cf4],.agg #[.int .i64 tm,.slice A5 n5 c5,.slice AF5 nf5 cf5],.agg #[.int .i64 g1,.int .i64 g2]]) (by simp[results,Try.results50,go_sem,hMN,hMR,hNM,hNR,hRM,hRN,lM,qM0,qM1,qM2,qfM0,qfM1,qfM2,lN,qN0,qN1,qN2,qfN0,qfN1,qfN2,lR,qR0,qR1,qfR0,qfR1]) rfl ?_;have HBF:=HBF0.o;exact⟨_,_,ta,tb,by rw[HEQ.o,HF1.o,HF2.o],HX0.o.at_,HX1.o.at_,(fun h=>absurd h HNZ.o),HBF⟩
     case hsteps =>
      refine wAe (n:=0) ?_ (wAe (n:=1) ?_ (wAe (n:=2) ?_ (wAe (n:=3) ?_ (wAe (n:=4) ?_ (wAe (n:=5) ?_ (trivial))))))
      ·intro l v wr hn hdep hcl hF K hK;rw[HFD.o] at hF;obtain⟨H0,H1,H2,H3,H4,H5,H6,H7,H8,H9,H10,H11⟩:=hF;simp[wAd] at hdep;have HCL:=zh hcl;have HN:=zh hn;clear hcl hn;have x0:=H6.o.cell 0;have x1:=H6.o.cell 1;have x2:=H6.o.cell 2;simp at x0 x1 x2;have lS:=H6.o.lt;go_simp
       have hk:=hK.out (.agg #[.int .i64 tn,.slice A4 n4 c4,.slice AF4 nf4 cf4]) wr (by
        rw[HFD.o]
        exact⟨zh ((fun _=>rfl)),H1,H2,H3,H4,H5,H6,H7,H8,H9,H10,H11⟩)
       simp only[wAf,wAa,wAb,wAc] at hk;exact hk
      ·intro l v wr hn hdep hcl hF K hK;rw[HFD.o] at hF;obtain⟨H0,H1,H2,H3,H4,H5,H6,H7,H8,H9,H10,H11⟩:=hF;simp[wAd] at hdep;have HCL:=zh hcl;have HN:=zh hn;clear hcl hn;have x0:=H7.o.cell 0;have x1:=H7.o.cell 1;have x2:=H7.o.cell 2;simp at x0 x1 x2;have lS:=H7.o.lt;go_simp
       have hk:=hK.out (.agg #[.int .i64 tm,.slice A5 n5 c5,.slice AF5 nf5 cf5]) wr (by
        rw[HFD.o]
        exact⟨H0,zh ((fun _=>rfl)),H2,H3,H4,H5,H6,H7,H8,H9,H10,H11⟩)
       simp only[wAf,wAa,wAb,wAc] at hk;exact hk
      ·intro l v wr hn hdep hcl hF K hK;rw[HFD.o] at hF;obtain⟨H0,H1,H2,H3,H4,H5,H6,H7,H8,H9,H10,H11⟩:=hF;simp[wAd] at hdep;have HCL:=zh hcl;have HN:=zh hn;clear hcl hn;have x0:=H8.o.cell 0;have x1:=H8.o.cell 1;simp at x0 x1;have lS:=H8.o.lt;go_simp
       have hk:=hK.out (.agg #[.int .i64 g1,.int .i64 g2]) wr (by
        rw[HFD.o]
        exact⟨H0,H1,zh ((fun _=>rfl)),H3,H4,H5,H6,H7,H8,H9,H10,H11⟩)
       simp only[wAf,wAa,wAb,wAc] at hk;exact hk
      ·intro l v wr hn hdep hcl hF K hK;rw[HFD.o] at hF;obtain⟨H0,H1,H2,H3,H4,H5,H6,H7,H8,H9,H10,H11⟩:=hF;simp[wAd] at hdep;have HCL:=zh hcl;have HN:=zh hn;clear hcl hn;have e0:=H0.o (by simp[hdep]);obtain⟨d0,d1,d2,hblk,_⟩:=H3.o;have x0:=hblk.cell 0;have xf0:=hblk.frozen 0;have x1:=hblk.cell 1;have xf1:=hblk.frozen 1;have x2:=hblk.cell 2;have xf2:=hblk.frozen 2;simp at x0 x1 x2;have lT:=hblk.lt;have HBK:=zh hblk;clear hblk;go_simp
       have hk:=hK.out undef (((wr.setCell ⟨M,0,none⟩ (.int .i64 tn)).setCell ⟨M,1,none⟩ (.slice A4 n4 c4)).setCell ⟨M,2,none⟩ (.slice AF4 nf4 cf4)) (by
        rw[HFD.o]
        exact⟨H0,H1,H2,zh (⟨_,_,_,(((HBK.o.set_ 0 _).set_ 1 _).set_ 2 _),fun _=>rfl⟩),zh ((by obtain⟨g0,g1,g2,hb2,hs2⟩:=H4.o;exact⟨g0,g1,g2,(((hb2.far (p:=⟨M,0,none⟩) hNM _).far (p:=⟨M,1,none⟩) hNM _).far (p:=⟨M,2,none⟩) hNM _),hs2⟩)),zh ((by obtain⟨g0,g1,hb2,hs2⟩:=H5.o;exact⟨g0,g1,(((hb2.far (p:=⟨M,0,none⟩) hRM _).far (p:=⟨M,1,none⟩) hRM _).far (p:=⟨M,2,none⟩) hRM _),hs2⟩)),zh ((((H6.o.far (p:=⟨M,0,none⟩) hSM _).far (p:=⟨M,1,none⟩) hSM _).far (p:=⟨M,2,none⟩) hSM _)),zh ((((H7.o.far (p:=⟨M,0,none⟩) hTM _).far (p:=⟨M,1,none⟩) hTM _).far (p:=⟨M,2,none⟩) hTM _)),zh ((((H8.o.far (p:=⟨M,0,none⟩) hPM _).far (p:=⟨M,1,none⟩) hPM _).far (p:=⟨M,2,none⟩) hPM _)),zh ((((H9.o.setCell (p:=⟨M,0,none⟩) (by exact hwM) _).setCell (p:=⟨M,1,none⟩) (by exact hwM) _).setCell (p:=⟨M,2,none⟩) (by exact hwM) _)),zh ((((H10.o.set (p:=⟨M,0,none⟩) (by exact hM3) _).set (p:=⟨M,1,none⟩) (by exact hM3) _).set (p:=⟨M,2,none⟩) (by exact hM3) _)),zh ((((H11.o.set (p:=⟨M,0,none⟩) (by exact hM4) _).set (p:=⟨M,1,none⟩) (by exact hM4) _).set (p:=⟨M,2,none⟩) (by exact hM4) _))⟩)
       simp only[wAf,wAa,wAb,wAc] at hk;simp only[e0] at hk;exact hk
      ·intro l v wr hn hdep hcl hF K hK;rw[HFD.o] at hF;obtain⟨H0,H1,H2,H3,H4,H5,H6,H7,H8,H9,H10,H11⟩:=hF;simp[wAd] at hdep;have HCL:=zh hcl;have HN:=zh hn;clear hcl hn;have e1:=H1.o (by simp[hdep]);obtain⟨d0,d1,d2,hblk,_⟩:=H4.o;have x0:=hblk.cell 0;have xf0:=hblk.frozen 0;have x1:=hblk.cell 1;have xf1:=hblk.frozen 1;have x2:=hblk.cell 2;have xf2:=hblk.frozen 2;simp at x0 x1 x2;have lT:=hblk.lt;have HBK:=zh hblk;clear hblk;go_simp
       have hk:=hK.out undef (((wr.setCell ⟨N,0,none⟩ (.int .i64 tm)).setCell ⟨N,1,none⟩ (.slice A5 n5 c5)).setCell ⟨N,2,none⟩ (.slice AF5 nf5 cf5)) (by
        rw[HFD.o]
        exact⟨H0,H1,H2,zh ((by obtain⟨g0,g1,g2,hb2,hs2⟩:=H3.o;exact⟨g0,g1,g2,(((hb2.far (p:=⟨N,0,none⟩) hMN _).far (p:=⟨N,1,none⟩) hMN _).far (p:=⟨N,2,none⟩) hMN _),hs2⟩)),zh (⟨_,_,_,(((HBK.o.set_ 0 _).set_ 1 _).set_ 2 _),fun _=>rfl⟩),zh ((by obtain⟨g0,g1,hb2,hs2⟩:=H5.o;exact⟨g0,g1,(((hb2.far (p:=⟨N,0,none⟩) hRN _).far (p:=⟨N,1,none⟩) hRN _).far (p:=⟨N,2,none⟩) hRN _),hs2⟩)),zh ((((H6.o.far (p:=⟨N,0,none⟩) hSN _).far (p:=⟨N,1,none⟩) hSN _).far (p:=⟨N,2,none⟩) hSN _)),zh ((((H7.o.far (p:=⟨N,0,none⟩) hTN _).far (p:=⟨N,1,none⟩) hTN _).far (p:=⟨N,2,none⟩) hTN _)),zh ((((H8.o.far (p:=⟨N,0,none⟩) hPN _).far (p:=⟨N,1,none⟩) hPN _).far (p:=⟨N,2,none⟩) hPN _)),zh ((((H9.o.setCell (p:=⟨N,0,none⟩) (by exact hwN) _).setCell (p:=⟨N,1,none⟩) (by exact hwN) _).setCell (p:=⟨N,2,none⟩) (by exact hwN) _)),zh ((((H10.o.set (p:=⟨N,0,none⟩) (by exact hN3) _).set (p:=⟨N,1,none⟩) (by exact hN3) _).set (p:=⟨N,2,none⟩) (by exact hN3) _)),zh ((((H11.o.set (p:=⟨N,0,none⟩) (by exact hN4) _).set (p:=⟨N,1,none⟩) (by exact hN4) _).set (p:=⟨N,2,none⟩) (by exact hN4) _))⟩)
       simp only[wAf,wAa,wAb,wAc] at hk;simp only[e1] at hk;exact hk
      ·intro l v wr hn hdep hcl hF K hK;rw[HFD.o] at hF;obtain⟨H0,H1,H2,H3,H4,H5,H6,H7,H8,H9,H10,H11⟩:=hF;simp[wAd] at hdep;have HCL:=zh hcl;have HN:=zh hn;clear hcl hn;have e2:=H2.o (by simp[hdep]);obtain⟨d0,d1,hblk,_⟩:=H5.o;have x0:=hblk.cell 0;have xf0:=hblk.frozen 0;have x1:=hblk.cell 1;have xf1:=hblk.frozen 1;simp at x0 x1;have lT:=hblk.lt;have HBK:=zh hblk;clear hblk;go_simp
       have hk:=hK.out undef ((wr.setCell ⟨R,0,none⟩ (.int .i64 g1)).setCell ⟨R,1,none⟩ (.int .i64 g2)) (by
        rw[HFD.o]
        exact⟨H0,H1,H2,zh ((by obtain⟨g0,g1,g2,hb2,hs2⟩:=H3.o;exact⟨g0,g1,g2,((hb2.far (p:=⟨R,0,none⟩) hMR _).far (p:=⟨R,1,none⟩) hMR _),hs2⟩)),zh ((by obtain⟨g0,g1,g2,hb2,hs2⟩:=H4.o;exact⟨g0,g1,g2,((hb2.far (p:=⟨R,0,none⟩) hNR _).far (p:=⟨R,1,none⟩) hNR _),hs2⟩)),zh (⟨_,_,((HBK.o.set_ 0 _).set_ 1 _),fun _=>rfl⟩),zh (((H6.o.far (p:=⟨R,0,none⟩) hSR _).far (p:=⟨R,1,none⟩) hSR _)),zh (((H7.o.far (p:=⟨R,0,none⟩) hTR _).far (p:=⟨R,1,none⟩) hTR _)),zh (((H8.o.far (p:=⟨R,0,none⟩) hPR _).far (p:=⟨R,1,none⟩) hPR _)),zh (((H9.o.setCell (p:=⟨R,0,none⟩) (by exact hwR) _).setCell (p:=⟨R,1,none⟩) (by exact hwR) _)),zh (((H10.o.set (p:=⟨R,0,none⟩) (by exact hR3) _).set (p:=⟨R,1,none⟩) (by exact hR3) _)),zh (((H11.o.set (p:=⟨R,0,none⟩) (by exact hR4) _).set (p:=⟨R,1,none⟩) (by exact hR4) _))⟩)
       simp only[wAf,wAa,wAb,wAc] at hk;simp only[e2] at hk;exact hk
    ·have hf:fEq g1 g2 0 0=true:=hq.symm;clear hq;have HZ4:=zh (show (detW b).2=(0,0) by have h:=hf;rw[HF1.o,HF2.o] at h;exact fEq0A.1 h);(have z1:g1=0:=by rw[HF1.o,HZ4.o]);(have z2:g2=0:=by rw[HF2.o,HZ4.o]);have hf0:fEq 0 0 0 0=true:=rfl;clear HF1 HF2 hf;subst z1 z2;have x0:=bS.o.cell 0;have x1:=bS.o.cell 1;have x2:=bS.o.cell 2;simp at x0 x1 x2;have lS:=bS.o.lt;have HLN:=zh (show ta.arcs.length≤2000 by obtain⟨S',hS'⟩:=zAW HZ3.o;rw[HTA.o];exact hS'.len);obtain⟨nl,hnl⟩:∃ z,z=(setI (ta.arcs.map (·.i))).length:=⟨_,rfl⟩;have HNL:=zh hnl;by_cases h3:300<nl
     ·have t3:decide ((nl:Int)>300)=true:=decide_eq_true (by omega);have t3':decide ((300:Int)<(nl:Int))=true:=decide_eq_true (by omega);have HEQ:=zh (show bothF a b=(17,-1) by unfold bothF;rw[if_neg (fun g=>g HZP.o),if_neg (fun g=>g HZP2.o),if_neg (fun g=>g HZ3.o),if_neg (fun g=>g HZ4.o),if_pos (show 300<(labD (detW a).1).length by rw[← HTA.o];unfold labD;omega)]);have HNZ:=zh (show bothF a b≠(0,0) by rw[HEQ.o];decide);clear h3 hnl;(go_upto_region 12 with (go_at_call 52;refine (zB8 _ ta W5 (HMN.o.below HB4.o (wAg _)).at_ HLN.o).mono ?_;rintro e w6 ⟨A6,c6,rfl,_,hb6⟩;rw[← HNL.o];have HB6:=zh hb6;clear hb6));clear p0 p1 x0 x1 x2 lP lS t3 t3';replace bS:=zh (bS.o.below HB6.o bS.o.lt);replace bT:=zh (bT.o.below HB6.o bT.o.lt);replace bP:=zh (bP.o.below HB6.o bP.o.lt);replace bM:=zh (bM.o.below HB6.o bM.o.lt);replace bN:=zh (bN.o.below HB6.o bN.o.lt);replace bR:=zh (bR.o.below HB6.o bR.o.lt);replace HB4:=zh (HB4.o.trans (HB6.o.mono HB4.o.size));replace HMM:=zh (HMM.o.below HB6.o (wAg _));replace HW:=zh (HW.o.trans (HB6.o.mono HW.o.size));clear HB6;(go_upto_region 13 with (go_at_call 59;refine (zBY _ _ _).mono ?_;rintro e w7 ⟨rfl,hb7⟩;have HB7:=zh hb7;have bP7:=zh (bP.o.below hb7 bP.o.lt);clear hb7;have p0:=bP7.o.cell 0;have p1:=bP7.o.cell 1;simp at p0 p1;have pf0:=bP7.o.frozen 0;have pf1:=bP7.o.frozen 1;have lP:=bP7.o.lt));clear p0 p1 pf0 pf1 lP he he2;have bPn:=zh ((bP7.o.set_ 0 (.int .i64 17)).set_ 1 (.int .i64 (-1)));replace bS:=zh (((bS.o.below HB7.o bS.o.lt).far (p:=⟨P,0,none⟩) hSP (.int .i64 17)).far (p:=⟨P,1,none⟩) hSP (.int .i64 (-1)));replace bT:=zh (((bT.o.below HB7.o bT.o.lt).far (p:=⟨P,0,none⟩) hTP (.int .i64 17)).far (p:=⟨P,1,none⟩) hTP (.int .i64 (-1)));replace bM:=zh (((bM.o.below HB7.o bM.o.lt).far (p:=⟨P,0,none⟩) hMP (.int .i64 17)).far (p:=⟨P,1,none⟩) hMP (.int .i64 (-1)));replace bN:=zh (((bN.o.below HB7.o bN.o.lt).far (p:=⟨P,0,none⟩) hNP (.int .i64 17)).far (p:=⟨P,1,none⟩) hNP (.int .i64 (-1)));replace bR:=zh (((bR.o.below HB7.o bR.o.lt).far (p:=⟨P,0,none⟩) hRP (.int .i64 17)).far (p:=⟨P,1,none⟩) hRP (.int .i64 (-1)));replace HMM:=zh (((HMM.o.below HB7.o (wAg _)).set (p:=⟨P,0,none⟩) lP4 (.int .i64 17)).set (p:=⟨P,1,none⟩) lP4 (.int .i64 (-1)));replace HB4:=zh (((HB4.o.trans (HB7.o.mono HB4.o.size)).setCell (p:=⟨P,0,none⟩) hP4 (.int .i64 17)).setCell (p:=⟨P,1,none⟩) hP4 (.int .i64 (-1)));replace HW:=zh (((HW.o.trans (HB7.o.mono HW.o.size)).setCell (p:=⟨P,0,none⟩) hwP (.int .i64 17)).setCell (p:=⟨P,1,none⟩) hwP (.int .i64 (-1)));generalize hW7:World.setCell _ _ _=W7;rw[hW7] at bS bT bM bN bR HMM HB4 HW bPn;clear hW7 bP bP7 HB7;have bP:=bPn;clear bPn
      obtain⟨F,hF⟩:∃ F:(Nat→Bool)→(Nat→Value)→World→Prop,F=fun l v wr =>
       Hid ((l 0=true→v 0=(.agg #[.int .i64 tn,.slice A4 n4 c4,.slice AF4 nf4 cf4]))) ∧
       Hid ((l 1=true→v 1=(.agg #[.int .i64 tm,.slice A5 n5 c5,.slice AF5 nf5 cf5]))) ∧
       Hid ((l 2=true→v 2=(.agg #[.int .i64 17,.int .i64 (-1)]))) ∧
       Hid ((∃ cq0 cq1 cq2,Blk wr M 25 #[cq0,cq1,cq2]∧(l 3=true→#[cq0,cq1,cq2]=#[.int .i64 tn,.slice A4 n4 c4,.slice AF4 nf4 cf4]))) ∧
       Hid ((∃ cq0 cq1 cq2,Blk wr N 25 #[cq0,cq1,cq2]∧(l 4=true→#[cq0,cq1,cq2]=#[.int .i64 tm,.slice A5 n5 c5,.slice AF5 nf5 cf5]))) ∧
       Hid ((∃ cq0 cq1,Blk wr R 28 #[cq0,cq1]∧(l 5=true→#[cq0,cq1]=#[.int .i64 17,.int .i64 (-1)]))) ∧
       Hid (Blk wr S 25 #[.int .i64 tn,.slice A4 n4 c4,.slice AF4 nf4 cf4]) ∧
       Hid (Blk wr T 25 #[.int .i64 tm,.slice A5 n5 c5,.slice AF5 nf5 cf5]) ∧
       Hid (Blk wr P 28 #[.int .i64 17,.int .i64 (-1)]) ∧
       Hid (Below w.heap.size w wr) ∧
       Hid (MachNew W3.heap.size wr (.agg #[.int .i64 tn,.slice A4 n4 c4,.slice AF4 nf4 cf4]) ta) ∧
       Hid (MachNew W4.heap.size wr (.agg #[.int .i64 tm,.slice A5 n5 c5,.slice AF5 nf5 cf5]) tb):=⟨_,rfl⟩
      have HFD:=zh hF;clear hF;refine zAj F (A:=?AR5) ?hA (by kernel_rfl) (by kernel_rfl) (by kernel_rfl) ?h0 ?hend ?hsteps
      case hA=>intro v;simp only[putR,wAf,wAa,wAb,wAc,wAh,wAi];exact rfl
      case h0 =>
       intro v;rw[HFD.o];exact⟨zh (nofun),zh (nofun),zh (nofun),zh (⟨_,_,_,bM.o.drew,nofun⟩),zh (⟨_,_,_,bN.o.drew,nofun⟩),zh (⟨_,_,bR.o.drew,nofun⟩),zh (bS.o.drew),zh (bT.o.drew),zh (bP.o.drew),zh (HW.o.drew),zh ((HMN.o.below HB4.o (wAg _)).drew),zh (HMM.o.drew)⟩
      case hend =>
       intro l v wr hall hF;rw[HFD.o] at hF;obtain⟨H0,H1,H2,H3,H4,H5,H6,H7,H8,H9,H10,H11⟩:=hF;have f0:=H0.o;have f1:=H1.o;have f2:=H2.o;have f3:=H3.o;have f4:=H4.o;have f5:=H5.o;have f6:=H6.o;have f7:=H7.o;have f8:=H8.o;have f9:=H9.o;have f10:=H10.o;have f11:=H11.o;clear H0 H1 H2 H3 H4 H5 H6 H7 H8 H9 H10 H11;obtain⟨z0,z1,z2,hbM,hsM⟩:=f3;have hsM:=hsM (hall 3 (by simp));rw[hsM] at hbM;have qM0:=hbM.cell 0;have qfM0:=hbM.frozen 0;have qM1:=hbM.cell 1;have qfM1:=hbM.frozen 1;have qM2:=hbM.cell 2;have qfM2:=hbM.frozen 2;simp at qM0 qM1 qM2;have lM:=hbM.lt;clear hsM hbM;obtain⟨z0,z1,z2,hbN,hsN⟩:=f4;have hsN:=hsN (hall 4 (by simp));rw[hsN] at hbN;have qN0:=hbN.cell 0;have qfN0:=hbN.frozen 0;have qN1:=hbN.cell 1;have qfN1:=hbN.frozen 1;have qN2:=hbN.cell 2;have qfN2:=hbN.frozen 2;simp at qN0 qN1 qN2;have lN:=hbN.lt;clear hsN hbN;obtain⟨z0,z1,hbR,hsR⟩:=f5;have hsR:=hsR (hall 5 (by simp));rw[hsR] at hbR;have qR0:=hbR.cell 0;have qfR0:=hbR.frozen 0;have qR1:=hbR.cell 1;have qfR1:=hbR.frozen 1;simp at qR0 qR1;have lR:=hbR.lt;clear hsR hbR;have HBF0:=zh f9;have HX0:=zh f10;have HX1:=zh f11;clear f0 f1 f2 f6 f7 f8 f9 f10 f11 hall;go_wp21;refine bodyPost_ret (v:=.tuple #[.agg #[.int .i64 tn,.slice A4 n4 c4,.slice AF4 nf4 cf4],.agg #[.int .i64 tm,.slice A5 n5 c5,.slice AF5 nf5 cf5],.agg #[.int .i64 17,.int .i64 (-1)]]) (by simp[results,Try.results50,go_sem,hMN,hMR,hNM,hNR,hRM,hRN,lM,qM0,qM1,qM2,qfM0,qfM1,qfM2,lN,qN0,qN1,qN2,qfN0,qfN1,qfN2,lR,qR0,qR1,qfR0,qfR1]) rfl ?_;have HBF:=HBF0.o;exact⟨_,_,ta,tb,by rw[HEQ.o],HX0.o.at_,HX1.o.at_,(fun h=>absurd h HNZ.o),HBF⟩
      case hsteps =>
       refine wAe (n:=0) ?_ (wAe (n:=1) ?_ (wAe (n:=2) ?_ (wAe (n:=3) ?_ (wAe (n:=4) ?_ (wAe (n:=5) ?_ (trivial))))))
       ·intro l v wr hn hdep hcl hF K hK;rw[HFD.o] at hF;obtain⟨H0,H1,H2,H3,H4,H5,H6,H7,H8,H9,H10,H11⟩:=hF;simp[wAd] at hdep;have HCL:=zh hcl;have HN:=zh hn;clear hcl hn;have x0:=H6.o.cell 0;have x1:=H6.o.cell 1;have x2:=H6.o.cell 2;simp at x0 x1 x2;have lS:=H6.o.lt;go_simp
        have hk:=hK.out (.agg #[.int .i64 tn,.slice A4 n4 c4,.slice AF4 nf4 cf4]) wr (by
         rw[HFD.o]
         exact⟨zh ((fun _=>rfl)),H1,H2,H3,H4,H5,H6,H7,H8,H9,H10,H11⟩)
        simp only[wAf,wAa,wAb,wAc] at hk;exact hk
       ·intro l v wr hn hdep hcl hF K hK;rw[HFD.o] at hF;obtain⟨H0,H1,H2,H3,H4,H5,H6,H7,H8,H9,H10,H11⟩:=hF;simp[wAd] at hdep;have HCL:=zh hcl;have HN:=zh hn;clear hcl hn;have x0:=H7.o.cell 0;have x1:=H7.o.cell 1;have x2:=H7.o.cell 2;simp at x0 x1 x2;have lS:=H7.o.lt;go_simp
        have hk:=hK.out (.agg #[.int .i64 tm,.slice A5 n5 c5,.slice AF5 nf5 cf5]) wr (by
         rw[HFD.o]
         exact⟨H0,zh ((fun _=>rfl)),H2,H3,H4,H5,H6,H7,H8,H9,H10,H11⟩)
        simp only[wAf,wAa,wAb,wAc] at hk;exact hk
       ·intro l v wr hn hdep hcl hF K hK;rw[HFD.o] at hF;obtain⟨H0,H1,H2,H3,H4,H5,H6,H7,H8,H9,H10,H11⟩:=hF;simp[wAd] at hdep;have HCL:=zh hcl;have HN:=zh hn;clear hcl hn;have x0:=H8.o.cell 0;have x1:=H8.o.cell 1;simp at x0 x1;have lS:=H8.o.lt;go_simp
        have hk:=hK.out (.agg #[.int .i64 17,.int .i64 (-1)]) wr (by
         rw[HFD.o]
         exact⟨H0,H1,zh ((fun _=>rfl)),H3,H4,H5,H6,H7,H8,H9,H10,H11⟩)
        simp only[wAf,wAa,wAb,wAc] at hk;exact hk
       ·intro l v wr hn hdep hcl hF K hK;rw[HFD.o] at hF;obtain⟨H0,H1,H2,H3,H4,H5,H6,H7,H8,H9,H10,H11⟩:=hF;simp[wAd] at hdep;have HCL:=zh hcl;have HN:=zh hn;clear hcl hn;have e0:=H0.o (by simp[hdep]);obtain⟨d0,d1,d2,hblk,_⟩:=H3.o;have x0:=hblk.cell 0;have xf0:=hblk.frozen 0;have x1:=hblk.cell 1;have xf1:=hblk.frozen 1;have x2:=hblk.cell 2;have xf2:=hblk.frozen 2;simp at x0 x1 x2;have lT:=hblk.lt;have HBK:=zh hblk;clear hblk;go_simp
        have hk:=hK.out undef (((wr.setCell ⟨M,0,none⟩ (.int .i64 tn)).setCell ⟨M,1,none⟩ (.slice A4 n4 c4)).setCell ⟨M,2,none⟩ (.slice AF4 nf4 cf4)) (by
         rw[HFD.o]
         exact⟨H0,H1,H2,zh (⟨_,_,_,(((HBK.o.set_ 0 _).set_ 1 _).set_ 2 _),fun _=>rfl⟩),zh ((by obtain⟨g0,g1,g2,hb2,hs2⟩:=H4.o;exact⟨g0,g1,g2,(((hb2.far (p:=⟨M,0,none⟩) hNM _).far (p:=⟨M,1,none⟩) hNM _).far (p:=⟨M,2,none⟩) hNM _),hs2⟩)),zh ((by obtain⟨g0,g1,hb2,hs2⟩:=H5.o;exact⟨g0,g1,(((hb2.far (p:=⟨M,0,none⟩) hRM _).far (p:=⟨M,1,none⟩) hRM _).far (p:=⟨M,2,none⟩) hRM _),hs2⟩)),zh ((((H6.o.far (p:=⟨M,0,none⟩) hSM _).far (p:=⟨M,1,none⟩) hSM _).far (p:=⟨M,2,none⟩) hSM _)),zh ((((H7.o.far (p:=⟨M,0,none⟩) hTM _).far (p:=⟨M,1,none⟩) hTM _).far (p:=⟨M,2,none⟩) hTM _)),zh ((((H8.o.far (p:=⟨M,0,none⟩) hPM _).far (p:=⟨M,1,none⟩) hPM _).far (p:=⟨M,2,none⟩) hPM _)),zh ((((H9.o.setCell (p:=⟨M,0,none⟩) (by exact hwM) _).setCell (p:=⟨M,1,none⟩) (by exact hwM) _).setCell (p:=⟨M,2,none⟩) (by exact hwM) _)),zh ((((H10.o.set (p:=⟨M,0,none⟩) (by exact hM3) _).set (p:=⟨M,1,none⟩) (by exact hM3) _).set (p:=⟨M,2,none⟩) (by exact hM3) _)),zh ((((H11.o.set (p:=⟨M,0,none⟩) (by exact hM4) _).set (p:=⟨M,1,none⟩) (by exact hM4) _).set (p:=⟨M,2,none⟩) (by exact hM4) _))⟩)
        simp only[wAf,wAa,wAb,wAc] at hk;simp only[e0] at hk;exact hk
       ·intro l v wr hn hdep hcl hF K hK;rw[HFD.o] at hF;obtain⟨H0,H1,H2,H3,H4,H5,H6,H7,H8,H9,H10,H11⟩:=hF;simp[wAd] at hdep;have HCL:=zh hcl;have HN:=zh hn;clear hcl hn;have e1:=H1.o (by simp[hdep]);obtain⟨d0,d1,d2,hblk,_⟩:=H4.o;have x0:=hblk.cell 0;have xf0:=hblk.frozen 0;have x1:=hblk.cell 1;have xf1:=hblk.frozen 1;have x2:=hblk.cell 2;have xf2:=hblk.frozen 2;simp at x0 x1 x2;have lT:=hblk.lt;have HBK:=zh hblk;clear hblk;go_simp
        have hk:=hK.out undef (((wr.setCell ⟨N,0,none⟩ (.int .i64 tm)).setCell ⟨N,1,none⟩ (.slice A5 n5 c5)).setCell ⟨N,2,none⟩ (.slice AF5 nf5 cf5)) (by
         rw[HFD.o]
         exact⟨H0,H1,H2,zh ((by obtain⟨g0,g1,g2,hb2,hs2⟩:=H3.o;exact⟨g0,g1,g2,(((hb2.far (p:=⟨N,0,none⟩) hMN _).far (p:=⟨N,1,none⟩) hMN _).far (p:=⟨N,2,none⟩) hMN _),hs2⟩)),zh (⟨_,_,_,(((HBK.o.set_ 0 _).set_ 1 _).set_ 2 _),fun _=>rfl⟩),zh ((by obtain⟨g0,g1,hb2,hs2⟩:=H5.o;exact⟨g0,g1,(((hb2.far (p:=⟨N,0,none⟩) hRN _).far (p:=⟨N,1,none⟩) hRN _).far (p:=⟨N,2,none⟩) hRN _),hs2⟩)),zh ((((H6.o.far (p:=⟨N,0,none⟩) hSN _).far (p:=⟨N,1,none⟩) hSN _).far (p:=⟨N,2,none⟩) hSN _)),zh ((((H7.o.far (p:=⟨N,0,none⟩) hTN _).far (p:=⟨N,1,none⟩) hTN _).far (p:=⟨N,2,none⟩) hTN _)),zh ((((H8.o.far (p:=⟨N,0,none⟩) hPN _).far (p:=⟨N,1,none⟩) hPN _).far (p:=⟨N,2,none⟩) hPN _)),zh ((((H9.o.setCell (p:=⟨N,0,none⟩) (by exact hwN) _).setCell (p:=⟨N,1,none⟩) (by exact hwN) _).setCell (p:=⟨N,2,none⟩) (by exact hwN) _)),zh ((((H10.o.set (p:=⟨N,0,none⟩) (by exact hN3) _).set (p:=⟨N,1,none⟩) (by exact hN3) _).set (p:=⟨N,2,none⟩) (by exact hN3) _)),zh ((((H11.o.set (p:=⟨N,0,none⟩) (by exact hN4) _).set (p:=⟨N,1,none⟩) (by exact hN4) _).set (p:=⟨N,2,none⟩) (by exact hN4) _))⟩)
        simp only[wAf,wAa,wAb,wAc] at hk;simp only[e1] at hk;exact hk
       ·intro l v wr hn hdep hcl hF K hK;rw[HFD.o] at hF;obtain⟨H0,H1,H2,H3,H4,H5,H6,H7,H8,H9,H10,H11⟩:=hF;simp[wAd] at hdep;have HCL:=zh hcl;have HN:=zh hn;clear hcl hn;have e2:=H2.o (by simp[hdep]);obtain⟨d0,d1,hblk,_⟩:=H5.o;have x0:=hblk.cell 0;have xf0:=hblk.frozen 0;have x1:=hblk.cell 1;have xf1:=hblk.frozen 1;simp at x0 x1;have lT:=hblk.lt;have HBK:=zh hblk;clear hblk;go_simp
        have hk:=hK.out undef ((wr.setCell ⟨R,0,none⟩ (.int .i64 17)).setCell ⟨R,1,none⟩ (.int .i64 (-1))) (by
         rw[HFD.o]
         exact⟨H0,H1,H2,zh ((by obtain⟨g0,g1,g2,hb2,hs2⟩:=H3.o;exact⟨g0,g1,g2,((hb2.far (p:=⟨R,0,none⟩) hMR _).far (p:=⟨R,1,none⟩) hMR _),hs2⟩)),zh ((by obtain⟨g0,g1,g2,hb2,hs2⟩:=H4.o;exact⟨g0,g1,g2,((hb2.far (p:=⟨R,0,none⟩) hNR _).far (p:=⟨R,1,none⟩) hNR _),hs2⟩)),zh (⟨_,_,((HBK.o.set_ 0 _).set_ 1 _),fun _=>rfl⟩),zh (((H6.o.far (p:=⟨R,0,none⟩) hSR _).far (p:=⟨R,1,none⟩) hSR _)),zh (((H7.o.far (p:=⟨R,0,none⟩) hTR _).far (p:=⟨R,1,none⟩) hTR _)),zh (((H8.o.far (p:=⟨R,0,none⟩) hPR _).far (p:=⟨R,1,none⟩) hPR _)),zh (((H9.o.setCell (p:=⟨R,0,none⟩) (by exact hwR) _).setCell (p:=⟨R,1,none⟩) (by exact hwR) _)),zh (((H10.o.set (p:=⟨R,0,none⟩) (by exact hR3) _).set (p:=⟨R,1,none⟩) (by exact hR3) _)),zh (((H11.o.set (p:=⟨R,0,none⟩) (by exact hR4) _).set (p:=⟨R,1,none⟩) (by exact hR4) _))⟩)
        simp only[wAf,wAa,wAb,wAc] at hk;simp only[e2] at hk;exact hk
     ·have t3:decide ((nl:Int)>300)=false:=decide_eq_false (by omega);have t3':decide ((300:Int)<(nl:Int))=false:=decide_eq_false (by omega);have HEQ:=zh (show bothF a b=(0,0) by unfold bothF;rw[if_neg (fun g=>g HZP.o),if_neg (fun g=>g HZP2.o),if_neg (fun g=>g HZ3.o),if_neg (fun g=>g HZ4.o),if_neg (show ¬ 300<(labD (detW a).1).length by rw[← HTA.o];unfold labD;omega)]);clear h3 hnl;(go_upto_region 13 with (go_at_call 52;refine (zB8 _ ta W5 (HMN.o.below HB4.o (wAg _)).at_ HLN.o).mono ?_;rintro e w6 ⟨A6,c6,rfl,_,hb6⟩;rw[← HNL.o];have HB6:=zh hb6;clear hb6));clear p0 p1 x0 x1 x2 lP lS t3 t3' he he2;replace bS:=zh (bS.o.below HB6.o bS.o.lt);replace bT:=zh (bT.o.below HB6.o bT.o.lt);replace bP:=zh (bP.o.below HB6.o bP.o.lt);replace bM:=zh (bM.o.below HB6.o bM.o.lt);replace bN:=zh (bN.o.below HB6.o bN.o.lt);replace bR:=zh (bR.o.below HB6.o bR.o.lt);replace HB4:=zh (HB4.o.trans (HB6.o.mono HB4.o.size));replace HMM:=zh (HMM.o.below HB6.o (wAg _));replace HW:=zh (HW.o.trans (HB6.o.mono HW.o.size));clear HB6
      obtain⟨F,hF⟩:∃ F:(Nat→Bool)→(Nat→Value)→World→Prop,F=fun l v wr =>
       Hid ((l 0=true→v 0=(.agg #[.int .i64 tn,.slice A4 n4 c4,.slice AF4 nf4 cf4]))) ∧
       Hid ((l 1=true→v 1=(.agg #[.int .i64 tm,.slice A5 n5 c5,.slice AF5 nf5 cf5]))) ∧
       Hid ((l 2=true→v 2=(.agg #[.int .i64 0,.int .i64 0]))) ∧
       Hid ((∃ cq0 cq1 cq2,Blk wr M 25 #[cq0,cq1,cq2]∧(l 3=true→#[cq0,cq1,cq2]=#[.int .i64 tn,.slice A4 n4 c4,.slice AF4 nf4 cf4]))) ∧
       Hid ((∃ cq0 cq1 cq2,Blk wr N 25 #[cq0,cq1,cq2]∧(l 4=true→#[cq0,cq1,cq2]=#[.int .i64 tm,.slice A5 n5 c5,.slice AF5 nf5 cf5]))) ∧
       Hid ((∃ cq0 cq1,Blk wr R 28 #[cq0,cq1]∧(l 5=true→#[cq0,cq1]=#[.int .i64 0,.int .i64 0]))) ∧
       Hid (Blk wr S 25 #[.int .i64 tn,.slice A4 n4 c4,.slice AF4 nf4 cf4]) ∧
       Hid (Blk wr T 25 #[.int .i64 tm,.slice A5 n5 c5,.slice AF5 nf5 cf5]) ∧
       Hid (Blk wr P 28 #[.int .i64 0,.int .i64 0]) ∧
       Hid (Below w.heap.size w wr) ∧
       Hid (MachNew W3.heap.size wr (.agg #[.int .i64 tn,.slice A4 n4 c4,.slice AF4 nf4 cf4]) ta) ∧
       Hid (MachNew W4.heap.size wr (.agg #[.int .i64 tm,.slice A5 n5 c5,.slice AF5 nf5 cf5]) tb):=⟨_,rfl⟩
      have HFD:=zh hF;clear hF;refine zAj F (A:=?AR6) ?hA (by kernel_rfl) (by kernel_rfl) (by kernel_rfl) ?h0 ?hend ?hsteps
      case hA=>intro v;simp only[putR,wAf,wAa,wAb,wAc,wAh,wAi];exact rfl
      case h0 =>
       intro v;rw[HFD.o];exact⟨zh (nofun),zh (nofun),zh (nofun),zh (⟨_,_,_,bM.o.drew,nofun⟩),zh (⟨_,_,_,bN.o.drew,nofun⟩),zh (⟨_,_,bR.o.drew,nofun⟩),zh (bS.o.drew),zh (bT.o.drew),zh (bP.o.drew),zh (HW.o.drew),zh ((HMN.o.below HB4.o (wAg _)).drew),zh (HMM.o.drew)⟩
      case hend =>
       intro l v wr hall hF;rw[HFD.o] at hF;obtain⟨H0,H1,H2,H3,H4,H5,H6,H7,H8,H9,H10,H11⟩:=hF;have f0:=H0.o;have f1:=H1.o;have f2:=H2.o;have f3:=H3.o;have f4:=H4.o;have f5:=H5.o;have f6:=H6.o;have f7:=H7.o;have f8:=H8.o;have f9:=H9.o;have f10:=H10.o;have f11:=H11.o;clear H0 H1 H2 H3 H4 H5 H6 H7 H8 H9 H10 H11;obtain⟨z0,z1,z2,hbM,hsM⟩:=f3;have hsM:=hsM (hall 3 (by simp));rw[hsM] at hbM;have qM0:=hbM.cell 0;have qfM0:=hbM.frozen 0;have qM1:=hbM.cell 1;have qfM1:=hbM.frozen 1;have qM2:=hbM.cell 2;have qfM2:=hbM.frozen 2;simp at qM0 qM1 qM2;have lM:=hbM.lt;clear hsM hbM;obtain⟨z0,z1,z2,hbN,hsN⟩:=f4;have hsN:=hsN (hall 4 (by simp));rw[hsN] at hbN;have qN0:=hbN.cell 0;have qfN0:=hbN.frozen 0;have qN1:=hbN.cell 1;have qfN1:=hbN.frozen 1;have qN2:=hbN.cell 2;have qfN2:=hbN.frozen 2;simp at qN0 qN1 qN2;have lN:=hbN.lt;clear hsN hbN;obtain⟨z0,z1,hbR,hsR⟩:=f5;have hsR:=hsR (hall 5 (by simp));rw[hsR] at hbR;have qR0:=hbR.cell 0;have qfR0:=hbR.frozen 0;have qR1:=hbR.cell 1;have qfR1:=hbR.frozen 1;simp at qR0 qR1;have lR:=hbR.lt;clear hsR hbR;have HBF0:=zh f9;have HX0:=zh f10;have HX1:=zh f11;clear f0 f1 f2 f6 f7 f8 f9 f10 f11 hall;go_wp21;refine bodyPost_ret (v:=.tuple #[.agg #[.int .i64 tn,.slice A4 n4 c4,.slice AF4 nf4 cf4],.agg #[.int .i64 tm,.slice A5 n5 c5,.slice AF5 nf5 cf5],.agg #[.int .i64 0,.int .i64 0]]) (by simp[results,Try.results50,go_sem,hMN,hMR,hNM,hNR,hRM,hRN,lM,qM0,qM1,qM2,qfM0,qfM1,qfM2,lN,qN0,qN1,qN2,qfN0,qfN1,qfN2,lR,qR0,qR1,qfR0,qfR1]) rfl ?_;have HBF:=HBF0.o;exact⟨_,_,ta,tb,by rw[HEQ.o],HX0.o.at_,HX1.o.at_,(fun _=>⟨HTA.o,HTB.o⟩),HBF⟩
      case hsteps =>
       refine wAe (n:=0) ?_ (wAe (n:=1) ?_ (wAe (n:=2) ?_ (wAe (n:=3) ?_ (wAe (n:=4) ?_ (wAe (n:=5) ?_ (trivial))))))
       ·intro l v wr hn hdep hcl hF K hK;rw[HFD.o] at hF;obtain⟨H0,H1,H2,H3,H4,H5,H6,H7,H8,H9,H10,H11⟩:=hF;simp[wAd] at hdep;have HCL:=zh hcl;have HN:=zh hn;clear hcl hn;have x0:=H6.o.cell 0;have x1:=H6.o.cell 1;have x2:=H6.o.cell 2;simp at x0 x1 x2;have lS:=H6.o.lt;go_simp
        have hk:=hK.out (.agg #[.int .i64 tn,.slice A4 n4 c4,.slice AF4 nf4 cf4]) wr (by
         rw[HFD.o]
         exact⟨zh ((fun _=>rfl)),H1,H2,H3,H4,H5,H6,H7,H8,H9,H10,H11⟩)
        simp only[wAf,wAa,wAb,wAc] at hk;exact hk
       ·intro l v wr hn hdep hcl hF K hK;rw[HFD.o] at hF;obtain⟨H0,H1,H2,H3,H4,H5,H6,H7,H8,H9,H10,H11⟩:=hF;simp[wAd] at hdep;have HCL:=zh hcl;have HN:=zh hn;clear hcl hn;have x0:=H7.o.cell 0;have x1:=H7.o.cell 1;have x2:=H7.o.cell 2;simp at x0 x1 x2;have lS:=H7.o.lt;go_simp
        have hk:=hK.out (.agg #[.int .i64 tm,.slice A5 n5 c5,.slice AF5 nf5 cf5]) wr (by
         rw[HFD.o]
         exact⟨H0,zh ((fun _=>rfl)),H2,H3,H4,H5,H6,H7,H8,H9,H10,H11⟩)
        simp only[wAf,wAa,wAb,wAc] at hk;exact hk
       ·intro l v wr hn hdep hcl hF K hK;rw[HFD.o] at hF;obtain⟨H0,H1,H2,H3,H4,H5,H6,H7,H8,H9,H10,H11⟩:=hF;simp[wAd] at hdep;have HCL:=zh hcl;have HN:=zh hn;clear hcl hn;have x0:=H8.o.cell 0;have x1:=H8.o.cell 1;simp at x0 x1;have lS:=H8.o.lt;go_simp
        have hk:=hK.out (.agg #[.int .i64 0,.int .i64 0]) wr (by
         rw[HFD.o]
         exact⟨H0,H1,zh ((fun _=>rfl)),H3,H4,H5,H6,H7,H8,H9,H10,H11⟩)
        simp only[wAf,wAa,wAb,wAc] at hk;exact hk
       ·intro l v wr hn hdep hcl hF K hK;rw[HFD.o] at hF;obtain⟨H0,H1,H2,H3,H4,H5,H6,H7,H8,H9,H10,H11⟩:=hF;simp[wAd] at hdep;have HCL:=zh hcl;have HN:=zh hn;clear hcl hn;have e0:=H0.o (by simp[hdep]);obtain⟨d0,d1,d2,hblk,_⟩:=H3.o;have x0:=hblk.cell 0;have xf0:=hblk.frozen 0;have x1:=hblk.cell 1;have xf1:=hblk.frozen 1;have x2:=hblk.cell 2;have xf2:=hblk.frozen 2;simp at x0 x1 x2;have lT:=hblk.lt;have HBK:=zh hblk;clear hblk;go_simp
        have hk:=hK.out undef (((wr.setCell ⟨M,0,none⟩ (.int .i64 tn)).setCell ⟨M,1,none⟩ (.slice A4 n4 c4)).setCell ⟨M,2,none⟩ (.slice AF4 nf4 cf4)) (by
         rw[HFD.o]
         exact⟨H0,H1,H2,zh (⟨_,_,_,(((HBK.o.set_ 0 _).set_ 1 _).set_ 2 _),fun _=>rfl⟩),zh ((by obtain⟨g0,g1,g2,hb2,hs2⟩:=H4.o;exact⟨g0,g1,g2,(((hb2.far (p:=⟨M,0,none⟩) hNM _).far (p:=⟨M,1,none⟩) hNM _).far (p:=⟨M,2,none⟩) hNM _),hs2⟩)),zh ((by obtain⟨g0,g1,hb2,hs2⟩:=H5.o;exact⟨g0,g1,(((hb2.far (p:=⟨M,0,none⟩) hRM _).far (p:=⟨M,1,none⟩) hRM _).far (p:=⟨M,2,none⟩) hRM _),hs2⟩)),zh ((((H6.o.far (p:=⟨M,0,none⟩) hSM _).far (p:=⟨M,1,none⟩) hSM _).far (p:=⟨M,2,none⟩) hSM _)),zh ((((H7.o.far (p:=⟨M,0,none⟩) hTM _).far (p:=⟨M,1,none⟩) hTM _).far (p:=⟨M,2,none⟩) hTM _)),zh ((((H8.o.far (p:=⟨M,0,none⟩) hPM _).far (p:=⟨M,1,none⟩) hPM _).far (p:=⟨M,2,none⟩) hPM _)),zh ((((H9.o.setCell (p:=⟨M,0,none⟩) (by exact hwM) _).setCell (p:=⟨M,1,none⟩) (by exact hwM) _).setCell (p:=⟨M,2,none⟩) (by exact hwM) _)),zh ((((H10.o.set (p:=⟨M,0,none⟩) (by exact hM3) _).set (p:=⟨M,1,none⟩) (by exact hM3) _).set (p:=⟨M,2,none⟩) (by exact hM3) _)),zh ((((H11.o.set (p:=⟨M,0,none⟩) (by exact hM4) _).set (p:=⟨M,1,none⟩) (by exact hM4) _).set (p:=⟨M,2,none⟩) (by exact hM4) _))⟩)
        simp only[wAf,wAa,wAb,wAc] at hk;simp only[e0] at hk;exact hk
       ·intro l v wr hn hdep hcl hF K hK;rw[HFD.o] at hF;obtain⟨H0,H1,H2,H3,H4,H5,H6,H7,H8,H9,H10,H11⟩:=hF;simp[wAd] at hdep;have HCL:=zh hcl;have HN:=zh hn;clear hcl hn;have e1:=H1.o (by simp[hdep]);obtain⟨d0,d1,d2,hblk,_⟩:=H4.o;have x0:=hblk.cell 0;have xf0:=hblk.frozen 0;have x1:=hblk.cell 1;have xf1:=hblk.frozen 1;have x2:=hblk.cell 2;have xf2:=hblk.frozen 2;simp at x0 x1 x2;have lT:=hblk.lt;have HBK:=zh hblk;clear hblk;go_simp
        have hk:=hK.out undef (((wr.setCell ⟨N,0,none⟩ (.int .i64 tm)).setCell ⟨N,1,none⟩ (.slice A5 n5 c5)).setCell ⟨N,2,none⟩ (.slice AF5 nf5 cf5)) (by
         rw[HFD.o]
         exact⟨H0,H1,H2,zh ((by obtain⟨g0,g1,g2,hb2,hs2⟩:=H3.o;exact⟨g0,g1,g2,(((hb2.far (p:=⟨N,0,none⟩) hMN _).far (p:=⟨N,1,none⟩) hMN _).far (p:=⟨N,2,none⟩) hMN _),hs2⟩)),zh (⟨_,_,_,(((HBK.o.set_ 0 _).set_ 1 _).set_ 2 _),fun _=>rfl⟩),zh ((by obtain⟨g0,g1,hb2,hs2⟩:=H5.o;exact⟨g0,g1,(((hb2.far (p:=⟨N,0,none⟩) hRN _).far (p:=⟨N,1,none⟩) hRN _).far (p:=⟨N,2,none⟩) hRN _),hs2⟩)),zh ((((H6.o.far (p:=⟨N,0,none⟩) hSN _).far (p:=⟨N,1,none⟩) hSN _).far (p:=⟨N,2,none⟩) hSN _)),zh ((((H7.o.far (p:=⟨N,0,none⟩) hTN _).far (p:=⟨N,1,none⟩) hTN _).far (p:=⟨N,2,none⟩) hTN _)),zh ((((H8.o.far (p:=⟨N,0,none⟩) hPN _).far (p:=⟨N,1,none⟩) hPN _).far (p:=⟨N,2,none⟩) hPN _)),zh ((((H9.o.setCell (p:=⟨N,0,none⟩) (by exact hwN) _).setCell (p:=⟨N,1,none⟩) (by exact hwN) _).setCell (p:=⟨N,2,none⟩) (by exact hwN) _)),zh ((((H10.o.set (p:=⟨N,0,none⟩) (by exact hN3) _).set (p:=⟨N,1,none⟩) (by exact hN3) _).set (p:=⟨N,2,none⟩) (by exact hN3) _)),zh ((((H11.o.set (p:=⟨N,0,none⟩) (by exact hN4) _).set (p:=⟨N,1,none⟩) (by exact hN4) _).set (p:=⟨N,2,none⟩) (by exact hN4) _))⟩)
        simp only[wAf,wAa,wAb,wAc] at hk;simp only[e1] at hk;exact hk
       ·intro l v wr hn hdep hcl hF K hK;rw[HFD.o] at hF;obtain⟨H0,H1,H2,H3,H4,H5,H6,H7,H8,H9,H10,H11⟩:=hF;simp[wAd] at hdep;have HCL:=zh hcl;have HN:=zh hn;clear hcl hn;have e2:=H2.o (by simp[hdep]);obtain⟨d0,d1,hblk,_⟩:=H5.o;have x0:=hblk.cell 0;have xf0:=hblk.frozen 0;have x1:=hblk.cell 1;have xf1:=hblk.frozen 1;simp at x0 x1;have lT:=hblk.lt;have HBK:=zh hblk;clear hblk;go_simp
        have hk:=hK.out undef ((wr.setCell ⟨R,0,none⟩ (.int .i64 0)).setCell ⟨R,1,none⟩ (.int .i64 0)) (by
         rw[HFD.o]
         exact⟨H0,H1,H2,zh ((by obtain⟨g0,g1,g2,hb2,hs2⟩:=H3.o;exact⟨g0,g1,g2,((hb2.far (p:=⟨R,0,none⟩) hMR _).far (p:=⟨R,1,none⟩) hMR _),hs2⟩)),zh ((by obtain⟨g0,g1,g2,hb2,hs2⟩:=H4.o;exact⟨g0,g1,g2,((hb2.far (p:=⟨R,0,none⟩) hNR _).far (p:=⟨R,1,none⟩) hNR _),hs2⟩)),zh (⟨_,_,((HBK.o.set_ 0 _).set_ 1 _),fun _=>rfl⟩),zh (((H6.o.far (p:=⟨R,0,none⟩) hSR _).far (p:=⟨R,1,none⟩) hSR _)),zh (((H7.o.far (p:=⟨R,0,none⟩) hTR _).far (p:=⟨R,1,none⟩) hTR _)),zh (((H8.o.far (p:=⟨R,0,none⟩) hPR _).far (p:=⟨R,1,none⟩) hPR _)),zh (((H9.o.setCell (p:=⟨R,0,none⟩) (by exact hwR) _).setCell (p:=⟨R,1,none⟩) (by exact hwR) _)),zh (((H10.o.set (p:=⟨R,0,none⟩) (by exact hR3) _).set (p:=⟨R,1,none⟩) (by exact hR3) _)),zh (((H11.o.set (p:=⟨R,0,none⟩) (by exact hR4) _).set (p:=⟨R,1,none⟩) (by exact hR4) _))⟩)
        simp only[wAf,wAa,wAb,wAc] at hk;simp only[e2] at hk;exact hk
end Go.Proofs.Ytkfdhpbnphojoaa
