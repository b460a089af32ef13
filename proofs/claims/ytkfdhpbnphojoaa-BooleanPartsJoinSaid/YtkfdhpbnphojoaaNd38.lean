/- Part of the proof. -/
import Derived.Test.YtkfdhpbnphojoaaNd37
set_option linter.unusedSimpArgs false
set_option linter.unusedVariables false
set_option maxRecDepth 100000
set_option maxHeartbeats 16000000
open List renaming setIfInBounds_toArray→wAa,set_cons_zero→wAb,set_cons_succ→wAc
open Nat renaming reduceAdd→wAh,eq_zero_or_pos→wAi,zero_add→wAj,le_refl→wAk
open Go.Region renaming binds→wAd
open Gm.StepsR renaming cons→wAe
open Go.Act renaming put→wAf
open Gm.MachNew renaming empty→wAg
namespace Go.Proofs.Ytkfdhpbnphojoaa
open Go.RowKit Gm
theorem zMS (l:List Int) (A:Option Addr) (n c:Nat) (w:World) (B:Nat) (hB:B≤w.heap.size) (hl:l.length=n) (hn:n≤1000000) (h:Rd w B 1 A n (intCell l)) :
 Calls Try.prog 60 #[.slice A n c] w fun e w'=>∃ A' c',e=.returned (.slice A' n c')∧Nums w' w'.heap.size (.slice A' n c') l∧Below w.heap.size w w':=by
 rcases wAi n with h0 | h0
 ·subst h0;have hl0:l=[]:=List.eq_nil_of_length_eq_zero hl;subst hl0
  cases A with
  | none =>
   refine (Try.slices_Clone_int_nil 0 c w).mono ?_;rintro e w' ⟨rfl,rfl⟩;exact⟨none,0,rfl,zAZ (base:=0) (World.ownsRow_nil _ _ 3 1) (by unfold big;omega),Below.refl _ _⟩
  | some a =>
   refine (Try.slices_Clone_int_zero a c w).mono ?_;rintro e w' ⟨v',rfl,ho,_,hb⟩;obtain⟨A',c',rfl,_,_⟩:=zAa ho;exact⟨A',c',rfl,zAZ ho (by unfold big;omega),hb⟩
 ·refine (zF7 l A n c w B hl h0 hn h).mono ?_;rintro e w' ⟨v',rfl,ho,hb⟩;obtain⟨A',c',rfl,_,_⟩:=zAa ho;exact⟨A',c',rfl,zAZ ho (by unfold big;omega),hb⟩
theorem zDJ (va vl:Value) (a:Mach) (al:List Int) (w:World) (B:Nat) (hB:B≤w.heap.size) (ha:MachAt w B va a) (hl:Nums w B vl al) :
 Calls Try.prog 28 #[va,vl] w fun e w'=>∃ (r:Mach×(Int×Int)) (v1:Value),e=.returned (.tuple #[v1,.agg #[.int .i64 r.2.1,.int .i64 r.2.2]])∧CmpR a al r∧MachNew w.heap.size w' v1 r.1∧Below w.heap.size w w':=by
 have HA0:=zh ha;have HL0:=zh hl;obtain⟨A1,AF1,n1,c1,nf1,cf1,rfl,_,_,_,_,_,_,_,_⟩:=ha;obtain⟨AL,n,cl,rfl,HN,hnc,hnb,hRA⟩:=hl;have HRA:=zh hRA;unfold big at hnb;clear hRA;obtain⟨sa,hsa⟩:∃ z,z=a.n:=⟨_,rfl⟩;rw[← hsa] at HA0 ⊢;clear hsa;have he:=fun a b c d W=>zAn a b c d W
 go_enter Try.func28,Try.ntmps28
 go_upto_region 1 with fail
 generalize hW1:World.alloc _ _=W1;obtain⟨X,hX⟩:∃ z,z=w.heap.size:=⟨_,rfl⟩;obtain⟨M,hM⟩:∃ z,z=w.heap.size+1:=⟨_,rfl⟩;obtain⟨R,hR⟩:∃ z,z=w.heap.size+1+1:=⟨_,rfl⟩;have bX:=zh (show Blk W1 X 25 #[.int .i64 sa,.slice A1 n1 c1,.slice AF1 nf1 cf1] by rw[← hW1];exact ((Blk.at_ hX).alloc _).alloc _);have bM:=zh (show Blk W1 M 25 #[.int .i64 0,.slice none 0 0,.slice none 0 0] by rw[← hW1];exact (Blk.at_ (by simp[hM])).alloc _);have bR:=zh (show Blk W1 R 28 #[.int .i64 0,.int .i64 0] by rw[← hW1];exact Blk.at_ (by simp[hR]));have HW:=zh (show Below w.heap.size w W1 by rw[← hW1];go_grown);have hwM:w.heap.size≤M:=by omega
 have hwR:w.heap.size≤R:=by omega
 have hMR:M≠R:=by omega
 have hRM:R≠M:=by omega
 have e1:M+1=R:=by omega
 simp only[← hM];simp only[e1]
 try simp only[← hX]
 have x0:=bX.o.cell 0;have x1:=bX.o.cell 1;have x2:=bX.o.cell 2;simp at x0 x1 x2;have lX:=bX.o.lt;clear hW1 hX hM hR e1;obtain⟨f1,hf1⟩:∃ z,z=(accF a).1:=⟨_,rfl⟩;obtain⟨f2,hf2⟩:∃ z,z=(accF a).2:=⟨_,rfl⟩;have HF1:=zh hf1;have HF2:=zh hf2;clear hf1 hf2;go_upto_region 2 with (go_at_call 32;refine (zCZ _ a W1 w.heap.size HW.o.size ((HA0.o.below HW.o hB).mono hB)).mono ?_;rintro e w2 ⟨rfl,hb9⟩;rw[← HF1.o,← HF2.o];have HB9:=zh hb9;clear hb9)
 generalize hW2:World.alloc _ _=W2;obtain⟨P,hP⟩:∃ z,z=w2.heap.size:=⟨_,rfl⟩;have bP:=zh (show Blk W2 P 28 #[.int .i64 f1,.int .i64 f2] by rw[← hW2];exact Blk.at_ (by simp[hP]));have q9:=zh (show Below W1.heap.size W1 W2 by rw[← hW2];exact HB9.o.alloc HB9.o.size _);have hMP:M≠P:=by have:=HB9.o.size;have:=bM.o.lt;omega
 have hRP:R≠P:=by have:=HB9.o.size;have:=bR.o.lt;omega
 have hPM:P≠M:=Ne.symm hMP;have hPR:P≠R:=Ne.symm hRP
 try simp only[← hP]
 replace bX:=zh (bX.o.below q9.o bX.o.lt);replace bM:=zh (bM.o.below q9.o bM.o.lt);replace bR:=zh (bR.o.below q9.o bR.o.lt);replace HW:=zh (HW.o.trans (q9.o.mono HW.o.size));clear hW2 hP q9 HB9 x0 x1 x2 lX;have p0:=bP.o.cell 0;have p1:=bP.o.cell 1;simp at p0 p1;have lP:=bP.o.lt;obtain⟨q,hq⟩:∃ q,q=fEq f1 f2 0 0:=⟨_,rfl⟩;cases q
 ·have hf:fEq f1 f2 0 0=false:=hq.symm;clear hq;have HNA:=zh (show accF a≠(0,0) by intro h;have g:=hf;rw[HF1.o,HF2.o,h] at g;exact absurd g (by decide));go_upto_region 3 with fail
  clear he;clear p0 p1 lP
  obtain⟨F,hF⟩:∃ F:(Nat→Bool)→(Nat→Value)→World→Prop,F=fun l v wr =>
   Hid ((l 0=true→v 0=(.agg #[.int .i64 0,.slice none 0 0,.slice none 0 0]))) ∧
   Hid ((l 1=true→v 1=(.agg #[.int .i64 f1,.int .i64 f2]))) ∧
   Hid ((∃ cq0 cq1 cq2,Blk wr M 25 #[cq0,cq1,cq2]∧(l 2=true→#[cq0,cq1,cq2]=#[.int .i64 0,.slice none 0 0,.slice none 0 0]))) ∧
   Hid ((∃ cq0 cq1,Blk wr R 28 #[cq0,cq1]∧(l 3=true→#[cq0,cq1]=#[.int .i64 f1,.int .i64 f2]))) ∧
   Hid (True) ∧
   Hid (Blk wr P 28 #[.int .i64 f1,.int .i64 f2]) ∧
   Hid (Below w.heap.size w wr):=⟨_,rfl⟩
  have HFD:=zh hF;clear hF;refine zAj F (A:=?AR5) ?hA (by kernel_rfl) (by kernel_rfl) (by kernel_rfl) ?h0 ?hend ?hsteps
  case hA=>intro v;simp only[putR,wAf,wAa,wAb,wAc,wAh,wAj];exact rfl
  case h0 =>
   intro v;rw[HFD.o];exact⟨zh (nofun),zh (nofun),zh (⟨_,_,_,bM.o.drew,nofun⟩),zh (⟨_,_,bR.o.drew,nofun⟩),zh (trivial),zh (bP.o.drew),zh (HW.o.drew)⟩
  case hend =>
   intro l v wr hall hF;rw[HFD.o] at hF;obtain⟨H0,H1,H2,H3,H4,H5,H6⟩:=hF;have f0:=H0.o;have f1:=H1.o;have f2:=H2.o;have f3:=H3.o;have f4:=H4.o;have f5:=H5.o;have f6:=H6.o;clear H0 H1 H2 H3 H4 H5 H6;obtain⟨z0,z1,z2,hbM,hsM⟩:=f2;have hsM:=hsM (hall 2 (by simp));rw[hsM] at hbM;have qM0:=hbM.cell 0;have qfM0:=hbM.frozen 0;have qM1:=hbM.cell 1;have qfM1:=hbM.frozen 1;have qM2:=hbM.cell 2;have qfM2:=hbM.frozen 2;simp at qM0 qM1 qM2;have lM:=hbM.lt;clear hsM hbM;obtain⟨z0,z1,hbR,hsR⟩:=f3;have hsR:=hsR (hall 3 (by simp));rw[hsR] at hbR;have qR0:=hbR.cell 0;have qfR0:=hbR.frozen 0;have qR1:=hbR.cell 1;have qfR1:=hbR.frozen 1;simp at qR0 qR1;have lR:=hbR.lt;clear hsR hbR;have HBF0:=zh f6;clear f0 f1 f4 f5 f6  hall;go_wp21;refine bodyPost_ret (v:=.tuple #[.agg #[.int .i64 0,.slice none 0 0,.slice none 0 0],.agg #[.int .i64 f1,.int .i64 f2]]) (by simp[results,Try.results28,go_sem,hMR,hRM,lM,qM0,qM1,qM2,qfM0,qfM1,qfM2,lR,qR0,qR1,qfR0,qfR1]) rfl ?_;have HBF:=HBF0.o;exact⟨(emptyM,accF a),_,by rw[HF1.o,HF2.o],.inl ⟨HNA.o,rfl⟩,wAg _ _,HBF⟩
  case hsteps =>
   refine wAe (n:=0) ?_ (wAe (n:=1) ?_ (wAe (n:=2) ?_ (wAe (n:=3) ?_ (trivial))))
   ·intro l v wr hn hdep hcl hF K hK;rw[HFD.o] at hF;obtain⟨H0,H1,H2,H3,H4,H5,H6⟩:=hF;simp[wAd] at hdep;have HCL:=zh hcl;have HN:=zh hn;clear hcl hn;go_simp
    have hk:=hK.out (.agg #[.int .i64 0,.slice none 0 0,.slice none 0 0]) wr (by
     rw[HFD.o]
     exact⟨zh ((fun _=>rfl)),H1,H2,H3,H4,H5,H6⟩)
    simp only[wAf,wAa,wAb,wAc] at hk;exact hk
   ·intro l v wr hn hdep hcl hF K hK;rw[HFD.o] at hF;obtain⟨H0,H1,H2,H3,H4,H5,H6⟩:=hF;simp[wAd] at hdep;have HCL:=zh hcl;have HN:=zh hn;clear hcl hn;have x0:=H5.o.cell 0;have x1:=H5.o.cell 1;simp at x0 x1;have lS:=H5.o.lt;go_simp
    have hk:=hK.out (.agg #[.int .i64 f1,.int .i64 f2]) wr (by
     rw[HFD.o]
     exact⟨H0,zh ((fun _=>rfl)),H2,H3,H4,H5,H6⟩)
    simp only[wAf,wAa,wAb,wAc] at hk;exact hk
   ·intro l v wr hn hdep hcl hF K hK;rw[HFD.o] at hF;obtain⟨H0,H1,H2,H3,H4,H5,H6⟩:=hF;simp[wAd] at hdep;have HCL:=zh hcl;have HN:=zh hn;clear hcl hn;have e0:=H0.o (by simp[hdep]);obtain⟨d0,d1,d2,hblk,_⟩:=H2.o;have x0:=hblk.cell 0;have xf0:=hblk.frozen 0;have x1:=hblk.cell 1;have xf1:=hblk.frozen 1;have x2:=hblk.cell 2;have xf2:=hblk.frozen 2;simp at x0 x1 x2;have lT:=hblk.lt;have HBK:=zh hblk;clear hblk;go_simp
    have hk:=hK.out undef (((wr.setCell ⟨M,0,none⟩ (.int .i64 0)).setCell ⟨M,1,none⟩ (.slice none 0 0)).setCell ⟨M,2,none⟩ (.slice none 0 0)) (by
     rw[HFD.o]
     exact⟨H0,H1,zh (⟨_,_,_,(((HBK.o.set_ 0 _).set_ 1 _).set_ 2 _),fun _=>rfl⟩),zh ((by obtain⟨g0,g1,hb2,hs2⟩:=H3.o;exact⟨g0,g1,(((hb2.far (p:=⟨M,0,none⟩) hRM _).far (p:=⟨M,1,none⟩) hRM _).far (p:=⟨M,2,none⟩) hRM _),hs2⟩)),zh (trivial),zh ((((H5.o.far (p:=⟨M,0,none⟩) hPM _).far (p:=⟨M,1,none⟩) hPM _).far (p:=⟨M,2,none⟩) hPM _)),zh ((((H6.o.setCell (p:=⟨M,0,none⟩) (by exact hwM) _).setCell (p:=⟨M,1,none⟩) (by exact hwM) _).setCell (p:=⟨M,2,none⟩) (by exact hwM) _))⟩)
    simp only[wAf,wAa,wAb,wAc] at hk;simp only[e0] at hk;exact hk
   ·intro l v wr hn hdep hcl hF K hK;rw[HFD.o] at hF;obtain⟨H0,H1,H2,H3,H4,H5,H6⟩:=hF;simp[wAd] at hdep;have HCL:=zh hcl;have HN:=zh hn;clear hcl hn;have e1:=H1.o (by simp[hdep]);obtain⟨d0,d1,hblk,_⟩:=H3.o;have x0:=hblk.cell 0;have xf0:=hblk.frozen 0;have x1:=hblk.cell 1;have xf1:=hblk.frozen 1;simp at x0 x1;have lT:=hblk.lt;have HBK:=zh hblk;clear hblk;go_simp
    have hk:=hK.out undef ((wr.setCell ⟨R,0,none⟩ (.int .i64 f1)).setCell ⟨R,1,none⟩ (.int .i64 f2)) (by
     rw[HFD.o]
     exact⟨H0,H1,zh ((by obtain⟨g0,g1,g2,hb2,hs2⟩:=H2.o;exact⟨g0,g1,g2,((hb2.far (p:=⟨R,0,none⟩) hMR _).far (p:=⟨R,1,none⟩) hMR _),hs2⟩)),zh (⟨_,_,((HBK.o.set_ 0 _).set_ 1 _),fun _=>rfl⟩),zh (trivial),zh (((H5.o.far (p:=⟨R,0,none⟩) hPR _).far (p:=⟨R,1,none⟩) hPR _)),zh (((H6.o.setCell (p:=⟨R,0,none⟩) (by exact hwR) _).setCell (p:=⟨R,1,none⟩) (by exact hwR) _))⟩)
    simp only[wAf,wAa,wAb,wAc] at hk;simp only[e1] at hk;exact hk
 ·have hf:fEq f1 f2 0 0=true:=hq.symm;clear hq;have HZ:=zh (show accF a=(0,0) by have h:=hf;rw[HF1.o,HF2.o] at h;exact fEq0A.1 h);by_cases h3:300<n
  ·have t1:decide ((n:Int)>300)=true:=decide_eq_true (by omega);have t1':decide ((300:Int)<(n:Int))=true:=decide_eq_true (by omega);have HR:=zh (show alphF al (-2)=(2,-2) by unfold alphF;rw[if_pos (by rw[HN.o];exact h3)]);clear h3;go_wp2_with fail;refine (zBY _ _ _).mono ?_;rintro e w9 ⟨rfl,hb9⟩;replace bM:=zh (bM.o.below hb9 bM.o.lt);replace bR:=zh (bR.o.below hb9 bR.o.lt);replace HW:=zh (HW.o.trans (hb9.mono HW.o.size));clear hb9;have q0:=bM.o.cell 0;have q1:=bM.o.cell 1;have q2:=bM.o.cell 2;have q3:=bR.o.cell 0;have q4:=bR.o.cell 1;have qf:=bM.o.frozen 0;have qf1:=bM.o.frozen 1;have qf2:=bM.o.frozen 2;have qf3:=bR.o.frozen 0;have qf4:=bR.o.frozen 1;have lM:=bM.o.lt;have lR:=bR.o.lt;simp at q0 q1 q2 q3 q4;go_wp21;refine bodyPost_ret (v:=.tuple #[.agg #[.int .i64 0,.slice none 0 0,.slice none 0 0],.agg #[.int .i64 2,.int .i64 (-2)]]) (by simp[results,Try.results28,go_sem,lM,lR,hMR,hRM,q0,q1,q2,q3,q4,qf,qf1,qf2,qf3,qf4]) rfl ?_;have HBF:=HW.o;exact⟨(emptyM,(2,(-2))),_,rfl,.inr (.inl ⟨HZ.o,by rw[HR.o];simp,by rw[HR.o]⟩),wAg _ _,(((((HBF.setCell (p:=⟨M,0,none⟩) (by exact hwM) _).setCell (p:=⟨M,1,none⟩) (by exact hwM) _).setCell (p:=⟨M,2,none⟩) (by exact hwM) _).setCell (p:=⟨R,0,none⟩) (by exact hwR) _).setCell (p:=⟨R,1,none⟩) (by exact hwR) _)⟩
  ·have t1:decide ((n:Int)>300)=false:=decide_eq_false (by omega);have t1':decide ((300:Int)<(n:Int))=false:=decide_eq_false (by omega);have HL3:=zh (show ¬ 300<al.length by rw[HN.o];exact h3);(go_upto_region 7 with fail);clear p0 p1 lP hf HF1 HF2 t1 t1' hMP hRP hPM hPR bP;replace HRA:=zh (HRA.o.below HW.o hB)
   go_loopw [25] (fun iv wr=>∃ k:Nat,k≤n∧iv=.int .i64 k∧wr=W2∧Hid (∀ j,j<k→alphB al j=none)) (fun iv _=>n-(intOf iv).toNat)
   case atStart=>exact⟨0,by omega,rfl,rfl,zh (fun j hj=>by omega)⟩
   case round =>
    obtain⟨k,hk,rfl,hwr,HALL⟩:=hrel;rw[← hwr] at bM bR HW HRA bX;have HWW:=zh hwr;clear hwr;by_cases hkn:k<n
    ·obtain⟨bb,off,x,rfl,hbB,d0,HY⟩:=zAO HRA.o hkn;(have hkl:k<al.length:=by rw[HN.o];exact hkn);(have lb:bb<wr.heap.size:=by have:=HW.o.size;omega);by_cases h1:x<1
     ·have s1:decide (x<1)=true:=decide_eq_true h1;have HR:=zh (zEe (ix := -2) HL3.o hkl HALL.o (r:=(3,(k:Int))) (by unfold alphB;rw[HY.o,if_pos (.inl h1)]));clear h1 hkl HY HALL he;go_wp2_with fail;refine (zBY _ _ _).mono ?_;rintro e w9 ⟨rfl,hb9⟩;replace bM:=zh (bM.o.below hb9 bM.o.lt);replace bR:=zh (bR.o.below hb9 bR.o.lt);replace HW:=zh (HW.o.trans (hb9.mono HW.o.size));clear hb9;have q0:=bM.o.cell 0;have q1:=bM.o.cell 1;have q2:=bM.o.cell 2;have q3:=bR.o.cell 0;have q4:=bR.o.cell 1;have qf:=bM.o.frozen 0;have qf1:=bM.o.frozen 1;have qf2:=bM.o.frozen 2;have qf3:=bR.o.frozen 0;have qf4:=bR.o.frozen 1;have lM:=bM.o.lt;have lR:=bR.o.lt;simp at q0 q1 q2 q3 q4;go_wp21;refine bodyPost_ret (v:=.tuple #[.agg #[.int .i64 0,.slice none 0 0,.slice none 0 0],.agg #[.int .i64 3,.int .i64 (k:Int)]]) (by simp[results,Try.results28,go_sem,lM,lR,hMR,hRM,q0,q1,q2,q3,q4,qf,qf1,qf2,qf3,qf4]) rfl ?_;have HBF:=HW.o;exact⟨(emptyM,(3,(k:Int))),_,rfl,.inr (.inl ⟨HZ.o,by rw[HR.o];simp,by rw[HR.o]⟩),wAg _ _,(((((HBF.setCell (p:=⟨M,0,none⟩) (by exact hwM) _).setCell (p:=⟨M,1,none⟩) (by exact hwM) _).setCell (p:=⟨M,2,none⟩) (by exact hwM) _).setCell (p:=⟨R,0,none⟩) (by exact hwR) _).setCell (p:=⟨R,1,none⟩) (by exact hwR) _)⟩
     ·by_cases h2:1114111<x
      ·have s1:decide (x<1)=false:=decide_eq_false h1;have s2:decide (x>1114111)=true:=decide_eq_true (by omega);have s2':decide (1114111<x)=true:=decide_eq_true h2;have HR:=zh (zEe (ix := -2) HL3.o hkl HALL.o (r:=(3,(k:Int))) (by unfold alphB;rw[HY.o,if_pos (.inr h2)]));clear h1 h2 hkl HY HALL he;go_wp2_with fail;refine (zBY _ _ _).mono ?_;rintro e w9 ⟨rfl,hb9⟩;replace bM:=zh (bM.o.below hb9 bM.o.lt);replace bR:=zh (bR.o.below hb9 bR.o.lt);replace HW:=zh (HW.o.trans (hb9.mono HW.o.size));clear hb9;have q0:=bM.o.cell 0;have q1:=bM.o.cell 1;have q2:=bM.o.cell 2;have q3:=bR.o.cell 0;have q4:=bR.o.cell 1;have qf:=bM.o.frozen 0;have qf1:=bM.o.frozen 1;have qf2:=bM.o.frozen 2;have qf3:=bR.o.frozen 0;have qf4:=bR.o.frozen 1;have lM:=bM.o.lt;have lR:=bR.o.lt;simp at q0 q1 q2 q3 q4;go_wp21;refine bodyPost_ret (v:=.tuple #[.agg #[.int .i64 0,.slice none 0 0,.slice none 0 0],.agg #[.int .i64 3,.int .i64 (k:Int)]]) (by simp[results,Try.results28,go_sem,lM,lR,hMR,hRM,q0,q1,q2,q3,q4,qf,qf1,qf2,qf3,qf4]) rfl ?_;have HBF:=HW.o;exact⟨(emptyM,(3,(k:Int))),_,rfl,.inr (.inl ⟨HZ.o,by rw[HR.o];simp,by rw[HR.o]⟩),wAg _ _,(((((HBF.setCell (p:=⟨M,0,none⟩) (by exact hwM) _).setCell (p:=⟨M,1,none⟩) (by exact hwM) _).setCell (p:=⟨M,2,none⟩) (by exact hwM) _).setCell (p:=⟨R,0,none⟩) (by exact hwR) _).setCell (p:=⟨R,1,none⟩) (by exact hwR) _)⟩
      ·have s1:decide (x<1)=false:=decide_eq_false h1;have s2:decide (x>1114111)=false:=decide_eq_false (by omega);have s2':decide (1114111<x)=false:=decide_eq_false h2;rcases wAi k with hk0 | hk0
       ·have HNX:=zh (show ∀ j,j<k+1→alphB al j=none from fun j hj=>by
         have:j=k:=by omega
         subst this;unfold alphB
         rw[HY.o,if_neg (by omega),if_neg (by omega)])
        have s3:decide ((k:Int)>0)=false:=decide_eq_false (by omega);have s3':decide ((0:Int)<(k:Int))=false:=decide_eq_false (by omega);have hg:decide (0<k)=false:=decide_eq_false (by omega);have HK0:=zh hk0;clear h1 h2 hkl HY HALL hk0 bM bR bX HW he;go_wp2;go_roundw
        case rel=>exact⟨k+1,by omega,by go_num,HWW.o,HNX⟩
        case measure=>simp[intOf];omega
       ·obtain⟨j,rfl⟩:∃ j,k=j+1:=⟨k-1,by omega⟩;obtain⟨bb',off',y,hA',_,d1,HZZ⟩:=zAO HRA.o (show j<n by omega);simp only[Option.some.injEq,Addr.mk.injEq,and_true] at hA';obtain⟨rfl,rfl⟩:=hA';(have j0:(0:Int)≤(j:Int):=by omega);(have j1:(j:Int)<(n:Int):=by omega);(have hsub:((j+1:Nat):Int)-1=(j:Int):=by omega);have s3:decide (((j+1:Nat):Int)>0)=true:=decide_eq_true (by omega);have s3':decide ((0:Int)<((j+1:Nat):Int))=true:=decide_eq_true (by omega);by_cases h4:x≤y
        ·have s4:decide (y≥x)=true:=decide_eq_true h4;have s4':decide (x≤y)=true:=decide_eq_true h4;have HR:=zh (zEe (ix := -2) HL3.o hkl HALL.o (r:=(13,((j+1:Nat):Int))) (by unfold alphB;rw[HY.o,if_neg (by omega),show j+1-1=j by omega,HZZ.o,if_pos ⟨by omega,h4⟩]));clear h1 h2 h4 hkl HY HZZ HALL he;go_wp2_with fail;refine (zBY _ _ _).mono ?_;rintro e w9 ⟨rfl,hb9⟩;replace bM:=zh (bM.o.below hb9 bM.o.lt);replace bR:=zh (bR.o.below hb9 bR.o.lt);replace HW:=zh (HW.o.trans (hb9.mono HW.o.size));clear hb9;have q0:=bM.o.cell 0;have q1:=bM.o.cell 1;have q2:=bM.o.cell 2;have q3:=bR.o.cell 0;have q4:=bR.o.cell 1;have qf:=bM.o.frozen 0;have qf1:=bM.o.frozen 1;have qf2:=bM.o.frozen 2;have qf3:=bR.o.frozen 0;have qf4:=bR.o.frozen 1;have lM:=bM.o.lt;have lR:=bR.o.lt;simp at q0 q1 q2 q3 q4;go_wp21;refine bodyPost_ret (v:=.tuple #[.agg #[.int .i64 0,.slice none 0 0,.slice none 0 0],.agg #[.int .i64 13,.int .i64 ((j+1:Nat):Int)]]) (by simp[results,Try.results28,go_sem,lM,lR,hMR,hRM,q0,q1,q2,q3,q4,qf,qf1,qf2,qf3,qf4]) rfl ?_;have HBF:=HW.o;exact⟨(emptyM,(13,((j+1:Nat):Int))),_,rfl,.inr (.inl ⟨HZ.o,by rw[HR.o];simp,by rw[HR.o]⟩),wAg _ _,(((((HBF.setCell (p:=⟨M,0,none⟩) (by exact hwM) _).setCell (p:=⟨M,1,none⟩) (by exact hwM) _).setCell (p:=⟨M,2,none⟩) (by exact hwM) _).setCell (p:=⟨R,0,none⟩) (by exact hwR) _).setCell (p:=⟨R,1,none⟩) (by exact hwR) _)⟩
        ·have s4:decide (y≥x)=false:=decide_eq_false h4;have s4':decide (x≤y)=false:=decide_eq_false h4
         have HNX:=zh (show ∀ i,i<j+1+1→alphB al i=none from fun i hi=>by
          by_cases g:i=j+1
          ·subst g;unfold alphB;rw[HY.o,if_neg (by omega),show j+1-1=j by omega,HZZ.o,if_neg (by omega)]
          · exact HALL.o i (by omega))
         clear h1 h2 h4 hkl HY HZZ HALL bM bR bX HW he;go_wp2;go_roundw
         case rel=>exact⟨j+1+1,by omega,by go_num,HWW.o,HNX⟩
         case measure=>simp[intOf];omega
    ·(obtain rfl:n=k:=by omega);have HAF:=zh (zNG (ix := -2) HL3.o (fun j hj=>HALL.o j (by rw[← HN.o];exact hj)))
     have HLR:=zh (show ∀ z∈al,0≤z∧z≤1114111 by
      intro z hz;obtain⟨i,hi⟩:=List.getElem?_of_mem hz;(have hil:i<n:=by rw[← HN.o];exact (List.getElem?_eq_some_iff.1 hi).1);have h:=HALL.o i hil;unfold alphB at h;(have e:al.getD i 0=z:=by rw[List.getD_eq_getElem?_getD,hi];rfl);rw[e] at h;by_cases g:z<1∨1114111<z
      · rw[if_pos g] at h;cases h
      · omega)
     clear HALL HWW;obtain⟨f1,hf1⟩:∃ z,z=(detW a).2.1:=⟨_,rfl⟩;obtain⟨f2,hf2⟩:∃ z,z=(detW a).2.2:=⟨_,rfl⟩;have HF1:=zh hf1;have HF2:=zh hf2;clear hf1 hf2;obtain⟨x,hx⟩:∃ z,z=(detW a).1:=⟨_,rfl⟩;obtain⟨xn,hxn⟩:∃ z,z=x.n:=⟨_,rfl⟩;have HXE:=zh hx;have HXN:=zh hxn;clear hx hxn;have x0:=bX.o.cell 0;have x1:=bX.o.cell 1;have x2:=bX.o.cell 2;simp at x0 x1 x2;have lX:=bX.o.lt;(go_upto_region 15 with (go_at_call 33;refine (zCm _ a wr w.heap.size HW.o.size ((HA0.o.below HW.o hB).mono hB)).mono ?_;rintro e w4 ⟨v4,rfl,hm4,hb9⟩;rw[← HF1.o,← HF2.o];rw[← HXE.o] at hm4;obtain⟨A3,AF3,n3,c3,nf3,cf3,rfl,_,_,_,_,_,_,_,_⟩:=hm4.at_;rw[← HXN.o] at hm4 ⊢;have HMN:=zh hm4;have HB9:=zh hb9;clear hm4 hb9));generalize hW4:World.alloc _ _=W4;obtain⟨S,hS⟩:∃ z,z=w4.heap.size:=⟨_,rfl⟩;obtain⟨P,hP⟩:∃ z,z=w4.heap.size+1:=⟨_,rfl⟩;have bS:=zh (show Blk W4 S 25 #[.int .i64 xn,.slice A3 n3 c3,.slice AF3 nf3 cf3] by rw[← hW4];exact (Blk.at_ (by simp[hS])).alloc _);have bP:=zh (show Blk W4 P 28 #[.int .i64 f1,.int .i64 f2] by rw[← hW4];exact Blk.at_ (by simp[hP]));have q8:=zh (show Below w4.heap.size w4 W4 by rw[← hW4];exact ((Below.refl _ _).alloc (wAk _) _).alloc (by simp) _);have q9:=zh (HB9.o.trans (q8.o.mono HB9.o.size));(have hMP:M≠P:=by have:=HB9.o.size;have:=bM.o.lt;omega);(have hRP:R≠P:=by have:=HB9.o.size;have:=bR.o.lt;omega);have hPM:P≠M:=Ne.symm hMP;have hPR:P≠R:=Ne.symm hRP;(have hSM:S≠M:=by have:=HB9.o.size;have:=bM.o.lt;omega);(have hSR:S≠R:=by have:=HB9.o.size;have:=bR.o.lt;omega);have HX2:=zh ((HMN.o.below q8.o (wAk _)).at_)
     try simp only[← hP]
     try simp only[← hS]
     have HBL:=zh (show w.heap.size≤wr.heap.size from HW.o.size);replace bM:=zh (bM.o.below q9.o bM.o.lt);replace bR:=zh (bR.o.below q9.o bR.o.lt);replace HRA:=zh (HRA.o.below q9.o (by have:=HBL.o;omega));replace HW:=zh (HW.o.trans (q9.o.mono HW.o.size));clear hW4 hS hP q8 q9 HB9 x0 x1 x2 lX bX HMN;obtain⟨W2',hW2'⟩:∃ z,z=W4:=⟨_,rfl⟩;have p0:=bP.o.cell 0;have p1:=bP.o.cell 1;simp at p0 p1;have lP:=bP.o.lt;obtain⟨q,hq⟩:∃ q,q=fEq f1 f2 0 0:=⟨_,rfl⟩;cases q
     ·have hf:fEq f1 f2 0 0=false:=hq.symm;clear hq;have HNA:=zh (show (detW a).2≠(0,0) by intro h;have g:=hf;rw[HF1.o,HF2.o,h] at g;exact absurd g (by decide));(go_upto_region 16 with fail);clear he;clear p0 p1 lP
      obtain⟨F,hF⟩:∃ F:(Nat→Bool)→(Nat→Value)→World→Prop,F=fun l v wr =>
       Hid ((l 0=true→v 0=(.agg #[.int .i64 0,.slice none 0 0,.slice none 0 0]))) ∧
       Hid ((l 1=true→v 1=(.agg #[.int .i64 f1,.int .i64 f2]))) ∧
       Hid ((∃ cq0 cq1 cq2,Blk wr M 25 #[cq0,cq1,cq2]∧(l 2=true→#[cq0,cq1,cq2]=#[.int .i64 0,.slice none 0 0,.slice none 0 0]))) ∧
       Hid ((∃ cq0 cq1,Blk wr R 28 #[cq0,cq1]∧(l 3=true→#[cq0,cq1]=#[.int .i64 f1,.int .i64 f2]))) ∧
       Hid (True) ∧
       Hid (Blk wr P 28 #[.int .i64 f1,.int .i64 f2]) ∧
       Hid (Below w.heap.size w wr):=⟨_,rfl⟩
      have HFD:=zh hF;clear hF;refine zAj F (A:=?AR6) ?hA (by kernel_rfl) (by kernel_rfl) (by kernel_rfl) ?h0 ?hend ?hsteps
      case hA=>intro v;simp only[putR,wAf,wAa,wAb,wAc,wAh,wAj];exact rfl
      case h0 =>
       intro v;rw[HFD.o];exact⟨zh (nofun),zh (nofun),zh (⟨_,_,_,bM.o.drew,nofun⟩),zh (⟨_,_,bR.o.drew,nofun⟩),zh (trivial),zh (bP.o.drew),zh (HW.o.drew)⟩
      case hend =>
       intro l v wr hall hF;rw[HFD.o] at hF;obtain⟨H0,H1,H2,H3,H4,H5,H6⟩:=hF;have f0:=H0.o;have f1:=H1.o;have f2:=H2.o;have f3:=H3.o;have f4:=H4.o;have f5:=H5.o;have f6:=H6.o;clear H0 H1 H2 H3 H4 H5 H6;obtain⟨z0,z1,z2,hbM,hsM⟩:=f2;have hsM:=hsM (hall 2 (by simp));rw[hsM] at hbM;have qM0:=hbM.cell 0;have qfM0:=hbM.frozen 0;have qM1:=hbM.cell 1;have qfM1:=hbM.frozen 1;have qM2:=hbM.cell 2;have qfM2:=hbM.frozen 2;simp at qM0 qM1 qM2;have lM:=hbM.lt;clear hsM hbM;obtain⟨z0,z1,hbR,hsR⟩:=f3;have hsR:=hsR (hall 3 (by simp));rw[hsR] at hbR;have qR0:=hbR.cell 0;have qfR0:=hbR.frozen 0;have qR1:=hbR.cell 1;have qfR1:=hbR.frozen 1;simp at qR0 qR1;have lR:=hbR.lt;clear hsR hbR;have HBF0:=zh f6;clear f0 f1 f4 f5 f6  hall;go_wp21;refine bodyPost_ret (v:=.tuple #[.agg #[.int .i64 0,.slice none 0 0,.slice none 0 0],.agg #[.int .i64 f1,.int .i64 f2]]) (by simp[results,Try.results28,go_sem,hMR,hRM,lM,qM0,qM1,qM2,qfM0,qfM1,qfM2,lR,qR0,qR1,qfR0,qfR1]) rfl ?_;have HBF:=HBF0.o;exact⟨(emptyM,(detW a).2),_,by rw[HF1.o,HF2.o],.inr (.inr (.inl ⟨HZ.o,HAF.o,HNA.o,rfl⟩)),wAg _ _,HBF⟩
      case hsteps =>
       refine wAe (n:=0) ?_ (wAe (n:=1) ?_ (wAe (n:=2) ?_ (wAe (n:=3) ?_ (trivial))))
       ·intro l v wr hn hdep hcl hF K hK;rw[HFD.o] at hF;obtain⟨H0,H1,H2,H3,H4,H5,H6⟩:=hF;simp[wAd] at hdep;have HCL:=zh hcl;have HN:=zh hn;clear hcl hn;go_simp
        have hk:=hK.out (.agg #[.int .i64 0,.slice none 0 0,.slice none 0 0]) wr (by
         rw[HFD.o]
         exact⟨zh ((fun _=>rfl)),H1,H2,H3,H4,H5,H6⟩)
        simp only[wAf,wAa,wAb,wAc] at hk;exact hk
       ·intro l v wr hn hdep hcl hF K hK;rw[HFD.o] at hF;obtain⟨H0,H1,H2,H3,H4,H5,H6⟩:=hF;simp[wAd] at hdep;have HCL:=zh hcl;have HN:=zh hn;clear hcl hn;have x0:=H5.o.cell 0;have x1:=H5.o.cell 1;simp at x0 x1;have lS:=H5.o.lt;go_simp
        have hk:=hK.out (.agg #[.int .i64 f1,.int .i64 f2]) wr (by
         rw[HFD.o]
         exact⟨H0,zh ((fun _=>rfl)),H2,H3,H4,H5,H6⟩)
        simp only[wAf,wAa,wAb,wAc] at hk;exact hk
       ·intro l v wr hn hdep hcl hF K hK;rw[HFD.o] at hF;obtain⟨H0,H1,H2,H3,H4,H5,H6⟩:=hF;simp[wAd] at hdep;have HCL:=zh hcl;have HN:=zh hn;clear hcl hn;have e0:=H0.o (by simp[hdep]);obtain⟨d0,d1,d2,hblk,_⟩:=H2.o;have x0:=hblk.cell 0;have xf0:=hblk.frozen 0;have x1:=hblk.cell 1;have xf1:=hblk.frozen 1;have x2:=hblk.cell 2;have xf2:=hblk.frozen 2;simp at x0 x1 x2;have lT:=hblk.lt;have HBK:=zh hblk;clear hblk;go_simp
        have hk:=hK.out undef (((wr.setCell ⟨M,0,none⟩ (.int .i64 0)).setCell ⟨M,1,none⟩ (.slice none 0 0)).setCell ⟨M,2,none⟩ (.slice none 0 0)) (by
         rw[HFD.o]
         exact⟨H0,H1,zh (⟨_,_,_,(((HBK.o.set_ 0 _).set_ 1 _).set_ 2 _),fun _=>rfl⟩),zh ((by obtain⟨g0,g1,hb2,hs2⟩:=H3.o;exact⟨g0,g1,(((hb2.far (p:=⟨M,0,none⟩) hRM _).far (p:=⟨M,1,none⟩) hRM _).far (p:=⟨M,2,none⟩) hRM _),hs2⟩)),zh (trivial),zh ((((H5.o.far (p:=⟨M,0,none⟩) hPM _).far (p:=⟨M,1,none⟩) hPM _).far (p:=⟨M,2,none⟩) hPM _)),zh ((((H6.o.setCell (p:=⟨M,0,none⟩) (by exact hwM) _).setCell (p:=⟨M,1,none⟩) (by exact hwM) _).setCell (p:=⟨M,2,none⟩) (by exact hwM) _))⟩)
        simp only[wAf,wAa,wAb,wAc] at hk;simp only[e0] at hk;exact hk
       ·intro l v wr hn hdep hcl hF K hK;rw[HFD.o] at hF;obtain⟨H0,H1,H2,H3,H4,H5,H6⟩:=hF;simp[wAd] at hdep;have HCL:=zh hcl;have HN:=zh hn;clear hcl hn;have e1:=H1.o (by simp[hdep]);obtain⟨d0,d1,hblk,_⟩:=H3.o;have x0:=hblk.cell 0;have xf0:=hblk.frozen 0;have x1:=hblk.cell 1;have xf1:=hblk.frozen 1;simp at x0 x1;have lT:=hblk.lt;have HBK:=zh hblk;clear hblk;go_simp
        have hk:=hK.out undef ((wr.setCell ⟨R,0,none⟩ (.int .i64 f1)).setCell ⟨R,1,none⟩ (.int .i64 f2)) (by
         rw[HFD.o]
         exact⟨H0,H1,zh ((by obtain⟨g0,g1,g2,hb2,hs2⟩:=H2.o;exact⟨g0,g1,g2,((hb2.far (p:=⟨R,0,none⟩) hMR _).far (p:=⟨R,1,none⟩) hMR _),hs2⟩)),zh (⟨_,_,((HBK.o.set_ 0 _).set_ 1 _),fun _=>rfl⟩),zh (trivial),zh (((H5.o.far (p:=⟨R,0,none⟩) hPR _).far (p:=⟨R,1,none⟩) hPR _)),zh (((H6.o.setCell (p:=⟨R,0,none⟩) (by exact hwR) _).setCell (p:=⟨R,1,none⟩) (by exact hwR) _))⟩)
        simp only[wAf,wAa,wAb,wAc] at hk;simp only[e1] at hk;exact hk
     ·have hf:fEq f1 f2 0 0=true:=hq.symm;clear hq;have HZ3:=zh (show (detW a).2=(0,0) by have h:=hf;rw[HF1.o,HF2.o] at h;exact fEq0A.1 h);(obtain⟨Sx,hDx⟩:∃ Sx,DmOk x Sx:=by rw[HXE.o];exact zAW HZ3.o);have HDX:=zh hDx;have HDY:=zh zC6;obtain⟨ll,hll⟩:∃ z,z=al:=⟨_,rfl⟩;have HNL:=zh (show ll.length=n by rw[hll];exact HN.o);have HLE:=zh hll;rw[← hll] at HLR HRA HL3;replace HL3:=zh (show ll.length≤300 by have:=HL3.o;omega);have hn:=HNL.o;clear HNL;subst hn;(go_upto_region 17 with fail);have HM2:=zh (show M<W4.heap.size from bM.o.lt);have HBL4:=zh (show B≤W4.heap.size from Nat.le_trans hB HW.o.size);have HR2:=zh (show R<W4.heap.size from bR.o.lt);clear p0 p1 lP hf HF1 HF2 he hDx hll hMP hRP hPM hPR bP HA0 HL0
      obtain⟨F,hF⟩:∃ F:(Nat→Bool)→(Nat→Value)→World→Prop,F=fun l v wr =>
       Hid ((l 0=true→v 0=(.agg #[.int .i64 xn,.slice A3 n3 c3,.slice AF3 nf3 cf3]))) ∧
       Hid ((l 1=true→v 1=(.agg #[.int .i64 0,.slice none 0 0,.slice none 0 0]))) ∧
       Hid ((l 2=true→v 2=(.slice AL ll.length cl))) ∧
       Hid ((l 3=true→l 4=false→∃ A c,v 3=.slice A ll.length c∧Nums wr wr.heap.size (.slice A ll.length c) ll)) ∧
       Hid ((l 4=true→JnV wr W4.heap.size (v 4) x emptyM ll (fun p _ => !p))) ∧
       Hid ((l 5=true→∃ z,v 4=.tuple #[v 5,z])) ∧
       Hid ((l 6=true→∃ z,v 4=.tuple #[z,v 6])) ∧
       Hid ((∃ c0 c1 c2,Blk wr M 25 #[c0,c1,c2]∧(l 7=true→v 5=.agg #[c0,c1,c2]))) ∧
       Hid ((∃ c0 c1,Blk wr R 28 #[c0,c1]∧(l 8=true→v 6=.agg #[c0,c1]))) ∧
       Hid (Below w.heap.size w wr) ∧
       Hid ((l 4=false→Below W4.heap.size W4 wr)) ∧
       Hid (Blk wr S 25 #[.int .i64 xn,.slice A3 n3 c3,.slice AF3 nf3 cf3]) ∧
       Hid (True):=⟨_,rfl⟩
      have HFD:=zh hF;clear hF;refine zAj F (A:=?AR7) ?hA (by kernel_rfl) (by kernel_rfl) (by kernel_rfl) ?h0 ?hend ?hsteps
      case hA=>intro v;simp only[putR,wAf,wAa,wAb,wAc,wAh,wAj];exact rfl
      case h0 =>
       intro v;rw[HFD.o];exact⟨zh (nofun),zh (nofun),zh (nofun),zh (nofun),zh (nofun),zh (nofun),zh (nofun),zh (⟨_,_,_,bM.o.drew,nofun⟩),zh (⟨_,_,bR.o.drew,nofun⟩),zh (HW.o.drew),zh ((fun _=>(Below.refl _ _).drew)),zh (bS.o.drew),zh (trivial)⟩
      case hend =>
       intro l v wr hall hF;rw[HFD.o] at hF;obtain⟨H0,H1,H2,H3,H4,H5,H6,H7,H8,H9,H10,H11,H12⟩:=hF;have f0:=H0.o;have f1:=H1.o;have f2:=H2.o;have f3:=H3.o;have f4:=H4.o;have f5:=H5.o;have f6:=H6.o;have f7:=H7.o;have f8:=H8.o;have f9:=H9.o;have f10:=H10.o;have f11:=H11.o;have f12:=H12.o;clear H0 H1 H2 H3 H4 H5 H6 H7 H8 H9 H10 H11 H12;obtain⟨r,A7,AF7,n7,c7,nf7,cf7,e4,hr7,hm7⟩:=f4 (hall 4 (by simp));obtain⟨z5,e5⟩:=f5 (hall 5 (by simp));obtain⟨z6,e6⟩:=f6 (hall 6 (by simp));obtain⟨a0,a1,a2,hbM,s7⟩:=f7;obtain⟨b0,b1,hbR,s8⟩:=f8;have s7:=s7 (hall 7 (by simp));have s8:=s8 (hall 8 (by simp));rw[e4] at e5 e6;(injection e5 with e5);(injection e5 with e5);(injection e5 with e5 _);(injection e6 with e6);(injection e6 with e6);(injection e6 with _ e6);(injection e6 with e6 _);rw[s7] at e5;rw[s8] at e6;(injection e5 with e5);(injection e6 with e6);rw[← e5] at hbM;rw[← e6] at hbR;have HM7:=zh hm7;have HR7:=zh hr7;have HB9:=zh f9;have q0:=hbM.cell 0;have q1:=hbM.cell 1;have q2:=hbM.cell 2;have q3:=hbR.cell 0;have q4:=hbR.cell 1;have qf:=hbM.frozen 0;have qf1:=hbM.frozen 1;have qf2:=hbM.frozen 2;have qf3:=hbR.frozen 0;have qf4:=hbR.frozen 1;have lM:=hbM.lt;have lR:=hbR.lt;simp at q0 q1 q2 q3 q4;clear f0 f1 f2 f3 f4 f5 f6 f9 f10 f11 f12 hall e4 e5 e6 s7 s8 hbM hbR hm7 hr7;go_wp21;refine bodyPost_ret (v:=.tuple #[.agg #[.int .i64 r.1.n,.slice A7 n7 c7,.slice AF7 nf7 cf7],.agg #[.int .i64 r.2.1,.int .i64 r.2.2]]) (by simp[results,Try.results28,go_sem,lM,lR,hMR,hRM,q0,q1,q2,q3,q4,qf,qf1,qf2,qf3,qf4]) rfl ?_;exact⟨r.1,r.2.1,r.2.2,_,rfl,.inr (.inr (.inr ⟨HZ.o,HAF.o,HZ3.o,by rw[← HXE.o,← HLE.o];exact HR7.o⟩)),HM7.o.mono HW.o.size,HB9.o⟩
      case hsteps =>
       refine wAe (n:=0) ?_ (wAe (n:=1) ?_ (wAe (n:=2) ?_ (wAe (n:=3) ?_ (wAe (n:=4) ?_ (wAe (n:=5) ?_ (wAe (n:=6) ?_ (wAe (n:=7) ?_ (wAe (n:=8) ?_ (trivial)))))))))
       ·intro l v wr hn hdep hcl hF K hK;rw[HFD.o] at hF;obtain⟨H0,H1,H2,H3,H4,H5,H6,H7,H8,H9,H10,H11,H12⟩:=hF;simp[wAd] at hdep;have HCL:=zh hcl;have HN:=zh hn;clear hcl hn;have x0:=H11.o.cell 0;have x1:=H11.o.cell 1;have x2:=H11.o.cell 2;simp at x0 x1 x2;go_simp
        have hk:=hK.out (.agg #[.int .i64 xn,.slice A3 n3 c3,.slice AF3 nf3 cf3]) wr (by
         rw[HFD.o]
         exact⟨zh ((fun _=>rfl)),H1,H2,H3,H4,H5,H6,H7,H8,H9,H10,H11,H12⟩)
        simp only[wAf,wAa,wAb,wAc] at hk;exact hk
       ·intro l v wr hn hdep hcl hF K hK;rw[HFD.o] at hF;obtain⟨H0,H1,H2,H3,H4,H5,H6,H7,H8,H9,H10,H11,H12⟩:=hF;simp[wAd] at hdep;have HCL:=zh hcl;have HN:=zh hn;clear hcl hn;go_simp
        have hk:=hK.out (.agg #[.int .i64 0,.slice none 0 0,.slice none 0 0]) wr (by
         rw[HFD.o]
         exact⟨H0,zh ((fun _=>rfl)),H2,H3,H4,H5,H6,H7,H8,H9,H10,H11,H12⟩)
        simp only[wAf,wAa,wAb,wAc] at hk;exact hk
       ·intro l v wr hn hdep hcl hF K hK;rw[HFD.o] at hF;obtain⟨H0,H1,H2,H3,H4,H5,H6,H7,H8,H9,H10,H11,H12⟩:=hF;simp[wAd] at hdep;have HCL:=zh hcl;have HN:=zh hn;clear hcl hn;go_simp
        have hk:=hK.out (.slice AL ll.length cl) wr (by
         rw[HFD.o]
         exact⟨H0,H1,zh ((fun _=>rfl)),H3,H4,H5,H6,H7,H8,H9,H10,H11,H12⟩)
        simp only[wAf,wAa,wAb,wAc] at hk;exact hk
       ·intro l v wr hn hdep hcl hF K hK;rw[HFD.o] at hF;obtain⟨H0,H1,H2,H3,H4,H5,H6,H7,H8,H9,H10,H11,H12⟩:=hF;simp[wAd] at hdep;have HCL:=zh hcl;have HN:=zh hn;clear hcl hn;have e2:=H2.o (by simp[hdep]);have h4:l 4=false:=(by cases g:l 4 with | false=>rfl | true=>exact absurd (HCL.o 4 _ rfl g ⟨3,.data⟩ (by simp) rfl) (by rw[HN.o];decide));have HBW:=H10.o h4;have HH4:=zh h4;clear hdep h4;go_simp;refine (zMS ll AL ll.length cl wr w.heap.size H9.o.size rfl (by have:=HL3.o;omega) ((HRA.o.below HBW (by have:=HBL4.o;omega)).mono hB)).mono ?_;rintro e w9 ⟨A6,c6,rfl,ho9,hb9⟩;have HN9:=zh ho9;clear ho9
        have hk:=hK.out (.slice A6 ll.length c6) w9 (by
         rw[HFD.o]
         exact⟨H0,H1,H2,zh ((fun _ _=>⟨A6,c6,rfl,HN9.o⟩)),zh ((fun h=>absurd h (by rw[show updR l 3 true 4=l 4 from rfl,HH4.o];decide))),H5,H6,zh ((by obtain⟨c0,c1,c2,g1,g2⟩:=H7.o;exact⟨c0,c1,c2,g1.below hb9 g1.lt,g2⟩)),zh ((by obtain⟨c0,c1,g1,g2⟩:=H8.o;exact⟨c0,c1,g1.below hb9 g1.lt,g2⟩)),zh (H9.o.trans (hb9.mono H9.o.size)),zh ((fun _=>HBW.trans (hb9.mono HBW.size))),zh (H11.o.below hb9 H11.o.lt),zh (trivial)⟩)
        simp only[wAf,wAa,wAb,wAc] at hk;simp only[e2] at hk;exact hk
       ·intro l v wr hn hdep hcl hF K hK;rw[HFD.o] at hF;obtain⟨H0,H1,H2,H3,H4,H5,H6,H7,H8,H9,H10,H11,H12⟩:=hF;simp[wAd] at hdep;have HCL:=zh hcl;have HN:=zh hn;clear hcl hn;have e0:=H0.o (by simp[hdep]);have e1:=H1.o (by simp[hdep]);have h4:=HN.o;have HBW:=H10.o h4;obtain⟨A6,c6,e3,hn6⟩:=H3.o (by simp[hdep]) h4;have HN6:=zh hn6;clear hdep h4 hn6;go_simp;refine (zGy 61 (fun _ _=>rfl) (fun p _ => !p) zQc _ _ _ x emptyM Sx 0 ll wr ((HX2.o.below HBW (wAk _)).mono HBW.size) (MachAt.empty _ _) HN6.o HDX.o HDY.o HL3.o HLR.o).mono ?_;rintro e w9 ⟨r,v7,rfl,hr7,hm7,hb9⟩;obtain⟨A7,AF7,n7,c7,nf7,cf7,rfl,_,_,_,_,_,_,_,_⟩:=hm7.at_
        have hk:=hK.out (.tuple #[.agg #[.int .i64 r.1.n,.slice A7 n7 c7,.slice AF7 nf7 cf7],.agg #[.int .i64 r.2.1,.int .i64 r.2.2]]) w9 (by
         rw[HFD.o]
         exact⟨H0,H1,H2,zh ((fun _ h=>absurd h (by simp[updR]))),zh ((fun _=>⟨r,A7,AF7,n7,c7,nf7,cf7,rfl,hr7,hm7.mono HBW.size⟩)),zh ((fun h=>absurd (HCL.o 5 _ rfl h ⟨4,.data⟩ (by simp) rfl) (by rw[HN.o];decide))),zh ((fun h=>absurd (HCL.o 6 _ rfl h ⟨4,.data⟩ (by simp) rfl) (by rw[HN.o];decide))),zh ((by obtain⟨c0,c1,c2,g1,g2⟩:=H7.o;exact⟨c0,c1,c2,g1.below hb9 g1.lt,g2⟩)),zh ((by obtain⟨c0,c1,g1,g2⟩:=H8.o;exact⟨c0,c1,g1.below hb9 g1.lt,g2⟩)),zh (H9.o.trans (hb9.mono H9.o.size)),zh ((fun h=>absurd h (by simp[updR]))),zh (H11.o.below hb9 H11.o.lt),zh (trivial)⟩)
        simp only[wAf,wAa,wAb,wAc] at hk;simp only[e0,e1] at hk;simp only[e3] at hk;exact hk
       ·intro l v wr hn hdep hcl hF K hK;rw[HFD.o] at hF;obtain⟨H0,H1,H2,H3,H4,H5,H6,H7,H8,H9,H10,H11,H12⟩:=hF;simp[wAd] at hdep;have HCL:=zh hcl;have HN:=zh hn;clear hcl hn;obtain⟨r,A7,AF7,n7,c7,nf7,cf7,e4,hr7,hm7⟩:=H4.o (by simp[hdep]);clear hdep;go_simp
        have hk:=hK.out (.agg #[.int .i64 r.1.n,.slice A7 n7 c7,.slice AF7 nf7 cf7]) wr (by
         rw[HFD.o]
         exact⟨H0,H1,H2,H3,zh ((fun _=>⟨r,A7,AF7,n7,c7,nf7,cf7,e4,hr7,hm7⟩)),zh ((fun _=>⟨_,e4⟩)),H6,zh ((by obtain⟨c0,c1,c2,g1,g2⟩:=H7.o;exact⟨c0,c1,c2,g1,fun h=>absurd (HCL.o 7 _ rfl h ⟨5,.data⟩ (by simp) rfl) (by rw[HN.o];decide)⟩)),H8,H9,H10,H11,H12⟩)
        simp only[wAf,wAa,wAb,wAc] at hk;simp only[e4] at hk;exact hk
       ·intro l v wr hn hdep hcl hF K hK;rw[HFD.o] at hF;obtain⟨H0,H1,H2,H3,H4,H5,H6,H7,H8,H9,H10,H11,H12⟩:=hF;simp[wAd] at hdep;have HCL:=zh hcl;have HN:=zh hn;clear hcl hn;obtain⟨r,A7,AF7,n7,c7,nf7,cf7,e4,hr7,hm7⟩:=H4.o (by simp[hdep]);clear hdep;go_simp
        have hk:=hK.out (.agg #[.int .i64 r.2.1,.int .i64 r.2.2]) wr (by
         rw[HFD.o]
         exact⟨H0,H1,H2,H3,zh ((fun _=>⟨r,A7,AF7,n7,c7,nf7,cf7,e4,hr7,hm7⟩)),H5,zh ((fun _=>⟨_,e4⟩)),H7,zh ((by obtain⟨c0,c1,g1,g2⟩:=H8.o;exact⟨c0,c1,g1,fun h=>absurd (HCL.o 8 _ rfl h ⟨6,.data⟩ (by simp) rfl) (by rw[HN.o];decide)⟩)),H9,H10,H11,H12⟩)
        simp only[wAf,wAa,wAb,wAc] at hk;simp only[e4] at hk;exact hk
       ·intro l v wr hn hdep hcl hF K hK;rw[HFD.o] at hF;obtain⟨H0,H1,H2,H3,H4,H5,H6,H7,H8,H9,H10,H11,H12⟩:=hF;simp[wAd] at hdep;have HCL:=zh hcl;have HN:=zh hn;clear hcl hn;have d4:l 4=true:=HCL.o 5 _ rfl (by simp[hdep]) ⟨4,.data⟩ (by simp) rfl;have HD4:=zh d4;obtain⟨r,A7,AF7,n7,c7,nf7,cf7,e4,hr7,hm7⟩:=H4.o d4;obtain⟨z,e50⟩:=H5.o (by simp[hdep]);obtain⟨t6,t7⟩:=zD6 (e4.symm.trans e50);clear e50;have E5:=zh t6.symm;obtain⟨b0,b1,b2,hblk,_⟩:=H7.o;have x0:=hblk.cell 0;have xf0:=hblk.frozen 0;have x1:=hblk.cell 1;have xf1:=hblk.frozen 1;have x2:=hblk.cell 2;have xf2:=hblk.frozen 2;simp at x0 x1 x2;have lg:=hblk.lt;have HBK:=zh hblk;have HM7:=zh hm7;have e5:=E5.o;clear hdep d4 hblk hm7 t6 t7 hr7 e4;go_simp
        have hk:=hK.out undef (((wr.setCell ⟨M,0,none⟩ (.int .i64 r.1.n)).setCell ⟨M,1,none⟩ (.slice A7 n7 c7)).setCell ⟨M,2,none⟩ (.slice AF7 nf7 cf7)) (by
         rw[HFD.o]
         exact⟨H0,H1,H2,zh ((fun _ h=>absurd HD4.o (by rw[show l 4=false from h];decide))),zh ((fun _=>((((H4.o HD4.o).set (p:=⟨M,0,none⟩) (by exact HM2.o) _).set (p:=⟨M,1,none⟩) (by exact HM2.o) _).set (p:=⟨M,2,none⟩) (by exact HM2.o) _))),H5,H6,zh (⟨_,_,_,(((HBK.o.set_ 0 _).set_ 1 _).set_ 2 _),fun _=>E5.o⟩),zh ((by obtain⟨c0,c1,g1,g2⟩:=H8.o;exact⟨c0,c1,(((g1.far (p:=⟨M,0,none⟩) hRM _).far (p:=⟨M,1,none⟩) hRM _).far (p:=⟨M,2,none⟩) hRM _),g2⟩)),zh ((((H9.o.setCell (p:=⟨M,0,none⟩) (by exact hwM) _).setCell (p:=⟨M,1,none⟩) (by exact hwM) _).setCell (p:=⟨M,2,none⟩) (by exact hwM) _)),zh ((fun h=>absurd HD4.o (by rw[show l 4=false from h];decide))),zh ((((H11.o.far (p:=⟨M,0,none⟩) hSM _).far (p:=⟨M,1,none⟩) hSM _).far (p:=⟨M,2,none⟩) hSM _)),zh (trivial)⟩)
        simp only[wAf,wAa,wAb,wAc] at hk;simp only[e5] at hk;exact hk
       ·intro l v wr hn hdep hcl hF K hK;rw[HFD.o] at hF;obtain⟨H0,H1,H2,H3,H4,H5,H6,H7,H8,H9,H10,H11,H12⟩:=hF;simp[wAd] at hdep;have HCL:=zh hcl;have HN:=zh hn;clear hcl hn;have d4:l 4=true:=HCL.o 6 _ rfl (by simp[hdep]) ⟨4,.data⟩ (by simp) rfl;have HD4:=zh d4;obtain⟨r,A7,AF7,n7,c7,nf7,cf7,e4,hr7,hm7⟩:=H4.o d4;obtain⟨z,e50⟩:=H6.o (by simp[hdep]);obtain⟨t6,t7⟩:=zD6 (e4.symm.trans e50);clear e50;have E6:=zh t7.symm;obtain⟨b0,b1,hblk,_⟩:=H8.o;have x0:=hblk.cell 0;have xf0:=hblk.frozen 0;have x1:=hblk.cell 1;have xf1:=hblk.frozen 1;simp at x0 x1;have lg:=hblk.lt;have HBK:=zh hblk;have HM7:=zh hm7;have e6:=E6.o;clear hdep d4 hblk hm7 t6 t7 hr7 e4;go_simp
        have hk:=hK.out undef ((wr.setCell ⟨R,0,none⟩ (.int .i64 r.2.1)).setCell ⟨R,1,none⟩ (.int .i64 r.2.2)) (by
         rw[HFD.o]
         exact⟨H0,H1,H2,zh ((fun _ h=>absurd HD4.o (by rw[show l 4=false from h];decide))),zh ((fun _=>(((H4.o HD4.o).set (p:=⟨R,0,none⟩) (by exact HR2.o) _).set (p:=⟨R,1,none⟩) (by exact HR2.o) _))),H5,H6,zh ((by obtain⟨c0,c1,c2,g1,g2⟩:=H7.o;exact⟨c0,c1,c2,((g1.far (p:=⟨R,0,none⟩) hMR _).far (p:=⟨R,1,none⟩) hMR _),g2⟩)),zh (⟨_,_,((HBK.o.set_ 0 _).set_ 1 _),fun _=>E6.o⟩),zh (((H9.o.setCell (p:=⟨R,0,none⟩) (by exact hwR) _).setCell (p:=⟨R,1,none⟩) (by exact hwR) _)),zh ((fun h=>absurd HD4.o (by rw[show l 4=false from h];decide))),zh (((H11.o.far (p:=⟨R,0,none⟩) hSR _).far (p:=⟨R,1,none⟩) hSR _)),zh (trivial)⟩)
        simp only[wAf,wAa,wAb,wAc] at hk;simp only[e6] at hk;exact hk
end Go.Proofs.Ytkfdhpbnphojoaa
