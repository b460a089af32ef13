/- Part of the proof. -/
import Derived.Test.YtkfdhpbnphojoaaMc32
set_option linter.unusedSimpArgs false
set_option linter.unusedVariables false
set_option maxRecDepth 100000
set_option maxHeartbeats 16000000
open List renaming take_add_one→wAa,getElem?_eq_some_iff→wAb,getElem?_eq_getElem→wAc,any_append→wAd,take_of_length_le→wAe,mem_map→wAg,mem_singleton→wAh,take_length→wAj,mem_filter→wAk,map_append→wAl,filter_append→wAm,getElem?_append_right→wAo,range→wAp,getElem?_append_left→wAq,any_eq_true→wAr,mem_cons_of_mem→wAt,mem_of_getElem?→wAu,any_cons→wAw,any_nil→wAx,mem_append→wAy,length_map→wAz,mem_range→wAA
open Nat renaming le_refl→wAf,mul_le_mul_right→wAv,succ_mul→wAB
open Option renaming toList_some→wAn
open Bool renaming or_false→wAi,eq_iff_iff→wAs
namespace Gm
/-! The states of a least machine are told apart by their words. -/
theorem zCA {l:List Int} {ix:Int} (h:alphF l ix=(0,0)) (hix:ix≠0):l.length≤300∧l.Pairwise (· < ·)∧LabOk l:=by
 unfold alphF at h;by_cases h3:300<l.length
 ·rw[if_pos h3] at h;injection h with h _
  exact absurd h (by decide)
 ·rw[if_neg h3] at h
  have hno:∀ k,k<l.length→alphB l k=none:=by
   intro k hk
   cases e:alphB l k with
   | none=>rfl
   | some r =>
    exfalso
    obtain⟨q,hq⟩:∃ q,(wAp l.length).findSome? (alphB l)=some q:=by
     cases e2:(wAp l.length).findSome? (alphB l) with
     | some q=>exact⟨q,rfl⟩
     | none =>
      have:=List.findSome?_eq_none_iff.1 e2 k (wAA.2 hk)
      rw[e] at this;cases this
    rw[hq] at h;have h:q=(0,0):=h;obtain⟨j,_,hj⟩:=List.exists_of_findSome?_eq_some hq;unfold alphB at hj;split at hj
    · injection hj with hj;rw[← hj] at h;exact absurd (congrArg Prod.fst h) (by simp)
    ·split at hj
     · injection hj with hj;rw[← hj] at h;exact absurd (congrArg Prod.fst h) (by simp)
     · cases hj
  have hget:∀ k (hk:k<l.length),l.getD k 0=l[k]:=fun k hk=>by simp[List.getD_eq_getElem?_getD,hk]
  refine⟨by omega,zDv fun k h0 hk=>?_,fun x hx=>?_⟩
  ·have h:=hno k hk;unfold alphB at h;split at h
   · cases h
   ·split at h
    · cases h
    · omega
  ·obtain⟨k,hk,rfl⟩:=List.getElem_of_mem hx;have h:=hno k hk;unfold alphB at h;rw[hget k hk] at h;split at h
   · cases h
   · omega
theorem zOj {m:Mach} (h:(silR m).2=(0,0)):∀ a∈(silR m).1.arcs,a.i∈labsR m.arcs:=by
 obtain⟨hacc,e⟩:=zEQ h;have val:=zAX (zAU hacc);rw[e,zBK val.n0 val.inRange val.finRange];intro a ha;unfold trimOf at ha;split at ha
 · cases ha
 ·have ha:a∈partArcs (keepK (silO m)) (silO m).arcs:=ha;unfold partArcs at ha;obtain⟨b,hb,rfl⟩:=wAg.1 ha;have hb:=mem_silO.1 (wAk.1 hb).1;obtain⟨s,hs,c,hc,hi,hn,rfl⟩:=mem_silA.1 hb;exact (zAy _ _).2 ⟨hi,c,hc,rfl⟩
theorem zGX {m:Mach} (h:(detW m).2=(0,0)):∀ x∈labD (detW m).1,x∈labsR m.arcs:=by
 obtain⟨_,⟨e,_⟩ | ⟨N,hs,hz,e,_⟩⟩:=zBe h
 ·rw[e];intro x hx;obtain⟨a,ha,_⟩:=wAg.1 ((zAB _ _).1 hx);cases ha
 ·rw[e]
  have hform:∃ K,K≤(setM (silR m).1).n.toNat∧BfsOk (setM (silR m).1) K (fun x=>∃ a∈(silR m).1.arcs,a.i=x):=by
   refine zGF (Z:=subsI N) (fun v hv=>?_) ?_ (fun s _=>zDY _ _) (fun s _ e he=>?_)
   ·obtain⟨h1,h2⟩:=br_ok hs.rng hs.pos hv;exact zCM h1 h2
   ·(have e:(silR m).1.n.toNat=N:=by have:=hs.n;omega);rw[zCR];unfold fuD;rw[e];omega
   ·obtain⟨x,U⟩:=e;obtain⟨⟨a,ha,_,rfl⟩,_⟩:=mem_stpD.1 he;exact⟨a,ha,rfl⟩
  obtain⟨K,_,hK⟩:=hform;intro x hx;obtain⟨a,ha,rfl⟩:=wAg.1 ((zAB _ _).1 hx);obtain⟨b,hb,hi⟩:=hK.lab a ha;rw[← hi];exact zOj hz b hb
open Go Go.RowKit
open Classical in
noncomputable def rowZ (A:List Arc) (s k:Nat):List Arc:=((A.take k).filter fun a=>decide (a.i≠0∧Near A (s:Int) a.f)).map fun a=>⟨(s:Int),a.t,a.i,a.i,0⟩
open Classical in
noncomputable def endZ (m:Mach) (s k:Nat):Bool:=(m.fins.take k).any fun x=>decide (Near m.arcs (s:Int) x.s)
noncomputable def SAp (m:Mach) (i:Nat):List Arc:=(wAp i).flatMap fun s=>rowZ m.arcs s m.arcs.length
noncomputable def SFp (m:Mach) (i:Nat):List Fnl:=(wAp i).flatMap fun s=>if endZ m s m.fins.length=true then [⟨(s:Int),0⟩] else []
theorem zMA (A:List Arc) (s:Nat):rowZ A s 0=[]:=by simp[rowZ]
theorem zPI {A:List Arc} {s k:Nat} {a:Arc} (h:A[k]? = some a) (hi:a.i≠0) (hn:Near A (s:Int) a.f):rowZ A s (k+1)=rowZ A s k++[⟨(s:Int),a.t,a.i,a.i,0⟩]:=by
 unfold rowZ;rw[wAa,h,wAm,wAl];congr 1;simp[hi,hn]
open Classical in
theorem zNU {A:List Arc} {s k:Nat} {a:Arc} (h:A[k]? = some a) (hn:¬ (a.i≠0∧Near A (s:Int) a.f)):rowZ A s (k+1)=rowZ A s k:=by
 unfold rowZ;rw[wAa,h,wAm,wAl]
 have:List.filter (fun a=>decide (a.i≠0∧Near A (s:Int) a.f)) (some a).toList=[]:=by
  rw[List.filter_eq_nil_iff];intro x hx
  have:x=a:=by simpa using hx
  rw[this];simpa using hn
 rw[this];simp
theorem zJI (m:Mach) (i:Nat):SAp m (i+1)=SAp m i++rowZ m.arcs i m.arcs.length:=zAT _ _
theorem zJP (m:Mach) (i:Nat):SFp m (i+1)=SFp m i++if endZ m i m.fins.length=true then [⟨(i:Int),0⟩] else []:=zAT _ _
theorem zMx (m:Mach) (s:Nat):endZ m s 0=false:=by simp[endZ]
open Classical in
theorem zNV {m:Mach} {s k:Nat} {x:Fnl} (h:m.fins[k]? = some x):endZ m s (k+1)=(endZ m s k||decide (Near m.arcs (s:Int) x.s)):=by
 unfold endZ;rw[wAa,h,wAd];simp
theorem zQ2 (m:Mach) {S:Nat} (h:m.n=(S:Int)):SAp m S=silA m:=by
 unfold SAp silA rowZ;rw[show m.n.toNat=S by omega];simp only[wAj]
theorem zRs (m:Mach) {S:Nat} (h:m.n=(S:Int)):SFp m S=silF m:=by
 unfold SFp silF;rw[show m.n.toNat=S by omega];refine zBG fun s _=>?_
 have:(endZ m s m.fins.length=true)↔∃ x∈m.fins,Near m.arcs (s:Int) x.s:=by
  unfold endZ;rw[wAj,wAr];simp
 by_cases g:endZ m s m.fins.length=true
 · rw[if_pos g,if_pos (this.1 g)]
 · rw[if_neg g,if_neg (fun g'=>g (this.2 g'))]
theorem zEV {w w6:World} {g n:Nat} {t:TypeId} {f:Nat→Value} {b sz m:Nat} {e:TypeId} {v:Value} {xs:List Value} (hr:w.rowIs g t n f) (ho:w.ownsRow b e sz v m xs) (hne:e≠t) (hg:w.grownBy w6 v.ownBlock):w6.rowIs g t n f:=by
 obtain⟨c,hc,h1,h2⟩:=hr;exact World.rowIs.of_block ⟨c,hc,h1,h2⟩ (hg.block g (show Blk w g t c from hc).lt (Ne.symm (zAe ho (show Blk w g t c from hc) hne)))
theorem zJU {e e':Arc→Arc→Bool} : ∀ (l:List Arc) (p:Arc),(∀ x∈p::l,∀ y∈p::l,e x y=e' x y)→cpt e p l=cpt e' p l
 | [],_,_=>rfl
 | a::l,p,h=>by
  have h1:=h p (by simp) a (by simp);have h2:=zJU l a (fun x hx y hy=>h x (wAt _ hx) y (wAt _ hy));unfold cpt;rw[h1,h2]
theorem zHB {e e':Arc→Arc→Bool} : ∀ {l:List Arc},(∀ x∈l,∀ y∈l,e x y=e' x y)→compact e l=compact e' l
 | [],_=>rfl
 | a::l,h=>by
  exact congrArg (List.cons a) (zJU l a h)
theorem zEp (m:Mach):compact (sameA true) (srtA (silA m))=compact eqA (srtA (silA m)):=by
 refine zHB fun x hx y hy=>?_
 have hx:=(zAR _).mem_iff.1 hx;have hy:=(zAR _).mem_iff.1 hy;obtain⟨s,hs,a,ha,hi,hn,rfl⟩:=mem_silA.1 hx;obtain⟨s',hs',a',ha',hi',hn',rfl⟩:=mem_silA.1 hy;unfold sameA likeA eqA;rw[if_pos rfl];rw[wAs];simp only[Bool.and_eq_true,decide_eq_true_eq,Arc.mk.injEq];constructor
 · rintro⟨⟨⟨h1,h2⟩,h3⟩,h4⟩;exact⟨h1,h4,h2,h3,trivial⟩
 · rintro⟨h1,h2,h3,h4,_⟩;exact⟨⟨⟨h1,h3⟩,h4⟩,h2⟩
end Gm
namespace Go.Proofs.Ytkfdhpbnphojoaa
open Go.RowKit Gm
open Classical in
theorem zEv (va:Value) (m:Mach) (w:World) (B:Nat) (hB:B≤w.heap.size) (ha:MachAt w B va m) (hv:accF m=(0,0)) :
 Calls Try.prog 74 #[va] w fun e w'=>∃ v1,e=.returned v1∧MachNew w.heap.size w' v1 (silM m)∧Below w.heap.size w w':=by
 have val:=zAX (zAU hv);obtain⟨S,hS⟩:∃ S:Nat,m.n=(S:Int):=⟨m.n.toNat,by have:=val.n0;omega⟩;have hS4:S≤400:=by have:=val.n4;omega
 have hrng:=val.inRange;have hfr:=val.finRange;have hal:=val.len;have hfl:=val.finLen;rw[show m.n.toNat=S by omega] at hrng hfr;have HM:=zh ha;have HSS:=zh hS;obtain⟨i0,hi0,iz0,iz1,iz2⟩:=info_parts zBa;obtain⟨i1,hi1,jz0,jz1,jz2⟩:=info_parts zB6;obtain⟨A,AF,n,c,nf,cf,rfl,HN,HF,hnc,hnfc,hnb,hnfb,hA,hF⟩:=ha;have HRA:=zh hA;have HRF:=zh hF;have HRNG:=zh hrng;have HFR:=zh hfr;have HVV:=zh hv;rw[HN.o] at hal;rw[HF.o] at hfl;unfold big at hnb hnfb;rw[hS] at HM ⊢;clear hA hF hrng hfr hS hv val;have HMK:=zh (fun (W:World)=>run_make_row' (P:=Try.prog) 51 4 (.bool false) 1 Try.underlying51 zAN rfl .i64 .i64 S (by omega) (by omega) W)
 go_enter Try.func74,Try.ntmps74
 go_upto_region 3 with fail
 generalize hW2:World.alloc _ _=W2;obtain⟨X,hX⟩:∃ z,z=w.heap.size:=⟨_,rfl⟩;obtain⟨R,hR⟩:∃ z,z=w.heap.size+1:=⟨_,rfl⟩;obtain⟨O,hO⟩:∃ z,z=w.heap.size+1+1:=⟨_,rfl⟩;have bX:=zh (show Blk W2 X 25 #[.int .i64 (S:Int),.slice A n c,.slice AF nf cf] by rw[← hW2];exact ((Blk.at_ hX).alloc _).alloc _);have bR:=zh (show Blk W2 R 25 #[.int .i64 0,.slice none 0 0,.slice none 0 0] by rw[← hW2];exact (Blk.at_ (by simp[hR])).alloc _);have bO:=zh (show Blk W2 O 25 #[.int .i64 (S:Int),.slice none 0 0,.slice none 0 0] by rw[← hW2];exact Blk.at_ (by simp[hO]));have HBW:=zh (show Below w.heap.size w W2 by rw[← hW2];go_grown);have hXO:X<O:=by omega
 have hRO:R<O:=by omega
 have hBO:B≤O:=by omega
 have hwR:w.heap.size≤R:=by omega
 have hwO:w.heap.size≤O:=by omega
 have hOR:O≠R:=by omega
 have hOs:W2.heap.size=O+1:=by rw[← hW2];simp[hO]
 simp only[← hO];simp only[← hR]
 try simp only[← hX]
 clear hW2 hX hR hO;have HM2:=zh (HM.o.below HBW.o hB);have HRA2:=zh (HRA.o.below HBW.o hB);have HRF2:=zh (HRF.o.below HBW.o hB)
 go_loopw [16] (fun iv wr=>∃ (i q r:Nat),i≤S∧iv=.int .i64 (i:Int)∧q≤i*2000∧r≤i∧Hid (Mg 25 64 69 wr O (O+1) (S:Int) q (SAp m i) r (SFp m i))∧Hid (Below O W2 wr)∧O<wr.heap.size) (fun iv _=>S-(intOf iv).toNat)
 case atStart=>exact⟨0,0,0,by omega,rfl,by omega,by omega,zh (Mg.start bO.o _),zh (Below.refl _ _),bO.o.lt⟩
 case round =>
  obtain⟨i,q,r,hi,rfl,hq,hr,HMG,HB,hOz⟩:=hrel;have bX1:=zh (bX.o.below HB.o hXO);by_cases hiS:i<S
  ·have x0:=bX1.o.cell 0;have x1:=bX1.o.cell 1;have x2:=bX1.o.cell 2;simp at x0 x1 x2;have lX:=bX1.o.lt;have hmk:=HMK.o;have HG0:=zh (show (wr.alloc (.cells (madeCells #[.bool false] S) 4)).rowIs wr.heap.size 4 S (fun _=>.bool false) from World.rowIs_made wr (.bool false) S 4);have c0:=HG0.o.cell hiS;have f0:=HG0.o.frozen i;have l0:=HG0.o.lt;(have j0:(0:Int)≤(i:Int):=by omega);(have j1:(i:Int)<(S:Int):=by omega);(go_upto_region 7 with fail);clear hmk c0 f0 l0 x0 x1 x2 lX;obtain⟨g,hg⟩:∃ z,z=wr.heap.size:=⟨_,rfl⟩;(have hOg:O<g:=by omega);generalize hW4:World.alloc _ _=W4
   have HG1:=zh (show W4.rowIs g 4 S (fun j=>.bool (decide (j=i))) by
    have h:=HG0.o.set i (.bool true);rw[World.setCell_alloc_new,hW4,← hg] at h
    exact h.congr (fun j _=>by by_cases e:j=i<;>simp[e]))
   have HMG4:=zh (show Mg 25 64 69 W4 O (O+1) (S:Int) q (SAp m i) r (SFp m i) by rw[← hW4];exact HMG.o.alloc _);have HB1:=zh (show Below O W2 W4 by rw[← hW4];exact HB.o.alloc (by omega) _)
   try simp only[← hg]
   (have hgO:O≤g:=by omega);have HMGW:=zh HMG.o;have HBA:=zh (show Below wr.heap.size wr W4 by rw[← hW4];exact (Below.refl _ _).alloc (wAf _) _);have HGE:=zh hg;clear HMG HB HG0 hW4 bX1 hOz hg;have bX2:=zh (bX.o.below HB1.o hXO);have x0:=bX2.o.cell 0;have x1:=bX2.o.cell 1;have x2:=bX2.o.cell 2;simp at x0 x1 x2;have lX:=bX2.o.lt;go_wp2_with fail;refine (zEg _ m W4 O S g (fun j=>decide (j=i)) [(i:Int)] (by omega) ((HM2.o.below HB1.o hBO).mono hBO) HSS.o (by omega) HRNG.o (fun x hx=>by rw[wAh.1 hx];omega) (fun s hs=>by rw[decide_eq_true_iff,wAh];omega) HG1.o).mono ?_;rintro e w5 ⟨T,rfl,hrow,hT,hb5⟩;have HROW:=zh hrow
   have HTT:=zh (show ∀ s,s<S→(T s=true↔Near m.arcs (i:Int) (s:Int)) from fun s hs=>by
    rw[hT s hs,zJs];constructor
    ·rintro⟨u,hu,hn⟩;rw[wAh.1 hu] at hn;exact hn
    ·intro hn
     exact⟨_,wAh.2 rfl,hn⟩)
   have HB5:=zh hb5;clear hrow hT hb5;clear x0 x1 x2 lX;have HB6:=zh (HB1.o.trans (HB5.o.mono hgO));have HMG6:=zh (HMGW.o.below (HBA.o.trans (HB5.o.mono (by rw[HGE.o];exact wAf _))));(have hz6:O<w5.heap.size:=by have:=HB6.o.size;omega);clear HB1 HB5 HMG4 HMGW HBA bX2 HG1;have bX6:=zh (bX.o.below HB6.o hXO);have x0:=bX6.o.cell 0;have x1:=bX6.o.cell 1;have x2:=bX6.o.cell 2;simp at x0 x1 x2;have lX:=bX6.o.lt;(go_upto_region 9 with fail);clear x0 x1 x2 lX
   go_loopw [31] (fun kv wq=>∃ (k q':Nat),k≤n∧kv=.int .i64 (k:Int)∧q'≤i*2000+k∧Hid (Mg 25 64 69 wq O (O+1) (S:Int) q' (SAp m i++rowZ m.arcs i k) r (SFp m i))∧Hid (wq.rowIs g 4 S (fun j=>.bool (T j)))∧Hid (Below O W2 wq)∧O<wq.heap.size) (fun kv _=>n-(intOf kv).toNat)
   case atStart=>exact⟨0,q,by omega,rfl,by omega,zh (by rw[zMA,List.append_nil];exact HMG6.o),HROW,HB6,hz6⟩
   case round =>
    clear HMG6 HROW HB6 hz6 bX6;obtain⟨k,q',hk,rfl,hq',HMG,HROW,HB,hOz⟩:=hrel;by_cases hkn:k<n
    ·obtain⟨bb,off,x,hAe,hbB,d0,d1,d2,d3,d4,HX⟩:=zAp (HRA2.o.below HB.o hBO) hkn;subst hAe;(have hbw:bb<wr.heap.size:=by omega);(have hkl:k<m.arcs.length:=by rw[HN.o];exact hkn);(have hxk:m.arcs[k]? = some x:=by rw[← HX.o,wAc hkl];simp[hkl]);obtain⟨r0,r1,r2,r3⟩:=HRNG.o x (wAu hxk);have HXK:=zh hxk;have t2:=HROW.o.cell (show x.f.toNat<S by omega);have tl:=HROW.o.lt;have HTX:=HTT.o x.f.toNat (by omega);rw[show ((x.f.toNat:Nat):Int)=x.f by omega] at HTX;have HTX:=zh HTX;clear hxk hkl HX;by_cases hx0:x.i=0
     ·(have ty:(x.i != 0)=false:=by simp[hx0]);have ty':decide (x.i=0)=true:=decide_eq_true hx0;have HRZ:=zh (zNU (s:=i) HXK.o (fun g=>g.1 hx0));clear hx0 t2 tl;go_wp2;go_roundw
      case rel=>exact⟨k+1,q',by omega,by go_num,by omega,zh (by rw[HRZ.o];exact HMG.o.alloc _),zh (HROW.o.alloc _),zh (HB.o.alloc (by omega) _),by simp;omega⟩
      case measure=>simp[intOf];omega
     ·(have ty:(x.i != 0)=true:=by simp[hx0]);have ty':decide (x.i=0)=false:=decide_eq_false hx0;cases h1:T x.f.toNat
      ·have HRZ:=zh (zNU (s:=i) HXK.o (fun g=>by have:=HTX.o.2 g.2;rw[h1] at this;cases this));rw[h1] at t2;clear hx0;go_wp2;go_roundw
       case rel=>exact⟨k+1,q',by omega,by go_num,by omega,zh (by rw[HRZ.o];exact HMG.o.alloc _),zh (HROW.o.alloc _),zh (HB.o.alloc (by omega) _),by simp;omega⟩
       case measure=>simp[intOf];omega
      ·have HRZ:=zh (zPI (s:=i) HXK.o hx0 (HTX.o.1 h1));rw[h1] at t2;clear hx0;(go_upto_region 12 with fail);clear t2 tl d0 d1 d2 d3 d4 ty ty' hbw;generalize hW7:World.alloc _ _=W7;obtain⟨b7,hb7⟩:∃ z,z=wr.heap.size:=⟨_,rfl⟩;have bx7:=zh (show Blk W7 b7 64 #[.int .i64 x.f,.int .i64 x.t,.int .i64 x.i,.int .i64 x.o,.int .i64 x.w] by rw[← hW7];exact Blk.at_ hb7);have HMG7:=zh (show Mg 25 64 69 W7 O (O+1) (S:Int) q' (SAp m i++rowZ m.arcs i k) r (SFp m i) by rw[← hW7];exact HMG.o.alloc _);have HROW7:=zh (show W7.rowIs g 4 S (fun j=>.bool (T j)) by rw[← hW7];exact HROW.o.alloc _);have HB7:=zh (show Below O W2 W7 by rw[← hW7];exact HB.o.alloc (by omega) _);have hO7:O<W7.heap.size:=by rw[← hW7];simp;omega
       try simp only[← hb7]
       clear hW7 hb7 HMG HROW HB hOz;obtain⟨A5,c5,AF5,cf5,bO7,hoA,hoF⟩:=HMG7.o;have e1:=bO7.cell 1;have lO7:=bO7.lt;simp at e1;have y1:=bx7.o.cell 1;have y2:=bx7.o.cell 2;simp at y1 y2;have ly:=bx7.o.lt;have P1:=zh (bO7.alloc (.cells #[.int .i64 (i:Int),.int .i64 x.t,.int .i64 x.i,.int .i64 x.i,.int .i64 0] 64));have P2:=zh (hoA.alloc (.cells #[.int .i64 (i:Int),.int .i64 x.t,.int .i64 x.i,.int .i64 x.i,.int .i64 0] 64));have P3:=zh (hoF.alloc (.cells #[.int .i64 (i:Int),.int .i64 x.t,.int .i64 x.i,.int .i64 x.i,.int .i64 0] 64));have P4:=zh (HROW7.o.alloc (.cells #[.int .i64 (i:Int),.int .i64 x.t,.int .i64 x.i,.int .i64 x.i,.int .i64 0] 64));have P5:=zh (HB7.o.alloc (by omega) (.cells #[.int .i64 (i:Int),.int .i64 x.t,.int .i64 x.i,.int .i64 x.i,.int .i64 0] 64));have HNF:=zh (show (Value.slice A5 q' c5).ownBlock≠some O from zAe hoA bO7 (by decide));(have hq9:q'≤802000:=by have:i*2000≤400*2000:=wAv _ (by omega);omega);clear bO7 hoA hoF HMG7 HROW7 HB7 bx7;go_wp2_with (at_builtin;go_loud (refine wpList_append_own_at _ rfl (.tmp 46) (.tmp 55) 22 rfl (O+1) 64 i0 _ 5 40 Try.underlying22 hi0 iz0 iz1 iz2 rfl (by omega) (.slice A5 q' c5) q' _ rfl P2.o ⟨W7.heap.size,0,none⟩ 1 1 (arcRow [⟨(i:Int),x.t,x.i,x.i,0⟩]) rfl (by rfl) (World.news_of_block (cs:=(arcRow [⟨(i:Int),x.t,x.i,x.i,0⟩]).toArray) (t:=64) (fr:=(0,0)) (Blk.at_ rfl)) (zAq _) (by simp only[maxLen];omega) (by omega) (by simp<;>omega) ?_;intro v' w6 hown6 hg6 _ hat6;obtain⟨A6,cf6,rfl,hkcv,_⟩:=zAa hown6;have HOWN6:=zh hown6;have HG6:=zh hg6;have df6:w6.frozen? ⟨O,1,none⟩=false:=zAD hg6 HNF.o P1.o.lt (P1.o.frozen 1);have d6:w6.cell? ⟨O,1,none⟩=some (.slice A5 q' c5):=zAf hg6 HNF.o (P1.o.cell 1);have lD6:O<w6.heap.size:=(by have:=hg6.size;have:=P1.o.lt;omega);clear hown6 hg6 hat6));have HMG6:=zh (zCI P1.o P2.o P3.o (by decide) (by decide) (by decide) HG6.o HOWN6.o);have HRO6:=zh ((zEV P4.o P2.o (by decide) HG6.o).setOther (a:=⟨O,1,none⟩) (by show g≠O;omega) (.slice A6 (q'+1) cf6));have HB6:=zh ((P5.o.grown HG6.o (by simp;omega) (fun z hz=>by have:=(P2.o.lt z hz).1;omega)).setCell (p:=⟨O,1,none⟩) (by exact wAf _) (.slice A6 (q'+1) cf6));have hs6:=HG6.o.size;simp at hs6;rw[List.append_assoc,← HRZ.o] at HMG6;go_roundw
       case rel=>exact⟨k+1,q'+1,by omega,by go_num,by omega,HMG6,HRO6,HB6,by simp[World.setCell];omega⟩
       case measure=>simp[intOf];omega
    ·(obtain rfl:n=k:=by omega);have HSA:=zh (show SAp m (i+1)=SAp m i++rowZ m.arcs i n by rw[zJI,HN.o]);rw[← HSA.o] at HMG;have bX6:=zh (bX.o.below HB.o hXO);have x0:=bX6.o.cell 0;have x1:=bX6.o.cell 1;have x2:=bX6.o.cell 2;simp at x0 x1 x2;have lX:=bX6.o.lt;(go_upto_region 16 with fail);clear x0 x1 x2 lX bX6;obtain⟨W8,hW8⟩:∃ z,z=wr:=⟨_,rfl⟩;rw[← hW8] at HMG HROW HB hOz ⊢;clear hW8
     go_loopw [8,62] (fun ev kv wq=>∃ (k:Nat),k≤nf∧kv=.int .i64 (k:Int)∧ev=.bool (endZ m i k)∧Hid (Mg 25 64 69 wq O (O+1) (S:Int) q' (SAp m (i+1)) r (SFp m i))∧Hid (wq.rowIs g 4 S (fun j=>.bool (T j)))∧Hid (Below O W2 wq)∧O<wq.heap.size) (fun _ kv _=>nf-(intOf kv).toNat)
     case atStart=>exact⟨0,by omega,rfl,by rw[zMx],HMG,HROW,HB,hOz⟩
     case round =>
      clear HMG HROW HB hOz;obtain⟨k,hk,rfl,rfl,HMG,HROW,HB,hOz⟩:=hrel;by_cases hkn:k<nf
      ·obtain⟨bb,off,x,hAe,hbB,d0,d1,HX⟩:=zAQ (HRF2.o.below HB.o hBO) hkn;subst hAe;(have hbw:bb<wr.heap.size:=by omega);(have hkl:k<m.fins.length:=by rw[HF.o];exact hkn);(have hxk:m.fins[k]? = some x:=by rw[← HX.o,wAc hkl];simp[hkl]);obtain⟨r0,r1⟩:=HFR.o x (wAu hxk);have t2:=HROW.o.cell (show x.s.toNat<S by omega);have tl:=HROW.o.lt;have HTX:=HTT.o x.s.toNat (by omega);rw[show ((x.s.toNat:Nat):Int)=x.s by omega] at HTX;have HTX:=zh HTX;have HEN:=zh (zNV (s:=i) hxk);clear hxk hkl HX;obtain⟨eb,heb⟩:∃ z,z=endZ m i k:=⟨_,rfl⟩;rw[← heb] at HEN ⊢;clear heb;cases eb
       ·obtain⟨tb,htb⟩:∃ z,z=T x.s.toNat:=⟨_,rfl⟩
        have HEB:=zh (show endZ m i (k+1)=tb by
         rw[HEN.o,Bool.false_or,wAs,decide_eq_true_iff,htb]
         exact HTX.o.symm)
        rw[← htb] at t2;clear htb;go_wp2;go_roundw
        case rel=>exact⟨k+1,by omega,by go_num,by rw[HEB.o],zh (HMG.o.alloc _),zh (HROW.o.alloc _),zh (HB.o.alloc (by omega) _),by simp;omega⟩
        case measure=>simp[intOf];omega
       ·have HEB:=zh (show endZ m i (k+1)=true by rw[HEN.o];rfl);clear t2 tl;go_wp2;go_roundw
        case rel=>exact⟨k+1,by omega,by go_num,by rw[HEB.o],zh (HMG.o.alloc _),zh (HROW.o.alloc _),zh (HB.o.alloc (by omega) _),by simp;omega⟩
        case measure=>simp[intOf];omega
      ·(obtain rfl:nf=k:=by omega);have HSF:=zh (show SFp m (i+1)=SFp m i++if endZ m i nf=true then [⟨(i:Int),0⟩] else [] by rw[zJP,HF.o]);obtain⟨eb,heb⟩:∃ z,z=endZ m i nf:=⟨_,rfl⟩;rw[← heb] at HSF ⊢;clear heb;cases eb
       ·have HS2:=zh (show SFp m (i+1)=SFp m i by rw[HSF.o];simp);clear HSF;go_wp2;go_roundw
        case rel=>exact⟨i+1,q',r,by omega,by go_num,by have:=wAB i 2000;omega,by omega,zh (by rw[HS2.o];exact HMG.o),HB,hOz⟩
        case measure=>simp[intOf];omega
       ·have HS2:=zh (show SFp m (i+1)=SFp m i++[⟨(i:Int),0⟩] by rw[HSF.o];simp);clear HSF;obtain⟨A5,c5,AF5,cf5,bO7,hoA,hoF⟩:=HMG.o;have e2:=bO7.cell 2;have lO7:=bO7.lt;simp at e2;have P1:=zh (bO7.alloc (.cells #[.int .i64 (i:Int),.int .i64 0] 69));have P2:=zh (hoA.alloc (.cells #[.int .i64 (i:Int),.int .i64 0] 69));have P3:=zh (hoF.alloc (.cells #[.int .i64 (i:Int),.int .i64 0] 69));have P5:=zh (HB.o.alloc (by omega) (.cells #[.int .i64 (i:Int),.int .i64 0] 69));have HNG:=zh (show (Value.slice AF5 r cf5).ownBlock≠some O from zAe hoF bO7 (by decide));clear bO7 hoA hoF HMG HB HROW;go_wp2_with (at_builtin;go_loud (refine wpList_append_own_at _ rfl (.tmp 77) (.tmp 80) 23 rfl (O+1) 69 i1 _ 2 16 Try.underlying23 hi1 jz0 jz1 jz2 rfl (by omega) (.slice AF5 r cf5) r _ rfl P3.o ⟨wr.heap.size,0,none⟩ 1 1 (finRow [⟨(i:Int),0⟩]) rfl (by rfl) (World.news_of_block (cs:=(finRow [⟨(i:Int),0⟩]).toArray) (t:=69) (fr:=(0,0)) (Blk.at_ rfl)) (zA9 _) (by simp only[maxLen];omega) (by omega) (by simp<;>omega) ?_;intro v' w6 hown6 hg6 _ hat6;obtain⟨AF6,cf6,rfl,hkcv,_⟩:=zAa hown6;have HOWN6:=zh hown6;have HG6:=zh hg6;have df6:w6.frozen? ⟨O,2,none⟩=false:=zAD hg6 HNG.o P1.o.lt (P1.o.frozen 2);have d6:w6.cell? ⟨O,2,none⟩=some (.slice AF5 r cf5):=zAf hg6 HNG.o (P1.o.cell 2);have lD6:O<w6.heap.size:=(by have:=hg6.size;have:=P1.o.lt;omega);clear hown6 hg6 hat6));have HMG6:=zh (zCz P1.o P2.o P3.o (by decide) (by decide) (by decide) HG6.o HOWN6.o);have HB6:=zh ((P5.o.grown HG6.o (by simp;omega) (fun z hz=>by have:=(P3.o.lt z hz).1;omega)).setCell (p:=⟨O,2,none⟩) (by exact wAf _) (.slice AF6 (r+1) cf6));have hs6:=HG6.o.size;simp at hs6;rw[← HS2.o] at HMG6;go_roundw
        case rel=>exact⟨i+1,q',r+1,by omega,by go_num,by have:=wAB i 2000;omega,by omega,HMG6,HB6,by simp[World.setCell];omega⟩
        case measure=>simp[intOf];omega
  ·(obtain rfl:S=i:=by omega);obtain⟨A5,c5,AF5,cf5,bO7,hoA,hoF⟩:=HMG.o;have hqA:=zA6 hoA;have hrF:=zBv hoF;have HLA:=zh hqA;have HLF:=zh hrF;have HEA:=zh (zQ2 m HSS.o);have HEF:=zh (zRs m HSS.o);(have hq9:q≤800000:=by have:S*2000≤400*2000:=wAv _ hS4;omega);have e0:=bO7.cell 0;have e1:=bO7.cell 1;have e2:=bO7.cell 2;simp at e0 e1 e2;have lO7:=bO7.lt;have HBO:=zh bO7;have HOA:=zh hoA;have HOF:=zh hoF;clear bO7 hoA hoF hqA hrF HMG bX1;go_upto_region 24 with (go_at_call 104;refine (zK1 A5 q c5 true (SAp m S) wr wr.heap.size (wAf _) HLA.o (by omega) (Rd.of_own HOA.o (HLA.o▸fun a b h1 h2=>zAr _ a b h1 h2))).mono ?_;rintro e w8 ⟨A8,c8,rfl,ho8,hb8⟩;have HO8:=zh ho8;have HB8:=zh hb8;have bO8:=zh (HBO.o.below hb8 HBO.o.lt);clear ho8 hb8 e0 e1 e2 lO7;have e0:=bO8.o.cell 0;have e1:=bO8.o.cell 1;have e2:=bO8.o.cell 2;simp at e0 e1 e2;have ef1:=bO8.o.frozen 1;have lO7:=bO8.o.lt)
   have HN8:=zh (show (compact (sameA true) (srtA (SAp m S))).length≤800000 by
    have:=zDw (sameA true) (srtA (SAp m S))
    rw[zEH] at this
    have:=HLA.o
    omega)
   have HOF8:=zh (show w8.ownsRow (O+1) 69 2 (.slice AF5 r cf5) r (finRow (SFp m S)) from zAG HOF.o HB8.o);have HO8L:=zh (zEl HO8.o (show O+1≤wr.heap.size by omega));have HNA:=zh (show (Value.slice A8 (compact (sameA true) (srtA (SAp m S))).length c8).ownBlock≠some O from zAe HO8.o bO8.o (by decide));have HNG:=zh (show (Value.slice AF5 r cf5).ownBlock≠some O from zAe HOF8.o bO8.o (by decide))
   have HM8:=zh (show MachAt (w8.setCell ⟨O,1,none⟩ (.slice A8 (compact (sameA true) (srtA (SAp m S))).length c8)) (w8.setCell ⟨O,1,none⟩ (.slice A8 (compact (sameA true) (srtA (SAp m S))).length c8)).heap.size (.agg #[.int .i64 (S:Int),.slice A8 (compact (sameA true) (srtA (SAp m S))).length c8,.slice AF5 r cf5]) (silO m) by
    have h:=mg_at (n0:=(S:Int)) (ownsRow_setCell_other HO8L.o HNA.o (Value.slice A8 (compact (sameA true) (srtA (SAp m S))).length c8) (a:=⟨O,1,none⟩)) (ownsRow_setCell_other HOF8.o HNG.o (Value.slice A8 (compact (sameA true) (srtA (SAp m S))).length c8) (a:=⟨O,1,none⟩)) (by have:=HN8.o;unfold big;omega) (by unfold big;omega);rw[show (⟨(S:Int),compact (sameA true) (srtA (SAp m S)),SFp m S⟩:Mach)=silO m by unfold silO;rw[HEA.o,HEF.o,zEp,HSS.o]] at h
    exact h)
   have HSZ:=zh (show Sz (silO m) from by
    (have e:(silO m).n.toNat=S:=by show m.n.toNat=S;rw[HSS.o];omega);refine⟨by show 0≤m.n;rw[HSS.o];omega,by show m.n≤_;rw[HSS.o];omega,?_,?_,?_,?_⟩
    ·show (compact eqA (srtA (silA m))).length≤_
     have:=HN8.o
     rw[HEA.o,zEp] at this;omega
    ·show (silF m).length≤_
     have:=HLF.o
     rw[HEF.o] at this;omega
    ·rw[e];intro a ha
     have:=zD4 (by rw[HSS.o];omega) (by rw[HSS.o];exact HRNG.o) (mem_silO.1 ha)
     rw[HSS.o] at this;omega
    ·rw[e];intro x hx;obtain⟨s,hs,_,rfl⟩:=mem_silF.1 (show x∈silF m from hx)
     have:=HSS.o
     dsimp only
     omega)
   have HTM:=zh (show trimOf (silO m)=silM m from (zBK (by rw[HSS.o];omega) (by rw[HSS.o];exact HRNG.o) (by rw[HSS.o];exact HFR.o)).symm);have HB9:=zh (((HBW.o.trans (HB.o.mono hwO)).trans (HB8.o.mono (by omega))).setCell (p:=⟨O,1,none⟩) (by exact hwO) (.slice A8 (compact (sameA true) (srtA (SAp m S))).length c8));have bR9:=zh (((bR.o.below HB.o hRO).below HB8.o (by omega)).far (p:=⟨O,1,none⟩) (by exact Ne.symm hOR) (.slice A8 (compact (sameA true) (srtA (SAp m S))).length c8));have bO9:=zh (bO8.o.set_ 1 (.slice A8 (compact (sameA true) (srtA (SAp m S))).length c8));generalize hl8:(compact (sameA true) (srtA (SAp m S))).length=n8 at *;generalize hW9:World.setCell _ _ _=W9 at *;clear hW9 hl8 e0 e1 e2 lO7 HOF8 HO8L HNA HNG HN8 HO8 HB8 bO8 HB HOA HOF HBO ef1;have e0:=bO9.o.cell 0;have e1:=bO9.o.cell 1;have e2:=bO9.o.cell 2;simp at e0 e1 e2;have lO9:=bO9.o.lt;clear bO9;go_wp2_with fail;refine (zDy _ _ _ _ (wAf _) HM8.o HSZ.o).mono ?_;rintro e w9 ⟨v1,rfl,hnew,hb9⟩;rw[HTM.o] at hnew;obtain⟨A9,AF9,n9,c9,nf9,cf9,rfl,_⟩:=hnew.at_;have hR9:R<W9.heap.size:=bR9.o.lt;have bR:=bR9.o.below hb9 hR9;have HBE9:=zh (HB9.o.trans (hb9.mono (by omega)));have q0:=bR.cell 0;have q1:=bR.cell 1;have q2:=bR.cell 2;have qf:=bR.frozen 0;have qf1:=bR.frozen 1;have qf2:=bR.frozen 2;have lR:=bR.lt;simp at q0 q1 q2;have HNW:=zh (((hnew.set (p:=⟨R,0,none⟩) (by exact hR9) (.int .i64 (silM m).n)).set (p:=⟨R,1,none⟩) (by exact hR9) (.slice A9 n9 c9)).set (p:=⟨R,2,none⟩) (by exact hR9) (.slice AF9 nf9 cf9));have HBE10:=zh (((HBE9.o.setCell (p:=⟨R,0,none⟩) (by exact hwR) (.int .i64 (silM m).n)).setCell (p:=⟨R,1,none⟩) (by exact hwR) (.slice A9 n9 c9)).setCell (p:=⟨R,2,none⟩) (by exact hwR) (.slice AF9 nf9 cf9));clear hb9 hnew bR HBE9;go_wp21;exact bodyPost_ret (v:=.agg #[.int .i64 (silM m).n,.slice A9 n9 c9,.slice AF9 nf9 cf9]) (by simp[results,Try.results74,go_sem,lR,q0,q1,q2,qf,qf1,qf2]) rfl ⟨_,rfl,HNW.o.mono (by omega),HBE10.o⟩
end Go.Proofs.Ytkfdhpbnphojoaa
namespace Gm
section
variable {α:Type} [DecidableEq α]
def atG (l:List α) (u:α) (t:Nat):Int:=if u∈l.take t then ((l.idxOf u:Nat):Int) else -1
theorem zOC (l:List α) (u:α):atG l u 0 = -1:=by unfold atG;simp
theorem zOJ {l:List α} (hn:l.Nodup) {u v:α} {t:Nat} (hv:l[t]? = some v):atG l u (t+1)=if v=u then (t:Int) else atG l u t:=by
 have ht:t<l.length:=(wAb.1 hv).1;have hg:l[t]=v:=(wAb.1 hv).2;unfold atG;rw[wAa,hv];by_cases e:v=u
 ·subst e;rw[if_pos (by simp),if_pos rfl];congr 1;rw[← hg];exact_mod_cast hn.idxOf_getElem t ht
 ·rw[if_neg e];by_cases g:u∈l.take t
  · rw[if_pos (wAy.2 (.inl g)),if_pos g]
  · rw[if_neg g,if_neg (fun h=>by
   rcases wAy.1 h with h | h
   · exact g h
   · simp at h;exact e h.symm)]
def plG (l:List α) (v:α):Int:=if v∈l then ((l.idxOf v:Nat):Int) else -1
theorem zRG {l:List α} {u:α} {t:Nat} (ht:l.length≤t):atG l u t=plG l u:=by unfold atG plG;rw[wAe ht]
theorem zQ5 {l:List α} {u:α} (h:u∈l):addL l u=l:=by unfold addL;rw[if_pos h]
def ixG (l:List α) (u:α):Nat:=l.idxOf u
theorem zMT (i:Nat) (x:Int) (u:α) (st:List α×List Arc):bfsRow i [(x,u)] st=(addL st.1 u,st.2++[⟨(i:Int),((ixG (addL st.1 u) u:Nat):Int),x,x,0⟩]):=rfl
theorem zSX (l:List α) (u:α):plG (addL l u) u=((ixG (addL l u) u:Nat):Int):=by unfold plG ixG;rw[if_pos (addL_mem.2 (.inr rfl))]
theorem zMz {l:List α} {v:α} : plG l v<0↔v∉l:=by
 unfold plG;by_cases h:v∈l
 ·rw[if_pos h];exact⟨fun g=>by omega,fun g=>absurd h g⟩
 ·rw[if_neg h];exact⟨fun _=>h,fun _=>by omega⟩
theorem zQ8 (l:List α) (v:α) : -1≤plG l v:=by unfold plG;split<;>omega
theorem zRX {l:List α} {u:α} (h:u∉l):addL l u=l++[u]∧ixG (addL l u) u=l.length:=by
 have e:addL l u=l++[u]:=by unfold addL;rw[if_neg h]
 refine⟨e,?_⟩;unfold ixG;rw[e,List.idxOf_append,if_neg h];simp
end
def somS (A:List Arc) (X:List Int) (x:Int) (k:Nat):Bool:=(A.take k).any fun a=>decide (a.i=x∧a.f∈X)
def nxtS (A:List Arc) (X:List Int) (x:Int) (k j:Nat):Bool:=(A.take k).any fun a=>decide ((a.i=x∧a.f∈X)∧a.t=(j:Int))
def setT (A:List Arc) (X:List Int) (x:Int):List Int:=setI ((A.filter fun a=>decide (a.f∈X∧a.i=x)).map (·.t))
theorem zNp (A:List Arc) (X:List Int) (x:Int):somS A X x 0=false:=by simp[somS]
theorem zLW (A:List Arc) (X:List Int) (x:Int) (j:Nat):nxtS A X x 0 j=false:=by simp[nxtS]
theorem zP7 {A:List Arc} {X:List Int} {x:Int} {k:Nat} {a:Arc} (h:A[k]? = some a) (hx:a.i=x∧a.f∈X):somS A X x (k+1)=true:=by
 unfold somS;rw[wAa,h,wAd];simp[hx]
theorem zM8 {A:List Arc} {X:List Int} {x:Int} {k:Nat} {a:Arc} (h:A[k]? = some a) (hx:¬ (a.i=x∧a.f∈X)):somS A X x (k+1)=somS A X x k:=by
 unfold somS;rw[wAa,h,wAd];simp only[wAn,wAw,wAx,decide_eq_false hx,wAi]
theorem zP9 {A:List Arc} {X:List Int} {x:Int} {k:Nat} {a:Arc} (h:A[k]? = some a) (hx:a.i=x∧a.f∈X) (h0:0≤a.t) (j:Nat):nxtS A X x (k+1) j=if j=a.t.toNat then true else nxtS A X x k j:=by
 unfold nxtS;rw[wAa,h,wAd];simp only[wAn,wAw,wAx,wAi];by_cases e:j=a.t.toNat
 · rw[if_pos e,decide_eq_true ⟨hx,by omega⟩,Bool.or_true]
 · rw[if_neg e,decide_eq_false (fun g=>by have:=g.2;omega),wAi]
theorem zMs {A:List Arc} {X:List Int} {x:Int} {k:Nat} {a:Arc} (h:A[k]? = some a) (hx:¬ (a.i=x∧a.f∈X)) (j:Nat):nxtS A X x (k+1) j=nxtS A X x k j:=by
 unfold nxtS;rw[wAa,h,wAd];simp only[wAn,wAw,wAx,wAi];rw[decide_eq_false (fun g=>hx g.1),wAi]
theorem zP4 (A:List Arc) (X:List Int) (x:Int) (j:Nat):nxtS A X x A.length j=decide ((j:Int)∈setT A X x):=by
 rw[wAs,decide_eq_true_iff];unfold nxtS setT;rw[wAj,wAr,mem_tgt];constructor
 ·rintro⟨a,ha,h⟩;have h:=of_decide_eq_true h;exact⟨a,ha,h.1.2,h.1.1,h.2⟩
 ·rintro⟨a,ha,h1,h2,h3⟩;exact⟨a,ha,decide_eq_true ⟨⟨h2,h1⟩,h3⟩⟩
theorem zO5 {A:List Arc} {X:List Int} {x:Int} : somS A X x A.length=true↔∃ a∈A,a.f∈X∧a.i=x:=by
 unfold somS;rw[wAj,wAr];constructor
 ·rintro⟨a,ha,h⟩;have h:=of_decide_eq_true h;exact⟨a,ha,h.2,h.1⟩
 ·rintro⟨a,ha,h1,h2⟩;exact⟨a,ha,decide_eq_true ⟨h2,h1⟩⟩
def stpX (A:List Arc) (ls X:List Int) (j:Nat):List (Int×List Int):=((ls.take j).filter fun x=>somS A X x A.length).map fun x=>(x,setT A X x)
theorem zL2 (A:List Arc) (ls X:List Int):stpX A ls X 0=[]:=by simp[stpX]
theorem zLQ {A:List Arc} {ls X:List Int} {j:Nat} {x:Int} (h:ls[j]? = some x):stpX A ls X (j+1)=stpX A ls X j++if somS A X x A.length=true then [(x,setT A X x)] else []:=by
 unfold stpX;rw[wAa,h,wAm,wAl];congr 1;by_cases g:somS A X x A.length=true
 · rw[if_pos g];simp[g]
 · rw[if_neg g];simp[g]
theorem zOh {A:List Arc} {ls X:List Int} (hs:ls.Pairwise (· < ·)) (hm:∀ a∈A,a.i∈ls) {j:Nat} (hj:ls.length≤j):stpX A ls X j=stpD A X:=by
 unfold stpX stpD;rw[wAe hj]
 have e:(ls.filter fun x=>somS A X x A.length)=setI ((A.filter fun a=>decide (a.f∈X)).map (·.i)):=by
  refine zA3 (hs.filter _) (zAm _) fun x=>?_
  rw[wAk,zAB,wAg,zO5];constructor
  ·rintro⟨_,a,ha,h1,h2⟩;exact⟨a,wAk.2 ⟨ha,decide_eq_true h1⟩,h2⟩
  ·rintro⟨a,ha,rfl⟩;obtain⟨h1,h2⟩:=wAk.1 ha;exact⟨hm a h1,a,h1,of_decide_eq_true h2,rfl⟩
 rw[e];rfl
theorem zLS {A:List Arc} {n:Nat} (hA:inRange A n) (X:List Int) (x:Int):okSet n (setT A X x):=⟨zAm _,fun t ht=>by
 obtain⟨a,ha,_,_,rfl⟩:=mem_tgt.1 ht
 have:=hA a ha
 omega⟩
theorem zRu {A:List Arc} {n:Nat} (hA:inRange A n) {ls X:List Int} {j:Nat} : ∀ e∈stpX A ls X j,okSet n e.2:=by
 intro e he;unfold stpX at he;obtain⟨x,_,rfl⟩:=wAg.1 he;exact zLS hA X x
def samS (X Y:List Int) (k:Nat):Bool:=(wAp k).all fun j=>decide ((j:Int)∈X)==decide ((j:Int)∈Y)
theorem zMb (X Y:List Int):samS X Y 0=true:=rfl
theorem zNJ (X Y:List Int) (k:Nat):samS X Y (k+1)=(samS X Y k&&(decide ((k:Int)∈X)==decide ((k:Int)∈Y))):=by
 unfold samS;rw[List.range_succ,List.all_append];simp
theorem zO7 {X Y:List Int} {n:Nat} (hX:okSet n X) (hY:okSet n Y):samS X Y n=true↔X=Y:=by
 unfold samS;rw[List.all_eq_true];constructor
 ·intro h;refine zA3 hX.1 hY.1 fun z=>?_
  have key:∀ z:Int,0≤z→z<(n:Int)→(z∈X↔z∈Y):=fun z h0 h1=>by
   have h2:=h z.toNat (wAA.2 (by omega));rw[show ((z.toNat:Nat):Int)=z by omega] at h2;have h2:=(beq_iff_eq.1 h2);rw[decide_eq_decide] at h2;exact h2
  constructor
  ·intro hz
   have:=hX.2 z hz
   exact (key z this.1 this.2).1 hz
  ·intro hz
   have:=hY.2 z hz
   exact (key z this.1 this.2).2 hz
 ·rintro rfl j _;simp
def endX (F:List Fnl) (X:List Int) (k:Nat):Bool:=(F.take k).any fun x=>decide (x.s∈X)
theorem zN5 (F:List Fnl) (X:List Int):endX F X 0=false:=by simp[endX]
theorem zMp {F:List Fnl} {X:List Int} {k:Nat} {x:Fnl} (h:F[k]? = some x):endX F X (k+1)=(endX F X k||decide (x.s∈X)):=by
 unfold endX;rw[wAa,h,wAd];simp
theorem zPk (F:List Fnl) (X:List Int) {k:Nat} (hk:F.length≤k):endX F X k=finD F X:=by
 unfold endX finD;rw[wAe hk]
open Go Go.RowKit
theorem zIU {w:World} {base g:Nat} {e:TypeId} {cs:Array Value} (h:Blk w g e cs) (hb:base≤g) (hm:cs.size≤maxLen):w.ownsRow base e 1 (.slice (some ⟨g,0,none⟩) cs.size cs.size) cs.size cs.toList :=
 ⟨by simp,.inr ⟨g,cs.size,cs,rfl,hb,h,wAf _,hm,by simp,wAe (by simp)⟩⟩
def rowV' (S:Nat) (g:Nat):Value:=.slice (some ⟨g,0,none⟩) S S
structure BL (w:World) (base:Nat) (eO eB:TypeId) (S:Nat) (v:Value) (n:Nat) (gs:List Nat) (L:List (List Int)):Prop where
 out:w.ownsRow base eO 1 v n (gs.map (rowV' S))
 len:L.length=n
 row:∀ (i g:Nat) (X:List Int),gs[i]? = some g→L[i]? = some X→w.rowIs g eB S (fun j=>.bool (decide ((j:Int)∈X)))
section
variable {w w6:World} {base S n:Nat} {eO eB:TypeId} {v:Value} {gs:List Nat} {L:List (List Int)}
theorem BL.o {w:World} {base:Nat} {eO eB:TypeId} {S:Nat} {v:Value} {n:Nat} {gs:List Nat} {L:List (List Int)} (h:BL w base eO eB S v n gs L):w.ownsRow base eO 1 v n (gs.map (rowV' S)):=h.1
theorem BL.glen (h:BL w base eO eB S v n gs L):gs.length=n:=by
 have:=h.o.1
 rw[wAz] at this;omega
theorem BL.below {w':World} (h:BL w base eO eB S v n gs L) (hb:Below w.heap.size w w'):BL w' base eO eB S v n gs L :=
 ⟨zAG h.o hb,h.len,fun i g X hg hX=>(h.row i g X hg hX).of_block (hb.block g (h.row i g X hg hX).lt)⟩
theorem BL.alloc (h:BL w base eO eB S v n gs L) (o:Obj):BL (w.alloc o) base eO eB S v n gs L :=
 ⟨h.o.alloc o,h.len,fun i g X hg hX=>(h.row i g X hg hX).alloc o⟩
theorem BL.own (h:BL w base eO eB S v n gs L) {b2 s2 n2:Nat} {e2:TypeId} {v2:Value} {x2:List Value} (ho:w.ownsRow b2 e2 s2 v2 n2 x2) (hO:eO≠e2) (hB:e2≠eB) (hg:w.grownBy w6 v2.ownBlock):BL w6 base eO eB S v n gs L :=
 ⟨h.o.kept hg (zAt h.o ho hO),h.len,fun i g X hg' hX=>zEV (h.row i g X hg' hX) ho hB hg⟩
theorem BL.mach (h:BL w base eO eB S v n gs L) {p:Addr} {t:TypeId} {cs:Array Value} (hb:Blk w p.block t cs) (hO:eO≠t) (hB:eB≠t) (u:Value):BL (w.setCell p u) base eO eB S v n gs L :=
 ⟨ownsRow_setCell_other h.o (zAe h.o hb hO) u,h.len,fun i g X hg hX=>(h.row i g X hg hX).setOther (a:=p) (by
  obtain⟨c,hc,_⟩:=h.row i g X hg hX
  exact (show Blk w g eB c from hc).ne_ hb hB) u⟩
theorem BL.push (h:BL w base eO eB S v n gs L) (hne:eO≠eB) {g:Nat} {X:List Int} (hr:w.rowIs g eB S (fun j=>.bool (decide ((j:Int)∈X)))) (hg:w.grownBy w6 v.ownBlock) {v':Value} (hown:w6.ownsRow base eO 1 v' (n+1) (gs.map (rowV' S)++[rowV' S g])):BL w6 base eO eB S v' (n+1) (gs++[g]) (L++[X]):=by
 refine⟨by rw[wAl];exact hown,by rw[List.length_append,h.len];rfl,fun i k Y hk hY=>?_⟩;rcases Nat.lt_or_ge i n with hi | hi
 ·rw[wAq (by rw[h.glen];exact hi)] at hk;rw[wAq (by rw[h.len];exact hi)] at hY;exact zEV (h.row i k Y hk hY) h.o hne hg
 ·rw[wAo (by rw[h.glen];exact hi),h.glen] at hk;rw[wAo (by rw[h.len];exact hi),h.len] at hY;obtain⟨h1,e1⟩:=wAb.1 hk;obtain⟨h2,e2⟩:=wAb.1 hY;have hz:i-n=0:=by simp at h1;omega
  have e1:g=k:=by simpa[hz] using hk
  have e2:X=Y:=by simpa[hz] using hY
  rw[← e1,← e2];exact zEV hr h.o hne hg
theorem BL.at_ (h:BL w base eO eB S v n gs L) {i:Nat} (hi:i<n):∃ b c g X,v=.slice (some ⟨b,0,none⟩) n c∧n≤c∧base≤b∧b<w.heap.size∧w.cell? ⟨b,i,none⟩=some (.slice (some ⟨g,0,none⟩) S S)∧gs[i]? = some g∧L[i]? = some X∧w.rowIs g eB S (fun j=>.bool (decide ((j:Int)∈X))):=by
 obtain⟨b,c,rfl,h1,h2⟩:=h.o.form (by omega);obtain⟨A,c',e,hnc,_⟩:=zAa h.o;injection e with _ _ e
 obtain⟨g,hg⟩:∃ g,gs[i]? = some g:=⟨_,wAc (by rw[h.glen];exact hi)⟩;obtain⟨X,hX⟩:∃ X,L[i]? = some X:=⟨_,wAc (by rw[h.len];exact hi)⟩;refine⟨b,c,g,X,rfl,by omega,h1,h2,?_,hg,hX,h.row i g X hg hX⟩;rw[h.o.cellAt i (by omega)];rw[List.getElem?_map,hg];rfl
end
noncomputable def setsR (m:Mach):Mach:=if (silM m).n=0 then silM m else setM (silM m)
theorem zGt (A:List Arc):(labsR A).length≤A.length:=by
 have h:(labsR A).length≤(A.map (·.i)).length:=zEU (zAJ A) (fun x hx=>by
  obtain⟨_,a,ha,rfl⟩:=(zAy A x).1 hx
  exact wAg.2 ⟨a,ha,rfl⟩)
 rwa [wAz] at h
theorem zDd {m:Mach} (hv:accF m=(0,0)) (h2:(silM m).arcs.length≤2000):silR m=(silM m,(0,0)):=by
 unfold silR;rw[if_neg (by rw[hv];simp),if_neg (by omega)]
theorem zQj {m:Mach} (hv:accF m=(0,0)) (h2:(silM m).arcs.length≤2000) (h60:(setsR m).n≤60):detW m=if 2000<(setsR m).arcs.length then (emptyM,(17,-1)) else (setsR m,(0,0)):=by
 have hs:=zDd hv h2;unfold detW;rw[hs,if_neg (fun g=>g rfl)];dsimp only;by_cases hn:(silM m).n=0
 ·have e:setsR m=emptyM:=by unfold setsR;rw[if_pos hn,zCQ hv hn]
  rw[if_pos hn,e,if_neg (by show ¬ 2000<([]:List Arc).length;simp)]
 ·have e:setsR m=setM (silM m):=by unfold setsR;rw[if_neg hn]
  rw[if_neg hn,e];rw[e] at h60;unfold detR limR;by_cases g:2000<(setM (silM m)).arcs.length
  · rw[if_pos (.inr g),if_pos g];rfl
  · rw[if_neg (by omega),if_neg g]
end Gm
