/- Part of the proof. -/
import Derived.Test.YtkfdhpbnphojoaaMc9
set_option linter.unusedSimpArgs false
set_option linter.unusedVariables false
set_option maxRecDepth 100000
set_option maxHeartbeats 4000000
open List renaming setIfInBounds_toArray→wAa,set_cons_zero→wAb,set_cons_succ→wAc,take_of_length_le→wAd,drop_succ_cons→wAe,length_append→wAf,length_take→wAg,drop_zero→wAh
namespace Go.Proofs.Ytkfdhpbnphojoaa
open Go.RowKit Gm
theorem zJZ {w:World} {base sz n:Nat} {e:TypeId} {v:Value} {xs:List Value} (h:w.ownsRow base e sz v n xs) {p1 p2 p3:Addr} (h1:p1.block<base) (h2:p2.block<base) (h3:p3.block<base) (u1 u2 u3:Value) :
 (((w.setCell p1 u1).setCell p2 u2).setCell p3 u3).ownsRow base e sz v n xs :=
 ownsRow_setCell_below (ownsRow_setCell_below (ownsRow_setCell_below h h1 u1) h2 u2) h3 u3
theorem zKz {K:Nat→Bool} {j i:Nat} : (if i=j then Value.int .i64 (cntK K j:Int) else .int .i64 (if i<j then (cntK K i:Int) else 0))=.int .i64 (if i<j+1 then (cntK K i:Int) else 0):=by
 by_cases e:i=j
 · subst e;simp
 ·rw[if_neg e];congr 1;by_cases h:i<j
  · rw[if_pos h,if_pos (by omega)]
  · rw[if_neg h,if_neg (by omega)]
noncomputable def partOf (m:Mach) (K:Nat→Bool):Mach:=if m.n=0∨K 0=false then emptyM else partM m K
theorem zPH (
 v:Value) (m:Mach) (w:World) (B S gK:Nat) (K:Nat→Bool) (hB:B≤w.heap.size) (h:MachAt w B v m) (hS:m.n=(S:Int)) (hS4:S≤100000) (hl:m.arcs.length≤1000000) (hfl:m.fins.length≤1000000)
 (hrng:inRange m.arcs S) (hfr:∀ x∈m.fins,0≤x.s∧x.s<(S:Int)) (rK:w.rowIs gK 4 S (fun i=>.bool (K i))) :
 Calls Try.prog 90 #[v,.slice (some ⟨gK,0,none⟩) S S] w fun e w'=>∃ v1,e=.returned v1∧MachNew w.heap.size w' v1 (partOf m K)∧Below w.heap.size w w':=by
 obtain⟨A,AF,n,c,nf,cf,rfl,HN,HF,hnc,hnfc,hnb,hnfb,hA,hF⟩:=h;rw[HN.o] at hl;rw[HF.o] at hfl;have HS:=zh hS;have HRNG:=zh hrng;have HFR:=zh hfr;rw[hS];clear hS hrng hfr hnb hnfb;obtain⟨ia,ha0,ha1,ha2,ha3⟩:=info_parts zBa;obtain⟨iF,hF0,hF1,hF2,hF3⟩:=info_parts zB6;have hgK:=rK.lt
 go_enter Try.func90,Try.ntmps90
 cases hz:((S:Int)==0)
 case true =>
  have hS0:S=0:=by simpa using hz
  have hres:partOf m K=emptyM:=by unfold partOf;rw[if_pos (.inl (by rw[HS.o,hS0];rfl))]
  have HRES:=zh hres;clear hres;go_wp2;rw[HRES.o];exact bodyPost_ret (v:=.agg #[.int .i64 0,.slice none 0 0,.slice none 0 0]) (by simp[results,Try.results90,go_sem]) rfl ⟨_,rfl,MachNew.empty _ _,by go_grown⟩
 case false =>
  have hS1:0<S:=by
   have:S≠0:=by simpa using hz
   omega
  have t0:=rK.cell hS1;cases hK0:K 0
  case false =>
   rw[hK0] at t0;(have hres:partOf m K=emptyM:=by unfold partOf;rw[if_pos (.inr hK0)]);have HRES:=zh hres;clear hres hK0;go_wp2;rw[HRES.o];exact bodyPost_ret (v:=.agg #[.int .i64 0,.slice none 0 0,.slice none 0 0]) (by simp[results,Try.results90,go_sem]) rfl ⟨_,rfl,MachNew.empty _ _,by go_grown⟩
  case true =>
   rw[hK0] at t0
   have hres:partOf m K=partM m K:=by
    unfold partOf;rw[if_neg];intro h;rcases h with h | h
    · rw[HS.o] at h;omega
    · rw[hK0] at h;cases h
   have HRES:=zh hres;clear hres hK0;(have hmk:=fun (W:World)=>run_make_row' (P:=Try.prog) 26 3 (.int .i64 0) 8 Try.underlying26 zAH rfl .i64 .i64 S (by omega) (by omega) W);go_wp2;clear hmk t0 hz;generalize hW:World.alloc _ _=W4;generalize e2:w.heap.size+1+1=gN;generalize e3:gN+1=gO
   have rN0:W4.rowIs (gN) 3 S (fun j=>.int .i64 (if j<0 then (cntK K j:Int) else 0)):=by
    rw[← hW];(have e:((w.alloc (Obj.cells #[.int .i64 (S:Int),.slice A n c,.slice AF nf cf] 25)).alloc (Obj.cells #[.int .i64 0,.slice none 0 0,.slice none 0 0] 25)).heap.size=gN:=by simp;omega);rw[← e];exact ((World.rowIs_made _ (.int .i64 0) S 3).congr (fun i _=>by rw[if_neg (by omega)])).alloc _
   (have bX:Blk W4 w.heap.size 25 #[.int .i64 (S:Int),.slice A n c,.slice AF nf cf]:=by rw[← hW];exact (((Blk.at_ rfl).alloc _).alloc _).alloc _);(have bR:Blk W4 (w.heap.size+1) 25 #[.int .i64 0,.slice none 0 0,.slice none 0 0]:=by rw[← hW];exact ((Blk.at_ (by simp)).alloc _).alloc _);(have bO0:Blk W4 (gO) 25 #[.int .i64 (cntK K 0:Int),.slice none 0 0,.slice none 0 0]:=by rw[← hW];exact Blk.at_ (by simp;omega));(have hb4:Below w.heap.size w W4:=by rw[← hW];go_grown);clear hW
   go_loopw [27] (fun i wr=>∃ k:Nat,k≤S∧i=.int .i64 k∧wr.rowIs (gN) 3 S (fun j=>.int .i64 (if j<k then (cntK K j:Int) else 0)) ∧
    Blk wr (gO) 25 #[.int .i64 (cntK K k:Int),.slice none 0 0,.slice none 0 0]∧Below w.heap.size w wr ∧
    Blk wr w.heap.size 25 #[.int .i64 (S:Int),.slice A n c,.slice AF nf cf]∧Blk wr (w.heap.size+1) 25 #[.int .i64 0,.slice none 0 0,.slice none 0 0]) (fun i _=>S-(intOf i).toNat)
   case atStart=>exact⟨0,by omega,rfl,rN0,bO0,hb4,bX,bR⟩
   case round =>
    clear rN0 bO0 hb4 bX bR;obtain⟨j,hj,rfl,rN,bO,hb5,bX,bR⟩:=hrel;by_cases hjS:j<S
    ·have nf':=rN.frozen j;have o0:=bO.cell 0;have of:=bO.frozen 0;have t0:=zAb hb5 (rK.cell hjS) hgK;have ol:=bO.lt;have nl:=rN.lt;simp at o0;have hcl:=zCB K j;(have hne:gN≠gO:=by omega);have n0:=rN.cell hjS;cases h1:K j
     ·rw[h1] at t0;go_wp2;go_roundw
      case rel=>exact⟨j+1,by omega,by go_num,(rN.set j (.int .i64 (cntK K j:Int))).congr (fun i _=>zKz),by rw[zSn h1];exact bO.far (by simp<;>omega) _,hb5.setCell (by simp<;>omega) _,bX.far (by simp<;>omega) _,bR.far (by simp<;>omega) _⟩
      case measure=>simp[intOf];omega
     ·rw[h1] at t0;go_wp2;go_roundw
      case rel=>exact⟨j+1,by omega,by go_num,((rN.set j (.int .i64 (cntK K j:Int))).setOther (by simp<;>omega) _).congr (fun i _=>zKz),by rw[zSs h1];exact (bO.far (by simp<;>omega) _).set_ 0 _,(hb5.setCell (by simp<;>omega) _).setCell (by simp<;>omega) _,(bX.far (by simp<;>omega) _).far (by simp<;>omega) _,(bR.far (by simp<;>omega) _).far (by simp<;>omega) _⟩
      case measure=>simp[intOf];omega
    ·(obtain rfl:j=S:=by omega);have rN:=rN.congr (g:=fun i=>.int .i64 (cntK K i:Int)) (fun i hi=>by rw[if_pos hi]);have ol:=bO.lt;have xl:=bX.lt;have x1:=bX.cell 1;simp at x1;go_wp2;clear x1
     go_loopw [47] (fun i wr=>∃ (q:Nat) (va:Value),q≤n∧i=.int .i64 q∧wr.rowIs (gN) 3 j (fun i=>.int .i64 (cntK K i:Int))∧Blk wr (gO) 25 #[.int .i64 (cntK K j:Int),va,.slice none 0 0] ∧
      wr.ownsRow (w.heap.size+4) 64 5 va (partArcs K (m.arcs.take q)).length (arcRow (partArcs K (m.arcs.take q)))∧Below w.heap.size w wr∧w.heap.size+4≤wr.heap.size ∧
      Blk wr w.heap.size 25 #[.int .i64 (j:Int),.slice A n c,.slice AF nf cf]∧Blk wr (w.heap.size+1) 25 #[.int .i64 0,.slice none 0 0,.slice none 0 0]) (fun i _=>n-(intOf i).toNat)
     case atStart=>exact⟨0,_,by omega,rfl,rN,bO,World.ownsRow_nil _ _ _ _,hb5,by omega,bX,bR⟩
     case round =>
      clear rN bO hb5 ol bX bR xl;obtain⟨q,va,hq,rfl,rN,bO,hown,hb5,hz5,bX,bR⟩:=hrel;have o1:=bO.cell 1;have of1:=bO.frozen 1;simp at o1;have ol:=bO.lt;have xl:=bX.lt;have x2:=bX.cell 2;simp at x2;by_cases hqn:q<n
      ·obtain⟨b,off,a,rfl,hbB,c0,c1,c2,c3,c4,HA⟩:=zAp (hA.below hb5 hB) hqn;(have hbw':b<wr.heap.size:=by have:=hb5.size;omega);have hin:=HRNG.o a (zBN (by rw[HN.o];exact hqn) HA.o);obtain⟨r0,r1,r2,r3⟩:=hin;have nF:=rN.cell (show a.f.toNat<j by omega);have nT:=rN.cell (show a.t.toNat<j by omega);have nl:=rN.lt;have gF:=zAb hb5 (rK.cell (show a.f.toNat<j by omega)) hgK;have gT:=zAb hb5 (rK.cell (show a.t.toNat<j by omega)) hgK;have HTP:=zh (zAY (by rw[HN.o];exact hqn) HA.o);have hpl:=zCb K (m.arcs.take q);rw[wAg] at hpl;(have hgw:gK<wr.heap.size:=by have:=hb5.size;omega);cases hkf:K a.f.toNat
       ·rw[hkf] at gF;go_wp2;go_roundw
        case rel=>exact⟨q+1,va,by omega,by go_num,rN.alloc _,bO.alloc _,by rw[HTP.o,zCv,hkf];simpa using hown.alloc _,hb5.alloc (by omega) _,by simp;omega,bX.alloc _,bR.alloc _⟩
        case measure=>simp[intOf];omega
       ·rw[hkf] at gF;cases hkt:K a.t.toNat
        ·rw[hkt] at gT;(have hq1:gN≠wr.heap.size:=by omega);(have hq2:gN≠wr.heap.size+1:=by omega);(have hq3:gO≠wr.heap.size:=by omega);(have hq4:gO≠wr.heap.size+1:=by omega);go_wp2;go_roundw
         case rel=>exact⟨q+1,va,by omega,by go_num,rN.alloc _,bO.alloc _,by rw[HTP.o,zCv,hkf,hkt];simpa using hown.alloc _,hb5.alloc (by omega) _,by simp;omega,bX.alloc _,bR.alloc _⟩
         case measure=>simp[intOf];omega
        ·rw[hkt] at gT;go_wp2
         refine zAE (fun w'=>w'.cell? ⟨wr.heap.size,0,none⟩=some (.int .i64 a.f)∧w'.cell? ⟨wr.heap.size,1,none⟩=some (.int .i64 a.t)∧w'.cell? ⟨wr.heap.size,2,none⟩=some (.int .i64 a.i)∧w'.cell? ⟨wr.heap.size,3,none⟩=some (.int .i64 a.o)∧w'.cell? ⟨wr.heap.size,4,none⟩=some (.int .i64 a.w) ∧
          w'.cell? ⟨gN,a.f.toNat,none⟩=some (.int .i64 (cntK K a.f.toNat:Int))∧w'.cell? ⟨gN,a.t.toNat,none⟩=some (.int .i64 (cntK K a.t.toNat:Int))∧w'.cell? ⟨gO,1,none⟩=some va) 20 [(0,false),(1,false),(2,false),(3,false),(4,false),(5,false),(6,false),(7,false),(8,false),(9,false),(10,false),(11,false),(12,false),(13,false),(14,false),(15,false),(16,false),(17,false),(18,false),(19,true)] (by kernel_rfl) (by kernel_rfl) ?_ ?_
         · go_simp
         simp only[wAe,wAh]
         repeat (refine mix_q (v:=?_) (by rfl) (by rfl) ?_ ?_;rotate_left;(focus (intro w' hC;(try dsimp only at hC);go_simp;(first | done | with_reducible rfl)));simp only[Act.put,wAa,wAb,wAc])
         refine mix_l (by rfl) (by rfl) (fun K hK=>?_);go_simp;refine hK _ _ (by go_simp) ?_;clear hK K;refine zAs ?_;(try simp only[Act.put,wAa,wAb,wAc]);(have hne1:va.ownBlock≠some (gO):=fun e=>by have:=(hown.lt _ e).1;omega);(have hne2:va.ownBlock≠some (gN):=fun e=>by have:=(hown.lt _ e).1;omega);(have hne3:va.ownBlock≠some (w.heap.size+1):=fun e=>by have:=(hown.lt _ e).1;omega);(have hne4:va.ownBlock≠some w.heap.size:=fun e=>by have:=(hown.lt _ e).1;omega);go_wp2_with (at_builtin;refine wpList_append_own _ rfl (.tmp 64) (.tmp 82) 22 rfl (w.heap.size+4) 64 ia _ 5 40 Try.underlying22 ha0 ha1 ha2 ha3 rfl (by omega) va _ _ rfl ((hown.alloc _).alloc _).drew ⟨wr.heap.size+1,0,none⟩ 1 1 (arcRow [partArc K a]) rfl (by rfl) (World.news_of_block (cs:=(arcRow [partArc K a]).toArray) (t:=64) (fr:=(0,0)) ((Blk.at_ (by simp)).drew)) (zAq _) (by simp only[maxLen];omega) (by omega) (by simp;omega) ?_;intro v' w6 hown2 hg2 _;obtain⟨Av,cv,rfl,_,_⟩:=zAa hown2;have o1':=zAf hg2 hne1 (o:=1) (v:=va) (by go_simp);have of1':=zAD hg2 hne1 (o:=1) (x:=false) (by simp;omega) (by go_simp));refine NoPanic.normal ?_;go_wp2;have hs6:=hg2.size;simp at hs6;go_roundw
         case rel=>exact⟨q+1,_,by omega,by go_num,
          (((rN.alloc _).alloc _).of_block (hg2.block _ (by simp;omega) (fun e=>hne2 e.symm))).setOther (by simp<;>omega) _,
          ((((bO.alloc _).alloc _).drew).grown hg2 (fun e=>hne1 e.symm)).set_ 1 _,
          ownsRow_setCell_below (by
           rw[HTP.o,zCv,hkf,hkt];rw[Bool.and_true,if_pos rfl,wAf,zAu]
           exact hown2) (by simp<;>omega) _,
          ((((hb5.alloc (by omega) _).alloc (by simp;omega) _).drew).grown hg2 (by simp;omega) (fun k hk=>by have:=(hown.lt _ hk).1;omega)).setCell (by simp<;>omega) _,by simp;omega,
          ((((bX.alloc _).alloc _).drew).grown hg2 (fun e=>hne4 e.symm)).far (by simp<;>omega) _,((((bR.alloc _).alloc _).drew).grown hg2 (fun e=>hne3 e.symm)).far (by simp<;>omega) _⟩
         case measure=>simp[intOf];omega
      ·(obtain rfl:q=n:=by omega);have hend:m.arcs.take q=m.arcs:=wAd (by rw[HN.o];omega);rw[hend] at hown;clear hend o1 of1 hqn;obtain⟨wp,rfl⟩:∃ wp:World,wp=wr:=⟨_,rfl⟩;have hpl:=zCb K m.arcs;rw[HN.o] at hpl;go_wp2;clear x2 ol xl
       go_loopw [89] (fun i wr=>∃ (p:Nat) (vf:Value),p≤nf∧i=.int .i64 p∧wr.rowIs gN 3 j (fun i=>.int .i64 (cntK K i:Int))∧Blk wr gO 25 #[.int .i64 (cntK K j:Int),va,vf] ∧
        wr.ownsRow (w.heap.size+4) 64 5 va (partArcs K m.arcs).length (arcRow (partArcs K m.arcs))∧wr.ownsRow (w.heap.size+4) 69 2 vf (partFins K (m.fins.take p)).length (finRow (partFins K (m.fins.take p))) ∧
        Below w.heap.size w wr∧w.heap.size+4≤wr.heap.size∧Blk wr (w.heap.size+1) 25 #[.int .i64 0,.slice none 0 0,.slice none 0 0]) (fun i _=>nf-(intOf i).toNat)
       case atStart=>exact⟨0,_,by omega,rfl,rN,bO,hown,World.ownsRow_nil _ _ _ _,hb5,by omega,bR⟩
       case round =>
        clear rN bO hb5 hown bX bR;obtain⟨p,vf,hp,rfl,rN,bO,hownA,hown,hb5,hz5,bR⟩:=hrel;have o2:=bO.cell 2;have of2:=bO.frozen 2;simp at o2;have ol:=bO.lt;by_cases hpn:p<nf
        ·obtain⟨b,off,x,rfl,hbB,c0,c1,HA⟩:=zAQ (hF.below hb5 hB) hpn;(have hbw':b<wr.heap.size:=by have:=hb5.size;omega);have hin:=HFR.o x (zCf (by rw[HF.o];exact hpn) HA.o);obtain⟨r0,r1⟩:=hin;have nF:=rN.cell (show x.s.toNat<j by omega);have nl:=rN.lt;have gF:=zAb hb5 (rK.cell (show x.s.toNat<j by omega)) hgK;(have hgw:gK<wr.heap.size:=by have:=hb5.size;omega);have HTP:=zh (zGm (by rw[HF.o];exact hpn) HA.o);have hfl2:=zEx K (m.fins.take p);rw[wAg] at hfl2;cases hkf:K x.s.toNat
         ·rw[hkf] at gF;go_wp2;go_roundw
          case rel=>exact⟨p+1,vf,by omega,by go_num,rN.alloc _,bO.alloc _,hownA.alloc _,by rw[HTP.o,zDO,hkf];simpa using hown.alloc _,hb5.alloc (by omega) _,by simp;omega,bR.alloc _⟩
          case measure=>simp[intOf];omega
         ·rw[hkf] at gF;go_wp2;refine zAE (fun w'=>w'.cell? ⟨wr.heap.size,0,none⟩=some (.int .i64 x.s)∧w'.cell? ⟨wr.heap.size,1,none⟩=some (.int .i64 x.w)∧w'.cell? ⟨gN,x.s.toNat,none⟩=some (.int .i64 (cntK K x.s.toNat:Int))∧w'.cell? ⟨gO,2,none⟩=some vf) 11 [(0,false),(1,false),(2,false),(3,false),(4,false),(5,false),(6,false),(7,false),(8,false),(9,false),(10,true)] (by kernel_rfl) (by kernel_rfl) ?_ ?_
          · go_simp
          simp only[wAe,wAh]
          repeat (refine mix_q (v:=?_) (by rfl) (by rfl) ?_ ?_;rotate_left;(focus (intro w' hC;(try dsimp only at hC);go_simp;(first | done | with_reducible rfl)));simp only[Act.put,wAa,wAb,wAc])
          refine mix_l (by rfl) (by rfl) (fun K hK=>?_);go_simp;refine hK _ _ (by go_simp) ?_;clear hK K;refine zAs ?_;(try simp only[Act.put,wAa,wAb,wAc]);(have hne1:vf.ownBlock≠some gO:=fun e=>by have:=(hown.lt _ e).1;omega);(have hne2:vf.ownBlock≠some gN:=fun e=>by have:=(hown.lt _ e).1;omega);(have hne3:vf.ownBlock≠some (w.heap.size+1):=fun e=>by have:=(hown.lt _ e).1;omega);go_wp2_with (at_builtin;refine wpList_append_own _ rfl (.tmp 99) (.tmp 108) 23 rfl (w.heap.size+4) 69 iF _ 2 16 Try.underlying23 hF0 hF1 hF2 hF3 rfl (by omega) vf _ _ rfl ((hown.alloc _).alloc _).drew ⟨wr.heap.size+1,0,none⟩ 1 1 (finRow [partFin K x]) rfl (by rfl) (World.news_of_block (cs:=(finRow [partFin K x]).toArray) (t:=69) (fr:=(0,0)) ((Blk.at_ (by simp)).drew)) (zA9 _) (by simp only[maxLen];omega) (by omega) (by simp;omega) ?_;intro v' w6 hown2 hg2 _;obtain⟨Av,cv,rfl,_,_⟩:=zAa hown2;have o1':=zAf hg2 hne1 (o:=2) (v:=vf) (by go_simp);have of1':=zAD hg2 hne1 (o:=2) (x:=false) (by simp;omega) (by go_simp));refine NoPanic.normal ?_;go_wp2;have hs6:=hg2.size;simp at hs6;go_roundw
          case rel=>exact⟨p+1,_,by omega,by go_num,
           (((rN.alloc _).alloc _).of_block (hg2.block _ (by simp;omega) (fun e=>hne2 e.symm))).setOther (by simp<;>omega) _,
           ((((bO.alloc _).alloc _).drew).grown hg2 (fun e=>hne1 e.symm)).set_ 2 _,
           ownsRow_setCell_below ((((hownA.alloc _).alloc _).drew).kept hg2 (zAt hownA hown (by decide))) (by simp<;>omega) _,
           ownsRow_setCell_below (by
            rw[HTP.o,zDO,hkf];rw[if_pos rfl,wAf,zBO]
            exact hown2) (by simp<;>omega) _,
           ((((hb5.alloc (by omega) _).alloc (by simp;omega) _).drew).grown hg2 (by simp;omega) (fun k hk=>by have:=(hown.lt _ hk).1;omega)).setCell (by simp<;>omega) _,by simp;omega,
           ((((bR.alloc _).alloc _).drew).grown hg2 (fun e=>hne3 e.symm)).far (by simp<;>omega) _⟩
          case measure=>simp[intOf];omega
        ·(obtain rfl:p=nf:=by omega);have hend:m.fins.take p=m.fins:=wAd (by rw[HF.o];omega);rw[hend] at hown;clear hend o2 of2 hpn;have hfl2:=zEx K m.fins;rw[HF.o] at hfl2;have o0:=bO.cell 0;have o1:=bO.cell 1;have o2:=bO.cell 2;simp at o0 o1 o2;have q0:=bR.cell 0;have q1:=bR.cell 1;have q2:=bR.cell 2;have qf:=bR.frozen 0;have qf1:=bR.frozen 1;have qf2:=bR.frozen 2;simp at q0 q1 q2;have hs3:=bR.lt;obtain⟨Aa,ca,rfl,ha5,ha6⟩:=zAa hownA;obtain⟨Af,cf2,rfl,hf5,hf6⟩:=zAa hown;(have hl1:w.heap.size+1<w.heap.size+4:=by omega);have HOA:=zh hownA;have HOF:=zh hown;(have hjj:m.n.toNat=j:=by rw[HS.o];rfl);have HJJ:=zh hjj;clear hownA hown hjj;go_wp2;rw[HRES.o]
         exact bodyPost_ret (v:=.agg #[.int .i64 (cntK K j:Int),.slice Aa (partArcs K m.arcs).length ca,.slice Af (partFins K m.fins).length cf2]) (by simp[results,Try.results90,go_sem,q0,q1,q2,qf,qf1,qf2,hs3]) rfl
          ⟨_,rfl,(by
           (have hcnt:((cntK K j:Nat):Int)=(partM m K).n:=by unfold partM;rw[HJJ.o]);rw[hcnt]
           exact MachNew.of_own (m:=partM m K) (zJZ HOA.o hl1 hl1 hl1 _ _ _) (zJZ HOF.o hl1 hl1 hl1 _ _ _) (by omega) (by omega) ha5 hf5 (by show (partArcs K m.arcs).length≤big;simp only[big];omega) (by show (partFins K m.fins).length≤big;simp only[big];omega)),(by go_grown:Below w.heap.size w _)⟩
end Go.Proofs.Ytkfdhpbnphojoaa
