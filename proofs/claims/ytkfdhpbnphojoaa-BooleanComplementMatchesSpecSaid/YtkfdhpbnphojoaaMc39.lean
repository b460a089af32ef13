/- Part of the proof. -/
import Derived.Test.YtkfdhpbnphojoaaMc38
set_option linter.unusedSimpArgs false
set_option linter.unusedVariables false
set_option maxRecDepth 100000
set_option maxHeartbeats 16000000
open List renaming mem_of_getElem?→wAb,getElem?_eq_getElem→wAc,getElem?_eq_some_iff→wAe
open Nat renaming le_refl→wAa,mul_le_mul_left→wAf
open Go.World renaming news_of_block→wAd
namespace Go.Proofs.Ytkfdhpbnphojoaa
open Go.RowKit Gm
theorem zLc (A:List Arc):(labsR A).length≤A.length:=by
 have h:(labsR A).length≤(A.map (·.i)).length:=zEU (zAJ A) (fun x hx=>by
  obtain⟨_,a,ha,rfl⟩:=(zAy A x).1 hx
  exact List.mem_map.2 ⟨a,ha,rfl⟩)
 rwa [List.length_map] at h
theorem zLx:(Try.prog.info? 51).map (fun i=>(i.zero,i.size,i.bytes))=some (some (.slice none 0 0),1,24):=by kernel_rfl
theorem zON (
 va:Value) (m:Mach) (w:World) (B:Nat) (hB:B≤w.heap.size) (ha:MachAt w B va m) (hv:accF m=(0,0)) (hl:(silM m).arcs.length≤2000) :
 Calls Try.prog 75 #[va] w fun e w'=>∃ v1 b,e=.returned (.tuple #[v1,.bool b])∧Below w.heap.size w w'∧(b=false→MachNew w.heap.size w' v1 (silM m))∧(b=true→MachNew w.heap.size w' v1 (setsR m)∧(setsR m).n≤60):=by
 have HVV:=zh hv;obtain⟨K,hK⟩:∃ z,z=silM m:=⟨_,rfl⟩;have HSR:=zh (show silR m=(K,(0,0)) by unfold silR;rw[if_neg (by rw[hv];simp),if_neg (by omega),hK]);have HST:=zh (show setsR m=if K.n=0 then K else setM K by unfold setsR;rw[← hK]);have HKM:=zh hK;rw[← hK] at hl ⊢;have HLEN:=zh hl;have HM:=zh ha;obtain⟨i0,hi0,iz0,iz1,iz2⟩:=info_parts zBa;obtain⟨i1,hi1,jz0,jz1,jz2⟩:=info_parts zB6;obtain⟨i2,hi2,kz0,kz1,kz2⟩:=info_parts zLx;obtain⟨A,AF,n,c,nf,cf,rfl,_⟩:=ha;clear hv hl hK
 go_enter Try.func75,Try.ntmps75
 go_upto_region 1 with fail
 generalize hW2:World.alloc _ _=W2;obtain⟨X,hX⟩:∃ z,z=w.heap.size:=⟨_,rfl⟩;obtain⟨R,hR⟩:∃ z,z=w.heap.size+1:=⟨_,rfl⟩;have bX:=zh (show Blk W2 X 25 #[.int .i64 m.n,.slice A n c,.slice AF nf cf] by rw[← hW2];exact (Blk.at_ hX).alloc _);have bR:=zh (show Blk W2 R 25 #[.int .i64 0,.slice none 0 0,.slice none 0 0] by rw[← hW2];exact Blk.at_ (by simp[hR]));have HBW:=zh (show Below w.heap.size w W2 by rw[← hW2];go_grown);have hXR:X<R:=by omega
 have hwR:w.heap.size≤R:=by omega
 have hwX:w.heap.size≤X:=by omega
 have hRs:W2.heap.size=R+1:=by rw[← hW2];simp[hR]
 simp only[← hR]
 try simp only[← hX]
 clear hW2 hX hR;have HM2:=zh (HM.o.below HBW.o hB);have x0:=bX.o.cell 0;have x1:=bX.o.cell 1;have x2:=bX.o.cell 2;simp at x0 x1 x2;have lX:=bX.o.lt;go_upto_region 2 with (go_at_call 74;refine (zEv _ m W2 B (by omega) HM2.o HVV.o).mono ?_;rintro e w3 ⟨v1,rfl,hnew,hb3⟩;rw[← HKM.o] at hnew;obtain⟨AK,AFK,nK,cK,nfK,cfK,rfl,hn1,hn2,hn3,hn4,hn5,hn6,hn7,hn8⟩:=hnew.at_;clear hn1 hn2 hn3 hn4 hn5 hn6 hn7 hn8;have HNK:=zh hnew;have HB3:=zh hb3;have bX3:=zh (bX.o.below hb3 bX.o.lt);clear hnew hb3 x0 x1 x2 lX;have x0:=bX3.o.cell 0;have x1:=bX3.o.cell 1;have x2:=bX3.o.cell 2;simp at x0 x1 x2;have xf0:=bX3.o.frozen 0;have xf1:=bX3.o.frozen 1;have xf2:=bX3.o.frozen 2;have lX:=bX3.o.lt)
 have hXW:X<W2.heap.size:=by omega
 have bX4:=zh (((bX3.o.set_ 0 (.int .i64 K.n)).set_ 1 (.slice AK nK cK)).set_ 2 (.slice AFK nfK cfK));have bR4:=zh ((((bR.o.below HB3.o (by omega)).far (p:=⟨X,0,none⟩) (by show R≠X;omega) (.int .i64 K.n)).far (p:=⟨X,1,none⟩) (by show R≠X;omega) (.slice AK nK cK)).far (p:=⟨X,2,none⟩) (by show R≠X;omega) (.slice AFK nfK cfK));have HK4:=zh (((HNK.o.set (p:=⟨X,0,none⟩) hXW (.int .i64 K.n)).set (p:=⟨X,1,none⟩) hXW (.slice AK nK cK)).set (p:=⟨X,2,none⟩) hXW (.slice AFK nfK cfK));have HB4:=zh ((((HBW.o.trans (HB3.o.mono (by omega))).setCell (p:=⟨X,0,none⟩) hwX (.int .i64 K.n)).setCell (p:=⟨X,1,none⟩) hwX (.slice AK nK cK)).setCell (p:=⟨X,2,none⟩) hwX (.slice AFK nfK cfK));generalize hW4:World.setCell _ _ _=W4 at *;clear hW4 bX bR bX3 HB3 HNK HM2 HBW x0 x1 x2 lX xf0 xf1 xf2;have bX4:=zh (show Blk W4 X 25 #[.int .i64 K.n,.slice AK nK cK,.slice AFK nfK cfK] from bX4.o);have x0:=bX4.o.cell 0;have x1:=bX4.o.cell 1;have x2:=bX4.o.cell 2;simp at x0 x1 x2;have lX:=bX4.o.lt;by_cases hn0:K.n=0
 ·have t1:(K.n==0)=true:=by simp[hn0]
  have HSZ:=zh (show setsR m=K by rw[HST.o,if_pos hn0]);have HN0:=zh hn0;have q0:=bR4.o.cell 0;have q1:=bR4.o.cell 1;have q2:=bR4.o.cell 2;have qf:=bR4.o.frozen 0;have qf1:=bR4.o.frozen 1;have qf2:=bR4.o.frozen 2;have lR:=bR4.o.lt;simp at q0 q1 q2;have hRW:R<W2.heap.size:=by omega
  have HNW:=zh (((HK4.o.set (p:=⟨R,0,none⟩) hRW (.int .i64 K.n)).set (p:=⟨R,1,none⟩) hRW (.slice AK nK cK)).set (p:=⟨R,2,none⟩) hRW (.slice AFK nfK cfK));have HBE:=zh (((HB4.o.setCell (p:=⟨R,0,none⟩) hwR (.int .i64 K.n)).setCell (p:=⟨R,1,none⟩) hwR (.slice AK nK cK)).setCell (p:=⟨R,2,none⟩) hwR (.slice AFK nfK cfK));have hwW:w.heap.size≤W2.heap.size:=by omega
  clear hn0;go_wp21;exact bodyPost_ret (v:=.tuple #[.agg #[.int .i64 K.n,.slice AK nK cK,.slice AFK nfK cfK],.bool true]) (by simp[results,Try.results75,go_sem,lR,q0,q1,q2,qf,qf1,qf2]) rfl ⟨_,true,rfl,HBE.o,fun h=>(by cases h),fun _=>⟨by rw[HSZ.o];exact HNW.o.mono hwW,by rw[HSZ.o,HN0.o];decide⟩⟩
 have t1:(K.n==0)=false:=by simp[hn0]
 have hok:SilOk K K.n.toNat:=by
  have h:=zEc (m:=m) (by rw[HSR.o]) (by rw[HSR.o];exact hn0);rw[HSR.o] at h;exact h
 have HSZ:=zh (show setsR m=setM K by rw[HST.o,if_neg hn0]);obtain⟨S,hS⟩:∃ z,z=K.n.toNat:=⟨_,rfl⟩;rw[← hS] at hok;have hSn:K.n=(S:Int):=hok.n;have hS0:0<S:=hok.pos;have hS4:S≤400:=hok.n4;have HOK:=zh hok;have HKL:=zh hok.len;have HMA:=zh (show MachAt W4 W4.heap.size (.agg #[.int .i64 K.n,.slice AK nK cK,.slice AFK nfK cfK]) K from HK4.o.at_);obtain⟨AK',AFK',nK',cK',nfK',cfK',hE,HN,HF,hnc,hnfc,hnb,hnfb,hA,hF⟩:=HMA.o;simp only[Value.agg.injEq,Array.mk.injEq,List.cons.injEq,Value.slice.injEq,true_and,and_true] at hE;obtain⟨⟨rfl,rfl,rfl⟩,rfl,rfl,rfl⟩:=hE;have HRA:=zh hA;have HRF:=zh hF;rw[hSn] at x0 t1 bX4 HMA;have HSN:=zh hSn;clear hA hF hok hn0 hS hSn HST HSR;unfold big at hnb hnfb;have HMK:=zh (fun (W:World)=>run_make_row' (P:=Try.prog) 51 4 (.bool false) 1 Try.underlying51 zAN rfl .i64 .i64 S (by omega) (by omega) W);have hmk:=HMK.o;have HR0:=zh (show (W4.alloc (.cells (madeCells #[.bool false] S) 4)).rowIs W4.heap.size 4 S (fun _=>.bool false) from World.rowIs_made W4 (.bool false) S 4);have c0:=HR0.o.cell hS0;have f0:=HR0.o.frozen 0;have l0:=HR0.o.lt;have j1:(0:Int)<(S:Int):=by omega
 go_upto_region 9 with fail
 generalize hW5:World.alloc _ _=W5;obtain⟨G,hG⟩:∃ z,z=W4.heap.size:=⟨_,rfl⟩;obtain⟨O,hO⟩:∃ z,z=W4.heap.size+1+1:=⟨_,rfl⟩
 have HL5:=zh (show BL W5 G 51 4 S (.slice (some ⟨W4.heap.size+1,0,none⟩) 1 1) 1 [G] (StD K 0).1.1 from by
  have h:=HR0.o.set 0 (.bool true);rw[World.setCell_alloc_new] at h;refine⟨?_,rfl,fun i g Z hg hZ=>?_⟩
  ·rw[← hW5];have hb:Blk ((W4.alloc (Obj.cells ((madeCells #[.bool false] S).setIfInBounds 0 (.bool true)) 4)).alloc (Obj.cells #[rowV' S G] 51)) (W4.heap.size+1) 51 #[rowV' S G]:=Blk.at_ (by simp);rw[← hG];exact zIU (base:=G) (by first | exact hb.alloc _ | (rw[hG] at *;exact hb.alloc _)) (by omega) (by simp[maxLen])
  ·have hi:i=0:=by
    have:=(wAe.1 hg).1
    simp at this;exact this
   subst hi;(have e1:G=g:=by simpa using hg);(have e2:[0]=Z:=by simpa[StD,zJ3] using hZ);rw[← e1,← e2,← hW5,hG];(refine ((h.alloc _).alloc _).congr fun j hj=>?_);by_cases e:j=0
   · subst e;simp
   · simp[e])
 have HM5:=zh (show Mg 25 64 69 W5 O G 0 0 (StD K 0).1.2 0 (StD K 0).2 by
  rw[← hW5]
  exact Mg.start (Blk.at_ (by rw[hO];simp)) G)
 have HB5:=zh (show Below G W4 W5 by rw[← hW5,hG];go_grown);have hz5:O<W5.heap.size:=HM5.o.lt;have hGO:G≤O:=by omega
 have hXG:X<G:=by omega
 have hRG:R<G:=by have:=bR4.o.lt;omega
 have hwG:w.heap.size≤G:=by omega
 have HGE:=zh hG;have HMG:=zh (show MachAt W4 G (.agg #[.int .i64 (S:Int),.slice AK nK cK,.slice AFK nfK cfK]) K by rw[hG];exact HMA.o);rw[← hG] at HRA HRF;have HNE:=zh (show (StD K 0).1.1.length=1 from rfl);rw[← hG] at HL5;simp only[← hO]
 try simp only[← hG]
 clear hmk c0 f0 l0 x0 x1 x2 lX j1 hW5 hG hO HR0 HMA;have hP1:1≤60:=by omega
 go_loopw [5,7] (fun lv iv wr=>∃ (k p q r:Nat) (gs:List Nat),k≤p∧iv=.int .i64 (k:Int)∧q≤2000*k∧r≤k∧p≤60∧Hid (BL wr G 51 4 S lv p gs (StD K k).1.1)∧Hid (Mg 25 64 69 wr O G 0 q (StD K k).1.2 r (StD K k).2)∧Hid (Below G W4 wr)∧O<wr.heap.size) (fun _ iv _=>60-(intOf iv).toNat)
 case atStart=>exact⟨0,1,0,0,[G],by omega,rfl,by omega,by omega,hP1,HL5,HM5,HB5,hz5⟩
 case round =>
  clear HL5 HM5 HB5 hz5 HNE;obtain⟨k,p,q,r,gs,hkp,rfl,hq,hr,hp,HL,HM,HB,hOz⟩:=hrel;have bX6:=zh (bX4.o.below HB.o hXG);by_cases hlt:k<p
  ·obtain⟨lb,lc,g0,Z,rfl,hpc,hGl,hlb,d0,hg0,hZ,HZR⟩:=HL.o.at_ hlt;have HZ:=zh hZ;have HNX:=zh (zB5 hZ);have HZO:=zh (zM3 HOK.o.rng hS0 k Z (wAb hZ));have HP0:=zh (show (bfsRow k (stpX K.arcs (labsR K.arcs) Z 0) (StD K k).1)=(StD K k).1 by rw[zL2];rfl);have HLM:=zh (show ∀ a∈K.arcs,a.i∈labsR K.arcs from fun a ha=>(zAy _ _).2 ⟨by have:=(HOK.o.lab a ha).1;omega,a,ha,rfl⟩)
   have HLL:=zh (show (labsR K.arcs).length≤2000 by
    have:=zLc K.arcs
    have:=HKL.o
    omega)
   clear hg0 hZ HZR d0;have x0:=bX6.o.cell 0;have x1:=bX6.o.cell 1;have x2:=bX6.o.cell 2;simp at x0 x1 x2;have lX:=bX6.o.lt;(go_upto_region 12 with (go_at_call 18;refine (zBP _ K wr G (by omega) (HMG.o.below HB.o (wAa _)) (by have:=HKL.o;omega)).mono ?_;rintro e w7 ⟨AL,cL,rfl,ho7,hb7⟩;have HO7:=zh ho7;have HB7:=zh hb7;clear ho7 hb7));have HL7:=zh (HL.o.below HB7.o);have HM7:=zh (HM.o.below HB7.o);have HB8:=zh (HB.o.trans (HB7.o.mono (by omega)));have HO8:=zh (zEl HO7.o (show G≤wr.heap.size by omega));(have hOz7:O<w7.heap.size:=by have:=HB7.o.size;omega);rw[← HP0.o] at HL7 HM7;clear HL HM HB HB7 HO7 x0 x1 x2 lX bX6 hOz HP0;obtain⟨ls,hls⟩:∃ z,z=labsR K.arcs:=⟨_,rfl⟩;have HLS:=zh (show ls.Pairwise (· < ·) by rw[hls];exact zAJ _);rw[← hls] at HL7 HM7 HO8 HLM HLL ⊢;obtain⟨nl,hnl⟩:∃ z,z=ls.length:=⟨_,rfl⟩;have HNL:=zh hnl;rw[← hnl] at HO8 HLL ⊢;have hnl2:nl≤2000:=HLL.o;clear hls hnl HLL
   go_loopw [5,44] (fun lv jv wr=>∃ (j p q1:Nat) (gs:List Nat),j≤nl∧k<p∧jv=.int .i64 (j:Int)∧q1≤2000*k+j∧p≤60∧Hid (BL wr G 51 4 S lv p gs (bfsRow k (stpX K.arcs ls Z j) (StD K k).1).1)∧Hid (Mg 25 64 69 wr O G 0 q1 (bfsRow k (stpX K.arcs ls Z j) (StD K k).1).2 r (StD K k).2)∧Hid (wr.ownsRow G 3 1 (.slice AL nl cL) nl (intRow ls))∧Hid (Below G W4 wr)∧O<wr.heap.size) (fun _ jv _=>nl-(intOf jv).toNat)
   case atStart=>exact⟨0,p,q,gs,by omega,hlt,rfl,by omega,hp,HL7,HM7,HO8,HB8,hOz7⟩
   case round =>
    clear HL7 HM7 HO8 HB8 hOz7;obtain⟨j,p',q1,gs',hj,hkp',rfl,hq1,hp',HL,HM,HOL,HB,hOz⟩:=hrel;obtain⟨ST,hST⟩:∃ z,z=bfsRow k (stpX K.arcs ls Z j) (StD K k).1:=⟨_,rfl⟩
    have HSV:=zh (show ST.1[k]? = some Z by
     obtain⟨e,he⟩:=zAS k (stpX K.arcs ls Z j) (StD K k).1;rw[hST,he,List.getElem?_append_left (wAe.1 HZ.o).1]
     exact HZ.o)
    have HND:=zh (show ST.1.Nodup by rw[hST];exact zBq _ _ _ (zBJ k));have HSR:=zh (show ∀ z∈ST.1,okSet S z by rw[hST];exact zBQ (P:=okSet S) (zM3 HOK.o.rng hS0 k) (zRu HOK.o.rng));rw[← hST] at HL HM;have HST:=zh hST;clear hST;have bX6:=zh (bX4.o.below HB.o hXG);have x0:=bX6.o.cell 0;have x1:=bX6.o.cell 1;have x2:=bX6.o.cell 2;simp at x0 x1 x2;have lX:=bX6.o.lt;obtain⟨lb,lc,g0,Z',rfl,hpc,hGl,hlb,d0,hg0,hZ',hZR⟩:=HL.o.at_ hkp';obtain rfl:Z'=Z:=Option.some.inj (hZ'.symm.trans HSV.o);have hg0z:g0<wr.heap.size:=hZR.lt;have HZR:=zh hZR;clear hZR hg0 hZ';by_cases hjn:j<nl
    ·obtain⟨x,hx⟩:∃ x,ls[j]? = some x:=⟨_,wAc (by rw[← HNL.o];exact hjn)⟩;obtain⟨bL,cL',e,hbL1,hbL2⟩:=HOL.o.form (by omega);simp only[Value.slice.injEq,true_and] at e;obtain⟨rfl,rfl⟩:=e;have cx:=HOL.o.cellAt j (by omega);rw[show (intRow ls)[j]? = some (.int .i64 x) by unfold intRow;rw[List.getElem?_map,hx];rfl] at cx;have HXS:=zh (zLQ (A:=K.arcs) (X:=Z') hx);have hmk:=HMK.o;have HR0:=zh (show (wr.alloc (.cells (madeCells #[.bool false] S) 4)).rowIs wr.heap.size 4 S (fun _=>.bool false) from World.rowIs_made wr (.bool false) S 4);obtain⟨W7,hW7⟩:∃ z,z=wr:=⟨_,rfl⟩;rw[← hW7] at HL HM HOL HB hOz x0 x1 x2 lX hlb d0 HZR hg0z bX6 hbL2 cx HR0 ⊢;have HD0:=zh d0;clear hW7 hx;(go_upto_region 17 with fail);clear hmk cx;generalize hW8:World.alloc _ _=W8;obtain⟨g,hg⟩:∃ z,z=W7.heap.size:=⟨_,rfl⟩;have HRW8:=zh (show W8.rowIs g 4 S (fun i=>.bool (nxtS K.arcs Z' x 0 i)) by rw[← hW8,hg];exact HR0.o.congr (fun i _=>by rw[zLW]));have HB8:=zh (show Below g W7 W8 by rw[← hW8,hg];exact (Below.refl _ _).alloc (wAa _) _);have hg8:g<W8.heap.size:=HRW8.o.lt;have hgE:=zh hg;(have hGg:G≤g:=by have:=HB.o.size;omega);(have hlg:lb<g:=by omega);(have hg0g:g0<g:=by omega);have hOg:O<g:=by omega
     try simp only[← hg]
     clear hW8 hg HR0 x0 x1 x2 lX d0 bX6
     go_loopw [11,54] (fun av tv wr=>∃ t:Nat,t≤nK∧av=.bool (somS K.arcs Z' x t)∧tv=.int .i64 (t:Int)∧Hid (wr.rowIs g 4 S (fun i=>.bool (nxtS K.arcs Z' x t i)))∧Hid (Below g W7 wr)∧g<wr.heap.size) (fun _ tv _=>nK-(intOf tv).toNat)
     case atStart=>exact⟨0,by omega,by rw[zNp],rfl,HRW8,HB8,hg8⟩
     case round =>
      clear HRW8 HB8 hg8;obtain⟨t,ht,rfl,rfl,HRW,HBW,hgz⟩:=hrel;have HBT:=zh (show Below G W4 wr from HB.o.trans (HBW.o.mono hGg));have HBV:=zh (show Below W7.heap.size W7 wr by rw[← hgE.o];exact HBW.o);obtain⟨sv,hsv⟩:∃ z,z=somS K.arcs Z' x t:=⟨_,rfl⟩;have HSV2:=zh hsv;rw[← hsv];clear hsv;by_cases htn:t<nK
      ·obtain⟨bb,off,a,hAe,hbB,e0,e1,e2,e3,e4,HX⟩:=zAp (HRA.o.below HBT.o (wAa _)) htn;subst hAe;(have hbw:bb<wr.heap.size:=by omega);(have hkl:t<K.arcs.length:=by rw[HN.o];exact htn);(have hak:K.arcs[t]? = some a:=by rw[← HX.o,wAc hkl];simp[hkl]);obtain⟨r0,r1,r2,r3⟩:=HOK.o.rng a (wAb hak);have HAK:=zh hak;have d0:=zAb HBV.o HD0.o hlb;have hZR:=HZR.o.of_block (HBV.o.block g0 hg0z);have cz:=hZR.cell (show a.f.toNat<S by omega);have lz:g0<wr.heap.size:=hZR.lt;(have llb:lb<wr.heap.size:=by omega);rw[show ((a.f.toNat:Nat):Int)=a.f by omega] at cz;have fN:=HRW.o.frozen a.t.toNat;have cN:=HRW.o.cell (show a.t.toNat<S by omega);clear hkl hak HX hZR;by_cases hax:a.i=x
       ·(have t1:(a.i==x)=true:=by simp[hax]);by_cases haz:a.f∈Z'
        ·have HSN:=zh (zP7 (X:=Z') (x:=x) HAK.o ⟨hax,haz⟩);have HRS:=zh (fun (W:World) (h:W.rowIs g 4 S (fun i=>.bool (nxtS K.arcs Z' x t i)))=>(h.set a.t.toNat (.bool true)).congr (g:=fun i=>.bool (nxtS K.arcs Z' x (t+1) i)) (fun i _=>by rw[zP9 (X:=Z') (x:=x) HAK.o ⟨hax,haz⟩ r2];split<;>rfl));rw[decide_eq_true haz] at cz;clear haz;go_wp2;go_quiet (fail);go_wp2;go_roundw
         case rel=>exact⟨t+1,by omega,by rw[HSN.o],by go_num,zh (HRS.o _ (HRW.o.alloc _)),zh ((zAc (HBW.o.alloc (by omega) _) _).setCell (p:=⟨g,_,none⟩) (by exact wAa _) _),by simp[World.setCell];omega⟩
         case measure=>simp[intOf];omega
        ·have HSN:=zh (zM8 (X:=Z') (x:=x) (a:=a) HAK.o (fun h=>haz h.2));have HRN:=zh (HRW.o.congr (g:=fun i=>.bool (nxtS K.arcs Z' x (t+1) i)) (fun i _=>by rw[zMs (X:=Z') (x:=x) HAK.o (fun h=>haz h.2)]));rw[decide_eq_false haz] at cz;clear haz;go_wp2;go_quiet (fail);go_wp2;go_roundw
         case rel=>exact⟨t+1,by omega,by rw[HSN.o,HSV2.o],by go_num,zh (HRN.o.alloc _),zh (zAc (HBW.o.alloc (by omega) _) _),by simp;omega⟩
         case measure=>simp[intOf];omega
       ·(have t1:(a.i==x)=false:=by simp[hax]);have HSN:=zh (zM8 (X:=Z') (x:=x) (a:=a) HAK.o (fun h=>hax h.1));have HRN:=zh (HRW.o.congr (g:=fun i=>.bool (nxtS K.arcs Z' x (t+1) i)) (fun i _=>by rw[zMs (X:=Z') (x:=x) HAK.o (fun h=>hax h.1)]));clear hax;go_wp2;go_quiet (fail);go_wp2;go_roundw
        case rel=>exact⟨t+1,by omega,by rw[HSN.o,HSV2.o],by go_num,zh (HRN.o.alloc _),zh (zAc (HBW.o.alloc (by omega) _) _),by simp;omega⟩
        case measure=>simp[intOf];omega
      ·(obtain rfl:nK=t:=by omega);clear ht htn
       have HRU:=zh (HRW.o.congr (g:=fun i=>.bool (decide ((i:Int)∈setT K.arcs Z' x))) (fun i _=>by
        have h:=zP4 K.arcs Z' x i;rw[HN.o] at h
        rw[h]))
       have HSA:=zh (show somS K.arcs Z' x K.arcs.length=sv by rw[HN.o];exact HSV2.o.symm);have HL9:=zh (HL.o.below HBV.o);have HM9:=zh (HM.o.below HBV.o);have HOL9:=zh (zAG HOL.o HBV.o);(have hOz9:O<wr.heap.size:=by omega);(have hlb9:lb<wr.heap.size:=by omega);have HD9:=zh (zAb HBV.o HD0.o hlb);have HZ9:=zh (HZR.o.of_block (HBV.o.block g0 hg0z));obtain⟨W9,hW9⟩:∃ z,z=wr:=⟨_,rfl⟩;rw[← hW9] at HRU HL9 HM9 HOL9 hOz9 HBT hlb9 HD9 HZ9 hgz ⊢;clear hW9 HRW HBW HBV HL HM HOL HB hOz HSV2 HD0 HZR hg0z;cases sv
       ·have HSX:=zh (show stpX K.arcs ls Z' (j+1)=stpX K.arcs ls Z' j by rw[HXS.o,HSA.o];simp);have HBR:=zh (show bfsRow k (stpX K.arcs ls Z' (j+1)) (StD K k).1=ST by rw[HSX.o,HST.o]);go_wp2;go_roundw
        case rel=>exact⟨j+1,p',q1,gs',by omega,hkp',by go_num,by omega,hp',zh (by rw[HBR.o];exact HL9.o),zh (by rw[HBR.o];exact HM9.o),HOL9,HBT,hOz9⟩
        case measure=>simp[intOf];omega
       ·obtain⟨U,hU⟩:∃ z,z=setT K.arcs Z' x:=⟨_,rfl⟩;have HUK:=zh (show okSet S U by rw[hU];exact zLS HOK.o.rng _ _)
        have HSN:=zh (show bfsRow k (stpX K.arcs ls Z' (j+1)) (StD K k).1=(addL ST.1 U,ST.2++[⟨(k:Int),((ixG (addL ST.1 U) U:Nat):Int),x,x,0⟩]) by
         rw[HXS.o,HSA.o,if_pos rfl,← hU,zBx,← HST.o,zMT])
        rw[← hU] at HRU;clear hU HXS HSA;go_upto_region 26 with fail
        go_loopw [14,81] (fun tv iv wr=>∃ t:Nat,t≤p'∧tv=.int .i64 (atG ST.1 U t)∧iv=.int .i64 (t:Int)∧Hid (Below W9.heap.size W9 wr)) (fun _ iv _=>p'-(intOf iv).toNat)
        case atStart=>exact⟨0,by omega,by rw[zOC],rfl,zh (Below.refl _ _)⟩
        case round =>
         obtain⟨t,ht,rfl,rfl,HB10⟩:=hrel;by_cases htn:t<p'
         ·obtain⟨lb',lc',g1,Y,e,hpc',hGl',hlb',d1,hg1,hY,hYR⟩:=(HL9.o.below HB10.o).at_ htn;simp only[Value.slice.injEq,Option.some.injEq,Addr.mk.injEq,true_and,and_true] at e;obtain⟨rfl,rfl⟩:=e;have HYK:=zh (HSR.o Y (wAb hY));have HAN:=zh (zOJ HND.o (u:=U) hY);have HG1:=zh (show W9.rowIs g1 4 S (fun j=>.bool (decide ((j:Int)∈Y))) from HL9.o.row t g1 Y hg1 hY);have hg1z:g1<W9.heap.size:=HG1.o.lt;clear hg1 hY hYR;go_upto_region 30 with fail
          go_loopw [17,88] (fun sv kv wr=>∃ s:Nat,s≤S∧sv=.bool (samS Y U s)∧kv=.int .i64 (s:Int)∧Hid (Below W9.heap.size W9 wr)) (fun _ kv _=>S-(intOf kv).toNat)
          case atStart=>exact⟨0,by omega,by rw[zMb],rfl,HB10⟩
          case round =>
           clear HB10 d1;obtain⟨s,hs,rfl,rfl,HB11⟩:=hrel;obtain⟨sv,hsv⟩:∃ z,z=samS Y U s:=⟨_,rfl⟩;rw[← hsv];by_cases hsS:s<S
           ·have hY11:=HG1.o.of_block (HB11.o.block g1 hg1z);have hU11:=HRU.o.of_block (HB11.o.block g hgz);have cY:=hY11.cell hsS;have cU:=hU11.cell hsS;have lY:=hY11.lt;have lU:=hU11.lt;have HSS:=zh (zNJ Y U s);rw[← hsv] at HSS;obtain⟨dy,hdy⟩:∃ z,z=decide ((s:Int)∈Y):=⟨_,rfl⟩;obtain⟨du,hdu⟩:∃ z,z=decide ((s:Int)∈U):=⟨_,rfl⟩;rw[← hdy] at cY HSS;rw[← hdu] at cU HSS;have HBq:=zh (fun (W:World) (h:Below W9.heap.size W9 W) (q:Nat)=>zAc h q);clear hsv hdy hdu hY11 hU11;cases sv<;>cases dy<;>cases du
            all_goals
             go_wp2;go_quiet (fail);go_wp2;go_roundw
             case rel=>exact⟨s+1,by omega,by rw[HSS.o];rfl,by go_num,zh (zAc HB11.o _)⟩
             case measure=>simp[intOf];omega
           ·(obtain rfl:S=s:=by omega);have HSA:=zh (show sv=true↔Y=U by rw[hsv];exact zO7 HYK.o HUK.o);clear hsv;cases sv
            ·have HAE:=zh (show atG ST.1 U (t+1)=atG ST.1 U t by rw[HAN.o,if_neg (fun h=>by have:=HSA.o.2 h;cases this)]);go_wp2;go_roundw
             case rel=>exact⟨t+1,by omega,by rw[HAE.o],by go_num,HB11⟩
             case measure=>simp[intOf];omega
            ·have HAE:=zh (show atG ST.1 U (t+1)=(t:Int) by rw[HAN.o,if_pos (HSA.o.1 rfl)]);go_wp2;go_roundw
             case rel=>exact⟨t+1,by omega,by rw[HAE.o],by go_num,HB11⟩
             case measure=>simp[intOf];omega
         ·(obtain rfl:p'=t:=by omega);have HAT:=zh (show atG ST.1 U p'=plG ST.1 U from zRG (by rw[HL9.o.len];exact wAa _));rw[HAT.o];clear HAT;obtain⟨pv,hpv⟩:∃ z,z=plG ST.1 U:=⟨_,rfl⟩;rw[← hpv];have HPV:=zh hpv;have hrng0:=zQ8 ST.1 U;rw[← hpv] at hrng0;obtain⟨ix,hix⟩:∃ z,z=ixG (addL ST.1 U) U:=⟨_,rfl⟩;rw[← hix] at HSN;have HIX:=zh hix;clear hpv hix;have HL10:=zh (HL9.o.below HB10.o);have HM10:=zh (HM9.o.below HB10.o);have HOL10:=zh (zAG HOL9.o HB10.o);have HBG:=zh (HBT.o.trans (HB10.o.mono (by omega)));have HRU10:=zh (HRU.o.of_block (HB10.o.block g hgz));(have hOz10:O<wr.heap.size:=by have:=HB10.o.size;omega);obtain⟨W10,hW10⟩:∃ z,z=wr:=⟨_,rfl⟩;rw[← hW10] at HL10 HM10 HOL10 HBG HRU10 hOz10 ⊢;clear hW10 HL9 HM9 HOL9 HBT HRU hOz9 HB10 HD9 HZ9;by_cases hlim:pv<0∧p'=60
          ·obtain⟨h0,h60⟩:=hlim;have t2:decide (pv<0)=true:=decide_eq_true h0;(have t3:((p':Int)==60)=true:=by simp[h60]);have bX9:=bX4.o.below HBG.o hXG;have bR9:=bR4.o.below HBG.o hRG;have x0:=bX9.cell 0;have x1:=bX9.cell 1;have x2:=bX9.cell 2;have lX:=bX9.lt;have q0:=bR9.cell 0;have q1':=bR9.cell 1;have q2:=bR9.cell 2;have qf:=bR9.frozen 0;have qf1:=bR9.frozen 1;have qf2:=bR9.frozen 2;have lR:=bR9.lt;simp at x0 x1 x2 q0 q1' q2;have HK9:=zh (HK4.o.below HBG.o (by rw[HGE.o];exact wAa _));(have hRW:R<W2.heap.size:=by omega);(have hwW:w.heap.size≤W2.heap.size:=by omega);have HNW:=zh (((HK9.o.set (p:=⟨R,0,none⟩) hRW (.int .i64 (S:Int))).set (p:=⟨R,1,none⟩) hRW (.slice AK nK cK)).set (p:=⟨R,2,none⟩) hRW (.slice AFK nfK cfK));have HBE:=zh ((((HB4.o.trans (HBG.o.mono (by omega))).setCell (p:=⟨R,0,none⟩) hwR (.int .i64 (S:Int))).setCell (p:=⟨R,1,none⟩) hwR (.slice AK nK cK)).setCell (p:=⟨R,2,none⟩) hwR (.slice AFK nfK cfK));clear bX9 bR9 h0 h60;go_wp21;exact bodyPost_ret (v:=.tuple #[.agg #[.int .i64 (S:Int),.slice AK nK cK,.slice AFK nfK cfK],.bool false]) (by simp[results,Try.results75,go_sem,lR,q0,q1',q2,qf,qf1,qf2]) rfl ⟨_,false,rfl,HBE.o,fun _=>by have h:=HNW.o.mono hwW;rw[HOK.o.n] at h;exact h,fun h=>(by cases h)⟩
          ·obtain⟨bb,hbb⟩:∃ b:Bool,decide (pv<0)=b:=⟨_,rfl⟩;have HBB:=zh hbb;have HLIM:=zh hlim;clear hlim;(go_upto_if 108 with fail);clear hbb
           go_cut [5,14] from 109 to 118 (fun s5 s14 wx=>s14=.int .i64 (ix:Int)∧∃ (p2:Nat) (gs2:List Nat),p2≤60∧k<p2∧Hid (BL wx G 51 4 S s5 p2 gs2 (addL ST.1 U))∧Hid (Mg 25 64 69 wx O G 0 q1 ST.2 r (StD K k).2)∧Hid (wx.ownsRow G 3 1 (.slice (some ⟨bL,0,none⟩) nl cL) nl (intRow ls))∧Hid (Below G W10 wx)∧O<wx.heap.size)
           case first =>
            cases bb
            ·have hm:U∈ST.1:=Classical.byContradiction fun h=>by
              have h2:=of_decide_eq_false HBB.o;rw[HPV.o,zMz] at h2;exact h2 h
             have HOD:=zh (zQ5 hm);have HPI:=zh (show pv=(ix:Int) by rw[HPV.o,HIX.o,← zSX,HOD.o]);clear hm;go_wp2;go_meet;exact⟨by rw[HPI.o],p',gs',hp',hkp',zh (by rw[HOD.o];exact HL10.o),HM10,HOL10,zh (Below.refl _ _),hOz10⟩
            ·have hm:U∉ST.1:=by
              have h:=of_decide_eq_true HBB.o;rw[HPV.o,zMz] at h;exact h
             (have h60:p'≠60:=fun e=>HLIM.o ⟨of_decide_eq_true HBB.o,e⟩);(have t3:((p':Int)==60)=false:=by simp;omega);have HAP:=zh (zRX hm);have HPI:=zh (show (p':Int)=(ix:Int) by rw[HIX.o,HAP.o.2,HL10.o.len]);clear hm;go_wp2_with (at_builtin;refine wpList_append_own_at _ rfl (.tmp 115) (.tmp 117) 127 rfl G 51 i2 _ 1 24 Try.underlying127 hi2 kz0 kz1 kz2 rfl (by omega) (.slice (some ⟨lb,0,none⟩) p' lc) p' _ rfl (HL10.o.o.alloc _) ⟨W10.heap.size,0,none⟩ 1 1 [.slice (some ⟨g,0,none⟩) S S] rfl (by rfl) (wAd (cs:=#[.slice (some ⟨g,0,none⟩) S S]) (t:=51) (fr:=(0,0)) (Blk.at_ rfl)) (by simp[Value.oneCell']) (by simp only[maxLen];omega) (by omega) (by simp<;>omega) ?_;intro v' w6 hown2 hg2 _ hat2);have hs6:=hg2.size;simp at hs6;have HA1:=zh (HL10.o.o.alloc (.cells #[.slice (some ⟨g,0,none⟩) S S] 51));have HA2:=zh (HOL10.o.alloc (.cells #[.slice (some ⟨g,0,none⟩) S S] 51));have HA3:=zh (HM10.o.alloc (.cells #[.slice (some ⟨g,0,none⟩) S S] 51));have HA4:=zh ((Below.refl G W10).alloc (by omega) (.cells #[.slice (some ⟨g,0,none⟩) S S] 51));have HA5:=zh (HRU10.o.alloc (.cells #[.slice (some ⟨g,0,none⟩) S S] 51));have H1:=zh ((HL10.o.alloc (.cells #[.slice (some ⟨g,0,none⟩) S S] 51)).push (by decide) HA5.o hg2 hown2);have H2:=zh (HA3.o.own HA1.o (by decide) (by decide) (by decide) hg2);have H3:=zh (HA2.o.kept hg2 (zAt HA2.o HA1.o (by decide)));have H4:=zh (HA4.o.grown hg2 (by simp;omega) (fun z hz=>(HA1.o.lt z hz).1));clear hown2 hg2 hat2;go_meet;exact⟨by rw[HPI.o],p'+1,gs'++[g],by omega,by omega,zh (by rw[HAP.o.1];exact H1.o),H2,H3,H4,by omega⟩
           case rest =>
            obtain⟨rfl,p2,gs2,hp2,hkp2,HL11,HM11,HOL11,HB11,hOz11⟩:=hcut;have HBG2:=zh (HBG.o.trans HB11.o);obtain⟨W11,hW11⟩:∃ z,z=wc:=⟨_,rfl⟩;rw[← hW11] at HL11 HM11 HOL11 HBG2 hOz11 ⊢;clear hW11 HL10 HM10 HOL10 HBG HRU10 hOz10 HB11 HBB HLIM HPV HIX;obtain⟨A5,c5,AF5,cf5,bO7,hoA,hoF⟩:=HM11.o;have e1:=bO7.cell 1;have lO7:=bO7.lt;simp at e1;have P0:=zh bO7;have P1:=zh (bO7.alloc (.cells #[.int .i64 (k:Int),.int .i64 (ix:Int),.int .i64 x,.int .i64 x,.int .i64 0] 64));have P2:=zh (hoA.alloc (.cells #[.int .i64 (k:Int),.int .i64 (ix:Int),.int .i64 x,.int .i64 x,.int .i64 0] 64));have P3:=zh (hoF.alloc (.cells #[.int .i64 (k:Int),.int .i64 (ix:Int),.int .i64 x,.int .i64 x,.int .i64 0] 64));have P4:=zh (HL11.o.alloc (.cells #[.int .i64 (k:Int),.int .i64 (ix:Int),.int .i64 x,.int .i64 x,.int .i64 0] 64));have P5:=zh (HBG2.o.alloc (by omega) (.cells #[.int .i64 (k:Int),.int .i64 (ix:Int),.int .i64 x,.int .i64 x,.int .i64 0] 64));have P6:=zh (HOL11.o.alloc (.cells #[.int .i64 (k:Int),.int .i64 (ix:Int),.int .i64 x,.int .i64 x,.int .i64 0] 64));have HNF:=zh (show (Value.slice A5 q1 c5).ownBlock≠some O from zAe hoA bO7 (by decide));(have hq9:q1≤802000:=by have:2000*k≤2000*60:=wAf _ (by omega);omega);clear bO7 hoA hoF HL11 HM11 HOL11 HBG2;go_wp2_with (at_builtin;go_loud (refine wpList_append_own_at _ rfl (.tmp 120) (.tmp 126) 22 rfl G 64 i0 _ 5 40 Try.underlying22 hi0 iz0 iz1 iz2 rfl (by omega) (.slice A5 q1 c5) q1 _ rfl P2.o ⟨W11.heap.size,0,none⟩ 1 1 (arcRow [⟨(k:Int),(ix:Int),x,x,0⟩]) rfl (by rfl) (wAd (cs:=(arcRow [⟨(k:Int),(ix:Int),x,x,0⟩]).toArray) (t:=64) (fr:=(0,0)) (Blk.at_ rfl)) (zAq _) (by simp only[maxLen];omega) (by omega) (by simp<;>omega) ?_;intro v' w6 hown6 hg6 _ hat6;obtain⟨A6,cf6,rfl,hkcv,_⟩:=zAa hown6;have HOWN6:=zh hown6;have HG6:=zh hg6;have df6:w6.frozen? ⟨O,1,none⟩=false:=zAD hg6 HNF.o P1.o.lt (P1.o.frozen 1);have d6:w6.cell? ⟨O,1,none⟩=some (.slice A5 q1 c5):=zAf hg6 HNF.o (P1.o.cell 1);have lD6:O<w6.heap.size:=(by have:=hg6.size;have:=P1.o.lt;omega);clear hown6 hg6 hat6));have HMN:=zh (zCI P1.o P2.o P3.o (by decide) (by decide) (by decide) HG6.o HOWN6.o);have bO9:=P1.o.grown HG6.o (Ne.symm HNF.o);have HLN:=zh ((P4.o.own P2.o (by decide) (by decide) HG6.o).mach (p:=⟨O,1,none⟩) bO9 (by decide) (by decide) (.slice A6 (q1+1) cf6));have hoL:=P6.o.kept HG6.o (zAt P6.o P2.o (by decide));have HON:=zh (ownsRow_setCell_other hoL (a:=⟨O,1,none⟩) (zAe hoL bO9 (by decide)) (.slice A6 (q1+1) cf6));have HBN:=zh ((P5.o.grown HG6.o (by simp;omega) (fun z hz=>(P2.o.lt z hz).1)).setCell (p:=⟨O,1,none⟩) (by show G≤O;omega) (.slice A6 (q1+1) cf6));have hs6:=HG6.o.size;simp at hs6;clear bO9 hoL P0 P1 P2 P3 P4 P5 P6 HG6 HOWN6;go_roundw
            case rel=>exact⟨j+1,p2,q1+1,gs2,by omega,hkp2,by go_num,by omega,hp2,zh (by rw[HSN.o];exact HLN.o),zh (by rw[HSN.o];exact HMN.o),HON,HBN,by simp[World.setCell];omega⟩
            case measure=>simp[intOf];omega
    ·(obtain rfl:nl=j:=by omega);have HBR:=zh (show ST=bfsRow k (stpD K.arcs Z') (StD K k).1 by rw[HST.o,zOh HLS.o HLM.o (by rw[← HNL.o];exact wAa _)]);(obtain⟨SF,hSF⟩:∃ z,z=if finD K.fins Z'=true then (StD K k).2++[⟨(k:Int),0⟩] else (StD K k).2:=⟨_,rfl⟩);have HSF:=zh hSF
     have HST1:=zh (show StD K (k+1)=(ST,SF) by
      have h:=HNX.o;rw[← HBR.o,← hSF] at h
      exact h)
     obtain⟨W9,hW9⟩:∃ z,z=wr:=⟨_,rfl⟩;rw[← hW9] at HL HM HB hOz x0 x1 x2 lX hlb d0 HZR hg0z ⊢;have HD0:=zh d0;clear hW9 HOL bX6 hSF hj hjn HST HNX d0;go_upto_region 46 with fail
     go_loopw [19,133] (fun ev kv wr=>∃ t:Nat,t≤nfK∧ev=.bool (endX K.fins Z' t)∧kv=.int .i64 (t:Int)∧Hid (Below W9.heap.size W9 wr)) (fun _ kv _=>nfK-(intOf kv).toNat)
     case atStart=>exact⟨0,by omega,by rw[zN5],rfl,zh (Below.refl _ _)⟩
     case round =>
      clear x0 x1 x2 lX;obtain⟨t,ht,rfl,rfl,HB10⟩:=hrel;have HBG:=zh (HB.o.trans (HB10.o.mono (by have:=HB.o.size;omega)));obtain⟨ev,hev⟩:∃ z,z=endX K.fins Z' t:=⟨_,rfl⟩;rw[← hev];by_cases htn:t<nfK
      ·obtain⟨bb,off,y,hAe,hbB,e0,e1,HX⟩:=zAQ (HRF.o.below HBG.o (wAa _)) htn;subst hAe;(have hbw:bb<wr.heap.size:=by have:=HB10.o.size;omega);(have hkl:t<K.fins.length:=by rw[HF.o];exact htn);(have hyk:K.fins[t]? = some y:=by rw[← HX.o,wAc hkl];simp[hkl]);obtain⟨r0,r1⟩:=HOK.o.frng y (wAb hyk);have HEN:=zh (zMp (X:=Z') hyk);rw[← hev] at HEN;have d0:=zAb HB10.o HD0.o hlb;have hZR:=HZR.o.of_block (HB10.o.block g0 hg0z);have cz:=hZR.cell (show y.s.toNat<S by omega);have lz:g0<wr.heap.size:=hZR.lt;(have llb:lb<wr.heap.size:=by have:=HB10.o.size;omega);rw[show ((y.s.toNat:Nat):Int)=y.s by omega] at cz;obtain⟨dz,hdz⟩:∃ z,z=decide (y.s∈Z'):=⟨_,rfl⟩;rw[← hdz] at cz HEN;clear hev hdz hkl hyk HX hZR;cases ev<;>cases dz
       all_goals
        go_wp2;go_quiet (fail);go_wp2;go_roundw
        case rel=>exact⟨t+1,by omega,by rw[HEN.o];rfl,by go_num,zh (zAc (HB10.o.alloc HB10.o.size _) _)⟩
        case measure=>simp[intOf];omega
      ·(obtain rfl:nfK=t:=by omega);have HEA:=zh (show finD K.fins Z'=ev by rw[hev];exact (zPk K.fins Z' (by rw[HF.o];exact wAa _)).symm);have HL10:=zh (HL.o.below HB10.o);have HM10:=zh (HM.o.below HB10.o);(have hOz10:O<wr.heap.size:=by have:=HB10.o.size;omega);obtain⟨W10,hW10⟩:∃ z,z=wr:=⟨_,rfl⟩;rw[← hW10] at HL10 HM10 HBG hOz10 ⊢;clear hW10 hev HL HM HB HB10 hOz HD0 HZR hg0z hlb;cases ev
       ·have HE:=zh (show SF=(StD K k).2 by rw[HSF.o,HEA.o];simp);go_wp2;go_roundw
        case rel=>exact⟨k+1,p',q1,r,gs',by omega,by go_num,by omega,by omega,hp',zh (by rw[HST1.o];exact HL10.o),zh (by rw[HST1.o,HE.o];exact HM10.o),HBG,hOz10⟩
        case measure=>simp[intOf];omega
       ·have HE:=zh (show SF=(StD K k).2++[⟨(k:Int),0⟩] by rw[HSF.o,HEA.o];simp);obtain⟨A5,c5,AF5,cf5,bO7,hoA,hoF⟩:=HM10.o;have e2:=bO7.cell 2;have lO7:=bO7.lt;simp at e2;have P1:=zh (bO7.alloc (.cells #[.int .i64 (k:Int),.int .i64 0] 69));have P2:=zh (hoA.alloc (.cells #[.int .i64 (k:Int),.int .i64 0] 69));have P3:=zh (hoF.alloc (.cells #[.int .i64 (k:Int),.int .i64 0] 69));have P4:=zh (HL10.o.alloc (.cells #[.int .i64 (k:Int),.int .i64 0] 69));have P5:=zh (HBG.o.alloc (by omega) (.cells #[.int .i64 (k:Int),.int .i64 0] 69));have HNF:=zh (show (Value.slice AF5 r cf5).ownBlock≠some O from zAe hoF bO7 (by decide));clear bO7 hoA hoF HL10 HM10 HBG;go_wp2_with (at_builtin;go_loud (refine wpList_append_own_at _ rfl (.tmp 151) (.tmp 154) 23 rfl G 69 i1 _ 2 16 Try.underlying23 hi1 jz0 jz1 jz2 rfl (by omega) (.slice AF5 r cf5) r _ rfl P3.o ⟨W10.heap.size,0,none⟩ 1 1 (finRow [⟨(k:Int),0⟩]) rfl (by rfl) (wAd (cs:=(finRow [⟨(k:Int),0⟩]).toArray) (t:=69) (fr:=(0,0)) (Blk.at_ rfl)) (zA9 _) (by simp only[maxLen];omega) (by omega) (by simp<;>omega) ?_;intro v' w6 hown6 hg6 _ hat6;obtain⟨A6,cf6,rfl,hkcv,_⟩:=zAa hown6;have HOWN6:=zh hown6;have HG6:=zh hg6;have df6:w6.frozen? ⟨O,2,none⟩=false:=zAD hg6 HNF.o P1.o.lt (P1.o.frozen 2);have d6:w6.cell? ⟨O,2,none⟩=some (.slice AF5 r cf5):=zAf hg6 HNF.o (P1.o.cell 2);have lD6:O<w6.heap.size:=(by have:=hg6.size;have:=P1.o.lt;omega);clear hown6 hg6 hat6));have HMN:=zh (zCz P1.o P2.o P3.o (by decide) (by decide) (by decide) HG6.o HOWN6.o);have bO9:=P1.o.grown HG6.o (Ne.symm HNF.o);have HLN:=zh ((P4.o.own P3.o (by decide) (by decide) HG6.o).mach (p:=⟨O,2,none⟩) bO9 (by decide) (by decide) (.slice A6 (r+1) cf6));have HBN:=zh ((P5.o.grown HG6.o (by simp;omega) (fun z hz=>(P3.o.lt z hz).1)).setCell (p:=⟨O,2,none⟩) (by show G≤O;omega) (.slice A6 (r+1) cf6));have hs6:=HG6.o.size;simp at hs6;clear bO9 P1 P2 P3 P4 P5 HG6 HOWN6;go_roundw
        case rel=>exact⟨k+1,p',q1,r+1,gs',by omega,by go_num,by omega,by omega,hp',zh (by rw[HST1.o];exact HLN.o),zh (by rw[HST1.o,HE.o];exact HMN.o),HBN,by simp[World.setCell];omega⟩
        case measure=>simp[intOf];omega
  ·obtain rfl:p=k:=by omega
   have HEND:=zh (show setM K=⟨(p:Int),(StD K p).1.2,(StD K p).2⟩ by
    have h:=zNz (m:=K) (i:=p) (by rw[HL.o.len];exact wAa _) (by omega);rw[HL.o.len] at h
    exact h)
   obtain⟨lA,lc,hle,_,_⟩:=zAa HL.o.o;subst hle;obtain⟨A5,c5,AF5,cf5,bO5,hown5,hfin5⟩:=HM.o;have bR9:=bR4.o.below HB.o hRG;have HBW9:=zh (HB4.o.trans (HB.o.mono hwG));have HNO:=zh (zAe hown5 bO5 (by decide));have HNF:=zh (zAe hfin5 bO5 (by decide));have o0:=bO5.cell 0;have o1:=bO5.cell 1;have o2:=bO5.cell 2;have of0:=bO5.frozen 0;have q0:=bR9.cell 0;have q1':=bR9.cell 1;have q2:=bR9.cell 2;have qf:=bR9.frozen 0;have qf1:=bR9.frozen 1;have qf2:=bR9.frozen 2;simp at o0 o1 o2 q0 q1' q2;have lR:=bR9.lt;have lO:=bO5.lt;(have hOw2:R≠O:=by omega);(have hOw4:O≠R:=by omega);have hRG':R<G:=hRG;have HA9:=zh (ownsRow_setCell_below (ownsRow_setCell_below (ownsRow_setCell_below (ownsRow_setCell_other hown5 (a:=⟨O,0,none⟩) HNO.o (.int .i64 (p:Int))) (a:=⟨R,0,none⟩) hRG' (.int .i64 (p:Int))) (a:=⟨R,1,none⟩) hRG' (.slice A5 q c5)) (a:=⟨R,2,none⟩) hRG' (.slice AF5 r cf5));have HF9:=zh (ownsRow_setCell_below (ownsRow_setCell_below (ownsRow_setCell_below (ownsRow_setCell_other hfin5 (a:=⟨O,0,none⟩) HNF.o (.int .i64 (p:Int))) (a:=⟨R,0,none⟩) hRG' (.int .i64 (p:Int))) (a:=⟨R,1,none⟩) hRG' (.slice A5 q c5)) (a:=⟨R,2,none⟩) hRG' (.slice AF5 r cf5));have HBF:=zh ((((HBW9.o.setCell (p:=⟨O,0,none⟩) (by show w.heap.size≤O;omega) (.int .i64 (p:Int))).setCell (p:=⟨R,0,none⟩) hwR (.int .i64 (p:Int))).setCell (p:=⟨R,1,none⟩) hwR (.slice A5 q c5)).setCell (p:=⟨R,2,none⟩) hwR (.slice AF5 r cf5));obtain⟨LA,hLA⟩:∃ z,z=(StD K p).1.2:=⟨_,rfl⟩;obtain⟨LF,hLF⟩:∃ z,z=(StD K p).2:=⟨_,rfl⟩;have hqL:=zA6 hown5;have hrL:=zBv hfin5;rw[← hLA] at hqL HA9 HEND;rw[← hLF] at hrL HF9 HEND;have HQL:=zh hqL;have HRL9:=zh hrL
   have hqb5:q≤800000:=by
    have h:2000*p≤2000*60:=wAf _ (by omega);omega
   clear bR9 bO5 hown5 hfin5 HM HL hqL hrL hLA hLF bX6;go_wp21;refine bodyPost_ret (v:=.tuple #[.agg #[.int .i64 (p:Int),.slice A5 q c5,.slice AF5 r cf5],.bool true]) (by simp[results,Try.results75,go_sem,lR,hOw2,hOw4,q0,q1',q2,qf,qf1,qf2]) rfl ⟨_,true,rfl,HBF.o,fun h=>(by cases h),fun _=>?_⟩;rw[HSZ.o,HEND.o];refine⟨?_,by show ((p:Nat):Int)≤60;omega⟩;(have hbq:q≤big:=by unfold big;omega);(have hbr:r≤big:=by unfold big;omega);have hwl:w.heap.size≤G:=hwG;have HA8:=HA9.o;have HF8:=HF9.o;obtain⟨_,_,e1,k1,_⟩:=zAa HA8;obtain⟨_,_,e2,k2,_⟩:=zAa HF8;(injection e1 with _ _ e1);(injection e2 with _ _ e2);subst e1 e2;have hq9:=HQL.o;have hr9:=HRL9.o;subst hq9 hr9;exact MachNew.of_own (m:=⟨(p:Int),LA,LF⟩) (base:=G) (b2:=G) HA8 HF8 hwl hwl k1 k2 hbq hbr
end Go.Proofs.Ytkfdhpbnphojoaa
