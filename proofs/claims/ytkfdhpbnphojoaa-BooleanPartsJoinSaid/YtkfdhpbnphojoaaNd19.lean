/- Part of the proof. -/
import Derived.Test.YtkfdhpbnphojoaaNd17
import Derived.Test.YtkfdhpbnphojoaaNd13
import Derived.Test.YtkfdhpbnphojoaaNd15
set_option linter.unusedSimpArgs false
set_option linter.unusedVariables false
set_option maxRecDepth 100000
set_option maxHeartbeats 8000000
open List renaming setIfInBounds_toArray→wAa,getElem_cons_zero→wAb,getElem_cons_succ→wAc,getElem_toArray→wAd,set_cons_zero→wAe,set_cons_succ→wAf
namespace Gm
open Go Go.RowKit
noncomputable def silR (m:Mach):Mach×(Int×Int):=if accF m≠(0,0) then (emptyM,accF m) else if 2000<(silM m).arcs.length then (emptyM,(17,-1)) else (silM m,(0,0))
theorem zAU {m:Mach} (h:accF m=(0,0)):validate m=(0,0):=by
 unfold accF at h;by_cases g:validate m=(0,0)
 · exact g
 · rw[if_neg g] at h;exact h
theorem zOs {tM tA tF:Go.TypeId} {w w6:Go.World} {O base q r k:Nat} {n0:Int} {A AF Av:Option Go.Addr} {c cf cv:Nat} {L X:List Arc} {F:List Fnl} (bO:Blk w O tM #[.int .i64 n0,.slice A q c,.slice AF r cf]) (hA:w.ownsRow base tA 5 (.slice A q c) q (arcRow L))
 (hF:w.ownsRow base tF 2 (.slice AF r cf) r (finRow F)) (h1:tA≠tM) (h2:tF≠tM) (h3:tF≠tA) (hg:w.grownBy w6 (Go.Value.slice A q c).ownBlock) (hown:w6.ownsRow base tA 5 (.slice Av (q+k) cv) (q+k) (arcRow L++arcRow X)) :
 Mg tM tA tF (w6.setCell ⟨O,1,none⟩ (.slice Av (q+k) cv)) O base n0 (q+k) (L++X) r F:=by
 have b6:=bO.grown hg (Ne.symm (zAe hA bO h1));have hF6:=hF.kept hg (zAt hF hA h3);exact⟨Av,cv,AF,cf,b6.set_ 1 _,ownsRow_setCell_other (by rw[zAu];exact hown) (zAe hown b6 h1) _,ownsRow_setCell_other hF6 (zAe hF6 b6 h2) _⟩
end Gm
namespace Go.Proofs.Ytkfdhpbnphojoaa
open Go.RowKit Gm
theorem zPU (va:Value) (m:Mach) (w:World) (B:Nat) (hB:B≤w.heap.size) (ha:MachAt w B va m) (hv:accF m≠(0,0)) :
 Calls Try.prog 46 #[va] w fun e w'=>∃ v1,e=.returned (.tuple #[v1,.agg #[.int .i64 (silR m).2.1,.int .i64 (silR m).2.2]])∧MachNew w.heap.size w' v1 (silR m).1∧Below w.heap.size w w':=by
 have HR:=zh (show silR m=(emptyM,accF m) by unfold silR;rw[if_pos hv]);rw[HR.o];have h0:=ha;obtain⟨A,AF,n,c,nf,cf,rfl,HN,HF,hnc,hnfc,hnb,hnfb,hA,hF⟩:=ha;have H0:=zh h0;clear h0 hA hF HR;obtain⟨f1,hf1⟩:∃ z,z=(accF m).1:=⟨_,rfl⟩;obtain⟨f2,hf2⟩:∃ z,z=(accF m).2:=⟨_,rfl⟩;have he:=fun a b c d W=>zAn a b c d W
 have hf:fEq f1 f2 0 0=false:=zFm (fun ⟨e1,e2⟩=>hv (Prod.ext (by rw[← hf1];exact e1) (by rw[← hf2];exact e2)));have HC:=zh (fun W (hB:B≤W.heap.size) (h:MachAt W B (.agg #[.int .i64 m.n,.slice A n c,.slice AF nf cf]) m)=>zCZ _ m W B hB h);rw[← hf1,← hf2] at HC;dsimp only;rw[← hf1,← hf2];obtain⟨sn,hsn⟩:∃ z,z=m.n:=⟨_,rfl⟩;rw[← hsn] at HC H0 ⊢;clear hf1 hf2 hv hsn
 go_enter Try.func46,Try.ntmps46
 go_upto_region 1 with fail
 generalize hW1:World.alloc _ _=W1;obtain⟨X,hX⟩:∃ z,z=w.heap.size:=⟨_,rfl⟩;obtain⟨M,hM⟩:∃ z,z=w.heap.size+1:=⟨_,rfl⟩;obtain⟨R,hR⟩:∃ z,z=w.heap.size+1+1:=⟨_,rfl⟩;have HX1:=zh (show Blk W1 X 25 #[.int .i64 sn,.slice A n c,.slice AF nf cf] by rw[← hW1];exact ((Blk.at_ hX).alloc _).alloc _);have HM1:=zh (show Blk W1 M 25 #[.int .i64 0,.slice none 0 0,.slice none 0 0] by rw[← hW1];exact (Blk.at_ (by simp[hM])).alloc _);have HR1:=zh (show Blk W1 R 28 #[.int .i64 0,.int .i64 0] by rw[← hW1];exact Blk.at_ (by simp[hR]));have HB1:=zh (show Below w.heap.size w W1 by rw[← hW1];go_grown);have hwM:w.heap.size≤M:=by omega
 have hwR:w.heap.size≤R:=by omega
 have hMR:M≠R:=by omega
 have hRM:R≠M:=by omega
 have hR2:M+1=R:=by omega
 simp only[← hM];simp only[hR2]
 try simp only[← hX]
 have lX1:X<W1.heap.size:=HX1.o.lt;have x0:=HX1.o.cell 0;have x1:=HX1.o.cell 1;have x2:=HX1.o.cell 2;simp at x0 x1 x2;clear hW1 hX hM hR hR2;go_upto_region 2 with (go_at_call 32;refine (HC.o W1 (by have:=HB1.o.size;omega) (H0.o.below HB1.o hB)).mono ?_;rintro e w2 ⟨rfl,hb2⟩;have HB2:=zh hb2;clear hb2)
 have bM:=HM1.o.below HB2.o HM1.o.lt;have bR:=HR1.o.below HB2.o HR1.o.lt;have HBW:=zh (HB1.o.trans (HB2.o.mono HB1.o.size));have q0:=bM.cell 0;have q1:=bM.cell 1;have q2:=bM.cell 2;have q3:=bR.cell 0;have q4:=bR.cell 1;have qf:=bM.frozen 0;have qf1:=bM.frozen 1;have qf2:=bM.frozen 2;have qf3:=bR.frozen 0;have qf4:=bR.frozen 1;have lM:=bM.lt;have lR:=bR.lt;simp at q0 q1 q2 q3 q4;clear bM bR x0 x1 x2 HM1 HR1 HX1;go_wp2;refine zAE (fun w'=>w'.cell? ⟨w2.heap.size,0,none⟩=some (.int .i64 f1)∧w'.cell? ⟨w2.heap.size,1,none⟩=some (.int .i64 f2)) 3 [(0,false),(1,false),(2,true)] (by kernel_rfl) (by kernel_rfl) ?_ ?_
 · go_simp
 simp only[List.drop_succ_cons,List.drop_zero]
 repeat (refine mix_q (v:=?_) (by rfl) (by rfl) ?_ ?_;rotate_left;(focus (intro w' hC;(try dsimp only at hC);go_simp;(first | done | with_reducible rfl)));simp only[Act.put,wAa,wAe,wAf,wAd,wAb,wAc])
 refine mix_l (by rfl) (by rfl) (fun K hK=>?_);go_simp;refine hK _ _ (by go_simp) ?_;clear hK K;refine zAs ?_;try simp only[Act.put,wAa,wAe,wAf,wAd,wAb,wAc]
 go_wp2;refine NoPanic.normal ?_;go_wp2;refine bodyPost_ret (v:=.tuple #[.agg #[.int .i64 0,.slice none 0 0,.slice none 0 0],.agg #[.int .i64 f1,.int .i64 f2]]) (by simp[results,Try.results46,go_sem,lM,lR,hMR,hRM,q0,q1,q2,q3,q4,qf,qf1,qf2,qf3,qf4]) rfl ?_;exact⟨_,rfl,MachNew.empty _ _,by have hz:=HBW.o.size;go_grown;exact HBW.o⟩
end Go.Proofs.Ytkfdhpbnphojoaa
