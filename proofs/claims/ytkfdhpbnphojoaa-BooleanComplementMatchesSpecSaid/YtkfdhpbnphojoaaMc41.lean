/- Part of the proof. -/
import Derived.Test.YtkfdhpbnphojoaaMc40
import Derived.Test.YtkfdhpbnphojoaaMc37
set_option linter.unusedSimpArgs false
set_option linter.unusedVariables false
set_option maxRecDepth 100000
set_option maxHeartbeats 4000000
open Nat renaming le_refl→wAa
namespace Go.Proofs.Ytkfdhpbnphojoaa
open Go.RowKit Gm
theorem zGW (vm vw:Value) (r:Mach×(Int×Int)) (t:Mach) (w:World) (hm:MachAt w w.heap.size vm r.1) (ht:MachAt w w.heap.size vw t) (hf:FitsR r t) :
 Calls Try.prog 27 #[vm,.agg #[.int .i64 r.2.1,.int .i64 r.2.2],vw] w fun e w'=>e=.returned (.bool true)∧Below w.heap.size w w':=by
 have HM:=zh hm;have HT:=zh ht;have he2:=fun a b c d W=>zAV a b c d W
 obtain⟨A1,AF1,n1,c1,nf1,cf1,rfl,_,_,_,_,_,_,_,_⟩:=hm;obtain⟨A2,AF2,n2,c2,nf2,cf2,rfl,HL,_,_,_,_,_,_,_⟩:=ht;obtain⟨sa,hsa⟩:∃ z,z=r.1.n:=⟨_,rfl⟩;obtain⟨st,hst⟩:∃ z,z=t.n:=⟨_,rfl⟩;obtain⟨f,hf1⟩:∃ z,z=r.2.1:=⟨_,rfl⟩;obtain⟨g,hg1⟩:∃ z,z=r.2.2:=⟨_,rfl⟩;have HSA:=zh hsa;have HF1:=zh hf1;have HG1:=zh hg1;simp only[← hsa,← hf1,← hg1] at HM ⊢;simp only[← hst] at HT ⊢;clear hsa hst hf1 hg1
 go_enter Try.func27,Try.ntmps27
 go_upto_region 1 with fail
 generalize hW1:World.alloc _ _=W1;obtain⟨X,hX⟩:∃ z,z=w.heap.size:=⟨_,rfl⟩;obtain⟨Y,hY⟩:∃ z,z=w.heap.size+1:=⟨_,rfl⟩;obtain⟨Z,hZ⟩:∃ z,z=w.heap.size+1+1:=⟨_,rfl⟩;have bX:=zh (show Blk W1 X 25 #[.int .i64 sa,.slice A1 n1 c1,.slice AF1 nf1 cf1] by rw[← hW1];exact ((Blk.at_ hX).alloc _).alloc _);have bY:=zh (show Blk W1 Y 28 #[.int .i64 f,.int .i64 g] by rw[← hW1];exact (Blk.at_ (by simp[hY])).alloc _);have bZ:=zh (show Blk W1 Z 25 #[.int .i64 st,.slice A2 n2 c2,.slice AF2 nf2 cf2] by rw[← hW1];exact Blk.at_ (by simp[hZ]));have HB:=zh (show Below w.heap.size w W1 by rw[← hW1];go_grown);have HM1:=zh ((HM.o.below HB.o (wAa _)).mono HB.o.size);have HT1:=zh ((HT.o.below HB.o (wAa _)).mono HB.o.size);simp only[← hZ];simp only[← hY]
 try simp only[← hX]
 clear hW1 hX hY hZ HM HT;have x0:=bX.o.cell 0;have x1:=bX.o.cell 1;have x2:=bX.o.cell 2;have y0:=bY.o.cell 0;have y1:=bY.o.cell 1;have z0:=bZ.o.cell 0;have z1:=bZ.o.cell 1;have z2:=bZ.o.cell 2;simp at x0 x1 x2 y0 y1 z0 z1 z2;have lX:=bX.o.lt;have lY:=bY.o.lt;have lZ:=bZ.o.lt;unfold FitsR at hf;rw[HL.o] at hf;by_cases hn:2000<n2
 ·rw[if_pos hn] at hf;have ef:f=17:=by rw[HF1.o,hf]
  have eg:g = -1:=by rw[HG1.o,hf]
  have es:sa=0:=by rw[HSA.o,hf];rfl
  have hn':(2000:Int)<(n2:Int):=by omega
  subst ef eg es;clear hf;have hq:fEq 17 (-1) 17 (-1)=true:=rfl;go_wp2;exact bodyPost_ret (v:=.bool true) (by simp[results,Try.results27,go_sem]) rfl ⟨rfl,HB.o⟩
 ·rw[if_neg hn] at hf;have ef:f=0:=by rw[HF1.o,hf]
  have eg:g=0:=by rw[HG1.o,hf]
  have HD:=zh (show decide (r.1=t)=true from decide_eq_true (by rw[hf]));have hn':decide ((2000:Int)<(n2:Int))=false:=decide_eq_false (by omega);subst ef eg;clear hf;have hq:fEq 0 0 0 0=true:=rfl;go_wp2_with (go_at_call 16;refine (zA2 _ _ r.1 t W1 _ (wAa _) HM1.o HT1.o).mono ?_;rintro e w2 ⟨rfl,hb2⟩;rw[HD.o];have HB2:=zh hb2;clear hb2);exact bodyPost_ret (v:=.bool true) (by simp[results,Try.results27,go_sem]) rfl ⟨rfl,HB.o.trans (HB2.o.mono HB.o.size)⟩
theorem howK1:howK 1=fun p q=>p&&q:=by funext p q;simp[howK]
theorem howK2:howK 2=fun p q=>p && !q:=by funext p q;simp[howK]
def LgFit (r:Mach×(Int×Int)) (w:World) (e:Ending) (w':World):Prop:=∃ (v1:Value) (bo:Bool),e=.returned (.tuple #[v1,.bool bo])∧Below w.heap.size w w'∧AggM v1∧(bo=true→∃ t,FitsR r t∧MachNew w.heap.size w' v1 t)
theorem zIB (va vb vl:Value) (a b:Mach) (how:Int) (K:Bool→Bool→Bool) (hK:howK how=K) (hK2:∀ q,K false q=false) (r:Mach×(Int×Int)) (hr:IntR a b K r) (w:World) (B:Nat) (hB:B≤w.heap.size) (ha:MachAt w B va a) (hb:MachAt w B vb b) (hl:Nums w B vl (labsR a.arcs)) (hva:accF a=(0,0)) (hvb:accF b=(0,0)) (hl3:(labsR a.arcs).length≤300) :
 Calls Try.prog 26 #[va,vb,.int .i64 how,vl] w fun e w'=>LgFit r w e w':=by
 refine (zEu va vb vl a b how (labsR a.arcs) w B hB ha hb hl hva hvb (zAJ _) (fun x hx=>((zAy _ _).1 hx).1) hl3).mono ?_;rintro e w' ⟨v1,bo,h1,h2,h3,h4⟩;refine⟨v1,bo,h1,h2,h3,fun hbo=>?_⟩;obtain⟨Sa,Sb,g1,g2,g3,g4,g5,g6⟩:=h4 hbo;rw[hK] at g6;refine⟨_,?_,g6⟩;have e1:setsR a=(detW a).1:=by rw[g1]
 have e2:setsR b=(detW b).1:=by rw[g2]
 rw[e1] at g3 ⊢;rw[e2] at g4 ⊢;exact zSw hr hK2 hva hvb (by rw[g1]) (by rw[g2]) g3 g4 g5 hl3
theorem zL5 (va vb vl:Value) (a:Mach) (l:List Int) (r:Mach×(Int×Int)) (hr:CmpR a l r) (w:World) (B:Nat) (hB:B≤w.heap.size) (ha:MachAt w B va a) (hb:MachAt w B vb emptyM) (hl:Nums w B vl l) (hva:accF a=(0,0)) (hal:alphF l (-2)=(0,0)) :
 Calls Try.prog 26 #[va,vb,.int .i64 3,vl] w fun e w'=>LgFit r w e w':=by
 obtain⟨h3,hinc,hlab⟩:=zCA hal (by decide);refine (zEu va vb vl a emptyM 3 l w B hB ha hb hl hva empty_det.1 hinc (fun x hx=>by have:=(hlab x hx).1;omega) h3).mono ?_;rintro e w' ⟨v1,bo,h1,h2,h3',h4⟩;refine⟨v1,bo,h1,h2,h3',fun hbo=>?_⟩;obtain⟨Sa,Sb,g1,g2,g3,g4,g5,g6⟩:=h4 hbo;refine⟨_,?_,g6⟩;have e1:setsR a=(detW a).1:=by rw[g1]
 rw[e1] at g3 ⊢;exact zSE hr (fun p q=>by simp[howK]) hva hal (by rw[g1]) g3 g4 g5
end Go.Proofs.Ytkfdhpbnphojoaa
