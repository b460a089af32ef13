/- Part of the proof. -/
import Derived.Test.YtkfdhpbnphojoaaMc39
import Derived.Test.YtkfdhpbnphojoaaMc31
set_option linter.unusedSimpArgs false
set_option linter.unusedVariables false
set_option maxRecDepth 100000
set_option maxHeartbeats 32000000
open List renaming setIfInBounds_toArray→wAa,getElem_cons_zero→wAb,getElem_cons_succ→wAc,getElem_toArray→wAd,set_cons_zero→wAe,set_cons_succ→wAf,drop_succ_cons→wAj,drop_zero→wAk,mem_map→wAr,mem_cons_of_mem→wAt,mem_cons_self→wAv,map_cons→wAy,mem_cons→wAz
open Nat renaming le_refl→wAg,mul_le_mul_right→wAp,succ_mul→wAq,add_assoc→wAu,mul_le_mul→wAx,mul_comm→wAA,zero_add→wAB
open Int renaming natCast_nonneg→wAn,ofNat_lt→wAs,toNat_natCast→wAw
open Go.Act renaming put→wAh
open Go.RowKit.Below renaming refl→wAi
open Go.NoPanic renaming normal→wAl
open Gm.Blk renaming at_→wAm
open Go.World renaming alloc→wAo
namespace Go.Proofs.Ytkfdhpbnphojoaa
open Go.RowKit Gm
theorem zGx {w:World} {B:Nat} {v:Value} {m:Mach} (h:MachAt w B v m):∃ (A AF:Option Addr) (n c nf cf:Nat),v=.agg #[.int .i64 m.n,.slice A n c,.slice AF nf cf]∧m.arcs.length=n:=by
 obtain⟨A,AF,n,c,nf,cf,e,h1,_⟩:=h;exact⟨A,AF,n,c,nf,cf,e,h1.o⟩
theorem zP1 (a:Int) (A AF:Option Addr) (n c nf cf:Nat) (W:World):(Instr.field 25 (.agg #[.int .i64 a,.slice A n c,.slice AF nf cf]) 1).run Try.prog W=.ok (.slice A n c) W:=by kernel_rfl
def AggM (v:Value):Prop:=∃ (a:Int) (A AF:Option Addr) (n c nf cf:Nat),v=.agg #[.int .i64 a,.slice A n c,.slice AF nf cf]
theorem aggM (a:Int) (A AF:Option Addr) (n c nf cf:Nat):AggM (.agg #[.int .i64 a,.slice A n c,.slice AF nf cf]):=⟨a,A,AF,n,c,nf,cf,rfl⟩
theorem zFb (va:Value) (m:Mach) (w:World) (B:Nat) (hB:B≤w.heap.size) (ha:MachAt w B va m) (hv:accF m=(0,0)) :
 Calls Try.prog 42 #[va] w fun e w'=>∃ (v1:Value) (b:Bool),e=.returned (.tuple #[v1,.bool b])∧Below w.heap.size w w'∧AggM v1∧(b=true→(silM m).arcs.length≤2000∧(setsR m).n≤60∧(setsR m).arcs.length≤2000∧MachNew w.heap.size w' v1 (setsR m)):=by
 have HVV:=zh hv;have HM:=zh ha;obtain⟨A,AF,n,c,nf,cf,rfl,_⟩:=ha;clear hv
 go_enter Try.func42,Try.ntmps42
 go_upto_region 1 with fail
 generalize hW1:wAo _ _=W1;obtain⟨X,hX⟩:∃ z,z=w.heap.size:=⟨_,rfl⟩;obtain⟨R,hR⟩:∃ z,z=w.heap.size+1:=⟨_,rfl⟩;have bX:=zh (show Blk W1 X 25 #[.int .i64 m.n,.slice A n c,.slice AF nf cf] by rw[← hW1];exact (wAm hX).alloc _);have bR:=zh (show Blk W1 R 25 #[.int .i64 0,.slice none 0 0,.slice none 0 0] by rw[← hW1];exact wAm (by simp[hR]));have HB:=zh (show Below w.heap.size w W1 by rw[← hW1];go_grown);have hXR:X<R:=by omega
 have hwR:w.heap.size≤R:=by omega
 have hwX:w.heap.size≤X:=by omega
 have hBW:B≤w.heap.size:=hB;simp only[← hR]
 try simp only[← hX]
 clear hW1 hX hR;have HM1:=zh (HM.o.below HB.o hB);have x0:=bX.o.cell 0;have x1:=bX.o.cell 1;have x2:=bX.o.cell 2;simp at x0 x1 x2;have lX:=bX.o.lt;go_upto_if 10 with (first | (refine zEr rfl _ _ _ rfl (zP1 _ _ _ _ _ _ _ _) ?_) | (go_at_call 74;refine (zEv _ m W1 B (by have:=HB.o.size;omega) HM1.o HVV.o).mono ?_;rintro e w2 ⟨v1,rfl,hnew,hb2⟩;obtain⟨A2,AF2,n2,c2,nf2,cf2,rfl,hn2⟩:=zGx hnew.at_;have HN2:=zh hn2;have HB2:=zh hb2;obtain⟨bb,hbb⟩:∃ b:Bool,decide ((2000:Int)<(n2:Int))=b:=⟨_,rfl⟩;have HBB:=zh hbb;clear hnew hn2 hb2))
 replace bX:=zh (bX.o.below HB2.o bX.o.lt);replace bR:=zh (bR.o.below HB2.o bR.o.lt);replace HB:=zh (HB.o.trans (HB2.o.mono HB.o.size));clear x0 x1 x2 lX;have x0:=bX.o.cell 0;have x1:=bX.o.cell 1;have x2:=bX.o.cell 2;simp at x0 x1 x2;have lX:=bX.o.lt;have HM2:=zh (HM.o.below HB.o hB);clear HM1 HB2;clear hbb;cases bb
 rotate_left
 ·skip;have q0:=bR.o.cell 0;have q1:=bR.o.cell 1;have q2:=bR.o.cell 2;have qf:=bR.o.frozen 0;have qf1:=bR.o.frozen 1;have qf2:=bR.o.frozen 2;have lR:=bR.o.lt;simp at q0 q1 q2;have HBF:=zh ((((HB.o.setCell (p:=⟨R,0,none⟩) hwR (.int .i64 m.n)).setCell (p:=⟨R,1,none⟩) hwR (.slice A n c)).setCell (p:=⟨R,2,none⟩) hwR (.slice AF nf cf)));clear HBB;go_wp21;exact bodyPost_ret (v:=.tuple #[.agg #[.int .i64 m.n,.slice A n c,.slice AF nf cf],.bool false]) (by simp[results,Try.results42,go_sem,lR,q0,q1,q2,qf,qf1,qf2]) rfl ⟨_,false,rfl,HBF.o,aggM _ _ _ _ _ _ _,fun h=>(by cases h)⟩
 have h20:¬ (2000:Int)<(n2:Int):=of_decide_eq_false HBB.o;have hl:(silM m).arcs.length≤2000:=by rw[HN2.o];omega
 have HL:=zh hl;obtain⟨W2,hW2⟩:∃ z,z=w2:=⟨_,rfl⟩;rw[← hW2] at bX bR HB HM2 x0 x1 x2 lX ⊢;clear hW2 h20 hl HN2 HBB;go_upto_region 4 with (go_at_call 75;refine (zON _ m W2 B (by have:=HB.o.size;omega) HM2.o HVV.o HL.o).mono ?_;rintro e w3 ⟨v1,b,rfl,hb3,hf,ht⟩;obtain⟨mm,hmn,hme⟩:∃ mm,MachNew W2.heap.size w3 v1 mm∧(b=true→mm=setsR m∧mm.n≤60):=(by cases b;exact⟨_,hf rfl,fun h=>(by cases h)⟩;exact⟨_,(ht rfl).1,fun _=>⟨rfl,(ht rfl).2⟩⟩);obtain⟨A3,AF3,n3,c3,nf3,cf3,rfl,hn3⟩:=zGx hmn.at_;have HN3:=zh hn3;have HMN:=zh hmn;have HME:=zh hme;have HB3:=zh hb3;clear hmn hn3 hme hb3 hf ht)
 generalize hW4:wAo _ _=W4;obtain⟨D,hD⟩:∃ z,z=w3.heap.size:=⟨_,rfl⟩;have bD:=zh (show Blk W4 D 25 #[.int .i64 mm.n,.slice A3 n3 c3,.slice AF3 nf3 cf3] by rw[← hW4];exact wAm hD);have HB4:=zh (show Below W2.heap.size W2 W4 by rw[← hW4];exact HB3.o.alloc HB3.o.size _);have HMN4:=zh (show MachNew W2.heap.size W4 (.agg #[.int .i64 mm.n,.slice A3 n3 c3,.slice AF3 nf3 cf3]) mm by rw[← hW4];exact HMN.o.alloc _);have hRD:R<D:=by have:=bR.o.lt;have:=HB3.o.size;omega
 have hwW:w.heap.size≤W2.heap.size:=HB.o.size;have hRW:R<W2.heap.size:=bR.o.lt;simp only[← hD];clear hW4 hD HMN HB3 x0 x1 x2 lX;replace bR:=zh (bR.o.below HB4.o bR.o.lt);replace HB:=zh (HB.o.trans (HB4.o.mono HB.o.size));have q0:=bR.o.cell 0;have q1:=bR.o.cell 1;have q2:=bR.o.cell 2;have qf:=bR.o.frozen 0;have qf1:=bR.o.frozen 1;have qf2:=bR.o.frozen 2;have lR:=bR.o.lt;simp at q0 q1 q2;have d0:=bD.o.cell 0;have d1:=bD.o.cell 1;have d2:=bD.o.cell 2;simp at d0 d1 d2;have lD:=bD.o.lt;have hDR:D≠R:=by omega
 cases b
 ·skip;have HBF:=zh ((((HB.o.setCell (p:=⟨R,0,none⟩) hwR (.int .i64 mm.n)).setCell (p:=⟨R,1,none⟩) hwR (.slice A3 n3 c3)).setCell (p:=⟨R,2,none⟩) hwR (.slice AF3 nf3 cf3)));have HMF:=zh ((((HMN4.o).set (p:=⟨R,0,none⟩) hRW (.int .i64 mm.n)).set (p:=⟨R,1,none⟩) hRW (.slice A3 n3 c3)).set (p:=⟨R,2,none⟩) hRW (.slice AF3 nf3 cf3));refine zAE (fun w'=>w'.cell? ⟨D,0,none⟩=some (.int .i64 mm.n)∧w'.cell? ⟨D,1,none⟩=some (.slice A3 n3 c3)∧w'.cell? ⟨D,2,none⟩=some (.slice AF3 nf3 cf3)) 9 [(0,false),(1,false),(2,false),(3,false),(4,false),(5,false),(6,false),(7,false),(8,true)] (by kernel_rfl) (by kernel_rfl) ?_ ?_
  · go_simp
  simp only[wAj,wAk]
  repeat (first | (refine zDZ (by rfl) (by rfl) ?_;simp only[wAh,wAa,wAe,wAf,wAd,wAb,wAc]) | (refine mix_q (v:=?_) (by rfl) (by rfl) ?_ ?_;rotate_left;(focus (intro w' hC;(try dsimp only at hC);go_simp;(first | done | with_reducible rfl)));simp only[wAh,wAa,wAe,wAf,wAd,wAb,wAc]))
  refine mix_l (by rfl) (by rfl) (fun K hK=>?_);go_simp;refine hK _ _ (by go_simp) ?_;clear hK K;refine zAs ?_;try simp only[wAh,wAa,wAe,wAf,wAd,wAb,wAc]
  go_wp2;refine wAl ?_;go_wp2;exact bodyPost_ret (v:=.tuple #[.agg #[.int .i64 mm.n,.slice A3 n3 c3,.slice AF3 nf3 cf3],.bool false]) (by simp[results,Try.results42,go_sem,lR,q0,q1,q2,qf,qf1,qf2]) rfl ⟨_,false,rfl,HBF.o.drew,aggM _ _ _ _ _ _ _,fun h=>(by cases h)⟩
 ·by_cases h3:n3≤2000
  ·have t3:decide ((n3:Int)≤2000)=true:=decide_eq_true (by omega);have t3':decide (n3≤2000)=true:=decide_eq_true h3;have H3:=zh h3;clear h3;have HBF:=zh ((((HB.o.setCell (p:=⟨R,0,none⟩) hwR (.int .i64 mm.n)).setCell (p:=⟨R,1,none⟩) hwR (.slice A3 n3 c3)).setCell (p:=⟨R,2,none⟩) hwR (.slice AF3 nf3 cf3)));have HMF:=zh ((((HMN4.o).set (p:=⟨R,0,none⟩) hRW (.int .i64 mm.n)).set (p:=⟨R,1,none⟩) hRW (.slice A3 n3 c3)).set (p:=⟨R,2,none⟩) hRW (.slice AF3 nf3 cf3));refine zAE (fun w'=>w'.cell? ⟨D,0,none⟩=some (.int .i64 mm.n)∧w'.cell? ⟨D,1,none⟩=some (.slice A3 n3 c3)∧w'.cell? ⟨D,2,none⟩=some (.slice AF3 nf3 cf3)) 9 [(0,false),(1,false),(2,false),(3,false),(4,false),(5,false),(6,false),(7,false),(8,true)] (by kernel_rfl) (by kernel_rfl) ?_ ?_
   · go_simp
   simp only[wAj,wAk]
   repeat (first | (refine zDZ (by rfl) (by rfl) ?_;simp only[wAh,wAa,wAe,wAf,wAd,wAb,wAc]) | (refine mix_q (v:=?_) (by rfl) (by rfl) ?_ ?_;rotate_left;(focus (intro w' hC;(try dsimp only at hC);go_simp;(first | done | with_reducible rfl)));simp only[wAh,wAa,wAe,wAf,wAd,wAb,wAc]))
   refine mix_l (by rfl) (by rfl) (fun K hK=>?_);go_simp;refine hK _ _ (by go_simp) ?_;clear hK K;refine zAs ?_;(try simp only[wAh,wAa,wAe,wAf,wAd,wAb,wAc]);go_wp2;refine wAl ?_;go_wp2;exact bodyPost_ret (v:=.tuple #[.agg #[.int .i64 mm.n,.slice A3 n3 c3,.slice AF3 nf3 cf3],.bool true]) (by simp[results,Try.results42,go_sem,lR,q0,q1,q2,qf,qf1,qf2]) rfl ⟨_,true,rfl,HBF.o.drew,aggM _ _ _ _ _ _ _,fun _=>⟨HL.o,by rw[← (HME.o (by simp)).1];exact (HME.o (by simp)).2,by rw[← (HME.o (by simp)).1,HN3.o];exact H3.o,by rw[← (HME.o (by simp)).1];exact (HMF.o.mono hwW).drew⟩⟩
  ·have t3:decide ((n3:Int)≤2000)=false:=decide_eq_false (by omega);have t3':decide (n3≤2000)=false:=decide_eq_false h3;clear h3;have HBF:=zh ((((HB.o.setCell (p:=⟨R,0,none⟩) hwR (.int .i64 mm.n)).setCell (p:=⟨R,1,none⟩) hwR (.slice A3 n3 c3)).setCell (p:=⟨R,2,none⟩) hwR (.slice AF3 nf3 cf3)));have HMF:=zh ((((HMN4.o).set (p:=⟨R,0,none⟩) hRW (.int .i64 mm.n)).set (p:=⟨R,1,none⟩) hRW (.slice A3 n3 c3)).set (p:=⟨R,2,none⟩) hRW (.slice AF3 nf3 cf3));refine zAE (fun w'=>w'.cell? ⟨D,0,none⟩=some (.int .i64 mm.n)∧w'.cell? ⟨D,1,none⟩=some (.slice A3 n3 c3)∧w'.cell? ⟨D,2,none⟩=some (.slice AF3 nf3 cf3)) 9 [(0,false),(1,false),(2,false),(3,false),(4,false),(5,false),(6,false),(7,false),(8,true)] (by kernel_rfl) (by kernel_rfl) ?_ ?_
   · go_simp
   simp only[wAj,wAk]
   repeat (first | (refine zDZ (by rfl) (by rfl) ?_;simp only[wAh,wAa,wAe,wAf,wAd,wAb,wAc]) | (refine mix_q (v:=?_) (by rfl) (by rfl) ?_ ?_;rotate_left;(focus (intro w' hC;(try dsimp only at hC);go_simp;(first | done | with_reducible rfl)));simp only[wAh,wAa,wAe,wAf,wAd,wAb,wAc]))
   refine mix_l (by rfl) (by rfl) (fun K hK=>?_);go_simp;refine hK _ _ (by go_simp) ?_;clear hK K;refine zAs ?_;(try simp only[wAh,wAa,wAe,wAf,wAd,wAb,wAc]);go_wp2;refine wAl ?_;go_wp2;exact bodyPost_ret (v:=.tuple #[.agg #[.int .i64 mm.n,.slice A3 n3 c3,.slice AF3 nf3 cf3],.bool false]) (by simp[results,Try.results42,go_sem,lR,q0,q1,q2,qf,qf1,qf2]) rfl ⟨_,false,rfl,HBF.o.drew,aggM _ _ _ _ _ _ _,fun h=>(by cases h)⟩
end Go.Proofs.Ytkfdhpbnphojoaa
namespace Gm
def stI (S p:Nat):Int:=if p<S then (p:Int) else -1
def nxN (t:Mach) (S p:Nat) (x:Int):Nat:=if nxI t (stI S p) x<0 then S else (nxI t (stI S p) x).toNat
def flT (a b:Mach) (Sa Sb s:Nat) (x:Int):Nat:=nxN a Sa (s/(Sb+1)) x*(Sb+1)+nxN b Sb (s%(Sb+1)) x
def flR (a b:Mach) (Sa Sb:Nat) (l:List Int) (s:Nat):List Int:=l.map fun x=>((flT a b Sa Sb s x:Nat):Int)
def flF (a b:Mach) (Sa Sb:Nat) (K:Bool→Bool→Bool) (s:Nat):Bool:=K (acI a (stI Sa (s/(Sb+1)))) (acI b (stI Sb (s%(Sb+1))))
def flA (a b:Mach) (Sa Sb:Nat) (l:List Int) (s j:Nat):List Arc:=(l.take j).map fun x=>⟨(s:Int),((flT a b Sa Sb s x:Nat):Int),x,x,0⟩
section
variable {a b:Mach} {Sa Sb:Nat} {l:List Int}
theorem zPL (s:Nat):flA a b Sa Sb l s 0=[]:=by unfold flA;simp
theorem zOZ {s j:Nat} {x:Int} (h:l[j]? = some x):flA a b Sa Sb l s (j+1)=flA a b Sa Sb l s j++[⟨(s:Int),((flT a b Sa Sb s x:Nat):Int),x,x,0⟩]:=by
 unfold flA;rw[List.take_add_one,h,List.map_append];rfl
theorem zJy (s:Nat):tstp l (flR a b Sa Sb l) s=l.map fun x=>(x,flT a b Sa Sb s x):=by
 unfold tstp flR
 induction l with
 | nil=>rfl
 | cons x l ih =>
  rw[wAy,List.zip_cons_cons,List.filterMap_cons,wAy];simp only[wAn,if_true,wAw];rw[ih]
theorem zMr (s:Nat):tabA l (flR a b Sa Sb l) (s+1)=tabA l (flR a b Sa Sb l) s++flA a b Sa Sb l s l.length:=by
 rw[zIC,zJy];unfold flA;rw[List.take_length,List.map_map];rfl
theorem zRF (s j:Nat):(flA a b Sa Sb l s j).length≤j:=by unfold flA;rw[List.length_map,List.length_take];omega
theorem zH8 (h:DmOk a Sa) (p:Nat) (x:Int):nxN a Sa p x≤Sa:=by
 unfold nxN;rcases zCc h (stI Sa p) x with g | g
 · split<;>omega
 · rw[if_pos (by rw[g];omega)];exact wAg _
theorem zQs (h:DmOk a Sa) (p:Nat) (x:Int):stI Sa (nxN a Sa p x)=nxI a (stI Sa p) x:=by
 have hr:=zCc h (stI Sa p) x;unfold nxN;by_cases g:nxI a (stI Sa p) x<0
 ·rw[if_pos g];unfold stI at g hr ⊢;rw[if_neg (Nat.lt_irrefl _)];omega
 ·rw[if_neg g]
  have e:stI Sa (nxI a (stI Sa p) x).toNat=nxI a (stI Sa p) x:=by
   rw[show stI Sa (nxI a (stI Sa p) x).toNat=if (nxI a (stI Sa p) x).toNat<Sa then ((nxI a (stI Sa p) x).toNat:Int) else -1 from rfl,if_pos (by omega)];omega
  exact e
theorem zQh (ha:DmOk a Sa) (hb:DmOk b Sb) (s:Nat) (x:Int):flT a b Sa Sb s x<(Sa+1)*(Sb+1):=by
 have h1:=zH8 ha (s/(Sb+1)) x;have h2:=zH8 hb (s%(Sb+1)) x;have h3:=wAp (Sb+1) h1;unfold flT;rw[wAq];omega
theorem zGk {X k r:Nat} (h:r<k):(X*k+r)/k=X∧(X*k+r)%k=r:=by
 constructor
 · rw[wAA X k,Nat.mul_add_div (by omega),Nat.div_eq_of_lt h,Nat.add_zero]
 · rw[wAA X k,Nat.mul_add_mod,Nat.mod_eq_of_lt h]
theorem zRp (hb:DmOk b Sb) (s:Nat) (x:Int):flT a b Sa Sb s x/(Sb+1)=nxN a Sa (s/(Sb+1)) x∧flT a b Sa Sb s x%(Sb+1)=nxN b Sb (s%(Sb+1)) x:=by
 have h2:=zH8 hb (s%(Sb+1)) x;exact zGk (by omega)
theorem zNM (ha:DmOk a Sa) (hb:DmOk b Sb) {K:Bool→Bool→Bool} : ∀ (w:List Int) (s:Nat),accS (tstp l (flR a b Sa Sb l)) (flF a b Sa Sb K) s w↔(∀ x∈w,x∈l)∧K (acR a (stI Sa (s/(Sb+1))) w) (acR b (stI Sb (s%(Sb+1))) w)=true
 | [],s=>by
  show flF a b Sa Sb K s=true↔_
  constructor
  · intro h;exact⟨(fun x hx=>by cases hx),h⟩
  · intro h;exact h.2
 | x::w,s=>by
  show (∃ u,(x,u)∈tstp l (flR a b Sa Sb l) s∧accS _ _ u w)↔(∀ y∈x::w,y∈l)∧K (acR a (nxI a (stI Sa (s/(Sb+1))) x) w) (acR b (nxI b (stI Sb (s%(Sb+1))) x) w)=true
  rw[zJy];obtain⟨e1,e2⟩:=zRp (a:=a) (Sa:=Sa) hb s x;have ih:=zNM ha hb (K:=K) w (flT a b Sa Sb s x);rw[e1,e2,zQs ha,zQs hb] at ih;constructor
  ·rintro⟨u,hu,hw⟩;obtain⟨y,hy,e⟩:=wAr.1 hu;(injection e with g1 g2);subst g1 g2;obtain⟨k1,k2⟩:=ih.1 hw;exact⟨fun z hz=>by rcases wAz.1 hz with rfl | hz;exact hy;exact k1 z hz,k2⟩
  ·rintro⟨g1,g2⟩;exact⟨_,wAr.2 ⟨x,g1 x wAv,rfl⟩,ih.2 ⟨fun y hy=>g1 y (wAt _ hy),g2⟩⟩
theorem zKx (ha:DmOk a Sa):stI Sa 0=s0I a:=by
 have:=ha.n
 unfold stI s0I;by_cases h:0<Sa
 · rw[if_pos h,if_pos (by omega)];rfl
 · rw[if_neg h,if_neg (by omega)]
theorem zKt (ha:DmOk a Sa) (hb:DmOk b Sb) {K:Bool→Bool→Bool} (w:List Int):accS (tstp l (flR a b Sa Sb l)) (flF a b Sa Sb K) 0 w↔jnL a b l K w:=by
 rw[zNM ha hb,Nat.zero_div,Nat.zero_mod,zKx ha,zKx hb];rfl
theorem zQp (ha:DmOk a Sa) (hb:DmOk b Sb):∀ s,s<(Sa+1)*(Sb+1)→∀ t∈flR a b Sa Sb l s,t<(((Sa+1)*(Sb+1):Nat):Int):=by
 intro s _ t ht;obtain⟨x,_,rfl⟩:=wAr.1 ht;exact wAs.2 (zQh ha hb s x)
theorem zSZ (s:Nat):(tabA l (flR a b Sa Sb l) s).length≤s*l.length:=by
 induction s with
 | zero=>simp[tabA]
 | succ s ih =>
  rw[zMr,List.length_append,wAq]
  have:=zRF (a:=a) (b:=b) (Sa:=Sa) (Sb:=Sb) (l:=l) s l.length
  omega
theorem zSd (ha:DmOk a Sa) (hb:DmOk b Sb) {K:Bool→Bool→Bool} (hS:(Sa+1)*(Sb+1)≤150) (hi:l.Pairwise (· < ·)) (h0:∀ x∈l,x≠0) (h3:l.length≤300) :
 ∃ S:Nat,S≤150∧FewOk (trimOf (tabM l (flR a b Sa Sb l) (flF a b Sa Sb K) ((Sa+1)*(Sb+1)))) S∧canonM (lsM (trimOf (tabM l (flR a b Sa Sb l) (flF a b Sa Sb K) ((Sa+1)*(Sb+1))))) (langM (trimOf (tabM l (flR a b Sa Sb l) (flF a b Sa Sb K) ((Sa+1)*(Sb+1)))) 0) S=canonM l (jnL a b l K) ((Sa+1)*(Sb+1)):=by
 have hp:0<(Sa+1)*(Sb+1):=Nat.mul_pos (by omega) (by omega)
 obtain⟨S,h1,h2,h4⟩:=zSG (ls:=l) (row:=flR a b Sa Sb l) (fin:=flF a b Sa Sb K) (n:=(Sa+1)*(Sb+1)) hi h0 (zQp ha hb) (fun h=>by omega) (by omega) (by
  have h:=zSZ (a:=a) (b:=b) (Sa:=Sa) (Sb:=Sb) (l:=l) ((Sa+1)*(Sb+1));have h5:(Sa+1)*(Sb+1)*l.length≤150*300:=wAx hS h3
  omega)
 refine⟨S,by omega,h2,?_⟩;rw[h4,show accS (tstp l (flR a b Sa Sb l)) (flF a b Sa Sb K) 0=jnL a b l K from funext fun w=>propext (zKt ha hb w)]
theorem fl_sz (ha:DmOk a Sa) (hb:DmOk b Sb) {K:Bool→Bool→Bool} : inRange (tabM l (flR a b Sa Sb l) (flF a b Sa Sb K) ((Sa+1)*(Sb+1))).arcs (tabM l (flR a b Sa Sb l) (flF a b Sa Sb K) ((Sa+1)*(Sb+1))).n.toNat∧∀ x∈(tabM l (flR a b Sa Sb l) (flF a b Sa Sb K) ((Sa+1)*(Sb+1))).fins,0≤x.s∧x.s<((tabM l (flR a b Sa Sb l) (flF a b Sa Sb K) ((Sa+1)*(Sb+1))).n.toNat:Int):=by
 have e:(tabM l (flR a b Sa Sb l) (flF a b Sa Sb K) ((Sa+1)*(Sb+1))).n.toNat=(Sa+1)*(Sb+1):=by
  show ((((Sa+1)*(Sb+1):Nat)):Int).toNat=_
  exact wAw _
 rw[e];constructor
 ·intro z hz;obtain⟨s,hs,x,u,hx,rfl⟩:=mem_tabA.1 hz;rw[zJy] at hx;obtain⟨y,_,hy⟩:=wAr.1 hx;injection hy with h1 h2
  have h3:=zQh ha hb s y;subst h2;exact⟨wAn _,wAs.2 hs,wAn _,wAs.2 h3⟩
 ·intro z hz;obtain⟨s,hs,_,rfl⟩:=mem_tabF.1 hz;exact⟨wAn _,wAs.2 hs⟩
theorem zJc {s y:Int} : ∀ (l:List Arc),(aftF l s y = -1∧∀ z∈l,¬ (z.f=s∧z.i=y))∨∃ z∈l,z.f=s∧z.i=y∧aftF l s y=z.t
 | []=>.inl ⟨rfl,fun z hz=>by cases hz⟩
 | x::l=>by
  unfold aftF;by_cases h:x.f=s∧x.i=y
  · rw[if_pos h];exact .inr ⟨x,wAv,h.1,h.2,rfl⟩
  ·rw[if_neg h];rcases zJc l with⟨e,g⟩ | ⟨z,hz,g⟩
   · exact .inl ⟨e,fun z hz=>by rcases wAz.1 hz with rfl | hz;exact h;exact g z hz⟩
   · exact .inr ⟨z,wAt _ hz,g⟩
theorem zRN (h:DmOk a Sa) {p:Nat} (hp:p≤Sa) (x:Int):aftF a.arcs (p:Int) x=nxI a (stI Sa p) x:=by
 unfold stI;by_cases hq:p<Sa
 ·rw[if_pos hq];have e:nxI a (p:Int) x=afterL a.arcs p x:=by unfold nxI;rw[if_pos (by omega)];simp
  rw[e];rcases zJc (s:=(p:Int)) (y:=x) a.arcs with⟨e1,g1⟩ | ⟨z,hz,z1,z2,e1⟩
  ·rcases zBk (s:=p) (x:=x) a.arcs with⟨e2,_⟩ | ⟨y,hy,y1,y2,_⟩
   · rw[e1,e2]
   · exact absurd ⟨y1,y2⟩ (g1 y hy)
  ·rcases zBk (s:=p) (x:=x) a.arcs with⟨_,g2⟩ | ⟨y,hy,y1,y2,e2⟩
   · exact absurd ⟨z1,z2⟩ (g2 z hz)
   · rw[e1,e2,h.det z hz y hy (by rw[z1,y1]) (by rw[z2,y2])]
 ·rw[if_neg hq];have e:nxI a (-1) x = -1:=by unfold nxI;rw[if_neg (by omega)]
  rw[e];rcases zJc (s:=(p:Int)) (y:=x) a.arcs with⟨e1,_⟩ | ⟨z,hz,z1,_,_⟩
  · exact e1
  ·have:=h.rng z hz
   omega
theorem zNI (h:DmOk a Sa) {p:Nat} (hp:p≤Sa) (x:Int):nxN a Sa p x=if aftF a.arcs (p:Int) x<0 then Sa else (aftF a.arcs (p:Int) x).toNat:=by
 rw[zRN h hp];rfl
theorem zMo (h:DmOk a Sa) (hw:∀ x∈a.fins,x.w=0) {p:Nat} (hp:p≤Sa):decide (0≤finW a.fins (p:Int))=acI a (stI Sa p):=by
 have h1:=zKn (m:=a) (fun x hx=>by rw[hw x hx];omega) p
 have h2:decide (0≤finW a.fins (p:Int))=finM' a p:=by
  cases e:finM' a p
  ·rw[e] at h1
   have:=of_decide_eq_true h1
   exact decide_eq_false (by omega)
  ·rw[e] at h1
   have:=of_decide_eq_false h1
   exact decide_eq_true (by omega)
 rw[h2];unfold stI acI;by_cases hq:p<Sa
 ·rw[if_pos hq,h.n,zHx];simp;intro _;omega
 ·rw[if_neg hq]
  have:finM' a p=false:=by
   unfold finM';rw[List.any_eq_false];intro x hx g;have g:=of_decide_eq_true g
   have:=h.frng x hx
   omega
  rw[this];rfl
end
end Gm
namespace Go.Proofs.Ytkfdhpbnphojoaa
open Go.RowKit Gm
def howK (how:Int) (p q:Bool):Bool:=(decide (how=1)&&p&&q)||(decide (how=2)&&p && !q)||(decide (how=3) && !p)
theorem zCP (v:Int) (w:World) :
 Calls Try.prog 57 #[.int .i64 v,.int .i64 0] w fun e w'=>e=.returned (.int .i64 v)∧Below w.heap.size w w':=by
 go_enter Try.func57,Try.ntmps57
 by_cases h:v=0
 ·have t1:(v==0)=true:=by simp[h]
  subst h;go_wp2;exact bodyPost_ret (v:=.int .i64 0) (by simp[results,Try.results57,go_sem]) rfl ⟨rfl,by go_grown⟩
 ·have t1:(v==0)=false:=by simp[h]
  have t2:decide (v=0)=false:=decide_eq_false h;go_wp2;exact bodyPost_ret (v:=.int .i64 v) (by simp[results,Try.results57,go_sem]) rfl ⟨rfl,by go_grown⟩
theorem zBA {w:World} {g i:Nat} {v:Value} (h:w.cell? ⟨g,i,none⟩=some v):w.setCell ⟨g,i,none⟩ v=w:=by
 unfold World.cell? at h
 have:w.heap.modify g (fun o=>match o with | .cells c elem fr=>.cells (if (none:Option Value).isSome then c else c.setIfInBounds i v) elem fr | o=>o)=w.heap:=by
  apply Array.ext
  · simp
  ·intro k h1 h2;rw[Array.getElem_modify];split
   ·rename_i e
    subst e;rw[Array.getElem?_eq_getElem h2] at h;generalize w.heap[g]=o at h ⊢
    cases o with
    | cells c elem fr =>
     (have h':c[i]? = some v:=by simpa using h);obtain⟨hi,rfl⟩:=Array.getElem?_eq_some_iff.1 h'
     show Obj.cells (c.setIfInBounds i c[i]) elem fr=Obj.cells c elem fr
     congr 1;apply Array.ext
     · simp
     ·intro k a b;rw[Array.getElem_setIfInBounds (by simpa using a)];split
      · rename_i e;subst e;rfl
      · rfl
    | _=>rfl
   · rfl
 show { w with heap:=_ } = w
 exact congrArg (fun z => { w with heap:=z }) this
theorem zOY {w:World} {base:Nat} {e:TypeId} {A:Option Addr} {n c:Nat} {L:List Arc} (h:w.ownsRow base e 5 (.slice A n c) n (arcRow L)) {j:Nat} (hj:j<n):∃ g cs a,A=some ⟨g,0,none⟩∧base≤g∧Blk w g e cs∧w.cell? ⟨g,j*5,none⟩=some (.int .i64 (Arc.f a))∧w.cell? ⟨g,j*5+1,none⟩=some (.int .i64 (Arc.t a)):=by
 obtain⟨b,off,a,e1,_,h0,h1,_⟩:=zAp (Rd.of_own h (fun i j hi hj=>zAr _ i j (by rw[zA6 h];exact hi) hj)) hj;obtain⟨_,⟨e2,_⟩ | ⟨g,cap,cur,e2,hg,hb,_⟩⟩:=h
 · injection e2 with e2;rw[e1] at e2;cases e2
 ·injection e2 with e2
  rw[e1] at e2;injection e2 with e2
  injection e2 with e2 e3
  subst e2 e3;rw[wAB] at h0 h1;exact⟨b,cur,a,e1,hg,hb,h0,h1⟩
theorem zPG {w:World} {base:Nat} {e:TypeId} {A:Option Addr} {n c:Nat} {L:List Fnl} (h:w.ownsRow base e 2 (.slice A n c) n (finRow L)) {j:Nat} (hj:j<n):∃ g cs a,A=some ⟨g,0,none⟩∧base≤g∧Blk w g e cs∧w.cell? ⟨g,j*2,none⟩=some (.int .i64 (Fnl.s a)):=by
 obtain⟨b,off,a,e1,_,h0,_⟩:=zAQ (Rd.of_own h (fun i j hi hj=>zCt _ i j (by rw[zBv h];exact hi) hj)) hj;obtain⟨_,⟨e2,_⟩ | ⟨g,cap,cur,e2,hg,hb,_⟩⟩:=h
 · injection e2 with e2;rw[e1] at e2;cases e2
 ·injection e2 with e2
  rw[e1] at e2;injection e2 with e2
  injection e2 with e2 e3
  subst e2 e3;rw[wAB] at h0;exact⟨b,cur,a,e1,hg,hb,h0⟩
theorem zL1 {m:Mach} (hv:accF m=(0,0)) (h1:(silM m).arcs.length≤2000) (h2:(setsR m).n≤60) (h3:(setsR m).arcs.length≤2000):detW m=(setsR m,(0,0))∧∃ S,S≤60∧DmOk (setsR m) S∧∀ x∈(setsR m).fins,x.w=0:=by
 have hd:=zQj hv h1 h2;rw[if_neg (by omega)] at hd;refine⟨hd,?_⟩;obtain⟨S,hS⟩:=zAW (m:=m) (by rw[hd]);rw[hd] at hS;refine⟨S,by have:=hS.n;dsimp only at this;omega,hS,?_⟩;obtain⟨_,⟨e,_⟩ | ⟨N,_,_,_,K,_,hK⟩⟩:=zBe (m:=m) (by rw[hd])
 ·rw[hd] at e;dsimp only at e;rw[e];intro x hx;cases hx
 ·rw[hd] at hK;exact hK.fw
def LgRes (a b:Mach) (how:Int) (l:List Int) (w:World) (e:Ending) (w':World):Prop:=∃ (v1:Value) (bo:Bool),e=.returned (.tuple #[v1,.bool bo])∧Below w.heap.size w w'∧AggM v1∧(bo=true→∃ Sa Sb,detW a=(setsR a,(0,0))∧detW b=(setsR b,(0,0))∧DmOk (setsR a) Sa∧DmOk (setsR b) Sb∧(Sa+1)*(Sb+1)≤150∧MachNew w.heap.size w' v1 (canonM l (jnL (setsR a) (setsR b) l (howK how)) ((Sa+1)*(Sb+1))))
theorem LgRes.no {a b:Mach} {how:Int} {l:List Int} {w w':World} {v1:Value} (h1:Below w.heap.size w w') (h2:AggM v1):LgRes a b how l w (.returned (.tuple #[v1,.bool false])) w':=⟨v1,false,rfl,h1,h2,fun h=>by cases h⟩
theorem zEu (
 va vb vl:Value) (a b:Mach) (how:Int) (l:List Int) (w:World) (B:Nat) (hB:B≤w.heap.size) (ha:MachAt w B va a) (hb:MachAt w B vb b) (hl:Nums w B vl l) (hva:accF a=(0,0)) (hvb:accF b=(0,0)) (hli:l.Pairwise (· < ·)) (hl0:∀ x∈l,x≠0) (hl3:l.length≤300) :
 Calls Try.prog 26 #[va,vb,.int .i64 how,vl] w fun e w'=>LgRes a b how l w e w':=by
 have HVA:=zh hva;have HVB:=zh hvb;have HMA0:=zh ha;have HMB0:=zh hb;have HLI:=zh hli;have HL0:=zh hl0;obtain⟨i0,hi0,iz0,iz1,iz2⟩:=info_parts zBa;obtain⟨i1,hi1,jz0,jz1,jz2⟩:=info_parts zB6;obtain⟨A1,AF1,n1,c1,nf1,cf1,rfl,_⟩:=ha;obtain⟨A2,AF2,n2,c2,nf2,cf2,rfl,_⟩:=hb;have HLL0:=zh hl;obtain⟨AL,q,cl,rfl,HQ,hqc,hqb,_⟩:=hl;rw[HQ.o] at hl3;clear hva hvb hli hl0
 go_enter Try.func26,Try.ntmps26
 go_upto_region 1 with fail
 generalize hW1:wAo _ _=W1;obtain⟨X,hX⟩:∃ z,z=w.heap.size:=⟨_,rfl⟩;obtain⟨Y,hY⟩:∃ z,z=w.heap.size+1:=⟨_,rfl⟩;obtain⟨Z,hZ⟩:∃ z,z=w.heap.size+1+1:=⟨_,rfl⟩;have bX:=zh (show Blk W1 X 25 #[.int .i64 a.n,.slice A1 n1 c1,.slice AF1 nf1 cf1] by rw[← hW1];exact ((wAm hX).alloc _).alloc _);have bY:=zh (show Blk W1 Y 25 #[.int .i64 b.n,.slice A2 n2 c2,.slice AF2 nf2 cf2] by rw[← hW1];exact (wAm (by simp[hY])).alloc _);have bZ:=zh (show Blk W1 Z 25 #[.int .i64 0,.slice none 0 0,.slice none 0 0] by rw[← hW1];exact wAm (by simp[hZ]));have HB:=zh (show Below w.heap.size w W1 by rw[← hW1];go_grown);have hwZ:w.heap.size≤Z:=by omega
 have hXY:X<Y:=by omega
 have hYZ:Y<Z:=by omega
 simp only[← hZ];simp only[← hY]
 try simp only[← hX]
 clear hW1 hX hY hZ;have HMA:=zh (HMA0.o.below HB.o hB);have HMB:=zh (HMB0.o.below HB.o hB);have x0:=bX.o.cell 0;have x1:=bX.o.cell 1;have x2:=bX.o.cell 2;simp at x0 x1 x2;have lX:=bX.o.lt;have HWW:=zh (wAg w.heap.size);go_upto_region 2 with (go_at_call 42;refine (zFb _ a _ B (by have:=HB.o.size;omega) HMA.o HVA.o).mono ?_;rintro e w2 ⟨v1,b1,rfl,hb2,⟨xa,A3,AF3,n3,c3,nf3,cf3,rfl⟩,ht⟩;have HT1:=zh ht;have HBs:=zh hb2;clear ht hb2)
 generalize hW2:wAo _ _=W2;obtain⟨D,hD⟩:∃ z,z=w2.heap.size:=⟨_,rfl⟩;have bD:=zh (show Blk W2 D 25 #[.int .i64 xa,.slice A3 n3 c3,.slice AF3 nf3 cf3] by rw[← hW2];exact wAm hD);have rD:=zh (show Below w2.heap.size w2 W2 by rw[← hW2];exact (wAi _ _).alloc (wAg _) _);have sD:=zh (HBs.o.trans (rD.o.mono HBs.o.size));simp only[← hD];have hZD:Z<D:=by have:=bZ.o.lt;have:=HBs.o.size;omega
 have HT1':=zh (show b1=true→(silM a).arcs.length≤2000∧(setsR a).n≤60∧(setsR a).arcs.length≤2000∧MachAt W2 W2.heap.size (.agg #[.int .i64 xa,.slice A3 n3 c3,.slice AF3 nf3 cf3]) (setsR a) from fun h=>⟨(HT1.o h).1,(HT1.o h).2.1,(HT1.o h).2.2.1,((HT1.o h).2.2.2.at_.below rD.o (wAg _)).mono rD.o.size⟩);replace bX:=zh (bX.o.below sD.o bX.o.lt);replace bY:=zh (bY.o.below sD.o bY.o.lt);replace bZ:=zh (bZ.o.below sD.o bZ.o.lt);replace HMB:=zh (HMB.o.below sD.o (by have:=HB.o.size;omega));replace HB:=zh (HB.o.trans (sD.o.mono HB.o.size));clear hW2 hD rD sD HT1 HBs x0 x1 x2 lX HMA;have y0:=bY.o.cell 0;have y1:=bY.o.cell 1;have y2:=bY.o.cell 2;simp at y0 y1 y2;have ly:=bY.o.lt;go_upto_region 3 with (go_at_call 42;refine (zFb _ b _ B (by have:=HB.o.size;omega) HMB.o HVB.o).mono ?_;rintro e w3 ⟨v1,b2,rfl,hb3,⟨xb,A4,AF4,n4,c4,nf4,cf4,rfl⟩,ht⟩;have HT2:=zh ht;have HBs:=zh hb3;clear ht hb3)
 generalize hW3:wAo _ _=W3;obtain⟨E,hE⟩:∃ z,z=w3.heap.size:=⟨_,rfl⟩;have bE:=zh (show Blk W3 E 25 #[.int .i64 xb,.slice A4 n4 c4,.slice AF4 nf4 cf4] by rw[← hW3];exact wAm hE);have rE:=zh (show Below w3.heap.size w3 W3 by rw[← hW3];exact (wAi _ _).alloc (wAg _) _);have sE:=zh (HBs.o.trans (rE.o.mono HBs.o.size));simp only[← hE];have hDE:D<E:=by have:=bD.o.lt;have:=HBs.o.size;omega
 have HT2':=zh (show b2=true→(silM b).arcs.length≤2000∧(setsR b).n≤60∧(setsR b).arcs.length≤2000∧MachAt W3 W3.heap.size (.agg #[.int .i64 xb,.slice A4 n4 c4,.slice AF4 nf4 cf4]) (setsR b) from fun h=>⟨(HT2.o h).1,(HT2.o h).2.1,(HT2.o h).2.2.1,((HT2.o h).2.2.2.at_.below rE.o (wAg _)).mono rE.o.size⟩);have HT1:=zh (show b1=true→(silM a).arcs.length≤2000∧(setsR a).n≤60∧(setsR a).arcs.length≤2000∧MachAt W3 W3.heap.size (.agg #[.int .i64 xa,.slice A3 n3 c3,.slice AF3 nf3 cf3]) (setsR a) from fun h=>⟨(HT1'.o h).1,(HT1'.o h).2.1,(HT1'.o h).2.2.1,((HT1'.o h).2.2.2.below sE.o (wAg _)).mono sE.o.size⟩);replace bX:=zh (bX.o.below sE.o bX.o.lt);replace bZ:=zh (bZ.o.below sE.o bZ.o.lt);replace bD:=zh (bD.o.below sE.o bD.o.lt);replace HB:=zh (HB.o.trans (sE.o.mono HB.o.size));clear hW3 hE rE sE HT2 HT1' HBs y0 y1 y2 ly HMB bY;have x0:=bX.o.cell 0;have x1:=bX.o.cell 1;have x2:=bX.o.cell 2;simp at x0 x1 x2;have lx:=bX.o.lt;cases b1
 ·skip;have q0:=bZ.o.cell 0;have q1:=bZ.o.cell 1;have q2:=bZ.o.cell 2;have qf:=bZ.o.frozen 0;have qf1:=bZ.o.frozen 1;have qf2:=bZ.o.frozen 2;have lZ:=bZ.o.lt;simp at q0 q1 q2;have HBF:=zh ((((HB.o.setCell (p:=⟨Z,0,none⟩) hwZ (.int .i64 a.n)).setCell (p:=⟨Z,1,none⟩) hwZ (.slice A1 n1 c1)).setCell (p:=⟨Z,2,none⟩) hwZ (.slice AF1 nf1 cf1)));go_wp21;exact bodyPost_ret (v:=.tuple #[.agg #[.int .i64 a.n,.slice A1 n1 c1,.slice AF1 nf1 cf1],.bool false]) (by simp[results,Try.results26,go_sem,lZ,q0,q1,q2,qf,qf1,qf2]) rfl (LgRes.no HBF.o (aggM _ _ _ _ _ _ _))
 cases b2
 ·skip;have q0:=bZ.o.cell 0;have q1:=bZ.o.cell 1;have q2:=bZ.o.cell 2;have qf:=bZ.o.frozen 0;have qf1:=bZ.o.frozen 1;have qf2:=bZ.o.frozen 2;have lZ:=bZ.o.lt;simp at q0 q1 q2;have HBF:=zh ((((HB.o.setCell (p:=⟨Z,0,none⟩) hwZ (.int .i64 a.n)).setCell (p:=⟨Z,1,none⟩) hwZ (.slice A1 n1 c1)).setCell (p:=⟨Z,2,none⟩) hwZ (.slice AF1 nf1 cf1)));go_wp21;exact bodyPost_ret (v:=.tuple #[.agg #[.int .i64 a.n,.slice A1 n1 c1,.slice AF1 nf1 cf1],.bool false]) (by simp[results,Try.results26,go_sem,lZ,q0,q1,q2,qf,qf1,qf2]) rfl (LgRes.no HBF.o (aggM _ _ _ _ _ _ _))
 obtain⟨g1,g2,g3,hma⟩:=HT1.o rfl;obtain⟨g4,g5,g6,hmb⟩:=HT2'.o rfl;obtain⟨hda,Sa,hSa,hDa,hwa⟩:=zL1 HVA.o g1 g2 g3;obtain⟨hdb,Sb,hSb,hDb,hwb⟩:=zL1 HVB.o g4 g5 g6;have HDETA:=zh hda;have HDETB:=zh hdb;have HDA:=zh hDa;have HDB:=zh hDb;have HWA:=zh hwa;have HWB:=zh hwb;obtain⟨x,hx⟩:∃ z,z=setsR a:=⟨_,rfl⟩;obtain⟨y,hy⟩:∃ z,z=setsR b:=⟨_,rfl⟩;rw[← hx] at hma HDA HWA HDETA;rw[← hy] at hmb HDB HWB HDETB;have HXE:=zh hx;have HYE:=zh hy
 have hxn:xa=(Sa:Int):=by
  obtain⟨_,_,_,_,_,_,e,_⟩:=hma;simp only[Value.agg.injEq,Array.mk.injEq,List.cons.injEq,Value.int.injEq,true_and] at e;rw[e.1,HDA.o.n]
 have hyn:xb=(Sb:Int):=by
  obtain⟨_,_,_,_,_,_,e,_⟩:=hmb;simp only[Value.agg.injEq,Array.mk.injEq,List.cons.injEq,Value.int.injEq,true_and] at e;rw[e.1,HDB.o.n]
 subst hxn hyn;have HMX:=zh hma;have HMY:=zh hmb;clear g1 g2 g3 g4 g5 g6 hda hdb hDa hDb hwa hwb hma hmb HT1 HT2' hx hy;have d0:=bD.o.cell 0;have d1:=bD.o.cell 1;have d2:=bD.o.cell 2;simp at d0 d1 d2;have ld:=bD.o.lt;have e0:=bE.o.cell 0;have e1:=bE.o.cell 1;have e2:=bE.o.cell 2;simp at e0 e1 e2;have le:=bE.o.lt;obtain⟨NN,hNN⟩:∃ z,z=(Sa+1)*(Sb+1):=⟨_,rfl⟩;have hNI:((Sa:Int)+1)*((Sb:Int)+1)=(NN:Int):=by rw[hNN];push_cast;rfl
 have hN4:NN≤61*61:=by rw[hNN];exact wAx (by omega) (by omega)
 obtain⟨bb,hbb⟩:∃ b:Bool,decide ((150:Int)<(NN:Int))=b:=⟨_,rfl⟩;have HBB:=zh hbb;have HNN:=zh hNN;clear hNN;go_upto_region 5 with fail
 go_quiet (fail);go_upto_if 54 with fail
 clear hbb;cases bb
 rotate_left
 ·skip;generalize hWd:World.drewN _ _=Wd;have hBd:=zh (show Below W3.heap.size W3 Wd by rw[← hWd];exact zAc (wAi _ _) _);replace bX:=zh (bX.o.below hBd.o bX.o.lt);replace bZ:=zh (bZ.o.below hBd.o bZ.o.lt);replace bD:=zh (bD.o.below hBd.o bD.o.lt);replace bE:=zh (bE.o.below hBd.o bE.o.lt);replace HMX:=zh ((HMX.o.below hBd.o (wAg _)).mono hBd.o.size);replace HMY:=zh ((HMY.o.below hBd.o (wAg _)).mono hBd.o.size);replace HB:=zh (HB.o.trans (hBd.o.mono HB.o.size));clear hWd hBd x0 x1 x2 lx d0 d1 d2 ld e0 e1 e2 le;have x0:=bX.o.cell 0;have x1:=bX.o.cell 1;have x2:=bX.o.cell 2;simp at x0 x1 x2;have lx:=bX.o.lt;have q0:=bZ.o.cell 0;have q1:=bZ.o.cell 1;have q2:=bZ.o.cell 2;have qf:=bZ.o.frozen 0;have qf1:=bZ.o.frozen 1;have qf2:=bZ.o.frozen 2;have lZ:=bZ.o.lt;simp at q0 q1 q2;have HBF:=zh ((((HB.o.setCell (p:=⟨Z,0,none⟩) hwZ (.int .i64 a.n)).setCell (p:=⟨Z,1,none⟩) hwZ (.slice A1 n1 c1)).setCell (p:=⟨Z,2,none⟩) hwZ (.slice AF1 nf1 cf1)));go_wp21;exact bodyPost_ret (v:=.tuple #[.agg #[.int .i64 a.n,.slice A1 n1 c1,.slice AF1 nf1 cf1],.bool false]) (by simp[results,Try.results26,go_sem,lZ,q0,q1,q2,qf,qf1,qf2]) rfl (LgRes.no HBF.o (aggM _ _ _ _ _ _ _))
 generalize hWd:World.drewN _ _=Wd;have hBd:=zh (show Below W3.heap.size W3 Wd by rw[← hWd];exact zAc (wAi _ _) _);replace bX:=zh (bX.o.below hBd.o bX.o.lt);replace bZ:=zh (bZ.o.below hBd.o bZ.o.lt);replace bD:=zh (bD.o.below hBd.o bD.o.lt);replace bE:=zh (bE.o.below hBd.o bE.o.lt);replace HMX:=zh ((HMX.o.below hBd.o (wAg _)).mono hBd.o.size);replace HMY:=zh ((HMY.o.below hBd.o (wAg _)).mono hBd.o.size);replace HB:=zh (HB.o.trans (hBd.o.mono HB.o.size));clear hWd hBd x0 x1 x2 lx d0 d1 d2 ld e0 e1 e2 le;have d0:=bD.o.cell 0;have d1:=bD.o.cell 1;have d2:=bD.o.cell 2;simp at d0 d1 d2;have ld:=bD.o.lt;have e0:=bE.o.cell 0;have e1:=bE.o.cell 1;have e2:=bE.o.cell 2;simp at e0 e1 e2;have le:=bE.o.lt;have HN15:=zh (show NN≤150 by have h:=of_decide_eq_false HBB.o;omega);have hn15:NN≤150:=HN15.o;go_upto_region 10 with fail
 generalize hW5:wAo _ _=W5;obtain⟨M,hM⟩:∃ z,z=Wd.heap.size:=⟨_,rfl⟩;have hZM:Z<M:=by have:=bZ.o.lt;omega
 have hDM:D<M:=by have:=bD.o.lt;omega
 have hEM:E<M:=by have:=bE.o.lt;omega
 have hBd5:=zh (show Below M Wd W5 by rw[← hW5,hM];exact (wAi _ _).alloc (wAg _) _);have bM:=zh (show Blk W5 M 25 #[.int .i64 (NN:Int),.slice none 0 0,.slice none 0 0] by rw[← hW5];exact wAm hM);have HMX5:=zh (show MachAt W5 M (.agg #[.int .i64 (Sa:Int),.slice A3 n3 c3,.slice AF3 nf3 cf3]) x by have h:=HMX.o.below hBd5.o (by rw[hM];exact wAg _);rw[← hM] at h;exact h);have HMY5:=zh (show MachAt W5 M (.agg #[.int .i64 (Sb:Int),.slice A4 n4 c4,.slice AF4 nf4 cf4]) y by have h:=HMY.o.below hBd5.o (by rw[hM];exact wAg _);rw[← hM] at h;exact h);have bX5:=zh (bX.o.below hBd5.o (by omega));have bZ5:=zh (bZ.o.below hBd5.o hZM);have bD5:=zh (bD.o.below hBd5.o hDM);have bE5:=zh (bE.o.below hBd5.o hEM);have HB5:=zh (HB.o.trans (hBd5.o.mono (by omega)));have HLL5:=zh ((HLL0.o.below HB5.o hB).mono (show B≤M by omega));have hwM:w.heap.size≤M:=by omega
 simp only[← hM];clear hW5 hM hBd5 d0 d1 d2 ld e0 e1 e2 le bX bZ bD bE HMX HMY HB HBB HN15;have d0:=bD5.o.cell 0;have d1:=bD5.o.cell 1;have d2:=bD5.o.cell 2;simp at d0 d1 d2;have ld:=bD5.o.lt;have e0:=bE5.o.cell 0;have e1:=bE5.o.cell 1;have e2:=bE5.o.cell 2;simp at e0 e1 e2;have le:=bE5.o.lt;obtain⟨ba,hba⟩:∃ b:Bool,(((Sa:Nat):Int)==0)=b:=⟨_,rfl⟩;have HBa:=zh hba;go_upto_if 62 with fail
 clear hba
 go_cut [17] from 63 to 68 (fun s17 wx=>s17=.int .i64 0∧wx=W5)
 case first =>
  cases ba
  ·go_wp2;go_meet;exact⟨rfl,rfl⟩
  ·(have ea:(Sa:Int)=0:=by have h:=HBa.o;simpa using h);go_wp2;go_meet;exact⟨rfl,rfl⟩
 case rest =>
  obtain⟨rfl,hwc⟩:=hcut;subst hwc;obtain⟨bb,hbb⟩:∃ b:Bool,(((Sb:Nat):Int)==0)=b:=⟨_,rfl⟩;have HBb:=zh hbb;go_upto_if 71 with fail
  clear hbb
  go_cut [17] from 72 to 75 (fun s17 wx=>s17=.int .i64 0∧wx=wc)
  case first =>
   cases bb
   ·go_wp2;go_meet;exact⟨rfl,rfl⟩
   ·(have eb:(Sb:Int)=0:=by have h:=HBb.o;simpa using h);go_wp2;go_meet;exact⟨rfl,rfl⟩
  case rest =>
   obtain⟨rfl,hwc⟩:=hcut;subst hwc;skip;clear d0 d1 d2 ld e0 e1 e2 le;obtain⟨TA,hTA⟩:∃ z:Nat→List Arc,z=tabA l (flR x y Sa Sb l):=⟨_,rfl⟩;obtain⟨TF,hTF⟩:∃ z:Nat→List Fnl,z=tabF (flF x y Sa Sb (howK how)):=⟨_,rfl⟩;have HTA:=zh hTA;have HTF:=zh hTF;have HTS:=zh (fun s=>show TA (s+1)=TA s++flA x y Sa Sb l s l.length by rw[hTA];exact zMr s);have HTG:=zh (fun s=>show TF (s+1)=TF s++if flF x y Sa Sb (howK how) s=true then [⟨(s:Int),0⟩] else [] by rw[hTF];exact zH6 _ s);have HMG0:=zh (show Mg 25 64 69 wc M M (NN:Int) 0 (TA 0) 0 (TF 0) by rw[hTA,hTF];exact Mg.start bM.o M);have hM0:M<wc.heap.size:=bM.o.lt;clear hTA hTF bM;obtain⟨W5,hW5⟩:∃ z,z=wc:=⟨_,rfl⟩;rw[← hW5] at HMG0 hM0 HMX5 HMY5 bX5 bZ5 bD5 bE5 HB5 HLL5 ⊢;clear hW5;go_upto_region 15 with fail
   go_loopw [77] (fun pv wr=>∃ (p q1 r s:Nat),p≤Sa+1∧Hid (s=p*(Sb+1))∧pv=.int .i64 (p:Int)∧q1≤300*s∧r≤s∧Hid (Mg 25 64 69 wr M M (NN:Int) q1 (TA s) r (TF s))∧Hid (Below M W5 wr)∧M<wr.heap.size) (fun pv _=>Sa+1-(intOf pv).toNat)
   case atStart=>exact⟨0,0,0,0,by omega,zh (by rw[Nat.zero_mul]),rfl,by omega,by omega,HMG0,zh (wAi _ _),hM0⟩
   case round =>
    clear HMG0 hM0;obtain⟨p,q1,r,s,hp,HS,rfl,hq1,hr,HMG,HBK,hMz⟩:=hrel;by_cases hpS:p<Sa+1
    ·have hsN:s+(
      Sb+1)≤NN:=by
      have h1:=wAp (Sb+1) (show p+1≤Sa+1 by omega);rw[wAq,← HS.o,← HNN.o] at h1;exact h1
     (have hPI:(p:Int)*((Sb:Int)+1)=(s:Int):=by rw[HS.o];push_cast;rfl);have tp:decide ((p:Int)<(Sa:Int)+1)=true:=decide_eq_true (by omega);have HS1:=zh (show s+(Sb+1)=(p+1)*(Sb+1) by rw[wAq,← HS.o]);go_upto_region 18 with fail
     go_loopw [81] (fun tv wr=>∃ (t q1 r:Nat),t≤Sb+1∧tv=.int .i64 (t:Int)∧q1≤300*(s+t)∧r≤s+t∧Hid (Mg 25 64 69 wr M M (NN:Int) q1 (TA (s+t)) r (TF (s+t)))∧Hid (Below M W5 wr)∧M<wr.heap.size) (fun tv _=>Sb+1-(intOf tv).toNat)
     case atStart=>exact⟨0,q1,r,by omega,rfl,hq1,hr,HMG,HBK,hMz⟩
     case round =>
      clear HMG HBK hMz hq1 hr;obtain⟨t,q1,r,ht,rfl,hq1,hr,HMG,HBK,hMz⟩:=hrel;by_cases htS:t<Sb+1
      ·have tt:decide ((t:Int)<(Sb:Int)+1)=true:=decide_eq_true (by omega);have HDM:=zh (show (s+t)/(Sb+1)=p∧(s+t)%(Sb+1)=t by rw[HS.o];exact zGk htS);obtain⟨N,hN⟩:∃ z,z=s+t:=⟨_,rfl⟩;(have hNb:N<NN:=by omega);(have hNI2:(s:Int)+(t:Int)=(N:Int):=by omega);rw[← hN] at HMG hq1 hr HDM;have HNE:=zh hN;clear hN;have HMG1:=zh (show Mg 25 64 69 wr M M (NN:Int) q1 (TA N++flA x y Sa Sb l N 0) r (TF N) by rw[zPL,List.append_nil];exact HMG.o);clear HMG;go_upto_region 21 with fail
       go_loopw [86] (fun jv wr=>∃ (j q2:Nat),j≤q∧jv=.int .i64 (j:Int)∧q2≤300*N+j∧Hid (Mg 25 64 69 wr M M (NN:Int) q2 (TA N++flA x y Sa Sb l N j) r (TF N))∧Hid (Below M W5 wr)∧M<wr.heap.size) (fun jv _=>q-(intOf jv).toNat)
       case atStart=>exact⟨0,q1,by omega,rfl,by omega,HMG1,HBK,hMz⟩
       case round =>
        clear HMG1 HBK hMz;obtain⟨j,q2,hj,rfl,hq2,HMG,HBK,hMz⟩:=hrel;by_cases hjq:j<q
        ·obtain⟨ALv,nLv,cLv,hLv,HLv1,hLv2,hLv3,hLv4⟩:=HLL5.o;simp only[Value.slice.injEq] at hLv;obtain⟨rfl,rfl,rfl⟩:=hLv;obtain⟨b3,o3,lab,rfl,hb3,d3,HXL⟩:=zAO (hLv4.below HBK.o (wAg _)) hjq;(have lb3:b3<wr.heap.size:=by omega);have HXN:=zh (show l[j]? = some lab from zFg (by rw[HQ.o];exact hjq) HXL.o);have HFN:=zh (zOZ (a:=x) (b:=y) (Sa:=Sa) (Sb:=Sb) (s:=N) HXN.o);have bD9:=zh (bD5.o.below HBK.o hDM);have bE9:=zh (bE5.o.below HBK.o hEM);have HMX9:=zh (HMX5.o.below HBK.o (wAg _));have HMY9:=zh (HMY5.o.below HBK.o (wAg _));obtain⟨z1,hz1⟩:∃ z,z=aftF x.arcs (p:Int) lab:=⟨_,rfl⟩;obtain⟨z2,hz2⟩:∃ z,z=aftF y.arcs (t:Int) lab:=⟨_,rfl⟩;have HC1:=zh (fun (W:World) (hW:M≤W.heap.size) (h:MachAt W M (.agg #[.int .i64 (Sa:Int),.slice A3 n3 c3,.slice AF3 nf3 cf3]) x)=>zHG _ x (p:Int) lab W M hW h);have HC2:=zh (fun (W:World) (hW:M≤W.heap.size) (h:MachAt W M (.agg #[.int .i64 (Sb:Int),.slice A4 n4 c4,.slice AF4 nf4 cf4]) y)=>zHG _ y (t:Int) lab W M hW h);rw[← hz1] at HC1;rw[← hz2] at HC2;have HZ1:=zh (show nxN x Sa p lab=if z1<0 then Sa else z1.toNat by rw[hz1];exact zNI HDA.o (by omega) lab);have HZ2:=zh (show nxN y Sb t lab=if z2<0 then Sb else z2.toNat by rw[hz2];exact zNI HDB.o (by omega) lab);have HZR1:=zh (zH8 HDA.o p lab);have HZR2:=zh (zH8 HDB.o t lab);have HFT:=zh (show flT x y Sa Sb N lab=nxN x Sa p lab*(Sb+1)+nxN y Sb t lab by unfold flT;rw[HDM.o.1,HDM.o.2]);obtain⟨W8,hW8⟩:∃ z,z=wr:=⟨_,rfl⟩;rw[← hW8] at HMG HBK hMz d3 lb3 bD9 bE9 HMX9 HMY9 ⊢;clear hW8 hz1 hz2 hLv4 HXL;have d0:=bD9.o.cell 0;have d1:=bD9.o.cell 1;have d2:=bD9.o.cell 2;simp at d0 d1 d2;have ld:=bD9.o.lt;have e0:=bE9.o.cell 0;have e1:=bE9.o.cell 1;have e2:=bE9.o.cell 2;simp at e0 e1 e2;have le:=bE9.o.lt;go_upto_region 23 with fail
         go_cut [22,23] from 90 to 97 (fun s22 s23 wx=>s22=.int .i64 z1∧s23=.int .i64 z2∧Hid (Below W8.heap.size W8 wx))
         case first =>
          refine zAE (fun w'=>w'.cell? ⟨D,0,none⟩=some (.int .i64 (Sa:Int))∧w'.cell? ⟨D,1,none⟩=some (.slice A3 n3 c3)∧w'.cell? ⟨D,2,none⟩=some (.slice AF3 nf3 cf3)∧w'.cell? ⟨E,0,none⟩=some (.int .i64 (Sb:Int))∧w'.cell? ⟨E,1,none⟩=some (.slice A4 n4 c4)∧w'.cell? ⟨E,2,none⟩=some (.slice AF4 nf4 cf4)) 8 [(0,false),(1,false),(2,false),(4,false),(5,false),(6,false),(3,true),(7,true)] (by kernel_rfl) (by kernel_rfl) ?_ ?_
          · go_simp
          simp only[wAj,wAk]
          repeat (refine mix_q (v:=?_) (by rfl) (by rfl) ?_ ?_;rotate_left;(focus (intro w' hC;(try dsimp only at hC);go_simp;(first | done | with_reducible rfl)));simp only[wAh,wAa,wAe,wAf,wAd,wAb,wAc])
          refine mix_l (by rfl) (by rfl) (fun K hK=>?_);go_simp;refine (HC1.o _ (by simp;omega) (HMX9.o.below ((wAi M W8).drew) (wAg _))).mono ?_;rintro e w8 ⟨rfl,hb8⟩;have hb8':Below W8.heap.size W8 w8:=((wAi W8.heap.size W8).drew).trans (hb8.mono (by simp));have y0:=zAb hb8' d0 ld;have y1:=zAb hb8' d1 ld;have y2:=zAb hb8' d2 ld;have u0:=zAb hb8' e0 le;have u1:=zAb hb8' e1 le;have u2:=zAb hb8' e2 le;(have ld8:D<w8.heap.size:=by have:=hb8'.size;omega);(have le8:E<w8.heap.size:=by have:=hb8'.size;omega);have HB8:=zh hb8';clear hb8 hb8';refine hK _ _ ⟨y0,y1,y2,u0,u1,u2⟩ ?_;clear hK K
          repeat (refine mix_q (v:=?_) (by rfl) (by rfl) ?_ ?_;rotate_left;(focus (intro w' hC;(try dsimp only at hC);go_simp;(first | done | with_reducible rfl)));simp only[wAh,wAa,wAe,wAf,wAd,wAb,wAc])
          refine mix_l (by rfl) (by rfl) (fun K hK=>?_);go_simp;refine (HC2.o _ (by have:=HB8.o.size;omega) (HMY9.o.below HB8.o (by omega))).mono ?_;rintro e w9 ⟨rfl,hb9⟩;have v0:=zAb hb9 y0 ld8;have v1:=zAb hb9 y1 ld8;have v2:=zAb hb9 y2 ld8;have v3:=zAb hb9 u0 le8;have v4:=zAb hb9 u1 le8;have v5:=zAb hb9 u2 le8;have HB9:=zh (HB8.o.trans (hb9.mono (by have:=HB8.o.size;omega)));clear hb9;refine hK _ _ ⟨v0,v1,v2,v3,v4,v5⟩ ?_;clear hK K
          repeat (refine mix_q (v:=?_) (by rfl) (by rfl) ?_ ?_;rotate_left;(focus (intro w' hC;(try dsimp only at hC);go_simp;(first | done | with_reducible rfl)));simp only[wAh,wAa,wAe,wAf,wAd,wAb,wAc])
          refine zAs ?_;(try simp only[wAh,wAa,wAe,wAf,wAd,wAb,wAc]);go_wp2;refine wAl ?_;go_wp2;go_meet;exact⟨rfl,rfl,HB9⟩
         case rest =>
          obtain⟨rfl,rfl,HBC⟩:=hcut;have HMG9:=zh (HMG.o.below HBC.o);have HBK9:=zh (HBK.o.trans (HBC.o.mono (by omega)));(have hMz9:M<wc.heap.size:=by have:=HBC.o.size;omega);obtain⟨W9,hW9⟩:∃ z,z=wc:=⟨_,rfl⟩;rw[← hW9] at HMG9 HBK9 hMz9 ⊢;clear hW9 HMG HBK hMz HBC d0 d1 d2 ld e0 e1 e2 le d3 lb3 HMX9 HMY9 HC1 HC2 bD9 bE9;obtain⟨qb1,hqb1⟩:∃ b:Bool,decide (z1<0)=b:=⟨_,rfl⟩;have HQ1:=zh hqb1;(go_upto_if 99 with fail);clear hqb1;obtain⟨r1,hr1⟩:∃ z,z=nxN x Sa p lab:=⟨_,rfl⟩;rw[← hr1] at HZ1 HZR1 HFT;clear hr1
          go_cut [22] from 100 to 101 (fun s22 wx=>s22=.int .i64 (r1:Int)∧wx=W9)
          case first =>
           cases qb1
           ·have HE9:=zh (show z1=(r1:Int) by have h:=of_decide_eq_false HQ1.o;have h2:=HZ1.o;rw[if_neg h] at h2;omega);go_wp2;go_meet;exact⟨congrArg (Value.int IntKind.i64) (by have:=HE9.o;omega),rfl⟩
           ·have HE9:=zh (show (Sa:Int)=(r1:Int) by have h:=of_decide_eq_true HQ1.o;have h2:=HZ1.o;rw[if_pos h] at h2;omega);go_wp2;go_meet;exact⟨congrArg (Value.int IntKind.i64) (by have:=HE9.o;omega),rfl⟩
          case rest =>
           obtain⟨rfl,hwc⟩:=hcut;subst hwc;obtain⟨qb2,hqb2⟩:∃ b:Bool,decide (z2<0)=b:=⟨_,rfl⟩;have HQ2:=zh hqb2;(go_upto_if 103 with fail);clear hqb2;obtain⟨r2,hr2⟩:∃ z,z=nxN y Sb t lab:=⟨_,rfl⟩;rw[← hr2] at HZ2 HZR2 HFT;clear hr2
           go_cut [23] from 104 to 105 (fun s22 wx=>s22=.int .i64 (r2:Int)∧wx=wc)
           case first =>
            cases qb2
            ·have HE9:=zh (show z2=(r2:Int) by have h:=of_decide_eq_false HQ2.o;have h2:=HZ2.o;rw[if_neg h] at h2;omega);go_wp2;go_meet;exact⟨congrArg (Value.int IntKind.i64) (by have:=HE9.o;omega),rfl⟩
            ·have HE9:=zh (show (Sb:Int)=(r2:Int) by have h:=of_decide_eq_true HQ2.o;have h2:=HZ2.o;rw[if_pos h] at h2;omega);go_wp2;go_meet;exact⟨congrArg (Value.int IntKind.i64) (by have:=HE9.o;omega),rfl⟩
           case rest =>
            obtain⟨rfl,hwc⟩:=hcut;subst hwc;obtain⟨RK,hRK⟩:∃ z,z=r1*(Sb+1):=⟨_,rfl⟩;have hRI:(r1:Int)*((Sb:Int)+1)=(RK:Int):=by rw[hRK];push_cast;rfl
            have hRb:RK+r2<NN:=by
             have h1:=wAp (Sb+1) HZR1.o;have h2:=HZR2.o;have h3:=HNN.o;rw[wAq] at h3;rw[← hRK] at h1;omega
            obtain⟨TT,hTT⟩:∃ z,z=RK+r2:=⟨_,rfl⟩;(have hTI:(RK:Int)+(r2:Int)=(TT:Int):=by omega);(have hTb:TT<NN:=by omega);have HT2:=zh (show flT x y Sa Sb N lab=TT by rw[HFT.o,hTT,hRK]);rw[HT2.o] at HFN;obtain⟨A5,c5,AF5,cf5,bO7,hoA,hoF⟩:=HMG9.o;have f1:=bO7.cell 1;have lO7:=bO7.lt;simp at f1;have P1:=zh (bO7.alloc (.cells #[.int .i64 (N:Int),.int .i64 (TT:Int),.int .i64 lab,.int .i64 lab,.int .i64 0] 64));have P2:=zh (hoA.alloc (.cells #[.int .i64 (N:Int),.int .i64 (TT:Int),.int .i64 lab,.int .i64 lab,.int .i64 0] 64));have P3:=zh (hoF.alloc (.cells #[.int .i64 (N:Int),.int .i64 (TT:Int),.int .i64 lab,.int .i64 lab,.int .i64 0] 64));have P5:=zh (HBK9.o.alloc (by omega) (.cells #[.int .i64 (N:Int),.int .i64 (TT:Int),.int .i64 lab,.int .i64 lab,.int .i64 0] 64));have HNF:=zh (show (Value.slice A5 q2 c5).ownBlock≠some M from zAe hoA bO7 (by decide));(have hq9:q2≤60000:=by omega);clear bO7 hoA hoF HMG9 HBK9 hRK hTT HQ1 HQ2 HZ1 HZ2 HFT;go_wp2_with (at_builtin;go_loud (refine wpList_append_own_at _ rfl (.tmp 107) (.tmp 121) 22 rfl M 64 i0 _ 5 40 Try.underlying22 hi0 iz0 iz1 iz2 rfl (by omega) (.slice A5 q2 c5) q2 _ rfl P2.o ⟨wc.heap.size,0,none⟩ 1 1 (arcRow [⟨(N:Int),(TT:Int),lab,lab,0⟩]) rfl (by rfl) (World.news_of_block (cs:=(arcRow [⟨(N:Int),(TT:Int),lab,lab,0⟩]).toArray) (t:=64) (fr:=(0,0)) (wAm rfl)) (zAq _) (by simp only[maxLen];omega) (by omega) (by simp<;>omega) ?_;intro v' w6 hown6 hg6 _ hat6;obtain⟨A6,cf6,rfl,hkcv,_⟩:=zAa hown6;have HOWN6:=zh hown6;have HG6:=zh hg6;have df6:w6.frozen? ⟨M,1,none⟩=false:=zAD hg6 HNF.o P1.o.lt (P1.o.frozen 1);have d6:w6.cell? ⟨M,1,none⟩=some (.slice A5 q2 c5):=zAf hg6 HNF.o (P1.o.cell 1);have lD6:M<w6.heap.size:=(by have:=hg6.size;have:=P1.o.lt;omega);clear hown6 hg6 hat6));have HMN:=zh (zCI P1.o P2.o P3.o (by decide) (by decide) (by decide) HG6.o HOWN6.o);have HBN:=zh ((P5.o.grown HG6.o (by simp;omega) (fun z hz=>(P2.o.lt z hz).1)).setCell (p:=⟨M,1,none⟩) (by exact wAg _) (.slice A6 (q2+1) cf6));have hs6:=HG6.o.size;simp at hs6;rw[List.append_assoc,← HFN.o] at HMN;clear P1 P2 P3 P5 HG6 HOWN6;go_roundw
            case rel=>exact⟨j+1,q2+1,by omega,by go_num,by omega,HMN,HBN,by simp[World.setCell];omega⟩
            case measure=>simp[intOf];omega
        ·(obtain rfl:q=j:=by omega);have HMG1:=zh (show Mg 25 64 69 wr M M (NN:Int) q2 (TA (N+1)) r (TF N) by rw[HTS.o N,HQ.o];exact HMG.o);clear HMG;have bD9:=zh (bD5.o.below HBK.o hDM);have bE9:=zh (bE5.o.below HBK.o hEM);have HMX9:=zh (HMX5.o.below HBK.o (wAg _));have HMY9:=zh (HMY5.o.below HBK.o (wAg _));obtain⟨z1,hz1⟩:∃ z,z=finW x.fins (p:Int):=⟨_,rfl⟩;obtain⟨z2,hz2⟩:∃ z,z=finW y.fins (t:Int):=⟨_,rfl⟩;have HC1:=zh (fun (W:World) (hW:M≤W.heap.size) (h:MachAt W M (.agg #[.int .i64 (Sa:Int),.slice A3 n3 c3,.slice AF3 nf3 cf3]) x)=>zD5 _ x (p:Int) W M hW h);have HC2:=zh (fun (W:World) (hW:M≤W.heap.size) (h:MachAt W M (.agg #[.int .i64 (Sb:Int),.slice A4 n4 c4,.slice AF4 nf4 cf4]) y)=>zD5 _ y (t:Int) W M hW h);rw[← hz1] at HC1;rw[← hz2] at HC2;obtain⟨ub,hub⟩:∃ b:Bool,decide (0≤z1)=b:=⟨_,rfl⟩;obtain⟨vb,hvb⟩:∃ b:Bool,decide (0≤z2)=b:=⟨_,rfl⟩;obtain⟨kb,hkb⟩:∃ b:Bool,howK how ub vb=b:=⟨_,rfl⟩;have HU:=zh hub;have HV:=zh hvb;have HKB:=zh hkb
         have HKF:=zh (show flF x y Sa Sb (howK how) N=kb by
          unfold flF
          rw[HDM.o.1,HDM.o.2,← zMo HDA.o HWA.o (by omega),← zMo HDB.o HWB.o (by omega),← hz1,← hz2,hub,hvb,hkb])
         have HTN:=zh (show TF (N+1)=TF N++if kb=true then [⟨(N:Int),0⟩] else [] by rw[HTG.o N,HKF.o]);have hNI3:(N:Int)=(s:Int)+(t:Int):=hNI2.symm;have HNI3:=zh hNI3;obtain⟨W8,hW8⟩:∃ z,z=wr:=⟨_,rfl⟩;rw[← hW8] at HMG1 HBK hMz bD9 bE9 HMX9 HMY9 ⊢;clear hW8 hz1 hz2 hub hvb hkb HKF hNI3;have d0:=bD9.o.cell 0;have d1:=bD9.o.cell 1;have d2:=bD9.o.cell 2;simp at d0 d1 d2;have ld:=bD9.o.lt;have e0:=bE9.o.cell 0;have e1:=bE9.o.cell 1;have e2:=bE9.o.cell 2;simp at e0 e1 e2;have le:=bE9.o.lt;go_upto_region 30 with fail
         go_cut [24,25] from 125 to 132 (fun s24 s25 wx=>s24=.bool ub∧s25=.bool vb∧Hid (Below W8.heap.size W8 wx))
         case first =>
          refine zAE (fun w'=>w'.cell? ⟨D,0,none⟩=some (.int .i64 (Sa:Int))∧w'.cell? ⟨D,1,none⟩=some (.slice A3 n3 c3)∧w'.cell? ⟨D,2,none⟩=some (.slice AF3 nf3 cf3)∧w'.cell? ⟨E,0,none⟩=some (.int .i64 (Sb:Int))∧w'.cell? ⟨E,1,none⟩=some (.slice A4 n4 c4)∧w'.cell? ⟨E,2,none⟩=some (.slice AF4 nf4 cf4)) 9 [(0,false),(1,false),(4,false),(5,false),(2,true),(3,false),(6,true),(7,false),(8,false)] (by kernel_rfl) (by kernel_rfl) ?_ ?_
          · go_simp
          simp only[wAj,wAk]
          repeat (refine mix_q (v:=?_) (by rfl) (by rfl) ?_ ?_;rotate_left;(focus (intro w' hC;(try dsimp only at hC);go_simp;(first | done | with_reducible rfl)));simp only[wAh,wAa,wAe,wAf,wAd,wAb,wAc])
          refine mix_l (by rfl) (by rfl) (fun K hK=>?_);go_simp;refine (HC1.o _ (by simp;omega) (HMX9.o.below ((wAi M W8).drew) (wAg _))).mono ?_;rintro e w8 ⟨rfl,hb8⟩;have hb8':Below W8.heap.size W8 w8:=((wAi W8.heap.size W8).drew).trans (hb8.mono (by simp));have y0:=zAb hb8' d0 ld;have y1:=zAb hb8' d1 ld;have y2:=zAb hb8' d2 ld;have u0:=zAb hb8' e0 le;have u1:=zAb hb8' e1 le;have u2:=zAb hb8' e2 le;(have ld8:D<w8.heap.size:=by have:=hb8'.size;omega);(have le8:E<w8.heap.size:=by have:=hb8'.size;omega);have HB8:=zh hb8';clear hb8 hb8';refine hK _ _ ⟨y0,y1,y2,u0,u1,u2⟩ ?_;clear hK K
          repeat (refine mix_q (v:=?_) (by rfl) (by rfl) ?_ ?_;rotate_left;(focus (intro w' hC;(try dsimp only at hC);go_simp;(first | done | with_reducible rfl)));simp only[wAh,wAa,wAe,wAf,wAd,wAb,wAc])
          refine mix_l (by rfl) (by rfl) (fun K hK=>?_);go_simp;refine (HC2.o _ (by have:=HB8.o.size;omega) (HMY9.o.below HB8.o (by omega))).mono ?_;rintro e w9 ⟨rfl,hb9⟩;have v0:=zAb hb9 y0 ld8;have v1:=zAb hb9 y1 ld8;have v2:=zAb hb9 y2 ld8;have v3:=zAb hb9 u0 le8;have v4:=zAb hb9 u1 le8;have v5:=zAb hb9 u2 le8;have HB9:=zh (HB8.o.trans (hb9.mono (by have:=HB8.o.size;omega)));clear hb9;refine hK _ _ ⟨v0,v1,v2,v3,v4,v5⟩ ?_;clear hK K
          repeat (refine mix_q (v:=?_) (by rfl) (by rfl) ?_ ?_;rotate_left;(focus (intro w' hC;(try dsimp only at hC);go_simp;(first | done | with_reducible rfl)));simp only[wAh,wAa,wAe,wAf,wAd,wAb,wAc])
          refine zAs ?_;(try simp only[wAh,wAa,wAe,wAf,wAd,wAb,wAc]);go_wp2;refine wAl ?_;go_wp2;go_meet;exact⟨congrArg Value.bool HU.o,congrArg Value.bool HV.o,HB9⟩
         case rest =>
          obtain⟨rfl,rfl,HBC⟩:=hcut;have HMG9:=zh (HMG1.o.below HBC.o);have HBK9:=zh (HBK.o.trans (HBC.o.mono (by omega)));(have hMz9:M<wc.heap.size:=by have:=HBC.o.size;omega);obtain⟨W9,hW9⟩:∃ z,z=wc:=⟨_,rfl⟩;rw[← hW9] at HMG9 HBK9 hMz9 ⊢;clear hW9 HMG1 HBK hMz HBC d0 d1 d2 ld e0 e1 e2 le HMX9 HMY9 HC1 HC2 bD9 bE9 HU HV hjq hj;go_upto_region 31 with fail
          go_cut [159] from 133 to 159 (fun s159 wx=>s159=.bool kb∧wx=W9)
          case first =>
           rcases (show how=1∨how=2∨how=3∨(how≠1∧how≠2∧how≠3) by omega) with h1 | h1 | h1 | ⟨h1,h2,h3⟩
           iterate 3
            ·have e1:(how==1)=decide (how=1):=rfl;subst h1;cases ub<;>cases vb<;>(go_wp2;go_meet;exact⟨congrArg Value.bool HKB.o,rfl⟩)
           ·(have e1:(how==1)=false:=by simpa using h1);(have e2:(how==2)=false:=by simpa using h2);(have e3:(how==3)=false:=by simpa using h3);have HKC:=zh (show false=kb by rw[← HKB.o];unfold howK;simp[h1,h2,h3]);clear h1 h2 h3;go_wp2;go_meet;exact⟨congrArg Value.bool HKC.o,rfl⟩
          case rest =>
           obtain⟨rfl,hwc⟩:=hcut;subst hwc;cases kb
           ·have HMN:=zh (show Mg 25 64 69 wc M M (NN:Int) q2 (TA (s+(t+1))) r (TF (s+(t+1))) by
             rw[← wAu,← HNE.o,HTN.o];simp
             exact HMG9.o)
            clear HMG9 HNI3;go_wp2;go_roundw
            case rel=>exact⟨t+1,q2,r,by omega,by go_num,by have:=HNE.o;omega,by have:=HNE.o;omega,HMN,HBK9,hMz9⟩
            case measure=>simp[intOf];omega
           ·obtain⟨A5,c5,AF5,cf5,bO7,hoA,hoF⟩:=HMG9.o;have f1:=bO7.cell 2;have lO7:=bO7.lt;simp at f1;have P1:=zh (bO7.alloc (.cells #[.int .i64 (N:Int),.int .i64 0] 69));have P2:=zh (hoA.alloc (.cells #[.int .i64 (N:Int),.int .i64 0] 69));have P3:=zh (hoF.alloc (.cells #[.int .i64 (N:Int),.int .i64 0] 69));have P5:=zh (HBK9.o.alloc (by omega) (.cells #[.int .i64 (N:Int),.int .i64 0] 69));have HNF:=zh (show (Value.slice AF5 r cf5).ownBlock≠some M from zAe hoF bO7 (by decide));clear bO7 hoA hoF HMG9 HBK9;go_wp2_with (at_builtin;go_loud (refine wpList_append_own_at _ rfl (.tmp 161) (.tmp 168) 23 rfl M 69 i1 _ 2 16 Try.underlying23 hi1 jz0 jz1 jz2 rfl (by omega) (.slice AF5 r cf5) r _ rfl P3.o ⟨wc.heap.size,0,none⟩ 1 1 (finRow [⟨(N:Int),0⟩]) rfl (by rfl) (World.news_of_block (cs:=(finRow [⟨(N:Int),0⟩]).toArray) (t:=69) (fr:=(0,0)) (wAm rfl)) (zA9 _) (by simp only[maxLen];omega) (by omega) (by simp<;>omega) ?_;intro v' w6 hown6 hg6 _ hat6;obtain⟨A6,cf6,rfl,hkcv,_⟩:=zAa hown6;have HOWN6:=zh hown6;have HG6:=zh hg6;have df6:w6.frozen? ⟨M,2,none⟩=false:=zAD hg6 HNF.o P1.o.lt (P1.o.frozen 2);have d6:w6.cell? ⟨M,2,none⟩=some (.slice AF5 r cf5):=zAf hg6 HNF.o (P1.o.cell 2);have lD6:M<w6.heap.size:=(by have:=hg6.size;have:=P1.o.lt;omega);clear hown6 hg6 hat6));have HMN:=zh (zCz P1.o P2.o P3.o (by decide) (by decide) (by decide) HG6.o HOWN6.o);have HBN:=zh ((P5.o.grown HG6.o (by simp;omega) (fun z hz=>(P3.o.lt z hz).1)).setCell (p:=⟨M,2,none⟩) (by exact wAg _) (.slice A6 (r+1) cf6));have hs6:=HG6.o.size;simp at hs6;rw[show TF N++[⟨(N:Int),0⟩]=TF (s+(t+1)) by rw[← wAu,← HNE.o,HTN.o];rfl,show TA (N+1)=TA (s+(t+1)) by rw[← wAu,← HNE.o]] at HMN;clear P1 P2 P3 P5 HG6 HOWN6 HNI3;go_roundw
            case rel=>exact⟨t+1,q2,r+1,by omega,by go_num,by have:=HNE.o;omega,by have:=HNE.o;omega,HMN,HBN,by simp[World.setCell];omega⟩
            case measure=>simp[intOf];omega
      ·(obtain rfl:t=Sb+1:=by omega);rw[HS1.o] at HMG;go_wp2;go_roundw
       case rel=>exact⟨p+1,q1,r,(p+1)*(Sb+1),by omega,zh rfl,by go_num,by rw[← HS1.o];omega,by rw[← HS1.o];omega,HMG,HBK,hMz⟩
       case measure=>simp[intOf];omega
    ·have HPE:=zh (show p=Sa+1 by omega);have tpf:decide ((p:Int)<(Sa:Int)+1)=false:=decide_eq_false (by omega);(have hsN:s=NN:=by rw[HS.o,HPE.o];exact HNN.o.symm);rw[hsN] at HMG hq1 hr;clear HS hsN;obtain⟨LA,hLA⟩:∃ z,z=TA NN:=⟨_,rfl⟩;obtain⟨LF,hLF⟩:∃ z,z=TF NN:=⟨_,rfl⟩;rw[← hLA,← hLF] at HMG;have HLA:=zh hLA;have HLF:=zh hLF;obtain⟨A5,c5,AF5,cf5,bO7,hoA,hoF⟩:=HMG.o;have m1:=bO7.cell 1;simp at m1;have lM:=bO7.lt;clear hLA hLF bO7 hoA hoF;go_upto_region 36 with fail
     go_loopw [176] (fun iv wr=>∃ j:Nat,j≤q1∧iv=.int .i64 (j:Int)∧Hid (Mg 25 64 69 wr M M (NN:Int) q1 LA r LF)∧Hid (Below M W5 wr)∧M<wr.heap.size) (fun iv _=>q1-(intOf iv).toNat)
     case atStart=>exact⟨0,by omega,rfl,HMG,HBK,hMz⟩
     case round =>
      clear HMG HBK hMz m1 lM;obtain⟨j,hj,rfl,HMG,HBK,hMz⟩:=hrel;by_cases hjq:j<q1
      ·obtain⟨A5,c5,AF5,cf5,bO7,hoA,hoF⟩:=HMG.o;obtain⟨g,cs,a0,rfl,hgM,hbg,k38,k39⟩:=zOY hoA hjq;have m1:=bO7.cell 1;simp at m1;have lM:=bO7.lt;have lg:=hbg.lt;have HBO:=zh bO7;obtain⟨Wq,hWq⟩:∃ z,z=wr:=⟨_,rfl⟩;rw[← hWq] at HMG HBK hMz bO7 hoA hoF hbg m1 lM lg HBO k38 k39 ⊢;clear hWq hoA hoF bO7;have HB0:=zh (wAi Wq.heap.size Wq);go_upto_region 38 with fail
       go_cut [26] from 179 to 191 (fun s26 wx=>s26=.int .i64 (j:Int)∧Hid (Below Wq.heap.size Wq wx))
       case first =>
        refine zAE (fun w'=>w'.cell? ⟨M,1,none⟩=some (.slice (some ⟨g,0,none⟩) q1 c5)∧w'.cell? ⟨g,j*5,none⟩=some (.int .i64 (Arc.f a0))) 11 [(0,false),(1,false),(2,false),(3,false),(4,false),(5,false),(6,false),(7,false),(8,false),(9,false),(10,true)] (by kernel_rfl) (by kernel_rfl) ?_ ?_
        · go_simp
        simp only[wAj,wAk]
        repeat (refine mix_q (v:=?_) (by rfl) (by rfl) ?_ ?_;rotate_left;(focus (intro w' hC;(try dsimp only at hC);go_simp;(first | done | with_reducible rfl)));simp only[wAh,wAa,wAe,wAf,wAd,wAb,wAc])
        refine mix_l (by rfl) (by rfl) (fun K hK=>?_);go_simp;refine (zCP _ _).mono ?_;rintro e w8 ⟨rfl,hb8⟩;have hb8':Below Wq.heap.size Wq w8:=((wAi Wq.heap.size Wq).drew).trans (hb8.mono (by simp));have y0:=zAb hb8' m1 lM;have y1:=zAb hb8' k38 lg;have yb:=hbg.below hb8' lg;have yf:=yb.frozen (j*5);have yl:=yb.lt;have HB8:=zh hb8';clear hb8 hb8';refine hK _ _ ⟨y0,y1⟩ ?_;clear hK K;refine zAs ?_;(try simp only[wAh,wAa,wAe,wAf,wAd,wAb,wAc]);go_wp2;refine wAl ?_;go_wp2;go_meet;exact⟨rfl,zh (by rw[zBA y1];exact HB8.o)⟩
       case rest =>
        obtain⟨rfl,HBC⟩:=hcut;have m2:=zAb HBC.o m1 lM;have k40:=zAb HBC.o k39 lg;have hbg2:=hbg.below HBC.o lg;have lg2:=hbg2.lt;(have lM2:M<wc.heap.size:=by have:=HBC.o.size;omega);have HMG2:=zh (HMG.o.below HBC.o);have HBK2:=zh (HBK.o.trans (HBC.o.mono (by omega)));clear HMG HBK hMz m1 k38 k39 hbg lg lM HBC HBO HB0;obtain⟨Wq,hWq⟩:∃ z,z=wc:=⟨_,rfl⟩;rw[← hWq] at HMG2 HBK2 m2 k40 hbg2 lg2 lM2 ⊢;clear hWq;have m1:=m2;have k39:=k40;have hbg:=hbg2;have lg:=lg2;have lM:=lM2;clear m2 k40 hbg2 lg2 lM2;have HB0:=zh (wAi Wq.heap.size Wq);(go_upto_region 39 with fail);refine zAE (fun w'=>w'.cell? ⟨M,1,none⟩=some (.slice (some ⟨g,0,none⟩) q1 c5)∧w'.cell? ⟨g,j*5+1,none⟩=some (.int .i64 (Arc.t a0))) 11 [(0,false),(1,false),(2,false),(3,false),(4,false),(5,false),(6,false),(7,false),(8,false),(9,false),(10,true)] (by kernel_rfl) (by kernel_rfl) ?_ ?_
        · go_simp
        simp only[wAj,wAk]
        repeat (refine mix_q (v:=?_) (by rfl) (by rfl) ?_ ?_;rotate_left;(focus (intro w' hC;(try dsimp only at hC);go_simp;(first | done | with_reducible rfl)));simp only[wAh,wAa,wAe,wAf,wAd,wAb,wAc])
        refine mix_l (by rfl) (by rfl) (fun K hK=>?_);go_simp;refine (zCP _ _).mono ?_;rintro e w8 ⟨rfl,hb8⟩;have hb8':Below Wq.heap.size Wq w8:=((wAi Wq.heap.size Wq).drew).trans (hb8.mono (by simp));have y0:=zAb hb8' m1 lM;have y1:=zAb hb8' k39 lg;have yb:=hbg.below hb8' lg;have yf:=yb.frozen (j*5+1);have yl:=yb.lt;have HB8:=zh hb8';clear hb8 hb8';refine hK _ _ ⟨y0,y1⟩ ?_;clear hK K;refine zAs ?_;(try simp only[wAh,wAa,wAe,wAf,wAd,wAb,wAc]);go_wp2;refine wAl ?_;go_wp2;have HMG3:=zh (show Mg 25 64 69 (w8.setCell ⟨g,j*5+1,none⟩ (.int .i64 (Arc.t a0))) M M (NN:Int) q1 LA r LF by rw[zBA y1];exact HMG2.o.below HB8.o);have HBK3:=zh (show Below M W5 (w8.setCell ⟨g,j*5+1,none⟩ (.int .i64 (Arc.t a0))) by rw[zBA y1];exact HBK2.o.trans (HB8.o.mono (by omega)));(have hMz3:M<(w8.setCell ⟨g,j*5+1,none⟩ (.int .i64 (Arc.t a0))).heap.size:=by rw[zBA y1];have:=HB8.o.size;omega);clear HMG2 HBK2 m1 k39 hbg lg lM HB0 HB8 y0 y1 yb yf yl;go_roundw
        case rel=>exact⟨j+1,by omega,by go_num,HMG3,HBK3,hMz3⟩
        case measure=>simp[intOf];omega
      ·(obtain rfl:q1=j:=by omega);obtain⟨A5,c5,AF5,cf5,bO7,hoA,hoF⟩:=HMG.o;have m1:=bO7.cell 2;simp at m1;have lM:=bO7.lt;clear bO7 hoA hoF;go_upto_region 42 with fail
       go_loopw [209] (fun iv wr=>∃ j:Nat,j≤r∧iv=.int .i64 (j:Int)∧Hid (Mg 25 64 69 wr M M (NN:Int) q1 LA r LF)∧Hid (Below M W5 wr)∧M<wr.heap.size) (fun iv _=>r-(intOf iv).toNat)
       case atStart=>exact⟨0,by omega,rfl,HMG,HBK,hMz⟩
       case round =>
        clear HMG HBK hMz m1 lM;obtain⟨j,hj,rfl,HMG,HBK,hMz⟩:=hrel;by_cases hjq:j<r
        ·obtain⟨A5,c5,AF5,cf5,bO7,hoA,hoF⟩:=HMG.o;obtain⟨g,cs,a0,rfl,hgM,hbg,k44⟩:=zPG hoF hjq;have m1:=bO7.cell 2;simp at m1;have lM:=bO7.lt;have lg:=hbg.lt;have HBO:=zh bO7;obtain⟨Wq,hWq⟩:∃ z,z=wr:=⟨_,rfl⟩;rw[← hWq] at HMG HBK hMz bO7 hoA hoF hbg m1 lM lg HBO k44 ⊢;clear hWq hoA hoF bO7;have HB0:=zh (wAi Wq.heap.size Wq);(go_upto_region 44 with fail);refine zAE (fun w'=>w'.cell? ⟨M,2,none⟩=some (.slice (some ⟨g,0,none⟩) r cf5)∧w'.cell? ⟨g,j*2,none⟩=some (.int .i64 (Fnl.s a0))) 11 [(0,false),(1,false),(2,false),(3,false),(4,false),(5,false),(6,false),(7,false),(8,false),(9,false),(10,true)] (by kernel_rfl) (by kernel_rfl) ?_ ?_
         · go_simp
         simp only[wAj,wAk]
         repeat (refine mix_q (v:=?_) (by rfl) (by rfl) ?_ ?_;rotate_left;(focus (intro w' hC;(try dsimp only at hC);go_simp;(first | done | with_reducible rfl)));simp only[wAh,wAa,wAe,wAf,wAd,wAb,wAc])
         refine mix_l (by rfl) (by rfl) (fun K hK=>?_);go_simp;refine (zCP _ _).mono ?_;rintro e w8 ⟨rfl,hb8⟩;have hb8':Below Wq.heap.size Wq w8:=((wAi Wq.heap.size Wq).drew).trans (hb8.mono (by simp));have y0:=zAb hb8' m1 lM;have y1:=zAb hb8' k44 lg;have yb:=hbg.below hb8' lg;have yf:=yb.frozen (j*2);have yl:=yb.lt;have HB8:=zh hb8';clear hb8 hb8';refine hK _ _ ⟨y0,y1⟩ ?_;clear hK K;refine zAs ?_;(try simp only[wAh,wAa,wAe,wAf,wAd,wAb,wAc]);go_wp2;refine wAl ?_;go_wp2;have HMG3:=zh (show Mg 25 64 69 (w8.setCell ⟨g,j*2,none⟩ (.int .i64 (Fnl.s a0))) M M (NN:Int) q1 LA r LF by rw[zBA y1];exact HMG.o.below HB8.o);have HBK3:=zh (show Below M W5 (w8.setCell ⟨g,j*2,none⟩ (.int .i64 (Fnl.s a0))) by rw[zBA y1];exact HBK.o.trans (HB8.o.mono (by omega)));(have hMz3:M<(w8.setCell ⟨g,j*2,none⟩ (.int .i64 (Fnl.s a0))).heap.size:=by rw[zBA y1];have:=HB8.o.size;omega);clear HMG HBK m1 k44 hbg lg lM HB0 HB8 HBO hMz y0 y1 yb yf yl;go_roundw
         case rel=>exact⟨j+1,by omega,by go_num,HMG3,HBK3,hMz3⟩
         case measure=>simp[intOf];omega
        ·(obtain rfl:r=j:=by omega);obtain⟨A5,c5,AF5,cf5,bO5,hown5,hfin5⟩:=HMG.o;(have hq9:q1≤300*NN:=by omega);have HM:=zh (mg_at (n0:=(NN:Int)) hown5 hfin5 (by unfold big;omega) (by unfold big;omega));have HTM:=zh (show (⟨(NN:Int),LA,LF⟩:Mach)=tabM l (flR x y Sa Sb l) (flF x y Sa Sb (howK how)) NN by rw[HLA.o,HLF.o,HTA.o,HTF.o];rfl)
         have HSZ:=zh (show Sz ⟨(NN:Int),LA,LF⟩ from by
          have h:=fl_sz (l:=l) (K:=howK how) HDA.o HDB.o;rw[← HNN.o,← HTM.o] at h;have h1:=zA6 hown5;have h2:=zBv hfin5
          exact⟨by show (0:Int)≤((NN:Nat):Int);omega,by show ((NN:Nat):Int)≤100000;omega,by show LA.length≤_;omega,by show LF.length≤_;omega,h.1,h.2⟩)
         have o0:=bO5.cell 0;have o1:=bO5.cell 1;have o2:=bO5.cell 2;simp at o0 o1 o2;have lO:=bO5.lt;have HBE:=zh (HB5.o.trans (HBK.o.mono hwM));(have hww:w.heap.size≤wr.heap.size:=by omega);have bZr:=zh (bZ5.o.below HBK.o hZM);(have hZr:Z<wr.heap.size:=by omega);obtain⟨S9,hS9,hFO9,hCAN9⟩:=zSd (K:=howK how) HDA.o HDB.o (by rw[← HNN.o];exact hn15) HLI.o HL0.o (by rw[HQ.o];exact hl3);rw[← HNN.o,← HTM.o] at hFO9 hCAN9;have HFO:=zh hFO9;have HCAN:=zh hCAN9;obtain⟨Wq,hWq⟩:∃ z,z=wr:=⟨_,rfl⟩;rw[← hWq] at HM o0 o1 o2 lO HBE hww bZr hZr ⊢;clear bO5 hown5 hfin5 HMG hFO9 hCAN9 hWq HBK hMz HTM;(go_upto_region 46 with fail);go_wp2_with fail;refine (zDy _ _ _ _ (wAg _) HM.o HSZ.o).mono ?_;rintro e w9 ⟨v1,rfl,hnew,hb9⟩;have HNEW:=zh hnew;have HB9:=zh hb9;clear hnew hb9;go_wp2_with fail;refine (zNd _ _ S9 w9 w9.heap.size (wAg _) HNEW.o.at_ HFO.o.n (by omega) HFO.o.rng HFO.o.len HFO.o.wt HFO.o.tab HFO.o.lab HFO.o.use HFO.o.none).mono ?_;rintro e w10 ⟨v2,rfl,hnew2,hb10⟩;rw[HCAN.o] at hnew2;obtain⟨CM,hCM⟩:∃ z,z=canonM l (jnL x y l (howK how)) NN:=⟨_,rfl⟩;rw[← hCM] at hnew2;have HCM:=zh hCM;obtain⟨A9,AF9,n9,c9,nf9,cf9,rfl,_⟩:=zGx hnew2.at_;have HBX:=zh (HB9.o.trans (hb10.mono HB9.o.size));have bR:=bZr.o.below HBX.o hZr;have HBE9:=zh (HBE.o.trans (HBX.o.mono hww));have q0:=bR.cell 0;have q1':=bR.cell 1;have q2':=bR.cell 2;have qf:=bR.frozen 0;have qf1:=bR.frozen 1;have qf2:=bR.frozen 2;have lZ:=bR.lt;simp at q0 q1' q2';(have hZ9:Z<w9.heap.size:=by have:=HB9.o.size;omega);(have hw9:w.heap.size≤w9.heap.size:=by have:=HB9.o.size;omega);have HNW:=zh (((hnew2.set (p:=⟨Z,0,none⟩) hZ9 (.int .i64 CM.n)).set (p:=⟨Z,1,none⟩) hZ9 (.slice A9 n9 c9)).set (p:=⟨Z,2,none⟩) hZ9 (.slice AF9 nf9 cf9));have HBE10:=zh (((HBE9.o.setCell (p:=⟨Z,0,none⟩) hwZ (.int .i64 CM.n)).setCell (p:=⟨Z,1,none⟩) hwZ (.slice A9 n9 c9)).setCell (p:=⟨Z,2,none⟩) hwZ (.slice AF9 nf9 cf9));have HFIN:=zh (show detW a=(x,(0,0))∧detW b=(y,(0,0))∧DmOk x Sa∧DmOk y Sb∧(Sa+1)*(Sb+1)≤150∧CM=canonM l (jnL x y l (howK how)) ((Sa+1)*(Sb+1)) from ⟨HDETA.o,HDETB.o,HDA.o,HDB.o,by rw[← HNN.o];exact hn15,by rw[HCM.o,HNN.o]⟩);clear hnew2 hb10 bR HBE HBE9 HBX hCM HCM;go_wp21;exact bodyPost_ret (v:=.tuple #[.agg #[.int .i64 CM.n,.slice A9 n9 c9,.slice AF9 nf9 cf9],.bool true]) (by simp[results,Try.results26,go_sem,lZ,q0,q1',q2',qf,qf1,qf2]) rfl ⟨_,true,rfl,HBE10.o,aggM _ _ _ _ _ _ _,fun _=>⟨Sa,Sb,by rw[← HXE.o];exact HFIN.o.1,by rw[← HYE.o];exact HFIN.o.2.1,by rw[← HXE.o];exact HFIN.o.2.2.1,by rw[← HYE.o];exact HFIN.o.2.2.2.1,HFIN.o.2.2.2.2.1,by rw[← HXE.o,← HYE.o,← HFIN.o.2.2.2.2.2];exact HNW.o.mono hw9⟩⟩
end Go.Proofs.Ytkfdhpbnphojoaa
namespace Gm
theorem zMw {a b:Mach} {Sa Sb:Nat} {l:List Int} (ha:DmOk a Sa) (hb:DmOk b Sb) {K:Bool→Bool→Bool} (hi:l.Pairwise (· < ·)) (h0:∀ x∈l,x≠0):Reg l (jnL a b l K) ((Sa+1)*(Sb+1)):=by
 have hp:0<(Sa+1)*(Sb+1):=Nat.mul_pos (by omega) (by omega);have h:=zCd (ls:=l) (row:=flR a b Sa Sb l) (fin:=flF a b Sa Sb K) (n:=(Sa+1)*(Sb+1)) hi h0 (zQp ha hb) hp;rw[show accS (tstp l (flR a b Sa Sb l)) (flF a b Sa Sb K) 0=jnL a b l K from funext fun w=>propext (zKt ha hb w)] at h;exact h
open Classical in
theorem zRn {ls:List Int} {L:Lang} {N:Nat} (h:Reg ls L N):(canonM ls L N).n≤(N:Int):=by
 obtain⟨Z,hZ1,hZ⟩:=h.res;unfold canonM;split
 ·obtain⟨l,nod,_,hm,e⟩:=zDb (stp:=stpQ ls) (fin:=finQ) hZ hZ1;rw[e]
  have:=zAM nod fun v hv=>hZ v ((hm v).1 hv)
  show ((l.length:Nat):Int)≤_
  omega
 ·show (0:Int)≤_
  omega
def FitsR (r:Mach×(Int×Int)) (t:Mach):Prop:=if 2000<t.arcs.length then r=(emptyM,(17,-1)) else r=(t,(0,0))
theorem zKs {t:Mach} (h:t.n≤400):FitsR (limR t) t:=by
 unfold FitsR limR;by_cases g:2000<t.arcs.length
 · rw[if_pos g,if_pos (.inr g)];rfl
 · rw[if_neg g,if_neg (by omega)]
theorem fl_n {a b:Mach} {Sa Sb:Nat} {l:List Int} (ha:DmOk a Sa) (hb:DmOk b Sb) {K:Bool→Bool→Bool} (hS:(Sa+1)*(Sb+1)≤150) (hi:l.Pairwise (· < ·)) (h0:∀ x∈l,x≠0):(canonM l (jnL a b l K) ((Sa+1)*(Sb+1))).n≤400:=by
 have h:=zRn (zMw (K:=K) ha hb hi h0);omega
theorem zSw {a b:Mach} {Sa Sb:Nat} {K:Bool→Bool→Bool} {r:Mach×(Int×Int)} (h:IntR a b K r) (hK:∀ q,K false q=false) (h0a:accF a=(0,0)) (h0b:accF b=(0,0)) (hda:(detW a).2=(0,0)) (hdb:(detW b).2=(0,0)) (ha:DmOk (detW a).1 Sa) (hb:DmOk (detW b).1 Sb) (hS:(Sa+1)*(Sb+1)≤150) (h3:(labsR a.arcs).length≤300) :
 FitsR r (canonM (labsR a.arcs) (jnL (detW a).1 (detW b).1 (labsR a.arcs) K) ((Sa+1)*(Sb+1))):=by
 have hinc:=zAJ a.arcs;have hnz:∀ x∈labsR a.arcs,x≠0:=fun x hx=>((zAy _ _).1 hx).1
 have hreg:=zMw (l:=labsR a.arcs) (K:=K) ha hb hinc hnz
 have hz:bothF a b=(0,0):=by
  unfold bothF;rw[if_neg (fun g=>g h0a),if_neg (fun g=>g h0b),if_neg (fun g=>g hda),if_neg (fun g=>g hdb),if_neg]
  have:(labD (detW a).1).length≤(labsR a.arcs).length:=zAM (zGh _) fun x hx=>zGX hda x hx
  omega
 have hL:∀ w,(K (bA a w) (bA b w)=true)↔jnL (detW a).1 (detW b).1 (labsR a.arcs) K w:=by
  intro w;unfold jnL;rw[zB4 hda,zB4 hdb];refine⟨fun h=>⟨?_,h⟩,fun h=>h.2⟩;by_cases hw:bA a w=true
  · exact zNZ hw
  ·rw[Bool.not_eq_true] at hw;rw[hw,hK] at h;cases h
 rcases zEF h hz hK with⟨_,i,hi⟩ | ⟨N,hr,e⟩
 ·exfalso
  have:=zDP (l:=labD (detW a).1) ha hb i
  omega
 ·rw[e,(zBw hr hreg (wAg _) (wAg _)).2 hL];exact zKs (fl_n ha hb hS hinc hnz)
theorem zSE {m:Mach} {Sa Sb:Nat} {l:List Int} {K:Bool→Bool→Bool} {r:Mach×(Int×Int)} (h:CmpR m l r) (hK:∀ p q,K p q = !p) (h0:accF m=(0,0)) (hal:alphF l (-2)=(0,0)) (hda:(detW m).2=(0,0)) (ha:DmOk (detW m).1 Sa) {b:Mach} (hb:DmOk b Sb) (hS:(Sa+1)*(Sb+1)≤150) :
 FitsR r (canonM l (jnL (detW m).1 b l K) ((Sa+1)*(Sb+1))):=by
 obtain⟨h3,hinc,hlab⟩:=zCA hal (by decide);have hnz:∀ x∈l,x≠0:=fun x hx=>by have:=(hlab x hx).1;omega
 have hreg:=zMw (l:=l) (K:=K) ha hb hinc hnz;obtain⟨N,hr,e⟩:=zHk h h0 hal hda hinc hlab h3
 rw[e,(zBw hr hreg (wAg _) (wAg _)).2 (fun w=>by
  unfold jnL;rw[zB4 hda,hK]
  simp)]
 exact zKs (fl_n ha hb hS hinc hnz)
theorem zIm {a b:Mach} {K:Bool→Bool→Bool} {r:Mach×(Int×Int)} (h:IntR a b K r) (ha:accF a≠(0,0)):r=(emptyM,accF a):=by
 have e:bothF a b=accF a:=by unfold bothF;rw[if_pos ha]
 rcases h with⟨_,h⟩ | ⟨h,_⟩
 · rw[h,e]
 · exact absurd (e▸h) ha
theorem zH7 {a b:Mach} {K:Bool→Bool→Bool} {r:Mach×(Int×Int)} (h:IntR a b K r) (ha:accF a=(0,0)) (hb:accF b≠(0,0)):r=(emptyM,accF b):=by
 have e:bothF a b=accF b:=by unfold bothF;rw[if_neg (fun g=>g ha),if_pos hb]
 rcases h with⟨_,h⟩ | ⟨h,_⟩
 · rw[h,e]
 · exact absurd (e▸h) hb
theorem zNQ {m:Mach} {l:List Int} {r:Mach×(Int×Int)} (h:CmpR m l r) (h0:accF m≠(0,0)):r=(emptyM,accF m):=by
 rcases h with⟨_,h⟩ | ⟨g,_⟩ | ⟨g,_⟩ | ⟨g,_⟩
 · exact h
 all_goals exact absurd g h0
theorem zMP {m:Mach} {l:List Int} {r:Mach×(Int×Int)} (h:CmpR m l r) (h0:accF m=(0,0)) (h1:alphF l (-2)≠(0,0)):r=(emptyM,alphF l (-2)):=by
 rcases h with⟨g,_⟩ | ⟨_,_,h⟩ | ⟨_,g,_⟩ | ⟨_,g,_⟩
 · exact absurd h0 g
 · exact h
 all_goals exact absurd g h1
end Gm
