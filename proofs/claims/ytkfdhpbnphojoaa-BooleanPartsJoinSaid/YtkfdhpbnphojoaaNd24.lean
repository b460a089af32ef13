/- Part of the proof. -/
import Derived.Test.YtkfdhpbnphojoaaNd23
import Derived.Test.YtkfdhpbnphojoaaNd18
import Derived.Test.YtkfdhpbnphojoaaNd16
set_option linter.unusedSimpArgs false
set_option linter.unusedVariables false
set_option maxRecDepth 100000
set_option maxHeartbeats 64000000
open List renaming setIfInBounds_toArray→wAa,getElem_cons_zero→wAc,getElem_cons_succ→wAd,getElem_toArray→wAe,set_cons_zero→wAf,set_cons_succ→wAg,getElem?_eq_some_iff→wAh,replicate→wAj,drop_succ_cons→wAl,getD_eq_getElem?_getD→wAm,take_length→wAn,take_of_length_le→wAo,drop_zero→wAp,mem_of_getElem?→wAq,pairwise_cons→wAr,ext_getElem?→wAs,getElem?_map→wAt,countP_cons→wAu,length_map→wAv,map_set→wAw
open Nat renaming le_refl→wAb
open Go.World renaming alloc→wAi
open Gm.Blk renaming at_→wAk
namespace Gm
open Go Go.RowKit
theorem zSy {l:List Int} (hs:l.Pairwise (· < ·)) {j k:Nat} {x:Int} (hj:l[j]? = some x) (hk:l[k]? = some x):j=k:=by
 obtain⟨hj1,hj2⟩:=wAh.1 hj;obtain⟨hk1,hk2⟩:=wAh.1 hk;have h:=List.pairwise_iff_getElem.1 hs;rcases Nat.lt_trichotomy j k with g | g | g
 · have:=h j k hj1 hk1 g;omega
 · exact g
 · have:=h k j hk1 hj1 g;omega
theorem zKq:∀ {l:List Int},l.Pairwise (· < ·)→∀ {k:Nat} {x:Int},l[k]? = some x→l.countP (fun y=>decide (y<x))=k
 | [],_,k,x,h=>by simp at h
 | a::l,hs,0,x,h=>by
  obtain⟨h1,h2⟩:=wAr.1 hs;have e:a=x:=by simpa using h
  subst e;have h0:l.countP (fun y=>decide (y<a))=0:=List.countP_eq_zero.2 fun y hy=>by have:=h1 y hy;simp;omega
  rw[wAu,h0];simp
 | a::l,hs,k+1,x,h=>by
  obtain⟨h1,h2⟩:=wAr.1 hs;have h':l[k]? = some x:=by simpa using h
  have:=h1 x (wAq h')
  rw[wAu,zKq h2 h'];simp[this]
theorem zPM {ls:List Int} (hs:ls.Pairwise (· < ·)) {A:List Arc} {i k:Nat} {a:Arc} (ha:A[i]? = some a) (hk:ls[k]? = some a.i) (s:Nat):rowL ls (A.take (i+1)) s=if a.f=(s:Int) then (rowL ls (A.take i) s).set k a.t else rowL ls (A.take i) s:=by
 rw[List.take_add_one,ha]
 show rowL ls (A.take i++[a]) s=_
 by_cases e:a.f=(s:Int)
 ·rw[if_pos e];unfold rowL;refine wAs fun j=>?_
  rw[wAt,List.getElem?_set,wAt];by_cases g:k=j
  ·subst g;(have hl:k<(List.map (afterL (A.take i) s) ls).length:=by rw[wAv];exact (wAh.1 hk).1);rw[if_pos rfl,if_pos hl,hk]
   show some (afterL (A.take i++[a]) s a.i)=some a.t
   rw[zBl,if_pos ⟨e,rfl⟩]
  ·rw[if_neg g]
   cases hj:ls[j]? with
   | none=>rfl
   | some y =>
    show some (afterL (A.take i++[a]) s y)=some (afterL (A.take i) s y)
    rw[zBl,if_neg];rintro⟨_,e2⟩;exact g (zSy hs hk (by rw[hj,e2]))
 ·rw[if_neg e];unfold rowL;refine List.map_congr_left fun y _=>?_
  rw[zBl,if_neg (fun g=>e g.1)]
def R2 (q s i:Nat):List Int:=if i<s then wAj q (-1) else []
def R3 (q s k i:Nat):List Int:=if i<s then wAj q (-1) else if i=s then wAj k (-1)++wAj (q-k) 0 else []
theorem zRa (q s i:Nat):R3 q s 0 i=if i=s then wAj q 0 else R2 q s i:=by
 unfold R3 R2;by_cases e:i=s
 · subst e;simp
 · rw[if_neg e,if_neg e]
theorem zSr (q s i:Nat):R3 q s q i=R2 q (s+1) i:=by
 unfold R3 R2;by_cases e:i<s
 · rw[if_pos e,if_pos (by omega)]
 ·rw[if_neg e];by_cases g:i=s
  · rw[if_pos g,if_pos (by omega)];simp
  · rw[if_neg g,if_neg (by omega)]
theorem zQ9 {q s k:Nat} (hk:k<q) (i:Nat):R3 q s (k+1) i=if i=s then (R3 q s k i).set k (-1) else R3 q s k i:=by
 unfold R3;by_cases e:i=s
 ·subst e;rw[if_pos rfl,if_neg (by omega),if_pos rfl,if_neg (by omega),if_pos rfl];rw[show q-k=(q-(k+1))+1 by omega,List.replicate_succ' (n:=k),List.replicate_succ (n:=q-(k+1))];rw[List.set_append_right _ _ (by simp)];simp
 · rw[if_neg e,if_neg e,if_neg e]
theorem zSc (q s k i:Nat) (hk:k≤q):(R3 q s k i).length=if i<s+1 then q else 0:=by
 unfold R3;by_cases e:i<s
 · rw[if_pos e,if_pos (by omega)];simp
 ·rw[if_neg e];by_cases g:i=s
  · rw[if_pos g,if_pos (by omega)];simp;omega
  · rw[if_neg g,if_neg (by omega)];rfl
theorem zKR (w:World) (n:Nat) (t:TypeId) (hn:n≤1000000):(w.alloc (.cells (madeCells #[.int .i64 0] n) t)).ownsRow w.heap.size t 1 (.slice (some ⟨w.heap.size,0,none⟩) n n) n (intRow (wAj n 0)):=by
 have h:=zBE (w:=w.alloc (.cells (madeCells #[.int .i64 0] n) t)) (base:=w.heap.size) (e:=t) (cs:=madeCells #[.int .i64 0] n) (wAk rfl) (wAb _) (by rw[size_madeCells];simp only[maxLen];omega);rw[size_madeCells] at h
 have e:(madeCells #[Value.int .i64 0] n).toList=intRow (wAj n 0):=by
  refine wAs fun i=>?_
  unfold intRow madeCells;by_cases hi:i<n
  · simp[hi,Nat.mod_one]
  · simp[hi]
 rw[e] at h;exact h
theorem zMv {w:World} {g n:Nat} {t:TypeId} {b:Nat→Bool} (h:w.rowIs g t n (fun i=>.bool (b i))) (hn:n≤400):Bools w w.heap.size (.slice (some ⟨g,0,none⟩) n n) ((List.range n).map b):=by
 refine⟨some ⟨g,0,none⟩,n,n,rfl,zh (by simp),wAb _,by unfold big;omega,fun _=>⟨g,0,rfl,h.lt,fun i j hi hj=>?_⟩⟩;obtain rfl:j=0:=by omega
 have:=h.cell hi
 rw[show 0+(i*1+0)=i by omega,this];unfold boolCell;simp[wAm,hi]
end Gm
namespace Go.Proofs.Ytkfdhpbnphojoaa
open Go.RowKit Gm
theorem zEr {P:Program} {w:World} {ops:Array Oper} {rest:List Oper} {o:Oper} {A:Act} {Q:Exit→Act→World→Prop} (hg:o.guard=none) (t:TypeId) (x:Operand) (f:Nat) (hop:o.op=Op.field t x f) {v:Value}
 (h:(Instr.field t (A.eval x) f).run P w=.ok v w) (hK:wpList P ops Q rest (A.put o.dst v) w):wpList P ops Q (o::rest) A w:=by
 refine wpList_plain hg fun K' hK'=>?_
 unfold Oper.wp;simp[execOp,hop,h,Result.andThen];exact hK' _ _ hK
theorem zQQ (S gA gF:Nat) (W:World):(Instr.field 53 (tabV S gA gF) 1).run Try.prog W=.ok (.slice (some ⟨gF,0,none⟩) S S) W:=by kernel_rfl
theorem zCm (va:Value) (m:Mach) (w:World) (B:Nat) (hB:B≤w.heap.size) (ha:MachAt w B va m) :
 Calls Try.prog 33 #[va] w fun e w'=>∃ v1,e=.returned (.tuple #[v1,.agg #[.int .i64 (detW m).2.1,.int .i64 (detW m).2.2]])∧MachNew w.heap.size w' v1 (detW m).1∧Below w.heap.size w w':=by
 by_cases h1:(silR m).2=(0,0)
 ·by_cases h2:(silR m).1.n=0
  · exact zHR va m w B hB ha (.inr h2)
  · exact zPZ va m w B hB ha h1 h2
 · exact zHR va m w B hB ha (.inl h1)
theorem zPg (l:List Int) (n base:Nat) (v:Value) (x:Int) (w:World) (hl:l.length=n) (hn:n≤1000000) (hs:l.Pairwise (· < ·)) (hx:x∈l) (h:w.ownsRow base 3 1 v n (intRow l)) :
 Calls Try.prog 47 #[v,.int .i64 x] w fun e w'=>∃ k:Nat,k<n∧l[k]? = some x∧e=.returned (.tuple #[.int .i64 (k:Int),.bool true])∧Below w.heap.size w w':=by
 have h0:0<n:=by rw[← hl];exact List.length_pos_of_mem hx
 obtain⟨g,c,rfl,_⟩:=zDa h h0;obtain⟨k,hk⟩:=List.getElem?_of_mem hx;have hkn:k<n:=by rw[← hl];exact (wAh.1 hk).1
 have hcon:=Try.slices_BinarySearch_int g 0 n c l x w (by omega) (by omega) (fun j hj=>by
  have h1:=h.cellAt j (by omega);rw[show 0+j=j by omega,h1];unfold intRow
  simp[wAm,hj]) (by rw[← hl,wAn];exact hs.imp fun h=>by omega)
 refine hcon.mono ?_;rintro e w' ⟨rfl,q,rfl⟩;have e1:(l.take n).countP (· < x)=k:=by rw[← hl,wAn];exact zKq hs hk
 have e2:(l.take n).contains x=true:=by rw[← hl,wAn];simpa using hx
 rw[e1,e2];exact⟨k,hkn,hk,rfl,zAc (Below.refl _ _) q⟩
theorem zHY (va:Value) (m:Mach) (w:World) (B:Nat) (hB:B≤w.heap.size) (ha:MachAt w B va m) (hv:(detW m).2≠(0,0)∨(detW m).1.n=0) :
 Calls Try.prog 22 #[va] w fun e w'=>∃ v1,e=.returned (.tuple #[v1,.agg #[.int .i64 (minW m).2.1,.int .i64 (minW m).2.2]])∧MachNew w.heap.size w' v1 (minW m).1∧Below w.heap.size w w':=by
 have HR:=zh (show minW m=(emptyM,(detW m).2) by
  unfold minW;by_cases h:(detW m).2≠(0,0)
  · rw[if_pos h]
  · rw[if_neg h,if_pos (hv.resolve_left h),Decidable.not_not.1 h])
 rw[HR.o];have h0:=ha;obtain⟨A,AF,n,c,nf,cf,rfl,HN,HF,hnc,hnfc,hnb,hnfb,hA,hF⟩:=ha;have H0:=zh h0;clear h0 hA hF HN HF;have HC:=zh (fun W (hB:B≤W.heap.size) (h:MachAt W B (.agg #[.int .i64 m.n,.slice A n c,.slice AF nf cf]) m)=>zCm _ m W B hB h);obtain⟨f1,hf1⟩:∃ z,z=(detW m).2.1:=⟨_,rfl⟩;obtain⟨f2,hf2⟩:∃ z,z=(detW m).2.2:=⟨_,rfl⟩;obtain⟨t,ht⟩:∃ z,z=(detW m).1:=⟨_,rfl⟩;rw[← hf1,← hf2,← ht] at HC;obtain⟨sn,hsn⟩:∃ z,z=m.n:=⟨_,rfl⟩;rw[← hsn] at HC H0 ⊢;have he:=fun a b c d W=>zAn a b c d W
 have HV:=zh (show fEq f1 f2 0 0=false∨t.n=0 by
  rcases hv with h | h
  · exact .inl (zFm (fun ⟨e1,e2⟩=>h (Prod.ext (by rw[← hf1];exact e1) (by rw[← hf2];exact e2))))
  · exact .inr (by rw[ht];exact h))
 dsimp only;rw[← hf1,← hf2];clear hf1 hf2 ht hv hsn HR
 go_enter Try.func22,Try.ntmps22
 go_upto_region 1 with fail
 generalize hW1:wAi _ _=W1;obtain⟨X,hX⟩:∃ z,z=w.heap.size:=⟨_,rfl⟩;obtain⟨M,hM⟩:∃ z,z=w.heap.size+1:=⟨_,rfl⟩;obtain⟨R,hR⟩:∃ z,z=w.heap.size+1+1:=⟨_,rfl⟩;have HX1:=zh (show Blk W1 X 25 #[.int .i64 sn,.slice A n c,.slice AF nf cf] by rw[← hW1];exact ((wAk hX).alloc _).alloc _);have HM1:=zh (show Blk W1 M 25 #[.int .i64 0,.slice none 0 0,.slice none 0 0] by rw[← hW1];exact (wAk (by simp[hM])).alloc _);have HR1:=zh (show Blk W1 R 28 #[.int .i64 0,.int .i64 0] by rw[← hW1];exact wAk (by simp[hR]));have HB1:=zh (show Below w.heap.size w W1 by rw[← hW1];go_grown);have hwM:w.heap.size≤M:=by omega
 have hwR:w.heap.size≤R:=by omega
 have hwX:w.heap.size≤X:=by omega
 have hMR:M≠R:=by omega
 have hRM:R≠M:=by omega
 have hXM:X≠M:=by omega
 have hMX:M≠X:=by omega
 have hXR:X≠R:=by omega
 have hRX:R≠X:=by omega
 have hR2:M+1=R:=by omega
 simp only[← hM];simp only[hR2]
 try simp only[← hX]
 have lX1:X<W1.heap.size:=HX1.o.lt;have lM1:M<W1.heap.size:=HM1.o.lt;have lR1:R<W1.heap.size:=HR1.o.lt;have x0:=HX1.o.cell 0;have x1:=HX1.o.cell 1;have x2:=HX1.o.cell 2;simp at x0 x1 x2;clear hW1 hX hM hR hR2;go_wp2_with fail;refine (HC.o W1 (by have:=HB1.o.size;omega) (H0.o.below HB1.o hB)).mono ?_;rintro e w2 ⟨v1,rfl,hm2,hb2⟩;have HMN:=zh hm2;obtain⟨A2,AF2,n2,c2,nf2,cf2,rfl,HN2,HF2,hn2c,hnf2c,hn2b,hnf2b,_,_⟩:=hm2.at_;have HB2:=zh hb2;have hz2:=hb2.size;have HX2:=zh (HX1.o.below hb2 lX1);have HM2:=zh (HM1.o.below hb2 lM1);have HR2:=zh (HR1.o.below hb2 lR1);have HBW:=zh (HB1.o.trans (hb2.mono HB1.o.size));have lX2:X<w2.heap.size:=by omega
 have y0:=HX2.o.cell 0;have y1:=HX2.o.cell 1;have y2:=HX2.o.cell 2;have yf0:=HX2.o.frozen 0;have yf1:=HX2.o.frozen 1;have yf2:=HX2.o.frozen 2;simp at y0 y1 y2;clear hb2 hm2 x0 x1 x2 HX1 HM1 HR1 HC H0;obtain⟨q,hq⟩:∃ q,q=fEq f1 f2 0 0:=⟨_,rfl⟩;cases q
 ·have hf:fEq f1 f2 0 0=false:=hq.symm;clear hq;have HMX:=HM2.o;have HRX:=HR2.o;have HBX:=zh (((HBW.o.setCell (p:=⟨X,0,none⟩) (by exact hwX) (.int .i64 t.n)).setCell (p:=⟨X,1,none⟩) (by exact hwX) (.slice A2 n2 c2)).setCell (p:=⟨X,2,none⟩) (by exact hwX) (.slice AF2 nf2 cf2));clear HMN HBW HX2 HM2 HR2 HV;go_upto_region 3 with fail
  generalize hW3:wAi _ _=W3;obtain⟨P,hP⟩:∃ z,z=w2.heap.size:=⟨_,rfl⟩;have bP:=(show Blk W3 P 28 #[.int .i64 f1,.int .i64 f2] by rw[← hW3];exact wAk (by simp[hP]));have bM:=(show Blk W3 M 25 #[.int .i64 0,.slice none 0 0,.slice none 0 0] by rw[← hW3];exact (((HMX.far (p:=⟨X,0,none⟩) hMX _).far (p:=⟨X,1,none⟩) hMX _).far (p:=⟨X,2,none⟩) hMX _).alloc _);have bR:=(show Blk W3 R 28 #[.int .i64 0,.int .i64 0] by rw[← hW3];exact (((HRX.far (p:=⟨X,0,none⟩) hRX _).far (p:=⟨X,1,none⟩) hRX _).far (p:=⟨X,2,none⟩) hRX _).alloc _);have HB3:=zh (show Below w.heap.size w W3 by rw[← hW3];exact HBX.o.alloc HBX.o.size _);have hMP:M≠P:=by have:=HMX.lt;omega
  have hRP:R≠P:=by have:=HRX.lt;omega
  have hPM:P≠M:=Ne.symm hMP;have hPR:P≠R:=Ne.symm hRP;have p0:=bP.cell 0;have p1:=bP.cell 1;have lP:=bP.lt;simp at p0 p1;simp only[← hP];clear hW3 hP HBX;have q0:=bM.cell 0;have q1:=bM.cell 1;have q2:=bM.cell 2;have q3:=bR.cell 0;have q4:=bR.cell 1;have qf:=bM.frozen 0;have qf1:=bM.frozen 1;have qf2:=bM.frozen 2;have qf3:=bR.frozen 0;have qf4:=bR.frozen 1;have lM:=bM.lt;have lR:=bR.lt;simp at q0 q1 q2 q3 q4;clear bM bR bP HMX HRX y0 y1 y2 yf0 yf1 yf2 lX2;refine zAE (fun w'=>w'.cell? ⟨P,0,none⟩=some (.int .i64 f1)∧w'.cell? ⟨P,1,none⟩=some (.int .i64 f2)) 3 [(0,false),(1,false),(2,true)] (by kernel_rfl) (by kernel_rfl) ?_ ?_
  · go_simp
  simp only[wAl,wAp]
  repeat (refine mix_q (v:=?_) (by rfl) (by rfl) ?_ ?_;rotate_left;(focus (intro w' hC;(try dsimp only at hC);go_simp;(first | done | with_reducible rfl)));simp only[Act.put,wAa,wAf,wAg,wAe,wAc,wAd])
  refine mix_l (by rfl) (by rfl) (fun K hK=>?_);go_simp;refine hK _ _ (by go_simp) ?_;clear hK K;refine zAs ?_;try simp only[Act.put,wAa,wAf,wAg,wAe,wAc,wAd]
  go_wp2;refine NoPanic.normal ?_;go_wp2;refine bodyPost_ret (v:=.tuple #[.agg #[.int .i64 0,.slice none 0 0,.slice none 0 0],.agg #[.int .i64 f1,.int .i64 f2]]) (by simp[results,Try.results22,go_sem,lM,lR,hMR,hRM,q0,q1,q2,q3,q4,qf,qf1,qf2,qf3,qf4]) rfl ?_;exact⟨_,rfl,MachNew.empty _ _,by have hz:=HB3.o.size;go_grown;exact HB3.o⟩
 ·have hf:fEq f1 f2 0 0=true:=hq.symm
  have hn0:t.n=0:=by
   rcases HV.o with g | g
   · rw[hf] at g;cases g
   · exact g
  clear hq;have HMX:=HM2.o;have HRX:=HR2.o;have HBX:=zh (((HBW.o.setCell (p:=⟨X,0,none⟩) (by exact hwX) (.int .i64 t.n)).setCell (p:=⟨X,1,none⟩) (by exact hwX) (.slice A2 n2 c2)).setCell (p:=⟨X,2,none⟩) (by exact hwX) (.slice AF2 nf2 cf2));have t0:(t.n==0)=true:=by simp[hn0]
  have t1:decide (t.n=0)=true:=decide_eq_true hn0;clear hn0;clear HMN HBW HX2 HM2 HR2 HV;go_upto_region 3 with fail
  generalize hW3:wAi _ _=W3;obtain⟨P,hP⟩:∃ z,z=w2.heap.size:=⟨_,rfl⟩;have bP:=(show Blk W3 P 28 #[.int .i64 f1,.int .i64 f2] by rw[← hW3];exact wAk (by simp[hP]));have bM:=(show Blk W3 M 25 #[.int .i64 0,.slice none 0 0,.slice none 0 0] by rw[← hW3];exact (((HMX.far (p:=⟨X,0,none⟩) hMX _).far (p:=⟨X,1,none⟩) hMX _).far (p:=⟨X,2,none⟩) hMX _).alloc _);have bR:=(show Blk W3 R 28 #[.int .i64 0,.int .i64 0] by rw[← hW3];exact (((HRX.far (p:=⟨X,0,none⟩) hRX _).far (p:=⟨X,1,none⟩) hRX _).far (p:=⟨X,2,none⟩) hRX _).alloc _);have HB3:=zh (show Below w.heap.size w W3 by rw[← hW3];exact HBX.o.alloc HBX.o.size _);have hMP:M≠P:=by have:=HMX.lt;omega
  have hRP:R≠P:=by have:=HRX.lt;omega
  have hPM:P≠M:=Ne.symm hMP;have hPR:P≠R:=Ne.symm hRP;have p0:=bP.cell 0;have p1:=bP.cell 1;have lP:=bP.lt;simp at p0 p1;simp only[← hP];clear hW3 hP HBX;have q0:=bM.cell 0;have q1:=bM.cell 1;have q2:=bM.cell 2;have q3:=bR.cell 0;have q4:=bR.cell 1;have qf:=bM.frozen 0;have qf1:=bM.frozen 1;have qf2:=bM.frozen 2;have qf3:=bR.frozen 0;have qf4:=bR.frozen 1;have lM:=bM.lt;have lR:=bR.lt;simp at q0 q1 q2 q3 q4;clear bM bR bP HMX HRX y0 y1 y2 yf0 yf1 yf2 lX2;refine zAE (fun w'=>w'.cell? ⟨P,0,none⟩=some (.int .i64 f1)∧w'.cell? ⟨P,1,none⟩=some (.int .i64 f2)) 3 [(0,false),(1,false),(2,true)] (by kernel_rfl) (by kernel_rfl) ?_ ?_
  · go_simp
  simp only[wAl,wAp]
  repeat (refine mix_q (v:=?_) (by rfl) (by rfl) ?_ ?_;rotate_left;(focus (intro w' hC;(try dsimp only at hC);go_simp;(first | done | with_reducible rfl)));simp only[Act.put,wAa,wAf,wAg,wAe,wAc,wAd])
  refine mix_l (by rfl) (by rfl) (fun K hK=>?_);go_simp;refine hK _ _ (by go_simp) ?_;clear hK K;refine zAs ?_;try simp only[Act.put,wAa,wAf,wAg,wAe,wAc,wAd]
  go_wp2;refine NoPanic.normal ?_;go_wp2;refine bodyPost_ret (v:=.tuple #[.agg #[.int .i64 0,.slice none 0 0,.slice none 0 0],.agg #[.int .i64 f1,.int .i64 f2]]) (by simp[results,Try.results22,go_sem,lM,lR,hMR,hRM,q0,q1,q2,q3,q4,qf,qf1,qf2,qf3,qf4]) rfl ?_;exact⟨_,rfl,MachNew.empty _ _,by have hz:=HB3.o.size;go_grown;exact HB3.o⟩
theorem zOk (
 va:Value) (m:Mach) (w:World) (B:Nat) (hB:B≤w.heap.size) (ha:MachAt w B va m) (hv:(detW m).2=(0,0)) (hnz:(detW m).1.n≠0) :
 Calls Try.prog 22 #[va] w fun e w'=>∃ v1,e=.returned (.tuple #[v1,.agg #[.int .i64 (minW m).2.1,.int .i64 (minW m).2.2]])∧MachNew w.heap.size w' v1 (minW m).1∧Below w.heap.size w w':=by
 obtain⟨i0,hi0,iz0,iz1,iz2⟩:=info_parts zAH;have HSO:=zh (zG6 hv hnz);have HDW:=zh (show minW m=limR (canT (setI ((detW m).1.arcs.map (·.i))) (rowsI (setI ((detW m).1.arcs.map (·.i))) (detW m).1.arcs (detW m).1.n.toNat) (finsI (detW m).1.fins (detW m).1.n.toNat)) by unfold minW;rw[if_neg (fun g=>g hv),if_neg hnz,zQS HSO.o]);have h0:=ha;obtain⟨A,AF,n,c,nf,cf,rfl,HN,HF,hnc,hnfc,hnb,hnfb,hA,hF⟩:=ha;have H0:=zh h0;clear h0 hA hF HN HF;have HC:=zh (fun W (hB:B≤W.heap.size) (h:MachAt W B (.agg #[.int .i64 m.n,.slice A n c,.slice AF nf cf]) m)=>zCm _ m W B hB h);obtain⟨f1,hf1⟩:∃ z,z=(detW m).2.1:=⟨_,rfl⟩;obtain⟨f2,hf2⟩:∃ z,z=(detW m).2.2:=⟨_,rfl⟩;obtain⟨t,ht⟩:∃ z,z=(detW m).1:=⟨_,rfl⟩;rw[← hf1,← hf2,← ht] at HC;obtain⟨sn,hsn⟩:∃ z,z=m.n:=⟨_,rfl⟩;rw[← hsn] at HC H0 ⊢;have he:=fun a b c d W=>zAn a b c d W
 rw[← ht] at HDW HSO hnz;obtain⟨N,hN⟩:∃ z,z=t.n.toNat:=⟨_,rfl⟩;rw[← hN] at HSO HDW;have htN:t.n=(N:Int):=HSO.o.n;obtain⟨rfl,rfl⟩:f1=0∧f2=0:=⟨by rw[hf1,hv],by rw[hf2,hv]⟩;have hf0:fEq 0 0 0 0=true:=rfl;have hN4:=HSO.o.n4;have hN0:=HSO.o.pos;clear hf1 hf2 ht hv hsn hnz hN
 go_enter Try.func22,Try.ntmps22
 go_upto_region 1 with fail
 generalize hW1:wAi _ _=W1;obtain⟨X,hX⟩:∃ z,z=w.heap.size:=⟨_,rfl⟩;obtain⟨M,hM⟩:∃ z,z=w.heap.size+1:=⟨_,rfl⟩;obtain⟨R,hR⟩:∃ z,z=w.heap.size+1+1:=⟨_,rfl⟩;have HX1:=zh (show Blk W1 X 25 #[.int .i64 sn,.slice A n c,.slice AF nf cf] by rw[← hW1];exact ((wAk hX).alloc _).alloc _);have HM1:=zh (show Blk W1 M 25 #[.int .i64 0,.slice none 0 0,.slice none 0 0] by rw[← hW1];exact (wAk (by simp[hM])).alloc _);have HR1:=zh (show Blk W1 R 28 #[.int .i64 0,.int .i64 0] by rw[← hW1];exact wAk (by simp[hR]));have HB1:=zh (show Below w.heap.size w W1 by rw[← hW1];go_grown);have hwM:w.heap.size≤M:=by omega
 have hwR:w.heap.size≤R:=by omega
 have hwX:w.heap.size≤X:=by omega
 have hMR:M≠R:=by omega
 have hRM:R≠M:=by omega
 have hXM:X≠M:=by omega
 have hMX:M≠X:=by omega
 have hXR:X≠R:=by omega
 have hRX:R≠X:=by omega
 have hR2:M+1=R:=by omega
 simp only[← hM];simp only[hR2]
 try simp only[← hX]
 have lX1:X<W1.heap.size:=HX1.o.lt;have lM1:M<W1.heap.size:=HM1.o.lt;have lR1:R<W1.heap.size:=HR1.o.lt;have x0:=HX1.o.cell 0;have x1:=HX1.o.cell 1;have x2:=HX1.o.cell 2;simp at x0 x1 x2;clear hW1 hX hM hR hR2;go_wp2_with fail;refine (HC.o W1 (by have:=HB1.o.size;omega) (H0.o.below HB1.o hB)).mono ?_;rintro e w2 ⟨v1,rfl,hm2,hb2⟩;have HMN:=zh hm2;obtain⟨A2,AF2,n2,c2,nf2,cf2,rfl,HN2,HF2,hn2c,hnf2c,hn2b,hnf2b,_,_⟩:=hm2.at_;have HB2:=zh hb2;have hz2:=hb2.size;have HX2:=zh (HX1.o.below hb2 lX1);have HM2:=zh (HM1.o.below hb2 lM1);have HR2:=zh (HR1.o.below hb2 lR1);have HBW:=zh (HB1.o.trans (hb2.mono HB1.o.size));have lX2:X<w2.heap.size:=by omega
 have y0:=HX2.o.cell 0;have y1:=HX2.o.cell 1;have y2:=HX2.o.cell 2;have yf0:=HX2.o.frozen 0;have yf1:=HX2.o.frozen 1;have yf2:=HX2.o.frozen 2;simp at y0 y1 y2;clear hb2 hm2 x0 x1 x2 HX1 HM1 HR1 HC H0;have t0:((N:Int)==0)=false:=by simp;omega
 have t1:decide ((N:Int)=0)=false:=decide_eq_false (by omega);rw[htN] at HMN;rw[htN];go_upto_region 4 with fail
 generalize hW3:wAi _ _=W3;have hwz:w.heap.size≤W1.heap.size:=HB1.o.size;have HX3:=zh (show Blk W3 X 25 #[.int .i64 (N:Int),.slice A2 n2 c2,.slice AF2 nf2 cf2] by rw[← hW3];exact (((HX2.o.set_ 0 _).set_ 1 _).set_ 2 _).alloc _);have HM3:=zh (show Blk W3 M 25 #[.int .i64 0,.slice none 0 0,.slice none 0 0] by rw[← hW3];exact (((HM2.o.far (p:=⟨X,0,none⟩) hMX _).far (p:=⟨X,1,none⟩) hMX _).far (p:=⟨X,2,none⟩) hMX _).alloc _);have HR3:=zh (show Blk W3 R 28 #[.int .i64 0,.int .i64 0] by rw[← hW3];exact (((HR2.o.far (p:=⟨X,0,none⟩) hRX _).far (p:=⟨X,1,none⟩) hRX _).far (p:=⟨X,2,none⟩) hRX _).alloc _)
 have HB3:=zh (show Below w.heap.size w W3 by
  rw[← hW3]
  exact (((HBW.o.setCell (p:=⟨X,0,none⟩) (by exact hwX) _).setCell (p:=⟨X,1,none⟩) (by exact hwX) _).setCell (p:=⟨X,2,none⟩) (by exact hwX) _).alloc (by have:=HBW.o.size;simpa using this) _)
 have HMA:=zh (show MachAt W3 W3.heap.size (.agg #[.int .i64 (N:Int),.slice A2 n2 c2,.slice AF2 nf2 cf2]) t by
  rw[← hW3]
  exact (((((HMN.o.set (p:=⟨X,0,none⟩) (by exact lX1) _).set (p:=⟨X,1,none⟩) (by exact lX1) _).set (p:=⟨X,2,none⟩) (by exact lX1) _)).alloc _).at_)
 clear hW3 HX2 HM2 HR2 HBW HMN y0 y1 y2 yf0 yf1 yf2 t0 t1 HB1 HB2 hn2c hnf2c hn2b hnf2b HN2 HF2 lX2 hz2;obtain⟨A3,AF3,n3,c3,nf3,cf3,hag,HN2,HF2,hn2c,hnf2c,hn2b,hnf2b,hA2,hF2⟩:=HMA.o
 obtain⟨rfl,rfl,rfl,rfl,rfl,rfl⟩:A2=A3∧n2=n3∧c2=c3∧AF2=AF3∧nf2=nf3∧cf2=cf3:=by
  injection hag with hag
  have g1:=congrArg (fun a:Array Value=>a[1]?) hag;have g2:=congrArg (fun a:Array Value=>a[2]?) hag;simp at g1 g2;exact⟨g1.1,g1.2.1,g1.2.2,g2.1,g2.2.1,g2.2.2⟩
 have HRA:=zh hA2;have HRF:=zh hF2;have hn22:n2≤2000:=by have:=HSO.o.len;rw[HN2.o] at this;exact this
 have hnf22:nf2≤400:=by have:=HSO.o.flen;rw[HF2.o] at this;exact this
 have HMKL:=zh (fun (W:World)=>run_make_row' (P:=Try.prog) 73 26 (.slice none 0 0) 24 Try.underlying73 zCi rfl .i64 .i64 N (by omega) (by omega) W);have lX3:X<W3.heap.size:=HX3.o.lt;have x1:=HX3.o.cell 1;simp at x1;clear hag hA2 hF2 HMA lX1 lM1 lR1 hwz he hf0;go_upto_region 6 with fail
 clear x1;have HO0:=zh (World.ownsRow_nil W3 W3.heap.size 3 1)
 go_loopw [5,33] (fun lv iv wr=>∃ i:Nat,i≤n2∧iv=.int .i64 (i:Int)∧Hid (wr.ownsRow W3.heap.size 3 1 lv i (intRow ((t.arcs.take i).map (·.i))))∧Hid (Below W3.heap.size W3 wr)) (fun _ iv _=>n2-(intOf iv).toNat)
 case atStart=>exact⟨0,by omega,rfl,HO0,zh (Below.refl _ _)⟩
 case round =>
  clear HO0;obtain⟨i,hi,rfl,HO,HBV⟩:=hrel;by_cases hin:i<n2
  ·obtain⟨b,off,x,rfl,hbB,d0,d1,d2,d3,d4,HX⟩:=zAp (HRA.o.below HBV.o (wAb _)) hin;have HTK:=zh (show t.arcs.take (i+1)=t.arcs.take i++[x] from zAY (by rw[HN2.o];exact hin) HX.o);(have lb:b<wr.heap.size:=by have:=HBV.o.size;omega);obtain⟨Av,cv,hlv,hcv,_⟩:=zAa HO.o;subst hlv;clear HX;(go_upto_region 8 with fail);generalize hW5:wAi _ _=W5;obtain⟨bx,hbx⟩:∃ z,z=wr.heap.size:=⟨_,rfl⟩;have HX5:=zh (show Blk W5 bx 64 #[.int .i64 x.f,.int .i64 x.t,.int .i64 x.i,.int .i64 x.o,.int .i64 x.w] by rw[← hW5];exact wAk hbx);have HO5:=zh (show W5.ownsRow W3.heap.size 3 1 (.slice Av i cv) i (intRow ((t.arcs.take i).map (·.i))) by rw[← hW5];exact HO.o.alloc _);have HB5:=zh (show Below W3.heap.size W3 W5 by rw[← hW5];exact HBV.o.alloc HBV.o.size _);simp only[← hbx];clear hW5 hbx HO HBV d0 d1 d2 d3 d4 lb;have y2:=HX5.o.cell 2;simp at y2;have lx5:bx<W5.heap.size:=HX5.o.lt;have hz5:W3.heap.size≤W5.heap.size:=HB5.o.size;go_wp2_with (at_builtin;go_loud (refine wpList_append_own_at _ rfl (.tmp 37) (.tmp 40) 26 rfl W3.heap.size 3 i0 _ 1 8 Try.underlying26 hi0 iz0 iz1 iz2 rfl (by omega) (.slice Av i cv) i _ rfl (HO5.o.alloc _) ⟨W5.heap.size,0,none⟩ 1 1 (intRow [x.i]) rfl (by rfl) (World.news_of_block (cs:=(intRow [x.i]).toArray) (t:=3) (fr:=(0,0)) (wAk rfl)) (zAg _) (by simp only[maxLen];omega) (by omega) (by simp<;>omega) ?_;intro v' w6 hown2 hg2 _ hat2;have HOW2:=zh hown2;have HG2:=zh hg2;clear hown2 hg2 hat2));have HON:=zh (show w6.ownsRow W3.heap.size 3 1 v' (i+1) (intRow ((t.arcs.take (i+1)).map (·.i))) by rw[HTK.o,List.map_append,zAd];exact HOW2.o);have HBN:=zh ((HB5.o.alloc hz5 (Obj.cells #[.int .i64 x.i] 3)).grown HG2.o (by simp;omega) (fun z hz=>(HO5.o.lt z hz).1));clear HOW2 HG2 HO5 HB5 HX5;go_roundw
   case rel=>exact⟨i+1,by omega,by go_num,HON,HBN⟩
   case measure=>simp[intOf];omega
  ·(obtain rfl:n2=i:=by omega);have HOL:=zh (show wr.ownsRow W3.heap.size 3 1 u5 n2 (intRow (t.arcs.map (·.i))) by have:=HO.o;rw[wAo (by rw[HN2.o];exact wAb _)] at this;exact this);have HLL:=zh (show (t.arcs.map (·.i)).length=n2 by rw[wAv];exact HN2.o);clear HO
   go_upto_region 12 with (first
    | (go_at_call 37;refine (zD3 _ n2 W3.heap.size u5 wr HLL.o (by omega) HOL.o).mono ?_;rintro e w7 ⟨rfl,ho7,hg7⟩;have HO7:=zh ho7;have HG7:=zh hg7;clear ho7 hg7)
    | (go_at_call 38;refine (zCX _ n2 W3.heap.size u5 w7 (by rw[List.length_mergeSort,HLL.o]) (by omega) HO7.o).mono ?_;rintro e w8 ⟨A8,c8,rfl,ho8,hob8,hg8⟩;rw[zJi] at ho8 hob8 ⊢;obtain⟨ls,hls⟩:∃ z,z=setI (t.arcs.map (·.i)):=⟨_,rfl⟩;rw[← hls] at ho8 hob8 ⊢;obtain⟨k8,hk8⟩:∃ z,z=ls.length:=⟨_,rfl⟩;rw[← hk8] at ho8 hob8 ⊢;have HLS:=zh hls;have HK8:=zh hk8;have HO8:=zh ho8;have HG8:=zh hg8;clear ho8 hob8 hg8 hk8 hls))
   have HB38:=zh (show Below W3.heap.size W3 w8 from (HBV.o.grown HG7.o HBV.o.size (fun z hz=>(HOL.o.lt z hz).1)).grown HG8.o (by have:=HBV.o.size;have:=HG7.o.size;omega) (fun z hz=>(HOL.o.lt z hz).1));(have hk82:k8≤2000:=by rw[HK8.o,HLS.o];have:=zKk (t.arcs.map (·.i));rw[HLL.o] at this;omega);have HINC:=zh (show ls.Pairwise (· < ·) by rw[HLS.o];exact zAm _);have HMKI:=zh (fun (W:World)=>run_make_row' (P:=Try.prog) 26 3 (.int .i64 0) 8 Try.underlying26 zAH rfl .i64 .i64 k8 (by omega) (by omega) W);have hz38:W3.heap.size≤w8.heap.size:=HB38.o.size;have HX8:=zh (HX3.o.below HB38.o lX3);rw[← HLS.o] at HDW;clear HO7 HG7 HG8 HBV HOL HLL;have x0:=HX8.o.cell 0;simp at x0;have lX8:X<w8.heap.size:=HX8.o.lt;have hmk:=HMKL.o;(go_upto_region 14 with fail);clear hmk x0;generalize hW4:wAi _ _=W4;obtain⟨GN,hGN⟩:∃ z,z=w8.heap.size:=⟨_,rfl⟩
   have HLL0:=zh (show OwnLL W4 (GN+1) 26 3 1 GN N (fun _=>.slice none 0 0) (fun i=>intRow (R2 k8 0 i)) (fun i=>if i<0 then k8 else 0) by
    rw[← hW4,hGN];refine⟨World.rowIs_made w8 (.slice none 0 0) N 26,by omega,fun j _=>?_,fun i j _ _ _=>.inl rfl⟩;unfold R2;rw[if_neg (by omega),if_neg (by omega)]
    exact World.ownsRow_nil _ _ _ _)
   have HB84:=zh (show Below w8.heap.size w8 W4 by rw[← hW4];exact (Below.refl _ _).alloc (wAb _) _);(have h8G:w8.heap.size≤GN:=by omega);have hz4:GN<W4.heap.size:=HLL0.o.row.lt;simp only[← hGN];clear hW4 hGN
   go_loopw [52] (fun sv wr=>∃ (s:Nat) (vs:Nat→Value),s≤N∧sv=.int .i64 (s:Int)∧Hid (OwnLL wr (GN+1) 26 3 1 GN N vs (fun i=>intRow (R2 k8 s i)) (fun i=>if i<s then k8 else 0))∧Hid (Below w8.heap.size w8 wr)∧GN<wr.heap.size) (fun sv _=>N-(intOf sv).toNat)
   case atStart=>exact⟨0,_,by omega,rfl,HLL0,HB84,hz4⟩
   case round =>
    clear HLL0 HB84 hz4;obtain⟨s,vs,hs,rfl,HLL,HB8,hzr⟩:=hrel;by_cases hsN:s<N
    ·have cR:=HLL.o.row.cell hsN;have fR:=HLL.o.row.frozen s;have hmk:=HMKI.o;(go_upto_region 18 with fail);clear hmk cR fR;obtain⟨H,hH⟩:∃ z,z=wr.heap.size:=⟨_,rfl⟩
     have HLP:=zh ((HLL.o.put (by omega) ((Below.refl _ _).alloc (wAb _) (.cells (madeCells #[.int .i64 0] k8) 3)) (i:=s) (zKR wr k8 3 (by omega))).congr (L':=fun i=>intRow (R3 k8 s 0 i)) (m':=fun i=>if i<s+1 then k8 else 0) (fun i _=>by
      rw[zRa];by_cases e:i=s
      · rw[if_pos e,if_pos e]
      · rw[if_neg e,if_neg e]) (fun i _=>by
      by_cases e:i=s
      · rw[if_pos e,if_pos (by omega)]
      ·rw[if_neg e];by_cases g:i<s
       · rw[if_pos g,if_pos (by omega)]
       · rw[if_neg g,if_neg (by omega)]))
     have HB5:=zh ((HB8.o.alloc HB8.o.size (.cells (madeCells #[.int .i64 0] k8) 3)).setCell (p:=⟨GN,s,none⟩) (by exact h8G) (.slice (some ⟨wr.heap.size,0,none⟩) k8 k8));obtain⟨vs3,hvs3⟩:∃ z,z=(fun j=>if j=s then Value.slice (some ⟨wr.heap.size,0,none⟩) k8 k8 else vs j):=⟨_,rfl⟩;have HV3:=zh (show vs3 s=.slice (some ⟨H,0,none⟩) k8 k8 by rw[hvs3,hH];simp);rw[← hvs3] at HLP;rw[World.setCell_alloc_past _ _ _ _ hzr] at HLP HB5;generalize hW5:wAi _ _=W5;rw[hW5] at HLP HB5;have hz5:GN<W5.heap.size:=HLP.o.row.lt;(have hGH:GN<H:=by omega);clear hvs3 hW5 hH HLL HB8
     go_loopw [63] (fun kv wr=>∃ k:Nat,k≤k8∧kv=.int .i64 (k:Int)∧Hid (OwnLL wr (GN+1) 26 3 1 GN N vs3 (fun i=>intRow (R3 k8 s k i)) (fun i=>if i<s+1 then k8 else 0))∧Hid (Below w8.heap.size w8 wr)∧GN<wr.heap.size) (fun kv _=>k8-(intOf kv).toNat)
     case atStart=>exact⟨0,by omega,rfl,HLP,HB5,hz5⟩
     case round =>
      clear HLP HB5 hz5;obtain⟨k,hk,rfl,HLL,HB8,hzr⟩:=hrel;by_cases hkq:k<k8
      ·have hrow:=HLL.o.own s hsN;(have hmi:(if s<s+1 then k8 else 0)=k8:=by rw[if_pos (by omega)]);simp only[hmi] at hrow;rw[HV3.o] at hrow;obtain⟨g3,cg,hg3,hg31,hg32⟩:=hrow.form (by omega);(injection hg3 with hg3 _ hcg);(injection hg3 with hg3);(injection hg3 with hg3);(have lH:H<wr.heap.size:=by rw[hg3];exact hg32);have fg:=hrow.frozenAt k
       obtain⟨z0,cgk⟩:∃ z0,wr.cell? ⟨H,k,none⟩=some (.int .i64 z0):=by
        have h1:=hrow.cellAt k (by omega);(have h2:k<(R3 k8 s k s).length:=by rw[zSc _ _ _ _ hk,if_pos (by omega)];exact hkq);refine⟨(R3 k8 s k s)[k],?_⟩;rw[h1];simp[intRow,h2]
       have cW:=HLL.o.row.cell hsN;rw[HV3.o] at cW
       have HST:=zh ((HLL.o.store (i:=s) (g:=H) (c:=k8) hsN (by rw[HV3.o];simp) k (.int .i64 (-1))).congr (L':=fun i=>intRow (R3 k8 s (k+1) i)) (m':=fun i=>if i<s+1 then k8 else 0) (fun i _=>by
        rw[zQ9 hkq];by_cases e:i=s
        ·subst e;simp only[if_pos];unfold intRow;rw[wAw]
        · simp only[if_neg e]) (fun _ _=>rfl))
       clear hrow hmi hg31 hg3 hg32;go_wp2;go_roundw
       case rel=>exact⟨k+1,by omega,by go_num,HST,zh (HB8.o.setCell (p:=⟨H,k,none⟩) (by show w8.heap.size≤H;omega) (.int .i64 (-1))),by simp[World.setCell];omega⟩
       case measure=>simp[intOf];omega
      ·(obtain rfl:k8=k:=by omega);have HLN:=zh (HLL.o.congr (L':=fun i=>intRow (R2 k8 (s+1) i)) (m':=fun i=>if i<s+1 then k8 else 0) (fun i _=>by rw[zSr]) (fun _ _=>rfl));clear HLL;go_wp2;go_roundw
       case rel=>exact⟨s+1,vs3,by omega,by go_num,HLN,HB8,hzr⟩
       case measure=>simp[intOf];omega
    ·obtain rfl:N=s:=by omega
     have HLN:=zh (HLL.o.congr (L':=fun i=>intRow (rowL ls (t.arcs.take 0) i)) (m':=fun _=>k8) (fun i hi=>by
      unfold R2
      rw[if_pos hi,List.take_zero,zJY,← HK8.o]) (fun i hi=>by rw[if_pos hi]))
     have HX9:=zh (HX8.o.below HB8.o lX8);have x1:=HX9.o.cell 1;simp at x1;have lX9:X<wr.heap.size:=HX9.o.lt;obtain⟨W9,hW9⟩:∃ z,z=wr:=⟨_,rfl⟩;rw[← hW9] at HLN HB8 hzr x1 lX9 ⊢;clear hW9 HLL HX9;(go_upto_region 24 with fail);clear x1 lX9
     go_loopw [77] (fun iv wr=>∃ i:Nat,i≤n2∧iv=.int .i64 (i:Int)∧Hid (OwnLL wr (GN+1) 26 3 1 GN N vs (fun s=>intRow (rowL ls (t.arcs.take i) s)) (fun _=>k8))∧Hid (Below w8.heap.size w8 wr)∧GN<wr.heap.size) (fun iv _=>n2-(intOf iv).toNat)
     case atStart=>exact⟨0,by omega,rfl,HLN,HB8,hzr⟩
     case round =>
      clear HLN HB8 hzr;obtain⟨i,hi,rfl,HLL,HB8,hzr⟩:=hrel;have HB3r:=zh (HB38.o.trans (HB8.o.mono HB38.o.size));by_cases hin:i<n2
      ·obtain⟨b,off,x,rfl,hbB,d0,d1,d2,d3,d4,HX⟩:=zAp (HRA.o.below HB3r.o (wAb _)) hin;(have hil:i<t.arcs.length:=by rw[HN2.o];exact hin);have HXA:=zh (show t.arcs[i]? = some x by rw[List.getElem?_eq_getElem hil,← HX.o];simp[hil]);have hxm:=wAq HXA.o;obtain⟨r0,r1,r2,r3⟩:=HSO.o.rng x hxm;have HIL:=zh (show x.i∈ls by rw[HLS.o];exact (zAB _ _).2 (List.mem_map.2 ⟨x,hxm,rfl⟩));(have lb:b<wr.heap.size:=by have:=HB3r.o.size;omega);(have hkey:x.f.toNat<N:=by omega);clear HX hil hxm;(go_upto_region 26 with fail);generalize hW5:wAi _ _=W5;obtain⟨bx,hbx⟩:∃ z,z=wr.heap.size:=⟨_,rfl⟩;have HX5:=zh (show Blk W5 bx 64 #[.int .i64 x.f,.int .i64 x.t,.int .i64 x.i,.int .i64 x.o,.int .i64 x.w] by rw[← hW5];exact wAk hbx);have HLL5:=zh (show OwnLL W5 (GN+1) 26 3 1 GN N vs (fun s=>intRow (rowL ls (t.arcs.take i) s)) (fun _=>k8) by rw[← hW5];exact HLL.o.alloc _);have HB5:=zh (show Below w8.heap.size w8 W5 by rw[← hW5];exact HB8.o.alloc HB8.o.size _);have HO5:=zh (zAG HO8.o HB5.o);simp only[← hbx];clear hW5 hbx HLL HB8 HB3r d0 d1 d2 d3 d4 lb;have y2:=HX5.o.cell 2;simp at y2;have lx5:bx<W5.heap.size:=HX5.o.lt;(go_upto_region 27 with (go_at_call 47;refine (zPg ls k8 W3.heap.size _ x.i W5 HK8.o.symm (by omega) HINC.o HIL.o HO5.o).mono ?_;rintro e w6 ⟨k,hkk,hkx,rfl,hb6⟩;have HKX:=zh hkx;have HB6:=zh hb6;clear hkx hb6));have HX6:=zh (HX5.o.below HB6.o lx5);have HLL6:=zh (HLL5.o.below HB6.o);have HB86:=zh (HB5.o.trans (HB6.o.mono HB5.o.size));clear HX5 HLL5 HB5 HO5 HB6 y2;have y0:=HX6.o.cell 0;have y1:=HX6.o.cell 1;simp at y0 y1;have lx6:bx<w6.heap.size:=HX6.o.lt;have cW:=HLL6.o.row.cell hkey;have lG:GN<w6.heap.size:=HLL6.o.row.lt;have hrow:=HLL6.o.own _ hkey;obtain⟨g3,cg,hg3,hg31,hg32⟩:=hrow.form (by omega);rw[hg3] at cW hrow;have HV3:=zh hg3;have fg:=hrow.frozenAt k;obtain⟨_,_,hgv2,hgc,_⟩:=zAa hrow;have hgc:k8≤cg:=by injection hgv2 with _ _ e3<;>omega
       obtain⟨z0,cgk⟩:∃ z0,w6.cell? ⟨g3,k,none⟩=some (.int .i64 z0):=by
        have h1:=hrow.cellAt k (by omega);(have h2:k<(rowL ls (t.arcs.take i) x.f.toNat).length:=by rw[zOv,← HK8.o];exact hkk);refine⟨(rowL ls (t.arcs.take i) x.f.toNat)[k],?_⟩;rw[h1];simp[intRow,h2]
       have HST:=zh ((HLL6.o.store (i:=x.f.toNat) (g:=g3) (c:=cg) hkey HV3.o k (.int .i64 x.t)).congr (L':=fun s=>intRow (rowL ls (t.arcs.take (i+1)) s)) (m':=fun _=>k8) (fun s _=>by
        rw[zPM HINC.o HXA.o HKX.o];by_cases e:s=x.f.toNat
        ·rw[if_pos e,if_pos (by omega)];unfold intRow;rw[wAw,e]
        · rw[if_neg e,if_neg (fun g=>e (by omega))]) (fun _ _=>rfl))
       (have z0':(0:Int)≤(k:Int):=by omega);clear hrow hgv2 hg3;refine zAE (fun w'=>w'.cell? ⟨bx,0,none⟩=some (.int .i64 x.f)∧w'.cell? ⟨bx,1,none⟩=some (.int .i64 x.t)∧w'.cell? ⟨GN,x.f.toNat,none⟩=some (.slice (some ⟨g3,0,none⟩) k8 cg)) 8 [(0,false),(1,false),(2,false),(3,false),(4,false),(5,false),(6,false),(7,false)] (by kernel_rfl) (by kernel_rfl) ⟨y0,y1,cW⟩ ?_;simp only[wAl,wAp]
       repeat (refine mix_q (v:=?_) (by rfl) (by rfl) ?_ ?_;rotate_left;(focus (intro w' hC;(try dsimp only at hC);go_simp;(first | done | with_reducible rfl)));simp only[Act.put,wAa,wAf,wAg,wAe,wAc,wAd])
       refine zAs ?_;(try simp only[Act.put,wAa,wAf,wAg,wAe,wAc,wAd]);go_wp2;refine NoPanic.normal ?_;go_wp2;go_roundw
       case rel=>exact⟨i+1,by omega,by go_num,zh HST.o.drew,zh ((HB86.o.setCell (p:=⟨g3,k,none⟩) (by show w8.heap.size≤g3;omega) (.int .i64 x.t)).drew),by simp[World.setCell];omega⟩
       case measure=>simp[intOf];omega
      ·obtain rfl:n2=i:=by omega
       have HLE:=zh (show OwnLL wr (GN+1) 26 3 1 GN N vs (fun s=>intRow (rowL ls t.arcs s)) (fun _=>k8) by
        have:=HLL.o
        rw[wAo (by rw[HN2.o];exact wAb _)] at this
        exact this)
       have HX9:=zh (HX8.o.below HB8.o lX8);have x0:=HX9.o.cell 0;have x1:=HX9.o.cell 1;have x2:=HX9.o.cell 2;simp at x0 x1 x2;have lX9:X<wr.heap.size:=HX9.o.lt;have hz8:w8.heap.size≤wr.heap.size:=HB8.o.size;have HOE:=zh (zAG HO8.o HB8.o);have HM9:=zh (HM3.o.below HB3r.o HM3.o.lt);have HR9:=zh (HR3.o.below HB3r.o HR3.o.lt);have HBW9:=zh (HB3.o.trans (HB3r.o.mono HB3.o.size))
       have HMA:=zh (show MachAt wr wr.heap.size (.agg #[.int .i64 (N:Int),.slice A2 n2 c2,.slice AF2 nf2 cf2]) t from
        ⟨A2,AF2,n2,c2,nf2,cf2,by rw[htN],HN2,HF2,hn2c,hnf2c,hn2b,hnf2b,(HRA.o.below HB3r.o (wAb _)).mono HB3r.o.size,(HRF.o.below HB3r.o (wAb _)).mono HB3r.o.size⟩)
       clear HLL;have HOK:=zh (zQt HSO.o);rw[← HLS.o] at HOK;obtain⟨LL,hLL⟩:∃ z,z=rowsI ls t.arcs N:=⟨_,rfl⟩;obtain⟨FF,hFF⟩:∃ z,z=finsI t.fins N:=⟨_,rfl⟩
       have HNL:=zh (fun (W:World) (hb:Below wr.heap.size wr W)=>(show NumsL W W.heap.size (.slice (some ⟨GN,0,none⟩) N N) LL by
        obtain⟨vv,k1,k2⟩:=(HLE.o.below hb).rdl (fun i hi=>by show k8≤big;unfold big;omega);rw[hLL]
        exact⟨some ⟨GN,0,none⟩,N,N,rfl,zh (zB1 _ _ _),wAb _,by unfold big;omega,vv,k1,k2⟩))
       have HNO:=zh (fun (W:World) (hb:Below wr.heap.size wr W)=>zAZ (zAG HOE.o hb) (show k8≤big by unfold big;omega));rw[← hLL,← hFF] at HOK HDW;clear hLL;go_wp2_with (first | (refine zEr rfl _ _ _ rfl (zQQ _ _ _ _) ?_) | (go_at_call 34;refine (zJf _ t wr wr.heap.size N (wAb _) HMA.o HSO.o.n hN4 HSO.o.len HSO.o.flen HSO.o.rng HSO.o.frng).mono ?_;rintro e w10 ⟨gA,gF,va,rfl,hta,hb10⟩;have HTA:=zh (show Bools w10 w10.heap.size (.slice (some ⟨gF,0,none⟩) N N) FF by rw[hFF];exact zMv hta.fin hN4);have HB10:=zh hb10;clear hta hb10));refine (zEn _ _ _ ls LL FF w10 w10.heap.size (wAb _) (HNO.o w10 HB10.o) (HNL.o w10 HB10.o) HTA.o HOK.o).mono ?_;rintro e w11 ⟨v1,rfl,hnew,hb11⟩;obtain⟨A9,AF9,n9,c9,nf9,cf9,rfl,_,_,_,_,_,_,_,_⟩:=hnew.at_;have HNEW:=zh hnew;have HB11:=zh hb11;clear hnew hb11;obtain⟨g9,hg9⟩:∃ z,z=(limR (canT ls LL FF)).1.n:=⟨_,rfl⟩;obtain⟨f1,hf1⟩:∃ z,z=(limR (canT ls LL FF)).2.1:=⟨_,rfl⟩;obtain⟨f2,hf2⟩:∃ z,z=(limR (canT ls LL FF)).2.2:=⟨_,rfl⟩;rw[← hg9] at HNEW;simp only[← hg9,← hf1,← hf2];have HF1:=zh hf1;have HF2:=zh hf2;clear hg9 hf1 hf2;have hzw:=HB10.o.size;have hzw2:=HB11.o.size;have HMM:=zh ((HM9.o.below HB10.o HM9.o.lt).below HB11.o (by have:=HM9.o.lt;omega));have HRR:=zh ((HR9.o.below HB10.o HR9.o.lt).below HB11.o (by have:=HR9.o.lt;omega));have HBB:=zh ((HBW9.o.trans (HB10.o.mono HBW9.o.size)).trans (HB11.o.mono (by have:=HBW9.o.size;omega)));have lMr:=HM9.o.lt;have lRr:=HR9.o.lt;have hwr:=HBW9.o.size;clear HM9 HR9 HBW9;have q0:=HMM.o.cell 0;have q1:=HMM.o.cell 1;have q2:=HMM.o.cell 2;have q3:=HRR.o.cell 0;have q4:=HRR.o.cell 1;have qf:=HMM.o.frozen 0;have qf1:=HMM.o.frozen 1;have qf2:=HMM.o.frozen 2;have qf3:=HRR.o.frozen 0;have qf4:=HRR.o.frozen 1;have lM:=HMM.o.lt;have lR:=HRR.o.lt;simp at q0 q1 q2 q3 q4;have HNW:=zh (((((HNEW.o.set (p:=⟨M,0,none⟩) (by show M<w10.heap.size;omega) (.int .i64 g9)).set (p:=⟨M,1,none⟩) (by show M<w10.heap.size;omega) (.slice A9 n9 c9)).set (p:=⟨M,2,none⟩) (by show M<w10.heap.size;omega) (.slice AF9 nf9 cf9)).set (p:=⟨R,0,none⟩) (by show R<w10.heap.size;omega) (.int .i64 f1)).set (p:=⟨R,1,none⟩) (by show R<w10.heap.size;omega) (.int .i64 f2));have HBF:=zh ((((((HBB.o.setCell (p:=⟨M,0,none⟩) (by exact hwM) (.int .i64 g9)).setCell (p:=⟨M,1,none⟩) (by exact hwM) (.slice A9 n9 c9)).setCell (p:=⟨M,2,none⟩) (by exact hwM) (.slice AF9 nf9 cf9)).setCell (p:=⟨R,0,none⟩) (by exact hwR) (.int .i64 f1)).setCell (p:=⟨R,1,none⟩) (by exact hwR) (.int .i64 f2)));clear HMM HRR HNEW HBB;go_wp21;refine bodyPost_ret (v:=.tuple #[.agg #[.int .i64 g9,.slice A9 n9 c9,.slice AF9 nf9 cf9],.agg #[.int .i64 f1,.int .i64 f2]]) (by simp[results,Try.results22,go_sem,lM,lR,hMR,hRM,q0,q1,q2,q3,q4,qf,qf1,qf2,qf3,qf4]) rfl ?_;rw[HDW.o,← HF1.o,← HF2.o];exact⟨_,rfl,HNW.o.mono (by omega),HBF.o⟩
end Go.Proofs.Ytkfdhpbnphojoaa
