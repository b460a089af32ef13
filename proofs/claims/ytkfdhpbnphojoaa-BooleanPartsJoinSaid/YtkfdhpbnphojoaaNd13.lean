/- Part of the proof. -/
import Derived.Test.YtkfdhpbnphojoaaNd12
import Derived.Laws.Cover3
set_option linter.unusedSimpArgs false
set_option linter.unusedVariables false
set_option maxRecDepth 100000
set_option maxHeartbeats 16000000
open List renaming length_append→wAa,length_singleton→wAb,take_length→wAe,mem_of_getElem?→wAf,mem_singleton→wAg,append_assoc→wAh,mem_append→wAi
open Nat renaming le_refl→wAc
open Go.World renaming alloc→wAd
namespace Go.Proofs.Ytkfdhpbnphojoaa
open Go.RowKit Gm
theorem zRe (x:Arc) (b gU S:Nat) (U:Nat→Bool) (w:World) (hb:w.cell? ⟨b,0,none⟩=some (.slice (some ⟨gU,0,none⟩) S S)) (hbl:b<w.heap.size) (hU:w.rowIs gU 4 S (fun i=>.bool (U i))) (ht:0≤x.t∧x.t<(S:Int)) :
 Calls Try.prog 117 #[.agg #[.int .i64 x.f,.int .i64 x.t,.int .i64 x.i,.int .i64 x.o,.int .i64 x.w],.pointer (some ⟨b,0,none⟩)] w fun e w'=>e=.returned (.bool (U x.t.toNat))∧Below w.heap.size w w':=by
 obtain⟨h0,h1⟩:=ht;have hc:=hU.cell (show x.t.toNat<S by omega);have hl:=hU.lt;obtain⟨u,hu⟩:∃ u,u=U x.t.toNat:=⟨_,rfl⟩;rw[← hu] at hc ⊢;clear hu hU
 go_enter Try.func117,Try.ntmps117
 go_wp2
 go_ret
 exact⟨rfl,by go_grown⟩
theorem zOW (l:List Arc) (A:Option Addr) (n c b gU S B:Nat) (U:Nat→Bool) (w:World) (hB:B≤w.heap.size) (hl:l.length=n) (hn:n≤1000000) (h:Rd w B 5 A n (arcCell l)) (hb:w.cell? ⟨b,0,none⟩=some (.slice (some ⟨gU,0,none⟩) S S)) (hbl:b<w.heap.size) (hU:w.rowIs gU 4 S (fun i=>.bool (U i))) (ht:∀ x∈l,0≤x.t∧x.t<(S:Int)) :
 Calls Try.prog 127 #[.slice A n c,.func (.func 117) #[] #[.pointer (some ⟨b,0,none⟩)]] w fun e w'=>∃ z:Int,e=.returned (.int .i64 z)∧(0≤z↔∃ x∈l,U x.t.toNat=true)∧Below w.heap.size w w':=by
 have HRD:=zh h;have HL:=zh hl;have HT:=zh ht;have HB0:=zh hb;have HU0:=zh hU;clear h hl ht hb hU
 go_enter Try.func127,Try.ntmps127
 go_wp2
 go_loopw [5,8] (fun _ kv wr=>∃ k:Nat,k≤n∧kv=.int .i64 (k:Int)∧Hid (Below w.heap.size w wr)∧Hid (∀ x∈l.take k,U x.t.toNat=false)) (fun _ kv _=>n-(intOf kv).toNat)
 case atStart=>exact⟨0,by omega,rfl,zh (Below.refl _ _),zh (fun x hx=>by simp at hx)⟩
 case round =>
  obtain⟨k,hk,rfl,HB,HN⟩:=hrel;by_cases hkn:k<n
  ·obtain⟨bb,off,x,rfl,hbB,d0,d1,d2,d3,d4,HX⟩:=zAp (HRD.o.below HB.o hB) hkn;have hxl:=zBN (by rw[HL.o];exact hkn) HX.o;have HC:=zh (fun W (hb:Below w.heap.size w W)=>zRe x b gU S U W (zAb hb HB0.o hbl) (by have:=hb.size;omega) (HU0.o.of_block (hb.block gU HU0.o.lt)) (HT.o x hxl));have HTK:=zh (zAY (by rw[HL.o];exact hkn) HX.o);have HXL:=zh hxl;obtain⟨u,hu⟩:∃ u,u=U x.t.toNat:=⟨_,rfl⟩;rw[← hu] at HC;have HUU:=zh hu;clear HX hxl hu;cases u
   ·go_wp2_with (go_at_call 117;refine (HC.o _ HB.o).mono ?_;rintro e w2 ⟨rfl,hb2⟩);have HB2:=zh (HB.o.trans (hb2.mono HB.o.size));clear hb2;go_roundw
    case rel=>exact⟨k+1,by omega,by go_num,HB2,zh (fun y hy=>by
     rw[HTK.o] at hy;rcases wAi.1 hy with g | g
     · exact HN.o y g
     · rw[wAg.1 g];exact HUU.o.symm)⟩
    case measure=>simp[intOf];omega
   ·go_wp2_with (go_at_call 117;refine (HC.o _ HB.o).mono ?_;rintro e w2 ⟨rfl,hb2⟩)
    go_ret
    exact⟨_,rfl,⟨fun _=>⟨x,HXL.o,HUU.o.symm⟩,fun _=>by omega⟩,HB.o.trans (hb2.mono HB.o.size)⟩
  ·(obtain rfl:n=k:=by omega);go_wp2
   go_ret
   refine⟨_,rfl,⟨fun g=>by omega,fun ⟨x,hx,g⟩=>?_⟩,HB.o⟩;rw[HN.o x (by rw[← HL.o,wAe];exact hx)] at g;cases g
theorem zMC (l:List Arc) (A:Option Addr) (n c b gU S B:Nat) (U:Nat→Bool) (w:World) (hB:B≤w.heap.size) (hl:l.length=n) (hn:n≤1000000) (h:Rd w B 5 A n (arcCell l)) (hb:w.cell? ⟨b,0,none⟩=some (.slice (some ⟨gU,0,none⟩) S S)) (hbl:b<w.heap.size) (hU:w.rowIs gU 4 S (fun i=>.bool (U i))) (ht:∀ x∈l,0≤x.t∧x.t<(S:Int)) :
 Calls Try.prog 116 #[.slice A n c,.func (.func 117) #[] #[.pointer (some ⟨b,0,none⟩)]] w fun e w'=>∃ q,e=.returned (.bool q)∧(q=true↔∃ x∈l,U x.t.toNat=true)∧Below w.heap.size w w':=by
 have HC:=zh (zOW l A n c b gU S B U w hB hl hn h hb hbl hU ht);clear h hl ht hb hU
 go_enter Try.func116,Try.ntmps116
 go_wp2_with (go_at_call 127;refine HC.o.mono ?_;rintro e w2 ⟨z,rfl,hz,hb2⟩;have HZ:=zh hz;clear hz)
 go_ret
 exact⟨decide (0≤z),by simp,by rw[decide_eq_true_eq];exact HZ.o,hb2⟩
theorem zNF (m:Mach) (S gF gA gN gU s:Nat) (va vn:Nat→Value) (U:Nat→Bool) (w:World) (hO:OpenAt w m S gF gA gN va vn) (hU:w.rowIs gU 4 S (fun i=>.bool (U i))) (hs:s<S) (hS4:S≤400) (hn4:m.arcs.length≤2000) (hA:inRange m.arcs S) :
 Calls Try.prog 106 #[opV S gF gA gN,.int .i64 (s:Int),.slice (some ⟨gU,0,none⟩) S S] w fun e w'=>∃ q,e=.returned (.bool q)∧(q=true↔ldB m.arcs m.fins U s)∧Below w.heap.size w w':=by
 have HO:=zh hO;have HU:=zh hU;have HA:=zh hA;have HN4:=zh hn4;unfold opV;clear hO hU hA hn4;obtain⟨l1,l2,l3⟩:=HO.o.lts
 go_enter Try.func106,Try.ntmps106
 go_upto_region 1 with fail
 generalize hW1:wAd _ _=W1;obtain⟨X,hX⟩:∃ z,z=w.heap.size:=⟨_,rfl⟩;obtain⟨Y,hY⟩:∃ z,z=w.heap.size+1:=⟨_,rfl⟩;have HX1:=zh (show Blk W1 X 95 #[.int .i64 (S:Int),.slice (some ⟨gF,0,none⟩) S S,.slice (some ⟨gA,0,none⟩) S S,.slice (some ⟨gN,0,none⟩) S S] by rw[← hW1];exact (Blk.at_ hX).alloc _);have HY1:=zh (show Blk W1 Y 51 #[.slice (some ⟨gU,0,none⟩) S S] by rw[← hW1];exact Blk.at_ (by simp[hY]));have HB1:=zh (show Below w.heap.size w W1 by rw[← hW1];go_grown);have lX:X<W1.heap.size:=HX1.o.lt;have lY:Y<W1.heap.size:=HY1.o.lt;have HO1:=zh (HO.o.below HB1.o);have HU1:=zh (HU.o.of_block (HB1.o.block gU HU.o.lt));obtain⟨AN,cN,cn,HRN⟩:=HO1.o.nearAt hs;have HRN:=zh HRN;have x3:=HX1.o.cell 3;simp at x3;obtain⟨N,hN⟩:∃ z,z=(nearN m.arcs S s).length:=⟨_,rfl⟩;rw[← hN] at cn HRN;have hN4:N≤400:=by have:=zDX m.arcs S s;omega
 have HNL:=zh hN;have lg:gN<W1.heap.size:=HO1.o.lts.2.2;simp only[← hY]
 try simp only[← hX]
 clear hW1 hX hY hN l1 l2 l3;go_upto_region 2 with fail
 clear x3 cn
 go_loopw [8,15] (fun _ jv wr=>∃ j:Nat,j≤N∧jv=.int .i64 (j:Int)∧Hid (Below W1.heap.size W1 wr)∧Hid (∀ k∈(nearN m.arcs S s).take j,¬ (fnB m.fins m.fins.length k=true∨∃ a∈arN m.arcs m.arcs.length k,U a.t.toNat=true))) (fun _ jv _=>N-(intOf jv).toNat)
 case atStart=>exact⟨0,by omega,rfl,zh (Below.refl _ _),zh (fun k hk=>by simp at hk)⟩
 case round =>
  obtain⟨j,hj,rfl,HB,HN⟩:=hrel;by_cases hjN:j<N
  ·obtain⟨bb,off,k,rfl,hbB,d0,HK⟩:=zIY (HRN.o.below HB.o (wAc _)) HNL.o.symm hjN;have hz:=HB.o.size;obtain⟨hkS,hkn⟩:=nearN_mem.1 (wAf HK.o);have HKN:=zh hkn;have HTK:=zh (show (nearN m.arcs S s).take (j+1)=(nearN m.arcs S s).take j++[k] by rw[List.take_add_one,HK.o];rfl);have HOr:=zh (HO1.o.below HB.o);have cf:=HOr.o.fin.cell hkS;have lf:=HOr.o.fin.lt;obtain⟨f,hf⟩:∃ f,f=fnB m.fins m.fins.length k:=⟨_,rfl⟩;rw[← hf] at cf;have HF:=zh hf;have x1:=(HX1.o.below HB.o lX).cell 1;have x2:=(HX1.o.below HB.o lX).cell 2;simp at x1 x2;(have lXr:X<wr.heap.size:=by omega);clear hf hkn HK;cases f
   ·obtain⟨AA,cA,ca,HRA⟩:=HOr.o.arcsAt hkS;have lga:=HOr.o.lts.2.1;obtain⟨q1,hq1⟩:∃ z,z=(arN m.arcs m.arcs.length k).length:=⟨_,rfl⟩;rw[← hq1] at ca HRA;(have hq2:q1≤1000000:=by have:=zFH m.arcs m.arcs.length k;have:=HN4.o;omega);have HC:=zh (zMC (arN m.arcs m.arcs.length k) AA q1 cA Y gU S wr.heap.size U wr (wAc _) hq1.symm hq2 HRA (zAb HB.o (HY1.o.cell 0) lY) (by omega) (HU1.o.of_block (HB.o.block gU HU1.o.lt)) (fun x hx=>by have:=HA.o x (arN_mem.1 hx).1;omega));clear HRA hq1 hq2 hz;go_wp2_with fail;refine HC.o.mono ?_;rintro e w2 ⟨q,rfl,hq,hb2⟩;have HQ:=zh hq;have HB2:=zh (HB.o.trans (hb2.mono HB.o.size));clear hq hb2;cases q
    ·have HL:=zh (show ¬ ∃ x∈arN m.arcs m.arcs.length k,U x.t.toNat=true from fun g=>by have:=HQ.o.2 g;cases this);clear HQ;go_wp2;go_roundw
     case rel=>exact⟨j+1,by omega,by go_num,HB2,zh (fun y hy=>by
      rw[HTK.o] at hy;rcases wAi.1 hy with g | g
      · exact HN.o y g
      ·rw[wAg.1 g];rintro (g | g)
       · rw[← HF.o] at g;cases g
       · exact HL.o g)⟩
     case measure=>simp[intOf];omega
    ·have HL:=zh (HQ.o.1 rfl);clear HQ;go_wp2
     go_ret
     exact⟨true,rfl,⟨fun _=>⟨k,HKN.o,.inr HL.o⟩,fun _=>rfl⟩,HB1.o.trans (HB2.o.mono HB1.o.size)⟩
   ·go_wp2
    go_ret
    exact⟨true,rfl,⟨fun _=>⟨k,HKN.o,.inl HF.o.symm⟩,fun _=>rfl⟩,HB1.o.trans (HB.o.mono HB1.o.size)⟩
  ·(obtain rfl:N=j:=by omega);go_wp2
   go_ret
   refine⟨false,rfl,⟨fun g=>(by cases g),fun ⟨k,hk,g⟩=>?_⟩,HB1.o.trans (HB.o.mono HB1.o.size)⟩;exfalso
   have hkS:k<S:=by
    have key:∀ t:Int,Near m.arcs (s:Int) t→0≤t∧t<(S:Int):=fun t ht=>by
     induction ht with
     | base=>omega
     | @step a _ ha _ _=>have:=HA.o a ha;omega
    have:=key _ hk;omega
   exact HN.o k (by rw[HNL.o,wAe];exact nearN_mem.2 ⟨hkS,hk⟩) g
structure EnI (A:List Arc) (F:List Fnl) (S:Nat) (U0 U:Nat→Bool) (again:Bool) (s:Nat):Prop where
 ok:okU A F S U
 same:again=false→U=U0∧∀ t,t<s→U t=false→¬ ldB A F U t
 cnt:offN U S+(if again=true then 1 else 0)≤offN U0 S
theorem EnI.start {A:List Arc} {F:List Fnl} {S:Nat} {U:Nat→Bool} (h:okU A F S U):EnI A F S U U false 0 :=
 ⟨h,fun _=>⟨rfl,fun t ht=>by omega⟩,by simp⟩
theorem EnI.skip {A:List Arc} {F:List Fnl} {S s:Nat} {U0 U:Nat→Bool} {again:Bool} (h:EnI A F S U0 U again s) (hs:U s=true∨¬ ldB A F U s):EnI A F S U0 U again (s+1) :=
 ⟨h.ok,fun g=>⟨(h.same g).1,fun t ht hu=>by
  by_cases e:t=s
  ·subst e;rcases hs with hs | hs
   · rw[hs] at hu;cases hu
   · exact hs
  · exact (h.same g).2 t (by omega) hu⟩,h.cnt⟩
theorem EnI.mark {A:List Arc} {F:List Fnl} {S s:Nat} {U0 U:Nat→Bool} {again:Bool} (hA:inRange A S) (hs:s<S) (h:EnI A F S U0 U again s) (hu:U s=false) (hl:ldB A F U s):EnI A F S U0 (upd U s) true (s+1) :=
 ⟨zOO (fun a ha=>by have:=hA a ha;omega) h.ok hl,fun g=>(by cases g),by
  have h1:=zEJ hu S hs;have h2:=h.cnt;rw[if_pos rfl]
  split at h2<;>omega⟩
theorem zL0 (m:Mach) (S gF gA gN:Nat) (va vn:Nat→Value) (w:World) (hO:OpenAt w m S gF gA gN va vn) (hS4:S≤400) (hn4:m.arcs.length≤2000) (hA:inRange m.arcs S) :
 Calls Try.prog 78 #[opV S gF gA gN] w fun e w'=>∃ (g:Nat) (U:Nat→Bool),e=.returned (.slice (some ⟨g,0,none⟩) S S)∧w.heap.size≤g∧w'.rowIs g 4 S (fun i=>.bool (U i))∧(∀ s,s<S→(U s=true↔∃ v,accA m.arcs m.fins (s:Int) v))∧Below w.heap.size w w':=by
 have HO:=zh hO;have HA:=zh hA;have HN4:=zh hn4;have HMKB:=zh (fun (W:World)=>run_make_row' (P:=Try.prog) 51 4 (.bool false) 1 Try.underlying51 zAN rfl .i64 .i64 S (by omega) (by omega) W);clear hO hA hn4;unfold opV
 go_enter Try.func78,Try.ntmps78
 have hmk:=HMKB.o;go_upto_region 2 with fail
 clear hmk;generalize hW1:wAd _ _=W1;obtain⟨X,hX⟩:∃ z,z=w.heap.size:=⟨_,rfl⟩;obtain⟨G,hG⟩:∃ z,z=w.heap.size+1:=⟨_,rfl⟩;have HX1:=zh (show Blk W1 X 95 #[.int .i64 (S:Int),.slice (some ⟨gF,0,none⟩) S S,.slice (some ⟨gA,0,none⟩) S S,.slice (some ⟨gN,0,none⟩) S S] by rw[← hW1];exact (Blk.at_ hX).alloc _)
 have HR1:=zh (show W1.rowIs G 4 S (fun i=>.bool ((fun _=>false:Nat→Bool) i)) by
  rw[← hW1,hG]
  have:=World.rowIs_made (w.alloc (Obj.cells #[.int .i64 (S:Int),.slice (some ⟨gF,0,none⟩) S S,.slice (some ⟨gA,0,none⟩) S S,.slice (some ⟨gN,0,none⟩) S S] 95)) (.bool false) S 4
  simpa using this)
 have HB1:=zh (show Below w.heap.size w W1 by rw[← hW1];go_grown);have hXG:X<G:=by omega
 have HWG:=zh (show w.heap.size≤G by omega);have HWX:=zh (show w.heap.size≤X by omega);have hz1:G<W1.heap.size:=HR1.o.lt;have HEN0:=zh (zMB (A:=m.arcs) (F:=m.fins) (n:=S));have HM0:=zh (show offN (fun _=>false) S+1≤S+1 by have:=zGQ (fun _=>false) S;omega);simp only[← hG]
 try simp only[← hX]
 clear hW1 hG hX;go_upto_region 3 with fail
 go_loopg [4] (S+1) (fun gk av wr=>∃ (U:Nat→Bool) (again:Bool),av=.bool again∧Hid (wr.rowIs G 4 S (fun i=>.bool (U i)))∧Hid (Blk wr X 95 #[.int .i64 (S:Int),.slice (some ⟨gF,0,none⟩) S S,.slice (some ⟨gA,0,none⟩) S S,.slice (some ⟨gN,0,none⟩) S S])∧Hid (okU m.arcs m.fins S U)∧Hid (again=false→∀ t,t<S→U t=false→¬ ldB m.arcs m.fins U t)∧Hid (offN U S+(if again=true then 1 else 0)≤gk)∧Hid (Below w.heap.size w wr)∧G<wr.heap.size)
 case atStart=>exact⟨_,true,rfl,HR1,HX1,HEN0,zh (fun h=>by cases h),HM0,HB1,hz1⟩
 case round =>
  clear HR1 HX1 HEN0 HM0 HB1 hz1;obtain⟨U0,again,rfl,HR,HX,HOK,HST,HM,HB,hzr⟩:=hrel;cases again
  ·have HEND:=zh (zQ3 HA.o HOK.o (HST.o rfl));clear HX HOK HST HM;go_wp2;exact bodyPost_ret (v:=.slice (some ⟨G,0,none⟩) S S) (by simp[results,Try.results78,go_sem]) rfl ⟨G,U0,rfl,HWG.o,HR.o,HEND.o,HB.o⟩
  ·have x0:=HX.o.cell 0;simp at x0;(have lX:X<wr.heap.size:=by omega);have HEI:=zh (EnI.start HOK.o);have HM':=zh (show offN U0 S+1≤gk by have:=HM.o;rwa [if_pos rfl] at this);clear HOK HST HM;(go_upto_region 6 with fail);clear x0 lX
   go_loopw [4,12] (fun av sv wr=>∃ (s:Nat) (U:Nat→Bool) (again:Bool),s≤S∧av=.bool again∧sv=.int .i64 (s:Int)∧Hid (wr.rowIs G 4 S (fun i=>.bool (U i)))∧Hid (Blk wr X 95 #[.int .i64 (S:Int),.slice (some ⟨gF,0,none⟩) S S,.slice (some ⟨gA,0,none⟩) S S,.slice (some ⟨gN,0,none⟩) S S])∧Hid (EnI m.arcs m.fins S U0 U again s)∧Hid (Below w.heap.size w wr)∧G<wr.heap.size) (fun av sv _=>S-(intOf sv).toNat)
   case atStart=>exact⟨0,U0,false,by omega,rfl,rfl,HR,HX,HEI,HB,hzr⟩
   case round =>
    clear HR HX HEI HB hzr;obtain⟨s,U,again,hs,rfl,rfl,HR,HX,HEI,HB,hzr⟩:=hrel;by_cases hsS:s<S
    ·have cU:=HR.o.cell hsS;have fU:=HR.o.frozen s;obtain⟨u,hu⟩:∃ u,u=U s:=⟨_,rfl⟩;rw[← hu] at cU;have HU:=zh hu;(have lX:X<wr.heap.size:=by omega);clear hu;cases u
     ·have x0:=HX.o.cell 0;have x1:=HX.o.cell 1;have x2:=HX.o.cell 2;have x3:=HX.o.cell 3;simp at x0 x1 x2 x3;have HC:=zh (fun W (hb:Below wr.heap.size wr W)=>zNF m S gF gA gN G s va vn U W ((HO.o.below HB.o).below hb) (HR.o.of_block (hb.block G hzr)) hsS hS4 HN4.o HA.o);go_wp2_with fail;refine (HC.o _ (by first | exact Below.refl _ _ | go_grown)).mono ?_;rintro e w2 ⟨q,rfl,hq,hb2⟩;have HQ:=zh hq;have hz2:=hb2.size;have HR2:=zh (HR.o.of_block (hb2.block G hzr));have HX2:=zh (HX.o.below hb2 lX);have HB2:=zh (HB.o.trans (hb2.mono HB.o.size));clear hq hb2 x0 x1 x2 x3 cU fU;cases q
      ·have HEN:=zh (HEI.o.skip (.inr fun g=>by have:=HQ.o.2 g;cases this));clear HQ;go_wp2;go_roundw
       case rel=>exact⟨s+1,U,again,by omega,rfl,by go_num,HR2,HX2,HEN,HB2,by omega⟩
       case measure=>simp[intOf];omega
      ·have HEN:=zh (HEI.o.mark HA.o hsS HU.o.symm (HQ.o.1 rfl));clear HQ;have cU:=HR2.o.cell hsS;have fU:=HR2.o.frozen s;(have lG:G<w2.heap.size:=by omega);go_wp2;go_roundw
       case rel=>exact⟨s+1,upd U s,true,by omega,rfl,by go_num,zh ((HR2.o.set s (.bool true)).congr (fun i _=>zBC _ _ _)),zh (HX2.o.far (by simp;omega) _),HEN,zh (HB2.o.setCell (by show w.heap.size≤G;exact HWG.o) _),by simp[World.setCell];omega⟩
       case measure=>simp[intOf];omega
     ·have HEN:=zh (HEI.o.skip (.inl HU.o.symm));go_wp2;go_roundw
      case rel=>exact⟨s+1,U,again,by omega,rfl,by go_num,HR,HX,HEN,HB,hzr⟩
      case measure=>simp[intOf];omega
    ·(obtain rfl:S=s:=by omega);have HST:=zh (show again=false→∀ t,t<S→U t=false→¬ ldB m.arcs m.fins U t from fun g=>(HEI.o.same g).2);have HMN:=zh (show offN U S+(if again=true then 1 else 0)≤gk-1 by have:=HEI.o.cnt;have:=HM'.o;omega);have HOK:=zh HEI.o.ok;go_wp2
     go_roundg (gk-1)
     case measure=>have:=HM'.o;omega
     case rel=>exact⟨U,again,rfl,HR,HX,HOK,HST,HMN,HB,hzr⟩
theorem zI1 (m:Mach) (S gF gA gN gU:Nat) (va vn:Nat→Value) (U:Nat→Bool) (w:World) (hO:OpenAt w m S gF gA gN va vn) (hU:w.rowIs gU 4 S (fun i=>.bool (U i))) (h0:0<S) (hS4:S≤400) (hn4:m.arcs.length≤2000) (hA:inRange m.arcs S) :
 Calls Try.prog 79 #[opV S gF gA gN,.slice (some ⟨gU,0,none⟩) S S] w fun e w'=>∃ (g:Nat) (K:Nat→Bool),e=.returned (.tuple #[.slice (some ⟨g,0,none⟩) S S,.int .i64 (cntK K S:Int)])∧w.heap.size≤g∧w'.rowIs g 3 S (fun i=>.int .i64 (numK K i))∧(∀ k,k<S→(K k=true↔TR m.arcs U k))∧Below w.heap.size w w':=by
 obtain⟨i0,hi0,iz0,iz1,iz2⟩:=info_parts zAH;have HO:=zh hO;have HU:=zh hU;have HA:=zh hA;have HN4:=zh hn4;have HMKB:=zh (fun (W:World)=>run_make_row' (P:=Try.prog) 51 4 (.bool false) 1 Try.underlying51 zAN rfl .i64 .i64 S (by omega) (by omega) W);have HMKI:=zh (fun (W:World)=>run_make_row' (P:=Try.prog) 26 3 (.int .i64 0) 8 Try.underlying26 zAH rfl .i64 .i64 S (by omega) (by omega) W);have lU0:=hU.lt;clear hO hU hA hn4;unfold opV
 go_enter Try.func79,Try.ntmps79
 have hmk:=HMKB.o;have s0:(0:Int)<(S:Int):=by omega
 go_upto_region 2 with fail
 clear hmk;generalize hW1:wAd _ _=W0;obtain⟨X,hX⟩:∃ z,z=w.heap.size:=⟨_,rfl⟩;obtain⟨G,hG⟩:∃ z,z=w.heap.size+1:=⟨_,rfl⟩;have HX0:=zh (show Blk W0 X 95 #[.int .i64 (S:Int),.slice (some ⟨gF,0,none⟩) S S,.slice (some ⟨gA,0,none⟩) S S,.slice (some ⟨gN,0,none⟩) S S] by rw[← hW1];exact (Blk.at_ hX).alloc _)
 have HR0:=zh (show W0.rowIs G 4 S (fun i=>.bool ((fun _=>false:Nat→Bool) i)) by
  rw[← hW1,hG]
  have:=World.rowIs_made (w.alloc (Obj.cells #[.int .i64 (S:Int),.slice (some ⟨gF,0,none⟩) S S,.slice (some ⟨gA,0,none⟩) S S,.slice (some ⟨gN,0,none⟩) S S] 95)) (.bool false) S 4
  simpa using this)
 have HB0:=zh (show Below w.heap.size w W0 by rw[← hW1];go_grown);have hXG:X<G:=by omega
 have HWG:=zh (show w.heap.size≤G by omega);have hz0':G<W0.heap.size:=HR0.o.lt;have c0:=HR0.o.cell h0;have f0:=HR0.o.frozen 0;simp only[← hG]
 try simp only[← hX]
 clear hW1 hG hX;go_upto_region 4 with fail
 generalize hW1:wAd _ _=W1;have HX1:=zh (show Blk W1 X 95 #[.int .i64 (S:Int),.slice (some ⟨gF,0,none⟩) S S,.slice (some ⟨gA,0,none⟩) S S,.slice (some ⟨gN,0,none⟩) S S] by rw[← hW1];exact (HX0.o.far (by show X≠G;omega) _).alloc _);have HR1:=zh (show W1.rowIs G 4 S (fun i=>.bool (upd (fun _=>false) 0 i)) by rw[← hW1];exact ((HR0.o.set 0 (.bool true)).congr (fun i _=>zBC (fun _=>false) 0 i)).alloc _);obtain⟨T0,hT0⟩:∃ z,z=W0.heap.size:=⟨_,rfl⟩
 have HTO1:=zh (show W1.ownsRow (G+1) 3 1 (.slice (some ⟨T0,0,none⟩) 1 1) [0].length (intRow (castL [0])) by
  rw[← hW1]
  exact zBE (cs:=(#[.int .i64 0]:Array Value)) (Blk.at_ (by simp[hT0])) (by omega) (by simp[maxLen]))
 have HB1:=zh (show Below w.heap.size w W1 by rw[← hW1];exact (HB0.o.setCell (p:=⟨G,0,none⟩) (by exact HWG.o) _).alloc (by have:=HB0.o.size;simp;omega) _);have hz1:G<W1.heap.size:=HR1.o.lt;have HRC1:=zh (RcI.start (A:=m.arcs) (U:=U) h0);have HM1:=zh (show [0].length+offN (upd (fun _=>false) 0) S≤S+1 by have:=zGQ (upd (fun _=>false) 0) S;simp;omega);simp only[← hT0];clear hW1 hT0 c0 f0 HX0 HR0 HB0 hz0'
 go_loopg [7] (S+1) (fun gk tv wr=>∃ (H:Nat→Bool) (T:List Nat),Hid (wr.ownsRow (G+1) 3 1 tv T.length (intRow (castL T)))∧Hid (wr.rowIs G 4 S (fun i=>.bool (H i)))∧Hid (RcI m.arcs U S H T)∧Hid (T.length+offN H S≤gk)∧Hid (gk≤401)∧Hid (Below G W1 wr)∧G<wr.heap.size)
 case atStart=>exact⟨_,[0],HTO1,HR1,HRC1,HM1,zh (by omega),zh (Below.refl _ _),hz1⟩
 case round =>
  clear HTO1 HR1 HRC1 HM1;obtain⟨H,T,HTO,HR,HRC,HGK,HG4,HB,hzr⟩:=hrel;have HBW:=zh (show Below w.heap.size w wr from HB1.o.trans (HB.o.mono HWG.o));rcases List.eq_nil_or_concat T with hnil | ⟨T',s,hcat⟩
  ·subst hnil;have hto:=HTO.o;simp only[List.length_nil] at hto;obtain⟨Av,cv,rfl,_,_⟩:=zAa hto;have HALL:=zh (HRC.o.all HA.o h0);clear hto HTO HRC HGK HG4 hz1;obtain⟨W4,hW4⟩:∃ z,z=wr:=⟨_,rfl⟩;rw[← hW4] at HR HB HBW hzr ⊢;clear hW4;have x0:=(HX1.o.below HB.o hXG).cell 0;simp at x0;(have lX:X<W4.heap.size:=by omega);have hmk:=HMKI.o;(go_upto_region 21 with fail);clear hmk x0 lX;generalize hW5:wAd _ _=W5;obtain⟨M,hM⟩:∃ z,z=W4.heap.size:=⟨_,rfl⟩
   have HN5:=zh (show W5.rowIs M 3 S (fun i=>if i<0 then .int .i64 (numK H i) else .int .i64 0) by
    rw[← hW5,hM]
    exact (World.rowIs_made W4 (.int .i64 0) S 3).congr (fun i _=>by simp))
   have HR5:=zh (show W5.rowIs G 4 S (fun i=>.bool (H i)) by rw[← hW5];exact HR.o.alloc _);have HB5:=zh (show Below w.heap.size w W5 by rw[← hW5];exact HBW.o.alloc (by exact HBW.o.size) _);(have hGM:G<M:=by omega);have HWM:=zh (show w.heap.size≤M by have:=HWG.o;omega);have hz5:M<W5.heap.size:=HN5.o.lt;simp only[← hM];clear hW5 hM
   go_loopw [14,86] (fun cv sv wr=>∃ s:Nat,s≤S∧cv=.int .i64 (cntK H s:Int)∧sv=.int .i64 (s:Int)∧Hid (wr.rowIs M 3 S (fun i=>if i<s then .int .i64 (numK H i) else .int .i64 0))∧Hid (wr.rowIs G 4 S (fun i=>.bool (H i)))∧Hid (Below w.heap.size w wr)∧M<wr.heap.size) (fun _ sv _=>S-(intOf sv).toNat)
   case atStart=>exact⟨0,by omega,rfl,rfl,HN5,HR5,HB5,hz5⟩
   case round =>
    clear HN5 HR5 HB5 hz5;obtain⟨s,hs,rfl,rfl,HN,HR,HB6,hz6⟩:=hrel;by_cases hsS:s<S
    ·have cN:=HN.o.cell hsS;have fN:=HN.o.frozen s;have cH:=HR.o.cell hsS;obtain⟨h,hh⟩:∃ h,h=H s:=⟨_,rfl⟩;rw[← hh] at cH;have HH:=zh hh;have hcn:=zCB H s;obtain⟨cn,hcn'⟩:∃ z,z=cntK H s:=⟨_,rfl⟩;rw[← hcn'] at hcn ⊢;have HCN:=zh hcn';clear hh hcn';cases h
     ·have HC1:=zh (show cntK H (s+1)=cn by simp only[cntK];rw[← HH.o,← HCN.o];simp);have HNS:=zh (show numK H s = -1 by unfold numK;rw[← HH.o];simp);go_wp2;go_roundw
      case rel=>exact⟨s+1,by omega,by rw[HC1.o],by go_num,zh ((HN.o.set s (.int .i64 (-1))).congr (fun i _=>by
       by_cases e:i=s
       · subst e;rw[if_pos rfl,if_pos (by omega),HNS.o]
       ·rw[if_neg e];by_cases g:i<s
        · rw[if_pos g,if_pos (by omega)]
        · rw[if_neg g,if_neg (by omega)])),zh (HR.o.setOther (a:=⟨M,s,none⟩) (by show G≠M;omega) _),zh (HB6.o.setCell (p:=⟨M,s,none⟩) (by exact HWM.o) _),by simp[World.setCell];omega⟩
      case measure=>simp[intOf];omega
     ·have HC1:=zh (show cntK H (s+1)=cn+1 by simp only[cntK];rw[← HH.o,← HCN.o];simp);have HNS:=zh (show numK H s=(cn:Int) by unfold numK;rw[← HH.o,← HCN.o];simp);go_wp2;go_roundw
      case rel=>exact⟨s+1,by omega,by rw[HC1.o];go_num,by go_num,zh (((HN.o.set s (.int .i64 (-1))).set s (.int .i64 (cn:Int))).congr (fun i _=>by
       by_cases e:i=s
       · subst e;rw[if_pos rfl,if_pos (by omega),HNS.o]
       ·rw[if_neg e,if_neg e];by_cases g:i<s
        · rw[if_pos g,if_pos (by omega)]
        · rw[if_neg g,if_neg (by omega)])),zh ((HR.o.setOther (a:=⟨M,s,none⟩) (by show G≠M;omega) _).setOther (a:=⟨M,s,none⟩) (by show G≠M;omega) _),zh ((HB6.o.setCell (p:=⟨M,s,none⟩) (by exact HWM.o) _).setCell (p:=⟨M,s,none⟩) (by exact HWM.o) _),by simp[World.setCell];omega⟩
      case measure=>simp[intOf];omega
    ·(obtain rfl:S=s:=by omega);have HNF:=zh (HN.o.congr (g:=fun i=>.int .i64 (numK H i)) (fun i hi=>by rw[if_pos hi]));go_wp2;exact bodyPost_ret (v:=.tuple #[.slice (some ⟨M,0,none⟩) S S,.int .i64 (cntK H S:Int)]) (by simp[results,Try.results79,go_sem]) rfl ⟨M,H,rfl,HWM.o,HNF.o,HALL.o,HB6.o⟩
  ·rw[List.concat_eq_append] at hcat;subst hcat;have hsS:s<S:=HRC.o.rng s (by simp);rw[zAA,zAd,wAa] at HTO;obtain⟨g,cap,rfl,hg1,hg2⟩:=HTO.o.form (by simp);have hown:wr.ownsRow (G+1) 3 1 (.slice (some ⟨g,0,none⟩) (T'.length+1) cap) (T'.length+1) (intRow (castL T')++[.int .i64 (s:Int)]):=HTO.o;obtain⟨A1,c1,hv1,hc1,hc2⟩:=zAa hown;(obtain⟨rfl,rfl⟩:A1=some ⟨g,0,none⟩∧c1=cap:=by injection hv1 with e1 e2 e3;exact⟨e1.symm,e3.symm⟩);have hlT:(intRow (castL T')).length=T'.length:=by rw[zAh,zBf]
   have cT:wr.cell? ⟨g,T'.length,none⟩=some (.int .i64 (s:Int)):=by
    rw[hown.cellAt _ (by omega),List.getElem?_append_right (by rw[hlT];exact wAc _),hlT];simp
   have hpop:=ownsRow_pop (by rw[hlT];omega) hown;have HJ0:=zh HRC.o.pop;have HGK':=zh (show T'.length+offN H S≤gk-1 by have:=HGK.o;rw[wAa,wAb] at this;omega);have HG1:=zh (show 1≤gk by have:=HGK.o;rw[wAa,wAb] at this;omega);obtain⟨n1,hn1⟩:∃ z,z=T'.length:=⟨_,rfl⟩;have HPOP:=zh hpop;have HN1:=zh hn1;rw[← hn1] at HPOP hc1 cT ⊢;simp only[wAb];(have hn8:n1≤401:=by have h1:=HGK'.o;have h2:=HG4.o;omega);obtain⟨AN,cN,cn0,hrn⟩:=HO.o.nearAt hsS;have HRN:=zh hrn;have cn:=zAb HBW.o cn0 HO.o.lts.2.2;obtain⟨N,hN⟩:∃ z,z=(nearN m.arcs S s).length:=⟨_,rfl⟩;rw[← hN] at cn HRN;(have hN4:N≤400:=by have:=zDX m.arcs S s;omega);have HNL:=zh hN;have lg:gN<wr.heap.size:=(HO.o.below HBW.o).lts.2.2;have x3:=(HX1.o.below HB.o hXG).cell 3;simp at x3;(have lX:X<wr.heap.size:=by omega);clear hv1 hn1 hown hpop HTO hlT HGK HRC hrn hN cn0;obtain⟨W6,hW6⟩:∃ z,z=wr:=⟨_,rfl⟩;rw[← hW6] at HPOP HB HBW HR hzr cT cn x3 lX lg hg2 ⊢;clear hW6;have HT6:=zh (show W6.ownsRow (G+1) 3 1 (.slice (some ⟨g,0,none⟩) n1 c1) T'.length (intRow (castL T')) by rw[← HN1.o];exact HPOP.o);have HJ6:=zh (show RcJ m.arcs U S s (visL m.arcs S s 0) H T' by rw[zFB];exact HJ0.o);(go_upto_region 8 with fail);clear cT cn x3
   go_loopw [7,43] (fun tv jv wr=>∃ (j:Nat) (H:Nat→Bool) (T:List Nat),j≤N∧jv=.int .i64 (j:Int)∧Hid (wr.ownsRow (G+1) 3 1 tv T.length (intRow (castL T)))∧Hid (wr.rowIs G 4 S (fun i=>.bool (H i)))∧Hid (RcJ m.arcs U S s (visL m.arcs S s j) H T)∧Hid (T.length+offN H S≤gk-1)∧Hid (Below G W1 wr)∧G<wr.heap.size) (fun _ jv _=>N-(intOf jv).toNat)
   case atStart=>exact⟨0,H,T',by omega,rfl,HT6,HR,HJ6,HGK',HB,hzr⟩
   case round =>
    clear HT6 HR HJ6 HGK' HB HBW hzr HPOP HJ0;obtain⟨j,H,T,hj,rfl,HT,HR,HJ,HGK',HB,hzr⟩:=hrel;have HBW:=zh (show Below w.heap.size w wr from HB1.o.trans (HB.o.mono HWG.o));by_cases hjN:j<N
    ·obtain⟨bb,off,k,rfl,hbB,d0,HK⟩:=zIY (HRN.o.below HBW.o (wAc _)) HNL.o.symm hjN;have hzw:=HBW.o.size;obtain⟨hkS,hkn⟩:=nearN_mem.1 (wAf HK.o);have HKN:=zh hkn;have HVN:=zh (zE5 HK.o);obtain⟨AA,cA,ca0,hra⟩:=HO.o.arcsAt hkS;have HRA:=zh hra;have ca:=zAb HBW.o ca0 HO.o.lts.2.1;obtain⟨q1,hq1⟩:∃ z,z=(arN m.arcs m.arcs.length k).length:=⟨_,rfl⟩;rw[← hq1] at ca HRA;(have hq2:q1≤2000:=by have:=zFH m.arcs m.arcs.length k;have:=HN4.o;omega);have HQL:=zh hq1;(have lga:gA<wr.heap.size:=by have:=HO.o.lts.2.1;omega);have x2:=(HX1.o.below HB.o hXG).cell 2;simp at x2;(have lXr:X<wr.heap.size:=by omega);clear hkn HK hra hq1 ca0;obtain⟨W7,hW7⟩:∃ z,z=wr:=⟨_,rfl⟩;rw[← hW7] at HT HB HBW HR hzr hzw ca d0 x2 lXr lga ⊢;clear hW7;have HJ7:=zh (show RcJ m.arcs U S s (visL m.arcs S s j++(arN m.arcs m.arcs.length k).take 0) H T by simpa using HJ.o);(go_upto_region 11 with fail);clear d0 ca x2
     go_loopw [7,53] (fun tv iv wr=>∃ (i:Nat) (H:Nat→Bool) (T:List Nat),i≤q1∧iv=.int .i64 (i:Int)∧Hid (wr.ownsRow (G+1) 3 1 tv T.length (intRow (castL T)))∧Hid (wr.rowIs G 4 S (fun i=>.bool (H i)))∧Hid (RcJ m.arcs U S s (visL m.arcs S s j++(arN m.arcs m.arcs.length k).take i) H T)∧Hid (T.length+offN H S≤gk-1)∧Hid (Below G W1 wr)∧G<wr.heap.size) (fun _ iv _=>q1-(intOf iv).toNat)
     case atStart=>exact⟨0,H,T,by omega,rfl,HT,HR,HJ7,HGK',HB,hzr⟩
     case round =>
      clear HT HR HJ7 HGK' HB HBW hzr hzw HJ;obtain⟨i,H,T,hi,rfl,HT,HR,HJ,HGK',HB,hzr⟩:=hrel;have HBW:=zh (show Below w.heap.size w wr from HB1.o.trans (HB.o.mono HWG.o));have hzw:=HBW.o.size;by_cases hiq:i<q1
      ·obtain⟨b2,off2,x,rfl,hbB2,e0,e1,e2,e3,e4,HX⟩:=zAp (HRA.o.below HBW.o (wAc _)) hiq;have hxl:=zBN (by rw[← HQL.o];exact hiq) HX.o;obtain⟨hxA,hxi,hxf⟩:=arN_mem.1 hxl;have HXA:=zh hxA;have HXI:=zh hxi;have HXF:=zh (show Near m.arcs (s:Int) x.f by rw[hxf];exact HKN.o);have HTK:=zh (zAY (by rw[← HQL.o];exact hiq) HX.o);obtain⟨r0,r1,r2,r3⟩:=HA.o x hxA;(have hts:x.t.toNat<S:=by omega);have cU:=(HU.o.of_block (HBW.o.block gU HU.o.lt)).cell hts;(have lUr:gU<wr.heap.size:=by have:=HU.o.lt;omega);have cH:=HR.o.cell hts;have fH:=HR.o.frozen x.t.toNat;obtain⟨u,hu⟩:∃ u,u=U x.t.toNat:=⟨_,rfl⟩;rw[← hu] at cU;have HUU:=zh hu;obtain⟨h,hh⟩:∃ u,u=H x.t.toNat:=⟨_,rfl⟩;rw[← hh] at cH;have HHH:=zh hh;clear hxl hxA hxi hxf HX hu hh
       have skip:(u=false∨h=true)→Hid (RcJ m.arcs U S s (visL m.arcs S s j++(arN m.arcs m.arcs.length k).take (i+1)) H T):=fun hc=>zh (by
        rw[HTK.o,← wAh];(refine HJ.o.skip fun g=>?_);rcases hc with e | e
        · rw[← HUU.o,e] at g;cases g
        · rw[← HHH.o];exact e)
       cases u
       ·have HJN:=skip (.inl rfl);clear skip;go_wp2;go_roundw
        case rel=>exact⟨i+1,H,T,by omega,by go_num,zh (HT.o.alloc _),zh (HR.o.alloc _),HJN,HGK',zh (HB.o.alloc (by omega) _),by simp;omega⟩
        case measure=>simp[intOf];omega
       ·cases h
        ·clear skip;have HJN:=zh (HJ.o.push HA.o HXA.o HXI.o HXF.o HUU.o.symm);rw[wAh,← HTK.o] at HJN;have HPU:=zh (zEJ HHH.o.symm S hts);obtain⟨Av,cv,rfl,hcv,_⟩:=zAa HT.o;obtain⟨n2,hn2⟩:∃ z,z=T.length:=⟨_,rfl⟩;have HN2:=zh hn2;rw[← hn2] at HT ⊢;(have hn3:n2≤401:=by have:=HGK'.o;have:=HG4.o;rw[← hn2] at *;omega);(have neG:(Value.slice Av n2 cv).ownBlock≠some G:=fun e=>by have:=(HT.o.lt _ e).1;omega);clear hn2;(go_upto_region 14 with fail);generalize hW8:wAd _ _=W8;obtain⟨bx,hbx⟩:∃ z,z=wr.heap.size:=⟨_,rfl⟩;have HX8:=zh (show Blk W8 bx 64 #[.int .i64 x.f,.int .i64 x.t,.int .i64 x.i,.int .i64 x.o,.int .i64 x.w] by rw[← hW8];exact Blk.at_ hbx);have HT8:=zh (show W8.ownsRow (G+1) 3 1 (.slice Av n2 cv) n2 (intRow (castL T)) by rw[← hW8];exact HT.o.alloc _);have HR8:=zh (show W8.rowIs G 4 S (fun i=>.bool (H i)) by rw[← hW8];exact HR.o.alloc _);have HB8:=zh (show Below G W1 W8 by rw[← hW8];exact HB.o.alloc (by omega) _);have hs8:bx<W8.heap.size:=HX8.o.lt;(have hGx:G<bx:=by omega);(have lG8:G<W8.heap.size:=by omega);have cH:=HR8.o.cell hts;have fH:=HR8.o.frozen x.t.toNat;have x1:=HX8.o.cell 1;simp at x1;simp only[← hbx];clear hW8 hbx HT HR HB cU e0 e1 e2 e3 e4;go_wp2_with (at_builtin;go_loud (refine wpList_append_own_at _ rfl (.tmp 74) (.tmp 77) 26 rfl (G+1) 3 i0 _ 1 8 Try.underlying26 hi0 iz0 iz1 iz2 rfl (by omega) (.slice Av n2 cv) n2 (intRow (castL T)) rfl ((ownsRow_setCell_other HT8.o (a:=⟨G,x.t.toNat,none⟩) neG (.bool true)).alloc _) ⟨W8.heap.size,0,none⟩ 1 1 (intRow [x.t]) rfl (by rfl) (World.news_of_block (cs:=(intRow [x.t]).toArray) (t:=3) (fr:=(0,0)) (Blk.at_ (by simp))) (zAg _) (by simp only[maxLen];omega) (by omega) (by simp<;>omega) ?_;intro v' w6 hown2 hg2 _ hat2;obtain⟨Av2,cv2,rfl,hkcv,_⟩:=zAa hown2));have hs6:=hg2.size;simp at hs6
         have HTN:=zh (show w6.ownsRow (G+1) 3 1 (.slice Av2 (n2+1) cv2) (T++[x.t.toNat]).length (intRow (castL (T++[x.t.toNat]))) by
          rw[zAA,zAd,wAa,← HN2.o]
          have:intRow (castL [x.t.toNat])=intRow [x.t]:=by
           show intRow [((x.t.toNat:Nat):Int)]=_
           rw[show ((x.t.toNat:Nat):Int)=x.t by omega]
          rw[this]
          exact hown2)
         have HRN2:=zh (((((HR8.o.set x.t.toNat (.bool true)).congr (fun i _=>zBC H x.t.toNat i)).alloc _).of_block (hg2.block G (by simp;omega) (Ne.symm neG))));have HBN:=zh (((HB8.o.setCell (p:=⟨G,x.t.toNat,none⟩) (by exact wAc _) (.bool true)).alloc (by simp;omega) _).grown hg2 (by simp;omega) (fun z hz=>by have:=(HT8.o.lt _ hz).1;omega))
         have HGN:=zh (show (T++[x.t.toNat]).length+offN (upd H x.t.toNat) S≤gk-1 by
          rw[wAa,wAb];have h1:=HPU.o;have h2:=HGK'.o
          omega)
         clear hown2 hg2 hat2;go_roundw
         case rel=>exact⟨i+1,upd H x.t.toNat,T++[x.t.toNat],by omega,by go_num,HTN,HRN2,HJN,HGN,HBN,by omega⟩
         case measure=>simp[intOf];omega
        ·have HJN:=skip (.inr rfl);clear skip;go_wp2;go_roundw
         case rel=>exact⟨i+1,H,T,by omega,by go_num,zh (HT.o.alloc _),zh (HR.o.alloc _),HJN,HGK',zh (HB.o.alloc (by omega) _),by simp;omega⟩
         case measure=>simp[intOf];omega
      ·(obtain rfl:q1=i:=by omega);have HJN:=zh (show RcJ m.arcs U S s (visL m.arcs S s (j+1)) H T by rw[HVN.o];have:=HJ.o;rwa [HQL.o,wAe] at this);go_wp2;go_roundw
       case rel=>exact⟨j+1,H,T,by omega,by go_num,HT,HR,HJN,HGK',HB,hzr⟩
       case measure=>simp[intOf];omega
    ·(obtain rfl:N=j:=by omega);have HRI:=zh (HJ.o.all (fun a ha h1 h2=>by rw[HNL.o];exact (zG8 HA.o).2 ⟨ha,h1,h2⟩));go_wp2
     go_roundg (gk-1)
     case measure=>have:=HG1.o;omega
     case rel=>exact⟨H,T,HT,HR,HRI,HGK',zh (by have:=HG4.o;omega),HB,hzr⟩
end Go.Proofs.Ytkfdhpbnphojoaa
namespace Gm
open Go Go.RowKit
def kvI (x:Int):Value:=.int .i64 x
def okI (x:Int):Prop:=0≤x∧x≤2000000
structure ToI (w:World) (H:Nat) (eI:TypeId) (Tb:Nat) (lv:Value) (Lb:List Int) (V:List Arc) (L:List (Int×Value)) (vx:Int→Value):Prop where
 map:MapIs w kvI okI Tb L
 low:H≤Tb
 dom:∀ x,lk L x=if x∈labV V then some (vx x) else none
 own:∀ x,x∈labV V→w.ownsRow H eI 1 (vx x) (tgtV V x).length (intRow (tgtV V x))
 dis:∀ x y,x∈labV V→y∈labV V→x≠y→(vx x).ownBlock=none∨(vx x).ownBlock≠(vx y).ownBlock
 lab:w.ownsRow H eI 1 lv Lb.length (intRow Lb)
 ldis:∀ x,x∈labV V→(vx x).ownBlock=none∨(vx x).ownBlock≠lv.ownBlock
section
variable {w w1 w2:World} {H Tb:Nat} {eI:TypeId} {lv lv':Value} {Lb:List Int} {V:List Arc} {L:List (Int×Value)} {vx:Int→Value}
theorem zAk {base sz n:Nat} {e:TypeId} {v:Value} {xs:List Value} (h:w.ownsRow base e sz v n xs) {b:Nat} {α:Type} {kv:α→Value} {ok:α→Prop} {M:List (α×Value)} (hm:MapIs w kv ok b M):v.ownBlock≠some b:=by
 rcases h.2 with⟨rfl,_⟩ | ⟨g,c,cur,rfl,_,hh,_⟩
 · simp[Value.ownBlock]
 ·intro e
  have:g=b:=by simpa[Value.ownBlock] using e
  subst this;obtain⟨es,clock,hb,_⟩:=hm;rw[hh] at hb;cases hb
theorem zEa {base sz n:Nat} {e:TypeId} {v:Value} {xs:List Value} (h:w.ownsRow base e sz v n xs) {b:Nat} {α:Type} {kv:α→Value} {ok:α→Prop} {M:List (α×Value)} (hm:MapIs w kv ok b M):v.ownBlock=none∨v.ownBlock≠some b:=.inr (zAk h hm)
theorem ToI.nil (hm:MapIs w kvI okI Tb []) (hl:H≤Tb):ToI w H eI Tb (.slice none 0 0) [] [] [] vx :=
 ⟨hm,hl,fun x=>by simp[zDU,lk],fun x hx=>(by rw[zDU] at hx;cases hx),fun x y hx=>(by rw[zDU] at hx;cases hx),World.ownsRow_nil _ _ _ _,fun x hx=>(by rw[zDU] at hx;cases hx)⟩
theorem ToI.alloc (h:ToI w H eI Tb lv Lb V L vx) (o:Obj):ToI (w.alloc o) H eI Tb lv Lb V L vx :=
 ⟨h.map.alloc o,h.low,h.dom,fun x hx=>(h.own x hx).alloc o,h.dis,h.lab.alloc o,h.ldis⟩
theorem ToI.drew (h:ToI w H eI Tb lv Lb V L vx):ToI w.drew H eI Tb lv Lb V L vx:=⟨h.map,h.low,h.dom,h.own,h.dis,h.lab,h.ldis⟩
theorem ToI.below (h:ToI w H eI Tb lv Lb V L vx) (hb:Below w.heap.size w w1):ToI w1 H eI Tb lv Lb V L vx :=
 ⟨h.map.below hb h.map.lt,h.low,h.dom,fun x hx=>zAG (h.own x hx) hb,h.dis,zAG h.lab hb,h.ldis⟩
theorem ToI.pushL (h:ToI w H eI Tb lv Lb V L vx) {x:Int} (hg:w.grownBy w1 lv.ownBlock) (hown:w1.ownsRow H eI 1 lv' (Lb.length+1) (intRow Lb++intRow [x])) (hat:lv'.ownBlock=lv.ownBlock∨∃ k,lv'.ownBlock=some k∧w.heap.size≤k):ToI w1 H eI Tb lv' (Lb++[x]) V L vx:=by
 refine⟨h.map.kept hg (Ne.symm (zAk h.lab h.map)),h.low,h.dom,fun y hy=>(h.own y hy).kept hg (h.ldis y hy),h.dis,by rw[zAd,wAa];exact hown,fun y hy=>?_⟩;rcases hat with e | ⟨k,e,hk⟩
 · rw[e];exact h.ldis y hy
 ·cases e2:(vx y).ownBlock with
  | none=>exact .inl rfl
  | some g =>
   right;rw[e];intro e3
   have:=((h.own y hy).lt g e2).2
   (injection e3 with e3);omega
theorem ToI.pushT (h:ToI w H eI Tb lv Lb V L vx) {a:Arc} {v0 v':Value} (h0:v0=if a.i∈labV V then vx a.i else .slice none 0 0) (hg:w.grownBy w1 v0.ownBlock) (hown:w1.ownsRow H eI 1 v' ((tgtV V a.i).length+1) (intRow (tgtV V a.i)++intRow [a.t]))
 (hat:v'.ownBlock=v0.ownBlock∨∃ k,v'.ownBlock=some k∧w.heap.size≤k) (hm:MapIs w2 kvI okI Tb (upL L a.i v')) (hg2:w1.grownBy w2 (some Tb)) :
 ToI w2 H eI Tb lv Lb (V++[a]) (upL L a.i v') (fun x=>if x=a.i then v' else vx x):=by
 have hv0:v0.ownBlock≠some Tb:=by
  rw[h0];split
  · rename_i hi;exact zAk (h.own _ hi) h.map
  · simp[Value.ownBlock]
 have hm1:MapIs w1 kvI okI Tb L:=h.map.kept hg (Ne.symm hv0);have mem:∀ x,x∈labV (V++[a])↔x∈labV V∨x=a.i:=fun x=>by rw[zFs,addL_mem]
 have far0:∀ x,x∈labV V→x≠a.i→(vx x).ownBlock=none∨(vx x).ownBlock≠v0.ownBlock:=fun x hx hne=>by
  rw[h0];split
  · rename_i hi;exact h.dis x a.i hx hi hne
  · cases (vx x).ownBlock<;>simp[Value.ownBlock]
 have far1:∀ {u:Value},(∀ k,u.ownBlock=some k→k<w.heap.size)→(u.ownBlock=none∨u.ownBlock≠v0.ownBlock)→(u.ownBlock=none∨u.ownBlock≠v'.ownBlock):=fun {u} hl hu=>by
  rcases hat with e | ⟨k,e,hk⟩
  · rw[e];exact hu
  ·cases e2:u.ownBlock with
   | none=>exact .inl rfl
   | some g =>
    right;rw[e];intro e3
    have:=hl g e2
    (injection e3 with e3);omega
 have lab0:lv.ownBlock=none∨lv.ownBlock≠v0.ownBlock:=by
  rw[h0];split
  ·rename_i hi
   rcases h.ldis _ hi with g | g
   · rw[g];cases lv.ownBlock<;>simp
   · exact .inr (Ne.symm g)
  · cases lv.ownBlock<;>simp[Value.ownBlock]
 refine⟨hm,h.low,fun x=>?_,fun x hx=>?_,fun x y hx hy hne=>?_,?_,fun x hx=>?_⟩
 ·rw[lk_up,h.dom];by_cases e:x=a.i
  · rw[if_pos e,if_pos e,if_pos ((mem x).2 (.inr e))]
  ·rw[if_neg e,if_neg e];by_cases g:x∈labV V
   · rw[if_pos g,if_pos ((mem x).2 (.inl g))]
   · rw[if_neg g,if_neg (fun k=>by rcases (mem x).1 k with k | k;exact g k;exact e k)]
 ·by_cases e:x=a.i
  ·subst e;simp only[if_pos];rw[zIM,if_pos rfl,zAd,wAa];exact hown.kept hg2 (zEa hown hm1)
  ·simp only[if_neg e];have hx':x∈labV V:=((mem x).1 hx).resolve_right e;rw[zIM,if_neg (fun g=>e g.symm)];have h1:=(h.own x hx').kept hg (far0 x hx' e);exact h1.kept hg2 (zEa h1 hm1)
 ·by_cases e:x=a.i
  ·(have e':y≠a.i:=fun g=>hne (e.trans g.symm));simp only[if_pos e,if_neg e'];have hy':y∈labV V:=((mem y).1 hy).resolve_right e';rcases far1 (fun k hk=>((h.own y hy').lt k hk).2) (far0 y hy' e') with g | g
   · rw[g];cases v'.ownBlock<;>simp
   · exact .inr (Ne.symm g)
  ·have hx':x∈labV V:=((mem x).1 hx).resolve_right e;by_cases e':y=a.i
   ·simp only[if_neg e,if_pos e'];exact far1 (fun k hk=>((h.own x hx').lt k hk).2) (far0 x hx' e)
   ·simp only[if_neg e,if_neg e'];exact h.dis x y hx' (((mem y).1 hy).resolve_right e') hne
 ·have h1:=h.lab.kept hg lab0;exact h1.kept hg2 (zEa h1 hm1)
 ·by_cases e:x=a.i
  ·simp only[if_pos e];rcases far1 (fun k hk=>(h.lab.lt k hk).2) lab0 with g | g
   · rw[g];cases v'.ownBlock<;>simp
   · exact .inr (Ne.symm g)
  ·simp only[if_neg e];exact h.ldis x (((mem x).1 hx).resolve_right e)
end
theorem zNe {V:List Arc} {x:Int} (h:x∈labV V):0<(tgtV V x).length:=by
 obtain⟨a,ha,e⟩:=(zEO V x).1 h;exact List.length_pos_of_mem (tgtV_mem.2 ⟨a,ha,e,rfl⟩)
theorem ToI.kept {w w1:World} {H Tb:Nat} {eI:TypeId} {lv:Value} {Lb:List Int} {V:List Arc} {L:List (Int×Value)} {vx:Int→Value} (h:ToI w H eI Tb lv Lb V L vx) {row:Option Nat} (hg:w.grownBy w1 row) (h1:some Tb≠row) (h2:lv.ownBlock=none∨lv.ownBlock≠row) (h3:∀ x,x∈labV V→(vx x).ownBlock=none∨(vx x).ownBlock≠row):ToI w1 H eI Tb lv Lb V L vx :=
 ⟨h.map.kept hg h1,h.low,h.dom,fun x hx=>(h.own x hx).kept hg (h3 x hx),h.dis,h.lab.kept hg h2,h.ldis⟩
theorem ToI.far {w:World} {H Tb:Nat} {eI:TypeId} {lv:Value} {Lb:List Int} {V:List Arc} {L:List (Int×Value)} {vx:Int→Value} (h:ToI w H eI Tb lv Lb V L vx) {p:Addr} (h1:Tb≠p.block) (h2:lv.ownBlock≠some p.block) (h3:∀ x,x∈labV V→(vx x).ownBlock≠some p.block) (u:Value):ToI (w.setCell p u) H eI Tb lv Lb V L vx :=
 ⟨h.map.set_ h1 u,h.low,h.dom,fun x hx=>ownsRow_setCell_other (h.own x hx) (h3 x hx) u,h.dis,ownsRow_setCell_other h.lab h2 u,h.ldis⟩
theorem ToI.relab {w w1:World} {H Tb:Nat} {eI:TypeId} {lv:Value} {Lb Lb':List Int} {V:List Arc} {L:List (Int×Value)} {vx:Int→Value} (h:ToI w H eI Tb lv Lb V L vx) (hg:w.grownBy w1 lv.ownBlock) (hown:w1.ownsRow H eI 1 lv Lb'.length (intRow Lb')):ToI w1 H eI Tb lv Lb' V L vx :=
 ⟨h.map.kept hg (Ne.symm (zAk h.lab h.map)),h.low,h.dom,fun y hy=>(h.own y hy).kept hg (h.ldis y hy),h.dis,hown,h.ldis⟩
theorem zHX {P:Program} {A:Act} {o:Oper} {m x:Operand} {t:TypeId} (hop:o.op=Op.lookup t m x false) {bm k v:Value} (hm:A.eval m=bm) (hx:A.eval x=k) {w:World} (h:(Instr.lookup t bm k false).run P w=.ok v w):(execOp A.eval o).run P w=.ok (.value v) w:=by
 simp[execOp,hop,hm,hx,h,Result.andThen]
theorem zD1 {P:Program} {α:Type} [DecidableEq α] {w:World} {kv:α→Value} {ok:α→Prop} {b:Nat} {kt:TypeId} {L:List (α×Value)} {ops:Array Oper} {rest:List Oper} {o:Oper} {A:Act} {Q:Exit→Act→World→Prop} (hg:o.guard=none) (m x v:Operand) (t:TypeId) (hop:o.op=Op.insert t m x v)
 (k:KL P kt kv ok) {e:TypeId} (ht:P.underlying t=some (.map kt e)) (hm:A.eval m=.map (some b)) (h:MapIs w kv ok b L) (a:α) (hx:A.eval x=kv a) (ha:ok a) (val:Value) (hv:A.eval v=val)
 (hK:∀ w',MapIs w' kv ok b (upL L a val)→w.grownBy w' (some b)→w'.heap.size=w.heap.size→wpList P ops Q rest (A.put o.dst undef) w') :
 wpList P ops Q (o::rest) A w:=by
 refine wpList_plain hg fun K' hK'=>?_
 obtain⟨w',hrun,h1,h2,h3⟩:=h.run_up k ht ha val;unfold Oper.wp;simp[execOp,hop,hm,hx,hv,hrun,Result.andThen];exact hK' _ _ (hK w' h1 h2 h3)
end Gm
namespace Go.Proofs.Ytkfdhpbnphojoaa
open Go.RowKit Gm
theorem zFF:KL Try.prog 3 kvI okI:=⟨Maps.int_keyed Try.underlying3,fun a ha=>by
 unfold okI at ha;unfold keyOf kvI;rw[Try.underlying3];refine⟨.int .i64 a,?_⟩;have w1:(Lit.int .i64 a).wf=true:=by simp[Lit.wf,IntKind.min,IntKind.max,IntKind.signed,IntKind.bits];omega
 simp[mapKey,Try.underlying3,w1],fun a b h=>by
 unfold kvI at h
 injection h⟩
theorem zRh (a:Addr) (n c:Nat) (W:World):(binOp .eql 26 (.slice (some a) n c) (.slice none 0 0)).run Try.prog W=.ok (.bool false) W:=by
 simp[go_sem,binOp,run_equal_slice_nil W 26 3 (some a) n c Try.underlying26]
theorem zOt (W:World):(binOp .eql 26 (.slice none 0 0) (.slice none 0 0)).run Try.prog W=.ok (.bool true) W:=by
 simp[go_sem,binOp,run_equal_slice_nil W 26 3 none 0 0 Try.underlying26]
theorem zCg (W:World):(zeroValue 26).run Try.prog W=.ok (.slice none 0 0) W:=by kernel_rfl
end Go.Proofs.Ytkfdhpbnphojoaa
