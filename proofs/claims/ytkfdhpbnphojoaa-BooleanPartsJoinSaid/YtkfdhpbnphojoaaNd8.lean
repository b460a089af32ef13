/- Part of the proof. -/
import Derived.Test.YtkfdhpbnphojoaaNd7
import Derived.Test.YtkfdhpbnphojoaaNd6
import Derived.IntWalk
import Derived.Deep.Cut
import Derived.LoopTactic
set_option linter.unusedSimpArgs false
set_option linter.unusedVariables false
set_option maxRecDepth 100000
set_option maxHeartbeats 8000000
open List renaming getElem?_eq_getElem→wAa,take_of_length_le→wAb,take_add_one→wAc,mem_append→wAd
open Nat renaming le_refl→wAe
open Bool renaming or_eq_false_iff→wAf
namespace Gm
def badA (a:Arc):Bool:=decide (a.i≠a.o)||decide (a.w≠0)
def badF (x:Fnl):Bool:=decide (x.w≠0)
def accF (m:Mach):Int×Int:=if validate m=(0,0) then (match m.arcs.findIdx? badA with
 | some k=>(4,(k:Int))
 | none=>match m.fins.findIdx? badF with
  | some k=>(4,(m.arcs.length:Int)+(k:Int))
  | none=>(0,0)) else validate m
theorem zGK {α:Type} {p:α→Bool} {l:List α} {k:Nat} {x:α} (hk:k<l.length) (hx:l[k]=x) (h:∀ y∈l.take k,p y=false) (hp:p x=true):l.findIdx? p=some k:=by
 rw[List.findIdx?_eq_some_iff_getElem];refine⟨hk,by rw[hx];exact hp,fun j hj=>?_⟩
 have:l[j]∈l.take k:=by
  rw[List.mem_take_iff_getElem];exact⟨j,by omega,rfl⟩
 rw[h _ this];simp
theorem zEb {α:Type} {p:α→Bool} {l:List α} (h:∀ y∈l,p y=false):l.findIdx? p=none:=by
 rw[List.findIdx?_eq_none_iff];exact h
end Gm
namespace Go.Proofs.Ytkfdhpbnphojoaa
open Go.RowKit Gm
theorem fEq0A {p:Int×Int} : fEq p.1 p.2 0 0=true↔p=(0,0):=by
 obtain⟨a,b⟩:=p;unfold fEq;simp
theorem zAx (a b:Int) (w:World) :
 Calls Try.prog 69 #[.int .i64 a,.int .i64 b] w fun e w'=>e=.returned (.agg #[.int .i64 a,.int .i64 b])∧Below w.heap.size w w':=by
 go_enter Try.func69,Try.ntmps69
 go_wp2;exact bodyPost_ret (v:=.agg #[.int .i64 a,.int .i64 b]) (by simp[results,Try.results69,go_sem]) rfl ⟨rfl,(Below.refl _ _).alloc (wAe _) _⟩
theorem zC2 (va:Value) (a:Mach) (w:World) (B:Nat) (hB:B≤w.heap.size) (ha:MachAt w B va a) :
 Calls Try.prog 14 #[va] w fun e w'=>e=.returned (.agg #[.int .i64 (accF a).1,.int .i64 (accF a).2])∧Below w.heap.size w w':=by
 have HM:=zh ha;obtain⟨A,AF,n,c,nf,cf,rfl,HN,HF,hnc,hnfc,hnb,hnfb,hA,hF⟩:=ha;have HRA:=zh hA;have HRF:=zh hF;have hne:=fun a b c d W=>zAn a b c d W
 have HQ:=zh (fun W (B:Nat) (hB:B≤W.heap.size) (h:MachAt W B (.agg #[.int .i64 a.n,.slice A n c,.slice AF nf cf]) a)=>zI9 _ a W B hB h);obtain⟨f1,hf1⟩:∃ z,z=(validate a).1:=⟨_,rfl⟩;obtain⟨f2,hf2⟩:∃ z,z=(validate a).2:=⟨_,rfl⟩;rw[← hf1,← hf2] at HQ;have HFF:=zh (show (f1,f2)=validate a by rw[hf1,hf2]);unfold big at hnb hnfb;clear hA hF hf1 hf2;obtain⟨sa,hsa⟩:∃ s,s=a.n:=⟨_,rfl⟩;rw[← hsa] at HQ HM ⊢;clear hsa
 go_enter Try.func14,Try.ntmps14
 go_wp2_with fail;refine (HQ.o _ B (by simp<;>omega) (HM.o.below (show Below w.heap.size w _ by go_grown) hB)).mono ?_;rintro e w1 ⟨rfl,hb1⟩;have hbw1:Below w.heap.size w w1:=Below.trans (show Below w.heap.size w _ by go_grown) (hb1.mono (by simp<;>omega));have bX1:Blk w1 w.heap.size 25 #[.int .i64 sa,.slice A n c,.slice AF nf cf]:=((Blk.at_ rfl).alloc _).below hb1 (by simp<;>omega);have bR1:Blk w1 (w.heap.size+1) 28 #[.int .i64 0,.int .i64 0]:=(Blk.at_ (by simp)).below hb1 (by simp<;>omega);clear hb1 HQ HM;by_cases hz:validate a=(0,0)
 ·have hpq:=HFF.o;rw[hz] at hpq;obtain⟨rfl,rfl⟩:f1=0∧f2=0:=⟨congrArg Prod.fst hpq,congrArg Prod.snd hpq⟩;have hf0:fEq 0 0 0 0=true:=rfl;have HZ:=zh hz;clear hpq HFF hz;have q1:=bX1.cell 1;simp at q1;have lX:=bX1.lt;go_upto_region 5 with fail
  generalize hW4:World.alloc _ _=W4;have HX4:=zh (show Blk W4 w.heap.size 25 #[.int .i64 sa,.slice A n c,.slice AF nf cf] by rw[← hW4];exact bX1.alloc _);have HR4:=zh (show Blk W4 (w.heap.size+1) 28 #[.int .i64 0,.int .i64 0] by rw[← hW4];exact bR1.alloc _);have HB4:=zh (show Below w.heap.size w W4 by rw[← hW4];exact hbw1.alloc hbw1.size _);have hz4:w.heap.size+1<W4.heap.size:=HR4.o.lt;have HRA4:=zh (HRA.o.below HB4.o hB);have HRF4:=zh (HRF.o.below HB4.o hB);clear hW4 bX1 bR1 hbw1 q1 lX HRA HRF hne hf0
  go_loopw [17] (fun iv wr=>∃ k:Nat,k≤n∧iv=.int .i64 k∧Hid (∀ x∈a.arcs.take k,badA x=false)∧Hid (Below (w.heap.size+2) W4 wr)∧w.heap.size+1<wr.heap.size) (fun iv _=>n-(intOf iv).toNat)
  case atStart=>exact⟨0,by omega,rfl,zh (fun x hx=>by simp at hx),zh (Below.refl _ _),hz4⟩
  case round =>
   clear hz4;obtain⟨k,hk,rfl,HALL,HBK,hzr⟩:=hrel;by_cases hkn:k<n
   ·obtain⟨bb,off,x,rfl,hbB,d0,d1,d2,d3,d4,HX⟩:=zAp (HRA4.o.below HBK.o (by omega)) hkn;(have hkl:k<a.arcs.length:=by rw[HN.o];exact hkn);(have hgx:a.arcs[k]=x:=by rw[← HX.o];simp[hkl]);(have lb:bb<wr.heap.size:=by omega);by_cases hw:badA x=true
    ·have HR:=zh (show accF a=(4,(k:Int)) by unfold accF;rw[if_pos HZ.o,zGK hkl hgx HALL.o hw]);have bR:=HR4.o.below HBK.o (by omega);have HBE:=zh (HB4.o.trans (HBK.o.mono (by omega)));clear hgx hkl HX HALL HRA4 HRF4 HX4;by_cases h1:x.i=x.o
     ·have h2:x.w≠0:=by
       unfold badA at hw;simpa[h1] using hw
      (have t1:(x.i==x.o)=true:=by simp[h1]);(have t1':(x.i != x.o)=false:=by simp[h1]);(have t2:(x.w==0)=false:=by simpa using h2);(have t2':(x.w != 0)=true:=by simpa using h2);clear h1 h2 hw;go_wp2_with fail;refine (zBD _ _ _).mono ?_;rintro e w9 ⟨rfl,hb9⟩;have bR9:=(bR.alloc _).below hb9 (by simp;omega);have HB9:=zh ((HBE.o.alloc (by omega) _).trans (hb9.mono (by simp;omega)));have r0:=bR9.cell 0;have r1:=bR9.cell 1;have rf0:=bR9.frozen 0;have rf1:=bR9.frozen 1;simp at r0 r1;have lR:=bR9.lt;clear hb9 bR9 bR HBE;go_wp21;exact bodyPost_ret (v:=.agg #[.int .i64 4,.int .i64 ((k:Int))]) (by simp[results,Try.results14,go_sem,lR,r0,r1,rf0,rf1]) rfl ⟨by rw[HR.o],(HB9.o.setCell (by dsimp only;omega) _).setCell (by dsimp only;omega) _⟩
     ·(have t1:(x.i==x.o)=false:=by simpa using h1);(have t1':(x.i != x.o)=true:=by simpa using h1);clear h1 hw;go_wp2_with fail;refine (zBD _ _ _).mono ?_;rintro e w9 ⟨rfl,hb9⟩;have bR9:=(bR.alloc _).below hb9 (by simp;omega);have HB9:=zh ((HBE.o.alloc (by omega) _).trans (hb9.mono (by simp;omega)));have r0:=bR9.cell 0;have r1:=bR9.cell 1;have rf0:=bR9.frozen 0;have rf1:=bR9.frozen 1;simp at r0 r1;have lR:=bR9.lt;clear hb9 bR9 bR HBE;go_wp21;exact bodyPost_ret (v:=.agg #[.int .i64 4,.int .i64 ((k:Int))]) (by simp[results,Try.results14,go_sem,lR,r0,r1,rf0,rf1]) rfl ⟨by rw[HR.o],(HB9.o.setCell (by dsimp only;omega) _).setCell (by dsimp only;omega) _⟩
    ·have hw':badA x=false:=by simpa using hw
     have HALL2:=zh (show ∀ y∈a.arcs.take (k+1),badA y=false from fun y hy=>by
      rw[wAc,wAa hkl,hgx] at hy;rcases wAd.1 hy with h | h
      · exact HALL.o y h
      · simp at h;subst h;exact hw')
     unfold badA at hw';simp only[wAf,decide_eq_false_iff_not,ne_eq,Decidable.not_not] at hw';(have t1:(x.i==x.o)=true:=by simp[hw'.1]);(have t1':(x.i != x.o)=false:=by simp[hw'.1]);(have t2:(x.w==0)=true:=by simp[hw'.2]);(have t2':(x.w != 0)=false:=by simp[hw'.2]);clear hw hw' hgx hkl HX HALL;go_wp2;go_roundw
     case rel=>exact⟨k+1,by omega,by go_num,HALL2,zh (HBK.o.alloc (by omega) _),by simp;omega⟩
     case measure=>simp[intOf];omega
   ·(obtain rfl:n=k:=by omega);have HALA:=zh (show ∀ x∈a.arcs,badA x=false by have h:=HALL.o;rw[wAb (by rw[HN.o];exact wAe _)] at h;exact h);have bXX:=HX4.o.below HBK.o (by omega);have q2:=bXX.cell 2;simp at q2;have lX:=bXX.lt;clear HALL bXX;go_wp2;clear q2 lX
    go_loopw [38] (fun iv wr=>∃ k:Nat,k≤nf∧iv=.int .i64 k∧Hid (∀ x∈a.fins.take k,badF x=false)∧Hid (Below (w.heap.size+2) W4 wr)∧w.heap.size+1<wr.heap.size) (fun iv _=>nf-(intOf iv).toNat)
    case atStart=>exact⟨0,by omega,rfl,zh (fun x hx=>by simp at hx),HBK,hzr⟩
    case round =>
     clear HBK hzr;obtain⟨k,hk,rfl,HALL,HBK,hzr⟩:=hrel;by_cases hkn:k<nf
     ·obtain⟨bb,off,x,rfl,hbB,d0,d1,HX⟩:=zAQ (HRF4.o.below HBK.o (by omega)) hkn;(have hkl:k<a.fins.length:=by rw[HF.o];exact hkn);(have hgx:a.fins[k]=x:=by rw[← HX.o];simp[hkl]);(have lb:bb<wr.heap.size:=by omega);by_cases hw:badF x=true
      ·have HR:=zh (show accF a=(4,(n:Int)+(k:Int)) by unfold accF;rw[if_pos HZ.o,zEb HALA.o,zGK hkl hgx HALL.o hw,HN.o]);have bR:=HR4.o.below HBK.o (by omega);have bXX:=HX4.o.below HBK.o (by omega);have q1:=bXX.cell 1;simp at q1;have lX:=bXX.lt;have HBE:=zh (HB4.o.trans (HBK.o.mono (by omega)));clear hgx hkl HX HALL HRA4 HRF4 HX4 bXX HALA;(have t2:(x.w==0)=false:=by unfold badF at hw;simpa using hw);(have t2':(x.w != 0)=true:=by unfold badF at hw;simpa using hw);clear hw;go_wp2_with fail;refine (zBD _ _ _).mono ?_;rintro e w9 ⟨rfl,hb9⟩;have bR9:=(bR.alloc _).below hb9 (by simp;omega);have HB9:=zh ((HBE.o.alloc (by omega) _).trans (hb9.mono (by simp;omega)));have r0:=bR9.cell 0;have r1:=bR9.cell 1;have rf0:=bR9.frozen 0;have rf1:=bR9.frozen 1;simp at r0 r1;have lR:=bR9.lt;clear hb9 bR9 bR HBE;go_wp21;exact bodyPost_ret (v:=.agg #[.int .i64 4,.int .i64 ((n:Int)+(k:Int))]) (by simp[results,Try.results14,go_sem,lR,r0,r1,rf0,rf1]) rfl ⟨by rw[HR.o],(HB9.o.setCell (by dsimp only;omega) _).setCell (by dsimp only;omega) _⟩
      ·have hw':badF x=false:=by simpa using hw
       have HALL2:=zh (show ∀ y∈a.fins.take (k+1),badF y=false from fun y hy=>by
        rw[wAc,wAa hkl,hgx] at hy;rcases wAd.1 hy with h | h
        · exact HALL.o y h
        · simp at h;subst h;exact hw')
       unfold badF at hw';simp only[decide_eq_false_iff_not,ne_eq,Decidable.not_not] at hw';(have t2:(x.w==0)=true:=by simp[hw']);(have t2':(x.w != 0)=false:=by simp[hw']);clear hw hw' hgx hkl HX HALL;go_wp2;go_roundw
       case rel=>exact⟨k+1,by omega,by go_num,HALL2,zh (HBK.o.alloc (by omega) _),by simp;omega⟩
       case measure=>simp[intOf];omega
     ·(obtain rfl:nf=k:=by omega);have HR:=zh (show accF a=(0,0) by unfold accF;rw[if_pos HZ.o,zEb HALA.o,zEb (by have h:=HALL.o;rw[wAb (by rw[HF.o];exact wAe _)] at h;exact h)]);have bR:=HR4.o.below HBK.o (by omega);have HBE:=zh (HB4.o.trans (HBK.o.mono (by omega)));have r0:=bR.cell 0;have r1:=bR.cell 1;have rf0:=bR.frozen 0;have rf1:=bR.frozen 1;simp at r0 r1;have lR:=bR.lt;clear HALL HALA bR HRA4 HRF4;go_wp2;exact bodyPost_ret (v:=.agg #[.int .i64 0,.int .i64 0]) (by simp[results,Try.results14,go_sem,lR,r0,r1,rf0,rf1]) rfl ⟨by rw[HR.o],(HBE.o.setCell (by dsimp only;omega) _).setCell (by dsimp only;omega) _⟩
 ·have hz0:fEq f1 f2 0 0=false:=by
   cases e:fEq f1 f2 0 0
   · rfl
   ·(have e2:fEq (validate a).1 (validate a).2 0 0=true:=by rw[← HFF.o];exact e);exact absurd (fEq0A.1 e2) hz
  have HR:=zh (show accF a=(f1,f2) by unfold accF;rw[if_neg hz,HFF.o]);have r0:=bR1.cell 0;have r1:=bR1.cell 1;have rf0:=bR1.frozen 0;have rf1:=bR1.frozen 1;simp at r0 r1;have lR:=bR1.lt;clear HFF hz bX1 HRA HRF;go_wp2;exact bodyPost_ret (v:=.agg #[.int .i64 f1,.int .i64 f2]) (by simp[results,Try.results14,go_sem,lR,r0,r1,rf0,rf1]) rfl ⟨by rw[HR.o],((hbw1.setCell (p:=⟨w.heap.size+1,0,none⟩) (by dsimp only;omega) (.int .i64 f1)).setCell (p:=⟨w.heap.size+1,1,none⟩) (by dsimp only;omega) (.int .i64 f2)).alloc (by have:=hbw1.size;simpa[World.setCell] using this) _⟩
theorem zCZ (va:Value) (a:Mach) (w:World) (B:Nat) (hB:B≤w.heap.size) (ha:MachAt w B va a) :
 Calls Try.prog 32 #[va] w fun e w'=>e=.returned (.agg #[.int .i64 (accF a).1,.int .i64 (accF a).2])∧Below w.heap.size w w':=by
 have HM:=zh ha;obtain⟨A,AF,n,c,nf,cf,rfl,HN,HF,hnc,hnfc,hnb,hnfb,hA,hF⟩:=ha;have HRA:=zh hA;have HRF:=zh hF;have hne:=fun a b c d W=>zAn a b c d W
 have HQ:=zh (fun W (B:Nat) (hB:B≤W.heap.size) (h:MachAt W B (.agg #[.int .i64 a.n,.slice A n c,.slice AF nf cf]) a)=>zEq _ a W B hB h);obtain⟨f1,hf1⟩:∃ z,z=(validate a).1:=⟨_,rfl⟩;obtain⟨f2,hf2⟩:∃ z,z=(validate a).2:=⟨_,rfl⟩;rw[← hf1,← hf2] at HQ;have HFF:=zh (show (f1,f2)=validate a by rw[hf1,hf2]);unfold big at hnb hnfb;clear hA hF hf1 hf2;obtain⟨sa,hsa⟩:∃ s,s=a.n:=⟨_,rfl⟩;rw[← hsa] at HQ HM ⊢;clear hsa
 go_enter Try.func32,Try.ntmps32
 go_wp2_with fail;refine (HQ.o _ B (by simp<;>omega) (HM.o.below (show Below w.heap.size w _ by go_grown) hB)).mono ?_;rintro e w1 ⟨rfl,hb1⟩;have hbw1:Below w.heap.size w w1:=Below.trans (show Below w.heap.size w _ by go_grown) (hb1.mono (by simp<;>omega));have bX1:Blk w1 w.heap.size 25 #[.int .i64 sa,.slice A n c,.slice AF nf cf]:=((Blk.at_ rfl).alloc _).below hb1 (by simp<;>omega);have bR1:Blk w1 (w.heap.size+1) 28 #[.int .i64 0,.int .i64 0]:=(Blk.at_ (by simp)).below hb1 (by simp<;>omega);clear hb1 HQ HM;by_cases hz:validate a=(0,0)
 ·have hpq:=HFF.o;rw[hz] at hpq;obtain⟨rfl,rfl⟩:f1=0∧f2=0:=⟨congrArg Prod.fst hpq,congrArg Prod.snd hpq⟩;have hf0:fEq 0 0 0 0=true:=rfl;have HZ:=zh hz;clear hpq HFF hz;have q1:=bX1.cell 1;simp at q1;have lX:=bX1.lt;go_upto_region 5 with fail
  generalize hW4:World.alloc _ _=W4;have HX4:=zh (show Blk W4 w.heap.size 25 #[.int .i64 sa,.slice A n c,.slice AF nf cf] by rw[← hW4];exact bX1.alloc _);have HR4:=zh (show Blk W4 (w.heap.size+1) 28 #[.int .i64 0,.int .i64 0] by rw[← hW4];exact bR1.alloc _);have HB4:=zh (show Below w.heap.size w W4 by rw[← hW4];exact hbw1.alloc hbw1.size _);have hz4:w.heap.size+1<W4.heap.size:=HR4.o.lt;have HRA4:=zh (HRA.o.below HB4.o hB);have HRF4:=zh (HRF.o.below HB4.o hB);clear hW4 bX1 bR1 hbw1 q1 lX HRA HRF hne hf0
  go_loopw [17] (fun iv wr=>∃ k:Nat,k≤n∧iv=.int .i64 k∧Hid (∀ x∈a.arcs.take k,badA x=false)∧Hid (Below (w.heap.size+2) W4 wr)∧w.heap.size+1<wr.heap.size) (fun iv _=>n-(intOf iv).toNat)
  case atStart=>exact⟨0,by omega,rfl,zh (fun x hx=>by simp at hx),zh (Below.refl _ _),hz4⟩
  case round =>
   clear hz4;obtain⟨k,hk,rfl,HALL,HBK,hzr⟩:=hrel;by_cases hkn:k<n
   ·obtain⟨bb,off,x,rfl,hbB,d0,d1,d2,d3,d4,HX⟩:=zAp (HRA4.o.below HBK.o (by omega)) hkn;(have hkl:k<a.arcs.length:=by rw[HN.o];exact hkn);(have hgx:a.arcs[k]=x:=by rw[← HX.o];simp[hkl]);(have lb:bb<wr.heap.size:=by omega);by_cases hw:badA x=true
    ·have HR:=zh (show accF a=(4,(k:Int)) by unfold accF;rw[if_pos HZ.o,zGK hkl hgx HALL.o hw]);have bR:=HR4.o.below HBK.o (by omega);have HBE:=zh (HB4.o.trans (HBK.o.mono (by omega)));clear hgx hkl HX HALL HRA4 HRF4 HX4;by_cases h1:x.i=x.o
     ·have h2:x.w≠0:=by
       unfold badA at hw;simpa[h1] using hw
      (have t1:(x.i==x.o)=true:=by simp[h1]);(have t1':(x.i != x.o)=false:=by simp[h1]);(have t2:(x.w==0)=false:=by simpa using h2);(have t2':(x.w != 0)=true:=by simpa using h2);clear h1 h2 hw;go_wp2_with fail;refine (zAx _ _ _).mono ?_;rintro e w9 ⟨rfl,hb9⟩;have bR9:=(bR.alloc _).below hb9 (by simp;omega);have HB9:=zh ((HBE.o.alloc (by omega) _).trans (hb9.mono (by simp;omega)));have r0:=bR9.cell 0;have r1:=bR9.cell 1;have rf0:=bR9.frozen 0;have rf1:=bR9.frozen 1;simp at r0 r1;have lR:=bR9.lt;clear hb9 bR9 bR HBE;go_wp21;exact bodyPost_ret (v:=.agg #[.int .i64 4,.int .i64 ((k:Int))]) (by simp[results,Try.results32,go_sem,lR,r0,r1,rf0,rf1]) rfl ⟨by rw[HR.o],(HB9.o.setCell (by dsimp only;omega) _).setCell (by dsimp only;omega) _⟩
     ·(have t1:(x.i==x.o)=false:=by simpa using h1);(have t1':(x.i != x.o)=true:=by simpa using h1);clear h1 hw;go_wp2_with fail;refine (zAx _ _ _).mono ?_;rintro e w9 ⟨rfl,hb9⟩;have bR9:=(bR.alloc _).below hb9 (by simp;omega);have HB9:=zh ((HBE.o.alloc (by omega) _).trans (hb9.mono (by simp;omega)));have r0:=bR9.cell 0;have r1:=bR9.cell 1;have rf0:=bR9.frozen 0;have rf1:=bR9.frozen 1;simp at r0 r1;have lR:=bR9.lt;clear hb9 bR9 bR HBE;go_wp21;exact bodyPost_ret (v:=.agg #[.int .i64 4,.int .i64 ((k:Int))]) (by simp[results,Try.results32,go_sem,lR,r0,r1,rf0,rf1]) rfl ⟨by rw[HR.o],(HB9.o.setCell (by dsimp only;omega) _).setCell (by dsimp only;omega) _⟩
    ·have hw':badA x=false:=by simpa using hw
     have HALL2:=zh (show ∀ y∈a.arcs.take (k+1),badA y=false from fun y hy=>by
      rw[wAc,wAa hkl,hgx] at hy;rcases wAd.1 hy with h | h
      · exact HALL.o y h
      · simp at h;subst h;exact hw')
     unfold badA at hw';simp only[wAf,decide_eq_false_iff_not,ne_eq,Decidable.not_not] at hw';(have t1:(x.i==x.o)=true:=by simp[hw'.1]);(have t1':(x.i != x.o)=false:=by simp[hw'.1]);(have t2:(x.w==0)=true:=by simp[hw'.2]);(have t2':(x.w != 0)=false:=by simp[hw'.2]);clear hw hw' hgx hkl HX HALL;go_wp2;go_roundw
     case rel=>exact⟨k+1,by omega,by go_num,HALL2,zh (HBK.o.alloc (by omega) _),by simp;omega⟩
     case measure=>simp[intOf];omega
   ·(obtain rfl:n=k:=by omega);have HALA:=zh (show ∀ x∈a.arcs,badA x=false by have h:=HALL.o;rw[wAb (by rw[HN.o];exact wAe _)] at h;exact h);have bXX:=HX4.o.below HBK.o (by omega);have q2:=bXX.cell 2;simp at q2;have lX:=bXX.lt;clear HALL bXX;go_wp2;clear q2 lX
    go_loopw [38] (fun iv wr=>∃ k:Nat,k≤nf∧iv=.int .i64 k∧Hid (∀ x∈a.fins.take k,badF x=false)∧Hid (Below (w.heap.size+2) W4 wr)∧w.heap.size+1<wr.heap.size) (fun iv _=>nf-(intOf iv).toNat)
    case atStart=>exact⟨0,by omega,rfl,zh (fun x hx=>by simp at hx),HBK,hzr⟩
    case round =>
     clear HBK hzr;obtain⟨k,hk,rfl,HALL,HBK,hzr⟩:=hrel;by_cases hkn:k<nf
     ·obtain⟨bb,off,x,rfl,hbB,d0,d1,HX⟩:=zAQ (HRF4.o.below HBK.o (by omega)) hkn;(have hkl:k<a.fins.length:=by rw[HF.o];exact hkn);(have hgx:a.fins[k]=x:=by rw[← HX.o];simp[hkl]);(have lb:bb<wr.heap.size:=by omega);by_cases hw:badF x=true
      ·have HR:=zh (show accF a=(4,(n:Int)+(k:Int)) by unfold accF;rw[if_pos HZ.o,zEb HALA.o,zGK hkl hgx HALL.o hw,HN.o]);have bR:=HR4.o.below HBK.o (by omega);have bXX:=HX4.o.below HBK.o (by omega);have q1:=bXX.cell 1;simp at q1;have lX:=bXX.lt;have HBE:=zh (HB4.o.trans (HBK.o.mono (by omega)));clear hgx hkl HX HALL HRA4 HRF4 HX4 bXX HALA;(have t2:(x.w==0)=false:=by unfold badF at hw;simpa using hw);(have t2':(x.w != 0)=true:=by unfold badF at hw;simpa using hw);clear hw;go_wp2_with fail;refine (zAx _ _ _).mono ?_;rintro e w9 ⟨rfl,hb9⟩;have bR9:=(bR.alloc _).below hb9 (by simp;omega);have HB9:=zh ((HBE.o.alloc (by omega) _).trans (hb9.mono (by simp;omega)));have r0:=bR9.cell 0;have r1:=bR9.cell 1;have rf0:=bR9.frozen 0;have rf1:=bR9.frozen 1;simp at r0 r1;have lR:=bR9.lt;clear hb9 bR9 bR HBE;go_wp21;exact bodyPost_ret (v:=.agg #[.int .i64 4,.int .i64 ((n:Int)+(k:Int))]) (by simp[results,Try.results32,go_sem,lR,r0,r1,rf0,rf1]) rfl ⟨by rw[HR.o],(HB9.o.setCell (by dsimp only;omega) _).setCell (by dsimp only;omega) _⟩
      ·have hw':badF x=false:=by simpa using hw
       have HALL2:=zh (show ∀ y∈a.fins.take (k+1),badF y=false from fun y hy=>by
        rw[wAc,wAa hkl,hgx] at hy;rcases wAd.1 hy with h | h
        · exact HALL.o y h
        · simp at h;subst h;exact hw')
       unfold badF at hw';simp only[decide_eq_false_iff_not,ne_eq,Decidable.not_not] at hw';(have t2:(x.w==0)=true:=by simp[hw']);(have t2':(x.w != 0)=false:=by simp[hw']);clear hw hw' hgx hkl HX HALL;go_wp2;go_roundw
       case rel=>exact⟨k+1,by omega,by go_num,HALL2,zh (HBK.o.alloc (by omega) _),by simp;omega⟩
       case measure=>simp[intOf];omega
     ·(obtain rfl:nf=k:=by omega);have HR:=zh (show accF a=(0,0) by unfold accF;rw[if_pos HZ.o,zEb HALA.o,zEb (by have h:=HALL.o;rw[wAb (by rw[HF.o];exact wAe _)] at h;exact h)]);have bR:=HR4.o.below HBK.o (by omega);have HBE:=zh (HB4.o.trans (HBK.o.mono (by omega)));have r0:=bR.cell 0;have r1:=bR.cell 1;have rf0:=bR.frozen 0;have rf1:=bR.frozen 1;simp at r0 r1;have lR:=bR.lt;clear HALL HALA bR HRA4 HRF4;go_wp2;exact bodyPost_ret (v:=.agg #[.int .i64 0,.int .i64 0]) (by simp[results,Try.results32,go_sem,lR,r0,r1,rf0,rf1]) rfl ⟨by rw[HR.o],(HBE.o.setCell (by dsimp only;omega) _).setCell (by dsimp only;omega) _⟩
 ·have hz0:fEq f1 f2 0 0=false:=by
   cases e:fEq f1 f2 0 0
   · rfl
   ·(have e2:fEq (validate a).1 (validate a).2 0 0=true:=by rw[← HFF.o];exact e);exact absurd (fEq0A.1 e2) hz
  have HR:=zh (show accF a=(f1,f2) by unfold accF;rw[if_neg hz,HFF.o]);have r0:=bR1.cell 0;have r1:=bR1.cell 1;have rf0:=bR1.frozen 0;have rf1:=bR1.frozen 1;simp at r0 r1;have lR:=bR1.lt;clear HFF hz bX1 HRA HRF;go_wp2;exact bodyPost_ret (v:=.agg #[.int .i64 f1,.int .i64 f2]) (by simp[results,Try.results32,go_sem,lR,r0,r1,rf0,rf1]) rfl ⟨by rw[HR.o],((hbw1.setCell (p:=⟨w.heap.size+1,0,none⟩) (by dsimp only;omega) (.int .i64 f1)).setCell (p:=⟨w.heap.size+1,1,none⟩) (by dsimp only;omega) (.int .i64 f2)).alloc (by have:=hbw1.size;simpa[World.setCell] using this) _⟩
end Go.Proofs.Ytkfdhpbnphojoaa
