/- Part of the proof. -/
import Derived.Test.YtkfdhpbnphojoaaMc10
import Derived.Deep.CutRange
import Derived.IntWalk
set_option linter.unusedSimpArgs false
set_option linter.unusedVariables false
set_option maxRecDepth 100000
set_option maxHeartbeats 16000000
open List renaming setIfInBounds_toArray→wAa,getElem_cons_zero→wAc,getElem_cons_succ→wAd,set_cons_zero→wAe,set_cons_succ→wAf,getElem_toArray→wAg,drop_succ_cons→wAj,length_append→wAk,drop_zero→wAl
open Nat renaming le_refl→wAh,eq_zero_or_pos→wAi
open Go.RowKit.Below renaming setCell→wAb
namespace Gm
open Go Go.RowKit
theorem zC3 {w w':World} {base sz n:Nat} {e:TypeId} {v:Value} {xs:List Value} (h:w.ownsRow base e sz v n xs) (hb:Below w.heap.size w w'):w'.ownsRow base e sz v n xs :=
 zFh h hb.size (fun b _ hlt=>hb.block b hlt)
theorem zH1 {w:World} {base base' sz n:Nat} {e:TypeId} {v:Value} {xs:List Value} (h:w.ownsRow base e sz v n xs) (hb:base'≤base):w.ownsRow base' e sz v n xs:=by
 refine⟨h.1,?_⟩;rcases h.2 with hn | ⟨g,cap,cur,h1,h2,h3⟩
 · exact .inl hn
 · exact .inr ⟨g,cap,cur,h1,Nat.le_trans hb h2,h3⟩
theorem zCH (a:Arc) (l:List Arc):arcRow (a::l)=[.int .i64 a.f,.int .i64 a.t,.int .i64 a.i,.int .i64 a.o,.int .i64 a.w]++arcRow l:=rfl
theorem zC4:∀ (l:List Arc) (k:Nat) (x:Arc),k<l.length →
 (((((arcRow l).set (k*5) (.int .i64 x.f)).set (k*5+1) (.int .i64 x.t)).set (k*5+2) (.int .i64 x.i)).set (k*5+3) (.int .i64 x.o)).set (k*5+4) (.int .i64 x.w)=arcRow (l.set k x)
 | [],k,x,h=>by simp at h
 | a::l,0,x,_=>by
  rw[wAe,zCH,zCH];rfl
 | a::l,k+1,x,h=>by
  have ih:=zC4 l k x (by simpa using h);rw[wAf,zCH,zCH,← ih];have e:(k+1)*5=k*5+5:=by omega
  rw[e];rfl
theorem zAF {w:World} {base n:Nat} {e:TypeId} {l:List Arc} {g cap:Nat} (h:w.ownsRow base e 5 (.slice (some ⟨g,0,none⟩) n cap) n (arcRow l)) (hn:l.length=n) {k:Nat} (hk:k<n) {x:Arc} (hx:l.getD k dA=x) :
 w.cell? ⟨g,k*5,none⟩=some (.int .i64 x.f)∧w.cell? ⟨g,k*5+1,none⟩=some (.int .i64 x.t)∧w.cell? ⟨g,k*5+2,none⟩=some (.int .i64 x.i)∧w.cell? ⟨g,k*5+3,none⟩=some (.int .i64 x.o)∧w.cell? ⟨g,k*5+4,none⟩=some (.int .i64 x.w):=by
 have key:∀ j,j<5→w.cell? ⟨g,k*5+j,none⟩=some (arcCell l k j):=fun j hj=>by
  have h1:=zAr l k j (by omega) hj
  have:=h.cells (g:=g) rfl (k*5+j) _ h1
  have e:(⟨g,0,none⟩:Addr).add (k*5+j)=⟨g,k*5+j,none⟩:=by unfold Addr.add;split<;>simp_all
  rwa [e] at this
 subst hx;exact⟨key 0 (by omega),key 1 (by omega),key 2 (by omega),key 3 (by omega),key 4 (by omega)⟩
theorem zN0 {w:World} {base n:Nat} {e:TypeId} {l:List Arc} {g cap k j:Nat} (h:w.ownsRow base e 5 (.slice (some ⟨g,0,none⟩) n cap) n (arcRow l)) (hn:l.length=n) (hj:j=k+1) (hk:j<n) {x y:Arc} (hx:l.getD j dA=x) (hy:l.getD k dA=y) :
 ((((((((((w.setCell ⟨g,j*5,none⟩ (.int .i64 y.f)).setCell ⟨g,j*5+1,none⟩ (.int .i64 y.t)).setCell ⟨g,j*5+2,none⟩ (.int .i64 y.i)).setCell ⟨g,j*5+3,none⟩ (.int .i64 y.o)).setCell ⟨g,j*5+4,none⟩ (.int .i64 y.w)).setCell ⟨g,k*5,none⟩ (.int .i64 x.f)).setCell ⟨g,k*5+1,none⟩ (.int .i64 x.t)).setCell ⟨g,k*5+2,none⟩ (.int .i64 x.i)).setCell ⟨g,k*5+3,none⟩ (.int .i64 x.o)).setCell ⟨g,k*5+4,none⟩ (.int .i64 x.w)).ownsRow base e 5 (.slice (some ⟨g,0,none⟩) n cap) n (arcRow (swA l k)):=by
 subst hj;have hn0:0<n:=by omega
 have h1:=zAP (zAP (zAP (zAP (zAP h rfl hn0 ((k+1)*5) (.int .i64 y.f)) rfl hn0 ((k+1)*5+1) (.int .i64 y.t)) rfl hn0 ((k+1)*5+2) (.int .i64 y.i)) rfl hn0 ((k+1)*5+3) (.int .i64 y.o)) rfl hn0 ((k+1)*5+4) (.int .i64 y.w);rw[zC4 l (k+1) y (by omega)] at h1;have h2:=zAP (zAP (zAP (zAP (zAP h1 rfl hn0 (k*5) (.int .i64 x.f)) rfl hn0 (k*5+1) (.int .i64 x.t)) rfl hn0 (k*5+2) (.int .i64 x.i)) rfl hn0 (k*5+3) (.int .i64 x.o)) rfl hn0 (k*5+4) (.int .i64 x.w);rw[zC4 (l.set (k+1) y) k x (by rw[List.length_set];omega)] at h2;unfold swA;rw[hx,hy];exact h2
end Gm
namespace Go.Proofs.Ytkfdhpbnphojoaa
open Go.RowKit Gm Go.Sort Go.Shelf
theorem zLo (
 A:Option Addr) (n c:Nat) (red:Bool) (L:List Arc) (w:World) (B:Nat) (hB:B≤w.heap.size) (hl:L.length=n) (hn:n≤6402) (h:Rd w B 5 A n (arcCell L)) :
 Calls Try.prog 104 #[.slice A n c,.bool red] w fun e w'=>∃ A' c',e=.returned (.slice A' (compact (sameA red) (srtA L)).length c')∧w'.ownsRow w.heap.size 64 5 (.slice A' (compact (sameA red) (srtA L)).length c') (compact (sameA red) (srtA L)).length (arcRow (compact (sameA red) (srtA L)))∧Below w.heap.size w w':=by
 have hA:A=none→n=0:=by
  intro e;rcases wAi n with h0 | h0
  · exact h0
  ·obtain⟨b,off,h1,_⟩:=h h0;rw[e] at h1;cases h1
 have HL:=zh hl;obtain⟨ia,ha0,ha1,ha2,ha3⟩:=info_parts zBa;have h':Rd (w.alloc (Obj.cells #[] 64)) B 5 A n (arcCell L):=h.below (show Below w.heap.size w _ by go_grown) hB;have HLESS:=zh (fun a b W=>zHo a b W);clear h hl;obtain⟨S,hS⟩:∃ S,S=srtA L:=⟨_,rfl⟩;rw[← hS];have HSS:=zh hS;clear hS
 go_enter Try.func104,Try.ntmps104
 go_wp2_with (at_builtin;refine zAw _ rfl (.tmp 13) (.tmp 14) 22 rfl w.heap.size 64 ia _ 5 40 Try.underlying22 ha0 ha1 ha2 ha3 rfl (by omega) (.slice (some ⟨w.heap.size,0,none⟩) 0 0) 0 [] rfl (World.ownsRow_made _ _ 0 (wAh _) (by simp[maxLen]) (by simp)) B A n c (arcRow L) (arcCell L) rfl h' hA (by rw[zAv,HL.o]) (fun i j hi hj=>zAr _ i j (by rw[HL.o];exact hi) hj) (zAq _) (by simp only[maxLen];omega) (by omega) (by simp) ?_;intro v1 w1 hown hg _;obtain⟨A0,c0,rfl,hkc0,_⟩:=zAa hown);simp only[Nat.zero_add,List.nil_append] at hown hkc0 ⊢;have hb1:Below w.heap.size w w1:=((Below.refl w.heap.size w).alloc (wAh _) _).grown hg (by simp) (by simp[Value.ownBlock]);obtain⟨H,hH⟩:∃ H,H=w.heap.size:=⟨_,rfl⟩;rw[← hH] at hown hb1 ⊢;have hwz:H≤w1.heap.size:=by rw[hH];exact hb1.size
 have hHw:H≤w.heap.size:=by omega
 have HHW:=zh hH;have HB1:=zh hb1;have HO1:=zh hown;clear hown hb1 hg h' hA hH hB
 go_loopw [6] (fun iv wr=>∃ (i:Nat) (l:List Arc),1≤i∧i≤n+1∧iv=.int .i64 i∧Hid (Below H w wr)∧Hid (wr.ownsRow H 64 5 (.slice A0 n c0) n (arcRow l))∧Hid (l.Perm L)∧Hid (zGa l i)) (fun iv _=>n+1-(intOf iv).toNat)
 case atStart=>exact⟨1,L,wAh _,by omega,rfl,HB1,HO1,zh (List.Perm.refl _),zh (zGg _)⟩
 case round =>
  clear HB1 HO1 hwz;obtain⟨i,l,hi1,hin,rfl,HB2,HO2,HP,HS⟩:=hrel;have HLL:=zh (show l.length=n by rw[HP.o.length_eq,HL.o]);by_cases hlt:i<n
  ·have ti:decide ((i:Int)<(n:Int))=true:=decide_eq_true (by omega);obtain⟨g,cap,ev,hHg,hgw,_,_⟩:=zCS HO2.o (by omega);(injection ev with e1 e2 e3);subst e1 e3;clear e2 hgw;have HIS:=zh (zIR HS.o);go_wp2
   go_loopw [7] (fun jv wr=>∃ (j:Nat) (l:List Arc),j≤i∧jv=.int .i64 j∧Hid (Below H w wr)∧Hid (wr.ownsRow H 64 5 (.slice (some ⟨g,0,none⟩) n c0) n (arcRow l))∧Hid (l.Perm L)∧Hid (Ins l i j)) (fun jv _=>(intOf jv).toNat)
   case atStart=>exact⟨i,l,wAh _,rfl,HB2,HO2,HP,HIS⟩
   case round =>
    clear HB2 HO2 HP HS HIS HLL l;obtain⟨j,l,hj,rfl,HB2,HO2,HP,HS⟩:=hrel;have HLL:=zh (show l.length=n by rw[HP.o.length_eq,HL.o]);have hH:=HB2.o.size;rcases wAi j with hj0 | hj0
    ·subst hj0;(have tj:decide (((0:Nat):Int)>0)=false:=by decide);have HSN:=zh (zGS (Nat.zero_le _) HS.o (.inl rfl));(go_upto_region 6 with fail);refine zAE (fun _=>True) 12 [(0,false),(1,false),(2,false),(3,false),(4,false),(5,false),(6,false),(7,false),(8,false),(9,false),(10,false),(11,false)] (by kernel_rfl) (by kernel_rfl) trivial ?_;simp only[wAj,wAl]
     repeat (first | (refine mix_q (v:=?_) (by rfl) (by rfl) ?_ ?_;rotate_left;(focus (intro w' hC;(try dsimp only at hC);go_simp;(first | done | with_reducible rfl)));simp only[Act.put,wAa,wAe,wAf,wAg,wAc,wAd]) | (refine zDZ (by rfl) (by rfl) ?_;simp only[Act.put,wAa,wAe,wAf,wAg,wAc,wAd]))
     refine zAs ?_;(try simp only[Act.put,wAa,wAe,wAf,wAg,wAc,wAd]);go_wp2;refine NoPanic.normal ?_;go_wp2;go_roundw
     case rel=>exact⟨i+1,l,by omega,by omega,by go_num,zh HB2.o.drew,zh (zDc HO2.o),HP,HSN⟩
     case measure=>simp[intOf];omega
    ·obtain⟨k,hjk⟩:∃ k,j=k+1:=⟨j-1,by omega⟩;(have hjn:j<n:=by omega);(have hkn:k<n:=by omega);obtain⟨x,hx⟩:∃ x,x=l.getD j dA:=⟨_,rfl⟩;obtain⟨y,hy⟩:∃ x,x=l.getD k dA:=⟨_,rfl⟩;obtain⟨b0,b1,b2,b3,b4⟩:=zAF HO2.o HLL.o hjn hx.symm;obtain⟨a0,a1,a2,a3,a4⟩:=zAF HO2.o HLL.o hkn hy.symm;have tj:decide ((j:Int)>0)=true:=decide_eq_true (by omega);(have ej:(j:Int)-1=(k:Int):=by omega);(have ji0:(0:Int)≤(j:Int):=by omega);(have ji1:(j:Int)<(n:Int):=by omega);(have ki0:(0:Int)≤(k:Int):=by omega);(have ki1:(k:Int)<(n:Int):=by omega);have wk:IntKind.i64.wrap (k:Int)=(k:Int):=IntWalk.i64_in _ (by omega);have HX:=zh hx;have HY:=zh hy;have HJK:=zh hjk;have HJN:=zh hjn;clear hx hy hjk;(go_upto_region 6 with fail);refine zAE (fun w'=>w'.cell? ⟨g,j*5,none⟩=some (.int .i64 x.f)∧w'.cell? ⟨g,j*5+1,none⟩=some (.int .i64 x.t)∧w'.cell? ⟨g,j*5+2,none⟩=some (.int .i64 x.i)∧w'.cell? ⟨g,j*5+3,none⟩=some (.int .i64 x.o)∧w'.cell? ⟨g,j*5+4,none⟩=some (.int .i64 x.w)∧w'.cell? ⟨g,k*5,none⟩=some (.int .i64 y.f)∧w'.cell? ⟨g,k*5+1,none⟩=some (.int .i64 y.t)∧w'.cell? ⟨g,k*5+2,none⟩=some (.int .i64 y.i)∧w'.cell? ⟨g,k*5+3,none⟩=some (.int .i64 y.o)∧w'.cell? ⟨g,k*5+4,none⟩=some (.int .i64 y.w)) 12 [(0,false),(1,false),(2,false),(3,false),(4,false),(5,false),(6,false),(7,false),(8,false),(9,false),(10,false),(11,false)] (by kernel_rfl) (by kernel_rfl) ⟨b0,b1,b2,b3,b4,a0,a1,a2,a3,a4⟩ ?_;simp only[wAj,wAl]
     repeat (refine mix_q (v:=?_) (by rfl) (by rfl) ?_ ?_;rotate_left;(focus (intro w' hC;(try dsimp only at hC);go_simp;(first | done | with_reducible rfl)));simp only[Act.put,wAa,wAe,wAf,wAg,wAc,wAd])
     refine zAs ?_;(try simp only[Act.put,wAa,wAe,wAf,wAg,wAc,wAd]);go_wp2_with fail;refine (HLESS.o x y _).mono ?_;rintro e w2 ⟨rfl,hb2⟩;have hz2:=hb2.size;have HB3:=zh (HB2.o.drew.trans (hb2.mono (by simp;omega)));have HO3:=zh (zC3 (zDc HO2.o) hb2);obtain⟨lt,hlt2⟩:∃ z,z=arcLess x y:=⟨_,rfl⟩;rw[← hlt2];have HLT:=zh hlt2;clear hb2 hlt2 b0 b1 b2 b3 b4 a0 a1 a2 a3 a4 HB2 HO2;cases lt
     ·have HSN:=zh (zGS hj HS.o (.inr ⟨k,HJK.o,by rw[← HX.o,← HY.o];exact HLT.o.symm⟩));go_wp2;refine NoPanic.normal ?_;go_wp2;go_roundw
      case rel=>exact⟨i+1,l,by omega,by omega,by go_num,HB3,HO3,HP,HSN⟩
      case measure=>simp[intOf];omega
     ·have HSN:=zh (show Ins (swA l k) i k by
       have h:=HS.o;rw[HJK.o] at h;refine zKi (by rw[HLL.o];exact hlt) (by omega) h ?_
       rw[← HJK.o,← HX.o,← HY.o];exact HLT.o.symm)
      have HPN:=zh ((zHh l k (by rw[HLL.o];omega)).trans HP.o);have HON:=zh (zN0 HO3.o HLL.o HJK.o hjn HX.o.symm HY.o.symm);(have hfr:=fun o=>zDM HO3.o rfl (by omega) o);obtain⟨b0,b1,b2,b3,b4⟩:=zAF HO3.o HLL.o hjn HX.o.symm;obtain⟨a0,a1,a2,a3,a4⟩:=zAF HO3.o HLL.o hkn HY.o.symm
      have hgz:g<w2.heap.size:=by
       obtain⟨g',c',ev,_,h2,_⟩:=zCS HO3.o (by omega);(injection ev with ev);(injection ev with ev);(injection ev with ev);omega
      have hjk:=HJK.o;(have n00:¬ (j*5=k*5):=by omega);(have m00:¬ (k*5=j*5):=by omega);(have n01:¬ (j*5=k*5+1):=by omega);(have m01:¬ (k*5=j*5+1):=by omega);(have n02:¬ (j*5=k*5+2):=by omega);(have m02:¬ (k*5=j*5+2):=by omega);(have n03:¬ (j*5=k*5+3):=by omega);(have m03:¬ (k*5=j*5+3):=by omega);(have n04:¬ (j*5=k*5+4):=by omega);(have m04:¬ (k*5=j*5+4):=by omega);(have n10:¬ (j*5+1=k*5):=by omega);(have m10:¬ (k*5+1=j*5):=by omega);(have n11:¬ (j*5+1=k*5+1):=by omega);(have m11:¬ (k*5+1=j*5+1):=by omega);(have n12:¬ (j*5+1=k*5+2):=by omega);(have m12:¬ (k*5+1=j*5+2):=by omega);(have n13:¬ (j*5+1=k*5+3):=by omega);(have m13:¬ (k*5+1=j*5+3):=by omega);(have n14:¬ (j*5+1=k*5+4):=by omega);(have m14:¬ (k*5+1=j*5+4):=by omega);(have n20:¬ (j*5+2=k*5):=by omega);(have m20:¬ (k*5+2=j*5):=by omega);(have n21:¬ (j*5+2=k*5+1):=by omega);(have m21:¬ (k*5+2=j*5+1):=by omega);(have n22:¬ (j*5+2=k*5+2):=by omega);(have m22:¬ (k*5+2=j*5+2):=by omega);(have n23:¬ (j*5+2=k*5+3):=by omega);(have m23:¬ (k*5+2=j*5+3):=by omega);(have n24:¬ (j*5+2=k*5+4):=by omega);(have m24:¬ (k*5+2=j*5+4):=by omega);(have n30:¬ (j*5+3=k*5):=by omega);(have m30:¬ (k*5+3=j*5):=by omega);(have n31:¬ (j*5+3=k*5+1):=by omega);(have m31:¬ (k*5+3=j*5+1):=by omega);(have n32:¬ (j*5+3=k*5+2):=by omega);(have m32:¬ (k*5+3=j*5+2):=by omega);(have n33:¬ (j*5+3=k*5+3):=by omega);(have m33:¬ (k*5+3=j*5+3):=by omega);(have n34:¬ (j*5+3=k*5+4):=by omega);(have m34:¬ (k*5+3=j*5+4):=by omega);(have n40:¬ (j*5+4=k*5):=by omega);(have m40:¬ (k*5+4=j*5):=by omega);(have n41:¬ (j*5+4=k*5+1):=by omega);(have m41:¬ (k*5+4=j*5+1):=by omega);(have n42:¬ (j*5+4=k*5+2):=by omega);(have m42:¬ (k*5+4=j*5+2):=by omega);(have n43:¬ (j*5+4=k*5+3):=by omega);(have m43:¬ (k*5+4=j*5+3):=by omega);(have n44:¬ (j*5+4=k*5+4):=by omega);(have m44:¬ (k*5+4=j*5+4):=by omega);clear hjk;go_wp2;refine NoPanic.normal ?_;go_upto_region 8 with fail
      go_region
      go_wp2;(have hjz:j-1=k:=by omega);have HBN:Below H w _:=HB3.o;go_roundw
      case rel =>
       refine⟨k,swA l k,by omega,by go_num,?_,zh (zDc HON.o),HPN,HSN⟩;refine zh (Below.drew (wAb (wAb (wAb (wAb (wAb (wAb (wAb (wAb (wAb (wAb HB3.o ?_ _) ?_ _) ?_ _) ?_ _) ?_ _) ?_ _) ?_ _) ?_ _) ?_ _) ?_ _))
       all_goals (dsimp only;omega)
      case measure=>simp[intOf];omega
  ·have ti:decide ((i:Int)<(n:Int))=false:=decide_eq_false (by omega);(have hlS:l=S:=by rw[HSS.o];exact zJ0 HS.o (by rw[HLL.o];omega) HP.o);subst hlS;have HR:=zh (Rd.of_own HO2.o (fun i j hi hj=>zAr _ i j (by rw[HLL.o];exact hi) hj));obtain⟨Z,hZ⟩:∃ Z,Z=wr.heap.size:=⟨_,rfl⟩;(have hHZ:H≤Z:=by have:=HB2.o.size;omega);have HBZ:=zh HB2.o;(have hZ1:Z≤wr.heap.size:=by omega);rw[← hZ] at HR;have HLZ:=zh hZ;clear hZ HS HP HSS ti HO2 HB2;go_wp2
   go_loopw [57,8] (fun iv kv w8=>∃ (k m:Nat) (l2:List Arc),k≤n∧m≤k∧iv=.int .i64 k∧Hid (l2=compact (sameA red) (l.take k))∧Hid (l2.length=m)∧Hid (Below Z wr w8)∧Hid (∃ A5 c5,kv=.slice A5 m c5∧w8.ownsRow Z 64 5 (.slice A5 m c5) m (arcRow l2))) (fun iv _ _=>n-(intOf iv).toNat)
   case atStart=>exact⟨0,0,[],by omega,wAh _,rfl,zh rfl,zh rfl,zh (Below.refl _ _),zh ⟨none,0,rfl,World.ownsRow_nil _ _ _ _⟩⟩
   case round =>
    obtain⟨k,m,l2,hkn,hmk,rfl,HC,HM,HBK,HK⟩:=hrel;obtain⟨A5,c5,rfl,hown5⟩:=HK.o;have HOWN:=zh hown5;(have hlow:∀ q,(Value.slice A5 m c5).ownBlock=some q→Z≤q∧q<wr.heap.size:=fun q hq=>hown5.lt q hq);have HLOW:=zh hlow;have HR2:=zh (HR.o.below HBK.o (wAh _));have hsz:=HBK.o.size;(have hZw:Z≤wr.heap.size:=by omega);clear HK hown5 hlow;by_cases hk:k<n
    ·have tk:decide ((k:Int)<(n:Int))=true:=decide_eq_true (by omega);obtain⟨b,off,a,rfl,hbZ,a0,a1,a2,a3,a4,HA⟩:=zAp HR2.o hk;(have lb:b<wr.heap.size:=by omega);(have ki0:(0:Int)≤(k:Int):=by omega);(have ki1:(k:Int)<(n:Int):=by omega);have HT:=zh (zAI (e:=sameA red) (show k<l.length by rw[HLL.o];exact hk) HA.o);rcases wAi k with hk0 | hk0
     ·have tz:decide ((k:Int)>0)=false:=decide_eq_false (by omega);have HCN:=zh (show compact (sameA red) (l.take (k+1))=l2++[a] by rw[HT.o,if_neg (by omega),HC.o]);clear HT;subst hk0;simp only[Nat.zero_mul,Nat.add_zero] at a0 a1 a2 a3 a4;(go_upto_region 17 with fail);generalize hW5:World.alloc _ _=W5;obtain⟨Y,hY⟩:∃ Y,Y=wr.heap.size:=⟨_,rfl⟩;(have bA:Blk W5 Y 64 #[.int .i64 a.f,.int .i64 a.t,.int .i64 a.i,.int .i64 a.o,.int .i64 a.w]:=by rw[← hW5];exact Blk.at_ hY);have HO5:=zh (show W5.ownsRow Z 64 5 (.slice A5 m c5) m (arcRow l2) by rw[← hW5];exact HOWN.o.alloc _);have HB5:=zh (show Below Z _ W5 from HBK.o.trans (show Below Z wr W5 by rw[← hW5];exact (Below.refl Z wr).alloc hZw _));(have hneY:(Value.slice A5 m c5).ownBlock≠some Y:=fun e=>by have:=(HLOW.o _ e).2;omega);(have hZY:Z≤Y:=by omega);have f0:=bA.cell 0;have f1:=bA.cell 1;have f2:=bA.cell 2;have f3:=bA.cell 3;have f4:=bA.cell 4;simp at f0 f1 f2 f3 f4;have lY:=bA.lt
      try simp only[← hY]
      clear hW5 hY bA a0 a1 a2 a3 a4 lb hbZ HBK HOWN HR2;go_wp2_with (at_builtin;refine wpList_append_own _ rfl (.tmp 106) (.tmp 108) 22 rfl Z 64 ia _ 5 40 Try.underlying22 ha0 ha1 ha2 ha3 rfl (by omega) (.slice A5 m c5) m _ rfl (HO5.o.alloc _) ⟨_,0,none⟩ 1 1 (arcRow [a]) rfl (by rfl) (World.news_of_block (cs:=(arcRow [a]).toArray) (t:=64) (fr:=(0,0)) (Blk.at_ rfl)) (zAq _) (by simp only[maxLen];omega) (by omega) (by simp;omega) ?_;intro v' w6 hown2 hg2 _;obtain⟨Av,cv,rfl,hkcv,_⟩:=zAa hown2);have hs6:=hg2.size;simp at hs6;go_roundw
      case rel=>exact⟨0+1,m+1,l2++[a],by omega,by omega,by go_num,zh HCN.o.symm,zh (by rw[wAk,HM.o];rfl),zh ((HB5.o.alloc (by omega) _).grown hg2 (by simp;omega) (fun q hq=>(HLOW.o q hq).1)),zh ⟨Av,cv,rfl,by rw[zAu];exact hown2⟩⟩
      case measure=>simp[intOf];omega
     ·have tz:decide ((k:Int)>0)=true:=decide_eq_true (by omega);obtain⟨k1,hk1⟩:∃ k1,k1+1=k:=⟨k-1,by omega⟩;obtain⟨b',off',p,ep,_,p0,p1,p2,p3,p4,HPV⟩:=zAp HR2.o (show k1<n by omega);(injection ep with ep);(injection ep with ep1 ep2);subst ep1 ep2;(have ek:(k:Int)-1=(k1:Int):=by omega);(have k10:(0:Int)≤(k1:Int):=by omega);(have k11:(k1:Int)<(n:Int):=by omega);have HPE:=zh (show l.getD (k-1) dA=p by rw[show k-1=k1 by omega];exact HPV.o);have HSE:=zh (zKw red p a);clear hk1 HPV;obtain⟨lk,hlk⟩:∃ z,z=likeA a p:=⟨_,rfl⟩;obtain⟨sm,hsm⟩:∃ z,z=sameA red p a:=⟨_,rfl⟩;rw[← hlk,← hsm] at HSE;have HLK:=zh hlk;have HSM:=zh hsm;clear hlk hsm;(go_upto_region 15 with fail);generalize hW5:World.alloc _ _=W5;obtain⟨Y,hY⟩:∃ Y,Y=wr.heap.size:=⟨_,rfl⟩;(have bA:Blk W5 Y 64 #[.int .i64 a.f,.int .i64 a.t,.int .i64 a.i,.int .i64 a.o,.int .i64 a.w]:=by rw[← hW5];exact (Blk.at_ hY).alloc _);(have bP:Blk W5 (Y+1) 64 #[.int .i64 p.f,.int .i64 p.t,.int .i64 p.i,.int .i64 p.o,.int .i64 p.w]:=by rw[← hW5];exact Blk.at_ (by simp[hY]));have HO5:=zh (show W5.ownsRow Z 64 5 (.slice A5 m c5) m (arcRow l2) by rw[← hW5];exact (HOWN.o.alloc _).alloc _);have HB5:=zh (show Below Z _ W5 from HBK.o.trans (show Below Z wr W5 by rw[← hW5];exact ((Below.refl Z wr).alloc hZw _).alloc (by simp;omega) _));(have hneY:(Value.slice A5 m c5).ownBlock≠some Y:=fun e=>by have:=(HLOW.o _ e).2;omega);(have hZY:Z≤Y:=by omega);have f0:=bA.cell 0;have f1:=bA.cell 1;have f2:=bA.cell 2;have f3:=bA.cell 3;have f4:=bA.cell 4;have g0:=bP.cell 0;have g1:=bP.cell 1;have g2:=bP.cell 2;have g3:=bP.cell 3;have g4:=bP.cell 4;simp at f0 f1 f2 f3 f4 g0 g1 g2 g3 g4;have lY:=bA.lt;have lY1:=bP.lt;have HBA:=zh bA
      try simp only[← hY]
      clear hW5 hY bA bP a0 a1 a2 a3 a4 p0 p1 p2 p3 p4 lb hbZ HBK HOWN HR2
      go_cut [12] from 69 to 110 (fun s12 wx=>s12=.bool lk∧wx=W5)
      case first =>
       by_cases e1:a.f=p.f
       ·(have t1:(a.f==p.f)=true:=by simp[e1]);by_cases e2:a.i=p.i
        ·(have t2:(a.i==p.i)=true:=by simp[e2]);by_cases e3:a.o=p.o
         ·(have t3:(a.o==p.o)=true:=by simp[e3]);by_cases e4:a.t=p.t
          ·(have t4:(a.t==p.t)=true:=by simp[e4]);have HV:=zh (show lk=true by rw[HLK.o];unfold likeA;simp[e1,e2,e3,e4]);clear e1 e2 e3 e4;go_wp2;go_meet;exact⟨by rw[HV.o],rfl⟩
          ·(have t4:(a.t==p.t)=false:=by simp[e4]);have HV:=zh (show lk=false by rw[HLK.o];unfold likeA;simp[e4]);clear e1 e2 e3 e4;go_wp2;go_meet;exact⟨by rw[HV.o],rfl⟩
         ·(have t3:(a.o==p.o)=false:=by simp[e3]);have HV:=zh (show lk=false by rw[HLK.o];unfold likeA;simp[e3]);clear e1 e2 e3;go_wp2;go_meet;exact⟨by rw[HV.o],rfl⟩
        ·(have t2:(a.i==p.i)=false:=by simp[e2]);have HV:=zh (show lk=false by rw[HLK.o];unfold likeA;simp[e2]);clear e1 e2;go_wp2;go_meet;exact⟨by rw[HV.o],rfl⟩
       ·(have t1:(a.f==p.f)=false:=by simp[e1]);have HV:=zh (show lk=false by rw[HLK.o];unfold likeA;simp[e1]);clear e1;go_wp2;go_meet;exact⟨by rw[HV.o],rfl⟩
      case rest =>
      obtain⟨rfl,rfl⟩:=hcut;go_upto_region 16 with fail
      go_cut [105] from 95 to 110 (fun s105 wx=>s105=.bool sm∧wx=wc)
      case first =>
       cases lk
       ·have HV:=zh (show sm=false by rw[HSE.o];rfl);go_wp2;go_meet;exact⟨by rw[HV.o],rfl⟩
       ·cases red
        ·by_cases e5:a.w=p.w
         ·(have t5:(a.w==p.w)=true:=by simp[e5]);have HV:=zh (show sm=true by rw[HSE.o];simp[e5]);clear e5;go_wp2;go_meet;exact⟨by rw[HV.o],rfl⟩
         ·(have t5:(a.w==p.w)=false:=by simp[e5]);have HV:=zh (show sm=false by rw[HSE.o];simp[e5]);clear e5;go_wp2;go_meet;exact⟨by rw[HV.o],rfl⟩
        ·have HV:=zh (show sm=true by rw[HSE.o];rfl);go_wp2;go_meet;exact⟨by rw[HV.o],rfl⟩
      case rest =>
      obtain⟨rfl,rfl⟩:=hcut;cases sm
      ·have HCN:=zh (show compact (sameA red) (l.take (k+1))=l2++[a] by rw[HT.o,if_neg (by rw[HPE.o,← HSM.o];simp),HC.o]);clear HT HSE HSM HLK HPE g0 g1 g2 g3 g4 lY1;go_wp2_with (at_builtin;refine wpList_append_own _ rfl (.tmp 106) (.tmp 108) 22 rfl Z 64 ia _ 5 40 Try.underlying22 ha0 ha1 ha2 ha3 rfl (by omega) (.slice A5 m c5) m _ rfl (HO5.o.alloc _) ⟨_,0,none⟩ 1 1 (arcRow [a]) rfl (by rfl) (World.news_of_block (cs:=(arcRow [a]).toArray) (t:=64) (fr:=(0,0)) (Blk.at_ rfl)) (zAq _) (by simp only[maxLen];omega) (by omega) (by simp;omega) ?_;intro v' w6 hown2 hg2 _;obtain⟨Av,cv,rfl,hkcv,_⟩:=zAa hown2);have hs6:=hg2.size;simp at hs6;go_roundw
       case rel=>exact⟨k+1,m+1,l2++[a],by omega,by omega,by go_num,zh HCN.o.symm,zh (by rw[wAk,HM.o];rfl),zh ((HB5.o.alloc (by omega) _).grown hg2 (by simp;omega) (fun q hq=>(HLOW.o q hq).1)),zh ⟨Av,cv,rfl,by rw[zAu];exact hown2⟩⟩
       case measure=>simp[intOf];omega
      ·have HCN:=zh (show compact (sameA red) (l.take (k+1))=l2 by rw[HT.o,if_pos ⟨hk0,by rw[HPE.o];exact HSM.o.symm⟩,List.append_nil,HC.o]);clear HT HSE HSM HLK HPE g0 g1 g2 g3 g4 lY1;go_wp2;go_roundw
       case rel=>exact⟨k+1,m,l2,by omega,by omega,by go_num,zh HCN.o.symm,HM,HB5,zh ⟨A5,c5,rfl,HO5.o⟩⟩
       case measure=>simp[intOf];omega
    ·(obtain rfl:k=n:=by omega);have tk:decide ((k:Int)<(k:Int))=false:=decide_eq_false (by omega);have HCE:=zh (show l2=compact (sameA red) l by rw[HC.o,List.take_of_length_le (by rw[HLL.o];exact wAh _)]);go_wp2;exact bodyPost_ret (v:=.slice A5 m c5) (by simp[results,Try.results104,go_sem]) rfl ⟨A5,c5,by rw[← HCE.o,HM.o],by rw[← HCE.o,HM.o,← HHW.o];exact zH1 HOWN.o hHZ,by rw[← HHW.o];exact HBZ.o.trans (HBK.o.mono hHZ)⟩
end Go.Proofs.Ytkfdhpbnphojoaa
