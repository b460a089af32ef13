/- Part of the proof. -/
import Derived.Test.YtkfdhpbnphojoaaMc16
set_option linter.unusedSimpArgs false
set_option linter.unusedVariables false
set_option maxRecDepth 100000
set_option maxHeartbeats 16000000
open List renaming setIfInBounds_toArray→wAb,getElem_cons_zero→wAd,getElem_cons_succ→wAe,getElem_toArray→wAf,set_cons_zero→wAg,set_cons_succ→wAh,take_of_length_le→wAj,drop_succ_cons→wAk,getElem?_append_right→wAm,findSome?_eq_none_iff→wAn,getElem?_eq_getElem→wAo,getElem?_eq_none→wAp,range→wAq,getElem?_range→wAr,length_append→wAs,take_add_one→wAt,mem_append→wAu,drop_zero→wAv,mem_range→wAw
open Nat renaming le_refl→wAa,eq_zero_or_pos→wAi
open Go.RowKit.Below renaming setCell→wAc
open Go.World renaming alloc→wAl
namespace Go.Proofs.Ytkfdhpbnphojoaa
open Go.RowKit Gm Go.Sort Go.Shelf
theorem zK1 (
 A:Option Addr) (n c:Nat) (red:Bool) (L:List Arc) (w:World) (B:Nat) (hB:B≤w.heap.size) (hl:L.length=n) (hn:n≤1000000) (h:Rd w B 5 A n (arcCell L)) :
 Calls Try.prog 104 #[.slice A n c,.bool red] w fun e w'=>∃ A' c',e=.returned (.slice A' (compact (sameA red) (srtA L)).length c')∧w'.ownsRow w.heap.size 64 5 (.slice A' (compact (sameA red) (srtA L)).length c') (compact (sameA red) (srtA L)).length (arcRow (compact (sameA red) (srtA L)))∧Below w.heap.size w w':=by
 have hA:A=none→n=0:=by
  intro e;rcases wAi n with h0 | h0
  · exact h0
  ·obtain⟨b,off,h1,_⟩:=h h0;rw[e] at h1;cases h1
 have HL:=zh hl;obtain⟨ia,ha0,ha1,ha2,ha3⟩:=info_parts zBa;have h':Rd (w.alloc (Obj.cells #[] 64)) B 5 A n (arcCell L):=h.below (show Below w.heap.size w _ by go_grown) hB;have HLESS:=zh (fun a b W=>zHo a b W);clear h hl;obtain⟨S,hS⟩:∃ S,S=srtA L:=⟨_,rfl⟩;rw[← hS];have HSS:=zh hS;clear hS
 go_enter Try.func104,Try.ntmps104
 go_wp2_with (at_builtin;refine zAw _ rfl (.tmp 13) (.tmp 14) 22 rfl w.heap.size 64 ia _ 5 40 Try.underlying22 ha0 ha1 ha2 ha3 rfl (by omega) (.slice (some ⟨w.heap.size,0,none⟩) 0 0) 0 [] rfl (World.ownsRow_made _ _ 0 (wAa _) (by simp[maxLen]) (by simp)) B A n c (arcRow L) (arcCell L) rfl h' hA (by rw[zAv,HL.o]) (fun i j hi hj=>zAr _ i j (by rw[HL.o];exact hi) hj) (zAq _) (by simp only[maxLen];omega) (by omega) (by simp) ?_;intro v1 w1 hown hg _;obtain⟨A0,c0,rfl,hkc0,_⟩:=zAa hown);simp only[Nat.zero_add,List.nil_append] at hown hkc0 ⊢;have hb1:Below w.heap.size w w1:=((Below.refl w.heap.size w).alloc (wAa _) _).grown hg (by simp) (by simp[Value.ownBlock]);obtain⟨H,hH⟩:∃ H,H=w.heap.size:=⟨_,rfl⟩;rw[← hH] at hown hb1 ⊢;have hwz:H≤w1.heap.size:=by rw[hH];exact hb1.size
 have hHw:H≤w.heap.size:=by omega
 have HHW:=zh hH;have HB1:=zh hb1;have HO1:=zh hown;clear hown hb1 hg h' hA hH hB
 go_loopw [6] (fun iv wr=>∃ (i:Nat) (l:List Arc),1≤i∧i≤n+1∧iv=.int .i64 i∧Hid (Below H w wr)∧Hid (wr.ownsRow H 64 5 (.slice A0 n c0) n (arcRow l))∧Hid (l.Perm L)∧Hid (zGa l i)) (fun iv _=>n+1-(intOf iv).toNat)
 case atStart=>exact⟨1,L,wAa _,by omega,rfl,HB1,HO1,zh (List.Perm.refl _),zh (zGg _)⟩
 case round =>
  clear HB1 HO1 hwz;obtain⟨i,l,hi1,hin,rfl,HB2,HO2,HP,HS⟩:=hrel;have HLL:=zh (show l.length=n by rw[HP.o.length_eq,HL.o]);by_cases hlt:i<n
  ·have ti:decide ((i:Int)<(n:Int))=true:=decide_eq_true (by omega);obtain⟨g,cap,ev,hHg,hgw,_,_⟩:=zCS HO2.o (by omega);(injection ev with e1 e2 e3);subst e1 e3;clear e2 hgw;have HIS:=zh (zIR HS.o);go_wp2
   go_loopw [7] (fun jv wr=>∃ (j:Nat) (l:List Arc),j≤i∧jv=.int .i64 j∧Hid (Below H w wr)∧Hid (wr.ownsRow H 64 5 (.slice (some ⟨g,0,none⟩) n c0) n (arcRow l))∧Hid (l.Perm L)∧Hid (Ins l i j)) (fun jv _=>(intOf jv).toNat)
   case atStart=>exact⟨i,l,wAa _,rfl,HB2,HO2,HP,HIS⟩
   case round =>
    clear HB2 HO2 HP HS HIS HLL l;obtain⟨j,l,hj,rfl,HB2,HO2,HP,HS⟩:=hrel;have HLL:=zh (show l.length=n by rw[HP.o.length_eq,HL.o]);have hH:=HB2.o.size;rcases wAi j with hj0 | hj0
    ·subst hj0;(have tj:decide (((0:Nat):Int)>0)=false:=by decide);have HSN:=zh (zGS (Nat.zero_le _) HS.o (.inl rfl));(go_upto_region 6 with fail);refine zAE (fun _=>True) 12 [(0,false),(1,false),(2,false),(3,false),(4,false),(5,false),(6,false),(7,false),(8,false),(9,false),(10,false),(11,false)] (by kernel_rfl) (by kernel_rfl) trivial ?_;simp only[wAk,wAv]
     repeat (first | (refine mix_q (v:=?_) (by rfl) (by rfl) ?_ ?_;rotate_left;(focus (intro w' hC;(try dsimp only at hC);go_simp;(first | done | with_reducible rfl)));simp only[Act.put,wAb,wAg,wAh,wAf,wAd,wAe]) | (refine zDZ (by rfl) (by rfl) ?_;simp only[Act.put,wAb,wAg,wAh,wAf,wAd,wAe]))
     refine zAs ?_;(try simp only[Act.put,wAb,wAg,wAh,wAf,wAd,wAe]);go_wp2;refine NoPanic.normal ?_;go_wp2;go_roundw
     case rel=>exact⟨i+1,l,by omega,by omega,by go_num,zh HB2.o.drew,zh (zDc HO2.o),HP,HSN⟩
     case measure=>simp[intOf];omega
    ·obtain⟨k,hjk⟩:∃ k,j=k+1:=⟨j-1,by omega⟩;(have hjn:j<n:=by omega);(have hkn:k<n:=by omega);obtain⟨x,hx⟩:∃ x,x=l.getD j dA:=⟨_,rfl⟩;obtain⟨y,hy⟩:∃ x,x=l.getD k dA:=⟨_,rfl⟩;obtain⟨b0,b1,b2,b3,b4⟩:=zAF HO2.o HLL.o hjn hx.symm;obtain⟨a0,a1,a2,a3,a4⟩:=zAF HO2.o HLL.o hkn hy.symm;have tj:decide ((j:Int)>0)=true:=decide_eq_true (by omega);(have ej:(j:Int)-1=(k:Int):=by omega);(have ji0:(0:Int)≤(j:Int):=by omega);(have ji1:(j:Int)<(n:Int):=by omega);(have ki0:(0:Int)≤(k:Int):=by omega);(have ki1:(k:Int)<(n:Int):=by omega);have wk:IntKind.i64.wrap (k:Int)=(k:Int):=IntWalk.i64_in _ (by omega);have HX:=zh hx;have HY:=zh hy;have HJK:=zh hjk;have HJN:=zh hjn;clear hx hy hjk;(go_upto_region 6 with fail);refine zAE (fun w'=>w'.cell? ⟨g,j*5,none⟩=some (.int .i64 x.f)∧w'.cell? ⟨g,j*5+1,none⟩=some (.int .i64 x.t)∧w'.cell? ⟨g,j*5+2,none⟩=some (.int .i64 x.i)∧w'.cell? ⟨g,j*5+3,none⟩=some (.int .i64 x.o)∧w'.cell? ⟨g,j*5+4,none⟩=some (.int .i64 x.w)∧w'.cell? ⟨g,k*5,none⟩=some (.int .i64 y.f)∧w'.cell? ⟨g,k*5+1,none⟩=some (.int .i64 y.t)∧w'.cell? ⟨g,k*5+2,none⟩=some (.int .i64 y.i)∧w'.cell? ⟨g,k*5+3,none⟩=some (.int .i64 y.o)∧w'.cell? ⟨g,k*5+4,none⟩=some (.int .i64 y.w)) 12 [(0,false),(1,false),(2,false),(3,false),(4,false),(5,false),(6,false),(7,false),(8,false),(9,false),(10,false),(11,false)] (by kernel_rfl) (by kernel_rfl) ⟨b0,b1,b2,b3,b4,a0,a1,a2,a3,a4⟩ ?_;simp only[wAk,wAv]
     repeat (refine mix_q (v:=?_) (by rfl) (by rfl) ?_ ?_;rotate_left;(focus (intro w' hC;(try dsimp only at hC);go_simp;(first | done | with_reducible rfl)));simp only[Act.put,wAb,wAg,wAh,wAf,wAd,wAe])
     refine zAs ?_;(try simp only[Act.put,wAb,wAg,wAh,wAf,wAd,wAe]);go_wp2_with fail;refine (HLESS.o x y _).mono ?_;rintro e w2 ⟨rfl,hb2⟩;have hz2:=hb2.size;have HB3:=zh (HB2.o.drew.trans (hb2.mono (by simp;omega)));have HO3:=zh (zC3 (zDc HO2.o) hb2);obtain⟨lt,hlt2⟩:∃ z,z=arcLess x y:=⟨_,rfl⟩;rw[← hlt2];have HLT:=zh hlt2;clear hb2 hlt2 b0 b1 b2 b3 b4 a0 a1 a2 a3 a4 HB2 HO2;cases lt
     ·have HSN:=zh (zGS hj HS.o (.inr ⟨k,HJK.o,by rw[← HX.o,← HY.o];exact HLT.o.symm⟩));go_wp2;refine NoPanic.normal ?_;go_wp2;go_roundw
      case rel=>exact⟨i+1,l,by omega,by omega,by go_num,HB3,HO3,HP,HSN⟩
      case measure=>simp[intOf];omega
     ·have HSN:=zh (show Ins (swA l k) i k by
       have h:=HS.o;rw[HJK.o] at h;refine zKi (by rw[HLL.o];exact hlt) (by omega) h ?_
       rw[← HJK.o,← HX.o,← HY.o];exact HLT.o.symm)
      have HPN:=zh ((zHh l k (by rw[HLL.o];omega)).trans HP.o);have HON:=zh (zN0 HO3.o HLL.o HJK.o hjn HX.o.symm HY.o.symm);(have hfr:=fun o=>zDM HO3.o rfl (by omega) o);obtain⟨b0,b1,b2,b3,b4⟩:=zAF HO3.o HLL.o hjn HX.o.symm;obtain⟨a0,a1,a2,a3,a4⟩:=zAF HO3.o HLL.o hkn HY.o.symm
      have hgz:g<w2.heap.size:=by
       obtain⟨g',c',ev,_,h2,_⟩:=zCS HO3.o (by omega);(injection ev with ev);(injection ev with ev);(injection ev with ev);omega
      have hjk:=HJK.o;(have n00:¬ (j*5=k*5):=by omega);(have m00:¬ (k*5=j*5):=by omega);(have n01:¬ (j*5=k*5+1):=by omega);(have m01:¬ (k*5=j*5+1):=by omega);(have n02:¬ (j*5=k*5+2):=by omega);(have m02:¬ (k*5=j*5+2):=by omega);(have n03:¬ (j*5=k*5+3):=by omega);(have m03:¬ (k*5=j*5+3):=by omega);(have n04:¬ (j*5=k*5+4):=by omega);(have m04:¬ (k*5=j*5+4):=by omega);(have n10:¬ (j*5+1=k*5):=by omega);(have m10:¬ (k*5+1=j*5):=by omega);(have n11:¬ (j*5+1=k*5+1):=by omega);(have m11:¬ (k*5+1=j*5+1):=by omega);(have n12:¬ (j*5+1=k*5+2):=by omega);(have m12:¬ (k*5+1=j*5+2):=by omega);(have n13:¬ (j*5+1=k*5+3):=by omega);(have m13:¬ (k*5+1=j*5+3):=by omega);(have n14:¬ (j*5+1=k*5+4):=by omega);(have m14:¬ (k*5+1=j*5+4):=by omega);(have n20:¬ (j*5+2=k*5):=by omega);(have m20:¬ (k*5+2=j*5):=by omega);(have n21:¬ (j*5+2=k*5+1):=by omega);(have m21:¬ (k*5+2=j*5+1):=by omega);(have n22:¬ (j*5+2=k*5+2):=by omega);(have m22:¬ (k*5+2=j*5+2):=by omega);(have n23:¬ (j*5+2=k*5+3):=by omega);(have m23:¬ (k*5+2=j*5+3):=by omega);(have n24:¬ (j*5+2=k*5+4):=by omega);(have m24:¬ (k*5+2=j*5+4):=by omega);(have n30:¬ (j*5+3=k*5):=by omega);(have m30:¬ (k*5+3=j*5):=by omega);(have n31:¬ (j*5+3=k*5+1):=by omega);(have m31:¬ (k*5+3=j*5+1):=by omega);(have n32:¬ (j*5+3=k*5+2):=by omega);(have m32:¬ (k*5+3=j*5+2):=by omega);(have n33:¬ (j*5+3=k*5+3):=by omega);(have m33:¬ (k*5+3=j*5+3):=by omega);(have n34:¬ (j*5+3=k*5+4):=by omega);(have m34:¬ (k*5+3=j*5+4):=by omega);(have n40:¬ (j*5+4=k*5):=by omega);(have m40:¬ (k*5+4=j*5):=by omega);(have n41:¬ (j*5+4=k*5+1):=by omega);(have m41:¬ (k*5+4=j*5+1):=by omega);(have n42:¬ (j*5+4=k*5+2):=by omega);(have m42:¬ (k*5+4=j*5+2):=by omega);(have n43:¬ (j*5+4=k*5+3):=by omega);(have m43:¬ (k*5+4=j*5+3):=by omega);(have n44:¬ (j*5+4=k*5+4):=by omega);(have m44:¬ (k*5+4=j*5+4):=by omega);clear hjk;go_wp2;refine NoPanic.normal ?_;go_upto_region 8 with fail
      go_region
      go_wp2;(have hjz:j-1=k:=by omega);have HBN:Below H w _:=HB3.o;go_roundw
      case rel =>
       refine⟨k,swA l k,by omega,by go_num,?_,zh (zDc HON.o),HPN,HSN⟩;refine zh (Below.drew (wAc (wAc (wAc (wAc (wAc (wAc (wAc (wAc (wAc (wAc HB3.o ?_ _) ?_ _) ?_ _) ?_ _) ?_ _) ?_ _) ?_ _) ?_ _) ?_ _) ?_ _))
       all_goals (dsimp only;omega)
      case measure=>simp[intOf];omega
  ·have ti:decide ((i:Int)<(n:Int))=false:=decide_eq_false (by omega);(have hlS:l=S:=by rw[HSS.o];exact zJ0 HS.o (by rw[HLL.o];omega) HP.o);subst hlS;have HR:=zh (Rd.of_own HO2.o (fun i j hi hj=>zAr _ i j (by rw[HLL.o];exact hi) hj));obtain⟨Z,hZ⟩:∃ Z,Z=wr.heap.size:=⟨_,rfl⟩;(have hHZ:H≤Z:=by have:=HB2.o.size;omega);have HBZ:=zh HB2.o;(have hZ1:Z≤wr.heap.size:=by omega);rw[← hZ] at HR;have HLZ:=zh hZ;clear hZ HS HP HSS ti HO2 HB2;go_wp2
   go_loopw [57,8] (fun iv kv w8=>∃ (k m:Nat) (l2:List Arc),k≤n∧m≤k∧iv=.int .i64 k∧Hid (l2=compact (sameA red) (l.take k))∧Hid (l2.length=m)∧Hid (Below Z wr w8)∧Hid (∃ A5 c5,kv=.slice A5 m c5∧w8.ownsRow Z 64 5 (.slice A5 m c5) m (arcRow l2))) (fun iv _ _=>n-(intOf iv).toNat)
   case atStart=>exact⟨0,0,[],by omega,wAa _,rfl,zh rfl,zh rfl,zh (Below.refl _ _),zh ⟨none,0,rfl,World.ownsRow_nil _ _ _ _⟩⟩
   case round =>
    obtain⟨k,m,l2,hkn,hmk,rfl,HC,HM,HBK,HK⟩:=hrel;obtain⟨A5,c5,rfl,hown5⟩:=HK.o;have HOWN:=zh hown5;(have hlow:∀ q,(Value.slice A5 m c5).ownBlock=some q→Z≤q∧q<wr.heap.size:=fun q hq=>hown5.lt q hq);have HLOW:=zh hlow;have HR2:=zh (HR.o.below HBK.o (wAa _));have hsz:=HBK.o.size;(have hZw:Z≤wr.heap.size:=by omega);clear HK hown5 hlow;by_cases hk:k<n
    ·have tk:decide ((k:Int)<(n:Int))=true:=decide_eq_true (by omega);obtain⟨b,off,a,rfl,hbZ,a0,a1,a2,a3,a4,HA⟩:=zAp HR2.o hk;(have lb:b<wr.heap.size:=by omega);(have ki0:(0:Int)≤(k:Int):=by omega);(have ki1:(k:Int)<(n:Int):=by omega);have HT:=zh (zAI (e:=sameA red) (show k<l.length by rw[HLL.o];exact hk) HA.o);rcases wAi k with hk0 | hk0
     ·have tz:decide ((k:Int)>0)=false:=decide_eq_false (by omega);have HCN:=zh (show compact (sameA red) (l.take (k+1))=l2++[a] by rw[HT.o,if_neg (by omega),HC.o]);clear HT;subst hk0;simp only[Nat.zero_mul,Nat.add_zero] at a0 a1 a2 a3 a4;(go_upto_region 17 with fail);generalize hW5:wAl _ _=W5;obtain⟨Y,hY⟩:∃ Y,Y=wr.heap.size:=⟨_,rfl⟩;(have bA:Blk W5 Y 64 #[.int .i64 a.f,.int .i64 a.t,.int .i64 a.i,.int .i64 a.o,.int .i64 a.w]:=by rw[← hW5];exact Blk.at_ hY);have HO5:=zh (show W5.ownsRow Z 64 5 (.slice A5 m c5) m (arcRow l2) by rw[← hW5];exact HOWN.o.alloc _);have HB5:=zh (show Below Z _ W5 from HBK.o.trans (show Below Z wr W5 by rw[← hW5];exact (Below.refl Z wr).alloc hZw _));(have hneY:(Value.slice A5 m c5).ownBlock≠some Y:=fun e=>by have:=(HLOW.o _ e).2;omega);(have hZY:Z≤Y:=by omega);have f0:=bA.cell 0;have f1:=bA.cell 1;have f2:=bA.cell 2;have f3:=bA.cell 3;have f4:=bA.cell 4;simp at f0 f1 f2 f3 f4;have lY:=bA.lt
      try simp only[← hY]
      clear hW5 hY bA a0 a1 a2 a3 a4 lb hbZ HBK HOWN HR2;go_wp2_with (at_builtin;refine wpList_append_own _ rfl (.tmp 106) (.tmp 108) 22 rfl Z 64 ia _ 5 40 Try.underlying22 ha0 ha1 ha2 ha3 rfl (by omega) (.slice A5 m c5) m _ rfl (HO5.o.alloc _) ⟨_,0,none⟩ 1 1 (arcRow [a]) rfl (by rfl) (World.news_of_block (cs:=(arcRow [a]).toArray) (t:=64) (fr:=(0,0)) (Blk.at_ rfl)) (zAq _) (by simp only[maxLen];omega) (by omega) (by simp;omega) ?_;intro v' w6 hown2 hg2 _;obtain⟨Av,cv,rfl,hkcv,_⟩:=zAa hown2);have hs6:=hg2.size;simp at hs6;go_roundw
      case rel=>exact⟨0+1,m+1,l2++[a],by omega,by omega,by go_num,zh HCN.o.symm,zh (by rw[wAs,HM.o];rfl),zh ((HB5.o.alloc (by omega) _).grown hg2 (by simp;omega) (fun q hq=>(HLOW.o q hq).1)),zh ⟨Av,cv,rfl,by rw[zAu];exact hown2⟩⟩
      case measure=>simp[intOf];omega
     ·have tz:decide ((k:Int)>0)=true:=decide_eq_true (by omega);obtain⟨k1,hk1⟩:∃ k1,k1+1=k:=⟨k-1,by omega⟩;obtain⟨b',off',p,ep,_,p0,p1,p2,p3,p4,HPV⟩:=zAp HR2.o (show k1<n by omega);(injection ep with ep);(injection ep with ep1 ep2);subst ep1 ep2;(have ek:(k:Int)-1=(k1:Int):=by omega);(have k10:(0:Int)≤(k1:Int):=by omega);(have k11:(k1:Int)<(n:Int):=by omega);have HPE:=zh (show l.getD (k-1) dA=p by rw[show k-1=k1 by omega];exact HPV.o);have HSE:=zh (zKw red p a);clear hk1 HPV;obtain⟨lk,hlk⟩:∃ z,z=likeA a p:=⟨_,rfl⟩;obtain⟨sm,hsm⟩:∃ z,z=sameA red p a:=⟨_,rfl⟩;rw[← hlk,← hsm] at HSE;have HLK:=zh hlk;have HSM:=zh hsm;clear hlk hsm;(go_upto_region 15 with fail);generalize hW5:wAl _ _=W5;obtain⟨Y,hY⟩:∃ Y,Y=wr.heap.size:=⟨_,rfl⟩;(have bA:Blk W5 Y 64 #[.int .i64 a.f,.int .i64 a.t,.int .i64 a.i,.int .i64 a.o,.int .i64 a.w]:=by rw[← hW5];exact (Blk.at_ hY).alloc _);(have bP:Blk W5 (Y+1) 64 #[.int .i64 p.f,.int .i64 p.t,.int .i64 p.i,.int .i64 p.o,.int .i64 p.w]:=by rw[← hW5];exact Blk.at_ (by simp[hY]));have HO5:=zh (show W5.ownsRow Z 64 5 (.slice A5 m c5) m (arcRow l2) by rw[← hW5];exact (HOWN.o.alloc _).alloc _);have HB5:=zh (show Below Z _ W5 from HBK.o.trans (show Below Z wr W5 by rw[← hW5];exact ((Below.refl Z wr).alloc hZw _).alloc (by simp;omega) _));(have hneY:(Value.slice A5 m c5).ownBlock≠some Y:=fun e=>by have:=(HLOW.o _ e).2;omega);(have hZY:Z≤Y:=by omega);have f0:=bA.cell 0;have f1:=bA.cell 1;have f2:=bA.cell 2;have f3:=bA.cell 3;have f4:=bA.cell 4;have g0:=bP.cell 0;have g1:=bP.cell 1;have g2:=bP.cell 2;have g3:=bP.cell 3;have g4:=bP.cell 4;simp at f0 f1 f2 f3 f4 g0 g1 g2 g3 g4;have lY:=bA.lt;have lY1:=bP.lt;have HBA:=zh bA
      try simp only[← hY]
      clear hW5 hY bA bP a0 a1 a2 a3 a4 p0 p1 p2 p3 p4 lb hbZ HBK HOWN HR2
      go_cut [12] from 69 to 110 (fun s12 wx=>s12=.bool lk∧wx=W5)
      case first =>
       by_cases e1:a.f=p.f
       ·(have t1:(a.f==p.f)=true:=by simp[e1]);by_cases e2:a.i=p.i
        ·(have t2:(a.i==p.i)=true:=by simp[e2]);by_cases e3:a.o=p.o
         ·(have t3:(a.o==p.o)=true:=by simp[e3]);by_cases e4:a.t=p.t
          ·(have t4:(a.t==p.t)=true:=by simp[e4]);have HV:=zh (show lk=true by rw[HLK.o];unfold likeA;simp[e1,e2,e3,e4]);clear e1 e2 e3 e4;go_wp2;go_meet;exact⟨by rw[HV.o],rfl⟩
          ·(have t4:(a.t==p.t)=false:=by simp[e4]);have HV:=zh (show lk=false by rw[HLK.o];unfold likeA;simp[e4]);clear e1 e2 e3 e4;go_wp2;go_meet;exact⟨by rw[HV.o],rfl⟩
         ·(have t3:(a.o==p.o)=false:=by simp[e3]);have HV:=zh (show lk=false by rw[HLK.o];unfold likeA;simp[e3]);clear e1 e2 e3;go_wp2;go_meet;exact⟨by rw[HV.o],rfl⟩
        ·(have t2:(a.i==p.i)=false:=by simp[e2]);have HV:=zh (show lk=false by rw[HLK.o];unfold likeA;simp[e2]);clear e1 e2;go_wp2;go_meet;exact⟨by rw[HV.o],rfl⟩
       ·(have t1:(a.f==p.f)=false:=by simp[e1]);have HV:=zh (show lk=false by rw[HLK.o];unfold likeA;simp[e1]);clear e1;go_wp2;go_meet;exact⟨by rw[HV.o],rfl⟩
      case rest =>
      obtain⟨rfl,rfl⟩:=hcut;go_upto_region 16 with fail
      go_cut [105] from 95 to 110 (fun s105 wx=>s105=.bool sm∧wx=wc)
      case first =>
       cases lk
       ·have HV:=zh (show sm=false by rw[HSE.o];rfl);go_wp2;go_meet;exact⟨by rw[HV.o],rfl⟩
       ·cases red
        ·by_cases e5:a.w=p.w
         ·(have t5:(a.w==p.w)=true:=by simp[e5]);have HV:=zh (show sm=true by rw[HSE.o];simp[e5]);clear e5;go_wp2;go_meet;exact⟨by rw[HV.o],rfl⟩
         ·(have t5:(a.w==p.w)=false:=by simp[e5]);have HV:=zh (show sm=false by rw[HSE.o];simp[e5]);clear e5;go_wp2;go_meet;exact⟨by rw[HV.o],rfl⟩
        ·have HV:=zh (show sm=true by rw[HSE.o];rfl);go_wp2;go_meet;exact⟨by rw[HV.o],rfl⟩
      case rest =>
      obtain⟨rfl,rfl⟩:=hcut;cases sm
      ·have HCN:=zh (show compact (sameA red) (l.take (k+1))=l2++[a] by rw[HT.o,if_neg (by rw[HPE.o,← HSM.o];simp),HC.o]);clear HT HSE HSM HLK HPE g0 g1 g2 g3 g4 lY1;go_wp2_with (at_builtin;refine wpList_append_own _ rfl (.tmp 106) (.tmp 108) 22 rfl Z 64 ia _ 5 40 Try.underlying22 ha0 ha1 ha2 ha3 rfl (by omega) (.slice A5 m c5) m _ rfl (HO5.o.alloc _) ⟨_,0,none⟩ 1 1 (arcRow [a]) rfl (by rfl) (World.news_of_block (cs:=(arcRow [a]).toArray) (t:=64) (fr:=(0,0)) (Blk.at_ rfl)) (zAq _) (by simp only[maxLen];omega) (by omega) (by simp;omega) ?_;intro v' w6 hown2 hg2 _;obtain⟨Av,cv,rfl,hkcv,_⟩:=zAa hown2);have hs6:=hg2.size;simp at hs6;go_roundw
       case rel=>exact⟨k+1,m+1,l2++[a],by omega,by omega,by go_num,zh HCN.o.symm,zh (by rw[wAs,HM.o];rfl),zh ((HB5.o.alloc (by omega) _).grown hg2 (by simp;omega) (fun q hq=>(HLOW.o q hq).1)),zh ⟨Av,cv,rfl,by rw[zAu];exact hown2⟩⟩
       case measure=>simp[intOf];omega
      ·have HCN:=zh (show compact (sameA red) (l.take (k+1))=l2 by rw[HT.o,if_pos ⟨hk0,by rw[HPE.o];exact HSM.o.symm⟩,List.append_nil,HC.o]);clear HT HSE HSM HLK HPE g0 g1 g2 g3 g4 lY1;go_wp2;go_roundw
       case rel=>exact⟨k+1,m,l2,by omega,by omega,by go_num,zh HCN.o.symm,HM,HB5,zh ⟨A5,c5,rfl,HO5.o⟩⟩
       case measure=>simp[intOf];omega
    ·(obtain rfl:k=n:=by omega);have tk:decide ((k:Int)<(k:Int))=false:=decide_eq_false (by omega);have HCE:=zh (show l2=compact (sameA red) l by rw[HC.o,wAj (by rw[HLL.o];exact wAa _)]);go_wp2;exact bodyPost_ret (v:=.slice A5 m c5) (by simp[results,Try.results104,go_sem]) rfl ⟨A5,c5,by rw[← HCE.o,HM.o],by rw[← HCE.o,HM.o,← HHW.o];exact zH1 HOWN.o hHZ,by rw[← HHW.o];exact HBZ.o.trans (HBK.o.mono hHZ)⟩
open Go.RowKit Gm
theorem zD5 (va:Value) (a:Mach) (s:Int) (w:World) (B:Nat) (hB:B≤w.heap.size) (ha:MachAt w B va a) :
 Calls Try.prog 56 #[va,.int .i64 s] w fun e w'=>e=.returned (.int .i64 (finW a.fins s))∧Below w.heap.size w w':=by
 obtain⟨A,AF,n,c,nf,cf,rfl,HN,HF,hnc,hnfc,hnb,hnfb,hA,hF⟩:=ha;have HRF:=zh hF;unfold big at hnb hnfb;clear hA hF
 go_enter Try.func56,Try.ntmps56
 go_upto_region 2 with fail
 generalize hW2:wAl _ _=W2;have HBW:=zh (show Below w.heap.size w W2 by rw[← hW2];go_grown);have hz2:w.heap.size≤W2.heap.size:=HBW.o.size;have HRF2:=zh (HRF.o.below HBW.o hB);clear hW2 HRF
 go_loopw [10] (fun iv wr=>∃ k:Nat,k≤nf∧iv=.int .i64 k∧Hid (∀ x∈a.fins.take k,x.s≠s)∧Hid (Below w.heap.size W2 wr)∧w.heap.size≤wr.heap.size) (fun iv _=>nf-(intOf iv).toNat)
 case atStart=>exact⟨0,by omega,rfl,zh (fun x hx=>by simp at hx),zh (Below.refl _ _),hz2⟩
 case round =>
  obtain⟨k,hk,rfl,HALL,HBK,hzr⟩:=hrel;by_cases hkn:k<nf
  ·obtain⟨bb,off,x,rfl,hbB,d0,d1,HX⟩:=zAQ (HRF2.o.below HBK.o hB) hkn;(have hkl:k<a.fins.length:=by rw[HF.o];exact hkn);(have hgx:a.fins[k]=x:=by rw[← HX.o];simp[hkl]);(have lb:bb<wr.heap.size:=by omega);by_cases hw:x.s=s
   ·(have t3:(x.s==s)=true:=by simp[hw]);have HR:=zh (zP3 HALL.o hkl HX.o hw);have HBE:=zh (HBW.o.trans HBK.o);clear hw hgx hkl HX HALL;go_wp2;exact bodyPost_ret (v:=.int .i64 x.w) (by simp[results,Try.results56,go_sem]) rfl ⟨by rw[HR.o],HBE.o.alloc hzr _⟩
   ·have t3:(x.s==s)=false:=by simp[hw]
    have HALL2:=zh (show ∀ y∈a.fins.take (k+1),y.s≠s from fun y hy=>by
     rw[wAt,wAo hkl,hgx] at hy;rcases wAu.1 hy with h | h
     · exact HALL.o y h
     · simp at h;subst h;exact hw)
    clear hw hgx hkl HX HALL;go_wp2;go_roundw
    case rel=>exact⟨k+1,by omega,by go_num,HALL2,zh (HBK.o.alloc hzr _),by simp;omega⟩
    case measure=>simp[intOf];omega
  ·(obtain rfl:nf=k:=by omega);have HR:=zh (zN1 (s:=s) (l:=a.fins) (by have h:=HALL.o;rw[wAj (by rw[HF.o];exact wAa _)] at h;exact h));have HBE:=zh (HBW.o.trans HBK.o);clear HALL;go_wp2;exact bodyPost_ret (v:=.int .i64 (-1)) (by simp[results,Try.results56,go_sem]) rfl ⟨by rw[HR.o],HBE.o⟩
end Go.Proofs.Ytkfdhpbnphojoaa
namespace Gm
def aftF:List Arc→Int→Int→Int
 | [],_,_ => -1
 | x::l,s,y=>if x.f=s∧x.i=y then x.t else aftF l s y
theorem zFu {s y:Int} : ∀ {l:List Arc} {k:Nat},(∀ x∈l.take k,¬ (x.f=s∧x.i=y))→aftF l s y=aftF (l.drop k) s y
 | [],k,_=>by simp
 | x::l,0,_=>rfl
 | x::l,k+1,h=>by
  have h1:=h x (by simp);rw[wAk,← zFu (l:=l) (k:=k) fun z hz=>h z (by simp[hz])]
  show (if x.f=s∧x.i=y then x.t else aftF l s y)=_
  rw[if_neg h1]
theorem zPy {s y:Int} {l:List Arc} {k:Nat} {x:Arc} (h:∀ z∈l.take k,¬ (z.f=s∧z.i=y)) (hk:k<l.length) (hx:l[k]=x) (e:x.f=s∧x.i=y):aftF l s y=x.t:=by
 rw[zFu h,List.drop_eq_getElem_cons hk,hx]
 show (if x.f=s∧x.i=y then x.t else _)=_
 rw[if_pos e]
theorem zNY {s y:Int} {l:List Arc} (h:∀ z∈l,¬ (z.f=s∧z.i=y)):aftF l s y = -1:=by
 rw[zFu (k:=l.length) (by rw[List.take_length];exact h),List.drop_length];rfl
end Gm
namespace Go.Proofs.Ytkfdhpbnphojoaa
open Go.RowKit Gm
theorem zHG (va:Value) (a:Mach) (s y:Int) (w:World) (B:Nat) (hB:B≤w.heap.size) (ha:MachAt w B va a) :
 Calls Try.prog 55 #[va,.int .i64 s,.int .i64 y] w fun e w'=>e=.returned (.int .i64 (aftF a.arcs s y))∧Below w.heap.size w w':=by
 obtain⟨A,AF,n,c,nf,cf,rfl,HN,HF,hnc,hnfc,hnb,hnfb,hA,hF⟩:=ha;have HRA:=zh hA;unfold big at hnb hnfb;clear hA hF
 go_enter Try.func55,Try.ntmps55
 go_upto_region 2 with fail
 generalize hW2:wAl _ _=W2;have HBW:=zh (show Below w.heap.size w W2 by rw[← hW2];go_grown);have hz2:w.heap.size≤W2.heap.size:=HBW.o.size;have HRA2:=zh (HRA.o.below HBW.o hB);clear hW2 HRA
 go_loopw [12] (fun iv wr=>∃ k:Nat,k≤n∧iv=.int .i64 k∧Hid (∀ x∈a.arcs.take k,¬ (x.f=s∧x.i=y))∧Hid (Below w.heap.size W2 wr)∧w.heap.size≤wr.heap.size) (fun iv _=>n-(intOf iv).toNat)
 case atStart=>exact⟨0,by omega,rfl,zh (fun x hx=>by simp at hx),zh (Below.refl _ _),hz2⟩
 case round =>
  obtain⟨k,hk,rfl,HALL,HBK,hzr⟩:=hrel;by_cases hkn:k<n
  ·obtain⟨bb,off,x,rfl,hbB,d0,d1,d2,d3,d4,HX⟩:=zAp (HRA2.o.below HBK.o hB) hkn;(have hkl:k<a.arcs.length:=by rw[HN.o];exact hkn);(have hgx:a.arcs[k]=x:=by rw[← HX.o];simp[hkl]);(have lb:bb<wr.heap.size:=by omega);by_cases hw:x.f=s∧x.i=y
   ·(have t3:(x.f==s)=true:=by simp[hw.1]);(have t4:(x.i==y)=true:=by simp[hw.2]);have HR:=zh (zPy HALL.o hkl hgx hw);have HBE:=zh (HBW.o.trans HBK.o);clear hw hgx hkl HX HALL;go_wp2;exact bodyPost_ret (v:=.int .i64 x.t) (by simp[results,Try.results55,go_sem]) rfl ⟨by rw[HR.o],HBE.o.alloc hzr _⟩
   ·have HALL2:=zh (show ∀ z∈a.arcs.take (k+1),¬ (z.f=s∧z.i=y) from fun z hz=>by
     rw[wAt,wAo hkl,hgx] at hz;rcases wAu.1 hz with h | h
     · exact HALL.o z h
     · simp at h;subst h;exact hw)
    by_cases hf:x.f=s
    ·(have t3:(x.f==s)=true:=by simp[hf]);(have t4:(x.i==y)=false:=by simpa using fun e=>hw ⟨hf,e⟩);clear hw hf hgx hkl HX HALL;go_wp2;go_roundw
     case rel=>exact⟨k+1,by omega,by go_num,HALL2,zh (HBK.o.alloc hzr _),by simp;omega⟩
     case measure=>simp[intOf];omega
    ·(have t3:(x.f==s)=false:=by simp[hf]);clear hw hf hgx hkl HX HALL;go_wp2;go_roundw
     case rel=>exact⟨k+1,by omega,by go_num,HALL2,zh (HBK.o.alloc hzr _),by simp;omega⟩
     case measure=>simp[intOf];omega
  ·(obtain rfl:n=k:=by omega);have HR:=zh (zNY (s:=s) (y:=y) (l:=a.arcs) (by have h:=HALL.o;rw[wAj (by rw[HN.o];exact wAa _)] at h;exact h));have HBE:=zh (HBW.o.trans HBK.o);clear HALL;go_wp2;exact bodyPost_ret (v:=.int .i64 (-1)) (by simp[results,Try.results55,go_sem]) rfl ⟨by rw[HR.o],HBE.o⟩
end Go.Proofs.Ytkfdhpbnphojoaa
namespace Gm
def alphB (l:List Int) (k:Nat):Option (Int×Int):=if l.getD k 0<1∨1114111<l.getD k 0 then some (3,(k:Int)) else if 0<k∧l.getD k 0≤l.getD (k-1) 0 then some (13,(k:Int)) else none
def alphF (l:List Int) (ix:Int):Int×Int:=if 300<l.length then (2,ix) else ((wAq l.length).findSome? (alphB l)).getD (0,0)
theorem zEe {l:List Int} {k:Nat} {r:Int×Int} {ix:Int} (hl:¬ 300<l.length) (hk:k<l.length) (h:∀ j,j<k→alphB l j=none) (hr:alphB l k=some r):alphF l ix=r:=by
 unfold alphF;rw[if_neg hl]
 have e:wAq l.length=wAq k++(k::(wAq (l.length-k-1)).map (· + (k+1))):=by
  refine List.ext_getElem? fun i=>?_
  rcases Nat.lt_trichotomy i k with g | g | g
  · rw[List.getElem?_append_left (by simpa using g)];simp[g,Nat.lt_trans g hk]
  · subst g;rw[wAm (by simp)];simp[hk]
  ·rw[wAm (by simp;omega)];obtain⟨d,rfl⟩:∃ d,i=k+1+d:=⟨i-(k+1),by omega⟩;simp only[List.length_range,show k+1+d-k=d+1 by omega,List.getElem?_cons_succ,List.getElem?_map];by_cases gd:k+1+d<l.length
   · rw[wAr gd,wAr (by omega)];simp;omega
   · rw[wAp (by simp;omega),wAp (by simp;omega)];rfl
 rw[e,List.findSome?_append,wAn.2 (fun j hj=>h j (wAw.1 hj)),List.findSome?_cons,hr];rfl
theorem zNG {l:List Int} {ix:Int} (hl:¬ 300<l.length) (h:∀ j,j<l.length→alphB l j=none):alphF l ix=(0,0):=by
 unfold alphF;rw[if_neg hl,wAn.2 (fun j hj=>h j (wAw.1 hj))];rfl
end Gm
namespace Go.Proofs.Ytkfdhpbnphojoaa
open Go.RowKit Gm
theorem zGC (
 vl:Value) (l:List Int) (ix:Int) (w:World) (B:Nat) (hB:B≤w.heap.size) (hl:Nums w B vl l) :
 Calls Try.prog 29 #[vl,.int .i64 ix] w fun e w'=>e=.returned (.agg #[.int .i64 (alphF l ix).1,.int .i64 (alphF l ix).2])∧Below w.heap.size w w':=by
 obtain⟨A,n,c,rfl,HN,hnc,hnb,hA⟩:=hl;have HRA:=zh hA;unfold big at hnb;clear hA
 go_enter Try.func29,Try.ntmps29
 by_cases h3:300<n
 ·have t1:decide ((n:Int)>300)=true:=decide_eq_true (by omega);have t1':decide ((300:Int)<(n:Int))=true:=decide_eq_true (by omega);have HR:=zh (show alphF l ix=(2,ix) by unfold alphF;rw[if_pos (by rw[HN.o];exact h3)]);clear h3;go_wp2_with fail;refine (zBD _ _ _).mono ?_;rintro e w9 ⟨rfl,hb9⟩;have bR:=(Blk.new w 28 #[.int .i64 0,.int .i64 0]).below hb9 (by simp);have HB9:=zh (Below.trans (show Below w.heap.size w _ by go_grown) (hb9.mono (by simp<;>omega)));have r0:=bR.cell 0;have r1:=bR.cell 1;have rf0:=bR.frozen 0;have rf1:=bR.frozen 1;simp at r0 r1;have lR:=bR.lt;clear hb9 bR;go_wp21;exact bodyPost_ret (v:=.agg #[.int .i64 2,.int .i64 ix]) (by simp[results,Try.results29,go_sem,lR,r0,r1,rf0,rf1]) rfl ⟨by rw[HR.o],(HB9.o.setCell (by dsimp only;omega) _).setCell (by dsimp only;omega) _⟩
 ·have t1:decide ((n:Int)>300)=false:=decide_eq_false (by omega);have t1':decide ((300:Int)<(n:Int))=false:=decide_eq_false (by omega);have HL3:=zh (show ¬ 300<l.length by rw[HN.o];exact h3);go_upto_region 4 with fail
  generalize hW2:wAl _ _=W2;obtain⟨R,hR⟩:∃ z,z=w.heap.size:=⟨_,rfl⟩;have HR2:=zh (show Blk W2 R 28 #[.int .i64 0,.int .i64 0] by rw[← hW2];exact Blk.at_ hR);have HB2:=zh (show Below R w W2 by rw[← hW2,hR];go_grown);have HRA2:=zh (HRA.o.below HB2.o (by omega));have hBR:B≤R:=by omega
  have HRW:=zh hR;have lR2:R<W2.heap.size:=HR2.o.lt;simp only[← hR];clear hW2 hR HRA t1 t1'
  go_loopw [14] (fun iv wr=>∃ k:Nat,k≤n∧iv=.int .i64 k∧wr=W2∧Hid (∀ j,j<k→alphB l j=none)) (fun iv _=>n-(intOf iv).toNat)
  case atStart=>exact⟨0,by omega,rfl,rfl,zh (fun j hj=>by omega)⟩
  case round =>
   obtain⟨k,hk,rfl,hwr,HALL⟩:=hrel;have bR:=HR2.o;rw[← hwr] at bR lR2;have HBE:=zh (show Below R w wr by rw[hwr];exact HB2.o);have HRK:=zh (show Rd wr B 1 A n (intCell l) by rw[hwr];exact HRA2.o);have HWW:=zh hwr;clear hwr;by_cases hkn:k<n
   ·obtain⟨bb,off,x,rfl,hbB,d0,HY⟩:=zAO HRK.o hkn;(have hkl:k<l.length:=by rw[HN.o];exact hkn);(have lb:bb<wr.heap.size:=by omega);by_cases h1:x<1
    ·have s1:decide (x<1)=true:=decide_eq_true h1;have HR:=zh (zEe (ix:=ix) HL3.o hkl HALL.o (r:=(3,(k:Int))) (by unfold alphB;rw[HY.o,if_pos (.inl h1)]));clear h1 hkl HY HALL;go_wp2_with fail;refine (zBD _ _ _).mono ?_;rintro e w9 ⟨rfl,hb9⟩;have bR9:=bR.below hb9 (by omega);have HB9:=zh (HBE.o.trans (hb9.mono (by omega)));have r0:=bR9.cell 0;have r1:=bR9.cell 1;have rf0:=bR9.frozen 0;have rf1:=bR9.frozen 1;simp at r0 r1;have lR:=bR9.lt;clear hb9 bR9 bR HBE;go_wp21;exact bodyPost_ret (v:=.agg #[.int .i64 3,.int .i64 (k:Int)]) (by simp[results,Try.results29,go_sem,lR,r0,r1,rf0,rf1]) rfl ⟨by rw[HR.o],by rw[← HRW.o];exact (HB9.o.setCell (by exact wAa _) _).setCell (by exact wAa _) _⟩
    ·by_cases h2:1114111<x
     ·have s1:decide (x<1)=false:=decide_eq_false h1;have s2:decide (x>1114111)=true:=decide_eq_true (by omega);have s2':decide (1114111<x)=true:=decide_eq_true h2;have HR:=zh (zEe (ix:=ix) HL3.o hkl HALL.o (r:=(3,(k:Int))) (by unfold alphB;rw[HY.o,if_pos (.inr h2)]));clear h1 h2 hkl HY HALL;go_wp2_with fail;refine (zBD _ _ _).mono ?_;rintro e w9 ⟨rfl,hb9⟩;have bR9:=bR.below hb9 (by omega);have HB9:=zh (HBE.o.trans (hb9.mono (by omega)));have r0:=bR9.cell 0;have r1:=bR9.cell 1;have rf0:=bR9.frozen 0;have rf1:=bR9.frozen 1;simp at r0 r1;have lR:=bR9.lt;clear hb9 bR9 bR HBE;go_wp21;exact bodyPost_ret (v:=.agg #[.int .i64 3,.int .i64 (k:Int)]) (by simp[results,Try.results29,go_sem,lR,r0,r1,rf0,rf1]) rfl ⟨by rw[HR.o],by rw[← HRW.o];exact (HB9.o.setCell (by exact wAa _) _).setCell (by exact wAa _) _⟩
     ·have s1:decide (x<1)=false:=decide_eq_false h1;have s2:decide (x>1114111)=false:=decide_eq_false (by omega);have s2':decide (1114111<x)=false:=decide_eq_false h2;rcases wAi k with hk0 | hk0
      ·have HNX:=zh (show ∀ j,j<k+1→alphB l j=none from fun j hj=>by
        have:j=k:=by omega
        subst this;unfold alphB
        rw[HY.o,if_neg (by omega),if_neg (by omega)])
       have s3:decide ((k:Int)>0)=false:=decide_eq_false (by omega);have s3':decide ((0:Int)<(k:Int))=false:=decide_eq_false (by omega);have hg:decide (0<k)=false:=decide_eq_false (by omega);have HK0:=zh hk0;clear h1 h2 hkl HY HALL hk0 bR;go_wp2;go_roundw
       case rel=>exact⟨k+1,by omega,by go_num,HWW.o,HNX⟩
       case measure=>simp[intOf];omega
      ·obtain⟨j,rfl⟩:∃ j,k=j+1:=⟨k-1,by omega⟩;obtain⟨bb',off',y,hA',_,d1,HZ⟩:=zAO HRK.o (show j<n by omega);simp only[Option.some.injEq,Addr.mk.injEq,and_true] at hA';obtain⟨rfl,rfl⟩:=hA';(have j0:(0:Int)≤(j:Int):=by omega);(have j1:(j:Int)<(n:Int):=by omega);(have hsub:((j+1:Nat):Int)-1=(j:Int):=by omega);have s3:decide (((j+1:Nat):Int)>0)=true:=decide_eq_true (by omega);have s3':decide ((0:Int)<((j+1:Nat):Int))=true:=decide_eq_true (by omega);by_cases h4:x≤y
       ·have s4:decide (y≥x)=true:=decide_eq_true h4;have s4':decide (x≤y)=true:=decide_eq_true h4;have HR:=zh (zEe (ix:=ix) HL3.o hkl HALL.o (r:=(13,((j+1:Nat):Int))) (by unfold alphB;rw[HY.o,if_neg (by omega),show j+1-1=j by omega,HZ.o,if_pos ⟨by omega,h4⟩]));clear h1 h2 h4 hkl HY HZ HALL;go_wp2_with fail;refine (zBD _ _ _).mono ?_;rintro e w9 ⟨rfl,hb9⟩;have bR9:=bR.below hb9 (by omega);have HB9:=zh (HBE.o.trans (hb9.mono (by omega)));have r0:=bR9.cell 0;have r1:=bR9.cell 1;have rf0:=bR9.frozen 0;have rf1:=bR9.frozen 1;simp at r0 r1;have lR:=bR9.lt;clear hb9 bR9 bR HBE;go_wp21;exact bodyPost_ret (v:=.agg #[.int .i64 13,.int .i64 ((j+1:Nat):Int)]) (by simp[results,Try.results29,go_sem,lR,r0,r1,rf0,rf1]) rfl ⟨by rw[HR.o],by rw[← HRW.o];exact (HB9.o.setCell (by exact wAa _) _).setCell (by exact wAa _) _⟩
       ·have s4:decide (y≥x)=false:=decide_eq_false h4;have s4':decide (x≤y)=false:=decide_eq_false h4
        have HNX:=zh (show ∀ i,i<j+1+1→alphB l i=none from fun i hi=>by
         by_cases g:i=j+1
         ·subst g;unfold alphB;rw[HY.o,if_neg (by omega),show j+1-1=j by omega,HZ.o,if_neg (by omega)]
         · exact HALL.o i (by omega))
        clear h1 h2 h4 hkl HY HZ HALL bR;go_wp2;go_roundw
        case rel=>exact⟨j+1+1,by omega,by go_num,HWW.o,HNX⟩
        case measure=>simp[intOf];omega
   ·(obtain rfl:n=k:=by omega);have HR:=zh (zNG (ix:=ix) HL3.o (fun j hj=>HALL.o j (by rw[← HN.o];exact hj)));have r0:=bR.cell 0;have r1:=bR.cell 1;have rf0:=bR.frozen 0;have rf1:=bR.frozen 1;simp at r0 r1;have lR:=bR.lt;clear HALL bR;go_wp2;exact bodyPost_ret (v:=.agg #[.int .i64 0,.int .i64 0]) (by simp[results,Try.results29,go_sem,lR,r0,r1,rf0,rf1]) rfl ⟨by rw[HR.o],by rw[← HRW.o];exact (HBE.o.setCell (by exact wAa _) _).setCell (by exact wAa _) _⟩
end Go.Proofs.Ytkfdhpbnphojoaa
