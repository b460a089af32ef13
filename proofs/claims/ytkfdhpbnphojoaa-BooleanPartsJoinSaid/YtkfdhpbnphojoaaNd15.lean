/- Part of the proof. -/
import Derived.Test.YtkfdhpbnphojoaaNd14
import Derived.Lib.SliceRun
import Derived.Test.YtkfdhpbnphojoaaNd5
set_option linter.unusedSimpArgs false
set_option linter.unusedVariables false
set_option maxRecDepth 100000
set_option maxHeartbeats 16000000
open List renaming replicate→wAa,take_of_length_le→wAb,length_take→wAc,getD_eq_getElem?_getD→wAd,length_eq_zero_iff→wAg,append_nil→wAh,take_take→wAj,getElem?_eq_none→wAl,take_set_of_le→wAm,mem_singleton→wAn,take_length→wAo,length_set→wAq,getD→wAr
open Nat renaming le_of_eq→wAf,le_refl→wAi,min_eq_left→wAp,lt_or_ge→wAs
open Array renaming getElem?_append_left→wAe,getElem?_modify→wAk
namespace Gm
open Go Go.RowKit
theorem zC0 {l:List Arc} {k:Nat} (hk:k<l.length):l.take (k+1)=l.take k++[l.getD k dA]:=by
 rw[List.take_succ_eq_append_getElem hk];congr 1;simp[wAr,hk]
theorem zPP {w:World} {base n:Nat} {e:TypeId} {l:List Arc} {g cap k:Nat} (h:w.ownsRow base e 5 (.slice (some ⟨g,0,none⟩) n cap) n (arcRow l)) (hn:l.length=n) (hk:k<n) (x:Arc) :
 (((((w.setCell ⟨g,k*5,none⟩ (.int .i64 x.f)).setCell ⟨g,k*5+1,none⟩ (.int .i64 x.t)).setCell ⟨g,k*5+2,none⟩ (.int .i64 x.i)).setCell ⟨g,k*5+3,none⟩ (.int .i64 x.o)).setCell ⟨g,k*5+4,none⟩ (.int .i64 x.w)).ownsRow base e 5 (.slice (some ⟨g,0,none⟩) n cap) n (arcRow (l.set k x)):=by
 have hn0:0<n:=by omega
 have h1:=zAP (zAP (zAP (zAP (zAP h rfl hn0 (k*5) (.int .i64 x.f)) rfl hn0 (k*5+1) (.int .i64 x.t)) rfl hn0 (k*5+2) (.int .i64 x.i)) rfl hn0 (k*5+3) (.int .i64 x.o)) rfl hn0 (k*5+4) (.int .i64 x.w);rw[zC4 l k x (by omega)] at h1;exact h1
theorem zCe {B g:Nat} {a:World} (hg:B≤g):∀ (vs:List Value) (o:Nat) (w:World),Below B a w→Below B a (w.setCells g o vs)
 | [],_,_,h=>h
 | v::r,o,w,h=>zCe hg r (o+1) _ (h.setCell (by exact hg) v)
theorem zGf {w:World} {base sz n m g cap:Nat} {e:TypeId} {xs:List Value} (h:w.ownsRow base e sz (.slice (some ⟨g,0,none⟩) n cap) n xs) (hm:m≤n):w.ownsRow base e sz (.slice (some ⟨g,0,none⟩) m cap) m (xs.take (m*sz)):=by
 have hle:m*sz≤n*sz:=Nat.mul_le_mul_right _ hm;refine⟨by rw[wAc,h.1];omega,?_⟩;rcases h.2 with⟨h1,_⟩ | ⟨g',cap',cur,h1,h2,h3,h4,h5,h6,h7⟩
 · cases h1
 ·injection h1 with a1 a2 a3
  injection a1 with a1
  injection a1 with a1
  subst a1 a3;exact .inr ⟨g,cap,cur,rfl,h2,h3,by omega,h5,h6,by rw[← h7,wAj,wAp hle]⟩
theorem zEm {base sz n g cap:Nat} {e:TypeId} (hn:0<n):∀ (vs:List Value) (o:Nat) (w:World) (xs:List Value),w.ownsRow base e sz (.slice (some ⟨g,0,none⟩) n cap) n xs →
 ∃ ys,(w.setCells g o vs).ownsRow base e sz (.slice (some ⟨g,0,none⟩) n cap) n ys∧ys.take o=xs.take o
 | [],o,w,xs,h=>⟨xs,h,rfl⟩
 | v::r,o,w,xs,h=>by
  obtain⟨ys,h1,h2⟩:=zEm hn r (o+1) _ _ (zAP h rfl hn o v);refine⟨ys,h1,?_⟩;have h3:=congrArg (List.take o) h2;rw[wAj,wAj,wAp (by omega),wAm (wAi o)] at h3;exact h3
theorem zJo (l:List Arc) (m:Nat):(arcRow l).take (m*5)=arcRow (l.take m):=by
 rcases wAs m l.length with h | h
 ·have e:arcRow l=arcRow (l.take m)++arcRow (l.drop m):=by rw[← zAu,List.take_append_drop]
  rw[e,List.take_append_of_le_length (by rw[zAv,wAc];omega),wAb (by rw[zAv,wAc];omega)]
 · rw[wAb h,wAb (by rw[zAv];omega)]
theorem zNo (a:Value) (n:Nat):(Builtin.zeroCells #[a,a,a,a,a] n).toList=wAa (n*5) a:=by
 simp only[Builtin.zeroCells];apply List.ext_getElem
 · simp
 ·intro i h1 h2;simp;rcases (by omega:i%5=0∨i%5=1∨i%5=2∨i%5=3∨i%5=4) with h | h | h | h | h<;>rw[h]<;>rfl
theorem zF5 {P:Program} (w:World) (t e ty:TypeId) (ht:P.underlying t=some (.slice e)) (hv:∀ w,(zeroValue e).run P w=.ok (.agg #[.int .i64 0,.int .i64 0,.int .i64 0,.int .i64 0,.int .i64 0]) w) (b o n c:Nat)
 (hc:∀ j,j<n*5→(w.cell? ⟨b,o+j,none⟩).isSome=true) (hf:∀ j,j<n*5→w.frozen? ⟨b,o+j,none⟩=false) (hn:0<n) :
 (Builtin.clear_ #[t] ty #[.slice (some ⟨b,o,none⟩) n c]).run P w=.ok (.tuple #[]) (w.setCells b o (wAa (n*5) (.int .i64 0))):=by
 have hst:=run_storeCells_cells (P:=P) b o (wAa (n*5) (.int .i64 0)) 0 w (by simpa using hc) (by simpa using hf) (by intro v hv';rw[List.eq_of_mem_replicate hv'];rfl);simp only[Nat.add_zero] at hst;have hz:=zNo (.int .i64 0) n;obtain⟨m,rfl⟩:∃ m,n=m+1:=⟨n-1,by omega⟩;simp[Builtin.clear_,run_underlying ht,hv,Value.cells,hz,hst]
open Go Go.RowKit
theorem zEM (a b:Arc):eqA a b=eqA b a:=by
 unfold eqA;exact decide_eq_decide.2 eq_comm
def CompE (l d:List Arc) (p m:Nat):Prop :=
 d.length=l.length∧d.take m=compact eqA (l.take p)∧m<p∧∀ q,p≤q+1→d.getD q dA=l.getD q dA
theorem zFj {l:List Arc} (h:l.length<2):compact eqA l=l:=by
 rcases l with _ | ⟨a,_ | ⟨b,l⟩⟩
 · rfl
 · rfl
 · simp at h;omega
theorem zL3 (l:List Arc):compact eqA (l.take 1)=l.take 1:=zFj (by rw[wAc];omega)
theorem zLw {l:List Arc} {k k1:Nat} (hk:k<l.length) (h1:k=k1+1) (h:compact eqA (l.take k)=l.take k) (hl:eqA (l.getD k dA) (l.getD k1 dA)=false):compact eqA (l.take (k+1))=l.take (k+1):=by
 rw[zAI hk rfl,h,zC0 hk];rw[show k-1=k1 by omega,if_neg (by rw[zEM,hl];simp)]
theorem zJj {l:List Arc} {k k1:Nat} (hk:k<l.length) (h1:k=k1+1) (h:compact eqA (l.take k)=l.take k) (hl:eqA (l.getD k dA) (l.getD k1 dA)=true):CompE l l (k+1) k:=by
 refine⟨rfl,?_,by omega,fun _ _=>rfl⟩;rw[zAI hk rfl,h,show k-1=k1 by omega,if_pos ⟨by omega,by rw[zEM,hl]⟩,wAh]
theorem zLp {l d:List Arc} {p p1 m:Nat} (hp:p<l.length) (h1:p=p1+1) (h:CompE l d p m) (hl:eqA (l.getD p dA) (l.getD p1 dA)=true):CompE l d (p+1) m:=by
 obtain⟨h2,h3,h4,h5⟩:=h;refine⟨h2,?_,by omega,fun q hq=>h5 q (by omega)⟩;rw[zAI hp rfl,h3,show p-1=p1 by omega,if_pos ⟨by omega,by rw[zEM,hl]⟩,wAh]
theorem zLa {l d:List Arc} {p p1 m:Nat} (hp:p<l.length) (h1:p=p1+1) (h:CompE l d p m) (hl:eqA (l.getD p dA) (l.getD p1 dA)=false):CompE l (d.set m (l.getD p dA)) (p+1) (m+1):=by
 obtain⟨h2,h3,h4,h5⟩:=h;have hm:m<(d.set m (l.getD p dA)).length:=by rw[wAq];omega
 refine⟨by rw[wAq,h2],?_,by omega,fun q hq=>?_⟩
 ·rw[zAI hp rfl,← h3,show p-1=p1 by omega,if_neg (by rw[zEM,hl];simp),zC0 hm,wAm (wAi m)];congr 1;simp[wAr,hm];rw[List.getElem?_set_self (by omega)];rfl
 · rw[← h5 q (by omega),wAd,List.getElem?_set_ne (by omega),← wAd]
theorem zN7 {l d:List Arc} {m:Nat} (h:CompE l d l.length m):d.take m=compact eqA l∧m=(compact eqA l).length∧m≤l.length:=by
 obtain⟨h2,h3,h4,_⟩:=h;rw[wAo] at h3;exact⟨h3,by rw[← h3,wAc];omega,by omega⟩
end Gm
namespace Go.Proofs.Ytkfdhpbnphojoaa
open Go.RowKit Gm Go.Sort Go.Shelf
theorem zEj {w:World} {base sz n:Nat} {e:TypeId} {v:Value} {xs:List Value} (h:w.ownsRow base e sz v n xs) (k:Nat):(w.drewN k).ownsRow base e sz v n xs:=h
theorem zOe (a b:Arc) (w:World):(binOp .neq 64 (.agg #[.int .i64 a.f,.int .i64 a.t,.int .i64 a.i,.int .i64 a.o,.int .i64 a.w]) (.agg #[.int .i64 b.f,.int .i64 b.t,.int .i64 b.i,.int .i64 b.o,.int .i64 b.w])).run Try.prog w=.ok (.bool (!eqA a b)) w:=by
 have e:eqA a b=(decide (a.f=b.f)&&(decide (a.t=b.t)&&(decide (a.i=b.i)&&(decide (a.o=b.o)&&decide (a.w=b.w))))):=by
  unfold eqA;rw[Bool.eq_iff_iff];simp only[decide_eq_true_eq,Bool.and_eq_true];constructor
  · rintro rfl;exact⟨rfl,rfl,rfl,rfl,rfl⟩
  · rintro⟨h1,h2,h3,h4,h5⟩;exact Arc.ext' h1 h2 h3 h4 h5
 rw[e];simp[go_sem];by_cases e1:a.f=b.f<;>by_cases e2:a.t=b.t<;>by_cases e3:a.i=b.i<;>by_cases e4:a.o=b.o<;>by_cases e5:a.w=b.w<;>simp_all
theorem zIL (l:List Arc) (n base:Nat) (v:Value) (w:World) (hl:l.length=n) (hn2:n≤1000000000) (hb:base≤w.heap.size) (h:w.ownsRow base 64 5 v n (arcRow l)) :
 Calls Try.prog 82 #[v] w fun e w'=>∃ A c,e=.returned (.slice A (compact eqA l).length c)∧w'.ownsRow base 64 5 (.slice A (compact eqA l).length c) (compact eqA l).length (arcRow (compact eqA l))∧Below base w w':=by
 obtain⟨A,c,rfl,hnc,hcm⟩:=zAa h;by_cases h2:n<2
 ·have e:compact eqA l=l:=zFj (by omega);have t2:decide ((n:Int)<2)=true:=decide_eq_true (by omega);rw[e,hl];have H:=zh h;clear h e hl
  go_enter Try.func82,Try.ntmps82
  go_wp2
  go_ret
  exact⟨A,c,rfl,H.o,Below.refl _ _⟩
 ·obtain⟨g,cap,ev,hHg,hgw,_,_⟩:=zCS h (by omega);injection ev with e1 e2 e3
  subst e1 e3;clear e2;have t2:decide ((n:Int)<2)=false:=decide_eq_false (by omega);have HO:=zh h;have HLL:=zh hl;unfold maxLen at hcm;clear h hl
  go_enter Try.func82,Try.ntmps82
  go_wp2
  go_loopw [3] (fun kv wr=>∃ k:Nat,1≤k∧k≤n∧kv=.int .i64 k∧Hid (Below w.heap.size w wr)∧Hid (compact eqA (l.take k)=l.take k)) (fun kv _=>n-(intOf kv).toNat)
  case atStart=>exact⟨1,by omega,by omega,rfl,zh (Below.refl _ _),zh (zL3 l)⟩
  case round =>
   obtain⟨k,hk1,hk,rfl,HB,HC⟩:=hrel;have HO2:=zh (zC3 HO.o HB.o);have hwz:=HB.o.size;by_cases hkn:k<n
   ·obtain⟨k1,hkk⟩:∃ j,k=j+1:=⟨k-1,by omega⟩;(have hk1n:k1<n:=by omega);obtain⟨x,hx⟩:∃ x,x=l.getD k dA:=⟨_,rfl⟩;obtain⟨y,hy⟩:∃ x,x=l.getD k1 dA:=⟨_,rfl⟩;obtain⟨b0,b1,b2,b3,b4⟩:=zAF HO2.o HLL.o hkn hx.symm;obtain⟨a0,a1,a2,a3,a4⟩:=zAF HO2.o HLL.o hk1n hy.symm;(have ek:(k:Int)-1=(k1:Int):=by omega);(have i0:(0:Int)≤(k:Int):=by omega);(have i1:(k:Int)<(n:Int):=by omega);(have j0:(0:Int)≤(k1:Int):=by omega);(have j1:(k1:Int)<(n:Int):=by omega);have wk:IntKind.i64.wrap (k1:Int)=(k1:Int):=IntWalk.i64_in _ (by omega);have HX:=zh hx;have HY:=zh hy;have HKK:=zh hkk;clear hx hy hkk;obtain⟨lk,hlk⟩:∃ z,z=eqA x y:=⟨_,rfl⟩;(have hE:=fun W=>zE6 x y W);rw[← hlk] at hE;have HLK:=zh hlk;clear hlk;cases lk
    ·have HCN:=zh (zLw (by rw[HLL.o];exact hkn) HKK.o HC.o (by rw[← HX.o,← HY.o];exact HLK.o.symm));go_wp2;go_quiet (fail);go_wp2;go_roundw
     case rel=>exact⟨k+1,by omega,by omega,by go_num,zh (zAc HB.o _),HCN⟩
     case measure=>simp[intOf];omega
    ·have HCT:=zh (zJj (by rw[HLL.o];exact hkn) HKK.o HC.o (by rw[← HX.o,← HY.o];exact HLK.o.symm));have HO3:=zh (zC3 HO.o HB.o);have HB3:=zh (HB.o.mono hb);clear HX HY HKK HLK HC HB;go_wp2;go_quiet (fail);clear wk j0 j1 ek b0 b1 b2 b3 b4 a0 a1 a2 a3 a4 hE;go_wp2;generalize hWq:World.drewN _ _=wq;have HB3:=zh (show Below base w wq by rw[← hWq];exact zAc HB3.o _);have HO3:=zh (show wq.ownsRow base 64 5 (.slice (some ⟨g,0,none⟩) n c) n (arcRow l) by rw[← hWq];exact zEj HO3.o _);(have hwz:w.heap.size≤wq.heap.size:=by rw[← hWq];exact hwz);clear hWq HO2;obtain⟨r,hr⟩:∃ r,r=n-k:=⟨_,rfl⟩;obtain⟨rc,hrc⟩:∃ r,r=c-k:=⟨_,rfl⟩;rw[← hr,← hrc];(have hr1:k+r≤n:=by omega);(have hr2:n≤k+r:=by omega);clear hr hrc
     go_loopw [3,5] (fun kv jv wr2=>∃ (m j:Nat) (d:List Arc),kv=.int .i64 m∧jv=.int .i64 j∧1≤j∧j≤r∧m<n∧Hid (Below base w wr2)∧Hid (wr2.ownsRow base 64 5 (.slice (some ⟨g,0,none⟩) n c) n (arcRow d))∧Hid (CompE l d (k+j) m)) (fun kv jv _=>r-(intOf jv).toNat)
     case atStart=>exact⟨k,1,l,rfl,rfl,by omega,by omega,by omega,HB3,HO3,HCT⟩
     case round =>
      clear HB3 HO3 HCT hwz;obtain⟨m,j,d,rfl,rfl,hj1,hjr,hmn,HB,HO3,HC⟩:=hrel;have HDL:=zh (show d.length=n by rw[HC.o.1,HLL.o]);have hmk:m<k+j:=HC.o.2.2.1;by_cases hjn:j<r
      ·obtain⟨p,hp⟩:∃ p,p=k+j:=⟨_,rfl⟩;obtain⟨jj,hjj⟩:∃ i,j=i+1:=⟨j-1,by omega⟩;obtain⟨q,hq⟩:∃ p,p=k+jj:=⟨_,rfl⟩;(have hpn:p<n:=by omega);(have hqn:q<n:=by omega);have HPQ:=zh (show p=q+1 by omega);obtain⟨x,hx⟩:∃ x,x=d.getD p dA:=⟨_,rfl⟩;obtain⟨y,hy⟩:∃ x,x=d.getD q dA:=⟨_,rfl⟩;have HX:=zh (show x=l.getD p dA by rw[hx];exact HC.o.2.2.2 p (by omega));have HY:=zh (show y=l.getD q dA by rw[hy];exact HC.o.2.2.2 q (by omega));have HPK:=zh hp;obtain⟨b0,b1,b2,b3,b4⟩:=zAF HO3.o HDL.o hpn hx.symm;obtain⟨a0,a1,a2,a3,a4⟩:=zAF HO3.o HDL.o hqn hy.symm;rw[show p*5=k*5+j*5 by omega] at b0 b1 b2 b3 b4;rw[show q*5=k*5+jj*5 by omega] at a0 a1 a2 a3 a4;(have ek:(j:Int)-1=(jj:Int):=by omega);(have i0:(0:Int)≤(j:Int):=by omega);(have i1:(j:Int)<(r:Int):=by omega);(have j0:(0:Int)≤(jj:Int):=by omega);(have j1:(jj:Int)<(r:Int):=by omega);have wk:IntKind.i64.wrap (jj:Int)=(jj:Int):=IntWalk.i64_in _ (by omega);have HJJ:=zh hjj;have hjq:=wAf hq;have hjq':=wAf hq.symm;have hjp:=wAf hp;have hjp':=wAf hp.symm;clear hy hp hq hjj;have HXD:=zh hx;clear hx;obtain⟨lk,hlk⟩:∃ z,z=eqA x y:=⟨_,rfl⟩;(have hE:=fun W=>zOe x y W);rw[← hlk] at hE;have HLK:=zh hlk;clear hlk;cases lk
       ·have HCN:=zh (zLa (by rw[HLL.o];exact hpn) HPQ.o (by rw[HPK.o];exact HC.o) (by rw[← HX.o,← HY.o];exact HLK.o.symm));rw[← HX.o] at HCN;simp only[Bool.not_false] at hE;go_wp2;go_quiet (fail);generalize hWq:World.drewN _ _=w2;have HB:=zh (show Below base w w2 by rw[← hWq];exact zAc HB.o _);have HO3:=zh (show w2.ownsRow base 64 5 (.slice (some ⟨g,0,none⟩) n c) n (arcRow d) by rw[← hWq];exact zEj HO3.o _);clear hWq b0 b1 b2 b3 b4 a0 a1 a2 a3 a4 hE;have HON:=zh (zPP HO3.o HDL.o hmn x);(have hfr:=fun o=>zDM HO3.o rfl (by omega) o);obtain⟨b0,b1,b2,b3,b4⟩:=zAF HO3.o HDL.o hpn HXD.o.symm;rw[show p*5=k*5+j*5 by omega] at b0 b1 b2 b3 b4;obtain⟨z,hz⟩:∃ x,x=d.getD m dA:=⟨_,rfl⟩;obtain⟨a0,a1,a2,a3,a4⟩:=zAF HO3.o HDL.o hmn hz.symm;(have hgz:g<w2.heap.size:=by have:=HB.o.size;omega);(have m0:(0:Int)≤(m:Int):=by omega);(have m1:(m:Int)<(n:Int):=by omega);clear hz;go_wp2;go_roundw
        case rel=>exact⟨m+1,j+1,d.set m x,by go_num,by go_num,by omega,by omega,by omega,zh (by have h:=HB.o;exact ((((h.setCell (by exact hHg) _).setCell (by exact hHg) _).setCell (by exact hHg) _).setCell (by exact hHg) _).setCell (by exact hHg) _),HON,by rw[HPK.o] at HCN;exact HCN⟩
        case measure=>simp[intOf];omega
       ·have HCN:=zh (zLp (by rw[HLL.o];exact hpn) HPQ.o (by rw[HPK.o];exact HC.o) (by rw[← HX.o,← HY.o];exact HLK.o.symm));simp only[Bool.not_true] at hE;go_wp2;go_quiet (fail);go_wp2;go_roundw
        case rel=>exact⟨m,j+1,d,rfl,by go_num,by omega,by omega,hmn,zh (zAc HB.o _),zh (zEj HO3.o _),by rw[HPK.o] at HCN;exact HCN⟩
        case measure=>simp[intOf];omega
      ·(obtain rfl:j=r:=by omega);have hE:=zN7 (show CompE l d l.length m by rw[HLL.o,show n=k+j by omega];exact HC.o);have HE1:=zh hE.1;have HE2:=zh hE.2.1;obtain⟨ys,hy1,hy2⟩:=zEm (by omega) (wAa ((n-m)*5) (.int .i64 0)) (m*5) _ _ HO3.o;have hy3:=zGf hy1 (show m≤n by omega);rw[hy2,zJo,HE1.o] at hy3;have HY3:=zh hy3
       have hcl:∀ ty,(Builtin.clear_ #[22] ty #[.slice (some ⟨g,m*5,none⟩) (n-m) (c-m)]).run Try.prog wr=.ok (.tuple #[]) (wr.setCells g (m*5) (wAa ((n-m)*5) (.int .i64 0))) :=
        fun ty=>zF5 wr _ _ ty Try.underlying22 Try.zeroValue64 g (m*5) (n-m) (c-m) (fun i hi=>by
         have h1:=HO3.o.cells (g:=g) rfl (m*5+i) ((arcRow d)[m*5+i]'(by rw[zAv,HDL.o];omega)) (by simp);rw[zJS,Nat.zero_add] at h1
         rw[h1];rfl) (fun i hi=>zDM HO3.o rfl (by omega) _) (by omega)
       (have m0:(0:Int)≤(m:Int):=by omega);(have m1:(m:Int)≤(n:Int):=by omega);have HBE:=zh (zCe hHg (wAa ((n-m)*5) (.int .i64 0)) (m*5) wr HB.o);clear hE hy1 hy2 hy3;go_wp2
       go_ret
       rw[← HE2.o];exact⟨_,_,rfl,HY3.o,HBE.o⟩
   ·(obtain rfl:k=n:=by omega);(have e:compact eqA l=l:=by have:=HC.o;rwa [← HLL.o,wAo] at this);have HE:=zh e;clear e;go_wp2
    go_ret
    rw[HE.o,HLL.o];exact⟨_,_,rfl,HO2.o,HB.o.mono hb⟩
end Go.Proofs.Ytkfdhpbnphojoaa
namespace Gm
open Go Go.RowKit
theorem zIc {d:Array Int} (hs:∀ i j:Nat,i≤j→j<d.size→d[i]! ≤ d[j]!):∀ m,m≤d.size→(Go.Lib.compactUpTo d m).Pairwise (· < ·)∧∀ x,x∈Go.Lib.compactUpTo d m↔∃ j,j<m∧d[j]! = x
 | 0,_=>by
  refine⟨by simp[Go.Lib.compactUpTo],fun x=>?_⟩;simp[Go.Lib.compactUpTo]
 | m+1,hm=>by
  obtain⟨h1,h2⟩:=zIc hs m (by omega);rw[Go.Lib.compactUpTo_succ];by_cases hk:Go.Lib.keeps d m=true
  ·rw[hk,if_pos rfl];refine⟨List.pairwise_append.2 ⟨h1,by simp,fun a ha b hb=>?_⟩,fun x=>?_⟩
   ·rw[wAn.1 hb];obtain⟨j,hj,rfl⟩:=(h2 a).1 ha
    have hne:d[m]! ≠ d[m-1]!:=by
     unfold Go.Lib.keeps at hk
     have:=of_decide_eq_true hk
     rcases this with g | g
     · omega
     · exact g
    have e1:=hs j (m-1) (by omega) (by omega);have e2:=hs (m-1) m (by omega) (by omega);omega
   ·rw[List.mem_append,h2 x,wAn];constructor
    ·rintro (⟨j,hj,e⟩ | e)
     · exact⟨j,by omega,e⟩
     · exact⟨m,by omega,e.symm⟩
    ·rintro⟨j,hj,e⟩;by_cases g:j=m
     · subst g;exact .inr e.symm
     · exact .inl ⟨j,by omega,e⟩
  ·(have hk:Go.Lib.keeps d m=false:=by simpa using hk);rw[hk];simp only[Bool.false_eq_true,if_false,wAh];refine⟨h1,fun x=>?_⟩;rw[h2 x];constructor
   · rintro⟨j,hj,e⟩;exact⟨j,by omega,e⟩
   ·rintro⟨j,hj,e⟩;by_cases g:j=m
    ·subst g;unfold Go.Lib.keeps at hk
     have:=of_decide_eq_false hk
     (have h0:j≠0:=fun h=>this (.inl h));(have h3:d[j]! = d[j-1]!:=Decidable.byContradiction fun h=>this (.inr h));exact⟨j-1,by omega,by rw[← h3];exact e⟩
    · exact⟨j,by omega,e⟩
theorem zPe {l:List Int} (h:l.Pairwise (· ≤ ·)):Go.Lib.compact l=setI l:=by
 have hg:∀ j,j<l.length→l.toArray[j]! = l.getD j 0:=fun j hj=>by simp[hj,wAr]
 have hs:∀ i j:Nat,i≤j→j<l.toArray.size→l.toArray[i]! ≤ l.toArray[j]!:=fun i j hij hj=>by
  have hj':j<l.length:=by simpa using hj
  rcases wAs i j with g | g
  ·have:=List.pairwise_iff_getElem.1 h i j (by omega) hj' g
   simpa[hj',show i<l.length by omega] using this
  · rw[show i=j by omega];exact Int.le_refl _
 obtain⟨h1,h2⟩:=zIc hs l.length (by simp);refine zA3 h1 (zAm l) fun x=>?_
 rw[zAB];refine (h2 x).trans ?_;constructor
 ·rintro⟨j,hj,rfl⟩;rw[show l.toArray[j]! = l[j] by simp[hj]];exact List.getElem_mem hj
 ·intro hx;obtain⟨j,hj,rfl⟩:=List.mem_iff_getElem.1 hx;exact⟨j,hj,by simp[hj]⟩
theorem zRj {l k:List Int} (h:∀ x,x∈l↔x∈k):setI l=setI k:=zA3 (zAm l) (zAm k) fun x=>by rw[zAB,zAB];exact h x
theorem zHT (l:List Int):(l.mergeSort fun x y=>decide (x≤y)).Pairwise (· ≤ ·):=by
 have:=List.pairwise_mergeSort (le:=fun x y:Int=>decide (x≤y)) (fun a b c h1 h2=>by simp at *;omega) (fun a b=>by simp;omega) l
 exact this.imp fun h=>by simpa using h
theorem zMu (l:List Int):(l.mergeSort fun x y=>decide (x≤y)).Perm l:=List.mergeSort_perm l _
theorem zQC {l:List Int} (hn:l.Nodup):(l.mergeSort fun x y=>decide (x≤y))=setI l:=zOK (zHT l) (zMu l) hn
theorem zJi (l:List Int):Go.Lib.compact (l.mergeSort fun x y=>decide (x≤y))=setI l:=by
 rw[zPe (zHT l)];exact zRj fun x=>(zMu l).mem_iff
theorem zGp {w:World} {base n c g:Nat} {e:TypeId} {l:List Int} (h:w.ownsRow base e 1 (.slice (some ⟨g,0,none⟩) n c) n (intRow l)) (hl:l.length=n) (hn:0<n):Go.Sort.Holds (Value.int .i64) w g 0 l.toArray:=by
 intro j hj;have hj':j<l.length:=by simpa using hj
 have hc:=h.cells (g:=g) rfl j (.int .i64 l.toArray[j]!) (by simp[intRow,hj']);have hadd:(⟨g,0,none⟩:Addr).add j=⟨g,0+j,none⟩:=by unfold Addr.add;split<;>simp_all
 rw[hadd] at hc;refine⟨hc,?_⟩;rcases h.2 with⟨_,h0⟩ | ⟨g',cap',cur,h1,h2,h3,h4⟩
 · omega
 ·injection h1 with h1 _ hc
  injection h1 with h1
  injection h1 with h1
  subst h1;simp[World.frozen?,h3]
theorem zJB {w:World} {base n c g m:Nat} {e:TypeId} {l k:List Int} {os:Array Obj} (h:w.ownsRow base e 1 (.slice (some ⟨g,0,none⟩) n c) n (intRow l)) (hl:l.length=n) (hk:k.length=n) (hn:0<n) :
 (Go.Sort.grow (Go.Sort.putRow (Value.int .i64) (Go.Sort.ahead w m) g 0 k.toArray) os).ownsRow base e 1 (.slice (some ⟨g,0,none⟩) n c) n (intRow k)∧w.grownBy (Go.Sort.grow (Go.Sort.putRow (Value.int .i64) (Go.Sort.ahead w m) g 0 k.toArray) os) (some g):=by
 rcases h.2 with⟨_,h0⟩ | ⟨g',cap',cur,h1,h2,h3,h4,h5,h6,h7⟩
 · omega
 ·injection h1 with h1 _ hc
  injection h1 with h1
  injection h1 with h1
  subst h1;have hsz:g<w.heap.size:=(Array.getElem?_eq_some_iff.1 h3).1
  have hblk:(Go.Sort.grow (Go.Sort.putRow (Value.int .i64) (Go.Sort.ahead w m) g 0 k.toArray) os).heap[g]? = some (.cells (Go.Sort.putCells (Value.int .i64) 0 k.toArray cur) e (0,0)):=by
   simp only[Go.Sort.putRow,Go.Sort.grow,Go.Sort.mapBlock,Go.Sort.ahead];rw[wAe (by simpa using hsz),wAk,if_pos rfl,h3];rfl
  refine⟨⟨by rw[zAh,hk];omega,.inr ⟨g,cap',Go.Sort.putCells (Value.int .i64) 0 k.toArray cur,by rw[hc],h2,hblk,h4,h5,?_,?_⟩⟩,?_⟩
  · simp[Go.Sort.putCells,h6]
  ·(have hle:n*1≤cur.size:=by rw[h6];omega);apply List.ext_getElem?;intro t;by_cases ht:t<n*1
   ·(have hs:t<cur.size:=by omega);(have htk:t<k.length:=by omega);rw[List.getElem?_take_of_lt ht];simp[Go.Sort.putCells,hs,hk,intRow,htk,show t<n by omega]
   · rw[wAl (by simp[Go.Sort.putCells];omega),wAl (by rw[zAh];omega)]
  ·refine⟨rfl,rfl,rfl,?_,?_⟩
   · simp[Go.Sort.putRow,Go.Sort.grow,Go.Sort.mapBlock,Go.Sort.ahead]
   ·intro q hq hne;simp only[Go.Sort.putRow,Go.Sort.grow,Go.Sort.mapBlock,Go.Sort.ahead];rw[wAe (by simpa using hq),wAk,if_neg (fun e=>hne (by rw[e]))]
end Gm
namespace Go.Proofs.Ytkfdhpbnphojoaa
open Go.RowKit Gm Go.Sort
theorem zD3 (l:List Int) (n base:Nat) (v:Value) (w:World) (hl:l.length=n) (hn2:n≤1000000000) (h:w.ownsRow base 3 1 v n (intRow l)) :
 Calls Try.prog 37 #[v] w fun e w'=>e=.returned (.tuple #[])∧w'.ownsRow base 3 1 v n (intRow (l.mergeSort fun x y=>decide (x≤y)))∧w.grownBy w' v.ownBlock:=by
 by_cases hn:0<n
 ·obtain⟨g,c,rfl,_⟩:=zDa h hn;have hcon:=Try.slices_Sort_int g 0 c l w (zGp h hl hn) (h.lt g rfl).2 (by omega);rw[hl] at hcon;refine hcon.mono ?_;rintro e w' ⟨rfl,m,os,rfl⟩
  have:=zJB (m:=m) (os:=os) h hl (show (l.mergeSort fun x y=>decide (x≤y)).length=n by rw[List.length_mergeSort,hl]) hn
  exact⟨rfl,this.1,this.2⟩
 ·obtain rfl:n=0:=by omega
  obtain⟨A,c,rfl,_⟩:=zAa h;obtain rfl:l=[]:=wAg.1 hl
  exact (Try.slices_Sort_int_none A c w).mono fun e w' ⟨h1,h2⟩=>by
   subst h2;exact⟨h1,by simpa using h,⟨rfl,rfl,rfl,wAi _,fun _ _ _=>rfl⟩⟩
theorem zCX (l:List Int) (n base:Nat) (v:Value) (w:World) (hl:l.length=n) (hn2:n≤1000000000) (h:w.ownsRow base 3 1 v n (intRow l)) :
 Calls Try.prog 38 #[v] w fun e w'=>∃ A c,e=.returned (.slice A (Go.Lib.compact l).length c)∧w'.ownsRow base 3 1 (.slice A (Go.Lib.compact l).length c) (Go.Lib.compact l).length (intRow (Go.Lib.compact l))∧(Value.slice A (Go.Lib.compact l).length c).ownBlock=v.ownBlock∧w.grownBy w' v.ownBlock:=by
 by_cases hn:0<n
 ·obtain⟨g,c,rfl,_,_,hnc,_⟩:=zDa h hn;have hcon:=Try.slices_Compact_int g 0 c l w (zGp h hl hn) (by omega) (by omega);rw[hl] at hcon;refine hcon.mono ?_;rintro e w' ⟨rfl,m,rfl⟩
  have hcl:(Go.Lib.compact l).length≤n:=by
   have:(Go.Lib.compact l).length≤l.length:=by
    unfold Go.Lib.compact Go.Lib.compactUpTo;rw[List.length_map];exact Nat.le_trans (List.length_filter_le _ _) (by simp)
   omega
  have h1:=zJB (m:=m) (os:=#[]) h hl (show (Go.Lib.compact l++wAa (n-(Go.Lib.compact l).length) 0).length=n by rw[List.length_append,List.length_replicate];omega) hn;have e0:∀ W:World,Go.Sort.grow W #[]=W:=fun W=>by simp[Go.Sort.grow]
  rw[e0] at h1;have h2:=zGf h1.1 hcl
  rw[show (intRow (Go.Lib.compact l++wAa (n-(Go.Lib.compact l).length) 0)).take ((Go.Lib.compact l).length*1)=intRow (Go.Lib.compact l) by
   rw[zAd,Nat.mul_one]
   exact List.take_left' (by rw[zAh])] at h2
  exact⟨_,_,rfl,h2,rfl,h1.2⟩
 ·obtain rfl:n=0:=by omega
  obtain⟨A,c,rfl,_⟩:=zAa h;obtain rfl:l=[]:=wAg.1 hl
  exact (Try.slices_Compact_int_empty A c w).mono fun e w' ⟨h1,h2⟩=>by
   subst h2;exact⟨A,c,h1,h,rfl,⟨rfl,rfl,rfl,wAi _,fun _ _ _=>rfl⟩⟩
theorem zF7 (l:List Int) (A:Option Addr) (n c:Nat) (w:World) (B:Nat) (hl:l.length=n) (hn0:0<n) (hn:n≤1000000) (h:Rd w B 1 A n (intCell l)) :
 Calls Try.prog 60 #[.slice A n c] w fun e w'=>∃ v',e=.returned v'∧w'.ownsRow w.heap.size 3 1 v' n (intRow l)∧Below w.heap.size w w':=by
 obtain⟨b,off,rfl,_,hc⟩:=h hn0
 have hcon:=Try.slices_Clone_int b off n c l w (by omega) (by omega) (fun j hj=>by
  have:=hc j 0 (by omega) (by omega)
  simpa[intCell] using this)
 refine hcon.mono ?_;rintro e w' ⟨v',rfl,h1,_,h2⟩;refine⟨v',rfl,?_,h2⟩;rw[wAb (by omega)] at h1;exact h1
end Go.Proofs.Ytkfdhpbnphojoaa
