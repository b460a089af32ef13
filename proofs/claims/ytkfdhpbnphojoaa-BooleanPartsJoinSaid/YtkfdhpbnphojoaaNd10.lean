/- Part of the proof. -/
import Derived.Test.YtkfdhpbnphojoaaNd3
import Derived.Test.YtkfdhpbnphojoaaNd9
import Derived.Shelf.SlSortCmp.NoneTotal
set_option linter.unusedSimpArgs false
set_option linter.unusedVariables false
set_option maxRecDepth 100000
set_option maxHeartbeats 2000000
namespace Go.Proofs.Ytkfdhpbnphojoaa
open Go.RowKit Gm Go.Sort Go.Shelf
theorem zMm (A:Option Addr) (c:Nat) (w:World) :
 Calls Try.prog 80 #[.slice A 0 c,.func (.func 81) #[] #[]] w fun e w'=>e=.returned (.tuple #[])∧w'=w:=by
 have h:=AnyF.slices_SortFunc_none Try.laySortA A c (.func (.func 81) #[] #[]) w;exact h
theorem zOP (l:List Arc) (n base:Nat) (v:Value) (w:World) (hl:l.length=n) (hn2:n≤1000000000) (h:w.ownsRow base 64 5 v n (arcRow l)) :
 Calls Try.prog 80 #[v,.func (.func 81) #[] #[]] w fun e w'=>e=.returned (.tuple #[])∧w'.ownsRow base 64 5 v n (arcRow (srtA l))∧w.grownBy w' v.ownBlock:=by
 by_cases hn:0<n
 ·obtain⟨g,c,rfl,_⟩:=zDa h hn;exact (zPR l n c g base w hl hn hn2 h).mono fun e w' ⟨h1,h2,h3⟩=>⟨h1,h2,h3⟩
 ·obtain rfl:n=0:=by omega
  obtain⟨A,c,rfl,_⟩:=zAa h;obtain rfl:l=[]:=List.length_eq_zero_iff.1 hl
  exact (zMm A c w).mono fun e w' ⟨h1,h2⟩=>by
   subst h2;exact⟨h1,h,⟨rfl,rfl,rfl,Nat.le_refl _,fun _ _ _=>rfl⟩⟩
theorem zE6 (a b:Arc) (w:World):(binOp .eql 64 (.agg #[.int .i64 a.f,.int .i64 a.t,.int .i64 a.i,.int .i64 a.o,.int .i64 a.w]) (.agg #[.int .i64 b.f,.int .i64 b.t,.int .i64 b.i,.int .i64 b.o,.int .i64 b.w])).run Try.prog w=.ok (.bool (eqA a b)) w:=by
 have e:eqA a b=(decide (a.f=b.f)&&(decide (a.t=b.t)&&(decide (a.i=b.i)&&(decide (a.o=b.o)&&decide (a.w=b.w))))):=by
  unfold eqA;rw[Bool.eq_iff_iff];simp only[decide_eq_true_eq,Bool.and_eq_true];constructor
  · rintro rfl;exact⟨rfl,rfl,rfl,rfl,rfl⟩
  · rintro⟨h1,h2,h3,h4,h5⟩;exact Arc.ext' h1 h2 h3 h4 h5
 rw[e];simp[go_sem];by_cases e1:a.f=b.f<;>by_cases e2:a.t=b.t<;>by_cases e3:a.i=b.i<;>by_cases e4:a.o=b.o<;>by_cases e5:a.w=b.w<;>simp_all
theorem zQy (l:List Arc) (n base:Nat) (v:Value) (w:World) (hl:l.length=n) (hn2:n≤1000000000) (hnd:l.Nodup) (h:w.ownsRow base 64 5 v n (arcRow l)) :
 Calls Try.prog 82 #[v] w fun e w'=>e=.returned v∧∃ q,w'=w.drewN q:=by
 obtain⟨A,c,rfl,hnc,hcm⟩:=zAa h;have hrd:=Rd.of_own h (f:=arcCell l) (fun i j hi hj=>zAr l i j (by omega) hj);have HRD:=zh hrd;have HND:=zh hnd;have HL:=zh hl;unfold maxLen at hcm;clear h hrd hnd hl;by_cases h2:n<2
 ·have t2:decide ((n:Int)<2)=true:=decide_eq_true (by omega)
  go_enter Try.func82,Try.ntmps82
  go_wp2
  go_ret
  exact⟨rfl,0,rfl⟩
 ·have t2:decide ((n:Int)<2)=false:=decide_eq_false (by omega)
  go_enter Try.func82,Try.ntmps82
  go_wp2
  go_loopw [3] (fun kv wr=>∃ k q:Nat,1≤k∧k≤n∧kv=.int .i64 k∧Hid (wr=w.drewN q)) (fun kv _=>n-(intOf kv).toNat)
  case atStart=>exact⟨1,0,by omega,by omega,rfl,zh rfl⟩
  case round =>
   obtain⟨k,q,hk1,hk,rfl,hwr⟩:=hrel;obtain rfl:=hwr.o;clear hwr;by_cases hkn:k<n
   ·obtain⟨k1,hkk⟩:∃ j,j=k-1:=⟨_,rfl⟩;(have hk1n:k1<n:=by omega);obtain⟨b,off,a,rfl,hbB,c0,c1,c2,c3,c4,HA⟩:=zAp HRD.o hkn;obtain⟨b',off',a',e',hbB',d0,d1,d2,d3,d4,HA'⟩:=zAp HRD.o hk1n;(injection e' with e');(injection e' with e1 e2);subst e1;subst e2
    have hne:eqA a a'=false:=by
     unfold eqA;(refine decide_eq_false fun e=>?_);(have g1:l[k]'(by rw[HL.o];exact hkn)=a:=by have:=HA.o;simpa[HL.o,hkn] using this);have g2:l[k1]'(by rw[HL.o];exact hk1n)=a':=by have:=HA'.o;simpa[HL.o,hk1n] using this
     have:=(List.getElem_inj (h₀:=by rw[HL.o];exact hkn) (h₁:=by rw[HL.o];exact hk1n) HND.o).1 (g1.trans (e.trans g2.symm))
     omega
    (have hE:=fun W=>zE6 a a' W);rw[hne] at hE;(have ek:(k:Int)-1=(k1:Int):=by omega);(have i0:(0:Int)≤(k:Int):=by omega);(have i1:(k:Int)<(n:Int):=by omega);(have j0:(0:Int)≤(k1:Int):=by omega);(have j1:(k1:Int)<(n:Int):=by omega);clear hne HA HA' hkk;go_wp2;go_quiet (fail);go_wp2;go_roundw
    case rel=>exact⟨k+1,_,by omega,by omega,by go_num,zh rfl⟩
    case measure=>simp[intOf];omega
   ·(obtain rfl:k=n:=by omega);go_wp2
    go_ret
    exact⟨rfl,q,rfl⟩
end Go.Proofs.Ytkfdhpbnphojoaa
