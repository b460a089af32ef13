/- Part of the proof. -/
import Derived.Test.YtkfdhpbnphojoaaNd19
set_option linter.unusedSimpArgs false
set_option linter.unusedVariables false
open List renaming idxOf_lt_length_of_mem→wAa,range→wAb,mem_singleton→wAc,getElem?_eq_getElem→wAd,mem_map→wAe,getElem_idxOf→wAf,getD_eq_getElem?_getD→wAg,filter_eq_self→wAi,map_congr_left→wAj,mem_flatMap→wAk,getElem?_eq_some_iff→wAl,findIdx?_eq_none_iff→wAm,map_id→wAo,mem_range→wAp,pairwise_flatMap→wAq,mem_of_getElem?→wAr,mem_cons_of_mem→wAs,mem_cons_self→wAt,getElem_mem→wAu,any_eq_true→wAv,length_map→wAw,mem_cons→wAx
open Nat renaming le_refl→wAh
open Bool renaming and_eq_true→wAn
namespace Gm
structure SilOk (t:Mach) (N:Nat):Prop where
 n:t.n=(N:Int)
 pos:0<N
 n4:N≤400
 len:t.arcs.length≤2000
 flen:t.fins.length≤400
 rng:inRange t.arcs N
 frng:∀ x∈t.fins,0≤x.s∧x.s<(N:Int)
 lab:∀ a∈t.arcs,0<a.i∧a.i≤1114111
theorem zEc {m:Mach} (h2:(silR m).2=(0,0)) (hn:(silR m).1.n≠0):SilOk (silR m).1 (silR m).1.n.toNat:=by
 unfold silR at h2 hn ⊢;by_cases h1:accF m≠(0,0)
 ·rw[if_pos h1] at hn;exact absurd rfl hn
 ·rw[if_neg h1] at h2 hn ⊢;by_cases h3:2000<(silM m).arcs.length
  ·rw[if_pos h3] at hn;exact absurd rfl hn
  ·rw[if_neg h3] at hn ⊢;dsimp only at hn ⊢;have val:=zAX (zAU (Decidable.not_not.1 h1));have hA:=val.inRange;have hn4:=val.n4;have hn0:=val.n0;unfold silM at hn h3 ⊢;by_cases h4:m.n=0∨usB m 0=false
   ·rw[if_pos h4] at hn;exact absurd rfl hn
   ·rw[if_neg h4] at hn h3 ⊢;have hc:=zCB (trB m) m.n.toNat;dsimp only at hn h3 ⊢;refine⟨by (first | omega | (dsimp only;omega)),by (first | omega | (dsimp only;omega)),by (first | omega | (dsimp only;omega)),by (first | omega | (dsimp only;omega)),?_,?_,?_,?_⟩
    ·have:=zJE m.arcs m.fins m.n.toNat (trB m) m.n.toNat
     dsimp only;omega
    ·intro z hz;obtain⟨s,hs,hz⟩:=wAk.1 (show z∈(wAb _).flatMap _ from hz);have hs:=wAp.1 hs;obtain⟨hk,a,ha,hi,hnr,hu,rfl⟩:=(zBB hA).1 hz;have hr:=hA a ha
     have h0:usB m 0=true:=by
      cases e:usB m 0
      · exact absurd (.inr e) h4
      · rfl
     have hkt:=zJe hA (fun k _=>trB_iff) hs hk ha hi hnr hu;have c1:=zAo (K:=trB m) hs hk;have c2:=zAo (K:=trB m) (show a.t.toNat<m.n.toNat by omega) hkt;dsimp only;omega
    ·intro x hx;obtain⟨s,hs,hx⟩:=wAk.1 (show x∈(wAb _).flatMap _ from hx);have hs:=wAp.1 hs;unfold silE at hx;split at hx
     ·rename_i hk
      rw[wAc.1 hx];have c1:=zAo (K:=trB m) hs hk.1;dsimp only;omega
     · cases hx
    ·intro z hz;obtain⟨s,hs,hz⟩:=wAk.1 (show z∈(wAb _).flatMap _ from hz);obtain⟨hk,a,ha,hi,hnr,hu,rfl⟩:=(zBB hA).1 hz;have hok:=val.okA ha;unfold okArc at hok;simp only[wAn,inR_iff] at hok;dsimp only;omega
noncomputable def detW (m:Mach):Mach×(Int×Int):=if (silR m).2≠(0,0) then (emptyM,(silR m).2) else if (silR m).1.n=0 then (emptyM,(0,0)) else detR (silR m).1
theorem zIS {A:List Arc} (h:∀ a∈A,a.i≠0):labsR A=setI (A.map (·.i)):=by
 refine zA3 (zAJ A) (zAm _) fun x=>?_
 rw[zAy,zAB,wAe];constructor
 · rintro⟨_,a,ha,e⟩;exact⟨a,ha,e⟩
 · rintro⟨a,ha,rfl⟩;exact⟨h a ha,a,ha,rfl⟩
theorem zEd {stp stp':Nat→List (Int×Nat)} {fin fin':Nat→Bool} {n:Nat} (h1:∀ s,s<n→stp s=stp' s) (h2:∀ s,s<n→fin s=fin' s) (hr:∀ s,s<n→∀ x u,(x,u)∈stp s→u<n):∀ (w:List Int) (s:Nat),s<n→(accS stp fin s w↔accS stp' fin' s w)
 | [],s,hs=>by
  show fin s=true↔fin' s=true
  rw[h2 s hs]
 | x::w,s,hs=>by
  show (∃ u,(x,u)∈stp s∧accS stp fin u w)↔∃ u,(x,u)∈stp' s∧accS stp' fin' u w
  constructor
  ·rintro⟨u,hu,hw⟩;exact⟨u,by rw[← h1 s hs];exact hu,(zEd h1 h2 hr w u (hr s hs x u hu)).1 hw⟩
  ·rintro⟨u,hu,hw⟩;rw[← h1 s hs] at hu;exact⟨u,hu,(zEd h1 h2 hr w u (hr s hs x u hu)).2 hw⟩
structure BfsOk (t:Mach) (N:Nat) (P:Int→Prop):Prop where
 n:t.n=(N:Int)
 pos:0<N
 rng:inRange t.arcs N
 frng:∀ x∈t.fins,0≤x.s∧x.s<(N:Int)
 flen:t.fins.length≤N
 det:DetA t.arcs
 lab:∀ a∈t.arcs,P a.i
 same:∀ a∈t.arcs,a.o=a.i∧a.w=0
 fw:∀ x∈t.fins,x.w=0
section
variable {α:Type} [DecidableEq α] {stp:α→List (Int×α)} {fin:α→Bool}
omit [DecidableEq α] in
theorem zHe (l:List α):∀ n,((wAb n).flatMap (finA fin l)).length≤n
 | 0=>by simp
 | n+1=>by
  rw[zAT,List.length_append];have ih:=zHe l n
  have:(finA fin l n).length≤1:=by
   unfold finA;split
   · simp
   · split<;>simp
  omega
theorem zGF {s0:α} {Z:List α} (hZ:∀ v,BR stp s0 v→v∈Z) {f:Nat} (hf:Z.length≤f) (hi:∀ s,BR stp s0 s→incS (stp s)) {P:Int→Prop} (hl:∀ s,BR stp s0 s→∀ e∈stp s,P e.1):∃ N,N≤(bfsM stp fin s0 f).n.toNat∧BfsOk (bfsM stp fin s0 f) N P:=by
 obtain⟨l,hn,hfi,hm,e⟩:=zDb stp fin hZ hf;have h00:0<l.length:=(wAl.1 hfi).1;have hr:∀ (j:Nat) (hj:j<l.length),BR stp s0 l[j]:=fun j hj=>(hm _).1 (wAu hj)
 rw[e];refine⟨l.length,by simp,rfl,h00,?_,?_,zHe l _,?_,?_,?_,?_⟩
 ·intro a ha;obtain⟨j,hj,x,u,hu,rfl⟩:=mem_rows.1 ha;have hul:u∈l:=(hm _).2 (.step (hr j hj) hu)
  have:=wAa hul
  dsimp only;omega
 ·intro x hx;obtain⟨j,hj,_,rfl⟩:=mem_fins.1 hx;dsimp only;omega
 ·intro a ha b hb e1 e2;obtain⟨j,hj,x,u,hu,rfl⟩:=mem_rows.1 ha;obtain⟨k,hk,y,v,hv,rfl⟩:=mem_rows.1 hb;dsimp only at e1 e2 ⊢
  have:j=k:=by omega
  subst this;subst e2;rw[zBi (hi _ (hr j hj)) hu hv]
 ·intro a ha;obtain⟨j,hj,x,u,hu,rfl⟩:=mem_rows.1 ha;exact hl _ (hr j hj) _ hu
 ·intro a ha;obtain⟨j,hj,x,u,hu,rfl⟩:=mem_rows.1 ha;exact⟨rfl,rfl⟩
 ·intro x hx;obtain⟨j,hj,_,rfl⟩:=mem_fins.1 hx;rfl
end
section
variable {t:Mach} {N:Nat}
theorem zE3 (h:SilOk t N):∃ K,K≤(setM t).n.toNat∧BfsOk (setM t) K (fun x=>0<x∧x≤1114111):=by
 refine zGF (Z:=subsI N) (fun v hv=>?_) ?_ (fun s _=>zDY _ _) (fun s _ e he=>?_)
 ·obtain⟨h1,h2⟩:=br_ok h.rng h.pos hv;exact zCM h1 h2
 ·have e:t.n.toNat=N:=by have:=h.n;omega
  rw[zCR];unfold fuD;rw[e];omega
 ·obtain⟨x,U⟩:=e;obtain⟨⟨a,ha,_,rfl⟩,_⟩:=mem_stpD.1 he;exact h.lab a ha
theorem zNj (h:SilOk t N) (w:List Int):langM (setM t) 0 w↔accE t.arcs t.fins 0 w:=by
 unfold setM
 rw[zIf (Z:=subsI N) (fun v hv=>zCM (br_ok h.rng h.pos hv).1 (br_ok h.rng h.pos hv).2) (by
  have e:t.n.toNat=N:=by have:=h.n;omega
  rw[zCR];unfold fuD;rw[e];omega) (fun s _=>zDY _ _) (fun s _ e he=>by
  obtain⟨x,U⟩:=e;obtain⟨⟨a,ha,_,rfl⟩,_⟩:=mem_stpD.1 he
  have:=(h.lab a ha).1
  dsimp only
  omega) w,accD]
 simp
end
theorem BfsOk.sil {t:Mach} {N:Nat} (h:BfsOk t N (fun x=>0<x∧x≤1114111)) (h4:t.n≤400) (h2:t.arcs.length≤2000):SilOk t N :=
 ⟨h.n,h.pos,by have:=h.n;omega,h2,by have:=h.n;have:=h.flen;omega,h.rng,h.frng,h.lab⟩
theorem zBe {m:Mach} (h2:(detW m).2=(0,0)):accF m=(0,0)∧(((detW m).1=emptyM∧(silR m).2=(0,0)∧(silR m).1.n=0)∨∃ N,SilOk (silR m).1 N∧(silR m).2=(0,0)∧(detW m).1=setM (silR m).1∧∃ K,SilOk (detW m).1 K∧BfsOk (detW m).1 K (fun x=>0<x∧x≤1114111)):=by
 unfold detW at h2 ⊢;by_cases h1:(silR m).2≠(0,0)
 · rw[if_pos h1] at h2;exact absurd h2 h1
 ·have h1':=Decidable.not_not.1 h1
  have hacc:accF m=(0,0):=by
   by_cases g:accF m≠(0,0)
   ·unfold silR at h1';rw[if_pos g] at h1';exact absurd h1' g
   · exact Decidable.not_not.1 g
  refine⟨hacc,?_⟩;rw[if_neg h1] at h2 ⊢;by_cases hn:(silR m).1.n=0
  ·rw[if_pos hn] at h2 ⊢;exact .inl ⟨rfl,h1',hn⟩
  ·rw[if_neg hn] at h2 ⊢;have hs:=zEc h1' hn;obtain⟨K,_,hK⟩:=zE3 hs;unfold detR limR at h2 ⊢;by_cases hl:400<(setM (silR m).1).n∨2000<(setM (silR m).1).arcs.length
   · rw[if_pos hl] at h2;exact absurd h2 (by decide)
   ·rw[if_neg hl];refine .inr ⟨_,hs,h1',rfl,K,hK.sil (by omega) (by omega),hK⟩
theorem zG6 {m:Mach} (h2:(detW m).2=(0,0)) (hn:(detW m).1.n≠0):SilOk (detW m).1 (detW m).1.n.toNat:=by
 obtain⟨_,⟨e,_⟩ | ⟨N,_,_,_,K,hK,_⟩⟩:=zBe h2
 · rw[e] at hn;exact absurd rfl hn
 ·have:(detW m).1.n.toNat=K:=by have:=hK.n;omega
  rw[this];exact hK
def rowsI (ls:List Int) (A:List Arc) (n:Nat):List (List Int):=(wAb n).map (rowL ls A)
def finsI (F:List Fnl) (n:Nat):List Bool:=(wAb n).map (fnB F F.length)
theorem zB1 (ls:List Int) (A:List Arc) (n:Nat):(rowsI ls A n).length=n:=by unfold rowsI;simp
theorem zNc (F:List Fnl) (n:Nat):(finsI F n).length=n:=by unfold finsI;simp
theorem zPJ (ls:List Int) (A:List Arc) {n s:Nat} (h:s<n):rowOf (rowsI ls A n) s=rowL ls A s:=by
 unfold rowOf rowsI;simp[wAg,h]
theorem zPo (F:List Fnl) {n s:Nat} (h:s<n):finOf (finsI F n) s=fnB F F.length s:=by
 unfold finOf finsI;simp[wAg,h]
theorem zCr {A:List Arc} {n:Nat} (h:inRange A n) (s:Nat) (x:Int) : -1≤afterL A s x∧afterL A s x<(n:Int)∨afterL A s x = -1:=by
 rcases zBk (s:=s) (x:=x) A with⟨e,_⟩ | ⟨a,ha,_,_,e⟩
 · exact .inr e
 ·have:=h a ha
  rw[e];exact .inl (by omega)
theorem zQt {t:Mach} {N:Nat} (h:SilOk t N):SmOk (setI (t.arcs.map (·.i))) (rowsI (setI (t.arcs.map (·.i))) t.arcs N) (finsI t.fins N).length where
 l3:=by have:=zKk (t.arcs.map (·.i));rw[wAw] at this;have:=h.len;omega
 inc:=zAm _
 pos:=fun x hx=>by
  obtain⟨a,ha,rfl⟩:=wAe.1 ((zAB _ _).1 hx)
  have:=(h.lab a ha).1
  omega
 n2:=by rw[zB1];have:=h.n4;omega
 len:=fun r hr=>by
  obtain⟨s,_,rfl⟩:=wAe.1 (show r∈(wAb N).map _ from hr);unfold rowL;rw[wAw]
 rng:=fun r hr x hx=>by
  obtain⟨s,_,rfl⟩:=wAe.1 (show r∈(wAb N).map _ from hr);obtain⟨y,_,rfl⟩:=wAe.1 (show x∈List.map _ _ from hx);rw[zB1]
  have:=zCr h.rng s y
  have:=h.pos
  omega
 fin:=by rw[zNc,zB1]
theorem zHx (m:Mach) (s:Nat):fnB m.fins m.fins.length s=finM' m s:=by
 unfold fnB finM';rw[List.take_length]
theorem zQS {t:Mach} {N:Nat} (h:SilOk t N):canT (setI (t.arcs.map (·.i))) (rowsI (setI (t.arcs.map (·.i))) t.arcs N) (finsI t.fins N)=canonM (lsM t) (langM t 0) N:=by
 have e:lsM t=setI (t.arcs.map (·.i)):=zIS fun a ha=>by have:=(h.lab a ha).1;omega
 unfold canT langM rowM;rw[zB1,e];congr 1;funext w;refine propext (zEd (n:=N) (fun s hs=>?_) (fun s hs=>?_) (fun s hs x u hu=>?_) w 0 h.pos)
 ·unfold tstp;rw[zPJ _ _ hs]
 · rw[zPo _ hs,zHx]
 ·obtain⟨j,tg,_,h2,h3,rfl⟩:=mem_tstp.1 hu
  have:=(zQt h).rng _ (zCO (by rw[zB1];exact hs)) tg (wAr h2)
  rw[zB1] at this;omega
noncomputable def minW (m:Mach):Mach×(Int×Int):=if (detW m).2≠(0,0) then (emptyM,(detW m).2) else if (detW m).1.n=0 then (emptyM,(0,0)) else limR (canonM (lsM (detW m).1) (langM (detW m).1 0) (detW m).1.n.toNat)
theorem zEh {A:List Arc} (h:∀ a∈A,a.i≠0) {s u:Int} (hn:Near A s u):u=s:=by
 induction hn with
 | base=>rfl
 | step _ ha hi _=>exact absurd hi (h _ ha)
theorem zCT {A:List Arc} {F:List Fnl} (h:∀ a∈A,a.i≠0):∀ (w:List Int) (s:Int),accA A F s w↔accE A F s w
 | [],s=>by
  constructor
  ·rintro⟨t,hp,x,hx,e⟩
   have:=zEh h (zHm hp rfl)
   exact⟨x,hx,by rw[e,this]⟩
  ·rintro⟨x,hx,e⟩;exact⟨s,.nil,x,hx,e⟩
 | y::w,s=>by
  constructor
  ·rintro⟨t,hp,hf⟩;obtain⟨a,ha,hn,hi,h0,hp'⟩:=zEX hp rfl;exact⟨a,ha,zEh h hn,hi,(zCT h w a.t).1 ⟨t,hp',hf⟩⟩
  ·rintro⟨a,ha,hf,hi,hw⟩;obtain⟨t,hp,hx⟩:=(zCT h w a.t).2 hw;subst hf hi;exact⟨t,.lab ha (h a ha) hp,hx⟩
theorem zC9 {t:Mach} (hd:DetA t.arcs) (h0:∀ a∈t.arcs,0≤a.t) (hi:∀ a∈t.arcs,a.i≠0):∀ (w:List Int) (s:Nat),langM t s w↔accE t.arcs t.fins (s:Int) w
 | [],s=>by
  show finM' t s=true↔∃ x∈t.fins,x.s=(s:Int)
  unfold finM';rw[wAv];simp
 | x::w,s=>by
  show (∃ u,(x,u)∈tstp (lsM t) (rowM t) s∧langM t u w)↔∃ a∈t.arcs,a.f=(s:Int)∧a.i=x∧accE t.arcs t.fins a.t w
  unfold rowM;constructor
  ·rintro⟨u,hu,hw⟩;obtain⟨_,a,ha,e1,e2,e3⟩:=(zB9 hd h0).1 hu;exact⟨a,ha,e1,e2,by rw[e3];exact (zC9 hd h0 hi w u).1 hw⟩
  ·rintro⟨a,ha,e1,e2,hw⟩;have hp:=h0 a ha;(have e3:a.t=((a.t.toNat:Nat):Int):=by omega);rw[e3] at hw;exact⟨a.t.toNat,(zB9 hd h0).2 ⟨(zAy _ _).2 ⟨by rw[← e2];exact hi a ha,a,ha,e2⟩,a,ha,e1,e2,e3⟩,(zC9 hd h0 hi w _).2 hw⟩
theorem BfsOk.words {t:Mach} {N:Nat} {P:Int→Prop} (h:BfsOk t N P) (hP:∀ x,P x→x≠0) (w:List Int):langM t 0 w↔accA t.arcs t.fins 0 w:=by
 have hi:∀ a∈t.arcs,a.i≠0:=fun a ha=>hP _ (h.lab a ha)
 rw[zCT hi];exact zC9 h.det (fun a ha=>(h.rng a ha).2.2.1) hi w 0
theorem zA1 (s:Int) (w:List Int):¬ accA [] [] s w:=by
 rintro⟨t,_,x,hx,_⟩;cases hx
section
variable {m:Mach} (hv:accF m=(0,0))
include hv in
theorem zSH (h:m.n=0) (w:List Int):¬ accA m.arcs m.fins 0 w:=by
 rintro⟨t,_,x,hx,_⟩
 have:=(zAX (zAU hv)).finRange x hx
 omega
include hv in
theorem zIb (w:List Int):accA (silM m).arcs (silM m).fins 0 w↔accA m.arcs m.fins 0 w:=by
 have val:=zAX (zAU hv);by_cases hn:m.n=0
 ·have e:silM m=emptyM:=by unfold silM;rw[if_pos (.inl hn)]
  rw[e];exact⟨fun g=>absurd g (zA1 0 w),fun g=>absurd g (zSH hv hn w)⟩
 ·rw[zCT]
  · exact zNl val.n0 val.inRange val.finRange hn w
  ·intro z hz;unfold silM at hz;split at hz
   · cases hz
   ·obtain⟨s,hs,hz⟩:=wAk.1 (show z∈(wAb _).flatMap _ from hz);obtain⟨_,a,_,hi,_,_,rfl⟩:=(zBB val.inRange).1 hz;exact hi
include hv in
theorem zPA (h:(silM m).n=0) (w:List Int):¬ accA m.arcs m.fins 0 w:=by
 intro g;rw[← zIb hv] at g
 have e:silM m=emptyM:=by
  unfold silM at h ⊢;by_cases h4:m.n=0∨usB m 0=false
  · rw[if_pos h4]
  ·rw[if_neg h4] at h;exfalso;have val:=zAX (zAU hv)
   have h0:usB m 0=true:=by
    cases e:usB m 0
    · exact absurd (.inr e) h4
    · rfl
   have k0:trB m 0=true:=trB_iff.2 (.base);have hn:=val.n0;have c:=zAo (K:=trB m) (show 0<m.n.toNat by have:m.n≠0:=fun e=>h4 (.inl e);omega) k0;dsimp only at h;omega
 rw[e] at g;exact zA1 0 w g
end
theorem zEQ {m:Mach} (h:(silR m).2=(0,0)):accF m=(0,0)∧(silR m).1=silM m:=by
 unfold silR at h ⊢;by_cases g:accF m≠(0,0)
 · rw[if_pos g] at h;exact absurd h g
 ·rw[if_neg g] at h ⊢;refine⟨Decidable.not_not.1 g,?_⟩;by_cases g2:2000<(silM m).arcs.length
  · rw[if_pos g2] at h;exact absurd h (by decide)
  · rw[if_neg g2]
theorem zLu {m:Mach} (h:(silR m).2=(0,0)) (w:List Int):accA (silR m).1.arcs (silR m).1.fins 0 w↔accA m.arcs m.fins 0 w:=by
 obtain⟨h1,h2⟩:=zEQ h;rw[h2];exact zIb h1 w
theorem zDj {m:Mach} (h:(detW m).2=(0,0)) (w:List Int):langM (detW m).1 0 w↔accA m.arcs m.fins 0 w:=by
 obtain⟨hv,⟨e,h1,h2⟩ | ⟨N,hN,h1,e,_⟩⟩:=zBe h
 ·rw[e];rw[(zEQ h1).2] at h2;exact⟨fun g=>absurd g (zA7 0 w),fun g=>absurd g (zPA hv h2 w)⟩
 · rw[e,zNj hN,← zCT (fun a ha=>by have:=(hN.lab a ha).1;omega),zLu h1]
theorem zF9 {m:Mach} (h:(detW m).2=(0,0)) (w:List Int):accA (detW m).1.arcs (detW m).1.fins 0 w↔accA m.arcs m.fins 0 w:=by
 rw[← zDj h];obtain⟨hv,⟨e,_⟩ | ⟨N,_,_,_,K,_,hK⟩⟩:=zBe h
 ·rw[e];exact⟨fun g=>absurd g (zA1 0 w),fun g=>absurd g (zA7 0 w)⟩
 · exact (hK.words (fun x hx=>by omega) w).symm
def LabOk (ls:List Int):Prop:=∀ x∈ls,0<x∧x≤1114111
theorem zO4 {L:Lang} (h:∀ w,¬ L w):Reg [] L 1 where
 inc:=.nil
 pos:=fun x hx=>by cases hx
 over:=fun w hw=>absurd hw (h w)
 res:=⟨[L],by simp,fun Q hQ=>by
  have:Q=L:=by
   induction hQ with
   | base=>rfl
   | step _ hx _=>cases hx
  rw[this];exact wAt⟩
theorem zFx {t:Mach} {N:Nat} (h:SilOk t N):Reg (lsM t) (langM t 0) N:=by
 refine zCd (zAJ _) (fun x hx=>((zAy _ x).1 hx).1) (fun s hs x hx=>?_) h.pos;unfold rowM rowL at hx;obtain⟨y,_,rfl⟩:=wAe.1 hx
 have:=zCr h.rng s y
 have:=h.pos
 omega
theorem zBW {m:Mach} (h:(minW m).2=(0,0)):accF m=(0,0)∧(silR m).2=(0,0)∧(detW m).2=(0,0)∧(∃ ls N,Reg ls (accA m.arcs m.fins 0) N∧LabOk ls∧(minW m).1=canonM ls (accA m.arcs m.fins 0) N)∧(minW m).1.n≤400∧(minW m).1.arcs.length≤2000:=by
 unfold minW at h ⊢;by_cases h1:(detW m).2≠(0,0)
 · rw[if_pos h1] at h;exact absurd h h1
 ·have h1:=Decidable.not_not.1 h1;rw[if_neg (fun g=>g h1)] at h ⊢;have hl:langM (detW m).1 0=accA m.arcs m.fins 0:=funext fun w=>propext (zDj h1 w)
  have hf:=zBe h1
  have hs:(silR m).2=(0,0):=by
   rcases hf.2 with⟨_,g,_⟩ | ⟨_,_,g,_⟩
   · exact g
   · exact g
  refine⟨hf.1,hs,h1,?_⟩;by_cases hn:(detW m).1.n=0
  ·rw[if_pos hn];refine⟨⟨[],1,?_,(fun x hx=>by cases hx),?_⟩,by decide,by decide⟩
   ·(refine zO4 fun w hw=>?_);obtain⟨hv,⟨e,_⟩ | ⟨N,_,_,_,K,hK,_⟩⟩:=hf
    ·rw[← zF9 h1,e] at hw;exact zA1 0 w hw
    · have:=hK.n;have:=hK.pos;omega
   ·have:¬ ∃ w,accA m.arcs m.fins 0 w:=by
     rintro⟨w,hw⟩;obtain⟨hv,⟨e,_⟩ | ⟨N,_,_,_,K,hK,_⟩⟩:=hf
     ·rw[← zF9 h1,e] at hw;exact zA1 0 w hw
     · have:=hK.n;have:=hK.pos;omega
    rw[zAz this];rfl
  ·rw[if_neg hn] at h ⊢;have hok:=zG6 h1 hn;unfold limR at h ⊢;by_cases hg:400<(canonM (lsM (detW m).1) (langM (detW m).1 0) (detW m).1.n.toNat).n∨2000<(canonM (lsM (detW m).1) (langM (detW m).1 0) (detW m).1.n.toNat).arcs.length
   · rw[if_pos hg] at h;exact absurd h (by decide)
   ·rw[if_neg hg];refine⟨⟨lsM (detW m).1,(detW m).1.n.toNat,?_,fun x hx=>?_,by rw[hl]⟩,by dsimp only;omega,by dsimp only;omega⟩
    ·have:=zFx hok
     rw[hl] at this;exact this
    ·obtain⟨_,a,ha,rfl⟩:=(zAy _ x).1 hx;exact hok.lab a ha
theorem zDe {ls:List Int} {L:Lang} {N:Nat} (h:Reg ls L N) (hL:∃ w,L w) {f:Nat} (hf:N≤f):∃ K,BfsOk (canonM ls L f) K (fun x=>x∈ls):=by
 classical
 obtain⟨Z,hZ1,hZ⟩:=h.res;unfold canonM;rw[if_pos hL]
 obtain⟨K,_,hK⟩:=zGF (stp:=stpQ ls) (fin:=finQ) (P:=fun x=>x∈ls) hZ (show Z.length≤f by omega) (fun s _=>zB0 h.inc s) (fun s _ e he=>by
  obtain⟨x,U⟩:=e
  exact (mem_stpQ.1 he).1)
 exact⟨K,hK⟩
set_option linter.unusedSectionVars false
theorem zSC {a b:Arc} (h:a.f<b.f):arcLess a b=true:=by
 unfold arcLess arcKey lessL;rw[if_neg (by omega)];exact decide_eq_true h
theorem zSk {a b:Arc} (h1:a.f=b.f) (h2:a.i<b.i):arcLess a b=true:=by
 unfold arcLess arcKey lessL;rw[if_pos h1];unfold lessL;rw[if_neg (by omega)];exact decide_eq_true h2
theorem zJA {m:Mach} {N:Nat} (hn:m.n=(N:Int)) (h4:N≤400) (hl:m.arcs.length≤2000) (hA:∀ a∈m.arcs,okArc m.n a=true) (hF:∀ x∈m.fins,okFin m.n x=true) (hsA:m.arcs.Pairwise (fun a b=>arcLess a b=true)) (hsF:m.fins.Pairwise (fun a b=>a.s<b.s)):Valid m:=by
 refine⟨by omega,by omega,hl,fun k hk=>?_,fun k hk=>?_⟩
 ·have hm:m.arcs.getD k dA∈m.arcs:=by simp[wAg,wAd hk]
  unfold arcFault;rw[if_pos (hA _ hm),if_neg];rintro⟨hk0,hc⟩;have hp:=zBj dA hsA (k:=k-1) (by rw[show k-1+1=k by omega];exact hk);rw[show k-1+1=k by omega,zBn,decide_eq_true hc] at hp;cases hp
 ·have hm:m.fins.getD k dF∈m.fins:=by simp[wAg,wAd hk]
  unfold finFault;rw[if_pos (hF _ hm),if_neg];rintro⟨hk0,hc⟩;have hp:=zBj dF hsF (k:=k-1) (by rw[show k-1+1=k by omega];exact hk);rw[show k-1+1=k by omega] at hp;omega
theorem zIa {m:Mach} (hv:Valid m) (hA:∀ a∈m.arcs,a.o=a.i∧a.w=0) (hF:∀ x∈m.fins,x.w=0):accF m=(0,0):=by
 unfold accF;rw[if_pos (zI4 hv)]
 have e1:m.arcs.findIdx? badA=none:=by
  rw[wAm];intro a ha;obtain⟨h1,h2⟩:=hA a ha;unfold badA;simp[h1,h2]
 have e2:m.fins.findIdx? badF=none:=by
  rw[wAm];intro x hx;unfold badF;simp[hF x hx]
 rw[e1,e2]
def lstM {α:Type} [DecidableEq α] (stp:α→List (Int×α)) (fin:α→Bool) (l:List α):Mach:=⟨(l.length:Int),(wAb l.length).flatMap (rowA stp l),(wAb l.length).flatMap (finA fin l)⟩
structure BfsL {α:Type} [DecidableEq α] (stp:α→List (Int×α)) (fin:α→Bool) (s0:α) (l:List α):Prop where
 nod:l.Nodup
 first:l[0]? = some s0
 mem:∀ v,v∈l↔BR stp s0 v
 inc:∀ s,BR stp s0 s→incS (stp s)
 lab:∀ s,BR stp s0 s→∀ e∈stp s,0<e.1∧e.1≤1114111
 use:∀ s,BR stp s0 s→∃ w,accS stp fin s w
 bfs:∀ f,l.length≤f→bfsM stp fin s0 f=lstM stp fin l
section
variable {α:Type} [DecidableEq α] {stp:α→List (Int×α)} {fin:α→Bool} {s0:α} {l:List α} (h:BfsL stp fin s0 l)
include h
theorem BfsL.br {j:Nat} (hj:j<l.length):BR stp s0 l[j]:=(h.mem _).1 (wAu hj)
theorem BfsL.pos:0<l.length:=(wAl.1 h.first).1
theorem BfsL.next {j:Nat} (hj:j<l.length) {x:Int} {u:α} (hu:(x,u)∈stp l[j]):u∈l:=(h.mem _).2 (.step (h.br hj) hu)
theorem BfsL.form:BfsOk (lstM stp fin l) l.length (fun x=>0<x∧x≤1114111):=by
 refine⟨rfl,h.pos,?_,?_,zHe l _,?_,?_,?_,?_⟩
 ·intro a ha;obtain⟨j,hj,x,u,hu,rfl⟩:=mem_rows.1 ha
  have:=wAa (h.next hj hu)
  dsimp only;omega
 ·intro x hx;obtain⟨j,hj,_,rfl⟩:=mem_fins.1 hx;dsimp only;omega
 ·intro a ha b hb e1 e2;obtain⟨j,hj,x,u,hu,rfl⟩:=mem_rows.1 ha;obtain⟨k,hk,y,v,hv,rfl⟩:=mem_rows.1 hb;dsimp only at e1 e2 ⊢
  have:j=k:=by omega
  subst this;subst e2;rw[zBi (h.inc _ (h.br hj)) hu hv]
 ·intro a ha;obtain⟨j,hj,x,u,hu,rfl⟩:=mem_rows.1 ha;exact h.lab _ (h.br hj) _ hu
 ·intro a ha;obtain⟨j,hj,x,u,hu,rfl⟩:=mem_rows.1 ha;exact⟨rfl,rfl⟩
 ·intro x hx;obtain⟨j,hj,_,rfl⟩:=mem_fins.1 hx;rfl
theorem BfsL.strict:(lstM stp fin l).arcs.Pairwise (fun a b=>arcLess a b=true):=by
 show ((wAb l.length).flatMap (rowA stp l)).Pairwise _
 rw[wAq];constructor
 ·intro j hj;have hj:=wAp.1 hj;unfold rowA;rw[wAd hj];refine List.pairwise_map.2 (List.Pairwise.imp ?_ (h.inc _ (h.br hj)));intro a b hab;exact zSk rfl hab
 ·refine List.pairwise_lt_range.imp fun {a b} hab x hx y hy=>?_
  have e:∀ (k:Nat) (z:Arc),z∈rowA stp l k→z.f=(k:Int):=fun k z hz=>by
   unfold rowA at hz;split at hz
   · cases hz
   ·obtain⟨_,_,rfl⟩:=wAe.1 hz;rfl
  exact zSC (by rw[e a x hx,e b y hy];omega)
theorem BfsL.sorted:(lstM stp fin l).fins.Pairwise (fun a b=>a.s<b.s):=by
 show ((wAb l.length).flatMap (finA fin l)).Pairwise _
 rw[wAq];constructor
 ·intro j hj;unfold finA;split
  · exact .nil
  ·split
   · simp
   · exact .nil
 ·refine List.pairwise_lt_range.imp fun {a b} hab x hx y hy=>?_
  have e:∀ (k:Nat) (z:Fnl),z∈finA fin l k→z.s=(k:Int):=fun k z hz=>by
   unfold finA at hz;split at hz
   · cases hz
   ·split at hz
    · rw[wAc.1 hz]
    · cases hz
  rw[e a x hx,e b y hy];omega
theorem BfsL.valid (h4:l.length≤400) (h2:(lstM stp fin l).arcs.length≤2000):Valid (lstM stp fin l):=by
 have f:=h.form;refine zJA f.n h4 h2 (fun a ha=>?_) (fun x hx=>?_) h.strict h.sorted
 ·have r:=f.rng a ha;have g:=f.lab a ha;have s:=f.same a ha;have n:=f.n;simp only[okArc,wAn,inR_iff];omega
 ·have r:=f.frng x hx;have s:=f.fw x hx;have n:=f.n;simp only[okFin,wAn,inR_iff];omega
theorem BfsL.acc0 (h4:l.length≤400) (h2:(lstM stp fin l).arcs.length≤2000):accF (lstM stp fin l)=(0,0):=zIa (h.valid h4 h2) h.form.same h.form.fw
theorem BfsL.keep {j:Nat} (hj:j<l.length):keepK (lstM stp fin l) j=true:=by
 refine keepK_iff.2 ⟨?_,?_⟩
 ·have key:∀ v,BR stp s0 v→RS false (lstM stp fin l).arcs [0] ((l.idxOf v:Nat):Int):=by
   intro v hv
   induction hv with
   | base =>
    refine .base ?_;have h0:=wAd h.pos;rw[h.first] at h0;(injection h0 with h0);rw[h0,h.nod.idxOf_getElem 0 h.pos];simp
   | @step s u x hs hx ih =>
    have hsl:=(h.mem s).2 hs;have hi:=wAa hsl;have e:l[l.idxOf s]=s:=wAf hi;exact .step (a:=⟨((l.idxOf s:Nat):Int),((l.idxOf u:Nat):Int),x,x,0⟩) ih (mem_rows.2 ⟨l.idxOf s,hi,x,u,by rw[e];exact hx,rfl⟩) rfl rfl
  have:=key _ (h.br hj)
  rwa [h.nod.idxOf_getElem j hj] at this
 ·have key:∀ (w:List Int) (j:Nat) (hj:j<l.length),accS stp fin l[j] w→RS true (lstM stp fin l).arcs (finStates (lstM stp fin l).fins) (j:Int):=by
   intro w
   induction w with
   | nil =>
    intro j hj hw;refine .base ?_;unfold finStates;exact wAe.2 ⟨⟨(j:Int),0⟩,mem_fins.2 ⟨j,hj,hw,rfl⟩,rfl⟩
   | cons x w ih =>
    intro j hj hw;obtain⟨u,hu,hw⟩:=hw;have hul:=h.next hj hu;have hi:=wAa hul;have e:l[l.idxOf u]=u:=wAf hi;exact .step (a:=⟨(j:Int),((l.idxOf u:Nat):Int),x,x,0⟩) (ih _ hi (by rw[e];exact hw)) (mem_rows.2 ⟨j,hj,x,u,hu,rfl⟩) rfl rfl
  obtain⟨w,hw⟩:=h.use _ (h.br hj);exact key w j hj hw
theorem BfsL.trim:trimOf (lstM stp fin l)=lstM stp fin l:=by
 have hk:∀ i,i<l.length→keepK (lstM stp fin l) i=true:=fun i hi=>h.keep hi
 have f:=h.form;have hn:(lstM stp fin l).n.toNat=l.length:=by have:=f.n;omega
 have hc:∀ i,i≤l.length→cntK (keepK (lstM stp fin l)) i=i:=fun i hi=>zER i (fun s hs=>hk s (by omega))
 unfold trimOf
 rw[if_neg (by
  rintro (g | g)
  · have:=f.n;have:=f.pos;omega
  · rw[hk 0 f.pos] at g;cases g)]
 generalize hM:lstM stp fin l=t at *;have e0:(cntK (keepK t) t.n.toNat:Int)=t.n:=by rw[hn,hc _ (wAh _)];exact f.n.symm
 have e1:partArcs (keepK t) t.arcs=t.arcs:=by
  unfold partArcs;rw[wAi.2 (fun a ha=>by have:=f.rng a ha;rw[hk _ (by omega),hk _ (by omega)];rfl)];refine (wAj fun a ha=>?_).trans (wAo _)
  have:=f.rng a ha
  unfold partArc;rw[hc _ (by omega),hc _ (by omega)];exact Arc.ext' (by show ((a.f.toNat:Nat):Int)=a.f;omega) (by show ((a.t.toNat:Nat):Int)=a.t;omega) rfl rfl rfl
 have e2:partFins (keepK t) t.fins=t.fins:=by
  unfold partFins;rw[wAi.2 (fun a ha=>by have:=f.frng a ha;rw[hk _ (by omega)])];refine (wAj fun a ha=>?_).trans (wAo _)
  have:=f.frng a ha
  unfold partFin;rw[hc _ (by omega)];exact Fnl.ext' (by show ((a.s.toNat:Nat):Int)=a.s;omega) rfl
 show (⟨_,_,_⟩:Mach)=t
 rw[e0,e1,e2]
theorem BfsL.silO:silO (lstM stp fin l)=lstM stp fin l:=by
 have f:=h.form;have hi:∀ a∈(lstM stp fin l).arcs,a.i≠0:=fun a ha=>by have:=(f.lab a ha).1;omega
 have hn:(lstM stp fin l).n.toNat=l.length:=by have:=f.n;omega
 have e1:compact eqA (srtA (silA (lstM stp fin l)))=(lstM stp fin l).arcs:=by
  refine zBr zCy h.strict fun z=>?_
  change z∈(Gm.silO (lstM stp fin l)).arcs↔_;rw[mem_silO,mem_silA];constructor
  ·rintro⟨s,hs,a,ha,_,hne,rfl⟩;have e:=zEh hi hne;obtain⟨g1,g2⟩:=f.same a ha
   have:(⟨(s:Int),a.t,a.i,a.i,0⟩:Arc)=a:=Arc.ext' e.symm rfl rfl g1.symm g2.symm
   rw[this];exact ha
  ·intro ha;have r:=f.rng z ha;obtain⟨g1,g2⟩:=f.same z ha;(have e:((z.f.toNat:Nat):Int)=z.f:=by omega);exact⟨z.f.toNat,by omega,z,ha,hi z ha,by rw[e];exact .base,Arc.ext' e.symm rfl rfl g1 g2⟩
 have e2:silF (lstM stp fin l)=(lstM stp fin l).fins:=by
  unfold silF;rw[hn];refine zBG fun j hj=>?_
  have e3:(∃ x∈(lstM stp fin l).fins,Near (lstM stp fin l).arcs (j:Int) x.s)↔fin l[j]=true:=by
   constructor
   ·rintro⟨x,hx,hne⟩;have e:=zEh hi hne;obtain⟨k,hk,hf,rfl⟩:=mem_fins.1 hx
    have:k=j:=by dsimp only at e;omega
    subst this;exact hf
   ·intro hf;exact⟨⟨(j:Int),0⟩,mem_fins.2 ⟨j,hj,hf,rfl⟩,.base⟩
  unfold finA;rw[wAd hj];by_cases g:fin l[j]=true
  ·rw[if_pos (e3.2 g)];simp[g]
  ·rw[if_neg (fun k=>g (e3.1 k))];simp[g]
 unfold Gm.silO;rw[e1,e2]
theorem BfsL.silM (h4:l.length≤400) (h2:(lstM stp fin l).arcs.length≤2000):silM (lstM stp fin l)=lstM stp fin l:=by
 have val:=h.valid h4 h2;rw[zBK val.n0 val.inRange val.finRange,h.silO,h.trim]
theorem BfsL.setM:setM (lstM stp fin l)=lstM stp fin l:=by
 have f:=h.form;have hn:(lstM stp fin l).n.toNat=l.length:=by have:=f.n;omega
 have hR:BiU (fun (S:List Int) (s:α)=>s∈l∧S=[((l.idxOf s:Nat):Int)]):=by
  rintro S s S' s' ⟨hs,rfl⟩ ⟨hs',rfl⟩;constructor
  ·intro e;(injection e with e);(have e:l.idxOf s=l.idxOf s':=by omega);have e1:=wAf (wAa hs);have e2:=wAf (wAa hs');rw[← e1,← e2];simp only[e]
  · rintro rfl;rfl
 have hmem:∀ (S:List Int) (s:α),s∈l→S=[((l.idxOf s:Nat):Int)]→∀ a:Arc,(a∈(lstM stp fin l).arcs∧a.f∈S)↔∃ x u,(x,u)∈stp s∧a=⟨((l.idxOf s:Nat):Int),((l.idxOf u:Nat):Int),x,x,0⟩:=by
  rintro S s hs rfl a;have hi:=wAa hs;have e:l[l.idxOf s]=s:=wAf hi;constructor
  ·rintro⟨ha,hf⟩;obtain⟨j,hj,x,u,hu,rfl⟩:=mem_rows.1 ha;have hf:=wAc.1 hf;dsimp only at hf
   have:j=l.idxOf s:=by omega
   subst this;rw[e] at hu;exact⟨x,u,hu,rfl⟩
  ·rintro⟨x,u,hu,rfl⟩;exact⟨mem_rows.2 ⟨l.idxOf s,hi,x,u,by rw[e];exact hu,rfl⟩,by simp⟩
 have h0:l.idxOf s0=0:=by
  have h0:=wAd h.pos;rw[h.first] at h0;injection h0 with h0
  rw[h0,h.nod.idxOf_getElem 0 h.pos]
 have hl0:s0∈l:=wAr h.first
 have key:=zFy (R:=fun (S:List Int) (s:α)=>s∈l∧S=[((l.idxOf s:Nat):Int)]) hR (stp:=stpD (lstM stp fin l).arcs) (stp':=stp) (fin:=finD (lstM stp fin l).fins) (fin':=fin) (fun S s hRs=>by
  obtain⟨hs,hS⟩:=hRs;have hbr:=(h.mem s).1 hs;refine F2_of (R:=fun (S:List Int) (s:α)=>s∈l∧S=[((l.idxOf s:Nat):Int)]) (zDY _ _) (h.inc s hbr) (fun x=>?_) (fun x U v hU hv=>?_)
  ·constructor
   ·rintro⟨U,hU⟩;obtain⟨⟨a,ha,hf,hx⟩,_⟩:=mem_stpD.1 hU;obtain⟨y,u,hu,rfl⟩:=(hmem S s hs hS a).1 ⟨ha,hf⟩;exact⟨u,by rw[← hx];exact hu⟩
   ·rintro⟨u,hu⟩;obtain⟨ha,hf⟩:=(hmem S s hs hS _).2 ⟨x,u,hu,rfl⟩;exact⟨_,mem_stpD.2 ⟨⟨_,ha,hf,rfl⟩,rfl⟩⟩
  ·have hvl:v∈l:=(h.mem v).2 (.step hbr hv);refine⟨hvl,?_⟩;obtain⟨_,rfl⟩:=mem_stpD.1 hU;(refine zA3 (zAm _) (by simp) fun y=>?_);rw[mem_tgt,wAc];constructor
   ·rintro⟨a,ha,hf,hx,ht⟩;obtain⟨z,u,hu,rfl⟩:=(hmem S s hs hS a).1 ⟨ha,hf⟩;dsimp only at hx ht;subst hx;rw[zBi (h.inc s hbr) hu hv] at ht;exact ht.symm
   ·rintro rfl;obtain⟨ha,hf⟩:=(hmem S s hs hS _).2 ⟨x,v,hv,rfl⟩
    exact⟨_,ha,hf,rfl,rfl⟩) (fun S s hRs=>by
  obtain⟨hs,rfl⟩:=hRs;have hi:=wAa hs;have e:l[l.idxOf s]=s:=wAf hi;rw[Bool.eq_iff_iff];unfold finD;rw[wAv];constructor
  ·rintro⟨x,hx,hf⟩;obtain⟨j,hj,hfj,rfl⟩:=mem_fins.1 hx;have hf:=wAc.1 (of_decide_eq_true hf);dsimp only at hf
   have:j=l.idxOf s:=by omega
   subst this;rw[e] at hfj;exact hfj
  ·intro hf
   exact⟨⟨((l.idxOf s:Nat):Int),0⟩,mem_fins.2 ⟨l.idxOf s,hi,by rw[e];exact hf,rfl⟩,by simp⟩) (s0:=[0]) (t0:=s0) ⟨hl0,by rw[h0];rfl⟩ (fuD (lstM stp fin l))
 unfold Gm.setM;rw[key];refine h.bfs _ ?_;unfold fuD;rw[hn]
 have:=Nat.lt_two_pow_self (n:=l.length)
 omega
theorem BfsL.silR (h4:l.length≤400) (h2:(lstM stp fin l).arcs.length≤2000):silR (lstM stp fin l)=(lstM stp fin l,(0,0)):=by
 unfold Gm.silR;rw[if_neg (fun g=>g (h.acc0 h4 h2)),h.silM h4 h2,if_neg (by omega)]
theorem BfsL.detW (h4:l.length≤400) (h2:(lstM stp fin l).arcs.length≤2000):detW (lstM stp fin l)=(lstM stp fin l,(0,0)):=by
 unfold Gm.detW;rw[h.silR h4 h2,if_neg (fun g=>g rfl),if_neg (by have:=h.form.n;have:=h.pos;dsimp only;omega)];unfold detR limR;dsimp only;rw[h.setM,if_neg (by have:=h.form.n;omega)]
end
theorem zAM {β:Type} [DecidableEq β]:∀ {l k:List β},l.Nodup→(∀ x∈l,x∈k)→l.length≤k.length:=by
 intro l
 induction l with
 | nil=>intros;exact Nat.zero_le _
 | cons x l ih =>
  intro k hn hs;obtain⟨h1,h2⟩:=List.nodup_cons.1 hn;have hx:=hs x wAt;have h3:=ih (k:=k.erase x) h2 fun y hy=>(List.mem_erase_of_ne (fun (e:y=x)=>h1 (e▸hy))).2 (hs y (wAs _ hy))
  have h4:=List.length_erase_of_mem hx;have h5:=List.length_pos_of_mem hx;rw[List.length_cons];omega
open Classical in
theorem zDg {ls:List Int} {L:Lang} {N:Nat} (h:Reg ls L N) (hl:LabOk ls) (hL:∃ w,L w) {f:Nat} (hf:N≤f):∃ l:List Lang,BfsL (stpQ ls) finQ L l∧canonM ls L f=lstM (stpQ ls) finQ l:=by
 obtain⟨Z,hZ1,hZ⟩:=h.res;obtain⟨l,g1,g2,g3,g4⟩:=zDb (stpQ ls) finQ hZ (f:=f) (by omega);have hl1:l.length≤Z.length:=zAM g1 fun v hv=>hZ v ((g3 v).1 hv)
 have hov:∀ Q,BR (stpQ ls) L Q→(∃ w,Q w)∧∀ w,Q w→∀ x∈w,x∈ls:=by
  intro Q hQ
  induction hQ with
  | base=>exact⟨hL,h.over⟩
  | @step s u x hs hx ih =>
   obtain⟨k1,k2,rfl⟩:=mem_stpQ.1 hx;exact⟨k2,fun w hw y hy=>ih.2 (x::w) hw y (wAs _ hy)⟩
 have e:canonM ls L f=lstM (stpQ ls) finQ l:=by
  unfold canonM;rw[if_pos hL];exact g4
 refine⟨l,⟨g1,g2,g3,fun s _=>zB0 h.inc s,fun s _ e he=>?_,fun s hs=>?_,fun f' hf'=>?_⟩,e⟩
 ·obtain⟨x,U⟩:=e;exact hl _ (mem_stpQ.1 he).1
 ·obtain⟨⟨w,hw⟩,ho⟩:=hov s hs;exact⟨w,(accQ w s ho).2 hw⟩
 ·rw[zDS (Z:=l) (fun v hv=>(g3 v).2 hv) hf' (show l.length≤f by omega)];exact g4
theorem zLh {m:Mach} (h:(minW m).2=(0,0)):accF (minW m).1=(0,0)∧silR (minW m).1=((minW m).1,(0,0))∧detW (minW m).1=((minW m).1,(0,0))∧minW (minW m).1=((minW m).1,(0,0))∧trimOf (minW m).1=(minW m).1:=by
 obtain⟨_,_,_,⟨ls,N,hr,hl,e⟩,h4,h2⟩:=zBW h;by_cases hL:∃ w,accA m.arcs m.fins 0 w
 ·classical
  obtain⟨l,hb,e2⟩:=zDg hr hl hL (wAh N)
  have hlang:∀ w,langM (lstM (stpQ ls) finQ l) 0 w↔accA m.arcs m.fins 0 w:=fun w=>by
   rw[← e2];exact zBT hr (wAh _) w
  rw[e,e2] at h4 h2 ⊢;have n:=hb.form.n;have h4':l.length≤400:=by omega
  have hd:=hb.detW h4' h2;refine⟨hb.acc0 h4' h2,hb.silR h4' h2,hd,?_,hb.trim⟩;have hs:=hb.form.sil h4 h2
  have hs':SilOk (lstM (stpQ ls) finQ l) (lstM (stpQ ls) finQ l).n.toNat:=by
   have:(lstM (stpQ ls) finQ l).n.toNat=l.length:=by omega
   rw[this];exact hs
  unfold minW;rw[hd];dsimp only;rw[if_neg (fun g=>g rfl),if_neg (by have:=hb.pos;omega)]
  have ec:canonM (lsM (lstM (stpQ ls) finQ l)) (langM (lstM (stpQ ls) finQ l) 0) (lstM (stpQ ls) finQ l).n.toNat=lstM (stpQ ls) finQ l:=by
   rw[(zBw (zFx hs') hr (wAh _) (wAh N)).2 hlang,e2]
  rw[ec];unfold limR;rw[if_neg (by omega)]
 ·rw[e,zAz hL];have hv:Valid emptyM:=zJA (N:=0) rfl (by omega) (by decide) (fun a ha=>by cases ha) (fun x hx=>by cases hx) .nil .nil;have a0:accF emptyM=(0,0):=zIa hv (fun a ha=>by cases ha) (fun x hx=>by cases hx);have e0:silM emptyM=emptyM:=by unfold silM;rw[if_pos (.inl rfl)]
  have s0:silR emptyM=(emptyM,(0,0)):=by
   unfold silR;rw[if_neg (fun g=>g a0),e0,if_neg (by decide)]
  have d0:detW emptyM=(emptyM,(0,0)):=by
   unfold detW;rw[s0,if_neg (fun g=>g rfl),if_pos (by rfl)]
  have m0:minW emptyM=(emptyM,(0,0)):=by
   unfold minW;rw[d0,if_neg (fun g=>g rfl),if_pos (by rfl)]
  exact⟨a0,s0,d0,m0,by unfold trimOf;rw[if_pos (.inl rfl)];rfl⟩
def dblM:Mach:=⟨3,[⟨0,1,97,97,0⟩,⟨0,2,97,97,0⟩],[⟨1,0⟩,⟨2,0⟩]⟩
def dblE:Mach:=⟨3,[⟨0,1,0,0,0⟩,⟨0,1,97,97,0⟩,⟨0,2,97,97,0⟩],[⟨1,0⟩,⟨2,0⟩]⟩
def dblS:Mach:=⟨3,[⟨0,1,97,97,0⟩,⟨0,2,97,97,0⟩],[⟨0,0⟩,⟨1,0⟩,⟨2,0⟩]⟩
theorem zLM {t:Mach} {N:Nat} (hn0:t.n=(N:Int)) (hpos:0<N) (hr:inRange t.arcs N) (hf:∀ x∈t.fins,0≤x.s∧x.s<(N:Int)) (hk:∀ i,i<N→keepK t i=true):trimOf t=t:=by
 have hn:t.n.toNat=N:=by omega
 have hc:∀ i,i≤N→cntK (keepK t) i=i:=fun i hi=>zER i (fun s hs=>hk s (by omega))
 unfold trimOf
 rw[if_neg (by
  rintro (g | g)
  · omega
  · rw[hk 0 hpos] at g;cases g)]
 have e0:(cntK (keepK t) t.n.toNat:Int)=t.n:=by rw[hn,hc _ (wAh _)];exact hn0.symm
 have e1:partArcs (keepK t) t.arcs=t.arcs:=by
  unfold partArcs;rw[wAi.2 (fun a ha=>by have:=hr a ha;rw[hk _ (by omega),hk _ (by omega)];rfl)];refine (wAj fun a ha=>?_).trans (wAo _)
  have:=hr a ha
  unfold partArc;rw[hc _ (by omega),hc _ (by omega)];exact Arc.ext' (by show ((a.f.toNat:Nat):Int)=a.f;omega) (by show ((a.t.toNat:Nat):Int)=a.t;omega) rfl rfl rfl
 have e2:partFins (keepK t) t.fins=t.fins:=by
  unfold partFins;rw[wAi.2 (fun a ha=>by have:=hf a ha;rw[hk _ (by omega)])];refine (wAj fun a ha=>?_).trans (wAo _)
  have:=hf a ha
  unfold partFin;rw[hc _ (by omega)];exact Fnl.ext' (by show ((a.s.toNat:Nat):Int)=a.s;omega) rfl
 unfold partM;rw[e0,e1,e2]
theorem rng3 {l:List Arc} (h:∀ a∈l,a=⟨0,1,0,0,0⟩∨a=⟨0,1,97,97,0⟩∨a=⟨0,2,97,97,0⟩):inRange l 3:=fun a ha=>by
 rcases h a ha with rfl | rfl | rfl<;>decide
theorem zJG {a:Arc} (ha:a∈dblE.arcs):a=⟨0,1,0,0,0⟩∨a=⟨0,1,97,97,0⟩∨a=⟨0,2,97,97,0⟩:=by
 simpa[dblE] using ha
theorem zGR {a:Arc} (ha:a∈dblM.arcs):a=⟨0,1,97,97,0⟩∨a=⟨0,2,97,97,0⟩:=by
 simpa[dblM] using ha
theorem zKh:accF dblE=(0,0):=by decide
theorem zJ4:accF dblM=(0,0):=by decide
theorem zF8 {s:Int} {u:Int} (h:Near dblE.arcs s u):u=0→s=0:=by
 induction h with
 | base=>exact id
 | @step a h1 ha hi ih =>
  intro e;rcases zJG ha with rfl | rfl | rfl<;>simp at e
theorem keep3 {t:Mach} (h1:(⟨0,1,97,97,0⟩:Arc)∈t.arcs) (h2:(⟨0,2,97,97,0⟩:Arc)∈t.arcs) (f1:(⟨1,0⟩:Fnl)∈t.fins) (f2:(⟨2,0⟩:Fnl)∈t.fins):∀ i,i<3→keepK t i=true:=by
 have r0:RS false t.arcs [0] 0:=.base (by simp);have r1:RS false t.arcs [0] 1:=.step r0 h1 rfl rfl;have r2:RS false t.arcs [0] 2:=.step r0 h2 rfl rfl;have b1:RS true t.arcs (finStates t.fins) 1:=.base (wAe.2 ⟨_,f1,rfl⟩);have b2:RS true t.arcs (finStates t.fins) 2:=.base (wAe.2 ⟨_,f2,rfl⟩);have b0:RS true t.arcs (finStates t.fins) 0:=.step b1 h1 rfl rfl;intro i hi;rcases (by omega:i=0∨i=1∨i=2) with rfl | rfl | rfl
 · exact keepK_iff.2 ⟨r0,b0⟩
 · exact keepK_iff.2 ⟨r1,b1⟩
 · exact keepK_iff.2 ⟨r2,b2⟩
theorem zFl:[(⟨0,1,97,97,0⟩:Arc),⟨0,2,97,97,0⟩].Pairwise (fun a b=>arcLess a b=true):=by
 refine List.pairwise_cons.2 ⟨fun b hb=>?_,List.pairwise_singleton _ _⟩;rw[wAc.1 hb];decide
theorem zN3:silO dblE=dblS:=by
 have e1:(silO dblE).arcs=[⟨0,1,97,97,0⟩,⟨0,2,97,97,0⟩]:=by
  refine zBr zCy zFl fun z=>?_
  rw[mem_silO,mem_silA];constructor
  ·rintro⟨s,hs,a,ha,hi,hn,rfl⟩;rcases zJG ha with rfl | rfl | rfl
   · exact absurd rfl hi
   ·have:=zF8 hn rfl
    simp[this]
   ·have:=zF8 hn rfl
    simp[this]
  ·intro hz;rcases wAx.1 hz with rfl | hz
   · exact⟨0,by decide,⟨0,1,97,97,0⟩,by simp[dblE],by decide,.base,rfl⟩
   ·rw[wAc.1 hz];exact⟨0,by decide,⟨0,2,97,97,0⟩,by simp[dblE],by decide,.base,rfl⟩
 have e2:silF dblE=[⟨0,0⟩,⟨1,0⟩,⟨2,0⟩]:=by
  have:silF dblE=(wAb 3).flatMap (fun s:Nat=>[(⟨(s:Int),0⟩:Fnl)]):=by
   unfold silF
   show (wAb 3).flatMap _=_
   (refine zBG fun j hj=>?_);rw[if_pos];rcases (by omega:j=0∨j=1∨j=2) with rfl | rfl | rfl
   · exact⟨⟨1,0⟩,by simp[dblE],.step (a:=⟨0,1,0,0,0⟩) .base (by simp[dblE]) rfl⟩
   · exact⟨⟨1,0⟩,by simp[dblE],.base⟩
   · exact⟨⟨2,0⟩,by simp[dblE],.base⟩
  rw[this];rfl
 show (⟨3,(silO dblE).arcs,silF dblE⟩:Mach)=dblS
 rw[e1,e2];rfl
theorem zOL:silR dblE=(dblS,(0,0)):=by
 have val:=zAX (zAU zKh)
 have e:silM dblE=dblS:=by
  rw[zBK val.n0 val.inRange val.finRange,zN3]
  exact zLM (N:=3) rfl (by omega) (rng3 fun a ha=>by
   have:a=⟨0,1,97,97,0⟩∨a=⟨0,2,97,97,0⟩:=by simpa[dblS] using ha
   rcases this with rfl | rfl<;>simp) (fun x hx=>by
   have:x=⟨0,0⟩∨x=⟨1,0⟩∨x=⟨2,0⟩:=by simpa[dblS] using hx
   rcases this with rfl | rfl | rfl<;>decide) (keep3 (by simp[dblS]) (by simp[dblS]) (by simp[dblS]) (by simp[dblS]))
 unfold silR;rw[if_neg (fun g=>g zKh),e,if_neg (by decide)]
theorem zMk:silO dblM=dblM:=by
 have hi:∀ a∈dblM.arcs,a.i≠0:=fun a ha=>by rcases zGR ha with rfl | rfl<;>decide
 have e1:(silO dblM).arcs=[⟨0,1,97,97,0⟩,⟨0,2,97,97,0⟩]:=by
  refine zBr zCy zFl fun z=>?_
  rw[mem_silO,mem_silA];constructor
  ·rintro⟨s,hs,a,ha,_,hn,rfl⟩;have e:=zEh hi hn;rcases zGR ha with rfl | rfl
   ·have e:(0:Int)=s:=e;simp[← e]
   ·have e:(0:Int)=s:=e;simp[← e]
  ·intro hz;rcases wAx.1 hz with rfl | hz
   · exact⟨0,by decide,⟨0,1,97,97,0⟩,by simp[dblM],by decide,.base,rfl⟩
   ·rw[wAc.1 hz];exact⟨0,by decide,⟨0,2,97,97,0⟩,by simp[dblM],by decide,.base,rfl⟩
 have e2:silF dblM=[⟨1,0⟩,⟨2,0⟩]:=by
  have:silF dblM=(wAb 3).flatMap (fun s:Nat=>if s=0 then [] else [(⟨(s:Int),0⟩:Fnl)]):=by
   unfold silF
   show (wAb 3).flatMap _=_
   (refine zBG fun j hj=>?_);rcases (by omega:j=0∨j=1∨j=2) with rfl | rfl | rfl
   ·rw[if_neg,if_pos rfl];rintro⟨x,hx,hn⟩;have e:=zEh hi hn
    have:x=⟨1,0⟩∨x=⟨2,0⟩:=by simpa[dblM] using hx
    rcases this with rfl | rfl<;>simp at e
   · rw[if_pos ⟨⟨1,0⟩,by simp[dblM],.base⟩,if_neg (by omega)]
   · rw[if_pos ⟨⟨2,0⟩,by simp[dblM],.base⟩,if_neg (by omega)]
  rw[this];rfl
 show (⟨3,(silO dblM).arcs,silF dblM⟩:Mach)=dblM
 rw[e1,e2];rfl
theorem zOU:silR dblM=(dblM,(0,0)):=by
 have val:=zAX (zAU zJ4)
 have e:silM dblM=dblM:=by
  rw[zBK val.n0 val.inRange val.finRange,zMk]
  exact zLM (N:=3) rfl (by omega) (rng3 fun a ha=>by rcases zGR ha with rfl | rfl<;>simp) (fun x hx=>by
   have:x=⟨1,0⟩∨x=⟨2,0⟩:=by simpa[dblM] using hx
   rcases this with rfl | rfl<;>decide) (keep3 (by simp[dblM]) (by simp[dblM]) (by simp[dblM]) (by simp[dblM]))
 unfold silR;rw[if_neg (fun g=>g zJ4),e,if_neg (by decide)]
theorem zJ2:detW dblM=(letM,(0,0)):=by
 have e:setM dblM=letM:=by rfl
 unfold detW;rw[zOU,if_neg (fun g=>g rfl),if_neg (by decide)];unfold detR;dsimp only;rw[e];rfl
theorem zPO:SilOk letM 2 where
 n:=rfl
 pos:=by omega
 n4:=by omega
 len:=by decide
 flen:=by decide
 rng:=fun a ha=>by
  have:a=⟨0,1,97,97,0⟩:=by simpa[letM] using ha
  rw[this];decide
 frng:=fun x hx=>by
  have:x=⟨1,0⟩:=by simpa[letM] using hx
  rw[this];decide
 lab:=fun a ha=>by
  have:a=⟨0,1,97,97,0⟩:=by simpa[letM] using ha
  rw[this];decide
theorem zKp:minW dblM=(letM,(0,0)):=by
 unfold minW;rw[zJ2,if_neg (fun g=>g rfl),if_neg (by decide)];have hr:Reg [97] (accS (tstp [97] (rowOf exL)) (finOf exF) 0) 3:=zCd ex_ok.inc ex_ok.pos ex_ok.rngs (by decide);have e:canonM [97] (accS (tstp [97] (rowOf exL)) (finOf exF) 0) 3=letM:=zLZ
 have hl:∀ w,langM letM 0 w↔accS (tstp [97] (rowOf exL)) (finOf exF) 0 w:=fun w=>by
  have:=zBT hr (wAh 3) w
  rw[e] at this;exact this
 have e2:canonM (lsM letM) (langM letM 0) 2=letM:=by
  rw[(zBw (zFx zPO) hr (wAh 2) (wAh 3)).2 hl,e]
 show limR (canonM (lsM letM) (langM letM 0) 2)=_
 rw[e2];rfl
structure AcOk (t:Mach) (S:Nat):Prop where
 n:t.n=(S:Int)
 n4:S≤100000
 rng:inRange t.arcs S
 frng:∀ x∈t.fins,0≤x.s∧x.s<(S:Int)
 lab:∀ x∈t.arcs,0≤x.i
theorem zC7:AcOk emptyM 0:=⟨rfl,by omega,(fun a ha=>by cases ha),(fun x hx=>by cases hx),(fun x hx=>by cases hx)⟩
theorem SilOk.ac {t:Mach} {N:Nat} (h:SilOk t N):AcOk t N:=⟨h.n,by have:=h.n4;omega,h.rng,h.frng,fun a ha=>by have:=(h.lab a ha).1;omega⟩
theorem BfsOk.ac {t:Mach} {N:Nat} {P:Int→Prop} (h:BfsOk t N P) (hP:∀ x,P x→0≤x) (h4:t.n≤400):AcOk t N:=⟨h.n,by have:=h.n;omega,h.rng,h.frng,fun a ha=>hP _ (h.lab a ha)⟩
theorem zCQ {m:Mach} (hv:accF m=(0,0)) (h:(silM m).n=0):silM m=emptyM:=by
 unfold silM at h ⊢;by_cases h4:m.n=0∨usB m 0=false
 · rw[if_pos h4]
 ·rw[if_neg h4] at h;exfalso;have val:=zAX (zAU hv);have k0:trB m 0=true:=trB_iff.2 (.base);have hn:=val.n0;have c:=zAo (K:=trB m) (show 0<m.n.toNat by have:m.n≠0:=fun e=>h4 (.inl e);omega) k0;dsimp only at h;omega
end Gm
