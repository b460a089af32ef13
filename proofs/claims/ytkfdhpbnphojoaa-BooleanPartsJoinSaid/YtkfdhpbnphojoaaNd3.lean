/- Part of the proof. -/
import Derived.Test.YtkfdhpbnphojoaaNd2
import Derived.Lib.SmallJoins
import Derived.Deep.Slices
import Derived.Deep.Fields
import Derived.ChangeSame
import Derived.SizedLaws
import Derived.Carry
import Derived.Test.YtkfdhpbnphojoaaChecked
import Derived.BigRegion
import Derived.Test.YtkfdhpbnphojoaaRows
import Derived.ProofKit
import Derived.OpenShut
import Derived.ChangeSlices
import Derived.Test.YtkfdhpbnphojoaaNd1
import Derived.Maps.RangeWalk
import Derived.Maps.OwnOps
import Derived.OneCell
import Derived.Laws.OwnMore
set_option linter.unusedSimpArgs false
set_option linter.unusedVariables false
set_option maxRecDepth 100000
set_option maxHeartbeats 400000
open List renaming mem_append→wAa,pairwise_cons→wAb,mem_map→wAc,head_eq_of_cons_eq→wAe,mem_cons→wAf,mem_singleton→wAg,range→wAh,getD_eq_getElem?_getD→wAi,getElem?_map→wAj,pairwise_iff_getElem→wAk,getElem?_eq_some_iff→wAl,getElem?_eq_getElem→wAm,map_append→wAo,pairwise_map→wAp,map_cons→wAq,take_succ_eq_append_getElem→wAr,pairwise_append→wAt,append_assoc→wAx,drop_eq_getElem_cons→wAy,getElem?_take_of_lt→wAz,length_take→wAA,length_drop→wAB,cons_append→wAC,length_cons→wAD,getD→wAE,getElem?_eq_none→wAF,take_append_drop→wAG,mem_of_getElem?→wAH,take_succ_cons→wAI,drop_succ_cons→wAJ,filter_eq_self→wAK,length_append→wAL,prefix_append→wAM,map_map→wAN,ext_getElem?→wAO,nodup_append→wAP,all_eq_true→wAR,prefix_refl→wAS,nodup_cons→wAT,drop_zero→wAU
open Nat renaming le_refl→wAn,zero_le→wAQ
open Array renaming getElem?_eq_some_iff→wAd,getElem?_modify→wAs,toList_filter→wAu,extract_eq_self_of_le→wAv,getElem?_append_left→wAw
namespace Gm
open Go Go.RowKit Go.ChangeShapes Go.WideShapes Go.Deep
section
variable {H:Type} {enc:TypeId×Value→H} {P:Program} {w:World} {base:Nat} {spare:Nat→Bool} {held:Bool}
theorem zCq {t e:TypeId} {fs:Array Field} {fuel:Nat} {cs:List Value} {x:DataW H×List MemPlace} (ht:P.underlying t=some (.slice e)) (he:P.underlying e=some (.struct fs))
 (hone:oneCellFields P fs=true) (hC:P.cellsOf e=fs.size) (h:DataW.trod enc P w base spare held fuel t cs=some x) :
 (cs=[.slice none 0 0]∧x=(.nil,[])) ∨
 ∃ (a:Addr) (len cap:Nat) (el sp:List (DataW H)) (pl:List MemPlace),cs=[.slice (some a) len cap]∧len≤cap∧x=(.slice el sp,pl)∧el.length=len ∧
  ∀ i,i<len→∃ n,∀ (j:Nat) (f:Field),fs[j]? = some f→∃ (v:Value) (y:DataW H×List MemPlace),w.cell? (a.add (i*fs.size+j))=some v∧DataW.trod enc P w base spare held n f.type [v]=some y:=by
 rcases open_slice ht h with h0 | ⟨a,len,cap,m,n,D,Pl,hcs,hb,hl,hm,hmm,hx,hi⟩
 · exact .inl h0
 ·refine .inr ⟨a,len,cap,_,_,_,hcs,hl,hx,by simp,fun i hil=>?_⟩;obtain⟨cs',hc,ht'⟩:=hi i (by rw[hmm];split<;>omega);rw[hC] at hc;obtain⟨ys,n',hn',hy,hlen,hyl,hf⟩:=DataW.trod_struct he ht';obtain⟨_,hcl,hat⟩:=World.cells?_some hc;refine⟨n',fun j f hj=>?_⟩;obtain⟨ho,hk⟩:=hone_of hone j f hj;have hjl:j<fs.size:=(wAd.1 hj).1;have hcell:=hat j hjl;have hv:cs'[j]? = some (cs'[j]'(by omega)):=wAm (by omega);have h1:=hf j f hj;rw[ho,hk] at h1
  have hone':(cs'.drop j).take 1=[cs'[j]'(by omega)]:=by
   rw[wAy (by omega)];rfl
  rw[hone'] at h1;have hys:ys[j]? = some (ys[j]'(by omega)):=wAm (by omega);refine⟨_,_,?_,h1.trans hys⟩;rw[← Go.Deep.add_add,hcell,hv]
theorem zOa {w:World} {a:Addr} {v:Value} (h:w.cell? a=some v):a.spot=none∧a.block<w.heap.size:=by
 unfold World.cell? at h;split at h
 ·rename_i hb
  refine⟨?_,(wAd.1 hb).1⟩;split at h
  · cases h
  · rename_i hs;simpa using hs
 · cases h
def cellInt (w:World) (a:Addr):Int:=match w.cell? a with | some (.int _ x)=>x | _=>0
theorem zEw {a:Addr} {len sz:Nat} {f:Nat→Nat→Value} (hsz:0<sz) (h:∀ i j,i<len→j<sz→w.cell? (a.add (i*sz+j))=some (f i j)):Rd w w.heap.size sz (some a) len f:=by
 intro hn;have h0:=h 0 0 hn hsz;rw[Nat.zero_mul,Nat.zero_add] at h0;have ha:a.add 0=a:=by unfold Addr.add;rw[if_pos rfl]
 rw[ha] at h0;obtain⟨hs,hb⟩:=zOa h0;obtain⟨b,off,spot⟩:=a;subst hs;refine⟨b,off,rfl,hb,fun i j hi hj=>?_⟩
 have:=h i j hi hj
 have e:(⟨b,off,none⟩:Addr).add (i*sz+j)=⟨b,off+(i*sz+j),none⟩:=by unfold Addr.add;split<;>simp_all
 rw[e] at this;exact this
theorem zJp {ts:List TypeId} {ds:List (DataW H)} (h:(DataW.weightsEach P ts ds).all (· ≤ reachBytes)=true) {j:Nat} {t:TypeId} {fs:Array Field} {parts:List (DataW H)} (ht:ts[j]? = some t) (hd:ds[j]? = some (.agg parts)) (hu:P.underlying t=some (.struct fs)) :
 (DataW.weightsEach P (fs.toList.map (·.type)) parts).all (· ≤ reachBytes)=true:=by
 refine wAR.2 fun n hn=>wAR.1 h n (DataW.weights_mem_each ht hd n ?_)
 simp only[DataW.weights,hu];exact hn
end
end Gm
namespace Go.Proofs.Ytkfdhpbnphojoaa
open Go.RowKit Go.ChangeShapes Go.WideShapes Go.Deep Gm Go.Joins
section
variable {H:Type} {enc:TypeId×Value→H} {w:World} {base:Nat} {spare:Nat→Bool} {held:Bool}
theorem zNn {fuel:Nat} {v:Value} {y:DataW H×List MemPlace} (h:DataW.trod enc Try.prog w base spare held fuel 22 [v]=some y) (hb:∀ el sp,y.1=.slice el sp→(el.length+sp.length)*Try.prog.bytesOf 64≤reachBytes) :
 ∃ (A:Option Addr) (n c:Nat) (l:List Arc),v=.slice A n c∧l.length=n∧n≤c∧n≤big∧Rd w w.heap.size 5 A n (arcCell l):=by
 rcases zCq Try.underlying22 Try.underlying64 (by kernel_rfl) (by kernel_rfl) h with⟨hv,rfl⟩ | ⟨a,len,cap,el,sp,pl,hv,hlc,rfl,hel,hf⟩
 ·obtain rfl:=wAe hv;exact⟨none,0,0,[],rfl,rfl,wAn _,by simp[big],Rd.zero⟩
 ·obtain rfl:=wAe hv;have hbb:=hb el sp rfl;have e40:Try.prog.bytesOf 64=40:=by kernel_rfl
  rw[e40] at hbb
  have hcell:∀ i j,i<len→j<5→w.cell? (a.add (i*5+j))=some (.int .i64 (cellInt w (a.add (i*5+j)))):=by
   intro i j hi hj;obtain⟨n',hn⟩:=hf i hi
   have key:∀ f:Field,f.type=3→(∃ (u:Value) (y':DataW H×List MemPlace),w.cell? (a.add (i*5+j))=some u∧DataW.trod enc Try.prog w base spare held n' f.type [u]=some y')→w.cell? (a.add (i*5+j))=some (.int .i64 (cellInt w (a.add (i*5+j)))):=fun f hft hex=>by
    obtain⟨u,y',hc,hy⟩:=hex;rw[hft] at hy;obtain⟨x,hx,_,_⟩:=DataW.trod_int Try.underlying3 hy;obtain rfl:=wAe hx;have hc':w.cell? (a.add (i*5+j))=some (.int .i64 x):=hc;unfold cellInt;rw[hc']
   rcases (by omega:j=0∨j=1∨j=2∨j=3∨j=4) with rfl | rfl | rfl | rfl | rfl<;>exact key _ rfl (hn _ _ rfl)
  refine⟨some a,len,cap,(wAh len).map fun i=>⟨cellInt w (a.add (i*5+0)),cellInt w (a.add (i*5+1)),cellInt w (a.add (i*5+2)),cellInt w (a.add (i*5+3)),cellInt w (a.add (i*5+4))⟩,rfl,by simp,hlc,by simp only[big];simp only[reachBytes] at hbb;omega,zEw (by decide) fun i j hi hj=>?_⟩;rw[hcell i j hi hj];unfold arcCell
  have hget:((wAh len).map fun i=>(⟨cellInt w (a.add (i*5+0)),cellInt w (a.add (i*5+1)),cellInt w (a.add (i*5+2)),cellInt w (a.add (i*5+3)),cellInt w (a.add (i*5+4))⟩:Arc)).getD i dA=⟨cellInt w (a.add (i*5+0)),cellInt w (a.add (i*5+1)),cellInt w (a.add (i*5+2)),cellInt w (a.add (i*5+3)),cellInt w (a.add (i*5+4))⟩:=by
   simp[hi]
  rw[hget];rcases (by omega:j=0∨j=1∨j=2∨j=3∨j=4) with rfl | rfl | rfl | rfl | rfl<;>rfl
theorem zMW {fuel:Nat} {v:Value} {y:DataW H×List MemPlace} (h:DataW.trod enc Try.prog w base spare held fuel 23 [v]=some y) (hb:∀ el sp,y.1=.slice el sp→(el.length+sp.length)*Try.prog.bytesOf 69≤reachBytes) :
 ∃ (A:Option Addr) (n c:Nat) (l:List Fnl),v=.slice A n c∧l.length=n∧n≤c∧n≤big∧Rd w w.heap.size 2 A n (finCell l):=by
 rcases zCq Try.underlying23 Try.underlying69 (by kernel_rfl) (by kernel_rfl) h with⟨hv,rfl⟩ | ⟨a,len,cap,el,sp,pl,hv,hlc,rfl,hel,hf⟩
 ·obtain rfl:=wAe hv;exact⟨none,0,0,[],rfl,rfl,wAn _,by simp[big],Rd.zero⟩
 ·obtain rfl:=wAe hv;have hbb:=hb el sp rfl;have e40:Try.prog.bytesOf 69=16:=by kernel_rfl
  rw[e40] at hbb
  have hcell:∀ i j,i<len→j<2→w.cell? (a.add (i*2+j))=some (.int .i64 (cellInt w (a.add (i*2+j)))):=by
   intro i j hi hj;obtain⟨n',hn⟩:=hf i hi
   have key:∀ f:Field,f.type=3→(∃ (u:Value) (y':DataW H×List MemPlace),w.cell? (a.add (i*2+j))=some u∧DataW.trod enc Try.prog w base spare held n' f.type [u]=some y')→w.cell? (a.add (i*2+j))=some (.int .i64 (cellInt w (a.add (i*2+j)))):=fun f hft hex=>by
    obtain⟨u,y',hc,hy⟩:=hex;rw[hft] at hy;obtain⟨x,hx,_,_⟩:=DataW.trod_int Try.underlying3 hy;obtain rfl:=wAe hx;have hc':w.cell? (a.add (i*2+j))=some (.int .i64 x):=hc;unfold cellInt;rw[hc']
   rcases (by omega:j=0∨j=1) with rfl | rfl<;>exact key _ rfl (hn _ _ rfl)
  refine⟨some a,len,cap,(wAh len).map fun i=>⟨cellInt w (a.add (i*2+0)),cellInt w (a.add (i*2+1))⟩,rfl,by simp,hlc,by simp only[big];simp only[reachBytes] at hbb;omega,zEw (by decide) fun i j hi hj=>?_⟩;rw[hcell i j hi hj];unfold finCell
  have hget:((wAh len).map fun i=>(⟨cellInt w (a.add (i*2+0)),cellInt w (a.add (i*2+1))⟩:Fnl)).getD i dF=⟨cellInt w (a.add (i*2+0)),cellInt w (a.add (i*2+1))⟩:=by
   simp[hi]
  rw[hget];rcases (by omega:j=0∨j=1) with rfl | rfl<;>rfl
theorem zDV {r:Reach} {b0:Nat} {v:Value} {d:DataW H} {p:List MemPlace} {ts:List TypeId} {ds:List (DataW H)} {j:Nat} (hv:Value.okWide Try.prog w r b0 25 v) (h:DataW.Trod enc Try.prog w base spare held 25 v d p)
 (hs:(DataW.weightsEach Try.prog ts ds).all (· ≤ reachBytes)=true) (ht:ts[j]? = some 25) (hd:ds[j]? = some d):∃ m,MachAt w w.heap.size v m:=by
 obtain⟨v0,v1,v2,y0,y1,y2,n,rfl,rfl,rfl,t0,t1,t2⟩:=open_agg3 Try.underlying25 (by kernel_rfl) (by kernel_rfl) hv h;obtain⟨x0,e0,_,_⟩:=DataW.trod_int Try.underlying3 t0;obtain rfl:=wAe e0;have hsf:=zJp hs ht hd Try.underlying25;obtain⟨A,n1,c1,l,rfl,h1,h2,h3,h4⟩:=zNn t1 (fun el sp e=>sized_slice hsf (j:=1) rfl (by rw[← e];rfl) Try.underlying22);obtain⟨AF,n2,c2,l2,rfl,g1,g2,g3,g4⟩:=zMW t2 (fun el sp e=>sized_slice hsf (j:=2) rfl (by rw[← e];rfl) Try.underlying23);exact⟨⟨x0,l,l2⟩,A,AF,n1,c1,n2,c2,rfl,zh h1,zh g1,h2,g2,h3,g3,h4,g4⟩
end
end Go.Proofs.Ytkfdhpbnphojoaa
namespace Gm
theorem zLA {K:Nat→Bool} {s t:Nat} (h:s≤t):cntK K s≤cntK K t:=by
 induction t with
 | zero =>
  obtain rfl:s=0:=by omega
  exact wAn _
 | succ t ih =>
  rcases Nat.eq_or_lt_of_le h with e | e
  · subst e;exact wAn _
  ·have:=ih (by omega)
   simp only[cntK];omega
theorem zAo {K:Nat→Bool} {s t:Nat} (h:s<t) (hs:K s=true):cntK K s<cntK K t:=by
 have h1:cntK K (s+1)≤cntK K t:=zLA h;simp only[cntK,hs,if_true] at h1;omega
theorem zER {K:Nat→Bool} : ∀ N,(∀ s,s<N→K s=true)→cntK K N=N
 | 0,_=>rfl
 | N+1,h=>by simp only[cntK];rw[zER N (fun s hs=>h s (by omega)),h N (by omega)];rfl
/-! the order of arcs -/
theorem zDC:∀ (a b c:List Int),lessL a b=true→lessL b c=true→lessL a c=true
 | [],_,_,h,_=>by simp[lessL] at h
 | _::_,[],_,h,_=>by simp[lessL] at h
 | _::_,_::_,[],_,h=>by simp[lessL] at h
 | x::a,y::b,z::c,h1,h2=>by
  have ih:=zDC a b c;simp only[lessL] at h1 h2 ⊢;by_cases e1:x=y
  ·subst e1;rw[if_pos rfl] at h1;by_cases e2:x=z
   · subst e2;rw[if_pos rfl] at h2 ⊢;exact ih h1 h2
   · rw[if_neg e2] at h2 ⊢;exact h2
  ·rw[if_neg e1] at h1;have h1:=of_decide_eq_true h1;by_cases e2:y=z
   · subst e2;rw[if_neg e1];exact decide_eq_true h1
   ·rw[if_neg e2] at h2;have h2:=of_decide_eq_true h2;rw[if_neg (by omega)];exact decide_eq_true (by omega)
theorem zBM {α:Type} {R:α→α→Prop} (tr:∀ a b c,R a b→R b c→R a c) (d:α):∀ (l:List α),(∀ k,k+1<l.length→R (l.getD k d) (l.getD (k+1) d))→l.Pairwise R
 | [],_=>.nil
 | [_],_=>by simp
 | a::b::l,h=>by
  have ih:=zBM tr d (b::l) (fun k hk=>by have:=h (k+1) (by simpa using hk);simpa using this);refine List.Pairwise.cons (fun c hc=>?_) ih;have hab:R a b:=by have:=h 0 (by simp);simpa using this
  rcases wAf.1 hc with rfl | hc
  · exact hab
  · exact tr _ _ _ hab ((wAb.1 ih).1 c hc)
theorem zBj {α:Type} {R:α→α→Prop} (d:α) {l:List α} (h:l.Pairwise R) {k:Nat} (hk:k+1<l.length):R (l.getD k d) (l.getD (k+1) d):=by
 have:=wAk.1 h k (k+1) (by omega) hk (by omega)
 simpa[wAi,wAm hk,wAm (show k<l.length by omega)] using this
theorem zHL {a1 a2 a3 a4 a5 b1 b2 b3 b4 b5 c1 c4 d1 d4:Int} (h1:a1<b1→c1<d1) (h1':a1=b1→c1=d1) (h4:a4<b4→c4<d4) (h4':a4=b4→c4=d4) (h:lessL [a1,a2,a3,a4,a5] [b1,b2,b3,b4,b5]=true):lessL [c1,a2,a3,c4,a5] [d1,b2,b3,d4,b5]=true:=by
 simp only[lessL] at h ⊢;by_cases e1:a1=b1
 ·rw[if_pos e1] at h;rw[if_pos (h1' e1)];by_cases e2:a2=b2
  ·rw[if_pos e2] at h ⊢;by_cases e3:a3=b3
   ·rw[if_pos e3] at h ⊢;by_cases e4:a4=b4
    ·rw[if_pos e4] at h;rw[if_pos (h4' e4)];exact h
    ·rw[if_neg e4] at h
     have:=h4 (of_decide_eq_true h)
     rw[if_neg (by omega)];exact decide_eq_true this
   · rw[if_neg e3] at h ⊢;exact h
  · rw[if_neg e2] at h ⊢;exact h
 ·rw[if_neg e1] at h
  have:=h1 (of_decide_eq_true h)
  rw[if_neg (by omega)];exact decide_eq_true this
theorem zCx {K:Nat→Bool} {x y:Int} (hx:0≤x) (hk:K x.toNat=true) (h:x<y):((cntK K x.toNat:Nat):Int)<((cntK K y.toNat:Nat):Int):=by
 have:=zAo (K:=K) (show x.toNat<y.toNat by omega) hk
 omega
section
variable {m:Mach} (h:Valid m)
include h
theorem zFd:m.arcs.Pairwise (fun a b=>arcLess a b=true) :=
 zBM (R:=fun a b=>arcLess a b=true) (fun a b c h1 h2=>zDC (arcKey a) (arcKey b) (arcKey c) h1 h2) dA m.arcs (fun k hk=>by
  have:=(zDK (h.arc (k+1) hk)).2 (by omega)
  rw[show k+1-1=k by omega] at this
  rw[zBn,decide_eq_false this];rfl)
theorem zDs:m.fins.Pairwise (fun a b=>a.s<b.s) :=
 zBM (R:=fun a b=>a.s<b.s) (fun a b c h1 h2=>by omega) dF m.fins (fun k hk=>by
  have:=(zBt (h.fin (k+1) hk)).2 (by omega)
  rw[show k+1-1=k by omega] at this
  exact this)
end
structure Pl where
 w:Nat
 s:Nat
 i:Nat
 j:Nat
theorem Pl.ext' {a b:Pl} (h1:a.w=b.w) (h2:a.s=b.s) (h3:a.i=b.i) (h4:a.j=b.j):a=b:=by
 cases a;cases b;simp_all
def stp (u v:List Int) (a:Arc) (i j:Nat):Option (Nat×Nat) :=
 if a.i≠0∧(i=u.length∨u.getD i 0≠a.i) then none
 else if a.o≠0∧(j=v.length∨v.getD j 0≠a.o) then none
 else some (if a.i=0 then i else i+1,if a.o=0 then j else j+1)
theorem zQA {u v:List Int} {a:Arc} {i j i' j':Nat} (h:stp u v a i j=some (i',j')) (hi:i≤u.length) (hj:j≤v.length):i'≤u.length∧j'≤v.length:=by
 unfold stp at h;by_cases h1:a.i≠0∧(i=u.length∨u.getD i 0≠a.i)
 · rw[if_pos h1] at h;cases h
 ·rw[if_neg h1] at h;by_cases h2:a.o≠0∧(j=v.length∨v.getD j 0≠a.o)
  · rw[if_pos h2] at h;cases h
  ·rw[if_neg h2] at h;simp only[Option.some.injEq,Prod.mk.injEq] at h;obtain⟨rfl,rfl⟩:=h;(have g1:a.i≠0→i≠u.length:=fun h3 h4=>h1 ⟨h3,.inl h4⟩);(have g2:a.o≠0→j≠v.length:=fun h3 h4=>h2 ⟨h3,.inl h4⟩);constructor
   ·by_cases h3:a.i=0
    · rw[if_pos h3];exact hi
    · rw[if_neg h3];have:=g1 h3;omega
   ·by_cases h3:a.o=0
    · rw[if_pos h3];exact hj
    · rw[if_neg h3];have:=g2 h3;omega
inductive Rch (m:Mach) (u v:List Int):Nat→Nat→Nat→Nat→Prop
 | start:0<m.n→Rch m u v 0 0 0 0
 | step {s i j d i' j':Nat} {a:Arc} : Rch m u v s i j d→a∈m.arcs→a.f=(s:Int)→stp u v a i j=some (i',j')→Rch m u v a.t.toNat i' j' (d+a.w.toNat)
def Acc (m:Mach) (u v:List Int) (d:Nat):Prop:=∃ x∈m.fins,∃ e,Rch m u v x.s.toNat u.length v.length e∧d=e+x.w.toNat
theorem zSf {m:Mach} {u v:List Int} {s i j d:Nat} (h:Rch m u v s i j d):i≤u.length∧j≤v.length:=by
 induction h with
 | start hn=>exact⟨wAQ _,wAQ _⟩
 | step h1 h2 h3 h4 ih=>exact zQA h4 ih.1 ih.2
open Go Go.RowKit
theorem zAP {w:World} {base sz n:Nat} {e:TypeId} {v:Value} {xs:List Value} (h:w.ownsRow base e sz v n xs) {g cap:Nat} (hv:v=.slice (some ⟨g,0,none⟩) n cap) (hn:0<n) (i:Nat) (u:Value) :
 (w.setCell ⟨g,i,none⟩ u).ownsRow base e sz v n (xs.set i u):=by
 refine⟨by rw[List.length_set];exact h.1,?_⟩;rcases h.2 with⟨_,h0⟩ | ⟨g',cap',cur,h1,h2,h3,h4,h5,h6,h7⟩
 · omega
 ·rw[hv] at h1;injection h1 with h1 _ hc
  injection h1 with h1
  injection h1 with h1
  subst h1;refine .inr ⟨g,cap',cur.setIfInBounds i u,by rw[hv,hc],h2,?_,h4,h5,by simpa using h6,?_⟩
  · simp[World.setCell,wAs,h3]
  · rw[Array.toList_setIfInBounds,List.take_set,h7]
theorem zDM {w:World} {base sz n:Nat} {e:TypeId} {v:Value} {xs:List Value} (h:w.ownsRow base e sz v n xs) {g cap:Nat} (hv:v=.slice (some ⟨g,0,none⟩) n cap) (hn:0<n) (j:Nat):w.frozen? ⟨g,j,none⟩=false:=by
 rcases h.2 with⟨_,h0⟩ | ⟨g',cap',cur,h1,h2,h3,h4⟩
 · omega
 ·rw[hv] at h1;injection h1 with h1 _ hc
  injection h1 with h1
  injection h1 with h1
  subst h1;simp[World.frozen?,h3]
theorem zCS {w:World} {base sz n:Nat} {e:TypeId} {v:Value} {xs:List Value} (h:w.ownsRow base e sz v n xs) (hn:0<n):∃ g cap,v=.slice (some ⟨g,0,none⟩) n cap∧base≤g∧g<w.heap.size∧n≤cap∧cap≤maxLen:=by
 rcases h.2 with⟨_,h0⟩ | ⟨g,cap,cur,h1,h2,h3,h4,h5,h6,h7⟩
 · omega
 ·refine⟨g,cap,h1,h2,?_,h4,h5⟩;rcases Nat.lt_or_ge g w.heap.size with hlt | hge
  · exact hlt
  · rw[Array.getElem?_eq_none hge] at h3;cases h3
theorem zPj {w w':World} {r:Option Nat} (h:w.grownBy w' r) (n:Nat):w.grownBy (w'.drewN n) r:=⟨h.os,h.tape,h.output,h.size,h.block⟩
theorem zSb {w:World} {base n s:Nat} {e:TypeId} {v:Value} {xs:List Value} (h:w.ownsRow base e s v n xs) (k:Nat):(w.drewN k).ownsRow base e s v n xs:=h
theorem zOE {w w' w'':World} {r:Option Nat} (h:w.grownBy w' r) (h':w'.grownBy w'' r):w.grownBy w'' r :=
 ⟨h'.os.trans h.os,h'.tape.trans h.tape,h'.output.trans h.output,Nat.le_trans h.size h'.size,fun k hk hne=>(h'.block k (Nat.lt_of_lt_of_le hk h.size) hne).trans (h.block k hk hne)⟩
def lab (x:Int):List Int:=if x=0 then [] else [x]
theorem zRc (x:Int):(lab x).length=if x=0 then 0 else 1:=by unfold lab;split<;>rfl
inductive Pw (A:List Arc) (s:Int):Int→List Int→List Int→Nat→Prop
 | nil:Pw A s s [] [] 0
 | snoc {t:Int} {u v:List Int} {d:Nat} {a:Arc} : Pw A s t u v d→a∈A→a.f=t→Pw A s a.t (u++lab a.i) (v++lab a.o) (d+a.w.toNat)
theorem Pw.cast {A:List Arc} {s t t':Int} {u u' v v':List Int} {d d':Nat} (h:Pw A s t u v d) (ht:t=t') (hu:u=u') (hv:v=v') (hd:d=d'):Pw A s t' u' v' d':=by
 subst ht;subst hu;subst hv;subst hd;exact h
theorem Pw.one {A:List Arc} {a:Arc} (ha:a∈A):Pw A a.f a.t (lab a.i) (lab a.o) a.w.toNat :=
 (Pw.snoc (.nil) ha rfl).cast rfl (by simp) (by simp) (by simp)
theorem Pw.trans {A:List Arc} {s t r:Int} {u v u' v':List Int} {d d':Nat} (h:Pw A s t u v d) (h':Pw A t r u' v' d'):Pw A s r (u++u') (v++v') (d+d'):=by
 induction h' with
 | nil=>exact h.cast rfl (by simp) (by simp) (by simp)
 | snoc _ ha hf ih=>exact (Pw.snoc ih ha hf).cast rfl (by simp[wAx]) (by simp[wAx]) (by omega)
theorem Pw.mono {A B:List Arc} {s t:Int} {u v:List Int} {d:Nat} (h:Pw A s t u v d) (hs:∀ a∈A,a∈B):Pw B s t u v d:=by
 induction h with
 | nil=>exact .nil
 | snoc _ ha hf ih=>exact .snoc ih (hs _ ha) hf
theorem Pw.cons {A:List Arc} {s t:Int} {u v:List Int} {d:Nat} (h:Pw A s t u v d):(s=t∧u=[]∧v=[]∧d=0)∨∃ a∈A,a.f=s∧∃ u' v' d',Pw A a.t t u' v' d'∧u=lab a.i++u'∧v=lab a.o++v'∧d=a.w.toNat+d':=by
 induction h with
 | nil=>exact .inl ⟨rfl,rfl,rfl,rfl⟩
 | @snoc t u v d b hp hb hf ih =>
  right;rcases ih with⟨rfl,rfl,rfl,rfl⟩ | ⟨a,ha,hs,u',v',d',hq,rfl,rfl,rfl⟩
  · exact⟨b,hb,hf,[],[],0,.nil,by simp,by simp,by simp⟩
  · exact⟨a,ha,hs,_,_,_,.snoc hq hb hf,by simp,by simp,by omega⟩
theorem zKD {u:List Int} {i:Nat} {x:Int} (hi:i≤u.length) (h:¬ (x≠0∧(i=u.length∨u.getD i 0≠x))):u.take (if x=0 then i else i+1)=u.take i++lab x:=by
 unfold lab;by_cases hx:x=0
 · simp[hx]
 ·have h1:i≠u.length:=fun e=>h ⟨hx,.inl e⟩
  have h2:u.getD i 0=x:=Classical.byContradiction fun e=>h ⟨hx,.inr e⟩
  have h3:i<u.length:=by omega
  rw[if_neg hx,if_neg hx,wAr h3];simp[h3] at h2;rw[h2]
theorem zPx {u v:List Int} {a:Arc} {i j i' j':Nat} (h:stp u v a i j=some (i',j')) (hi:i≤u.length) (hj:j≤v.length):u.take i'=u.take i++lab a.i∧v.take j'=v.take j++lab a.o:=by
 unfold stp at h;by_cases h1:a.i≠0∧(i=u.length∨u.getD i 0≠a.i)
 · rw[if_pos h1] at h;cases h
 ·rw[if_neg h1] at h;by_cases h2:a.o≠0∧(j=v.length∨v.getD j 0≠a.o)
  · rw[if_pos h2] at h;cases h
  ·rw[if_neg h2] at h;simp only[Option.some.injEq,Prod.mk.injEq] at h;obtain⟨rfl,rfl⟩:=h;exact⟨zKD hi h1,zKD hj h2⟩
theorem zQ1 {u v u' v':List Int} {a:Arc} (hu:u'++lab a.i <+: u) (hv:v'++lab a.o <+: v):stp u v a u'.length v'.length=some ((u'++lab a.i).length,(v'++lab a.o).length):=by
 have key:∀ (x:Int) (p w:List Int),p++lab x <+: w→¬ (x≠0∧(p.length=w.length∨w.getD p.length 0≠x)):=by
  rintro x p w ⟨r,rfl⟩ ⟨hx,hh⟩;rw[lab,if_neg hx] at hh;rcases hh with hh | hh
  · simp at hh
  · apply hh;simp
 unfold stp;rw[if_neg (key _ _ _ hu),if_neg (key _ _ _ hv)];simp only[wAL,zRc];congr 2
 · split<;>rfl
 · split<;>rfl
theorem zSx {m:Mach} {u v:List Int} {s i j d:Nat} (hr:∀ a∈m.arcs,0≤a.t) (h:Rch m u v s i j d):Pw m.arcs 0 (s:Int) (u.take i) (v.take j) d:=by
 induction h with
 | start _=>exact Pw.nil
 | @step s i j d i' j' a h1 h2 h3 h4 ih =>
  obtain⟨g1,g2⟩:=zSf h1;obtain⟨k1,k2⟩:=zPx h4 g1 g2;have ht:=hr a h2;exact (Pw.snoc ih h2 h3).cast (by omega) k1.symm k2.symm rfl
theorem zSK {m:Mach} {t:Int} {u' v':List Int} {d:Nat} (h0:0<m.n) (hr:∀ a∈m.arcs,0≤a.f) (h:Pw m.arcs 0 t u' v' d):∀ u v,u' <+: u→v' <+: v→Rch m u v t.toNat u'.length v'.length d:=by
 induction h with
 | nil=>exact fun u v _ _=>.start h0
 | @snoc t u' v' d a hp ha hf ih =>
  intro u v hu hv;have h1:=ih u v ((wAM _ _).trans hu) ((wAM _ _).trans hv)
  have:=hr a ha
  exact .step h1 ha (by omega) (zQ1 hu hv)
theorem zSU {m:Mach} (hr:∀ a∈m.arcs,0≤a.f∧0≤a.t) (hf:∀ x∈m.fins,0≤x.s) {u v:List Int} {d:Nat} : Acc m u v d↔0<m.n∧∃ x∈m.fins,∃ e,Pw m.arcs 0 x.s u v e∧d=e+x.w.toNat:=by
 constructor
 ·rintro⟨x,hx,e,he,rfl⟩
  have h0:0<m.n:=by
   have:∀ {s i j d:Nat},Rch m u v s i j d→0<m.n:=by
    intro s i j d h
    induction h with
    | start h=>exact h
    | step _ _ _ _ ih=>exact ih
   exact this he
  have:=hf x hx
  exact⟨h0,x,hx,e,(zSx (fun a ha=>(hr a ha).2) he).cast (by omega) (by simp) (by simp) rfl,rfl⟩
 ·rintro⟨h0,x,hx,e,he,rfl⟩;exact⟨x,hx,e,zSK h0 (fun a ha=>(hr a ha).1) he u v (wAS _) (wAS _),rfl⟩
structure Rng (m:Mach):Prop where
 arc:∀ a∈m.arcs,0≤a.f∧a.f<m.n∧0≤a.t∧a.t<m.n
 fin:∀ x∈m.fins,0≤x.s∧x.s<m.n
 wt:(∀ a∈m.arcs,0≤a.w)∧∀ x∈m.fins,0≤x.w
 n0:0≤m.n
theorem Rng.acc {m:Mach} (h:Rng m) {u v:List Int} {d:Nat} : Acc m u v d↔0<m.n∧∃ x∈m.fins,∃ e,Pw m.arcs 0 x.s u v e∧d=e+x.w.toNat :=
 zSU (fun a ha=>⟨(h.arc a ha).1,(h.arc a ha).2.2.1⟩) (fun x hx=>(h.fin x hx).1)
def shA (k:Int) (a:Arc):Arc:=⟨a.f+k,a.t+k,a.i,a.o,a.w⟩
def shF (k:Int) (x:Fnl):Fnl:=⟨x.s+k,x.w⟩
def eps (f t w:Int):Arc:=⟨f,t,0,0,w⟩
/-! Union -/
def uniArcs (a b:Mach):List Arc:=(if 0<a.n then [eps 0 1 0] else [])++(if 0<b.n then [eps 0 (1+a.n) 0] else [])++a.arcs.map (shA 1)++b.arcs.map (shA (1+a.n))
def uniFins (a b:Mach):List Fnl:=a.fins.map (shF 1)++b.fins.map (shF (1+a.n))
theorem mem_uni {a b:Mach} {x:Arc} : x∈uniArcs a b↔(0<a.n∧x=eps 0 1 0)∨(0<b.n∧x=eps 0 (1+a.n) 0)∨(∃ y∈a.arcs,x=shA 1 y)∨∃ y∈b.arcs,x=shA (1+a.n) y:=by
 unfold uniArcs;simp only[wAa,wAc];by_cases h1:0<a.n<;>by_cases h2:0<b.n<;>simp[h1,h2,eq_comm,or_assoc]
/-! Concatenation -/
def catArcs (a b:Mach):List Arc:=a.arcs++b.arcs.map (shA a.n)++a.fins.map (fun x=>eps x.s a.n x.w)
def catFins (a b:Mach):List Fnl:=b.fins.map (shF a.n)
/-! Repetition -/
def starArcs (m:Mach):List Arc:=(if 0<m.n then [eps 0 1 0] else [])++m.arcs.map (shA 1)++m.fins.map (fun x=>eps (1+x.s) 0 x.w)
theorem zBh {m:Mach} (h:Valid m):Rng m where
 arc:=fun a ha=>by have:=zDN (h.okA ha);omega
 fin:=fun x hx=>by have:=zCk (h.okF hx);omega
 wt:=⟨fun a ha=>by have:=zDN (h.okA ha);omega,fun x hx=>by have:=zCk (h.okF hx);omega⟩
 n0:=h.n0
section
variable {m:Mach} (h:Valid m)
include h
end
end Gm
namespace Go.Proofs.Ytkfdhpbnphojoaa
open Go.RowKit Gm
theorem zLX {W:World} {B n k:Nat} {A:Option Addr} {l:List Int} (h:Rd W B 1 A n (intCell l)) (hk:k≤n):Rd W B 1 A k (intCell (l.take k)):=fun h0=>by
 obtain⟨b,off,e,hb,hc⟩:=h (by omega);refine⟨b,off,e,hb,fun i j hi hj=>?_⟩;rw[hc i j (by omega) hj];unfold intCell;rw[wAi,wAi,wAz hi]
theorem zLR {W:World} {B n k:Nat} {A:Option Addr} {l:List Int} (h:Rd W B 1 A n (intCell l)) (hk:k≤n) (hn:k<n):Rd W B 1 (A.map (·.add k)) (n-k) (intCell (l.drop k)):=fun h0=>by
 obtain⟨b,off,rfl,hb,hc⟩:=h (by omega);refine⟨b,off+k,by simp[Addr.add],hb,fun i j hi hj=>?_⟩
 have:=hc (k+i) j (by omega) hj
 unfold intCell at this ⊢;rw[wAi] at this ⊢;rw[List.getElem?_drop,← this];congr 2;omega
theorem zGB {A:Option Addr} {n c k:Nat} (hk:k≤n) (hc:n≤c) (hb:n≤big):∃ V,(∀ W:World,(Instr.slice 26 (.slice A n c) none (some (.int .i64 (k:Int))) none).run Try.prog W=.ok V W)∧∀ W B l,Nums W B (.slice A n c) l→Nums W B V (l.take k):=by
 refine⟨sliced A 0 k c 1,fun W=>?_,fun W B l h=>?_⟩
 ·have h1:(k:Int)≤(c:Int):=by omega
  have h0:(0:Int)≤(k:Int):=by omega
  go_simp
 ·obtain⟨A',n',c',e,h1,h2,h3,h4⟩:=h;injection e with e1 e2 e3
  subst e1 e2 e3;have e:sliced A 0 k c 1=.slice (if c=0 then A else A.map (·.add 0)) k c:=by simp[sliced]
  have eA:(if c=0 then A else A.map (·.add 0))=A:=by
   split
   · rfl
   · cases A<;>simp[Addr.add]
  rw[e,eA];exact⟨A,k,c,rfl,zh (by rw[wAA,h1.o];omega),by omega,by omega,zLX h4 hk⟩
theorem zG0 {A:Option Addr} {n c k:Nat} (hk:k≤n) (hc:n≤c) (hb:n≤big):∃ V,(∀ W:World,(Instr.slice 26 (.slice A n c) (some (.int .i64 (k:Int))) none none).run Try.prog W=.ok V W)∧∀ W B l,Nums W B (.slice A n c) l→Nums W B V (l.drop k):=by
 refine⟨sliced A k n c 1,fun W=>?_,fun W B l h=>?_⟩
 ·have h1:(k:Int)≤(n:Int):=by omega
  have h0:(0:Int)≤(k:Int):=by omega
  go_simp
 ·obtain⟨A',n',c',e,h1,h2,h3,h4⟩:=h;injection e with e1 e2 e3
  subst e1 e2 e3;have e:sliced A k n c 1=.slice (if c=k then A else A.map (·.add k)) (n-k) (c-k):=by simp[sliced]
  rw[e];refine⟨_,n-k,c-k,rfl,zh (by rw[wAB,h1.o]),by omega,by omega,?_⟩;by_cases hn:k<n
  · rw[if_neg (by omega)];exact zLR h4 hk hn
  ·have:n-k=0:=by omega
   rw[this];exact Rd.zero
open Go.ChangeShapes Go.WideShapes Go.ChangeAt Go.RowKit Gm
section
variable {H:Type} {enc:TypeId×Value→H} {P:Program}
theorem zCG {f:Func} {s:ChangeSpec} {apart fresh handsOn again:Bool} {W W':World} {args:Array Value} {v:Value} {ds gs:List (DataW H)} {before pa pv:List MemPlace}
 (hW:DataW.Whole enc P f.params.toList s.vars apart W args.toList ds gs before)
 (hres:∀ (b:Nat) (sp:Nat→Bool) (hd:Bool),DataW.TrodAll enc P W' b sp hd f.resultTypes.toList (v.resultList f.resultTypes.size) (s.fn H (ds++gs)).results [])
 (hargs:∀ sp:Nat→Bool,(∀ p∈before,sp p.block=true)→DataW.TrodAll enc P W' 0 sp true f.params.toList args.toList (s.fn H (ds++gs)).args pa)
 (hvars:∀ sp:Nat→Bool,(∀ p∈before,sp p.block=true)→DataW.TrodVars enc P W' sp s.vars (s.fn H (ds++gs)).vars pv)
 (hps:before=pa++pv) (hb:Below W.heap.size W W')
 (hok:∀ (j:Nat) (t:TypeId) (r:Value),f.resultTypes[j]? = some t→(v.resultList f.resultTypes.size)[j]? = some r→Value.okWide P W' .any 0 t r) :
 s.post enc P f apart fresh handsOn again W args v W':=by
 have hlt:∀ p∈before,p.block<W.heap.size:=fun p hp=>hW.lt p hp
 have hold:∀ p∈before,(fun b=>decide (b<W.heap.size)) p.block=true:=fun p hp=>by simpa using hlt p hp
 refine⟨ds,gs,before,[],pa,pv,hW,hres _ _ _,hargs _ hold,hvars _ hold,World.keptBut_mono (fun p hp=>⟨hp,?_⟩) (hb.frame (· ∈ before)),fun _=>?_⟩
 ·rw[hps,wAa] at hp;exact Or.inr hp
 ·obtain⟨_,_,_,_,_,hz,hn⟩:=hW;refine⟨hok,_,_,([]++pa)++pv,⟨[]++pa,pv,trodAll_append (hargs _ (fun _ _=>rfl)) (hres _ _ _),hvars _ (fun _ _=>rfl),rfl,?_,?_⟩,?_⟩
  ·intro b off hp;(have hin:MemPlace.cell b off∈before:=by rw[hps];simpa using hp);rw[hb.frozen (hlt _ hin)];exact hz b off hin
  ·intro ha
   have:=hn ha
   rw[hps] at this;simpa using this
  ·intro p hp _;rw[hps];simpa using hp
end
theorem own':ownKnob Try.prog.godebug=none:=by kernel_rfl
theorem laidOut':laidOutB Try.prog=true:=by kernel_rfl
section
variable {H:Type} {enc:TypeId×Value→H} {w:World} {base:Nat} {spare:Nat→Bool} {held:Bool}
end
end Go.Proofs.Ytkfdhpbnphojoaa
namespace Gm
theorem zEz:∀ l:List Int,lessL l l=false
 | []=>rfl
 | x::l=>by simp[lessL,zEz l]
theorem zBg (a:Arc):arcLess a a=false:=zEz _
theorem zA4 {a b c:Arc} (h1:arcLess a b=true) (h2:arcLess b c=true):arcLess a c=true:=zDC _ _ _ h1 h2
theorem zFT:∀ (l k:List Int),l.length=k.length→lessL l k=true∨l=k∨lessL k l=true
 | [],[],_=>.inr (.inl rfl)
 | x::l,y::k,h=>by
  rcases Int.lt_trichotomy x y with h1 | h1 | h1
  · left;simp[lessL,h1,show x≠y by omega]
  ·subst h1;rcases zFT l k (by simpa using h) with h2 | h2 | h2
   · left;simp[lessL,h2]
   · right;left;rw[h2]
   · right;right;simp[lessL,h2]
  · right;right;simp[lessL,h1,show y≠x by omega]
theorem zK0 {a b:Arc} (h:arcKey a=arcKey b):a=b:=by
 simp only[arcKey,List.cons.injEq,and_true] at h;exact Arc.ext' h.1 h.2.2.2.1 h.2.1 h.2.2.1 h.2.2.2.2
theorem zBy (a b:Arc):arcLess a b=true∨a=b∨arcLess b a=true:=by
 rcases zFT (arcKey a) (arcKey b) rfl with h | h | h
 · exact .inl h
 · exact .inr (.inl (zK0 h))
 · exact .inr (.inr h)
def zB3 (l:List Arc):Prop:=l.Pairwise fun a b=>arcLess b a=false
theorem zCE {a b:Arc} (h:arcLess a b=true):arcLess b a=false:=by
 cases e:arcLess b a
 · rfl
 · have:=zA4 h e;rw[zBg] at this;cases this
theorem zDx:∀ {l k:List Arc},zB3 l→zB3 k→l.Perm k→l=k
 | [],k,_,_,hp=>(List.nil_perm.1 hp).symm
 | a::l,[],_,_,hp=>absurd hp.length_eq (by simp)
 | a::l,b::k,hl,hk,hp=>by
  have hl':=wAb.1 hl;have hk':=wAb.1 hk
  have hab:a=b:=by
   have h1:a∈b::k:=hp.mem_iff.1 (by simp);have h2:b∈a::l:=hp.mem_iff.2 (by simp);rcases wAf.1 h1 with h1 | h1
   · exact h1
   ·rcases wAf.1 h2 with h2 | h2
    · exact h2.symm
    ·have g1:=hk'.1 a h1;have g2:=hl'.1 b h2;rcases zBy a b with h | h | h
     · rw[g1] at h;cases h
     · exact h
     · rw[g2] at h;cases h
  subst hab;rw[zDx hl'.2 hk'.2 ((List.perm_cons a).1 hp)]
def cpt (e:Arc→Arc→Bool):Arc→List Arc→List Arc
 | _,[]=>[]
 | p,a::l=>if e p a=true then cpt e a l else a::cpt e a l
def compact (e:Arc→Arc→Bool):List Arc→List Arc
 | []=>[]
 | a::l=>a::cpt e a l
theorem zJQ (e:Arc→Arc→Bool):∀ (l:List Arc) (p a:Arc),cpt e p (l++[a])=cpt e p l++(if e ((p::l).getLast (by simp)) a=true then [] else [a])
 | [],p,a=>by
  simp only[List.nil_append,cpt,List.getLast_singleton];by_cases h:e p a=true<;>simp[h]
 | b::l,p,a=>by
  have ih:=zJQ e l b a;have hl:(p::b::l).getLast (by simp)=(b::l).getLast (by simp):=List.getLast_cons (by simp);simp only[wAC,cpt,ih,hl];by_cases h:e p b=true<;>simp[h]
theorem zHF (e:Arc→Arc→Bool) {l:List Arc} (hl:l≠[]) (a:Arc):compact e (l++[a])=compact e l++(if e (l.getLast hl) a=true then [] else [a]):=by
 cases l with
 | nil=>exact absurd rfl hl
 | cons b l=>simp only[wAC,compact,zJQ]
theorem zLH (e:Arc→Arc→Bool):∀ (l:List Arc) (p:Arc),(cpt e p l).length≤l.length
 | [],_=>wAn _
 | b::l,p=>by
  have:=zLH e l b
  unfold cpt;split<;>simp<;>omega
theorem zDw (e:Arc→Arc→Bool) (l:List Arc):(compact e l).length≤l.length:=by
 cases l with
 | nil=>exact wAn _
 | cons b l=>have:=zLH e l b;simp[compact];omega
def eqA (a b:Arc):Bool:=decide (a=b)
theorem zNa:∀ (l:List Arc) (p x:Arc),x∈p::cpt eqA p l↔x∈p::l
 | [],p,x=>by simp[cpt]
 | b::l,p,x=>by
  have ih:=zNa l b x;unfold cpt;by_cases h:eqA p b=true
  ·rw[if_pos h];have hb:p=b:=of_decide_eq_true h;subst hb;rw[ih];simp
  · rw[if_neg h,wAf,ih];simp
theorem zFY {l:List Arc} {x:Arc} : x∈compact eqA l↔x∈l:=by
 cases l with
 | nil=>rfl
 | cons b l=>exact zNa l b x
theorem zF6:∀ (l:List Arc) (p:Arc),zB3 (p::l)→(p::cpt eqA p l).Pairwise fun a b=>arcLess a b=true
 | [],p,_=>by simp[cpt]
 | b::l,p,h=>by
  have h':=wAb.1 h;have ih:=zF6 l b h'.2;unfold cpt;by_cases e:eqA p b=true
  ·rw[if_pos e];have hb:p=b:=of_decide_eq_true e;subst hb;exact ih
  ·rw[if_neg e];have hne:p≠b:=fun h=>e (decide_eq_true h)
   have hlt:arcLess p b=true:=by
    rcases zBy p b with g | g | g
    · exact g
    · exact absurd g hne
    · rw[h'.1 b (by simp)] at g;cases g
   refine wAb.2 ⟨fun x hx=>?_,ih⟩;rcases wAf.1 hx with rfl | hx
   · exact hlt
   · exact zA4 hlt ((wAb.1 ih).1 x hx)
theorem zDm {l:List Arc} (h:zB3 l):(compact eqA l).Pairwise fun a b=>arcLess a b=true:=by
 cases l with
 | nil=>exact List.Pairwise.nil
 | cons b l=>exact zF6 l b h
def insA (a:Arc):List Arc→List Arc
 | []=>[a]
 | b::l=>if arcLess a b=true then a::b::l else b::insA a l
def srtA:List Arc→List Arc
 | []=>[]
 | a::l=>insA a (srtA l)
theorem zE2 (a:Arc):∀ l,(insA a l).Perm (a::l)
 | []=>.refl _
 | b::l=>by
  unfold insA;split
  · exact .refl _
  · exact ((zE2 a l).cons b).trans (.swap a b l)
theorem zAR:∀ l,(srtA l).Perm l
 | []=>.refl _
 | a::l=>(zE2 a _).trans ((zAR l).cons a)
theorem zFI (a:Arc):∀ l,zB3 l→zB3 (insA a l)
 | [],_=>by simp[insA,zB3]
 | b::l,h=>by
  have h':=wAb.1 h;unfold insA;by_cases e:arcLess a b=true
  ·rw[if_pos e];refine wAb.2 ⟨fun x hx=>?_,h⟩;rcases wAf.1 hx with rfl | hx
   · exact zCE e
   ·cases g:arcLess x a
    · rfl
    · have:=zA4 g e;rw[h'.1 x hx] at this;cases this
  ·rw[if_neg e];refine wAb.2 ⟨fun x hx=>?_,zFI a l h'.2⟩;rcases wAf.1 ((zE2 a l).mem_iff.1 hx) with rfl | hx
   ·cases g:arcLess x b
    · rfl
    · exact absurd g e
   · exact h'.1 x hx
theorem zBm:∀ l,zB3 (srtA l)
 | []=>List.Pairwise.nil
 | a::l=>zFI a _ (zBm l)
theorem zMZ {l k:List Arc} (hk:zB3 k) (hp:k.Perm l):k=srtA l:=zDx hk (zBm l) (hp.trans (zAR l).symm)
open Go Go.RowKit Go.Proofs Go.Sort
instance:Inhabited Arc:=⟨dA⟩
def encA (a:Arc):List Value:=[.int .i64 a.f,.int .i64 a.t,.int .i64 a.i,.int .i64 a.o,.int .i64 a.w]
theorem zEY (a b:Arc):ltOf arcCmp a b=arcLess a b:=by
 rw[zBn,ltOf];by_cases h:arcCmp a b<0
 · rw[decide_eq_true h];simp;omega
 · rw[decide_eq_false h];simp;omega
theorem zQY:SWO (ltOf arcCmp) where
 irrefl x:=by rw[zEY];exact zBg x
 trans x y z h1 h2:=by rw[zEY] at *;exact zA4 h1 h2
 ntrans x y z h1 h2:=by
  rw[zEY] at *;cases e:arcLess x z
  · rfl
  ·exfalso;rcases zBy y x with h | h | h
   · have:=zA4 h e;rw[h2] at this;cases this
   · subst h;rw[h2] at e;cases e
   · rw[h1] at h;cases h
theorem zOG (a:Arc) (j:Nat) (hj:j<5):(encA a)[j]? = some (.int .i64 (fld a j)):=by
 rcases (by omega:j=0∨j=1∨j=2∨j=3∨j=4) with rfl | rfl | rfl | rfl | rfl<;>rfl
theorem zG2 (l:List Arc) (t:Nat) (h:t<l.length*5):(arcRow l)[t]? = some (flatK encA 5 l.toArray)[t]!:=by
 have hi:t/5<l.length:=by omega
 have hj:t%5<5:=Nat.mod_lt _ (by omega);have h1:=zAr l (t/5) (t%5) hi hj;rw[show t/5*5+t%5=t by omega] at h1;rw[h1,get_flatK _ _ _ _ (by simpa using h)];have h2:=zOG (l.getD (t/5) dA) (t%5) hj
 have h3:l.toArray[t/5]! = l.getD (t/5) dA:=by
  rw[getElem!_pos l.toArray (t/5) (by simpa using hi)];simp[hi]
 rw[h3];congr 1;rw[List.getElem!_eq_getElem?_getD,h2];rfl
theorem zNb {w:World} {base n c g:Nat} {e:TypeId} {l:List Arc} (h:w.ownsRow base e 5 (.slice (some ⟨g,0,none⟩) n c) n (arcRow l)) (hl:l.length=n) (hn:0<n):HoldsK encA 5 w g 0 l.toArray:=by
 intro j hj;rw[size_flatK] at hj;have hj':j<l.length*5:=by simpa using hj
 have hc:=h.cells (g:=g) rfl j _ (zG2 l j hj');have hadd:(⟨g,0,none⟩:Addr).add j=⟨g,0+j,none⟩:=by unfold Addr.add;split<;>simp_all
 rw[hadd] at hc;refine⟨hc,?_⟩;rcases h.2 with⟨_,h0⟩ | ⟨g',cap',cur,h1,h2,h3,h4⟩
 · omega
 ·injection h1 with h1 _ hc
  injection h1 with h1
  injection h1 with h1
  subst h1;simp[World.frozen?,h3]
theorem zLn {w:World} {base n c g m:Nat} {e:TypeId} {l k:List Arc} {os:Array Obj} (h:w.ownsRow base e 5 (.slice (some ⟨g,0,none⟩) n c) n (arcRow l)) (hl:l.length=n) (hk:k.length=n) (hn:0<n) :
 (sortWorldK encA 5 w g 0 m k.toArray os).ownsRow base e 5 (.slice (some ⟨g,0,none⟩) n c) n (arcRow k)∧w.grownBy (sortWorldK encA 5 w g 0 m k.toArray os) (some g):=by
 rcases h.2 with⟨_,h0⟩ | ⟨g',cap',cur,h1,h2,h3,h4,h5,h6,h7⟩
 · omega
 ·injection h1 with h1 _ hc
  injection h1 with h1
  injection h1 with h1
  subst h1;have hsz:g<w.heap.size:=(wAd.1 h3).1
  have hblk:(sortWorldK encA 5 w g 0 m k.toArray os).heap[g]? = some (.cells (putCells id 0 (flatK encA 5 k.toArray) cur) e (0,0)):=by
   simp only[sortWorldK,putRowK,putRow,grow,mapBlock,Sort.ahead];rw[wAw (by simpa using hsz),wAs,if_pos rfl,h3];rfl
  refine⟨⟨by rw[zAv,hk],.inr ⟨g,cap',putCells id 0 (flatK encA 5 k.toArray) cur,by rw[hc],h2,hblk,h4,h5,?_,?_⟩⟩,?_⟩
  · simp[putCells,h6]
  ·(have hle:n*5≤cur.size:=by rw[h6];omega);apply wAO;intro t;by_cases ht:t<n*5
   ·rw[wAz ht,zG2 k t (by rw[hk];exact ht)];(have hs:t<cur.size:=by omega);simp[putCells,hs,hk,ht]
   · rw[wAF (by simp[putCells];omega),wAF (by rw[zAv];omega)]
  ·refine⟨rfl,rfl,rfl,?_,?_⟩
   · simp[sortWorldK,putRowK,putRow,grow,mapBlock,Sort.ahead]
   ·intro q hq hne;simp only[sortWorldK,putRowK,putRow,grow,mapBlock,Sort.ahead];rw[wAw (by simpa using hq),wAs,if_neg (fun e=>hne (by rw[e]))]
theorem zDa {w:World} {base sz n:Nat} {e:TypeId} {v:Value} {xs:List Value} (h:w.ownsRow base e sz v n xs) (hn:0<n):∃ g cap,v=.slice (some ⟨g,0,none⟩) n cap∧base≤g∧g<w.heap.size∧n≤cap∧cap≤maxLen:=by
 rcases h.2 with⟨_,h0⟩ | ⟨g,cap,cur,h1,h2,h3,h4,h5,_⟩
 · omega
 · exact⟨g,cap,h1,h2,(wAd.1 h3).1,h4,h5⟩
end Gm
namespace Go.Proofs.Ytkfdhpbnphojoaa
open Go.RowKit Gm Go.Sort Go.Shelf
theorem zLy (a b:Arc) (w:World) :
 Calls Try.prog 81 #[.agg #[.int .i64 a.f,.int .i64 a.t,.int .i64 a.i,.int .i64 a.o,.int .i64 a.w],.agg #[.int .i64 b.f,.int .i64 b.t,.int .i64 b.i,.int .i64 b.o,.int .i64 b.w]] w fun e w'=>e=.returned (.int .i64 (arcCmp a b))∧∃ q os',w'=grow (w.drewN q) os':=by
 go_enter Try.func81,Try.ntmps81
 go_wp2;refine zA5 25 (by kernel_rfl) (by kernel_rfl) ?_;simp only[wAI,List.take_zero,wAJ,wAU]
 repeat (quiet_step ((go_at_call 109;exact Calls.quiet_of_same ((zFr _ _ _).mono (fun e w' h=>⟨h.1,h.2.symm⟩)))))
 refine wpQuiet_nil ?_;intro _ hw';obtain⟨nq,hw''⟩:=hw';subst hw'';go_wp2_with fail;refine (zQB (some ⟨w.heap.size+1+1,0,none⟩) 5 5 [cmpI a.f b.f,cmpI a.i b.i,cmpI a.o b.o,cmpI a.t b.t,cmpI a.w b.w] _ (w.heap.size+1+1+1) rfl (by omega) ?_).mono ?_
 ·intro _;refine⟨_,_,rfl,by omega,fun i j hi hj=>?_⟩;obtain rfl:j=0:=by omega
  rcases (by omega:i=0∨i=1∨i=2∨i=3∨i=4) with rfl | rfl | rfl | rfl | rfl<;>go_simp<;>rfl
 ·rintro e w' ⟨rfl,rfl⟩;go_wp2
  go_ret
  refine⟨rfl,nq,?os,?eq⟩
  case eq =>
   rw[alloc_eq_grow,alloc_eq_grow,alloc_eq_grow,grow_grow];exact grow_grow (w.drewN nq) _ _
theorem isAggA:∀ w,(isAgg (Try.laySortA_ren.t 24)).run Try.prog w=.ok true w:=fun w=>by kernel_rfl
theorem sizeOfA:∀ w,(Go.sizeOf (Try.laySortA_ren.t 24)).run Try.prog w=.ok 5 w:=fun w=>by kernel_rfl
theorem zPR (l:List Arc) (n c g base:Nat) (w:World) (hl:l.length=n) (hn:0<n) (hn2:n≤1000000000) (h:w.ownsRow base 64 5 (.slice (some ⟨g,0,none⟩) n c) n (arcRow l)) :
 Calls Try.prog 80 #[.slice (some ⟨g,0,none⟩) n c,.func (.func 81) #[] #[]] w fun e w'=>e=.returned (.tuple #[])∧w'.ownsRow base 64 5 (.slice (some ⟨g,0,none⟩) n c) n (arcRow (srtA l))∧w.grownBy w' (some g):=by
 have eg:∀ args w,(callFunc 81 args).run Try.prog w=.ok (.enter 81 args) w:=enters_of Try.func81 (by kernel_rfl) rfl;have hblk:=(h.lt g rfl).2
 have hcon:=AnyQ.slices_SortFunc Try.laySortA 5 isAggA sizeOfA encA (fun _=>rfl) (fun x v hv=>by simp[encA] at hv;rcases hv with rfl | rfl | rfl | rfl | rfl<;>rfl) arcCmp zQY 81 #[] g 0 c l.toArray w eg
  (fun _ _ _ _ x y=>zLy x y _) (zNb h hl hn) hblk (by simp;omega)
 rw[show l.toArray.size=n by simpa using hl] at hcon;change Calls Try.prog 80 _ _ _ at hcon;refine hcon.mono ?_;rintro e w' ⟨rfl,d',m,os,hp,hs,rfl⟩;have hz:d'.size=n:=by have:=hp.1;simpa[hl] using this
 have hperm:d'.toList.Perm l:=by
  have h2:=hp.2.2;rw[wAv (by omega),wAv (by simp;omega)] at h2;simpa using h2
 have hsort:zB3 d'.toList:=by
  refine wAk.2 fun i j hi hj hij=>?_
  have h2:=hs i j (wAQ _) hij (by simpa[hz] using hj);rw[zEY,getElem!_pos d' j (by simpa using hj),getElem!_pos d' i (by simpa using hi)] at h2;simpa using h2
 have hd:d'=(srtA l).toArray:=by
  have:=zMZ hsort hperm
  rw[← this]
 have hkl:(srtA l).length=n:=by rw[(zAR l).length_eq,hl]
 rw[hd];exact⟨rfl,zLn h hl hkl hn⟩
end Go.Proofs.Ytkfdhpbnphojoaa
namespace Gm
theorem zCn {m:Mach} (h:Valid m):m.arcs.Nodup:=(zFd h).imp (fun {a b} hab e=>by subst e;rw[zBg] at hab;cases hab)
theorem zRI {k:Int} {a b:Arc} (h:shA k a=shA k b):a=b:=by
 unfold shA at h;injection h with h1 h2 h3 h4 h5
 exact Arc.ext' (by omega) (by omega) h3 h4 h5
theorem zEI {k:Int} {l:List Arc} (h:l.Nodup):(l.map (shA k)).Nodup:=wAp.2 (h.imp fun {a b} hne e=>hne (zRI e))
theorem zBZ {l k:List Arc} (hl:l.Nodup) (hk:k.Nodup) (h:∀ x∈l,∀ y∈k,x≠y):(l++k).Nodup:=wAP.2 ⟨hl,hk,h⟩
theorem zSF {a b:Mach} (ha:Valid a) (hb:Valid b):(uniArcs a b).Nodup:=by
 have ra:=zBh ha;have rb:=zBh hb;have h0:=ra.n0;have h1:∀ (c:Prop) [Decidable c] (x:Arc),(if c then [x] else []).Nodup:=by intro c _ x;split<;>simp
 have m1:∀ {c:Prop} [Decidable c] {x y:Arc},y∈(if c then [x] else [])→c∧y=x:=by intro c _ x y hy;split at hy<;>simp_all
 unfold uniArcs;refine zBZ (zBZ (zBZ (h1 _ _) (h1 _ _) ?_) (zEI (zCn ha)) ?_) (zEI (zCn hb)) ?_
 ·intro x hx y hy e;obtain⟨c1,rfl⟩:=m1 hx;obtain⟨c2,rfl⟩:=m1 hy;simp only[eps,Arc.mk.injEq] at e;omega
 ·intro x hx y hy e;obtain⟨z,hz,rfl⟩:=wAc.1 hy
  have:=ra.arc z hz
  rcases wAa.1 hx with hx | hx<;>obtain⟨c1,rfl⟩:=m1 hx<;>simp only[eps,shA,Arc.mk.injEq] at e<;>omega
 ·intro x hx y hy e;obtain⟨z,hz,rfl⟩:=wAc.1 hy
  have:=rb.arc z hz
  rcases wAa.1 hx with hx | hx
  · rcases wAa.1 hx with hx | hx<;>obtain⟨c1,rfl⟩:=m1 hx<;>simp only[eps,shA,Arc.mk.injEq] at e<;>omega
  ·obtain⟨z',hz',rfl⟩:=wAc.1 hx
   have:=ra.arc z' hz'
   simp only[shA,Arc.mk.injEq] at e;omega
theorem zHP {l:List Fnl} (f t:Fnl→Int) (h:l.Pairwise fun x y=>f x≠f y):(l.map fun x=>eps (f x) (t x) x.w).Nodup :=
 wAp.2 (h.imp fun {x y} hne e=>by simp only[eps,Arc.mk.injEq] at e;exact hne e.1)
theorem zSD {a b:Mach} (ha:Valid a) (hb:Valid b):(catArcs a b).Nodup:=by
 have ra:=zBh ha;have rb:=zBh hb;have h0:=ra.n0;unfold catArcs;refine zBZ (zBZ (zCn ha) (zEI (zCn hb)) ?_) (zHP (fun x=>x.s) (fun _=>a.n) ((zDs ha).imp fun {x y} h=>by omega)) ?_
 ·intro x hx y hy e;obtain⟨z,hz,rfl⟩:=wAc.1 hy;have h1:=ra.arc x hx;have h2:=rb.arc z hz;subst e;simp only[shA] at h1;omega
 ·intro x hx y hy e;obtain⟨z,hz,rfl⟩:=wAc.1 hy;have h2:=ra.fin z hz;rcases wAa.1 hx with hx | hx
  ·have h1:=ra.arc x hx;subst e;simp only[eps] at h1;omega
  ·obtain⟨z',hz',rfl⟩:=wAc.1 hx;have h3:=rb.arc z' hz';simp only[eps,shA,Arc.mk.injEq] at e;omega
theorem zRZ {m:Mach} (hm:Valid m):(starArcs m).Nodup:=by
 have rm:=zBh hm;have h1:∀ (c:Prop) [Decidable c] (x:Arc),(if c then [x] else []).Nodup:=by intro c _ x;split<;>simp
 have m1:∀ {c:Prop} [Decidable c] {x y:Arc},y∈(if c then [x] else [])→c∧y=x:=by intro c _ x y hy;split at hy<;>simp_all
 unfold starArcs;refine zBZ (zBZ (h1 _ _) (zEI (zCn hm)) ?_) (zHP (fun x=>1+x.s) (fun _=>0) ((zDs hm).imp fun {x y} h=>by omega)) ?_
 ·intro x hx y hy e;obtain⟨z,hz,rfl⟩:=wAc.1 hy
  have:=rm.arc z hz
  obtain⟨c1,rfl⟩:=m1 hx;simp only[eps,shA,Arc.mk.injEq] at e;omega
 ·intro x hx y hy e;obtain⟨z,hz,rfl⟩:=wAc.1 hy;have h2:=rm.fin z hz;rcases wAa.1 hx with hx | hx
  ·obtain⟨c1,rfl⟩:=m1 hx;simp only[eps,Arc.mk.injEq] at e;omega
  ·obtain⟨z',hz',rfl⟩:=wAc.1 hx;have h3:=rm.arc z' hz';simp only[eps,shA,Arc.mk.injEq] at e;omega
theorem zAI {e:Arc→Arc→Bool} {l:List Arc} {k:Nat} {a:Arc} (hk:k<l.length) (ha:l.getD k dA=a) :
 compact e (l.take (k+1))=compact e (l.take k)++(if 0<k∧e (l.getD (k-1) dA) a=true then [] else [a]):=by
 have ht:l.take (k+1)=l.take k++[a]:=by
  rw[wAr hk];congr 1;simp[wAE,hk] at ha;rw[ha]
 rw[ht];by_cases h0:k=0
 ·subst h0;rw[if_neg (by omega)];rfl
 ·have hne:l.take k≠[]:=by
   intro h;(have h2:(l.take k).length=k:=by rw[wAA];omega);rw[h] at h2;simp at h2;omega
  rw[zHF e hne]
  have hlast:(l.take k).getLast hne=l.getD (k-1) dA:=by
   rw[List.getLast_eq_getElem];(have h1:k-1<l.length:=by omega);simp[wAE,h1,Nat.min_eq_left (Nat.le_of_lt hk)]
  rw[hlast];by_cases hc:e (l.getD (k-1) dA) a=true
  · rw[if_pos hc,if_pos ⟨by omega,hc⟩]
  · rw[if_neg hc,if_neg (fun h=>hc h.2)]
open Go Go.MapKept Go.RowKit
open Go.Maps (Keyed)
section
variable {α:Type} [DecidableEq α]
def lk (L:List (α×Value)) (a:α):Option Value:=(L.find? fun p=>decide (p.1=a)).map (·.2)
def upL (L:List (α×Value)) (a:α) (v:Value):List (α×Value):=if (lk L a).isSome=true then L.map (fun p=>if p.1=a then (a,v) else p) else L++[(a,v)]
@[simp] theorem lk_nil (a:α):lk [] a=none:=rfl
theorem zBL (p:α×Value) (L:List (α×Value)) (a:α):lk (p::L) a=if p.1=a then some p.2 else lk L a:=by
 unfold lk;by_cases h:p.1=a
 · rw[List.find?_cons_of_pos (by simpa using h),if_pos h];rfl
 · rw[List.find?_cons_of_neg (by simpa using h),if_neg h]
theorem zFe (L K:List (α×Value)) (a:α):lk (L++K) a=(lk L a).or (lk K a):=by
 induction L with
 | nil=>simp
 | cons p L ih =>
  rw[wAC,zBL,zBL,ih];by_cases h:p.1=a<;>simp[h]
theorem zPz (L:List (α×Value)) (a b:α) (v:Value):lk (L.map (fun p=>if p.1=a then (a,v) else p)) b=if b=a then (lk L a).map (fun _=>v) else lk L b:=by
 induction L with
 | nil=>simp
 | cons p L ih =>
  rw[wAq,zBL,ih,zBL,zBL];by_cases h:p.1=a
  ·rw[if_pos h];by_cases h2:b=a
   · subst h2;simp[h]
   · rw[if_neg (show ¬ (a,v).1=b from fun e=>h2 e.symm),if_neg h2,if_neg h2,if_neg (show ¬ p.1=b from fun e=>h2 (by rw[← e];exact h))]
  ·rw[if_neg h];by_cases h2:b=a
   · subst h2;simp[h]
   ·by_cases h3:p.1=b
    · simp[h2,h3]
    · simp[h2,h3]
theorem lk_up (L:List (α×Value)) (a b:α) (v:Value):lk (upL L a v) b=if b=a then some v else lk L b:=by
 unfold upL;by_cases h:(lk L a).isSome=true
 ·rw[if_pos h,zPz];by_cases h2:b=a
  ·rw[if_pos h2,if_pos h2];obtain⟨x,hx⟩:=Option.isSome_iff_exists.1 h;rw[hx];rfl
  · rw[if_neg h2,if_neg h2]
 ·rw[if_neg h,zFe,zBL,lk_nil];by_cases h2:b=a
  ·subst h2
   have:lk L b=none:=by simpa using h
   simp[this]
  · rw[if_neg (fun e=>h2 e.symm),if_neg h2];simp
theorem zSl {L:List (α×Value)} {a:α} {v:Value} (h:lk L a=some v):(a,v)∈L:=by
 induction L with
 | nil=>simp at h
 | cons p L ih =>
  rw[zBL] at h;by_cases e:p.1=a
  · rw[if_pos e] at h;injection h with h;subst h;subst e;simp
  · rw[if_neg e] at h;exact List.mem_cons_of_mem _ (ih h)
theorem zIk {L:List (α×Value)} {a:α} {v:Value} (hn:(L.map (·.1)).Nodup) (h:(a,v)∈L):lk L a=some v:=by
 induction L with
 | nil=>simp at h
 | cons p L ih =>
  rw[wAq,wAT] at hn;rw[zBL];rcases wAf.1 h with rfl | h
  · simp
  ·rw[if_neg (fun e=>hn.1 (by rw[e];exact wAc.2 ⟨_,h,rfl⟩))];exact ih hn.2 h
end
structure KL {α:Type} (P:Program) (kt:TypeId) (kv:α→Value) (ok:α→Prop):Prop where
 K:Keyed P kt
 read:∀ a,ok a→∃ l,keyOf P kt (kv a)=some l
 inj:∀ a b,kv a=kv b→a=b
def MapIs {α:Type} (w:World) (kv:α→Value) (ok:α→Prop) (b:Nat) (L:List (α×Value)):Prop :=
 ∃ es clock,w.heap[b]? = some (.map es clock)∧Stamped es clock∧(es.toList.map fun e=>(e.key,e.val))=L.map (fun p=>(kv p.1,p.2))∧∀ p∈L,ok p.1
section
variable {α:Type} {w w':World} {kv:α→Value} {ok:α→Prop} {b:Nat} {L:List (α×Value)}
theorem MapIs.lt (h:MapIs w kv ok b L):b<w.heap.size:=by
 obtain⟨es,clock,hb,_⟩:=h;exact (wAd.1 hb).1
theorem MapIs.of_block (h:MapIs w kv ok b L) (e:w'.heap[b]? = w.heap[b]?):MapIs w' kv ok b L:=by
 obtain⟨es,clock,hb,r⟩:=h;exact⟨es,clock,e.trans hb,r⟩
theorem MapIs.kept (h:MapIs w kv ok b L) {row:Option Nat} (hg:w.grownBy w' row) (hne:some b≠row):MapIs w' kv ok b L:=h.of_block (hg.block b h.lt hne)
theorem MapIs.below {B:Nat} (h:MapIs w kv ok b L) (hb:Below B w w') (hlt:b<B):MapIs w' kv ok b L:=h.of_block (hb.block b hlt)
theorem MapIs.alloc (h:MapIs w kv ok b L) (o:Obj):MapIs (w.alloc o) kv ok b L:=h.of_block (Below.heap_alloc w o b h.lt)
theorem MapIs.drew (h:MapIs w kv ok b L):MapIs w.drew kv ok b L:=h
theorem MapIs.drewN (h:MapIs w kv ok b L) (n:Nat):MapIs (w.drewN n) kv ok b L:=h
theorem MapIs.set_ (h:MapIs w kv ok b L) {p:Addr} (hp:b≠p.block) (u:Value):MapIs (w.setCell p u) kv ok b L:=h.of_block (Below.heap_setCell w p u b hp)
theorem MapIs.made (w:World) (kv:α→Value) (ok:α→Prop):MapIs (w.alloc (.map #[] 0)) kv ok w.heap.size [] :=
 ⟨#[],0,(MapKept.heap_alloc w _).1,stamped_empty 0,by simp,by simp⟩
theorem MapIs.keyvals {es:Array MapEntry} (hE:(es.toList.map fun e=>(e.key,e.val))=L.map (fun p=>(kv p.1,p.2))):es.toList.map (·.key)=L.map (fun p=>kv p.1):=by
 have:=congrArg (List.map Prod.fst) hE
 simpa[wAN,Function.comp_def] using this
theorem MapIs.nodup (h:MapIs w kv ok b L):(L.map (·.1)).Nodup:=by
 obtain⟨es,clock,hb,hs,hE,hk⟩:=h;have h2:(L.map (fun p=>kv p.1)).Nodup:=by rw[← MapIs.keyvals hE];exact hs.2.2
 have h3:((L.map (·.1)).map kv).Nodup:=by rw[wAN];exact h2
 exact (wAp.1 h3).imp fun {a b} hne e=>hne (by rw[e])
theorem zDl {es:Array MapEntry} (hE:(es.toList.map fun e=>(e.key,e.val))=L.map (fun p=>(kv p.1,p.2))) {j:Nat} {e:MapEntry} (hj:es.toList[j]? = some e):∃ p,L[j]? = some p∧e.key=kv p.1∧e.val=p.2:=by
 have h1:(L.map (fun p=>(kv p.1,p.2)))[j]? = some (e.key,e.val):=by rw[← hE,wAj,hj];rfl
 rw[wAj] at h1
 cases hl:L[j]? with
 | none=>rw[hl] at h1;cases h1
 | some p =>
  rw[hl] at h1;injection h1 with h1
  exact⟨p,rfl,by rw[← (Prod.mk.inj h1).1],by rw[← (Prod.mk.inj h1).2]⟩
end
section
variable {α:Type} [DecidableEq α] {P:Program} {kt:TypeId} {w w':World} {kv:α→Value} {ok:α→Prop} {b:Nat} {L:List (α×Value)}
theorem zGw (k:KL P kt kv ok) {es:Array MapEntry} {clock:Nat} (hs:Stamped es clock) (hE:(es.toList.map fun e=>(e.key,e.val))=L.map (fun p=>(kv p.1,p.2))) (hk:∀ p∈L,ok p.1) (w:World) {a:α} (ha:ok a) :
 (lk L a=none∧(Instr.findKey kt (kv a) es.toList).run P w=.ok none w∧∀ e∈es.toList,e.key≠kv a) ∨
 ∃ j e,lk L a=some e.val∧(Instr.findKey kt (kv a) es.toList).run P w=.ok (some (j,e.val)) w∧es.toList[j]? = some e∧e.key=kv a:=by
 obtain⟨l,hl⟩:=k.read a ha
 have hes:∀ e∈es.toList,∃ l,keyOf P kt e.key=some l:=fun e he=>by
  obtain⟨j,hj⟩:=List.getElem?_of_mem he;obtain⟨p,hp,h1,_⟩:=zDl hE hj;rw[h1];exact k.read _ (hk p (wAH hp))
 have hnd:(L.map (·.1)).Nodup:=by
  have h2:(L.map (fun p=>kv p.1)).Nodup:=by rw[← MapIs.keyvals hE];exact hs.2.2
  have h3:((L.map (·.1)).map kv).Nodup:=by rw[wAN];exact h2
  exact (wAp.1 h3).imp fun {a b} hne e=>hne (by rw[e])
 rcases k.K.find w hl es.toList hes with⟨h1,h2⟩ | ⟨j,e,h1,h2,h3⟩
 ·refine .inl ⟨?_,h1,h2⟩
  cases hlk:lk L a with
  | none=>rfl
  | some v =>
   have hm:=zSl hlk;(have hm2:(kv a,v)∈es.toList.map fun e=>(e.key,e.val):=by rw[hE];exact wAc.2 ⟨_,hm,rfl⟩);obtain⟨e,he,hev⟩:=wAc.1 hm2;exact absurd (Prod.mk.inj hev).1 (h2 e he)
 ·refine .inr ⟨j,e,?_,h1,h2,h3⟩;obtain⟨p,hp,h4,h5⟩:=zDl hE h2;have e1:p.1=a:=k.inj _ _ (by rw[← h4,h3]);exact zIk hnd (by rw[h5,← e1];exact wAH hp)
theorem MapIs.run_look (h:MapIs w kv ok b L) (k:KL P kt kv ok) {t e:TypeId} (ht:P.underlying t=some (.map kt e)) {z:Value} (hz:(zeroValue e).run P w=.ok z w) {a:α} (ha:ok a) (ok':Bool) :
 (Instr.lookup t (.map (some b)) (kv a) ok').run P w=.ok (if ok'=true then .tuple #[(lk L a).getD z,.bool (lk L a).isSome] else (lk L a).getD z) w:=by
 obtain⟨es,clock,hb,hs,hE,hk⟩:=h;obtain⟨l,hl⟩:=k.read a ha;rcases zGw k hs hE hk w ha with⟨h0,h1,h2⟩ | ⟨j,e0,h0,h1,h2,h3⟩
 ·rw[h0];cases ok'<;>simp[Instr.lookup,run_underlying ht,MapKept.run_getObj_map hb,k.K.check w _ hl,h1,hz,Result.andThen]
 ·rw[h0];cases ok'<;>simp[Instr.lookup,run_underlying ht,MapKept.run_getObj_map hb,k.K.check w _ hl,h1,Result.andThen]
theorem MapIs.run_up (h:MapIs w kv ok b L) (k:KL P kt kv ok) {t e:TypeId} (ht:P.underlying t=some (.map kt e)) {a:α} (ha:ok a) (v:Value) :
 ∃ w',(Instr.mapUpdate t (.map (some b)) (kv a) v).run P w=.ok () w'∧MapIs w' kv ok b (upL L a v)∧w.grownBy w' (some b)∧w'.heap.size=w.heap.size:=by
 obtain⟨es,clock,hb,hs,hE,hk⟩:=h;obtain⟨l,hl⟩:=k.read a ha;rcases zGw k hs hE hk w ha with⟨h0,h1,h2⟩ | ⟨j,e0,h0,h1,h2,h3⟩
 ·refine⟨ChangeMaps.setBlock w b (.map (es.push ⟨kv a,v,clock⟩) (clock+1)),?_,⟨_,_,ChangeMaps.heap_setBlock_same hb _,stamped_push hs h2,?_,?_⟩,⟨rfl,rfl,rfl,by simp[ChangeMaps.setBlock],fun i _ hi=>ChangeMaps.heap_setBlock_other hb _ (fun e=>hi (by rw[e]))⟩,by simp[ChangeMaps.setBlock]⟩
  · simp[Instr.mapUpdate,run_underlying ht,MapKept.run_getObj_map hb,k.K.check w false hl,h1,MapKept.run_setObj_map _ hb,Result.andThen,ChangeMaps.setBlock]
  ·unfold upL;rw[if_neg (by rw[h0];simp)];simp[hE]
  ·unfold upL;rw[if_neg (by rw[h0];simp)];intro p hp;rcases wAa.1 hp with hp | hp
   · exact hk p hp
   · rw[wAg.1 hp];exact ha
 ·have hj:es[j]? = some e0:=by simpa using h2
  have hjl:j<es.toList.length:=(wAl.1 h2).1;have hup:upL L a v=L.map (fun p=>if p.1=a then (a,v) else p):=by unfold upL;rw[if_pos (by rw[h0];rfl)]
  refine⟨ChangeMaps.setBlock w b (.map (es.modify j fun e' => { e' with key:=kv a,val:=v }) clock),?_,⟨_,_,ChangeMaps.heap_setBlock_same hb _,stamped_modify hs _ _ (fun _ _=>rfl) (fun e' _ he'=>by rw[hj] at he';cases he';exact h3.symm),?_,?_⟩,
   ⟨rfl,rfl,rfl,by simp[ChangeMaps.setBlock],fun i _ hi=>ChangeMaps.heap_setBlock_other hb _ (fun e=>hi (by rw[e]))⟩,by simp[ChangeMaps.setBlock]⟩
  · simp[Instr.mapUpdate,run_underlying ht,MapKept.run_getObj_map hb,k.K.check w false hl,h1,hj,h3,k.K.stays w hl,MapKept.run_setObj_map _ hb,Result.andThen,ChangeMaps.setBlock]
  ·rw[hup];(refine wAO fun i=>?_);rw[wAj,wAj,wAj,Array.toList_modify,ChangeMaps.modify_eq_set _ _ _ _ h2];by_cases hij:i=j
   ·subst hij;obtain⟨p,hp,h4,h5⟩:=zDl hE h2;have e1:p.1=a:=k.inj _ _ (by rw[← h4,h3]);rw[List.getElem?_set_self hjl,hp];simp[e1]
   ·rw[List.getElem?_set_ne (fun e=>hij e.symm)]
    cases hi:es.toList[i]? with
    | none =>
     have:L[i]? = none:=by
      have:=congrArg (fun l=>l[i]?) hE
      simp only[wAj,hi] at this
      cases hl:L[i]? with
      | none=>rfl
      | some p=>rw[hl] at this;cases this
     rw[this];rfl
    | some e1 =>
     obtain⟨p,hp,h4,h5⟩:=zDl hE hi;rw[hp]
     have hne:¬ p.1=a:=fun e=>by
      (have hk2:e1.key=e0.key:=by rw[h4,h3,e]);have hil:i<es.toList.length:=(wAl.1 hi).1;have hp2:=((stamped_iff es clock).1 hs).2.2;have g1:es.toList[i]=e1:=(wAl.1 hi).2;have g2:es.toList[j]=e0:=(wAl.1 h2).2;rcases Nat.lt_or_gt_of_ne hij with hlt | hlt
      · exact wAk.1 hp2 i j hil hjl hlt (by rw[g1,g2];exact hk2)
      · exact wAk.1 hp2 j i hjl hil hlt (by rw[g1,g2];exact hk2.symm)
     simp[hne,h4,h5]
  ·rw[hup];intro p hp;obtain⟨q,hq,rfl⟩:=wAc.1 hp;by_cases e:q.1=a
   · rw[if_pos e];exact ha
   · rw[if_neg e];exact hk q hq
theorem zDt {ops:Array Oper} {rest:List Oper} {o:Oper} {A:Act} {Q:Exit→Act→World→Prop} (hg:o.guard=none) (m x:Operand) (t:TypeId) (ok':Bool) (hop:o.op=Op.lookup t m x ok')
 (k:KL P kt kv ok) {e:TypeId} (ht:P.underlying t=some (.map kt e)) {z:Value} (hz:∀ W,(zeroValue e).run P W=.ok z W) (hm:A.eval m=.map (some b)) (h:MapIs w kv ok b L) (a:α) (hx:A.eval x=kv a) (ha:ok a)
 (hK:wpList P ops Q rest (A.put o.dst (if ok'=true then .tuple #[(lk L a).getD z,.bool (lk L a).isSome] else (lk L a).getD z)) w) :
 wpList P ops Q (o::rest) A w:=by
 refine wpList_plain hg fun K' hK'=>?_
 have hrun:=h.run_look k ht (hz w) ha ok';unfold Oper.wp;simp[execOp,hop,hm,hx,hrun,Result.andThen];exact hK' _ _ hK
theorem zBz {ops:Array Oper} {rest:List Oper} {o:Oper} {A:Act} {Q:Exit→Act→World→Prop} (hg:o.guard=none) (m x:Operand) (t:TypeId) (hop:o.op=Op.lookup t m x true)
 (k:KL P kt kv ok) {e:TypeId} (ht:P.underlying t=some (.map kt e)) {z:Value} (hz:∀ W,(zeroValue e).run P W=.ok z W) (hm:A.eval m=.map (some b)) (h:MapIs w kv ok b L) (a:α) (hx:A.eval x=kv a) (ha:ok a) (v:Value) (hv:lk L a=some v)
 (hK:wpList P ops Q rest (A.put o.dst (.tuple #[v,.bool true])) w):wpList P ops Q (o::rest) A w :=
 zDt hg m x t true hop k ht hz hm h a hx ha (by simpa[hv] using hK)
theorem zBH {ops:Array Oper} {rest:List Oper} {o:Oper} {A:Act} {Q:Exit→Act→World→Prop} (hg:o.guard=none) (m x:Operand) (t:TypeId) (hop:o.op=Op.lookup t m x true)
 (k:KL P kt kv ok) {e:TypeId} (ht:P.underlying t=some (.map kt e)) {z:Value} (hz:∀ W,(zeroValue e).run P W=.ok z W) (hm:A.eval m=.map (some b)) (h:MapIs w kv ok b L) (a:α) (hx:A.eval x=kv a) (ha:ok a) (hv:lk L a=none)
 (hK:wpList P ops Q rest (A.put o.dst (.tuple #[z,.bool false])) w):wpList P ops Q (o::rest) A w :=
 zDt hg m x t true hop k ht hz hm h a hx ha (by simpa[hv] using hK)
theorem zAK {ops:Array Oper} {rest:List Oper} {o:Oper} {A:Act} {Q:Exit→Act→World→Prop} (hg:o.guard=none) (m x:Operand) (t:TypeId) (hop:o.op=Op.lookup t m x false)
 (k:KL P kt kv ok) {e:TypeId} (ht:P.underlying t=some (.map kt e)) {z:Value} (hz:∀ W,(zeroValue e).run P W=.ok z W) (hm:A.eval m=.map (some b)) (h:MapIs w kv ok b L) (a:α) (hx:A.eval x=kv a) (ha:ok a) (v:Value) (hv:(lk L a).getD z=v)
 (hK:wpList P ops Q rest (A.put o.dst v) w):wpList P ops Q (o::rest) A w :=
 zDt hg m x t false hop k ht hz hm h a hx ha (by simpa[hv] using hK)
theorem zBs {ops:Array Oper} {rest:List Oper} {o:Oper} {A:Act} {Q:Exit→Act→World→Prop} (hg:o.guard=none) (m x v:Operand) (t:TypeId) (hop:o.op=Op.mapUpdate t m x v)
 (k:KL P kt kv ok) {e:TypeId} (ht:P.underlying t=some (.map kt e)) (hm:A.eval m=.map (some b)) (h:MapIs w kv ok b L) (a:α) (hx:A.eval x=kv a) (ha:ok a) (val:Value) (hv:A.eval v=val)
 (hK:∀ w',MapIs w' kv ok b (upL L a val)→w.grownBy w' (some b)→w'.heap.size=w.heap.size→wpList P ops Q rest (A.put o.dst undef) w') :
 wpList P ops Q (o::rest) A w:=by
 refine wpList_plain hg fun K' hK'=>?_
 obtain⟨w',hrun,h1,h2,h3⟩:=h.run_up k ht ha val;unfold Oper.wp;simp[execOp,hop,hm,hx,hv,hrun,Result.andThen];exact hK' _ _ (hK w' h1 h2 h3)
end
/-! 'm[k] = append(m[k], ..)': the entry is looked up once. -/
def Stamp (w:World) (b:Nat) (key:Value) (n:Nat):Prop:=∃ es clock,w.heap[b]? = some (.map es clock)∧∃ e∈es.toList,e.key=key∧e.born=n
theorem Stamp.of_block {w w':World} {b n:Nat} {key:Value} (h:Stamp w b key n) (e:w'.heap[b]? = w.heap[b]?):Stamp w' b key n:=by
 obtain⟨es,clock,hb,r⟩:=h;exact⟨es,clock,e.trans hb,r⟩
theorem Stamp.lt {w:World} {b n:Nat} {key:Value} (h:Stamp w b key n):b<w.heap.size:=by
 obtain⟨es,clock,hb,_⟩:=h;exact (wAd.1 hb).1
theorem Stamp.kept {w w':World} {b n:Nat} {key:Value} (h:Stamp w b key n) {row:Option Nat} (hg:w.grownBy w' row) (hne:some b≠row):Stamp w' b key n:=h.of_block (hg.block b h.lt hne)
theorem Stamp.alloc {w:World} {b n:Nat} {key:Value} (h:Stamp w b key n) (o:Obj):Stamp (w.alloc o) b key n:=h.of_block (Below.heap_alloc w o b h.lt)
section
variable {α:Type} [DecidableEq α] {P:Program} {kt:TypeId} {w w':World} {kv:α→Value} {ok:α→Prop} {b:Nat} {L:List (α×Value)}
end
/-! Ranging. -/
def RangeIs {α:Type} (w:World) (kv:α→Value) (ok:α→Prop) (b r:Nat) (L left:List (α×Value)):Prop :=
 ∃ es clock since seen c0,w.heap[b]? = some (.map es clock)∧Stamped es clock∧(es.toList.map fun e=>(e.key,e.val))=L.map (fun p=>(kv p.1,p.2))∧(∀ p∈L,ok p.1) ∧
  w.heap[r]? = some (.mapIter (some b) since seen c0)∧(∀ x∈es.toList,x.born<since)∧since≤c0∧since≤clock∧((leftOf es seen).toList.map fun e=>(e.key,e.val))=left.map (fun p=>(kv p.1,p.2))∧∀ p∈left,p∈L
theorem zNX {es:Array MapEntry} {seen:Array Nat} {e:MapEntry} {s1 s2:List MapEntry} (hn:(es.toList.map (·.born)).Nodup) (h:(leftOf es seen).toList=s1++e::s2):(leftOf es (seen.push e.born)).toList=s1++s2:=by
 have h1:(leftOf es (seen.push e.born)).toList=(leftOf es seen).toList.filter (fun x => !(x.born==e.born)):=by
  unfold leftOf;rw[wAu,wAu,List.filter_filter];refine List.filter_congr fun x _=>?_
  rw[contains_push];cases seen.contains x.born<;>cases (x.born==e.born)<;>rfl
 have h2:((leftOf es seen).toList.map (·.born)).Nodup:=by
  unfold leftOf;rw[wAu];exact (List.filter_sublist.map _).nodup hn
 rw[h,wAo,wAq,wAP] at h2;obtain⟨_,h4,h5⟩:=h2;rw[wAT] at h4;rw[h1,h,List.filter_append,List.filter_cons_of_neg (by simp)];congr 1
 ·refine wAK.2 fun x hx=>?_
  have:=h5 x.born (wAc.2 ⟨x,hx,rfl⟩) e.born (by simp)
  simp[this]
 ·refine wAK.2 fun x hx=>?_
  have:x.born≠e.born:=fun e1=>h4.1 (by rw[← e1];exact wAc.2 ⟨x,hx,rfl⟩)
  simp[this]
section
variable {α:Type} {P:Program} {w w':World} {kv:α→Value} {ok:α→Prop} {b r:Nat} {L left:List (α×Value)}
theorem RangeIs.map (h:RangeIs w kv ok b r L left):MapIs w kv ok b L:=by
 obtain⟨es,clock,since,seen,c0,hb,hs,hE,hk,_⟩:=h;exact⟨es,clock,hb,hs,hE,hk⟩
theorem RangeIs.ltr (h:RangeIs w kv ok b r L left):r<w.heap.size:=by
 obtain⟨es,clock,since,seen,c0,hb,hs,hE,hk,hr,_⟩:=h;exact (wAd.1 hr).1
theorem RangeIs.ne (h:RangeIs w kv ok b r L left):r≠b:=by
 obtain⟨es,clock,since,seen,c0,hb,hs,hE,hk,hr,_⟩:=h;intro e;rw[e,hb] at hr;cases hr
theorem RangeIs.of_block (h:RangeIs w kv ok b r L left) (e:w'.heap[b]? = w.heap[b]?) (e':w'.heap[r]? = w.heap[r]?):RangeIs w' kv ok b r L left:=by
 obtain⟨es,clock,since,seen,c0,hb,hs,hE,hk,hr,rest⟩:=h;exact⟨es,clock,since,seen,c0,e.trans hb,hs,hE,hk,e'.trans hr,rest⟩
theorem RangeIs.kept (h:RangeIs w kv ok b r L left) {row:Option Nat} (hg:w.grownBy w' row) (hne:some b≠row) (hner:some r≠row):RangeIs w' kv ok b r L left :=
 h.of_block (hg.block b h.map.lt hne) (hg.block r h.ltr hner)
theorem RangeIs.below {B:Nat} (h:RangeIs w kv ok b r L left) (hb:Below B w w') (hlt:b<B) (hr:r<B):RangeIs w' kv ok b r L left:=h.of_block (hb.block b hlt) (hb.block r hr)
theorem RangeIs.alloc (h:RangeIs w kv ok b r L left) (o:Obj):RangeIs (w.alloc o) kv ok b r L left:=h.of_block (Below.heap_alloc w o b h.map.lt) (Below.heap_alloc w o r h.ltr)
theorem RangeIs.set_ (h:RangeIs w kv ok b r L left) {p:Addr} (hp:b≠p.block) (hp':r≠p.block) (u:Value):RangeIs (w.setCell p u) kv ok b r L left:=h.of_block (Below.heap_setCell w p u b hp) (Below.heap_setCell w p u r hp')
theorem RangeIs.next (h:RangeIs w kv ok b r L left) (ty:TypeId) :
 (left=[]∧(Instr.next (.pointer (some ⟨r,0,none⟩)) false ty).run P w=.ok (.tuple #[.bool false]) w) ∨
 ∃ l1 a v l2 w',left=l1++(a,v)::l2∧(a,v)∈L∧(Instr.next (.pointer (some ⟨r,0,none⟩)) false ty).run P w=.ok (.tuple #[.bool true,kv a,v]) w'∧RangeIs w' kv ok b r L (l1++l2)∧w.grownBy w' (some r)∧w'.heap.size=w.heap.size ∧
  (Instr.entry (.pointer (some ⟨r,0,none⟩))).run P w'=.ok (.tuple #[kv a,v]) w':=by
 have hne:=h.ne;obtain⟨es,clock,since,seen,c0,hb,hs,hE,hk,hr,hold,hsc,hsk,hl,hsub⟩:=h;rcases run_next_at (P:=P) w ty r b since c0 seen es clock hr hb hold hsc with⟨h0,hrun⟩ | ⟨e,he,w1,hal,hrun⟩
 ·refine .inl ⟨?_,hrun⟩
  have:=congrArg List.length hl
  simp only[List.length_map,Array.length_toList,h0] at this;exact List.eq_nil_of_length_eq_zero this.symm
 ·have hr1:w1.heap[r]? = some (.mapIter (some b) since seen c0):=by rcases hal with rfl | rfl<;>exact hr
  have hb1:w1.heap[b]? = some (.map es clock):=by rcases hal with rfl | rfl<;>exact hb
  have hset:=heap_set (o':=.mapIter (some b) since (seen.push e.born) clock) hr1;have hb':(ChangeMaps.setBlock w1 r (.mapIter (some b) since (seen.push e.born) clock)).heap[b]? = some (.map es clock):=(hset.2 b (fun e1=>hne e1.symm)).trans hb1;obtain⟨hem,hes⟩:=mem_left he;obtain⟨s1,s2,hsp⟩:=List.append_of_mem he;have hborn:(es.toList.map (·.born)).Nodup:=hs.2.1;have hnew:=zNX hborn hsp;rw[hsp,wAo,wAq] at hl;obtain⟨l1,l3,rfl,h1,h3⟩:=List.map_eq_append_iff.1 hl.symm;obtain⟨p,l2,rfl,h4,h5⟩:=List.map_eq_cons_iff.1 h3;have hp:=Prod.mk.inj h4;have hL:p∈L:=hsub p (by simp);refine .inr ⟨l1,p.1,p.2,l2,_,rfl,hL,?_,⟨es,clock,since,seen.push e.born,clock,hb',hs,hE,hk,hset.1,hold,hsk,hsk,?_,fun q hq=>hsub q (by rcases wAa.1 hq with h | h<;>simp[h])⟩,?_,?_,?_⟩
  · rw[hp.1,hp.2];exact hrun
  · rw[hnew,wAo,wAo,h1,h5]
  · rcases hal with rfl | rfl<;>exact⟨rfl,rfl,rfl,by simp[ChangeMaps.setBlock],fun i _ hi=>hset.2 i (fun e1=>hi (by rw[e1]))⟩
  · rcases hal with rfl | rfl<;>simp[ChangeMaps.setBlock]
  ·rw[hp.1,hp.2];exact run_entry_at _ r b since seen es clock e hset.1 hb' hem hborn
end
def posI (x:Int):List Int→Nat
 | []=>0
 | y::l=>if y<x then posI x l+1 else 0
def insI (x:Int) (l:List Int):List Int:=if posI x l<l.length∧l.getD (posI x l) 0=x then l else l.take (posI x l)++[x]++l.drop (posI x l)
theorem zGV (x:Int):∀ l,posI x l≤l.length
 | []=>wAn _
 | y::l=>by
  unfold posI
  have:=zGV x l
  rw[wAD];split<;>omega
theorem zE1 (x:Int):∀ (l:List Int) (j:Nat),j≤posI x l→((j<l.length∧l.getD j 0<x)↔j<posI x l)
 | [],j,h=>by simp[posI]
 | y::l,j,h=>by
  unfold posI at h ⊢;by_cases hy:y<x
  ·rw[if_pos hy] at h ⊢
   cases j with
   | zero=>simp[hy]
   | succ j =>
    have:=zE1 x l j (by omega)
    rw[wAD,List.getD_cons_succ];omega
  ·rw[if_neg hy] at h ⊢;(obtain rfl:j=0:=by omega);simp[hy]
theorem zHU (x:Int):∀ (l:List Int),∀ y∈l.take (posI x l),y<x
 | [],y,h=>by simp at h
 | z::l,y,h=>by
  unfold posI at h;by_cases hz:z<x
  ·rw[if_pos hz,wAI] at h;rcases wAf.1 h with rfl | h
   · exact hz
   · exact zHU x l y h
  · rw[if_neg hz] at h;simp at h
theorem zFO {x:Int} : ∀ {l:List Int},l.Pairwise (· < ·)→∀ y∈l.drop (posI x l),x≤y
 | [],_,y,h=>by simp at h
 | z::l,hs,y,h=>by
  unfold posI at h;obtain⟨h1,h2⟩:=wAb.1 hs;by_cases hz:z<x
  ·rw[if_pos hz,wAJ] at h;exact zFO h2 y h
  ·rw[if_neg hz,wAU] at h;rcases wAf.1 h with rfl | h
   · omega
   · have:=h1 y h;omega
theorem zGH {x:Int} {l:List Int} {y:Int} : y∈insI x l↔y=x∨y∈l:=by
 unfold insI;by_cases h:posI x l<l.length∧l.getD (posI x l) 0=x
 ·rw[if_pos h];refine⟨.inr,?_⟩;rintro (rfl | hy)
  ·have:l[posI y l]'h.1∈l:=List.getElem_mem _
   (have e:l.getD (posI y l) 0=l[posI y l]'h.1:=by simp[wAE,h.1]);rw[← e,h.2] at this;exact this
  · exact hy
 ·rw[if_neg h];have e:l.take (posI x l)++l.drop (posI x l)=l:=wAG _ _;constructor
  ·intro hy;simp only[wAa,wAg] at hy;rcases hy with (hy | hy) | hy
   · exact .inr (List.mem_of_mem_take hy)
   · exact .inl hy
   · exact .inr (List.mem_of_mem_drop hy)
  ·intro hy;simp only[wAa,wAg];rcases hy with hy | hy
   · exact .inl (.inr hy)
   ·rw[← e,wAa] at hy;rcases hy with hy | hy
    · exact .inl (.inl hy)
    · exact .inr hy
theorem zDr {x:Int} {l:List Int} (hs:l.Pairwise (· < ·)):(insI x l).Pairwise (· < ·):=by
 unfold insI;by_cases h:posI x l<l.length∧l.getD (posI x l) 0=x
 · rw[if_pos h];exact hs
 ·rw[if_neg h];have e:l.take (posI x l)++l.drop (posI x l)=l:=wAG _ _;have hs':=hs;rw[← e] at hs';obtain⟨h1,h2,h3⟩:=wAt.1 hs'
  have hgt:∀ y∈l.drop (posI x l),x<y:=fun y hy=>by
   have h4:=zFO hs y hy;rcases Int.lt_or_eq_of_le h4 with g | g
   · exact g
   ·exfalso;obtain⟨i,hi,hg⟩:=List.mem_iff_getElem.1 hy;(have hp:posI x l<l.length:=by rw[wAB] at hi;omega);have hd:l.drop (posI x l)=l[posI x l]::l.drop (posI x l+1):=wAy hp;have h5:x≤l[posI x l]:=zFO hs _ (by rw[hd];exact List.mem_cons_self);(have h6:l[posI x l]≠x:=fun e=>h ⟨hp,by simp[wAE,hp,e]⟩);rw[hd] at h2 hy;rcases wAf.1 hy with e1 | e1
    · omega
    · have:=(wAb.1 h2).1 y e1;omega
  refine wAt.2 ⟨wAt.2 ⟨h1,List.pairwise_singleton _ _,fun a ha b hb=>?_⟩,h2,fun a ha b hb=>?_⟩
  · rw[wAg.1 hb];exact zHU x l a ha
  ·rcases wAa.1 ha with ha | ha
   · exact h3 a ha b hb
   · rw[wAg.1 ha];exact hgt b hb
theorem zHp (x:Int) (l:List Int):(insI x l).length≤l.length+1:=by
 unfold insI;split
 · omega
 ·have:=zGV x l
  simp only[wAL,wAA,wAB,wAD,List.length_nil];omega
theorem zI2 {x:Int} {l:List Int} (h:¬ (posI x l<l.length∧l.getD (posI x l) 0=x)):insI x l=l.take (posI x l)++[x]++l.drop (posI x l):=if_neg h
theorem zKM {x:Int} {l:List Int} (h:posI x l<l.length∧l.getD (posI x l) 0=x):insI x l=l:=if_pos h
def labsR (l:List Arc):List Int:=l.foldl (fun s a=>if a.i=0 then s else insI a.i s) []
theorem zLs (l:List Arc) (a:Arc):labsR (l++[a])=if a.i=0 then labsR l else insI a.i (labsR l):=by
 unfold labsR;rw[List.foldl_append];rfl
theorem zFM {P:List Arc→List Int→Prop} (h0:P [] []) (h1:∀ l a s,P l s→P (l++[a]) (if a.i=0 then s else insI a.i s)) (l:List Arc):P l (labsR l):=by
 have h:∀ (k p:List Arc) (s:List Int),P p s→P (p++k) (k.foldl (fun s a=>if a.i=0 then s else insI a.i s) s):=by
  intro k
  induction k with
  | nil=>intro p s hp;simpa using hp
  | cons a k ih =>
   intro p s hp
   have:=ih (p++[a]) _ (h1 p a s hp)
   rw[wAx] at this;exact this
 exact h l [] [] h0
theorem zAJ (l:List Arc):(labsR l).Pairwise (· < ·) :=
 zFM (P:=fun _ s=>s.Pairwise (· < ·)) .nil (fun l a s h=>by
  split
  · exact h
  · exact zDr h) l
theorem zAy (l:List Arc):∀ x,x∈labsR l↔x≠0∧∃ a∈l,a.i=x :=
 zFM (P:=fun l s=>∀ x,x∈s↔x≠0∧∃ a∈l,a.i=x) (fun x=>by simp) (fun l a s h x=>by
  have e:(∃ b∈l++[a],b.i=x)↔(∃ b∈l,b.i=x)∨a.i=x:=by
   constructor
   ·rintro⟨b,hb,he⟩;rcases wAa.1 hb with hb | hb
    · exact .inl ⟨b,hb,he⟩
    · rw[wAg.1 hb] at he;exact .inr he
   ·rintro (⟨b,hb,he⟩ | he)
    · exact⟨b,wAa.2 (.inl hb),he⟩
    · exact⟨a,wAa.2 (.inr (wAg.2 rfl)),he⟩
  rw[e];by_cases h0:a.i=0
  ·rw[if_pos h0,h x];constructor
   · rintro⟨h1,h2⟩;exact⟨h1,.inl h2⟩
   ·rintro⟨h1,h2 | h2⟩
    · exact⟨h1,h2⟩
    · omega
  ·rw[if_neg h0,zGH,h x];constructor
   ·rintro (rfl | ⟨h1,h2⟩)
    · exact⟨h0,.inr rfl⟩
    · exact⟨h1,.inl h2⟩
   ·rintro⟨h1,h2 | h2⟩
    · exact .inr ⟨h1,h2⟩
    · exact .inl h2.symm) l
open Go Go.RowKit
def NumsL (w:World) (B:Nat) (v:Value) (L:List (List Int)):Prop :=
 ∃ A n c,v=.slice A n c∧Hid (L.length=n)∧n≤c∧n≤big∧∃ vs:Nat→Value,Rd w B 1 A n (fun i _=>vs i)∧∀ i,i<n→Nums w B (vs i) (L.getD i [])
theorem NumsL.below {w w':World} {B B':Nat} {v:Value} {L:List (List Int)} (h:NumsL w B v L) (hb:Below B' w w') (hB:B≤B'):NumsL w' B v L:=by
 obtain⟨A,n,c,h1,h2,h3,h4,vs,h5,h6⟩:=h;exact⟨A,n,c,h1,h2,h3,h4,vs,h5.below hb hB,fun i hi=>(h6 i hi).below hb hB⟩
theorem NumsL.mono {w:World} {B B':Nat} {v:Value} {L:List (List Int)} (h:NumsL w B v L) (hB:B≤B'):NumsL w B' v L:=by
 obtain⟨A,n,c,h1,h2,h3,h4,vs,h5,h6⟩:=h;exact⟨A,n,c,h1,h2,h3,h4,vs,h5.mono hB,fun i hi=>(h6 i hi).mono hB⟩
def RdL (w:World) (B:Nat) (A:Option Addr) (n:Nat) (L:List (List Int)):Prop:=∃ vs:Nat→Value,Rd w B 1 A n (fun i _=>vs i)∧∀ i,i<n→Nums w B (vs i) (L.getD i [])
theorem RdL.below {w w':World} {B B' n:Nat} {A:Option Addr} {L:List (List Int)} (h:RdL w B A n L) (hb:Below B' w w') (hB:B≤B'):RdL w' B A n L:=by
 obtain⟨vs,h5,h6⟩:=h;exact⟨vs,h5.below hb hB,fun i hi=>(h6 i hi).below hb hB⟩
theorem RdL.mono {w:World} {B B' n:Nat} {A:Option Addr} {L:List (List Int)} (h:RdL w B A n L) (hB:B≤B'):RdL w B' A n L:=by
 obtain⟨vs,h5,h6⟩:=h;exact⟨vs,h5.mono hB,fun i hi=>(h6 i hi).mono hB⟩
theorem zEo {w:World} {B n:Nat} {A:Option Addr} {L:List (List Int)} (h:RdL w B A n L) {k:Nat} (hk:k<n) :
 ∃ b off A' n' c' r,A=some ⟨b,off,none⟩∧b<B∧w.cell? ⟨b,off+k,none⟩=some (.slice A' n' c')∧Hid (L.getD k []=r)∧Hid (r.length=n')∧n'≤c'∧n'≤big∧Rd w B 1 A' n' (intCell r):=by
 obtain⟨vs,h1,h2⟩:=h;obtain⟨b,off,h3,h4,h5⟩:=h1.at1 hk;obtain⟨A',n',c',g1,g2,g3,g4,g5⟩:=h2 k hk;rw[g1] at h5;exact⟨b,off,A',n',c',L.getD k [],h3,h4,h5,zh rfl,g2,g3,g4,g5⟩
theorem zAZ {w:World} {base:Nat} {e:TypeId} {v:Value} {n:Nat} {l:List Int} (h:w.ownsRow base e 1 v n (intRow l)) (hn:n≤big):Nums w w.heap.size v l:=by
 obtain⟨A,c,rfl,hnc,_⟩:=zAa h;have hl:l.length=n:=by have:=h.1;rw[zAh] at this;omega
 exact⟨A,n,c,rfl,zh hl,hnc,hn,Rd.of_own h (hl▸zAi l)⟩
structure OwnM (w:World) (base:Nat) (eO eI:TypeId) (sz:Nat) (v:Value) (n:Nat) (vs:Nat→Value) (L:Nat→List Value) (m:Nat→Nat):Prop where
 out:w.ownsRow base eO 1 v n ((wAh n).map vs)
 own:∀ i,i<n→w.ownsRow base eI sz (vs i) (m i) (L i)
 dis:∀ i j,i<n→j<n→i≠j→(vs i).ownBlock=none∨(vs i).ownBlock≠(vs j).ownBlock
section
variable {w w1:World} {base:Nat} {eO eI:TypeId} {sz n:Nat} {v:Value} {vs:Nat→Value} {L:Nat→List Value} {m:Nat→Nat}
theorem OwnM.o {w:World} {base:Nat} {eO eI:TypeId} {sz:Nat} {v:Value} {n:Nat} {vs:Nat→Value} {L:Nat→List Value} {m:Nat→Nat} (h:OwnM w base eO eI sz v n vs L m):w.ownsRow base eO 1 v n ((wAh n).map vs):=h.1
theorem OwnM.nil (w:World) (base:Nat) (eO eI:TypeId) (sz:Nat) (vs:Nat→Value) (L:Nat→List Value) (m:Nat→Nat):OwnM w base eO eI sz (.slice none 0 0) 0 vs L m :=
 ⟨World.ownsRow_nil _ _ _ _,fun i h=>by omega,fun i j h=>by omega⟩
theorem OwnM.kept (h:OwnM w base eO eI sz v n vs L m) {row:Option Nat} (hg:w.grownBy w1 row) (h1:v.ownBlock=none∨v.ownBlock≠row) (h2:∀ i,i<n→(vs i).ownBlock=none∨(vs i).ownBlock≠row):OwnM w1 base eO eI sz v n vs L m :=
 ⟨h.o.kept hg h1,fun i hi=>(h.own i hi).kept hg (h2 i hi),h.dis⟩
theorem OwnM.below (h:OwnM w base eO eI sz v n vs L m) (hb:Below w.heap.size w w1):OwnM w1 base eO eI sz v n vs L m :=
 h.kept (row:=none) ⟨hb.os,hb.tape,hb.output,hb.size,fun k hk _=>hb.block k hk⟩ (by cases v.ownBlock<;>simp) (fun i _=>by cases (vs i).ownBlock<;>simp)
theorem OwnM.alloc (h:OwnM w base eO eI sz v n vs L m) (o:Obj):OwnM (w.alloc o) base eO eI sz v n vs L m :=
 ⟨h.o.alloc o,fun i hi=>(h.own i hi).alloc o,h.dis⟩
theorem OwnM.drew (h:OwnM w base eO eI sz v n vs L m):OwnM w.drew base eO eI sz v n vs L m:=⟨h.o,h.own,h.dis⟩
theorem OwnM.drewN (h:OwnM w base eO eI sz v n vs L m) (k:Nat):OwnM (w.drewN k) base eO eI sz v n vs L m:=⟨h.o,h.own,h.dis⟩
theorem OwnM.far (h:OwnM w base eO eI sz v n vs L m) {p:Addr} (hp:p.block<base) (u:Value):OwnM (w.setCell p u) base eO eI sz v n vs L m :=
 ⟨ownsRow_setCell_below h.o hp u,fun i hi=>ownsRow_setCell_below (h.own i hi) hp u,h.dis⟩
theorem OwnM.apart (h:OwnM w base eO eI sz v n vs L m) {H s2 n2:Nat} {e2:TypeId} {v2:Value} {x2:List Value} {w2:World} (ho:w2.ownsRow H e2 s2 v2 n2 x2) (hH:w.heap.size≤H):(v.ownBlock=none∨v.ownBlock≠v2.ownBlock)∧∀ i,i<n→(vs i).ownBlock=none∨(vs i).ownBlock≠v2.ownBlock:=by
 have key:∀ u:Value,(∀ k,u.ownBlock=some k→base≤k∧k<w.heap.size)→u.ownBlock=none∨u.ownBlock≠v2.ownBlock:=fun u hu=>by
  cases e:u.ownBlock with
  | none=>exact .inl rfl
  | some k =>
   right;intro e2
   have:=(hu k e).2
   have:=(ho.lt k e2.symm).1
   omega
 exact⟨key v h.o.lt,fun i hi=>key (vs i) (h.own i hi).lt⟩
theorem OwnM.push (h:OwnM w base eO eI sz v n vs L m) (hg:w.grownBy w1 v.ownBlock) {v' u:Value} {mu:Nat} {xu:List Value} (hout:w1.ownsRow base eO 1 v' (n+1) ((wAh n).map vs++[u])) (hu:w.ownsRow base eI sz u mu xu) (hd:∀ i,i<n→(vs i).ownBlock=none∨(vs i).ownBlock≠u.ownBlock) (hne:eO≠eI) :
 OwnM w1 base eO eI sz v' (n+1) (fun i=>if i=n then u else vs i) (fun i=>if i=n then xu else L i) (fun i=>if i=n then mu else m i):=by
 refine⟨?_,fun i hi=>?_,fun i j hi hj hij=>?_⟩
 ·rw[List.range_succ,wAo,wAq,List.map_nil,if_pos rfl];rw[show (wAh n).map (fun i=>if i=n then u else vs i)=(wAh n).map vs from List.map_congr_left fun i hi=>by rw[if_neg (by have:=List.mem_range.1 hi;omega)]];exact hout
 ·by_cases e:i=n
  ·simp only[if_pos e];exact hu.kept hg (zAt hu h.o (Ne.symm hne))
  ·simp only[if_neg e];exact (h.own i (by omega)).kept hg (zAt (h.own i (by omega)) h.o (Ne.symm hne))
 ·by_cases e:i=n
  ·by_cases e2:j=n
   · omega
   ·simp only[if_pos e,if_neg e2];rcases hd j (by omega) with g | g
    ·rw[g];cases u.ownBlock<;>simp
    · exact .inr (Ne.symm g)
  ·by_cases e2:j=n
   ·simp only[if_neg e,if_pos e2];exact hd i (by omega)
   ·simp only[if_neg e,if_neg e2];exact h.dis i j (by omega) (by omega) hij
theorem OwnM.store (h:OwnM w base eO eI sz v n vs L m) (hne:eO≠eI) {i g c:Nat} (hi:i<n) (hv:vs i=.slice (some ⟨g,0,none⟩) (m i) c) (j:Nat) (u:Value) :
 OwnM (w.setCell ⟨g,j,none⟩ u) base eO eI sz v n vs (fun k=>if k=i then (L i).set j u else L k) m:=by
 have h1:=h.own i hi;rw[hv] at h1;obtain⟨h2,hg⟩:=h1.stored j u;have hob:(vs i).ownBlock=some g:=by rw[hv];rfl
 refine⟨h.o.kept hg ?_,fun k hk=>?_,h.dis⟩
 ·rw[← hob];exact zAt h.o (h.own i hi) hne
 ·by_cases e:k=i
  ·subst e;simp only[if_pos];rw[hv];exact h2
  ·simp only[if_neg e];refine (h.own k hk).kept hg ?_;rw[← hob];exact h.dis k i hk hi e
theorem OwnM.at_ (h:OwnM w base eO eI sz v n vs L m) {i:Nat} (hi:i<n):∃ g c,v=.slice (some ⟨g,0,none⟩) n c∧n≤c∧base≤g∧g<w.heap.size∧w.cell? ⟨g,i,none⟩=some (vs i):=by
 obtain⟨g,c,rfl,h1,h2⟩:=h.o.form (by omega);obtain⟨A,c',e,hnc,_⟩:=zAa h.o;injection e with _ _ e
 refine⟨g,c,rfl,by omega,h1,h2,?_⟩;rw[h.o.cellAt i (by omega)];simp[hi]
theorem OwnM.nums {vs:Nat→Value} {r:Nat→List Int} (h:OwnM w base eO eI 1 v n vs (fun i=>intRow (r i)) m) (hn:n≤big) (hm:∀ i,i<n→m i≤big):NumsL w w.heap.size v ((wAh n).map r):=by
 obtain⟨A,c,rfl,hnc,_⟩:=zAa h.o;refine⟨A,n,c,rfl,zh (by simp),hnc,hn,vs,Rd.of_own h.o (fun i j hi hj=>?_),fun i hi=>?_⟩
 ·obtain rfl:j=0:=by omega
  simp[hi]
 ·have e:((wAh n).map r).getD i []=r i:=by simp[wAE,hi]
  rw[e];exact zAZ (h.own i hi) (hm i hi)
end
theorem OwnM.congr {w:World} {base:Nat} {eO eI:TypeId} {sz n:Nat} {v:Value} {vs:Nat→Value} {L L':Nat→List Value} {m m':Nat→Nat} (h:OwnM w base eO eI sz v n vs L m) (e:∀ i,i<n→L i=L' i) (e':∀ i,i<n→m i=m' i):OwnM w base eO eI sz v n vs L' m' :=
 ⟨h.o,fun i hi=>by rw[← e i hi,← e' i hi];exact h.own i hi,h.dis⟩
def Bools (w:World) (B:Nat) (v:Value) (l:List Bool):Prop :=
 ∃ A n c,v=.slice A n c∧Hid (l.length=n)∧n≤c∧n≤big∧Rd w B 1 A n (boolCell l)
theorem Bools.below {w w':World} {B B':Nat} {v:Value} {l:List Bool} (h:Bools w B v l) (hb:Below B' w w') (hB:B≤B'):Bools w' B v l:=by
 obtain⟨A,n,c,h1,h2,h3,h4,h5⟩:=h;exact⟨A,n,c,h1,h2,h3,h4,h5.below hb hB⟩
theorem Bools.mono {w:World} {B B':Nat} {v:Value} {l:List Bool} (h:Bools w B v l) (hB:B≤B'):Bools w B' v l:=by
 obtain⟨A,n,c,h1,h2,h3,h4,h5⟩:=h;exact⟨A,n,c,h1,h2,h3,h4,h5.mono hB⟩
theorem zIV {w:World} {B n:Nat} {A:Option Addr} {l:List Bool} (h:Rd w B 1 A n (boolCell l)) {k:Nat} (hk:k<n) :
 ∃ b off x,A=some ⟨b,off,none⟩∧b<B∧w.cell? ⟨b,off+k,none⟩=some (.bool x)∧Hid (l.getD k false=x):=by
 obtain⟨b,off,h1,h2,h3⟩:=h.at1 hk;exact⟨b,off,l.getD k false,h1,h2,h3,zh rfl⟩
theorem zAe {w:World} {base sz n O:Nat} {e t:TypeId} {v:Value} {xs:List Value} {cs:Array Value} (h:w.ownsRow base e sz v n xs) (hb:Blk w O t cs) (hne:e≠t):v.ownBlock≠some O:=by
 rcases h.2 with⟨rfl,_⟩ | ⟨g1,c1,cur1,rfl,_,hh1,_⟩
 · simp[Value.ownBlock]
 ·intro ev
  have:g1=O:=by simpa[Value.ownBlock] using ev
  subst this;unfold Blk at hb;rw[hh1] at hb;injection hb with hb
  injection hb with _ he
  exact hne he
theorem zAG {w w':World} {base sz n:Nat} {e:TypeId} {v:Value} {xs:List Value} (h:w.ownsRow base e sz v n xs) (hb:Below w.heap.size w w'):w'.ownsRow base e sz v n xs :=
 h.kept (row:=none) ⟨hb.os,hb.tape,hb.output,hb.size,fun k hk _=>hb.block k hk⟩ (by cases v.ownBlock<;>simp)
theorem zEl {w:World} {b1 b2 sz n:Nat} {e:TypeId} {v:Value} {xs:List Value} (h:w.ownsRow b1 e sz v n xs) (hb:b2≤b1):w.ownsRow b2 e sz v n xs:=by
 obtain⟨h1,h2⟩:=h;refine⟨h1,?_⟩;rcases h2 with h2 | ⟨g,cap,cur,e1,e2,e3⟩
 · exact .inl h2
 · exact .inr ⟨g,cap,cur,e1,by omega,e3⟩
theorem zA6 {w:World} {base q:Nat} {e:TypeId} {v:Value} {L:List Arc} (h:w.ownsRow base e 5 v q (arcRow L)):L.length=q:=by
 have h1:=h.1;rw[zAv] at h1;omega
theorem zBv {w:World} {base q:Nat} {e:TypeId} {v:Value} {L:List Fnl} (h:w.ownsRow base e 2 v q (finRow L)):L.length=q:=by
 have h1:=h.1;rw[zGO] at h1;omega
def Mg (tM tA tF:TypeId) (w:World) (O base:Nat) (n0:Int) (q:Nat) (L:List Arc) (r:Nat) (F:List Fnl):Prop :=
 ∃ A c AF cf,Blk w O tM #[.int .i64 n0,.slice A q c,.slice AF r cf]∧w.ownsRow base tA 5 (.slice A q c) q (arcRow L)∧w.ownsRow base tF 2 (.slice AF r cf) r (finRow F)
section
variable {tM tA tF:TypeId} {w w6:World} {O base q r:Nat} {n0:Int} {A AF Av:Option Addr} {c cf cv:Nat} {L:List Arc} {F:List Fnl}
theorem Mg.start (h:Blk w O tM #[.int .i64 n0,.slice none 0 0,.slice none 0 0]) (base:Nat):Mg tM tA tF w O base n0 0 [] 0 []:=⟨none,0,none,0,h,World.ownsRow_nil _ _ _ _,World.ownsRow_nil _ _ _ _⟩
theorem Mg.below {w':World} (h:Mg tM tA tF w O base n0 q L r F) (hb:Below w.heap.size w w'):Mg tM tA tF w' O base n0 q L r F:=by
 obtain⟨A,c,AF,cf,h1,h2,h3⟩:=h;exact⟨A,c,AF,cf,h1.below hb h1.lt,zAG h2 hb,zAG h3 hb⟩
theorem Mg.alloc (h:Mg tM tA tF w O base n0 q L r F) (o:Obj):Mg tM tA tF (w.alloc o) O base n0 q L r F:=by
 obtain⟨A,c,AF,cf,h1,h2,h3⟩:=h;exact⟨A,c,AF,cf,h1.alloc o,h2.alloc o,h3.alloc o⟩
theorem Mg.lt (h:Mg tM tA tF w O base n0 q L r F):O<w.heap.size:=by
 obtain⟨A,c,AF,cf,h1,_⟩:=h;exact h1.lt
theorem Mg.lens (h:Mg tM tA tF w O base n0 q L r F):L.length=q∧F.length=r:=by
 obtain⟨A,c,AF,cf,_,h2,h3⟩:=h;exact⟨zA6 h2,zBv h3⟩
theorem Mg.own (h:Mg tM tA tF w O base n0 q L r F) {b2 s2 n2:Nat} {e2:TypeId} {v2:Value} {x2:List Value} (ho:w.ownsRow b2 e2 s2 v2 n2 x2) (hM:e2≠tM) (hA:tA≠e2) (hF:tF≠e2) (hg:w.grownBy w6 v2.ownBlock):Mg tM tA tF w6 O base n0 q L r F:=by
 obtain⟨A,c,AF,cf,h1,h2,h3⟩:=h;exact⟨A,c,AF,cf,h1.grown hg (Ne.symm (zAe ho h1 hM)),h2.kept hg (zAt h2 ho hA),h3.kept hg (zAt h3 ho hF)⟩
theorem Mg.far (h:Mg tM tA tF w O base n0 q L r F) {p:Addr} (hO:O≠p.block) (hp:p.block<base) (u:Value):Mg tM tA tF (w.setCell p u) O base n0 q L r F:=by
 obtain⟨A,c,AF,cf,h1,h2,h3⟩:=h;exact⟨A,c,AF,cf,h1.far hO u,ownsRow_setCell_below h2 hp u,ownsRow_setCell_below h3 hp u⟩
theorem zCI (bO:Blk w O tM #[.int .i64 n0,.slice A q c,.slice AF r cf]) (hA:w.ownsRow base tA 5 (.slice A q c) q (arcRow L))
 (hF:w.ownsRow base tF 2 (.slice AF r cf) r (finRow F)) (h1:tA≠tM) (h2:tF≠tM) (h3:tF≠tA) {x:Arc} (hg:w.grownBy w6 (Value.slice A q c).ownBlock) (hown:w6.ownsRow base tA 5 (.slice Av (q+1) cv) (q+1) (arcRow L++arcRow [x])) :
 Mg tM tA tF (w6.setCell ⟨O,1,none⟩ (.slice Av (q+1) cv)) O base n0 (q+1) (L++[x]) r F:=by
 have b6:=bO.grown hg (Ne.symm (zAe hA bO h1));have hF6:=hF.kept hg (zAt hF hA h3);exact⟨Av,cv,AF,cf,b6.set_ 1 _,ownsRow_setCell_other (by rw[zAu];exact hown) (zAe hown b6 h1) _,ownsRow_setCell_other hF6 (zAe hF6 b6 h2) _⟩
theorem zCz (bO:Blk w O tM #[.int .i64 n0,.slice A q c,.slice AF r cf]) (hA:w.ownsRow base tA 5 (.slice A q c) q (arcRow L))
 (hF:w.ownsRow base tF 2 (.slice AF r cf) r (finRow F)) (h1:tA≠tM) (h2:tF≠tM) (h3:tA≠tF) {x:Fnl} (hg:w.grownBy w6 (Value.slice AF r cf).ownBlock) (hown:w6.ownsRow base tF 2 (.slice Av (r+1) cv) (r+1) (finRow F++finRow [x])) :
 Mg tM tA tF (w6.setCell ⟨O,2,none⟩ (.slice Av (r+1) cv)) O base n0 q L (r+1) (F++[x]):=by
 have b6:=bO.grown hg (Ne.symm (zAe hF bO h2));have hA6:=hA.kept hg (zAt hA hF h3);exact⟨A,c,Av,cv,b6.set_ 2 _,ownsRow_setCell_other hA6 (zAe hA6 b6 h1) _,ownsRow_setCell_other (by rw[zBO];exact hown) (zAe hown b6 h2) _⟩
end
end Gm
