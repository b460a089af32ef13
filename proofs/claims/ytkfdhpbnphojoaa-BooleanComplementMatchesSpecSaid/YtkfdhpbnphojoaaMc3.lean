/- Part of the proof. -/
import Derived.Test.YtkfdhpbnphojoaaMc2
import Derived.Lib.SmallJoins
import Derived.Deep.Slices
import Derived.Deep.Fields
import Derived.ChangeSame
import Derived.SizedLaws
import Derived.Carry
import Derived.Test.YtkfdhpbnphojoaaChecked
import Derived.BigRegion
import Derived.Test.YtkfdhpbnphojoaaRows
import Derived.ProofKit
import Derived.OpenShut
import Derived.ChangeSlices
import Derived.Test.YtkfdhpbnphojoaaMc1
import Derived.Maps.RangeWalk
import Derived.Maps.OwnOps
import Derived.OneCell
import Derived.Laws.OwnMore
set_option linter.unusedSimpArgs false
set_option linter.unusedVariables false
set_option maxRecDepth 100000
set_option maxHeartbeats 400000
open List renaming pairwise_cons→wAb,head_eq_of_cons_eq→wAc,getD_eq_getElem?_getD→wAd,mem_append→wAe,mem_cons→wAf,mem_singleton→wAg,pairwise_iff_getElem→wAh,range→wAi,getElem?_map→wAj,getElem?_eq_some_iff→wAk,getElem?_eq_getElem→wAl,map_append→wAn,mem_map→wAo,map_cons→wAp,length_take→wAq,pairwise_append→wAs,getD_cons_succ→wAt,getD→wAw,append_assoc→wAy,drop_eq_getElem_cons→wAz,getElem?_take_of_lt→wAA,length_drop→wAB,cons_append→wAC,getElem?_eq_none→wAD,take_append_drop→wAE,mem_of_getElem?→wAF,take_succ_cons→wAG,drop_succ_cons→wAH,filter_eq_self→wAI,set_cons_succ→wAJ,map_map→wAK,ext_getElem?→wAL,getElem?_set→wAM,pairwise_map→wAN,all_eq_true→wAO,length_cons→wAP,length_map→wAQ,nodup_cons→wAR,drop_zero→wAS
open Nat renaming le_refl→wAm,zero_add→wAT
open Array renaming getElem?_eq_some_iff→wAa,getElem?_modify→wAr,toList_filter→wAu,extract_eq_self_of_le→wAv,getElem?_append_left→wAx
namespace Gm
open Go Go.RowKit Go.ChangeShapes Go.WideShapes Go.Deep
section
variable {H:Type} {enc:TypeId×Value→H} {P:Program} {w:World} {base:Nat} {spare:Nat→Bool} {held:Bool}
theorem zCq {t e:TypeId} {fs:Array Field} {fuel:Nat} {cs:List Value} {x:DataW H×List MemPlace} (ht:P.underlying t=some (.slice e)) (he:P.underlying e=some (.struct fs))
 (hone:oneCellFields P fs=true) (hC:P.cellsOf e=fs.size) (h:DataW.trod enc P w base spare held fuel t cs=some x) :
 (cs=[.slice none 0 0]∧x=(.nil,[])) ∨
 ∃ (a:Addr) (len cap:Nat) (el sp:List (DataW H)) (pl:List MemPlace),cs=[.slice (some a) len cap]∧len≤cap∧x=(.slice el sp,pl)∧el.length=len ∧
  ∀ i,i<len→∃ n,∀ (j:Nat) (f:Field),fs[j]? = some f→∃ (v:Value) (y:DataW H×List MemPlace),w.cell? (a.add (i*fs.size+j))=some v∧DataW.trod enc P w base spare held n f.type [v]=some y:=by
 rcases open_slice ht h with h0 | ⟨a,len,cap,m,n,D,Pl,hcs,hb,hl,hm,hmm,hx,hi⟩
 · exact .inl h0
 ·refine .inr ⟨a,len,cap,_,_,_,hcs,hl,hx,by simp,fun i hil=>?_⟩;obtain⟨cs',hc,ht'⟩:=hi i (by rw[hmm];split<;>omega);rw[hC] at hc;obtain⟨ys,n',hn',hy,hlen,hyl,hf⟩:=DataW.trod_struct he ht';obtain⟨_,hcl,hat⟩:=World.cells?_some hc;refine⟨n',fun j f hj=>?_⟩;obtain⟨ho,hk⟩:=hone_of hone j f hj;have hjl:j<fs.size:=(wAa.1 hj).1;have hcell:=hat j hjl;have hv:cs'[j]? = some (cs'[j]'(by omega)):=wAl (by omega);have h1:=hf j f hj;rw[ho,hk] at h1
  have hone':(cs'.drop j).take 1=[cs'[j]'(by omega)]:=by
   rw[wAz (by omega)];rfl
  rw[hone'] at h1;have hys:ys[j]? = some (ys[j]'(by omega)):=wAl (by omega);refine⟨_,_,?_,h1.trans hys⟩;rw[← Go.Deep.add_add,hcell,hv]
theorem zOa {w:World} {a:Addr} {v:Value} (h:w.cell? a=some v):a.spot=none∧a.block<w.heap.size:=by
 unfold World.cell? at h;split at h
 ·rename_i hb
  refine⟨?_,(wAa.1 hb).1⟩;split at h
  · cases h
  · rename_i hs;simpa using hs
 · cases h
def cellInt (w:World) (a:Addr):Int:=match w.cell? a with | some (.int _ x)=>x | _=>0
theorem zEw {a:Addr} {len sz:Nat} {f:Nat→Nat→Value} (hsz:0<sz) (h:∀ i j,i<len→j<sz→w.cell? (a.add (i*sz+j))=some (f i j)):Rd w w.heap.size sz (some a) len f:=by
 intro hn;have h0:=h 0 0 hn hsz;rw[Nat.zero_mul,wAT] at h0;have ha:a.add 0=a:=by unfold Addr.add;rw[if_pos rfl]
 rw[ha] at h0;obtain⟨hs,hb⟩:=zOa h0;obtain⟨b,off,spot⟩:=a;subst hs;refine⟨b,off,rfl,hb,fun i j hi hj=>?_⟩
 have:=h i j hi hj
 have e:(⟨b,off,none⟩:Addr).add (i*sz+j)=⟨b,off+(i*sz+j),none⟩:=by unfold Addr.add;split<;>simp_all
 rw[e] at this;exact this
theorem zJp {ts:List TypeId} {ds:List (DataW H)} (h:(DataW.weightsEach P ts ds).all (· ≤ reachBytes)=true) {j:Nat} {t:TypeId} {fs:Array Field} {parts:List (DataW H)} (ht:ts[j]? = some t) (hd:ds[j]? = some (.agg parts)) (hu:P.underlying t=some (.struct fs)) :
 (DataW.weightsEach P (fs.toList.map (·.type)) parts).all (· ≤ reachBytes)=true:=by
 refine wAO.2 fun n hn=>wAO.1 h n (DataW.weights_mem_each ht hd n ?_)
 simp only[DataW.weights,hu];exact hn
end
end Gm
namespace Go.Proofs.Ytkfdhpbnphojoaa
open Go.RowKit Go.ChangeShapes Go.WideShapes Go.Deep Gm Go.Joins
section
variable {H:Type} {enc:TypeId×Value→H} {w:World} {base:Nat} {spare:Nat→Bool} {held:Bool}
theorem zNn {fuel:Nat} {v:Value} {y:DataW H×List MemPlace} (h:DataW.trod enc Try.prog w base spare held fuel 22 [v]=some y) (hb:∀ el sp,y.1=.slice el sp→(el.length+sp.length)*Try.prog.bytesOf 64≤reachBytes) :
 ∃ (A:Option Addr) (n c:Nat) (l:List Arc),v=.slice A n c∧l.length=n∧n≤c∧n≤big∧Rd w w.heap.size 5 A n (arcCell l):=by
 rcases zCq Try.underlying22 Try.underlying64 (by kernel_rfl) (by kernel_rfl) h with⟨hv,rfl⟩ | ⟨a,len,cap,el,sp,pl,hv,hlc,rfl,hel,hf⟩
 ·obtain rfl:=wAc hv;exact⟨none,0,0,[],rfl,rfl,wAm _,by simp[big],Rd.zero⟩
 ·obtain rfl:=wAc hv;have hbb:=hb el sp rfl;have e40:Try.prog.bytesOf 64=40:=by kernel_rfl
  rw[e40] at hbb
  have hcell:∀ i j,i<len→j<5→w.cell? (a.add (i*5+j))=some (.int .i64 (cellInt w (a.add (i*5+j)))):=by
   intro i j hi hj;obtain⟨n',hn⟩:=hf i hi
   have key:∀ f:Field,f.type=3→(∃ (u:Value) (y':DataW H×List MemPlace),w.cell? (a.add (i*5+j))=some u∧DataW.trod enc Try.prog w base spare held n' f.type [u]=some y')→w.cell? (a.add (i*5+j))=some (.int .i64 (cellInt w (a.add (i*5+j)))):=fun f hft hex=>by
    obtain⟨u,y',hc,hy⟩:=hex;rw[hft] at hy;obtain⟨x,hx,_,_⟩:=DataW.trod_int Try.underlying3 hy;obtain rfl:=wAc hx;have hc':w.cell? (a.add (i*5+j))=some (.int .i64 x):=hc;unfold cellInt;rw[hc']
   rcases (by omega:j=0∨j=1∨j=2∨j=3∨j=4) with rfl | rfl | rfl | rfl | rfl<;>exact key _ rfl (hn _ _ rfl)
  refine⟨some a,len,cap,(wAi len).map fun i=>⟨cellInt w (a.add (i*5+0)),cellInt w (a.add (i*5+1)),cellInt w (a.add (i*5+2)),cellInt w (a.add (i*5+3)),cellInt w (a.add (i*5+4))⟩,rfl,by simp,hlc,by simp only[big];simp only[reachBytes] at hbb;omega,zEw (by decide) fun i j hi hj=>?_⟩;rw[hcell i j hi hj];unfold arcCell
  have hget:((wAi len).map fun i=>(⟨cellInt w (a.add (i*5+0)),cellInt w (a.add (i*5+1)),cellInt w (a.add (i*5+2)),cellInt w (a.add (i*5+3)),cellInt w (a.add (i*5+4))⟩:Arc)).getD i dA=⟨cellInt w (a.add (i*5+0)),cellInt w (a.add (i*5+1)),cellInt w (a.add (i*5+2)),cellInt w (a.add (i*5+3)),cellInt w (a.add (i*5+4))⟩:=by
   simp[hi]
  rw[hget];rcases (by omega:j=0∨j=1∨j=2∨j=3∨j=4) with rfl | rfl | rfl | rfl | rfl<;>rfl
theorem zMW {fuel:Nat} {v:Value} {y:DataW H×List MemPlace} (h:DataW.trod enc Try.prog w base spare held fuel 23 [v]=some y) (hb:∀ el sp,y.1=.slice el sp→(el.length+sp.length)*Try.prog.bytesOf 69≤reachBytes) :
 ∃ (A:Option Addr) (n c:Nat) (l:List Fnl),v=.slice A n c∧l.length=n∧n≤c∧n≤big∧Rd w w.heap.size 2 A n (finCell l):=by
 rcases zCq Try.underlying23 Try.underlying69 (by kernel_rfl) (by kernel_rfl) h with⟨hv,rfl⟩ | ⟨a,len,cap,el,sp,pl,hv,hlc,rfl,hel,hf⟩
 ·obtain rfl:=wAc hv;exact⟨none,0,0,[],rfl,rfl,wAm _,by simp[big],Rd.zero⟩
 ·obtain rfl:=wAc hv;have hbb:=hb el sp rfl;have e40:Try.prog.bytesOf 69=16:=by kernel_rfl
  rw[e40] at hbb
  have hcell:∀ i j,i<len→j<2→w.cell? (a.add (i*2+j))=some (.int .i64 (cellInt w (a.add (i*2+j)))):=by
   intro i j hi hj;obtain⟨n',hn⟩:=hf i hi
   have key:∀ f:Field,f.type=3→(∃ (u:Value) (y':DataW H×List MemPlace),w.cell? (a.add (i*2+j))=some u∧DataW.trod enc Try.prog w base spare held n' f.type [u]=some y')→w.cell? (a.add (i*2+j))=some (.int .i64 (cellInt w (a.add (i*2+j)))):=fun f hft hex=>by
    obtain⟨u,y',hc,hy⟩:=hex;rw[hft] at hy;obtain⟨x,hx,_,_⟩:=DataW.trod_int Try.underlying3 hy;obtain rfl:=wAc hx;have hc':w.cell? (a.add (i*2+j))=some (.int .i64 x):=hc;unfold cellInt;rw[hc']
   rcases (by omega:j=0∨j=1) with rfl | rfl<;>exact key _ rfl (hn _ _ rfl)
  refine⟨some a,len,cap,(wAi len).map fun i=>⟨cellInt w (a.add (i*2+0)),cellInt w (a.add (i*2+1))⟩,rfl,by simp,hlc,by simp only[big];simp only[reachBytes] at hbb;omega,zEw (by decide) fun i j hi hj=>?_⟩;rw[hcell i j hi hj];unfold finCell
  have hget:((wAi len).map fun i=>(⟨cellInt w (a.add (i*2+0)),cellInt w (a.add (i*2+1))⟩:Fnl)).getD i dF=⟨cellInt w (a.add (i*2+0)),cellInt w (a.add (i*2+1))⟩:=by
   simp[hi]
  rw[hget];rcases (by omega:j=0∨j=1) with rfl | rfl<;>rfl
theorem zDV {r:Reach} {b0:Nat} {v:Value} {d:DataW H} {p:List MemPlace} {ts:List TypeId} {ds:List (DataW H)} {j:Nat} (hv:Value.okWide Try.prog w r b0 25 v) (h:DataW.Trod enc Try.prog w base spare held 25 v d p)
 (hs:(DataW.weightsEach Try.prog ts ds).all (· ≤ reachBytes)=true) (ht:ts[j]? = some 25) (hd:ds[j]? = some d):∃ m,MachAt w w.heap.size v m:=by
 obtain⟨v0,v1,v2,y0,y1,y2,n,rfl,rfl,rfl,t0,t1,t2⟩:=open_agg3 Try.underlying25 (by kernel_rfl) (by kernel_rfl) hv h;obtain⟨x0,e0,_,_⟩:=DataW.trod_int Try.underlying3 t0;obtain rfl:=wAc e0;have hsf:=zJp hs ht hd Try.underlying25;obtain⟨A,n1,c1,l,rfl,h1,h2,h3,h4⟩:=zNn t1 (fun el sp e=>sized_slice hsf (j:=1) rfl (by rw[← e];rfl) Try.underlying22);obtain⟨AF,n2,c2,l2,rfl,g1,g2,g3,g4⟩:=zMW t2 (fun el sp e=>sized_slice hsf (j:=2) rfl (by rw[← e];rfl) Try.underlying23);exact⟨⟨x0,l,l2⟩,A,AF,n1,c1,n2,c2,rfl,zh h1,zh g1,h2,g2,h3,g3,h4,g4⟩
end
end Go.Proofs.Ytkfdhpbnphojoaa
namespace Gm
theorem zLA {K:Nat→Bool} {s t:Nat} (h:s≤t):cntK K s≤cntK K t:=by
 induction t with
 | zero =>
  obtain rfl:s=0:=by omega
  exact wAm _
 | succ t ih =>
  rcases Nat.eq_or_lt_of_le h with e | e
  · subst e;exact wAm _
  ·have:=ih (by omega)
   simp only[cntK];omega
theorem zAo {K:Nat→Bool} {s t:Nat} (h:s<t) (hs:K s=true):cntK K s<cntK K t:=by
 have h1:cntK K (s+1)≤cntK K t:=zLA h;simp only[cntK,hs,if_true] at h1;omega
theorem zER {K:Nat→Bool} : ∀ N,(∀ s,s<N→K s=true)→cntK K N=N
 | 0,_=>rfl
 | N+1,h=>by simp only[cntK];rw[zER N (fun s hs=>h s (by omega)),h N (by omega)];rfl
/-! the order of arcs -/
theorem zDC:∀ (a b c:List Int),lessL a b=true→lessL b c=true→lessL a c=true
 | [],_,_,h,_=>by simp[lessL] at h
 | _::_,[],_,h,_=>by simp[lessL] at h
 | _::_,_::_,[],_,h=>by simp[lessL] at h
 | x::a,y::b,z::c,h1,h2=>by
  have ih:=zDC a b c;simp only[lessL] at h1 h2 ⊢;by_cases e1:x=y
  ·subst e1;rw[if_pos rfl] at h1;by_cases e2:x=z
   · subst e2;rw[if_pos rfl] at h2 ⊢;exact ih h1 h2
   · rw[if_neg e2] at h2 ⊢;exact h2
  ·rw[if_neg e1] at h1;have h1:=of_decide_eq_true h1;by_cases e2:y=z
   · subst e2;rw[if_neg e1];exact decide_eq_true h1
   ·rw[if_neg e2] at h2;have h2:=of_decide_eq_true h2;rw[if_neg (by omega)];exact decide_eq_true (by omega)
theorem zBj {α:Type} {R:α→α→Prop} (d:α) {l:List α} (h:l.Pairwise R) {k:Nat} (hk:k+1<l.length):R (l.getD k d) (l.getD (k+1) d):=by
 have:=wAh.1 h k (k+1) (by omega) hk (by omega)
 simpa[wAd,wAl hk,wAl (show k<l.length by omega)] using this
theorem zHL {a1 a2 a3 a4 a5 b1 b2 b3 b4 b5 c1 c4 d1 d4:Int} (h1:a1<b1→c1<d1) (h1':a1=b1→c1=d1) (h4:a4<b4→c4<d4) (h4':a4=b4→c4=d4) (h:lessL [a1,a2,a3,a4,a5] [b1,b2,b3,b4,b5]=true):lessL [c1,a2,a3,c4,a5] [d1,b2,b3,d4,b5]=true:=by
 simp only[lessL] at h ⊢;by_cases e1:a1=b1
 ·rw[if_pos e1] at h;rw[if_pos (h1' e1)];by_cases e2:a2=b2
  ·rw[if_pos e2] at h ⊢;by_cases e3:a3=b3
   ·rw[if_pos e3] at h ⊢;by_cases e4:a4=b4
    ·rw[if_pos e4] at h;rw[if_pos (h4' e4)];exact h
    ·rw[if_neg e4] at h
     have:=h4 (of_decide_eq_true h)
     rw[if_neg (by omega)];exact decide_eq_true this
   · rw[if_neg e3] at h ⊢;exact h
  · rw[if_neg e2] at h ⊢;exact h
 ·rw[if_neg e1] at h
  have:=h1 (of_decide_eq_true h)
  rw[if_neg (by omega)];exact decide_eq_true this
theorem zCx {K:Nat→Bool} {x y:Int} (hx:0≤x) (hk:K x.toNat=true) (h:x<y):((cntK K x.toNat:Nat):Int)<((cntK K y.toNat:Nat):Int):=by
 have:=zAo (K:=K) (show x.toNat<y.toNat by omega) hk
 omega
section
variable {m:Mach} (h:Valid m)
include h
end
structure Pl where
 w:Nat
 s:Nat
 i:Nat
 j:Nat
theorem Pl.ext' {a b:Pl} (h1:a.w=b.w) (h2:a.s=b.s) (h3:a.i=b.i) (h4:a.j=b.j):a=b:=by
 cases a;cases b;simp_all
def stp (u v:List Int) (a:Arc) (i j:Nat):Option (Nat×Nat) :=
 if a.i≠0∧(i=u.length∨u.getD i 0≠a.i) then none
 else if a.o≠0∧(j=v.length∨v.getD j 0≠a.o) then none
 else some (if a.i=0 then i else i+1,if a.o=0 then j else j+1)
open Go Go.RowKit
theorem zAP {w:World} {base sz n:Nat} {e:TypeId} {v:Value} {xs:List Value} (h:w.ownsRow base e sz v n xs) {g cap:Nat} (hv:v=.slice (some ⟨g,0,none⟩) n cap) (hn:0<n) (i:Nat) (u:Value) :
 (w.setCell ⟨g,i,none⟩ u).ownsRow base e sz v n (xs.set i u):=by
 refine⟨by rw[List.length_set];exact h.1,?_⟩;rcases h.2 with⟨_,h0⟩ | ⟨g',cap',cur,h1,h2,h3,h4,h5,h6,h7⟩
 · omega
 ·rw[hv] at h1;injection h1 with h1 _ hc
  injection h1 with h1
  injection h1 with h1
  subst h1;refine .inr ⟨g,cap',cur.setIfInBounds i u,by rw[hv,hc],h2,?_,h4,h5,by simpa using h6,?_⟩
  · simp[World.setCell,wAr,h3]
  · rw[Array.toList_setIfInBounds,List.take_set,h7]
theorem zDM {w:World} {base sz n:Nat} {e:TypeId} {v:Value} {xs:List Value} (h:w.ownsRow base e sz v n xs) {g cap:Nat} (hv:v=.slice (some ⟨g,0,none⟩) n cap) (hn:0<n) (j:Nat):w.frozen? ⟨g,j,none⟩=false:=by
 rcases h.2 with⟨_,h0⟩ | ⟨g',cap',cur,h1,h2,h3,h4⟩
 · omega
 ·rw[hv] at h1;injection h1 with h1 _ hc
  injection h1 with h1
  injection h1 with h1
  subst h1;simp[World.frozen?,h3]
theorem zCS {w:World} {base sz n:Nat} {e:TypeId} {v:Value} {xs:List Value} (h:w.ownsRow base e sz v n xs) (hn:0<n):∃ g cap,v=.slice (some ⟨g,0,none⟩) n cap∧base≤g∧g<w.heap.size∧n≤cap∧cap≤maxLen:=by
 rcases h.2 with⟨_,h0⟩ | ⟨g,cap,cur,h1,h2,h3,h4,h5,h6,h7⟩
 · omega
 ·refine⟨g,cap,h1,h2,?_,h4,h5⟩;rcases Nat.lt_or_ge g w.heap.size with hlt | hge
  · exact hlt
  · rw[Array.getElem?_eq_none hge] at h3;cases h3
theorem zDc {w:World} {base n s:Nat} {e:TypeId} {v:Value} {xs:List Value} (h:w.ownsRow base e s v n xs):w.drew.ownsRow base e s v n xs:=h
def lab (x:Int):List Int:=if x=0 then [] else [x]
inductive Pw (A:List Arc) (s:Int):Int→List Int→List Int→Nat→Prop
 | nil:Pw A s s [] [] 0
 | snoc {t:Int} {u v:List Int} {d:Nat} {a:Arc} : Pw A s t u v d→a∈A→a.f=t→Pw A s a.t (u++lab a.i) (v++lab a.o) (d+a.w.toNat)
theorem Pw.cast {A:List Arc} {s t t':Int} {u u' v v':List Int} {d d':Nat} (h:Pw A s t u v d) (ht:t=t') (hu:u=u') (hv:v=v') (hd:d=d'):Pw A s t' u' v' d':=by
 subst ht;subst hu;subst hv;subst hd;exact h
theorem Pw.one {A:List Arc} {a:Arc} (ha:a∈A):Pw A a.f a.t (lab a.i) (lab a.o) a.w.toNat :=
 (Pw.snoc (.nil) ha rfl).cast rfl (by simp) (by simp) (by simp)
theorem Pw.trans {A:List Arc} {s t r:Int} {u v u' v':List Int} {d d':Nat} (h:Pw A s t u v d) (h':Pw A t r u' v' d'):Pw A s r (u++u') (v++v') (d+d'):=by
 induction h' with
 | nil=>exact h.cast rfl (by simp) (by simp) (by simp)
 | snoc _ ha hf ih=>exact (Pw.snoc ih ha hf).cast rfl (by simp[wAy]) (by simp[wAy]) (by omega)
theorem Pw.mono {A B:List Arc} {s t:Int} {u v:List Int} {d:Nat} (h:Pw A s t u v d) (hs:∀ a∈A,a∈B):Pw B s t u v d:=by
 induction h with
 | nil=>exact .nil
 | snoc _ ha hf ih=>exact .snoc ih (hs _ ha) hf
theorem Pw.cons {A:List Arc} {s t:Int} {u v:List Int} {d:Nat} (h:Pw A s t u v d):(s=t∧u=[]∧v=[]∧d=0)∨∃ a∈A,a.f=s∧∃ u' v' d',Pw A a.t t u' v' d'∧u=lab a.i++u'∧v=lab a.o++v'∧d=a.w.toNat+d':=by
 induction h with
 | nil=>exact .inl ⟨rfl,rfl,rfl,rfl⟩
 | @snoc t u v d b hp hb hf ih =>
  right;rcases ih with⟨rfl,rfl,rfl,rfl⟩ | ⟨a,ha,hs,u',v',d',hq,rfl,rfl,rfl⟩
  · exact⟨b,hb,hf,[],[],0,.nil,by simp,by simp,by simp⟩
  · exact⟨a,ha,hs,_,_,_,.snoc hq hb hf,by simp,by simp,by omega⟩
def eps (f t w:Int):Arc:=⟨f,t,0,0,w⟩
/-! Union -/
/-! Concatenation -/
/-! Repetition -/
end Gm
namespace Go.Proofs.Ytkfdhpbnphojoaa
open Go.RowKit Gm
theorem zLX {W:World} {B n k:Nat} {A:Option Addr} {l:List Int} (h:Rd W B 1 A n (intCell l)) (hk:k≤n):Rd W B 1 A k (intCell (l.take k)):=fun h0=>by
 obtain⟨b,off,e,hb,hc⟩:=h (by omega);refine⟨b,off,e,hb,fun i j hi hj=>?_⟩;rw[hc i j (by omega) hj];unfold intCell;rw[wAd,wAd,wAA hi]
theorem zLR {W:World} {B n k:Nat} {A:Option Addr} {l:List Int} (h:Rd W B 1 A n (intCell l)) (hk:k≤n) (hn:k<n):Rd W B 1 (A.map (·.add k)) (n-k) (intCell (l.drop k)):=fun h0=>by
 obtain⟨b,off,rfl,hb,hc⟩:=h (by omega);refine⟨b,off+k,by simp[Addr.add],hb,fun i j hi hj=>?_⟩
 have:=hc (k+i) j (by omega) hj
 unfold intCell at this ⊢;rw[wAd] at this ⊢;rw[List.getElem?_drop,← this];congr 2;omega
theorem zGB {A:Option Addr} {n c k:Nat} (hk:k≤n) (hc:n≤c) (hb:n≤big):∃ V,(∀ W:World,(Instr.slice 26 (.slice A n c) none (some (.int .i64 (k:Int))) none).run Try.prog W=.ok V W)∧∀ W B l,Nums W B (.slice A n c) l→Nums W B V (l.take k):=by
 refine⟨sliced A 0 k c 1,fun W=>?_,fun W B l h=>?_⟩
 ·have h1:(k:Int)≤(c:Int):=by omega
  have h0:(0:Int)≤(k:Int):=by omega
  go_simp
 ·obtain⟨A',n',c',e,h1,h2,h3,h4⟩:=h;injection e with e1 e2 e3
  subst e1 e2 e3;have e:sliced A 0 k c 1=.slice (if c=0 then A else A.map (·.add 0)) k c:=by simp[sliced]
  have eA:(if c=0 then A else A.map (·.add 0))=A:=by
   split
   · rfl
   · cases A<;>simp[Addr.add]
  rw[e,eA];exact⟨A,k,c,rfl,zh (by rw[wAq,h1.o];omega),by omega,by omega,zLX h4 hk⟩
theorem zG0 {A:Option Addr} {n c k:Nat} (hk:k≤n) (hc:n≤c) (hb:n≤big):∃ V,(∀ W:World,(Instr.slice 26 (.slice A n c) (some (.int .i64 (k:Int))) none none).run Try.prog W=.ok V W)∧∀ W B l,Nums W B (.slice A n c) l→Nums W B V (l.drop k):=by
 refine⟨sliced A k n c 1,fun W=>?_,fun W B l h=>?_⟩
 ·have h1:(k:Int)≤(n:Int):=by omega
  have h0:(0:Int)≤(k:Int):=by omega
  go_simp
 ·obtain⟨A',n',c',e,h1,h2,h3,h4⟩:=h;injection e with e1 e2 e3
  subst e1 e2 e3;have e:sliced A k n c 1=.slice (if c=k then A else A.map (·.add k)) (n-k) (c-k):=by simp[sliced]
  rw[e];refine⟨_,n-k,c-k,rfl,zh (by rw[wAB,h1.o]),by omega,by omega,?_⟩;by_cases hn:k<n
  · rw[if_neg (by omega)];exact zLR h4 hk hn
  ·have:n-k=0:=by omega
   rw[this];exact Rd.zero
open Go.ChangeShapes Go.WideShapes Go.ChangeAt Go.RowKit Gm
section
variable {H:Type} {enc:TypeId×Value→H} {P:Program}
theorem zCG {f:Func} {s:ChangeSpec} {apart fresh handsOn again:Bool} {W W':World} {args:Array Value} {v:Value} {ds gs:List (DataW H)} {before pa pv:List MemPlace}
 (hW:DataW.Whole enc P f.params.toList s.vars apart W args.toList ds gs before)
 (hres:∀ (b:Nat) (sp:Nat→Bool) (hd:Bool),DataW.TrodAll enc P W' b sp hd f.resultTypes.toList (v.resultList f.resultTypes.size) (s.fn H (ds++gs)).results [])
 (hargs:∀ sp:Nat→Bool,(∀ p∈before,sp p.block=true)→DataW.TrodAll enc P W' 0 sp true f.params.toList args.toList (s.fn H (ds++gs)).args pa)
 (hvars:∀ sp:Nat→Bool,(∀ p∈before,sp p.block=true)→DataW.TrodVars enc P W' sp s.vars (s.fn H (ds++gs)).vars pv)
 (hps:before=pa++pv) (hb:Below W.heap.size W W')
 (hok:∀ (j:Nat) (t:TypeId) (r:Value),f.resultTypes[j]? = some t→(v.resultList f.resultTypes.size)[j]? = some r→Value.okWide P W' .any 0 t r) :
 s.post enc P f apart fresh handsOn again W args v W':=by
 have hlt:∀ p∈before,p.block<W.heap.size:=fun p hp=>hW.lt p hp
 have hold:∀ p∈before,(fun b=>decide (b<W.heap.size)) p.block=true:=fun p hp=>by simpa using hlt p hp
 refine⟨ds,gs,before,[],pa,pv,hW,hres _ _ _,hargs _ hold,hvars _ hold,World.keptBut_mono (fun p hp=>⟨hp,?_⟩) (hb.frame (· ∈ before)),fun _=>?_⟩
 ·rw[hps,wAe] at hp;exact Or.inr hp
 ·obtain⟨_,_,_,_,_,hz,hn⟩:=hW;refine⟨hok,_,_,([]++pa)++pv,⟨[]++pa,pv,trodAll_append (hargs _ (fun _ _=>rfl)) (hres _ _ _),hvars _ (fun _ _=>rfl),rfl,?_,?_⟩,?_⟩
  ·intro b off hp;(have hin:MemPlace.cell b off∈before:=by rw[hps];simpa using hp);rw[hb.frozen (hlt _ hin)];exact hz b off hin
  ·intro ha
   have:=hn ha
   rw[hps] at this;simpa using this
  ·intro p hp _;rw[hps];simpa using hp
end
theorem own':ownKnob Try.prog.godebug=none:=by kernel_rfl
theorem laidOut':laidOutB Try.prog=true:=by kernel_rfl
theorem zNi:Try.prog.cellsOf 3=1:=by kernel_rfl
theorem zNR:Try.prog.bytesOf 3=8:=by kernel_rfl
section
variable {H:Type} {enc:TypeId×Value→H} {w:World} {base:Nat} {spare:Nat→Bool} {held:Bool}
theorem zLz {w:World} {a:Addr} {v:Value} (h:w.cell? a=some v):a.spot=none∧a.block<w.heap.size:=by
 unfold World.cell? at h;split at h
 ·rename_i hb
  refine⟨?_,(wAa.1 hb).1⟩;split at h
  · cases h
  · rename_i hs;simpa using hs
 · cases h
theorem zIe {r:Reach} {b0:Nat} {v:Value} {d:DataW H} {p:List MemPlace} {ts:List TypeId} {ds:List (DataW H)} {j:Nat} (hv:Value.okWide Try.prog w r b0 26 v) (h:DataW.Trod enc Try.prog w base spare held 26 v d p)
 (hs:(DataW.weightsEach Try.prog ts ds).all (· ≤ reachBytes)=true) (ht:ts[j]? = some 26) (hd:ds[j]? = some d):∃ l,Nums w w.heap.size v l:=by
 obtain⟨a0,len,cap,rfl⟩:=okWide_slice Try.underlying26 hv;obtain⟨fuel,hf⟩:=h;rcases open_ints Try.underlying26 Try.underlying3 zNi hf with⟨hcs,hx⟩ | ⟨a,len',cap',zs,hcs,_,hl,hm,hz,hx,hcell,hwz⟩
 ·have e:Value.slice a0 len cap=.slice none 0 0:=by simpa[Value.cells] using hcs
  rw[e];exact⟨[],none,0,0,rfl,zh rfl,wAm _,by simp[big],Rd.zero⟩
 ·have e:Value.slice a0 len cap=.slice (some a) len' cap':=by simpa[Value.cells] using hcs
  rw[e];have hlz:len'≤zs.length:=by rw[hz];split<;>omega
  have hdd:d=.slice (lits .i64 (zs.take len')) (lits .i64 (zs.drop len')):=congrArg Prod.fst hx;have hsz:=sized_slice hs ht (hd.trans (congrArg some hdd)) Try.underlying26;rw[zNR] at hsz
  have hbig:len'≤big:=by
   simp only[reachBytes,lits,wAQ,wAq,wAB] at hsz;unfold big;omega
  refine⟨zs.take len',some a,len',cap',rfl,zh (by rw[wAq];omega),hl,hbig,fun hn=>?_⟩;have h0:=hcell 0 (by omega);have ha:a.add 0=a:=by unfold Addr.add;rw[if_pos rfl]
  rw[ha] at h0;obtain⟨hsp,hb⟩:=zLz h0;obtain⟨b,off,spot⟩:=a;simp only at hsp;subst hsp;refine⟨b,off,rfl,hb,fun i jj hi hj=>?_⟩;obtain rfl:jj=0:=by omega
  have:=hcell i (by omega)
  have e2:(⟨b,off,none⟩:Addr).add i=⟨b,off+(i*1+0),none⟩:=by unfold Addr.add;split<;>simp_all
  rw[e2] at this;rw[this];simp[intCell,hi]
end
end Go.Proofs.Ytkfdhpbnphojoaa
namespace Gm
theorem zEz:∀ l:List Int,lessL l l=false
 | []=>rfl
 | x::l=>by simp[lessL,zEz l]
theorem zBg (a:Arc):arcLess a a=false:=zEz _
theorem zA4 {a b c:Arc} (h1:arcLess a b=true) (h2:arcLess b c=true):arcLess a c=true:=zDC _ _ _ h1 h2
theorem zFT:∀ (l k:List Int),l.length=k.length→lessL l k=true∨l=k∨lessL k l=true
 | [],[],_=>.inr (.inl rfl)
 | x::l,y::k,h=>by
  rcases Int.lt_trichotomy x y with h1 | h1 | h1
  · left;simp[lessL,h1,show x≠y by omega]
  ·subst h1;rcases zFT l k (by simpa using h) with h2 | h2 | h2
   · left;simp[lessL,h2]
   · right;left;rw[h2]
   · right;right;simp[lessL,h2]
  · right;right;simp[lessL,h1,show y≠x by omega]
theorem zK0 {a b:Arc} (h:arcKey a=arcKey b):a=b:=by
 simp only[arcKey,List.cons.injEq,and_true] at h;exact Arc.ext' h.1 h.2.2.2.1 h.2.1 h.2.2.1 h.2.2.2.2
theorem zBy (a b:Arc):arcLess a b=true∨a=b∨arcLess b a=true:=by
 rcases zFT (arcKey a) (arcKey b) rfl with h | h | h
 · exact .inl h
 · exact .inr (.inl (zK0 h))
 · exact .inr (.inr h)
def zB3 (l:List Arc):Prop:=l.Pairwise fun a b=>arcLess b a=false
theorem zCE {a b:Arc} (h:arcLess a b=true):arcLess b a=false:=by
 cases e:arcLess b a
 · rfl
 · have:=zA4 h e;rw[zBg] at this;cases this
theorem zDx:∀ {l k:List Arc},zB3 l→zB3 k→l.Perm k→l=k
 | [],k,_,_,hp=>(List.nil_perm.1 hp).symm
 | a::l,[],_,_,hp=>absurd hp.length_eq (by simp)
 | a::l,b::k,hl,hk,hp=>by
  have hl':=wAb.1 hl;have hk':=wAb.1 hk
  have hab:a=b:=by
   have h1:a∈b::k:=hp.mem_iff.1 (by simp);have h2:b∈a::l:=hp.mem_iff.2 (by simp);rcases wAf.1 h1 with h1 | h1
   · exact h1
   ·rcases wAf.1 h2 with h2 | h2
    · exact h2.symm
    ·have g1:=hk'.1 a h1;have g2:=hl'.1 b h2;rcases zBy a b with h | h | h
     · rw[g1] at h;cases h
     · exact h
     · rw[g2] at h;cases h
  subst hab;rw[zDx hl'.2 hk'.2 ((List.perm_cons a).1 hp)]
def cpt (e:Arc→Arc→Bool):Arc→List Arc→List Arc
 | _,[]=>[]
 | p,a::l=>if e p a=true then cpt e a l else a::cpt e a l
def compact (e:Arc→Arc→Bool):List Arc→List Arc
 | []=>[]
 | a::l=>a::cpt e a l
theorem zJQ (e:Arc→Arc→Bool):∀ (l:List Arc) (p a:Arc),cpt e p (l++[a])=cpt e p l++(if e ((p::l).getLast (by simp)) a=true then [] else [a])
 | [],p,a=>by
  simp only[List.nil_append,cpt,List.getLast_singleton];by_cases h:e p a=true<;>simp[h]
 | b::l,p,a=>by
  have ih:=zJQ e l b a;have hl:(p::b::l).getLast (by simp)=(b::l).getLast (by simp):=List.getLast_cons (by simp);simp only[wAC,cpt,ih,hl];by_cases h:e p b=true<;>simp[h]
theorem zHF (e:Arc→Arc→Bool) {l:List Arc} (hl:l≠[]) (a:Arc):compact e (l++[a])=compact e l++(if e (l.getLast hl) a=true then [] else [a]):=by
 cases l with
 | nil=>exact absurd rfl hl
 | cons b l=>simp only[wAC,compact,zJQ]
theorem zLH (e:Arc→Arc→Bool):∀ (l:List Arc) (p:Arc),(cpt e p l).length≤l.length
 | [],_=>wAm _
 | b::l,p=>by
  have:=zLH e l b
  unfold cpt;split<;>simp<;>omega
theorem zDw (e:Arc→Arc→Bool) (l:List Arc):(compact e l).length≤l.length:=by
 cases l with
 | nil=>exact wAm _
 | cons b l=>have:=zLH e l b;simp[compact];omega
def eqA (a b:Arc):Bool:=decide (a=b)
theorem zNa:∀ (l:List Arc) (p x:Arc),x∈p::cpt eqA p l↔x∈p::l
 | [],p,x=>by simp[cpt]
 | b::l,p,x=>by
  have ih:=zNa l b x;unfold cpt;by_cases h:eqA p b=true
  ·rw[if_pos h];have hb:p=b:=of_decide_eq_true h;subst hb;rw[ih];simp
  · rw[if_neg h,wAf,ih];simp
theorem zFY {l:List Arc} {x:Arc} : x∈compact eqA l↔x∈l:=by
 cases l with
 | nil=>rfl
 | cons b l=>exact zNa l b x
theorem zF6:∀ (l:List Arc) (p:Arc),zB3 (p::l)→(p::cpt eqA p l).Pairwise fun a b=>arcLess a b=true
 | [],p,_=>by simp[cpt]
 | b::l,p,h=>by
  have h':=wAb.1 h;have ih:=zF6 l b h'.2;unfold cpt;by_cases e:eqA p b=true
  ·rw[if_pos e];have hb:p=b:=of_decide_eq_true e;subst hb;exact ih
  ·rw[if_neg e];have hne:p≠b:=fun h=>e (decide_eq_true h)
   have hlt:arcLess p b=true:=by
    rcases zBy p b with g | g | g
    · exact g
    · exact absurd g hne
    · rw[h'.1 b (by simp)] at g;cases g
   refine wAb.2 ⟨fun x hx=>?_,ih⟩;rcases wAf.1 hx with rfl | hx
   · exact hlt
   · exact zA4 hlt ((wAb.1 ih).1 x hx)
theorem zDm {l:List Arc} (h:zB3 l):(compact eqA l).Pairwise fun a b=>arcLess a b=true:=by
 cases l with
 | nil=>exact List.Pairwise.nil
 | cons b l=>exact zF6 l b h
def likeA (a b:Arc):Bool:=decide (a.f=b.f)&&decide (a.i=b.i)&&decide (a.o=b.o)&&decide (a.t=b.t)
def insA (a:Arc):List Arc→List Arc
 | []=>[a]
 | b::l=>if arcLess a b=true then a::b::l else b::insA a l
def srtA:List Arc→List Arc
 | []=>[]
 | a::l=>insA a (srtA l)
theorem zE2 (a:Arc):∀ l,(insA a l).Perm (a::l)
 | []=>.refl _
 | b::l=>by
  unfold insA;split
  · exact .refl _
  · exact ((zE2 a l).cons b).trans (.swap a b l)
theorem zAR:∀ l,(srtA l).Perm l
 | []=>.refl _
 | a::l=>(zE2 a _).trans ((zAR l).cons a)
theorem zFI (a:Arc):∀ l,zB3 l→zB3 (insA a l)
 | [],_=>by simp[insA,zB3]
 | b::l,h=>by
  have h':=wAb.1 h;unfold insA;by_cases e:arcLess a b=true
  ·rw[if_pos e];refine wAb.2 ⟨fun x hx=>?_,h⟩;rcases wAf.1 hx with rfl | hx
   · exact zCE e
   ·cases g:arcLess x a
    · rfl
    · have:=zA4 g e;rw[h'.1 x hx] at this;cases this
  ·rw[if_neg e];refine wAb.2 ⟨fun x hx=>?_,zFI a l h'.2⟩;rcases wAf.1 ((zE2 a l).mem_iff.1 hx) with rfl | hx
   ·cases g:arcLess x b
    · rfl
    · exact absurd g e
   · exact h'.1 x hx
theorem zBm:∀ l,zB3 (srtA l)
 | []=>List.Pairwise.nil
 | a::l=>zFI a _ (zBm l)
theorem zMZ {l k:List Arc} (hk:zB3 k) (hp:k.Perm l):k=srtA l:=zDx hk (zBm l) (hp.trans (zAR l).symm)
open Go Go.RowKit Go.Proofs Go.Sort
instance:Inhabited Arc:=⟨dA⟩
def encA (a:Arc):List Value:=[.int .i64 a.f,.int .i64 a.t,.int .i64 a.i,.int .i64 a.o,.int .i64 a.w]
theorem zEY (a b:Arc):ltOf arcCmp a b=arcLess a b:=by
 rw[zBn,ltOf];by_cases h:arcCmp a b<0
 · rw[decide_eq_true h];simp;omega
 · rw[decide_eq_false h];simp;omega
theorem zQY:SWO (ltOf arcCmp) where
 irrefl x:=by rw[zEY];exact zBg x
 trans x y z h1 h2:=by rw[zEY] at *;exact zA4 h1 h2
 ntrans x y z h1 h2:=by
  rw[zEY] at *;cases e:arcLess x z
  · rfl
  ·exfalso;rcases zBy y x with h | h | h
   · have:=zA4 h e;rw[h2] at this;cases this
   · subst h;rw[h2] at e;cases e
   · rw[h1] at h;cases h
theorem zOG (a:Arc) (j:Nat) (hj:j<5):(encA a)[j]? = some (.int .i64 (fld a j)):=by
 rcases (by omega:j=0∨j=1∨j=2∨j=3∨j=4) with rfl | rfl | rfl | rfl | rfl<;>rfl
theorem zG2 (l:List Arc) (t:Nat) (h:t<l.length*5):(arcRow l)[t]? = some (flatK encA 5 l.toArray)[t]!:=by
 have hi:t/5<l.length:=by omega
 have hj:t%5<5:=Nat.mod_lt _ (by omega);have h1:=zAr l (t/5) (t%5) hi hj;rw[show t/5*5+t%5=t by omega] at h1;rw[h1,get_flatK _ _ _ _ (by simpa using h)];have h2:=zOG (l.getD (t/5) dA) (t%5) hj
 have h3:l.toArray[t/5]! = l.getD (t/5) dA:=by
  rw[getElem!_pos l.toArray (t/5) (by simpa using hi)];simp[hi]
 rw[h3];congr 1;rw[List.getElem!_eq_getElem?_getD,h2];rfl
theorem zNb {w:World} {base n c g:Nat} {e:TypeId} {l:List Arc} (h:w.ownsRow base e 5 (.slice (some ⟨g,0,none⟩) n c) n (arcRow l)) (hl:l.length=n) (hn:0<n):HoldsK encA 5 w g 0 l.toArray:=by
 intro j hj;rw[size_flatK] at hj;have hj':j<l.length*5:=by simpa using hj
 have hc:=h.cells (g:=g) rfl j _ (zG2 l j hj');have hadd:(⟨g,0,none⟩:Addr).add j=⟨g,0+j,none⟩:=by unfold Addr.add;split<;>simp_all
 rw[hadd] at hc;refine⟨hc,?_⟩;rcases h.2 with⟨_,h0⟩ | ⟨g',cap',cur,h1,h2,h3,h4⟩
 · omega
 ·injection h1 with h1 _ hc
  injection h1 with h1
  injection h1 with h1
  subst h1;simp[World.frozen?,h3]
theorem zLn {w:World} {base n c g m:Nat} {e:TypeId} {l k:List Arc} {os:Array Obj} (h:w.ownsRow base e 5 (.slice (some ⟨g,0,none⟩) n c) n (arcRow l)) (hl:l.length=n) (hk:k.length=n) (hn:0<n) :
 (sortWorldK encA 5 w g 0 m k.toArray os).ownsRow base e 5 (.slice (some ⟨g,0,none⟩) n c) n (arcRow k)∧w.grownBy (sortWorldK encA 5 w g 0 m k.toArray os) (some g):=by
 rcases h.2 with⟨_,h0⟩ | ⟨g',cap',cur,h1,h2,h3,h4,h5,h6,h7⟩
 · omega
 ·injection h1 with h1 _ hc
  injection h1 with h1
  injection h1 with h1
  subst h1;have hsz:g<w.heap.size:=(wAa.1 h3).1
  have hblk:(sortWorldK encA 5 w g 0 m k.toArray os).heap[g]? = some (.cells (putCells id 0 (flatK encA 5 k.toArray) cur) e (0,0)):=by
   simp only[sortWorldK,putRowK,putRow,grow,mapBlock,Sort.ahead];rw[wAx (by simpa using hsz),wAr,if_pos rfl,h3];rfl
  refine⟨⟨by rw[zAv,hk],.inr ⟨g,cap',putCells id 0 (flatK encA 5 k.toArray) cur,by rw[hc],h2,hblk,h4,h5,?_,?_⟩⟩,?_⟩
  · simp[putCells,h6]
  ·(have hle:n*5≤cur.size:=by rw[h6];omega);apply wAL;intro t;by_cases ht:t<n*5
   ·rw[wAA ht,zG2 k t (by rw[hk];exact ht)];(have hs:t<cur.size:=by omega);simp[putCells,hs,hk,ht]
   · rw[wAD (by simp[putCells];omega),wAD (by rw[zAv];omega)]
  ·refine⟨rfl,rfl,rfl,?_,?_⟩
   · simp[sortWorldK,putRowK,putRow,grow,mapBlock,Sort.ahead]
   ·intro q hq hne;simp only[sortWorldK,putRowK,putRow,grow,mapBlock,Sort.ahead];rw[wAx (by simpa using hq),wAr,if_neg (fun e=>hne (by rw[e]))]
theorem zDa {w:World} {base sz n:Nat} {e:TypeId} {v:Value} {xs:List Value} (h:w.ownsRow base e sz v n xs) (hn:0<n):∃ g cap,v=.slice (some ⟨g,0,none⟩) n cap∧base≤g∧g<w.heap.size∧n≤cap∧cap≤maxLen:=by
 rcases h.2 with⟨_,h0⟩ | ⟨g,cap,cur,h1,h2,h3,h4,h5,_⟩
 · omega
 · exact⟨g,cap,h1,h2,(wAa.1 h3).1,h4,h5⟩
end Gm
namespace Go.Proofs.Ytkfdhpbnphojoaa
open Go.RowKit Gm Go.Sort Go.Shelf
theorem zLy (a b:Arc) (w:World) :
 Calls Try.prog 81 #[.agg #[.int .i64 a.f,.int .i64 a.t,.int .i64 a.i,.int .i64 a.o,.int .i64 a.w],.agg #[.int .i64 b.f,.int .i64 b.t,.int .i64 b.i,.int .i64 b.o,.int .i64 b.w]] w fun e w'=>e=.returned (.int .i64 (arcCmp a b))∧∃ q os',w'=grow (w.drewN q) os':=by
 go_enter Try.func81,Try.ntmps81
 go_wp2;refine zA5 25 (by kernel_rfl) (by kernel_rfl) ?_;simp only[wAG,List.take_zero,wAH,wAS]
 repeat (quiet_step ((go_at_call 109;exact Calls.quiet_of_same ((zFr _ _ _).mono (fun e w' h=>⟨h.1,h.2.symm⟩)))))
 refine wpQuiet_nil ?_;intro _ hw';obtain⟨nq,hw''⟩:=hw';subst hw'';go_wp2_with fail;refine (zQB (some ⟨w.heap.size+1+1,0,none⟩) 5 5 [cmpI a.f b.f,cmpI a.i b.i,cmpI a.o b.o,cmpI a.t b.t,cmpI a.w b.w] _ (w.heap.size+1+1+1) rfl (by omega) ?_).mono ?_
 ·intro _;refine⟨_,_,rfl,by omega,fun i j hi hj=>?_⟩;obtain rfl:j=0:=by omega
  rcases (by omega:i=0∨i=1∨i=2∨i=3∨i=4) with rfl | rfl | rfl | rfl | rfl<;>go_simp<;>rfl
 ·rintro e w' ⟨rfl,rfl⟩;go_wp2
  go_ret
  refine⟨rfl,nq,?os,?eq⟩
  case eq =>
   rw[alloc_eq_grow,alloc_eq_grow,alloc_eq_grow,grow_grow];exact grow_grow (w.drewN nq) _ _
theorem isAggA:∀ w,(isAgg (Try.laySortA_ren.t 24)).run Try.prog w=.ok true w:=fun w=>by kernel_rfl
theorem sizeOfA:∀ w,(Go.sizeOf (Try.laySortA_ren.t 24)).run Try.prog w=.ok 5 w:=fun w=>by kernel_rfl
theorem zPR (l:List Arc) (n c g base:Nat) (w:World) (hl:l.length=n) (hn:0<n) (hn2:n≤1000000000) (h:w.ownsRow base 64 5 (.slice (some ⟨g,0,none⟩) n c) n (arcRow l)) :
 Calls Try.prog 80 #[.slice (some ⟨g,0,none⟩) n c,.func (.func 81) #[] #[]] w fun e w'=>e=.returned (.tuple #[])∧w'.ownsRow base 64 5 (.slice (some ⟨g,0,none⟩) n c) n (arcRow (srtA l))∧w.grownBy w' (some g):=by
 have eg:∀ args w,(callFunc 81 args).run Try.prog w=.ok (.enter 81 args) w:=enters_of Try.func81 (by kernel_rfl) rfl;have hblk:=(h.lt g rfl).2
 have hcon:=AnyQ.slices_SortFunc Try.laySortA 5 isAggA sizeOfA encA (fun _=>rfl) (fun x v hv=>by simp[encA] at hv;rcases hv with rfl | rfl | rfl | rfl | rfl<;>rfl) arcCmp zQY 81 #[] g 0 c l.toArray w eg
  (fun _ _ _ _ x y=>zLy x y _) (zNb h hl hn) hblk (by simp;omega)
 rw[show l.toArray.size=n by simpa using hl] at hcon;change Calls Try.prog 80 _ _ _ at hcon;refine hcon.mono ?_;rintro e w' ⟨rfl,d',m,os,hp,hs,rfl⟩;have hz:d'.size=n:=by have:=hp.1;simpa[hl] using this
 have hperm:d'.toList.Perm l:=by
  have h2:=hp.2.2;rw[wAv (by omega),wAv (by simp;omega)] at h2;simpa using h2
 have hsort:zB3 d'.toList:=by
  refine wAh.2 fun i j hi hj hij=>?_
  have h2:=hs i j (Nat.zero_le _) hij (by simpa[hz] using hj);rw[zEY,getElem!_pos d' j (by simpa using hj),getElem!_pos d' i (by simpa using hi)] at h2;simpa using h2
 have hd:d'=(srtA l).toArray:=by
  have:=zMZ hsort hperm
  rw[← this]
 have hkl:(srtA l).length=n:=by rw[(zAR l).length_eq,hl]
 rw[hd];exact⟨rfl,zLn h hl hkl hn⟩
end Go.Proofs.Ytkfdhpbnphojoaa
namespace Gm
def swA (l:List Arc) (k:Nat):List Arc:=(l.set (k+1) (l.getD k dA)).set k (l.getD (k+1) dA)
theorem zHh:∀ (l:List Arc) (k:Nat),k+1<l.length→(swA l k).Perm l
 | [],k,h=>by simp at h
 | [a],k,h=>by simp at h
 | a::b::l,0,_=>by
  unfold swA;simp only[wAT,wAJ,List.set_cons_zero,List.getD_cons_zero,wAt];exact .swap ..
 | a::b::l,k+1,h=>by
  have ih:=zHh (b::l) k (by simpa using h);unfold swA at ih ⊢;simp only[wAJ,wAt] at ih ⊢;exact .cons _ ih
theorem zOd (l:List Arc) (k m:Nat) (h:k+1<l.length):(swA l k).getD m dA=if m=k then l.getD (k+1) dA else if m=k+1 then l.getD k dA else l.getD m dA:=by
 unfold swA;rw[wAd,wAM];by_cases e1:k=m
 ·subst e1;rw[if_pos rfl,if_pos (by simp;omega),if_pos rfl];rfl
 ·rw[if_neg e1,if_neg (fun e=>e1 e.symm),wAM];by_cases e2:k+1=m
  ·subst e2;rw[if_pos rfl,if_pos h,if_pos rfl];rfl
  · rw[if_neg e2,if_neg (fun e=>e2 e.symm),wAd]
theorem zLe {a b c:Arc} (h1:arcLess a b=true) (h2:arcLess c b=false):arcLess a c=true:=by
 rcases zBy b c with h | h | h
 · exact zA4 h1 h
 · rw[← h];exact h1
 · rw[h2] at h;cases h
def zGa (l:List Arc) (i:Nat):Prop:=∀ p q,p<q→q<i→arcLess (l.getD q dA) (l.getD p dA)=false
def Ins (l:List Arc) (i j:Nat):Prop :=
 (∀ p q,p<q→q≤i→p≠j→q≠j→arcLess (l.getD q dA) (l.getD p dA)=false)∧∀ q,j<q→q≤i→arcLess (l.getD q dA) (l.getD j dA)=false
theorem zIR {l:List Arc} {i:Nat} (h:zGa l i):Ins l i i:=⟨fun p q h1 h2 h3 h4=>h p q h1 (by omega),fun q h1 h2=>by omega⟩
theorem zKi {l:List Arc} {i k:Nat} (hi:i<l.length) (hk:k+1≤i) (h:Ins l i (k+1)) (hl:arcLess (l.getD (k+1) dA) (l.getD k dA)=true):Ins (swA l k) i k:=by
 have hg:=fun m=>zOd l k m (by omega)
 obtain⟨h1,h2⟩:=h;constructor
 ·intro p q hpq hq hp hq';rw[hg,hg,if_neg hp,if_neg hq'];by_cases e1:q=k+1
  ·rw[if_pos e1,if_neg (by omega)];exact h1 p k (by omega) (by omega) (by omega) (by omega)
  ·rw[if_neg e1];by_cases e2:p=k+1
   ·rw[if_pos e2];exact h1 k q (by omega) hq (by omega) e1
   ·rw[if_neg e2];exact h1 p q hpq hq e2 e1
 ·intro q hq1 hq2;rw[hg,hg,if_neg (by omega),if_pos rfl];by_cases e1:q=k+1
  · rw[if_pos e1];exact zCE hl
  · rw[if_neg e1];exact h2 q (by omega) hq2
theorem zGS {l:List Arc} {i j:Nat} (hj:j≤i) (h:Ins l i j) (hl:j=0∨∃ k,j=k+1∧arcLess (l.getD j dA) (l.getD k dA)=false):zGa l (i+1):=by
 obtain⟨h1,h2⟩:=h;intro p q hpq hq;by_cases e1:p=j
 · subst e1;exact h2 q hpq (by omega)
 ·by_cases e2:q=j
  ·subst e2;rcases hl with hl | ⟨k,hk,hl⟩
   · omega
   ·by_cases e3:p=k
    · subst e3;exact hl
    ·cases hc:arcLess (l.getD q dA) (l.getD p dA)
     · rfl
     ·have:=zLe hc (h1 p k (by omega) (by omega) e1 (by omega))
      rw[hl] at this;cases this
  · exact h1 p q hpq (by omega) e1 e2
theorem zGg (l:List Arc):zGa l 1:=fun p q h1 h2=>by omega
theorem zJ0 {l k:List Arc} {i:Nat} (h:zGa l i) (hi:l.length≤i) (hp:l.Perm k):l=srtA k:=by
 refine zMZ ?_ hp;unfold zB3;rw[wAh];intro p q hp hq hpq
 have:=h p q hpq (by omega)
 simpa[wAw,hp,hq] using this
def sameA (red:Bool) (a b:Arc):Bool:=if red then likeA a b else eqA a b
theorem zKw (red:Bool) (p a:Arc):sameA red p a=(likeA a p&&(red||decide (a.w=p.w))):=by
 have hl:likeA a p=likeA p a:=by
  unfold likeA;rw[decide_eq_decide.2 (show a.f=p.f↔p.f=a.f from eq_comm),decide_eq_decide.2 (show a.i=p.i↔p.i=a.i from eq_comm),decide_eq_decide.2 (show a.o=p.o↔p.o=a.o from eq_comm),decide_eq_decide.2 (show a.t=p.t↔p.t=a.t from eq_comm)]
 cases red
 ·unfold sameA eqA;rw[if_neg (by simp),Bool.false_or,hl];unfold likeA;obtain⟨pf,pt,pi,po,pw⟩:=p;obtain⟨af,at_,ai,ao,aw⟩:=a;rw[Bool.eq_iff_iff];simp;constructor
  · rintro⟨rfl,rfl,rfl,rfl,rfl⟩;simp
  · rintro⟨⟨⟨⟨rfl,rfl⟩,rfl⟩,rfl⟩,rfl⟩;simp
 ·unfold sameA;rw[if_pos rfl,Bool.true_or,Bool.and_true,hl]
theorem zAI {e:Arc→Arc→Bool} {l:List Arc} {k:Nat} {a:Arc} (hk:k<l.length) (ha:l.getD k dA=a) :
 compact e (l.take (k+1))=compact e (l.take k)++(if 0<k∧e (l.getD (k-1) dA) a=true then [] else [a]):=by
 have ht:l.take (k+1)=l.take k++[a]:=by
  rw[List.take_succ_eq_append_getElem hk];congr 1;simp[wAw,hk] at ha;rw[ha]
 rw[ht];by_cases h0:k=0
 ·subst h0;rw[if_neg (by omega)];rfl
 ·have hne:l.take k≠[]:=by
   intro h;(have h2:(l.take k).length=k:=by rw[wAq];omega);rw[h] at h2;simp at h2;omega
  rw[zHF e hne]
  have hlast:(l.take k).getLast hne=l.getD (k-1) dA:=by
   rw[List.getLast_eq_getElem];(have h1:k-1<l.length:=by omega);simp[wAw,h1,Nat.min_eq_left (Nat.le_of_lt hk)]
  rw[hlast];by_cases hc:e (l.getD (k-1) dA) a=true
  · rw[if_pos hc,if_pos ⟨by omega,hc⟩]
  · rw[if_neg hc,if_neg (fun h=>hc h.2)]
open Go Go.MapKept Go.RowKit
open Go.Maps (Keyed)
section
variable {α:Type} [DecidableEq α]
def lk (L:List (α×Value)) (a:α):Option Value:=(L.find? fun p=>decide (p.1=a)).map (·.2)
def upL (L:List (α×Value)) (a:α) (v:Value):List (α×Value):=if (lk L a).isSome=true then L.map (fun p=>if p.1=a then (a,v) else p) else L++[(a,v)]
@[simp] theorem lk_nil (a:α):lk [] a=none:=rfl
theorem zBL (p:α×Value) (L:List (α×Value)) (a:α):lk (p::L) a=if p.1=a then some p.2 else lk L a:=by
 unfold lk;by_cases h:p.1=a
 · rw[List.find?_cons_of_pos (by simpa using h),if_pos h];rfl
 · rw[List.find?_cons_of_neg (by simpa using h),if_neg h]
theorem zFe (L K:List (α×Value)) (a:α):lk (L++K) a=(lk L a).or (lk K a):=by
 induction L with
 | nil=>simp
 | cons p L ih =>
  rw[wAC,zBL,zBL,ih];by_cases h:p.1=a<;>simp[h]
theorem zPz (L:List (α×Value)) (a b:α) (v:Value):lk (L.map (fun p=>if p.1=a then (a,v) else p)) b=if b=a then (lk L a).map (fun _=>v) else lk L b:=by
 induction L with
 | nil=>simp
 | cons p L ih =>
  rw[wAp,zBL,ih,zBL,zBL];by_cases h:p.1=a
  ·rw[if_pos h];by_cases h2:b=a
   · subst h2;simp[h]
   · rw[if_neg (show ¬ (a,v).1=b from fun e=>h2 e.symm),if_neg h2,if_neg h2,if_neg (show ¬ p.1=b from fun e=>h2 (by rw[← e];exact h))]
  ·rw[if_neg h];by_cases h2:b=a
   · subst h2;simp[h]
   ·by_cases h3:p.1=b
    · simp[h2,h3]
    · simp[h2,h3]
theorem lk_up (L:List (α×Value)) (a b:α) (v:Value):lk (upL L a v) b=if b=a then some v else lk L b:=by
 unfold upL;by_cases h:(lk L a).isSome=true
 ·rw[if_pos h,zPz];by_cases h2:b=a
  ·rw[if_pos h2,if_pos h2];obtain⟨x,hx⟩:=Option.isSome_iff_exists.1 h;rw[hx];rfl
  · rw[if_neg h2,if_neg h2]
 ·rw[if_neg h,zFe,zBL,lk_nil];by_cases h2:b=a
  ·subst h2
   have:lk L b=none:=by simpa using h
   simp[this]
  · rw[if_neg (fun e=>h2 e.symm),if_neg h2];simp
theorem zSl {L:List (α×Value)} {a:α} {v:Value} (h:lk L a=some v):(a,v)∈L:=by
 induction L with
 | nil=>simp at h
 | cons p L ih =>
  rw[zBL] at h;by_cases e:p.1=a
  · rw[if_pos e] at h;injection h with h;subst h;subst e;simp
  · rw[if_neg e] at h;exact List.mem_cons_of_mem _ (ih h)
theorem zIk {L:List (α×Value)} {a:α} {v:Value} (hn:(L.map (·.1)).Nodup) (h:(a,v)∈L):lk L a=some v:=by
 induction L with
 | nil=>simp at h
 | cons p L ih =>
  rw[wAp,wAR] at hn;rw[zBL];rcases wAf.1 h with rfl | h
  · simp
  ·rw[if_neg (fun e=>hn.1 (by rw[e];exact wAo.2 ⟨_,h,rfl⟩))];exact ih hn.2 h
end
structure KL {α:Type} (P:Program) (kt:TypeId) (kv:α→Value) (ok:α→Prop):Prop where
 K:Keyed P kt
 read:∀ a,ok a→∃ l,keyOf P kt (kv a)=some l
 inj:∀ a b,kv a=kv b→a=b
def MapIs {α:Type} (w:World) (kv:α→Value) (ok:α→Prop) (b:Nat) (L:List (α×Value)):Prop :=
 ∃ es clock,w.heap[b]? = some (.map es clock)∧Stamped es clock∧(es.toList.map fun e=>(e.key,e.val))=L.map (fun p=>(kv p.1,p.2))∧∀ p∈L,ok p.1
section
variable {α:Type} {w w':World} {kv:α→Value} {ok:α→Prop} {b:Nat} {L:List (α×Value)}
theorem MapIs.lt (h:MapIs w kv ok b L):b<w.heap.size:=by
 obtain⟨es,clock,hb,_⟩:=h;exact (wAa.1 hb).1
theorem MapIs.of_block (h:MapIs w kv ok b L) (e:w'.heap[b]? = w.heap[b]?):MapIs w' kv ok b L:=by
 obtain⟨es,clock,hb,r⟩:=h;exact⟨es,clock,e.trans hb,r⟩
theorem MapIs.kept (h:MapIs w kv ok b L) {row:Option Nat} (hg:w.grownBy w' row) (hne:some b≠row):MapIs w' kv ok b L:=h.of_block (hg.block b h.lt hne)
theorem MapIs.below {B:Nat} (h:MapIs w kv ok b L) (hb:Below B w w') (hlt:b<B):MapIs w' kv ok b L:=h.of_block (hb.block b hlt)
theorem MapIs.alloc (h:MapIs w kv ok b L) (o:Obj):MapIs (w.alloc o) kv ok b L:=h.of_block (Below.heap_alloc w o b h.lt)
theorem MapIs.drew (h:MapIs w kv ok b L):MapIs w.drew kv ok b L:=h
theorem MapIs.drewN (h:MapIs w kv ok b L) (n:Nat):MapIs (w.drewN n) kv ok b L:=h
theorem MapIs.set_ (h:MapIs w kv ok b L) {p:Addr} (hp:b≠p.block) (u:Value):MapIs (w.setCell p u) kv ok b L:=h.of_block (Below.heap_setCell w p u b hp)
theorem MapIs.made (w:World) (kv:α→Value) (ok:α→Prop):MapIs (w.alloc (.map #[] 0)) kv ok w.heap.size [] :=
 ⟨#[],0,(MapKept.heap_alloc w _).1,stamped_empty 0,by simp,by simp⟩
theorem MapIs.keyvals {es:Array MapEntry} (hE:(es.toList.map fun e=>(e.key,e.val))=L.map (fun p=>(kv p.1,p.2))):es.toList.map (·.key)=L.map (fun p=>kv p.1):=by
 have:=congrArg (List.map Prod.fst) hE
 simpa[wAK,Function.comp_def] using this
theorem MapIs.nodup (h:MapIs w kv ok b L):(L.map (·.1)).Nodup:=by
 obtain⟨es,clock,hb,hs,hE,hk⟩:=h;have h2:(L.map (fun p=>kv p.1)).Nodup:=by rw[← MapIs.keyvals hE];exact hs.2.2
 have h3:((L.map (·.1)).map kv).Nodup:=by rw[wAK];exact h2
 exact (wAN.1 h3).imp fun {a b} hne e=>hne (by rw[e])
theorem zDl {es:Array MapEntry} (hE:(es.toList.map fun e=>(e.key,e.val))=L.map (fun p=>(kv p.1,p.2))) {j:Nat} {e:MapEntry} (hj:es.toList[j]? = some e):∃ p,L[j]? = some p∧e.key=kv p.1∧e.val=p.2:=by
 have h1:(L.map (fun p=>(kv p.1,p.2)))[j]? = some (e.key,e.val):=by rw[← hE,wAj,hj];rfl
 rw[wAj] at h1
 cases hl:L[j]? with
 | none=>rw[hl] at h1;cases h1
 | some p =>
  rw[hl] at h1;injection h1 with h1
  exact⟨p,rfl,by rw[← (Prod.mk.inj h1).1],by rw[← (Prod.mk.inj h1).2]⟩
end
section
variable {α:Type} [DecidableEq α] {P:Program} {kt:TypeId} {w w':World} {kv:α→Value} {ok:α→Prop} {b:Nat} {L:List (α×Value)}
theorem zGw (k:KL P kt kv ok) {es:Array MapEntry} {clock:Nat} (hs:Stamped es clock) (hE:(es.toList.map fun e=>(e.key,e.val))=L.map (fun p=>(kv p.1,p.2))) (hk:∀ p∈L,ok p.1) (w:World) {a:α} (ha:ok a) :
 (lk L a=none∧(Instr.findKey kt (kv a) es.toList).run P w=.ok none w∧∀ e∈es.toList,e.key≠kv a) ∨
 ∃ j e,lk L a=some e.val∧(Instr.findKey kt (kv a) es.toList).run P w=.ok (some (j,e.val)) w∧es.toList[j]? = some e∧e.key=kv a:=by
 obtain⟨l,hl⟩:=k.read a ha
 have hes:∀ e∈es.toList,∃ l,keyOf P kt e.key=some l:=fun e he=>by
  obtain⟨j,hj⟩:=List.getElem?_of_mem he;obtain⟨p,hp,h1,_⟩:=zDl hE hj;rw[h1];exact k.read _ (hk p (wAF hp))
 have hnd:(L.map (·.1)).Nodup:=by
  have h2:(L.map (fun p=>kv p.1)).Nodup:=by rw[← MapIs.keyvals hE];exact hs.2.2
  have h3:((L.map (·.1)).map kv).Nodup:=by rw[wAK];exact h2
  exact (wAN.1 h3).imp fun {a b} hne e=>hne (by rw[e])
 rcases k.K.find w hl es.toList hes with⟨h1,h2⟩ | ⟨j,e,h1,h2,h3⟩
 ·refine .inl ⟨?_,h1,h2⟩
  cases hlk:lk L a with
  | none=>rfl
  | some v =>
   have hm:=zSl hlk;(have hm2:(kv a,v)∈es.toList.map fun e=>(e.key,e.val):=by rw[hE];exact wAo.2 ⟨_,hm,rfl⟩);obtain⟨e,he,hev⟩:=wAo.1 hm2;exact absurd (Prod.mk.inj hev).1 (h2 e he)
 ·refine .inr ⟨j,e,?_,h1,h2,h3⟩;obtain⟨p,hp,h4,h5⟩:=zDl hE h2;have e1:p.1=a:=k.inj _ _ (by rw[← h4,h3]);exact zIk hnd (by rw[h5,← e1];exact wAF hp)
theorem MapIs.run_look (h:MapIs w kv ok b L) (k:KL P kt kv ok) {t e:TypeId} (ht:P.underlying t=some (.map kt e)) {z:Value} (hz:(zeroValue e).run P w=.ok z w) {a:α} (ha:ok a) (ok':Bool) :
 (Instr.lookup t (.map (some b)) (kv a) ok').run P w=.ok (if ok'=true then .tuple #[(lk L a).getD z,.bool (lk L a).isSome] else (lk L a).getD z) w:=by
 obtain⟨es,clock,hb,hs,hE,hk⟩:=h;obtain⟨l,hl⟩:=k.read a ha;rcases zGw k hs hE hk w ha with⟨h0,h1,h2⟩ | ⟨j,e0,h0,h1,h2,h3⟩
 ·rw[h0];cases ok'<;>simp[Instr.lookup,run_underlying ht,MapKept.run_getObj_map hb,k.K.check w _ hl,h1,hz,Result.andThen]
 ·rw[h0];cases ok'<;>simp[Instr.lookup,run_underlying ht,MapKept.run_getObj_map hb,k.K.check w _ hl,h1,Result.andThen]
theorem MapIs.run_up (h:MapIs w kv ok b L) (k:KL P kt kv ok) {t e:TypeId} (ht:P.underlying t=some (.map kt e)) {a:α} (ha:ok a) (v:Value) :
 ∃ w',(Instr.mapUpdate t (.map (some b)) (kv a) v).run P w=.ok () w'∧MapIs w' kv ok b (upL L a v)∧w.grownBy w' (some b)∧w'.heap.size=w.heap.size:=by
 obtain⟨es,clock,hb,hs,hE,hk⟩:=h;obtain⟨l,hl⟩:=k.read a ha;rcases zGw k hs hE hk w ha with⟨h0,h1,h2⟩ | ⟨j,e0,h0,h1,h2,h3⟩
 ·refine⟨ChangeMaps.setBlock w b (.map (es.push ⟨kv a,v,clock⟩) (clock+1)),?_,⟨_,_,ChangeMaps.heap_setBlock_same hb _,stamped_push hs h2,?_,?_⟩,⟨rfl,rfl,rfl,by simp[ChangeMaps.setBlock],fun i _ hi=>ChangeMaps.heap_setBlock_other hb _ (fun e=>hi (by rw[e]))⟩,by simp[ChangeMaps.setBlock]⟩
  · simp[Instr.mapUpdate,run_underlying ht,MapKept.run_getObj_map hb,k.K.check w false hl,h1,MapKept.run_setObj_map _ hb,Result.andThen,ChangeMaps.setBlock]
  ·unfold upL;rw[if_neg (by rw[h0];simp)];simp[hE]
  ·unfold upL;rw[if_neg (by rw[h0];simp)];intro p hp;rcases wAe.1 hp with hp | hp
   · exact hk p hp
   · rw[wAg.1 hp];exact ha
 ·have hj:es[j]? = some e0:=by simpa using h2
  have hjl:j<es.toList.length:=(wAk.1 h2).1;have hup:upL L a v=L.map (fun p=>if p.1=a then (a,v) else p):=by unfold upL;rw[if_pos (by rw[h0];rfl)]
  refine⟨ChangeMaps.setBlock w b (.map (es.modify j fun e' => { e' with key:=kv a,val:=v }) clock),?_,⟨_,_,ChangeMaps.heap_setBlock_same hb _,stamped_modify hs _ _ (fun _ _=>rfl) (fun e' _ he'=>by rw[hj] at he';cases he';exact h3.symm),?_,?_⟩,
   ⟨rfl,rfl,rfl,by simp[ChangeMaps.setBlock],fun i _ hi=>ChangeMaps.heap_setBlock_other hb _ (fun e=>hi (by rw[e]))⟩,by simp[ChangeMaps.setBlock]⟩
  · simp[Instr.mapUpdate,run_underlying ht,MapKept.run_getObj_map hb,k.K.check w false hl,h1,hj,h3,k.K.stays w hl,MapKept.run_setObj_map _ hb,Result.andThen,ChangeMaps.setBlock]
  ·rw[hup];(refine wAL fun i=>?_);rw[wAj,wAj,wAj,Array.toList_modify,ChangeMaps.modify_eq_set _ _ _ _ h2];by_cases hij:i=j
   ·subst hij;obtain⟨p,hp,h4,h5⟩:=zDl hE h2;have e1:p.1=a:=k.inj _ _ (by rw[← h4,h3]);rw[List.getElem?_set_self hjl,hp];simp[e1]
   ·rw[List.getElem?_set_ne (fun e=>hij e.symm)]
    cases hi:es.toList[i]? with
    | none =>
     have:L[i]? = none:=by
      have:=congrArg (fun l=>l[i]?) hE
      simp only[wAj,hi] at this
      cases hl:L[i]? with
      | none=>rfl
      | some p=>rw[hl] at this;cases this
     rw[this];rfl
    | some e1 =>
     obtain⟨p,hp,h4,h5⟩:=zDl hE hi;rw[hp]
     have hne:¬ p.1=a:=fun e=>by
      (have hk2:e1.key=e0.key:=by rw[h4,h3,e]);have hil:i<es.toList.length:=(wAk.1 hi).1;have hp2:=((stamped_iff es clock).1 hs).2.2;have g1:es.toList[i]=e1:=(wAk.1 hi).2;have g2:es.toList[j]=e0:=(wAk.1 h2).2;rcases Nat.lt_or_gt_of_ne hij with hlt | hlt
      · exact wAh.1 hp2 i j hil hjl hlt (by rw[g1,g2];exact hk2)
      · exact wAh.1 hp2 j i hjl hil hlt (by rw[g1,g2];exact hk2.symm)
     simp[hne,h4,h5]
  ·rw[hup];intro p hp;obtain⟨q,hq,rfl⟩:=wAo.1 hp;by_cases e:q.1=a
   · rw[if_pos e];exact ha
   · rw[if_neg e];exact hk q hq
theorem zDt {ops:Array Oper} {rest:List Oper} {o:Oper} {A:Act} {Q:Exit→Act→World→Prop} (hg:o.guard=none) (m x:Operand) (t:TypeId) (ok':Bool) (hop:o.op=Op.lookup t m x ok')
 (k:KL P kt kv ok) {e:TypeId} (ht:P.underlying t=some (.map kt e)) {z:Value} (hz:∀ W,(zeroValue e).run P W=.ok z W) (hm:A.eval m=.map (some b)) (h:MapIs w kv ok b L) (a:α) (hx:A.eval x=kv a) (ha:ok a)
 (hK:wpList P ops Q rest (A.put o.dst (if ok'=true then .tuple #[(lk L a).getD z,.bool (lk L a).isSome] else (lk L a).getD z)) w) :
 wpList P ops Q (o::rest) A w:=by
 refine wpList_plain hg fun K' hK'=>?_
 have hrun:=h.run_look k ht (hz w) ha ok';unfold Oper.wp;simp[execOp,hop,hm,hx,hrun,Result.andThen];exact hK' _ _ hK
theorem zBz {ops:Array Oper} {rest:List Oper} {o:Oper} {A:Act} {Q:Exit→Act→World→Prop} (hg:o.guard=none) (m x:Operand) (t:TypeId) (hop:o.op=Op.lookup t m x true)
 (k:KL P kt kv ok) {e:TypeId} (ht:P.underlying t=some (.map kt e)) {z:Value} (hz:∀ W,(zeroValue e).run P W=.ok z W) (hm:A.eval m=.map (some b)) (h:MapIs w kv ok b L) (a:α) (hx:A.eval x=kv a) (ha:ok a) (v:Value) (hv:lk L a=some v)
 (hK:wpList P ops Q rest (A.put o.dst (.tuple #[v,.bool true])) w):wpList P ops Q (o::rest) A w :=
 zDt hg m x t true hop k ht hz hm h a hx ha (by simpa[hv] using hK)
theorem zBH {ops:Array Oper} {rest:List Oper} {o:Oper} {A:Act} {Q:Exit→Act→World→Prop} (hg:o.guard=none) (m x:Operand) (t:TypeId) (hop:o.op=Op.lookup t m x true)
 (k:KL P kt kv ok) {e:TypeId} (ht:P.underlying t=some (.map kt e)) {z:Value} (hz:∀ W,(zeroValue e).run P W=.ok z W) (hm:A.eval m=.map (some b)) (h:MapIs w kv ok b L) (a:α) (hx:A.eval x=kv a) (ha:ok a) (hv:lk L a=none)
 (hK:wpList P ops Q rest (A.put o.dst (.tuple #[z,.bool false])) w):wpList P ops Q (o::rest) A w :=
 zDt hg m x t true hop k ht hz hm h a hx ha (by simpa[hv] using hK)
theorem zAK {ops:Array Oper} {rest:List Oper} {o:Oper} {A:Act} {Q:Exit→Act→World→Prop} (hg:o.guard=none) (m x:Operand) (t:TypeId) (hop:o.op=Op.lookup t m x false)
 (k:KL P kt kv ok) {e:TypeId} (ht:P.underlying t=some (.map kt e)) {z:Value} (hz:∀ W,(zeroValue e).run P W=.ok z W) (hm:A.eval m=.map (some b)) (h:MapIs w kv ok b L) (a:α) (hx:A.eval x=kv a) (ha:ok a) (v:Value) (hv:(lk L a).getD z=v)
 (hK:wpList P ops Q rest (A.put o.dst v) w):wpList P ops Q (o::rest) A w :=
 zDt hg m x t false hop k ht hz hm h a hx ha (by simpa[hv] using hK)
theorem zBs {ops:Array Oper} {rest:List Oper} {o:Oper} {A:Act} {Q:Exit→Act→World→Prop} (hg:o.guard=none) (m x v:Operand) (t:TypeId) (hop:o.op=Op.mapUpdate t m x v)
 (k:KL P kt kv ok) {e:TypeId} (ht:P.underlying t=some (.map kt e)) (hm:A.eval m=.map (some b)) (h:MapIs w kv ok b L) (a:α) (hx:A.eval x=kv a) (ha:ok a) (val:Value) (hv:A.eval v=val)
 (hK:∀ w',MapIs w' kv ok b (upL L a val)→w.grownBy w' (some b)→w'.heap.size=w.heap.size→wpList P ops Q rest (A.put o.dst undef) w') :
 wpList P ops Q (o::rest) A w:=by
 refine wpList_plain hg fun K' hK'=>?_
 obtain⟨w',hrun,h1,h2,h3⟩:=h.run_up k ht ha val;unfold Oper.wp;simp[execOp,hop,hm,hx,hv,hrun,Result.andThen];exact hK' _ _ (hK w' h1 h2 h3)
end
/-! 'm[k] = append(m[k], ..)': the entry is looked up once. -/
def Stamp (w:World) (b:Nat) (key:Value) (n:Nat):Prop:=∃ es clock,w.heap[b]? = some (.map es clock)∧∃ e∈es.toList,e.key=key∧e.born=n
theorem Stamp.of_block {w w':World} {b n:Nat} {key:Value} (h:Stamp w b key n) (e:w'.heap[b]? = w.heap[b]?):Stamp w' b key n:=by
 obtain⟨es,clock,hb,r⟩:=h;exact⟨es,clock,e.trans hb,r⟩
theorem Stamp.lt {w:World} {b n:Nat} {key:Value} (h:Stamp w b key n):b<w.heap.size:=by
 obtain⟨es,clock,hb,_⟩:=h;exact (wAa.1 hb).1
theorem Stamp.kept {w w':World} {b n:Nat} {key:Value} (h:Stamp w b key n) {row:Option Nat} (hg:w.grownBy w' row) (hne:some b≠row):Stamp w' b key n:=h.of_block (hg.block b h.lt hne)
theorem Stamp.alloc {w:World} {b n:Nat} {key:Value} (h:Stamp w b key n) (o:Obj):Stamp (w.alloc o) b key n:=h.of_block (Below.heap_alloc w o b h.lt)
section
variable {α:Type} [DecidableEq α] {P:Program} {kt:TypeId} {w w':World} {kv:α→Value} {ok:α→Prop} {b:Nat} {L:List (α×Value)}
end
/-! Ranging. -/
def RangeIs {α:Type} (w:World) (kv:α→Value) (ok:α→Prop) (b r:Nat) (L left:List (α×Value)):Prop :=
 ∃ es clock since seen c0,w.heap[b]? = some (.map es clock)∧Stamped es clock∧(es.toList.map fun e=>(e.key,e.val))=L.map (fun p=>(kv p.1,p.2))∧(∀ p∈L,ok p.1) ∧
  w.heap[r]? = some (.mapIter (some b) since seen c0)∧(∀ x∈es.toList,x.born<since)∧since≤c0∧since≤clock∧((leftOf es seen).toList.map fun e=>(e.key,e.val))=left.map (fun p=>(kv p.1,p.2))∧∀ p∈left,p∈L
theorem zNX {es:Array MapEntry} {seen:Array Nat} {e:MapEntry} {s1 s2:List MapEntry} (hn:(es.toList.map (·.born)).Nodup) (h:(leftOf es seen).toList=s1++e::s2):(leftOf es (seen.push e.born)).toList=s1++s2:=by
 have h1:(leftOf es (seen.push e.born)).toList=(leftOf es seen).toList.filter (fun x => !(x.born==e.born)):=by
  unfold leftOf;rw[wAu,wAu,List.filter_filter];refine List.filter_congr fun x _=>?_
  rw[contains_push];cases seen.contains x.born<;>cases (x.born==e.born)<;>rfl
 have h2:((leftOf es seen).toList.map (·.born)).Nodup:=by
  unfold leftOf;rw[wAu];exact (List.filter_sublist.map _).nodup hn
 rw[h,wAn,wAp,List.nodup_append] at h2;obtain⟨_,h4,h5⟩:=h2;rw[wAR] at h4;rw[h1,h,List.filter_append,List.filter_cons_of_neg (by simp)];congr 1
 ·refine wAI.2 fun x hx=>?_
  have:=h5 x.born (wAo.2 ⟨x,hx,rfl⟩) e.born (by simp)
  simp[this]
 ·refine wAI.2 fun x hx=>?_
  have:x.born≠e.born:=fun e1=>h4.1 (by rw[← e1];exact wAo.2 ⟨x,hx,rfl⟩)
  simp[this]
section
variable {α:Type} {P:Program} {w w':World} {kv:α→Value} {ok:α→Prop} {b r:Nat} {L left:List (α×Value)}
theorem RangeIs.map (h:RangeIs w kv ok b r L left):MapIs w kv ok b L:=by
 obtain⟨es,clock,since,seen,c0,hb,hs,hE,hk,_⟩:=h;exact⟨es,clock,hb,hs,hE,hk⟩
theorem RangeIs.ltr (h:RangeIs w kv ok b r L left):r<w.heap.size:=by
 obtain⟨es,clock,since,seen,c0,hb,hs,hE,hk,hr,_⟩:=h;exact (wAa.1 hr).1
theorem RangeIs.ne (h:RangeIs w kv ok b r L left):r≠b:=by
 obtain⟨es,clock,since,seen,c0,hb,hs,hE,hk,hr,_⟩:=h;intro e;rw[e,hb] at hr;cases hr
theorem RangeIs.of_block (h:RangeIs w kv ok b r L left) (e:w'.heap[b]? = w.heap[b]?) (e':w'.heap[r]? = w.heap[r]?):RangeIs w' kv ok b r L left:=by
 obtain⟨es,clock,since,seen,c0,hb,hs,hE,hk,hr,rest⟩:=h;exact⟨es,clock,since,seen,c0,e.trans hb,hs,hE,hk,e'.trans hr,rest⟩
theorem RangeIs.kept (h:RangeIs w kv ok b r L left) {row:Option Nat} (hg:w.grownBy w' row) (hne:some b≠row) (hner:some r≠row):RangeIs w' kv ok b r L left :=
 h.of_block (hg.block b h.map.lt hne) (hg.block r h.ltr hner)
theorem RangeIs.below {B:Nat} (h:RangeIs w kv ok b r L left) (hb:Below B w w') (hlt:b<B) (hr:r<B):RangeIs w' kv ok b r L left:=h.of_block (hb.block b hlt) (hb.block r hr)
theorem RangeIs.alloc (h:RangeIs w kv ok b r L left) (o:Obj):RangeIs (w.alloc o) kv ok b r L left:=h.of_block (Below.heap_alloc w o b h.map.lt) (Below.heap_alloc w o r h.ltr)
theorem RangeIs.set_ (h:RangeIs w kv ok b r L left) {p:Addr} (hp:b≠p.block) (hp':r≠p.block) (u:Value):RangeIs (w.setCell p u) kv ok b r L left:=h.of_block (Below.heap_setCell w p u b hp) (Below.heap_setCell w p u r hp')
theorem RangeIs.next (h:RangeIs w kv ok b r L left) (ty:TypeId) :
 (left=[]∧(Instr.next (.pointer (some ⟨r,0,none⟩)) false ty).run P w=.ok (.tuple #[.bool false]) w) ∨
 ∃ l1 a v l2 w',left=l1++(a,v)::l2∧(a,v)∈L∧(Instr.next (.pointer (some ⟨r,0,none⟩)) false ty).run P w=.ok (.tuple #[.bool true,kv a,v]) w'∧RangeIs w' kv ok b r L (l1++l2)∧w.grownBy w' (some r)∧w'.heap.size=w.heap.size ∧
  (Instr.entry (.pointer (some ⟨r,0,none⟩))).run P w'=.ok (.tuple #[kv a,v]) w':=by
 have hne:=h.ne;obtain⟨es,clock,since,seen,c0,hb,hs,hE,hk,hr,hold,hsc,hsk,hl,hsub⟩:=h;rcases run_next_at (P:=P) w ty r b since c0 seen es clock hr hb hold hsc with⟨h0,hrun⟩ | ⟨e,he,w1,hal,hrun⟩
 ·refine .inl ⟨?_,hrun⟩
  have:=congrArg List.length hl
  simp only[wAQ,Array.length_toList,h0] at this;exact List.eq_nil_of_length_eq_zero this.symm
 ·have hr1:w1.heap[r]? = some (.mapIter (some b) since seen c0):=by rcases hal with rfl | rfl<;>exact hr
  have hb1:w1.heap[b]? = some (.map es clock):=by rcases hal with rfl | rfl<;>exact hb
  have hset:=heap_set (o':=.mapIter (some b) since (seen.push e.born) clock) hr1;have hb':(ChangeMaps.setBlock w1 r (.mapIter (some b) since (seen.push e.born) clock)).heap[b]? = some (.map es clock):=(hset.2 b (fun e1=>hne e1.symm)).trans hb1;obtain⟨hem,hes⟩:=mem_left he;obtain⟨s1,s2,hsp⟩:=List.append_of_mem he;have hborn:(es.toList.map (·.born)).Nodup:=hs.2.1;have hnew:=zNX hborn hsp;rw[hsp,wAn,wAp] at hl;obtain⟨l1,l3,rfl,h1,h3⟩:=List.map_eq_append_iff.1 hl.symm;obtain⟨p,l2,rfl,h4,h5⟩:=List.map_eq_cons_iff.1 h3;have hp:=Prod.mk.inj h4;have hL:p∈L:=hsub p (by simp);refine .inr ⟨l1,p.1,p.2,l2,_,rfl,hL,?_,⟨es,clock,since,seen.push e.born,clock,hb',hs,hE,hk,hset.1,hold,hsk,hsk,?_,fun q hq=>hsub q (by rcases wAe.1 hq with h | h<;>simp[h])⟩,?_,?_,?_⟩
  · rw[hp.1,hp.2];exact hrun
  · rw[hnew,wAn,wAn,h1,h5]
  · rcases hal with rfl | rfl<;>exact⟨rfl,rfl,rfl,by simp[ChangeMaps.setBlock],fun i _ hi=>hset.2 i (fun e1=>hi (by rw[e1]))⟩
  · rcases hal with rfl | rfl<;>simp[ChangeMaps.setBlock]
  ·rw[hp.1,hp.2];exact run_entry_at _ r b since seen es clock e hset.1 hb' hem hborn
end
def posI (x:Int):List Int→Nat
 | []=>0
 | y::l=>if y<x then posI x l+1 else 0
def insI (x:Int) (l:List Int):List Int:=if posI x l<l.length∧l.getD (posI x l) 0=x then l else l.take (posI x l)++[x]++l.drop (posI x l)
theorem zGV (x:Int):∀ l,posI x l≤l.length
 | []=>wAm _
 | y::l=>by
  unfold posI
  have:=zGV x l
  rw[wAP];split<;>omega
theorem zE1 (x:Int):∀ (l:List Int) (j:Nat),j≤posI x l→((j<l.length∧l.getD j 0<x)↔j<posI x l)
 | [],j,h=>by simp[posI]
 | y::l,j,h=>by
  unfold posI at h ⊢;by_cases hy:y<x
  ·rw[if_pos hy] at h ⊢
   cases j with
   | zero=>simp[hy]
   | succ j =>
    have:=zE1 x l j (by omega)
    rw[wAP,wAt];omega
  ·rw[if_neg hy] at h ⊢;(obtain rfl:j=0:=by omega);simp[hy]
theorem zHU (x:Int):∀ (l:List Int),∀ y∈l.take (posI x l),y<x
 | [],y,h=>by simp at h
 | z::l,y,h=>by
  unfold posI at h;by_cases hz:z<x
  ·rw[if_pos hz,wAG] at h;rcases wAf.1 h with rfl | h
   · exact hz
   · exact zHU x l y h
  · rw[if_neg hz] at h;simp at h
theorem zFO {x:Int} : ∀ {l:List Int},l.Pairwise (· < ·)→∀ y∈l.drop (posI x l),x≤y
 | [],_,y,h=>by simp at h
 | z::l,hs,y,h=>by
  unfold posI at h;obtain⟨h1,h2⟩:=wAb.1 hs;by_cases hz:z<x
  ·rw[if_pos hz,wAH] at h;exact zFO h2 y h
  ·rw[if_neg hz,wAS] at h;rcases wAf.1 h with rfl | h
   · omega
   · have:=h1 y h;omega
theorem zGH {x:Int} {l:List Int} {y:Int} : y∈insI x l↔y=x∨y∈l:=by
 unfold insI;by_cases h:posI x l<l.length∧l.getD (posI x l) 0=x
 ·rw[if_pos h];refine⟨.inr,?_⟩;rintro (rfl | hy)
  ·have:l[posI y l]'h.1∈l:=List.getElem_mem _
   (have e:l.getD (posI y l) 0=l[posI y l]'h.1:=by simp[wAw,h.1]);rw[← e,h.2] at this;exact this
  · exact hy
 ·rw[if_neg h];have e:l.take (posI x l)++l.drop (posI x l)=l:=wAE _ _;constructor
  ·intro hy;simp only[wAe,wAg] at hy;rcases hy with (hy | hy) | hy
   · exact .inr (List.mem_of_mem_take hy)
   · exact .inl hy
   · exact .inr (List.mem_of_mem_drop hy)
  ·intro hy;simp only[wAe,wAg];rcases hy with hy | hy
   · exact .inl (.inr hy)
   ·rw[← e,wAe] at hy;rcases hy with hy | hy
    · exact .inl (.inl hy)
    · exact .inr hy
theorem zDr {x:Int} {l:List Int} (hs:l.Pairwise (· < ·)):(insI x l).Pairwise (· < ·):=by
 unfold insI;by_cases h:posI x l<l.length∧l.getD (posI x l) 0=x
 · rw[if_pos h];exact hs
 ·rw[if_neg h];have e:l.take (posI x l)++l.drop (posI x l)=l:=wAE _ _;have hs':=hs;rw[← e] at hs';obtain⟨h1,h2,h3⟩:=wAs.1 hs'
  have hgt:∀ y∈l.drop (posI x l),x<y:=fun y hy=>by
   have h4:=zFO hs y hy;rcases Int.lt_or_eq_of_le h4 with g | g
   · exact g
   ·exfalso;obtain⟨i,hi,hg⟩:=List.mem_iff_getElem.1 hy;(have hp:posI x l<l.length:=by rw[wAB] at hi;omega);have hd:l.drop (posI x l)=l[posI x l]::l.drop (posI x l+1):=wAz hp;have h5:x≤l[posI x l]:=zFO hs _ (by rw[hd];exact List.mem_cons_self);(have h6:l[posI x l]≠x:=fun e=>h ⟨hp,by simp[wAw,hp,e]⟩);rw[hd] at h2 hy;rcases wAf.1 hy with e1 | e1
    · omega
    · have:=(wAb.1 h2).1 y e1;omega
  refine wAs.2 ⟨wAs.2 ⟨h1,List.pairwise_singleton _ _,fun a ha b hb=>?_⟩,h2,fun a ha b hb=>?_⟩
  · rw[wAg.1 hb];exact zHU x l a ha
  ·rcases wAe.1 ha with ha | ha
   · exact h3 a ha b hb
   · rw[wAg.1 ha];exact hgt b hb
theorem zI2 {x:Int} {l:List Int} (h:¬ (posI x l<l.length∧l.getD (posI x l) 0=x)):insI x l=l.take (posI x l)++[x]++l.drop (posI x l):=if_neg h
theorem zKM {x:Int} {l:List Int} (h:posI x l<l.length∧l.getD (posI x l) 0=x):insI x l=l:=if_pos h
def labsR (l:List Arc):List Int:=l.foldl (fun s a=>if a.i=0 then s else insI a.i s) []
theorem zLs (l:List Arc) (a:Arc):labsR (l++[a])=if a.i=0 then labsR l else insI a.i (labsR l):=by
 unfold labsR;rw[List.foldl_append];rfl
theorem zFM {P:List Arc→List Int→Prop} (h0:P [] []) (h1:∀ l a s,P l s→P (l++[a]) (if a.i=0 then s else insI a.i s)) (l:List Arc):P l (labsR l):=by
 have h:∀ (k p:List Arc) (s:List Int),P p s→P (p++k) (k.foldl (fun s a=>if a.i=0 then s else insI a.i s) s):=by
  intro k
  induction k with
  | nil=>intro p s hp;simpa using hp
  | cons a k ih =>
   intro p s hp
   have:=ih (p++[a]) _ (h1 p a s hp)
   rw[wAy] at this;exact this
 exact h l [] [] h0
theorem zAJ (l:List Arc):(labsR l).Pairwise (· < ·) :=
 zFM (P:=fun _ s=>s.Pairwise (· < ·)) .nil (fun l a s h=>by
  split
  · exact h
  · exact zDr h) l
theorem zAy (l:List Arc):∀ x,x∈labsR l↔x≠0∧∃ a∈l,a.i=x :=
 zFM (P:=fun l s=>∀ x,x∈s↔x≠0∧∃ a∈l,a.i=x) (fun x=>by simp) (fun l a s h x=>by
  have e:(∃ b∈l++[a],b.i=x)↔(∃ b∈l,b.i=x)∨a.i=x:=by
   constructor
   ·rintro⟨b,hb,he⟩;rcases wAe.1 hb with hb | hb
    · exact .inl ⟨b,hb,he⟩
    · rw[wAg.1 hb] at he;exact .inr he
   ·rintro (⟨b,hb,he⟩ | he)
    · exact⟨b,wAe.2 (.inl hb),he⟩
    · exact⟨a,wAe.2 (.inr (wAg.2 rfl)),he⟩
  rw[e];by_cases h0:a.i=0
  ·rw[if_pos h0,h x];constructor
   · rintro⟨h1,h2⟩;exact⟨h1,.inl h2⟩
   ·rintro⟨h1,h2 | h2⟩
    · exact⟨h1,h2⟩
    · omega
  ·rw[if_neg h0,zGH,h x];constructor
   ·rintro (rfl | ⟨h1,h2⟩)
    · exact⟨h0,.inr rfl⟩
    · exact⟨h1,.inl h2⟩
   ·rintro⟨h1,h2 | h2⟩
    · exact .inr ⟨h1,h2⟩
    · exact .inl h2.symm) l
open Go Go.RowKit
def NumsL (w:World) (B:Nat) (v:Value) (L:List (List Int)):Prop :=
 ∃ A n c,v=.slice A n c∧Hid (L.length=n)∧n≤c∧n≤big∧∃ vs:Nat→Value,Rd w B 1 A n (fun i _=>vs i)∧∀ i,i<n→Nums w B (vs i) (L.getD i [])
theorem NumsL.below {w w':World} {B B':Nat} {v:Value} {L:List (List Int)} (h:NumsL w B v L) (hb:Below B' w w') (hB:B≤B'):NumsL w' B v L:=by
 obtain⟨A,n,c,h1,h2,h3,h4,vs,h5,h6⟩:=h;exact⟨A,n,c,h1,h2,h3,h4,vs,h5.below hb hB,fun i hi=>(h6 i hi).below hb hB⟩
theorem NumsL.mono {w:World} {B B':Nat} {v:Value} {L:List (List Int)} (h:NumsL w B v L) (hB:B≤B'):NumsL w B' v L:=by
 obtain⟨A,n,c,h1,h2,h3,h4,vs,h5,h6⟩:=h;exact⟨A,n,c,h1,h2,h3,h4,vs,h5.mono hB,fun i hi=>(h6 i hi).mono hB⟩
def RdL (w:World) (B:Nat) (A:Option Addr) (n:Nat) (L:List (List Int)):Prop:=∃ vs:Nat→Value,Rd w B 1 A n (fun i _=>vs i)∧∀ i,i<n→Nums w B (vs i) (L.getD i [])
theorem RdL.below {w w':World} {B B' n:Nat} {A:Option Addr} {L:List (List Int)} (h:RdL w B A n L) (hb:Below B' w w') (hB:B≤B'):RdL w' B A n L:=by
 obtain⟨vs,h5,h6⟩:=h;exact⟨vs,h5.below hb hB,fun i hi=>(h6 i hi).below hb hB⟩
theorem RdL.mono {w:World} {B B' n:Nat} {A:Option Addr} {L:List (List Int)} (h:RdL w B A n L) (hB:B≤B'):RdL w B' A n L:=by
 obtain⟨vs,h5,h6⟩:=h;exact⟨vs,h5.mono hB,fun i hi=>(h6 i hi).mono hB⟩
theorem zEo {w:World} {B n:Nat} {A:Option Addr} {L:List (List Int)} (h:RdL w B A n L) {k:Nat} (hk:k<n) :
 ∃ b off A' n' c' r,A=some ⟨b,off,none⟩∧b<B∧w.cell? ⟨b,off+k,none⟩=some (.slice A' n' c')∧Hid (L.getD k []=r)∧Hid (r.length=n')∧n'≤c'∧n'≤big∧Rd w B 1 A' n' (intCell r):=by
 obtain⟨vs,h1,h2⟩:=h;obtain⟨b,off,h3,h4,h5⟩:=h1.at1 hk;obtain⟨A',n',c',g1,g2,g3,g4,g5⟩:=h2 k hk;rw[g1] at h5;exact⟨b,off,A',n',c',L.getD k [],h3,h4,h5,zh rfl,g2,g3,g4,g5⟩
theorem zAZ {w:World} {base:Nat} {e:TypeId} {v:Value} {n:Nat} {l:List Int} (h:w.ownsRow base e 1 v n (intRow l)) (hn:n≤big):Nums w w.heap.size v l:=by
 obtain⟨A,c,rfl,hnc,_⟩:=zAa h;have hl:l.length=n:=by have:=h.1;rw[zAh] at this;omega
 exact⟨A,n,c,rfl,zh hl,hnc,hn,Rd.of_own h (hl▸zAi l)⟩
structure OwnM (w:World) (base:Nat) (eO eI:TypeId) (sz:Nat) (v:Value) (n:Nat) (vs:Nat→Value) (L:Nat→List Value) (m:Nat→Nat):Prop where
 out:w.ownsRow base eO 1 v n ((wAi n).map vs)
 own:∀ i,i<n→w.ownsRow base eI sz (vs i) (m i) (L i)
 dis:∀ i j,i<n→j<n→i≠j→(vs i).ownBlock=none∨(vs i).ownBlock≠(vs j).ownBlock
section
variable {w w1:World} {base:Nat} {eO eI:TypeId} {sz n:Nat} {v:Value} {vs:Nat→Value} {L:Nat→List Value} {m:Nat→Nat}
theorem OwnM.o {w:World} {base:Nat} {eO eI:TypeId} {sz:Nat} {v:Value} {n:Nat} {vs:Nat→Value} {L:Nat→List Value} {m:Nat→Nat} (h:OwnM w base eO eI sz v n vs L m):w.ownsRow base eO 1 v n ((wAi n).map vs):=h.1
theorem OwnM.nil (w:World) (base:Nat) (eO eI:TypeId) (sz:Nat) (vs:Nat→Value) (L:Nat→List Value) (m:Nat→Nat):OwnM w base eO eI sz (.slice none 0 0) 0 vs L m :=
 ⟨World.ownsRow_nil _ _ _ _,fun i h=>by omega,fun i j h=>by omega⟩
theorem OwnM.kept (h:OwnM w base eO eI sz v n vs L m) {row:Option Nat} (hg:w.grownBy w1 row) (h1:v.ownBlock=none∨v.ownBlock≠row) (h2:∀ i,i<n→(vs i).ownBlock=none∨(vs i).ownBlock≠row):OwnM w1 base eO eI sz v n vs L m :=
 ⟨h.o.kept hg h1,fun i hi=>(h.own i hi).kept hg (h2 i hi),h.dis⟩
theorem OwnM.below (h:OwnM w base eO eI sz v n vs L m) (hb:Below w.heap.size w w1):OwnM w1 base eO eI sz v n vs L m :=
 h.kept (row:=none) ⟨hb.os,hb.tape,hb.output,hb.size,fun k hk _=>hb.block k hk⟩ (by cases v.ownBlock<;>simp) (fun i _=>by cases (vs i).ownBlock<;>simp)
theorem OwnM.alloc (h:OwnM w base eO eI sz v n vs L m) (o:Obj):OwnM (w.alloc o) base eO eI sz v n vs L m :=
 ⟨h.o.alloc o,fun i hi=>(h.own i hi).alloc o,h.dis⟩
theorem OwnM.drew (h:OwnM w base eO eI sz v n vs L m):OwnM w.drew base eO eI sz v n vs L m:=⟨h.o,h.own,h.dis⟩
theorem OwnM.drewN (h:OwnM w base eO eI sz v n vs L m) (k:Nat):OwnM (w.drewN k) base eO eI sz v n vs L m:=⟨h.o,h.own,h.dis⟩
theorem OwnM.far (h:OwnM w base eO eI sz v n vs L m) {p:Addr} (hp:p.block<base) (u:Value):OwnM (w.setCell p u) base eO eI sz v n vs L m :=
 ⟨ownsRow_setCell_below h.o hp u,fun i hi=>ownsRow_setCell_below (h.own i hi) hp u,h.dis⟩
theorem OwnM.apart (h:OwnM w base eO eI sz v n vs L m) {H s2 n2:Nat} {e2:TypeId} {v2:Value} {x2:List Value} {w2:World} (ho:w2.ownsRow H e2 s2 v2 n2 x2) (hH:w.heap.size≤H):(v.ownBlock=none∨v.ownBlock≠v2.ownBlock)∧∀ i,i<n→(vs i).ownBlock=none∨(vs i).ownBlock≠v2.ownBlock:=by
 have key:∀ u:Value,(∀ k,u.ownBlock=some k→base≤k∧k<w.heap.size)→u.ownBlock=none∨u.ownBlock≠v2.ownBlock:=fun u hu=>by
  cases e:u.ownBlock with
  | none=>exact .inl rfl
  | some k =>
   right;intro e2
   have:=(hu k e).2
   have:=(ho.lt k e2.symm).1
   omega
 exact⟨key v h.o.lt,fun i hi=>key (vs i) (h.own i hi).lt⟩
theorem OwnM.push (h:OwnM w base eO eI sz v n vs L m) (hg:w.grownBy w1 v.ownBlock) {v' u:Value} {mu:Nat} {xu:List Value} (hout:w1.ownsRow base eO 1 v' (n+1) ((wAi n).map vs++[u])) (hu:w.ownsRow base eI sz u mu xu) (hd:∀ i,i<n→(vs i).ownBlock=none∨(vs i).ownBlock≠u.ownBlock) (hne:eO≠eI) :
 OwnM w1 base eO eI sz v' (n+1) (fun i=>if i=n then u else vs i) (fun i=>if i=n then xu else L i) (fun i=>if i=n then mu else m i):=by
 refine⟨?_,fun i hi=>?_,fun i j hi hj hij=>?_⟩
 ·rw[List.range_succ,wAn,wAp,List.map_nil,if_pos rfl];rw[show (wAi n).map (fun i=>if i=n then u else vs i)=(wAi n).map vs from List.map_congr_left fun i hi=>by rw[if_neg (by have:=List.mem_range.1 hi;omega)]];exact hout
 ·by_cases e:i=n
  ·simp only[if_pos e];exact hu.kept hg (zAt hu h.o (Ne.symm hne))
  ·simp only[if_neg e];exact (h.own i (by omega)).kept hg (zAt (h.own i (by omega)) h.o (Ne.symm hne))
 ·by_cases e:i=n
  ·by_cases e2:j=n
   · omega
   ·simp only[if_pos e,if_neg e2];rcases hd j (by omega) with g | g
    ·rw[g];cases u.ownBlock<;>simp
    · exact .inr (Ne.symm g)
  ·by_cases e2:j=n
   ·simp only[if_neg e,if_pos e2];exact hd i (by omega)
   ·simp only[if_neg e,if_neg e2];exact h.dis i j (by omega) (by omega) hij
theorem OwnM.store (h:OwnM w base eO eI sz v n vs L m) (hne:eO≠eI) {i g c:Nat} (hi:i<n) (hv:vs i=.slice (some ⟨g,0,none⟩) (m i) c) (j:Nat) (u:Value) :
 OwnM (w.setCell ⟨g,j,none⟩ u) base eO eI sz v n vs (fun k=>if k=i then (L i).set j u else L k) m:=by
 have h1:=h.own i hi;rw[hv] at h1;obtain⟨h2,hg⟩:=h1.stored j u;have hob:(vs i).ownBlock=some g:=by rw[hv];rfl
 refine⟨h.o.kept hg ?_,fun k hk=>?_,h.dis⟩
 ·rw[← hob];exact zAt h.o (h.own i hi) hne
 ·by_cases e:k=i
  ·subst e;simp only[if_pos];rw[hv];exact h2
  ·simp only[if_neg e];refine (h.own k hk).kept hg ?_;rw[← hob];exact h.dis k i hk hi e
theorem OwnM.at_ (h:OwnM w base eO eI sz v n vs L m) {i:Nat} (hi:i<n):∃ g c,v=.slice (some ⟨g,0,none⟩) n c∧n≤c∧base≤g∧g<w.heap.size∧w.cell? ⟨g,i,none⟩=some (vs i):=by
 obtain⟨g,c,rfl,h1,h2⟩:=h.o.form (by omega);obtain⟨A,c',e,hnc,_⟩:=zAa h.o;injection e with _ _ e
 refine⟨g,c,rfl,by omega,h1,h2,?_⟩;rw[h.o.cellAt i (by omega)];simp[hi]
theorem OwnM.nums {vs:Nat→Value} {r:Nat→List Int} (h:OwnM w base eO eI 1 v n vs (fun i=>intRow (r i)) m) (hn:n≤big) (hm:∀ i,i<n→m i≤big):NumsL w w.heap.size v ((wAi n).map r):=by
 obtain⟨A,c,rfl,hnc,_⟩:=zAa h.o;refine⟨A,n,c,rfl,zh (by simp),hnc,hn,vs,Rd.of_own h.o (fun i j hi hj=>?_),fun i hi=>?_⟩
 ·obtain rfl:j=0:=by omega
  simp[hi]
 ·have e:((wAi n).map r).getD i []=r i:=by simp[wAw,hi]
  rw[e];exact zAZ (h.own i hi) (hm i hi)
end
theorem OwnM.congr {w:World} {base:Nat} {eO eI:TypeId} {sz n:Nat} {v:Value} {vs:Nat→Value} {L L':Nat→List Value} {m m':Nat→Nat} (h:OwnM w base eO eI sz v n vs L m) (e:∀ i,i<n→L i=L' i) (e':∀ i,i<n→m i=m' i):OwnM w base eO eI sz v n vs L' m' :=
 ⟨h.o,fun i hi=>by rw[← e i hi,← e' i hi];exact h.own i hi,h.dis⟩
def Bools (w:World) (B:Nat) (v:Value) (l:List Bool):Prop :=
 ∃ A n c,v=.slice A n c∧Hid (l.length=n)∧n≤c∧n≤big∧Rd w B 1 A n (boolCell l)
theorem Bools.below {w w':World} {B B':Nat} {v:Value} {l:List Bool} (h:Bools w B v l) (hb:Below B' w w') (hB:B≤B'):Bools w' B v l:=by
 obtain⟨A,n,c,h1,h2,h3,h4,h5⟩:=h;exact⟨A,n,c,h1,h2,h3,h4,h5.below hb hB⟩
theorem Bools.mono {w:World} {B B':Nat} {v:Value} {l:List Bool} (h:Bools w B v l) (hB:B≤B'):Bools w B' v l:=by
 obtain⟨A,n,c,h1,h2,h3,h4,h5⟩:=h;exact⟨A,n,c,h1,h2,h3,h4,h5.mono hB⟩
theorem zIV {w:World} {B n:Nat} {A:Option Addr} {l:List Bool} (h:Rd w B 1 A n (boolCell l)) {k:Nat} (hk:k<n) :
 ∃ b off x,A=some ⟨b,off,none⟩∧b<B∧w.cell? ⟨b,off+k,none⟩=some (.bool x)∧Hid (l.getD k false=x):=by
 obtain⟨b,off,h1,h2,h3⟩:=h.at1 hk;exact⟨b,off,l.getD k false,h1,h2,h3,zh rfl⟩
theorem zAe {w:World} {base sz n O:Nat} {e t:TypeId} {v:Value} {xs:List Value} {cs:Array Value} (h:w.ownsRow base e sz v n xs) (hb:Blk w O t cs) (hne:e≠t):v.ownBlock≠some O:=by
 rcases h.2 with⟨rfl,_⟩ | ⟨g1,c1,cur1,rfl,_,hh1,_⟩
 · simp[Value.ownBlock]
 ·intro ev
  have:g1=O:=by simpa[Value.ownBlock] using ev
  subst this;unfold Blk at hb;rw[hh1] at hb;injection hb with hb
  injection hb with _ he
  exact hne he
theorem zAG {w w':World} {base sz n:Nat} {e:TypeId} {v:Value} {xs:List Value} (h:w.ownsRow base e sz v n xs) (hb:Below w.heap.size w w'):w'.ownsRow base e sz v n xs :=
 h.kept (row:=none) ⟨hb.os,hb.tape,hb.output,hb.size,fun k hk _=>hb.block k hk⟩ (by cases v.ownBlock<;>simp)
theorem zEl {w:World} {b1 b2 sz n:Nat} {e:TypeId} {v:Value} {xs:List Value} (h:w.ownsRow b1 e sz v n xs) (hb:b2≤b1):w.ownsRow b2 e sz v n xs:=by
 obtain⟨h1,h2⟩:=h;refine⟨h1,?_⟩;rcases h2 with h2 | ⟨g,cap,cur,e1,e2,e3⟩
 · exact .inl h2
 · exact .inr ⟨g,cap,cur,e1,by omega,e3⟩
theorem zA6 {w:World} {base q:Nat} {e:TypeId} {v:Value} {L:List Arc} (h:w.ownsRow base e 5 v q (arcRow L)):L.length=q:=by
 have h1:=h.1;rw[zAv] at h1;omega
theorem zBv {w:World} {base q:Nat} {e:TypeId} {v:Value} {L:List Fnl} (h:w.ownsRow base e 2 v q (finRow L)):L.length=q:=by
 have h1:=h.1;rw[zGO] at h1;omega
def Mg (tM tA tF:TypeId) (w:World) (O base:Nat) (n0:Int) (q:Nat) (L:List Arc) (r:Nat) (F:List Fnl):Prop :=
 ∃ A c AF cf,Blk w O tM #[.int .i64 n0,.slice A q c,.slice AF r cf]∧w.ownsRow base tA 5 (.slice A q c) q (arcRow L)∧w.ownsRow base tF 2 (.slice AF r cf) r (finRow F)
section
variable {tM tA tF:TypeId} {w w6:World} {O base q r:Nat} {n0:Int} {A AF Av:Option Addr} {c cf cv:Nat} {L:List Arc} {F:List Fnl}
theorem Mg.start (h:Blk w O tM #[.int .i64 n0,.slice none 0 0,.slice none 0 0]) (base:Nat):Mg tM tA tF w O base n0 0 [] 0 []:=⟨none,0,none,0,h,World.ownsRow_nil _ _ _ _,World.ownsRow_nil _ _ _ _⟩
theorem Mg.below {w':World} (h:Mg tM tA tF w O base n0 q L r F) (hb:Below w.heap.size w w'):Mg tM tA tF w' O base n0 q L r F:=by
 obtain⟨A,c,AF,cf,h1,h2,h3⟩:=h;exact⟨A,c,AF,cf,h1.below hb h1.lt,zAG h2 hb,zAG h3 hb⟩
theorem Mg.alloc (h:Mg tM tA tF w O base n0 q L r F) (o:Obj):Mg tM tA tF (w.alloc o) O base n0 q L r F:=by
 obtain⟨A,c,AF,cf,h1,h2,h3⟩:=h;exact⟨A,c,AF,cf,h1.alloc o,h2.alloc o,h3.alloc o⟩
theorem Mg.lt (h:Mg tM tA tF w O base n0 q L r F):O<w.heap.size:=by
 obtain⟨A,c,AF,cf,h1,_⟩:=h;exact h1.lt
theorem Mg.lens (h:Mg tM tA tF w O base n0 q L r F):L.length=q∧F.length=r:=by
 obtain⟨A,c,AF,cf,_,h2,h3⟩:=h;exact⟨zA6 h2,zBv h3⟩
theorem Mg.own (h:Mg tM tA tF w O base n0 q L r F) {b2 s2 n2:Nat} {e2:TypeId} {v2:Value} {x2:List Value} (ho:w.ownsRow b2 e2 s2 v2 n2 x2) (hM:e2≠tM) (hA:tA≠e2) (hF:tF≠e2) (hg:w.grownBy w6 v2.ownBlock):Mg tM tA tF w6 O base n0 q L r F:=by
 obtain⟨A,c,AF,cf,h1,h2,h3⟩:=h;exact⟨A,c,AF,cf,h1.grown hg (Ne.symm (zAe ho h1 hM)),h2.kept hg (zAt h2 ho hA),h3.kept hg (zAt h3 ho hF)⟩
theorem Mg.far (h:Mg tM tA tF w O base n0 q L r F) {p:Addr} (hO:O≠p.block) (hp:p.block<base) (u:Value):Mg tM tA tF (w.setCell p u) O base n0 q L r F:=by
 obtain⟨A,c,AF,cf,h1,h2,h3⟩:=h;exact⟨A,c,AF,cf,h1.far hO u,ownsRow_setCell_below h2 hp u,ownsRow_setCell_below h3 hp u⟩
theorem zCI (bO:Blk w O tM #[.int .i64 n0,.slice A q c,.slice AF r cf]) (hA:w.ownsRow base tA 5 (.slice A q c) q (arcRow L))
 (hF:w.ownsRow base tF 2 (.slice AF r cf) r (finRow F)) (h1:tA≠tM) (h2:tF≠tM) (h3:tF≠tA) {x:Arc} (hg:w.grownBy w6 (Value.slice A q c).ownBlock) (hown:w6.ownsRow base tA 5 (.slice Av (q+1) cv) (q+1) (arcRow L++arcRow [x])) :
 Mg tM tA tF (w6.setCell ⟨O,1,none⟩ (.slice Av (q+1) cv)) O base n0 (q+1) (L++[x]) r F:=by
 have b6:=bO.grown hg (Ne.symm (zAe hA bO h1));have hF6:=hF.kept hg (zAt hF hA h3);exact⟨Av,cv,AF,cf,b6.set_ 1 _,ownsRow_setCell_other (by rw[zAu];exact hown) (zAe hown b6 h1) _,ownsRow_setCell_other hF6 (zAe hF6 b6 h2) _⟩
theorem zCz (bO:Blk w O tM #[.int .i64 n0,.slice A q c,.slice AF r cf]) (hA:w.ownsRow base tA 5 (.slice A q c) q (arcRow L))
 (hF:w.ownsRow base tF 2 (.slice AF r cf) r (finRow F)) (h1:tA≠tM) (h2:tF≠tM) (h3:tA≠tF) {x:Fnl} (hg:w.grownBy w6 (Value.slice AF r cf).ownBlock) (hown:w6.ownsRow base tF 2 (.slice Av (r+1) cv) (r+1) (finRow F++finRow [x])) :
 Mg tM tA tF (w6.setCell ⟨O,2,none⟩ (.slice Av (r+1) cv)) O base n0 q L (r+1) (F++[x]):=by
 have b6:=bO.grown hg (Ne.symm (zAe hF bO h2));have hA6:=hA.kept hg (zAt hA hF h3);exact⟨A,c,Av,cv,b6.set_ 2 _,ownsRow_setCell_other hA6 (zAe hA6 b6 h1) _,ownsRow_setCell_other (by rw[zBO];exact hown) (zAe hown b6 h2) _⟩
theorem mg_at (hA:w.ownsRow base tA 5 (.slice A q c) q (arcRow L)) (hF:w.ownsRow base tF 2 (.slice AF r cf) r (finRow F)) (hq:q≤big) (hr:r≤big):MachAt w w.heap.size (.agg #[.int .i64 n0,.slice A q c,.slice AF r cf]) ⟨n0,L,F⟩:=by
 obtain⟨_,_,ev,hqc,_⟩:=zAa hA;injection ev with _ _ ev
 obtain⟨_,_,fv,hrc,_⟩:=zAa hF;injection fv with _ _ fv
 exact⟨A,AF,q,c,r,cf,rfl,zh (zA6 hA),zh (zBv hF),by omega,by omega,hq,hr,Rd.of_own hA (fun i j hi hj=>zAr _ i j (by rw[zA6 hA];exact hi) hj),Rd.of_own hF (fun i j hi hj=>zCt _ i j (by rw[zBv hF];exact hi) hj)⟩
end
end Gm
