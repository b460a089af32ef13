/- Part of the proof. -/
import Derived.Test.YtkfdhpbnphojoaaNd33
import Derived.Test.YtkfdhpbnphojoaaNd32
set_option linter.unusedSimpArgs false
set_option linter.unusedVariables false
open List renaming mem_singleton→wAa,length_range→wAb,length_map→wAc,length_append→wAd,getD_eq_getElem?_getD→wAe,mem_map→wAf,mem_cons_of_mem→wAg,mem_cons→wAh,mem_range→wAk,length→wAl
open Nat renaming le_refl→wAi
open Array renaming replicate→wAj
namespace Gm
theorem zRg {l:List Int} (hi:l.Pairwise (· < ·)) (hl:LabOk l) {k:Nat} (hk:k<l.length):labB l k=none:=by
 have e:∀ j (hj:j<l.length),l.getD j 0=l[j]:=fun j hj=>by simp[wAe,hj]
 have h1:=hl _ (List.getElem_mem hk);unfold labB;rw[e k hk,if_neg (by omega),if_neg];rintro⟨h0,h2⟩;rw[e (k-1) (by omega)] at h2
 have:=List.pairwise_iff_getElem.1 hi (k-1) k (by omega) hk (by omega)
 omega
theorem zRt {a b:Mach} {l:List Int} {I i:Nat} (hI:(LsC a b l I).length=I) (hi:i<I) {x:Int} (hx:x∈l):(LsC a b l (i+1)).idxOf (nxI a (cpC a b l i).1 x,nxI b (cpC a b l i).2 x)<I:=by
 have hlt:i<(LsC a b l i).length:=by
  rcases Nat.lt_or_ge i (LsC a b l i).length with g | g
  · exact g
  ·exfalso
   have:∀ d,LsC a b l (i+d)=LsC a b l i:=by
    intro d
    induction d with
    | zero=>rfl
    | succ d ih =>
     show (bfsGo _ _ (i+d+1) 0 _ _).1.1=_
     rw[zBb]
     have h2:(StC a b l (i+d)).1.1.length≤0+(i+d):=by
      have:=congrArg wAl ih
      unfold LsC at this g;omega
     have:=zA8 (stp:=stpC a b l) (fin:=fun _=>false) h2 (F:=(StC a b l (i+d)).2) 1
     rw[show bfsGo (stpC a b l) (fun _=>false) (i+d) 0 ([(s0I a,s0I b)],[]) []=StC a b l (i+d) from rfl];rw[show ((StC a b l (i+d)).1,(StC a b l (i+d)).2)=StC a b l (i+d) from rfl] at this;rw[this];exact ih
   have h3:=this (I-i);rw[show i+(I-i)=I by omega] at h3;rw[h3] at hI;omega
 have h:=List.idxOf_lt_length_of_mem (zKe hlt hx);obtain⟨k,hk⟩:=zD9 (a:=a) (b:=b) (l:=l) (show i+1≤I by omega);have h2:=congrArg wAl hk;rw[wAd,hI] at h2
 have h3:(LsC a b l (i+1)).idxOf (nxI a (cpC a b l i).1 x,nxI b (cpC a b l i).2 x)<(LsC a b l (i+1)).length:=by
  rw[zA0];exact h
 omega
theorem joinTab {a b:Mach} {l:List Int} {K:Bool→Bool→Bool} {I:Nat} (hI:(LsC a b l I).length=I) (hI2:I≤20000) (hi:l.Pairwise (· < ·)) (hl:LabOk l) (h3:l.length≤300):tblF l (rowsC a b l I) (finsC a b l K I).length=(0,0):=by
 have hlen:(rowsC a b l I).length=I:=by unfold rowsC;rw[wAc,wAb]
 rw[zET (by omega) (fun j hj=>zRg hi hl hj) (by omega) (fun j hj=>?_)]
 ·rw[if_neg];unfold finsC;rw[wAc,wAb,hlen];simp
 ·rw[hlen] at hj ⊢
  have e:(rowsC a b l I).getD j []=rowC a b l j:=by
   unfold rowsC;simp[wAe,hj]
  unfold rowB;rw[e,zC1,if_neg (by simp),if_pos];intro t ht;unfold rowC at ht;obtain⟨x,hx,rfl⟩:=wAf.1 ht
  have:=zRt hI hj hx
  omega
theorem zKy {a b:Mach} {l:List Int} {K:Bool→Bool→Bool} {r:Mach×(Int×Int)} (hi:l.Pairwise (· < ·)) (hl:LabOk l) (h3:l.length≤300) (h:JoinR a b l K r) :
 (r=(emptyM,(17,-1))∧∃ i,20000<(LsC a b l i).length)∨∃ N,Reg l (jnL a b l K) N∧N=(rowsC a b l N).length∧r=limR (canonM l (jnL a b l K) N):=by
 rcases h with h | ⟨I,hI,hI2,e⟩
 · exact .inl h
 ·refine .inr ⟨I,?_⟩
  have hI0:0<I:=by
   obtain⟨k,hk⟩:=zD9 (a:=a) (b:=b) (l:=l) (Nat.zero_le I);have h0:(LsC a b l 0).length=1:=rfl;rw[← hI,hk,wAd,h0];omega
  have ht0:=joinTab (K:=K) hI hI2 hi hl h3;have hT:=(zD0 (by rw[ht0])).2;rw[zDR ht0] at e;have hS:=hT.sm;have hlen:(rowsC a b l I).length=I:=by unfold rowsC;rw[wAc,wAb]
  have hL:accS (tstp l (rowOf (rowsC a b l I))) (finOf (finsC a b l K I)) 0=jnL a b l K:=by
   funext w;refine propext ((zGl hI hT.inc w 0 hI0).trans ?_);have hc:cpC a b l 0=(s0I a,s0I b):=rfl;rw[hc];exact Iff.rfl
  have hreg:=zCd (fin:=finOf (finsC a b l K I)) hS.inc hS.pos hS.rngs (s:=0) (by rw[hlen];exact hI0);rw[hL,hlen] at hreg;refine⟨hreg,hlen.symm,?_⟩;rw[e];unfold canT;rw[hL,hlen]
theorem zOz {α:Type} (f:Nat→Nat→α) (n m:Nat):((List.range n).flatMap fun i=>(List.range m).map (f i)).length=n*m:=by
 induction n with
 | zero=>simp
 | succ n ih=>rw[zAT,wAd,ih,wAc,wAb,Nat.succ_mul]
theorem zDP {a b:Mach} {l:List Int} {Sa Sb:Nat} (ha:DmOk a Sa) (hb:DmOk b Sb) (i:Nat):(LsC a b l i).length≤(Sa+1)*(Sb+1):=by
 have hall:∀ c∈LsC a b l i,(-1≤c.1∧c.1<(Sa:Int))∧(-1≤c.2∧c.2<(Sb:Int)):=by
  refine zCV (P:=fun c:Int×Int=>(-1≤c.1∧c.1<(Sa:Int))∧(-1≤c.2∧c.2<(Sb:Int))) ?_ (fun s _ e he=>?_) i
  ·have h1:=ha.n;have h2:=hb.n;unfold s0I;dsimp only;constructor<;>split<;>omega
  ·obtain⟨x,_,rfl⟩:=wAf.1 he;have h1:=zCc ha s.1 x;have h2:=zCc hb s.2 x;dsimp only;omega
 rw[← zOz (fun i j=>(((i:Int)-1,(j:Int)-1):Int×Int)) (Sa+1) (Sb+1)];refine zAM (zBJ i) fun c hc=>?_
 have h:=hall c hc;obtain⟨p,q⟩:=c;dsimp only at h;rw[List.mem_flatMap];refine⟨(p+1).toNat,wAk.2 (by omega),wAf.2 ⟨(q+1).toNat,wAk.2 (by omega),?_⟩⟩;rw[Prod.mk.injEq];omega
theorem zRb {m:Mach} {S:Nat} (h:DmOk m S):LabOk (labD m):=fun x hx=>by
 obtain⟨a,ha,rfl⟩:=wAf.1 ((zAB _ _).1 hx);exact h.lab a ha
theorem zHu {l:List Int} {L L':Lang} {N:Nat} {r:Mach} (h:Reg l L N) (hr:ResL r L') (e:∀ w,L w↔L' w):limR (canonM l L N)=(r,(0,0)):=by
 obtain⟨ls',N',hr',_,e2⟩:=hr.can
 have:canonM l L N=r:=by rw[e2];exact (zBw h hr' (wAi _) (wAi _)).2 e
 rw[this];unfold limR;rw[if_neg (by have:=hr.n4;have:=hr.len;omega)]
theorem zL7 {A A':List Arc} {F F':List Fnl} (hA:∀ a∈A,a∈A') (hF:∀ x∈F,x∈F') {s:Int} {w:List Int} (h:accA A F s w):accA A' F' s w:=by
 obtain⟨t,hp,x,hx,hs⟩:=h;refine⟨t,?_,x,hF x hx,hs⟩;clear hx hs
 induction hp with
 | nil=>exact .nil
 | eps ha hi _ ih=>exact .eps (hA _ ha) hi ih
 | lab ha hi _ ih=>exact .lab (hA _ ha) hi ih
def twoM:Mach:=⟨2,[⟨0,1,97,97,0⟩,⟨0,1,98,98,0⟩],[⟨1,0⟩]⟩
def oneM:Mach:=⟨1,[⟨0,0,97,97,0⟩],[⟨0,0⟩]⟩
theorem zKg (w:List Int):bA emptyM w=false:=by
 by_cases h:bA emptyM w=true
 · exact absurd (bA_iff.1 h) (zA1 0 w)
 · simpa using h
theorem letM_done:accF letM=(0,0)∧detW letM=(letM,(0,0))∧ResL letM (fun w=>bA letM w=true):=by
 have h:=zKp;have h2:(minW dblM).2=(0,0):=by rw[h]
 obtain⟨g1,_,g3,g4,_⟩:=zLh h2;rw[h] at g1 g3 g4;dsimp only at g1 g3 g4
 have:=zKA (m:=letM) (by rw[g4])
 rw[g4] at this;exact⟨g1,g3,this⟩
def stp2 (s:Nat):List (Int×Nat):=if s=0 then [(97,1),(98,1)] else []
def fin2 (s:Nat):Bool:=decide (s=1)
theorem br2 {v:Nat} : v∈[0,1]↔BR stp2 0 v:=by
 constructor
 ·intro h;rcases wAh.1 h with rfl | h
  · exact .base
  ·rw[wAa.1 h];exact .step (s:=0) (x:=97) .base (by decide)
 ·intro h
  induction h with
  | base=>simp
  | @step s u x _ hx ih =>
   have:s=0∨s=1:=by simpa using ih
   rcases this with rfl | rfl
   ·have:(x,u)∈[((97:Int),1),(98,1)]:=hx
    simp at this;simp;omega
   ·have:(x,u)∈([]:List (Int×Nat)):=hx
    cases this
theorem two_bfs:BfsL stp2 fin2 0 [0,1] where
 nod:=by decide
 first:=rfl
 mem:=fun v=>br2
 inc:=fun s hs=>by
  have:s=0∨s=1:=by simpa using br2.2 hs
  rcases this with rfl | rfl
  ·show List.Pairwise _ [((97:Int),1),(98,1)]
   simp
  · exact .nil
 lab:=fun s hs e he=>by
  have:s=0∨s=1:=by simpa using br2.2 hs
  rcases this with rfl | rfl
  ·have:e∈[((97:Int),1),(98,1)]:=he
   simp at this;rcases this with rfl | rfl<;>decide
  ·have:e∈([]:List (Int×Nat)):=he
   cases this
 use:=fun s hs=>by
  have:s=0∨s=1:=by simpa using br2.2 hs
  rcases this with rfl | rfl
  · exact⟨[97],1,by decide,rfl⟩
  · exact⟨[],rfl⟩
 bfs:=fun f hf=>by
  rw[zDS (Z:=[0,1]) (fun v hv=>br2.2 hv) hf (show [0,1].length≤2 by decide)];rfl
theorem two_det:accF twoM=(0,0)∧detW twoM=(twoM,(0,0)):=by
 have e:lstM stp2 fin2 [0,1]=twoM:=rfl;have h:=two_bfs.detW (by decide) (by rw[e];decide);rw[e] at h;exact⟨by decide,h⟩
theorem empty_det:accF emptyM=(0,0)∧detW emptyM=(emptyM,(0,0)):=by
 have h0:accF emptyM=(0,0):=by decide
 have h1:silM emptyM=emptyM:=zCQ h0 (by
  have val:=zAX (zAU h0);rw[zBK val.n0 val.inRange val.finRange]
  rfl)
 have h2:silR emptyM=(emptyM,(0,0)):=by
  unfold silR;rw[if_neg (fun g=>g h0),h1,if_neg (by decide)]
 refine⟨h0,?_⟩;unfold detW;rw[h2,if_neg (fun g=>g rfl)];exact if_pos rfl
def oneL:Lang:=fun w=>∀ x∈w,x=97
open Classical in
theorem one_can:Reg [97] oneL 1∧canonM [97] oneL 1=oneM:=by
 have hq:∀ x U,(x,U)∈stpQ [97] oneL↔x=97∧U=oneL:=by
  intro x U;rw[mem_stpQ,wAa];constructor
  ·rintro⟨rfl,_,rfl⟩;refine⟨rfl,funext fun w=>propext ⟨fun h x hx=>h x (wAg _ hx),fun h x hx=>?_⟩⟩;rcases wAh.1 hx with rfl | hx
   · rfl
   · exact h x hx
  ·rintro⟨rfl,rfl⟩;refine⟨rfl,⟨[],fun x hx=>by simpa using hx⟩,funext fun w=>propext ⟨fun h x hx=>?_,fun h x hx=>h x (wAg _ hx)⟩⟩;rcases wAh.1 hx with rfl | hx
   · rfl
   · exact h x hx
 refine⟨⟨by simp,fun x hx=>by rw[wAa.1 hx];decide,fun w hw x hx=>by rw[hw x hx];simp,⟨[oneL],by simp,fun Q hQ=>?_⟩⟩,?_⟩
 ·have:Q=oneL:=by
   induction hQ with
   | base=>rfl
   | @step s u x _ hx ih =>
    rw[ih] at hx;exact ((hq x u).1 hx).2
  rw[this];simp
 ·unfold canonM;rw[if_pos ⟨[],fun x hx=>by cases hx⟩]
  have key:=zFy (R:=fun (Q:Lang) (s:Nat)=>Q=oneL∧s=0) (fun a b a' b' h h'=>by
   obtain⟨rfl,rfl⟩:=h;obtain⟨rfl,rfl⟩:=h'
   exact⟨fun _=>rfl,fun _=>rfl⟩) (stp:=stpQ [97]) (stp':=fun _=>[((97:Int),0)]) (fin:=finQ) (fin':=fun _=>true) (fun Q s h=>by
   obtain⟨rfl,rfl⟩:=h;refine F2_of (R:=fun (Q:Lang) (s:Nat)=>Q=oneL∧s=0) (zB0 (by simp) _) (by simp[incS]) (fun x=>?_) (fun x U v hU hv=>?_)
   ·constructor
    ·rintro⟨U,hU⟩;obtain⟨rfl,_⟩:=(hq x U).1 hU;exact⟨0,by simp⟩
    ·rintro⟨v,hv⟩;(have hv:(x,v)=((97:Int),0):=by simpa using hv);(injection hv with h1 h2);exact⟨oneL,(hq x oneL).2 ⟨h1,rfl⟩⟩
   ·(have hv:(x,v)=((97:Int),0):=by simpa using hv);injection hv with h1 h2
    exact⟨((hq x U).1 hU).2,h2⟩) (fun Q s h=>by
   obtain⟨rfl,rfl⟩:=h;unfold finQ
   exact decide_eq_true (fun x hx=>by cases hx)) (s0:=oneL) (t0:=0) ⟨rfl,rfl⟩ 1
  exact key.trans rfl
theorem zRU:ResL oneM oneL:=⟨⟨[97],1,one_can.1,fun x hx=>by rw[wAa.1 hx];decide,one_can.2.symm⟩,by decide,by decide⟩
theorem zEF {a b:Mach} {K:Bool→Bool→Bool} {r:Mach×(Int×Int)} (h:IntR a b K r) (hz:bothF a b=(0,0)) (hK:∀ q,K false q=false) :
 (r=(emptyM,(17,-1))∧∃ i,20000<(LsC (detW a).1 (detW b).1 (labD (detW a).1) i).length)∨∃ N,Reg (labD (detW a).1) (fun w=>K (bA a w) (bA b w)=true) N∧r=limR (canonM (labD (detW a).1) (fun w=>K (bA a w) (bA b w)=true) N):=by
 rcases h with⟨h1,_⟩ | ⟨_,hj⟩
 · exact absurd hz h1
 ·obtain⟨_,_,ha,hb,h3⟩:=zBp hz;obtain⟨Sa,hSa⟩:=zAW ha
  have hL:jnL (detW a).1 (detW b).1 (labD (detW a).1) K=(fun w=>K (bA a w) (bA b w)=true):=by
   funext w;unfold jnL;rw[zB4 ha,zB4 hb];refine propext ⟨fun h=>h.2,fun h=>⟨?_,h⟩⟩;by_cases hw:bA a w=true
   · exact zKS ha (bA_iff.1 hw)
   ·rw[Bool.not_eq_true] at hw;rw[hw,hK] at h;cases h
  rcases zKy (show (labD (detW a).1).Pairwise (· < ·) from zAm _) (zRb hSa) h3 hj with h | ⟨N,h1,_,h2⟩
  · exact .inl h
  ·rw[hL] at h1 h2;exact .inr ⟨N,h1,h2⟩
theorem zHk {m:Mach} {l:List Int} {r:Mach×(Int×Int)} (h:CmpR m l r) (h0:accF m=(0,0)) (h1:alphF l (-2)=(0,0)) (h2:(detW m).2=(0,0)) (hi:l.Pairwise (· < ·)) (hl:LabOk l) (h3:l.length≤300) :
 ∃ N,Reg l (fun w=>(∀ x∈w,x∈l)∧bA m w=false) N∧r=limR (canonM l (fun w=>(∀ x∈w,x∈l)∧bA m w=false) N):=by
 rcases h with⟨g,_⟩ | ⟨_,g,_⟩ | ⟨_,_,g,_⟩ | ⟨_,_,_,hj⟩
 · exact absurd h0 g
 · exact absurd h1 g
 · exact absurd h2 g
 ·obtain⟨S,hS⟩:=zAW h2
  have hL:jnL (detW m).1 emptyM l (fun p _ => !p)=(fun w=>(∀ x∈w,x∈l)∧bA m w=false):=by
   funext w;unfold jnL;rw[zB4 h2];refine propext (and_congr_right fun _=>?_);simp
  rcases zKy hi hl h3 hj with⟨_,i,hb⟩ | ⟨N,g1,_,g2⟩
  ·have:=zDP (l:=l) hS zC6 i
   have:=hS.n4
   omega
  ·rw[hL] at g1 g2;exact⟨N,g1,g2⟩
theorem zMh {a b:Mach} (ha:accF a=(0,0)) (hb:accF b=(0,0)) (h1:detW a=(a,(0,0))) (h2:detW b=(b,(0,0))) (h3:(labD a).length≤300):bothF a b=(0,0):=by
 unfold bothF;rw[if_neg (fun g=>g ha),if_neg (fun g=>g hb),h1,h2,if_neg (fun g=>g rfl),if_neg (fun g=>g rfl),if_neg (by dsimp only;omega)]
theorem zSp:DmOk twoM 2:=by
 obtain⟨S,hS⟩:=zAW (m:=twoM) (by rw[two_det.2]);rw[two_det.2] at hS
 have:S=2:=by have:=hS.n;have e:twoM.n=2:=rfl;dsimp only at this;omega
 rw[this] at hS;exact hS
theorem zQf:DmOk letM 2:=by
 obtain⟨S,hS⟩:=zAW (m:=letM) (by rw[letM_done.2.1]);rw[letM_done.2.1] at hS
 have:S=2:=by have:=hS.n;have e:letM.n=2:=rfl;dsimp only at this;omega
 rw[this] at hS;exact hS
theorem zSA {r:Mach×(Int×Int)} (h:IntR twoM letM (fun p q=>p&&q) r):r=(letM,(0,0)):=by
 have hz:=zMh two_det.1 letM_done.1 two_det.2 letM_done.2.1 (by decide);rcases zEF h hz (fun q=>rfl) with⟨_,i,hb⟩ | ⟨N,h1,h2⟩
 ·rw[two_det.2,letM_done.2.1] at hb
  have:=zDP (l:=labD twoM) zSp zQf i
  dsimp only at hb;omega
 ·rw[h2];refine zHu h1 letM_done.2.2 fun w=>?_
  rw[Bool.and_eq_true];refine⟨fun h=>h.2,fun h=>⟨?_,h⟩⟩;rw[bA_iff] at h ⊢
  exact zL7 (fun a ha=>by
   have:a=⟨0,1,97,97,0⟩:=by simpa[letM] using ha
   rw[this];simp[twoM]) (fun x hx=>by simpa[letM,twoM] using hx) h
theorem zSR {r:Mach×(Int×Int)} (h:IntR letM emptyM (fun p q=>p && !q) r):r=(letM,(0,0)):=by
 have hz:=zMh letM_done.1 empty_det.1 letM_done.2.1 empty_det.2 (by decide);rcases zEF h hz (fun q=>rfl) with⟨_,i,hb⟩ | ⟨N,h1,h2⟩
 ·rw[empty_det.2,letM_done.2.1] at hb
  have:=zDP (l:=labD letM) zQf zC6 i
  dsimp only at hb;omega
 ·rw[h2];refine zHu h1 letM_done.2.2 fun w=>?_
  rw[zKg];simp
theorem zSJ {r:Mach×(Int×Int)} (h:CmpR emptyM [97] r):r=(oneM,(0,0)):=by
 obtain⟨N,h1,h2⟩:=zHk h empty_det.1 (by decide) (by rw[empty_det.2]) (by simp) (fun x hx=>by rw[wAa.1 hx];decide) (by decide);rw[h2];refine zHu h1 zRU fun w=>?_
 rw[zKg];simp[oneL]
open Go
theorem zDq {P:Program} {id:Nat} {os:List Oper} {Q:Exit→Act→World→Prop} (F:(Nat→Bool)→(Nat→Value)→World→Prop) {A:(Nat→Value)→Act} {a0:Act} {w:World}
 (hA:∀ v,putR os 0 v a0=A v) (hm:P.follows .mixedOrders=true) (hd:dstsB os=true) (hdown:downB os=true)
 (h0:F (fun k=>(wAj os.length false).getD k true) (valR os a0) w.drew)
 (hend:∀ l v w,(∀ k,k<os.length→l k=true)→F l v w→Q .normal (A v) w)
 (hsteps:StepsR P Q F A os.toArray 0 os):(Code.region id os.toArray true).wp P Q a0 w:=by
 refine wp_region_any hm ?_
 have h:=zLO (P:=P) (Q:=Q) (F:=F) (A:=A) (a0:=a0) hA hd hsteps hend os.toArray.size (wAj os.toArray.size false) (valR os a0) w.drew
  (fun hr=>zDf hdown _ (by simp) hr) (by simp) (fun L' h1 h2=>zDf hdown L' h1 h2)
  (by simp) (fun k o hk hl=>by
   have hk':k<os.length:=(List.getElem?_eq_some_iff.1 hk).1
   simp[hk'] at hl) (by simpa using h0)
 rw[← hA (valR os a0),zIQ a0 os 0 (valR os a0) (fun k o ho=>by
  unfold valR;rw[Nat.zero_add,ho]
  rfl)] at h
 exact h
theorem zPK {r:Mach} {L:Lang} (h:ResL r L):accF r=(0,0)∧detW r=(r,(0,0)):=by
 classical
 obtain⟨ls,N,hr,hl,e⟩:=h.can;have h4:=h.n4;have h2:=h.len;by_cases hL:∃ w,L w
 ·obtain⟨l,hb,e2⟩:=zDg hr hl hL (wAi N);rw[e,e2] at h4 h2 ⊢;have n:=hb.form.n;have h4':l.length≤400:=by omega
  exact⟨hb.acc0 h4' h2,hb.detW h4' h2⟩
 ·rw[e,zAz hL];exact empty_det
/-! The states of a least machine are told apart by their words. -/
end Gm
