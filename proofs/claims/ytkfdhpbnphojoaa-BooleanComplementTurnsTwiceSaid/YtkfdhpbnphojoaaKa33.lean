/- The texts BxP, InQ, CtT of this proof. No conditions. -/
import Derived.Test.YtkfdhpbnphojoaaKa30
import Derived.Test.YtkfdhpbnphojoaaKa20
import Derived.Test.YtkfdhpbnphojoaaKa29
/- Text BxP. -/
namespace Gm
set_option linter.unusedSimpArgs false
set_option linter.unusedVariables false
theorem labB_ok {l:List Int} (hi:l.Pairwise (· < ·)) (hl:LabOk l) {k:Nat} (hk:k<l.length):labB l k=none:=by
 have e:∀ j (hj:j<l.length),l.getD j 0=l[j]:=fun j hj=>by simp[List.getD_eq_getElem?_getD,hj]
 have h1:=hl _ (List.getElem_mem hk);unfold labB;rw[e k hk,if_neg (by omega),if_neg];rintro⟨h0,h2⟩;rw[e (k-1) (by omega)] at h2
 have:=List.pairwise_iff_getElem.1 hi (k-1) k (by omega) hk (by omega)
 omega
theorem idxC_lt {a b:Mach} {l:List Int} {I i:Nat} (hI:(LsC a b l I).length=I) (hi:i<I) {x:Int} (hx:x∈l):(LsC a b l (i+1)).idxOf (nxI a (cpC a b l i).1 x,nxI b (cpC a b l i).2 x)<I:=by
 have hlt:i<(LsC a b l i).length:=by
  rcases Nat.lt_or_ge i (LsC a b l i).length with g | g
  · exact g
  ·
   exfalso
   have:∀ d,LsC a b l (i+d)=LsC a b l i:=by
    intro d
    induction d with
    | zero=>rfl
    | succ d ih =>
     show (bfsGo _ _ (i+d+1) 0 _ _).1.1=_
     rw[bfsGo_succ]
     have h2:(StC a b l (i+d)).1.1.length≤0+(i+d):=by
      have:=congrArg List.length ih
      unfold LsC at this g;omega
     have:=bfsGo_none (stp:=stpC a b l) (fin:=fun _=>false) h2 (F:=(StC a b l (i+d)).2) 1
     rw[show bfsGo (stpC a b l) (fun _=>false) (i+d) 0 ([(s0I a,s0I b)],[]) []=StC a b l (i+d) from rfl];rw[show ((StC a b l (i+d)).1,(StC a b l (i+d)).2)=StC a b l (i+d) from rfl] at this;rw[this];exact ih
   have h3:=this (I-i);rw[show i+(I-i)=I by omega] at h3;rw[h3] at hI;omega
 have h:=List.idxOf_lt_length_of_mem (lsC_step hlt hx);obtain⟨k,hk⟩:=lsC_pre (a:=a) (b:=b) (l:=l) (show i+1≤I by omega);have h2:=congrArg List.length hk;rw[List.length_append,hI] at h2
 have h3:(LsC a b l (i+1)).idxOf (nxI a (cpC a b l i).1 x,nxI b (cpC a b l i).2 x)<(LsC a b l (i+1)).length:=by
  rw[idx_inst];exact h
 omega
theorem joinTab {a b:Mach} {l:List Int} {K:Bool→Bool→Bool} {I:Nat} (hI:(LsC a b l I).length=I) (hI2:I≤20000) (hi:l.Pairwise (· < ·)) (hl:LabOk l) (h3:l.length≤300):tblF l (rowsC a b l I) (finsC a b l K I).length=(0,0):=by
 have hlen:(rowsC a b l I).length=I:=by unfold rowsC;rw[List.length_map,List.length_range]
 rw[tblF_end (by omega) (fun j hj=>labB_ok hi hl hj) (by omega) (fun j hj=>?_)]
 ·
  rw[if_neg];unfold finsC;rw[List.length_map,List.length_range,hlen];simp
 ·
  rw[hlen] at hj ⊢
  have e:(rowsC a b l I).getD j []=rowC a b l j:=by
   unfold rowsC;simp[List.getD_eq_getElem?_getD,hj]
  unfold rowB;rw[e,rowC_len,if_neg (by simp),if_pos];intro t ht;unfold rowC at ht;obtain⟨x,hx,rfl⟩:=List.mem_map.1 ht
  have:=idxC_lt hI hj hx
  omega
theorem join_lim {a b:Mach} {l:List Int} {K:Bool→Bool→Bool} {r:Mach×(Int×Int)} (hi:l.Pairwise (· < ·)) (hl:LabOk l) (h3:l.length≤300) (h:JoinR a b l K r) :
 (r=(emptyM,(17,-1))∧∃ i,20000<(LsC a b l i).length)∨∃ N,Reg l (jnL a b l K) N∧N=(rowsC a b l N).length∧r=limR (canonM l (jnL a b l K) N):=by
 rcases h with h | ⟨I,hI,hI2,e⟩
 · exact .inl h
 ·
  refine .inr ⟨I,?_⟩
  have hI0:0<I:=by
   obtain⟨k,hk⟩:=lsC_pre (a:=a) (b:=b) (l:=l) (Nat.zero_le I);have h0:(LsC a b l 0).length=1:=rfl;rw[← hI,hk,List.length_append,h0];omega
  have ht0:=joinTab (K:=K) hI hI2 hi hl h3;have hT:=(tblF_zero (by rw[ht0])).2;rw[leastR_ok ht0] at e;have hS:=hT.sm;have hlen:(rowsC a b l I).length=I:=by unfold rowsC;rw[List.length_map,List.length_range]
  have hL:accS (tstp l (rowOf (rowsC a b l I))) (finOf (finsC a b l K I)) 0=jnL a b l K:=by
   funext w;refine propext ((rowsC_lang hI hT.inc w 0 hI0).trans ?_);have hc:cpC a b l 0=(s0I a,s0I b):=rfl;rw[hc];exact Iff.rfl
  have hreg:=reg_tab (fin:=finOf (finsC a b l K I)) hS.inc hS.pos hS.rngs (s:=0) (by rw[hlen];exact hI0);rw[hL,hlen] at hreg;refine⟨hreg,hlen.symm,?_⟩;rw[e];unfold canT;rw[hL,hlen]
theorem prod_len {α:Type} (f:Nat→Nat→α) (n m:Nat):((List.range n).flatMap fun i=>(List.range m).map (f i)).length=n*m:=by
 induction n with
 | zero=>simp
 | succ n ih=>rw[flat_succ,List.length_append,ih,List.length_map,List.length_range,Nat.succ_mul]
theorem lsC_bound {a b:Mach} {l:List Int} {Sa Sb:Nat} (ha:DmOk a Sa) (hb:DmOk b Sb) (i:Nat):(LsC a b l i).length≤(Sa+1)*(Sb+1):=by
 have hall:∀ c∈LsC a b l i,(-1≤c.1∧c.1<(Sa:Int))∧(-1≤c.2∧c.2<(Sb:Int)):=by
  refine stB_all (P:=fun c:Int×Int=>(-1≤c.1∧c.1<(Sa:Int))∧(-1≤c.2∧c.2<(Sb:Int))) ?_ (fun s _ e he=>?_) i
  ·
   have h1:=ha.n;have h2:=hb.n;unfold s0I;dsimp only;constructor<;>split<;>omega
  ·
   obtain⟨x,_,rfl⟩:=List.mem_map.1 he;have h1:=nxI_rng ha s.1 x;have h2:=nxI_rng hb s.2 x;dsimp only;omega
 rw[← prod_len (fun i j=>(((i:Int)-1,(j:Int)-1):Int×Int)) (Sa+1) (Sb+1)];refine nodup_sub_len (stB_nodup i) fun c hc=>?_
 have h:=hall c hc;obtain⟨p,q⟩:=c;dsimp only at h;rw[List.mem_flatMap];refine⟨(p+1).toNat,List.mem_range.2 (by omega),List.mem_map.2 ⟨(q+1).toNat,List.mem_range.2 (by omega),?_⟩⟩;rw[Prod.mk.injEq];omega
theorem labD_ok {m:Mach} {S:Nat} (h:DmOk m S):LabOk (labD m):=fun x hx=>by
 obtain⟨a,ha,rfl⟩:=List.mem_map.1 ((setI_mem _ _).1 hx);exact h.lab a ha
theorem lim_uniq {l:List Int} {L L':Lang} {N:Nat} {r:Mach} (h:Reg l L N) (hr:ResL r L') (e:∀ w,L w↔L' w):limR (canonM l L N)=(r,(0,0)):=by
 obtain⟨ls',N',hr',_,e2⟩:=hr.can
 have:canonM l L N=r:=by rw[e2];exact (canon_iff h hr' (Nat.le_refl _) (Nat.le_refl _)).2 e
 rw[this];unfold limR;rw[if_neg (by have:=hr.n4;have:=hr.len;omega)]
theorem accA_mono {A A':List Arc} {F F':List Fnl} (hA:∀ a∈A,a∈A') (hF:∀ x∈F,x∈F') {s:Int} {w:List Int} (h:accA A F s w):accA A' F' s w:=by
 obtain⟨t,hp,x,hx,hs⟩:=h;refine⟨t,?_,x,hF x hx,hs⟩;clear hx hs
 induction hp with
 | nil=>exact .nil
 | eps ha hi _ ih=>exact .eps (hA _ ha) hi ih
 | lab ha hi _ ih=>exact .lab (hA _ ha) hi ih
def twoM:Mach:=⟨2,[⟨0,1,97,97,0⟩,⟨0,1,98,98,0⟩],[⟨1,0⟩]⟩
def oneM:Mach:=⟨1,[⟨0,0,97,97,0⟩],[⟨0,0⟩]⟩
theorem empty_bA (w:List Int):bA emptyM w=false:=by
 by_cases h:bA emptyM w=true
 · exact absurd (bA_iff.1 h) (empty_words 0 w)
 · simpa using h
theorem letM_done:accF letM=(0,0)∧detW letM=(letM,(0,0))∧ResL letM (fun w=>bA letM w=true):=by
 have h:=dblM_min;have h2:(minW dblM).2=(0,0):=by rw[h]
 obtain⟨g1,_,g3,g4,_⟩:=least_done h2;rw[h] at g1 g3 g4;dsimp only at g1 g3 g4
 have:=minW_res (m:=letM) (by rw[g4])
 rw[g4] at this;exact⟨g1,g3,this⟩
def stp2 (s:Nat):List (Int×Nat):=if s=0 then [(97,1),(98,1)] else []
def fin2 (s:Nat):Bool:=decide (s=1)
theorem br2 {v:Nat} : v∈[0,1]↔BR stp2 0 v:=by
 constructor
 ·
  intro h;rcases List.mem_cons.1 h with rfl | h
  · exact .base
  ·
   rw[List.mem_singleton.1 h];exact .step (s:=0) (x:=97) .base (by decide)
 ·
  intro h
  induction h with
  | base=>simp
  | @step s u x _ hx ih =>
   have:s=0∨s=1:=by simpa using ih
   rcases this with rfl | rfl
   ·
    have:(x,u)∈[((97:Int),1),(98,1)]:=hx
    simp at this;simp;omega
   ·
    have:(x,u)∈([]:List (Int×Nat)):=hx
    cases this
theorem two_bfs:BfsL stp2 fin2 0 [0,1] where
 nod:=by decide
 first:=rfl
 mem:=fun v=>br2
 inc:=fun s hs=>by
  have:s=0∨s=1:=by simpa using br2.2 hs
  rcases this with rfl | rfl
  ·
   show List.Pairwise _ [((97:Int),1),(98,1)]
   simp
  · exact .nil
 lab:=fun s hs e he=>by
  have:s=0∨s=1:=by simpa using br2.2 hs
  rcases this with rfl | rfl
  ·
   have:e∈[((97:Int),1),(98,1)]:=he
   simp at this;rcases this with rfl | rfl<;>decide
  ·
   have:e∈([]:List (Int×Nat)):=he
   cases this
 use:=fun s hs=>by
  have:s=0∨s=1:=by simpa using br2.2 hs
  rcases this with rfl | rfl
  · exact⟨[97],1,by decide,rfl⟩
  · exact⟨[],rfl⟩
 bfs:=fun f hf=>by
  rw[bfsM_fuel (Z:=[0,1]) (fun v hv=>br2.2 hv) hf (show [0,1].length≤2 by decide)];rfl
theorem two_det:accF twoM=(0,0)∧detW twoM=(twoM,(0,0)):=by
 have e:lstM stp2 fin2 [0,1]=twoM:=rfl;have h:=two_bfs.detW (by decide) (by rw[e];decide);rw[e] at h;exact⟨by decide,h⟩
theorem empty_det:accF emptyM=(0,0)∧detW emptyM=(emptyM,(0,0)):=by
 have h0:accF emptyM=(0,0):=by decide
 have h1:silM emptyM=emptyM:=silM_zero h0 (by
  have val:=valid_of (accF_val h0);rw[silM_trim val.n0 val.inRange val.finRange]
  rfl)
 have h2:silR emptyM=(emptyM,(0,0)):=by
  unfold silR;rw[if_neg (fun g=>g h0),h1,if_neg (by decide)]
 refine⟨h0,?_⟩;unfold detW;rw[h2,if_neg (fun g=>g rfl)];exact if_pos rfl
def oneL:Lang:=fun w=>∀ x∈w,x=97
open Classical in
theorem one_can:Reg [97] oneL 1∧canonM [97] oneL 1=oneM:=by
 have hq:∀ x U,(x,U)∈stpQ [97] oneL↔x=97∧U=oneL:=by
  intro x U;rw[mem_stpQ,List.mem_singleton];constructor
  ·
   rintro⟨rfl,_,rfl⟩;refine⟨rfl,funext fun w=>propext ⟨fun h x hx=>h x (List.mem_cons_of_mem _ hx),fun h x hx=>?_⟩⟩;rcases List.mem_cons.1 hx with rfl | hx
   · rfl
   · exact h x hx
  ·
   rintro⟨rfl,rfl⟩;refine⟨rfl,⟨[],fun x hx=>by simpa using hx⟩,funext fun w=>propext ⟨fun h x hx=>?_,fun h x hx=>h x (List.mem_cons_of_mem _ hx)⟩⟩;rcases List.mem_cons.1 hx with rfl | hx
   · rfl
   · exact h x hx
 refine⟨⟨by simp,fun x hx=>by rw[List.mem_singleton.1 hx];decide,fun w hw x hx=>by rw[hw x hx];simp,⟨[oneL],by simp,fun Q hQ=>?_⟩⟩,?_⟩
 ·
  have:Q=oneL:=by
   induction hQ with
   | base=>rfl
   | @step s u x _ hx ih =>
    rw[ih] at hx;exact ((hq x u).1 hx).2
  rw[this];simp
 ·
  unfold canonM;rw[if_pos ⟨[],fun x hx=>by cases hx⟩]
  have key:=bfsM_like (R:=fun (Q:Lang) (s:Nat)=>Q=oneL∧s=0) (fun a b a' b' h h'=>by
   obtain⟨rfl,rfl⟩:=h;obtain⟨rfl,rfl⟩:=h'
   exact⟨fun _=>rfl,fun _=>rfl⟩) (stp:=stpQ [97]) (stp':=fun _=>[((97:Int),0)]) (fin:=finQ) (fin':=fun _=>true) (fun Q s h=>by
   obtain⟨rfl,rfl⟩:=h;refine F2_of (R:=fun (Q:Lang) (s:Nat)=>Q=oneL∧s=0) (incS_stpQ (by simp) _) (by simp[incS]) (fun x=>?_) (fun x U v hU hv=>?_)
   ·
    constructor
    ·
     rintro⟨U,hU⟩;obtain⟨rfl,_⟩:=(hq x U).1 hU;exact⟨0,by simp⟩
    ·
     rintro⟨v,hv⟩;have hv:(x,v)=((97:Int),0):=by simpa using hv
     injection hv with h1 h2
     exact⟨oneL,(hq x oneL).2 ⟨h1,rfl⟩⟩
   ·
    have hv:(x,v)=((97:Int),0):=by simpa using hv
    injection hv with h1 h2
    exact⟨((hq x U).1 hU).2,h2⟩) (fun Q s h=>by
   obtain⟨rfl,rfl⟩:=h;unfold finQ
   exact decide_eq_true (fun x hx=>by cases hx)) (s0:=oneL) (t0:=0) ⟨rfl,rfl⟩ 1
  exact key.trans rfl
theorem one_res:ResL oneM oneL:=⟨⟨[97],1,one_can.1,fun x hx=>by rw[List.mem_singleton.1 hx];decide,one_can.2.symm⟩,by decide,by decide⟩
theorem intR_lim {a b:Mach} {K:Bool→Bool→Bool} {r:Mach×(Int×Int)} (h:IntR a b K r) (hz:bothF a b=(0,0)) (hK:∀ q,K false q=false) :
 (r=(emptyM,(17,-1))∧∃ i,20000<(LsC (detW a).1 (detW b).1 (labD (detW a).1) i).length)∨∃ N,Reg (labD (detW a).1) (fun w=>K (bA a w) (bA b w)=true) N∧r=limR (canonM (labD (detW a).1) (fun w=>K (bA a w) (bA b w)=true) N):=by
 rcases h with⟨h1,_⟩ | ⟨_,hj⟩
 · exact absurd hz h1
 ·
  obtain⟨_,_,ha,hb,h3⟩:=bothF_zero hz;obtain⟨Sa,hSa⟩:=dmOk_det ha
  have hL:jnL (detW a).1 (detW b).1 (labD (detW a).1) K=(fun w=>K (bA a w) (bA b w)=true):=by
   funext w;unfold jnL;rw[acR_det ha,acR_det hb];refine propext ⟨fun h=>h.2,fun h=>⟨?_,h⟩⟩;by_cases hw:bA a w=true
   · exact det_over ha (bA_iff.1 hw)
   ·
    rw[Bool.not_eq_true] at hw;rw[hw,hK] at h;cases h
  rcases join_lim (show (labD (detW a).1).Pairwise (· < ·) from setI_sorted _) (labD_ok hSa) h3 hj with h | ⟨N,h1,_,h2⟩
  · exact .inl h
  ·
   rw[hL] at h1 h2;exact .inr ⟨N,h1,h2⟩
theorem cmpR_lim {m:Mach} {l:List Int} {r:Mach×(Int×Int)} (h:CmpR m l r) (h0:accF m=(0,0)) (h1:alphF l (-2)=(0,0)) (h2:(detW m).2=(0,0)) (hi:l.Pairwise (· < ·)) (hl:LabOk l) (h3:l.length≤300) :
 ∃ N,Reg l (fun w=>(∀ x∈w,x∈l)∧bA m w=false) N∧r=limR (canonM l (fun w=>(∀ x∈w,x∈l)∧bA m w=false) N):=by
 rcases h with⟨g,_⟩ | ⟨_,g,_⟩ | ⟨_,_,g,_⟩ | ⟨_,_,_,hj⟩
 · exact absurd h0 g
 · exact absurd h1 g
 · exact absurd h2 g
 ·
  obtain⟨S,hS⟩:=dmOk_det h2
  have hL:jnL (detW m).1 emptyM l (fun p _ => !p)=(fun w=>(∀ x∈w,x∈l)∧bA m w=false):=by
   funext w;unfold jnL;rw[acR_det h2];refine propext (and_congr_right fun _=>?_);simp
  rcases join_lim hi hl h3 hj with⟨_,i,hb⟩ | ⟨N,g1,_,g2⟩
  ·
   have:=lsC_bound (l:=l) hS dmOk_empty i
   have:=hS.n4
   omega
  ·
   rw[hL] at g1 g2;exact⟨N,g1,g2⟩
theorem both_ex {a b:Mach} (ha:accF a=(0,0)) (hb:accF b=(0,0)) (h1:detW a=(a,(0,0))) (h2:detW b=(b,(0,0))) (h3:(labD a).length≤300):bothF a b=(0,0):=by
 unfold bothF;rw[if_neg (fun g=>g ha),if_neg (fun g=>g hb),h1,h2,if_neg (fun g=>g rfl),if_neg (fun g=>g rfl),if_neg (by dsimp only;omega)]
theorem dm_two:DmOk twoM 2:=by
 obtain⟨S,hS⟩:=dmOk_det (m:=twoM) (by rw[two_det.2]);rw[two_det.2] at hS
 have:S=2:=by have:=hS.n;have e:twoM.n=2:=rfl;dsimp only at this;omega
 rw[this] at hS;exact hS
theorem dm_let:DmOk letM 2:=by
 obtain⟨S,hS⟩:=dmOk_det (m:=letM) (by rw[letM_done.2.1]);rw[letM_done.2.1] at hS
 have:S=2:=by have:=hS.n;have e:letM.n=2:=rfl;dsimp only at this;omega
 rw[this] at hS;exact hS
theorem ex_int {r:Mach×(Int×Int)} (h:IntR twoM letM (fun p q=>p&&q) r):r=(letM,(0,0)):=by
 have hz:=both_ex two_det.1 letM_done.1 two_det.2 letM_done.2.1 (by decide);rcases intR_lim h hz (fun q=>rfl) with⟨_,i,hb⟩ | ⟨N,h1,h2⟩
 ·
  rw[two_det.2,letM_done.2.1] at hb
  have:=lsC_bound (l:=labD twoM) dm_two dm_let i
  dsimp only at hb;omega
 ·
  rw[h2];refine lim_uniq h1 letM_done.2.2 fun w=>?_
  rw[Bool.and_eq_true];refine⟨fun h=>h.2,fun h=>⟨?_,h⟩⟩;rw[bA_iff] at h ⊢
  exact accA_mono (fun a ha=>by
   have:a=⟨0,1,97,97,0⟩:=by simpa[letM] using ha
   rw[this];simp[twoM]) (fun x hx=>by simpa[letM,twoM] using hx) h
theorem ex_sub {r:Mach×(Int×Int)} (h:IntR letM emptyM (fun p q=>p && !q) r):r=(letM,(0,0)):=by
 have hz:=both_ex letM_done.1 empty_det.1 letM_done.2.1 empty_det.2 (by decide);rcases intR_lim h hz (fun q=>rfl) with⟨_,i,hb⟩ | ⟨N,h1,h2⟩
 ·
  rw[empty_det.2,letM_done.2.1] at hb
  have:=lsC_bound (l:=labD letM) dm_let dmOk_empty i
  dsimp only at hb;omega
 ·
  rw[h2];refine lim_uniq h1 letM_done.2.2 fun w=>?_
  rw[empty_bA];simp
theorem ex_cmp {r:Mach×(Int×Int)} (h:CmpR emptyM [97] r):r=(oneM,(0,0)):=by
 obtain⟨N,h1,h2⟩:=cmpR_lim h empty_det.1 (by decide) (by rw[empty_det.2]) (by simp) (fun x hx=>by rw[List.mem_singleton.1 hx];decide) (by decide);rw[h2];refine lim_uniq h1 one_res fun w=>?_
 rw[empty_bA];simp[oneL]
end Gm
/- Text InQ. -/
namespace Gm
open Go
theorem wp_region_inv2 {P:Program} {id:Nat} {os:List Oper} {Q:Exit→Act→World→Prop} (F:(Nat→Bool)→(Nat→Value)→World→Prop) {A:(Nat→Value)→Act} {a0:Act} {w:World}
 (hA:∀ v,putR os 0 v a0=A v) (hm:P.follows .mixedOrders=true) (hd:dstsB os=true) (hdown:downB os=true)
 (h0:F (fun k=>(Array.replicate os.length false).getD k true) (valR os a0) w.drew)
 (hend:∀ l v w,(∀ k,k<os.length→l k=true)→F l v w→Q .normal (A v) w)
 (hsteps:StepsR P Q F A os.toArray 0 os):(Code.region id os.toArray true).wp P Q a0 w:=by
 refine wp_region_any hm ?_
 have h:=inv_any (P:=P) (Q:=Q) (F:=F) (A:=A) (a0:=a0) hA hd hsteps hend os.toArray.size (Array.replicate os.toArray.size false) (valR os a0) w.drew
  (fun hr=>ready_full hdown _ (by simp) hr) (by simp) (fun L' h1 h2=>ready_full hdown L' h1 h2)
  (by simp) (fun k o hk hl=>by
   have hk':k<os.length:=(List.getElem?_eq_some_iff.1 hk).1
   simp[hk'] at hl) (by simpa using h0)
 rw[← hA (valR os a0),putV_same a0 os 0 (valR os a0) (fun k o ho=>by
  unfold valR;rw[Nat.zero_add,ho]
  rfl)] at h
 exact h
end Gm
/- Text CtT. -/
namespace Gm
set_option linter.unusedSimpArgs false
set_option linter.unusedVariables false
theorem langM_step {t:Mach} {S:Nat} (h:DmOk t S) {s:Nat} {x:Int} {w:List Int} : langM t s (x::w)↔∃ u:Nat,(∃ a∈t.arcs,a.f=(s:Int)∧a.i=x∧a.t=(u:Int))∧langM t u w:=by
 have h0:∀ a∈t.arcs,0≤a.t:=fun a ha=>(h.rng a ha).2.2.1
 constructor
 ·
  rintro⟨u,hu,hw⟩;exact⟨u,((mem_rowL h.det h0).1 hu).2,hw⟩
 ·
  rintro⟨u,⟨a,ha,e1,e2,e3⟩,hw⟩;exact⟨u,(mem_rowL h.det h0).2 ⟨(labsR_mem _ _).2 ⟨by rw[← e2];have:=(h.lab a ha).1;omega,a,ha,e2⟩,a,ha,e1,e2,e3⟩,hw⟩
theorem res_state {t:Mach} {S:Nat} (h:DmOk t S) (hS:0<S) {ls:List Int} {Q:Lang} (hQ:BR (stpQ ls) (langM t 0) Q):∃ s,s<S∧Q=langM t s:=by
 induction hQ with
 | base=>exact⟨0,hS,rfl⟩
 | @step P U x _ hx ih =>
  obtain⟨s,hs,rfl⟩:=ih;obtain⟨_,⟨w,hw⟩,rfl⟩:=mem_stpQ.1 hx;obtain⟨u,⟨a,ha,e1,e2,e3⟩,_⟩:=(langM_step h).1 hw;have hr:=h.rng a ha;refine⟨u,by omega,funext fun v=>propext ?_⟩;rw[langM_step h];constructor
  ·
   rintro⟨u',⟨a',ha',k1,k2,k3⟩,hv⟩;have ht:=h.det a ha a' ha' (by omega) (by omega)
   have:u=u':=by omega
   rw[this];exact hv
  ·
   intro hv;exact⟨u,⟨a,ha,e1,e2,e3⟩,hv⟩
theorem arcLess_irr (a:Arc):arcLess a a=true→False:=by
 intro h
 have:=strictA_uniq (l:=[a,a]) (k:=[a]) (by simp[h]) (by simp) (fun x=>by simp)
 cases this
open Classical in
theorem canon_small {t:Mach} {S:Nat} (h:DmOk t S) (hS:0<S) {ls:List Int} {L:Lang} {N:Nat} (hr:Reg ls L N) (hl:LabOk ls) (e:∀ w,L w↔langM t 0 w):(canonM ls L N).n≤(S:Int)∧(canonM ls L N).arcs.length≤t.arcs.length:=by
 have e':L=langM t 0:=funext fun w=>propext (e w)
 subst e';by_cases hL:∃ w,langM t 0 w
 ·
  obtain⟨l,hb,e2⟩:=canon_list hr hl hL (Nat.le_refl N);have hst:∀ Q∈l,∃ s,s<S∧Q=langM t s:=fun Q hQ=>res_state h hS ((hb.mem Q).1 hQ)
  obtain⟨st,hst2⟩:∃ st:Lang→Nat,∀ Q∈l,st Q<S∧Q=langM t (st Q):=by
   refine⟨fun Q=>if hq:∃ s,s<S∧Q=langM t s then Classical.choose hq else 0,fun Q hQ=>?_⟩;dsimp only;rw[dif_pos (hst Q hQ)];exact Classical.choose_spec (hst Q hQ)
  rw[e2];constructor
  ·
   have h1:l.length≤((List.range S).map (langM t)).length:=nodup_sub_len hb.nod fun Q hQ=>by
    obtain⟨s,hs,rfl⟩:=hst Q hQ;exact List.mem_map.2 ⟨s,List.mem_range.2 hs,rfl⟩
   rw[List.length_map,List.length_range] at h1
   show ((l.length:Nat):Int)≤_
   omega
  ·
   have hmem:∀ a∈(lstM (stpQ ls) finQ l).arcs,∃ (j:Nat) (hj:j<l.length) (x:Int) (u:Lang),(x,u)∈stpQ ls l[j]∧a=⟨(j:Int),((l.idxOf u:Nat):Int),x,x,0⟩:=fun a ha=>mem_rows.1 ha
   have h1:((lstM (stpQ ls) finQ l).arcs.map fun a=>(((st (l.getD a.f.toNat (fun _=>False)):Nat):Int),a.i)).length≤(t.arcs.map fun a=>(a.f,a.i)).length:=by
    refine nodup_sub_len ?_ ?_
    ·
     refine List.pairwise_map.2 (hb.strict.imp_of_mem fun {a a'} ha ha' hlt heq=>?_);obtain⟨j,hj,x,u,hu,rfl⟩:=hmem a ha;obtain⟨k,hk,y,v,hv,rfl⟩:=hmem a' ha';injection heq with g1 g2
     dsimp only at g1 g2;subst g2;have ej:l.getD ((j:Int)).toNat (fun _=>False)=l[j]:=by simp[List.getD_eq_getElem?_getD,hj]
     have ek:l.getD ((k:Int)).toNat (fun _=>False)=l[k]:=by simp[List.getD_eq_getElem?_getD,hk]
     rw[ej,ek] at g1;have g1:st l[j]=st l[k]:=by omega
     have q1:=(hst2 _ (List.getElem_mem hj)).2;have q2:=(hst2 _ (List.getElem_mem hk)).2;rw[g1] at q1
     have hjk:j=k:=by
      have:=q1.trans q2.symm
      exact (List.getElem_inj hb.nod).1 this
     subst hjk;have huv:=incS_one (incS_stpQ hr.inc l[j]) hu hv;subst huv;exact arcLess_irr _ hlt
    ·
     intro p hp;obtain⟨a,ha,rfl⟩:=List.mem_map.1 hp;obtain⟨j,hj,x,u,hu,rfl⟩:=hmem a ha;have ej:l.getD ((j:Int)).toNat (fun _=>False)=l[j]:=by simp[List.getD_eq_getElem?_getD,hj]
     obtain⟨_,⟨w,hw⟩,_⟩:=mem_stpQ.1 hu;rw[(hst2 _ (List.getElem_mem hj)).2] at hw;obtain⟨u2,⟨b,hbm,k1,k2,_⟩,_⟩:=(langM_step h).1 hw;refine List.mem_map.2 ⟨b,hbm,?_⟩;rw[Prod.mk.injEq];refine⟨?_,k2⟩;rw[k1]
     show _=(((st (l.getD ((j:Int)).toNat fun _=>False)):Nat):Int)
     rw[ej]
   rw[List.length_map,List.length_map] at h1;exact h1
 ·
  rw[canon_none hL];exact⟨by show (0:Int)≤_;omega,Nat.zero_le _⟩
theorem lim_det {m:Mach} (hm:(detW m).2=(0,0)) {ls:List Int} {L:Lang} {N:Nat} (hr:Reg ls L N) (hl:LabOk ls) (e:∀ w,L w↔bA m w=true):limR (canonM ls L N)=(canonM ls L N,(0,0)):=by
 obtain⟨S,hS⟩:=dmOk_det hm;have e2:∀ w,L w↔langM (detW m).1 0 w:=fun w=>(e w).trans (bA_iff.trans (det_lang hm w).symm)
 have key:(canonM ls L N).n≤400∧(canonM ls L N).arcs.length≤2000:=by
  rcases Nat.eq_zero_or_pos S with h0 | h0
  ·
   have hno:¬ ∃ w,L w:=by
    rintro⟨w,hw⟩;have h1:=(acR_start hS w).2 ((e2 w).1 hw);unfold s0I at h1;rw[if_neg (by have:=hS.n;omega),acR_neg] at h1;cases h1
   rw[canon_none hno];exact⟨by decide,by decide⟩
  ·
   have h1:=canon_small hS h0 hr hl e2
   have:=hS.n4
   have:=hS.len
   omega
 unfold limR;rw[if_neg (by omega)]
theorem minW_zero {m:Mach} (hm:(detW m).2=(0,0)):(minW m).2=(0,0):=by
 unfold minW;rw[if_neg (fun g=>g hm)];by_cases hn:(detW m).1.n=0
 · rw[if_pos hn]
 ·
  rw[if_neg hn];have hok:=detW_ok hm hn
  have hl:LabOk (lsM (detW m).1):=fun x hx=>by
   obtain⟨_,a,ha,rfl⟩:=(labsR_mem _ x).1 hx;exact hok.lab a ha
  rw[lim_det hm (sil_reg hok) hl (fun w=>(det_lang hm w).trans bA_iff.symm)]
theorem resL_det {r:Mach} {L:Lang} (h:ResL r L):accF r=(0,0)∧detW r=(r,(0,0)):=by
 classical
 obtain⟨ls,N,hr,hl,e⟩:=h.can;have h4:=h.n4;have h2:=h.len;by_cases hL:∃ w,L w
 ·
  obtain⟨l,hb,e2⟩:=canon_list hr hl hL (Nat.le_refl N);rw[e,e2] at h4 h2 ⊢;have n:=hb.form.n;have h4':l.length≤400:=by omega
  exact⟨hb.acc0 h4' h2,hb.detW h4' h2⟩
 ·
  rw[e,canon_none hL];exact empty_det
/-! The states of a least machine are told apart by their words. -/
theorem canon_sep {r:Mach} {L:Lang} (h:ResL r L) {S:Nat} (hS:DmOk r S) {p q:Int} (hp : -1≤p∧p<(S:Int)) (hq : -1≤q∧q<(S:Int)) (e:∀ v,acR r p v=acR r q v):p=q:=by
 classical
 obtain⟨ls,N,hr,hl,er⟩:=h.can;by_cases hL:∃ w,L w
 ·
  obtain⟨l,hb,e2⟩:=canon_list hr hl hL (Nat.le_refl N)
  have hn:S=l.length:=by
   have h1:=hS.n;rw[er,e2] at h1;have h2:=hb.form.n;omega
  have hlang:∀ (j:Nat) (hj:j<l.length) (v:List Int),acR r (j:Int) v=true↔accS (stpQ ls) finQ l[j] v:=by
   intro j hj v;rw[acR_lang hS v j (by omega)];rw[er,e2];exact list_lang hb.nod (fun j hj e he=>hb.next hj he) (fun j hj=>hb.inc _ (hb.br hj)) (fun j hj e he=>by have:=(hb.lab _ (hb.br hj) e he).1;omega) v j hj
  have hov:∀ Q,BR (stpQ ls) L Q→∀ w,Q w→∀ x∈w,x∈ls:=by
   intro Q hQ
   induction hQ with
   | base=>exact hr.over
   | @step s u x hs hx ih =>
    obtain⟨k1,k2,rfl⟩:=mem_stpQ.1 hx;exact fun w hw y hy=>ih (x::w) hw y (List.mem_cons_of_mem _ hy)
  have hneg:∀ (j:Nat) (hj:j<l.length),¬ ∀ v,acR r (j:Int) v=acR r (-1) v:=by
   intro j hj hv;obtain⟨w,hw⟩:=hb.use _ (hb.br hj)
   have:=(hlang j hj w).2 hw
   rw[hv w,acR_neg] at this;cases this
  have hpos:∀ (j k:Nat) (hj:j<l.length) (hk:k<l.length),(∀ v,acR r (j:Int) v=acR r (k:Int) v)→j=k:=by
   intro j k hj hk hv
   have hle:l[j]=l[k]:=by
    funext w;have h1:=accQ w l[j] (hov _ (hb.br hj));have h2:=accQ w l[k] (hov _ (hb.br hk));refine propext ?_;rw[← h1,← h2,← hlang j hj,← hlang k hk,hv w]
   exact (List.getElem_inj hb.nod).1 hle
  rcases (by omega:p = -1∨0≤p) with rfl | hp0
  ·
   rcases (by omega:q = -1∨0≤q) with rfl | hq0
   · rfl
   ·
    obtain⟨k,rfl⟩:∃ k:Nat,q=(k:Int):=⟨q.toNat,by omega⟩;exact absurd (fun v=>(e v).symm) (hneg k (by omega))
  ·
   obtain⟨j,rfl⟩:∃ j:Nat,p=(j:Int):=⟨p.toNat,by omega⟩;rcases (by omega:q = -1∨0≤q) with rfl | hq0
   · exact absurd e (hneg j (by omega))
   ·
    obtain⟨k,rfl⟩:∃ k:Nat,q=(k:Int):=⟨q.toNat,by omega⟩;rw[hpos j k (by omega) (by omega) e]
 ·
  have h0:S=0:=by
   have h1:=hS.n;rw[er,canon_none hL] at h1;have h1:(0:Int)=(S:Int):=h1;omega
  omega
def rnI (t:Mach):Int→List Int→Int
 | s,[]=>s
 | s,x::w=>rnI t (nxI t s x) w
theorem rnI_snoc (t:Mach):∀ (w:List Int) (s x:Int),rnI t s (w++[x])=nxI t (rnI t s w) x
 | [],s,x=>rfl
 | y::w,s,x=>rnI_snoc t w (nxI t s y) x
theorem acR_run (t:Mach):∀ (w:List Int) (s:Int) (v:List Int),acR t (rnI t s w) v=acR t s (w++v)
 | [],s,v=>rfl
 | y::w,s,v=>acR_run t w (nxI t s y) v
theorem lsC_run {a b:Mach} {l:List Int} {i:Nat} : ∀ c∈LsC a b l i,∃ w,(∀ x∈w,x∈l)∧c=(rnI a (s0I a) w,rnI b (s0I b) w):=by
 refine stB_all (P:=fun c:Int×Int=>∃ w,(∀ x∈w,x∈l)∧c=(rnI a (s0I a) w,rnI b (s0I b) w)) ⟨[],(fun x hx=>by cases hx),rfl⟩ (fun s hs e he=>?_) i;obtain⟨w,hw,rfl⟩:=hs;obtain⟨x,hx,rfl⟩:=List.mem_map.1 he;refine⟨w++[x],fun y hy=>?_,?_⟩
 ·
  rcases List.mem_append.1 hy with hy | hy
  · exact hw y hy
  · rw[List.mem_singleton.1 hy];exact hx
 · rw[rnI_snoc,rnI_snoc]
theorem lsC_short {a b:Mach} {l l':List Int} {Sa Sb:Nat} {L:Lang} (ha:DmOk a Sa) (hb:DmOk b Sb) (hL:ResL b L) (hl:∀ x∈l,x∈l') (h:∀ w,acR b (s0I b) w=true↔(∀ x∈w,x∈l')∧acR a (s0I a) w=false) (i:Nat):(LsC a b l i).length≤Sa+1:=by
 have hrng:∀ c∈LsC a b l i,(-1≤c.1∧c.1<(Sa:Int))∧(-1≤c.2∧c.2<(Sb:Int)):=by
  refine stB_all (P:=fun c:Int×Int=>(-1≤c.1∧c.1<(Sa:Int))∧(-1≤c.2∧c.2<(Sb:Int))) ?_ (fun s _ e he=>?_) i
  ·
   have h1:=ha.n;have h2:=hb.n;unfold s0I;dsimp only;constructor<;>split<;>omega
  ·
   obtain⟨x,_,rfl⟩:=List.mem_map.1 he;have h1:=nxI_rng ha s.1 x;have h2:=nxI_rng hb s.2 x;dsimp only;omega
 have hinj:∀ c∈LsC a b l i,∀ c'∈LsC a b l i,c.1=c'.1→c=c':=by
  intro c hc c' hc' e1;obtain⟨w,hw,rfl⟩:=lsC_run c hc;obtain⟨w',hw',rfl⟩:=lsC_run c' hc';dsimp only at e1;have h2:=(hrng _ hc).2;have h2':=(hrng _ hc').2;dsimp only at h2 h2'
  have e2:rnI b (s0I b) w=rnI b (s0I b) w':=by
   refine canon_sep hL hb h2 h2' fun v=>?_
   rw[acR_run,acR_run,Bool.eq_iff_iff,h,h,← acR_run,← acR_run,e1];refine and_congr_left fun _=>?_
   constructor
   ·
    intro g x hx;rcases List.mem_append.1 hx with hx | hx
    · exact hl x (hw' x hx)
    · exact g x (List.mem_append_right _ hx)
   ·
    intro g x hx;rcases List.mem_append.1 hx with hx | hx
    · exact hl x (hw x hx)
    · exact g x (List.mem_append_right _ hx)
  rw[e1,e2]
 have h1:((LsC a b l i).map (·.1)).length≤((List.range (Sa+1)).map fun k:Nat=>((k:Int)-1)).length:=by
  refine nodup_sub_len ?_ fun p hp=>?_
  ·
   refine List.pairwise_map.2 ((show (LsC a b l i).Nodup from stB_nodup i).imp_of_mem fun {c c'} hc hc' hne e=>?_);exact hne (hinj c hc c' hc' e)
  ·
   obtain⟨c,hc,rfl⟩:=List.mem_map.1 hp;have h:=(hrng c hc).1;exact List.mem_map.2 ⟨(c.1+1).toNat,List.mem_range.2 (by omega),by omega⟩
 rw[List.length_map,List.length_map,List.length_range] at h1;exact h1
theorem alphB_parts {l:List Int} {ix:Int} (h:alphF l ix=(0,0)) (hix:ix≠0):l.length≤300∧l.Pairwise (· < ·)∧LabOk l:=by
 unfold alphF at h;by_cases h3:300<l.length
 ·
  rw[if_pos h3] at h;injection h with h _
  exact absurd h (by decide)
 ·
  rw[if_neg h3] at h
  have hno:∀ k,k<l.length→alphB l k=none:=by
   intro k hk
   cases e:alphB l k with
   | none=>rfl
   | some r =>
    exfalso
    obtain⟨q,hq⟩:∃ q,(List.range l.length).findSome? (alphB l)=some q:=by
     cases e2:(List.range l.length).findSome? (alphB l) with
     | some q=>exact⟨q,rfl⟩
     | none =>
      have:=List.findSome?_eq_none_iff.1 e2 k (List.mem_range.2 hk)
      rw[e] at this;cases this
    rw[hq] at h;have h:q=(0,0):=h;obtain⟨j,_,hj⟩:=List.exists_of_findSome?_eq_some hq;unfold alphB at hj;split at hj
    · injection hj with hj;rw[← hj] at h;exact absurd (congrArg Prod.fst h) (by simp)
    ·
     split at hj
     · injection hj with hj;rw[← hj] at h;exact absurd (congrArg Prod.fst h) (by simp)
     · cases hj
  have hget:∀ k (hk:k<l.length),l.getD k 0=l[k]:=fun k hk=>by simp[List.getD_eq_getElem?_getD,hk]
  refine⟨by omega,inc_of_next fun k h0 hk=>?_,fun x hx=>?_⟩
  ·
   have h:=hno k hk;unfold alphB at h;split at h
   · cases h
   ·
    split at h
    · cases h
    · omega
  ·
   obtain⟨k,hk,rfl⟩:=List.getElem_of_mem hx;have h:=hno k hk;unfold alphB at h;rw[hget k hk] at h;split at h
   · cases h
   · omega
theorem sil_labs {m:Mach} (h:(silR m).2=(0,0)):∀ a∈(silR m).1.arcs,a.i∈labsR m.arcs:=by
 obtain⟨hacc,e⟩:=silR_acc h;have val:=valid_of (accF_val hacc);rw[e,silM_trim val.n0 val.inRange val.finRange];intro a ha;unfold trimOf at ha;split at ha
 · cases ha
 ·
  have ha:a∈partArcs (keepK (silO m)) (silO m).arcs:=ha;unfold partArcs at ha;obtain⟨b,hb,rfl⟩:=List.mem_map.1 ha;have hb:=mem_silO.1 (List.mem_filter.1 hb).1;obtain⟨s,hs,c,hc,hi,hn,rfl⟩:=mem_silA.1 hb;exact (labsR_mem _ _).2 ⟨hi,c,hc,rfl⟩
theorem labD_sub {m:Mach} (h:(detW m).2=(0,0)):∀ x∈labD (detW m).1,x∈labsR m.arcs:=by
 obtain⟨_,⟨e,_⟩ | ⟨N,hs,hz,e,_⟩⟩:=detW_form h
 ·
  rw[e];intro x hx;obtain⟨a,ha,_⟩:=List.mem_map.1 ((setI_mem _ _).1 hx);cases ha
 ·
  rw[e]
  have hform:∃ K,K≤(setM (silR m).1).n.toNat∧BfsOk (setM (silR m).1) K (fun x=>∃ a∈(silR m).1.arcs,a.i=x):=by
   refine bfs_form (Z:=subsI N) (fun v hv=>?_) ?_ (fun s _=>stpD_inc _ _) (fun s _ e he=>?_)
   ·
    obtain⟨h1,h2⟩:=br_ok hs.rng hs.pos hv;exact subsI_mem h1 h2
   ·
    have e:(silR m).1.n.toNat=N:=by have:=hs.n;omega
    rw[subsI_len];unfold fuD;rw[e];omega
   ·
    obtain⟨x,U⟩:=e;obtain⟨⟨a,ha,_,rfl⟩,_⟩:=mem_stpD.1 he;exact⟨a,ha,rfl⟩
  obtain⟨K,_,hK⟩:=hform;intro x hx;obtain⟨a,ha,rfl⟩:=List.mem_map.1 ((setI_mem _ _).1 hx);obtain⟨b,hb,hi⟩:=hK.lab a ha;rw[← hi];exact sil_labs hz b hb
theorem turns_twice {m:Mach} {l:List Int} {c cc i:Mach×(Int×Int)} (hl:∀ x∈labsR m.arcs,x∈l) (hc:CmpR m l c) (hcz:c.2=(0,0)) (hcc:CmpR c.1 l cc) (hi:IntR m c.1 (fun p q=>p&&q) i) :
 cc.2=(0,0)∧(minW m).2=(0,0)∧i.2=(0,0)∧cc.1=(minW m).1∧i.1=emptyM:=by
 obtain⟨hm0,hal,hm,hlab,hres⟩:=cmpR_res hc hcz;obtain⟨h3,hinc,_⟩:=alphB_parts hal (by decide);obtain⟨hc0,hcd⟩:=resL_det hres;have hacc:=hres.acc;have hmin:=minW_zero hm;have hover:∀ w,bA m w=true→∀ x∈w,x∈l:=fun w hw x hx=>hl x (bA_labs hw x hx)
 -- the complement's complement
 obtain⟨N,hr,e⟩:=cmpR_lim hcc hc0 hal (by rw[hcd]) hinc hlab h3
 have hL2:∀ w,((∀ x∈w,x∈l)∧bA c.1 w=false)↔bA m w=true:=by
  intro w;have h1:=hacc w;constructor
  ·
   rintro⟨g1,g2⟩;by_cases g:bA m w=true
   · exact g
   ·
    rw[Bool.not_eq_true] at g;rw[h1.2 ⟨g1,g⟩] at g2;cases g2
  ·
   intro g;refine⟨hover w g,?_⟩;by_cases g2:bA c.1 w=true
   · rw[(h1.1 g2).2] at g;cases g
   · simpa using g2
 have hlim:=lim_det hm hr hlab hL2;rw[hlim] at e;have hmr:=minW_res hmin
 have hccm:cc.1=(minW m).1:=by
  have h1:ResL cc.1 (fun w=>(∀ x∈w,x∈l)∧bA c.1 w=false):=by
   have hk:(canonM l (fun w=>(∀ x∈w,x∈l)∧bA c.1 w=false) N).n≤400∧(canonM l (fun w=>(∀ x∈w,x∈l)∧bA c.1 w=false) N).arcs.length≤2000:=by
    unfold limR at hlim;by_cases g:400<(canonM l (fun w=>(∀ x∈w,x∈l)∧bA c.1 w=false) N).n∨2000<(canonM l (fun w=>(∀ x∈w,x∈l)∧bA c.1 w=false) N).arcs.length
    ·
     rw[if_pos g] at hlim;have h17:(17:Int)=0:=congrArg (fun z:Mach×(Int×Int)=>z.2.1) hlim;omega
    · omega
   exact⟨⟨l,N,hr,hlab,by rw[e]⟩,by rw[e];exact hk.1,by rw[e];exact hk.2⟩
  exact h1.uniq hmr hL2
 -- what both have
 have hb0:bothF m c.1=(0,0):=by
  unfold bothF;rw[if_neg (fun g=>g hm0),if_neg (fun g=>g hc0),if_neg (fun g=>g hm),hcd,if_neg (fun g=>g rfl),if_neg]
  have:(labD (detW m).1).length≤l.length:=nodup_sub_len (setI_nodup _) fun x hx=>hl x (labD_sub hm x hx)
  omega
 have hno:∀ w,¬ ((fun p q:Bool=>p&&q) (bA m w) (bA c.1 w)=true):=by
  intro w hw;have hw:(bA m w&&bA c.1 w)=true:=hw;rw[Bool.and_eq_true] at hw
  have:=((hacc w).1 hw.2).2
  rw[hw.1] at this;cases this
 have hi2:i=(emptyM,(0,0)):=by
  rcases intR_lim hi hb0 (fun q=>rfl) with⟨_,j,hb⟩ | ⟨N',hr',e'⟩
  ·
   exfalso;obtain⟨Sa,hSa⟩:=dmOk_det hm;obtain⟨Sb,hSb⟩:=dmOk_det (m:=c.1) (by rw[hcd]);rw[hcd] at hb hSb;dsimp only at hb hSb
   have:=lsC_short (l:=labD (detW m).1) (l':=l) hSa hSb hres (fun x hx=>hl x (labD_sub hm x hx)) (fun w=>by
    have h1:=acR_det (m:=c.1) (by rw[hcd]) w;rw[hcd] at h1;dsimp only at h1
    rw[h1,acR_det hm,hacc]) j
   have:=hSa.n4
   omega
  ·
   rw[e',canon_none (fun ⟨w,hw⟩=>hno w hw)];rfl
 exact⟨by rw[e],hmin,by rw[hi2],hccm,by rw[hi2]⟩
end Gm
