/- Part of the proof. -/
import Derived.WalkKit
import Derived.WalkSpells
import Derived.Deep.Draws
import Derived.Deep.AppendLies
import Derived.StillTail
import Derived.Deep.Quiet
import Derived.Deep.QuietTactic
import Derived.BigQuiet
import Derived.OrdersHeld
import Derived.Deep.RegionHeld3
import Derived.Below
import Derived.Test.YtkfdhpbnphojoaaProg
import Derived.Outline
import Derived.Handy
import Derived.Laws.StructEq
import Derived.Maps.AppendAt
import Derived.Deep.OwnRows
import Derived.RegionTactic
import Derived.OwnWalk
import Derived.WalkSmall
import Derived.Deep.LoopGhost
set_option linter.unusedSimpArgs false
set_option linter.unusedVariables false
set_option maxRecDepth 100000
set_option maxHeartbeats 1000000
open List renaming drop_eq_getElem_cons→wAd,drop_eq_nil_of_le→wAf,eq_nil_of_length_eq_zero→wAg,length_cons→wAh,take_succ_eq_append_getElem→wAk,getElem?_append_right→wAl,getD_eq_getElem?_getD→wAm,getElem?_eq_getElem→wAo,mem_iff_getElem→wAs,getElem?_drop→wAu,length_append→wAv,mem_singleton→wAx,mem_flatMap→wAy,getElem_mem→wAz,mem_append→wAB,drop_zero→wAC,mem_map→wAF
open Nat renaming le_refl→wAc,lt_or_ge→wAe,add_assoc→wAi,zero_add→wAt,eq_zero_or_pos→wAw
open Array renaming setIfInBounds_comm→wAn,replicate→wAp,getElem?_eq_none→wAq
open Option renaming getD_some→wAA
open Bool renaming and_eq_true→wAa,false_and→wAr,not_false→wAD,and_false→wAE
open Go.Region renaming ready→wAb
open Go.Region renaming binds→wAj
namespace Gm
open Go Go.RowKit
def Rd (w:World) (B sz:Nat) (A:Option Addr) (n:Nat) (f:Nat→Nat→Value):Prop :=
 0<n→∃ b off,A=some ⟨b,off,none⟩∧b<B∧∀ i j,i<n→j<sz→w.cell? ⟨b,off+(i*sz+j),none⟩=some (f i j)
theorem Rd.below {w w':World} {B sz n:Nat} {A:Option Addr} {f:Nat→Nat→Value} (h:Rd w B sz A n f) {B':Nat} (hb:Below B' w w') (hB:B≤B'):Rd w' B sz A n f:=by
 intro hn;obtain⟨b,off,hA,hlt,hc⟩:=h hn;exact⟨b,off,hA,hlt,fun i j hi hj=>(hb.cell (p:=⟨b,off+(i*sz+j),none⟩) (by simp;omega)).trans (hc i j hi hj)⟩
theorem Rd.mono {w:World} {B B' sz n:Nat} {A:Option Addr} {f:Nat→Nat→Value} (h:Rd w B sz A n f) (hB:B≤B'):Rd w B' sz A n f:=by
 intro hn;obtain⟨b,off,hA,hlt,hc⟩:=h hn;exact⟨b,off,hA,by omega,hc⟩
theorem Rd.zero {w:World} {B sz:Nat} {A:Option Addr} {f:Nat→Nat→Value} : Rd w B sz A 0 f:=fun h=>absurd h (by omega)
theorem Rd.congr {w:World} {B sz n:Nat} {A:Option Addr} {f g:Nat→Nat→Value} (h:Rd w B sz A n f) (e:∀ i j,i<n→j<sz→f i j=g i j):Rd w B sz A n g:=by
 intro hn;obtain⟨b,off,hA,hlt,hc⟩:=h hn;exact⟨b,off,hA,hlt,fun i j hi hj=>by rw[hc i j hi hj,e i j hi hj]⟩
theorem Rd.at1 {w:World} {B n:Nat} {A:Option Addr} {f:Nat→Nat→Value} (h:Rd w B 1 A n f) {k:Nat} (hk:k<n) :
 ∃ b off,A=some ⟨b,off,none⟩∧b<B∧w.cell? ⟨b,off+k,none⟩=some (f k 0):=by
 obtain⟨b,off,hA,hlt,hc⟩:=h (by omega);exact⟨b,off,hA,hlt,by have:=hc k 0 hk (by omega);simpa using this⟩
theorem Rd.at2 {w:World} {B n:Nat} {A:Option Addr} {f:Nat→Nat→Value} (h:Rd w B 2 A n f) {k:Nat} (hk:k<n) :
 ∃ b off,A=some ⟨b,off,none⟩∧b<B∧w.cell? ⟨b,off+k*2,none⟩=some (f k 0)∧w.cell? ⟨b,off+k*2+1,none⟩=some (f k 1):=by
 obtain⟨b,off,hA,hlt,hc⟩:=h (by omega);exact⟨b,off,hA,hlt,by simpa using hc k 0 hk (by omega),by simpa[wAi] using hc k 1 hk (by omega)⟩
theorem Rd.at5 {w:World} {B n:Nat} {A:Option Addr} {f:Nat→Nat→Value} (h:Rd w B 5 A n f) {k:Nat} (hk:k<n) :
 ∃ b off,A=some ⟨b,off,none⟩∧b<B∧w.cell? ⟨b,off+k*5,none⟩=some (f k 0)∧w.cell? ⟨b,off+k*5+1,none⟩=some (f k 1)∧w.cell? ⟨b,off+k*5+2,none⟩=some (f k 2)∧w.cell? ⟨b,off+k*5+3,none⟩=some (f k 3)∧w.cell? ⟨b,off+k*5+4,none⟩=some (f k 4):=by
 obtain⟨b,off,hA,hlt,hc⟩:=h (by omega);exact⟨b,off,hA,hlt,by simpa using hc k 0 hk (by omega),by simpa[wAi] using hc k 1 hk (by omega),by simpa[wAi] using hc k 2 hk (by omega),by simpa[wAi] using hc k 3 hk (by omega),by simpa[wAi] using hc k 4 hk (by omega)⟩
theorem zh {p:Prop} (h:p):Hid p:=h
theorem _root_.Go.RowKit.Hid.o {p:Prop} (h:Hid p):p:=h
theorem zAc {B:Nat} {a w:World} (h:Below B a w) (n:Nat):Below B a (w.drewN n):=⟨h.os,h.tape,h.output,h.size,h.block⟩
theorem zAb {B:Nat} {W w1:World} (hb:Below B W w1) {b o:Nat} {v:Value} (h:W.cell? ⟨b,o,none⟩=some v) (hlt:b<B):w1.cell? ⟨b,o,none⟩=some v :=
 (hb.cell (p:=⟨b,o,none⟩) hlt).trans h
theorem zDQ {B:Nat} {W w1:World} (hb:Below B W w1) {b o:Nat} {x:Bool} (h:W.frozen? ⟨b,o,none⟩=x) (hlt:b<B):w1.frozen? ⟨b,o,none⟩=x :=
 (hb.frozen (p:=⟨b,o,none⟩) hlt).trans h
theorem zAf {w w':World} {row:Option Nat} (hg:w.grownBy w' row) {b o:Nat} {v:Value} (hne:row≠some b) (h:w.cell? ⟨b,o,none⟩=some v):w'.cell? ⟨b,o,none⟩=some v :=
 hg.cell h (fun e=>hne e.symm)
theorem zAD {w w':World} {row:Option Nat} (hg:w.grownBy w' row) {b o:Nat} {x:Bool} (hne:row≠some b) (hlt:b<w.heap.size) (h:w.frozen? ⟨b,o,none⟩=x):w'.frozen? ⟨b,o,none⟩=x:=by
 rw[← h];exact World.frozen?_of_block (hg.block b hlt (fun e=>hne e.symm))
def Blk (w:World) (g:Nat) (t:TypeId) (cs:Array Value):Prop:=w.heap[g]? = some (.cells cs t (0,0))
section
variable {w w':World} {g:Nat} {t:TypeId} {cs:Array Value}
theorem Blk.lt (h:Blk w g t cs):g<w.heap.size:=by
 rcases wAe g w.heap.size with hlt | hge
 · exact hlt
 · unfold Blk at h;rw[wAq hge] at h;cases h
theorem Blk.cell (h:Blk w g t cs) (i:Nat):w.cell? ⟨g,i,none⟩=cs[i]?:=cell_of_row w g i cs t (0,0) h
theorem Blk.frozen (h:Blk w g t cs) (i:Nat):w.frozen? ⟨g,i,none⟩=false:=by
 unfold Blk at h;simp[World.frozen?,h]
theorem Blk.new (w:World) (t:TypeId) (cs:Array Value):Blk (w.alloc (.cells cs t)) w.heap.size t cs:=heap_alloc_new w _
theorem Blk.at_ {w:World} {g:Nat} {t:TypeId} {cs:Array Value} (hg:g=w.heap.size):Blk (w.alloc (.cells cs t)) g t cs:=by
 subst hg;exact Blk.new _ _ _
theorem Blk.drew (h:Blk w g t cs):Blk w.drew g t cs:=h
theorem Blk.drewN (h:Blk w g t cs) (n:Nat):Blk (w.drewN n) g t cs:=h
theorem Blk.alloc (h:Blk w g t cs) (o:Obj):Blk (w.alloc o) g t cs:=(Below.heap_alloc w o g h.lt).trans h
theorem Blk.set_ (h:Blk w g t cs) (i:Nat) (u:Value):Blk (w.setCell ⟨g,i,none⟩ u) g t (cs.setIfInBounds i u):=by
 unfold Blk at h ⊢;simp[World.setCell,Array.getElem?_modify,h]
theorem Blk.far (h:Blk w g t cs) {p:Addr} (hp:g≠p.block) (u:Value):Blk (w.setCell p u) g t cs:=(Below.heap_setCell w p u g hp).trans h
theorem Blk.below {B:Nat} (h:Blk w g t cs) (hb:Below B w w') (hg:g<B):Blk w' g t cs:=(hb.block g hg).trans h
theorem Blk.grown {row:Option Nat} (h:Blk w g t cs) (hb:w.grownBy w' row) (hg:some g≠row):Blk w' g t cs:=(hb.block g h.lt hg).trans h
theorem Blk.ne_ {g':Nat} {t':TypeId} {cs':Array Value} (h:Blk w g t cs) (h':Blk w g' t' cs') (hne:t≠t'):g≠g':=by
 rintro rfl;unfold Blk at h h';rw[h] at h';injection h' with h'
 injection h' with _ ht
 exact hne ht
end
open Go
section
variable {P:Program} {ops:Array Oper} {md:Region.Mode} {C:World→Prop}
def headQ (P:Program) (md:Region.Mode) (ops:Array Oper) (C:World→Prop) (n:Nat) (L:Array Bool→Act→Prop):Nat→Array Bool→Act→Prop
 | 0,listed,a=>L listed a
 | f+1,listed,a =>
  wAb md ops listed≠[]∧∀ i∈wAb md ops listed,i<n∧qOp P ops C i (headQ P md ops C n L f (listed.setIfInBounds i true)) a
theorem zEy {n g:Nat} {L:Array Bool→Act→Prop} {Q':Exit→Act→World→Prop} (hL:∀ listed a,L listed a→∀ w,C w→wpAny P md ops Q' g listed a w) :
 ∀ (f:Nat) (listed:Array Bool) (a:Act) (w:World),C w→headQ P md ops C n L f listed a→wpAny P md ops Q' (f+g) listed a w
 | 0,listed,a,w,hw,h=>by rw[wAt];exact hL _ _ h w hw
 | f+1,listed,a,w,hw,h=>by
  rw[show f+1+g=(f+g)+1 by omega];exact⟨fun h0=>absurd h0 h.1,fun i hi=>wpOp_of_qOp hw (fun a' w' hw' h'=>zEy hL f _ a' w' hw' h') (h.2 i hi).2⟩
theorem zI8 {n i:Nat} {oi:Oper} {v:Value} {L:Array Bool→Act→Prop} (hi:ops[i]? = some oi) (hsel:∀ (j:Nat) (o:Oper) cs b,ops[j]? = some o→o.op≠.select cs b)
 (hs:Region.sinkB md ops n=true) (hc:Region.chainB md ops n=true) (hn:n<ops.size) (hin:i<n)
 (hdone:∀ listed a,L listed a→∀ j∈wAb md ops listed,n≤j) :
 ∀ (f:Nat) (listed:Array Bool) (a:Act),HeadInv md ops n listed →
  (∀ j oj,ops[j]? = some oj→j≠i→listed.getD j true=false→(∀ e∈oj.after,wAj md e=true→e.on≠i)→oi.apart ops oj=true) →
  i∈wAb md ops listed→YieldsIn P ops C oi v a →
  headQ P md ops C n L f (listed.setIfInBounds i true) (a.put oi.dst v)→headQ P md ops C n L (f+1) listed a:=by
 intro f
 induction f with
 | zero =>
  intro listed a inv _ hr hy H;have hun:=(mem_ready.1 hr).1;refine⟨fun h=>(by rw[h] at hr;cases hr),fun j hj=>?_⟩
  have hjn:j<n:=by
   rcases wAe j n with h | h
   · exact h
   · exact absurd hj (tail_waits hs hc hn inv _ i rfl hin hun j h)
  refine⟨hjn,?_⟩;by_cases hji:j=i
  · subst hji;exact hy.qOp hi H
  ·have:=hdone _ _ H j (ready_mono hj hji)
   omega
 | succ f ih =>
  intro listed a inv hfree hr hy H;have hun:=(mem_ready.1 hr).1;refine⟨fun h=>(by rw[h] at hr;cases hr),fun j hj=>?_⟩
  have hjn:j<n:=by
   rcases wAe j n with h | h
   · exact h
   · exact absurd hj (tail_waits hs hc hn inv _ i rfl hin hun j h)
  refine⟨hjn,?_⟩;by_cases hji:j=i
  · subst hji;exact hy.qOp hi H
  ·have h1:=(H.2 j (ready_mono hj hji)).2;obtain⟨hjun,oj,hoj,hall⟩:=mem_ready.1 hj
   have hnot:∀ e∈oj.after,wAj md e=true→e.on≠i:=fun e he hb heq=>by
    have h1:=hall e he hb;rw[heq,getD_both hun] at h1;cases h1
   have h2:=qOp_put hoj (hfree j oj hoj hji hjun hnot) (fun cs b=>hsel i oi cs b hi) (fun cs b=>hsel j oj cs b hoj) hy h1
   have hfree':∀ k ok,ops[k]? = some ok→k≠i→(listed.setIfInBounds j true).getD k true=false →
    (∀ e∈ok.after,wAj md e=true→e.on≠i)→oi.apart ops ok=true:=fun k ok hk hki hun hno=>by
    refine hfree k ok hk hki ?_ hno;by_cases hjk:j=k
    · subst hjk;exact hjun
    · rw[getD_set_ne true hjk] at hun;exact hun
   refine qOp_mono (fun a' h3=>ih (listed.setIfInBounds j true) a' (inv.set hj hjn) hfree' (ready_mono hr (Ne.symm hji)) h3.1 ?_) h2;rw[wAn _ _ hji];exact h3.2
theorem zIw {n g:Nat} {Lq:Act→Prop} (hsel:Region.noSelect ops=true) (hs:Region.sinkB md ops n=true) (hc:Region.chainB md ops n=true) (hn:n<ops.size) :
 ∀ (l:List Oper) (k:Nat) (listed:Array Bool) (a:Act),(∀ j,j<l.length→l[j]? = ops[k+j]?)→k+l.length=n→HeadInv md ops n listed →
 Region.lexHead md ops g l.length k listed=true→wpQuiet P ops C Lq l a →
 headQ P md ops C n (fun listed' a'=>Region.seqB md ops g n listed'=true∧Lq a') l.length listed a
 | [],k,listed,a,_,hk,_,hB,h=>by
  have:k=n:=by simpa using hk
  subst this;exact⟨by simpa[Region.lexHead] using hB,h⟩
 | o::l,k,listed,a,hl,hk,inv,hB,h=>by
  have h0:ops[k]? = some o:=by simpa using (hl 0 (by simp)).symm
  simp only[wAh,Region.lexHead,wAa] at hB;obtain⟨⟨hr,hf⟩,hB'⟩:=hB;have hkn:k<n:=by simp only[wAh] at hk;omega
  have hr':k∈wAb md ops listed:=by simpa using hr
  have hst:qOp P ops C k (wpQuiet P ops C Lq l) a:=by unfold qOp;simp only[h0];exact h
  obtain⟨v,hy,hK⟩:=yieldsIn_of_qOp h0 hst
  exact zI8 h0 (Region.noSelect_spec hsel) hs hc hn hkn (fun listed' a' hL=>seqB_ready hL.1) l.length listed a inv (Region.free_spec h0 hf) hr' hy
   (zIw hsel hs hc hn l (k+1) _ _ (fun j hj=>by have:=hl (j+1) (by simp;omega);simpa[wAi,Nat.add_comm 1 j] using this) (by simp only[wAh] at hk;omega) (inv.set hr' hkn) hB' hK)
theorem zG1 {id:Nat} {Q:Exit→Act→World→Prop} {a:Act} {w:World} {l:List Oper} (n:Nat) (hm:P.follows .mixedOrders=true) (hB:Region.lexTailB .any l.toArray n=true) (hC:C { w with drawn:=w.drawn+1 })
 (h:wpQuiet P l.toArray C (fun a'=>∀ w',C w'→wpList P l.toArray Q (l.drop n) a' w') (l.take n) a):(Code.region id l.toArray true).wp P Q a w:=by
 simp only[Region.lexTailB,wAa,decide_eq_true_eq] at hB;obtain⟨⟨⟨⟨hsel,hn⟩,hs⟩,hc⟩,hlex⟩:=hB;have hn':n<l.length:=by simpa using hn
 have htl:(l.take n).length=n:=by simp;omega
 have hdl:(l.drop n).length=l.toArray.size-n:=by simp
 have inv0:HeadInv .any l.toArray n (wAp l.toArray.size false) :=
  ⟨by simp,fun j oj _ hl=>(by rw[getD_replicate_false] at hl;cases hl),fun t _ ht=>getD_in (by simpa using ht) (getD_replicate_false _ _)⟩
 have H:=zIw (md:=.any) (g:=l.toArray.size-n) hsel hs hc hn (l.take n) 0 _ a (fun j hj=>by
  have hj':j<n:=by rw[htl] at hj;exact hj
  simp[hj']) (by simpa using htl) inv0 (by rw[htl];exact hlex) h
 refine wp_region_any hm ?_
 have:=zEy (Q':=Q) (g:=l.toArray.size-n) (fun listed a' hL w' hw'=>by
  have:=wpAny_of_seq (md:=.any) (Q':=Q) (l.drop n) n listed a' w' (fun j=>by simp[wAu]) (by rw[hdl];exact hL.1) (hL.2 w' hw')
  rwa [hdl] at this) _ _ _ _ hC H
 rw[htl,show n+(l.toArray.size-n)=l.toArray.size by omega] at this;exact this
theorem zA5 {id:Nat} {Q:Exit→Act→World→Prop} {a:Act} {w:World} {l:List Oper} (n:Nat) (hm:P.follows .mixedOrders=true) (hB:Region.lexTailB .any l.toArray n=true)
 (h:wpQuiet P l.toArray (fun w'=>∃ k,w'=w.drewN k) (fun a'=>∀ w',(∃ k,w'=w.drewN k)→wpList P l.toArray Q (l.drop n) a' w') (l.take n) a):(Code.region id l.toArray true).wp P Q a w :=
 zG1 (C:=fun w'=>∃ k,w'=w.drewN k) n hm hB ⟨1,rfl⟩ h
end
section
variable {P:Program} {ops:Array Oper} {md:Region.Mode} {Q:Exit→Act→World→Prop} {C:World→Prop}
def hH (P:Program) (md:Region.Mode) (ops:Array Oper) (Q:Exit→Act→World→Prop) (C:World→Prop) (n:Nat) (L:Array Bool→Act→World→Prop):Nat→Array Bool→Act→World→Prop
 | 0,listed,a,w=>L listed a w
 | f+1,listed,a,w =>
  wAb md ops listed≠[]∧∀ i∈wAb md ops listed,i<n∧wpOp P ops Q i (fun a' w'=>C w'∧hH P md ops Q C n L f (listed.setIfInBounds i true) a' w') a w
theorem zIy {n g:Nat} {L:Array Bool→Act→World→Prop} (hL:∀ listed a w,L listed a w→wpAny P md ops Q g listed a w) :
 ∀ (f:Nat) (listed:Array Bool) (a:Act) (w:World),hH P md ops Q C n L f listed a w→wpAny P md ops Q (f+g) listed a w
 | 0,listed,a,w,h=>by rw[wAt];exact hL _ _ _ h
 | f+1,listed,a,w,h=>by
  rw[show f+1+g=(f+g)+1 by omega];exact⟨fun h0=>absurd h0 h.1,fun i hi=>wpOp_mono (fun a' w' h'=>zIy hL f _ a' w' h'.2) (h.2 i hi).2⟩
theorem zP2 {n i:Nat} {oi:Oper} {v:Value} {L:Array Bool→Act→World→Prop} (hi:ops[i]? = some oi) (hsel:∀ (j:Nat) (o:Oper) cs b,ops[j]? = some o→o.op≠.select cs b)
 (hQ:∀ c a a' w,Q (.panic c) a w→Q (.panic c) a' w)
 (hs:Region.sinkB md ops n=true) (hc:Region.chainB md ops n=true) (hn:n<ops.size) (hin:i<n)
 (hdone:∀ listed a w,L listed a w→∀ j∈wAb md ops listed,n≤j) :
 ∀ (f:Nat) (listed:Array Bool) (a:Act) (w:World),HeadInv md ops n listed →
  (∀ j oj,ops[j]? = some oj→j≠i→listed.getD j true=false→(∀ e∈oj.after,wAj md e=true→e.on≠i)→oi.apart ops oj=true) →
  i∈wAb md ops listed→YieldsIf P ops C oi v a→C w →
  hH P md ops Q C n L f (listed.setIfInBounds i true) (a.put oi.dst v) w→hH P md ops Q C n L (f+1) listed a w:=by
 intro f
 induction f with
 | zero =>
  intro listed a w inv _ hr hy hC H;have hun:=(mem_ready.1 hr).1;refine⟨fun h=>(by rw[h] at hr;cases hr),fun j hj=>?_⟩
  have hjn:j<n:=by
   rcases wAe j n with h | h
   · exact h
   · exact absurd hj (tail_waits hs hc hn inv _ i rfl hin hun j h)
  refine⟨hjn,?_⟩;by_cases hji:j=i
  · subst hji;exact hy.wpOp hi hC ⟨hC,H⟩
  ·have:=hdone _ _ _ H j (ready_mono hj hji)
   omega
 | succ f ih =>
  intro listed a w inv hfree hr hy hC H;have hun:=(mem_ready.1 hr).1;refine⟨fun h=>(by rw[h] at hr;cases hr),fun j hj=>?_⟩
  have hjn:j<n:=by
   rcases wAe j n with h | h
   · exact h
   · exact absurd hj (tail_waits hs hc hn inv _ i rfl hin hun j h)
  refine⟨hjn,?_⟩;by_cases hji:j=i
  · subst hji;exact hy.wpOp hi hC ⟨hC,H⟩
  ·have h1:=(H.2 j (ready_mono hj hji)).2;obtain⟨hjun,oj,hoj,hall⟩:=mem_ready.1 hj
   have hnot:∀ e∈oj.after,wAj md e=true→e.on≠i:=fun e he hb heq=>by
    have h1:=hall e he hb;rw[heq,getD_both hun] at h1;cases h1
   have h2:=wpOp_putIf hoj (hfree j oj hoj hji hjun hnot) (fun cs b=>hsel i oi cs b hi) (fun cs b=>hsel j oj cs b hoj) (fun c a w=>hQ c _ _ w) hy h1
   have hfree':∀ k ok,ops[k]? = some ok→k≠i→(listed.setIfInBounds j true).getD k true=false →
    (∀ e∈ok.after,wAj md e=true→e.on≠i)→oi.apart ops ok=true:=fun k ok hk hki hun hno=>by
    refine hfree k ok hk hki ?_ hno;by_cases hjk:j=k
    · subst hjk;exact hjun
    · rw[getD_set_ne true hjk] at hun;exact hun
   refine wpOp_mono (fun a' w' h3=>⟨h3.2.1,ih (listed.setIfInBounds j true) a' w' (inv.set hj hjn) hfree' (ready_mono hr (Ne.symm hji)) h3.1 h3.2.1 ?_⟩) h2;rw[wAn _ _ hji];exact h3.2.2
def mixW (P:Program) (ops:Array Oper) (Q:Exit→Act→World→Prop) (C:World→Prop) (L:Act→World→Prop):List (Nat×Bool)→Act→World→Prop
 | [],a,w=>L a w
 | (i,false)::r,a,w=>∃ o,ops[i]? = some o∧∃ v,YieldsIf P ops C o v a∧mixW P ops Q C L r (a.put o.dst v) w
 | (i,true)::r,a,w=>wpOp P ops Q i (fun a' w'=>C w'∧mixW P ops Q C L r a' w') a w
def mixB (md:Region.Mode) (ops:Array Oper) (n:Nat):List (Nat×Bool)→Array Bool→Bool
 | [],listed=>Region.seqB md ops (ops.size-n) n listed
 | (i,false)::r,listed=>decide (i<n)&&(wAb md ops listed).contains i&&Region.free md ops listed i&&mixB md ops n r (listed.setIfInBounds i true)
 | (i,true)::r,listed=>decide (i<n)&&decide (wAb md ops listed=[i])&&mixB md ops n r (listed.setIfInBounds i true)
theorem zMc {n:Nat} {Lq:Act→World→Prop} (hsel:Region.noSelect ops=true) (hQ:∀ c a a' w,Q (.panic c) a w→Q (.panic c) a' w)
 (hs:Region.sinkB md ops n=true) (hc:Region.chainB md ops n=true) (hn:n<ops.size) :
 ∀ (r:List (Nat×Bool)) (listed:Array Bool) (a:Act) (w:World),HeadInv md ops n listed→mixB md ops n r listed=true→C w→mixW P ops Q C Lq r a w →
 hH P md ops Q C n (fun listed' a' w'=>Region.seqB md ops (ops.size-n) n listed'=true∧Lq a' w') r.length listed a w
 | [],listed,a,w,_,hB,_,h=>⟨hB,h⟩
 | (i,false)::r,listed,a,w,inv,hB,hC,h=>by
  simp only[mixB,wAa,decide_eq_true_eq] at hB;obtain⟨⟨⟨hin,hr⟩,hf⟩,hB'⟩:=hB;obtain⟨o,ho,v,hy,hK⟩:=h;have hr':i∈wAb md ops listed:=by simpa using hr
  exact zP2 ho (Region.noSelect_spec hsel) hQ hs hc hn hin (fun listed' a' w' hL=>seqB_ready hL.1) r.length listed a w inv (Region.free_spec ho hf) hr' hy hC
   (zMc hsel hQ hs hc hn r _ _ w (inv.set hr' hin) hB' hC hK)
 | (i,true)::r,listed,a,w,inv,hB,hC,h=>by
  simp only[mixB,wAa,decide_eq_true_eq] at hB;obtain⟨⟨hin,hr⟩,hB'⟩:=hB;refine⟨by rw[hr];simp,fun j hj=>?_⟩;rw[hr] at hj;have hj':j=i:=by simpa using hj
  subst hj';exact⟨hin,wpOp_mono (fun a' w' h'=>⟨h'.1,zMc hsel hQ hs hc hn r _ a' w' (inv.set (by rw[hr];simp) hin) hB' h'.1 h'.2⟩) h⟩
theorem zAE {id:Nat} {Q:Exit→Act→World→Prop} {a:Act} {w:World} {l:List Oper} (C:World→Prop) (n:Nat) (ord:List (Nat×Bool)) (hm:P.follows .mixedOrders=true)
 (hB:(Region.noSelect l.toArray&&decide (n<l.toArray.size)&&Region.sinkB .any l.toArray n&&Region.chainB .any l.toArray n&&decide (ord.length=n)&&mixB .any l.toArray n ord (wAp l.toArray.size false))=true) (hC:C w.drew)
 (h:mixW P l.toArray (NoPanic Q) C (fun a' w'=>wpList P l.toArray (NoPanic Q) (l.drop n) a' w') ord a w.drew):(Code.region id l.toArray true).wp P Q a w:=by
 simp only[wAa,decide_eq_true_eq] at hB;obtain⟨⟨⟨⟨⟨hsel,hn⟩,hs⟩,hc⟩,hlen⟩,hmix⟩:=hB;refine wp_region_noPanic ?_;have hdl:(l.drop n).length=l.toArray.size-n:=by simp
 have inv0:HeadInv .any l.toArray n (wAp l.toArray.size false) :=
  ⟨by simp,fun j oj _ hl=>(by rw[getD_replicate_false] at hl;cases hl),fun t _ ht=>getD_in (by simpa using ht) (getD_replicate_false _ _)⟩
 have H:=zMc (md:=.any) (Q:=NoPanic Q) hsel (fun _ _ _ _ h=>h) hs hc hn ord _ a w.drew inv0 hmix hC h;refine wp_region_any hm ?_
 have:=zIy (Q:=NoPanic Q) (g:=l.toArray.size-n) (fun listed a' w' hL=>by
  have:=wpAny_of_seq (md:=.any) (Q':=NoPanic Q) (l.drop n) n listed a' w' (fun j=>by simp[wAu]) (by rw[hdl];exact hL.1) hL.2
  rwa [hdl] at this) _ _ _ _ H
 rw[hlen,show n+(l.toArray.size-n)=l.toArray.size by omega] at this;exact this
theorem mix_q {C:World→Prop} {L:Act→World→Prop} {i:Nat} {o:Oper} {v:Value} {r:List (Nat×Bool)} {a:Act} {w:World} (ho:ops[i]? = some o) (hw:Region.wanted o (yielded ops a.tmps)=true)
 (hv:∀ w',C w'→(execOp a.eval o).run P w'=.ok (.value v) w') (h:mixW P ops Q C L r (a.put o.dst v) w):mixW P ops Q C L ((i,false)::r) a w :=
 ⟨o,ho,v,.inl ⟨hw,hv⟩,h⟩
theorem zAs {C:World→Prop} {L:Act→World→Prop} {a:Act} {w:World} (h:L a w):mixW P ops Q C L [] a w:=h
theorem mix_l {C:World→Prop} {L:Act→World→Prop} {i:Nat} {o:Oper} {r:List (Nat×Bool)} {a:Act} {w:World} (ho:ops[i]? = some o) (hw:Region.wanted o (yielded ops a.tmps)=true)
 (h:∀ K:Act→World→Prop,(∀ a' w',C w'→mixW P ops Q C L r a' w'→K a' w')→o.wp P a w K Q):mixW P ops Q C L ((i,true)::r) a w:=by
 unfold mixW wpOp;simp only[ho,hw,if_true];exact .inl (h _ fun a' w' h1 h2=>⟨h1,h2⟩)
end
structure Arc where
 f:Int
 t:Int
 i:Int
 o:Int
 w:Int
structure Fnl where
 s:Int
 w:Int
structure Mach where
 n:Int
 arcs:List Arc
 fins:List Fnl
theorem Arc.ext' {a b:Arc} (h1:a.f=b.f) (h2:a.t=b.t) (h3:a.i=b.i) (h4:a.o=b.o) (h5:a.w=b.w):a=b:=by
 cases a;cases b;simp_all
theorem Fnl.ext' {a b:Fnl} (h1:a.s=b.s) (h2:a.w=b.w):a=b:=by cases a;cases b;simp_all
instance:DecidableEq Arc:=fun a b =>
 decidable_of_iff (a.f=b.f∧a.t=b.t∧a.i=b.i∧a.o=b.o∧a.w=b.w)
  ⟨fun h=>Arc.ext' h.1 h.2.1 h.2.2.1 h.2.2.2.1 h.2.2.2.2,fun h=>by subst h;exact⟨rfl,rfl,rfl,rfl,rfl⟩⟩
instance:DecidableEq Fnl:=fun a b =>
 decidable_of_iff (a.s=b.s∧a.w=b.w) ⟨fun h=>Fnl.ext' h.1 h.2,fun h=>by subst h;exact⟨rfl,rfl⟩⟩
instance:DecidableEq Mach:=fun a b =>
 decidable_of_iff (a.n=b.n∧a.arcs=b.arcs∧a.fins=b.fins)
  ⟨fun h=>by cases a;cases b;simp_all,fun h=>by subst h;exact⟨rfl,rfl,rfl⟩⟩
def dA:Arc:=⟨0,0,0,0,0⟩
def dF:Fnl:=⟨0,0⟩
def inR (n l m:Int):Bool:=decide (l≤n)&&decide (n≤m)
theorem inR_iff {n l m:Int} : inR n l m=true↔l≤n∧n≤m:=by simp[inR]
theorem inR_not {n l m:Int} : inR n l m=false↔¬ (l≤n∧n≤m):=by
 rw[← inR_iff];simp
def cmpI (a b:Int):Int:=if a<b then -1 else if b<a then 1 else 0
def orL:List Int→Int
 | []=>0
 | x::l=>if x=0 then orL l else x
theorem zP8 (l:List Int) (k:Nat) (hk:k<l.length):orL (l.drop k)=if l.getD k 0=0 then orL (l.drop (k+1)) else l.getD k 0:=by
 rw[wAd hk];simp[orL,hk]
def arcCmp (a b:Arc):Int:=orL [cmpI a.f b.f,cmpI a.i b.i,cmpI a.o b.o,cmpI a.t b.t,cmpI a.w b.w]
def lessL:List Int→List Int→Bool
 | x::l,y::k=>if x=y then lessL l k else decide (x<y)
 | _,_=>false
def arcKey (a:Arc):List Int:=[a.f,a.i,a.o,a.t,a.w]
def arcLess (a b:Arc):Bool:=lessL (arcKey a) (arcKey b)
theorem zKZ (a b:Int):(a<b∧cmpI a b = -1)∨(b<a∧cmpI a b=1)∨(a=b∧cmpI a b=0):=by
 unfold cmpI;by_cases h:a<b
 · exact .inl ⟨h,if_pos h⟩
 ·by_cases h2:b<a
  · exact .inr (.inl ⟨h2,by rw[if_neg h,if_pos h2]⟩)
  · exact .inr (.inr ⟨by omega,by rw[if_neg h,if_neg h2]⟩)
theorem zIr:∀ (l k:List Int),l.length=k.length→lessL l k = !decide (0≤orL (List.zipWith cmpI l k))
 | [],[],_=>by simp[lessL,orL]
 | x::l,y::k,h=>by
  have ih:=zIr l k (by simpa using h);rcases zKZ x y with⟨h1,h2⟩ | ⟨h1,h2⟩ | ⟨h1,h2⟩
  · simp[lessL,orL,h2,h1,show x≠y by omega]
  · simp[lessL,orL,h2,show ¬ x<y by omega,show x≠y by omega]
  ·subst h1;simp[lessL,orL,h2,ih]
theorem zBn (a b:Arc):arcLess a b = !decide (0≤arcCmp a b):=by
 exact zIr (arcKey a) (arcKey b) rfl
def ff {α:Type} (g:Nat→Option α):Nat→Nat→Option α
 | _,0=>none
 | k,d+1=>match g k with
  | some x=>some x
  | none=>ff g (k+1) d
theorem zMt {α:Type} {g:Nat→Option α} {k n:Nat} {x:α} (hk:k<n) (h:g k=some x):ff g k (n-k)=some x:=by
 obtain⟨d,hd⟩:∃ d,n-k=d+1:=⟨n-k-1,by omega⟩;rw[hd];simp[ff,h]
theorem zLG {α:Type} {g:Nat→Option α} {k n:Nat} (hk:k<n) (h:g k=none):ff g k (n-k)=ff g (k+1) (n-(k+1)):=by
 obtain⟨d,hd⟩:∃ d,n-k=d+1:=⟨n-k-1,by omega⟩;rw[hd,show n-(k+1)=d by omega];simp[ff,h]
theorem zQH {α:Type} {g:Nat→Option α} {k n:Nat} (hk:n≤k):ff g k (n-k)=none:=by
 rw[show n-k=0 by omega];rfl
theorem zCp {α:Type} {g:Nat→Option α} : ∀ (d k:Nat),ff g k d=none↔∀ i,k≤i→i<k+d→g i=none
 | 0,k=>by simp[ff];omega
 | d+1,k=>by
  simp only[ff]
  cases hg:g k with
  | some x =>
   simp only[reduceCtorEq,false_iff];intro h
   have:=h k (by omega) (by omega)
   rw[hg] at this;cases this
  | none =>
   simp only[];rw[zCp d (k+1)];constructor
   ·intro h i h1 h2;rcases Nat.eq_or_lt_of_le h1 with h3 | h3
    · subst h3;exact hg
    · exact h i (by omega) (by omega)
   ·intro h i h1 h2;exact h i (by omega) (by omega)
def okArc (S:Int) (a:Arc):Bool:=inR a.f 0 (S-1)&&inR a.t 0 (S-1)&&inR a.i 0 1114111&&inR a.o 0 1114111&&inR a.w 0 1000000
def okFin (S:Int) (x:Fnl):Bool:=inR x.s 0 (S-1)&&inR x.w 0 1000000
def arcFault (S:Int) (l:List Arc) (k:Nat):Option (Int×Int) :=
 if okArc S (l.getD k dA)=true then (if 0<k∧0≤arcCmp (l.getD (k-1) dA) (l.getD k dA) then some (13,(k:Int)) else none) else some (3,(k:Int))
def finFault (S:Int) (na:Nat) (l:List Fnl) (k:Nat):Option (Int×Int) :=
 if okFin S (l.getD k dF)=true then (if 0<k∧(l.getD k dF).s≤(l.getD (k-1) dF).s then some (13,(na:Int)+(k:Int)) else none) else some (3,(na:Int)+(k:Int))
theorem zJr {S:Int} {a:Arc} (h:¬ okArc S a=true):inR a.f 0 (S-1)=false∨(inR a.f 0 (S-1)=true∧inR a.t 0 (S-1)=false)∨(inR a.f 0 (S-1)=true∧inR a.t 0 (S-1)=true∧inR a.i 0 1114111=false) ∨
 (inR a.f 0 (S-1)=true∧inR a.t 0 (S-1)=true∧inR a.i 0 1114111=true∧inR a.o 0 1114111=false)∨(inR a.f 0 (S-1)=true∧inR a.t 0 (S-1)=true∧inR a.i 0 1114111=true∧inR a.o 0 1114111=true∧inR a.w 0 1000000=false):=by
 unfold okArc at h;generalize inR a.f 0 (S-1)=x0 at *;generalize inR a.t 0 (S-1)=x1 at *;generalize inR a.i 0 1114111=x2 at *;generalize inR a.o 0 1114111=x3 at *;generalize inR a.w 0 1000000=x4 at *;revert h;cases x0<;>cases x1<;>cases x2<;>cases x3<;>cases x4<;>simp
theorem zJk {S:Int} {a:Fnl} (h:¬ okFin S a=true):inR a.s 0 (S-1)=false∨(inR a.s 0 (S-1)=true∧inR a.w 0 1000000=false):=by
 unfold okFin at h;generalize inR a.s 0 (S-1)=x0 at *;generalize inR a.w 0 1000000=x1 at *;revert h;cases x0<;>cases x1<;>simp
theorem zRP {S:Int} {a:Arc} (h:0≤a.f∧a.f<S∧0≤a.t∧a.t<S∧0≤a.i∧a.i≤1114111∧0≤a.o∧a.o≤1114111∧0≤a.w∧a.w≤1000000):okArc S a=true:=by
 simp only[okArc,wAa,inR_iff];omega
theorem zMG {S:Int} {a:Arc} (h:¬ (0≤a.f∧a.f<S∧0≤a.t∧a.t<S∧0≤a.i∧a.i≤1114111∧0≤a.o∧a.o≤1114111∧0≤a.w∧a.w≤1000000)):okArc S a=false:=by
 cases hk:okArc S a
 · rfl
 · simp only[okArc,wAa,inR_iff] at hk;omega
theorem zDN {S:Int} {a:Arc} (h:okArc S a=true):0≤a.f∧a.f<S∧0≤a.t∧a.t<S∧0≤a.i∧a.i≤1114111∧0≤a.o∧a.o≤1114111∧0≤a.w∧a.w≤1000000:=by
 simp only[okArc,wAa,inR_iff] at h;omega
theorem zRf {S:Int} {a:Fnl} (h:0≤a.s∧a.s<S∧0≤a.w∧a.w≤1000000):okFin S a=true:=by
 simp only[okFin,wAa,inR_iff];omega
theorem zME {S:Int} {a:Fnl} (h:¬ (0≤a.s∧a.s<S∧0≤a.w∧a.w≤1000000)):okFin S a=false:=by
 cases hk:okFin S a
 · rfl
 · simp only[okFin,wAa,inR_iff] at hk;omega
theorem zCk {S:Int} {a:Fnl} (h:okFin S a=true):0≤a.s∧a.s<S∧0≤a.w∧a.w≤1000000:=by
 simp only[okFin,wAa,inR_iff] at h;omega
theorem zEA {S:Int} {l:List Arc} {k:Nat} {a:Arc} (ha:l.getD k dA=a) (h:¬ okArc S a=true):arcFault S l k=some (3,(k:Int)):=by
 unfold arcFault;rw[ha,if_neg h]
theorem zCu {S:Int} {l:List Arc} {k:Nat} {a:Arc} (ha:l.getD k dA=a) (h:okArc S a=true) (hp:¬ (0<k∧0≤arcCmp (l.getD (k-1) dA) a)):arcFault S l k=none:=by
 unfold arcFault;rw[ha,if_pos h,if_neg hp]
theorem zDp {S:Int} {l:List Arc} {k:Nat} {a:Arc} (ha:l.getD k dA=a) (h:okArc S a=true) (hp:0<k∧0≤arcCmp (l.getD (k-1) dA) a):arcFault S l k=some (13,(k:Int)):=by
 unfold arcFault;rw[ha,if_pos h,if_pos hp]
theorem zEt {S:Int} {na:Nat} {l:List Fnl} {k:Nat} {a:Fnl} (ha:l.getD k dF=a) (h:¬ okFin S a=true):finFault S na l k=some (3,(na:Int)+(k:Int)):=by
 unfold finFault;rw[ha,if_neg h]
theorem zCD {S:Int} {na:Nat} {l:List Fnl} {k:Nat} {a:Fnl} (ha:l.getD k dF=a) (h:okFin S a=true) (hp:¬ (0<k∧a.s≤(l.getD (k-1) dF).s)):finFault S na l k=none:=by
 unfold finFault;rw[ha,if_pos h,if_neg hp]
theorem zDo {S:Int} {na:Nat} {l:List Fnl} {k:Nat} {a:Fnl} (ha:l.getD k dF=a) (h:okFin S a=true) (hp:0<k∧a.s≤(l.getD (k-1) dF).s):finFault S na l k=some (13,(na:Int)+(k:Int)):=by
 unfold finFault;rw[ha,if_pos h,if_pos hp]
def vA (S:Int) (arcs:List Arc) (fins:List Fnl) (na nf k:Nat):Int×Int:=((ff (arcFault S arcs) k (na-k)).or (ff (finFault S na fins) 0 (nf-0))).getD (0,0)
def vF (S:Int) (fins:List Fnl) (na nf k:Nat):Int×Int:=(ff (finFault S na fins) k (nf-k)).getD (0,0)
theorem zHa {S:Int} {arcs:List Arc} {fins:List Fnl} {na nf k:Nat} (hk:k<na) (h:arcFault S arcs k=none):vA S arcs fins na nf k=vA S arcs fins na nf (k+1):=by
 unfold vA;rw[zLG hk h]
theorem zHq {S:Int} {arcs:List Arc} {fins:List Fnl} {na nf k:Nat} {x:Int×Int} (hk:k<na) (h:arcFault S arcs k=some x):vA S arcs fins na nf k=x:=by
 unfold vA;rw[zMt hk h];rfl
theorem zQE {S:Int} {arcs:List Arc} {fins:List Fnl} {na nf k:Nat} (hk:na≤k):vA S arcs fins na nf k=vF S fins na nf 0:=by
 unfold vA vF;rw[zQH hk];rfl
theorem zGJ {S:Int} {fins:List Fnl} {na nf k:Nat} (hk:k<nf) (h:finFault S na fins k=none):vF S fins na nf k=vF S fins na nf (k+1):=by
 unfold vF;rw[zLG hk h]
theorem zGG {S:Int} {fins:List Fnl} {na nf k:Nat} {x:Int×Int} (hk:k<nf) (h:finFault S na fins k=some x):vF S fins na nf k=x:=by
 unfold vF;rw[zMt hk h];rfl
theorem zQz {S:Int} {fins:List Fnl} {na nf k:Nat} (hk:nf≤k):vF S fins na nf k=(0,0):=by
 unfold vF;rw[zQH hk];rfl
def validate (m:Mach):Int×Int :=
 if inR m.n 0 400=true then
  if 2000<m.arcs.length then (2,-1)
  else vA m.n m.arcs m.fins m.arcs.length m.fins.length 0
 else (3,-1)
open Go Go.RowKit
def big:Nat:=140737488351232
def fld (a:Arc):Nat→Int
 | 0=>a.f | 1=>a.t | 2=>a.i | 3=>a.o | _=>a.w
def arcCell (l:List Arc) (i j:Nat):Value:=.int .i64 (fld (l.getD i dA) j)
def finCell (l:List Fnl) (i j:Nat):Value:=.int .i64 (match j with | 0=>(l.getD i dF).s | _=>(l.getD i dF).w)
def intCell (l:List Int) (i _j:Nat):Value:=.int .i64 (l.getD i 0)
def boolCell (l:List Bool) (i _j:Nat):Value:=.bool (l.getD i false)
theorem zAp {w:World} {B n:Nat} {A:Option Addr} {l:List Arc} (h:Rd w B 5 A n (arcCell l)) {k:Nat} (hk:k<n) :
 ∃ b off a,A=some ⟨b,off,none⟩∧b<B∧w.cell? ⟨b,off+k*5,none⟩=some (.int .i64 (Arc.f a))∧w.cell? ⟨b,off+k*5+1,none⟩=some (.int .i64 (Arc.t a)) ∧
  w.cell? ⟨b,off+k*5+2,none⟩=some (.int .i64 (Arc.i a))∧w.cell? ⟨b,off+k*5+3,none⟩=some (.int .i64 (Arc.o a))∧w.cell? ⟨b,off+k*5+4,none⟩=some (.int .i64 (Arc.w a))∧Hid (l.getD k dA=a):=by
 obtain⟨b,off,h1,h2,c0,c1,c2,c3,c4⟩:=h.at5 hk;exact⟨b,off,l.getD k dA,h1,h2,c0,c1,c2,c3,c4,zh rfl⟩
theorem zAQ {w:World} {B n:Nat} {A:Option Addr} {l:List Fnl} (h:Rd w B 2 A n (finCell l)) {k:Nat} (hk:k<n) :
 ∃ b off a,A=some ⟨b,off,none⟩∧b<B∧w.cell? ⟨b,off+k*2,none⟩=some (.int .i64 (Fnl.s a))∧w.cell? ⟨b,off+k*2+1,none⟩=some (.int .i64 (Fnl.w a))∧Hid (l.getD k dF=a):=by
 obtain⟨b,off,h1,h2,c0,c1⟩:=h.at2 hk;exact⟨b,off,l.getD k dF,h1,h2,c0,c1,zh rfl⟩
def MachAt (w:World) (B:Nat) (v:Value) (m:Mach):Prop :=
 ∃ (A AF:Option Addr) (n c nf cf:Nat),v=.agg #[.int .i64 m.n,.slice A n c,.slice AF nf cf]∧Hid (m.arcs.length=n)∧Hid (m.fins.length=nf)∧n≤c∧nf≤cf∧n≤big∧nf≤big ∧
  Rd w B 5 A n (arcCell m.arcs)∧Rd w B 2 AF nf (finCell m.fins)
theorem MachAt.below {w w':World} {B B':Nat} {v:Value} {m:Mach} (h:MachAt w B v m) (hb:Below B' w w') (hB:B≤B'):MachAt w' B v m:=by
 obtain⟨A,AF,n,c,nf,cf,h1,h2,h3,h4,h5,h6,h7,h8,h9⟩:=h;exact⟨A,AF,n,c,nf,cf,h1,h2,h3,h4,h5,h6,h7,h8.below hb hB,h9.below hb hB⟩
theorem MachAt.mono {w:World} {B B':Nat} {v:Value} {m:Mach} (h:MachAt w B v m) (hB:B≤B'):MachAt w B' v m:=by
 obtain⟨A,AF,n,c,nf,cf,h1,h2,h3,h4,h5,h6,h7,h8,h9⟩:=h;exact⟨A,AF,n,c,nf,cf,h1,h2,h3,h4,h5,h6,h7,h8.mono hB,h9.mono hB⟩
theorem MachAt.empty (w:World) (B:Nat):MachAt w B (.agg #[.int .i64 0,.slice none 0 0,.slice none 0 0]) ⟨0,[],[]⟩ :=
 ⟨none,none,0,0,0,0,rfl,zh rfl,zh rfl,wAc _,wAc _,by simp[big],by simp[big],Rd.zero,Rd.zero⟩
end Gm
namespace Go.Proofs.Ytkfdhpbnphojoaa
open Go.RowKit Gm
theorem zDL (n l m:Int) (w:World) :
 Calls Try.prog 92 #[.int .i64 n,.int .i64 l,.int .i64 m] w fun e w'=>e=.returned (.bool (inR n l m))∧w=w':=by
 go_enter Try.func92,Try.ntmps92
 go_wp2
 all_goals go_ret
 · rename_i h;exact⟨by simp[inR,h],rfl⟩
 · rename_i h;exact⟨by simp[inR];omega,rfl⟩
def fEq (a b c d:Int):Bool:=decide (a=c)&&decide (b=d)
theorem zAn (a b c d:Int) (w:World):(binOp .neq 28 (.agg #[.int .i64 a,.int .i64 b]) (.agg #[.int .i64 c,.int .i64 d])).run Try.prog w=.ok (.bool (!fEq a b c d)) w:=by
 simp[go_sem,fEq];by_cases e1:a=c<;>by_cases e2:b=d<;>simp_all
theorem zAV (a b c d:Int) (w:World):(binOp .eql 28 (.agg #[.int .i64 a,.int .i64 b]) (.agg #[.int .i64 c,.int .i64 d])).run Try.prog w=.ok (.bool (fEq a b c d)) w:=by
 simp[go_sem,fEq];by_cases e1:a=c<;>by_cases e2:b=d<;>simp_all
theorem zFm {a b c d:Int} (h:¬ (a=c∧b=d)):fEq a b c d=false:=by
 unfold fEq;by_cases e1:a=c<;>by_cases e2:b=d<;>simp_all
theorem zNx (a:Int) (w:World) :
 Calls Try.prog 110 #[.int .i64 a] w fun e w'=>e=.returned (.bool false)∧w=w':=by
 go_enter Try.func110,Try.ntmps110
 go_wp2
 go_ret
 simp
theorem zFr (a b:Int) (w:World) :
 Calls Try.prog 109 #[.int .i64 a,.int .i64 b] w fun e w'=>e=.returned (.int .i64 (cmpI a b))∧w=w':=by
 go_enter Try.func109,Try.ntmps109
 go_wp2_with (go_at_call 110;refine (zNx _ _).mono ?_;rintro e w' ⟨rfl,rfl⟩)
 all_goals go_ret
 all_goals refine⟨?_,rfl⟩
 all_goals unfold cmpI
 · rename_i h;rw[if_pos h];rfl
 · rename_i h1 h2;rw[if_neg (by omega),if_pos h2];rfl
 · rename_i h1 h2;rw[if_neg (by omega),if_neg (by omega)];rfl
theorem zQB (A:Option Addr) (n c:Nat) (l:List Int) (w:World) (B:Nat) (hn:l.length=n) (hl:n≤1000) (h:Rd w B 1 A n (intCell l)) :
 Calls Try.prog 108 #[.slice A n c] w fun e w'=>e=.returned (.int .i64 (orL l))∧w=w':=by
 have HL:=zh hn;clear hn
 go_enter Try.func108,Try.ntmps108
 go_wp2
 go_loop [8,5] (fun i x=>∃ k:Nat,k≤n∧i=.int .i64 k∧orL (l.drop k)=orL l) (fun i x=>n-(intOf i).toNat)
 case atStart=>exact⟨0,by omega,rfl,by simp⟩
 case round =>
  obtain⟨k,hk,rfl,hor⟩:=hrel;have HO:=zh hor;clear hor;by_cases hkn:k<n
  ·obtain⟨b,off,rfl,hB,hc1⟩:=h.at1 hkn;clear h;have hs:=zP8 l k (by rw[HL.o];exact hkn);have HS:=zh hs;clear hs;obtain⟨x,hx⟩:∃ x,x=l.getD k 0:=⟨_,rfl⟩;simp only[intCell,← hx] at hc1;have HX:=zh hx;clear hx;by_cases h0:x=0
   ·(have hb:(x != 0)=false:=by simp[h0]);have H0:=zh h0;clear h0;go_wp2
    go_round
    case rel=>exact⟨k+1,by omega,by go_num,by rw[← HO.o,HS.o,if_pos (by rw[← HX.o];exact H0.o)]⟩
    case measure=>simp[intOf];omega
   ·(have hb:(x != 0)=true:=by simp[h0]);have H0:=zh h0;clear h0;go_wp2
    go_ret
    refine⟨?_,rfl⟩;rw[← HO.o,HS.o,if_neg (by rw[← HX.o];exact H0.o),← HX.o];rfl
  ·go_wp2
   go_ret
   refine⟨?_,rfl⟩;rw[← HO.o,wAf (by rw[HL.o];omega)];rfl
theorem zMj (a b:Arc) (w:World) :
 Calls Try.prog 81 #[.agg #[.int .i64 a.f,.int .i64 a.t,.int .i64 a.i,.int .i64 a.o,.int .i64 a.w],.agg #[.int .i64 b.f,.int .i64 b.t,.int .i64 b.i,.int .i64 b.o,.int .i64 b.w]] w fun e w'=>e=.returned (.int .i64 (arcCmp a b))∧Below w.heap.size w w':=by
 go_enter Try.func81,Try.ntmps81
 go_wp2;refine zA5 25 (by kernel_rfl) (by kernel_rfl) ?_;simp only[List.take_succ_cons,List.take_zero,List.drop_succ_cons,wAC]
 repeat (quiet_step ((go_at_call 109;exact Calls.quiet_of_same ((zFr _ _ _).mono (fun e w' h=>⟨h.1,h.2.symm⟩)))))
 refine wpQuiet_nil ?_;intro _ hw';obtain⟨nq,hw''⟩:=hw';subst hw'';go_wp2_with fail;refine (zQB (some ⟨w.heap.size+1+1,0,none⟩) 5 5 [cmpI a.f b.f,cmpI a.i b.i,cmpI a.o b.o,cmpI a.t b.t,cmpI a.w b.w] _ (w.heap.size+1+1+1) rfl (by omega) ?_).mono ?_
 ·intro _;refine⟨_,_,rfl,by omega,fun i j hi hj=>?_⟩;obtain rfl:j=0:=by omega
  rcases (by omega:i=0∨i=1∨i=2∨i=3∨i=4) with rfl | rfl | rfl | rfl | rfl<;>go_simp<;>rfl
 ·rintro e w' ⟨rfl,rfl⟩;go_wp2
  go_ret
  refine⟨rfl,?_⟩;exact (zAc (((Below.refl _ _).alloc (wAc _) _).alloc (by simp) _) nq).alloc (by simp;omega) _
theorem zBD (a b:Int) (w:World) :
 Calls Try.prog 41 #[.int .i64 a,.int .i64 b] w fun e w'=>e=.returned (.agg #[.int .i64 a,.int .i64 b])∧Below w.heap.size w w':=by
 go_enter Try.func41,Try.ntmps41
 go_wp2;exact bodyPost_ret (v:=.agg #[.int .i64 a,.int .i64 b]) (by simp[results,Try.results41,go_sem]) rfl ⟨rfl,(Below.refl _ _).alloc (wAc _) _⟩
end Go.Proofs.Ytkfdhpbnphojoaa
namespace Gm
open Go Go.RowKit
theorem zLi {l k:List Int} {j:Nat} (h1:j<l.length) (h2:l.length=k.length):lessL (l.drop j) (k.drop j)=if l.getD j 0=k.getD j 0 then lessL (l.drop (j+1)) (k.drop (j+1)) else decide (l.getD j 0<k.getD j 0):=by
 rw[wAd h1,wAd (show j<k.length by omega)];simp[lessL,h1,show j<k.length by omega]
theorem zNr {l k:List Int} {j:Nat} (h1:l.length≤j):lessL (l.drop j) k=false:=by
 rw[wAf h1];cases k<;>rfl
theorem zKJ (a:Arc) (k:Nat) (hk:k<5):(#[Value.int .i64 a.f,.int .i64 a.i,.int .i64 a.o,.int .i64 a.t,.int .i64 a.w]:Array Value)[k]? = some (.int .i64 ((arcKey a).getD k 0)):=by
 rcases (by omega:k=0∨k=1∨k=2∨k=3∨k=4) with rfl | rfl | rfl | rfl | rfl<;>rfl
end Gm
namespace Go.Proofs.Ytkfdhpbnphojoaa
open Go.RowKit Gm
theorem zHo (a b:Arc) (w:World) :
 Calls Try.prog 73 #[.agg #[.int .i64 a.f,.int .i64 a.t,.int .i64 a.i,.int .i64 a.o,.int .i64 a.w],.agg #[.int .i64 b.f,.int .i64 b.t,.int .i64 b.i,.int .i64 b.o,.int .i64 b.w]] w fun e w'=>e=.returned (.bool (arcLess a b))∧Below w.heap.size w w':=by
 go_enter Try.func73,Try.ntmps73
 go_wp2;generalize hW:World.alloc _ _=W0;have hb0:Below w.heap.size w W0:=by rw[← hW];go_grown
 have bx:Blk W0 (w.heap.size+1+1) 3 #[Value.int .i64 a.f,.int .i64 a.i,.int .i64 a.o,.int .i64 a.t,.int .i64 a.w]:=by
  rw[← hW];exact (Blk.at_ (by simp)).alloc _
 have bY:Blk W0 (w.heap.size+1+1+1) 3 #[Value.int .i64 b.f,.int .i64 b.i,.int .i64 b.o,.int .i64 b.t,.int .i64 b.w]:=by
  rw[← hW];exact Blk.at_ (by simp)
 clear hW
 go_loopw [32] (fun i wr=>∃ k q:Nat,k≤5∧i=.int .i64 k∧Hid (wr=W0.drewN q)∧Hid (arcLess a b=lessL ((arcKey a).drop k) ((arcKey b).drop k))) (fun i _=>5-(intOf i).toNat)
 case atStart=>exact⟨0,0,by omega,rfl,zh rfl,zh rfl⟩
 case round =>
  obtain⟨k,q,hk,rfl,hwr,HR⟩:=hrel;obtain rfl:=hwr.o;clear hwr;by_cases hkn:k<5
  ·have c0:W0.cell? ⟨w.heap.size+1+1,k,none⟩=some (.int .i64 ((arcKey a).getD k 0)):=(bx.cell k).trans (zKJ a k hkn);have c1:W0.cell? ⟨w.heap.size+1+1+1,k,none⟩=some (.int .i64 ((arcKey b).getD k 0)):=(bY.cell k).trans (zKJ b k hkn);obtain⟨x,hx⟩:∃ x,x=(arcKey a).getD k 0:=⟨_,rfl⟩;obtain⟨y,hy⟩:∃ x,x=(arcKey b).getD k 0:=⟨_,rfl⟩;have hs:=zLi (l:=arcKey a) (k:=arcKey b) (j:=k) hkn rfl;rw[← hx,← hy] at hs;rw[← hx] at c0;rw[← hy] at c1;have HS:=zh hs;clear hs hx hy;(have k1:(0:Int)≤(k:Int):=by omega);(have k2:(k:Int)<5:=by omega);go_wp2;go_quiet (fail);by_cases hxy:x=y
   ·(have hb:(x != y)=false:=by simp[hxy]);have HX:=zh hxy;clear hxy;go_wp2;go_roundw
    case rel=>exact⟨k+1,_,by omega,by go_num,zh rfl,zh (HR.o.trans (HS.o.trans (if_pos HX.o)))⟩
    case measure=>simp[intOf];omega
   ·(have hb:(x != y)=true:=by simp[hxy]);have HX:=zh hxy;clear hxy;go_wp2;go_quiet (fail);go_wp2
    go_ret
    rw[HR.o,HS.o,if_neg HX.o];exact⟨rfl,zAc (zAc (zAc hb0 _) _) _⟩
  ·go_wp2
   go_ret
   rw[HR.o,zNr (show (arcKey a).length≤k by simp[arcKey];omega)];exact⟨rfl,zAc hb0 _⟩
end Go.Proofs.Ytkfdhpbnphojoaa
namespace Gm
open Go Go.RowKit
theorem zFN {α:Type} [DecidableEq α] {l k:List α} {d:α} {j:Nat} (h1:j<l.length) (h2:l.length=k.length) :
 decide (l.drop j=k.drop j)=if l.getD j d=k.getD j d then decide (l.drop (j+1)=k.drop (j+1)) else false:=by
 have e1:l.getD j d=l[j]:=by simp[h1]
 have e2:k.getD j d=k[j]'(by omega):=by simp[show j<k.length by omega]
 have e3:l.drop j=l[j]::l.drop (j+1):=wAd h1;have e4:k.drop j=k[j]'(by omega)::k.drop (j+1):=wAd (show j<k.length by omega);rw[e1,e2,e3,e4];by_cases h:l[j]=k[j]'(by omega)
 · rw[if_pos h,h];simp only[List.cons.injEq,true_and]
 · rw[if_neg h];simp only[List.cons.injEq,h,false_and,decide_false]
theorem zKu {α:Type} [DecidableEq α] {l k:List α} {j:Nat} (h1:l.length≤j) (h2:k.length≤j):decide (l.drop j=k.drop j)=true:=by
 rw[wAf h1,wAf h2];simp
def arcEqB (a b:Arc):Bool:=decide (a=b)
def finEqB (a b:Fnl):Bool:=decide (a=b)
end Gm
namespace Go.Proofs.Ytkfdhpbnphojoaa
open Go.RowKit Gm
theorem zJb (a b:Arc) (w:World):(binOp .neq 64 (.agg #[.int .i64 a.f,.int .i64 a.t,.int .i64 a.i,.int .i64 a.o,.int .i64 a.w]) (.agg #[.int .i64 b.f,.int .i64 b.t,.int .i64 b.i,.int .i64 b.o,.int .i64 b.w])).run Try.prog w=.ok (.bool (!arcEqB a b)) w:=by
 by_cases h:a=b
 · subst h;simp[go_sem,arcEqB]
 ·have hn:¬ (a.f=b.f∧a.t=b.t∧a.i=b.i∧a.o=b.o∧a.w=b.w):=fun ⟨h1,h2,h3,h4,h5⟩=>h (Arc.ext' h1 h2 h3 h4 h5)
  simp only[arcEqB,h,decide_false,wAD];simp only[go_sem];simp[go_sem];clear h;by_cases e1:a.f=b.f<;>by_cases e2:a.t=b.t<;>by_cases e3:a.i=b.i<;>by_cases e4:a.o=b.o<;>by_cases e5:a.w=b.w<;>simp_all
theorem zJd (a b:Fnl) (w:World):(binOp .neq 69 (.agg #[.int .i64 a.s,.int .i64 a.w]) (.agg #[.int .i64 b.s,.int .i64 b.w])).run Try.prog w=.ok (.bool (!finEqB a b)) w:=by
 by_cases h:a=b
 · subst h;simp[go_sem,finEqB]
 ·have hn:¬ (a.s=b.s∧a.w=b.w):=fun ⟨h1,h2⟩=>h (Fnl.ext' h1 h2)
  simp only[finEqB,h,decide_false,wAD];simp[go_sem];clear h;by_cases e1:a.s=b.s<;>by_cases e2:a.w=b.w<;>simp_all
theorem zA2 (v1 v2:Value) (m1 m2:Mach) (w:World) (B:Nat) (hB:B≤w.heap.size) (h1:MachAt w B v1 m1) (h2:MachAt w B v2 m2) :
 Calls Try.prog 16 #[v1,v2] w fun e w'=>e=.returned (.bool (decide (m1=m2)))∧Below w.heap.size w w':=by
 obtain⟨A,AF,n,c,nf,cf,rfl,HN,HF,hnc,hnfc,hnb,hnfb,hA,hF⟩:=h1;obtain⟨A',AF',n',c',nf',cf',rfl,HN',HF',hnc',hnfc',hnb',hnfb',hA',hF'⟩:=h2;unfold big at *
 have hdec:decide (m1=m2)=(decide (m1.n=m2.n)&&(decide (n=n')&&(decide (nf=nf')&&(decide (m1.arcs.drop 0=m2.arcs.drop 0)&&decide (m1.fins.drop 0=m2.fins.drop 0))))):=by
  obtain⟨S,l,x⟩:=m1;obtain⟨S',l',x'⟩:=m2;have e1:=HN.o;have e2:=HN'.o;have e3:=HF.o;have e4:=HF'.o;simp only[] at e1 e2 e3 e4;simp only[Mach.mk.injEq,wAC,← Bool.decide_and];refine decide_eq_decide.2 ⟨fun ⟨h1,h2,h3⟩=>⟨h1,by rw[← e1,← e2,h2],by rw[← e3,← e4,h3],h2,h3⟩,fun ⟨h1,_,_,h2,h3⟩=>⟨h1,h2,h3⟩⟩
 rw[hdec];clear hdec;by_cases d0:m1.n=m2.n
 ·by_cases d1:n=n'
  ·by_cases d2:nf=nf'
   ·subst d1 d2;simp only[d0,decide_true,Bool.true_and];obtain⟨tot,htot⟩:∃ x,x=(decide (m1.arcs.drop 0=m2.arcs.drop 0)&&decide (m1.fins.drop 0=m2.fins.drop 0)):=⟨_,rfl⟩;rw[← htot];have HT:=zh htot;clear htot;(have hd0:(m1.n != m2.n)=false:=by simp[d0]);have HD:=zh d0;clear d0
    go_enter Try.func16,Try.ntmps16
    go_wp2;generalize hW:World.alloc _ _=W0;(have hb0:Below w.heap.size w W0:=by rw[← hW];go_grown);(have bx:Blk W0 w.heap.size 25 #[.int .i64 m2.n,.slice A n c,.slice AF nf cf]:=by rw[← hW];exact (Blk.at_ (by first | rfl | simp)).alloc _);(have bY:Blk W0 (w.heap.size+1) 25 #[.int .i64 m2.n,.slice A' n c',.slice AF' nf cf']:=by rw[← hW];exact Blk.at_ (by first | rfl | simp));have k0:W0.cell? ⟨w.heap.size,1,none⟩=some (.slice A n c):=bx.cell 1;have k1:W0.cell? ⟨w.heap.size,2,none⟩=some (.slice AF nf cf):=bx.cell 2;have l0:W0.cell? ⟨w.heap.size+1,1,none⟩=some (.slice A' n c'):=bY.cell 1;have l1:W0.cell? ⟨w.heap.size+1,2,none⟩=some (.slice AF' nf cf'):=bY.cell 2;clear hW bx bY
    go_loopw [33] (fun i wr=>∃ k q:Nat,k≤n∧i=.int .i64 k∧Hid (wr=W0.drewN q)∧Hid (tot=(decide (m1.arcs.drop k=m2.arcs.drop k)&&decide (m1.fins.drop 0=m2.fins.drop 0)))) (fun i _=>n-(intOf i).toNat)
    case atStart=>exact⟨0,0,by omega,rfl,zh rfl,HT⟩
    case round =>
     obtain⟨k,q,hk,rfl,hwr,HR⟩:=hrel;obtain rfl:=hwr.o;clear hwr;by_cases hkn:k<n
     ·obtain⟨b,off,a,rfl,hbB,c0,c1,c2,c3,c4,HA⟩:=zAp (hA.below hb0 hB) hkn;obtain⟨b',off',a',rfl,hbB',e0,e1,e2,e3,e4,HA'⟩:=zAp (hA'.below hb0 hB) hkn;(have he:=fun W=>zJb a a' W);(have j0:(0:Int)≤(k:Int):=by omega);(have j1:(k:Int)<(n:Int):=by omega);(have hk':k<m1.arcs.length:=by rw[HN.o];exact hkn);have hs:=zFN (d:=dA) hk' (show m1.arcs.length=m2.arcs.length by rw[HN.o,HN'.o]);rw[HA.o,HA'.o] at hs;have HS:=zh hs;clear hs hk';cases hE:arcEqB a a'
      ·(have hne:¬ a=a':=by simpa[arcEqB] using hE);have HNE:=zh hne;clear hne;go_wp2;go_quiet (fail);go_wp2
       go_ret
       rw[HR.o,HS.o,if_neg HNE.o];exact⟨rfl,zAc (zAc hb0 _) _⟩
      ·(have hne:a=a':=by simpa[arcEqB] using hE);have HNE:=zh hne;clear hne;go_wp2;go_quiet (fail);go_wp2;go_roundw
       case rel=>exact⟨k+1,_,by omega,by go_num,zh rfl,zh (HR.o.trans (by rw[HS.o,if_pos HNE.o]))⟩
       case measure=>simp[intOf];omega
     ·have hend:decide (m1.arcs.drop k=m2.arcs.drop k)=true:=zKu (by rw[HN.o];omega) (by rw[HN'.o];omega);have HR2:Hid (tot=decide (m1.fins.drop 0=m2.fins.drop 0)):=zh (by rw[HR.o,hend];rfl);clear HR hend HT;go_wp2
      go_loopw [51] (fun i wr=>∃ k q:Nat,k≤nf∧i=.int .i64 k∧Hid (wr=W0.drewN q)∧Hid (tot=decide (m1.fins.drop k=m2.fins.drop k))) (fun i _=>nf-(intOf i).toNat)
      case atStart=>exact⟨0,q,by omega,rfl,zh rfl,HR2⟩
      case round =>
       obtain⟨k,q,hk,rfl,hwr,HR⟩:=hrel;obtain rfl:=hwr.o;clear hwr;by_cases hkn:k<nf
       ·obtain⟨b,off,a,rfl,hbB,c0,c1,HA⟩:=zAQ (hF.below hb0 hB) hkn;obtain⟨b',off',a',rfl,hbB',e0,e1,HA'⟩:=zAQ (hF'.below hb0 hB) hkn;(have he:=fun W=>zJd a a' W);(have j0:(0:Int)≤(k:Int):=by omega);(have j1:(k:Int)<(nf:Int):=by omega);(have hk':k<m1.fins.length:=by rw[HF.o];exact hkn);have hs:=zFN (d:=dF) hk' (show m1.fins.length=m2.fins.length by rw[HF.o,HF'.o]);rw[HA.o,HA'.o] at hs;have HS:=zh hs;clear hs hk';cases hE:finEqB a a'
        ·(have hne:¬ a=a':=by simpa[finEqB] using hE);have HNE:=zh hne;clear hne;go_wp2;go_quiet (fail);go_wp2
         go_ret
         rw[HR.o,HS.o,if_neg HNE.o];exact⟨rfl,zAc (zAc hb0 _) _⟩
        ·(have hne:a=a':=by simpa[finEqB] using hE);have HNE:=zh hne;clear hne;go_wp2;go_quiet (fail);go_wp2;go_roundw
         case rel=>exact⟨k+1,_,by omega,by go_num,zh rfl,zh (HR.o.trans (by rw[HS.o,if_pos HNE.o]))⟩
         case measure=>simp[intOf];omega
       ·have hend:decide (m1.fins.drop k=m2.fins.drop k)=true:=zKu (by rw[HF.o];omega) (by rw[HF'.o];omega);have HR2:=zh (HR.o.trans hend);clear HR hend;go_wp2
        go_ret
        rw[HR2.o];exact⟨rfl,zAc hb0 _⟩
   ·(have hb2:((nf:Int) != (nf':Int))=true:=by simp;omega);(have hb1:((n:Int) != (n':Int))=false:=by simp;omega);(have hb0:(m1.n != m2.n)=false:=by simp[d0]);rw[show decide (nf=nf')=false by simp[d2]];simp only[wAr,wAE];clear d0 d1 d2
    go_enter Try.func16,Try.ntmps16
    go_wp2
    go_ret
    exact⟨rfl,by go_grown⟩
  ·(have hb1:((n:Int) != (n':Int))=true:=by simp;omega);(have hb0:(m1.n != m2.n)=false:=by simp[d0]);rw[show decide (n=n')=false by simp[d1]];simp only[wAr,wAE];clear d0 d1
   go_enter Try.func16,Try.ntmps16
   go_wp2
   go_ret
   exact⟨rfl,by go_grown⟩
 ·have hb0:(m1.n != m2.n)=true:=by simp[d0]
  rw[show decide (m1.n=m2.n)=false by simp[d0]];simp only[wAr];clear d0
  go_enter Try.func16,Try.ntmps16
  go_wp2
  go_ret
  exact⟨rfl,by go_grown⟩
end Go.Proofs.Ytkfdhpbnphojoaa
namespace Gm
def akey (back:Bool) (a:Arc):Int:=if back then a.t else a.f
def aval (back:Bool) (a:Arc):Int:=if back then a.f else a.t
def adj (back:Bool) (l:List Arc) (i:Nat):List Int:=(l.filter (fun a=>decide (akey back a=(i:Int)))).map (aval back)
theorem mem_adj {back:Bool} {l:List Arc} {i:Nat} {x:Int} : x∈adj back l i↔∃ a,a∈l∧akey back a=(i:Int)∧aval back a=x:=by
 unfold adj;simp only[wAF,List.mem_filter,decide_eq_true_eq];constructor
 · rintro⟨a,⟨h1,h2⟩,h3⟩;exact⟨a,h1,h2,h3⟩
 · rintro⟨a,h1,h2,h3⟩;exact⟨a,⟨h1,h2⟩,h3⟩
inductive RS (back:Bool) (l:List Arc) (I:List Int):Int→Prop
 | base {s:Int} : s∈I→RS back l I s
 | step {s t:Int} {a:Arc} : RS back l I s→a∈l→akey back a=s→aval back a=t→RS back l I t
def upd (seen:Nat→Bool) (x:Nat):Nat→Bool:=fun i=>if i=x then true else seen i
theorem zBI (seen:Nat→Bool) (x:Nat):upd seen x x=true:=by simp[upd]
theorem zE8 {seen:Nat→Bool} {x i:Nat} (h:seen i=true):upd seen x i=true:=by
 unfold upd;split<;>simp[h]
structure DInv (back:Bool) (l:List Arc) (I:List Int) (S:Nat) (seen:Nat→Bool) (todo:List Int):Prop where
 rng:∀ x∈todo,0≤x∧x<(S:Int)
 tr:∀ x∈todo,RS back l I x
 sr:∀ s,s<S→seen s=true→RS back l I (s:Int)
 i3:∀ x∈I,seen x.toNat=true∨x∈todo
 i4:∀ s,s<S→seen s=true→∀ t∈adj back l s,seen t.toNat=true∨t∈todo
def inRange (l:List Arc) (S:Nat):Prop:=∀ a∈l,0≤a.f∧a.f<(S:Int)∧0≤a.t∧a.t<(S:Int)
theorem zCF {back:Bool} {l:List Arc} {S:Nat} (h:inRange l S) {a:Arc} (ha:a∈l):0≤aval back a∧aval back a<(S:Int):=by
 have:=h a ha
 unfold aval;split<;>omega
theorem zJ7 {back:Bool} {l:List Arc} {S:Nat} (h:inRange l S) {a:Arc} (ha:a∈l):0≤akey back a∧akey back a<(S:Int):=by
 have:=h a ha
 unfold akey;split<;>omega
theorem DInv.start {back:Bool} {l:List Arc} {I:List Int} {S:Nat} (hI:∀ x∈I,0≤x∧x<(S:Int)):DInv back l I S (fun _=>false) I :=
 ⟨hI,fun _ h=>.base h,fun _ _ h=>(by cases h),fun _ h=>.inr h,fun _ _ h=>(by cases h)⟩
theorem DInv.done {back:Bool} {l:List Arc} {I:List Int} {S:Nat} {seen:Nat→Bool} (hl:inRange l S) (hI:∀ x∈I,0≤x∧x<(S:Int)) (h:DInv back l I S seen []):∀ s,s<S→(seen s=true↔RS back l I (s:Int)):=by
 have key:∀ t,RS back l I t→0≤t∧t<(S:Int)∧seen t.toNat=true:=by
  intro t ht
  induction ht with
  | base hs =>
   have:=hI _ hs
   exact⟨this.1,this.2,(h.i3 _ hs).resolve_right (by simp)⟩
  | @step s t a hs ha hk hv ih =>
   have hr:=zCF (back:=back) hl ha;rw[hv] at hr;refine⟨hr.1,hr.2,(h.i4 s.toNat (by omega) ih.2.2 t (mem_adj.2 ⟨a,ha,by rw[hk];omega,hv⟩)).resolve_right (by simp)⟩
 intro s hs;refine⟨h.sr s hs,fun hr=>?_⟩
 have:=(key _ hr).2.2
 simpa using this
open Go Go.RowKit
/-! An owned row is read. -/
theorem Rd.of_own {w:World} {base sz n:Nat} {e:TypeId} {A:Option Addr} {c:Nat} {xs:List Value} {f:Nat→Nat→Value} (h:w.ownsRow base e sz (.slice A n c) n xs)
 (hx:∀ i j,i<n→j<sz→xs[i*sz+j]? = some (f i j)):Rd w w.heap.size sz A n f:=by
 intro hn;obtain⟨g,cap,hv,_,hlt⟩:=h.form hn;have hA:A=some ⟨g,0,none⟩:=by injection hv
 subst hA;refine⟨g,0,rfl,hlt,fun i j hi hj=>?_⟩;have hc:=h.cells (g:=g) rfl (i*sz+j) _ (hx i j hi hj);rw[wAt]
 have e:((⟨g,0,none⟩:Addr).add (i*sz+j))=⟨g,i*sz+j,none⟩:=by
  unfold Addr.add;split<;>simp_all
 rw[e] at hc;exact hc
theorem zAa {w:World} {base sz n:Nat} {e:TypeId} {v:Value} {xs:List Value} (h:w.ownsRow base e sz v n xs):∃ A c,v=.slice A n c∧n≤c∧c≤maxLen:=by
 rcases h.2 with⟨rfl,rfl⟩ | ⟨g,cap,cur,hv,_,_,hnc,hc,_⟩
 · exact⟨none,0,rfl,wAc _,by simp[maxLen]⟩
 · exact⟨_,cap,hv,hnc,hc⟩
theorem zAt {w:World} {b1 b2:Nat} {e1 e2:TypeId} {s1 s2 n1 n2:Nat} {v1 v2:Value} {x1 x2:List Value} (h1:w.ownsRow b1 e1 s1 v1 n1 x1) (h2:w.ownsRow b2 e2 s2 v2 n2 x2) (hne:e1≠e2):v1.ownBlock=none∨v1.ownBlock≠v2.ownBlock:=by
 rcases h1.2 with⟨rfl,_⟩ | ⟨g1,c1,cur1,rfl,_,hh1,_⟩
 · exact .inl rfl
 ·right;rcases h2.2 with⟨rfl,_⟩ | ⟨g2,c2,cur2,rfl,_,hh2,_⟩
  · simp[Value.ownBlock]
  ·intro e
   have:g1=g2:=by simpa[Value.ownBlock] using e
   subst this;rw[hh1] at hh2;(injection hh2 with hh2);(injection hh2 with _ he);exact hne he
def intRow (l:List Int):List Value:=l.map (.int .i64)
theorem zAh (l:List Int):(intRow l).length=l.length:=by simp[intRow]
theorem zAd (l k:List Int):intRow (l++k)=intRow l++intRow k:=by simp[intRow]
theorem zAi (l:List Int):∀ i j,i<l.length→j<1→(intRow l)[i*1+j]? = some (intCell l i j):=by
 intro i j hi hj;obtain rfl:j=0:=by omega
 simp[intRow,intCell,hi]
theorem zAg (l:List Int):∀ u∈intRow l,u.oneCell'=true:=by
 intro u hu;obtain⟨x,_,rfl⟩:=wAF.1 hu;rfl
def arcRow (l:List Arc):List Value:=l.flatMap fun a=>[.int .i64 a.f,.int .i64 a.t,.int .i64 a.i,.int .i64 a.o,.int .i64 a.w]
theorem zAv (l:List Arc):(arcRow l).length=l.length*5:=by
 induction l with
 | nil=>rfl
 | cons a l ih =>
  have e:arcRow (a::l)=[.int .i64 a.f,.int .i64 a.t,.int .i64 a.i,.int .i64 a.o,.int .i64 a.w]++arcRow l:=rfl;rw[e,wAv,ih,wAh];simp;omega
theorem zAu (l k:List Arc):arcRow (l++k)=arcRow l++arcRow k:=by simp[arcRow]
theorem zAr:∀ (l:List Arc) (i j:Nat),i<l.length→j<5→(arcRow l)[i*5+j]? = some (arcCell l i j)
 | [],i,j,h,_=>by simp at h
 | a::l,0,j,_,hj=>by
  have e:arcRow (a::l)=[.int .i64 a.f,.int .i64 a.t,.int .i64 a.i,.int .i64 a.o,.int .i64 a.w]++arcRow l:=rfl;rw[e];rcases (by omega:j=0∨j=1∨j=2∨j=3∨j=4) with rfl | rfl | rfl | rfl | rfl<;>rfl
 | a::l,i+1,j,h,hj=>by
  have e:arcRow (a::l)=[.int .i64 a.f,.int .i64 a.t,.int .i64 a.i,.int .i64 a.o,.int .i64 a.w]++arcRow l:=rfl;have ih:=zAr l i j (by simpa using h) hj;rw[e,wAl (by simp;omega)];have e2:(i+1)*5+j-[Value.int .i64 a.f,.int .i64 a.t,.int .i64 a.i,.int .i64 a.o,.int .i64 a.w].length=i*5+j:=by simp;omega
  rw[e2,ih];simp[arcCell]
theorem zAq (l:List Arc):∀ u∈arcRow l,u.oneCell'=true:=by
 intro u hu;obtain⟨x,_,hx⟩:=wAy.1 hu;simp at hx;rcases hx with rfl | rfl | rfl | rfl | rfl<;>rfl
def finRow (l:List Fnl):List Value:=l.flatMap fun a=>[.int .i64 a.s,.int .i64 a.w]
theorem zGO (l:List Fnl):(finRow l).length=l.length*2:=by
 induction l with
 | nil=>rfl
 | cons a l ih =>
  have e:finRow (a::l)=[.int .i64 a.s,.int .i64 a.w]++finRow l:=rfl;rw[e,wAv,ih,wAh];simp;omega
theorem zBO (l k:List Fnl):finRow (l++k)=finRow l++finRow k:=by simp[finRow]
theorem zCt:∀ (l:List Fnl) (i j:Nat),i<l.length→j<2→(finRow l)[i*2+j]? = some (finCell l i j)
 | [],i,j,h,_=>by simp at h
 | a::l,0,j,_,hj=>by
  have e:finRow (a::l)=[.int .i64 a.s,.int .i64 a.w]++finRow l:=rfl;rw[e];rcases (by omega:j=0∨j=1) with rfl | rfl<;>rfl
 | a::l,i+1,j,h,hj=>by
  have e:finRow (a::l)=[.int .i64 a.s,.int .i64 a.w]++finRow l:=rfl;have ih:=zCt l i j (by simpa using h) hj;rw[e,wAl (by simp;omega)];have e2:(i+1)*2+j-[Value.int .i64 a.s,.int .i64 a.w].length=i*2+j:=by simp;omega
  rw[e2,ih];simp[finCell]
theorem zA9 (l:List Fnl):∀ u∈finRow l,u.oneCell'=true:=by
 intro u hu;obtain⟨x,_,hx⟩:=wAy.1 hu;simp at hx;rcases hx with rfl | rfl<;>rfl
/-! append onto an owned row, the source whatever it is. -/
theorem zJS (b off j:Nat):(⟨b,off,none⟩:Addr).add j=⟨b,off+j,none⟩:=by
 unfold Addr.add;split<;>simp_all
section
variable {P:Program} (w:World)
theorem zFZ (base:Nat) (t ty e:TypeId) (i:TypeInfo) (size:Nat) (ht:P.underlying t=some (.slice e)) (hi:P.info? e=some i)
 (v:Value) (n:Nat) (xs:List Value) (hown:w.ownsRow base e size v n xs) (c:Nat):(Builtin.append_ #[t,t] ty #[v,.slice none 0 c]).run P w=.ok v w:=by
 rcases hown.2 with⟨rfl,rfl⟩ | ⟨g,cap,cur,rfl,_,_,hnc,_⟩
 · simp[Builtin.append_,run_underlying ht,Go.sizeOf,typeInfo,hi,Builtin.lenOf,Builtin.firstCells]
 · simp[Builtin.append_,run_underlying ht,Go.sizeOf,typeInfo,hi,Builtin.lenOf,Builtin.firstCells,hnc,storeCells]
theorem zF1 (base:Nat) (t ty e:TypeId) (i:TypeInfo) (z:Value) (size bytes:Nat) (ht:P.underlying t=some (.slice e)) (hi:P.info? e=some i) (hz:i.zero=some z)
 (hsize:i.size=size) (hby:i.bytes=bytes) (hzs:z.cells.size=size) (hsz:0<size)
 (v:Value) (n:Nat) (xs:List Value) (hown:w.ownsRow base e size v n xs)
 (B:Nat) (A:Option Addr) (m c:Nat) (news:List Value) (f:Nat→Nat→Value) (hr:Rd w B size A m f) (hA:A=none→m=0) (hl:news.length=m*size) (hnews:∀ i j,i<m→j<size→news[i*size+j]? = some (f i j)) (h1:∀ u∈news,u.oneCell'=true)
 (h63:n+m≤maxLen) (hbytes:(n+m)*bytes≤140737488355328) (hbase:base≤w.heap.size) :
 ∃ v' w',(Builtin.append_ #[t,t] ty #[v,.slice A m c]).run P w=.ok v' w'∧w'.ownsRow base e size v' (n+m) (xs++news)∧w.grownBy w' v.ownBlock ∧
  (v'.ownBlock=v.ownBlock∨v'.ownBlock=some w.heap.size):=by
 rcases A with _ | ad
 ·have hm:m=0:=hA rfl;subst hm;have hn:news=[]:=wAg (by simpa using hl);subst hn;exact⟨v,w,zFZ w base t ty e i size ht hi v n xs hown c,by simpa using hown,⟨rfl,rfl,rfl,wAc _,fun _ _ _=>rfl⟩,.inl rfl⟩
 ·have hcells:∀ j u,news[j]? = some u→w.cell? (ad.add j)=some u:=by
   intro j u hu;rcases wAw m with h0 | h0
   ·subst h0;have hn:news=[]:=wAg (by simpa using hl);subst hn;simp at hu
   ·obtain⟨b,off,h,_,hc⟩:=hr h0;(injection h with h);subst h
    have hjl:j<m*size:=by
     rw[← hl];rcases wAe j news.length with h | h
     · exact h
     · rw[List.getElem?_eq_none h] at hu;cases hu
    have hq:j/size<m:=(Nat.div_lt_iff_lt_mul hsz).2 hjl;have hm:j%size<size:=Nat.mod_lt _ hsz;(have e:j/size*size+j%size=j:=by rw[Nat.mul_comm];exact Nat.div_add_mod j size);have h2:=hnews (j/size) (j%size) hq hm;rw[e,hu] at h2;have h3:=hc (j/size) (j%size) hq hm;rw[e] at h3;rw[zJS,h3,← h2]
  obtain⟨v',w',hrun,h2,h3,_,h5⟩:=run_append_own_at (P:=P) w base t ty e i z size bytes ht hi hz hsize hby hzs hsz v n xs hown ad m c news hl hcells h1 h63 hbytes hbase;exact⟨v',w',hrun,h2,h3,h5⟩
theorem zAL {o:Oper} {a:Act} {K:Act→World→Prop} {Q:Exit→Act→World→Prop} (s x:Operand) (t:TypeId)
 (ho:o.op=.call { callee:=.builtin .append,args:=#[s,x],argTypes:=#[t,t] })
 (base:Nat) (e:TypeId) (i:TypeInfo) (z:Value) (size bytes:Nat) (ht:P.underlying t=some (.slice e)) (hi:P.info? e=some i) (hz:i.zero=some z)
 (hsize:i.size=size) (hby:i.bytes=bytes) (hzs:z.cells.size=size) (hsz:0<size)
 (v:Value) (n:Nat) (xs:List Value) (hs:a.eval s=v) (hown:w.ownsRow base e size v n xs)
 (B:Nat) (A:Option Addr) (m c:Nat) (news:List Value) (f:Nat→Nat→Value) (hx:a.eval x=.slice A m c) (hr:Rd w B size A m f) (hA:A=none→m=0) (hl:news.length=m*size) (hnews:∀ i j,i<m→j<size→news[i*size+j]? = some (f i j)) (h1:∀ u∈news,u.oneCell'=true)
 (h63:n+m≤maxLen) (hbytes:(n+m)*bytes≤140737488355328) (hbase:base≤w.heap.size)
 (h:∀ v' w',w'.ownsRow base e size v' (n+m) (xs++news)→w.grownBy w' v.ownBlock→(v'.ownBlock=v.ownBlock∨v'.ownBlock=some w.heap.size)→K (a.put o.dst v') w'):o.wp P a w K Q:=by
 obtain⟨v',w',hrun,h2,h3,h4⟩:=zF1 (P:=P) w base t o.type e i z size bytes ht hi hz hsize hby hzs hsz v n xs hown B A m c news f hr hA hl hnews h1 h63 hbytes hbase;unfold Oper.wp execOp;simp only[ho,resolve,invoke,builtin,Sem.run_bind,Sem.run_pure,Result.andThen_ok,List.map_toArray,List.map_cons,List.map_nil,hs,hx,hrun];exact h v' w' h2 h3 h4
theorem zAw {ops:Array Oper} {rest:List Oper} {o:Oper} {a:Act} {Q:Exit→Act→World→Prop} (hgd:o.guard=none) (s x:Operand) (t:TypeId)
 (ho:o.op=.call { callee:=.builtin .append,args:=#[s,x],argTypes:=#[t,t] })
 (base:Nat) (e:TypeId) (i:TypeInfo) (z:Value) (size bytes:Nat) (ht:P.underlying t=some (.slice e)) (hi:P.info? e=some i) (hz:i.zero=some z)
 (hsize:i.size=size) (hby:i.bytes=bytes) (hzs:z.cells.size=size) (hsz:0<size)
 (v:Value) (n:Nat) (xs:List Value) (hs:a.eval s=v) (hown:w.ownsRow base e size v n xs)
 (B:Nat) (A:Option Addr) (m c:Nat) (news:List Value) (f:Nat→Nat→Value) (hx:a.eval x=.slice A m c) (hr:Rd w B size A m f) (hA:A=none→m=0) (hl:news.length=m*size) (hnews:∀ i j,i<m→j<size→news[i*size+j]? = some (f i j)) (h1:∀ u∈news,u.oneCell'=true)
 (h63:n+m≤maxLen) (hbytes:(n+m)*bytes≤140737488355328) (hbase:base≤w.heap.size)
 (h:∀ v' w',w'.ownsRow base e size v' (n+m) (xs++news)→w.grownBy w' v.ownBlock→(v'.ownBlock=v.ownBlock∨v'.ownBlock=some w.heap.size)→wpList P ops Q rest (a.put o.dst v') w'):wpList P ops Q (o::rest) a w :=
 wpList_plain hgd fun _ hK=>zAL w s x t ho base e i z size bytes ht hi hz hsize hby hzs hsz v n xs hs hown B A m c news f hx hr hA hl hnews h1 h63 hbytes hbase fun v' w' h2 h3 h4=>hK _ _ (h v' w' h2 h3 h4)
end
/-! A slice of slices that the call makes. -/
structure OwnLL (w:World) (base:Nat) (eO eI sz G n:Nat) (vs:Nat→Value) (L:Nat→List Value) (m:Nat→Nat):Prop where
 row:w.rowIs G eO n vs
 low:G<base
 own:∀ i,i<n→w.ownsRow base eI sz (vs i) (m i) (L i)
 dis:∀ i j,i<n→j<n→i≠j→(vs i).ownBlock=none∨(vs i).ownBlock≠(vs j).ownBlock
section
variable {w w1:World} {base eO eI sz G n:Nat} {vs:Nat→Value} {L:Nat→List Value} {m:Nat→Nat}
theorem OwnLL.kept (h:OwnLL w base eO eI sz G n vs L m) {row:Option Nat} (hg:w.grownBy w1 row) (h1:row≠some G) (h2:∀ i,i<n→(vs i).ownBlock=none∨(vs i).ownBlock≠row):OwnLL w1 base eO eI sz G n vs L m :=
 ⟨h.row.of_block (hg.block G h.row.lt (fun e=>h1 e.symm)),h.low,fun i hi=>(h.own i hi).kept hg (h2 i hi),h.dis⟩
theorem OwnLL.alloc (h:OwnLL w base eO eI sz G n vs L m) (o:Obj):OwnLL (w.alloc o) base eO eI sz G n vs L m :=
 ⟨h.row.alloc o,h.low,fun i hi=>(h.own i hi).alloc o,h.dis⟩
theorem OwnLL.drew (h:OwnLL w base eO eI sz G n vs L m):OwnLL w.drew base eO eI sz G n vs L m :=
 ⟨h.row.drew,h.low,h.own,h.dis⟩
theorem OwnLL.drewN (h:OwnLL w base eO eI sz G n vs L m) (k:Nat):OwnLL (w.drewN k) base eO eI sz G n vs L m :=
 ⟨h.row,h.low,h.own,h.dis⟩
theorem OwnLL.below (h:OwnLL w base eO eI sz G n vs L m) (hb:Below w.heap.size w w1):OwnLL w1 base eO eI sz G n vs L m :=
 h.kept (row:=none) ⟨hb.os,hb.tape,hb.output,hb.size,fun k hk _=>hb.block k hk⟩ (by simp) (fun i _=>by cases (vs i).ownBlock<;>simp)
theorem OwnLL.push (h:OwnLL w base eO eI sz G n vs L m) {i:Nat} (hi:i<n) {v':Value} {m':Nat} {xs':List Value} (hg:w.grownBy w1 (vs i).ownBlock) (hown:w1.ownsRow base eI sz v' m' xs')
 (hat:v'.ownBlock=(vs i).ownBlock∨∃ H,v'.ownBlock=some H∧w.heap.size≤H) :
 OwnLL (w1.setCell ⟨G,i,none⟩ v') base eO eI sz G n (fun j=>if j=i then v' else vs j) (fun j=>if j=i then xs' else L j) (fun j=>if j=i then m' else m j):=by
 have hbig:∀ j,j<n→∀ k,(vs j).ownBlock=some k→base≤k∧k<w.heap.size:=fun j hj=>(h.own j hj).lt
 have hGi:(vs i).ownBlock≠some G:=fun e=>by have:=(hbig i hi G e).1;have:=h.low;omega
 have hrow1:w1.rowIs G eO n vs:=h.row.of_block (hg.block G h.row.lt (fun e=>hGi e.symm));have hownset:∀ (v:Value) (k:Nat) (xs:List Value),w1.ownsRow base eI sz v k xs→(w1.setCell ⟨G,i,none⟩ v').ownsRow base eI sz v k xs:=fun v k xs hh=>ownsRow_setCell_below hh (a:=⟨G,i,none⟩) h.low v'
 refine⟨hrow1.set i v',h.low,fun j hj=>?_,fun j k hj hk hjk=>?_⟩
 ·by_cases e:j=i
  · subst e;simp only[if_true];exact hownset _ _ _ hown
  ·simp only[if_neg e];refine hownset _ _ _ ((h.own j hj).kept hg ?_);exact h.dis j i hj hi e
 ·by_cases e:j=i
  ·subst e;simp only[if_true,if_neg (Ne.symm hjk)];rcases hat with hat | ⟨H,hat,hH⟩
   · rw[hat];exact h.dis j k hj hk hjk
   · right;rw[hat];intro he;have:=(hbig k hk H he.symm).2;omega
  ·by_cases e2:k=i
   ·subst e2;simp only[if_neg e,if_true];rcases hat with hat | ⟨H,hat,hH⟩
    · rw[hat];exact h.dis j k hj hk hjk
    · right;rw[hat];intro he;have:=(hbig j hj H he).2;omega
   · simp only[if_neg e,if_neg e2];exact h.dis j k hj hk hjk
end
theorem zAY {l:List Arc} {k:Nat} {a:Arc} (hk:k<l.length) (ha:l.getD k dA=a):l.take (k+1)=l.take k++[a]:=by
 have e:l.getD k dA=l[k]:=by simp[hk]
 rw[wAk hk,← e,ha]
theorem zBN {l:List Arc} {k:Nat} {a:Arc} (hk:k<l.length) (ha:l.getD k dA=a):a∈l:=by
 have e:l.getD k dA=l[k]:=by simp[hk]
 rw[← ha,e];exact wAz hk
end Gm
namespace Go.Proofs.Ytkfdhpbnphojoaa
open Go.RowKit Gm
theorem zAH:(Try.prog.info? 3).map (fun i=>(i.zero,i.size,i.bytes))=some (some (.int .i64 0),1,8):=by kernel_rfl
theorem zCi:(Try.prog.info? 26).map (fun i=>(i.zero,i.size,i.bytes))=some (some (.slice none 0 0),1,24):=by kernel_rfl
theorem zAN:(Try.prog.info? 4).map (fun i=>(i.zero,i.size,i.bytes))=some (some (.bool false),1,1):=by kernel_rfl
theorem zMQ (A:Option Addr) (n c:Nat) (l:List Int) (w:World) (B:Nat) (hl:l.length=n) (hn:n≤1000000) (h:Rd w B 1 A n (intCell l)) :
 Calls Try.prog 60 #[.slice A n c] w fun e w'=>∃ v,e=.returned v∧w'.ownsRow w.heap.size 3 1 v n (intRow l)∧Below w.heap.size w w':=by
 obtain⟨i0,hi0,hz0,hz1,hz2⟩:=info_parts zAH
 have hA:A=none→n=0:=by
  intro e;rcases wAw n with h0 | h0
  · exact h0
  ·obtain⟨b,off,h1,_⟩:=h h0;rw[e] at h1;cases h1
 have he:=fun W=>Lib.run_eql_slice_nil (P:=Try.prog) W 26 3 A n c 0 0 Try.underlying26
 rcases A with _ | ad
 ·have h0:=hA rfl;subst h0;obtain rfl:l=[]:=wAg hl
  go_enter Try.func60,Try.ntmps60
  go_wp2
  go_ret
  exact⟨_,rfl,World.ownsRow_nil _ _ _ _,Below.refl _ _⟩
 ·go_enter Try.func60,Try.ntmps60
  have h':Rd (w.alloc (Obj.cells #[] 3)) B 1 (some ad) n (intCell l):=by
   intro h0;obtain⟨b,off,h1,h2,h3⟩:=h h0;refine⟨b,off,h1,h2,fun i j hi hj=>?_⟩;have h4:=h3 i j hi hj;rw[World.cell?_alloc_lt _ _ _ (World.block_lt_of_cell? w _ h4)];exact h4
  go_wp2_with (at_builtin;refine zAw _ rfl (.tmp 5) (.tmp 6) _ rfl w.heap.size 3 i0 _ 1 8 Try.underlying26 hi0 hz0 hz1 hz2 rfl (by omega) (.slice (some ⟨w.heap.size,0,none⟩) 0 0) 0 [] rfl (World.ownsRow_made _ _ 0 (wAc _) (by simp[maxLen]) (by simp)) B (some ad) n c (intRow l) (intCell l) rfl h' (by simp) (by rw[zAh,hl];omega) (hl▸zAi l) (zAg l) (by simp only[maxLen];omega) (by omega) (by simp) ?_;intro v' w1 hown hg hat);have hbw:Below w.heap.size w w1:=((Below.refl w.heap.size w).alloc (wAc _) _).grown hg (by simp) (by simp[Value.ownBlock])
  go_ret
  refine⟨v',rfl,?_,hbw⟩;simpa using hown
end Go.Proofs.Ytkfdhpbnphojoaa
namespace Gm
def cntK (K:Nat→Bool):Nat→Nat
 | 0=>0
 | s+1=>cntK K s+(if K s=true then 1 else 0)
def numK (K:Nat→Bool) (s:Nat):Int:=if K s=true then (cntK K s:Int) else -1
theorem zCB (K:Nat→Bool):∀ s,cntK K s≤s
 | 0=>wAc _
 | s+1=>by
  have:=zCB K s
  simp only[cntK];split<;>omega
theorem zBR {K K':Nat→Bool} : ∀ s,(∀ i,i<s→K i=K' i)→cntK K s=cntK K' s
 | 0,_=>rfl
 | s+1,h=>by
  simp only[cntK];rw[zBR s (fun i hi=>h i (by omega)),h s (by omega)]
def partArc (K:Nat→Bool) (a:Arc):Arc:=⟨(cntK K a.f.toNat:Int),(cntK K a.t.toNat:Int),a.i,a.o,a.w⟩
def partFin (K:Nat→Bool) (x:Fnl):Fnl:=⟨(cntK K x.s.toNat:Int),x.w⟩
def partArcs (K:Nat→Bool) (l:List Arc):List Arc:=(l.filter fun a=>K a.f.toNat&&K a.t.toNat).map (partArc K)
def partFins (K:Nat→Bool) (l:List Fnl):List Fnl:=(l.filter fun x=>K x.s.toNat).map (partFin K)
def emptyM:Mach:=⟨0,[],[]⟩
def partM (m:Mach) (K:Nat→Bool):Mach:=⟨(cntK K m.n.toNat:Int),partArcs K m.arcs,partFins K m.fins⟩
/-! A valid machine's numbers. -/
structure Valid (m:Mach):Prop where
 n0:0≤m.n
 n4:m.n≤400
 len:m.arcs.length≤2000
 arc:∀ k,k<m.arcs.length→arcFault m.n m.arcs k=none
 fin:∀ k,k<m.fins.length→finFault m.n m.arcs.length m.fins k=none
theorem zAX {m:Mach} (h:validate m=(0,0)):Valid m:=by
 unfold validate at h;by_cases h0:inR m.n 0 400=true
 ·rw[if_pos h0] at h;by_cases h2:2000<m.arcs.length
  · rw[if_pos h2] at h;cases h
  ·rw[if_neg h2] at h
   have code:∀ S l k x,arcFault S l k=some x→x.1≠0:=by
    intro S l k x hx;unfold arcFault at hx;split at hx
    ·split at hx
     · cases hx;simp
     · cases hx
    · cases hx;simp
   have code2:∀ S na l k x,finFault S na l k=some x→x.1≠0:=by
    intro S na l k x hx;unfold finFault at hx;split at hx
    ·split at hx
     · cases hx;simp
     · cases hx
    · cases hx;simp
   have some_of:∀ {α:Type} (g:Nat→Option α) (d k:Nat) (x:α),ff g k d=some x→∃ i,g i=some x:=by
    intro α g d
    induction d with
    | zero=>intro k x h;cases h
    | succ d ih =>
     intro k x h;simp only[ff] at h
     cases hg:g k with
     | some y=>rw[hg] at h;exact⟨k,by rw[hg];exact h⟩
     | none=>rw[hg] at h;exact ih _ _ h
   have hr:=inR_iff.1 h0;unfold vA at h;simp only[Nat.sub_zero] at h
   cases hA:ff (arcFault m.n m.arcs) 0 m.arcs.length with
   | some x =>
    rw[hA] at h;obtain⟨i,hi⟩:=some_of _ _ _ _ hA
    have:=code _ _ _ _ hi
    have h':x=(0,0):=h;rw[h'] at this;exact absurd rfl this
   | none =>
    rw[hA] at h
    cases hF:ff (finFault m.n m.arcs.length m.fins) 0 m.fins.length with
    | some x =>
     rw[hF] at h;obtain⟨i,hi⟩:=some_of _ _ _ _ hF
     have:=code2 _ _ _ _ _ hi
     have h':x=(0,0):=h;rw[h'] at this;exact absurd rfl this
    | none =>
     exact⟨hr.1,hr.2,by omega,fun k hk=>(zCp _ _).1 hA k (by omega) (by omega),fun k hk=>(zCp _ _).1 hF k (by omega) (by omega)⟩
 · rw[if_neg h0] at h;cases h
theorem zI4 {m:Mach} (h:Valid m):validate m=(0,0):=by
 unfold validate;rw[if_pos (inR_iff.2 ⟨h.n0,h.n4⟩),if_neg (by have:=h.len;omega)];unfold vA;have e1:ff (arcFault m.n m.arcs) 0 (m.arcs.length-0)=none:=(zCp _ _).2 fun i _ hi=>h.arc i (by omega)
 have e2:ff (finFault m.n m.arcs.length m.fins) 0 (m.fins.length-0)=none:=(zCp _ _).2 fun i _ hi=>h.fin i (by omega)
 rw[e1,e2];rfl
theorem zDK {S:Int} {l:List Arc} {k:Nat} (h:arcFault S l k=none):okArc S (l.getD k dA)=true∧(0<k→¬ 0≤arcCmp (l.getD (k-1) dA) (l.getD k dA)):=by
 unfold arcFault at h;split at h
 ·rename_i h1
  split at h
  · cases h
  · rename_i h2;exact⟨h1,fun hk hc=>h2 ⟨hk,hc⟩⟩
 · cases h
theorem zBt {S:Int} {na:Nat} {l:List Fnl} {k:Nat} (h:finFault S na l k=none):okFin S (l.getD k dF)=true∧(0<k→(l.getD (k-1) dF).s<(l.getD k dF).s):=by
 unfold finFault at h;split at h
 ·rename_i h1
  split at h
  · cases h
  · rename_i h2;exact⟨h1,fun hk=>by
   rcases Int.lt_or_le (l.getD (k-1) dF).s (l.getD k dF).s with h3 | h3
   · exact h3
   · exact absurd ⟨hk,h3⟩ h2⟩
 · cases h
theorem Valid.okA {m:Mach} (h:Valid m) {a:Arc} (ha:a∈m.arcs):okArc m.n a=true:=by
 obtain⟨k,hk,e⟩:=wAs.1 ha
 have:=(zDK (h.arc k hk)).1
 simp only[wAm,wAo hk,wAA,e] at this;exact this
theorem Valid.okF {m:Mach} (h:Valid m) {a:Fnl} (ha:a∈m.fins):okFin m.n a=true:=by
 obtain⟨k,hk,e⟩:=wAs.1 ha
 have:=(zBt (h.fin k hk)).1
 simp only[wAm,wAo hk,wAA,e] at this;exact this
theorem Valid.inRange {m:Mach} (h:Valid m):inRange m.arcs m.n.toNat:=fun a ha=>by
 have:=zDN (h.okA ha)
 have:=h.n0
 omega
theorem Valid.finRange {m:Mach} (h:Valid m):∀ x∈m.fins,0≤x.s∧x.s<(m.n.toNat:Int):=fun a ha=>by
 have:=zCk (h.okF ha)
 have:=h.n0
 omega
theorem Valid.finLen {m:Mach} (h:Valid m):m.fins.length≤400:=by
 have key:∀ k,k<m.fins.length→(k:Int)≤(m.fins.getD k dF).s:=by
  intro k
  induction k with
  | zero=>intro hk;have:=zCk (zBt (h.fin 0 hk)).1;omega
  | succ k ih =>
   intro hk;have h1:=ih (by omega);have h2:=(zBt (h.fin (k+1) hk)).2 (by omega);rw[show k+1-1=k by omega] at h2;omega
 rcases wAe 400 m.fins.length with hlt | hge
 ·have h1:=key 400 hlt;have h2:=zCk (zBt (h.fin 400 hlt)).1;have h3:=h.n4;omega
 · exact hge
def finStates (l:List Fnl):List Int:=l.map (·.s)
theorem zGm {l:List Fnl} {k:Nat} {a:Fnl} (hk:k<l.length) (ha:l.getD k dF=a):l.take (k+1)=l.take k++[a]:=by
 have e:l.getD k dF=l[k]:=by simp[hk]
 rw[wAk hk,← e,ha]
theorem zCf {l:List Fnl} {k:Nat} {a:Fnl} (hk:k<l.length) (ha:l.getD k dF=a):a∈l:=by
 have e:l.getD k dF=l[k]:=by simp[hk]
 rw[← ha,e];exact wAz hk
open Classical in
noncomputable def keepK (m:Mach) (s:Nat):Bool:=decide (RS false m.arcs [0] (s:Int)∧RS true m.arcs (finStates m.fins) (s:Int))
theorem keepK_iff {m:Mach} {s:Nat} : keepK m s=true↔RS false m.arcs [0] (s:Int)∧RS true m.arcs (finStates m.fins) (s:Int):=by simp[keepK]
noncomputable def trimOf (m:Mach):Mach:=if m.n=0∨keepK m 0=false then emptyM else partM m (keepK m)
open Go Go.RowKit
def MachNew (lo:Nat) (w:World) (v:Value) (m:Mach):Prop :=
 ∀ W:World,w.heap.size≤W.heap.size→(∀ b,lo≤b→b<w.heap.size→W.heap[b]? = w.heap[b]?)→MachAt W W.heap.size v m
theorem MachNew.at_ {lo:Nat} {w:World} {v:Value} {m:Mach} (h:MachNew lo w v m):MachAt w w.heap.size v m:=h w (wAc _) (fun _ _ _=>rfl)
theorem MachNew.empty (lo:Nat) (w:World):MachNew lo w (.agg #[.int .i64 0,.slice none 0 0,.slice none 0 0]) ⟨0,[],[]⟩:=fun _ _ _=>MachAt.empty _ _
theorem MachNew.mono {lo lo':Nat} {w:World} {v:Value} {m:Mach} (h:MachNew lo w v m) (hl:lo'≤lo):MachNew lo' w v m:=fun W hs hag=>h W hs (fun b hb=>hag b (by omega))
theorem MachNew.set {lo:Nat} {w:World} {v:Value} {m:Mach} (h:MachNew lo w v m) {p:Addr} (hp:p.block<lo) (u:Value):MachNew lo (w.setCell p u) v m:=fun W hs hag =>
 h W (by simpa using hs) (fun b hb hlt=>(hag b hb (by simpa using hlt)).trans (Below.heap_setCell w p u b (by omega)))
theorem MachNew.alloc {lo:Nat} {w:World} {v:Value} {m:Mach} (h:MachNew lo w v m) (o:Obj):MachNew lo (w.alloc o) v m:=fun W hs hag =>
 h W (by simp at hs;omega) (fun b hb hlt=>(hag b hb (by simp;omega)).trans (Below.heap_alloc w o b hlt))
theorem MachNew.drew {lo:Nat} {w:World} {v:Value} {m:Mach} (h:MachNew lo w v m):MachNew lo w.drew v m:=h
theorem MachNew.below {lo B:Nat} {w w':World} {v:Value} {m:Mach} (h:MachNew lo w v m) (hb:Below B w w') (hB:w.heap.size≤B):MachNew lo w' v m:=fun W hs hag =>
 h W (by have:=hb.size;omega) (fun b hb' hlt=>(hag b hb' (by have:=hb.size;omega)).trans (hb.block b (by omega)))
theorem zFh {w W:World} {base sz n:Nat} {e:TypeId} {v:Value} {xs:List Value} (h:w.ownsRow base e sz v n xs) (_:w.heap.size≤W.heap.size) (hag:∀ b,base≤b→b<w.heap.size→W.heap[b]? = w.heap[b]?):W.ownsRow base e sz v n xs:=by
 obtain⟨h1,h2⟩:=h;refine⟨h1,?_⟩;rcases h2 with h2 | ⟨g,cap,cur,hv,hg,hh,r⟩
 · exact .inl h2
 ·right;refine⟨g,cap,cur,hv,hg,?_,r⟩
  rw[hag g hg (by
   rcases wAe g w.heap.size with hlt | hge
   · exact hlt
   · rw[wAq hge] at hh;cases hh)]
  exact hh
theorem MachNew.of_own {w:World} {base b2 lo:Nat} {eA eF:TypeId} {A AF:Option Addr} {ca cf:Nat} {m:Mach} (hA:w.ownsRow base eA 5 (.slice A m.arcs.length ca) m.arcs.length (arcRow m.arcs)) (hF:w.ownsRow b2 eF 2 (.slice AF m.fins.length cf) m.fins.length (finRow m.fins))
 (h1:lo≤base) (h2:lo≤b2) (hac:m.arcs.length≤ca) (hfc:m.fins.length≤cf) (ha:m.arcs.length≤big) (hf:m.fins.length≤big):MachNew lo w (.agg #[.int .i64 m.n,.slice A m.arcs.length ca,.slice AF m.fins.length cf]) m:=fun _ hs hag =>
 ⟨A,AF,_,ca,_,cf,rfl,zh rfl,zh rfl,hac,hfc,ha,hf,Rd.of_own (zFh hA hs (fun b hb=>hag b (by omega))) (zAr _),Rd.of_own (zFh hF hs (fun b hb=>hag b (by omega))) (zCt _)⟩
def closedR (back:Bool) (l:List Arc) (T:Nat→Bool):Prop:=∀ a∈l,T (akey back a).toNat=true→T (aval back a).toNat=true
structure RInv (back:Bool) (l:List Arc) (I:List Int) (S r:Nat) (T:Nat→Bool):Prop where
 sound:∀ s,s<S→T s=true→RS back l I (s:Int)
 base:∀ x∈I,T x.toNat=true
 prog:closedR back l T∨r+1≤cntK T S
structure NInv (back:Bool) (l:List Arc) (I:List Int) (S:Nat) (T0:Nat→Bool) (q:Nat) (T:Nat→Bool):Prop where
 sound:∀ s,s<S→T s=true→RS back l I (s:Int)
 mono:∀ s,T0 s=true→T s=true
 did:∀ a∈l.take q,T0 (akey back a).toNat=true→T (aval back a).toNat=true
 same:closedR back l T0→∀ s,T s=T0 s
theorem zIK {T T':Nat→Bool} (h:∀ s,T s=true→T' s=true):∀ S,cntK T S≤cntK T' S
 | 0=>wAc _
 | S+1=>by
  have:=zIK h S
  simp only[cntK];by_cases e:T S=true
  · rw[if_pos e,if_pos (h S e)];omega
  · rw[if_neg e];omega
theorem zIT {T T':Nat→Bool} (h:∀ s,T s=true→T' s=true) {x:Nat} (h1:T x=false) (h2:T' x=true):∀ S,x<S→cntK T S+1≤cntK T' S
 | 0,hx=>by omega
 | S+1,hx=>by
  have hm:=zIK h S;simp only[cntK];by_cases e:x=S
  · subst e;rw[if_pos h2,h1];simp;omega
  ·have:=zIT h h1 h2 S (by omega)
   by_cases e:T S=true
   · rw[if_pos e,if_pos (h S e)];omega
   · rw[if_neg e];omega
theorem NInv.start {back:Bool} {l:List Arc} {I:List Int} {S r:Nat} {T:Nat→Bool} (h:RInv back l I S r T):NInv back l I S T 0 T :=
 ⟨h.sound,fun _ h=>h,fun _ h=>by simp at h,fun _ _=>rfl⟩
theorem NInv.step {back:Bool} {l:List Arc} {I:List Int} {S q:Nat} {T0 T:Nat→Bool} {a:Arc} (hl:inRange l S) (h:NInv back l I S T0 q T) (ht:l.take (q+1)=l.take q++[a]) (ha:a∈l)
 (hk:T (akey back a).toNat=true):NInv back l I S T0 (q+1) (upd T (aval back a).toNat):=by
 have hka:=zJ7 (back:=back) hl ha;have hva:=zCF (back:=back) hl ha
 have hsk:RS back l I (akey back a):=by
  have:=h.sound (akey back a).toNat (by omega) hk
  rwa [show (((akey back a).toNat:Nat):Int)=akey back a by omega] at this
 refine⟨fun s hs hse=>?_,fun s hs=>zE8 (h.mono s hs),fun b hb hbk=>?_,fun hc s=>?_⟩
 ·unfold upd at hse;split at hse
  ·rename_i e
   rw[e,show (((aval back a).toNat:Nat):Int)=aval back a by omega];exact .step hsk ha rfl rfl
  · exact h.sound s hs hse
 ·rw[ht] at hb;rcases wAB.1 hb with hb | hb
  · exact zE8 (h.did b hb hbk)
  · rw[wAx.1 hb];exact zBI _ _
 ·unfold upd;split
  ·rename_i e
   rw[e];rw[h.same hc] at hk;exact (hc a ha hk).symm
  · exact h.same hc s
theorem NInv.skip {back:Bool} {l:List Arc} {I:List Int} {S q:Nat} {T0 T:Nat→Bool} {a:Arc} (h:NInv back l I S T0 q T) (ht:l.take (q+1)=l.take q++[a])
 (hk:T (akey back a).toNat=false):NInv back l I S T0 (q+1) T:=by
 refine⟨h.sound,h.mono,fun b hb hbk=>?_,h.same⟩;rw[ht] at hb;rcases wAB.1 hb with hb | hb
 · exact h.did b hb hbk
 ·rw[wAx.1 hb] at hbk;rw[h.mono _ hbk] at hk;cases hk
theorem RInv.next {back:Bool} {l:List Arc} {I:List Int} {S r q:Nat} {T0 T:Nat→Bool} (hl:inRange l S) (h:RInv back l I S r T0) (hn:NInv back l I S T0 q T) (hq:l.take q=l):RInv back l I S (r+1) T:=by
 refine⟨hn.sound,fun x hx=>hn.mono _ (h.base x hx),?_⟩;by_cases hc:closedR back l T0
 ·left;intro a ha hk;rw[hn.same hc] at hk ⊢;exact hc a ha hk
 ·right;have hp:=h.prog.resolve_left hc
  have:∃ a,a∈l∧T0 (akey back a).toNat=true∧T0 (aval back a).toNat=false:=by
   apply Classical.byContradiction;intro hne;(refine hc fun a ha hk=>?_);cases e:T0 (aval back a).toNat
   · exact absurd ⟨a,ha,hk,e⟩ hne
   · rfl
  obtain⟨a,ha,h1,h2⟩:=this;have hva:=zCF (back:=back) hl ha
  have:=zIT hn.mono h2 (hn.did a (by rw[hq];exact ha) h1) S (by omega)
  omega
theorem RInv.done {back:Bool} {l:List Arc} {I:List Int} {S:Nat} {T:Nat→Bool} (hl:inRange l S) (hI:∀ x∈I,0≤x∧x<(S:Int)) (h:RInv back l I S S T):∀ s,s<S→(T s=true↔RS back l I (s:Int)):=by
 have hc:closedR back l T:=h.prog.resolve_right (by have:=zCB T S;omega)
 have key:∀ t,RS back l I t→0≤t∧t<(S:Int)∧T t.toNat=true:=by
  intro t ht
  induction ht with
  | base hs=>exact⟨(hI _ hs).1,(hI _ hs).2,h.base _ hs⟩
  | @step s t a hs ha hk hv ih =>
   have hr:=zCF (back:=back) hl ha
   have:=hc a ha (by rw[hk];exact ih.2.2)
   rw[hv] at hr this;exact⟨hr.1,hr.2,this⟩
 intro s hs;refine⟨h.sound s hs,fun hr=>?_⟩
 have:=(key _ hr).2.2
 simpa using this
theorem RInv.start {back:Bool} {l:List Arc} {I:List Int} {S:Nat} {T:Nat→Bool} (hl:inRange l S) (h:∀ s,s<S→(T s=true↔(s:Int)∈I)) (hI:∀ x∈I,0≤x∧x<(S:Int)):RInv back l I S 0 T:=by
 refine⟨fun s hs ht=>.base ((h s hs).1 ht),fun x hx=>?_,?_⟩
 ·have:=hI x hx
  exact (h x.toNat (by omega)).2 (by rw[show ((x.toNat:Nat):Int)=x by omega];exact hx)
 ·rcases wAe 0 (cntK T S) with h0 | h0
  · exact .inr h0
  ·left;intro a ha hk;have hka:=zJ7 (back:=back) hl ha
   have:=zIT (T:=fun _=>false) (T':=T) (fun s h=>by cases h) (x:=(akey back a).toNat) rfl hk S (by omega)
   omega
open Go Go.RowKit
def Nums (w:World) (B:Nat) (v:Value) (l:List Int):Prop :=
 ∃ A n c,v=.slice A n c∧Hid (l.length=n)∧n≤c∧n≤big∧Rd w B 1 A n (intCell l)
theorem Nums.below {w w':World} {B B':Nat} {v:Value} {l:List Int} (h:Nums w B v l) (hb:Below B' w w') (hB:B≤B'):Nums w' B v l:=by
 obtain⟨A,n,c,h1,h2,h3,h4,h5⟩:=h;exact⟨A,n,c,h1,h2,h3,h4,h5.below hb hB⟩
theorem Nums.mono {w:World} {B B':Nat} {v:Value} {l:List Int} (h:Nums w B v l) (hB:B≤B'):Nums w B' v l:=by
 obtain⟨A,n,c,h1,h2,h3,h4,h5⟩:=h;exact⟨A,n,c,h1,h2,h3,h4,h5.mono hB⟩
theorem zAO {w:World} {B n:Nat} {A:Option Addr} {l:List Int} (h:Rd w B 1 A n (intCell l)) {k:Nat} (hk:k<n) :
 ∃ b off x,A=some ⟨b,off,none⟩∧b<B∧w.cell? ⟨b,off+k,none⟩=some (.int .i64 x)∧Hid (l.getD k 0=x):=by
 obtain⟨b,off,h1,h2,h3⟩:=h.at1 hk;exact⟨b,off,l.getD k 0,h1,h2,h3,zh rfl⟩
def okL (x:Int):Prop:=1≤x∧x≤1114111
instance (x:Int):Decidable (okL x):=inferInstanceAs (Decidable (1≤x∧x≤1114111))
theorem zDD {l:List Int} {k:Nat} {x:Int} (hk:k<l.length) (hx:l.getD k 0=x):l.take (k+1)=l.take k++[x]:=by
 subst hx;rw[List.take_add_one];congr 1;simp[List.getD,hk]
end Gm
namespace Go.Proofs.Ytkfdhpbnphojoaa
open Go.RowKit Gm
theorem zR9 (a b:Int) (w:World) :
 Calls Try.prog 91 #[.int .i64 a,.int .i64 b] w fun e w'=>e=.returned (.agg #[.int .i64 a,.int .i64 b])∧Below w.heap.size w w':=by
 go_enter Try.func91,Try.ntmps91
 go_wp2;exact bodyPost_ret (v:=.agg #[.int .i64 a,.int .i64 b]) (by simp[results,Try.results91,go_sem]) rfl ⟨rfl,(Below.refl _ _).alloc (wAc _) _⟩
end Go.Proofs.Ytkfdhpbnphojoaa
