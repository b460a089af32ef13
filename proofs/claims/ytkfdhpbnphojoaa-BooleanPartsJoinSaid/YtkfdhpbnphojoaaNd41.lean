/- Part of the proof. -/
import Derived.Test.YtkfdhpbnphojoaaNd40
set_option linter.unusedSimpArgs false
set_option linter.unusedVariables false
open List renaming mem_append→wAa,mem_map→wAb
open Bool renaming or_eq_true→wAc,and_eq_true→wAd
namespace Gm
open Go.Proofs.Ytkfdhpbnphojoaa
theorem zTj {A B:List Arc} {k s t:Int} {w:List Int} (h:Pth A s w t) (hB:∀ a∈A,shA k a∈B):Pth B (s+k) w (t+k):=by
 induction h with
 | nil=>exact .nil
 | @eps a w t ha hi _ ih=>exact Pth.eps (a:=shA k a) (hB a ha) hi ih
 | @lab a w t ha hi _ ih=>exact Pth.lab (a:=shA k a) (hB a ha) hi ih
theorem zTs {A B:List Arc} {k:Int} {w:List Int} (I:Int→Prop) (hI:∀ a∈A,I a.t) (hB:∀ b∈B,∀ x,I x→b.f=x+k→∃ a∈A,b=shA k a) {s' t:Int} (h:Pth B s' w t):∀ s,s'=s+k→I s→∃ t',t=t'+k∧I t'∧Pth A s w t':=by
 induction h with
 | nil=>intro s e hs;exact⟨s,e,hs,.nil⟩
 | @eps b w t hb hi _ ih =>
  intro s e hs;obtain⟨a,ha,rfl⟩:=hB b hb s hs e;obtain⟨t',h1,h2,h3⟩:=ih a.t rfl (hI a ha);have e2:a.f=s:=by simp only[shA] at e;omega
  exact⟨t',h1,h2,e2▸Pth.eps ha hi h3⟩
 | @lab b w t hb hi _ ih =>
  intro s e hs;obtain⟨a,ha,rfl⟩:=hB b hb s hs e;obtain⟨t',h1,h2,h3⟩:=ih a.t rfl (hI a ha);have e2:a.f=s:=by simp only[shA] at e;omega
  exact⟨t',h1,h2,e2▸Pth.lab ha hi h3⟩
theorem zTA {A:List Arc} {s t:Int} {w:List Int} (h:Pth A s w t):(w=[]∧t=s)∨∃ c∈A,c.f=s∧((c.i=0∧Pth A c.t w t)∨(c.i≠0∧∃ w',w=c.i::w'∧Pth A c.t w' t)):=by
 cases h with
 | nil=>exact .inl ⟨rfl,rfl⟩
 | @eps a _ _ ha hi hp=>exact .inr ⟨a,ha,rfl,.inl ⟨hi,hp⟩⟩
 | @lab a w' _ ha hi hp=>exact .inr ⟨a,ha,rfl,.inr ⟨hi,w',rfl,hp⟩⟩
theorem zTC {a b:Mach} {A:List Arc} (ha:Rng a) (hb:Rng b) (hA:∀ x,x∈A↔x∈uniArcs a b) (w:List Int):accA A (uniFins a b) 0 w↔accA a.arcs a.fins 0 w∨accA b.arcs b.fins 0 w:=by
 have an:=ha.n0;have bn:=hb.n0
 have stayA:∀ {t:Int} {w:List Int},0<a.n→Pth A 1 w t→∃ t',t=t'+1∧(0≤t'∧t'<a.n)∧Pth a.arcs 0 w t':=fun h0 hp =>
  zTs (k:=1) (fun x=>0≤x∧x<a.n) (fun x hx=>by have:=ha.arc x hx;omega) (fun x hx y hy hf=>by
   rcases mem_uni.1 ((hA x).1 hx) with⟨h,rfl⟩ | ⟨h,rfl⟩ | ⟨z,hz,rfl⟩ | ⟨z,hz,rfl⟩
   · simp only[eps] at hf;omega
   · simp only[eps] at hf;omega
   · exact⟨z,hz,rfl⟩
   · have:=hb.arc z hz;simp only[shA] at hf;omega) hp 0 (by omega) (by omega)
 have stayB:∀ {t:Int} {w:List Int},0<b.n→Pth A (1+a.n) w t→∃ t',t=t'+(1+a.n)∧(0≤t'∧t'<b.n)∧Pth b.arcs 0 w t':=fun h0 hp =>
  zTs (k:=1+a.n) (fun x=>0≤x∧x<b.n) (fun x hx=>by have:=hb.arc x hx;omega) (fun x hx y hy hf=>by
   rcases mem_uni.1 ((hA x).1 hx) with⟨h,rfl⟩ | ⟨h,rfl⟩ | ⟨z,hz,rfl⟩ | ⟨z,hz,rfl⟩
   · simp only[eps] at hf;omega
   · simp only[eps] at hf;omega
   · have:=ha.arc z hz;simp only[shA] at hf;omega
   · exact⟨z,hz,rfl⟩) hp 0 (by omega) (by omega)
 constructor
 ·rintro⟨t,hp,x,hx,rfl⟩
  have hx1:1≤x.s:=by
   rcases wAa.1 hx with hx | hx<;>obtain⟨y,hy,rfl⟩:=wAb.1 hx
   · have:=ha.fin y hy;simp only[shF];omega
   · have:=hb.fin y hy;simp only[shF];omega
  rcases zTA hp with⟨_,e⟩ | ⟨c,hc,hf,hq⟩
  · omega
  ·rcases mem_uni.1 ((hA c).1 hc) with⟨h,rfl⟩ | ⟨h,rfl⟩ | ⟨z,hz,rfl⟩ | ⟨z,hz,rfl⟩
   ·left;rcases hq with⟨_,hq⟩ | ⟨hi,_⟩
    ·obtain⟨t',ht,hr,hw⟩:=stayA h hq;rcases wAa.1 hx with hx | hx<;>obtain⟨y,hy,rfl⟩:=wAb.1 hx
     · exact⟨t',hw,y,hy,by simp only[shF] at ht;omega⟩
     · have:=hb.fin y hy;simp only[shF] at ht;omega
    · exact absurd rfl hi
   ·right;rcases hq with⟨_,hq⟩ | ⟨hi,_⟩
    ·obtain⟨t',ht,hr,hw⟩:=stayB h hq;rcases wAa.1 hx with hx | hx<;>obtain⟨y,hy,rfl⟩:=wAb.1 hx
     · have:=ha.fin y hy;simp only[shF] at ht;omega
     · exact⟨t',hw,y,hy,by simp only[shF] at ht;omega⟩
    · exact absurd rfl hi
   · have:=ha.arc z hz;simp only[shA] at hf;omega
   · have:=hb.arc z hz;simp only[shA] at hf;omega
 ·rintro (⟨t,hp,x,hx,rfl⟩ | ⟨t,hp,x,hx,rfl⟩)
  ·have hn:=ha.fin x hx;have h1:=zTj (k:=1) (B:=A) hp (fun y hy=>(hA _).2 (mem_uni.2 (.inr (.inr (.inl ⟨y,hy,rfl⟩)))));have h2:=Pth.eps (a:=eps 0 1 0) ((hA _).2 (mem_uni.2 (.inl ⟨by omega,rfl⟩))) rfl h1;exact⟨_,h2,shF 1 x,wAa.2 (.inl (wAb.2 ⟨x,hx,rfl⟩)),rfl⟩
  ·have hn:=hb.fin x hx;have h1:=zTj (k:=1+a.n) (B:=A) hp (fun y hy=>(hA _).2 (mem_uni.2 (.inr (.inr (.inr ⟨y,hy,rfl⟩)))));rw[show (0:Int)+(1+a.n)=1+a.n by omega] at h1;have h2:=Pth.eps (a:=eps 0 (1+a.n) 0) ((hA _).2 (mem_uni.2 (.inr (.inl ⟨by omega,rfl⟩)))) rfl h1;exact⟨_,h2,shF (1+a.n) x,wAa.2 (.inr (wAb.2 ⟨x,hx,rfl⟩)),rfl⟩
theorem zTp {a b:Mach} (ha:validate a=(0,0)) (hb:validate b=(0,0)) (hz:uniF a b=(0,0)) (w:List Int):bA (uniR a b) w=(bA a w||bA b w):=by
 have h2:twoF a b=(0,0):=by unfold twoF;rw[if_pos ha,hb]
 have e:uniR a b=⟨1+a.n+b.n,srtA (uniArcs a b),uniFins a b⟩:=by
  unfold uniF at hz;rw[if_pos h2] at hz;unfold uniR;rw[if_pos h2];unfold finM;unfold finF at hz;rw[if_neg];intro h;rw[if_pos h] at hz;cases hz
 have key:=zTC (A:=srtA (uniArcs a b)) (zBh (zAX ha)) (zBh (zAX hb)) (fun x=>(zAR _).mem_iff) w;rw[Bool.eq_iff_iff,wAc,bA_iff,bA_iff,bA_iff,e];exact key
theorem zTH {a b:Mach} {l:List Int} {i p q cu ci x:Mach×(Int×Int)} (hl:∀ x,x∈labsR a.arcs∨x∈labsR b.arcs→x∈l) (hu:uniF a b=(0,0))
 (hi:IntR a b (fun p q=>p&&q) i) (hiz:i.2=(0,0)) (hp:CmpR a l p) (hpz:p.2=(0,0)) (hq:CmpR b l q) (hqz:q.2=(0,0))
 (hcu:CmpR (uniR a b) l cu) (hcuz:cu.2=(0,0)) (hci:CmpR i.1 l ci) (hciz:ci.2=(0,0)) (hx:IntR p.1 q.1 (fun p q=>p&&q) x) (hxz:x.2=(0,0)) (hy:uniF p.1 q.1=(0,0)) (hm:(minW (uniR p.1 q.1)).2=(0,0)) :
 cu.1=x.1∧ci.1=(minW (uniR p.1 q.1)).1:=by
 obtain⟨ha0,_,_,_,rp⟩:=zPY hp hpz;obtain⟨hb0,_,_,_,rq⟩:=zPY hq hqz;obtain⟨_,ri⟩:=zKC hi hiz (fun q=>rfl);obtain⟨_,_,_,_,rcu⟩:=zPY hcu hcuz;obtain⟨_,_,_,_,rci⟩:=zPY hci hciz;obtain⟨_,rx⟩:=zKC hx hxz (fun q=>rfl);have ry:=zKA hm;have wu:=zTp (zAU ha0) (zAU hb0) hu;have wy:=zTp (zAU (zPK rp).1) (zAU (zPK rq).1) hy;have hpw:=rp.acc;have hqw:=rq.acc;have hiw:=ri.acc;constructor
 ·refine rcu.uniq rx fun w=>?_
  show ((∀ x∈w,x∈l)∧bA (uniR a b) w=false)↔(bA p.1 w&&bA q.1 w)=true
  rw[wu,wAd,hpw,hqw,Bool.or_eq_false_iff];exact⟨fun h=>⟨⟨h.1,h.2.1⟩,h.1,h.2.2⟩,fun h=>⟨h.1.1,h.1.2,h.2.2⟩⟩
 ·refine rci.uniq ry fun w=>?_
  show ((∀ x∈w,x∈l)∧bA i.1 w=false)↔bA (uniR p.1 q.1) w=true
  rw[wy,wAc,hpw,hqw];have h1:=hiw w;constructor
  ·rintro⟨h2,h3⟩;by_cases g:bA a w=true
   ·by_cases g2:bA b w=true
    ·have h4:=h1.2 (show (bA a w&&bA b w)=true by rw[g,g2];rfl);rw[h3] at h4;cases h4
    · exact .inr ⟨h2,by simpa using g2⟩
   · exact .inl ⟨h2,by simpa using g⟩
  ·intro h;(have h2:∀ x∈w,x∈l:=by rcases h with h | h<;>exact h.1);refine⟨h2,?_⟩;by_cases g:bA i.1 w=true
   ·have h4:(bA a w&&bA b w)=true:=h1.1 g;rw[wAd] at h4;rcases h with h | h
    · rw[h4.1] at h;cases h.2
    · rw[h4.2] at h;cases h.2
   · simpa using g
theorem zTy {a b:Mach} {i d:Mach×(Int×Int)} (hi:IntR a b (fun p q=>p&&q) i) (hiz:i.2=(0,0)) (hd:IntR a b (fun p q=>p && !q) d) (hdz:d.2=(0,0)) (hm:(minW a).2=(0,0)) (hu:uniF i.1 d.1=(0,0)) (hy:(minW (uniR i.1 d.1)).2=(0,0)) :
 (minW a).1=(minW (uniR i.1 d.1)).1:=by
 obtain⟨_,ri⟩:=zKC hi hiz (fun q=>rfl);obtain⟨_,rd⟩:=zKC hd hdz (fun q=>rfl);have w1:=zTp (zAU (zPK ri).1) (zAU (zPK rd).1) hu;refine (zKA hm).uniq (zKA hy) fun w=>?_
 show bA a w=true↔bA (uniR i.1 d.1) w=true
 rw[w1,wAc,ri.acc,rd.acc]
 show bA a w=true↔(bA a w&&bA b w)=true∨(bA a w && !bA b w)=true
 cases bA a w<;>cases bA b w<;>simp
end Gm
