/- Part of the proof. -/
import Derived.Test.YtkfdhpbnphojoaaNd29
import Derived.Test.YtkfdhpbnphojoaaNd11
set_option linter.unusedSimpArgs false
set_option linter.unusedVariables false
set_option maxRecDepth 100000
set_option maxHeartbeats 8000000
open List renaming setIfInBounds_toArray→wAa,set_cons_zero→wAb,set_cons_succ→wAc,drop_succ_cons→wAf,length_map→wAg,drop_zero→wAh
open Go.World renaming setCell→wAd
open Go.RowKit.Below renaming setCell→wAe
namespace Gm
open Go Go.RowKit
def finF (n0:Int) (k:Nat):Int×Int:=if 400<n0∨2000<k then (17,-1) else (0,0)
def finM (n0:Int) (l:List Arc) (fins:List Fnl):Mach:=if 400<n0∨2000<l.length then emptyM else ⟨n0,srtA l,fins⟩
end Gm
namespace Go.Proofs.Ytkfdhpbnphojoaa
open Go.RowKit Gm Go.Sort Go.Shelf
theorem zS6 (n0:Int) (l:List Arc) (fins:List Fnl) (k nf base:Nat) (v vf:Value) (w:World) (hbase:base≤w.heap.size) (hl:l.length=k) (hk:k≤100000) (hnd:l.Nodup) (h0:0≤n0∧n0≤100000) (hnf:fins.length=nf) (hnf2:nf≤100000)
 (h:w.ownsRow base 64 5 v k (arcRow l)) (hF:w.ownsRow base 69 2 vf nf (finRow fins)) :
 Calls Try.prog 67 #[.agg #[.int .i64 n0,v,vf]] w fun e w'=>∃ v',e=.returned (.tuple #[v',.agg #[.int .i64 (finF n0 k).1,.int .i64 (finF n0 k).2]])∧MachNew base w' v' (finM n0 l fins)∧Below base w w':=by
 obtain⟨AF,cf,rfl,hfc,_⟩:=zAa hF;by_cases h1:400<n0
 ·have e1:finF n0 k=(17,-1):=by unfold finF;rw[if_pos (.inl h1)]
  have e2:finM n0 l fins=emptyM:=by unfold finM;rw[if_pos (.inl h1)]
  rw[e1,e2];exact (zTn n0 l k base v AF nf cf w hbase hl hk hnd ⟨h1,h0.2⟩ h).mono fun e w' ⟨he,hb⟩=>⟨_,he,MachNew.empty _ _,hb⟩
 ·by_cases h2:2000<k
  ·(have e1:finF n0 k=(17,-1):=by unfold finF;rw[if_pos (.inr h2)]);(have e2:finM n0 l fins=emptyM:=by unfold finM;rw[if_pos (.inr (by rw[hl];exact h2))]);rw[e1,e2];exact (zTq n0 l k base v AF nf cf w hbase hl ⟨h2,hk⟩ hnd ⟨h0.1,by omega⟩ h).mono fun e w' ⟨he,hb⟩=>⟨_,he,MachNew.empty _ _,hb⟩
  ·(have e1:finF n0 k=(0,0):=by unfold finF;rw[if_neg (by omega)]);(have e2:finM n0 l fins=⟨n0,srtA l,fins⟩:=by unfold finM;rw[if_neg (by rw[hl];omega)]);rw[e1,e2];obtain⟨A,c,rfl,hkc,_⟩:=zAa h;(refine (zTJ n0 l k base (.slice A k c) AF nf cf w hbase hl (by omega) hnd ⟨h0.1,by omega⟩ h).mono fun e w' ⟨he,ho,hg⟩=>?_);(have hls:(srtA l).length=k:=by rw[(zAR l).length_eq,hl]);have hF':=hF.kept hg (zAt hF h (by decide));have hm:=MachNew.of_own (m:=⟨n0,srtA l,fins⟩) (lo:=base) (by show w'.ownsRow base 64 5 (.slice A (srtA l).length c) (srtA l).length (arcRow (srtA l));rw[hls];exact ho) (by show w'.ownsRow base 69 2 (.slice AF fins.length cf) fins.length (finRow fins);rw[hnf];exact hF') (Nat.le_refl _) (Nat.le_refl _) (by show (srtA l).length≤c;rw[hls];exact hkc) (by show fins.length≤cf;rw[hnf];exact hfc) (by show (srtA l).length≤big;rw[hls];unfold big;omega) (by show fins.length≤big;rw[hnf];unfold big;omega);refine⟨_,he,?_,(Below.refl base w).grown hg hbase (fun q hq=>(h.lt q hq).1)⟩;(have e3:(Value.slice A (srtA l).length c)=.slice A k c:=by rw[hls]);(have e4:(Value.slice AF fins.length cf)=.slice AF nf cf:=by rw[hnf]);have hm2:MachNew base w' (.agg #[.int .i64 n0,.slice A (srtA l).length c,.slice AF fins.length cf]) ⟨n0,srtA l,fins⟩:=hm;rw[e3,e4] at hm2;exact hm2
/-! walks -/
def Ut (W2 wx:World) (O base:Nat) (N:Int) (l:List Arc):Prop:=∃ A c,Blk wx O 25 #[.int .i64 N,.slice A l.length c,.slice none 0 0]∧wx.ownsRow base 64 5 (.slice A l.length c) l.length (arcRow l)∧Below O W2 wx∧base≤wx.heap.size
theorem zS3 {w w':World} {base sz n:Nat} {e:TypeId} {v:Value} {xs:List Value} (h:w.ownsRow base e sz v n xs) (hb:Below w.heap.size w w'):w'.ownsRow base e sz v n xs :=
 zFh h hb.size (fun b _ hlt=>hb.block b hlt)
def uniF (a b:Mach):Int×Int:=if twoF a b=(0,0) then finF (1+a.n+b.n) (uniArcs a b).length else twoF a b
def uniR (a b:Mach):Mach:=if twoF a b=(0,0) then finM (1+a.n+b.n) (uniArcs a b) (uniFins a b) else emptyM
theorem zS2 {a b:Mach} (h:twoF a b=(0,0)):validate a=(0,0)∧validate b=(0,0):=by
 unfold twoF at h;by_cases hv:validate a=(0,0)
 · rw[if_pos hv] at h;exact⟨hv,h⟩
 · rw[if_neg hv] at h;exact absurd h hv
theorem zTI (va vb:Value) (a b:Mach) (w:World) (B:Nat) (hB:B≤w.heap.size) (ha:MachAt w B va a) (hb:MachAt w B vb b) (hz:twoF a b≠(0,0)) :
 Calls Try.prog 31 #[va,vb] w fun e w'=>e=.returned (.tuple #[.agg #[.int .i64 0,.slice none 0 0,.slice none 0 0],.agg #[.int .i64 (twoF a b).1,.int .i64 (twoF a b).2]])∧Below w.heap.size w w':=by
 have HA:=zh ha;have HB:=zh hb;obtain⟨A,AF,n,c,nf,cf,rfl,_⟩:=ha;obtain⟨A',AF',n',c',nf',cf',rfl,_⟩:=hb;have hne:=fun a b c d W=>zAn a b c d W
 have HT:=zh (fun W (hB:B≤W.heap.size) (h:MachAt W B (.agg #[.int .i64 a.n,.slice A n c,.slice AF nf cf]) a) (h':MachAt W B (.agg #[.int .i64 b.n,.slice A' n' c',.slice AF' nf' cf']) b)=>zS5 _ _ a b W B hB h h')
 have hz0:fEq (twoF a b).1 (twoF a b).2 0 0=false:=by
  cases e:fEq (twoF a b).1 (twoF a b).2 0 0
  · rfl
  · exact absurd (fEq0R.1 e) hz
 obtain⟨p,hp⟩:∃ p,p=(twoF a b).1:=⟨_,rfl⟩;obtain⟨q,hq⟩:∃ p,p=(twoF a b).2:=⟨_,rfl⟩;rw[← hp,← hq] at HT hz0 ⊢;clear hp hq hz
 go_enter Try.func31,Try.ntmps31
 go_wp2_with fail;refine (HT.o _ (by simp;omega) (HA.o.below (show Below w.heap.size w _ by go_grown) hB) (HB.o.below (show Below w.heap.size w _ by go_grown) hB)).mono ?_;rintro e w1 ⟨rfl,hb1⟩;have hbw1:Below w.heap.size w w1:=Below.trans (show Below w.heap.size w _ by go_grown) (hb1.mono (by simp;omega));have bR1:Blk w1 (w.heap.size+1+1) 25 #[.int .i64 0,.slice none 0 0,.slice none 0 0]:=((Blk.at_ (by simp)).alloc _).below hb1 (by simp);have bF1:Blk w1 (w.heap.size+1+1+1) 28 #[.int .i64 0,.int .i64 0]:=(Blk.at_ (by simp)).below hb1 (by simp);clear hb1 HT HA HB;have q0:=bR1.cell 0;have q1:=bR1.cell 1;have q2:=bR1.cell 2;have q3:=bF1.cell 0;have q4:=bF1.cell 1;have qf:=bR1.frozen 0;have qf1:=bR1.frozen 1;have qf2:=bR1.frozen 2;have qf3:=bF1.frozen 0;have qf4:=bF1.frozen 1;simp at q0 q1 q2 q3 q4;have hs3:=bR1.lt;have hs4:=bF1.lt;have hs5:=hbw1.size;go_wp2;refine zAE (fun w'=>w'.cell? ⟨w1.heap.size,0,none⟩=some (.int .i64 p)∧w'.cell? ⟨w1.heap.size,1,none⟩=some (.int .i64 q)) 3 [(0,false),(1,false),(2,true)] (by kernel_rfl) (by kernel_rfl) ?_ ?_
 · go_simp
 simp only[wAf,wAh]
 repeat (refine mix_q (v:=?_) (by rfl) (by rfl) ?_ ?_;rotate_left;(focus (intro w' hC;(try dsimp only at hC);go_simp;(first | done | with_reducible rfl)));simp only[Act.put,wAa,wAb,wAc])
 refine mix_l (by rfl) (by rfl) (fun K hK=>?_);go_simp;refine hK _ _ (by go_simp) ?_;clear hK K;refine zAs ?_;try simp only[Act.put,wAa,wAb,wAc]
 go_wp2;refine NoPanic.normal ?_;go_wp2;exact bodyPost_ret (v:=.tuple #[.agg #[.int .i64 0,.slice none 0 0,.slice none 0 0],.agg #[.int .i64 p,.int .i64 q]]) (by simp[results,Try.results31,go_sem,q0,q1,q2,q3,q4,qf,qf1,qf2,qf3,qf4,hs3,hs4]) rfl ⟨rfl,by go_grown⟩
theorem zTt (va vb:Value) (a b:Mach) (w:World) (B:Nat) (hB:B≤w.heap.size) (ha:MachAt w B va a) (hb:MachAt w B vb b) (hz:twoF a b=(0,0)) :
 Calls Try.prog 31 #[va,vb] w fun e w'=>∃ v',e=.returned (.tuple #[v',.agg #[.int .i64 (finF (1+a.n+b.n) (uniArcs a b).length).1,.int .i64 (finF (1+a.n+b.n) (uniArcs a b).length).2]])∧MachNew w.heap.size w' v' (finM (1+a.n+b.n) (uniArcs a b) (uniFins a b))∧Below w.heap.size w w':=by
 have HA:=zh ha;have HB:=zh hb;obtain⟨hva,hvb⟩:=zS2 hz;have hVa:=zAX hva;have hVb:=zAX hvb;have HVA:=zh hVa;have HVB:=zh hVb;obtain⟨A,AF,n,c,nf,cf,rfl,HN,HF,hnc,hnfc,hnb,hnfb,hAa,hFa⟩:=ha;obtain⟨A',AF',n',c',nf',cf',rfl,HN',HF',hnc',hnfc',hnb',hnfb',hAb,hFb⟩:=hb;have hne:=fun a b c d W=>zAn a b c d W
 have hf0:fEq 0 0 0 0=true:=rfl;have hT:=fun W (hB:B≤W.heap.size) (h:MachAt W B (.agg #[.int .i64 a.n,.slice A n c,.slice AF nf cf]) a) (h':MachAt W B (.agg #[.int .i64 b.n,.slice A' n' c',.slice AF' nf' cf']) b)=>zS5 _ _ a b W B hB h h'
 rw[hz] at hT;have HT:=zh hT;have HFA:=zh hFa;have HFB:=zh hFb;obtain⟨an0,an4⟩:0≤a.n∧a.n≤400:=⟨hVa.n0,hVa.n4⟩;obtain⟨bn0,bn4⟩:0≤b.n∧b.n≤400:=⟨hVb.n0,hVb.n4⟩;have hla:=hVa.len;have hlb:=hVb.len;have hfa:=hVa.finLen;have hfb:=hVb.finLen;rw[HF.o] at hfa;rw[HF'.o] at hfb;have HRA:=zh (show ∀ x∈a.arcs,0≤x.f∧x.f≤1000∧0≤x.t∧x.t≤1000 from fun x hx=>by have:=zDN (hVa.okA hx);omega);have HRB:=zh (show ∀ x∈b.arcs,0≤x.f∧x.f≤1000∧0≤x.t∧x.t≤1000 from fun x hx=>by have:=zDN (hVb.okA hx);omega);have HSA:=zh (show ∀ x∈a.fins,0≤x.s∧x.s≤1000 from fun x hx=>by have:=zCk (hVa.okF hx);omega);have HSB:=zh (show ∀ x∈b.fins,0≤x.s∧x.s≤1000 from fun x hx=>by have:=zCk (hVb.okF hx);omega);obtain⟨ia,ha0,ha1,ha2,ha3⟩:=info_parts zBa;obtain⟨iF,hF0,hF1,hF2,hF3⟩:=info_parts zB6;obtain⟨sa,hsa⟩:∃ s,s=a.n:=⟨_,rfl⟩;obtain⟨sb,hsb⟩:∃ s,s=b.n:=⟨_,rfl⟩;have HAS:=zh hsa;have HBS:=zh hsb;rw[← hsa] at HA HT an0 an4 ⊢;rw[← hsb] at HB HT bn0 bn4 ⊢;clear hz hva hvb hVa hVb hT hFa hFb hAa hAb hsa hsb hnb hnfb hnb' hnfb'
 go_enter Try.func31,Try.ntmps31
 go_wp2_with fail;refine (HT.o _ (by simp;omega) (HA.o.below (show Below w.heap.size w _ by go_grown) hB) (HB.o.below (show Below w.heap.size w _ by go_grown) hB)).mono ?_;rintro e w1 ⟨rfl,hb1⟩;have hbw1:Below w.heap.size w w1:=Below.trans (show Below w.heap.size w _ by go_grown) (hb1.mono (by simp;omega));have bA1:Blk w1 w.heap.size 25 #[.int .i64 sa,.slice A n c,.slice AF nf cf]:=((((Blk.new w _ _).alloc _).alloc _).alloc _).below hb1 (by simp;omega);have bB1:Blk w1 (w.heap.size+1) 25 #[.int .i64 sb,.slice A' n' c',.slice AF' nf' cf']:=(((Blk.at_ (by simp)).alloc _).alloc _).below hb1 (by simp);have bR1:Blk w1 (w.heap.size+1+1) 25 #[.int .i64 0,.slice none 0 0,.slice none 0 0]:=((Blk.at_ (by simp)).alloc _).below hb1 (by simp);have bF1:Blk w1 (w.heap.size+1+1+1) 28 #[.int .i64 0,.int .i64 0]:=(Blk.at_ (by simp)).below hb1 (by simp);have x0:=bA1.cell 0;have y0:=bB1.cell 0;simp at x0 y0;have lF:=bF1.lt;have lA:=bA1.lt;have lB:=bB1.lt;clear hb1 HT;go_upto_if 25 with fail
 generalize hW2:World.alloc _ _=W2;obtain⟨O,hO⟩:∃ O,O=w1.heap.size+1:=⟨_,rfl⟩;obtain⟨base,hbase⟩:∃ O,O=w1.heap.size+1+1:=⟨_,rfl⟩;have HA2:=zh (show Blk W2 w.heap.size 25 #[.int .i64 sa,.slice A n c,.slice AF nf cf] by rw[← hW2];exact (bA1.alloc _).alloc _);have HB2:=zh (show Blk W2 (w.heap.size+1) 25 #[.int .i64 sb,.slice A' n' c',.slice AF' nf' cf'] by rw[← hW2];exact (bB1.alloc _).alloc _);have HR2:=zh (show Blk W2 (w.heap.size+1+1) 25 #[.int .i64 0,.slice none 0 0,.slice none 0 0] by rw[← hW2];exact (bR1.alloc _).alloc _);have HF2':=zh (show Blk W2 (w.heap.size+1+1+1) 28 #[.int .i64 0,.int .i64 0] by rw[← hW2];exact (bF1.alloc _).alloc _);have bO2:Blk W2 O 25 #[.int .i64 (1+sa+sb),.slice none 0 0,.slice none 0 0]:=by rw[← hW2];exact Blk.at_ (by rw[hO];simp)
 have HBW2:=zh (show Below w.heap.size w W2 by rw[← hW2];exact (hbw1.alloc hbw1.size _).alloc (by have:=hbw1.size;simp;omega) _);have hz2:W2.heap.size=base:=by rw[← hW2,hbase];simp
 have hOb:base=O+1:=by omega
 have hpO:w.heap.size+1+1+1<O:=by omega
 rw[← hO];have HZ2:=zh hz2;have hOb2:O<base:=by omega
 have HOB:=zh hOb;have lO:O<W2.heap.size:=by omega
 have hbz2:base≤W2.heap.size:=by omega
 have o1:=bO2.cell 1;have fo1:=bO2.frozen 1;simp at o1;have x0:=HA2.o.cell 0;simp at x0;have lA:w.heap.size<W2.heap.size:=by omega
 clear hW2 hz2 hOb hbase hO bA1 bB1 bR1 bF1 y0 lF lB hbw1
 go_cut [7] from 8 (fun s7 wx=>s7=.pointer (some ⟨O,0,none⟩)∧Hid (Ut W2 wx O base (1+sa+sb) (if 0<a.n then [eps 0 1 0] else [])))
 case first =>
  by_cases hpos:0<sa
  ·have tp:decide (sa>0)=true:=decide_eq_true hpos;have tp':decide (0<sa)=true:=decide_eq_true hpos;have HL:=zh (show (if 0<a.n then [eps 0 1 0] else [])=[eps 0 1 0] from if_pos (by rw[← HAS.o];exact hpos));go_wp2_with (at_builtin;refine wpList_append_own _ rfl (.tmp 27) (.tmp 29) 22 rfl base 64 ia _ 5 40 Try.underlying22 ha0 ha1 ha2 ha3 rfl (by omega) (.slice none 0 0) 0 [] rfl (World.ownsRow_nil _ _ _ _) ⟨W2.heap.size,0,none⟩ 1 1 (arcRow [eps 0 1 0]) rfl (by rfl) (World.news_of_block (cs:=(arcRow [eps 0 1 0]).toArray) (t:=64) (fr:=(0,0)) (Blk.at_ (by simp))) (zAq _) (by simp[maxLen]) (by omega) (by simp;omega) ?_;intro v' w6 hown2 hg2 _;obtain⟨Av,cv,rfl,hkcv,_⟩:=zAa hown2;have o1':=hg2.cell (a:=⟨O,1,none⟩) (v:=.slice none 0 0) (by go_simp) (by simp[Value.ownBlock]);have bO6:=(bO2.alloc _).grown hg2 (by simp[Value.ownBlock]);have of1':=bO6.frozen 1;have lO6:=bO6.lt);have HG2:=zh hg2;have HO2:=zh hown2;have HBO:=zh bO6;have hs6:=hg2.size;simp at hs6;clear hg2 hown2 bO6;go_meet;refine⟨rfl,zh ?_⟩;rw[HL.o];exact⟨Av,cv,HBO.o.set_ 1 _,ownsRow_setCell_below (by simpa using HO2.o) (by simp;omega) _,(((Below.refl O W2).alloc (by omega) _).grown HG2.o (by simp;omega) (fun k hk=>by simp[Value.ownBlock] at hk)).setCell (by simp) _,by simp[wAd];omega⟩
  ·have tp:decide (sa>0)=false:=decide_eq_false hpos;have tp':decide (0<sa)=false:=decide_eq_false hpos;have HL:=zh (show (if 0<a.n then [eps 0 1 0] else [])=([]:List Arc) from if_neg (by rw[← HAS.o];exact hpos));(have hpos':sa≤0:=by omega);go_wp2;go_meet;refine⟨rfl,zh ?_⟩;rw[HL.o];exact⟨none,0,bO2,World.ownsRow_nil _ _ _ _,Below.refl _ _,hbz2⟩
 case rest =>
 obtain⟨rfl,HU1⟩:=hcut;obtain⟨l1,hl1⟩:∃ l:List Arc,l=(if 0<a.n then [eps 0 1 0] else []):=⟨_,rfl⟩;have hk1:l1.length≤1:=by rw[hl1];split<;>simp
 rw[← hl1] at HU1;have HL1:=zh hl1;obtain⟨A1,c1,bO,hown1,hbO,hbz⟩:=HU1.o;have HO1:=zh hown1;have HBO:=zh hbO;have HBK:=zh bO;have bA:=HA2.o.below hbO (by omega);have bB:=HB2.o.below hbO (by omega);have x0:=bA.cell 0;have y0:=bB.cell 0;have o1:=bO.cell 1;have fo1:=bO.frozen 1;simp at x0 y0 o1;have lA:=bA.lt;have lB:=bB.lt;have lO:=bO.lt;clear hl1 HU1 bA bB hbO hown1 bO2 hbz2;go_upto_if 34 with fail
 go_cut [7] from 8 (fun s7 wx=>s7=.pointer (some ⟨O,0,none⟩)∧Hid (Ut W2 wx O base (1+sa+sb) (l1++(if 0<b.n then [eps 0 (1+sa) 0] else []))))
 case first =>
  by_cases hpos:0<sb
  ·have tp:decide (sb>0)=true:=decide_eq_true hpos;have tp':decide (0<sb)=true:=decide_eq_true hpos;have HL:=zh (show (if 0<b.n then [eps 0 (1+sa) 0] else [])=[eps 0 (1+sa) 0] from if_pos (by rw[← HBS.o];exact hpos));(have hlow:∀ q,(Value.slice A1 l1.length c1).ownBlock=some q→base≤q:=fun q hq=>(HO1.o.lt q hq).1);have HLOW:=zh hlow;(have hneO:(Value.slice A1 l1.length c1).ownBlock≠some O:=fun e=>by have:=hlow _ e;omega);clear hlow;go_wp2_with (at_builtin;refine wpList_append_own _ rfl (.tmp 36) (.tmp 41) 22 rfl base 64 ia _ 5 40 Try.underlying22 ha0 ha1 ha2 ha3 rfl (by omega) (.slice A1 l1.length c1) l1.length (arcRow l1) rfl (HO1.o.alloc _) ⟨wc.heap.size,0,none⟩ 1 1 (arcRow [eps 0 (1+sa) 0]) rfl (by rfl) (World.news_of_block (cs:=(arcRow [eps 0 (1+sa) 0]).toArray) (t:=64) (fr:=(0,0)) (Blk.at_ (by simp))) (zAq _) (by simp only[maxLen];omega) (by omega) (by simp;omega) ?_;intro v' w6 hown2 hg2 _;obtain⟨Av,cv,rfl,hkcv,_⟩:=zAa hown2;have o1':=zAf hg2 hneO (o:=1) (v:=.slice A1 l1.length c1) (by go_simp);have bO6:=(HBK.o.alloc _).grown hg2 (Ne.symm hneO);have of1':=bO6.frozen 1;have lO6:=bO6.lt);have HG2:=zh hg2;have HO2:=zh hown2;have HBO6:=zh bO6;have hs6:=hg2.size;simp at hs6;clear hg2 hown2 bO6;go_meet;refine⟨rfl,zh ?_⟩;rw[HL.o];exact⟨Av,cv,by simpa using HBO6.o.set_ 1 (.slice Av (l1.length+1) cv),ownsRow_setCell_below (by simpa[zAu] using HO2.o) (by simpa using hOb2) _,((HBO.o.alloc (by omega) _).grown HG2.o (by simp;omega) (fun k hk=>by have:=HLOW.o k hk;omega)).setCell (by simp) _,by simp[wAd];omega⟩
  ·have tp:decide (sb>0)=false:=decide_eq_false hpos;have tp':decide (0<sb)=false:=decide_eq_false hpos;have HL:=zh (show (if 0<b.n then [eps 0 (1+sa) 0] else [])=([]:List Arc) from if_neg (by rw[← HBS.o];exact hpos));(have hpos':sb≤0:=by omega);go_wp2;go_meet;refine⟨rfl,zh ?_⟩;rw[HL.o,List.append_nil];exact⟨A1,c1,HBK.o,HO1.o,HBO.o,hbz⟩
 case rest =>
 obtain⟨rfl,HU2⟩:=hcut;obtain⟨l2,hl2⟩:∃ l:List Arc,l=l1++(if 0<b.n then [eps 0 (1+sa) 0] else []):=⟨_,rfl⟩;have hk2:l2.length≤2:=by rw[hl2];split<;>simp<;>omega
 rw[← hl2] at HU2;have HL2:=zh hl2;clear hl2 hbz HO1 HBO HBK x0 y0 o1 fo1 lA lB lO;obtain⟨A2,c2,bO,hown,hbO,hbz⟩:=HU2.o;have bA:=HA2.o.below hbO (by omega);have bB:=HB2.o.below hbO (by omega);have bR:=HR2.o.below hbO (by omega);have bF:=HF2'.o.below hbO (by omega);have hbw:=HBW2.o.trans (hbO.mono (by omega));have HBW:=zh hbw;have o1:=bO.cell 1;have x0:=bA.cell 0;have x1:=bA.cell 1;have x2:=bA.cell 2;have y0:=bB.cell 0;have y1:=bB.cell 1;have y2:=bB.cell 2;simp at x0 x1 x2 y0 y1 y2 o1;have lA:=bA.lt;have lB:=bB.lt;have lO:=bO.lt;clear HU2 hbO hbw;go_wp2
 refine zAE (fun w'=>w'.cell? ⟨O,1,none⟩=some (.slice A2 l2.length c2)∧w'.cell? ⟨w.heap.size,0,none⟩=some (.int .i64 sa)∧w'.cell? ⟨w.heap.size,1,none⟩=some (.slice A n c)∧w'.cell? ⟨w.heap.size,2,none⟩=some (.slice AF nf cf) ∧
  w'.cell? ⟨w.heap.size+1,0,none⟩=some (.int .i64 sb)∧w'.cell? ⟨w.heap.size+1,1,none⟩=some (.slice A' n' c')∧w'.cell? ⟨w.heap.size+1,2,none⟩=some (.slice AF' nf' cf')) 8 [(0,false),(1,false),(2,false),(4,false),(5,false),(6,false),(7,false),(3,true)] (by kernel_rfl) (by kernel_rfl) ?_ ?_
 · go_simp
 simp only[wAf,wAh]
 repeat (refine mix_q (v:=?_) (by rfl) (by rfl) ?_ ?_;rotate_left;(focus (intro w' hC;(try dsimp only at hC);go_simp;(first | done | with_reducible rfl)));simp only[Act.put,wAa,wAb,wAc])
 refine mix_l (by rfl) (by rfl) (fun K hK=>?_);go_simp;refine (zS9 a 1 l2 l2.length base _ _ _ (by simpa using hbz) ((HA.o.below HBW.o.drew hB).mono (by omega)) rfl (by omega) hla HRA.o (by omega) hown.drew).mono ?_;rintro e w3 ⟨v3,rfl,hown3,hb3⟩;obtain⟨A3,c3,rfl,hkc3,_⟩:=zAa hown3;have hbz3:=hb3.size;simp at hbz3;have bO3:=(bO.drew).below hb3 (by omega);have bA3:=(bA.drew).below hb3 (by omega);have bB3:=(bB.drew).below hb3 (by omega);have bR3:=(bR.drew).below hb3 (by omega);have bF3:=(bF.drew).below hb3 (by omega);have HBW3:=zh (HBW.o.drew.trans (hb3.mono (by omega)));have HO3:=zh hown3;clear x0 x1 x2 y0 y1 y2 o1 lA lB lO bO bA bB bR bF hb3 hown3 hown;refine hK _ _ ⟨bO3.cell 1,bA3.cell 0,bA3.cell 1,bA3.cell 2,bB3.cell 0,bB3.cell 1,bB3.cell 2⟩ ?_;clear hK K;refine zAs ?_;try simp only[Act.put,wAa,wAb,wAc]
 have lO3:=bO3.lt;go_wp2_with fail;refine (zS9 b (1+sa) (l2++a.arcs.map (shA 1)) (l2.length+a.arcs.length) base _ _ _ (by omega) ((HB.o.below HBW3.o hB).mono (by omega)) (by simp) (by omega) hlb HRB.o (by omega) HO3.o).mono ?_;rintro e w4 ⟨v4,rfl,hown4,hb4⟩;obtain⟨A4,c4,rfl,hkc4,_⟩:=zAa hown4;have hbz4:=hb4.size;have bO4:=bO3.below hb4 (by omega);have bA4:=bA3.below hb4 (by omega);have bB4:=bB3.below hb4 (by omega);have bR4:=bR3.below hb4 (by omega);have bF4:=bF3.below hb4 (by omega);have HBW4:=zh (HBW3.o.trans (hb4.mono (by omega)));have HO4:=zh hown4;have o1:=bO4.cell 1;have fo1:=bO4.frozen 1;simp at o1;have lO4:=bO4.lt;clear lO3 bO3 bA3 bB3 bR3 bF3 hb4 hown4 HO3 HBW3;go_wp2;refine NoPanic.normal ?_;generalize hW5:wAd _ _ _=W5;obtain⟨K,hK⟩:∃ K,K=l2.length+a.arcs.length+b.arcs.length:=⟨_,rfl⟩;obtain⟨L,hL⟩:∃ L:List Arc,L=l2++a.arcs.map (shA 1)++b.arcs.map (shA (1+sa)):=⟨_,rfl⟩;have HK:=zh hK;have HL:=zh hL;have hK4:K≤4002:=by omega
 rw[← hK,← hL] at HO4;rw[← hK] at hkc4 hW5;have hO5:W5.ownsRow base 64 5 (.slice A4 K c4) K (arcRow L):=by rw[← hW5];exact ownsRow_setCell_below HO4.o (by simpa using hOb2) _
 have bO5:Blk W5 O 25 #[.int .i64 (1+sa+sb),.slice A4 K c4,.slice none 0 0]:=by rw[← hW5];exact bO4.set_ 1 _
 have bA5:Blk W5 w.heap.size 25 #[.int .i64 sa,.slice A n c,.slice AF nf cf]:=by rw[← hW5];exact bA4.far (by dsimp only;omega) _
 have bB5:Blk W5 (w.heap.size+1) 25 #[.int .i64 sb,.slice A' n' c',.slice AF' nf' cf']:=by rw[← hW5];exact bB4.far (by dsimp only;omega) _
 have bR5:Blk W5 (w.heap.size+1+1) 25 #[.int .i64 0,.slice none 0 0,.slice none 0 0]:=by rw[← hW5];exact bR4.far (by dsimp only;omega) _
 have bF5:Blk W5 (w.heap.size+1+1+1) 28 #[.int .i64 0,.int .i64 0]:=by rw[← hW5];exact bF4.far (by dsimp only;omega) _
 have HBW5:=zh (show Below w.heap.size w W5 by rw[← hW5];exact HBW4.o.setCell (by dsimp only;omega) _);have hbz5:base≤W5.heap.size:=by rw[← hW5];simp[wAd];omega
 clear hW5 hK hL bO4 bA4 bB4 bR4 bF4 HO4 HBW4 o1 fo1 lO4;have x0:=bA5.cell 0;have x2:=bA5.cell 2;have y2:=bB5.cell 2;simp at x0 x2 y2;have lA:=bA5.lt;have lB:=bB5.lt;go_wp2;refine zAE (fun w'=>w'.cell? ⟨w.heap.size,0,none⟩=some (.int .i64 sa)∧w'.cell? ⟨w.heap.size,2,none⟩=some (.slice AF nf cf)∧w'.cell? ⟨w.heap.size+1,2,none⟩=some (.slice AF' nf' cf')) 8 [(0,false),(1,false),(3,false),(4,false),(5,false),(6,false),(7,false),(2,true)] (by kernel_rfl) (by kernel_rfl) ?_ ?_
 · go_simp
 simp only[wAf,wAh]
 repeat (refine mix_q (v:=?_) (by rfl) (by rfl) ?_ ?_;rotate_left;(focus (intro w' hC;(try dsimp only at hC);go_simp;(first | done | with_reducible rfl)));simp only[Act.put,wAa,wAb,wAc])
 refine mix_l (by rfl) (by rfl) (fun K hK=>?_);go_simp;refine (zTb a.fins 1 B AF nf cf _ (by have:=HBW5.o.size;simp;omega) HF.o (by omega) HSA.o (by omega) (HFA.o.below HBW5.o.drew hB)).mono ?_;rintro e w6 ⟨v6,rfl,hown6,hb6⟩;obtain⟨A6,c6,rfl,hkc6,_⟩:=zAa hown6;have hbz6:=hb6.size;simp at hbz6;have bO6:=(bO5.drew).below hb6 bO5.lt;have bA6:=(bA5.drew).below hb6 bA5.lt;have bB6:=(bB5.drew).below hb6 bB5.lt;have bR6:=(bR5.drew).below hb6 bR5.lt;have bF6:=(bF5.drew).below hb6 bF5.lt;have HBW6:=zh (HBW5.o.drew.trans (hb6.mono (by have:=HBW5.o.size;simp;omega)));have HO6:=zh (zS3 hO5.drew hb6);have HF6:=zh (zTa hown6 (by simpa using hbz5));clear x0 x2 y2 lA lB bO5 bA5 bB5 bR5 bF5 HBW5 hb6 hown6 hO5;refine hK _ _ ⟨bA6.cell 0,bA6.cell 2,bB6.cell 2⟩ ?_;clear hK K;refine zAs ?_;try simp only[Act.put,wAa,wAb,wAc]
 go_wp2_with fail;refine (zTb b.fins (1+sa) B AF' nf' cf' _ (by have:=HBW6.o.size;omega) HF'.o (by omega) HSB.o (by omega) (HFB.o.below HBW6.o hB)).mono ?_;rintro e w7 ⟨v7,rfl,hown7,hb7⟩;obtain⟨A7,c7,rfl,hkc7,_⟩:=zAa hown7;have hbz7:=hb7.size;have bO7:=bO6.below hb7 bO6.lt;have bR7:=bR6.below hb7 bR6.lt;have bF7:=bF6.below hb7 bF6.lt;have HBW7:=zh (HBW6.o.trans (hb7.mono HBW6.o.size));have HO7:=zh (zS3 HO6.o hb7);have HF7:=zh (zS3 HF6.o hb7)
 have hA7:A7=none→nf'=0:=fun e=>by
  subst e;rcases hown7.2 with⟨_,h0⟩ | ⟨g,cap,cur,h1,_⟩
  · exact h0
  · cases h1
 have HG7:=zh hown7;have hHlow:∀ q,(Value.slice A6 nf c6).ownBlock=some q→base≤q:=fun q hq=>(HF7.o.lt q hq).1
 have HLOW:=zh hHlow;have hneO:(Value.slice A6 nf c6).ownBlock≠some O:=fun e=>by have:=hHlow _ e;omega
 have hl7:(b.fins.map (shF (1+sa))).length=nf':=by rw[wAg,HF'.o]
 have HL7:=zh hl7;have o2:=bO7.cell 2;simp at o2;have lO7:=bO7.lt;clear bO6 bA6 bB6 bR6 bF6 HBW6 hb7 hown7 HO6 HF6 hHlow hl7;go_wp2_with (at_builtin;refine zAw _ rfl (.tmp 56) (.tmp 62) 23 rfl base 69 iF _ 2 16 Try.underlying23 hF0 hF1 hF2 hF3 rfl (by omega) (.slice A6 nf c6) nf (finRow (a.fins.map (shF 1))) rfl HF7.o w7.heap.size A7 nf' c7 (finRow (b.fins.map (shF (1+sa)))) (finCell (b.fins.map (shF (1+sa)))) rfl (Rd.of_own HG7.o (fun i j hi hj=>zCt _ i j (by rw[HL7.o];exact hi) hj)) hA7 (by rw[zGO,HL7.o]) (fun i j hi hj=>zCt _ i j (by rw[HL7.o];exact hi) hj) (zA9 _) (by simp only[maxLen];omega) (by omega) (by omega) ?_;intro v8 w8 hown8 hg8 hat8;obtain⟨A8,c8,rfl,hkc8,_⟩:=zAa hown8;have o2':=zAf hg8 hneO (o:=2) (v:=.slice none 0 0) o2;have bO8:=bO7.grown hg8 (Ne.symm hneO);have of2:=bO8.frozen 2;have lO8:=bO8.lt);refine NoPanic.normal ?_;have hs8:=hg8.size;have HO8:=zh (HO7.o.kept hg8 (zAt HO7.o HF7.o (by decide)));have hne:∀ q,q<base→some q≠(Value.slice A6 nf c6).ownBlock:=fun q hq e=>by have:=HLOW.o q e.symm;omega
 have bR8:=bR7.grown hg8 (hne _ (by omega));have bF8:=bF7.grown hg8 (hne _ (by omega));have HBW8:=zh (HBW7.o.grown hg8 (by have:=HBW7.o.size;omega) (fun q hq=>by have:=HLOW.o q hq;omega));have HF8:=zh hown8;generalize hW9:wAd _ _ _=W9;have HO9:=zh (show W9.ownsRow base 64 5 (.slice A4 K c4) K (arcRow L) by rw[← hW9];exact ownsRow_setCell_below HO8.o (by simpa using hOb2) _)
 have HF9:=zh (show W9.ownsRow base 69 2 (.slice A8 (nf+nf') c8) (nf+nf') (finRow (uniFins a b)) by
  rw[← hW9];have h:=HF8.o;rw[← zBO] at h;have e:uniFins a b=a.fins.map (shF 1)++b.fins.map (shF (1+sa)):=by unfold uniFins;rw[HAS.o]
  rw[e]
  exact ownsRow_setCell_below h (by simpa using hOb2) _)
 have bO9:Blk W9 O 25 #[.int .i64 (1+sa+sb),.slice A4 K c4,.slice A8 (nf+nf') c8]:=by rw[← hW9];exact bO8.set_ 2 _
 have bR9:Blk W9 (w.heap.size+1+1) 25 #[.int .i64 0,.slice none 0 0,.slice none 0 0]:=by rw[← hW9];exact bR8.far (by dsimp only;omega) _
 have bF9:Blk W9 (w.heap.size+1+1+1) 28 #[.int .i64 0,.int .i64 0]:=by rw[← hW9];exact bF8.far (by dsimp only;omega) _
 have HBW9:=zh (show Below w.heap.size w W9 by rw[← hW9];exact HBW8.o.setCell (by dsimp only;omega) _);have hbz9:base≤W9.heap.size:=by rw[← hW9];simp[wAd];omega
 have o0:=bO9.cell 0;have o1:=bO9.cell 1;have o2'':=bO9.cell 2;simp at o0 o1 o2'';have lO9:=bO9.lt;have hLU:L=uniArcs a b:=by rw[HL.o,HL2.o,HL1.o,HAS.o];rfl
 have hLK:L.length=K:=by rw[HL.o,HK.o];simp[Nat.add_assoc]
 have hnd:L.Nodup:=by rw[hLU];exact zSF HVA.o HVB.o
 have HFIN:=zh (zS6 (1+sa+sb) L (uniFins a b) K (nf+nf') base (.slice A4 K c4) (.slice A8 (nf+nf') c8) W9 hbz9 hLK (by omega) hnd (by omega) (by unfold uniFins;rw[List.length_append,wAg,wAg,HF.o,HF'.o]) (by omega) HO9.o HF9.o);have HLU:=zh hLU;have HLK:=zh hLK;clear hW9 hLU hLK hnd bO7 bR7 bF7 bO8 bR8 bF8 o2 o2' of2 lO7 lO8 hg8 hown8 HO7 HF7 HG7 HBW7 HBW8 HO8 HF8 hat8 hne;go_wp2_with fail;refine HFIN.o.mono ?_;rintro e w10 ⟨v10,rfl,hM,hb10⟩;obtain⟨A10,n10,c10,AF10,nf10,cf10,rfl⟩:=zBd hM;have bR10:=bR9.below hb10 (by omega);have bF10:=bF9.below hb10 (by omega);have hbw10:=HBW9.o.trans (hb10.mono (by omega));have HM:=zh hM;have q0:=bR10.cell 0;have q1:=bR10.cell 1;have q2:=bR10.cell 2;have q3:=bF10.cell 0;have q4:=bF10.cell 1;have qf:=bR10.frozen 0;have qf1:=bR10.frozen 1;have qf2:=bR10.frozen 2;have qf3:=bF10.frozen 0;have qf4:=bF10.frozen 1;simp at q0 q1 q2 q3 q4;have lR:=bR10.lt;have lF:=bF10.lt;have hb10s:=hb10.size;have HE:=zh (show finM (1+sa+sb) L (uniFins a b)=finM (1+a.n+b.n) (uniArcs a b) (uniFins a b) by rw[HLU.o,HAS.o,HBS.o]);have HEK:=zh (show finF (1+sa+sb) K=finF (1+sa+sb) (uniArcs a b).length by rw[← HLK.o,HLU.o]);clear hM hb10 HFIN o0 o1 o2'' lO9 bO9 bR9 bF9 bR10 bF10;go_wp2;rw[← HEK.o];refine bodyPost_ret (v:=.tuple #[.agg #[.int .i64 (finM (1+sa+sb) L (uniFins a b)).n,.slice A10 n10 c10,.slice AF10 nf10 cf10],.agg #[.int .i64 (finF (1+sa+sb) K).1,.int .i64 (finF (1+sa+sb) K).2]]) (by simp[results,Try.results31,go_sem,lR,lF,q0,q1,q2,q3,q4,qf,qf1,qf2,qf3,qf4]) rfl ⟨_,rfl,?_,?_⟩
 ·have e:finM (1+sa+sb) (uniArcs a b) (uniFins a b)=finM (1+sa+sb) L (uniFins a b):=by rw[HLU.o]
  rw[e];refine MachNew.mono (lo:=base) ?_ (by omega);refine MachNew.set (MachNew.set (MachNew.set (MachNew.set (MachNew.set HM.o ?_ _) ?_ _) ?_ _) ?_ _) ?_ _<;>(dsimp only;omega)
 · refine wAe (wAe (wAe (wAe (wAe hbw10 ?_ _) ?_ _) ?_ _) ?_ _) ?_ _<;>(dsimp only;omega)
theorem zS4 (va vb:Value) (a b:Mach) (w:World) (B:Nat) (hB:B≤w.heap.size) (ha:MachAt w B va a) (hb:MachAt w B vb b) :
 Calls Try.prog 31 #[va,vb] w fun e w'=>∃ v',e=.returned (.tuple #[v',.agg #[.int .i64 (uniF a b).1,.int .i64 (uniF a b).2]])∧MachNew w.heap.size w' v' (uniR a b)∧Below w.heap.size w w':=by
 by_cases hz:twoF a b=(0,0)
 ·have e1:uniF a b=finF (1+a.n+b.n) (uniArcs a b).length:=by unfold uniF;rw[if_pos hz]
  have e2:uniR a b=finM (1+a.n+b.n) (uniArcs a b) (uniFins a b):=by unfold uniR;rw[if_pos hz]
  rw[e1,e2];exact zTt va vb a b w B hB ha hb hz
 ·have e1:uniF a b=twoF a b:=by unfold uniF;rw[if_neg hz]
  have e2:uniR a b=emptyM:=by unfold uniR;rw[if_neg hz]
  rw[e1,e2];exact (zTI va vb a b w B hB ha hb hz).mono fun e w' ⟨he,hb⟩=>⟨_,he,MachNew.empty _ _,hb⟩
end Go.Proofs.Ytkfdhpbnphojoaa
