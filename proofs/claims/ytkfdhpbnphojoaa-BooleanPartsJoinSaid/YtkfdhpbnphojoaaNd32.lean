/- Part of the proof. -/
import Derived.Test.YtkfdhpbnphojoaaNd31
set_option linter.unusedSimpArgs false
set_option linter.unusedVariables false
set_option maxRecDepth 100000
set_option maxHeartbeats 8000000
open List renaming setIfInBounds_toArray→wAf,set_cons_zero→wAi,set_cons_succ→wAj,all_eq_true→wAm,mem_range→wAo
open Nat renaming le_refl→wAa,lt_succ_of_lt→wAc,zero_add→wAk,add_assoc→wAp,lt_or_ge→wAq
open Array renaming getD→wAg,getElem?_eq_none→wAh,replicate→wAn
open Bool renaming and_eq_true→wAl
open Gm.Blk renaming at_→wAb
open Go.RowKit.Below renaming setCell→wAd
open Go.Region renaming ready→wAe
namespace Go.Proofs.Ytkfdhpbnphojoaa
open Go.RowKit Gm Go.Sort Go.Shelf
def starF (m:Mach):Int×Int:=if validate m=(0,0) then finF (1+m.n) (starArcs m).length else validate m
def starR (m:Mach):Mach:=if validate m=(0,0) then finM (1+m.n) (starArcs m) [⟨0,0⟩] else emptyM
def Us (W2 wx:World) (O base:Nat) (N:Int) (vf:Value) (l:List Arc):Prop:=∃ A c,Blk wx O 25 #[.int .i64 N,.slice A l.length c,vf]∧wx.ownsRow base 64 5 (.slice A l.length c) l.length (arcRow l)∧Below O W2 wx∧base≤wx.heap.size
theorem zTv {w:World} {g:Nat} (h:Blk w g 69 #[.int .i64 0,.int .i64 0]):w.ownsRow g 69 2 (.slice (some ⟨g,0,none⟩) 1 1) 1 (finRow [⟨0,0⟩]) :=
 ⟨rfl,.inr ⟨g,1,#[.int .i64 0,.int .i64 0],rfl,wAa _,h,wAa _,by simp[maxLen],rfl,rfl⟩⟩
theorem zTL (va:Value) (a:Mach) (w:World) (B:Nat) (hB:B≤w.heap.size) (ha:MachAt w B va a) (hz:validate a≠(0,0)) :
 Calls Try.prog 63 #[va] w fun e w'=>e=.returned (.tuple #[.agg #[.int .i64 0,.slice none 0 0,.slice none 0 0],.agg #[.int .i64 (validate a).1,.int .i64 (validate a).2]])∧Below w.heap.size w w':=by
 have HA:=zh ha;obtain⟨A,AF,n,c,nf,cf,rfl,_⟩:=ha;have hne:=fun a b c d W=>zAn a b c d W
 have HT:=zh (fun W (hB:B≤W.heap.size) (h:MachAt W B (.agg #[.int .i64 a.n,.slice A n c,.slice AF nf cf]) a)=>zEq _ a W B hB h)
 have hz0:fEq (validate a).1 (validate a).2 0 0=false:=by
  cases e:fEq (validate a).1 (validate a).2 0 0
  · rfl
  · exact absurd (fEq0R.1 e) hz
 obtain⟨p,hp⟩:∃ p,p=(validate a).1:=⟨_,rfl⟩;obtain⟨q,hq⟩:∃ p,p=(validate a).2:=⟨_,rfl⟩;rw[← hp,← hq] at HT hz0 ⊢;clear hp hq hz
 go_enter Try.func63,Try.ntmps63
 go_wp2_with fail;refine (HT.o _ (by simp;omega) (HA.o.below (show Below w.heap.size w _ by go_grown) hB)).mono ?_;rintro e w1 ⟨rfl,hb1⟩;have hbw1:Below w.heap.size w w1:=Below.trans (show Below w.heap.size w _ by go_grown) (hb1.mono (by simp;omega));have bR1:Blk w1 (w.heap.size+1) 25 #[.int .i64 0,.slice none 0 0,.slice none 0 0]:=((wAb (by simp)).alloc _).below hb1 (by simp);have bF1:Blk w1 (w.heap.size+1+1) 28 #[.int .i64 0,.int .i64 0]:=(wAb (by simp)).below hb1 (by simp);clear hb1 HT HA;have q0:=bR1.cell 0;have q1:=bR1.cell 1;have q2:=bR1.cell 2;have q3:=bF1.cell 0;have q4:=bF1.cell 1;have qf:=bR1.frozen 0;have qf1:=bR1.frozen 1;have qf2:=bR1.frozen 2;have qf3:=bF1.frozen 0;have qf4:=bF1.frozen 1;simp at q0 q1 q2 q3 q4;have hs3:=bR1.lt;have hs4:=bF1.lt;have hs5:=hbw1.size;go_wp2;refine zAE (fun w'=>w'.cell? ⟨w1.heap.size,0,none⟩=some (.int .i64 p)∧w'.cell? ⟨w1.heap.size,1,none⟩=some (.int .i64 q)) 3 [(0,false),(1,false),(2,true)] (by kernel_rfl) (by kernel_rfl) ?_ ?_
 · go_simp
 simp only[List.drop_succ_cons,List.drop_zero]
 repeat (refine mix_q (v:=?_) (by rfl) (by rfl) ?_ ?_;rotate_left;(focus (intro w' hC;(try dsimp only at hC);go_simp;(first | done | with_reducible rfl)));simp only[Act.put,wAf,wAi,wAj])
 refine mix_l (by rfl) (by rfl) (fun K hK=>?_);go_simp;refine hK _ _ (by go_simp) ?_;clear hK K;refine zAs ?_;try simp only[Act.put,wAf,wAi,wAj]
 go_wp2;refine NoPanic.normal ?_;go_wp2;exact bodyPost_ret (v:=.tuple #[.agg #[.int .i64 0,.slice none 0 0,.slice none 0 0],.agg #[.int .i64 p,.int .i64 q]]) (by simp[results,Try.results63,go_sem,q0,q1,q2,q3,q4,qf,qf1,qf2,qf3,qf4,hs3,hs4]) rfl ⟨rfl,by go_grown⟩
theorem zTB (va:Value) (a:Mach) (w:World) (B:Nat) (hB:B≤w.heap.size) (ha:MachAt w B va a) (hz:validate a=(0,0)) :
 Calls Try.prog 63 #[va] w fun e w'=>∃ v',e=.returned (.tuple #[v',.agg #[.int .i64 (finF (1+a.n) (starArcs a).length).1,.int .i64 (finF (1+a.n) (starArcs a).length).2]])∧MachNew w.heap.size w' v' (finM (1+a.n) (starArcs a) [⟨0,0⟩])∧Below w.heap.size w w':=by
 have HA:=zh ha;have hVa:=zAX hz;have HVA:=zh hVa;obtain⟨A,AF,n,c,nf,cf,rfl,HN,HF,hnc,hnfc,hnb,hnfb,hAa,hFa⟩:=ha;have hne:=fun a b c d W=>zAn a b c d W
 have hf0:fEq 0 0 0 0=true:=rfl;have hT:=fun W (hB:B≤W.heap.size) (h:MachAt W B (.agg #[.int .i64 a.n,.slice A n c,.slice AF nf cf]) a)=>zEq _ a W B hB h
 rw[hz] at hT;have HT:=zh hT;have HFA:=zh hFa;obtain⟨an0,an4⟩:0≤a.n∧a.n≤400:=⟨hVa.n0,hVa.n4⟩;have hla:=hVa.len;have hfa:=hVa.finLen;rw[HF.o] at hfa;have HRA:=zh (show ∀ x∈a.arcs,0≤x.f∧x.f≤1000∧0≤x.t∧x.t≤1000 from fun x hx=>by have:=zDN (hVa.okA hx);omega);have HSA:=zh (show ∀ x∈a.fins,0≤x.s∧x.s≤1000 from fun x hx=>by have:=zCk (hVa.okF hx);omega);obtain⟨ia,ha0,ha1,ha2,ha3⟩:=info_parts zBa;obtain⟨sa,hsa⟩:∃ s,s=a.n:=⟨_,rfl⟩;have HAS:=zh hsa;rw[← hsa] at HA HT an0 an4 ⊢;clear hz hVa hT hFa hAa hsa hnb hnfb
 go_enter Try.func63,Try.ntmps63
 go_wp2_with fail;refine (HT.o _ (by simp;omega) (HA.o.below (show Below w.heap.size w _ by go_grown) hB)).mono ?_;rintro e w1 ⟨rfl,hb1⟩;have hbw1:Below w.heap.size w w1:=Below.trans (show Below w.heap.size w _ by go_grown) (hb1.mono (by simp;omega));have bA1:Blk w1 w.heap.size 25 #[.int .i64 sa,.slice A n c,.slice AF nf cf]:=(((Blk.new w _ _).alloc _).alloc _).below hb1 (by simp;omega);have bR1:Blk w1 (w.heap.size+1) 25 #[.int .i64 0,.slice none 0 0,.slice none 0 0]:=((wAb (by simp)).alloc _).below hb1 (by simp);have bF1:Blk w1 (w.heap.size+1+1) 28 #[.int .i64 0,.int .i64 0]:=(wAb (by simp)).below hb1 (by simp);have x0:=bA1.cell 0;simp at x0;have lF:=bF1.lt;have lA:=bA1.lt;have lA2:w.heap.size<w1.heap.size+1:=by omega
 have lA3:w.heap.size<w1.heap.size+1+1:=by omega
 clear hb1 HT;go_upto_if 23 with fail
 generalize hW2:World.alloc _ _=W2;obtain⟨G,hG⟩:∃ O,O=w1.heap.size+1:=⟨_,rfl⟩;obtain⟨O,hO⟩:∃ O,O=w1.heap.size+1+1:=⟨_,rfl⟩;obtain⟨base,hbase⟩:∃ O,O=w1.heap.size+1+1+1:=⟨_,rfl⟩;have HA2:=zh (show Blk W2 w.heap.size 25 #[.int .i64 sa,.slice A n c,.slice AF nf cf] by rw[← hW2];exact ((bA1.alloc _).alloc _).alloc _);have HR2:=zh (show Blk W2 (w.heap.size+1) 25 #[.int .i64 0,.slice none 0 0,.slice none 0 0] by rw[← hW2];exact ((bR1.alloc _).alloc _).alloc _);have HF2':=zh (show Blk W2 (w.heap.size+1+1) 28 #[.int .i64 0,.int .i64 0] by rw[← hW2];exact ((bF1.alloc _).alloc _).alloc _);have HG2:=zh (show Blk W2 G 69 #[.int .i64 0,.int .i64 0] by rw[← hW2];exact (wAb (by rw[hG];simp)).alloc _);have bO2:Blk W2 O 25 #[.int .i64 (1+sa),.slice none 0 0,.slice (some ⟨G,0,none⟩) 1 1]:=by rw[← hW2,hG];exact wAb (by rw[hO];simp)
 have HBW2:=zh (show Below w.heap.size w W2 by rw[← hW2];exact ((hbw1.alloc hbw1.size _).alloc (by have:=hbw1.size;simp;omega) _).alloc (by have:=hbw1.size;simp;omega) _);have hz2:W2.heap.size=base:=by rw[← hW2,hbase];simp
 have hOb:base=O+1:=by omega
 have hGO:O=G+1:=by omega
 have hpO:w.heap.size+1+1<G:=by omega
 rw[← hO];have hOb2:O<base:=by omega
 have hGO2:G<O:=by omega
 have lO:O<W2.heap.size:=by omega
 have hbz2:base≤W2.heap.size:=by omega
 have o1:=bO2.cell 1;have fo1:=bO2.frozen 1;simp at o1;have x0:=HA2.o.cell 0;simp at x0;have lA:w.heap.size<W2.heap.size:=by omega
 clear hW2 hz2 hOb hGO hbase hO hG bA1 bR1 bF1 lF lA2 lA3 hbw1
 go_cut [5] from 6 (fun s5 wx=>s5=.pointer (some ⟨O,0,none⟩)∧Hid (Us W2 wx O base (1+sa) (.slice (some ⟨G,0,none⟩) 1 1) (if 0<a.n then [eps 0 1 0] else [])))
 case first =>
  by_cases hpos:0<sa
  ·have tp:decide (sa>0)=true:=decide_eq_true hpos;have tp':decide (0<sa)=true:=decide_eq_true hpos;have HL:=zh (show (if 0<a.n then [eps 0 1 0] else [])=[eps 0 1 0] from if_pos (by rw[← HAS.o];exact hpos));go_wp2_with (at_builtin;refine wpList_append_own _ rfl (.tmp 25) (.tmp 27) 22 rfl base 64 ia _ 5 40 Try.underlying22 ha0 ha1 ha2 ha3 rfl (by omega) (.slice none 0 0) 0 [] rfl (World.ownsRow_nil _ _ _ _) ⟨W2.heap.size,0,none⟩ 1 1 (arcRow [eps 0 1 0]) rfl (by rfl) (World.news_of_block (cs:=(arcRow [eps 0 1 0]).toArray) (t:=64) (fr:=(0,0)) (wAb (by simp))) (zAq _) (by simp[maxLen]) (by omega) (by simp;omega) ?_;intro v' w6 hown2 hg2 _;obtain⟨Av,cv,rfl,hkcv,_⟩:=zAa hown2;have o1':=hg2.cell (a:=⟨O,1,none⟩) (v:=.slice none 0 0) (by go_simp) (by simp[Value.ownBlock]);have bO6:=(bO2.alloc _).grown hg2 (by simp[Value.ownBlock]);have of1':=bO6.frozen 1;have lO6:=bO6.lt);have HG2':=zh hg2;have HO2:=zh hown2;have HBO:=zh bO6;have hs6:=hg2.size;simp at hs6;clear hg2 hown2 bO6;go_meet;refine⟨rfl,zh ?_⟩;rw[HL.o];exact⟨Av,cv,HBO.o.set_ 1 _,ownsRow_setCell_below (by simpa using HO2.o) (by simp;omega) _,(((Below.refl O W2).alloc (by omega) _).grown HG2'.o (by simp;omega) (fun k hk=>by simp[Value.ownBlock] at hk)).setCell (by simp) _,by simp[World.setCell];omega⟩
  ·have tp:decide (sa>0)=false:=decide_eq_false hpos;have tp':decide (0<sa)=false:=decide_eq_false hpos;have HL:=zh (show (if 0<a.n then [eps 0 1 0] else [])=([]:List Arc) from if_neg (by rw[← HAS.o];exact hpos));(have hpos':sa≤0:=by omega);go_wp2;go_meet;refine⟨rfl,zh ?_⟩;rw[HL.o];exact⟨none,0,bO2,World.ownsRow_nil _ _ _ _,Below.refl _ _,hbz2⟩
 case rest =>
 obtain⟨rfl,HU1⟩:=hcut;obtain⟨l1,hl1⟩:∃ l:List Arc,l=(if 0<a.n then [eps 0 1 0] else []):=⟨_,rfl⟩;have hk1:l1.length≤1:=by rw[hl1];split<;>simp
 rw[← hl1] at HU1;have HL1:=zh hl1;obtain⟨A2,c2,bO,hown,hbO,hbz⟩:=HU1.o;have bA:=HA2.o.below hbO (by omega);have bR:=HR2.o.below hbO (by omega);have bF:=HF2'.o.below hbO (by omega);have bG:=HG2.o.below hbO (by omega);have hbw:=HBW2.o.trans (hbO.mono (by omega));have HBW:=zh hbw;have HO:=zh hown;have o1:=bO.cell 1;have x0:=bA.cell 0;have x1:=bA.cell 1;have x2:=bA.cell 2;simp at x0 x1 x2 o1;have lA:=bA.lt;have lO:=bO.lt;clear hl1 HU1 hbO hbw hown HA2 HR2 HF2' HG2 HBW2 bO2 hbz2;go_wp2_with fail;refine (zS9 a 1 l1 l1.length base _ _ _ hbz ((HA.o.below HBW.o hB).mono (by omega)) rfl (by omega) hla HRA.o (by omega) HO.o).mono ?_;rintro e w4 ⟨v4,rfl,hown4,hb4⟩;obtain⟨A4,c4,rfl,hkc4,_⟩:=zAa hown4;have hbz4:=hb4.size;have bO4:=bO.below hb4 (by omega);have bA4:=bA.below hb4 (by omega);have bR4:=bR.below hb4 (by omega);have bF4:=bF.below hb4 (by omega);have bG4:=bG.below hb4 (by omega);have HBW4:=zh (HBW.o.trans (hb4.mono (by omega)));have HO4:=zh hown4;clear x0 x1 x2 o1 lA lO bO bA bR bF bG hb4 hown4 HO HBW;have o1:=bO4.cell 1;have fo1:=bO4.frozen 1;simp at o1;have lO4:=bO4.lt;go_upto_region 8 with fail
 generalize hW5:World.setCell _ _ _=W5;obtain⟨K,hK⟩:∃ K,K=l1.length+a.arcs.length:=⟨_,rfl⟩;obtain⟨L,hL⟩:∃ L:List Arc,L=l1++a.arcs.map (shA 1):=⟨_,rfl⟩;have HK:=zh hK;have HL:=zh hL;have hK4:K≤4000:=by omega
 rw[← hK,← hL] at HO4;rw[← hK] at hkc4 hW5;have HO5:=zh (show W5.ownsRow base 64 5 (.slice A4 (K+0) c4) (K+0) (arcRow (L++(a.fins.take 0).map (fun x=>eps (1+x.s) 0 x.w))) by rw[← hW5];simpa using ownsRow_setCell_below HO4.o (by simpa using hOb2) _);have HBO5:=zh (show Blk W5 O 25 #[.int .i64 (1+sa),.slice A4 (K+0) c4,.slice (some ⟨G,0,none⟩) 1 1] by rw[← hW5];exact bO4.set_ 1 _);have HBA5:=zh (show Blk W5 w.heap.size 25 #[.int .i64 sa,.slice A n c,.slice AF nf cf] by rw[← hW5];exact bA4.far (by dsimp only;omega) _);have HBR5:=zh (show Blk W5 (w.heap.size+1) 25 #[.int .i64 0,.slice none 0 0,.slice none 0 0] by rw[← hW5];exact bR4.far (by dsimp only;omega) _);have HBF5:=zh (show Blk W5 (w.heap.size+1+1) 28 #[.int .i64 0,.int .i64 0] by rw[← hW5];exact bF4.far (by dsimp only;omega) _);have HBG5:=zh (show Blk W5 G 69 #[.int .i64 0,.int .i64 0] by rw[← hW5];exact bG4.far (by dsimp only;omega) _);have HBW5:=zh (show Below w.heap.size w W5 by rw[← hW5];exact HBW4.o.setCell (by dsimp only;omega) _);have hbz5:base≤W5.heap.size:=by rw[← hW5];simp[World.setCell];omega
 have HOL:=zh (⟨A4,c4,HBO5.o,HO5.o⟩:∃ A c,Blk W5 O 25 #[.int .i64 (1+sa),.slice A (K+0) c,.slice (some ⟨G,0,none⟩) 1 1]∧W5.ownsRow base 64 5 (.slice A (K+0) c) (K+0) (arcRow (L++(a.fins.take 0).map (fun x=>eps (1+x.s) 0 x.w))));clear hW5 hK hL bO4 bA4 bR4 bF4 bG4 HO4 HBW4 o1 fo1 lO4 HO5 HBO5;have x2:=HBA5.o.cell 2;simp at x2;have lA:=HBA5.o.lt;go_wp2
 go_loopw [38] (fun iv wr=>∃ k:Nat,k≤nf∧iv=.int .i64 k∧Hid (∃ A c,Blk wr O 25 #[.int .i64 (1+sa),.slice A (K+k) c,.slice (some ⟨G,0,none⟩) 1 1]∧wr.ownsRow base 64 5 (.slice A (K+k) c) (K+k) (arcRow (L++(a.fins.take k).map (fun x=>eps (1+x.s) 0 x.w))))∧Hid (Below O W5 wr)∧base≤wr.heap.size) (fun iv _=>nf-(intOf iv).toNat)
 case atStart=>exact⟨0,by omega,rfl,HOL,zh (Below.refl _ _),hbz5⟩
 case round =>
  clear x2 lA HOL;obtain⟨k,hk,rfl,HOL,HBL,hz⟩:=hrel;obtain⟨A5,c5,bO5,hown5⟩:=HOL.o;have lO:=bO5.lt;have o1:=bO5.cell 1;simp at o1;have HBKO:=zh bO5;have HOWN:=zh hown5;have hlow:∀ q,(Value.slice A5 (K+k) c5).ownBlock=some q→base≤q:=fun q hq=>(hown5.lt q hq).1
  have HLOW:=zh hlow;have hneO:(Value.slice A5 (K+k) c5).ownBlock≠some O:=fun e=>by have:=hlow _ e;omega
  clear hlow HOL bO5 hown5;by_cases hkn:k<nf
  ·obtain⟨bb,off,x,rfl,hbB,d0,d1,HX⟩:=zAQ ((HFA.o.below HBW5.o hB).below HBL.o (by have:=HBW5.o.size;omega)) hkn;(have hkl:k<a.fins.length:=by rw[HF.o];exact hkn);obtain⟨r0,r1⟩:=HSA.o x (by rw[← HX.o];simp[List.getD,hkl]);(have lb:bb<wr.heap.size:=by omega);have HTK:=zh (zGm hkl HX.o);go_wp2_with (at_builtin;refine wpList_append_own _ rfl (.tmp 43) (.tmp 50) 22 rfl base 64 ia _ 5 40 Try.underlying22 ha0 ha1 ha2 ha3 rfl (by omega) (.slice A5 (K+k) c5) (K+k) _ rfl ((HOWN.o.alloc _).alloc _) ⟨wr.heap.size+1,0,none⟩ 1 1 (arcRow [eps (1+x.s) 0 x.w]) rfl (by rfl) (World.news_of_block (cs:=(arcRow [eps (1+x.s) 0 x.w]).toArray) (t:=64) (fr:=(0,0)) (wAb (by simp))) (zAq _) (by simp only[maxLen];omega) (by omega) (by simp;omega) ?_;intro v' w6 hown2 hg2 _;obtain⟨Av,cv,rfl,hkcv,_⟩:=zAa hown2;have o1':=zAf hg2 hneO (o:=1) (v:=.slice A5 (K+k) c5) (by go_simp);have bO6:=((HBKO.o.alloc _).alloc _).grown hg2 (Ne.symm hneO);have of1':=bO6.frozen 1;have lO6:=bO6.lt);have hs6:=hg2.size;simp at hs6;go_roundw
   case rel=>exact⟨k+1,by omega,by go_num,zh ⟨Av,cv,by simpa[wAp] using bO6.set_ 1 (.slice Av (K+k+1) cv),ownsRow_setCell_below (by
    rw[HTK.o,List.map_append,← List.append_assoc,zAu]
    simpa[wAp] using hown2) (by simpa using hOb2) _⟩,zh ((((HBL.o.alloc (by omega) _).alloc (by simp;omega) _).grown hg2 (by simp;omega) (fun q hq=>by have:=HLOW.o q hq;omega)).setCell (by simp) _),by simp[World.setCell];omega⟩
   case measure=>simp[intOf];omega
  ·(obtain rfl:k=nf:=by omega);have hend:a.fins.take k=a.fins:=List.take_of_length_le (by rw[HF.o];exact wAa _);have hown:=HOWN.o;rw[hend] at hown;obtain⟨L2,hL2⟩:∃ L2:List Arc,L2=L++a.fins.map (fun x=>eps (1+x.s) 0 x.w):=⟨_,rfl⟩;rw[← hL2] at hown;have HO6:=zh (zTa hown (show G≤base by omega));have HBR:=zh (HBR5.o.below HBL.o (by omega));have HBF:=zh (HBF5.o.below HBL.o (by omega));have HFG:=zh (zTv (HBG5.o.below HBL.o (by omega)));have HBW6:=zh (HBW5.o.trans (HBL.o.mono (by omega)));have o0:=HBKO.o.cell 0;have o2:=HBKO.o.cell 2;simp at o0 o2;(have hLU:L2=starArcs a:=by rw[hL2,HL.o,HL1.o];rfl);(have hLK:L2.length=K+k:=by have h:=HF.o;rw[hL2,HL.o,HK.o];simp only[List.length_append,List.length_map];omega);(have hnd:L2.Nodup:=by rw[hLU];exact zRZ HVA.o);have HFIN:=zh (zS6 (1+sa) L2 [⟨0,0⟩] (K+k) 1 G (.slice A5 (K+k) c5) (.slice (some ⟨G,0,none⟩) 1 1) wr (by omega) hLK (by omega) hnd (by omega) rfl (by omega) HO6.o HFG.o);have HLU:=zh hLU;have HLK:=zh hLK;clear hend hown hL2 hLU hLK hnd HOWN HBA5 HBR5 HBF5;go_wp2_with fail;refine HFIN.o.mono ?_;rintro e w10 ⟨v10,rfl,hM,hb10⟩;obtain⟨A10,n10,c10,AF10,nf10,cf10,rfl⟩:=zBd hM;have bR10:=HBR.o.below hb10 (by omega);have bF10:=HBF.o.below hb10 (by omega);have hbw10:=HBW6.o.trans (hb10.mono (by omega));have HM:=zh hM;have q0:=bR10.cell 0;have q1:=bR10.cell 1;have q2:=bR10.cell 2;have q3:=bF10.cell 0;have q4:=bF10.cell 1;have qf:=bR10.frozen 0;have qf1:=bR10.frozen 1;have qf2:=bR10.frozen 2;have qf3:=bF10.frozen 0;have qf4:=bF10.frozen 1;simp at q0 q1 q2 q3 q4;have lR:=bR10.lt;have lF:=bF10.lt;have HEK:=zh (show finF (1+sa) (K+k)=finF (1+sa) (starArcs a).length by rw[← HLK.o,HLU.o]);clear hM hb10 HFIN o0 o1 o2 lO bR10 bF10;go_wp2;rw[← HEK.o];refine bodyPost_ret (v:=.tuple #[.agg #[.int .i64 (finM (1+sa) L2 [⟨0,0⟩]).n,.slice A10 n10 c10,.slice AF10 nf10 cf10],.agg #[.int .i64 (finF (1+sa) (K+k)).1,.int .i64 (finF (1+sa) (K+k)).2]]) (by simp[results,Try.results63,go_sem,lR,lF,q0,q1,q2,q3,q4,qf,qf1,qf2,qf3,qf4]) rfl ⟨_,rfl,?_,?_⟩
   ·(have e:finM (1+sa) (starArcs a) [⟨0,0⟩]=finM (1+sa) L2 [⟨0,0⟩]:=by rw[HLU.o]);rw[e];refine MachNew.mono (lo:=G) ?_ (by omega);refine MachNew.set (MachNew.set (MachNew.set (MachNew.set (MachNew.set HM.o ?_ _) ?_ _) ?_ _) ?_ _) ?_ _<;>(dsimp only;omega)
   · refine wAd (wAd (wAd (wAd (wAd hbw10 ?_ _) ?_ _) ?_ _) ?_ _) ?_ _<;>(dsimp only;omega)
theorem zTN (va:Value) (a:Mach) (w:World) (B:Nat) (hB:B≤w.heap.size) (ha:MachAt w B va a) :
 Calls Try.prog 63 #[va] w fun e w'=>∃ v',e=.returned (.tuple #[v',.agg #[.int .i64 (starF a).1,.int .i64 (starF a).2]])∧MachNew w.heap.size w' v' (starR a)∧Below w.heap.size w w':=by
 by_cases hz:validate a=(0,0)
 ·have e1:starF a=finF (1+a.n) (starArcs a).length:=by unfold starF;rw[if_pos hz]
  have e2:starR a=finM (1+a.n) (starArcs a) [⟨0,0⟩]:=by unfold starR;rw[if_pos hz]
  rw[e1,e2];exact zTB va a w B hB ha hz
 ·have e1:starF a=validate a:=by unfold starF;rw[if_neg hz]
  have e2:starR a=emptyM:=by unfold starR;rw[if_neg hz]
  rw[e1,e2];exact (zTL va a w B hB ha hz).mono fun e w' ⟨he,hb⟩=>⟨_,he,MachNew.empty _ _,hb⟩
def fourM:Mach:=⟨1,[],[⟨0,4⟩]⟩
theorem zTT:uniF fourM emptyM=(0,0):=by decide
theorem zTV:uniR fourM emptyM=⟨2,[⟨0,1,0,0,0⟩],[⟨1,4⟩]⟩:=by decide
theorem zTR:catF fourM fourM=(0,0):=by decide
theorem zTQ:catR fourM fourM=⟨2,[⟨0,1,0,0,4⟩],[⟨1,4⟩]⟩:=by decide
theorem zTU:starF fourM=(0,0):=by decide
theorem zTS:starR fourM=⟨2,[⟨0,1,0,0,0⟩,⟨1,0,0,0,4⟩],[⟨0,0⟩]⟩:=by decide
theorem zTh {w:World} {g:Nat} (h:Blk w g 69 #[.int .i64 0,.int .i64 4]):MachNew g w (.agg #[.int .i64 1,.slice none 0 0,.slice (some ⟨g,0,none⟩) 1 1]) fourM:=fun W hs hag=>by
 have hb:Blk W g 69 #[.int .i64 0,.int .i64 4]:=(hag g (wAa _) h.lt).trans h
 exact⟨none,some ⟨g,0,none⟩,0,0,1,1,rfl,zh rfl,zh rfl,wAa _,wAa _,by simp[big],by simp[big],Rd.zero,fun _=>⟨g,0,rfl,hb.lt,fun i j hi hj=>by
  obtain rfl:i=0:=by omega
  rcases (by omega:j=0∨j=1) with rfl | rfl
  · exact hb.cell 0
  · exact hb.cell 1⟩⟩
theorem zTu (va vb:Value) (w:World) (B:Nat) (hB:B≤w.heap.size) (ha:MachAt w B va fourM) (hb:MachAt w B vb emptyM) :
 Calls Try.prog 31 #[va,vb] w fun e w'=>∃ v',e=.returned (.tuple #[v',.agg #[.int .i64 0,.int .i64 0]])∧MachNew w.heap.size w' v' ⟨2,[⟨0,1,0,0,0⟩],[⟨1,4⟩]⟩∧Below w.heap.size w w':=by
 have h:=zS4 va vb fourM emptyM w B hB ha hb;rw[zTT,zTV] at h;exact h
theorem zTM (va vb:Value) (w:World) (B:Nat) (hB:B≤w.heap.size) (ha:MachAt w B va fourM) (hb:MachAt w B vb fourM) :
 Calls Try.prog 62 #[va,vb] w fun e w'=>∃ v',e=.returned (.tuple #[v',.agg #[.int .i64 0,.int .i64 0]])∧MachNew w.heap.size w' v' ⟨2,[⟨0,1,0,0,4⟩],[⟨1,4⟩]⟩∧Below w.heap.size w w':=by
 have h:=zTw va vb fourM fourM w B hB ha hb;rw[zTR,zTQ] at h;exact h
theorem zTF (va:Value) (w:World) (B:Nat) (hB:B≤w.heap.size) (ha:MachAt w B va fourM) :
 Calls Try.prog 63 #[va] w fun e w'=>∃ v',e=.returned (.tuple #[v',.agg #[.int .i64 0,.int .i64 0]])∧MachNew w.heap.size w' v' ⟨2,[⟨0,1,0,0,0⟩,⟨1,0,0,0,4⟩],[⟨0,0⟩]⟩∧Below w.heap.size w w':=by
 have h:=zTN va fourM w B hB ha;rw[zTU,zTS] at h;exact h
theorem zTl (w:World):Calls Try.prog 30 #[] w fun e w'=>e=.returned (.bool true)∧Below w.heap.size w w':=by
 have hne:=fun a b c d W=>zAn a b c d W
 have hf0:fEq 0 0 0 0=true:=rfl
 go_enter Try.func30,Try.ntmps30
 go_wp2_with fail;generalize hW:World.alloc _ _=W0;have HG:=zh (show Blk W0 w.heap.size 69 #[.int .i64 0,.int .i64 4] by rw[← hW];exact (Blk.new _ _ _).alloc _);have HM:=zh (show Blk W0 (w.heap.size+1) 25 #[.int .i64 1,.slice none 0 0,.slice (some ⟨w.heap.size,0,none⟩) 1 1] by rw[← hW];exact wAb (by simp));have HB0:=zh (show Below w.heap.size w W0 by rw[← hW];go_grown);clear hW;refine (zTu _ _ W0 W0.heap.size (wAa _) (zTh HG.o).at_ (MachAt.empty _ _)).mono ?_;rintro e w1 ⟨v1,rfl,hM1,hb1⟩;obtain⟨A1,n1,c1,AF1,nf1,cf1,rfl⟩:=zBd hM1;have HM1:=zh hM1;have bM:=HM.o.below hb1 HM.o.lt;have HG1:=zh (HG.o.below hb1 HG.o.lt);have HB1:=zh (HB0.o.trans (hb1.mono HB0.o.size));have x0:=bM.cell 0;have x1:=bM.cell 1;have x2:=bM.cell 2;simp at x0 x1 x2;have xl:=bM.lt;have xl2:=wAc xl;have HMB:=zh bM;clear hM1 hb1 bM HM HG HB0;go_wp2_with fail;refine (zTM _ _ _ _ (wAa _) (zTh ((HG1.o.alloc _).alloc _)).at_ (zTh ((HG1.o.alloc _).alloc _)).at_).mono ?_;rintro e w2 ⟨v2,rfl,hM2,hb2⟩;obtain⟨A2,n2,c2,AF2,nf2,cf2,rfl⟩:=zBd hM2;have HM2:=zh hM2;have bU1:Blk w2 w1.heap.size 25 #[.int .i64 2,.slice A1 n1 c1,.slice AF1 nf1 cf1]:=((wAb rfl).alloc _).below hb2 (by simp;omega);have bF1:Blk w2 (w1.heap.size+1) 28 #[.int .i64 0,.int .i64 0]:=(wAb (by simp)).below hb2 (by simp);have bM:=((HMB.o.alloc _).alloc _).below hb2 (by have:=HMB.o.lt;simp;omega);have HG2:=zh (((HG1.o.alloc _).alloc _).below hb2 (by have:=HG1.o.lt;simp;omega));have HM1':=zh (((HM1.o.alloc _).alloc _).below hb2 (wAa _));have HB2:=zh (((HB1.o.alloc HB1.o.size _).alloc (by have:=HB1.o.size;simp;omega) _).trans (hb2.mono (by have:=HB1.o.size;simp;omega)));clear x0 x1 x2 xl xl2 hM2 hb2 HG1 HB1 HMB HM1;have x0:=bM.cell 0;have x1:=bM.cell 1;have x2:=bM.cell 2;simp at x0 x1 x2;have xl:=bM.lt;have xl2:=wAc xl;have hl12:=bF1.lt;clear bM;go_wp2_with fail;refine (zTF _ _ _ (wAa _) (zTh ((HG2.o.alloc _).alloc _)).at_).mono ?_;rintro e w3 ⟨v3,rfl,hM3,hb3⟩;obtain⟨A3,n3,c3,AF3,nf3,cf3,rfl⟩:=zBd hM3;have bU2:Blk w3 w2.heap.size 25 #[.int .i64 2,.slice A2 n2 c2,.slice AF2 nf2 cf2]:=((wAb rfl).alloc _).below hb3 (by simp;omega);have bF2:Blk w3 (w2.heap.size+1) 28 #[.int .i64 0,.int .i64 0]:=(wAb (by simp)).below hb3 (by simp);have bU1:=((bU1.alloc _).alloc _).below hb3 (by have:=bU1.lt;simp;omega);have bF1:=((bF1.alloc _).alloc _).below hb3 (by have:=bF1.lt;simp;omega);have HM1:=zh (((HM1'.o.alloc _).alloc _).below hb3 (wAa _));have HM2':=zh (((HM2.o.alloc _).alloc _).below hb3 (wAa _));have HB3:=zh (((HB2.o.alloc HB2.o.size _).alloc (by have:=HB2.o.size;simp;omega) _).trans (hb3.mono (by have:=HB2.o.size;simp;omega)));have HM3:=zh hM3;have hl23:=bF2.lt;clear x0 x1 x2 xl xl2 hM3 hb3 HG2 HB2 HM1' HM2;have f10:=bF1.cell 0;have f11:=bF1.cell 1;have f20:=bF2.cell 0;have f21:=bF2.cell 1;simp at f10 f11 f20 f21;have l1:=bF1.lt
 have l2:=bF2.lt;have l1':=wAc l1;have l2':=wAc l2;go_upto_region 7 with fail
 generalize hW4:World.alloc _ _=W4;have HU1:=zh (show Blk W4 w1.heap.size 25 #[.int .i64 2,.slice A1 n1 c1,.slice AF1 nf1 cf1] by rw[← hW4];exact (bU1.alloc _).alloc _);have HU2:=zh (show Blk W4 w2.heap.size 25 #[.int .i64 2,.slice A2 n2 c2,.slice AF2 nf2 cf2] by rw[← hW4];exact (bU2.alloc _).alloc _);have HU3:=zh (show Blk W4 w3.heap.size 25 #[.int .i64 2,.slice A3 n3 c3,.slice AF3 nf3 cf3] by rw[← hW4];exact (wAb rfl).alloc _);have HN1:=zh (show MachNew W0.heap.size W4 (.agg #[.int .i64 2,.slice A1 n1 c1,.slice AF1 nf1 cf1]) (⟨2,[⟨0,1,0,0,0⟩],[⟨1,4⟩]⟩:Mach) by rw[← hW4];exact (HM1.o.alloc _).alloc _);have HN2:=zh (show MachNew _ W4 (.agg #[.int .i64 2,.slice A2 n2 c2,.slice AF2 nf2 cf2]) (⟨2,[⟨0,1,0,0,4⟩],[⟨1,4⟩]⟩:Mach) by rw[← hW4];exact (HM2'.o.alloc _).alloc _);have HN3:=zh (show MachNew _ W4 (.agg #[.int .i64 2,.slice A3 n3 c3,.slice AF3 nf3 cf3]) (⟨2,[⟨0,1,0,0,0⟩,⟨1,0,0,0,4⟩],[⟨0,0⟩]⟩:Mach) by rw[← hW4];exact (HM3.o.alloc _).alloc _);have HB4:=zh (show Below w.heap.size w W4 by rw[← hW4];exact (HB3.o.alloc HB3.o.size _).alloc (by have:=HB3.o.size;simp;omega) _);clear hW4 bU1 bU2 bF1 bF2 HM1 HM2' HM3 HB3 f10 f11 f20 f21 l1 l2 l1' l2' hl12 hl23;have u0:=HU1.o.cell 0;have u1:=HU1.o.cell 1;have u2:=HU1.o.cell 2;simp at u0 u1 u2;have ul:=HU1.o.lt;go_wp2_with fail;refine (zA2 _ _ (⟨2,[⟨0,1,0,0,0⟩],[⟨1,4⟩]⟩:Mach) (⟨2,[⟨0,1,0,0,0⟩],[⟨1,4⟩]⟩:Mach) _ _ (wAa _) ((HN1.o.alloc _).alloc _).at_ (MachNew.of_blk (lo:=W4.heap.size) (m:=(⟨2,[⟨0,1,0,0,0⟩],[⟨1,4⟩]⟩:Mach)) (eA:=64) (eF:=69) ((wAb (by simp)).alloc _) (wAb (by simp)) (wAa _) (by omega) (by decide) (by decide)).at_).mono ?_;rintro e w5 ⟨rfl,hb5⟩;have hd:decide ((⟨2,[⟨0,1,0,0,0⟩],[⟨1,4⟩]⟩:Mach)=(⟨2,[⟨0,1,0,0,0⟩],[⟨1,4⟩]⟩:Mach))=true:=by decide
 rw[hd];have HU2':=zh (((HU2.o.alloc _).alloc _).below hb5 (by have:=HU2.o.lt;simp;omega));have HU3':=zh (((HU3.o.alloc _).alloc _).below hb5 (by have:=HU3.o.lt;simp;omega));have HN2':=zh (((HN2.o.alloc _).alloc _).below hb5 (wAa _));have HN3':=zh (((HN3.o.alloc _).alloc _).below hb5 (wAa _));have HB5:=zh (((HB4.o.alloc HB4.o.size _).alloc (by have:=HB4.o.size;simp;omega) _).trans (hb5.mono (by have:=HB4.o.size;simp;omega)));clear hb5 hd u0 u1 u2 ul HU1 HU2 HU3 HN1 HN2 HN3 HB4;have u0:=HU2'.o.cell 0;have u1:=HU2'.o.cell 1;have u2:=HU2'.o.cell 2;simp at u0 u1 u2;have ul:=HU2'.o.lt;go_wp2_with fail;refine (zA2 _ _ (⟨2,[⟨0,1,0,0,4⟩],[⟨1,4⟩]⟩:Mach) (⟨2,[⟨0,1,0,0,4⟩],[⟨1,4⟩]⟩:Mach) _ _ (wAa _) ((HN2'.o.alloc _).alloc _).at_ (MachNew.of_blk (lo:=w5.heap.size) (m:=(⟨2,[⟨0,1,0,0,4⟩],[⟨1,4⟩]⟩:Mach)) (eA:=64) (eF:=69) ((wAb (by simp)).alloc _) (wAb (by simp)) (wAa _) (by omega) (by decide) (by decide)).at_).mono ?_;rintro e w6 ⟨rfl,hb6⟩;have hd:decide ((⟨2,[⟨0,1,0,0,4⟩],[⟨1,4⟩]⟩:Mach)=(⟨2,[⟨0,1,0,0,4⟩],[⟨1,4⟩]⟩:Mach))=true:=by decide
 rw[hd];have HU3:=zh (((HU3'.o.alloc _).alloc _).below hb6 (by have:=HU3'.o.lt;simp;omega));have HN3:=zh (((HN3'.o.alloc _).alloc _).below hb6 (wAa _));have HB6:=zh (((HB5.o.alloc HB5.o.size _).alloc (by have:=HB5.o.size;simp;omega) _).trans (hb6.mono (by have:=HB5.o.size;simp;omega)));clear hb6 hd u0 u1 u2 ul HU2' HU3' HN2' HN3' HB5;have u0:=HU3.o.cell 0;have u1:=HU3.o.cell 1;have u2:=HU3.o.cell 2;simp at u0 u1 u2;have ul:=HU3.o.lt;go_wp2_with fail;refine (zA2 _ _ (⟨2,[⟨0,1,0,0,0⟩,⟨1,0,0,0,4⟩],[⟨0,0⟩]⟩:Mach) (⟨2,[⟨0,1,0,0,0⟩,⟨1,0,0,0,4⟩],[⟨0,0⟩]⟩:Mach) _ _ (wAa _) ((HN3.o.alloc _).alloc _).at_ (MachNew.of_blk (lo:=w6.heap.size) (m:=(⟨2,[⟨0,1,0,0,0⟩,⟨1,0,0,0,4⟩],[⟨0,0⟩]⟩:Mach)) (eA:=64) (eF:=69) ((wAb (by simp)).alloc _) (wAb (by simp)) (wAa _) (by omega) (by decide) (by decide)).at_).mono ?_;rintro e w7 ⟨rfl,hb7⟩;have hd:decide ((⟨2,[⟨0,1,0,0,0⟩,⟨1,0,0,0,4⟩],[⟨0,0⟩]⟩:Mach)=(⟨2,[⟨0,1,0,0,0⟩,⟨1,0,0,0,4⟩],[⟨0,0⟩]⟩:Mach))=true:=by decide
 rw[hd];have HB7:=zh (((HB6.o.alloc HB6.o.size _).alloc (by have:=HB6.o.size;simp;omega) _).trans (hb7.mono (by have:=HB6.o.size;simp;omega)));clear hb7 hd u0 u1 u2 ul HU3 HN3 HB6;go_wp2
 go_ret
 exact⟨rfl,HB7.o⟩
end Go.Proofs.Ytkfdhpbnphojoaa
namespace Gm
open Go
def updR {α:Type} (f:Nat→α) (i:Nat) (x:α):Nat→α:=fun k=>if k=i then x else f k
theorem zLP {α:Type} (f:Nat→α) (i:Nat) (x:α):updR f i x i=x:=by simp[updR]
theorem zJw {α:Type} (f:Nat→α) {i k:Nat} (x:α) (h:k≠i):updR f i x k=f k:=by simp[updR,h]
def putR:List Oper→Nat→(Nat→Value)→Act→Act
 | [],_,_,a=>a
 | o::os,n,v,a=>putR os (n+1) v (a.put o.dst (v n))
theorem zO2 (os:List Oper):∀ (n:Nat) (v:Nat→Value) (a:Act) (d:Option Tmp) (u:Value),
 (∀ o∈os,∀ t,d=some t→o.dst≠some t)→(putR os n v a).put d u=putR os n v (a.put d u):=by
 induction os with
 | nil=>intro n v a d u _;rfl
 | cons o os ih =>
  intro n v a d u h
  show (putR os (n+1) v (a.put o.dst (v n))).put d u=putR os (n+1) v ((a.put d u).put o.dst (v n))
  rw[ih _ _ _ _ _ (fun o' ho'=>h o' (List.mem_cons_of_mem _ ho')),Act.put_comm a u (v n) (fun t ht=>h o List.mem_cons_self t ht)]
theorem zO1 (a:Act) (d:Option Tmp) (x y:Value):(a.put d x).put d y=a.put d y:=by
 cases d with
 | none=>rfl
 | some t=>simp[Act.put]
theorem zPB (os:List Oper):∀ (n:Nat) (v v':Nat→Value) (a:Act),(∀ k,n≤k→v k=v' k)→putR os n v a=putR os n v' a:=by
 induction os with
 | nil=>intro n v v' a _;rfl
 | cons o os ih =>
  intro n v v' a h
  show putR os (n+1) v (a.put o.dst (v n))=putR os (n+1) v' (a.put o.dst (v' n))
  rw[h n (wAa _),ih _ v v' _ (fun k hk=>h k (by omega))]
def dstsB:List Oper→Bool
 | []=>true
 | o::os=>(match o.dst with | some t=>os.all (fun o'=>o'.dst != some t) | none=>true)&&dstsB os
theorem zOV (os:List Oper):∀ (n i:Nat) (v:Nat→Value) (a:Act) (o:Oper) (u:Value),dstsB os=true→os[i]? = some o →
 (putR os n v a).put o.dst u=putR os n (updR v (n+i) u) a:=by
 induction os with
 | nil=>intro n i v a o u _ h;cases h
 | cons o os ih =>
  intro n i v a o' u hd h
  have hd':dstsB os=true:=by
   unfold dstsB at hd;rw[wAl] at hd;exact hd.2
  cases i with
  | zero =>
   (injection h with h);subst h
   show (putR os (n+1) v (a.put o.dst (v n))).put o.dst u=putR os (n+1) (updR v n u) (a.put o.dst (updR v n u n))
   rw[zO2 _ _ _ _ _ _ (fun o' ho' t ht=>by
    unfold dstsB at hd;rw[wAl,ht] at hd
    have:=wAm.1 hd.1 o' ho'
    simpa using this),zO1,zLP]
   exact zPB _ _ _ _ _ (fun k hk=>(zJw v u (by omega)).symm)
  | succ i =>
   have h':os[i]? = some o':=h
   show (putR os (n+1) v (a.put o.dst (v n))).put o'.dst u=putR os (n+1) (updR v (n+(i+1)) u) (a.put o.dst (updR v (n+(i+1)) u n))
   rw[ih (n+1) i v _ o' u hd' h',zJw v u (by omega),show n+1+i=n+(i+1) by omega]
theorem zNK (a:Act) (d:Option Tmp):a.put d (match d with | some t=>a.tmps.getD t undef | none=>undef)=a:=by
 cases d with
 | none=>rfl
 | some t =>
  obtain⟨ts,ds⟩:=a;simp only[Act.put];congr 1;apply Array.ext
  · simp
  ·intro i h1 h2;by_cases e:t=i
   · subst e;simp[h2]
   · rw[Array.getElem_setIfInBounds_ne h2 e]
def valR (os:List Oper) (a:Act) (k:Nat):Value:=match (os[k]?).bind (·.dst) with | some t=>a.tmps.getD t undef | none=>undef
theorem zIQ (a:Act) (os:List Oper):∀ (n:Nat) (v:Nat→Value),(∀ k o,os[k]? = some o→v (n+k)=(match o.dst with | some t=>a.tmps.getD t undef | none=>undef))→putR os n v a=a:=by
 induction os with
 | nil=>intro n v _;rfl
 | cons o os ih =>
  intro n v h
  show putR os (n+1) v (a.put o.dst (v n))=a
  rw[show v n=_ from h 0 o rfl,zNK];exact ih (n+1) v (fun k o' ho'=>by rw[show n+1+k=n+(k+1) by omega];exact h (k+1) o' ho')
def CloR (os:List Oper) (l:Nat→Bool):Prop:=∀ k o,os[k]? = some o→l k=true→∀ e∈o.after,Region.binds .any e=true→l e.on=true
theorem CloR.step {os:List Oper} {l:Nat→Bool} (h:CloR os l) {i:Nat} {o:Oper} (ho:os[i]? = some o) (hd:∀ e∈o.after,Region.binds .any e=true→l e.on=true):CloR os (updR l i true):=by
 intro k o' hk hl e he hb
 have h1:l e.on=true:=by
  by_cases g:k=i
  ·subst g;rw[ho] at hk;(injection hk with hk);subst hk;exact hd e he hb
  ·rw[zJw _ _ g] at hl;exact h k o' hk hl e he hb
 unfold updR;split
 · rfl
 · exact h1
def StepR (P:Program) (Q:Exit→Act→World→Prop) (F:(Nat→Bool)→(Nat→Value)→World→Prop) (A:(Nat→Value)→Act) (ops:Array Oper) (i:Nat) (o:Oper):Prop :=
 ∀ (l:Nat→Bool) (v:Nat→Value) (w:World),l i=false→(∀ e∈o.after,Region.binds .any e=true→l e.on=true)→CloR ops.toList l→F l v w →
  ∀ K:Act→World→Prop,Shut (∀ u w',F (updR l i true) (updR v i u) w'→K ((A v).put o.dst u) w') →
   if Region.wanted o (yielded ops (A v).tmps)=true then Oper.wp P o (A v) w K Q else K ((A v).put o.dst undef) w
def StepsR (P:Program) (Q:Exit→Act→World→Prop) (F:(Nat→Bool)→(Nat→Value)→World→Prop) (A:(Nat→Value)→Act) (ops:Array Oper):Nat→List Oper→Prop
 | _,[]=>True
 | n,o::os=>StepR P Q F A ops n o∧StepsR P Q F A ops (n+1) os
theorem StepsR.cons {P:Program} {Q:Exit→Act→World→Prop} {F:(Nat→Bool)→(Nat→Value)→World→Prop} {A:(Nat→Value)→Act} {ops:Array Oper} {n:Nat} {o:Oper} {os:List Oper} (h:StepR P Q F A ops n o) (hs:StepsR P Q F A ops (n+1) os):StepsR P Q F A ops n (o::os):=⟨h,hs⟩
theorem StepsR.at_ {P:Program} {Q:Exit→Act→World→Prop} {F:(Nat→Bool)→(Nat→Value)→World→Prop} {A:(Nat→Value)→Act} {ops:Array Oper} : ∀ (os:List Oper) (n:Nat),StepsR P Q F A ops n os→∀ i o,os[i]? = some o→StepR P Q F A ops (n+i) o
 | [],_,_,i,o,h=>by cases h
 | o::os,n,hs,0,o',h=>by injection h with h;subst h;exact hs.1
 | o::os,n,hs,i+1,o',h=>by
  have:=StepsR.at_ os (n+1) hs.2 i o' h
  rw[show n+1+i=n+(i+1) by omega] at this;exact this
theorem zEC {L:Array Bool} {i:Nat} (h:L.getD i true=false):i<L.size:=by
 rcases wAq i L.size with g | g
 · exact g
 · simp[wAh g] at h
theorem zLO {P:Program} {os:List Oper} {Q:Exit→Act→World→Prop} {F:(Nat→Bool)→(Nat→Value)→World→Prop} {A:(Nat→Value)→Act} {a0:Act}
 (hA:∀ v,putR os 0 v a0=A v) (hd:dstsB os=true) (hsteps:StepsR P Q F A os.toArray 0 os)
 (hend:∀ l v w,(∀ k,k<os.length→l k=true)→F l v w→Q .normal (A v) w) :
 ∀ (fuel:Nat) (L:Array Bool) (v:Nat→Value) (w:World) (hready:wAe .any os.toArray L=[]→∀ k,k<os.length→L.getD k true=true) (hsz:L.size=os.length)
  (hmore:∀ L':Array Bool,L'.size=os.length→wAe .any os.toArray L'=[]→∀ k,k<os.length→L'.getD k true=true)
  (hcount:(L.toList.filter (fun b => !b)).length≤fuel) (hcl:CloR os (fun k=>L.getD k true)),
  F (fun k=>L.getD k true) v w→wpAny P .any os.toArray Q fuel L (A v) w:=by
 have hfin:∀ (L:Array Bool) (v:Nat→Value) (w:World),(∀ k,k<os.length→L.getD k true=true)→F (fun k=>L.getD k true) v w→Q .normal (A v) w:=fun L v w h hF=>hend _ v w h hF
 intro fuel
 induction fuel with
 | zero =>
  intro L v w hready hsz hmore hcount hcl hF
  have hall:∀ k,k<os.length→L.getD k true=true:=by
   intro k hk;by_cases e:L.getD k true=true
   · exact e
   ·exfalso;(have hk':k<L.size:=by omega);have e2:L[k]=false:=by simpa[wAg,hk'] using e
    have:false∈L.toList.filter (fun b => !b):=List.mem_filter.2 ⟨by rw[← e2];exact Array.getElem_mem_toList hk',rfl⟩
    have:=List.length_pos_of_mem this
    omega
  refine⟨?_,hfin L v w hall hF⟩;unfold wAe;rw[List.filter_eq_nil_iff];intro i hi;have hi':i<os.length:=by simpa using wAo.1 hi
  rw[hall i hi'];simp
 | succ fuel ih =>
  intro L v w hready hsz hmore hcount hcl hF;refine⟨fun hr=>hfin L v w (hready hr) hF,fun i hi=>?_⟩;obtain⟨hun,o,ho,hall⟩:=mem_ready.1 hi;have ho':os[i]? = some o:=by simpa using ho
  have hil:i<L.size:=zEC hun;refine wpOp_step ho (fun K hK=>?_);have hst:=StepsR.at_ os 0 hsteps i o ho';rw[wAk] at hst
  have hdn:∀ e∈o.after,Region.binds .any e=true→L.getD e.on true=true:=fun e he hb=>by
   have:=hall e he hb
   rcases wAq e.on L.size with g | g
   · simpa[wAg,g] using this
   · simp[wAh g] at this
  have hfun:(fun k=>(L.setIfInBounds i true).getD k true)=updR (fun k=>L.getD k true) i true:=by
   funext k;unfold updR;by_cases e:k=i
   · subst e;simp[wAg]
   ·rw[if_neg e];simp[Array.getElem?_setIfInBounds,Ne.symm e]
  refine hst (fun k=>L.getD k true) v w hun hdn hcl hF K (show Shut _ from fun u w' hF'=>?_)
  ·refine hK _ _ ?_
   have hput:(A v).put o.dst u=A (updR v i u):=by
    rw[← hA v,← hA (updR v i u),zOV os 0 i v a0 o u hd ho',wAk]
   rw[hput];refine ih (L.setIfInBounds i true) (updR v i u) w' (fun hr=>hmore _ (by simp[hsz]) hr) (by simp[hsz]) hmore ?_ (by rw[hfun];exact hcl.step ho' hdn) ?_
   ·(have h1:(L.setIfInBounds i true).toList=L.toList.set i true:=by simp);rw[h1]
    have h2:L.toList[i]? = some false:=by
     have:L[i]=false:=by simpa[wAg,hil] using hun
     simp[hil,this]
    have h3:∀ (l:List Bool) (i:Nat),l[i]? = some false→((l.set i true).filter (fun b => !b)).length+1=(l.filter (fun b => !b)).length:=by
     intro l
     induction l with
     | nil=>intro i h;cases h
     | cons b l ihl =>
      intro i h
      cases i with
      | zero=>injection h with h;subst h;simp
      | succ i =>
       have:=ihl i h
       cases b
       · simp at this ⊢;omega
       · simpa using this
    have:=h3 _ _ h2
    omega
   ·rw[hfun];exact hF'
def downB (os:List Oper):Bool:=(List.range os.length).all fun i=>match os[i]? with | some o=>o.after.all (fun e => !Region.binds .any e||decide (e.on<i)) | none=>true
theorem zDf {os:List Oper} (h:downB os=true) (L:Array Bool) (hsz:L.size=os.length) (hr:wAe .any os.toArray L=[]):∀ k,k<os.length→L.getD k true=true:=by
 intro k
 induction k using Nat.strongRecOn with
 | ind k ih =>
  intro hk;by_cases e:L.getD k true=true
  · exact e
  ·exfalso;have e2:L.getD k true=false:=by simpa using e
   have hm:k∈wAe .any os.toArray L:=by
    rw[mem_ready];refine⟨e2,os[k],by simp[hk],fun ed hed hb=>?_⟩;unfold downB at h;have h1:=wAm.1 h k (wAo.2 hk);rw[List.getElem?_eq_getElem hk] at h1
    have h2:ed.on<k:=by
     have h3:=Array.all_eq_true_iff_forall_mem.1 h1 ed hed;rw[hb] at h3;simpa using h3
    have h4:=ih ed.on h2 (by omega);(have h5:ed.on<L.size:=by omega);simpa[wAg,h5] using h4
   rw[hr] at hm;cases hm
theorem zAj {P:Program} {id:Nat} {os:List Oper} {Q:Exit→Act→World→Prop} (F:(Nat→Bool)→(Nat→Value)→World→Prop) {A:(Nat→Value)→Act} {a0:Act} {w:World}
 (hA:∀ v,putR os 0 v a0=A v) (hm:P.follows .mixedOrders=true) (hd:dstsB os=true) (hdown:downB os=true)
 (h0:∀ v,F (fun k=>(wAn os.length false).getD k true) v w.drew)
 (hend:∀ l v w,(∀ k,k<os.length→l k=true)→F l v w→Q .normal (A v) w)
 (hsteps:StepsR P Q F A os.toArray 0 os):(Code.region id os.toArray true).wp P Q a0 w:=by
 refine wp_region_any hm ?_
 have h:=zLO (P:=P) (Q:=Q) (F:=F) (A:=A) (a0:=a0) hA hd hsteps hend os.toArray.size (wAn os.toArray.size false) (valR os a0) w.drew
  (fun hr=>zDf hdown _ (by simp) hr) (by simp) (fun L' h1 h2=>zDf hdown L' h1 h2)
  (by simp) (fun k o hk hl=>by
   have hk':k<os.length:=(List.getElem?_eq_some_iff.1 hk).1
   simp[hk'] at hl) (by have:=h0 (valR os a0);simpa using this)
 rw[← hA (valR os a0),zIQ a0 os 0 (valR os a0) (fun k o ho=>by
  unfold valR;rw[wAk,ho]
  rfl)] at h
 exact h
end Gm
