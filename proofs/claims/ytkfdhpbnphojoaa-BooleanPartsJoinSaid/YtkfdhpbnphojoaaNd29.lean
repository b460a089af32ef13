/- Part of the proof. -/
import Derived.Test.YtkfdhpbnphojoaaNd24
set_option linter.unusedSimpArgs false
set_option linter.unusedVariables false
set_option maxRecDepth 100000
set_option maxHeartbeats 8000000
open List renaming getD_eq_getElem?_getD→wAd,getElem?_eq_getElem→wAe,take_of_length_le→wAf,getElem?_append_left→wAh,getElem?_map→wAi,map_append→wAj,range→wAk,mem_cons_self→wAl,getElem?_append_right→wAm,findSome?_eq_none_iff→wAn,getElem?_eq_none→wAo,getElem?_range→wAp,append_assoc→wAq,length_map→wAr,mem_range→wAs,mem_map→wAt
open Nat renaming le_refl→wAa
open Go.RowKit.Below renaming setCell→wAb
open Gm.MachNew renaming empty→wAc
open Gm.Blk renaming at_→wAg
namespace Gm
open Go Go.RowKit
theorem zTK {l:List Arc} {k:Nat} {a:Arc} (hk:k<l.length) (ha:l.getD k dA=a):l.take (k+1)=l.take k++[a]:=by
 have e:l.getD k dA=l[k]:=by simp[hk]
 rw[List.take_succ_eq_append_getElem hk,← e,ha]
end Gm
namespace Go.Proofs.Ytkfdhpbnphojoaa
open Go.RowKit Gm Go.Sort Go.Shelf
theorem zS9 (m:Mach) (by_:Int) (l0:List Arc) (k0 base:Nat) (v0 vm:Value) (w:World) (hbase:base≤w.heap.size) (hm:MachAt w base vm m) (hl0:l0.length=k0) (hk0:k0≤100000) (hnb:m.arcs.length≤2000) (hr:∀ a∈m.arcs,0≤a.f∧a.f≤1000∧0≤a.t∧a.t≤1000) (hby:0≤by_∧by_≤1000)
 (h:w.ownsRow base 64 5 v0 k0 (arcRow l0)) :
 Calls Try.prog 65 #[v0,vm,.int .i64 by_] w fun e w'=>∃ v',e=.returned v'∧w'.ownsRow base 64 5 v' (k0+m.arcs.length) (arcRow (l0++m.arcs.map (shA by_)))∧Below base w w':=by
 obtain⟨AM,AF,n,c,nf,cf,rfl,HN,HF,hnc,hnfc,hnbig,hnfb,hA,hF⟩:=hm;rw[HN.o] at hnb ⊢;obtain⟨ia,ha0,ha1,ha2,ha3⟩:=info_parts zBa
 obtain⟨b0,b1⟩:=hby;have HR:=zh hr;have HA:=zh hA;have HO:=zh h;clear hr hA hF h hnbig hnfb hl0
 go_enter Try.func65,Try.ntmps65
 go_wp2;generalize hW:World.alloc _ _=W0;have HB0:=zh (show Below base w W0 by rw[← hW];exact (Below.refl _ _).alloc hbase _);have HO0:=zh (show W0.ownsRow base 64 5 v0 (k0+0) (arcRow (l0++(m.arcs.take 0).map (shA by_))) by rw[← hW];simpa using HO.o.alloc _);have hz0:base≤W0.heap.size:=by rw[← hW];simp;omega
 clear hW HO
 go_loopw [0,12] (fun v i wr=>∃ k:Nat,k≤n∧i=.int .i64 k∧Hid (wr.ownsRow base 64 5 v (k0+k) (arcRow (l0++(m.arcs.take k).map (shA by_))))∧Hid (Below base w wr)∧base≤wr.heap.size) (fun _ i _=>n-(intOf i).toNat)
 case atStart=>exact⟨0,by omega,rfl,HO0,HB0,hz0⟩
 case round =>
  clear HO0 hz0 HB0;obtain⟨k,hk,rfl,HOW,HB,hz⟩:=hrel;by_cases hkn:k<n
  ·obtain⟨b,off,a,rfl,hbB,c0,c1,c2,c3,c4,HAG⟩:=zAp (HA.o.below HB.o (wAa _)) hkn;(have lb:b<wr.heap.size:=by omega);obtain⟨r0,r1,r2,r3⟩:=HR.o a (zBN (by rw[HN.o];exact hkn) HAG.o);obtain⟨vv,hvv⟩:∃ x,x=u0:=⟨_,rfl⟩;have HTK:=zh (zTK (by rw[HN.o];exact hkn) HAG.o);go_wp2_with (at_builtin;refine wpList_append_own _ rfl (.tmp 26) (.tmp 28) 22 rfl base 64 ia _ 5 40 Try.underlying22 ha0 ha1 ha2 ha3 rfl (by omega) _ (k0+k) _ rfl ((HOW.o.alloc _).alloc _) ⟨wr.heap.size+1,0,none⟩ 1 1 (arcRow [shA by_ a]) rfl (by rfl) (World.news_of_block (cs:=(arcRow [shA by_ a]).toArray) (t:=64) (fr:=(0,0)) (wAg (by simp))) (zAq _) (by simp only[maxLen];omega) (by omega) (by simp;omega) ?_;intro v' w6 hown2 hg2 _);have hlt:=HOW.o.lt;have hs6:=hg2.size;simp at hs6;go_roundw
   case rel=>exact⟨k+1,by omega,by go_num,zh (by
    rw[HTK.o,wAj,← wAq,zAu]
    exact hown2),zh (((HB.o.alloc (by omega) _).alloc (by simp;omega) _).grown hg2 (by simp;omega) (fun k hk=>(hlt k hk).1)),by omega⟩
   case measure=>simp[intOf];omega
  ·obtain rfl:k=n:=by omega
   have HE:=zh (show wr.ownsRow base 64 5 u0 (k0+k) (arcRow (l0++m.arcs.map (shA by_))) by
    have h:=HOW.o;rw[wAf (by rw[HN.o];exact wAa _)] at h
    exact h)
   clear HOW;go_wp2
   go_ret
   exact⟨u0,rfl,HE.o,HB.o⟩
theorem fEq0R {p:Int×Int} : fEq p.1 p.2 0 0=true↔p=(0,0):=by
 unfold fEq;obtain⟨a,b⟩:=p;simp[Prod.ext_iff]
theorem zTa {w:World} {base base' sz n:Nat} {e:TypeId} {v:Value} {xs:List Value} (h:w.ownsRow base e sz v n xs) (hb:base'≤base):w.ownsRow base' e sz v n xs:=by
 refine⟨h.1,?_⟩;rcases h.2 with hn | ⟨g,cap,cur,h1,h2,h3⟩
 · exact .inl hn
 · exact .inr ⟨g,cap,cur,h1,Nat.le_trans hb h2,h3⟩
theorem zTb (l:List Fnl) (by_:Int) (base:Nat) (A:Option Addr) (n c:Nat) (w:World) (hbase:base≤w.heap.size) (hn:l.length=n) (hnb:n≤1000) (hr:∀ a∈l,0≤a.s∧a.s≤1000) (hby:0≤by_∧by_≤1000) (h:Rd w base 2 A n (finCell l)) :
 Calls Try.prog 66 #[.slice A n c,.int .i64 by_] w fun e w'=>∃ v',e=.returned v'∧w'.ownsRow w.heap.size 69 2 v' n (finRow (l.map (shF by_)))∧Below w.heap.size w w':=by
 obtain⟨iF,hF0,hF1,hF2,hF3⟩:=info_parts zB6
 obtain⟨b0,b1⟩:=hby;have HR:=zh hr;have HA:=zh h;have HN:=zh hn;clear hr h hn
 go_enter Try.func66,Try.ntmps66
 go_wp2
 go_loopw [5,10] (fun v i wr=>∃ k:Nat,k≤n∧i=.int .i64 k∧Hid (wr.ownsRow w.heap.size 69 2 v k (finRow ((l.take k).map (shF by_))))∧Hid (Below w.heap.size w wr)∧w.heap.size≤wr.heap.size) (fun _ i _=>n-(intOf i).toNat)
 case atStart=>exact⟨0,by omega,rfl,zh (World.ownsRow_nil _ _ _ _),zh (Below.refl _ _),wAa _⟩
 case round =>
  obtain⟨k,hk,rfl,HOW,HB,hz⟩:=hrel;by_cases hkn:k<n
  ·obtain⟨b,off,a,rfl,hbB,c0,c1,HAG⟩:=zAQ (HA.o.below HB.o hbase) hkn;(have lb:b<wr.heap.size:=by omega);(have hkl:k<l.length:=by rw[HN.o];exact hkn);obtain⟨r0,r1⟩:=HR.o a (by rw[← HAG.o];simp[List.getD,hkl]);have HTK:=zh (zGm hkl HAG.o);go_wp2_with (at_builtin;refine wpList_append_own _ rfl (.tmp 14) (.tmp 22) 23 rfl w.heap.size 69 iF _ 2 16 Try.underlying23 hF0 hF1 hF2 hF3 rfl (by omega) _ k _ rfl ((HOW.o.alloc _).alloc _) ⟨wr.heap.size+1,0,none⟩ 1 1 (finRow [shF by_ a]) rfl (by rfl) (World.news_of_block (cs:=(finRow [shF by_ a]).toArray) (t:=69) (fr:=(0,0)) (wAg (by simp))) (zA9 _) (by simp only[maxLen];omega) (by omega) (by simp;omega) ?_;intro v' w6 hown2 hg2 _);have hlt:=HOW.o.lt;have hs6:=hg2.size;simp at hs6;go_roundw
   case rel=>exact⟨k+1,by omega,by go_num,zh (by
    rw[HTK.o,wAj,zBO]
    exact hown2),zh (((HB.o.alloc (by omega) _).alloc (by simp;omega) _).grown hg2 (by simp;omega) (fun k hk=>(hlt k hk).1)),by omega⟩
   case measure=>simp[intOf];omega
  ·obtain rfl:k=n:=by omega
   have HE:=zh (show wr.ownsRow w.heap.size 69 2 u5 k (finRow (l.map (shF by_))) by
    have h:=HOW.o;rw[wAf (by rw[HN.o];exact wAa _)] at h
    exact h)
   clear HOW;go_wp2
   go_ret
   exact⟨u5,rfl,HE.o,HB.o⟩
theorem zTz (w:World) (a:Addr) (u:Value):w.grownBy (w.setCell a u) (some a.block) :=
 ⟨rfl,rfl,rfl,by simp[World.setCell],fun k _ hne=>Below.heap_setCell w a u k (fun e=>hne (by rw[e]))⟩
theorem zS1 {w:World} {base sz n:Nat} {e:TypeId} {v:Value} {xs:List Value} (h:w.ownsRow base e sz v n xs) (a:Addr) (u:Value) (hne:v.ownBlock≠some a.block):(w.setCell a u).ownsRow base e sz v n xs :=
 h.kept (zTz w a u) (.inr hne)
theorem zS0 {w w':World} {r:Option Nat} (h:w.grownBy w' r) {a:Addr} (hb:w.heap.size≤a.block) (u:Value):w.grownBy (w'.setCell a u) r :=
 ⟨h.os,h.tape,h.output,by have:=h.size;simpa[World.setCell] using this,fun k hk hne=>(Below.heap_setCell w' a u k (by omega)).trans (h.block k hk hne)⟩
def twoF (a b:Mach):Int×Int:=if validate a=(0,0) then validate b else validate a
theorem zS5 (va vb:Value) (a b:Mach) (w:World) (B:Nat) (hB:B≤w.heap.size) (ha:MachAt w B va a) (hb:MachAt w B vb b) :
 Calls Try.prog 64 #[va,vb] w fun e w'=>e=.returned (.agg #[.int .i64 (twoF a b).1,.int .i64 (twoF a b).2])∧Below w.heap.size w w':=by
 have HA:=zh ha;have HB:=zh hb;obtain⟨A,AF,n,c,nf,cf,rfl,_⟩:=ha;obtain⟨A',AF',n',c',nf',cf',rfl,_⟩:=hb;have hne:=fun a b c d W=>zAn a b c d W
 have hf0:fEq 0 0 0 0=true:=rfl;have HVA:=zh (fun W (hB:B≤W.heap.size) (h:MachAt W B (.agg #[.int .i64 a.n,.slice A n c,.slice AF nf cf]) a)=>zEq _ a W B hB h);have HVB:=zh (fun W (hB:B≤W.heap.size) (h:MachAt W B (.agg #[.int .i64 b.n,.slice A' n' c',.slice AF' nf' cf']) b)=>zEq _ b W B hB h);obtain⟨p,hp⟩:∃ p,p=(validate a).1:=⟨_,rfl⟩;obtain⟨q,hq⟩:∃ p,p=(validate a).2:=⟨_,rfl⟩;rw[← hp,← hq] at HVA;have HP:=zh hp;have HQ:=zh hq;clear hp hq
 go_enter Try.func64,Try.ntmps64
 go_wp2_with fail;refine (HVA.o _ (by simp;omega) (HA.o.below (show Below w.heap.size w _ by go_grown) hB)).mono ?_;rintro e w1 ⟨rfl,hb1⟩;have hbw1:Below w.heap.size w w1:=Below.trans (show Below w.heap.size w _ by go_grown) (hb1.mono (by simp;omega));have bY1:Blk w1 (w.heap.size+1) 25 #[.int .i64 b.n,.slice A' n' c',.slice AF' nf' cf']:=((wAg (by simp)).alloc _).below hb1 (by simp);have bR1:Blk w1 (w.heap.size+1+1) 28 #[.int .i64 0,.int .i64 0]:=(wAg (by simp)).below hb1 (by simp);have hz1:=bR1.lt;have hz1':=bY1.lt;have f0:=bR1.frozen 0;have f1:=bR1.frozen 1;have q0:w1.cell? ⟨w.heap.size+1+1,0,none⟩=some (.int .i64 0):=bR1.cell 0;have q1:w1.cell? ⟨w.heap.size+1+1,1,none⟩=some (.int .i64 0):=bR1.cell 1;have y0:=bY1.cell 0;have y1:=bY1.cell 1;have y2:=bY1.cell 2;simp at y0 y1 y2;clear hb1 HVA;cases hz:fEq p q 0 0
 case false =>
  have HT:=zh (show twoF a b=(p,q) by
   have hv:validate a≠(0,0):=fun e=>by rw[HP.o,HQ.o,e] at hz;cases hz
   unfold twoF;rw[if_neg hv,HP.o,HQ.o])
  go_wp2;rw[HT.o];exact bodyPost_ret (v:=.agg #[.int .i64 p,.int .i64 q]) (by simp[results,Try.results64,go_sem,hz1,f0,f1,q0,q1]) rfl ⟨rfl,((hbw1.setCell (by show w.heap.size≤w.heap.size+1+1;omega) _).setCell (by show w.heap.size≤w.heap.size+1+1;omega) _).alloc (by simpa[World.setCell] using hbw1.size) _⟩
 case true =>
  have HT:=zh (show twoF a b=validate b by
   have hv:validate a=(0,0):=fEq0R.1 (by rw[← HP.o,← HQ.o];exact hz)
   unfold twoF;rw[if_pos hv])
  clear q0 q1 f0 f1;go_wp2_with fail;refine (HVB.o _ (by have:=hbw1.size;simp;omega) (HB.o.below (hbw1.alloc hbw1.size _) hB)).mono ?_;rintro e w2 ⟨rfl,hb2⟩;have hbw2:Below w.heap.size w w2:=(hbw1.alloc hbw1.size _).trans (hb2.mono (by have:=hbw1.size;simp;omega));have bR2:=(bR1.alloc _).below hb2 (by simp;omega);have hz2:=bR2.lt;have f0:=bR2.frozen 0;have f1:=bR2.frozen 1;have q0:w2.cell? ⟨w.heap.size+1+1,0,none⟩=some (.int .i64 0):=bR2.cell 0;have q1:w2.cell? ⟨w.heap.size+1+1,1,none⟩=some (.int .i64 0):=bR2.cell 1;clear hb2 y0 y1 y2 hz1' HVB;go_wp2;rw[HT.o];exact bodyPost_ret (v:=.agg #[.int .i64 (validate b).1,.int .i64 (validate b).2]) (by simp[results,Try.results64,go_sem,hz2,f0,f1,q0,q1]) rfl ⟨rfl,(hbw2.setCell (by show w.heap.size≤w.heap.size+1+1;omega) _).setCell (by show w.heap.size≤w.heap.size+1+1;omega) _⟩
theorem zTn (n0:Int) (l:List Arc) (k base:Nat) (v:Value) (AF:Option Addr) (nf cf:Nat) (w:World) (hbase:base≤w.heap.size) (hl:l.length=k) (hk:k≤100000) (hnd:l.Nodup) (h0:400<n0∧n0≤100000) (h:w.ownsRow base 64 5 v k (arcRow l)) :
 Calls Try.prog 67 #[.agg #[.int .i64 n0,v,.slice AF nf cf]] w fun e w'=>e=.returned (.tuple #[.agg #[.int .i64 0,.slice none 0 0,.slice none 0 0],.agg #[.int .i64 17,.int .i64 (-1)]])∧Below base w w':=by
 obtain⟨A,c,rfl,hkc,hcm⟩:=zAa h;have hlt:=h.lt;have hne:∀ b,w.heap.size≤b→some b≠(Value.slice A k c).ownBlock:=fun b hb e=>by have:=(hlt _ e.symm).2;omega
 have HNE:=zh hne;have HLT:=zh hlt;have HS:=zh (fun W (h:W.ownsRow base 64 5 (.slice A k c) k (arcRow l))=>zOP l k base (.slice A k c) W hl (by omega) h);have hls:(srtA l).length=k:=by rw[(zAR l).length_eq,hl]
 have HC:=zh (fun W (h:W.ownsRow base 64 5 (.slice A k c) k (arcRow (srtA l)))=>zQy (srtA l) k base (.slice A k c) W hls (by omega) ((zAR l).nodup_iff.2 hnd) h);have HO:=zh h;obtain⟨h00,h01⟩:=h0;have t1:decide (n0>400)=true:=decide_eq_true (by omega);have t1':decide ((400:Int)<n0)=true:=decide_eq_true (by omega);clear hlt hne hl hls hnd h
 go_enter Try.func67,Try.ntmps67
 go_wp2_with fail;refine (HS.o _ (((HO.o.alloc _).alloc _).alloc _)).mono ?_;rintro e w1 ⟨rfl,hown1,hg1⟩;have bM1:Blk w1 w.heap.size 25 #[.int .i64 n0,.slice A k c,.slice AF nf cf]:=((((Blk.new w _ _).alloc _).alloc _)).grown hg1 (HNE.o _ (wAa _));have bR1:Blk w1 (w.heap.size+1) 25 #[.int .i64 0,.slice none 0 0,.slice none 0 0]:=((wAg (by simp)).alloc _).grown hg1 (HNE.o _ (by omega));have bF1:Blk w1 (w.heap.size+1+1) 28 #[.int .i64 0,.int .i64 0]:=(wAg (by simp)).grown hg1 (HNE.o _ (by omega));have HG1:=zh hg1;have HO1:=zh hown1;have m0:=bM1.cell 0;have m1:=bM1.cell 1;have m2:=bM1.cell 2;have mf1:=bM1.frozen 1;simp at m0 m1 m2;have lM:=bM1.lt;have lR:=bR1.lt;have lF:=bF1.lt;clear hg1 hown1 HS HO;go_wp2_with fail;refine (HC.o _ HO1.o).mono ?_;rintro e w2 ⟨rfl,q,rfl⟩;have r0:=bR1.cell 0;clear HC r0;have bR2:Blk ((w1.drewN q).setCell ⟨w.heap.size,1,none⟩ (.slice A k c)) (w.heap.size+1) 25 #[.int .i64 0,.slice none 0 0,.slice none 0 0]:=(bR1.drewN q).far (by dsimp only;omega) _;have bF2:Blk ((w1.drewN q).setCell ⟨w.heap.size,1,none⟩ (.slice A k c)) (w.heap.size+1+1) 28 #[.int .i64 0,.int .i64 0]:=(bF1.drewN q).far (by dsimp only;omega) _;have hbB:Below base w ((w1.drewN q).setCell ⟨w.heap.size,1,none⟩ (.slice A k c)):=(zAc (((((Below.refl base w).alloc hbase _).alloc (by simp;omega) _).alloc (by simp;omega) _).grown HG1.o (by simp;omega) (fun k hk=>(HLT.o k hk).1)) q).setCell (by simpa using hbase) _;have hbB2:base≤((w1.drewN q).setCell ⟨w.heap.size,1,none⟩ (.slice A k c)).heap.size:=by have:=bR2.lt;omega
 clear bM1 bR1 bF1;go_wp2_with fail;refine (zR9 _ _ _).mono ?_;rintro e w3 ⟨rfl,hb3⟩;have bR3:=bR2.below hb3 bR2.lt;have bF3:=bF2.below hb3 bF2.lt;have hbw:=hbB.trans (hb3.mono hbB2);have r0:=bR3.cell 0;have r1:=bR3.cell 1;have r2:=bR3.cell 2;have s0:=bF3.cell 0;have s1:=bF3.cell 1;have rf0:=bR3.frozen 0;have rf1:=bR3.frozen 1;have rf2:=bR3.frozen 2;have sf0:=bF3.frozen 0;have sf1:=bF3.frozen 1;simp at r0 r1 r2 s0 s1;have lR3:=bR3.lt;have lF3:=bF3.lt;clear hb3 bR2 bF2 bR3 bF3;go_wp2;refine bodyPost_ret (v:=.tuple #[.agg #[.int .i64 0,.slice none 0 0,.slice none 0 0],.agg #[.int .i64 17,.int .i64 (-1)]]) (by simp[results,Try.results67,go_sem,lR3,lF3,r0,r1,r2,s0,s1,rf0,rf1,rf2,sf0,sf1]) rfl ⟨rfl,?_⟩;refine wAb (wAb (wAb (wAb (wAb hbw ?_ _) ?_ _) ?_ _) ?_ _) ?_ _<;>(first | omega | (dsimp only;omega))
theorem zTq (n0:Int) (l:List Arc) (k base:Nat) (v:Value) (AF:Option Addr) (nf cf:Nat) (w:World) (hbase:base≤w.heap.size) (hl:l.length=k) (hk:2000<k∧k≤100000) (hnd:l.Nodup) (h0:0≤n0∧n0≤400) (h:w.ownsRow base 64 5 v k (arcRow l)) :
 Calls Try.prog 67 #[.agg #[.int .i64 n0,v,.slice AF nf cf]] w fun e w'=>e=.returned (.tuple #[.agg #[.int .i64 0,.slice none 0 0,.slice none 0 0],.agg #[.int .i64 17,.int .i64 (-1)]])∧Below base w w':=by
 obtain⟨A,c,rfl,hkc,hcm⟩:=zAa h;have hlt:=h.lt;have hne:∀ b,w.heap.size≤b→some b≠(Value.slice A k c).ownBlock:=fun b hb e=>by have:=(hlt _ e.symm).2;omega
 have HNE:=zh hne;have HLT:=zh hlt;have HS:=zh (fun W (h:W.ownsRow base 64 5 (.slice A k c) k (arcRow l))=>zOP l k base (.slice A k c) W hl (by omega) h);have hls:(srtA l).length=k:=by rw[(zAR l).length_eq,hl]
 have HC:=zh (fun W (h:W.ownsRow base 64 5 (.slice A k c) k (arcRow (srtA l)))=>zQy (srtA l) k base (.slice A k c) W hls (by omega) ((zAR l).nodup_iff.2 hnd) h);have HO:=zh h;obtain⟨h00,h01⟩:=h0;obtain⟨hk,hk2⟩:=hk;have t1:decide (n0>400)=false:=decide_eq_false (by omega);have t1':decide ((400:Int)<n0)=false:=decide_eq_false (by omega);have t2:decide ((k:Int)>2000)=true:=decide_eq_true (by omega);have t2':decide ((2000:Int)<(k:Int))=true:=decide_eq_true (by omega);clear hlt hne hl hls hnd h
 go_enter Try.func67,Try.ntmps67
 go_wp2_with fail;refine (HS.o _ (((HO.o.alloc _).alloc _).alloc _)).mono ?_;rintro e w1 ⟨rfl,hown1,hg1⟩;have bM1:Blk w1 w.heap.size 25 #[.int .i64 n0,.slice A k c,.slice AF nf cf]:=((((Blk.new w _ _).alloc _).alloc _)).grown hg1 (HNE.o _ (wAa _));have bR1:Blk w1 (w.heap.size+1) 25 #[.int .i64 0,.slice none 0 0,.slice none 0 0]:=((wAg (by simp)).alloc _).grown hg1 (HNE.o _ (by omega));have bF1:Blk w1 (w.heap.size+1+1) 28 #[.int .i64 0,.int .i64 0]:=(wAg (by simp)).grown hg1 (HNE.o _ (by omega));have HG1:=zh hg1;have HO1:=zh hown1;have m0:=bM1.cell 0;have m1:=bM1.cell 1;have m2:=bM1.cell 2;have mf1:=bM1.frozen 1;simp at m0 m1 m2;have lM:=bM1.lt;have lR:=bR1.lt;have lF:=bF1.lt;clear hg1 hown1 HS HO;go_wp2_with fail;refine (HC.o _ HO1.o).mono ?_;rintro e w2 ⟨rfl,q,rfl⟩;have r0:=bR1.cell 0;clear HC r0;have bR2:Blk ((w1.drewN q).setCell ⟨w.heap.size,1,none⟩ (.slice A k c)) (w.heap.size+1) 25 #[.int .i64 0,.slice none 0 0,.slice none 0 0]:=(bR1.drewN q).far (by dsimp only;omega) _;have bF2:Blk ((w1.drewN q).setCell ⟨w.heap.size,1,none⟩ (.slice A k c)) (w.heap.size+1+1) 28 #[.int .i64 0,.int .i64 0]:=(bF1.drewN q).far (by dsimp only;omega) _;have hbB:Below base w ((w1.drewN q).setCell ⟨w.heap.size,1,none⟩ (.slice A k c)):=(zAc (((((Below.refl base w).alloc hbase _).alloc (by simp;omega) _).alloc (by simp;omega) _).grown HG1.o (by simp;omega) (fun k hk=>(HLT.o k hk).1)) q).setCell (by simpa using hbase) _;have hbB2:base≤((w1.drewN q).setCell ⟨w.heap.size,1,none⟩ (.slice A k c)).heap.size:=by have:=bR2.lt;omega
 clear bM1 bR1 bF1;go_wp2_with fail;refine (zR9 _ _ _).mono ?_;rintro e w3 ⟨rfl,hb3⟩;have bR3:=bR2.below hb3 bR2.lt;have bF3:=bF2.below hb3 bF2.lt;have hbw:=hbB.trans (hb3.mono hbB2);have r0:=bR3.cell 0;have r1:=bR3.cell 1;have r2:=bR3.cell 2;have s0:=bF3.cell 0;have s1:=bF3.cell 1;have rf0:=bR3.frozen 0;have rf1:=bR3.frozen 1;have rf2:=bR3.frozen 2;have sf0:=bF3.frozen 0;have sf1:=bF3.frozen 1;simp at r0 r1 r2 s0 s1;have lR3:=bR3.lt;have lF3:=bF3.lt;clear hb3 bR2 bF2 bR3 bF3;go_wp2;refine bodyPost_ret (v:=.tuple #[.agg #[.int .i64 0,.slice none 0 0,.slice none 0 0],.agg #[.int .i64 17,.int .i64 (-1)]]) (by simp[results,Try.results67,go_sem,lR3,lF3,r0,r1,r2,s0,s1,rf0,rf1,rf2,sf0,sf1]) rfl ⟨rfl,?_⟩;refine wAb (wAb (wAb (wAb (wAb hbw ?_ _) ?_ _) ?_ _) ?_ _) ?_ _<;>(first | omega | (dsimp only;omega))
theorem zTJ (n0:Int) (l:List Arc) (k base:Nat) (v:Value) (AF:Option Addr) (nf cf:Nat) (w:World) (hbase:base≤w.heap.size) (hl:l.length=k) (hk:k≤2000) (hnd:l.Nodup) (h0:0≤n0∧n0≤400) (h:w.ownsRow base 64 5 v k (arcRow l)) :
 Calls Try.prog 67 #[.agg #[.int .i64 n0,v,.slice AF nf cf]] w fun e w'=>e=.returned (.tuple #[.agg #[.int .i64 n0,v,.slice AF nf cf],.agg #[.int .i64 0,.int .i64 0]])∧w'.ownsRow base 64 5 v k (arcRow (srtA l))∧w.grownBy w' v.ownBlock:=by
 obtain⟨A,c,rfl,hkc,hcm⟩:=zAa h;have hlt:=h.lt;have hne:∀ b,w.heap.size≤b→some b≠(Value.slice A k c).ownBlock:=fun b hb e=>by have:=(hlt _ e.symm).2;omega
 have HNE:=zh hne;have HLT:=zh hlt;have HS:=zh (fun W (h:W.ownsRow base 64 5 (.slice A k c) k (arcRow l))=>zOP l k base (.slice A k c) W hl (by omega) h);have hls:(srtA l).length=k:=by rw[(zAR l).length_eq,hl]
 have HC:=zh (fun W (h:W.ownsRow base 64 5 (.slice A k c) k (arcRow (srtA l)))=>zQy (srtA l) k base (.slice A k c) W hls (by omega) ((zAR l).nodup_iff.2 hnd) h);have HO:=zh h;obtain⟨h00,h01⟩:=h0;have t1:decide (n0>400)=false:=decide_eq_false (by omega);have t1':decide ((400:Int)<n0)=false:=decide_eq_false (by omega);have t2:decide ((k:Int)>2000)=false:=decide_eq_false (by omega);have t2':decide ((2000:Int)<(k:Int))=false:=decide_eq_false (by omega);clear hlt hne hl hls hnd h
 go_enter Try.func67,Try.ntmps67
 go_wp2_with fail;refine (HS.o _ (((HO.o.alloc _).alloc _).alloc _)).mono ?_;rintro e w1 ⟨rfl,hown1,hg1⟩;have bM1:Blk w1 w.heap.size 25 #[.int .i64 n0,.slice A k c,.slice AF nf cf]:=((((Blk.new w _ _).alloc _).alloc _)).grown hg1 (HNE.o _ (wAa _));have bR1:Blk w1 (w.heap.size+1) 25 #[.int .i64 0,.slice none 0 0,.slice none 0 0]:=((wAg (by simp)).alloc _).grown hg1 (HNE.o _ (by omega));have bF1:Blk w1 (w.heap.size+1+1) 28 #[.int .i64 0,.int .i64 0]:=(wAg (by simp)).grown hg1 (HNE.o _ (by omega));have HG1:=zh hg1;have HO1:=zh hown1;have m0:=bM1.cell 0;have m1:=bM1.cell 1;have m2:=bM1.cell 2;have mf1:=bM1.frozen 1;simp at m0 m1 m2;have lM:=bM1.lt;have lR:=bR1.lt;have lF:=bF1.lt;clear hg1 hown1 HS HO;go_wp2_with fail;refine (HC.o _ HO1.o).mono ?_;rintro e w2 ⟨rfl,q,rfl⟩;have r0:=bR1.cell 0;have r1:=bR1.cell 1;have r2:=bR1.cell 2;have s0:=bF1.cell 0;have s1:=bF1.cell 1;have rf0:=bR1.frozen 0;have rf1:=bR1.frozen 1;have rf2:=bR1.frozen 2;have sf0:=bF1.frozen 0;have sf1:=bF1.frozen 1;simp at r0 r1 r2 s0 s1;clear HC bM1 bR1 bF1;go_wp2;have hb:∀ b,w.heap.size≤b→(Value.slice A k c).ownBlock≠some b:=fun b hb e=>HNE.o b hb e.symm
 refine bodyPost_ret (v:=.tuple #[.agg #[.int .i64 n0,.slice A k c,.slice AF nf cf],.agg #[.int .i64 0,.int .i64 0]]) (by simp[results,Try.results67,go_sem,lR,lF,lM,r0,r1,r2,s0,s1,rf0,rf1,rf2,sf0,sf1]) rfl ⟨rfl,?_,?_⟩
 · refine zS1 (zS1 (zS1 (zS1 (zS1 (zS1 (zSb HO1.o q) _ _ ?_) _ _ ?_) _ _ ?_) _ _ ?_) _ _ ?_) _ _ ?_<;>exact hb _ (by first | omega | (dsimp only;omega))
 ·have hg0:w.grownBy w1 (Value.slice A k c).ownBlock:=zOE (World.grownBy_alloc w _ _) (zOE (World.grownBy_alloc _ _ _) (zOE (World.grownBy_alloc _ _ _) HG1.o));refine zS0 (zS0 (zS0 (zS0 (zS0 (zS0 (zPj hg0 q) ?_ _) ?_ _) ?_ _) ?_ _) ?_ _) ?_ _<;>(first | omega | (dsimp only;omega))
end Go.Proofs.Ytkfdhpbnphojoaa
namespace Gm
def alphB (l:List Int) (k:Nat):Option (Int×Int):=if l.getD k 0<1∨1114111<l.getD k 0 then some (3,(k:Int)) else if 0<k∧l.getD k 0≤l.getD (k-1) 0 then some (13,(k:Int)) else none
def alphF (l:List Int) (ix:Int):Int×Int:=if 300<l.length then (2,ix) else ((wAk l.length).findSome? (alphB l)).getD (0,0)
theorem zEe {l:List Int} {k:Nat} {r:Int×Int} {ix:Int} (hl:¬ 300<l.length) (hk:k<l.length) (h:∀ j,j<k→alphB l j=none) (hr:alphB l k=some r):alphF l ix=r:=by
 unfold alphF;rw[if_neg hl]
 have e:wAk l.length=wAk k++(k::(wAk (l.length-k-1)).map (· + (k+1))):=by
  refine List.ext_getElem? fun i=>?_
  rcases Nat.lt_trichotomy i k with g | g | g
  · rw[wAh (by simpa using g)];simp[g,Nat.lt_trans g hk]
  · subst g;rw[wAm (by simp)];simp[hk]
  ·rw[wAm (by simp;omega)];obtain⟨d,rfl⟩:∃ d,i=k+1+d:=⟨i-(k+1),by omega⟩;simp only[List.length_range,show k+1+d-k=d+1 by omega,List.getElem?_cons_succ,wAi];by_cases gd:k+1+d<l.length
   · rw[wAp gd,wAp (by omega)];simp;omega
   · rw[wAo (by simp;omega),wAo (by simp;omega)];rfl
 rw[e,List.findSome?_append,wAn.2 (fun j hj=>h j (wAs.1 hj)),List.findSome?_cons,hr];rfl
theorem zNG {l:List Int} {ix:Int} (hl:¬ 300<l.length) (h:∀ j,j<l.length→alphB l j=none):alphF l ix=(0,0):=by
 unfold alphF;rw[if_neg hl,wAn.2 (fun j hj=>h j (wAs.1 hj))];rfl
end Gm
namespace Go.Proofs.Ytkfdhpbnphojoaa
open Go.RowKit Gm
theorem zLL (vl vn vf:Value) (l:List Int) (L:List (List Int)) (F:List Bool) (w:World) (B:Nat) (hB:B≤w.heap.size) (hl:Nums w B vl l) (hn:NumsL w B vn L) (hf:Bools w B vf F) :
 Calls Try.prog 89 #[vl,vn,vf] w fun e w'=>∃ v1,e=.returned (.tuple #[v1,.agg #[.int .i64 (leastR l L F).2.1,.int .i64 (leastR l L F).2.2]])∧MachNew w.heap.size w' v1 (leastR l L F).1∧Below w.heap.size w w':=by
 have HHL:=zh hl;have HHN:=zh hn;have HHF:=zh hf;obtain⟨AL,ql,cl,rfl,HQ,hqc,hqb,hL⟩:=hl;obtain⟨AN,n,cn,rfl,HN,hnc,hnb,hR⟩:=hn;obtain⟨AF,nf,cf,rfl,HF,hfc,hfb,hFF⟩:=hf;have HRL:=zh hL;have HRR:=zh (show RdL w B AN n L from hR);unfold big at hqb hnb hfb;clear hL hR hFF
 go_enter Try.func89,Try.ntmps89
 go_upto_region 1 with fail
 generalize hW2:World.alloc _ _=W2;have HRM2:=zh (show Blk W2 w.heap.size 25 #[.int .i64 0,.slice none 0 0,.slice none 0 0] by rw[← hW2];exact (wAg rfl).alloc _);obtain⟨R,hR⟩:∃ z,z=w.heap.size+1:=⟨_,rfl⟩;have HR2:=zh (show Blk W2 R 28 #[.int .i64 0,.int .i64 0] by rw[← hW2];exact wAg (by simp[hR]));have HB2:=zh (show Below w.heap.size w W2 by rw[← hW2];go_grown);have hwR:w.heap.size<R:=by omega
 have lM2:w.heap.size<W2.heap.size:=HRM2.o.lt;have HRL2:=zh (HRL.o.below HB2.o hB);have HRR2:=zh (HRR.o.below HB2.o hB);have lR2:R<W2.heap.size:=HR2.o.lt;simp only[← hR];clear hW2 hR HRL HRR;by_cases h3:300<ql
 ·have t1:decide ((ql:Int)>300)=true:=decide_eq_true (by omega);have t1':decide ((300:Int)<(ql:Int))=true:=decide_eq_true (by omega);have HR:=zh (show tblF l L F.length=(2,-1) from zIu (by rw[HQ.o];exact h3));have bR:=HR2.o;have bM:=HRM2.o;have HBE:=zh HB2.o;clear h3;go_wp2_with fail;refine (zAx _ _ _).mono ?_;rintro e w9 ⟨rfl,hb9⟩;have bR9:=bR.below hb9 lR2;have bM9:=bM.below hb9 lM2;have HB9:=zh (HBE.o.trans (hb9.mono (by omega)));have r0:=bR9.cell 0;have rf0:=bR9.frozen 0;have r1:=bR9.cell 1;have rf1:=bR9.frozen 1;have q0:=bM9.cell 0;have qf0:=bM9.frozen 0;have q1:=bM9.cell 1;have qf1:=bM9.frozen 1;have q2:=bM9.cell 2;have qf2:=bM9.frozen 2;simp at r0 r1 q0 q1 q2;have lR:=bR9.lt;have lM:=bM9.lt;have hne1:R≠w.heap.size:=by omega
  have hne2:w.heap.size≠R:=by omega
  clear hb9 bR9 bR HBE bM bM9;go_wp21;refine bodyPost_ret (v:=.tuple #[.agg #[.int .i64 0,.slice none 0 0,.slice none 0 0],.agg #[.int .i64 2,.int .i64 (-1)]]) (by simp[results,Try.results89,go_sem,lR,lM,hne1,hne2,r0,r1,rf0,rf1,q0,q1,q2,qf0,qf1,qf2]) rfl ?_;rw[zBc HR.o (by omega)];exact⟨_,rfl,wAc _ _,((((HB9.o.setCell (p:=⟨w.heap.size,0,none⟩) (by exact wAa _) (.int .i64 0)).setCell (p:=⟨w.heap.size,1,none⟩) (by exact wAa _) (.slice none 0 0)).setCell (p:=⟨w.heap.size,2,none⟩) (by exact wAa _) (.slice none 0 0)).setCell (p:=⟨R,0,none⟩) (by show w.heap.size≤R;omega) (.int .i64 2)).setCell (p:=⟨R,1,none⟩) (by show w.heap.size≤R;omega) (.int .i64 (-1))⟩
 ·have t1:decide (
   (ql:Int)>300)=false:=decide_eq_false (by omega)
  have t1':decide ((300:Int)<(ql:Int))=false:=decide_eq_false (by omega);have HL3:=zh (show ¬ 300<l.length by rw[HQ.o];exact h3);go_upto_region 4 with fail
  clear t1 t1'
  go_loopw [21] (fun iv wr=>∃ k:Nat,k≤ql∧iv=.int .i64 k∧wr=W2∧Hid (∀ j,j<k→labB l j=none)) (fun iv _=>ql-(intOf iv).toNat)
  case atStart=>exact⟨0,by omega,rfl,rfl,zh (fun j hj=>by omega)⟩
  case round =>
   obtain⟨k,hk,rfl,hwr,HALL⟩:=hrel;have HRK:=zh (show Rd wr B 1 AL ql (intCell l) by rw[hwr];exact HRL2.o);(have hzr:w.heap.size≤wr.heap.size:=by rw[hwr];exact HB2.o.size);have HWW:=zh hwr;clear hwr;by_cases hkn:k<ql
   ·obtain⟨bb,off,x,rfl,hbB,d0,HY⟩:=zAO HRK.o hkn;(have hkl:k<l.length:=by rw[HQ.o];exact hkn);(have lb:bb<wr.heap.size:=by omega);by_cases h1:x<1
    ·have s1:decide (x<1)=true:=decide_eq_true h1;have HR:=zh (show tblF l L F.length=(3,(k:Int)) from zG5 HL3.o hkl HALL.o (by unfold labB;rw[HY.o,if_pos (.inl h1)]));have bR:=HR2.o;have bM:=HRM2.o;have HBE:=zh HB2.o;have hww:W2=wr:=HWW.o.symm;rw[hww] at bR HBE lR2 bM lM2;clear hww;clear h1 hkl HY HALL;go_wp2_with fail;refine (zAx _ _ _).mono ?_;rintro e w9 ⟨rfl,hb9⟩;have bR9:=bR.below hb9 lR2;have bM9:=bM.below hb9 lM2;have HB9:=zh (HBE.o.trans (hb9.mono (by omega)));have r0:=bR9.cell 0;have rf0:=bR9.frozen 0;have r1:=bR9.cell 1;have rf1:=bR9.frozen 1;have q0:=bM9.cell 0;have qf0:=bM9.frozen 0;have q1:=bM9.cell 1;have qf1:=bM9.frozen 1;have q2:=bM9.cell 2;have qf2:=bM9.frozen 2;simp at r0 r1 q0 q1 q2;have lR:=bR9.lt;have lM:=bM9.lt;(have hne1:R≠w.heap.size:=by omega);(have hne2:w.heap.size≠R:=by omega);clear hb9 bR9 bR HBE bM bM9;go_wp21;refine bodyPost_ret (v:=.tuple #[.agg #[.int .i64 0,.slice none 0 0,.slice none 0 0],.agg #[.int .i64 3,.int .i64 (k:Int)]]) (by simp[results,Try.results89,go_sem,lR,lM,hne1,hne2,r0,r1,rf0,rf1,q0,q1,q2,qf0,qf1,qf2]) rfl ?_;rw[zBc HR.o (by omega)];exact⟨_,rfl,wAc _ _,((((HB9.o.setCell (p:=⟨w.heap.size,0,none⟩) (by exact wAa _) (.int .i64 0)).setCell (p:=⟨w.heap.size,1,none⟩) (by exact wAa _) (.slice none 0 0)).setCell (p:=⟨w.heap.size,2,none⟩) (by exact wAa _) (.slice none 0 0)).setCell (p:=⟨R,0,none⟩) (by show w.heap.size≤R;omega) (.int .i64 3)).setCell (p:=⟨R,1,none⟩) (by show w.heap.size≤R;omega) (.int .i64 (k:Int))⟩
    ·by_cases h2:1114111<x
     ·have s1:decide (x<1)=false:=decide_eq_false h1;have s2:decide (x>1114111)=true:=decide_eq_true (by omega);have s2':decide (1114111<x)=true:=decide_eq_true h2;have HR:=zh (show tblF l L F.length=(3,(k:Int)) from zG5 HL3.o hkl HALL.o (by unfold labB;rw[HY.o,if_pos (.inr h2)]));have bR:=HR2.o;have bM:=HRM2.o;have HBE:=zh HB2.o;have hww:W2=wr:=HWW.o.symm;rw[hww] at bR HBE lR2 bM lM2;clear hww;clear h1 h2 hkl HY HALL;go_wp2_with fail;refine (zAx _ _ _).mono ?_;rintro e w9 ⟨rfl,hb9⟩;have bR9:=bR.below hb9 lR2;have bM9:=bM.below hb9 lM2;have HB9:=zh (HBE.o.trans (hb9.mono (by omega)));have r0:=bR9.cell 0;have rf0:=bR9.frozen 0;have r1:=bR9.cell 1;have rf1:=bR9.frozen 1;have q0:=bM9.cell 0;have qf0:=bM9.frozen 0;have q1:=bM9.cell 1;have qf1:=bM9.frozen 1;have q2:=bM9.cell 2;have qf2:=bM9.frozen 2;simp at r0 r1 q0 q1 q2;have lR:=bR9.lt;have lM:=bM9.lt;(have hne1:R≠w.heap.size:=by omega);(have hne2:w.heap.size≠R:=by omega);clear hb9 bR9 bR HBE bM bM9;go_wp21;refine bodyPost_ret (v:=.tuple #[.agg #[.int .i64 0,.slice none 0 0,.slice none 0 0],.agg #[.int .i64 3,.int .i64 (k:Int)]]) (by simp[results,Try.results89,go_sem,lR,lM,hne1,hne2,r0,r1,rf0,rf1,q0,q1,q2,qf0,qf1,qf2]) rfl ?_;rw[zBc HR.o (by omega)];exact⟨_,rfl,wAc _ _,((((HB9.o.setCell (p:=⟨w.heap.size,0,none⟩) (by exact wAa _) (.int .i64 0)).setCell (p:=⟨w.heap.size,1,none⟩) (by exact wAa _) (.slice none 0 0)).setCell (p:=⟨w.heap.size,2,none⟩) (by exact wAa _) (.slice none 0 0)).setCell (p:=⟨R,0,none⟩) (by show w.heap.size≤R;omega) (.int .i64 3)).setCell (p:=⟨R,1,none⟩) (by show w.heap.size≤R;omega) (.int .i64 (k:Int))⟩
     ·have s1:decide (x<1)=false:=decide_eq_false h1;have s2:decide (x>1114111)=false:=decide_eq_false (by omega);have s2':decide (1114111<x)=false:=decide_eq_false h2;rcases Nat.eq_zero_or_pos k with hk0 | hk0
      ·have HNX:=zh (show ∀ j,j<k+1→labB l j=none from fun j hj=>by
        have:j=k:=by omega
        subst this;unfold labB
        rw[HY.o,if_neg (by omega),if_neg (by omega)])
       have s3:decide ((k:Int)>0)=false:=decide_eq_false (by omega);have s3':decide ((0:Int)<(k:Int))=false:=decide_eq_false (by omega);have hg:decide (0<k)=false:=decide_eq_false (by omega);have HK0:=zh hk0;clear h1 h2 hkl HY HALL hk0;go_wp2;go_roundw
       case rel=>exact⟨k+1,by omega,by go_num,HWW.o,HNX⟩
       case measure=>simp[intOf];omega
      ·obtain⟨j,rfl⟩:∃ j,k=j+1:=⟨k-1,by omega⟩;obtain⟨bb',off',y,hA',_,d1,HZ⟩:=zAO HRK.o (show j<ql by omega);simp only[Option.some.injEq,Addr.mk.injEq,and_true] at hA';obtain⟨rfl,rfl⟩:=hA';(have j0:(0:Int)≤(j:Int):=by omega);(have j1:(j:Int)<(ql:Int):=by omega);(have hsub:((j+1:Nat):Int)-1=(j:Int):=by omega);have s3:decide (((j+1:Nat):Int)>0)=true:=decide_eq_true (by omega);have s3':decide ((0:Int)<((j+1:Nat):Int))=true:=decide_eq_true (by omega);by_cases h4:x≤y
       ·have s4:decide (y≥x)=true:=decide_eq_true h4;have s4':decide (x≤y)=true:=decide_eq_true h4;have HR:=zh (show tblF l L F.length=(13,((j+1:Nat):Int)) from zG5 HL3.o hkl HALL.o (by unfold labB;rw[HY.o,if_neg (by omega),show j+1-1=j by omega,HZ.o,if_pos ⟨by omega,h4⟩]));have bR:=HR2.o;have bM:=HRM2.o;have HBE:=zh HB2.o;have hww:W2=wr:=HWW.o.symm;rw[hww] at bR HBE lR2 bM lM2;clear hww;clear h1 h2 h4 hkl HY HZ HALL;go_wp2_with fail;refine (zAx _ _ _).mono ?_;rintro e w9 ⟨rfl,hb9⟩;have bR9:=bR.below hb9 lR2;have bM9:=bM.below hb9 lM2;have HB9:=zh (HBE.o.trans (hb9.mono (by omega)));have r0:=bR9.cell 0;have rf0:=bR9.frozen 0;have r1:=bR9.cell 1;have rf1:=bR9.frozen 1;have q0:=bM9.cell 0;have qf0:=bM9.frozen 0;have q1:=bM9.cell 1;have qf1:=bM9.frozen 1;have q2:=bM9.cell 2;have qf2:=bM9.frozen 2;simp at r0 r1 q0 q1 q2;have lR:=bR9.lt;have lM:=bM9.lt;(have hne1:R≠w.heap.size:=by omega);(have hne2:w.heap.size≠R:=by omega);clear hb9 bR9 bR HBE bM bM9;go_wp21;refine bodyPost_ret (v:=.tuple #[.agg #[.int .i64 0,.slice none 0 0,.slice none 0 0],.agg #[.int .i64 13,.int .i64 ((j+1:Nat):Int)]]) (by simp[results,Try.results89,go_sem,lR,lM,hne1,hne2,r0,r1,rf0,rf1,q0,q1,q2,qf0,qf1,qf2]) rfl ?_;rw[zBc HR.o (by omega)];exact⟨_,rfl,wAc _ _,((((HB9.o.setCell (p:=⟨w.heap.size,0,none⟩) (by exact wAa _) (.int .i64 0)).setCell (p:=⟨w.heap.size,1,none⟩) (by exact wAa _) (.slice none 0 0)).setCell (p:=⟨w.heap.size,2,none⟩) (by exact wAa _) (.slice none 0 0)).setCell (p:=⟨R,0,none⟩) (by show w.heap.size≤R;omega) (.int .i64 13)).setCell (p:=⟨R,1,none⟩) (by show w.heap.size≤R;omega) (.int .i64 ((j+1:Nat):Int))⟩
       ·have s4:decide (y≥x)=false:=decide_eq_false h4;have s4':decide (x≤y)=false:=decide_eq_false h4
        have HNX:=zh (show ∀ i,i<j+1+1→labB l i=none from fun i hi=>by
         by_cases g:i=j+1
         ·subst g;unfold labB;rw[HY.o,if_neg (by omega),show j+1-1=j by omega,HZ.o,if_neg (by omega)]
         · exact HALL.o i (by omega))
        clear h1 h2 h4 hkl HY HZ HALL;go_wp2;go_roundw
        case rel=>exact⟨j+1+1,by omega,by go_num,HWW.o,HNX⟩
        case measure=>simp[intOf];omega
   ·(obtain rfl:ql=k:=by omega);have HLB:=zh (show ∀ j,j<l.length→labB l j=none from fun j hj=>HALL.o j (by rw[← HQ.o];exact hj));have hww:wr=W2:=HWW.o;subst hww;clear HALL HRK HWW;by_cases hn2:20000<n
    ·have t2:decide ((n:Int)>20000)=true:=decide_eq_true (by omega);have t2':decide ((20000:Int)<(n:Int))=true:=decide_eq_true (by omega);have HR:=zh (show tblF l L F.length=(2,-2) from zIt HL3.o HLB.o (by rw[HN.o];exact hn2));have bR:=HR2.o;have bM:=HRM2.o;have HBE:=zh HB2.o;clear hn2;go_wp2_with fail;refine (zAx _ _ _).mono ?_;rintro e w9 ⟨rfl,hb9⟩;have bR9:=bR.below hb9 lR2;have bM9:=bM.below hb9 lM2;have HB9:=zh (HBE.o.trans (hb9.mono (by omega)));have r0:=bR9.cell 0;have rf0:=bR9.frozen 0;have r1:=bR9.cell 1;have rf1:=bR9.frozen 1;have q0:=bM9.cell 0;have qf0:=bM9.frozen 0;have q1:=bM9.cell 1;have qf1:=bM9.frozen 1;have q2:=bM9.cell 2;have qf2:=bM9.frozen 2;simp at r0 r1 q0 q1 q2;have lR:=bR9.lt;have lM:=bM9.lt;(have hne1:R≠w.heap.size:=by omega);(have hne2:w.heap.size≠R:=by omega);clear hb9 bR9 bR HBE bM bM9;go_wp21;refine bodyPost_ret (v:=.tuple #[.agg #[.int .i64 0,.slice none 0 0,.slice none 0 0],.agg #[.int .i64 2,.int .i64 (-2)]]) (by simp[results,Try.results89,go_sem,lR,lM,hne1,hne2,r0,r1,rf0,rf1,q0,q1,q2,qf0,qf1,qf2]) rfl ?_;rw[zBc HR.o (by omega)];exact⟨_,rfl,wAc _ _,((((HB9.o.setCell (p:=⟨w.heap.size,0,none⟩) (by exact wAa _) (.int .i64 0)).setCell (p:=⟨w.heap.size,1,none⟩) (by exact wAa _) (.slice none 0 0)).setCell (p:=⟨w.heap.size,2,none⟩) (by exact wAa _) (.slice none 0 0)).setCell (p:=⟨R,0,none⟩) (by show w.heap.size≤R;omega) (.int .i64 2)).setCell (p:=⟨R,1,none⟩) (by show w.heap.size≤R;omega) (.int .i64 (-2))⟩
    ·have t2:decide ((n:Int)>20000)=false:=decide_eq_false (by omega);have t2':decide ((20000:Int)<(n:Int))=false:=decide_eq_false (by omega);have HN2:=zh (show ¬ 20000<L.length by rw[HN.o];exact hn2);obtain⟨W2,hW2⟩:∃ z,z=wr:=⟨_,rfl⟩;rw[← hW2] at HR2 HB2 HRL2 HRR2 lR2 lM2 HRM2 ⊢;clear hW2;(go_upto_region 14 with fail);clear t2 t2'
     go_loopw [57] (fun iv wr=>∃ i:Nat,i≤n∧iv=.int .i64 i∧wr=W2∧Hid (∀ j,j<i→rowB l.length L.length L j=none)) (fun iv _=>n-(intOf iv).toNat)
     case atStart=>exact⟨0,by omega,rfl,rfl,zh (fun j hj=>by omega)⟩
     case round =>
      obtain⟨i,hi,rfl,hwr,HALL⟩:=hrel;have HRK:=zh (show RdL wr B AN n L by rw[hwr];exact HRR2.o);(have hzr:w.heap.size≤wr.heap.size:=by rw[hwr];exact HB2.o.size);have HWW:=zh hwr;clear hwr;by_cases hin:i<n
      ·obtain⟨b1,o1,A1,n1,c1,rw1,rfl,hb1,d1,HR1,HL1,hc1,hn1b,hrd1⟩:=zEo HRK.o hin;(have hil:i<L.length:=by rw[HN.o];exact hin);(have lb1:b1<wr.heap.size:=by omega);have HRD1:=zh hrd1;unfold big at hn1b;clear hrd1;by_cases hlen:n1=ql
       ·have HLN:=zh hlen;(have t3:((n1:Int) != (ql:Int))=false:=by simp;omega);(have t3':((n1:Int)==(ql:Int))=true:=by simp;omega);subst hlen;obtain⟨W3,hW3⟩:∃ z,z=wr:=⟨_,rfl⟩;rw[← hW3] at HRK hzr HWW lb1 HRD1 d1 ⊢;clear hW3;(go_upto_region 19 with fail);clear t3 t3' d1
        go_loopw [72] (fun jv wr=>∃ j:Nat,j≤n1∧jv=.int .i64 j∧wr=W3∧Hid (∀ t∈rw1.take j,-1≤t∧t<(n:Int))) (fun jv _=>n1-(intOf jv).toNat)
        case atStart=>exact⟨0,by omega,rfl,rfl,zh (fun t ht=>by simp at ht)⟩
        case round =>
         obtain⟨j,hj,rfl,hwr,HT⟩:=hrel;have HRD2:=zh (show Rd wr B 1 A1 n1 (intCell rw1) by rw[hwr];exact HRD1.o);(have hzr2:w.heap.size≤wr.heap.size:=by rw[hwr];exact hzr);have HW3:=zh hwr;clear hwr;by_cases hjn:j<n1
         ·obtain⟨b2,o2,t,rfl,hb2,d2,HY⟩:=zAO HRD2.o hjn;(have hjl:j<rw1.length:=by rw[HL1.o];exact hjn);(have lb2:b2<wr.heap.size:=by omega);have HTK:=zh (zDD hjl HY.o);(have hmem:t∈rw1:=by rw[← HY.o];simp[List.getD,hjl]);by_cases h1:t < -1
          ·have s1:decide (t < -1)=true:=decide_eq_true h1
           have HR:=zh (show tblF l L F.length=(3,(i:Int)) from zGA HL3.o HLB.o HN2.o hil HALL.o (by
            unfold rowB
            rw[HR1.o,if_neg (by rw[HL1.o,HQ.o];simp),if_neg (fun h=>by have:=(h t hmem).1;omega)]))
           have HWW:=zh (HW3.o.trans HWW.o);have bR:=HR2.o;have bM:=HRM2.o;have HBE:=zh HB2.o;have hww:W2=wr:=HWW.o.symm;rw[hww] at bR HBE lR2 bM lM2;clear hww;clear h1 hjl HY HALL HT HTK hmem HW3 hil;go_wp2_with fail;refine (zAx _ _ _).mono ?_;rintro e w9 ⟨rfl,hb9⟩;have bR9:=bR.below hb9 lR2;have bM9:=bM.below hb9 lM2;have HB9:=zh (HBE.o.trans (hb9.mono (by omega)));have r0:=bR9.cell 0;have rf0:=bR9.frozen 0;have r1:=bR9.cell 1;have rf1:=bR9.frozen 1;have q0:=bM9.cell 0;have qf0:=bM9.frozen 0;have q1:=bM9.cell 1;have qf1:=bM9.frozen 1;have q2:=bM9.cell 2;have qf2:=bM9.frozen 2;simp at r0 r1 q0 q1 q2;have lR:=bR9.lt;have lM:=bM9.lt;(have hne1:R≠w.heap.size:=by omega);(have hne2:w.heap.size≠R:=by omega);clear hb9 bR9 bR HBE bM bM9;go_wp21;refine bodyPost_ret (v:=.tuple #[.agg #[.int .i64 0,.slice none 0 0,.slice none 0 0],.agg #[.int .i64 3,.int .i64 (i:Int)]]) (by simp[results,Try.results89,go_sem,lR,lM,hne1,hne2,r0,r1,rf0,rf1,q0,q1,q2,qf0,qf1,qf2]) rfl ?_;rw[zBc HR.o (by omega)];exact⟨_,rfl,wAc _ _,((((HB9.o.setCell (p:=⟨w.heap.size,0,none⟩) (by exact wAa _) (.int .i64 0)).setCell (p:=⟨w.heap.size,1,none⟩) (by exact wAa _) (.slice none 0 0)).setCell (p:=⟨w.heap.size,2,none⟩) (by exact wAa _) (.slice none 0 0)).setCell (p:=⟨R,0,none⟩) (by show w.heap.size≤R;omega) (.int .i64 3)).setCell (p:=⟨R,1,none⟩) (by show w.heap.size≤R;omega) (.int .i64 (i:Int))⟩
          ·by_cases h2:(n:Int)≤t
           ·have s1:decide (t < -1)=false:=decide_eq_false h1;have s2:decide (t≥(n:Int))=true:=decide_eq_true h2;have s2':decide ((n:Int)≤t)=true:=decide_eq_true h2
            have HR:=zh (show tblF l L F.length=(3,(i:Int)) from zGA HL3.o HLB.o HN2.o hil HALL.o (by
             unfold rowB
             rw[HR1.o,if_neg (by rw[HL1.o,HQ.o];simp),if_neg (fun h=>by have:=(h t hmem).2;rw[HN.o] at this;omega)]))
            have HWW:=zh (HW3.o.trans HWW.o);have bR:=HR2.o;have bM:=HRM2.o;have HBE:=zh HB2.o;have hww:W2=wr:=HWW.o.symm;rw[hww] at bR HBE lR2 bM lM2;clear hww;clear h1 h2 hjl HY HALL HT HTK hmem HW3 hil;go_wp2_with fail;refine (zAx _ _ _).mono ?_;rintro e w9 ⟨rfl,hb9⟩;have bR9:=bR.below hb9 lR2;have bM9:=bM.below hb9 lM2;have HB9:=zh (HBE.o.trans (hb9.mono (by omega)));have r0:=bR9.cell 0;have rf0:=bR9.frozen 0;have r1:=bR9.cell 1;have rf1:=bR9.frozen 1;have q0:=bM9.cell 0;have qf0:=bM9.frozen 0;have q1:=bM9.cell 1;have qf1:=bM9.frozen 1;have q2:=bM9.cell 2;have qf2:=bM9.frozen 2;simp at r0 r1 q0 q1 q2;have lR:=bR9.lt;have lM:=bM9.lt;(have hne1:R≠w.heap.size:=by omega);(have hne2:w.heap.size≠R:=by omega);clear hb9 bR9 bR HBE bM bM9;go_wp21;refine bodyPost_ret (v:=.tuple #[.agg #[.int .i64 0,.slice none 0 0,.slice none 0 0],.agg #[.int .i64 3,.int .i64 (i:Int)]]) (by simp[results,Try.results89,go_sem,lR,lM,hne1,hne2,r0,r1,rf0,rf1,q0,q1,q2,qf0,qf1,qf2]) rfl ?_;rw[zBc HR.o (by omega)];exact⟨_,rfl,wAc _ _,((((HB9.o.setCell (p:=⟨w.heap.size,0,none⟩) (by exact wAa _) (.int .i64 0)).setCell (p:=⟨w.heap.size,1,none⟩) (by exact wAa _) (.slice none 0 0)).setCell (p:=⟨w.heap.size,2,none⟩) (by exact wAa _) (.slice none 0 0)).setCell (p:=⟨R,0,none⟩) (by show w.heap.size≤R;omega) (.int .i64 3)).setCell (p:=⟨R,1,none⟩) (by show w.heap.size≤R;omega) (.int .i64 (i:Int))⟩
           ·have s1:decide (t < -1)=false:=decide_eq_false h1;have s2:decide (t≥(n:Int))=false:=decide_eq_false h2;have s2':decide ((n:Int)≤t)=false:=decide_eq_false h2
            have HTN:=zh (show ∀ z∈rw1.take (j+1),-1≤z∧z<(n:Int) from fun z hz=>by
             rw[HTK.o] at hz;rcases List.mem_append.1 hz with hz | hz
             · exact HT.o z hz
             · rw[List.mem_singleton.1 hz];omega)
            clear h1 h2 hjl HY HT HTK hmem;go_wp2;go_roundw
            case rel=>exact⟨j+1,by omega,by go_num,HW3.o,HTN⟩
            case measure=>simp[intOf];omega
         ·obtain rfl:n1=j:=by omega
          have HNX:=zh (show ∀ j,j<i+1→rowB l.length L.length L j=none from fun j hj=>by
           by_cases g:j=i
           ·subst g;unfold rowB;rw[HR1.o,if_neg (by rw[HL1.o,HQ.o];simp),if_pos];intro z hz;rw[HN.o];exact HT.o z (by rw[wAf (by rw[HL1.o];exact wAa _)];exact hz)
           · exact HALL.o j (by omega))
          clear HALL HT hil;go_wp2;go_roundw
          case rel=>exact⟨i+1,by omega,by go_num,HW3.o.trans HWW.o,HNX⟩
          case measure=>simp[intOf];omega
       ·(have t3:((n1:Int) != (ql:Int))=true:=by simp;omega);have t3':((n1:Int)==(ql:Int))=false:=by simp;omega
        have HR:=zh (show tblF l L F.length=(9,(i:Int)) from zGA HL3.o HLB.o HN2.o hil HALL.o (by
         unfold rowB
         rw[HR1.o,if_pos (by rw[HL1.o,HQ.o];exact hlen)]))
        have bR:=HR2.o;have bM:=HRM2.o;have HBE:=zh HB2.o;have hww:W2=wr:=HWW.o.symm;rw[hww] at bR HBE lR2 bM lM2;clear hww;clear hlen hil HALL;go_wp2_with fail;refine (zAx _ _ _).mono ?_;rintro e w9 ⟨rfl,hb9⟩;have bR9:=bR.below hb9 lR2;have bM9:=bM.below hb9 lM2;have HB9:=zh (HBE.o.trans (hb9.mono (by omega)));have r0:=bR9.cell 0;have rf0:=bR9.frozen 0;have r1:=bR9.cell 1;have rf1:=bR9.frozen 1;have q0:=bM9.cell 0;have qf0:=bM9.frozen 0;have q1:=bM9.cell 1;have qf1:=bM9.frozen 1;have q2:=bM9.cell 2;have qf2:=bM9.frozen 2;simp at r0 r1 q0 q1 q2;have lR:=bR9.lt;have lM:=bM9.lt;(have hne1:R≠w.heap.size:=by omega);(have hne2:w.heap.size≠R:=by omega);clear hb9 bR9 bR HBE bM bM9;go_wp21;refine bodyPost_ret (v:=.tuple #[.agg #[.int .i64 0,.slice none 0 0,.slice none 0 0],.agg #[.int .i64 9,.int .i64 (i:Int)]]) (by simp[results,Try.results89,go_sem,lR,lM,hne1,hne2,r0,r1,rf0,rf1,q0,q1,q2,qf0,qf1,qf2]) rfl ?_;rw[zBc HR.o (by omega)];exact⟨_,rfl,wAc _ _,((((HB9.o.setCell (p:=⟨w.heap.size,0,none⟩) (by exact wAa _) (.int .i64 0)).setCell (p:=⟨w.heap.size,1,none⟩) (by exact wAa _) (.slice none 0 0)).setCell (p:=⟨w.heap.size,2,none⟩) (by exact wAa _) (.slice none 0 0)).setCell (p:=⟨R,0,none⟩) (by show w.heap.size≤R;omega) (.int .i64 9)).setCell (p:=⟨R,1,none⟩) (by show w.heap.size≤R;omega) (.int .i64 (i:Int))⟩
      ·(obtain rfl:n=i:=by omega);have HRB:=zh (show ∀ j,j<L.length→rowB l.length L.length L j=none from fun j hj=>HALL.o j (by rw[← HN.o];exact hj));clear HALL HRK;by_cases hfn:nf=n
       ·have HR:=zh (show tblF l L F.length=(0,0) by rw[zET HL3.o HLB.o HN2.o HRB.o,if_neg (by rw[HF.o,HN.o];omega)]);(have t4:((nf:Int) != (n:Int))=false:=by simp;omega);(have t4':((nf:Int)==(n:Int))=true:=by simp;omega);have bR:=HR2.o;have HBE:=zh HB2.o;have HLE:=HWW.o;rw[← HLE] at bR HBE lR2;clear hfn;have bM:=HRM2.o;rw[← HLE] at bM lM2;have HSO:=zh (zD0 (by rw[HR.o])).2.sm;have HHL3:=zh (HHL.o.below HBE.o hB);have HHN3:=zh (HHN.o.below HBE.o hB);have HHF3:=zh (HHF.o.below HBE.o hB);(have hB3:B≤wr.heap.size:=by omega);clear HLE HWW;go_wp2_with fail;refine (zEn _ _ _ l L F _ B hB3 HHL3.o HHN3.o HHF3.o HSO.o).mono ?_;rintro e w9 ⟨v1,rfl,hnew,hb9⟩;obtain⟨A9,AF9,n9,c9,nf9,cf9,rfl,_⟩:=hnew.at_;have bR9:=bR.below hb9 lR2;have bM9:=bM.below hb9 lM2;have HB9:=zh (HBE.o.trans (hb9.mono hzr));have r0:=bR9.cell 0;have r1:=bR9.cell 1;have rf0:=bR9.frozen 0;have rf1:=bR9.frozen 1;have q0:=bM9.cell 0;have q1:=bM9.cell 1;have q2:=bM9.cell 2;have qf0:=bM9.frozen 0;have qf1:=bM9.frozen 1;have qf2:=bM9.frozen 2;simp at r0 r1 q0 q1 q2;have lR:=bR9.lt;have lM:=bM9.lt;(have hne1:R≠w.heap.size:=by omega);(have hne2:w.heap.size≠R:=by omega);obtain⟨g9,hg9⟩:∃ z,z=(limR (canT l L F)).1.n:=⟨_,rfl⟩;obtain⟨f1,hf1⟩:∃ z,z=(limR (canT l L F)).2.1:=⟨_,rfl⟩;obtain⟨f2,hf2⟩:∃ z,z=(limR (canT l L F)).2.2:=⟨_,rfl⟩;rw[← hg9] at hnew;simp only[← hg9,← hf1,← hf2];have HF1:=zh hf1;have HF2:=zh hf2;have HNW:=zh (((((hnew.set (p:=⟨w.heap.size,0,none⟩) (by show w.heap.size<wr.heap.size;omega) (.int .i64 g9)).set (p:=⟨w.heap.size,1,none⟩) (by show w.heap.size<wr.heap.size;omega) (.slice A9 n9 c9)).set (p:=⟨w.heap.size,2,none⟩) (by show w.heap.size<wr.heap.size;omega) (.slice AF9 nf9 cf9)).set (p:=⟨R,0,none⟩) (by show R<wr.heap.size;omega) (.int .i64 f1)).set (p:=⟨R,1,none⟩) (by show R<wr.heap.size;omega) (.int .i64 f2));have HB10:=zh (((((HB9.o.setCell (p:=⟨w.heap.size,0,none⟩) (by exact wAa _) (.int .i64 g9)).setCell (p:=⟨w.heap.size,1,none⟩) (by exact wAa _) (.slice A9 n9 c9)).setCell (p:=⟨w.heap.size,2,none⟩) (by exact wAa _) (.slice AF9 nf9 cf9)).setCell (p:=⟨R,0,none⟩) (by show w.heap.size≤R;omega) (.int .i64 f1)).setCell (p:=⟨R,1,none⟩) (by show w.heap.size≤R;omega) (.int .i64 f2));clear hb9 hnew bR9 bM9 bR bM HBE hg9 hf1 hf2 HB9;go_wp21;refine bodyPost_ret (v:=.tuple #[.agg #[.int .i64 g9,.slice A9 n9 c9,.slice AF9 nf9 cf9],.agg #[.int .i64 f1,.int .i64 f2]]) (by simp[results,Try.results89,go_sem,lR,lM,hne1,hne2,r0,r1,rf0,rf1,q0,q1,q2,qf0,qf1,qf2]) rfl ?_;rw[zDR HR.o,← HF1.o,← HF2.o];exact⟨_,rfl,HNW.o.mono hzr,HB10.o⟩
       ·have HR:=zh (show tblF l L F.length=(9,-3) by rw[zET HL3.o HLB.o HN2.o HRB.o,if_pos (by rw[HF.o,HN.o];exact hfn)]);(have t4:((nf:Int) != (n:Int))=true:=by simp;omega);(have t4':((nf:Int)==(n:Int))=false:=by simp;omega);have bR:=HR2.o;have bM:=HRM2.o;have HBE:=zh HB2.o;have hww:W2=wr:=HWW.o.symm;rw[hww] at bR HBE lR2 bM lM2;clear hww;clear hfn;go_wp2_with fail;refine (zAx _ _ _).mono ?_;rintro e w9 ⟨rfl,hb9⟩;have bR9:=bR.below hb9 lR2;have bM9:=bM.below hb9 lM2;have HB9:=zh (HBE.o.trans (hb9.mono (by omega)));have r0:=bR9.cell 0;have rf0:=bR9.frozen 0;have r1:=bR9.cell 1;have rf1:=bR9.frozen 1;have q0:=bM9.cell 0;have qf0:=bM9.frozen 0;have q1:=bM9.cell 1;have qf1:=bM9.frozen 1;have q2:=bM9.cell 2;have qf2:=bM9.frozen 2;simp at r0 r1 q0 q1 q2;have lR:=bR9.lt;have lM:=bM9.lt;(have hne1:R≠w.heap.size:=by omega);(have hne2:w.heap.size≠R:=by omega);clear hb9 bR9 bR HBE bM bM9;go_wp21;refine bodyPost_ret (v:=.tuple #[.agg #[.int .i64 0,.slice none 0 0,.slice none 0 0],.agg #[.int .i64 9,.int .i64 (-3)]]) (by simp[results,Try.results89,go_sem,lR,lM,hne1,hne2,r0,r1,rf0,rf1,q0,q1,q2,qf0,qf1,qf2]) rfl ?_;rw[zBc HR.o (by omega)];exact⟨_,rfl,wAc _ _,((((HB9.o.setCell (p:=⟨w.heap.size,0,none⟩) (by exact wAa _) (.int .i64 0)).setCell (p:=⟨w.heap.size,1,none⟩) (by exact wAa _) (.slice none 0 0)).setCell (p:=⟨w.heap.size,2,none⟩) (by exact wAa _) (.slice none 0 0)).setCell (p:=⟨R,0,none⟩) (by show w.heap.size≤R;omega) (.int .i64 9)).setCell (p:=⟨R,1,none⟩) (by show w.heap.size≤R;omega) (.int .i64 (-3))⟩
end Go.Proofs.Ytkfdhpbnphojoaa
namespace Gm
structure DmOk (t:Mach) (S:Nat):Prop where
 n:t.n=(S:Int)
 n4:S≤400
 len:t.arcs.length≤2000
 flen:t.fins.length≤400
 rng:inRange t.arcs S
 frng:∀ x∈t.fins,0≤x.s∧x.s<(S:Int)
 det:DetA t.arcs
 lab:∀ a∈t.arcs,0<a.i∧a.i≤1114111
theorem zC6:DmOk emptyM 0:=⟨rfl,by omega,by decide,by decide,(fun a ha=>by cases ha),(fun x hx=>by cases hx),(fun a ha=>by cases ha),(fun a ha=>by cases ha)⟩
theorem zAW {m:Mach} (h:(detW m).2=(0,0)):∃ S,DmOk (detW m).1 S:=by
 obtain⟨_,⟨e,_⟩ | ⟨N,_,_,_,K,hK,hB⟩⟩:=zBe h
 · rw[e];exact⟨0,zC6⟩
 · exact⟨K,hK.n,hK.n4,hK.len,hK.flen,hK.rng,hK.frng,hB.det,hK.lab⟩
def nxI (t:Mach) (s x:Int):Int:=if 0≤s then afterL t.arcs s.toNat x else -1
def acI (t:Mach) (s:Int):Bool:=decide (0≤s)&&(decide (s<t.n)&&fnB t.fins t.fins.length s.toNat)
def acR (t:Mach):Int→List Int→Bool
 | s,[]=>acI t s
 | s,x::w=>acR t (nxI t s x) w
def s0I (t:Mach):Int:=if 0<t.n then 0 else -1
section
variable {t:Mach} {S:Nat}
theorem zCc (h:DmOk t S) (s x:Int) : -1≤nxI t s x∧nxI t s x<(S:Int)∨nxI t s x = -1:=by
 unfold nxI;split
 · exact zCr h.rng _ _
 · exact .inr rfl
theorem zEk:∀ (w:List Int),acR t (-1) w=false
 | []=>by unfold acR acI;rfl
 | x::w=>by
  unfold acR
  have:nxI t (-1) x = -1:=by unfold nxI;rw[if_neg (by omega)]
  rw[this];exact zEk w
theorem zEG (h:DmOk t S):∀ (w:List Int) (s:Nat),s<S→(acR t (s:Int) w=true↔langM t s w)
 | [],s,hs=>by
  show acI t (s:Int)=true↔finM' t s=true
  unfold acI;rw[← zHx,h.n];simp;intro _;omega
 | x::w,s,hs=>by
  show acR t (nxI t (s:Int) x) w=true↔∃ u,(x,u)∈tstp (lsM t) (rowM t) s∧langM t u w
  unfold rowM;have h0:∀ a∈t.arcs,0≤a.t:=fun a ha=>(h.rng a ha).2.2.1
  have e:nxI t (s:Int) x=afterL t.arcs s x:=by unfold nxI;rw[if_pos (by omega)];simp
  constructor
  ·intro hw;by_cases hn:0≤afterL t.arcs s x
   ·have hr:=zCc h (s:Int) x;rw[e] at hr hw;(have e2:afterL t.arcs s x=(((afterL t.arcs s x).toNat:Nat):Int):=by omega);rw[e2] at hw;obtain⟨a,ha,g1,g2,g3⟩:=(zDh h.det h0 (u:=(afterL t.arcs s x).toNat)).1 ⟨hn,rfl⟩;refine⟨(afterL t.arcs s x).toNat,(zB9 h.det h0).2 ⟨(zAy _ _).2 ⟨by rw[← g2];have:=(h.lab a ha).1;omega,a,ha,g2⟩,a,ha,g1,g2,g3⟩,(zEG h w _ (by omega)).1 hw⟩
   ·have e3:afterL t.arcs s x = -1:=by
     rcases zCc h (s:Int) x with g | g<;>(rw[e] at g;omega)
    rw[e,e3,zEk] at hw;cases hw
  ·rintro⟨u,hu,hw⟩;obtain⟨_,a,ha,g1,g2,g3⟩:=(zB9 h.det h0).1 hu;obtain⟨k1,k2⟩:=(zDh h.det h0 (u:=u)).2 ⟨a,ha,g1,g2,g3⟩;have hr:=h.rng a ha;rw[e,show afterL t.arcs s x=(u:Int) by omega];exact (zEG h w u (by omega)).2 hw
theorem zIg (h:DmOk t S) (w:List Int):acR t (s0I t) w=true↔langM t 0 w:=by
 unfold s0I;by_cases hn:0<t.n
 ·rw[if_pos hn];exact zEG h w 0 (by have:=h.n;omega)
 ·rw[if_neg hn,zEk];have hS:S=0:=by have:=h.n;omega
  constructor
  · intro g;cases g
  ·intro g;exfalso
   have hA:t.arcs=[]:=by
    cases e:t.arcs with
    | nil=>rfl
    | cons a l=>have:=h.rng a (by rw[e];exact wAl);omega
   have hF:t.fins=[]:=by
    cases e:t.fins with
    | nil=>rfl
    | cons a l=>have:=h.frng a (by rw[e];exact wAl);omega
   have g':=(zC9 h.det (fun a ha=>(h.rng a ha).2.2.1) (fun a ha=>by have:=(h.lab a ha).1;omega) w 0).1 g;rw[hA,hF] at g';exact zJV _ w g'
end
def stpC (a b:Mach) (l:List Int) (c:Int×Int):List (Int×(Int×Int)):=l.map fun x=>(x,(nxI a c.1 x,nxI b c.2 x))
def stpCk (a b:Mach) (l:List Int) (c:Int×Int) (k:Nat):List (Int×(Int×Int)):=(l.take k).map fun x=>(x,(nxI a c.1 x,nxI b c.2 x))
theorem zGv (a b:Mach) (l:List Int) (c:Int×Int):stpCk a b l c 0=[]:=by unfold stpCk;simp
theorem zGc {a b:Mach} {l:List Int} {c:Int×Int} {k:Nat} {x:Int} (h:l[k]? = some x):stpCk a b l c (k+1)=stpCk a b l c k++[(x,(nxI a c.1 x,nxI b c.2 x))]:=by
 unfold stpCk;rw[List.take_add_one,h,wAj];rfl
theorem zNT {a b:Mach} {l:List Int} {c:Int×Int} {k:Nat} (h:l.length≤k):stpCk a b l c k=stpC a b l c:=by unfold stpCk stpC;rw[wAf h]
abbrev StC (a b:Mach) (l:List Int) (i:Nat):(List (Int×Int)×List Arc)×List Fnl:=StB (stpC a b l) (fun _=>false) (s0I a,s0I b) i
def LsC (a b:Mach) (l:List Int) (i:Nat):List (Int×Int):=(StC a b l i).1.1
def cpC (a b:Mach) (l:List Int) (i:Nat):Int×Int:=(LsC a b l i).getD i (-1,-1)
def rowC (a b:Mach) (l:List Int) (i:Nat):List Int:=l.map fun x=>(((LsC a b l (i+1)).idxOf (nxI a (cpC a b l i).1 x,nxI b (cpC a b l i).2 x):Nat):Int)
def finC (a b:Mach) (l:List Int) (K:Bool→Bool→Bool) (i:Nat):Bool:=K (acI a (cpC a b l i).1) (acI b (cpC a b l i).2)
def rowsC (a b:Mach) (l:List Int) (i:Nat):List (List Int):=(wAk i).map (rowC a b l)
def finsC (a b:Mach) (l:List Int) (K:Bool→Bool→Bool) (i:Nat):List Bool:=(wAk i).map (finC a b l K)
section
variable {a b:Mach} {l:List Int}
theorem zGP {i:Nat} (h:i<(LsC a b l i).length):LsC a b l (i+1)=(bfsRow i (stpC a b l (cpC a b l i)) (StC a b l i).1).1:=by
 have hc:(StC a b l i).1.1[i]? = some (cpC a b l i):=by
  unfold cpC;rw[wAd,wAe h];exact wAe h
 unfold LsC;rw[show StC a b l (i+1)=StB (stpC a b l) (fun _=>false) (s0I a,s0I b) (i+1) from rfl,zB5 hc]
theorem zD9 {i j:Nat} (h:i≤j):∃ k,LsC a b l j=LsC a b l i++k:=by
 obtain⟨d,rfl⟩:∃ d,j=i+d:=⟨j-i,by omega⟩;unfold LsC
 induction d with
 | zero=>exact⟨[],by simp⟩
 | succ d ih =>
  obtain⟨k,hk⟩:=ih (by omega)
  show ∃ k,(bfsGo _ _ (i+d+1) 0 _ _).1.1=_
  rw[zBb];obtain⟨k2,A,e,_⟩:=zFn (stp:=stpC a b l) (fin:=fun _=>false) 1 (0+(i+d)) (StC a b l (i+d)).1 (StC a b l (i+d)).2;refine⟨k++k2,?_⟩;rw[← wAq,← hk];exact e
theorem zQg {i j:Nat} (hi:i<(LsC a b l i).length) (h:i≤j):(LsC a b l j)[i]? = some (cpC a b l i):=by
 obtain⟨k,e⟩:=zD9 (a:=a) (b:=b) (l:=l) h;rw[e,wAh hi];unfold cpC;rw[wAd,wAe hi];rfl
theorem zKe {i:Nat} (h:i<(LsC a b l i).length) {x:Int} (hx:x∈l):(nxI a (cpC a b l i).1 x,nxI b (cpC a b l i).2 x)∈LsC a b l (i+1):=by
 rw[zGP h];exact (zDk i _ _ _).2 (.inr ⟨x,wAt.2 ⟨x,hx,rfl⟩⟩)
theorem zGl {K:Bool→Bool→Bool} {I:Nat} (hI:(LsC a b l I).length=I) (hs:l.Pairwise (· < ·)):∀ (w:List Int) (i:Nat),i<I→(accS (tstp l (rowOf (rowsC a b l I))) (finOf (finsC a b l K I)) i w↔(∀ x∈w,x∈l)∧K (acR a (cpC a b l i).1 w) (acR b (cpC a b l i).2 w)=true):=by
 have hlt:∀ i,i<I→i<(LsC a b l i).length:=by
  intro i hi;apply Decidable.byContradiction;intro g;have e:=zA8 (stp:=stpC a b l) (fin:=fun _=>false) (i:=0+i) (st:=(StC a b l i).1) (F:=(StC a b l i).2) (by unfold LsC at g;omega)
  have e2:(StC a b l I).1.1=(StC a b l i).1.1:=by
   obtain⟨d,rfl⟩:∃ d,I=i+d:=⟨I-i,by omega⟩;clear hI hi
   induction d with
   | zero=>rfl
   | succ d ih =>
    show (bfsGo _ _ (i+d+1) 0 _ _).1.1=_
    rw[zBb];have e3:=zA8 (stp:=stpC a b l) (fin:=fun _=>false) (i:=0+(i+d)) (st:=(StC a b l (i+d)).1) (F:=(StC a b l (i+d)).2) (by rw[ih];unfold LsC at g;omega) 1
    show (bfsGo _ _ 1 (0+(i+d)) (StC a b l (i+d)).1 (StC a b l (i+d)).2).1.1=_
    rw[e3];exact ih
  unfold LsC at hI g;rw[e2] at hI;omega
 intro w
 induction w with
 | nil =>
  intro i hi
  show finOf (finsC a b l K I) i=true↔_
  have e:finOf (finsC a b l K I) i=finC a b l K i:=by
   unfold finOf finsC;simp[wAd,hi]
  rw[e];unfold finC;constructor
  · intro h;exact⟨(fun x hx=>by cases hx),h⟩
  · intro h;exact h.2
 | cons x w ih =>
  intro i hi
  have er:rowOf (rowsC a b l I) i=rowC a b l i:=by
   unfold rowOf rowsC;simp[wAd,hi]
  have key:∀ (x:Int),x∈l→∃ u:Nat,u<I∧(((LsC a b l (i+1)).idxOf (nxI a (cpC a b l i).1 x,nxI b (cpC a b l i).2 x):Nat):Int)=(u:Int)∧cpC a b l u=(nxI a (cpC a b l i).1 x,nxI b (cpC a b l i).2 x):=by
   intro x hx;have hm:=zKe (hlt i hi) hx;have hu:=List.idxOf_lt_length_of_mem hm;obtain⟨k,e⟩:=zD9 (a:=a) (b:=b) (l:=l) (show i+1≤I by omega);(have hle:(LsC a b l (i+1)).length≤I:=by rw[← hI,e,List.length_append];omega);refine⟨_,by omega,rfl,?_⟩
   have h1:(LsC a b l I)[(LsC a b l (i+1)).idxOf (nxI a (cpC a b l i).1 x,nxI b (cpC a b l i).2 x)]? = some (nxI a (cpC a b l i).1 x,nxI b (cpC a b l i).2 x):=by
    rw[e,wAh hu,wAe hu,List.getElem_idxOf]
   have h2:=zQg (a:=a) (b:=b) (l:=l) (hlt ((LsC a b l (i+1)).idxOf (nxI a (cpC a b l i).1 x,nxI b (cpC a b l i).2 x)) (by omega)) (show _≤I by omega);rw[h1] at h2;(injection h2 with h2);exact h2.symm
  show (∃ u,(x,u)∈tstp l (rowOf (rowsC a b l I)) i∧accS _ _ u w)↔(∀ y∈x::w,y∈l)∧K (acR a (nxI a (cpC a b l i).1 x) w) (acR b (nxI b (cpC a b l i).2 x) w)=true
  constructor
  ·rintro⟨u,hu,hw⟩;obtain⟨j,tg,h1,h2,h3,rfl⟩:=mem_tstp.1 hu;rw[er] at h2;unfold rowC at h2;rw[wAi,h1] at h2;(have h2:(((LsC a b l (i+1)).idxOf (nxI a (cpC a b l i).1 x,nxI b (cpC a b l i).2 x):Nat):Int)=tg:=by injection h2);have hx:=List.mem_of_getElem? h1;obtain⟨u,hu1,hu2,hu3⟩:=key x hx;(have e:tg.toNat=u:=by omega);rw[e] at hw;obtain⟨g1,g2⟩:=(ih u hu1).1 hw;rw[hu3] at g2;exact⟨fun y hy=>by rcases List.mem_cons.1 hy with rfl | hy;exact hx;exact g1 y hy,g2⟩
  ·rintro⟨g1,g2⟩;have hx:=g1 x wAl;obtain⟨u,hu1,hu2,hu3⟩:=key x hx;obtain⟨j,hj⟩:=List.getElem?_of_mem hx;refine⟨u,mem_tstp.2 ⟨j,(u:Int),hj,?_,by omega,by simp⟩,(ih u hu1).2 ⟨fun y hy=>g1 y (List.mem_cons_of_mem _ hy),by rw[hu3];exact g2⟩⟩;rw[er];unfold rowC;rw[wAi,hj];exact congrArg some hu2
theorem zQ7 {i k:Nat} (hi:i<(LsC a b l i).length) {x:Int} (hx:l[k]? = some x):(rowC a b l i)[k]? = some ((((addL (bfsRow i (stpCk a b l (cpC a b l i) k) (StC a b l i).1).1 (nxI a (cpC a b l i).1 x,nxI b (cpC a b l i).2 x)).idxOf (nxI a (cpC a b l i).1 x,nxI b (cpC a b l i).2 x):Nat):Int)):=by
 unfold rowC;rw[wAi,hx]
 have e:∃ p,stpC a b l (cpC a b l i)=stpCk a b l (cpC a b l i) (k+1)++p:=by
  refine⟨(l.drop (k+1)).map fun x=>(x,(nxI a (cpC a b l i).1 x,nxI b (cpC a b l i).2 x)),?_⟩;unfold stpC stpCk;rw[← wAj,List.take_append_drop]
 obtain⟨p,e⟩:=e
 have e3:∃ k2,LsC a b l (i+1)=addL (bfsRow i (stpCk a b l (cpC a b l i) k) (StC a b l i).1).1 (nxI a (cpC a b l i).1 x,nxI b (cpC a b l i).2 x)++k2:=by
  rw[zGP hi,e,zBx,zGc hx,zCs];exact zAS i p _
 obtain⟨k2,e3⟩:=e3
 show some ((((LsC a b l (i+1)).idxOf (nxI a (cpC a b l i).1 x,nxI b (cpC a b l i).2 x):Nat):Int))=_
 rw[e3];have h:=zFE (k:=k2) (show (nxI a (cpC a b l i).1 x,nxI b (cpC a b l i).2 x)∈addL (bfsRow i (stpCk a b l (cpC a b l i) k) (StC a b l i).1).1 (nxI a (cpC a b l i).1 x,nxI b (cpC a b l i).2 x) from addL_mem.2 (.inr rfl));exact congrArg (fun z:Nat=>some ((z:Nat):Int)) ((zA0 _ _ _ _).trans (h.trans (zA0 _ _ _ _)))
theorem zC1 (i:Nat):(rowC a b l i).length=l.length:=by unfold rowC;rw[wAr]
def okCp (n:Int) (c:Int×Int):Prop := -1≤c.1∧c.1<n ∧ -1≤c.2∧c.2<n
theorem zFL {Sa Sb:Nat} (ha:DmOk a Sa) (hb:DmOk b Sb) (p q x:Int):okCp 401 (nxI a p x,nxI b q x):=by
 have h1:=zCc ha p x;have h2:=zCc hb q x
 have:=ha.n4
 have:=hb.n4
 unfold okCp;dsimp only;omega
theorem zGi {Sa Sb:Nat} (ha:DmOk a Sa) (hb:DmOk b Sb):okCp 401 (s0I a,s0I b):=by
 unfold okCp s0I;dsimp only;split<;>split<;>omega
theorem zQi {Sa Sb:Nat} (ha:DmOk a Sa) (hb:DmOk b Sb) (i:Nat):∀ c∈LsC a b l i,okCp 401 c:=zCV (P:=okCp 401) (zGi ha hb) (fun s _ e he=>by
 obtain⟨x,_,rfl⟩:=wAt.1 he
 exact zFL ha hb _ _ _) i
theorem zFf {α:Type} [DecidableEq α] (i:Nat):∀ (p:List (Int×α)) (st:List α×List Arc),(bfsRow i p st).1.length≤st.1.length+p.length
 | [],st=>by simp[bfsRow]
 | (x,u)::p,st=>by
  unfold bfsRow;have h:=zFf i p (addL st.1 u,st.2++[⟨(i:Int),((addL st.1 u).idxOf u:Nat),x,x,0⟩])
  have h2:(addL st.1 u).length≤st.1.length+1:=by
   unfold addL;split
   · omega
   · simp
  rw[List.length_cons];dsimp only at h;omega
theorem zMI (i k:Nat):(bfsRow i (stpCk a b l (cpC a b l i) k) (StC a b l i).1).1.length≤(LsC a b l i).length+k:=by
 have h:=zFf i (stpCk a b l (cpC a b l i) k) (StC a b l i).1;have h2:(stpCk a b l (cpC a b l i) k).length≤k:=by unfold stpCk;rw[wAr,List.length_take];omega
 unfold LsC;omega
end
def JoinR (a b:Mach) (l:List Int) (K:Bool→Bool→Bool) (r:Mach×(Int×Int)):Prop:=(r=(emptyM,(17,-1))∧∃ i,20000<(LsC a b l i).length)∨∃ I,(LsC a b l I).length=I∧I≤20000∧r=leastR l (rowsC a b l I) (finsC a b l K I)
end Gm
