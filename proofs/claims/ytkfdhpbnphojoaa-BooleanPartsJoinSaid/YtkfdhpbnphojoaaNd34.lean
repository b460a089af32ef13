/- Part of the proof. -/
import Derived.Test.YtkfdhpbnphojoaaNd33
import Derived.Test.YtkfdhpbnphojoaaNd32
set_option linter.unusedSimpArgs false
set_option linter.unusedVariables false
set_option maxRecDepth 100000
set_option maxHeartbeats 64000000
open List renaming setIfInBounds_toArray→wAa,set_cons_zero→wAb,set_cons_succ→wAc,replicate→wAh,getElem?_eq_getElem→wAj,length_append→wAk,length_take→wAn,getElem_cons_zero→wAp,getElem_cons_succ→wAq,length_replicate→wAr,mem_of_getElem?→wAs,getElem_toArray→wAt,getElem?_map→wAu,map_set→wAw
open Nat renaming le_refl→wAe,zero_add→wAo,reduceAdd→wAv
open Go.Region renaming binds→wAd
open Gm.StepsR renaming cons→wAf
open Go.Act renaming put→wAg
open Gm.Blk renaming at_→wAi
open Go.RowKit.Below renaming refl→wAl
open Go.World renaming news_of_block→wAm
namespace Go.Proofs.Ytkfdhpbnphojoaa
open Go.RowKit Gm
theorem zK6 (a b:Int) (w:World) :
 Calls Try.prog 59 #[.int .i64 a,.int .i64 b] w fun e w'=>e=.returned (.agg #[.int .i64 a,.int .i64 b])∧Below w.heap.size w w':=by
 go_enter Try.func59,Try.ntmps59
 go_wp2;exact bodyPost_ret (v:=.agg #[.int .i64 a,.int .i64 b]) (by simp[results,Try.results59,go_sem]) rfl ⟨rfl,by go_grown⟩
theorem zJM {w:World} {g:Nat} {t:TypeId} {c:Int×Int} (h:Blk w g t #[.int .i64 c.1,.int .i64 c.2]):w.ownsRow g t 2 (.slice (some ⟨g,0,none⟩) 1 1) 1 (finRow (cF [c])) :=
 ⟨rfl,.inr ⟨g,1,_,rfl,wAe _,h,wAe _,by simp[maxLen],rfl,rfl⟩⟩
theorem zH3 (a:Mach) (w:World) (S Mb gF:Nat) (s x:Int) (h:LangAt w a S Mb gF) (hD:DmOk a S) (hs : -1≤s∧s≤2000000) (hx : -1≤x∧x≤2000000) :
 Calls Try.prog 88 #[.agg #[.map (some Mb),.slice (some ⟨gF,0,none⟩) S S],.int .i64 s,.int .i64 x] w fun e w'=>e=.returned (.int .i64 (nxI a s x))∧Below w.heap.size w w':=zOM a w S Mb gF s x h hD hs hx
def PtL (w:World) (B:Nat) (v:Value) (s:Bool) (u:Value):Prop:=∃ X p q,v=.pointer (some ⟨X,0,none⟩)∧B≤X∧Blk w X 107 #[p,q]∧(s=true→u=.agg #[p,q])
theorem PtL.below {w w':World} {B:Nat} {v:Value} {s:Bool} {u:Value} (h:PtL w B v s u) (hb:Below w.heap.size w w'):PtL w' B v s u:=by
 obtain⟨X,p,q,h1,h2,h3,h4⟩:=h;exact⟨X,p,q,h1,h2,h3.below hb h3.lt,h4⟩
def PtC (w:World) (B:Nat) (v:Value) (s:Bool) (p q:Int):Prop:=∃ X c0 c1,v=.pointer (some ⟨X,0,none⟩)∧B≤X∧Blk w X 110 #[c0,c1]∧(s=true→c0=.int .i64 p∧c1=.int .i64 q)
theorem PtC.below {w w':World} {B:Nat} {v:Value} {s:Bool} {p q:Int} (h:PtC w B v s p q) (hb:Below w.heap.size w w'):PtC w' B v s p q:=by
 obtain⟨X,c0,c1,h1,h2,h3,h4⟩:=h;exact⟨X,c0,c1,h1,h2,h3.below hb h3.lt,h4⟩
theorem zBo {w:World} {m:Mach} {S Mb gF X:Nat} {cs:Array Value} (h:LangAt w m S Mb gF) (hb:Blk w X 107 cs) (i:Nat) (u:Value):LangAt (w.setCell ⟨X,i,none⟩ u) m S Mb gF:=by
 refine⟨h.map.set_ (p:=⟨X,i,none⟩) ?_ u,h.fin.setOther (a:=⟨X,i,none⟩) ?_ u⟩
 ·rintro rfl;obtain⟨es,c,he,_⟩:=h.map;have hb':w.heap[Mb]? = _:=hb;rw[he] at hb';cases hb'
 ·rintro rfl;obtain⟨c,hc,_⟩:=h.fin;have hb':w.heap[gF]? = _:=hb;rw[hc] at hb';injection hb' with hb'
  injection hb' with _ h2
  exact absurd h2 (by decide)
theorem zPp {w:World} {B n c:Nat} {A:Option Addr} {l:List Int} (h:Nums w B (.slice A n c) l):Rd w B 1 A n (intCell l):=by
 obtain⟨A',n',c',e,_,_,_,hr⟩:=h;injection e with e1 e2 e3
 subst e1 e2 e3;exact hr
theorem zKF {R:List Int} {q k:Nat} {v:Int} (hR:R.length=q) (hk:R[k]? = some v):(R.take k++wAh (q-k) 0).set k v=R.take (k+1)++wAh (q-(k+1)) 0:=by
 have hkq:k<q:=by rw[← hR];exact (List.getElem?_eq_some_iff.1 hk).1
 have hl:(R.take k).length=k:=by rw[wAn];omega
 rw[List.take_add_one,hk];rw[show q-k=(q-(k+1))+1 by omega,List.replicate_succ];rw[List.set_append_right _ _ (by omega),hl];simp
theorem zHZ {w:World} {base sz n:Nat} {e:TypeId} {v:Value} {xs:List Value} (h:w.ownsRow base e sz v n xs):w.drew.ownsRow base e sz v n xs:=h
theorem zFw {w:World} {b:Nat} {L:List ((Int×Int)×Value)} (h:MapIs w cplB okB b L):MapIs w.drew cplB okB b L:=h
theorem zQJ {c:Int×Int} (h:okCp 401 c):okB c:=by
 unfold okCp at h;exact⟨by omega,by omega,by omega,by omega⟩
theorem zGe {w:World} {b:Nat} {L L':List (Int×Int)} (h:MapIs w cplB okB b (numE L 0)) (e:L=L'):MapIs w cplB okB b (numE L' 0):=e▸h
theorem zGy (
 fn:FuncId) (hen:∀ args w,(callFunc fn args).run Try.prog w=.ok (.enter fn args) w) (K0:Bool→Bool→Bool) (hK:∀ p q w,Calls Try.prog fn #[.bool p,.bool q] w fun e w'=>e=.returned (.bool (K0 p q))∧Below w.heap.size w w') (va vb vl:Value) (a b:Mach) (Sa Sb:Nat) (l:List Int) (w:World) (ha:MachAt w w.heap.size va a) (hb:MachAt w w.heap.size vb b) (hl:Nums w w.heap.size vl l) (hDa:DmOk a Sa) (hDb:DmOk b Sb) (hl3:l.length≤300) (hlr:∀ x∈l,0≤x∧x≤1114111) :
 Calls Try.prog 51 #[va,vb,vl,.func (.func fn) #[] #[]] w fun e w'=>∃ (r:Mach×(Int×Int)) (v1:Value),e=.returned (.tuple #[v1,.agg #[.int .i64 r.2.1,.int .i64 r.2.2]])∧JoinR a b l K0 r∧MachNew w.heap.size w' v1 r.1∧Below w.heap.size w w':=by
 obtain⟨i0,hi0,iz0,iz1,iz2⟩:=info_parts zAH;obtain⟨i1,hi1,hy0,hy1,hy2⟩:=info_parts zCi;obtain⟨iB,hB0,hB1,hB2,hB3⟩:=info_parts zAN;obtain⟨iC,hC0,hC1,hC2,hC3⟩:=info_parts zLT;have HMA0:=zh ha;have HMB0:=zh hb;have HLL0:=zh hl;have HKK:=zh hK;have HDA:=zh hDa;have HDB:=zh hDb;have HLR:=zh hlr;have hna:=hDa.n;have hnb:=hDb.n;have hsa:=hDa.n4;have hsb:=hDb.n4;obtain⟨A1,AF1,n1,c1,nf1,cf1,rfl,_,_,_,_,_,_,_,_⟩:=ha;obtain⟨A2,AF2,n2,c2,nf2,cf2,rfl,_,_,_,_,_,_,_,_⟩:=hb;obtain⟨AL,q,cl,rfl,HQ,hqc,hqb,hLR⟩:=hl;rw[HQ.o] at hl3;rw[hna] at HMA0 ⊢;rw[hnb] at HMB0 ⊢;clear hK hlr hDa hDb hLR
 go_enter Try.func51,Try.ntmps51
 go_upto_region 1 with fail
 generalize hW1:World.alloc _ _=W1;obtain⟨X,hX⟩:∃ z,z=w.heap.size:=⟨_,rfl⟩;obtain⟨Y,hY⟩:∃ z,z=w.heap.size+1:=⟨_,rfl⟩;obtain⟨M,hM⟩:∃ z,z=w.heap.size+1+1:=⟨_,rfl⟩;obtain⟨R,hR⟩:∃ z,z=w.heap.size+1+1+1:=⟨_,rfl⟩;have bX1:=zh (show Blk W1 X 25 #[.int .i64 (Sa:Int),.slice A1 n1 c1,.slice AF1 nf1 cf1] by rw[← hW1];exact (((wAi hX).alloc _).alloc _).alloc _);have bY1:=zh (show Blk W1 Y 25 #[.int .i64 (Sb:Int),.slice A2 n2 c2,.slice AF2 nf2 cf2] by rw[← hW1];exact ((wAi (by simp[hY])).alloc _).alloc _);have bM1:=zh (show Blk W1 M 25 #[.int .i64 0,.slice none 0 0,.slice none 0 0] by rw[← hW1];exact (wAi (by simp[hM])).alloc _);have bR1:=zh (show Blk W1 R 28 #[.int .i64 0,.int .i64 0] by rw[← hW1];exact wAi (by simp[hR]));have HB1:=zh (show Below w.heap.size w W1 by rw[← hW1];go_grown);have hwM:w.heap.size≤M:=by omega
 have hwR:w.heap.size≤R:=by omega
 have hMR:M≠R:=by omega
 have hRM:R≠M:=by omega
 have hYR:Y<R:=by omega
 have hXY:X<Y:=by omega
 simp only[← hR];simp only[← hM];simp only[← hY]
 try simp only[← hX]
 have HMA1:=zh ((HMA0.o.below HB1.o (wAe _)).mono HB1.o.size);have HMB1:=zh ((HMB0.o.below HB1.o (wAe _)).mono HB1.o.size);have HLL1:=zh ((HLL0.o.below HB1.o (wAe _)).mono HB1.o.size);have lX:=bX1.o.lt;have lY:=bY1.o.lt;have lM1:=bM1.o.lt;have lR1:=bR1.o.lt;have x0:=bX1.o.cell 0;have x1:=bX1.o.cell 1;have x2:=bX1.o.cell 2;have y0:=bY1.o.cell 0;have y1:=bY1.o.cell 1;have y2:=bY1.o.cell 2;simp at x0 x1 x2 y0 y1 y2;clear hW1 hX hY hM hR
 go_cut [10,11] from 25 (fun s10 s11 wx=>∃ (Xa Ya Mp1 g1 Mp2 g2:Nat),s10=.pointer (some ⟨Xa,0,none⟩)∧s11=.pointer (some ⟨Ya,0,none⟩)∧Hid (Blk wx Xa 107 #[.map (some Mp1),.slice (some ⟨g1,0,none⟩) Sa Sa])∧Hid (Blk wx Ya 107 #[.map (some Mp2),.slice (some ⟨g2,0,none⟩) Sb Sb])∧Hid (LangAt wx a Sa Mp1 g1)∧Hid (LangAt wx b Sb Mp2 g2)∧Hid (Below W1.heap.size W1 wx))
 case first =>
  obtain⟨F,hF⟩:∃ F:(Nat→Bool)→(Nat→Value)→World→Prop,F=fun l v wr =>
   (l 0=true→v 0=.agg #[.int .i64 (Sa:Int),.slice A1 n1 c1,.slice AF1 nf1 cf1])∧(l 1=true→∃ Mb g:Nat,v 1=lngV Sa Mb g∧LangAt wr a Sa Mb g)∧(l 2=true→v 2=.agg #[.int .i64 (Sb:Int),.slice A2 n2 c2,.slice AF2 nf2 cf2])∧(l 3=true→∃ Mb g:Nat,v 3=lngV Sb Mb g∧LangAt wr b Sb Mb g) ∧
   (l 4=true→PtL wr W1.heap.size (v 4) (l 6) (v 1))∧(l 5=true→PtL wr W1.heap.size (v 5) (l 7) (v 3))∧(l 4=true→l 5=true→v 4≠v 5)∧Below W1.heap.size W1 wr:=⟨_,rfl⟩
  have HFD:=zh hF;clear hF;refine zAj F (A:=?A) ?hA (by kernel_rfl) (by kernel_rfl) (by kernel_rfl) ?h0 ?hend ?hsteps
  case hA=>intro v;simp only[putR,wAg,wAa,wAb,wAc,wAv,wAo];exact rfl
  case h0 =>
   intro v;rw[HFD.o];refine⟨fun h=>?_,fun h=>?_,fun h=>?_,fun h=>?_,fun h=>?_,fun h=>?_,fun h=>?_,?_⟩
   all_goals first | (exfalso;simp at h;done) | exact (wAl _ _).drew
  case hend =>
   intro l v wr hall hF;rw[HFD.o] at hF;obtain⟨_,f1,_,f3,f4,f5,f6,hb⟩:=hF;obtain⟨Mp1,g1,e1,hL1⟩:=f1 (hall 1 (by simp));obtain⟨Mp2,g2,e3,hL3⟩:=f3 (hall 3 (by simp));obtain⟨Xa,p1,q1,e4,_,hX,s1⟩:=f4 (hall 4 (by simp));obtain⟨Ya,p2,q2,e5,_,hY,s2⟩:=f5 (hall 5 (by simp));have s1:=(s1 (hall 6 (by simp))).symm.trans e1;have s2:=(s2 (hall 7 (by simp))).symm.trans e3;(injection s1 with s1);(injection s2 with s2);rw[s1] at hX;rw[s2] at hY;have HE4:=zh e4;have HE5:=zh e5;have HX:=zh hX;have HY:=zh hY;have H1:=zh hL1;have H3:=zh hL3;have HB:=zh hb;clear f1 f3 f4 f5 f6 hb hall e1 e3 e4 e5 s1 s2 hX hY hL1 hL3;go_wp2;go_meet;exact⟨Xa,Ya,Mp1,g1,Mp2,g2,HE4.o,HE5.o,HX,HY,H1,H3,HB⟩
  case hsteps =>
   refine wAf (n:=0) ?_ (wAf (n:=1) ?_ (wAf (n:=2) ?_ (wAf (n:=3) ?_ (wAf (n:=4) ?_ (wAf (n:=5) ?_ (wAf (n:=6) ?_ (wAf (n:=7) ?_ trivial)))))))
   ·intro l v wr hn hdep hcl hF K hK;rw[HFD.o] at hF;obtain⟨f0,f1,f2,f3,f4,f5,f6,hb⟩:=hF;simp[wAd] at hdep;have H0:=zh f0;have H1:=zh f1;have H2:=zh f2;have H3:=zh f3;have H4:=zh f4;have H5:=zh f5;have H6:=zh f6;have HB:=zh hb;have HCL:=zh hcl;have HN:=zh hn;clear f0 f1 f2 f3 f4 f5 f6 hb hcl hn;have bX:=bX1.o.below HB.o lX;have x0:=bX.cell 0;have x1:=bX.cell 1;have x2:=bX.cell 2;simp at x0 x1 x2;have HX:=zh bX;clear bX;go_simp
    have hk:=hK.out (.agg #[.int .i64 (Sa:Int),.slice A1 n1 c1,.slice AF1 nf1 cf1]) wr (by
     rw[HFD.o];exact⟨fun _=>rfl,H1.o,H2.o,H3.o,H4.o,H5.o,H6.o,HB.o⟩
    )
    simp only[wAg,wAa,wAb,wAc] at hk;exact hk
   ·intro l v wr hn hdep hcl hF K hK;rw[HFD.o] at hF;obtain⟨f0,f1,f2,f3,f4,f5,f6,hb⟩:=hF;simp[wAd] at hdep;have H0:=zh f0;have H1:=zh f1;have H2:=zh f2;have H3:=zh f3;have H4:=zh f4;have H5:=zh f5;have H6:=zh f6;have HB:=zh hb;have HCL:=zh hcl;have HN:=zh hn;clear f0 f1 f2 f3 f4 f5 f6 hb hcl hn;have e0:=H0.o (hdep);clear hdep;go_simp;refine (zDn _ _ wr Sa ((HMA1.o.below HB.o (wAe _)).mono HB.o.size) HDA.o).mono ?_;rintro e w9 ⟨Mb,g,rfl,hL,hb9⟩
    have hk:=hK.out (lngV Sa Mb g) w9 (by
     rw[HFD.o];exact⟨H0.o,(fun _=>⟨Mb,g,rfl,hL⟩),H2.o,(fun h=>by obtain⟨M2,g2,e,hl⟩:=H3.o h;exact⟨M2,g2,e,hl.below hb9⟩),(fun h=>by obtain⟨X,p,q,e,hX,hx,hs⟩:=(H4.o h).below hb9;exact⟨X,p,q,e,hX,hx,fun h6=>absurd (HCL.o 6 _ rfl h6 ⟨1,.data⟩ (by simp) rfl) (by rw[HN.o];decide)⟩),(fun h=>(H5.o h).below hb9),H6.o,HB.o.trans (hb9.mono HB.o.size)⟩
    )
    simp only[wAg,wAa,wAb,wAc] at hk;simp only[e0] at hk;exact hk
   ·intro l v wr hn hdep hcl hF K hK;rw[HFD.o] at hF;obtain⟨f0,f1,f2,f3,f4,f5,f6,hb⟩:=hF;simp[wAd] at hdep;have H0:=zh f0;have H1:=zh f1;have H2:=zh f2;have H3:=zh f3;have H4:=zh f4;have H5:=zh f5;have H6:=zh f6;have HB:=zh hb;have HCL:=zh hcl;have HN:=zh hn;clear f0 f1 f2 f3 f4 f5 f6 hb hcl hn;have bX:=bY1.o.below HB.o lY;have x0:=bX.cell 0;have x1:=bX.cell 1;have x2:=bX.cell 2;simp at x0 x1 x2;have HX:=zh bX;clear bX;go_simp
    have hk:=hK.out (.agg #[.int .i64 (Sb:Int),.slice A2 n2 c2,.slice AF2 nf2 cf2]) wr (by
     rw[HFD.o];exact⟨H0.o,H1.o,fun _=>rfl,H3.o,H4.o,H5.o,H6.o,HB.o⟩
    )
    simp only[wAg,wAa,wAb,wAc] at hk;exact hk
   ·intro l v wr hn hdep hcl hF K hK;rw[HFD.o] at hF;obtain⟨f0,f1,f2,f3,f4,f5,f6,hb⟩:=hF;simp[wAd] at hdep;have H0:=zh f0;have H1:=zh f1;have H2:=zh f2;have H3:=zh f3;have H4:=zh f4;have H5:=zh f5;have H6:=zh f6;have HB:=zh hb;have HCL:=zh hcl;have HN:=zh hn;clear f0 f1 f2 f3 f4 f5 f6 hb hcl hn;have e0:=H2.o (hdep.1);clear hdep;go_simp;refine (zDn _ _ wr Sb ((HMB1.o.below HB.o (wAe _)).mono HB.o.size) HDB.o).mono ?_;rintro e w9 ⟨Mb,g,rfl,hL,hb9⟩
    have hk:=hK.out (lngV Sb Mb g) w9 (by
     rw[HFD.o];exact⟨H0.o,(fun h=>by obtain⟨M2,g2,e,hl⟩:=H1.o h;exact⟨M2,g2,e,hl.below hb9⟩),H2.o,(fun _=>⟨Mb,g,rfl,hL⟩),(fun h=>(H4.o h).below hb9),(fun h=>by obtain⟨X,p,q,e,hX,hx,hs⟩:=(H5.o h).below hb9;exact⟨X,p,q,e,hX,hx,fun h6=>absurd (HCL.o 7 _ rfl h6 ⟨3,.data⟩ (by simp) rfl) (by rw[HN.o];decide)⟩),H6.o,HB.o.trans (hb9.mono HB.o.size)⟩
    )
    simp only[wAg,wAa,wAb,wAc] at hk;simp only[e0] at hk;exact hk
   ·intro l v wr hn hdep hcl hF K hK;rw[HFD.o] at hF;obtain⟨f0,f1,f2,f3,f4,f5,f6,hb⟩:=hF;simp[wAd] at hdep;have H0:=zh f0;have H1:=zh f1;have H2:=zh f2;have H3:=zh f3;have H4:=zh f4;have H5:=zh f5;have H6:=zh f6;have HB:=zh hb;have HCL:=zh hcl;have HN:=zh hn;clear f0 f1 f2 f3 f4 f5 f6 hb hcl hn;have HBA:=zh (show Below wr.heap.size wr (wr.alloc (.cells #[.map none,.slice none 0 0] 107)) from (wAl _ _).alloc (wAe _) _);go_simp
    have hk:=hK.out (.pointer (some ⟨wr.heap.size,0,none⟩)) (wr.alloc (.cells #[.map none,.slice none 0 0] 107)) (by
     rw[HFD.o];exact⟨H0.o,(fun h=>by obtain⟨M2,g2,e,hl⟩:=H1.o h;exact⟨M2,g2,e,hl.below HBA.o⟩),H2.o,(fun h=>by obtain⟨M2,g2,e,hl⟩:=H3.o h;exact⟨M2,g2,e,hl.below HBA.o⟩),(fun _=>⟨wr.heap.size,_,_,rfl,HB.o.size,wAi rfl,fun h=>absurd (HCL.o 6 _ rfl h ⟨4,.data⟩ (by simp) rfl) (by rw[HN.o];decide)⟩),(fun h=>(H5.o h).below HBA.o),(fun _ HO=>(by obtain⟨X,p,q,e,_,hx,_⟩:=H5.o HO;intro he;have:=hx.lt;rw[show updR v 4 _ 5=v 5 from rfl,e] at he;injection he with he;injection he with he;injection he with he;omega)),HB.o.trans (HBA.o.mono HB.o.size)⟩
    )
    simp only[wAg,wAa,wAb,wAc] at hk;exact hk
   ·intro l v wr hn hdep hcl hF K hK;rw[HFD.o] at hF;obtain⟨f0,f1,f2,f3,f4,f5,f6,hb⟩:=hF;simp[wAd] at hdep;have H0:=zh f0;have H1:=zh f1;have H2:=zh f2;have H3:=zh f3;have H4:=zh f4;have H5:=zh f5;have H6:=zh f6;have HB:=zh hb;have HCL:=zh hcl;have HN:=zh hn;clear f0 f1 f2 f3 f4 f5 f6 hb hcl hn;have HBA:=zh (show Below wr.heap.size wr (wr.alloc (.cells #[.map none,.slice none 0 0] 107)) from (wAl _ _).alloc (wAe _) _);go_simp
    have hk:=hK.out (.pointer (some ⟨wr.heap.size,0,none⟩)) (wr.alloc (.cells #[.map none,.slice none 0 0] 107)) (by
     rw[HFD.o];exact⟨H0.o,(fun h=>by obtain⟨M2,g2,e,hl⟩:=H1.o h;exact⟨M2,g2,e,hl.below HBA.o⟩),H2.o,(fun h=>by obtain⟨M2,g2,e,hl⟩:=H3.o h;exact⟨M2,g2,e,hl.below HBA.o⟩),(fun h=>(H4.o h).below HBA.o),(fun _=>⟨wr.heap.size,_,_,rfl,HB.o.size,wAi rfl,fun h=>absurd (HCL.o 7 _ rfl h ⟨5,.data⟩ (by simp) rfl) (by rw[HN.o];decide)⟩),(fun HO _ he0=>by obtain⟨X,p,q,e,_,hx,_⟩:=H4.o HO;have he:=he0.symm;have:=hx.lt;rw[show updR v 5 _ 4=v 4 from rfl,e] at he;injection he with he;injection he with he;injection he with he;omega),HB.o.trans (HBA.o.mono HB.o.size)⟩
    )
    simp only[wAg,wAa,wAb,wAc] at hk;exact hk
   ·intro l v wr hn hdep hcl hF K hK;rw[HFD.o] at hF;obtain⟨f0,f1,f2,f3,f4,f5,f6,hb⟩:=hF;simp[wAd] at hdep;have H0:=zh f0;have H1:=zh f1;have H2:=zh f2;have H3:=zh f3;have H4:=zh f4;have H5:=zh f5;have H6:=zh f6;have HB:=zh hb;have HCL:=zh hcl;have HN:=zh hn;clear f0 f1 f2 f3 f4 f5 f6 hb hcl hn;(have d1:l 1=true:=by simp[hdep]);(have d4:l 4=true:=by simp[hdep]);obtain⟨Mb,g,e1,hL⟩:=H1.o d1;obtain⟨X,p,q,e4,hX,hblk,_⟩:=H4.o d4;unfold lngV at e1;have c0:=hblk.cell 0;have c1:=hblk.cell 1;have cf0:=hblk.frozen 0;have cf1:=hblk.frozen 1;simp at c0 c1;have HL:=zh hL;have HX:=zh hX;have HBK:=zh hblk;clear hdep hL hX hblk;go_simp
    have hk:=hK.out undef ((wr.setCell ⟨X,0,none⟩ (.map (some Mb))).setCell ⟨X,1,none⟩ (.slice (some ⟨g,0,none⟩) Sa Sa)) (by
     rw[HFD.o];exact⟨H0.o,(fun h=>by obtain⟨M2,g2,e,hl⟩:=H1.o h;exact⟨M2,g2,e,zBo (zBo hl HBK.o 0 _) (HBK.o.set_ 0 _) 1 _⟩),H2.o,(fun h=>by obtain⟨M2,g2,e,hl⟩:=H3.o h;exact⟨M2,g2,e,zBo (zBo hl HBK.o 0 _) (HBK.o.set_ 0 _) 1 _⟩),(fun _=>⟨X,_,_,e4,HX.o,(HBK.o.set_ 0 _).set_ 1 _,fun _=>e1⟩),(fun h=>by obtain⟨Y,p2,q2,e,hY,hy,hs⟩:=H5.o h;have hne:Y≠X:=(by rintro rfl;exact H6.o d4 h (by rw[e,e4]));exact⟨Y,p2,q2,e,hY,(hy.far (p:=⟨X,0,none⟩) hne _).far (p:=⟨X,1,none⟩) hne _,hs⟩),H6.o,(HB.o.setCell (p:=⟨X,0,none⟩) (by exact HX.o) _).setCell (p:=⟨X,1,none⟩) (by exact HX.o) _⟩
    )
    simp only[wAg,wAa,wAb,wAc] at hk;simp only[e1,e4] at hk;exact hk
   ·intro l v wr hn hdep hcl hF K hK;rw[HFD.o] at hF;obtain⟨f0,f1,f2,f3,f4,f5,f6,hb⟩:=hF;simp[wAd] at hdep;have H0:=zh f0;have H1:=zh f1;have H2:=zh f2;have H3:=zh f3;have H4:=zh f4;have H5:=zh f5;have H6:=zh f6;have HB:=zh hb;have HCL:=zh hcl;have HN:=zh hn;clear f0 f1 f2 f3 f4 f5 f6 hb hcl hn;(have d1:l 3=true:=by simp[hdep]);(have d4:l 5=true:=by simp[hdep]);obtain⟨Mb,g,e1,hL⟩:=H3.o d1;obtain⟨X,p,q,e4,hX,hblk,_⟩:=H5.o d4;unfold lngV at e1;have c0:=hblk.cell 0;have c1:=hblk.cell 1;have cf0:=hblk.frozen 0;have cf1:=hblk.frozen 1;simp at c0 c1;have HL:=zh hL;have HX:=zh hX;have HBK:=zh hblk;clear hdep hL hX hblk;go_simp
    have hk:=hK.out undef ((wr.setCell ⟨X,0,none⟩ (.map (some Mb))).setCell ⟨X,1,none⟩ (.slice (some ⟨g,0,none⟩) Sb Sb)) (by
     rw[HFD.o];exact⟨H0.o,(fun h=>by obtain⟨M2,g2,e,hl⟩:=H1.o h;exact⟨M2,g2,e,zBo (zBo hl HBK.o 0 _) (HBK.o.set_ 0 _) 1 _⟩),H2.o,(fun h=>by obtain⟨M2,g2,e,hl⟩:=H3.o h;exact⟨M2,g2,e,zBo (zBo hl HBK.o 0 _) (HBK.o.set_ 0 _) 1 _⟩),(fun h=>by obtain⟨Y,p2,q2,e,hY,hy,hs⟩:=H4.o h;have hne:Y≠X:=(by rintro rfl;exact H6.o h d4 (by rw[e,e4]));exact⟨Y,p2,q2,e,hY,(hy.far (p:=⟨X,0,none⟩) hne _).far (p:=⟨X,1,none⟩) hne _,hs⟩),(fun _=>⟨X,_,_,e4,HX.o,(HBK.o.set_ 0 _).set_ 1 _,fun _=>e1⟩),H6.o,(HB.o.setCell (p:=⟨X,0,none⟩) (by exact HX.o) _).setCell (p:=⟨X,1,none⟩) (by exact HX.o) _⟩
    )
    simp only[wAg,wAa,wAb,wAc] at hk;simp only[e1,e4] at hk;exact hk
 case rest =>
  obtain⟨Xa,Ya,Mp1,g1,Mp2,g2,rfl,rfl,bXa,bYa,HL1,HL2,HB2⟩:=hcut;clear x0 x1 x2 y0 y1 y2;have bX2:=zh (bX1.o.below HB2.o lX);have bY2:=zh (bY1.o.below HB2.o lY);have x0:=bX2.o.cell 0;have y0:=bY2.o.cell 0;simp at x0 y0;clear lX lY;have lX:=bX2.o.lt;have lY:=bY2.o.lt;obtain⟨W2,hW2⟩:∃ z,z=wc:=⟨_,rfl⟩;rw[← hW2] at bXa bYa HL1 HL2 HB2 bX2 bY2 x0 y0 lX lY ⊢;clear hW2;go_upto_region 3 with fail
  obtain⟨C0,hC0e⟩:∃ z,z=W2.heap.size:=⟨_,rfl⟩;have b0:=zh (wAi (w:=W2) (g:=C0) (t:=110) (cs:=#[.int .i64 (-1),.int .i64 (-1)]) hC0e);have HBC:=zh (show Below C0 W2 (W2.alloc (.cells #[.int .i64 (-1),.int .i64 (-1)] 110)) from (wAl _ _).alloc (by omega) _);have hXC:X<C0:=by omega
  have hYC:Y<C0:=by omega
  have lC:=b0.o.lt;have hw2:W1.heap.size≤C0:=by have:=HB2.o.size;omega
  have HZ:=zh hC0e;simp only[← hC0e];generalize hW3:World.alloc _ _=W3;rw[hW3] at b0 HBC lC;have p0:=b0.o.cell 0;have pf0:=b0.o.frozen 0;simp at p0;clear hW3 hC0e x0 y0 lX lY;have x0:=(bX2.o.below (B:=C0) HBC.o hXC).cell 0;have lX:=(bX2.o.below (B:=C0) HBC.o hXC).lt;simp at x0;go_upto_if 32 with fail
  go_cut [12] from 33 (fun s12 wx=>s12=.pointer (some ⟨C0,0,none⟩)∧Hid (Blk wx C0 110 #[.int .i64 (s0I a),.int .i64 (-1)])∧Hid (Below C0 W2 wx))
  case first =>
   by_cases h:0<Sa
   ·(have e:s0I a=0:=by unfold s0I;rw[hna,if_pos (by omega)]);have t0:decide (0<Sa)=true:=decide_eq_true h;have t0':decide (0<(Sa:Int))=true:=decide_eq_true (by omega);have HE:=zh e;clear e;go_wp2;go_meet;exact⟨rfl,zh (by rw[HE.o];exact b0.o.set_ 0 _),zh (HBC.o.setCell (p:=⟨C0,0,none⟩) (by exact wAe _) _)⟩
   ·(have e:s0I a = -1:=by unfold s0I;rw[hna,if_neg (by omega)]);have t0:decide (0<Sa)=false:=decide_eq_false h;have t0':decide (0<(Sa:Int))=false:=decide_eq_false (by omega);have HE:=zh e;clear e;go_wp2;go_meet;exact⟨rfl,zh (by rw[HE.o];exact b0.o),HBC⟩
  case rest =>
   obtain⟨rfl,c0',HBC'⟩:=hcut;clear x0 lX p0 pf0 b0 HBC lC;have lC:=c0'.o.lt;have p1:=c0'.o.cell 1;have pf1:=c0'.o.frozen 1;have y0:=(bY2.o.below (B:=C0) HBC'.o hYC).cell 0;have lY:=(bY2.o.below (B:=C0) HBC'.o hYC).lt;simp at p1 y0;go_upto_if 36 with fail
   go_cut [12] from 37 (fun s12 wx=>s12=.pointer (some ⟨C0,0,none⟩)∧Hid (Blk wx C0 110 #[.int .i64 (s0I a),.int .i64 (s0I b)])∧Hid (Below C0 W2 wx))
   case first =>
    by_cases h:0<Sb
    ·(have e:s0I b=0:=by unfold s0I;rw[hnb,if_pos (by omega)]);have t0:decide (0<Sb)=true:=decide_eq_true h;have t0':decide (0<(Sb:Int))=true:=decide_eq_true (by omega);have HE:=zh e;clear e;go_wp2;go_meet;exact⟨rfl,zh (by rw[HE.o];exact c0'.o.set_ 1 _),zh (HBC'.o.setCell (p:=⟨C0,1,none⟩) (by exact wAe _) _)⟩
    ·(have e:s0I b = -1:=by unfold s0I;rw[hnb,if_neg (by omega)]);have t0:decide (0<Sb)=false:=decide_eq_false h;have t0':decide (0<(Sb:Int))=false:=decide_eq_false (by omega);have HE:=zh e;clear e;go_wp2;go_meet;exact⟨rfl,zh (by rw[HE.o];exact c0'.o),HBC'⟩
   case rest =>
    obtain⟨rfl,c0,HBC⟩:=hcut;clear y0 lY p1 pf1 c0' HBC' lC;obtain⟨u0,hu0⟩:∃ z,z=s0I a:=⟨_,rfl⟩;obtain⟨v0,hv0⟩:∃ z,z=s0I b:=⟨_,rfl⟩;rw[← hu0,← hv0] at c0;have HS0:=zh (show (s0I a,s0I b)=(u0,v0) by rw[hu0,hv0]);have HK0:=zh (show okCp 401 (u0,v0) by rw[← HS0.o];exact zGi HDA.o HDB.o);clear hu0 hv0 hna hnb;obtain⟨W5,hW5⟩:∃ z,z=wc:=⟨_,rfl⟩;rw[← hW5] at c0 HBC ⊢;clear hW5;have p0:=c0.o.cell 0;have p1:=c0.o.cell 1;have lC:=c0.o.lt;simp at p0 p1;have hmm:=@run_makeMap Try.prog;have HOK0:=zh (zQJ HK0.o);have hZ5:C0<W5.heap.size:=lC;have HLB:=zh (show Blk (W5.alloc (.cells #[.int .i64 u0,.int .i64 v0] 110)) W5.heap.size 110 #[.int .i64 (u0,v0).1,.int .i64 (u0,v0).2] from wAi rfl);have HNM:=zh (show MapIs ((W5.alloc (.cells #[.int .i64 u0,.int .i64 v0] 110)).alloc (.map #[] 0)) cplB okB (W5.heap.size+1) [] from zIE (by simp));(go_upto_region 12 with (refine zD1 rfl _ _ _ 105 rfl zCw Try.underlying105 rfl HNM.o (u0,v0) rfl HOK0.o (.int .i64 0) rfl ?_;intro w6 hm6 hg6 hz6;have HM6:=zh hm6;have HG6:=zh hg6;have HZ6:=zh hz6;clear hm6 hg6 hz6));clear hmm;have HSL:=zh (show LsC a b l 0=[(u0,v0)] by show [(s0I a,s0I b)]=_;rw[HS0.o])
    have HO6:=zh (show w6.ownsRow W5.heap.size 110 2 (.slice (some ⟨W5.heap.size,0,none⟩) 1 1) (LsC a b l 0).length (finRow (cF (LsC a b l 0))) by
     rw[HSL.o]
     exact ((zJM (c:=(u0,v0)) HLB.o).alloc _).kept HG6.o (.inr (zAk ((zJM (c:=(u0,v0)) HLB.o).alloc _) HNM.o)))
    have HN6:=zh (show MapIs w6 cplB okB (W5.heap.size+1) (numE (LsC a b l 0) 0) from zGe (show MapIs w6 cplB okB _ (numE [(u0,v0)] 0) from HM6.o) HSL.o.symm);have HR6:=zh (OwnM.nil w6 W5.heap.size 26 3 1 (fun _=>.slice none 0 0) (fun j=>intRow (rowC a b l j)) (fun _=>q));have HF6:=zh (show w6.ownsRow W5.heap.size 4 1 (.slice none 0 0) 0 (bRow (finsC a b l K0 0)) from World.ownsRow_nil _ _ _ _);have HB6:=zh (show Below W5.heap.size W5 w6 from (((wAl _ _).alloc (wAe _) _).alloc (by simp) _).grown HG6.o (by simp;omega) (fun z hz=>by injection hz with hz;omega));have HBC2:=zh (show Below W2.heap.size W2 W5 by rw[← HZ.o];exact HBC.o);have lXa2:=bXa.o.lt;have lYa2:=bYa.o.lt;have bXa5:=zh (bXa.o.below HBC2.o lXa2);have bYa5:=zh (bYa.o.below HBC2.o lYa2);have HL15:=zh (HL1.o.below HBC2.o);have HL25:=zh (HL2.o.below HBC2.o);have HB15:=zh (HB2.o.trans (HBC2.o.mono HB2.o.size));have bM5:=zh (bM1.o.below HB15.o lM1);have bR5:=zh (bR1.o.below HB15.o lR1);have HLL5:=zh ((HLL1.o.below HB15.o (wAe _)).mono HB15.o.size);have HLR5:=zh (zPp HLL5.o);have HBW5:=zh (HB1.o.trans (HB15.o.mono HB1.o.size));have lXa5:=bXa5.o.lt;have lYa5:=bYa5.o.lt;have lM5:=bM5.o.lt;have lR5:=bR5.o.lt;clear bXa bYa HL1 HL2 HB2 bX2 bY2 bX1 bY1 bM1 bR1 HMA1 HMB1 HLL1 HB1 HB15 HBC2 HBC lXa2 lYa2 lM1 lR1 HMA0 HMB0 HLL0 HZ;have hz6:W5.heap.size+1<w6.heap.size:=HN6.o.lt;clear HM6 HG6 HZ6 HNM HLB p0 p1 lC HOK0
    go_loopg [13,15,16,17] 20001 (fun gk sv nv fv av wr=>∃ (i:Nat) (vs:Nat→Value),av=.int .i64 (i:Int)∧i≤(LsC a b l i).length∧(LsC a b l i).length≤20000∧20001-i≤gk∧Hid (wr.ownsRow W5.heap.size 110 2 sv (LsC a b l i).length (finRow (cF (LsC a b l i))))∧Hid (MapIs wr cplB okB (W5.heap.size+1) (numE (LsC a b l i) 0))∧Hid (OwnM wr W5.heap.size 26 3 1 nv i vs (fun j=>intRow (rowC a b l j)) (fun _=>q))∧Hid (wr.ownsRow W5.heap.size 4 1 fv i (bRow (finsC a b l K0 i)))∧Hid (Below W5.heap.size W5 wr))
    case atStart=>exact⟨0,_,rfl,Nat.zero_le _,(by rw[HSL.o];simp),by omega,HO6,HN6,HR6,HF6,HB6⟩
    case round =>
     clear HO6 HN6 HR6 HF6 HB6 hz6;obtain⟨i,vs,rfl,hil,hl2,hgk,HO,HN,HRW,HFN,HB⟩:=hrel;obtain⟨ln,hln⟩:∃ z,z=(LsC a b l i).length:=⟨_,rfl⟩;have HLN:=zh hln;rw[← hln] at hil hl2 HO;clear hln;obtain⟨As,cs,hsv,hcs,_⟩:=zAa HO.o;subst hsv;have hsz:=HB.o.size;by_cases hin:i<ln
     ·have HRD:=zh (Rd.of_own HO.o (f:=finCell (cF (LsC a b l i))) (by rw[show ln=(cF (LsC a b l i)).length by rw[zSm,← HLN.o]];exact zCt _));obtain⟨bb,off,x,hAs,hbB,d0,d1,HX⟩:=zAQ HRD.o hin;subst hAs;obtain⟨p,q1⟩:=x;have HC:=zh (show cpC a b l i=(p,q1) from (cF_at (by rw[← HLN.o];exact hin) HX.o).symm)
      have HOC:=zh (show okCp 401 (p,q1) by
       rw[← HC.o]
       exact zQi HDA.o HDB.o i _ (wAs (zQg (by rw[← HLN.o];exact hin) (wAe i))))
      dsimp only at d0 d1;clear HX HRD;obtain⟨W6,hW6⟩:∃ z,z=wr:=⟨_,rfl⟩;rw[← hW6] at HO HN HRW HFN HB hsz hbB d0 d1 ⊢;clear hW6;(go_upto_region 15 with fail);generalize hW7:World.alloc _ _=W7;obtain⟨C,hC⟩:∃ z,z=W6.heap.size:=⟨_,rfl⟩;have bC:=zh (show Blk W7 C 110 #[.int .i64 p,.int .i64 q1] by rw[← hW7];exact wAi hC);have HSC:=zh (show (Value.slice (some ⟨bb,off,none⟩) ln cs).ownBlock≠some C from fun e=>by have:=(HO.o.lt _ e).2;omega);replace HO:=zh (show W7.ownsRow W5.heap.size 110 2 _ ln (finRow (cF (LsC a b l i))) by rw[← hW7];exact HO.o.alloc _);replace HN:=zh (show MapIs W7 cplB okB (W5.heap.size+1) (numE (LsC a b l i) 0) by rw[← hW7];exact HN.o.alloc _);replace HRW:=zh (show OwnM W7 W5.heap.size 26 3 1 _ i vs (fun j=>intRow (rowC a b l j)) (fun _=>q) by rw[← hW7];exact HRW.o.alloc _);replace HFN:=zh (show W7.ownsRow W5.heap.size 4 1 _ i (bRow (finsC a b l K0 i)) by rw[← hW7];exact HFN.o.alloc _);replace HB:=zh (show Below W5.heap.size W5 W7 by rw[← hW7];exact HB.o.alloc hsz _);simp only[← hC];clear hW7 hC d0 d1 hbB hsz
      have HSN:=zh (show finsC a b l K0 (i+1)=finsC a b l K0 i++[K0 (acI a p) (acI b q1)] by
       unfold finsC;rw[List.range_succ,List.map_append]
       show _++[finC a b l K0 i]=_
       unfold finC
       rw[HC.o])
      have zXa:=zh (bXa5.o.below HB.o lXa5);have zYa:=zh (bYa5.o.below HB.o lYa5);have e0:=zXa.o.cell 0;have e1:=zXa.o.cell 1;have f0:=zYa.o.cell 0;have f1:=zYa.o.cell 1;have h0:=bC.o.cell 0;have h1:=bC.o.cell 1;simp at e0 e1 f0 f1 h0 h1;have le:=zXa.o.lt;have lf:=zYa.o.lt;have lh:=bC.o.lt;refine zAE (fun w'=>w'.cell? ⟨Xa,0,none⟩=some (.map (some Mp1))∧w'.cell? ⟨Xa,1,none⟩=some (.slice (some ⟨g1,0,none⟩) Sa Sa)∧w'.cell? ⟨Ya,0,none⟩=some (.map (some Mp2))∧w'.cell? ⟨Ya,1,none⟩=some (.slice (some ⟨g2,0,none⟩) Sb Sb)∧w'.cell? ⟨C,0,none⟩=some (.int .i64 p)∧w'.cell? ⟨C,1,none⟩=some (.int .i64 q1)) 12 [(0,false),(1,false),(2,false),(3,false),(4,false),(6,false),(7,false),(8,false),(5,true),(9,true),(10,true),(11,true)] (by kernel_rfl) (by kernel_rfl) ⟨e0,e1,f0,f1,h0,h1⟩ ?_;simp only[List.drop_succ_cons,List.drop_zero]
      repeat (refine mix_q (v:=?_) (by rfl) (by rfl) ?_ ?_;rotate_left;(focus (intro w' hC;(try dsimp only at hC);go_simp;(first | done | with_reducible rfl)));simp only[wAg,wAa,wAb,wAc,wAt,wAp,wAq])
      refine mix_l (by rfl) (by rfl) (fun K hK=>?_);go_simp;refine (zKm a _ Sa Mp1 g1 p (HL15.o.below (HB.o.drew.mono (wAe _))) HDA.o).mono ?_;rintro e w8 ⟨rfl,hb8⟩;replace zXa:=zh (zXa.o.drew.below hb8 zXa.o.drew.lt);replace zYa:=zh (zYa.o.drew.below hb8 zYa.o.drew.lt);replace bC:=zh (bC.o.drew.below hb8 bC.o.drew.lt);replace HO:=zh (zAG (zHZ HO.o) hb8);replace HN:=zh ((zFw HN.o).below hb8 (zFw HN.o).lt);replace HRW:=zh (HRW.o.drew.below hb8);replace HFN:=zh (zAG (zHZ HFN.o) hb8);replace HB:=zh (HB.o.drew.trans (hb8.mono HB.o.drew.size));clear hb8 e0 e1 f0 f1 h0 h1 le lf lh;have e0:=zXa.o.cell 0;have e1:=zXa.o.cell 1;have f0:=zYa.o.cell 0;have f1:=zYa.o.cell 1;have h0:=bC.o.cell 0;have h1:=bC.o.cell 1;simp at e0 e1 f0 f1 h0 h1;have le:=zXa.o.lt;have lf:=zYa.o.lt;have lh:=bC.o.lt;refine hK _ _ ⟨e0,e1,f0,f1,h0,h1⟩ ?_;clear hK;refine mix_l (by rfl) (by rfl) (fun K hK=>?_);go_simp;refine (zKm b _ Sb Mp2 g2 q1 (HL25.o.below (HB.o.mono (wAe _))) HDB.o).mono ?_;rintro e w9 ⟨rfl,hb9⟩;replace zXa:=zh (zXa.o.below hb9 zXa.o.lt);replace zYa:=zh (zYa.o.below hb9 zYa.o.lt);replace bC:=zh (bC.o.below hb9 bC.o.lt);replace HO:=zh (zAG HO.o hb9);replace HN:=zh (HN.o.below hb9 HN.o.lt);replace HRW:=zh (HRW.o.below hb9);replace HFN:=zh (zAG HFN.o hb9);replace HB:=zh (HB.o.trans (hb9.mono HB.o.size));clear hb9 e0 e1 f0 f1 h0 h1 le lf lh;have e0:=zXa.o.cell 0;have e1:=zXa.o.cell 1;have f0:=zYa.o.cell 0;have f1:=zYa.o.cell 1;have h0:=bC.o.cell 0;have h1:=bC.o.cell 1;simp at e0 e1 f0 f1 h0 h1;have le:=zXa.o.lt;have lf:=zYa.o.lt;have lh:=bC.o.lt;refine hK _ _ ⟨e0,e1,f0,f1,h0,h1⟩ ?_;clear hK;refine mix_l (by rfl) (by rfl) (fun K hK=>?_);go_simp;refine (HKK.o (acI a p) (acI b q1) _).mono ?_;rintro e w10 ⟨rfl,hb10⟩;replace zXa:=zh (zXa.o.below hb10 zXa.o.lt);replace zYa:=zh (zYa.o.below hb10 zYa.o.lt);replace bC:=zh (bC.o.below hb10 bC.o.lt);replace HO:=zh (zAG HO.o hb10);replace HN:=zh (HN.o.below hb10 HN.o.lt);replace HRW:=zh (HRW.o.below hb10);replace HFN:=zh (zAG HFN.o hb10);replace HB:=zh (HB.o.trans (hb10.mono HB.o.size));clear hb10 e0 e1 f0 f1 h0 h1 le lf lh;have e0:=zXa.o.cell 0;have e1:=zXa.o.cell 1;have f0:=zYa.o.cell 0;have f1:=zYa.o.cell 1;have h0:=bC.o.cell 0;have h1:=bC.o.cell 1;simp at e0 e1 f0 f1 h0 h1;have le:=zXa.o.lt;have lf:=zYa.o.lt;have lh:=bC.o.lt;refine hK _ _ ⟨e0,e1,f0,f1,h0,h1⟩ ?_;clear hK;obtain⟨r0,hr0⟩:∃ z,z=K0 (acI a p) (acI b q1):=⟨_,rfl⟩;rw[← hr0] at HSN ⊢;clear hr0;refine mix_l (by rfl) (by rfl) (fun K hK=>?_);go_simp;refine hK _ _ (by go_simp) ?_;clear hK;refine zAs ?_;(try simp only[wAg,wAa,wAb,wAc,wAt,wAp,wAq]);have HFa:=zh (HFN.o.alloc (Obj.cells #[.bool r0] 4));have HOa:=zh (HO.o.alloc (Obj.cells #[.bool r0] 4));have HNa:=zh (HN.o.alloc (Obj.cells #[.bool r0] 4));have HRa:=zh (HRW.o.alloc (Obj.cells #[.bool r0] 4));have bCa:=zh (bC.o.alloc (Obj.cells #[.bool r0] 4));have hsz:=HB.o.size;have HBa:=zh (HB.o.alloc hsz (Obj.cells #[.bool r0] 4));clear e0 e1 f0 f1 h0 h1 le lf lh HFN HO HN HRW bC HB zXa zYa;go_wp2_with (at_builtin;go_loud (refine wpList_append_own_at _ rfl (.tmp 53) (.tmp 64) 51 rfl W5.heap.size 4 iB _ 1 1 Try.underlying51 hB0 hB1 hB2 hB3 rfl (by omega) u16 i _ rfl HFa.o ⟨w10.heap.size,0,none⟩ 1 1 (bRow [r0]) rfl (by rfl) (wAm (cs:=(bRow [r0]).toArray) (t:=4) (fr:=(0,0)) (wAi rfl)) (zOS _) (by simp only[maxLen];omega) (by omega) (by simp<;>omega) ?_;intro v11 w11 hown11 hg11 _ hat11;have HOW:=zh hown11;have HG:=zh hg11;clear hown11 hg11 hat11));refine NoPanic.normal ?_;have HFN:=zh (show w11.ownsRow W5.heap.size 4 1 v11 (i+1) (bRow (finsC a b l K0 (i+1))) by rw[HSN.o,zM6];exact HOW.o);have HO:=zh (HOa.o.kept HG.o (zAt HOa.o HFa.o (by decide)));have HN:=zh (HNa.o.kept HG.o (Ne.symm (zAk HFa.o HNa.o)));have HRW:=zh (HRa.o.kept HG.o (zAt HRa.o.o HFa.o (by decide)) (fun j hj=>zAt (HRa.o.own j hj) HFa.o (by decide)));have bC:=zh (bCa.o.grown HG.o (Ne.symm (zAe HFa.o bCa.o (by decide))));have HB:=zh (HBa.o.grown HG.o HBa.o.size (fun z hz=>(HFa.o.lt z hz).1));have HMKI:=zh (fun (W:World)=>run_make_row' (P:=Try.prog) 26 3 (.int .i64 0) 8 Try.underlying26 zAH rfl .i64 .i64 q (by omega) (by omega) W);clear HFa HOa HNa HRa bCa HBa HOW HG hsz HSN;have hmk:=HMKI.o;(go_upto_region 18 with fail);clear hmk;have hsz:=HB.o.size;have HRO:=zh (zKR w11 q 3 (by omega));have HAP:=zh ((HRW.o.apart HRO.o (wAe _)).2);replace HFN:=zh (HFN.o.alloc (.cells (madeCells #[.int .i64 0] q) 3));replace HO:=zh (HO.o.alloc (.cells (madeCells #[.int .i64 0] q) 3));replace HN:=zh (HN.o.alloc (.cells (madeCells #[.int .i64 0] q) 3));replace HRW:=zh (HRW.o.alloc (.cells (madeCells #[.int .i64 0] q) 3));replace bC:=zh (bC.o.alloc (.cells (madeCells #[.int .i64 0] q) 3));replace HB:=zh (HB.o.alloc hsz (.cells (madeCells #[.int .i64 0] q) 3));generalize hW12:World.alloc _ _=W12;rw[hW12] at HFN HO HN HRW bC HB HRO;obtain⟨G,hG⟩:∃ z,z=w11.heap.size:=⟨_,rfl⟩;rw[← hG] at HRO HAP;(have hGZ:W5.heap.size≤G:=by omega);simp only[← hG];clear hW12 hG HMKI;have HO0:=zh (show W12.ownsRow W5.heap.size 110 2 (.slice (some ⟨bb,off,none⟩) ln cs) (bfsRow i (stpCk a b l (p,q1) 0) (StC a b l i).1).1.length (finRow (cF (bfsRow i (stpCk a b l (p,q1) 0) (StC a b l i).1).1)) by rw[zGv];exact (show W12.ownsRow _ _ _ _ (LsC a b l i).length (finRow (cF (LsC a b l i))) by rw[← HLN.o];exact HO.o));have HN0:=zh (show MapIs W12 cplB okB (W5.heap.size+1) (numE (bfsRow i (stpCk a b l (p,q1) 0) (StC a b l i).1).1 0) by rw[zGv];exact HN.o);have HRO0:=zh (show W12.ownsRow G 3 1 (.slice (some ⟨G,0,none⟩) q q) q (intRow ((rowC a b l i).take 0++wAh (q-0) 0)) by simpa using HRO.o);clear HO HN HRO
      go_loopw [13,71] (fun sv kv wr=>∃ k:Nat,k≤q∧kv=.int .i64 (k:Int)∧Hid (sv.ownBlock≠some C)∧Hid (wr.ownsRow W5.heap.size 110 2 sv (bfsRow i (stpCk a b l (p,q1) k) (StC a b l i).1).1.length (finRow (cF (bfsRow i (stpCk a b l (p,q1) k) (StC a b l i).1).1)))∧Hid (MapIs wr cplB okB (W5.heap.size+1) (numE (bfsRow i (stpCk a b l (p,q1) k) (StC a b l i).1).1 0))∧Hid (OwnM wr W5.heap.size 26 3 1 u15 i vs (fun j=>intRow (rowC a b l j)) (fun _=>q))∧Hid (wr.ownsRow W5.heap.size 4 1 v11 (i+1) (bRow (finsC a b l K0 (i+1))))∧Hid (wr.ownsRow G 3 1 (.slice (some ⟨G,0,none⟩) q q) q (intRow ((rowC a b l i).take k++wAh (q-k) 0)))∧Hid (Blk wr C 110 #[.int .i64 p,.int .i64 q1])∧Hid (Below W5.heap.size W5 wr)) (fun _ kv _=>q-(intOf kv).toNat)
      case atStart=>exact⟨0,by omega,rfl,HSC,HO0,HN0,HRW,HFN,HRO0,bC,HB⟩
      case round =>
       clear HO0 HN0 HRW HFN HRO0 bC HB hsz HSC;obtain⟨k,hk,rfl,HSC,HO,HN,HRW,HFN,HRO,bC,HB⟩:=hrel;have hsz:=HB.o.size;by_cases hkq:k<q
       ·obtain⟨lb,lo,x,hAL,hlb,dl,HX⟩:=zAO (HLR5.o.below HB.o (wAe _)) hkq;subst hAL;(have hkl:k<l.length:=by rw[HQ.o];exact hkq);(have hx0:l[k]? = some x:=by rw[← HX.o,wAj hkl];simp[List.getD,hkl]);have HLX:=zh hx0;have hxr:=HLR.o x (wAs hx0);(have lbl:lb<wr.heap.size:=by omega);obtain⟨nx,hnx⟩:∃ z,z=nxI a p x:=⟨_,rfl⟩;obtain⟨ny,hny⟩:∃ z,z=nxI b q1 x:=⟨_,rfl⟩;have HNX:=zh hnx;have HNY:=zh hny;have HNC:=zh (show okCp 401 (nx,ny) by rw[hnx,hny];exact zFL HDA.o HDB.o p q1 x)
        have HPN:=zh (show (bfsRow i (stpCk a b l (p,q1) (k+1)) (StC a b l i).1).1=addL (bfsRow i (stpCk a b l (p,q1) k) (StC a b l i).1).1 (nx,ny) by
         rw[zGc hx0,zCs,hnx,hny])
        have HRK:=zh (show (rowC a b l i)[k]? = some (((addL (bfsRow i (stpCk a b l (p,q1) k) (StC a b l i).1).1 (nx,ny)).idxOf (nx,ny):Nat):Int) by
         have h:=zQ7 (a:=a) (b:=b) (l:=l) (i:=i) (by rw[← HLN.o];exact hin) hx0;rw[HC.o] at h;rw[hnx,hny]
         exact h)
        have hlen:=zMI (a:=a) (b:=b) (l:=l) i k;rw[HC.o,← HLN.o] at hlen;obtain⟨st,hst⟩:∃ z,z=(bfsRow i (stpCk a b l (p,q1) k) (StC a b l i).1).1:=⟨_,rfl⟩;rw[← hst] at HO HN HPN HRK hlen;clear HX hkl hx0 hnx hny hst;obtain⟨W13,hW13⟩:∃ z,z=wr:=⟨_,rfl⟩;rw[← hW13] at HO HN HRW HFN HRO bC HB hsz lbl dl ⊢;clear hW13;go_upto_region 20 with fail
        go_cut [22] from 72 to 109 (fun s22 wx=>∃ N:Nat,s22=.pointer (some ⟨N,0,none⟩)∧W13.heap.size≤N∧Hid (Blk wx N 110 #[.int .i64 nx,.int .i64 ny])∧Hid (Below W13.heap.size W13 wx))
        case first =>
         have zXa:=zh (bXa5.o.below HB.o lXa5);have zYa:=zh (bYa5.o.below HB.o lYa5);have LA:=zh (HL15.o.below HB.o);have LB:=zh (HL25.o.below HB.o);(have hpr:(-1≤p∧p≤2000000)∧(-1≤q1∧q1≤2000000):=by have h:=HOC.o;unfold okCp at h;dsimp only at h;omega);obtain⟨hpr1,hpr2⟩:=hpr;have HB0:=zh (wAl W13.heap.size W13);clear HO HN HRW HFN HRO HB HSC HPN HRK dl lbl;clear HB0
         obtain⟨F,hF⟩:∃ F:(Nat→Bool)→(Nat→Value)→World→Prop,F=fun l v wr =>
          Hid ((l 0=true→v 0=(.agg #[.map (some Mp1),.slice (some ⟨g1,0,none⟩) Sa Sa]))) ∧
          Hid ((l 1=true→v 1=(.pointer (some ⟨C,0,none⟩)))) ∧
          Hid ((l 2=true→v 2=(.int .i64 p))) ∧
          Hid ((l 3=true→v 3=(.int .i64 x))) ∧
          Hid ((l 4=true→v 4=(.int .i64 nx))) ∧
          Hid ((l 5=true→v 5=(.agg #[.map (some Mp2),.slice (some ⟨g2,0,none⟩) Sb Sb]))) ∧
          Hid ((l 6=true→v 6=(.pointer (some ⟨C,1,none⟩)))) ∧
          Hid ((l 7=true→v 7=(.int .i64 q1))) ∧
          Hid ((l 8=true→v 8=(.int .i64 x))) ∧
          Hid ((l 9=true→v 9=(.int .i64 ny))) ∧
          Hid ((l 10=true→v 10=(.agg #[.int .i64 nx,.int .i64 ny]))) ∧
          Hid ((l 11=true→PtC wr W13.heap.size (v 11) (l 12) nx ny)) ∧
          Hid (Below W13.heap.size W13 wr):=⟨_,rfl⟩
         have HFD:=zh hF;clear hF;refine zAj F (A:=?AR1) ?hA (by kernel_rfl) (by kernel_rfl) (by kernel_rfl) ?h0 ?hend ?hsteps
         case hA=>intro v;simp only[putR,wAg,wAa,wAb,wAc,wAv,wAo];exact rfl
         case h0 =>
          intro v;rw[HFD.o];exact⟨zh (nofun),zh (nofun),zh (nofun),zh (nofun),zh (nofun),zh (nofun),zh (nofun),zh (nofun),zh (nofun),zh (nofun),zh (nofun),zh (nofun),zh ((wAl _ _).drew)⟩
         case hend =>
          intro l v wr hall hF;rw[HFD.o] at hF;obtain⟨H0,H1,H2,H3,H4,H5,H6,H7,H8,H9,H10,H11,H12⟩:=hF;have f0:=H0.o;have f1:=H1.o;have f2:=H2.o;have f3:=H3.o;have f4:=H4.o;have f5:=H5.o;have f6:=H6.o;have f7:=H7.o;have f8:=H8.o;have f9:=H9.o;have f10:=H10.o;have f11:=H11.o;have f12:=H12.o;clear H0 H1 H2 H3 H4 H5 H6 H7 H8 H9 H10 H11 H12;obtain⟨N,c0,c1,e11,hN,hblk,hs⟩:=f11 (hall 11 (by simp));obtain⟨rfl,rfl⟩:=hs (hall 12 (by simp));have HE:=zh e11;have HNN:=zh hN;have HBK:=zh hblk;have HBF:=zh f12;clear f0 f1 f2 f3 f4 f5 f6 f7 f8 f9 f10 f11 f12 hall hs e11 hN hblk;go_wp2;go_meet;exact⟨N,HE.o,HNN.o,HBK,HBF⟩
         case hsteps =>
          refine wAf (n:=0) ?_ (wAf (n:=1) ?_ (wAf (n:=2) ?_ (wAf (n:=3) ?_ (wAf (n:=4) ?_ (wAf (n:=5) ?_ (wAf (n:=6) ?_ (wAf (n:=7) ?_ (wAf (n:=8) ?_ (wAf (n:=9) ?_ (wAf (n:=10) ?_ (wAf (n:=11) ?_ (wAf (n:=12) ?_ (trivial)))))))))))))
          ·intro l v wr hn hdep hcl hF K hK;rw[HFD.o] at hF;obtain⟨H0,H1,H2,H3,H4,H5,H6,H7,H8,H9,H10,H11,H12⟩:=hF;simp[wAd] at hdep;have HCL:=zh hcl;have HN:=zh hn;clear hcl hn;have bX:=zXa.o.below H12.o zXa.o.lt;have x0:=bX.cell 0;have x1:=bX.cell 1;simp at x0 x1;clear bX;go_simp
           have hk:=hK.out (.agg #[.map (some Mp1),.slice (some ⟨g1,0,none⟩) Sa Sa]) wr (by
            rw[HFD.o]
            exact⟨zh ((fun _=>rfl)),H1,H2,H3,H4,H5,H6,H7,H8,H9,H10,H11,H12⟩)
           simp only[wAg,wAa,wAb,wAc] at hk;exact hk
          ·intro l v wr hn hdep hcl hF K hK;rw[HFD.o] at hF;obtain⟨H0,H1,H2,H3,H4,H5,H6,H7,H8,H9,H10,H11,H12⟩:=hF;simp[wAd] at hdep;have HCL:=zh hcl;have HN:=zh hn;clear hcl hn;go_simp
           have hk:=hK.out (.pointer (some ⟨C,0,none⟩)) wr (by
            rw[HFD.o]
            exact⟨H0,zh ((fun _=>rfl)),H2,H3,H4,H5,H6,H7,H8,H9,H10,H11,H12⟩)
           simp only[wAg,wAa,wAb,wAc] at hk;exact hk
          ·intro l v wr hn hdep hcl hF K hK;rw[HFD.o] at hF;obtain⟨H0,H1,H2,H3,H4,H5,H6,H7,H8,H9,H10,H11,H12⟩:=hF;simp[wAd] at hdep;have HCL:=zh hcl;have HN:=zh hn;clear hcl hn;have e1:=H1.o (by simp[hdep]);have bX:=bC.o.below H12.o bC.o.lt;have x0:=bX.cell 0;have x1:=bX.cell 1;simp at x0 x1;clear bX;go_simp
           have hk:=hK.out (.int .i64 p) wr (by
            rw[HFD.o]
            exact⟨H0,H1,zh ((fun _=>rfl)),H3,H4,H5,H6,H7,H8,H9,H10,H11,H12⟩)
           simp only[wAg,wAa,wAb,wAc] at hk;simp only[e1] at hk;exact hk
          ·intro l v wr hn hdep hcl hF K hK;rw[HFD.o] at hF;obtain⟨H0,H1,H2,H3,H4,H5,H6,H7,H8,H9,H10,H11,H12⟩:=hF;simp[wAd] at hdep;have HCL:=zh hcl;have HN:=zh hn;clear hcl hn;go_simp
           have hk:=hK.out (.int .i64 x) wr (by
            rw[HFD.o]
            exact⟨H0,H1,H2,zh ((fun _=>rfl)),H4,H5,H6,H7,H8,H9,H10,H11,H12⟩)
           simp only[wAg,wAa,wAb,wAc] at hk;exact hk
          ·intro l v wr hn hdep hcl hF K hK;rw[HFD.o] at hF;obtain⟨H0,H1,H2,H3,H4,H5,H6,H7,H8,H9,H10,H11,H12⟩:=hF;simp[wAd] at hdep;have HCL:=zh hcl;have HN:=zh hn;clear hcl hn;have e0:=H0.o (by simp[hdep]);have e2:=H2.o (by simp[hdep]);have e3:=H3.o (by simp[hdep]);go_simp;refine (zH3 a wr Sa Mp1 g1 p x (LA.o.below H12.o) HDA.o hpr1 (by omega)).mono ?_;rintro e w9 ⟨rfl,hb9⟩;rw[← HNX.o]
           have hk:=hK.out (.int .i64 nx) w9 (by
            rw[HFD.o]
            exact⟨H0,H1,H2,H3,zh ((fun _=>rfl)),H5,H6,H7,H8,H9,H10,zh ((fun h=>(H11.o h).below hb9)),zh (H12.o.trans (hb9.mono H12.o.size))⟩)
           simp only[wAg,wAa,wAb,wAc] at hk;simp only[e0,e2,e3] at hk;exact hk
          ·intro l v wr hn hdep hcl hF K hK;rw[HFD.o] at hF;obtain⟨H0,H1,H2,H3,H4,H5,H6,H7,H8,H9,H10,H11,H12⟩:=hF;simp[wAd] at hdep;have HCL:=zh hcl;have HN:=zh hn;clear hcl hn;have bX:=zYa.o.below H12.o zYa.o.lt;have x0:=bX.cell 0;have x1:=bX.cell 1;simp at x0 x1;clear bX;go_simp
           have hk:=hK.out (.agg #[.map (some Mp2),.slice (some ⟨g2,0,none⟩) Sb Sb]) wr (by
            rw[HFD.o]
            exact⟨H0,H1,H2,H3,H4,zh ((fun _=>rfl)),H6,H7,H8,H9,H10,H11,H12⟩)
           simp only[wAg,wAa,wAb,wAc] at hk;exact hk
          ·intro l v wr hn hdep hcl hF K hK;rw[HFD.o] at hF;obtain⟨H0,H1,H2,H3,H4,H5,H6,H7,H8,H9,H10,H11,H12⟩:=hF;simp[wAd] at hdep;have HCL:=zh hcl;have HN:=zh hn;clear hcl hn;go_simp
           have hk:=hK.out (.pointer (some ⟨C,1,none⟩)) wr (by
            rw[HFD.o]
            exact⟨H0,H1,H2,H3,H4,H5,zh ((fun _=>rfl)),H7,H8,H9,H10,H11,H12⟩)
           simp only[wAg,wAa,wAb,wAc] at hk;exact hk
          ·intro l v wr hn hdep hcl hF K hK;rw[HFD.o] at hF;obtain⟨H0,H1,H2,H3,H4,H5,H6,H7,H8,H9,H10,H11,H12⟩:=hF;simp[wAd] at hdep;have HCL:=zh hcl;have HN:=zh hn;clear hcl hn;have e6:=H6.o (by simp[hdep]);have bX:=bC.o.below H12.o bC.o.lt;have x0:=bX.cell 0;have x1:=bX.cell 1;simp at x0 x1;clear bX;go_simp
           have hk:=hK.out (.int .i64 q1) wr (by
            rw[HFD.o]
            exact⟨H0,H1,H2,H3,H4,H5,H6,zh ((fun _=>rfl)),H8,H9,H10,H11,H12⟩)
           simp only[wAg,wAa,wAb,wAc] at hk;simp only[e6] at hk;exact hk
          ·intro l v wr hn hdep hcl hF K hK;rw[HFD.o] at hF;obtain⟨H0,H1,H2,H3,H4,H5,H6,H7,H8,H9,H10,H11,H12⟩:=hF;simp[wAd] at hdep;have HCL:=zh hcl;have HN:=zh hn;clear hcl hn;go_simp
           have hk:=hK.out (.int .i64 x) wr (by
            rw[HFD.o]
            exact⟨H0,H1,H2,H3,H4,H5,H6,H7,zh ((fun _=>rfl)),H9,H10,H11,H12⟩)
           simp only[wAg,wAa,wAb,wAc] at hk;exact hk
          ·intro l v wr hn hdep hcl hF K hK;rw[HFD.o] at hF;obtain⟨H0,H1,H2,H3,H4,H5,H6,H7,H8,H9,H10,H11,H12⟩:=hF;simp[wAd] at hdep;have HCL:=zh hcl;have HN:=zh hn;clear hcl hn;have e5:=H5.o (by simp[hdep]);have e7:=H7.o (by simp[hdep]);have e8:=H8.o (by simp[hdep]);go_simp;refine (zH3 b wr Sb Mp2 g2 q1 x (LB.o.below H12.o) HDB.o hpr2 (by omega)).mono ?_;rintro e w9 ⟨rfl,hb9⟩;rw[← HNY.o]
           have hk:=hK.out (.int .i64 ny) w9 (by
            rw[HFD.o]
            exact⟨H0,H1,H2,H3,H4,H5,H6,H7,H8,zh ((fun _=>rfl)),H10,zh ((fun h=>(H11.o h).below hb9)),zh (H12.o.trans (hb9.mono H12.o.size))⟩)
           simp only[wAg,wAa,wAb,wAc] at hk;simp only[e5,e7,e8] at hk;exact hk
          ·intro l v wr hn hdep hcl hF K hK;rw[HFD.o] at hF;obtain⟨H0,H1,H2,H3,H4,H5,H6,H7,H8,H9,H10,H11,H12⟩:=hF;simp[wAd] at hdep;have HCL:=zh hcl;have HN:=zh hn;clear hcl hn;have e4:=H4.o (by simp[hdep]);have e9:=H9.o (by simp[hdep]);go_simp
           have hk:=hK.out (.agg #[.int .i64 nx,.int .i64 ny]) wr (by
            rw[HFD.o]
            exact⟨H0,H1,H2,H3,H4,H5,H6,H7,H8,H9,zh ((fun _=>rfl)),H11,H12⟩)
           simp only[wAg,wAa,wAb,wAc] at hk;simp only[e4,e9] at hk;exact hk
          ·intro l v wr hn hdep hcl hF K hK;rw[HFD.o] at hF;obtain⟨H0,H1,H2,H3,H4,H5,H6,H7,H8,H9,H10,H11,H12⟩:=hF;simp[wAd] at hdep;have HCL:=zh hcl;have HN:=zh hn;clear hcl hn;go_simp
           have hk:=hK.out (.pointer (some ⟨wr.heap.size,0,none⟩)) (wr.alloc (.cells #[.int .i64 0,.int .i64 0] 110)) (by
            rw[HFD.o]
            exact⟨H0,H1,H2,H3,H4,H5,H6,H7,H8,H9,H10,zh ((fun _=>⟨wr.heap.size,_,_,rfl,H12.o.size,wAi rfl,fun h=>absurd (HCL.o 12 _ rfl h ⟨11,.data⟩ (by simp) rfl) (by rw[HN.o];decide)⟩)),zh (H12.o.alloc H12.o.size _)⟩)
           simp only[wAg,wAa,wAb,wAc] at hk;exact hk
          ·intro l v wr hn hdep hcl hF K hK;rw[HFD.o] at hF;obtain⟨H0,H1,H2,H3,H4,H5,H6,H7,H8,H9,H10,H11,H12⟩:=hF;simp[wAd] at hdep;have HCL:=zh hcl;have HN:=zh hn;clear hcl hn;have e10:=H10.o (by simp[hdep]);obtain⟨N,c0,c1,e11,hN,hblk,_⟩:=H11.o (by simp[hdep]);have x0:=hblk.cell 0;have x1:=hblk.cell 1;have xf0:=hblk.frozen 0;have xf1:=hblk.frozen 1;simp at x0 x1;have HNN:=zh hN;have HBK:=zh hblk;clear hdep hN hblk;go_simp
           have hk:=hK.out undef ((wr.setCell ⟨N,0,none⟩ (.int .i64 nx)).setCell ⟨N,1,none⟩ (.int .i64 ny)) (by
            rw[HFD.o]
            exact⟨H0,H1,H2,H3,H4,H5,H6,H7,H8,H9,H10,zh ((fun _=>⟨N,_,_,e11,HNN.o,(HBK.o.set_ 0 _).set_ 1 _,fun _=>⟨rfl,rfl⟩⟩)),zh ((H12.o.setCell (p:=⟨N,0,none⟩) (by exact HNN.o) _).setCell (p:=⟨N,1,none⟩) (by exact HNN.o) _)⟩)
           simp only[wAg,wAa,wAb,wAc] at hk;simp only[e10] at hk;simp only[e11] at hk;exact hk
        case rest =>
         obtain⟨N,rfl,hN13,bN,HBN⟩:=hcut;have HSN2:=zh (show u13.ownBlock≠some N from fun e=>by have:=(HO.o.lt _ e).2;omega);replace HO:=zh (zAG HO.o HBN.o);replace HN:=zh (HN.o.below HBN.o HN.o.lt);replace HRW:=zh (HRW.o.below HBN.o);replace HFN:=zh (zAG HFN.o HBN.o);replace HRO:=zh (zAG HRO.o HBN.o);replace bC:=zh (bC.o.below HBN.o bC.o.lt);replace HB:=zh (HB.o.trans (HBN.o.mono hsz));have hzG:W5.heap.size≤wc.heap.size:=HB.o.size;clear HBN dl lbl;have HOK:=zh (zQJ HNC.o);obtain⟨As2,cs2,hsv2,hcs2,_⟩:=zAa HO.o;subst hsv2;have n0:=bN.o.cell 0;have n1':=bN.o.cell 1;have lN:=bN.o.lt;simp at n0 n1';have hly:=zCK (nx,ny) st 0;by_cases hT:(nx,ny)∈st
         ·rw[if_pos hT] at hly;have HLY:=zh hly;have HADD:=zh (show st=addL st (nx,ny) by unfold addL;rw[if_pos hT]);clear hly hT;(go_upto_region 25 with (at_lookup;go_loud (refine zBz rfl _ _ 105 rfl zCw Try.underlying105 zCj rfl HN.o (nx,ny) rfl HOK.o _ HLY.o ?_)));have HN2:=zh (zGe HN.o HADD.o);have HO2:=zh (show wc.ownsRow W5.heap.size 110 2 (.slice As2 st.length cs2) (addL st (nx,ny)).length (finRow (cF (addL st (nx,ny)))) by rw[← HADD.o];exact HO.o);have hly2:=zCK (nx,ny) (addL st (nx,ny)) 0;rw[if_pos (addL_mem.2 (.inr rfl))] at hly2;obtain⟨v,hv⟩:∃ z:Int,z=(((addL st (nx,ny)).idxOf (nx,ny):Nat):Int):=⟨_,rfl⟩
          have HLK:=zh (show (lk (numE (addL st (nx,ny)) 0) (nx,ny)).getD (.int .i64 0)=.int .i64 v by
           rw[hly2,hv]
           show Value.int .i64 _=_
           congr 2;rw[wAo]
           exact zA0 _ _ _ _)
          rw[← hv] at HRK;have HRV:=zh HRK.o;have fg:=HRO.o.frozenAt k;have lG:G<wc.heap.size:=(HRO.o.lt G rfl).2
          obtain⟨z0,cgk⟩:∃ z0,wc.cell? ⟨G,k,none⟩=some (.int .i64 z0):=by
           have h1:=HRO.o.cellAt k (by omega)
           have h2:k<((rowC a b l i).take k++wAh (q-k) (0:Int)).length:=by
            rw[wAk,wAn,wAr,zC1,HQ.o];omega
           obtain⟨RL,hRL⟩:∃ z,z=(rowC a b l i).take k++wAh (q-k) (0:Int):=⟨_,rfl⟩;rw[← hRL] at h1 h2;refine⟨RL[k],?_⟩;rw[h1];unfold intRow;rw[wAu,wAj h2];rfl
          have HST:=zh (HRO.o.stored k (.int .i64 v))
          have T1:=zh (show (wc.setCell ⟨G,k,none⟩ (.int .i64 v)).ownsRow G 3 1 (.slice (some ⟨G,0,none⟩) q q) q (intRow ((rowC a b l i).take (k+1)++wAh (q-(k+1)) 0)) by
           rw[← zKF (by rw[zC1,HQ.o]) HRV.o];have h:=HST.o.1;unfold intRow at h ⊢;rw[wAw]
           exact h)
          have T2:=zh (HO2.o.kept HST.o.2 (zAt HO2.o HRO.o (by decide)));have T3:=zh (HN2.o.kept HST.o.2 (Ne.symm (zAk HRO.o HN2.o)));have T4:=zh (HRW.o.kept HST.o.2 (zAt HRW.o.o HRO.o (by decide)) (fun j hj=>HAP.o j hj));have T5:=zh (HFN.o.kept HST.o.2 (zAt HFN.o HRO.o (by decide)));have T6:=zh (bC.o.grown HST.o.2 (Ne.symm (zAe HRO.o bC.o (by decide))));have T7:=zh (HB.o.setCell (p:=⟨G,k,none⟩) (by show W5.heap.size≤G;omega) (.int .i64 v));rw[← HPN.o] at T2 T3;clear hly2 hv HST HRV;go_wp2_with (at_lookup;go_loud (refine zAK rfl _ _ 105 rfl zCw Try.underlying105 zCj rfl HN2.o (nx,ny) rfl HOK.o _ HLK.o ?_));go_roundw
          case rel=>exact⟨k+1,by omega,by go_num,HSC,T2,T3,T4,T5,T1,T6,T7⟩
          case measure=>simp[intOf];omega
         ·rw[if_neg hT] at hly;have HLY:=zh hly;have HADD:=zh (show addL st (nx,ny)=st++[(nx,ny)] by unfold addL;rw[if_neg hT]);have HTT:=zh hT;obtain⟨m2,hm2⟩:∃ z,z=st.length:=⟨_,rfl⟩;have HM2:=zh hm2;rw[← hm2] at HO hlen HSN2 HSC ⊢;(have hm21:m2≤20300:=by omega);clear hly hT hm2
          go_upto_region 25 with (first
           | (at_lookup;go_loud (refine zBH rfl _ _ 105 rfl zCw Try.underlying105 zCj rfl HN.o (nx,ny) rfl HOK.o HLY.o ?_))
           | (at_mapUpdate;go_loud (refine zBs rfl _ _ _ 105 rfl zCw Try.underlying105 rfl HN.o (nx,ny) rfl HOK.o (.int .i64 (m2:Int)) rfl ?_;intro w14 hm14 hg14 hz14;have HM14:=zh hm14;have HG14:=zh hg14;have HZ14:=zh hz14;have hz14':W5.heap.size≤w14.heap.size:=(by omega);have bN14:=zh (bN.o.grown hg14 (by intro e;injection e with e;have:=HN.o;obtain⟨_,_,hh,_⟩:=this;have hb:=bN.o;unfold Blk at hb;rw[e,hh] at hb;cases hb));clear n0 n1' lN;have n0:=bN14.o.cell 0;have n1':=bN14.o.cell 1;have lN:=bN14.o.lt;simp at n0 n1';have HO14:=zh (HO.o.kept hg14 (.inr (zAk HO.o HN.o)));clear hm14 hg14 hz14))
           | (at_builtin;go_loud (refine wpList_append_own_at _ rfl (.tmp 99) (.tmp 101) 111 rfl W5.heap.size 110 iC _ 2 16 Try.underlying111 hC0 hC1 hC2 hC3 rfl (by omega) (.slice As2 m2 cs2) m2 _ rfl (HO14.o.alloc _) ⟨w14.heap.size,0,none⟩ 1 1 (finRow [toF (nx,ny)]) rfl (by rfl) (wAm (cs:=(finRow [toF (nx,ny)]).toArray) (t:=110) (fr:=(0,0)) (wAi rfl)) (zA9 _) (by simp only[maxLen];omega) (by omega) (by simp<;>omega) ?_;intro v15 w15 hown15 hg15 _ hat15;have HOW15:=zh hown15;have HG15:=zh hg15;have HAT15:=zh hat15;have bN15:=zh ((bN14.o.alloc (Obj.cells #[.int .i64 nx,.int .i64 ny] 110)).grown hg15 (Ne.symm HSN2.o));clear n0 n1' lN;have n0:=bN15.o.cell 0;have n1':=bN15.o.cell 1;have lN:=bN15.o.lt;simp at n0 n1';clear hown15 hg15 hat15)))
          have R1:=zh (HO14.o.alloc (Obj.cells #[.int .i64 nx,.int .i64 ny] 110))
          have HO15:=zh (show w15.ownsRow W5.heap.size 110 2 v15 (addL st (nx,ny)).length (finRow (cF (addL st (nx,ny)))) by
           rw[HADD.o,zRK,wAk,← HM2.o]
           exact HOW15.o)
          have HN15:=zh (show MapIs w15 cplB okB (W5.heap.size+1) (numE (addL st (nx,ny)) 0) by
           have h:=HM14.o;rw[HM2.o,zJq HTT.o] at h;rw[HADD.o]
           exact (h.alloc (Obj.cells #[.int .i64 nx,.int .i64 ny] 110)).kept HG15.o (Ne.symm (zAk R1.o (h.alloc (Obj.cells #[.int .i64 nx,.int .i64 ny] 110)))))
          have HRW15:=zh (((HRW.o.kept HG14.o (.inr (zAk HRW.o.o HN.o)) (fun j hj=>.inr (zAk (HRW.o.own j hj) HN.o))).alloc (Obj.cells #[.int .i64 nx,.int .i64 ny] 110)).kept HG15.o (zAt (((HRW.o.kept HG14.o (.inr (zAk HRW.o.o HN.o)) (fun j hj=>.inr (zAk (HRW.o.own j hj) HN.o))).alloc (Obj.cells #[.int .i64 nx,.int .i64 ny] 110)).o) R1.o (by decide)) (fun j hj=>zAt (((HRW.o.kept HG14.o (.inr (zAk HRW.o.o HN.o)) (fun j hj=>.inr (zAk (HRW.o.own j hj) HN.o))).alloc (Obj.cells #[.int .i64 nx,.int .i64 ny] 110)).own j hj) R1.o (by decide)));have R2:=zh ((HFN.o.kept HG14.o (.inr (zAk HFN.o HN.o))).alloc (Obj.cells #[.int .i64 nx,.int .i64 ny] 110));have HFN15:=zh (R2.o.kept HG15.o (zAt R2.o R1.o (by decide)));have R3:=zh ((HRO.o.kept HG14.o (.inr (zAk HRO.o HN.o))).alloc (Obj.cells #[.int .i64 nx,.int .i64 ny] 110));have HRO15:=zh (R3.o.kept HG15.o (zAt R3.o R1.o (by decide)))
          have hne14:(some C:Option Nat)≠some (W5.heap.size+1):=by
           intro e;(injection e with e);obtain⟨_,_,hh,_⟩:=HN.o;have hb:=bC.o;unfold Blk at hb;rw[e,hh] at hb;cases hb
          have R4:=zh ((bC.o.grown HG14.o hne14).alloc (Obj.cells #[.int .i64 nx,.int .i64 ny] 110));have bC15:=zh (R4.o.grown HG15.o (Ne.symm HSC.o))
          have HSC15:=zh (show v15.ownBlock≠some C from fun e=>by
           rcases HAT15.o with g | g
           · exact HSC.o (by rw[← g];exact e)
           ·rw[g] at e;injection e with e
            have:=bC.o.lt
            have:=HZ14.o
            simp at e
            omega)
          have HB15':=zh (((HB.o.grown HG14.o HB.o.size (fun z hz=>by injection hz with hz;omega)).alloc (by have:=HZ14.o;omega) (Obj.cells #[.int .i64 nx,.int .i64 ny] 110)).grown HG15.o (by simp;omega) (fun z hz=>(R1.o.lt z hz).1));clear R1 R2 R3 R4 HG14 HG15 HM14 HOW15 hne14 HO HN HRW HFN HRO bC HB HZ14;have hly2:=zCK (nx,ny) (addL st (nx,ny)) 0;rw[if_pos (addL_mem.2 (.inr rfl))] at hly2;obtain⟨v,hv⟩:∃ z:Int,z=(((addL st (nx,ny)).idxOf (nx,ny):Nat):Int):=⟨_,rfl⟩
          have HLK:=zh (show (lk (numE (addL st (nx,ny)) 0) (nx,ny)).getD (.int .i64 0)=.int .i64 v by
           rw[hly2,hv]
           show Value.int .i64 _=_
           congr 2;rw[wAo]
           exact zA0 _ _ _ _)
          rw[← hv] at HRK;have HRV:=zh HRK.o;have fg:=HRO15.o.frozenAt k;have lG:G<w15.heap.size:=(HRO15.o.lt G rfl).2
          obtain⟨z0,cgk⟩:∃ z0,w15.cell? ⟨G,k,none⟩=some (.int .i64 z0):=by
           have h1:=HRO15.o.cellAt k (by omega)
           have h2:k<((rowC a b l i).take k++wAh (q-k) (0:Int)).length:=by
            rw[wAk,wAn,wAr,zC1,HQ.o];omega
           obtain⟨RL,hRL⟩:∃ z,z=(rowC a b l i).take k++wAh (q-k) (0:Int):=⟨_,rfl⟩;rw[← hRL] at h1 h2;refine⟨RL[k],?_⟩;rw[h1];unfold intRow;rw[wAu,wAj h2];rfl
          have HST:=zh (HRO15.o.stored k (.int .i64 v))
          have T1:=zh (show (w15.setCell ⟨G,k,none⟩ (.int .i64 v)).ownsRow G 3 1 (.slice (some ⟨G,0,none⟩) q q) q (intRow ((rowC a b l i).take (k+1)++wAh (q-(k+1)) 0)) by
           rw[← zKF (by rw[zC1,HQ.o]) HRV.o];have h:=HST.o.1;unfold intRow at h ⊢;rw[wAw]
           exact h)
          have T2:=zh (HO15.o.kept HST.o.2 (zAt HO15.o HRO15.o (by decide)));have T3:=zh (HN15.o.kept HST.o.2 (Ne.symm (zAk HRO15.o HN15.o)));have T4:=zh (HRW15.o.kept HST.o.2 (zAt HRW15.o.o HRO15.o (by decide)) (fun j hj=>HAP.o j hj));have T5:=zh (HFN15.o.kept HST.o.2 (zAt HFN15.o HRO15.o (by decide)));have T6:=zh (bC15.o.grown HST.o.2 (Ne.symm (zAe HRO15.o bC15.o (by decide))));have T7:=zh (HB15'.o.setCell (p:=⟨G,k,none⟩) (by show W5.heap.size≤G;omega) (.int .i64 v));rw[← HPN.o] at T2 T3;clear hly2 hv HST HRV;go_wp2_with (at_lookup;go_loud (refine zAK rfl _ _ 105 rfl zCw Try.underlying105 zCj rfl HN15.o (nx,ny) rfl HOK.o _ HLK.o ?_));go_roundw
          case rel=>exact⟨k+1,by omega,by go_num,HSC15,T2,T3,T4,T5,T1,T6,T7⟩
          case measure=>simp[intOf];omega
       ·obtain rfl:q=k:=by omega
        have HLS:=zh (show (bfsRow i (stpCk a b l (p,q1) q) (StC a b l i).1).1=LsC a b l (i+1) by
         rw[zGP (by rw[← HLN.o];exact hin),HC.o,zNT (by rw[HQ.o];exact wAe _)])
        rw[HLS.o] at HO HN
        have HRE:=zh (show wr.ownsRow G 3 1 (.slice (some ⟨G,0,none⟩) q q) q (intRow (rowC a b l i)) by
         have h:=HRO.o;rw[List.take_of_length_le (by rw[zC1,HQ.o];exact wAe _),Nat.sub_self] at h
         simpa using h)
        obtain⟨m3,hm3⟩:∃ z,z=(LsC a b l (i+1)).length:=⟨_,rfl⟩;have HM3:=zh hm3;have hlen:=zMI (a:=a) (b:=b) (l:=l) i q;rw[HC.o,← HLN.o,HLS.o,← hm3] at hlen
        have hgr:ln≤m3:=by
         obtain⟨kk,hkk⟩:=zD9 (a:=a) (b:=b) (l:=l) (Nat.le_succ i);rw[hm3,hkk,wAk,← HLN.o];omega
        rw[← hm3] at HO;clear hm3 HRO HLS bC;obtain⟨As3,cs3,hsv3,hcs3,_⟩:=zAa HO.o;subst hsv3;have S1:=zh (HRE.o.alloc (Obj.cells #[.slice (some ⟨G,0,none⟩) q q] 26));have S2:=zh (HRW.o.alloc (Obj.cells #[.slice (some ⟨G,0,none⟩) q q] 26));have S3:=zh (HO.o.alloc (Obj.cells #[.slice (some ⟨G,0,none⟩) q q] 26));have S4:=zh (HN.o.alloc (Obj.cells #[.slice (some ⟨G,0,none⟩) q q] 26));have S5:=zh (HFN.o.alloc (Obj.cells #[.slice (some ⟨G,0,none⟩) q q] 26));have S6:=zh (HB.o.alloc hsz (Obj.cells #[.slice (some ⟨G,0,none⟩) q q] 26));clear HRE HRW HO HN HFN HB HSC;(go_upto_region 28 with (at_builtin;go_loud (refine wpList_append_own_at _ rfl (.tmp 110) (.tmp 112) 73 rfl W5.heap.size 26 i1 _ 1 24 Try.underlying73 hi1 hy0 hy1 hy2 rfl (by omega) u15 i _ rfl S2.o.o ⟨wr.heap.size,0,none⟩ 1 1 [.slice (some ⟨G,0,none⟩) q q] rfl (by rfl) (wAm (cs:=#[.slice (some ⟨G,0,none⟩) q q]) (t:=26) (fr:=(0,0)) (wAi rfl)) (by simp[Value.oneCell']) (by simp only[maxLen];omega) (by omega) (by simp<;>omega) ?_;intro v17 w17 hown17 hg17 _ hat17;have HOW17:=zh hown17;have HG17:=zh hg17;clear hown17 hg17 hat17)));have HRW:=zh ((S2.o.push HG17.o HOW17.o (zEl S1.o hGZ) (fun j hj=>HAP.o j hj) (by decide)).congr (L':=fun j=>intRow (rowC a b l j)) (m':=fun _=>q) (fun j _=>by by_cases e:j=i<;>simp[e]) (fun j _=>by by_cases e:j=i<;>simp[e]));have HO:=zh (S3.o.kept HG17.o (zAt S3.o S2.o.o (by decide)));have HN:=zh (S4.o.kept HG17.o (Ne.symm (zAk S2.o.o S4.o)));have HFN:=zh (S5.o.kept HG17.o (zAt S5.o S2.o.o (by decide)));have HB:=zh (S6.o.grown HG17.o S6.o.size (fun z hz=>(S2.o.o.lt z hz).1));clear S1 S2 S3 S4 S5 S6 HG17 HOW17 HAP;by_cases h20:20000<m3
        ·have t3:decide ((m3:Int)>20000)=true:=decide_eq_true (by omega);have t3':decide ((20000:Int)<(m3:Int))=true:=decide_eq_true (by omega);have bM9:=bM5.o.below HB.o lM5;have bR9:=bR5.o.below HB.o lR5;have lM9:=bM9.lt;have lR9:=bR9.lt;have HBE9:=zh (HBW5.o.trans (HB.o.mono HBW5.o.size));have HOV:=zh (show ∃ i,20000<(LsC a b l i).length from ⟨i+1,by rw[← HM3.o];exact h20⟩);go_wp2_with fail;refine (zK6 _ _ _).mono ?_;rintro e w19 ⟨rfl,hb19⟩;have bM:=bM9.below hb19 lM9;have bR:=bR9.below hb19 lR9;have HBE:=zh (HBE9.o.trans (hb19.mono HBE9.o.size));have q0:=bM.cell 0;have q1:=bM.cell 1;have q2:=bM.cell 2;have q3:=bR.cell 0;have q4:=bR.cell 1;have qf:=bM.frozen 0;have qf1:=bM.frozen 1;have qf2:=bM.frozen 2;have qf3:=bR.frozen 0;have qf4:=bR.frozen 1;have lM:=bM.lt;have lR:=bR.lt;simp at q0 q1 q2 q3 q4;clear hb19 bM bR bM9 bR9 HBE9;go_wp21;refine bodyPost_ret (v:=.tuple #[.agg #[.int .i64 0,.slice none 0 0,.slice none 0 0],.agg #[.int .i64 17,.int .i64 (-1)]]) (by simp[results,Try.results51,go_sem,lM,lR,hMR,hRM,q0,q1,q2,q3,q4,qf,qf1,qf2,qf3,qf4]) rfl ?_;exact⟨(emptyM,(17,-1)),_,rfl,.inl ⟨rfl,HOV.o⟩,MachNew.empty _ _,(((((HBE.o.setCell (p:=⟨M,0,none⟩) (by exact hwM) (.int .i64 0)).setCell (p:=⟨M,1,none⟩) (by exact hwM) (.slice none 0 0)).setCell (p:=⟨M,2,none⟩) (by exact hwM) (.slice none 0 0)).setCell (p:=⟨R,0,none⟩) (by exact hwR) (.int .i64 17)).setCell (p:=⟨R,1,none⟩) (by exact hwR) (.int .i64 (-1)))⟩
        ·have t3:decide ((m3:Int)>20000)=false:=decide_eq_false (by omega);have t3':decide ((20000:Int)<(m3:Int))=false:=decide_eq_false (by omega);go_wp2
         go_roundg (gk-1)
         case measure=>omega
         case rel=>exact⟨i+1,_,by go_num,by rw[← HM3.o];omega,by rw[← HM3.o];omega,by omega,zh (by rw[← HM3.o];exact HO.o),HN,HRW,HFN,HB⟩
     ·(obtain rfl:ln=i:=by omega);have HI:=zh (show (LsC a b l ln).length=ln from HLN.o.symm);have hNL:=zh (HRW.o.nums (show ln≤big by unfold big;omega) (fun _ _=>show q≤big by unfold big;omega));have hFL:=zh (zNP HFN.o (show ln≤big by unfold big;omega));have hLL:=zh ((HLL5.o.below HB.o (wAe _)).mono HB.o.size);have bM9:=zh (bM5.o.below HB.o lM5);have bR9:=zh (bR5.o.below HB.o lR5);have HBE9:=zh (HBW5.o.trans (HB.o.mono HBW5.o.size));clear HO HN HRW HFN;go_wp2_with fail;refine (zLL _ _ _ l (rowsC a b l ln) (finsC a b l K0 ln) wr wr.heap.size (wAe _) hLL.o hNL.o hFL.o).mono ?_;rintro e w19 ⟨v1,rfl,hnew,hb19⟩;obtain⟨A9,AF9,n9,c9,nf9,cf9,rfl,_,_,_,_,_,_,_,_⟩:=hnew.at_;have HNEW:=zh hnew;obtain⟨r9,hr9⟩:∃ z,z=leastR l (rowsC a b l ln) (finsC a b l K0 ln):=⟨_,rfl⟩;rw[← hr9] at HNEW;simp only[← hr9];have HR9:=zh hr9;obtain⟨g9,hg9⟩:∃ z,z=r9.1.n:=⟨_,rfl⟩;obtain⟨f1,hf1⟩:∃ z,z=r9.2.1:=⟨_,rfl⟩;obtain⟨f2,hf2⟩:∃ z,z=r9.2.2:=⟨_,rfl⟩;rw[← hg9] at HNEW;simp only[← hg9,← hf1,← hf2];have HF1:=zh hf1;have HF2:=zh hf2;have lM9:=bM9.o.lt;have lR9:=bR9.o.lt;have bM:=bM9.o.below hb19 lM9;have bR:=bR9.o.below hb19 lR9;have HBE:=zh (HBE9.o.trans (hb19.mono HBE9.o.size));have hzw:=HBE9.o.size;have q0:=bM.cell 0;have q1:=bM.cell 1;have q2:=bM.cell 2;have q3:=bR.cell 0;have q4:=bR.cell 1;have qf:=bM.frozen 0;have qf1:=bM.frozen 1;have qf2:=bM.frozen 2;have qf3:=bR.frozen 0;have qf4:=bR.frozen 1;have lM:=bM.lt;have lR:=bR.lt;simp at q0 q1 q2 q3 q4;have HNW:=zh (((((HNEW.o.set (p:=⟨M,0,none⟩) (by show M<wr.heap.size;omega) (.int .i64 g9)).set (p:=⟨M,1,none⟩) (by show M<wr.heap.size;omega) (.slice A9 n9 c9)).set (p:=⟨M,2,none⟩) (by show M<wr.heap.size;omega) (.slice AF9 nf9 cf9)).set (p:=⟨R,0,none⟩) (by show R<wr.heap.size;omega) (.int .i64 f1)).set (p:=⟨R,1,none⟩) (by show R<wr.heap.size;omega) (.int .i64 f2));have HBF:=zh ((((((HBE.o.setCell (p:=⟨M,0,none⟩) (by exact hwM) (.int .i64 g9)).setCell (p:=⟨M,1,none⟩) (by exact hwM) (.slice A9 n9 c9)).setCell (p:=⟨M,2,none⟩) (by exact hwM) (.slice AF9 nf9 cf9)).setCell (p:=⟨R,0,none⟩) (by exact hwR) (.int .i64 f1)).setCell (p:=⟨R,1,none⟩) (by exact hwR) (.int .i64 f2)));clear hb19 hnew bM bR bM9 bR9 HBE9 HNEW HBE hNL hFL hLL hr9 hg9 hf1 hf2;go_wp21;refine bodyPost_ret (v:=.tuple #[.agg #[.int .i64 g9,.slice A9 n9 c9,.slice AF9 nf9 cf9],.agg #[.int .i64 f1,.int .i64 f2]]) (by simp[results,Try.results51,go_sem,lM,lR,hMR,hRM,q0,q1,q2,q3,q4,qf,qf1,qf2,qf3,qf4]) rfl ?_;exact⟨r9,_,by rw[← HF1.o,← HF2.o],.inr ⟨ln,HI.o,by omega,HR9.o⟩,HNW.o.mono hzw,HBF.o⟩
end Go.Proofs.Ytkfdhpbnphojoaa
