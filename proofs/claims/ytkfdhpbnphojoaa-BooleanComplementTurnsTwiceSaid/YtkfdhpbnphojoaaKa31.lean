/- The texts JnW of this proof. No conditions. -/
import Derived.Test.YtkfdhpbnphojoaaKa30
import Derived.Test.YtkfdhpbnphojoaaKa29
import Derived.Deep.RegionHeld3
/- Text JnW. -/
namespace Go.Proofs.Ytkfdhpbnphojoaa
open Go.RowKit Gm
set_option linter.unusedSimpArgs false
set_option linter.unusedVariables false
theorem bfault_any (a b:Int) (w:World) :
 Calls Try.prog 59 #[.int .i64 a,.int .i64 b] w fun e w'=>e=.returned (.agg #[.int .i64 a,.int .i64 b])∧Below w.heap.size w w':=by
 go_enter Try.func59,Try.ntmps59
 go_wp2;exact bodyPost_ret (v:=.agg #[.int .i64 a,.int .i64 b]) (by simp[results,Try.results59,go_sem]) rfl ⟨rfl,by go_grown⟩
theorem own_cpl1 {w:World} {g:Nat} {t:TypeId} {c:Int×Int} (h:Blk w g t #[.int .i64 c.1,.int .i64 c.2]):w.ownsRow g t 2 (.slice (some ⟨g,0,none⟩) 1 1) 1 (finRow (cF [c])) :=
 ⟨rfl,.inr ⟨g,1,_,rfl,Nat.le_refl _,h,Nat.le_refl _,by simp[maxLen],rfl,rfl⟩⟩
theorem next_anyL (a:Mach) (w:World) (S Mb gF:Nat) (s x:Int) (h:LangAt w a S Mb gF) (hD:DmOk a S) (hs : -1≤s∧s≤2000000) (hx : -1≤x∧x≤2000000) :
 Calls Try.prog 88 #[.agg #[.map (some Mb),.slice (some ⟨gF,0,none⟩) S S],.int .i64 s,.int .i64 x] w fun e w'=>e=.returned (.int .i64 (nxI a s x))∧Below w.heap.size w w':=next_any a w S Mb gF s x h hD hs hx
def PtL (w:World) (B:Nat) (v:Value) (s:Bool) (u:Value):Prop:=∃ X p q,v=.pointer (some ⟨X,0,none⟩)∧B≤X∧Blk w X 107 #[p,q]∧(s=true→u=.agg #[p,q])
theorem PtL.below {w w':World} {B:Nat} {v:Value} {s:Bool} {u:Value} (h:PtL w B v s u) (hb:Below w.heap.size w w'):PtL w' B v s u:=by
 obtain⟨X,p,q,h1,h2,h3,h4⟩:=h;exact⟨X,p,q,h1,h2,h3.below hb h3.lt,h4⟩
def PtC (w:World) (B:Nat) (v:Value) (s:Bool) (p q:Int):Prop:=∃ X c0 c1,v=.pointer (some ⟨X,0,none⟩)∧B≤X∧Blk w X 110 #[c0,c1]∧(s=true→c0=.int .i64 p∧c1=.int .i64 q)
theorem PtC.below {w w':World} {B:Nat} {v:Value} {s:Bool} {p q:Int} (h:PtC w B v s p q) (hb:Below w.heap.size w w'):PtC w' B v s p q:=by
 obtain⟨X,c0,c1,h1,h2,h3,h4⟩:=h;exact⟨X,c0,c1,h1,h2,h3.below hb h3.lt,h4⟩
theorem langAt_set {w:World} {m:Mach} {S Mb gF X:Nat} {cs:Array Value} (h:LangAt w m S Mb gF) (hb:Blk w X 107 cs) (i:Nat) (u:Value):LangAt (w.setCell ⟨X,i,none⟩ u) m S Mb gF:=by
 refine⟨h.map.set_ (p:=⟨X,i,none⟩) ?_ u,h.fin.setOther (a:=⟨X,i,none⟩) ?_ u⟩
 ·
  rintro rfl;obtain⟨es,c,he,_⟩:=h.map;have hb':w.heap[Mb]? = _:=hb;rw[he] at hb';cases hb'
 ·
  rintro rfl;obtain⟨c,hc,_⟩:=h.fin;have hb':w.heap[gF]? = _:=hb;rw[hc] at hb';injection hb' with hb'
  injection hb' with _ h2
  exact absurd h2 (by decide)
theorem nums_rdJ {w:World} {B n c:Nat} {A:Option Addr} {l:List Int} (h:Nums w B (.slice A n c) l):Rd w B 1 A n (intCell l):=by
 obtain⟨A',n',c',e,_,_,_,hr⟩:=h;injection e with e1 e2 e3
 subst e1 e2 e3;exact hr
theorem rowK_set {R:List Int} {q k:Nat} {v:Int} (hR:R.length=q) (hk:R[k]? = some v):(R.take k++List.replicate (q-k) 0).set k v=R.take (k+1)++List.replicate (q-(k+1)) 0:=by
 have hkq:k<q:=by rw[← hR];exact (List.getElem?_eq_some_iff.1 hk).1
 have hl:(R.take k).length=k:=by rw[List.length_take];omega
 rw[List.take_add_one,hk];rw[show q-k=(q-(k+1))+1 by omega,List.replicate_succ];rw[List.set_append_right _ _ (by omega),hl];simp
theorem own_drewJ {w:World} {base sz n:Nat} {e:TypeId} {v:Value} {xs:List Value} (h:w.ownsRow base e sz v n xs):w.drew.ownsRow base e sz v n xs:=h
theorem mapIs_drewJ {w:World} {b:Nat} {L:List ((Int×Int)×Value)} (h:MapIs w cplB okB b L):MapIs w.drew cplB okB b L:=h
theorem okCp_B {c:Int×Int} (h:okCp 401 c):okB c:=by
 unfold okCp at h;exact⟨by omega,by omega,by omega,by omega⟩
theorem mapIs_numE {w:World} {b:Nat} {L L':List (Int×Int)} (h:MapIs w cplB okB b (numE L 0)) (e:L=L'):MapIs w cplB okB b (numE L' 0):=e▸h
set_option maxRecDepth 100000 in
set_option maxHeartbeats 64000000 in
theorem join_any (
 fn:FuncId) (hen:∀ args w,(callFunc fn args).run Try.prog w=.ok (.enter fn args) w) (K0:Bool→Bool→Bool) (hK:∀ p q w,Calls Try.prog fn #[.bool p,.bool q] w fun e w'=>e=.returned (.bool (K0 p q))∧Below w.heap.size w w') (va vb vl:Value) (a b:Mach) (Sa Sb:Nat) (l:List Int) (w:World) (ha:MachAt w w.heap.size va a) (hb:MachAt w w.heap.size vb b) (hl:Nums w w.heap.size vl l) (hDa:DmOk a Sa) (hDb:DmOk b Sb) (hl3:l.length≤300) (hlr:∀ x∈l,0≤x∧x≤1114111) :
 Calls Try.prog 51 #[va,vb,vl,.func (.func fn) #[] #[]] w fun e w'=>∃ (r:Mach×(Int×Int)) (v1:Value),e=.returned (.tuple #[v1,.agg #[.int .i64 r.2.1,.int .i64 r.2.2]])∧JoinR a b l K0 r∧MachNew w.heap.size w' v1 r.1∧Below w.heap.size w w':=by
 obtain⟨i0,hi0,iz0,iz1,iz2⟩:=info_parts int_info;obtain⟨i1,hi1,hy0,hy1,hy2⟩:=info_parts ints_info;obtain⟨iB,hB0,hB1,hB2,hB3⟩:=info_parts bool_info;obtain⟨iC,hC0,hC1,hC2,hC3⟩:=info_parts cplB_info;have HMA0:=hide ha;have HMB0:=hide hb;have HLL0:=hide hl;have HKK:=hide hK;have HDA:=hide hDa;have HDB:=hide hDb;have HLR:=hide hlr;have hna:=hDa.n;have hnb:=hDb.n;have hsa:=hDa.n4;have hsb:=hDb.n4;obtain⟨A1,AF1,n1,c1,nf1,cf1,rfl,_,_,_,_,_,_,_,_⟩:=ha;obtain⟨A2,AF2,n2,c2,nf2,cf2,rfl,_,_,_,_,_,_,_,_⟩:=hb;obtain⟨AL,q,cl,rfl,HQ,hqc,hqb,hLR⟩:=hl;rw[HQ.out] at hl3;rw[hna] at HMA0 ⊢;rw[hnb] at HMB0 ⊢;clear hK hlr hDa hDb hLR
 go_enter Try.func51,Try.ntmps51
 go_upto_region 1 with fail
 generalize hW1:World.alloc _ _=W1;obtain⟨X,hX⟩:∃ z,z=w.heap.size:=⟨_,rfl⟩;obtain⟨Y,hY⟩:∃ z,z=w.heap.size+1:=⟨_,rfl⟩;obtain⟨M,hM⟩:∃ z,z=w.heap.size+1+1:=⟨_,rfl⟩;obtain⟨R,hR⟩:∃ z,z=w.heap.size+1+1+1:=⟨_,rfl⟩;have bX1:=hide (show Blk W1 X 25 #[.int .i64 (Sa:Int),.slice A1 n1 c1,.slice AF1 nf1 cf1] by rw[← hW1];exact (((Blk.at_ hX).alloc _).alloc _).alloc _);have bY1:=hide (show Blk W1 Y 25 #[.int .i64 (Sb:Int),.slice A2 n2 c2,.slice AF2 nf2 cf2] by rw[← hW1];exact ((Blk.at_ (by simp[hY])).alloc _).alloc _);have bM1:=hide (show Blk W1 M 25 #[.int .i64 0,.slice none 0 0,.slice none 0 0] by rw[← hW1];exact (Blk.at_ (by simp[hM])).alloc _);have bR1:=hide (show Blk W1 R 28 #[.int .i64 0,.int .i64 0] by rw[← hW1];exact Blk.at_ (by simp[hR]));have HB1:=hide (show Below w.heap.size w W1 by rw[← hW1];go_grown);have hwM:w.heap.size≤M:=by omega
 have hwR:w.heap.size≤R:=by omega
 have hMR:M≠R:=by omega
 have hRM:R≠M:=by omega
 have hYR:Y<R:=by omega
 have hXY:X<Y:=by omega
 simp only[← hR];simp only[← hM];simp only[← hY]
 try simp only[← hX]
 have HMA1:=hide ((HMA0.out.below HB1.out (Nat.le_refl _)).mono HB1.out.size);have HMB1:=hide ((HMB0.out.below HB1.out (Nat.le_refl _)).mono HB1.out.size);have HLL1:=hide ((HLL0.out.below HB1.out (Nat.le_refl _)).mono HB1.out.size);have lX:=bX1.out.lt;have lY:=bY1.out.lt;have lM1:=bM1.out.lt;have lR1:=bR1.out.lt;have x0:=bX1.out.cell 0;have x1:=bX1.out.cell 1;have x2:=bX1.out.cell 2;have y0:=bY1.out.cell 0;have y1:=bY1.out.cell 1;have y2:=bY1.out.cell 2;simp at x0 x1 x2 y0 y1 y2;clear hW1 hX hY hM hR
 go_cut [10,11] from 25 (fun s10 s11 wx=>∃ (Xa Ya Mp1 g1 Mp2 g2:Nat),s10=.pointer (some ⟨Xa,0,none⟩)∧s11=.pointer (some ⟨Ya,0,none⟩)∧Hid (Blk wx Xa 107 #[.map (some Mp1),.slice (some ⟨g1,0,none⟩) Sa Sa])∧Hid (Blk wx Ya 107 #[.map (some Mp2),.slice (some ⟨g2,0,none⟩) Sb Sb])∧Hid (LangAt wx a Sa Mp1 g1)∧Hid (LangAt wx b Sb Mp2 g2)∧Hid (Below W1.heap.size W1 wx))
 case first =>
  obtain⟨F,hF⟩:∃ F:(Nat→Bool)→(Nat→Value)→World→Prop,F=fun l v wr =>
   (l 0=true→v 0=.agg #[.int .i64 (Sa:Int),.slice A1 n1 c1,.slice AF1 nf1 cf1])∧(l 1=true→∃ Mb g:Nat,v 1=lngV Sa Mb g∧LangAt wr a Sa Mb g)∧(l 2=true→v 2=.agg #[.int .i64 (Sb:Int),.slice A2 n2 c2,.slice AF2 nf2 cf2])∧(l 3=true→∃ Mb g:Nat,v 3=lngV Sb Mb g∧LangAt wr b Sb Mb g) ∧
   (l 4=true→PtL wr W1.heap.size (v 4) (l 6) (v 1))∧(l 5=true→PtL wr W1.heap.size (v 5) (l 7) (v 3))∧(l 4=true→l 5=true→v 4≠v 5)∧Below W1.heap.size W1 wr:=⟨_,rfl⟩
  have HFD:=hide hF;clear hF;refine wp_region_inv F (A:=?A) ?hA (by kernel_rfl) (by kernel_rfl) (by kernel_rfl) ?h0 ?hend ?hsteps
  case hA=>intro v;simp only[putR,Act.put,List.setIfInBounds_toArray,List.set_cons_zero,List.set_cons_succ,Nat.reduceAdd,Nat.zero_add];exact rfl
  case h0 =>
   intro v;rw[HFD.out];refine⟨fun h=>?_,fun h=>?_,fun h=>?_,fun h=>?_,fun h=>?_,fun h=>?_,fun h=>?_,?_⟩
   all_goals first | (exfalso;simp at h;done) | exact (Below.refl _ _).drew
  case hend =>
   intro l v wr hall hF;rw[HFD.out] at hF;obtain⟨_,f1,_,f3,f4,f5,f6,hb⟩:=hF;obtain⟨Mp1,g1,e1,hL1⟩:=f1 (hall 1 (by simp));obtain⟨Mp2,g2,e3,hL3⟩:=f3 (hall 3 (by simp));obtain⟨Xa,p1,q1,e4,_,hX,s1⟩:=f4 (hall 4 (by simp));obtain⟨Ya,p2,q2,e5,_,hY,s2⟩:=f5 (hall 5 (by simp));have s1:=(s1 (hall 6 (by simp))).symm.trans e1;have s2:=(s2 (hall 7 (by simp))).symm.trans e3;injection s1 with s1
   injection s2 with s2
   rw[s1] at hX;rw[s2] at hY;have HE4:=hide e4;have HE5:=hide e5;have HX:=hide hX;have HY:=hide hY;have H1:=hide hL1;have H3:=hide hL3;have HB:=hide hb;clear f1 f3 f4 f5 f6 hb hall e1 e3 e4 e5 s1 s2 hX hY hL1 hL3;go_wp2;go_meet;exact⟨Xa,Ya,Mp1,g1,Mp2,g2,HE4.out,HE5.out,HX,HY,H1,H3,HB⟩
  case hsteps =>
   refine StepsR.cons (n:=0) ?_ (StepsR.cons (n:=1) ?_ (StepsR.cons (n:=2) ?_ (StepsR.cons (n:=3) ?_ (StepsR.cons (n:=4) ?_ (StepsR.cons (n:=5) ?_ (StepsR.cons (n:=6) ?_ (StepsR.cons (n:=7) ?_ trivial)))))))
   ·
    intro l v wr hn hdep hcl hF K hK;rw[HFD.out] at hF;obtain⟨f0,f1,f2,f3,f4,f5,f6,hb⟩:=hF;simp[Region.binds] at hdep;have H0:=hide f0;have H1:=hide f1;have H2:=hide f2;have H3:=hide f3;have H4:=hide f4;have H5:=hide f5;have H6:=hide f6;have HB:=hide hb;have HCL:=hide hcl;have HN:=hide hn;clear f0 f1 f2 f3 f4 f5 f6 hb hcl hn;have bX:=bX1.out.below HB.out lX;have x0:=bX.cell 0;have x1:=bX.cell 1;have x2:=bX.cell 2;simp at x0 x1 x2;have HX:=hide bX;clear bX;go_simp
    have hk:=hK.out (.agg #[.int .i64 (Sa:Int),.slice A1 n1 c1,.slice AF1 nf1 cf1]) wr (by
     rw[HFD.out];exact⟨fun _=>rfl,H1.out,H2.out,H3.out,H4.out,H5.out,H6.out,HB.out⟩
    )
    simp only[Act.put,List.setIfInBounds_toArray,List.set_cons_zero,List.set_cons_succ] at hk;exact hk
   ·
    intro l v wr hn hdep hcl hF K hK;rw[HFD.out] at hF;obtain⟨f0,f1,f2,f3,f4,f5,f6,hb⟩:=hF;simp[Region.binds] at hdep;have H0:=hide f0;have H1:=hide f1;have H2:=hide f2;have H3:=hide f3;have H4:=hide f4;have H5:=hide f5;have H6:=hide f6;have HB:=hide hb;have HCL:=hide hcl;have HN:=hide hn;clear f0 f1 f2 f3 f4 f5 f6 hb hcl hn;have e0:=H0.out (hdep);clear hdep;go_simp;refine (languageOf_any _ _ wr Sa ((HMA1.out.below HB.out (Nat.le_refl _)).mono HB.out.size) HDA.out).mono ?_;rintro e w9 ⟨Mb,g,rfl,hL,hb9⟩
    have hk:=hK.out (lngV Sa Mb g) w9 (by
     rw[HFD.out];exact⟨H0.out,(fun _=>⟨Mb,g,rfl,hL⟩),H2.out,(fun h=>by obtain⟨M2,g2,e,hl⟩:=H3.out h;exact⟨M2,g2,e,hl.below hb9⟩),(fun h=>by obtain⟨X,p,q,e,hX,hx,hs⟩:=(H4.out h).below hb9;exact⟨X,p,q,e,hX,hx,fun h6=>absurd (HCL.out 6 _ rfl h6 ⟨1,.data⟩ (by simp) rfl) (by rw[HN.out];decide)⟩),(fun h=>(H5.out h).below hb9),H6.out,HB.out.trans (hb9.mono HB.out.size)⟩
    )
    simp only[Act.put,List.setIfInBounds_toArray,List.set_cons_zero,List.set_cons_succ] at hk;simp only[e0] at hk;exact hk
   ·
    intro l v wr hn hdep hcl hF K hK;rw[HFD.out] at hF;obtain⟨f0,f1,f2,f3,f4,f5,f6,hb⟩:=hF;simp[Region.binds] at hdep;have H0:=hide f0;have H1:=hide f1;have H2:=hide f2;have H3:=hide f3;have H4:=hide f4;have H5:=hide f5;have H6:=hide f6;have HB:=hide hb;have HCL:=hide hcl;have HN:=hide hn;clear f0 f1 f2 f3 f4 f5 f6 hb hcl hn;have bX:=bY1.out.below HB.out lY;have x0:=bX.cell 0;have x1:=bX.cell 1;have x2:=bX.cell 2;simp at x0 x1 x2;have HX:=hide bX;clear bX;go_simp
    have hk:=hK.out (.agg #[.int .i64 (Sb:Int),.slice A2 n2 c2,.slice AF2 nf2 cf2]) wr (by
     rw[HFD.out];exact⟨H0.out,H1.out,fun _=>rfl,H3.out,H4.out,H5.out,H6.out,HB.out⟩
    )
    simp only[Act.put,List.setIfInBounds_toArray,List.set_cons_zero,List.set_cons_succ] at hk;exact hk
   ·
    intro l v wr hn hdep hcl hF K hK;rw[HFD.out] at hF;obtain⟨f0,f1,f2,f3,f4,f5,f6,hb⟩:=hF;simp[Region.binds] at hdep;have H0:=hide f0;have H1:=hide f1;have H2:=hide f2;have H3:=hide f3;have H4:=hide f4;have H5:=hide f5;have H6:=hide f6;have HB:=hide hb;have HCL:=hide hcl;have HN:=hide hn;clear f0 f1 f2 f3 f4 f5 f6 hb hcl hn;have e0:=H2.out (hdep.1);clear hdep;go_simp;refine (languageOf_any _ _ wr Sb ((HMB1.out.below HB.out (Nat.le_refl _)).mono HB.out.size) HDB.out).mono ?_;rintro e w9 ⟨Mb,g,rfl,hL,hb9⟩
    have hk:=hK.out (lngV Sb Mb g) w9 (by
     rw[HFD.out];exact⟨H0.out,(fun h=>by obtain⟨M2,g2,e,hl⟩:=H1.out h;exact⟨M2,g2,e,hl.below hb9⟩),H2.out,(fun _=>⟨Mb,g,rfl,hL⟩),(fun h=>(H4.out h).below hb9),(fun h=>by obtain⟨X,p,q,e,hX,hx,hs⟩:=(H5.out h).below hb9;exact⟨X,p,q,e,hX,hx,fun h6=>absurd (HCL.out 7 _ rfl h6 ⟨3,.data⟩ (by simp) rfl) (by rw[HN.out];decide)⟩),H6.out,HB.out.trans (hb9.mono HB.out.size)⟩
    )
    simp only[Act.put,List.setIfInBounds_toArray,List.set_cons_zero,List.set_cons_succ] at hk;simp only[e0] at hk;exact hk
   ·
    intro l v wr hn hdep hcl hF K hK;rw[HFD.out] at hF;obtain⟨f0,f1,f2,f3,f4,f5,f6,hb⟩:=hF;simp[Region.binds] at hdep;have H0:=hide f0;have H1:=hide f1;have H2:=hide f2;have H3:=hide f3;have H4:=hide f4;have H5:=hide f5;have H6:=hide f6;have HB:=hide hb;have HCL:=hide hcl;have HN:=hide hn;clear f0 f1 f2 f3 f4 f5 f6 hb hcl hn;have HBA:=hide (show Below wr.heap.size wr (wr.alloc (.cells #[.map none,.slice none 0 0] 107)) from (Below.refl _ _).alloc (Nat.le_refl _) _);go_simp
    have hk:=hK.out (.pointer (some ⟨wr.heap.size,0,none⟩)) (wr.alloc (.cells #[.map none,.slice none 0 0] 107)) (by
     rw[HFD.out];exact⟨H0.out,(fun h=>by obtain⟨M2,g2,e,hl⟩:=H1.out h;exact⟨M2,g2,e,hl.below HBA.out⟩),H2.out,(fun h=>by obtain⟨M2,g2,e,hl⟩:=H3.out h;exact⟨M2,g2,e,hl.below HBA.out⟩),(fun _=>⟨wr.heap.size,_,_,rfl,HB.out.size,Blk.at_ rfl,fun h=>absurd (HCL.out 6 _ rfl h ⟨4,.data⟩ (by simp) rfl) (by rw[HN.out];decide)⟩),(fun h=>(H5.out h).below HBA.out),(fun _ HO=>(by obtain⟨X,p,q,e,_,hx,_⟩:=H5.out HO;intro he;have:=hx.lt;rw[show updR v 4 _ 5=v 5 from rfl,e] at he;injection he with he;injection he with he;injection he with he;omega)),HB.out.trans (HBA.out.mono HB.out.size)⟩
    )
    simp only[Act.put,List.setIfInBounds_toArray,List.set_cons_zero,List.set_cons_succ] at hk;exact hk
   ·
    intro l v wr hn hdep hcl hF K hK;rw[HFD.out] at hF;obtain⟨f0,f1,f2,f3,f4,f5,f6,hb⟩:=hF;simp[Region.binds] at hdep;have H0:=hide f0;have H1:=hide f1;have H2:=hide f2;have H3:=hide f3;have H4:=hide f4;have H5:=hide f5;have H6:=hide f6;have HB:=hide hb;have HCL:=hide hcl;have HN:=hide hn;clear f0 f1 f2 f3 f4 f5 f6 hb hcl hn;have HBA:=hide (show Below wr.heap.size wr (wr.alloc (.cells #[.map none,.slice none 0 0] 107)) from (Below.refl _ _).alloc (Nat.le_refl _) _);go_simp
    have hk:=hK.out (.pointer (some ⟨wr.heap.size,0,none⟩)) (wr.alloc (.cells #[.map none,.slice none 0 0] 107)) (by
     rw[HFD.out];exact⟨H0.out,(fun h=>by obtain⟨M2,g2,e,hl⟩:=H1.out h;exact⟨M2,g2,e,hl.below HBA.out⟩),H2.out,(fun h=>by obtain⟨M2,g2,e,hl⟩:=H3.out h;exact⟨M2,g2,e,hl.below HBA.out⟩),(fun h=>(H4.out h).below HBA.out),(fun _=>⟨wr.heap.size,_,_,rfl,HB.out.size,Blk.at_ rfl,fun h=>absurd (HCL.out 7 _ rfl h ⟨5,.data⟩ (by simp) rfl) (by rw[HN.out];decide)⟩),(fun HO _ he0=>by obtain⟨X,p,q,e,_,hx,_⟩:=H4.out HO;have he:=he0.symm;have:=hx.lt;rw[show updR v 5 _ 4=v 4 from rfl,e] at he;injection he with he;injection he with he;injection he with he;omega),HB.out.trans (HBA.out.mono HB.out.size)⟩
    )
    simp only[Act.put,List.setIfInBounds_toArray,List.set_cons_zero,List.set_cons_succ] at hk;exact hk
   ·
    intro l v wr hn hdep hcl hF K hK;rw[HFD.out] at hF;obtain⟨f0,f1,f2,f3,f4,f5,f6,hb⟩:=hF;simp[Region.binds] at hdep;have H0:=hide f0;have H1:=hide f1;have H2:=hide f2;have H3:=hide f3;have H4:=hide f4;have H5:=hide f5;have H6:=hide f6;have HB:=hide hb;have HCL:=hide hcl;have HN:=hide hn;clear f0 f1 f2 f3 f4 f5 f6 hb hcl hn;have d1:l 1=true:=by simp[hdep]
    have d4:l 4=true:=by simp[hdep]
    obtain⟨Mb,g,e1,hL⟩:=H1.out d1;obtain⟨X,p,q,e4,hX,hblk,_⟩:=H4.out d4;unfold lngV at e1;have c0:=hblk.cell 0;have c1:=hblk.cell 1;have cf0:=hblk.frozen 0;have cf1:=hblk.frozen 1;simp at c0 c1;have HL:=hide hL;have HX:=hide hX;have HBK:=hide hblk;clear hdep hL hX hblk;go_simp
    have hk:=hK.out undef ((wr.setCell ⟨X,0,none⟩ (.map (some Mb))).setCell ⟨X,1,none⟩ (.slice (some ⟨g,0,none⟩) Sa Sa)) (by
     rw[HFD.out];exact⟨H0.out,(fun h=>by obtain⟨M2,g2,e,hl⟩:=H1.out h;exact⟨M2,g2,e,langAt_set (langAt_set hl HBK.out 0 _) (HBK.out.set_ 0 _) 1 _⟩),H2.out,(fun h=>by obtain⟨M2,g2,e,hl⟩:=H3.out h;exact⟨M2,g2,e,langAt_set (langAt_set hl HBK.out 0 _) (HBK.out.set_ 0 _) 1 _⟩),(fun _=>⟨X,_,_,e4,HX.out,(HBK.out.set_ 0 _).set_ 1 _,fun _=>e1⟩),(fun h=>by obtain⟨Y,p2,q2,e,hY,hy,hs⟩:=H5.out h;have hne:Y≠X:=(by rintro rfl;exact H6.out d4 h (by rw[e,e4]));exact⟨Y,p2,q2,e,hY,(hy.far (p:=⟨X,0,none⟩) hne _).far (p:=⟨X,1,none⟩) hne _,hs⟩),H6.out,(HB.out.setCell (p:=⟨X,0,none⟩) (by exact HX.out) _).setCell (p:=⟨X,1,none⟩) (by exact HX.out) _⟩
    )
    simp only[Act.put,List.setIfInBounds_toArray,List.set_cons_zero,List.set_cons_succ] at hk;simp only[e1,e4] at hk;exact hk
   ·
    intro l v wr hn hdep hcl hF K hK;rw[HFD.out] at hF;obtain⟨f0,f1,f2,f3,f4,f5,f6,hb⟩:=hF;simp[Region.binds] at hdep;have H0:=hide f0;have H1:=hide f1;have H2:=hide f2;have H3:=hide f3;have H4:=hide f4;have H5:=hide f5;have H6:=hide f6;have HB:=hide hb;have HCL:=hide hcl;have HN:=hide hn;clear f0 f1 f2 f3 f4 f5 f6 hb hcl hn;have d1:l 3=true:=by simp[hdep]
    have d4:l 5=true:=by simp[hdep]
    obtain⟨Mb,g,e1,hL⟩:=H3.out d1;obtain⟨X,p,q,e4,hX,hblk,_⟩:=H5.out d4;unfold lngV at e1;have c0:=hblk.cell 0;have c1:=hblk.cell 1;have cf0:=hblk.frozen 0;have cf1:=hblk.frozen 1;simp at c0 c1;have HL:=hide hL;have HX:=hide hX;have HBK:=hide hblk;clear hdep hL hX hblk;go_simp
    have hk:=hK.out undef ((wr.setCell ⟨X,0,none⟩ (.map (some Mb))).setCell ⟨X,1,none⟩ (.slice (some ⟨g,0,none⟩) Sb Sb)) (by
     rw[HFD.out];exact⟨H0.out,(fun h=>by obtain⟨M2,g2,e,hl⟩:=H1.out h;exact⟨M2,g2,e,langAt_set (langAt_set hl HBK.out 0 _) (HBK.out.set_ 0 _) 1 _⟩),H2.out,(fun h=>by obtain⟨M2,g2,e,hl⟩:=H3.out h;exact⟨M2,g2,e,langAt_set (langAt_set hl HBK.out 0 _) (HBK.out.set_ 0 _) 1 _⟩),(fun h=>by obtain⟨Y,p2,q2,e,hY,hy,hs⟩:=H4.out h;have hne:Y≠X:=(by rintro rfl;exact H6.out h d4 (by rw[e,e4]));exact⟨Y,p2,q2,e,hY,(hy.far (p:=⟨X,0,none⟩) hne _).far (p:=⟨X,1,none⟩) hne _,hs⟩),(fun _=>⟨X,_,_,e4,HX.out,(HBK.out.set_ 0 _).set_ 1 _,fun _=>e1⟩),H6.out,(HB.out.setCell (p:=⟨X,0,none⟩) (by exact HX.out) _).setCell (p:=⟨X,1,none⟩) (by exact HX.out) _⟩
    )
    simp only[Act.put,List.setIfInBounds_toArray,List.set_cons_zero,List.set_cons_succ] at hk;simp only[e1,e4] at hk;exact hk
 case rest =>
  obtain⟨Xa,Ya,Mp1,g1,Mp2,g2,rfl,rfl,bXa,bYa,HL1,HL2,HB2⟩:=hcut;clear x0 x1 x2 y0 y1 y2;have bX2:=hide (bX1.out.below HB2.out lX);have bY2:=hide (bY1.out.below HB2.out lY);have x0:=bX2.out.cell 0;have y0:=bY2.out.cell 0;simp at x0 y0;clear lX lY;have lX:=bX2.out.lt;have lY:=bY2.out.lt;obtain⟨W2,hW2⟩:∃ z,z=wc:=⟨_,rfl⟩;rw[← hW2] at bXa bYa HL1 HL2 HB2 bX2 bY2 x0 y0 lX lY ⊢;clear hW2;go_upto_region 3 with fail
  obtain⟨C0,hC0e⟩:∃ z,z=W2.heap.size:=⟨_,rfl⟩;have b0:=hide (Blk.at_ (w:=W2) (g:=C0) (t:=110) (cs:=#[.int .i64 (-1),.int .i64 (-1)]) hC0e);have HBC:=hide (show Below C0 W2 (W2.alloc (.cells #[.int .i64 (-1),.int .i64 (-1)] 110)) from (Below.refl _ _).alloc (by omega) _);have hXC:X<C0:=by omega
  have hYC:Y<C0:=by omega
  have lC:=b0.out.lt;have hw2:W1.heap.size≤C0:=by have:=HB2.out.size;omega
  have HZ:=hide hC0e;simp only[← hC0e];generalize hW3:World.alloc _ _=W3;rw[hW3] at b0 HBC lC;have p0:=b0.out.cell 0;have pf0:=b0.out.frozen 0;simp at p0;clear hW3 hC0e x0 y0 lX lY;have x0:=(bX2.out.below (B:=C0) HBC.out hXC).cell 0;have lX:=(bX2.out.below (B:=C0) HBC.out hXC).lt;simp at x0;go_upto_if 32 with fail
  go_cut [12] from 33 (fun s12 wx=>s12=.pointer (some ⟨C0,0,none⟩)∧Hid (Blk wx C0 110 #[.int .i64 (s0I a),.int .i64 (-1)])∧Hid (Below C0 W2 wx))
  case first =>
   by_cases h:0<Sa
   ·
    have e:s0I a=0:=by unfold s0I;rw[hna,if_pos (by omega)]
    have t0:decide (0<Sa)=true:=decide_eq_true h;have t0':decide (0<(Sa:Int))=true:=decide_eq_true (by omega);have HE:=hide e;clear e;go_wp2;go_meet;exact⟨rfl,hide (by rw[HE.out];exact b0.out.set_ 0 _),hide (HBC.out.setCell (p:=⟨C0,0,none⟩) (by exact Nat.le_refl _) _)⟩
   ·
    have e:s0I a = -1:=by unfold s0I;rw[hna,if_neg (by omega)]
    have t0:decide (0<Sa)=false:=decide_eq_false h;have t0':decide (0<(Sa:Int))=false:=decide_eq_false (by omega);have HE:=hide e;clear e;go_wp2;go_meet;exact⟨rfl,hide (by rw[HE.out];exact b0.out),HBC⟩
  case rest =>
   obtain⟨rfl,c0',HBC'⟩:=hcut;clear x0 lX p0 pf0 b0 HBC lC;have lC:=c0'.out.lt;have p1:=c0'.out.cell 1;have pf1:=c0'.out.frozen 1;have y0:=(bY2.out.below (B:=C0) HBC'.out hYC).cell 0;have lY:=(bY2.out.below (B:=C0) HBC'.out hYC).lt;simp at p1 y0;go_upto_if 36 with fail
   go_cut [12] from 37 (fun s12 wx=>s12=.pointer (some ⟨C0,0,none⟩)∧Hid (Blk wx C0 110 #[.int .i64 (s0I a),.int .i64 (s0I b)])∧Hid (Below C0 W2 wx))
   case first =>
    by_cases h:0<Sb
    ·
     have e:s0I b=0:=by unfold s0I;rw[hnb,if_pos (by omega)]
     have t0:decide (0<Sb)=true:=decide_eq_true h;have t0':decide (0<(Sb:Int))=true:=decide_eq_true (by omega);have HE:=hide e;clear e;go_wp2;go_meet;exact⟨rfl,hide (by rw[HE.out];exact c0'.out.set_ 1 _),hide (HBC'.out.setCell (p:=⟨C0,1,none⟩) (by exact Nat.le_refl _) _)⟩
    ·
     have e:s0I b = -1:=by unfold s0I;rw[hnb,if_neg (by omega)]
     have t0:decide (0<Sb)=false:=decide_eq_false h;have t0':decide (0<(Sb:Int))=false:=decide_eq_false (by omega);have HE:=hide e;clear e;go_wp2;go_meet;exact⟨rfl,hide (by rw[HE.out];exact c0'.out),HBC'⟩
   case rest =>
    obtain⟨rfl,c0,HBC⟩:=hcut;clear y0 lY p1 pf1 c0' HBC' lC;obtain⟨u0,hu0⟩:∃ z,z=s0I a:=⟨_,rfl⟩;obtain⟨v0,hv0⟩:∃ z,z=s0I b:=⟨_,rfl⟩;rw[← hu0,← hv0] at c0;have HS0:=hide (show (s0I a,s0I b)=(u0,v0) by rw[hu0,hv0]);have HK0:=hide (show okCp 401 (u0,v0) by rw[← HS0.out];exact okCp_start HDA.out HDB.out);clear hu0 hv0 hna hnb;obtain⟨W5,hW5⟩:∃ z,z=wc:=⟨_,rfl⟩;rw[← hW5] at c0 HBC ⊢;clear hW5;have p0:=c0.out.cell 0;have p1:=c0.out.cell 1;have lC:=c0.out.lt;simp at p0 p1;have hmm:=@run_makeMap Try.prog;have HOK0:=hide (okCp_B HK0.out);have hZ5:C0<W5.heap.size:=lC;have HLB:=hide (show Blk (W5.alloc (.cells #[.int .i64 u0,.int .i64 v0] 110)) W5.heap.size 110 #[.int .i64 (u0,v0).1,.int .i64 (u0,v0).2] from Blk.at_ rfl);have HNM:=hide (show MapIs ((W5.alloc (.cells #[.int .i64 u0,.int .i64 v0] 110)).alloc (.map #[] 0)) cplB okB (W5.heap.size+1) [] from mapIs_atB (by simp));go_upto_region 12 with (refine wpList_insert rfl _ _ _ 105 rfl kl_cplB Try.underlying105 rfl HNM.out (u0,v0) rfl HOK0.out (.int .i64 0) rfl ?_;intro w6 hm6 hg6 hz6;have HM6:=hide hm6;have HG6:=hide hg6;have HZ6:=hide hz6;clear hm6 hg6 hz6)
    clear hmm;have HSL:=hide (show LsC a b l 0=[(u0,v0)] by show [(s0I a,s0I b)]=_;rw[HS0.out])
    have HO6:=hide (show w6.ownsRow W5.heap.size 110 2 (.slice (some ⟨W5.heap.size,0,none⟩) 1 1) (LsC a b l 0).length (finRow (cF (LsC a b l 0))) by
     rw[HSL.out]
     exact ((own_cpl1 (c:=(u0,v0)) HLB.out).alloc _).kept HG6.out (.inr (own_nmap ((own_cpl1 (c:=(u0,v0)) HLB.out).alloc _) HNM.out)))
    have HN6:=hide (show MapIs w6 cplB okB (W5.heap.size+1) (numE (LsC a b l 0) 0) from mapIs_numE (show MapIs w6 cplB okB _ (numE [(u0,v0)] 0) from HM6.out) HSL.out.symm);have HR6:=hide (OwnM.nil w6 W5.heap.size 26 3 1 (fun _=>.slice none 0 0) (fun j=>intRow (rowC a b l j)) (fun _=>q));have HF6:=hide (show w6.ownsRow W5.heap.size 4 1 (.slice none 0 0) 0 (bRow (finsC a b l K0 0)) from World.ownsRow_nil _ _ _ _);have HB6:=hide (show Below W5.heap.size W5 w6 from (((Below.refl _ _).alloc (Nat.le_refl _) _).alloc (by simp) _).grown HG6.out (by simp;omega) (fun z hz=>by injection hz with hz;omega));have HBC2:=hide (show Below W2.heap.size W2 W5 by rw[← HZ.out];exact HBC.out);have lXa2:=bXa.out.lt;have lYa2:=bYa.out.lt;have bXa5:=hide (bXa.out.below HBC2.out lXa2);have bYa5:=hide (bYa.out.below HBC2.out lYa2);have HL15:=hide (HL1.out.below HBC2.out);have HL25:=hide (HL2.out.below HBC2.out);have HB15:=hide (HB2.out.trans (HBC2.out.mono HB2.out.size));have bM5:=hide (bM1.out.below HB15.out lM1);have bR5:=hide (bR1.out.below HB15.out lR1);have HLL5:=hide ((HLL1.out.below HB15.out (Nat.le_refl _)).mono HB15.out.size);have HLR5:=hide (nums_rdJ HLL5.out);have HBW5:=hide (HB1.out.trans (HB15.out.mono HB1.out.size));have lXa5:=bXa5.out.lt;have lYa5:=bYa5.out.lt;have lM5:=bM5.out.lt;have lR5:=bR5.out.lt;clear bXa bYa HL1 HL2 HB2 bX2 bY2 bX1 bY1 bM1 bR1 HMA1 HMB1 HLL1 HB1 HB15 HBC2 HBC lXa2 lYa2 lM1 lR1 HMA0 HMB0 HLL0 HZ;have hz6:W5.heap.size+1<w6.heap.size:=HN6.out.lt;clear HM6 HG6 HZ6 HNM HLB p0 p1 lC HOK0
    go_loopg [13,15,16,17] 20001 (fun gk sv nv fv av wr=>∃ (i:Nat) (vs:Nat→Value),av=.int .i64 (i:Int)∧i≤(LsC a b l i).length∧(LsC a b l i).length≤20000∧20001-i≤gk∧Hid (wr.ownsRow W5.heap.size 110 2 sv (LsC a b l i).length (finRow (cF (LsC a b l i))))∧Hid (MapIs wr cplB okB (W5.heap.size+1) (numE (LsC a b l i) 0))∧Hid (OwnM wr W5.heap.size 26 3 1 nv i vs (fun j=>intRow (rowC a b l j)) (fun _=>q))∧Hid (wr.ownsRow W5.heap.size 4 1 fv i (bRow (finsC a b l K0 i)))∧Hid (Below W5.heap.size W5 wr))
    case atStart=>exact⟨0,_,rfl,Nat.zero_le _,(by rw[HSL.out];simp),by omega,HO6,HN6,HR6,HF6,HB6⟩
    case round =>
     clear HO6 HN6 HR6 HF6 HB6 hz6;obtain⟨i,vs,rfl,hil,hl2,hgk,HO,HN,HRW,HFN,HB⟩:=hrel;obtain⟨ln,hln⟩:∃ z,z=(LsC a b l i).length:=⟨_,rfl⟩;have HLN:=hide hln;rw[← hln] at hil hl2 HO;clear hln;obtain⟨As,cs,hsv,hcs,_⟩:=own_value HO.out;subst hsv;have hsz:=HB.out.size;by_cases hin:i<ln
     ·
      have HRD:=hide (Rd.of_own HO.out (f:=finCell (cF (LsC a b l i))) (by rw[show ln=(cF (LsC a b l i)).length by rw[cF_len,← HLN.out]];exact finRow_at _));obtain⟨bb,off,x,hAs,hbB,d0,d1,HX⟩:=fins_at HRD.out hin;subst hAs;obtain⟨p,q1⟩:=x;have HC:=hide (show cpC a b l i=(p,q1) from (cF_at (by rw[← HLN.out];exact hin) HX.out).symm)
      have HOC:=hide (show okCp 401 (p,q1) by
       rw[← HC.out]
       exact lsC_ok HDA.out HDB.out i _ (List.mem_of_getElem? (lsC_at (by rw[← HLN.out];exact hin) (Nat.le_refl i))))
      dsimp only at d0 d1;clear HX HRD;obtain⟨W6,hW6⟩:∃ z,z=wr:=⟨_,rfl⟩;rw[← hW6] at HO HN HRW HFN HB hsz hbB d0 d1 ⊢;clear hW6;go_upto_region 15 with fail
      generalize hW7:World.alloc _ _=W7;obtain⟨C,hC⟩:∃ z,z=W6.heap.size:=⟨_,rfl⟩;have bC:=hide (show Blk W7 C 110 #[.int .i64 p,.int .i64 q1] by rw[← hW7];exact Blk.at_ hC);have HSC:=hide (show (Value.slice (some ⟨bb,off,none⟩) ln cs).ownBlock≠some C from fun e=>by have:=(HO.out.lt _ e).2;omega);replace HO:=hide (show W7.ownsRow W5.heap.size 110 2 _ ln (finRow (cF (LsC a b l i))) by rw[← hW7];exact HO.out.alloc _);replace HN:=hide (show MapIs W7 cplB okB (W5.heap.size+1) (numE (LsC a b l i) 0) by rw[← hW7];exact HN.out.alloc _);replace HRW:=hide (show OwnM W7 W5.heap.size 26 3 1 _ i vs (fun j=>intRow (rowC a b l j)) (fun _=>q) by rw[← hW7];exact HRW.out.alloc _);replace HFN:=hide (show W7.ownsRow W5.heap.size 4 1 _ i (bRow (finsC a b l K0 i)) by rw[← hW7];exact HFN.out.alloc _);replace HB:=hide (show Below W5.heap.size W5 W7 by rw[← hW7];exact HB.out.alloc hsz _);simp only[← hC];clear hW7 hC d0 d1 hbB hsz
      have HSN:=hide (show finsC a b l K0 (i+1)=finsC a b l K0 i++[K0 (acI a p) (acI b q1)] by
       unfold finsC;rw[List.range_succ,List.map_append]
       show _++[finC a b l K0 i]=_
       unfold finC
       rw[HC.out])
      have zXa:=hide (bXa5.out.below HB.out lXa5);have zYa:=hide (bYa5.out.below HB.out lYa5);have e0:=zXa.out.cell 0;have e1:=zXa.out.cell 1;have f0:=zYa.out.cell 0;have f1:=zYa.out.cell 1;have h0:=bC.out.cell 0;have h1:=bC.out.cell 1;simp at e0 e1 f0 f1 h0 h1;have le:=zXa.out.lt;have lf:=zYa.out.lt;have lh:=bC.out.lt;refine wp_mix (fun w'=>w'.cell? ⟨Xa,0,none⟩=some (.map (some Mp1))∧w'.cell? ⟨Xa,1,none⟩=some (.slice (some ⟨g1,0,none⟩) Sa Sa)∧w'.cell? ⟨Ya,0,none⟩=some (.map (some Mp2))∧w'.cell? ⟨Ya,1,none⟩=some (.slice (some ⟨g2,0,none⟩) Sb Sb)∧w'.cell? ⟨C,0,none⟩=some (.int .i64 p)∧w'.cell? ⟨C,1,none⟩=some (.int .i64 q1)) 12 [(0,false),(1,false),(2,false),(3,false),(4,false),(6,false),(7,false),(8,false),(5,true),(9,true),(10,true),(11,true)] (by kernel_rfl) (by kernel_rfl) ⟨e0,e1,f0,f1,h0,h1⟩ ?_;simp only[List.drop_succ_cons,List.drop_zero]
      repeat (refine mix_q (v:=?_) (by rfl) (by rfl) ?_ ?_;rotate_left;(focus (intro w' hC;(try dsimp only at hC);go_simp;(first | done | with_reducible rfl)));simp only[Act.put,List.setIfInBounds_toArray,List.set_cons_zero,List.set_cons_succ,List.getElem_toArray,List.getElem_cons_zero,List.getElem_cons_succ])
      refine mix_l (by rfl) (by rfl) (fun K hK=>?_);go_simp;refine (accl_any a _ Sa Mp1 g1 p (HL15.out.below (HB.out.drew.mono (Nat.le_refl _))) HDA.out).mono ?_;rintro e w8 ⟨rfl,hb8⟩;replace zXa:=hide (zXa.out.drew.below hb8 zXa.out.drew.lt);replace zYa:=hide (zYa.out.drew.below hb8 zYa.out.drew.lt);replace bC:=hide (bC.out.drew.below hb8 bC.out.drew.lt);replace HO:=hide (own_blw (own_drewJ HO.out) hb8);replace HN:=hide ((mapIs_drewJ HN.out).below hb8 (mapIs_drewJ HN.out).lt);replace HRW:=hide (HRW.out.drew.below hb8);replace HFN:=hide (own_blw (own_drewJ HFN.out) hb8);replace HB:=hide (HB.out.drew.trans (hb8.mono HB.out.drew.size));clear hb8 e0 e1 f0 f1 h0 h1 le lf lh;have e0:=zXa.out.cell 0;have e1:=zXa.out.cell 1;have f0:=zYa.out.cell 0;have f1:=zYa.out.cell 1;have h0:=bC.out.cell 0;have h1:=bC.out.cell 1;simp at e0 e1 f0 f1 h0 h1;have le:=zXa.out.lt;have lf:=zYa.out.lt;have lh:=bC.out.lt;refine hK _ _ ⟨e0,e1,f0,f1,h0,h1⟩ ?_;clear hK;refine mix_l (by rfl) (by rfl) (fun K hK=>?_);go_simp;refine (accl_any b _ Sb Mp2 g2 q1 (HL25.out.below (HB.out.mono (Nat.le_refl _))) HDB.out).mono ?_;rintro e w9 ⟨rfl,hb9⟩;replace zXa:=hide (zXa.out.below hb9 zXa.out.lt);replace zYa:=hide (zYa.out.below hb9 zYa.out.lt);replace bC:=hide (bC.out.below hb9 bC.out.lt);replace HO:=hide (own_blw HO.out hb9);replace HN:=hide (HN.out.below hb9 HN.out.lt);replace HRW:=hide (HRW.out.below hb9);replace HFN:=hide (own_blw HFN.out hb9);replace HB:=hide (HB.out.trans (hb9.mono HB.out.size));clear hb9 e0 e1 f0 f1 h0 h1 le lf lh;have e0:=zXa.out.cell 0;have e1:=zXa.out.cell 1;have f0:=zYa.out.cell 0;have f1:=zYa.out.cell 1;have h0:=bC.out.cell 0;have h1:=bC.out.cell 1;simp at e0 e1 f0 f1 h0 h1;have le:=zXa.out.lt;have lf:=zYa.out.lt;have lh:=bC.out.lt;refine hK _ _ ⟨e0,e1,f0,f1,h0,h1⟩ ?_;clear hK;refine mix_l (by rfl) (by rfl) (fun K hK=>?_);go_simp;refine (HKK.out (acI a p) (acI b q1) _).mono ?_;rintro e w10 ⟨rfl,hb10⟩;replace zXa:=hide (zXa.out.below hb10 zXa.out.lt);replace zYa:=hide (zYa.out.below hb10 zYa.out.lt);replace bC:=hide (bC.out.below hb10 bC.out.lt);replace HO:=hide (own_blw HO.out hb10);replace HN:=hide (HN.out.below hb10 HN.out.lt);replace HRW:=hide (HRW.out.below hb10);replace HFN:=hide (own_blw HFN.out hb10);replace HB:=hide (HB.out.trans (hb10.mono HB.out.size));clear hb10 e0 e1 f0 f1 h0 h1 le lf lh;have e0:=zXa.out.cell 0;have e1:=zXa.out.cell 1;have f0:=zYa.out.cell 0;have f1:=zYa.out.cell 1;have h0:=bC.out.cell 0;have h1:=bC.out.cell 1;simp at e0 e1 f0 f1 h0 h1;have le:=zXa.out.lt;have lf:=zYa.out.lt;have lh:=bC.out.lt;refine hK _ _ ⟨e0,e1,f0,f1,h0,h1⟩ ?_;clear hK;obtain⟨r0,hr0⟩:∃ z,z=K0 (acI a p) (acI b q1):=⟨_,rfl⟩;rw[← hr0] at HSN ⊢;clear hr0;refine mix_l (by rfl) (by rfl) (fun K hK=>?_);go_simp;refine hK _ _ (by go_simp) ?_;clear hK;refine mix_nil ?_;try simp only[Act.put,List.setIfInBounds_toArray,List.set_cons_zero,List.set_cons_succ,List.getElem_toArray,List.getElem_cons_zero,List.getElem_cons_succ]
      have HFa:=hide (HFN.out.alloc (Obj.cells #[.bool r0] 4));have HOa:=hide (HO.out.alloc (Obj.cells #[.bool r0] 4));have HNa:=hide (HN.out.alloc (Obj.cells #[.bool r0] 4));have HRa:=hide (HRW.out.alloc (Obj.cells #[.bool r0] 4));have bCa:=hide (bC.out.alloc (Obj.cells #[.bool r0] 4));have hsz:=HB.out.size;have HBa:=hide (HB.out.alloc hsz (Obj.cells #[.bool r0] 4));clear e0 e1 f0 f1 h0 h1 le lf lh HFN HO HN HRW bC HB zXa zYa;go_wp2_with (at_builtin;go_loud (refine wpList_append_own_at _ rfl (.tmp 53) (.tmp 64) 51 rfl W5.heap.size 4 iB _ 1 1 Try.underlying51 hB0 hB1 hB2 hB3 rfl (by omega) u16 i _ rfl HFa.out ⟨w10.heap.size,0,none⟩ 1 1 (bRow [r0]) rfl (by rfl) (World.news_of_block (cs:=(bRow [r0]).toArray) (t:=4) (fr:=(0,0)) (Blk.at_ rfl)) (bRow_one _) (by simp only[maxLen];omega) (by omega) (by simp<;>omega) ?_;intro v11 w11 hown11 hg11 _ hat11;have HOW:=hide hown11;have HG:=hide hg11;clear hown11 hg11 hat11));refine NoPanic.normal ?_;have HFN:=hide (show w11.ownsRow W5.heap.size 4 1 v11 (i+1) (bRow (finsC a b l K0 (i+1))) by rw[HSN.out,bRow_snoc];exact HOW.out);have HO:=hide (HOa.out.kept HG.out (own_ne HOa.out HFa.out (by decide)));have HN:=hide (HNa.out.kept HG.out (Ne.symm (own_nmap HFa.out HNa.out)));have HRW:=hide (HRa.out.kept HG.out (own_ne HRa.out.out HFa.out (by decide)) (fun j hj=>own_ne (HRa.out.own j hj) HFa.out (by decide)));have bC:=hide (bCa.out.grown HG.out (Ne.symm (own_bne HFa.out bCa.out (by decide))));have HB:=hide (HBa.out.grown HG.out HBa.out.size (fun z hz=>(HFa.out.lt z hz).1));have HMKI:=hide (fun (W:World)=>run_make_row' (P:=Try.prog) 26 3 (.int .i64 0) 8 Try.underlying26 int_info rfl .i64 .i64 q (by omega) (by omega) W);clear HFa HOa HNa HRa bCa HBa HOW HG hsz HSN;have hmk:=HMKI.out;go_upto_region 18 with fail
      clear hmk;have hsz:=HB.out.size;have HRO:=hide (made_own w11 q 3 (by omega));have HAP:=hide ((HRW.out.apart HRO.out (Nat.le_refl _)).2);replace HFN:=hide (HFN.out.alloc (.cells (madeCells #[.int .i64 0] q) 3));replace HO:=hide (HO.out.alloc (.cells (madeCells #[.int .i64 0] q) 3));replace HN:=hide (HN.out.alloc (.cells (madeCells #[.int .i64 0] q) 3));replace HRW:=hide (HRW.out.alloc (.cells (madeCells #[.int .i64 0] q) 3));replace bC:=hide (bC.out.alloc (.cells (madeCells #[.int .i64 0] q) 3));replace HB:=hide (HB.out.alloc hsz (.cells (madeCells #[.int .i64 0] q) 3));generalize hW12:World.alloc _ _=W12;rw[hW12] at HFN HO HN HRW bC HB HRO;obtain⟨G,hG⟩:∃ z,z=w11.heap.size:=⟨_,rfl⟩;rw[← hG] at HRO HAP;have hGZ:W5.heap.size≤G:=by omega
      simp only[← hG];clear hW12 hG HMKI;have HO0:=hide (show W12.ownsRow W5.heap.size 110 2 (.slice (some ⟨bb,off,none⟩) ln cs) (bfsRow i (stpCk a b l (p,q1) 0) (StC a b l i).1).1.length (finRow (cF (bfsRow i (stpCk a b l (p,q1) 0) (StC a b l i).1).1)) by rw[stpCk_zero];exact (show W12.ownsRow _ _ _ _ (LsC a b l i).length (finRow (cF (LsC a b l i))) by rw[← HLN.out];exact HO.out));have HN0:=hide (show MapIs W12 cplB okB (W5.heap.size+1) (numE (bfsRow i (stpCk a b l (p,q1) 0) (StC a b l i).1).1 0) by rw[stpCk_zero];exact HN.out);have HRO0:=hide (show W12.ownsRow G 3 1 (.slice (some ⟨G,0,none⟩) q q) q (intRow ((rowC a b l i).take 0++List.replicate (q-0) 0)) by simpa using HRO.out);clear HO HN HRO
      go_loopw [13,71] (fun sv kv wr=>∃ k:Nat,k≤q∧kv=.int .i64 (k:Int)∧Hid (sv.ownBlock≠some C)∧Hid (wr.ownsRow W5.heap.size 110 2 sv (bfsRow i (stpCk a b l (p,q1) k) (StC a b l i).1).1.length (finRow (cF (bfsRow i (stpCk a b l (p,q1) k) (StC a b l i).1).1)))∧Hid (MapIs wr cplB okB (W5.heap.size+1) (numE (bfsRow i (stpCk a b l (p,q1) k) (StC a b l i).1).1 0))∧Hid (OwnM wr W5.heap.size 26 3 1 u15 i vs (fun j=>intRow (rowC a b l j)) (fun _=>q))∧Hid (wr.ownsRow W5.heap.size 4 1 v11 (i+1) (bRow (finsC a b l K0 (i+1))))∧Hid (wr.ownsRow G 3 1 (.slice (some ⟨G,0,none⟩) q q) q (intRow ((rowC a b l i).take k++List.replicate (q-k) 0)))∧Hid (Blk wr C 110 #[.int .i64 p,.int .i64 q1])∧Hid (Below W5.heap.size W5 wr)) (fun _ kv _=>q-(intOf kv).toNat)
      case atStart=>exact⟨0,by omega,rfl,HSC,HO0,HN0,HRW,HFN,HRO0,bC,HB⟩
      case round =>
       clear HO0 HN0 HRW HFN HRO0 bC HB hsz HSC;obtain⟨k,hk,rfl,HSC,HO,HN,HRW,HFN,HRO,bC,HB⟩:=hrel;have hsz:=HB.out.size;by_cases hkq:k<q
       ·
        obtain⟨lb,lo,x,hAL,hlb,dl,HX⟩:=num_at (HLR5.out.below HB.out (Nat.le_refl _)) hkq;subst hAL;have hkl:k<l.length:=by rw[HQ.out];exact hkq
        have hx0:l[k]? = some x:=by rw[← HX.out,List.getElem?_eq_getElem hkl];simp[List.getD,hkl]
        have HLX:=hide hx0;have hxr:=HLR.out x (List.mem_of_getElem? hx0);have lbl:lb<wr.heap.size:=by omega
        obtain⟨nx,hnx⟩:∃ z,z=nxI a p x:=⟨_,rfl⟩;obtain⟨ny,hny⟩:∃ z,z=nxI b q1 x:=⟨_,rfl⟩;have HNX:=hide hnx;have HNY:=hide hny;have HNC:=hide (show okCp 401 (nx,ny) by rw[hnx,hny];exact okCp_next HDA.out HDB.out p q1 x)
        have HPN:=hide (show (bfsRow i (stpCk a b l (p,q1) (k+1)) (StC a b l i).1).1=addL (bfsRow i (stpCk a b l (p,q1) k) (StC a b l i).1).1 (nx,ny) by
         rw[stpCk_next hx0,bfsRow_one,hnx,hny])
        have HRK:=hide (show (rowC a b l i)[k]? = some (((addL (bfsRow i (stpCk a b l (p,q1) k) (StC a b l i).1).1 (nx,ny)).idxOf (nx,ny):Nat):Int) by
         have h:=rowC_at (a:=a) (b:=b) (l:=l) (i:=i) (by rw[← HLN.out];exact hin) hx0;rw[HC.out] at h;rw[hnx,hny]
         exact h)
        have hlen:=stk_len (a:=a) (b:=b) (l:=l) i k;rw[HC.out,← HLN.out] at hlen;obtain⟨st,hst⟩:∃ z,z=(bfsRow i (stpCk a b l (p,q1) k) (StC a b l i).1).1:=⟨_,rfl⟩;rw[← hst] at HO HN HPN HRK hlen;clear HX hkl hx0 hnx hny hst;obtain⟨W13,hW13⟩:∃ z,z=wr:=⟨_,rfl⟩;rw[← hW13] at HO HN HRW HFN HRO bC HB hsz lbl dl ⊢;clear hW13;go_upto_region 20 with fail
        go_cut [22] from 72 to 109 (fun s22 wx=>∃ N:Nat,s22=.pointer (some ⟨N,0,none⟩)∧W13.heap.size≤N∧Hid (Blk wx N 110 #[.int .i64 nx,.int .i64 ny])∧Hid (Below W13.heap.size W13 wx))
        case first =>
         have zXa:=hide (bXa5.out.below HB.out lXa5);have zYa:=hide (bYa5.out.below HB.out lYa5);have LA:=hide (HL15.out.below HB.out);have LB:=hide (HL25.out.below HB.out);have hpr:(-1≤p∧p≤2000000)∧(-1≤q1∧q1≤2000000):=by have h:=HOC.out;unfold okCp at h;dsimp only at h;omega
         obtain⟨hpr1,hpr2⟩:=hpr;have HB0:=hide (Below.refl W13.heap.size W13);clear HO HN HRW HFN HRO HB HSC HPN HRK dl lbl;clear HB0
         obtain⟨F,hF⟩:∃ F:(Nat→Bool)→(Nat→Value)→World→Prop,F=fun l v wr =>
          Hid ((l 0=true→v 0=(.agg #[.map (some Mp1),.slice (some ⟨g1,0,none⟩) Sa Sa]))) ∧
          Hid ((l 1=true→v 1=(.pointer (some ⟨C,0,none⟩)))) ∧
          Hid ((l 2=true→v 2=(.int .i64 p))) ∧
          Hid ((l 3=true→v 3=(.int .i64 x))) ∧
          Hid ((l 4=true→v 4=(.int .i64 nx))) ∧
          Hid ((l 5=true→v 5=(.agg #[.map (some Mp2),.slice (some ⟨g2,0,none⟩) Sb Sb]))) ∧
          Hid ((l 6=true→v 6=(.pointer (some ⟨C,1,none⟩)))) ∧
          Hid ((l 7=true→v 7=(.int .i64 q1))) ∧
          Hid ((l 8=true→v 8=(.int .i64 x))) ∧
          Hid ((l 9=true→v 9=(.int .i64 ny))) ∧
          Hid ((l 10=true→v 10=(.agg #[.int .i64 nx,.int .i64 ny]))) ∧
          Hid ((l 11=true→PtC wr W13.heap.size (v 11) (l 12) nx ny)) ∧
          Hid (Below W13.heap.size W13 wr):=⟨_,rfl⟩
         have HFD:=hide hF;clear hF;refine wp_region_inv F (A:=?AR1) ?hA (by kernel_rfl) (by kernel_rfl) (by kernel_rfl) ?h0 ?hend ?hsteps
         case hA=>intro v;simp only[putR,Act.put,List.setIfInBounds_toArray,List.set_cons_zero,List.set_cons_succ,Nat.reduceAdd,Nat.zero_add];exact rfl
         case h0 =>
          intro v;rw[HFD.out];exact⟨hide (fun h=>by exfalso;simp at h),hide (fun h=>by exfalso;simp at h),hide (fun h=>by exfalso;simp at h),hide (fun h=>by exfalso;simp at h),hide (fun h=>by exfalso;simp at h),hide (fun h=>by exfalso;simp at h),hide (fun h=>by exfalso;simp at h),hide (fun h=>by exfalso;simp at h),hide (fun h=>by exfalso;simp at h),hide (fun h=>by exfalso;simp at h),hide (fun h=>by exfalso;simp at h),hide (fun h=>by exfalso;simp at h),hide ((Below.refl _ _).drew)⟩
         case hend =>
          intro l v wr hall hF;rw[HFD.out] at hF;obtain⟨H0,H1,H2,H3,H4,H5,H6,H7,H8,H9,H10,H11,H12⟩:=hF;have f0:=H0.out;have f1:=H1.out;have f2:=H2.out;have f3:=H3.out;have f4:=H4.out;have f5:=H5.out;have f6:=H6.out;have f7:=H7.out;have f8:=H8.out;have f9:=H9.out;have f10:=H10.out;have f11:=H11.out;have f12:=H12.out;clear H0 H1 H2 H3 H4 H5 H6 H7 H8 H9 H10 H11 H12;obtain⟨N,c0,c1,e11,hN,hblk,hs⟩:=f11 (hall 11 (by simp));obtain⟨rfl,rfl⟩:=hs (hall 12 (by simp));have HE:=hide e11;have HNN:=hide hN;have HBK:=hide hblk;have HBF:=hide f12;clear f0 f1 f2 f3 f4 f5 f6 f7 f8 f9 f10 f11 f12 hall hs e11 hN hblk;go_wp2;go_meet;exact⟨N,HE.out,HNN.out,HBK,HBF⟩
         case hsteps =>
          refine StepsR.cons (n:=0) ?_ (StepsR.cons (n:=1) ?_ (StepsR.cons (n:=2) ?_ (StepsR.cons (n:=3) ?_ (StepsR.cons (n:=4) ?_ (StepsR.cons (n:=5) ?_ (StepsR.cons (n:=6) ?_ (StepsR.cons (n:=7) ?_ (StepsR.cons (n:=8) ?_ (StepsR.cons (n:=9) ?_ (StepsR.cons (n:=10) ?_ (StepsR.cons (n:=11) ?_ (StepsR.cons (n:=12) ?_ (trivial)))))))))))))
          ·
           intro l v wr hn hdep hcl hF K hK;rw[HFD.out] at hF;obtain⟨H0,H1,H2,H3,H4,H5,H6,H7,H8,H9,H10,H11,H12⟩:=hF;simp[Region.binds] at hdep;have HCL:=hide hcl;have HN:=hide hn;clear hcl hn;have bX:=zXa.out.below H12.out zXa.out.lt;have x0:=bX.cell 0;have x1:=bX.cell 1;simp at x0 x1;clear bX;go_simp
           have hk:=hK.out (.agg #[.map (some Mp1),.slice (some ⟨g1,0,none⟩) Sa Sa]) wr (by
            rw[HFD.out]
            exact⟨hide ((fun _=>rfl)),H1,H2,H3,H4,H5,H6,H7,H8,H9,H10,H11,H12⟩)
           simp only[Act.put,List.setIfInBounds_toArray,List.set_cons_zero,List.set_cons_succ] at hk;exact hk
          ·
           intro l v wr hn hdep hcl hF K hK;rw[HFD.out] at hF;obtain⟨H0,H1,H2,H3,H4,H5,H6,H7,H8,H9,H10,H11,H12⟩:=hF;simp[Region.binds] at hdep;have HCL:=hide hcl;have HN:=hide hn;clear hcl hn;go_simp
           have hk:=hK.out (.pointer (some ⟨C,0,none⟩)) wr (by
            rw[HFD.out]
            exact⟨H0,hide ((fun _=>rfl)),H2,H3,H4,H5,H6,H7,H8,H9,H10,H11,H12⟩)
           simp only[Act.put,List.setIfInBounds_toArray,List.set_cons_zero,List.set_cons_succ] at hk;exact hk
          ·
           intro l v wr hn hdep hcl hF K hK;rw[HFD.out] at hF;obtain⟨H0,H1,H2,H3,H4,H5,H6,H7,H8,H9,H10,H11,H12⟩:=hF;simp[Region.binds] at hdep;have HCL:=hide hcl;have HN:=hide hn;clear hcl hn;have e1:=H1.out (by simp[hdep]);have bX:=bC.out.below H12.out bC.out.lt;have x0:=bX.cell 0;have x1:=bX.cell 1;simp at x0 x1;clear bX;go_simp
           have hk:=hK.out (.int .i64 p) wr (by
            rw[HFD.out]
            exact⟨H0,H1,hide ((fun _=>rfl)),H3,H4,H5,H6,H7,H8,H9,H10,H11,H12⟩)
           simp only[Act.put,List.setIfInBounds_toArray,List.set_cons_zero,List.set_cons_succ] at hk;simp only[e1] at hk;exact hk
          ·
           intro l v wr hn hdep hcl hF K hK;rw[HFD.out] at hF;obtain⟨H0,H1,H2,H3,H4,H5,H6,H7,H8,H9,H10,H11,H12⟩:=hF;simp[Region.binds] at hdep;have HCL:=hide hcl;have HN:=hide hn;clear hcl hn;go_simp
           have hk:=hK.out (.int .i64 x) wr (by
            rw[HFD.out]
            exact⟨H0,H1,H2,hide ((fun _=>rfl)),H4,H5,H6,H7,H8,H9,H10,H11,H12⟩)
           simp only[Act.put,List.setIfInBounds_toArray,List.set_cons_zero,List.set_cons_succ] at hk;exact hk
          ·
           intro l v wr hn hdep hcl hF K hK;rw[HFD.out] at hF;obtain⟨H0,H1,H2,H3,H4,H5,H6,H7,H8,H9,H10,H11,H12⟩:=hF;simp[Region.binds] at hdep;have HCL:=hide hcl;have HN:=hide hn;clear hcl hn;have e0:=H0.out (by simp[hdep]);have e2:=H2.out (by simp[hdep]);have e3:=H3.out (by simp[hdep]);go_simp;refine (next_anyL a wr Sa Mp1 g1 p x (LA.out.below H12.out) HDA.out hpr1 (by omega)).mono ?_;rintro e w9 ⟨rfl,hb9⟩;rw[← HNX.out]
           have hk:=hK.out (.int .i64 nx) w9 (by
            rw[HFD.out]
            exact⟨H0,H1,H2,H3,hide ((fun _=>rfl)),H5,H6,H7,H8,H9,H10,hide ((fun h=>(H11.out h).below hb9)),hide (H12.out.trans (hb9.mono H12.out.size))⟩)
           simp only[Act.put,List.setIfInBounds_toArray,List.set_cons_zero,List.set_cons_succ] at hk;simp only[e0,e2,e3] at hk;exact hk
          ·
           intro l v wr hn hdep hcl hF K hK;rw[HFD.out] at hF;obtain⟨H0,H1,H2,H3,H4,H5,H6,H7,H8,H9,H10,H11,H12⟩:=hF;simp[Region.binds] at hdep;have HCL:=hide hcl;have HN:=hide hn;clear hcl hn;have bX:=zYa.out.below H12.out zYa.out.lt;have x0:=bX.cell 0;have x1:=bX.cell 1;simp at x0 x1;clear bX;go_simp
           have hk:=hK.out (.agg #[.map (some Mp2),.slice (some ⟨g2,0,none⟩) Sb Sb]) wr (by
            rw[HFD.out]
            exact⟨H0,H1,H2,H3,H4,hide ((fun _=>rfl)),H6,H7,H8,H9,H10,H11,H12⟩)
           simp only[Act.put,List.setIfInBounds_toArray,List.set_cons_zero,List.set_cons_succ] at hk;exact hk
          ·
           intro l v wr hn hdep hcl hF K hK;rw[HFD.out] at hF;obtain⟨H0,H1,H2,H3,H4,H5,H6,H7,H8,H9,H10,H11,H12⟩:=hF;simp[Region.binds] at hdep;have HCL:=hide hcl;have HN:=hide hn;clear hcl hn;go_simp
           have hk:=hK.out (.pointer (some ⟨C,1,none⟩)) wr (by
            rw[HFD.out]
            exact⟨H0,H1,H2,H3,H4,H5,hide ((fun _=>rfl)),H7,H8,H9,H10,H11,H12⟩)
           simp only[Act.put,List.setIfInBounds_toArray,List.set_cons_zero,List.set_cons_succ] at hk;exact hk
          ·
           intro l v wr hn hdep hcl hF K hK;rw[HFD.out] at hF;obtain⟨H0,H1,H2,H3,H4,H5,H6,H7,H8,H9,H10,H11,H12⟩:=hF;simp[Region.binds] at hdep;have HCL:=hide hcl;have HN:=hide hn;clear hcl hn;have e6:=H6.out (by simp[hdep]);have bX:=bC.out.below H12.out bC.out.lt;have x0:=bX.cell 0;have x1:=bX.cell 1;simp at x0 x1;clear bX;go_simp
           have hk:=hK.out (.int .i64 q1) wr (by
            rw[HFD.out]
            exact⟨H0,H1,H2,H3,H4,H5,H6,hide ((fun _=>rfl)),H8,H9,H10,H11,H12⟩)
           simp only[Act.put,List.setIfInBounds_toArray,List.set_cons_zero,List.set_cons_succ] at hk;simp only[e6] at hk;exact hk
          ·
           intro l v wr hn hdep hcl hF K hK;rw[HFD.out] at hF;obtain⟨H0,H1,H2,H3,H4,H5,H6,H7,H8,H9,H10,H11,H12⟩:=hF;simp[Region.binds] at hdep;have HCL:=hide hcl;have HN:=hide hn;clear hcl hn;go_simp
           have hk:=hK.out (.int .i64 x) wr (by
            rw[HFD.out]
            exact⟨H0,H1,H2,H3,H4,H5,H6,H7,hide ((fun _=>rfl)),H9,H10,H11,H12⟩)
           simp only[Act.put,List.setIfInBounds_toArray,List.set_cons_zero,List.set_cons_succ] at hk;exact hk
          ·
           intro l v wr hn hdep hcl hF K hK;rw[HFD.out] at hF;obtain⟨H0,H1,H2,H3,H4,H5,H6,H7,H8,H9,H10,H11,H12⟩:=hF;simp[Region.binds] at hdep;have HCL:=hide hcl;have HN:=hide hn;clear hcl hn;have e5:=H5.out (by simp[hdep]);have e7:=H7.out (by simp[hdep]);have e8:=H8.out (by simp[hdep]);go_simp;refine (next_anyL b wr Sb Mp2 g2 q1 x (LB.out.below H12.out) HDB.out hpr2 (by omega)).mono ?_;rintro e w9 ⟨rfl,hb9⟩;rw[← HNY.out]
           have hk:=hK.out (.int .i64 ny) w9 (by
            rw[HFD.out]
            exact⟨H0,H1,H2,H3,H4,H5,H6,H7,H8,hide ((fun _=>rfl)),H10,hide ((fun h=>(H11.out h).below hb9)),hide (H12.out.trans (hb9.mono H12.out.size))⟩)
           simp only[Act.put,List.setIfInBounds_toArray,List.set_cons_zero,List.set_cons_succ] at hk;simp only[e5,e7,e8] at hk;exact hk
          ·
           intro l v wr hn hdep hcl hF K hK;rw[HFD.out] at hF;obtain⟨H0,H1,H2,H3,H4,H5,H6,H7,H8,H9,H10,H11,H12⟩:=hF;simp[Region.binds] at hdep;have HCL:=hide hcl;have HN:=hide hn;clear hcl hn;have e4:=H4.out (by simp[hdep]);have e9:=H9.out (by simp[hdep]);go_simp
           have hk:=hK.out (.agg #[.int .i64 nx,.int .i64 ny]) wr (by
            rw[HFD.out]
            exact⟨H0,H1,H2,H3,H4,H5,H6,H7,H8,H9,hide ((fun _=>rfl)),H11,H12⟩)
           simp only[Act.put,List.setIfInBounds_toArray,List.set_cons_zero,List.set_cons_succ] at hk;simp only[e4,e9] at hk;exact hk
          ·
           intro l v wr hn hdep hcl hF K hK;rw[HFD.out] at hF;obtain⟨H0,H1,H2,H3,H4,H5,H6,H7,H8,H9,H10,H11,H12⟩:=hF;simp[Region.binds] at hdep;have HCL:=hide hcl;have HN:=hide hn;clear hcl hn;go_simp
           have hk:=hK.out (.pointer (some ⟨wr.heap.size,0,none⟩)) (wr.alloc (.cells #[.int .i64 0,.int .i64 0] 110)) (by
            rw[HFD.out]
            exact⟨H0,H1,H2,H3,H4,H5,H6,H7,H8,H9,H10,hide ((fun _=>⟨wr.heap.size,_,_,rfl,H12.out.size,Blk.at_ rfl,fun h=>absurd (HCL.out 12 _ rfl h ⟨11,.data⟩ (by simp) rfl) (by rw[HN.out];decide)⟩)),hide (H12.out.alloc H12.out.size _)⟩)
           simp only[Act.put,List.setIfInBounds_toArray,List.set_cons_zero,List.set_cons_succ] at hk;exact hk
          ·
           intro l v wr hn hdep hcl hF K hK;rw[HFD.out] at hF;obtain⟨H0,H1,H2,H3,H4,H5,H6,H7,H8,H9,H10,H11,H12⟩:=hF;simp[Region.binds] at hdep;have HCL:=hide hcl;have HN:=hide hn;clear hcl hn;have e10:=H10.out (by simp[hdep]);obtain⟨N,c0,c1,e11,hN,hblk,_⟩:=H11.out (by simp[hdep]);have x0:=hblk.cell 0;have x1:=hblk.cell 1;have xf0:=hblk.frozen 0;have xf1:=hblk.frozen 1;simp at x0 x1;have HNN:=hide hN;have HBK:=hide hblk;clear hdep hN hblk;go_simp
           have hk:=hK.out undef ((wr.setCell ⟨N,0,none⟩ (.int .i64 nx)).setCell ⟨N,1,none⟩ (.int .i64 ny)) (by
            rw[HFD.out]
            exact⟨H0,H1,H2,H3,H4,H5,H6,H7,H8,H9,H10,hide ((fun _=>⟨N,_,_,e11,HNN.out,(HBK.out.set_ 0 _).set_ 1 _,fun _=>⟨rfl,rfl⟩⟩)),hide ((H12.out.setCell (p:=⟨N,0,none⟩) (by exact HNN.out) _).setCell (p:=⟨N,1,none⟩) (by exact HNN.out) _)⟩)
           simp only[Act.put,List.setIfInBounds_toArray,List.set_cons_zero,List.set_cons_succ] at hk;simp only[e10] at hk;simp only[e11] at hk;exact hk
        case rest =>
         obtain⟨N,rfl,hN13,bN,HBN⟩:=hcut;have HSN2:=hide (show u13.ownBlock≠some N from fun e=>by have:=(HO.out.lt _ e).2;omega);replace HO:=hide (own_blw HO.out HBN.out);replace HN:=hide (HN.out.below HBN.out HN.out.lt);replace HRW:=hide (HRW.out.below HBN.out);replace HFN:=hide (own_blw HFN.out HBN.out);replace HRO:=hide (own_blw HRO.out HBN.out);replace bC:=hide (bC.out.below HBN.out bC.out.lt);replace HB:=hide (HB.out.trans (HBN.out.mono hsz));have hzG:W5.heap.size≤wc.heap.size:=HB.out.size;clear HBN dl lbl;have HOK:=hide (okCp_B HNC.out);obtain⟨As2,cs2,hsv2,hcs2,_⟩:=own_value HO.out;subst hsv2;have n0:=bN.out.cell 0;have n1':=bN.out.cell 1;have lN:=bN.out.lt;simp at n0 n1';have hly:=lk_numE (nx,ny) st 0;by_cases hT:(nx,ny)∈st
         ·
          rw[if_pos hT] at hly;have HLY:=hide hly;have HADD:=hide (show st=addL st (nx,ny) by unfold addL;rw[if_pos hT]);clear hly hT;go_upto_region 25 with (at_lookup;go_loud (refine wpList_look_yes rfl _ _ 105 rfl kl_cplB Try.underlying105 zero_intB rfl HN.out (nx,ny) rfl HOK.out _ HLY.out ?_))
          have HN2:=hide (mapIs_numE HN.out HADD.out);have HO2:=hide (show wc.ownsRow W5.heap.size 110 2 (.slice As2 st.length cs2) (addL st (nx,ny)).length (finRow (cF (addL st (nx,ny)))) by rw[← HADD.out];exact HO.out);have hly2:=lk_numE (nx,ny) (addL st (nx,ny)) 0;rw[if_pos (addL_mem.2 (.inr rfl))] at hly2;obtain⟨v,hv⟩:∃ z:Int,z=(((addL st (nx,ny)).idxOf (nx,ny):Nat):Int):=⟨_,rfl⟩
          have HLK:=hide (show (lk (numE (addL st (nx,ny)) 0) (nx,ny)).getD (.int .i64 0)=.int .i64 v by
           rw[hly2,hv]
           show Value.int .i64 _=_
           congr 2;rw[Nat.zero_add]
           exact idx_inst _ _ _ _)
          rw[← hv] at HRK;have HRV:=hide HRK.out;have fg:=HRO.out.frozenAt k;have lG:G<wc.heap.size:=(HRO.out.lt G rfl).2
          obtain⟨z0,cgk⟩:∃ z0,wc.cell? ⟨G,k,none⟩=some (.int .i64 z0):=by
           have h1:=HRO.out.cellAt k (by omega)
           have h2:k<((rowC a b l i).take k++List.replicate (q-k) (0:Int)).length:=by
            rw[List.length_append,List.length_take,List.length_replicate,rowC_len,HQ.out];omega
           obtain⟨RL,hRL⟩:∃ z,z=(rowC a b l i).take k++List.replicate (q-k) (0:Int):=⟨_,rfl⟩;rw[← hRL] at h1 h2;refine⟨RL[k],?_⟩;rw[h1];unfold intRow;rw[List.getElem?_map,List.getElem?_eq_getElem h2];rfl
          have HST:=hide (HRO.out.stored k (.int .i64 v))
          have T1:=hide (show (wc.setCell ⟨G,k,none⟩ (.int .i64 v)).ownsRow G 3 1 (.slice (some ⟨G,0,none⟩) q q) q (intRow ((rowC a b l i).take (k+1)++List.replicate (q-(k+1)) 0)) by
           rw[← rowK_set (by rw[rowC_len,HQ.out]) HRV.out];have h:=HST.out.1;unfold intRow at h ⊢;rw[List.map_set]
           exact h)
          have T2:=hide (HO2.out.kept HST.out.2 (own_ne HO2.out HRO.out (by decide)));have T3:=hide (HN2.out.kept HST.out.2 (Ne.symm (own_nmap HRO.out HN2.out)));have T4:=hide (HRW.out.kept HST.out.2 (own_ne HRW.out.out HRO.out (by decide)) (fun j hj=>HAP.out j hj));have T5:=hide (HFN.out.kept HST.out.2 (own_ne HFN.out HRO.out (by decide)));have T6:=hide (bC.out.grown HST.out.2 (Ne.symm (own_bne HRO.out bC.out (by decide))));have T7:=hide (HB.out.setCell (p:=⟨G,k,none⟩) (by show W5.heap.size≤G;omega) (.int .i64 v));rw[← HPN.out] at T2 T3;clear hly2 hv HST HRV;go_wp2_with (at_lookup;go_loud (refine wpList_look_one rfl _ _ 105 rfl kl_cplB Try.underlying105 zero_intB rfl HN2.out (nx,ny) rfl HOK.out _ HLK.out ?_));go_roundw
          case rel=>exact⟨k+1,by omega,by go_num,HSC,T2,T3,T4,T5,T1,T6,T7⟩
          case measure=>simp[intOf];omega
         ·
          rw[if_neg hT] at hly;have HLY:=hide hly;have HADD:=hide (show addL st (nx,ny)=st++[(nx,ny)] by unfold addL;rw[if_neg hT]);have HTT:=hide hT;obtain⟨m2,hm2⟩:∃ z,z=st.length:=⟨_,rfl⟩;have HM2:=hide hm2;rw[← hm2] at HO hlen HSN2 HSC ⊢;have hm21:m2≤20300:=by omega
          clear hly hT hm2
          go_upto_region 25 with (first
           | (at_lookup;go_loud (refine wpList_look_no rfl _ _ 105 rfl kl_cplB Try.underlying105 zero_intB rfl HN.out (nx,ny) rfl HOK.out HLY.out ?_))
           | (at_mapUpdate;go_loud (refine wpList_mapup rfl _ _ _ 105 rfl kl_cplB Try.underlying105 rfl HN.out (nx,ny) rfl HOK.out (.int .i64 (m2:Int)) rfl ?_;intro w14 hm14 hg14 hz14;have HM14:=hide hm14;have HG14:=hide hg14;have HZ14:=hide hz14;have hz14':W5.heap.size≤w14.heap.size:=(by omega);have bN14:=hide (bN.out.grown hg14 (by intro e;injection e with e;have:=HN.out;obtain⟨_,_,hh,_⟩:=this;have hb:=bN.out;unfold Blk at hb;rw[e,hh] at hb;cases hb));clear n0 n1' lN;have n0:=bN14.out.cell 0;have n1':=bN14.out.cell 1;have lN:=bN14.out.lt;simp at n0 n1';have HO14:=hide (HO.out.kept hg14 (.inr (own_nmap HO.out HN.out)));clear hm14 hg14 hz14))
           | (at_builtin;go_loud (refine wpList_append_own_at _ rfl (.tmp 99) (.tmp 101) 111 rfl W5.heap.size 110 iC _ 2 16 Try.underlying111 hC0 hC1 hC2 hC3 rfl (by omega) (.slice As2 m2 cs2) m2 _ rfl (HO14.out.alloc _) ⟨w14.heap.size,0,none⟩ 1 1 (finRow [toF (nx,ny)]) rfl (by rfl) (World.news_of_block (cs:=(finRow [toF (nx,ny)]).toArray) (t:=110) (fr:=(0,0)) (Blk.at_ rfl)) (finRow_one _) (by simp only[maxLen];omega) (by omega) (by simp<;>omega) ?_;intro v15 w15 hown15 hg15 _ hat15;have HOW15:=hide hown15;have HG15:=hide hg15;have HAT15:=hide hat15;have bN15:=hide ((bN14.out.alloc (Obj.cells #[.int .i64 nx,.int .i64 ny] 110)).grown hg15 (Ne.symm HSN2.out));clear n0 n1' lN;have n0:=bN15.out.cell 0;have n1':=bN15.out.cell 1;have lN:=bN15.out.lt;simp at n0 n1';clear hown15 hg15 hat15)))
          have R1:=hide (HO14.out.alloc (Obj.cells #[.int .i64 nx,.int .i64 ny] 110))
          have HO15:=hide (show w15.ownsRow W5.heap.size 110 2 v15 (addL st (nx,ny)).length (finRow (cF (addL st (nx,ny)))) by
           rw[HADD.out,cF_snoc,List.length_append,← HM2.out]
           exact HOW15.out)
          have HN15:=hide (show MapIs w15 cplB okB (W5.heap.size+1) (numE (addL st (nx,ny)) 0) by
           have h:=HM14.out;rw[HM2.out,numE_up HTT.out] at h;rw[HADD.out]
           exact (h.alloc (Obj.cells #[.int .i64 nx,.int .i64 ny] 110)).kept HG15.out (Ne.symm (own_nmap R1.out (h.alloc (Obj.cells #[.int .i64 nx,.int .i64 ny] 110)))))
          have HRW15:=hide (((HRW.out.kept HG14.out (.inr (own_nmap HRW.out.out HN.out)) (fun j hj=>.inr (own_nmap (HRW.out.own j hj) HN.out))).alloc (Obj.cells #[.int .i64 nx,.int .i64 ny] 110)).kept HG15.out (own_ne (((HRW.out.kept HG14.out (.inr (own_nmap HRW.out.out HN.out)) (fun j hj=>.inr (own_nmap (HRW.out.own j hj) HN.out))).alloc (Obj.cells #[.int .i64 nx,.int .i64 ny] 110)).out) R1.out (by decide)) (fun j hj=>own_ne (((HRW.out.kept HG14.out (.inr (own_nmap HRW.out.out HN.out)) (fun j hj=>.inr (own_nmap (HRW.out.own j hj) HN.out))).alloc (Obj.cells #[.int .i64 nx,.int .i64 ny] 110)).own j hj) R1.out (by decide)));have R2:=hide ((HFN.out.kept HG14.out (.inr (own_nmap HFN.out HN.out))).alloc (Obj.cells #[.int .i64 nx,.int .i64 ny] 110));have HFN15:=hide (R2.out.kept HG15.out (own_ne R2.out R1.out (by decide)));have R3:=hide ((HRO.out.kept HG14.out (.inr (own_nmap HRO.out HN.out))).alloc (Obj.cells #[.int .i64 nx,.int .i64 ny] 110));have HRO15:=hide (R3.out.kept HG15.out (own_ne R3.out R1.out (by decide)))
          have hne14:(some C:Option Nat)≠some (W5.heap.size+1):=by
           intro e;injection e with e
           obtain⟨_,_,hh,_⟩:=HN.out;have hb:=bC.out;unfold Blk at hb;rw[e,hh] at hb;cases hb
          have R4:=hide ((bC.out.grown HG14.out hne14).alloc (Obj.cells #[.int .i64 nx,.int .i64 ny] 110));have bC15:=hide (R4.out.grown HG15.out (Ne.symm HSC.out))
          have HSC15:=hide (show v15.ownBlock≠some C from fun e=>by
           rcases HAT15.out with g | g
           · exact HSC.out (by rw[← g];exact e)
           ·
            rw[g] at e;injection e with e
            have:=bC.out.lt
            have:=HZ14.out
            simp at e
            omega)
          have HB15':=hide (((HB.out.grown HG14.out HB.out.size (fun z hz=>by injection hz with hz;omega)).alloc (by have:=HZ14.out;omega) (Obj.cells #[.int .i64 nx,.int .i64 ny] 110)).grown HG15.out (by simp;omega) (fun z hz=>(R1.out.lt z hz).1));clear R1 R2 R3 R4 HG14 HG15 HM14 HOW15 hne14 HO HN HRW HFN HRO bC HB HZ14;have hly2:=lk_numE (nx,ny) (addL st (nx,ny)) 0;rw[if_pos (addL_mem.2 (.inr rfl))] at hly2;obtain⟨v,hv⟩:∃ z:Int,z=(((addL st (nx,ny)).idxOf (nx,ny):Nat):Int):=⟨_,rfl⟩
          have HLK:=hide (show (lk (numE (addL st (nx,ny)) 0) (nx,ny)).getD (.int .i64 0)=.int .i64 v by
           rw[hly2,hv]
           show Value.int .i64 _=_
           congr 2;rw[Nat.zero_add]
           exact idx_inst _ _ _ _)
          rw[← hv] at HRK;have HRV:=hide HRK.out;have fg:=HRO15.out.frozenAt k;have lG:G<w15.heap.size:=(HRO15.out.lt G rfl).2
          obtain⟨z0,cgk⟩:∃ z0,w15.cell? ⟨G,k,none⟩=some (.int .i64 z0):=by
           have h1:=HRO15.out.cellAt k (by omega)
           have h2:k<((rowC a b l i).take k++List.replicate (q-k) (0:Int)).length:=by
            rw[List.length_append,List.length_take,List.length_replicate,rowC_len,HQ.out];omega
           obtain⟨RL,hRL⟩:∃ z,z=(rowC a b l i).take k++List.replicate (q-k) (0:Int):=⟨_,rfl⟩;rw[← hRL] at h1 h2;refine⟨RL[k],?_⟩;rw[h1];unfold intRow;rw[List.getElem?_map,List.getElem?_eq_getElem h2];rfl
          have HST:=hide (HRO15.out.stored k (.int .i64 v))
          have T1:=hide (show (w15.setCell ⟨G,k,none⟩ (.int .i64 v)).ownsRow G 3 1 (.slice (some ⟨G,0,none⟩) q q) q (intRow ((rowC a b l i).take (k+1)++List.replicate (q-(k+1)) 0)) by
           rw[← rowK_set (by rw[rowC_len,HQ.out]) HRV.out];have h:=HST.out.1;unfold intRow at h ⊢;rw[List.map_set]
           exact h)
          have T2:=hide (HO15.out.kept HST.out.2 (own_ne HO15.out HRO15.out (by decide)));have T3:=hide (HN15.out.kept HST.out.2 (Ne.symm (own_nmap HRO15.out HN15.out)));have T4:=hide (HRW15.out.kept HST.out.2 (own_ne HRW15.out.out HRO15.out (by decide)) (fun j hj=>HAP.out j hj));have T5:=hide (HFN15.out.kept HST.out.2 (own_ne HFN15.out HRO15.out (by decide)));have T6:=hide (bC15.out.grown HST.out.2 (Ne.symm (own_bne HRO15.out bC15.out (by decide))));have T7:=hide (HB15'.out.setCell (p:=⟨G,k,none⟩) (by show W5.heap.size≤G;omega) (.int .i64 v));rw[← HPN.out] at T2 T3;clear hly2 hv HST HRV;go_wp2_with (at_lookup;go_loud (refine wpList_look_one rfl _ _ 105 rfl kl_cplB Try.underlying105 zero_intB rfl HN15.out (nx,ny) rfl HOK.out _ HLK.out ?_));go_roundw
          case rel=>exact⟨k+1,by omega,by go_num,HSC15,T2,T3,T4,T5,T1,T6,T7⟩
          case measure=>simp[intOf];omega
       ·
        obtain rfl:q=k:=by omega
        have HLS:=hide (show (bfsRow i (stpCk a b l (p,q1) q) (StC a b l i).1).1=LsC a b l (i+1) by
         rw[lsC_next (by rw[← HLN.out];exact hin),HC.out,stpCk_all (by rw[HQ.out];exact Nat.le_refl _)])
        rw[HLS.out] at HO HN
        have HRE:=hide (show wr.ownsRow G 3 1 (.slice (some ⟨G,0,none⟩) q q) q (intRow (rowC a b l i)) by
         have h:=HRO.out;rw[List.take_of_length_le (by rw[rowC_len,HQ.out];exact Nat.le_refl _),Nat.sub_self] at h
         simpa using h)
        obtain⟨m3,hm3⟩:∃ z,z=(LsC a b l (i+1)).length:=⟨_,rfl⟩;have HM3:=hide hm3;have hlen:=stk_len (a:=a) (b:=b) (l:=l) i q;rw[HC.out,← HLN.out,HLS.out,← hm3] at hlen
        have hgr:ln≤m3:=by
         obtain⟨kk,hkk⟩:=lsC_pre (a:=a) (b:=b) (l:=l) (Nat.le_succ i);rw[hm3,hkk,List.length_append,← HLN.out];omega
        rw[← hm3] at HO;clear hm3 HRO HLS bC;obtain⟨As3,cs3,hsv3,hcs3,_⟩:=own_value HO.out;subst hsv3;have S1:=hide (HRE.out.alloc (Obj.cells #[.slice (some ⟨G,0,none⟩) q q] 26));have S2:=hide (HRW.out.alloc (Obj.cells #[.slice (some ⟨G,0,none⟩) q q] 26));have S3:=hide (HO.out.alloc (Obj.cells #[.slice (some ⟨G,0,none⟩) q q] 26));have S4:=hide (HN.out.alloc (Obj.cells #[.slice (some ⟨G,0,none⟩) q q] 26));have S5:=hide (HFN.out.alloc (Obj.cells #[.slice (some ⟨G,0,none⟩) q q] 26));have S6:=hide (HB.out.alloc hsz (Obj.cells #[.slice (some ⟨G,0,none⟩) q q] 26));clear HRE HRW HO HN HFN HB HSC;go_upto_region 28 with (at_builtin;go_loud (refine wpList_append_own_at _ rfl (.tmp 110) (.tmp 112) 73 rfl W5.heap.size 26 i1 _ 1 24 Try.underlying73 hi1 hy0 hy1 hy2 rfl (by omega) u15 i _ rfl S2.out.out ⟨wr.heap.size,0,none⟩ 1 1 [.slice (some ⟨G,0,none⟩) q q] rfl (by rfl) (World.news_of_block (cs:=#[.slice (some ⟨G,0,none⟩) q q]) (t:=26) (fr:=(0,0)) (Blk.at_ rfl)) (by simp[Value.oneCell']) (by simp only[maxLen];omega) (by omega) (by simp<;>omega) ?_;intro v17 w17 hown17 hg17 _ hat17;have HOW17:=hide hown17;have HG17:=hide hg17;clear hown17 hg17 hat17))
        have HRW:=hide ((S2.out.push HG17.out HOW17.out (own_low S1.out hGZ) (fun j hj=>HAP.out j hj) (by decide)).congr (L':=fun j=>intRow (rowC a b l j)) (m':=fun _=>q) (fun j _=>by by_cases e:j=i<;>simp[e]) (fun j _=>by by_cases e:j=i<;>simp[e]));have HO:=hide (S3.out.kept HG17.out (own_ne S3.out S2.out.out (by decide)));have HN:=hide (S4.out.kept HG17.out (Ne.symm (own_nmap S2.out.out S4.out)));have HFN:=hide (S5.out.kept HG17.out (own_ne S5.out S2.out.out (by decide)));have HB:=hide (S6.out.grown HG17.out S6.out.size (fun z hz=>(S2.out.out.lt z hz).1));clear S1 S2 S3 S4 S5 S6 HG17 HOW17 HAP;by_cases h20:20000<m3
        ·
         have t3:decide ((m3:Int)>20000)=true:=decide_eq_true (by omega);have t3':decide ((20000:Int)<(m3:Int))=true:=decide_eq_true (by omega);have bM9:=bM5.out.below HB.out lM5;have bR9:=bR5.out.below HB.out lR5;have lM9:=bM9.lt;have lR9:=bR9.lt;have HBE9:=hide (HBW5.out.trans (HB.out.mono HBW5.out.size));have HOV:=hide (show ∃ i,20000<(LsC a b l i).length from ⟨i+1,by rw[← HM3.out];exact h20⟩);go_wp2_with fail;refine (bfault_any _ _ _).mono ?_;rintro e w19 ⟨rfl,hb19⟩;have bM:=bM9.below hb19 lM9;have bR:=bR9.below hb19 lR9;have HBE:=hide (HBE9.out.trans (hb19.mono HBE9.out.size));have q0:=bM.cell 0;have q1:=bM.cell 1;have q2:=bM.cell 2;have q3:=bR.cell 0;have q4:=bR.cell 1;have qf:=bM.frozen 0;have qf1:=bM.frozen 1;have qf2:=bM.frozen 2;have qf3:=bR.frozen 0;have qf4:=bR.frozen 1;have lM:=bM.lt;have lR:=bR.lt;simp at q0 q1 q2 q3 q4;clear hb19 bM bR bM9 bR9 HBE9;go_wp21;refine bodyPost_ret (v:=.tuple #[.agg #[.int .i64 0,.slice none 0 0,.slice none 0 0],.agg #[.int .i64 17,.int .i64 (-1)]]) (by simp[results,Try.results51,go_sem,lM,lR,hMR,hRM,q0,q1,q2,q3,q4,qf,qf1,qf2,qf3,qf4]) rfl ?_;exact⟨(emptyM,(17,-1)),_,rfl,.inl ⟨rfl,HOV.out⟩,MachNew.empty _ _,(((((HBE.out.setCell (p:=⟨M,0,none⟩) (by exact hwM) (.int .i64 0)).setCell (p:=⟨M,1,none⟩) (by exact hwM) (.slice none 0 0)).setCell (p:=⟨M,2,none⟩) (by exact hwM) (.slice none 0 0)).setCell (p:=⟨R,0,none⟩) (by exact hwR) (.int .i64 17)).setCell (p:=⟨R,1,none⟩) (by exact hwR) (.int .i64 (-1)))⟩
        ·
         have t3:decide ((m3:Int)>20000)=false:=decide_eq_false (by omega);have t3':decide ((20000:Int)<(m3:Int))=false:=decide_eq_false (by omega);go_wp2
         go_roundg (gk-1)
         case measure=>omega
         case rel=>exact⟨i+1,_,by go_num,by rw[← HM3.out];omega,by rw[← HM3.out];omega,by omega,hide (by rw[← HM3.out];exact HO.out),HN,HRW,HFN,HB⟩
     ·
      obtain rfl:ln=i:=by omega
      have HI:=hide (show (LsC a b l ln).length=ln from HLN.out.symm);have hNL:=hide (HRW.out.nums (show ln≤big by unfold big;omega) (fun _ _=>show q≤big by unfold big;omega));have hFL:=hide (bools_own HFN.out (show ln≤big by unfold big;omega));have hLL:=hide ((HLL5.out.below HB.out (Nat.le_refl _)).mono HB.out.size);have bM9:=hide (bM5.out.below HB.out lM5);have bR9:=hide (bR5.out.below HB.out lR5);have HBE9:=hide (HBW5.out.trans (HB.out.mono HBW5.out.size));clear HO HN HRW HFN;go_wp2_with fail;refine (least_any _ _ _ l (rowsC a b l ln) (finsC a b l K0 ln) wr wr.heap.size (Nat.le_refl _) hLL.out hNL.out hFL.out).mono ?_;rintro e w19 ⟨v1,rfl,hnew,hb19⟩;obtain⟨A9,AF9,n9,c9,nf9,cf9,rfl,_,_,_,_,_,_,_,_⟩:=hnew.at_;have HNEW:=hide hnew;obtain⟨r9,hr9⟩:∃ z,z=leastR l (rowsC a b l ln) (finsC a b l K0 ln):=⟨_,rfl⟩;rw[← hr9] at HNEW;simp only[← hr9];have HR9:=hide hr9;obtain⟨g9,hg9⟩:∃ z,z=r9.1.n:=⟨_,rfl⟩;obtain⟨f1,hf1⟩:∃ z,z=r9.2.1:=⟨_,rfl⟩;obtain⟨f2,hf2⟩:∃ z,z=r9.2.2:=⟨_,rfl⟩;rw[← hg9] at HNEW;simp only[← hg9,← hf1,← hf2];have HF1:=hide hf1;have HF2:=hide hf2;have lM9:=bM9.out.lt;have lR9:=bR9.out.lt;have bM:=bM9.out.below hb19 lM9;have bR:=bR9.out.below hb19 lR9;have HBE:=hide (HBE9.out.trans (hb19.mono HBE9.out.size));have hzw:=HBE9.out.size;have q0:=bM.cell 0;have q1:=bM.cell 1;have q2:=bM.cell 2;have q3:=bR.cell 0;have q4:=bR.cell 1;have qf:=bM.frozen 0;have qf1:=bM.frozen 1;have qf2:=bM.frozen 2;have qf3:=bR.frozen 0;have qf4:=bR.frozen 1;have lM:=bM.lt;have lR:=bR.lt;simp at q0 q1 q2 q3 q4;have HNW:=hide (((((HNEW.out.set (p:=⟨M,0,none⟩) (by show M<wr.heap.size;omega) (.int .i64 g9)).set (p:=⟨M,1,none⟩) (by show M<wr.heap.size;omega) (.slice A9 n9 c9)).set (p:=⟨M,2,none⟩) (by show M<wr.heap.size;omega) (.slice AF9 nf9 cf9)).set (p:=⟨R,0,none⟩) (by show R<wr.heap.size;omega) (.int .i64 f1)).set (p:=⟨R,1,none⟩) (by show R<wr.heap.size;omega) (.int .i64 f2));have HBF:=hide ((((((HBE.out.setCell (p:=⟨M,0,none⟩) (by exact hwM) (.int .i64 g9)).setCell (p:=⟨M,1,none⟩) (by exact hwM) (.slice A9 n9 c9)).setCell (p:=⟨M,2,none⟩) (by exact hwM) (.slice AF9 nf9 cf9)).setCell (p:=⟨R,0,none⟩) (by exact hwR) (.int .i64 f1)).setCell (p:=⟨R,1,none⟩) (by exact hwR) (.int .i64 f2)));clear hb19 hnew bM bR bM9 bR9 HBE9 HNEW HBE hNL hFL hLL hr9 hg9 hf1 hf2;go_wp21;refine bodyPost_ret (v:=.tuple #[.agg #[.int .i64 g9,.slice A9 n9 c9,.slice AF9 nf9 cf9],.agg #[.int .i64 f1,.int .i64 f2]]) (by simp[results,Try.results51,go_sem,lM,lR,hMR,hRM,q0,q1,q2,q3,q4,qf,qf1,qf2,qf3,qf4]) rfl ?_;exact⟨r9,_,by rw[← HF1.out,← HF2.out],.inr ⟨ln,HI.out,by omega,HR9.out⟩,HNW.out.mono hzw,HBF.out⟩
end Go.Proofs.Ytkfdhpbnphojoaa
