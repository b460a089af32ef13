/- The texts DzW of this proof. No conditions. -/
import Derived.Test.YtkfdhpbnphojoaaKa22
import Derived.Test.YtkfdhpbnphojoaaKa13
import Derived.Test.YtkfdhpbnphojoaaKa15
/- Text DzW. -/
namespace Go.Proofs.Ytkfdhpbnphojoaa
open Go.RowKit Gm
set_option linter.unusedSimpArgs false
set_option linter.unusedVariables false
theorem arcl_at {w:World} {B G N:Nat} {va:Nat→Value} {l:Nat→List Arc} (h:OwnLL w B 22 64 5 G N va (fun s=>arcRow (l s)) (fun s=>(l s).length)) {s:Nat} (hs:s<N):∃ A c,w.cell? ⟨G,s,none⟩=some (.slice A (l s).length c)∧Rd w w.heap.size 5 A (l s).length (arcCell (l s)):=by
 have hc:=h.row.cell hs;have ho:=h.own s hs;obtain⟨A,c,hv,_,_⟩:=own_value ho;rw[hv] at hc ho;exact⟨A,c,hc,Rd.of_own ho fun i j hi hj=>arcRow_at _ i j hi hj⟩
theorem getD_snoc {α:Type} (l:List α) (a d:α) {k:Nat} (hk:k<l.length+1):(l++[a]).getD k d=if k=l.length then a else l.getD k d:=by
 by_cases e:k=l.length
 · subst e;simp[List.getD_eq_getElem?_getD]
 · rw[if_neg e,List.getD_eq_getElem?_getD,List.getD_eq_getElem?_getD,List.getElem?_append_left (by omega)]
set_option maxRecDepth 100000 in
set_option maxHeartbeats 64000000 in
theorem deter_ok (
 va:Value) (m:Mach) (w:World) (B:Nat) (hB:B≤w.heap.size) (ha:MachAt w B va m) (hv:(silR m).2=(0,0)) (hnz:(silR m).1.n≠0) :
 Calls Try.prog 33 #[va] w fun e w'=>∃ v1,e=.returned (.tuple #[v1,.agg #[.int .i64 (detW m).2.1,.int .i64 (detW m).2.2]])∧MachNew w.heap.size w' v1 (detW m).1∧Below w.heap.size w w':=by
 obtain⟨ia,ha0,ha1,ha2,ha3⟩:=info_parts arc_info;obtain⟨iF,hF0,hF1,hF2,hF3⟩:=info_parts fin_info;obtain⟨i0,hi0,iz0,iz1,iz2⟩:=info_parts int_info;obtain⟨i1,hi1,hy0,hy1,hy2⟩:=info_parts ints_info;have HDW:=hide (show detW m=detR (silR m).1 by unfold detW;rw[if_neg (fun g=>g hv),if_neg hnz]);have HSO:=hide (silR_ok hv hnz);have h0:=ha;obtain⟨A,AF,n,c,nf,cf,rfl,HN,HF,hnc,hnfc,hnb,hnfb,hA,hF⟩:=ha;have H0:=hide h0;clear h0 hA hF HN HF;have HC:=hide (fun W (hB:B≤W.heap.size) (h:MachAt W B (.agg #[.int .i64 m.n,.slice A n c,.slice AF nf cf]) m)=>silw_any _ m W B hB h);obtain⟨f1,hf1⟩:∃ z,z=(silR m).2.1:=⟨_,rfl⟩;obtain⟨f2,hf2⟩:∃ z,z=(silR m).2.2:=⟨_,rfl⟩;obtain⟨t,ht⟩:∃ z,z=(silR m).1:=⟨_,rfl⟩;rw[← hf1,← hf2,← ht] at HC;obtain⟨sn,hsn⟩:∃ z,z=m.n:=⟨_,rfl⟩;rw[← hsn] at HC H0 ⊢;have he:=fun a b c d W=>run_neq_fault a b c d W
 rw[← ht] at HDW HSO hnz;obtain⟨N,hN⟩:∃ z,z=t.n.toNat:=⟨_,rfl⟩;rw[← hN] at HSO;have htN:t.n=(N:Int):=HSO.out.n;obtain⟨rfl,rfl⟩:f1=0∧f2=0:=⟨by rw[hf1,hv],by rw[hf2,hv]⟩;have hf0:fEq 0 0 0 0=true:=rfl;have hN4:=HSO.out.n4;have hN0:=HSO.out.pos;clear hf1 hf2 ht hv hsn hnz hN
 go_enter Try.func33,Try.ntmps33
 go_upto_region 1 with fail
 generalize hW1:World.alloc _ _=W1;obtain⟨X,hX⟩:∃ z,z=w.heap.size:=⟨_,rfl⟩;obtain⟨M,hM⟩:∃ z,z=w.heap.size+1:=⟨_,rfl⟩;obtain⟨R,hR⟩:∃ z,z=w.heap.size+1+1:=⟨_,rfl⟩;have HX1:=hide (show Blk W1 X 25 #[.int .i64 sn,.slice A n c,.slice AF nf cf] by rw[← hW1];exact ((Blk.at_ hX).alloc _).alloc _);have HM1:=hide (show Blk W1 M 25 #[.int .i64 0,.slice none 0 0,.slice none 0 0] by rw[← hW1];exact (Blk.at_ (by simp[hM])).alloc _);have HR1:=hide (show Blk W1 R 28 #[.int .i64 0,.int .i64 0] by rw[← hW1];exact Blk.at_ (by simp[hR]));have HB1:=hide (show Below w.heap.size w W1 by rw[← hW1];go_grown);have hwM:w.heap.size≤M:=by omega
 have hwR:w.heap.size≤R:=by omega
 have hwX:w.heap.size≤X:=by omega
 have hMR:M≠R:=by omega
 have hRM:R≠M:=by omega
 have hXM:X≠M:=by omega
 have hMX:M≠X:=by omega
 have hXR:X≠R:=by omega
 have hRX:R≠X:=by omega
 have hR2:M+1=R:=by omega
 simp only[← hM];simp only[hR2]
 try simp only[← hX]
 have lX1:X<W1.heap.size:=HX1.out.lt;have lM1:M<W1.heap.size:=HM1.out.lt;have lR1:R<W1.heap.size:=HR1.out.lt;have x0:=HX1.out.cell 0;have x1:=HX1.out.cell 1;have x2:=HX1.out.cell 2;simp at x0 x1 x2;clear hW1 hX hM hR hR2;go_wp2_with fail;refine (HC.out W1 (by have:=HB1.out.size;omega) (H0.out.below HB1.out hB)).mono ?_;rintro e w2 ⟨v1,rfl,hm2,hb2⟩;have HMN:=hide hm2;obtain⟨A2,AF2,n2,c2,nf2,cf2,rfl,HN2,HF2,hn2c,hnf2c,hn2b,hnf2b,_,_⟩:=hm2.at_;have HB2:=hide hb2;have hz2:=hb2.size;have HX2:=hide (HX1.out.below hb2 lX1);have HM2:=hide (HM1.out.below hb2 lM1);have HR2:=hide (HR1.out.below hb2 lR1);have HBW:=hide (HB1.out.trans (hb2.mono HB1.out.size));have lX2:X<w2.heap.size:=by omega
 have y0:=HX2.out.cell 0;have y1:=HX2.out.cell 1;have y2:=HX2.out.cell 2;have yf0:=HX2.out.frozen 0;have yf1:=HX2.out.frozen 1;have yf2:=HX2.out.frozen 2;simp at y0 y1 y2;clear hb2 hm2 x0 x1 x2 HX1 HM1 HR1 HC H0;have t0:((N:Int)==0)=false:=by simp;omega
 have t1:decide ((N:Int)=0)=false:=decide_eq_false (by omega);rw[htN] at HMN;rw[htN];go_upto_region 4 with fail
 generalize hW3:World.alloc _ _=W3;have hwz:w.heap.size≤W1.heap.size:=HB1.out.size;have HX3:=hide (show Blk W3 X 25 #[.int .i64 (N:Int),.slice A2 n2 c2,.slice AF2 nf2 cf2] by rw[← hW3];exact (((HX2.out.set_ 0 _).set_ 1 _).set_ 2 _).alloc _);have HM3:=hide (show Blk W3 M 25 #[.int .i64 0,.slice none 0 0,.slice none 0 0] by rw[← hW3];exact (((HM2.out.far (p:=⟨X,0,none⟩) hMX _).far (p:=⟨X,1,none⟩) hMX _).far (p:=⟨X,2,none⟩) hMX _).alloc _);have HR3:=hide (show Blk W3 R 28 #[.int .i64 0,.int .i64 0] by rw[← hW3];exact (((HR2.out.far (p:=⟨X,0,none⟩) hRX _).far (p:=⟨X,1,none⟩) hRX _).far (p:=⟨X,2,none⟩) hRX _).alloc _)
 have HB3:=hide (show Below w.heap.size w W3 by
  rw[← hW3]
  exact (((HBW.out.setCell (p:=⟨X,0,none⟩) (by exact hwX) _).setCell (p:=⟨X,1,none⟩) (by exact hwX) _).setCell (p:=⟨X,2,none⟩) (by exact hwX) _).alloc (by have:=HBW.out.size;simpa using this) _)
 have HMA:=hide (show MachAt W3 W3.heap.size (.agg #[.int .i64 (N:Int),.slice A2 n2 c2,.slice AF2 nf2 cf2]) t by
  rw[← hW3]
  exact (((((HMN.out.set (p:=⟨X,0,none⟩) (by exact lX1) _).set (p:=⟨X,1,none⟩) (by exact lX1) _).set (p:=⟨X,2,none⟩) (by exact lX1) _)).alloc _).at_)
 clear hW3 HX2 HM2 HR2 HBW HMN y0 y1 y2 yf0 yf1 yf2 t0 t1 HB1 HB2 hn2c hnf2c hn2b hnf2b HN2 HF2 lX2 hz2;obtain⟨A3,AF3,n3,c3,nf3,cf3,hag,HN2,HF2,hn2c,hnf2c,hn2b,hnf2b,hA2,hF2⟩:=HMA.out
 obtain⟨rfl,rfl,rfl,rfl,rfl,rfl⟩:A2=A3∧n2=n3∧c2=c3∧AF2=AF3∧nf2=nf3∧cf2=cf3:=by
  injection hag with hag
  have g1:=congrArg (fun a:Array Value=>a[1]?) hag;have g2:=congrArg (fun a:Array Value=>a[2]?) hag;simp at g1 g2;exact⟨g1.1,g1.2.1,g1.2.2,g2.1,g2.2.1,g2.2.2⟩
 have HRA:=hide hA2;have HRF:=hide hF2;have hn22:n2≤2000:=by have:=HSO.out.len;rw[HN2.out] at this;exact this
 have hnf22:nf2≤400:=by have:=HSO.out.flen;rw[HF2.out] at this;exact this
 have HMKA:=hide (fun (W:World)=>run_make_row' (P:=Try.prog) 50 22 (.slice none 0 0) 24 Try.underlying50 arcl_info rfl .i64 .i64 N (by omega) (by omega) W);have HMKB:=hide (fun (W:World)=>run_make_row' (P:=Try.prog) 51 4 (.bool false) 1 Try.underlying51 bool_info rfl .i64 .i64 N (by omega) (by omega) W);have lX3:X<W3.heap.size:=HX3.out.lt;have x0:=HX3.out.cell 0;have x1:=HX3.out.cell 1;simp at x0 x1;clear hag hA2 hF2 HMA lX1 lM1 lR1 hwz he hf0;have hmk:=HMKA.out;go_upto_region 6 with fail
 clear hmk x0 x1;generalize hW4:World.alloc _ _=W4;obtain⟨GA,hGA⟩:∃ z,z=W3.heap.size:=⟨_,rfl⟩
 have HLL0:=hide (show OwnLL W4 (GA+1) 22 64 5 GA N (fun _=>.slice none 0 0) (fun s=>arcRow (arT t.arcs 0 s)) (fun s=>(arT t.arcs 0 s).length) by
  rw[← hW4,hGA]
  refine⟨World.rowIs_made W3 (.slice none 0 0) N 22,by omega,fun j _=>by rw[arT_zero];exact World.ownsRow_nil _ _ _ _,fun i j _ _ _=>.inl rfl⟩)
 have HB34:=hide (show Below W3.heap.size W3 W4 by rw[← hW4];exact (Below.refl _ _).alloc (Nat.le_refl _) _);have h3G:W3.heap.size≤GA:=by omega
 have hz4:GA<W4.heap.size:=HLL0.out.row.lt;simp only[← hGA];clear hW4 hGA
 go_loopw [49] (fun iv wr=>∃ (i:Nat) (va:Nat→Value),i≤n2∧iv=.int .i64 (i:Int)∧Hid (OwnLL wr (GA+1) 22 64 5 GA N va (fun s=>arcRow (arT t.arcs i s)) (fun s=>(arT t.arcs i s).length))∧Hid (Below W3.heap.size W3 wr)∧GA<wr.heap.size) (fun iv _=>n2-(intOf iv).toNat)
 case atStart=>exact⟨0,_,by omega,rfl,HLL0,HB34,hz4⟩
 case round =>
  clear HLL0 HB34 hz4;obtain⟨i,va,hi,rfl,HLL,HBV,hzr⟩:=hrel;by_cases hin:i<n2
  ·
   obtain⟨b,off,x,rfl,hbB,d0,d1,d2,d3,d4,HX⟩:=arcs_at (HRA.out.below HBV.out (Nat.le_refl _)) hin;have hil:i<t.arcs.length:=by rw[HN2.out];exact hin
   have HXA:=hide (show t.arcs[i]? = some x by rw[List.getElem?_eq_getElem hil,← HX.out];simp[hil]);obtain⟨r0,r1,r2,r3⟩:=HSO.out.rng x (List.mem_of_getElem? HXA.out);have lb:b<wr.heap.size:=by have:=HBV.out.size;omega
   have hkey:x.f.toNat<N:=by omega
   have HSN:=hide (fun (s:Nat)=>arT_next HXA.out s);clear HX hil;go_wp2;generalize hW5:World.alloc _ _=W5;obtain⟨bx,hbx⟩:∃ z,z=wr.heap.size:=⟨_,rfl⟩;have HX5:=hide (show Blk W5 bx 64 #[.int .i64 x.f,.int .i64 x.t,.int .i64 x.i,.int .i64 x.o,.int .i64 x.w] by rw[← hW5];exact Blk.at_ hbx);have HLL5:=hide (show OwnLL W5 (GA+1) 22 64 5 GA N va (fun s=>arcRow (arT t.arcs i s)) (fun s=>(arT t.arcs i s).length) by rw[← hW5];exact HLL.out.alloc _);have HB5:=hide (show Below W3.heap.size W3 W5 by rw[← hW5];exact HBV.out.alloc HBV.out.size _);have hs5:bx<W5.heap.size:=HX5.out.lt;have hZx:GA<bx:=by omega
   simp only[← hbx];have cG:=HLL5.out.row.cell hkey;have fG:=HLL5.out.row.frozen x.f.toNat;have lG:GA<W5.heap.size:=by omega
   obtain⟨vk,hvk⟩:∃ z,z=va x.f.toNat:=⟨_,rfl⟩;have HVK:=hide hvk;rw[← hvk] at cG;have ownk:=HLL5.out.own _ hkey;rw[← hvk] at ownk;have ownk0:=HLL.out.own _ hkey;rw[← hvk] at ownk0;obtain⟨m1,hm1⟩:∃ z,z=(arT t.arcs i x.f.toNat).length:=⟨_,rfl⟩;have hml:m1≤2000:=by rw[hm1];have:=arT_len t.arcs i x.f.toNat;omega
   rw[← hm1] at ownk;have HM1:=hide hm1;have HOWN:=hide ownk;have HLOW:=hide (show ∀ z,vk.ownBlock=some z→GA+1≤z from fun z hz=>(ownk.lt z hz).1);have ne2:vk.ownBlock≠some GA:=fun e=>by have:=(ownk.lt _ e).1;omega
   have HNX:=hide (show vk.ownBlock≠some bx from fun e=>by have:=(ownk0.lt _ e).2;omega);clear hW5 hbx HLL HBV lb d0 d1 d2 d3 d4 hvk hm1 ownk ownk0;have x0:=HX5.out.cell 0;have x1:=HX5.out.cell 1;have x2:=HX5.out.cell 2;have x3:=HX5.out.cell 3;have x4:=HX5.out.cell 4;simp at x0 x1 x2 x3 x4;refine wp_mix (fun w'=>w'.cell? ⟨bx,0,none⟩=some (.int .i64 x.f)∧w'.cell? ⟨bx,1,none⟩=some (.int .i64 x.t)∧w'.cell? ⟨bx,2,none⟩=some (.int .i64 x.i)∧w'.cell? ⟨bx,3,none⟩=some (.int .i64 x.o)∧w'.cell? ⟨bx,4,none⟩=some (.int .i64 x.w)∧w'.cell? ⟨GA,x.f.toNat,none⟩=some vk) 11 [(0,false),(1,false),(2,false),(3,false),(4,false),(5,false),(6,false),(7,false),(8,false),(9,true),(10,true)] (by kernel_rfl) (by kernel_rfl) ?_ ?_
   · go_simp
   simp only[List.drop_succ_cons,List.drop_zero]
   repeat (refine mix_q (v:=?_) (by rfl) (by rfl) ?_ ?_;rotate_left;(focus (intro w' hC;(try dsimp only at hC);go_simp;(first | done | with_reducible rfl)));simp only[Act.put,List.setIfInBounds_toArray,List.set_cons_zero,List.set_cons_succ,List.getElem_toArray,List.getElem_cons_zero,List.getElem_cons_succ])
   refine mix_l (by rfl) (by rfl) (fun K hK=>?_);go_simp;refine hK _ _ (by go_simp) ?_;clear hK K;refine mix_l (by rfl) (by rfl) (fun K hK=>?_);refine wp_append_any _ (.tmp 60) (.tmp 62) 22 rfl (GA+1) 64 ia _ 5 40 Try.underlying22 ha0 ha1 ha2 ha3 rfl (by omega) vk m1 _ rfl (by first | exact (HOWN.out.alloc _).drew | exact HOWN.out.drew.alloc _) _ (some ⟨W5.heap.size,0,none⟩) 1 1 (arcRow [x]) (arcCell [x]) rfl (by exact rd_arcO (t:=64) ((Blk.at_ (by simp)).drew)) (by simp) (by simp[arcRow]) (fun i j hi hj=>arcRow_at _ i j (by simpa using hi) hj) (arcRow_one _) (by simp only[maxLen];omega) (by omega) (by simp<;>omega) ?_;intro v' w6 hown2 hg2 hat2;obtain⟨Av,cv,rfl,hkcv,_⟩:=own_value hown2;have HAT:=hide hat2;have fG1:w6.frozen? ⟨GA,x.f.toNat,none⟩=false:=far_free hg2 ne2 (by simp;omega) (((HLL5.out.alloc _).drew).row.frozen _);have cG1:w6.cell? ⟨GA,x.f.toNat,none⟩=some vk:=far_cell hg2 ne2 (by rw[HVK.out];exact ((HLL5.out.alloc _).drew).row.cell hkey);have lG1:GA<w6.heap.size:=by have:=hg2.size;simp at this;omega
   refine hK _ _ ⟨far_cell hg2 HNX.out (((HX5.out.alloc _).drew).cell 0),far_cell hg2 HNX.out (((HX5.out.alloc _).drew).cell 1),far_cell hg2 HNX.out (((HX5.out.alloc _).drew).cell 2),far_cell hg2 HNX.out (((HX5.out.alloc _).drew).cell 3),far_cell hg2 HNX.out (((HX5.out.alloc _).drew).cell 4),cG1⟩ ?_;clear hK K cG x0 x1 x2 x3 x4;refine mix_nil ?_;try simp only[Act.put,List.setIfInBounds_toArray,List.set_cons_zero,List.set_cons_succ,List.getElem_toArray,List.getElem_cons_zero,List.getElem_cons_succ]
   go_wp2;refine NoPanic.normal ?_;go_wp2;have hs6:=hg2.size;simp at hs6
   have HLN:=hide ((((HLL5.out.alloc _).drew.push hkey (HVK.out▸hg2) hown2 (HAT.out.elim (fun e=>.inl (by rw[← HVK.out];exact e)) (fun e=>.inr ⟨_,e,Nat.le_refl _⟩))).congr (L':=fun s=>arcRow (arT t.arcs (i+1) s)) (m':=fun s=>(arT t.arcs (i+1) s).length) (fun s hs=>by
    rw[HSN.out];by_cases e:s=x.f.toNat
    ·
     subst e;rw[if_pos rfl,if_pos (by omega),arcRow_append]
    · rw[if_neg e,if_neg (fun g=>e (by omega))]) (fun s hs=>by
    rw[HSN.out];by_cases e:s=x.f.toNat
    ·
     subst e;rw[if_pos rfl,if_pos (by omega),List.length_append,HM1.out];rfl
    · rw[if_neg e,if_neg (fun g=>e (by omega))])))
   have HBN:=hide ((((HB5.out.alloc HB5.out.size _).drew).grown hg2 (by simp<;>omega) (fun z hz=>by have:=HLOW.out z hz;omega)).setCell (p:=⟨GA,x.f.toNat,none⟩) (by exact h3G) (.slice Av (m1+1) cv));clear hown2 hg2 hat2 fG fG1 cG1;go_roundw
   case rel=>exact⟨i+1,_,by omega,by go_num,HLN,HBN,by simp[World.setCell];omega⟩
   case measure=>simp[intOf];omega
  ·
   obtain rfl:n2=i:=by omega
   have HLA:=hide (show OwnLL wr (GA+1) 22 64 5 GA N va (fun s=>arcRow (arT t.arcs t.arcs.length s)) (fun s=>(arT t.arcs t.arcs.length s).length) by rw[HN2.out];exact HLL.out);have HX5:=hide (HX3.out.below HBV.out lX3);obtain⟨W5,hW5⟩:∃ z,z=wr:=⟨_,rfl⟩;rw[← hW5] at HLA HBV hzr HX5 ⊢;have x0:=HX5.out.cell 0;have x2:=HX5.out.cell 2;simp at x0 x2;have lX5:X<W5.heap.size:=HX5.out.lt;clear hW5 HLL;have hmk:=HMKB.out;go_upto_region 12 with fail
   clear hmk x0 x2;generalize hW6:World.alloc _ _=W6;obtain⟨GF,hGF⟩:∃ z,z=W5.heap.size:=⟨_,rfl⟩;have HFR0:=hide (show W6.rowIs GF 4 N (fun s=>.bool (fnB t.fins 0 s)) by rw[← hW6,hGF,fnB_zero];exact World.rowIs_made W5 (.bool false) N 4);have HB56:=hide (show Below W5.heap.size W5 W6 by rw[← hW6];exact (Below.refl _ _).alloc (Nat.le_refl _) _);have h5F:W5.heap.size≤GF:=by omega
   have hz6:GF<W6.heap.size:=HFR0.out.lt;simp only[← hGF];clear hW6 hGF
   go_loopw [72] (fun iv wr=>∃ i:Nat,i≤nf2∧iv=.int .i64 (i:Int)∧Hid (wr.rowIs GF 4 N (fun s=>.bool (fnB t.fins i s)))∧Hid (Below W5.heap.size W5 wr)∧GF<wr.heap.size) (fun iv _=>nf2-(intOf iv).toNat)
   case atStart=>exact⟨0,by omega,rfl,HFR0,HB56,hz6⟩
   case round =>
    clear HFR0 HB56 hz6;obtain⟨i,hi,rfl,HFR,HB5r,hz6⟩:=hrel;have HB3r:=hide (HBV.out.trans (HB5r.out.mono HBV.out.size));by_cases hin:i<nf2
    ·
     obtain⟨b,off,x,rfl,hbB,d0,d1,HX⟩:=fins_at (HRF.out.below HB3r.out (Nat.le_refl _)) hin;have hxm:=getDF_mem (by rw[HF2.out];exact hin) HX.out;obtain⟨r0,r1⟩:=HSO.out.frng x hxm;have hkey:x.s.toNat<N:=by omega
     have hil:i<t.fins.length:=by rw[HF2.out];exact hin
     have HNX:=hide (fnB_next (F:=t.fins) (i:=i) (x:=x) (by rw[List.getElem?_eq_getElem hil,← HX.out];simp[hil]) r0);have lb:b<wr.heap.size:=by have:=HB3r.out.size;omega
     have cF:=HFR.out.cell hkey;have fF:=HFR.out.frozen x.s.toNat;clear HX hxm hil;go_wp2;go_roundw
     case rel=>exact⟨i+1,by omega,by go_num,hide (((HFR.out.set x.s.toNat (.bool true)).congr (fun s _=>by rw[← HNX.out];exact upd_val _ _ _)).alloc _),hide ((HB5r.out.setCell (p:=⟨GF,x.s.toNat,none⟩) (by exact h5F) _).alloc (by have:=HB5r.out.size;simpa using this) _),by simp[World.setCell];omega⟩
     case measure=>simp[intOf];omega
    ·
     obtain rfl:nf2=i:=by omega
     have HFE:=hide (show wr.rowIs GF 4 N (fun s=>.bool (fnB t.fins t.fins.length s)) by rw[HF2.out];exact HFR.out);have HLA7:=hide (HLA.out.below HB5r.out);have HM7:=hide (HM3.out.below HB3r.out HM3.out.lt);have HR7:=hide (HR3.out.below HB3r.out HR3.out.lt);have HBW7:=hide (HB3.out.trans (HB3r.out.mono HB3.out.size));obtain⟨W7,hW7⟩:∃ z,z=wr:=⟨_,rfl⟩;rw[← hW7] at HFE HLA7 HM7 HR7 HBW7 ⊢;have hM7:M<W7.heap.size:=HM7.out.lt;have hR7:R<W7.heap.size:=HR7.out.lt;clear hW7 HFR HB5r HB3r HLA HX5 HBV HRA HRF HX3 HM3 HR3 HB3 HMKA HMKB hz6 hzr lX5 lX3 h5F h3G hn22 hnf22 hn2c hnf2c hn2b hnf2b HN2 HF2;go_upto_region 18 with fail
     generalize hW8:World.alloc _ _=W8;obtain⟨D,hD⟩:∃ z,z=W7.heap.size:=⟨_,rfl⟩;have HD8:=hide (show Blk W8 D 25 #[.int .i64 0,.slice none 0 0,.slice none 0 0] by rw[← hW8];exact ((Blk.at_ hD).alloc _).alloc _);have HS8:=hide (show Blk W8 (D+1) 3 #[.int .i64 0] by rw[← hW8];exact (Blk.at_ (by simp[hD])).alloc _);have HG8:=hide (show Blk W8 (D+1+1) 26 #[.slice (some ⟨D+1,0,none⟩) 1 1] by rw[← hW8,hD];exact Blk.at_ (by simp));have HB78:=hide (show Below W7.heap.size W7 W8 by rw[← hW8];exact (((Below.refl _ _).alloc (Nat.le_refl _) _).alloc (by simp) _).alloc (by simp;omega) _)
     have HOM8:=hide (show OwnM W8 (D+1) 26 3 1 (.slice (some ⟨D+1+1,0,none⟩) 1 1) 1 (fun _=>.slice (some ⟨D+1,0,none⟩) 1 1) (fun k=>intRow (([[0]]:List (List Int)).getD k [])) (fun k=>(([[0]]:List (List Int)).getD k []).length) from
      ⟨own_of_blk HG8.out (by omega) (by simp[maxLen]),fun k hk=>by
       obtain rfl:k=0:=by omega
       exact own_of_blk HS8.out (Nat.le_refl _) (by simp[maxLen]),fun k j hk hj hne=>by omega⟩)
     have h7D:W7.heap.size≤D:=by omega
     have lD8:D<W8.heap.size:=HD8.out.lt;have g0:=HG8.out.cell 0;simp at g0;have lG8:D+1+1<W8.heap.size:=HG8.out.lt;simp only[← hD];clear hW8 hD;have hmm:=@run_makeMap Try.prog;go_wp2_with fail;refine (key_any [0] (some ⟨D+1,0,none⟩) 1 1 _ (W8.alloc (Obj.map #[] 0)).heap.size (Nat.le_refl _) rfl (by omega) (by exact rd_single (t:=3) (HS8.out.alloc _)) (fun s hs=>by rw[List.mem_singleton.1 hs];omega)).mono ?_;rintro e w9 ⟨rfl,hb9⟩;have HM9:=hide ((MapIs.made W8 kvS okS).below hb9 (by simp));have HB89:=hide (show Below W8.heap.size W8 w9 from ((Below.refl _ _).alloc (Nat.le_refl _) _).trans (hb9.mono (by simp)));obtain⟨Mb,hMb⟩:∃ z,z=W8.heap.size:=⟨_,rfl⟩;have HOK0:=hide (show okS (keyS [0]) from keyS_ok ⟨by simp,fun s hs=>by rw[List.mem_singleton.1 hs];omega⟩);have hDM:D<Mb:=by omega
     have hz9:Mb<w9.heap.size:=by have:=hb9.size;simp at this;omega
     rw[← hMb] at HM9;simp only[← hMb];clear hb9 hmm g0 HS8 HG8;go_upto_region 20 with (refine wpList_insert rfl _ _ _ 87 rfl kl_str Try.underlying87 rfl HM9.out (keyS [0]) rfl HOK0.out (.int .i64 0) rfl ?_;intro w10 hm10 hg10 hz10)
     have HB810:=hide (show Below W8.heap.size W8 w10 from HB89.out.grown hg10 HB89.out.size (fun z hz=>by injection hz with hz;omega));have HMP:=hide (show MapIs w10 kvS okS Mb (numE ((StD t 0).1.1.map keyS) 0) from hm10);have HOM:=hide (show OwnM w10 (D+1) 26 3 1 (.slice (some ⟨D+1+1,0,none⟩) 1 1) (StD t 0).1.1.length (fun _=>.slice (some ⟨D+1,0,none⟩) 1 1) (fun k=>intRow ((StD t 0).1.1.getD k [])) (fun k=>((StD t 0).1.1.getD k []).length) from HOM8.out.below HB810.out);have HD10:=hide (HD8.out.below HB810.out lD8);have HB710:=hide (HB78.out.trans (HB810.out.mono HB78.out.size));obtain⟨Z,hZ⟩:∃ z,z=w10.heap.size:=⟨_,rfl⟩;have hMZ:Mb<Z:=by omega
     have HMBE:=hide hMb;have hZ10:Z≤w10.heap.size:=by omega
     have HMG:=hide (show Mg 25 64 69 w10 D Z 0 0 (StD t 0).1.2 0 (StD t 0).2 from Mg.start HD10.out Z);clear hZ hMb hm10 hg10 hz10 hz9 HM9 HB89 HOK0 HOM8 HB78 HD8 HB810 HD10 lD8 lG8
     go_loopg [12,14] 401 (fun gk sv av wr=>∃ (i q r:Nat) (vs:Nat→Value),av=.int .i64 (i:Int)∧i≤(StD t i).1.1.length∧(StD t i).1.1.length≤400∧q≤2000∧r≤i∧401-i≤gk∧Hid (OwnM wr (D+1) 26 3 1 sv (StD t i).1.1.length vs (fun k=>intRow ((StD t i).1.1.getD k [])) (fun k=>((StD t i).1.1.getD k []).length))∧Hid (MapIs wr kvS okS Mb (numE ((StD t i).1.1.map keyS) 0))∧Hid (Mg 25 64 69 wr D Z 0 q (StD t i).1.2 r (StD t i).2)∧Hid (Below W7.heap.size W7 wr)∧Z≤wr.heap.size)
     case atStart=>exact⟨0,0,0,_,rfl,Nat.zero_le _,(show 1≤400 by omega),by omega,by omega,by omega,HOM,HMP,HMG,HB710,hZ10⟩
     case round =>
      clear HOM HMP HMG HB710 hZ10;obtain⟨i,q,r,vs,rfl,hil,hl4,hq2,hri,hgk,HOM,HMP,HMG,HB7r,hZr⟩:=hrel;have HOKS:=hide (stD_ok HSO.out.rng HSO.out.pos i);obtain⟨As,cs,rfl,hcs,_⟩:=own_value HOM.out.out;obtain⟨ln,hln⟩:∃ z,z=(StD t i).1.1.length:=⟨_,rfl⟩;have HLN:=hide hln;rw[← hln] at hil hl4 HOM hcs ⊢;clear hln;by_cases hin:i<ln
      ·
       obtain⟨S,hS⟩:∃ S,(StD t i).1.1[i]? = some S:=⟨_,List.getElem?_eq_getElem (by rw[← HLN.out];exact hin)⟩;have HST:=hide hS;have hok:=HOKS.out S (List.mem_of_getElem? hS);have HOS:=hide hok;obtain⟨g,c,hgv,hnc,hg1,hg2,hgc⟩:=HOM.out.at_ hin;injection hgv with hgv _ hgc'
       subst hgv hgc';have hoi:=HOM.out.own i hin;have hSi:(StD t i).1.1.getD i []=S:=by rw[List.getD_eq_getElem?_getD,hS];rfl
       simp only[hSi] at hoi;obtain⟨nS,hnS⟩:∃ z,z=S.length:=⟨_,rfl⟩;have HNS:=hide hnS;rw[← hnS] at hoi;have hnS4:nS≤400:=by rw[hnS];have:=hok.len;omega
       obtain⟨Ai,ci,hvi,hci,_⟩:=own_value hoi;rw[hvi] at hoi hgc;have HRS:=hide (Rd.of_own hoi (fun i' j' hi' hj'=>intRow_at S i' j' (by rw[← hnS];exact hi') hj'));clear hS hok hSi hnS hvi hoi;have hmm:=@run_makeMap Try.prog;have HMGi:=HMG.out;obtain⟨W11,hW11⟩:∃ z,z=wr:=⟨_,rfl⟩;rw[← hW11] at HOM HMP HMG HB7r hZr hgc hg2 HRS ⊢;clear hW11 HMGi;go_upto_region 26 with fail
       clear hmm hgc;generalize hW12:World.alloc _ _=W12;obtain⟨H,hH⟩:∃ z,z=W11.heap.size:=⟨_,rfl⟩
       have HTO0:=hide (show ToI W12 H 3 H (.slice none 0 0) (labV (visS t.arcs S 0)) (visS t.arcs S 0) [] (fun _=>.slice none 0 0) by
        rw[visS_zero,labV_nil,← hW12,hH]
        exact ToI.nil (MapIs.made W11 kvI okI) (Nat.le_refl _))
       have HB112:=hide (show Below W11.heap.size W11 W12 by rw[← hW12];exact (Below.refl _ _).alloc (Nat.le_refl _) _);have h11H:W11.heap.size≤H:=by omega
       have hE0:=hide (endS_zero t.fins S);simp only[← hH];clear hW12 hH
       go_loopw [16,17,101] (fun lv ev jv wr=>∃ (j:Nat) (eb:Bool) (L:List (Int×Value)) (vx:Int→Value),j≤nS∧jv=.int .i64 (j:Int)∧ev=.bool eb∧Hid (eb=endS t.fins S j)∧Hid (ToI wr H 3 H lv (labV (visS t.arcs S j)) (visS t.arcs S j) L vx)∧Hid (Below W11.heap.size W11 wr)) (fun _ _ jv _=>nS-(intOf jv).toNat)
       case atStart=>exact⟨0,false,_,_,by omega,rfl,rfl,hide hE0.symm,HTO0,HB112⟩
       case round =>
        clear HTO0 HB112 hE0;obtain⟨j,eb,L,vx,hj,rfl,rfl,HEB,HTO,HB11⟩:=hrel;have HB7v:=hide (HB7r.out.trans (HB11.out.mono HB7r.out.size));by_cases hjS:j<nS
        ·
         obtain⟨bb,off,x,rfl,hbB,d0,HX⟩:=num_at (HRS.out.below HB11.out (Nat.le_refl _)) hjS;have hjl:j<S.length:=by rw[← HNS.out];exact hjS
         have hx0:S[j]? = some x:=by rw[← HX.out,List.getElem?_eq_getElem hjl];simp[List.getD,hjl]
         obtain⟨r0,r1⟩:=HOS.out.2 x (List.mem_of_getElem? hx0);have HVN:=hide (visS_next (A:=t.arcs) hx0);have HEN:=hide (endS_next (F:=t.fins) hx0);rw[← HEB.out] at HEN;have hxN:x.toNat<N:=by omega
         obtain⟨fb,hfb⟩:∃ z,z=fnB t.fins t.fins.length x.toNat:=⟨_,rfl⟩;rw[← hfb] at HEN;have h7z:=HB7v.out.size;have cf:wr.cell? ⟨GF,x.toNat,none⟩=some (.bool fb):=by rw[hfb];exact keep_cell HB7v.out (HFE.out.cell hxN) HFE.out.lt
         have lFr:GF<wr.heap.size:=by have:=HFE.out.lt;omega
         obtain⟨AA,cA,ca0,hra⟩:=arcl_at HLA7.out hxN;have HRA:=hide hra;have ca:=keep_cell HB7v.out ca0 HLA7.out.row.lt;have lAr:GA<wr.heap.size:=by have:=HLA7.out.row.lt;omega
         obtain⟨q1,hq1⟩:∃ z,z=(arT t.arcs t.arcs.length x.toNat).length:=⟨_,rfl⟩;rw[← hq1] at ca HRA;have hq12:q1≤2000:=by have:=arT_len t.arcs t.arcs.length x.toNat;have:=HSO.out.len;omega
         have HQL:=hide hq1;have lbb:bb<wr.heap.size:=by have:=HB11.out.size;omega
         clear HX hjl hx0 hfb hra hq1 ca0 HEB;obtain⟨W13,hW13⟩:∃ z,z=wr:=⟨_,rfl⟩;rw[← hW13] at HTO HB11 HB7v d0 cf ca lFr lAr lbb ⊢;clear hW13;go_upto_region 28 with fail
         go_cut [17] from 102 to 143 (fun s17 wx=>s17=.bool (eb||fb)∧wx=W13)
         case first =>
          cases eb
          ·
           cases fb
           ·
            go_wp2;go_meet;exact⟨rfl,rfl⟩
           ·
            go_wp2;go_meet;exact⟨rfl,rfl⟩
          ·
           go_wp2;go_meet;exact⟨rfl,rfl⟩
         case rest =>
          obtain⟨rfl,hwc⟩:=hcut;subst hwc;obtain⟨eb2,heb2⟩:∃ z,z=(eb||fb):=⟨_,rfl⟩;rw[← heb2] at HEN ⊢;have HTO13:=hide (show ToI wc H 3 H u16 (labV (visS t.arcs S j++(arT t.arcs t.arcs.length x.toNat).take 0)) (visS t.arcs S j++(arT t.arcs t.arcs.length x.toNat).take 0) L vx by simpa using HTO.out);clear heb2 cf d0 HTO;go_upto_region 30 with fail
          clear ca
          go_loopw [16,117] (fun lv kv wr=>∃ (k:Nat) (L:List (Int×Value)) (vx:Int→Value),k≤q1∧kv=.int .i64 (k:Int)∧Hid (ToI wr H 3 H lv (labV (visS t.arcs S j++(arT t.arcs t.arcs.length x.toNat).take k)) (visS t.arcs S j++(arT t.arcs t.arcs.length x.toNat).take k) L vx)∧Hid (Below W11.heap.size W11 wr)) (fun _ kv _=>q1-(intOf kv).toNat)
          case atStart=>exact⟨0,_,_,by omega,rfl,HTO13,HB11⟩
          case round =>
           clear HTO13 HB11 HB7v lFr lAr lbb h7z;obtain⟨k,L,vx,hk,rfl,HTO,HB11⟩:=hrel;have HB7v:=hide (HB7r.out.trans (HB11.out.mono HB7r.out.size));by_cases hkq:k<q1
           ·
            obtain⟨b2,off2,y,rfl,hbB2,e0,e1,e2,e3,e4,HX⟩:=arcs_at (HRA.out.below HB7v.out (Nat.le_refl _)) hkq;have hyl:=getD_mem (by rw[← HQL.out];exact hkq) HX.out;have hyA:=(arT_mem.1 hyl).1;obtain⟨l0,l1⟩:=HSO.out.lab y hyA;obtain⟨p0,p1,p2,p3⟩:=HSO.out.rng y hyA;have HTK:=hide (show visS t.arcs S j++(arT t.arcs t.arcs.length x.toNat).take (k+1)=(visS t.arcs S j++(arT t.arcs t.arcs.length x.toNat).take k)++[y] by rw[take_push (by rw[← HQL.out];exact hkq) HX.out,List.append_assoc]);obtain⟨V,hV⟩:∃ z,z=visS t.arcs S j++(arT t.arcs t.arcs.length x.toNat).take k:=⟨_,rfl⟩
            have hVl:V.length≤802000:=by
             rw[hV,List.length_append,List.length_take];have h1:=visS_len t.arcs S j;have h2:j*t.arcs.length≤400*2000:=Nat.mul_le_mul (by omega) HSO.out.len;omega
            rw[← hV] at HTO HTK;have HOKI:=hide (show okI y.i from ⟨by omega,by omega⟩);have h7z:=HB7v.out.size;have h11z:=HB11.out.size;have lb2:b2<wr.heap.size:=by omega
            clear HX hyl hyA hV;go_upto_region 32 with fail
            generalize hW5:World.alloc _ _=W5;obtain⟨bx,hbx⟩:∃ z,z=wr.heap.size:=⟨_,rfl⟩;have HX5:=hide (show Blk W5 bx 64 #[.int .i64 y.f,.int .i64 y.t,.int .i64 y.i,.int .i64 y.o,.int .i64 y.w] by rw[← hW5];exact Blk.at_ hbx);have HTO5:=hide (show ToI W5 H 3 H u16 (labV V) V L vx by rw[← hW5];exact HTO.out.alloc _);have HB5:=hide (show Below W11.heap.size W11 W5 by rw[← hW5];exact HB11.out.alloc h11z _);have hHx:H<bx:=by have:=HTO.out.map.lt;omega
            simp only[← hbx];clear hW5 hbx HTO HB11 HB7v e0 e1 e2 e3 e4 lb2 h7z h11z;have lx5:bx<W5.heap.size:=HX5.out.lt;have y2:=HX5.out.cell 2;simp at y2;have y1:=HX5.out.cell 1;simp at y1;by_cases hmem:y.i∈labV V
            ·
             have hlk:(lk L y.i).getD (.slice none 0 0)=vx y.i:=by rw[HTO5.out.dom,if_pos hmem];rfl
             have hpos:=tgt_pos hmem;have HOV:=hide (HTO5.out.own _ hmem);obtain⟨g5,c5,hv5,_,_⟩:=HOV.out.form hpos;have HV0:=hide (show (if y.i∈labV V then vx y.i else .slice none 0 0)=Value.slice (some ⟨g5,0,none⟩) (tgtV V y.i).length c5 by rw[if_pos hmem,hv5]);rw[hv5] at hlk HOV;have HLK:=hide hlk;have HLV:=hide (show labV (V++[y])=labV V by rw[labV_snoc];unfold addL;rw[if_pos hmem]);obtain⟨m5,hm5⟩:∃ z,z=(tgtV V y.i).length:=⟨_,rfl⟩;have hm58:m5≤802000:=by rw[hm5];have:=tgtV_len V y.i;omega
             have HM5:=hide hm5;rw[← hm5] at HLK HOV HV0;have HNB:=hide (show (Value.slice (some ⟨g5,0,none⟩) m5 c5).ownBlock≠some bx from own_bne HOV.out HX5.out (by decide));clear hlk hv5 hpos hmem hm5;have hEq:=fun W=>eql_nil ⟨g5,0,none⟩ m5 c5 W
             go_wp2_with (at_lookup;refine wpList_look_one rfl _ _ 88 rfl kl_int Try.underlying88 zero_ints' rfl HTO5.out.map y.i rfl HOKI.out _ HLK.out ?_);have HTOx:=hide (show ToI W5 H 3 H u16 (labV (V++[y])) V L vx by rw[HLV.out];exact HTO5.out)
             have HLE:=hide (fun (wx:World) (h:MapIs wx kvI okI H L)=>(show (Instr.lookup 88 (.map (some H)) (.int .i64 y.i) false).run Try.prog wx=.ok (.slice (some ⟨g5,0,none⟩) m5 c5) wx by
              have h1:=h.run_look kl_int Try.underlying88 (zero_ints' wx) HOKI.out false;rw[HLK.out] at h1
              exact h1))
             refine wp_mix (fun w'=>w'.cell? ⟨bx,1,none⟩=some (.int .i64 y.t)∧w'.cell? ⟨bx,2,none⟩=some (.int .i64 y.i)∧(Instr.lookup 88 (.map (some H)) (.int .i64 y.i) false).run Try.prog w'=.ok (.slice (some ⟨g5,0,none⟩) m5 c5) w') 11 [(0,false),(1,false),(2,false),(3,false),(4,false),(5,false),(6,false),(7,false),(8,false),(9,true),(10,true)] (by kernel_rfl) (by kernel_rfl) ⟨by go_simp,by go_simp,HLE.out _ HTOx.out.drew.map⟩ ?_;simp only[List.drop_succ_cons,List.drop_zero]
             (refine mix_q (v:=?_) (by rfl) (by rfl) ?_ ?_;rotate_left;(focus (intro w' hC;(try dsimp only at hC);go_simp;(first | done | with_reducible rfl)));simp only[Act.put,List.setIfInBounds_toArray,List.set_cons_zero,List.set_cons_succ,List.getElem_toArray,List.getElem_cons_zero,List.getElem_cons_succ])
             (refine mix_q (v:=?_) (by rfl) (by rfl) ?_ ?_;rotate_left;(focus (intro w' hC;(try dsimp only at hC);go_simp;(first | done | with_reducible rfl)));simp only[Act.put,List.setIfInBounds_toArray,List.set_cons_zero,List.set_cons_succ,List.getElem_toArray,List.getElem_cons_zero,List.getElem_cons_succ])
             (refine mix_q (v:=?_) (by rfl) (by rfl) ?_ ?_;rotate_left;(focus (intro w' hC;(try dsimp only at hC);go_simp;(first | done | with_reducible rfl)));simp only[Act.put,List.setIfInBounds_toArray,List.set_cons_zero,List.set_cons_succ,List.getElem_toArray,List.getElem_cons_zero,List.getElem_cons_succ])
             (refine mix_q (v:=?_) (by rfl) (by rfl) ?_ ?_;rotate_left;(focus (intro w' hC;(try dsimp only at hC);go_simp;(first | done | with_reducible rfl)));simp only[Act.put,List.setIfInBounds_toArray,List.set_cons_zero,List.set_cons_succ,List.getElem_toArray,List.getElem_cons_zero,List.getElem_cons_succ])
             (refine mix_q (v:=?_) (by rfl) (by rfl) ?_ ?_;rotate_left;(focus (intro w' hC;(try dsimp only at hC);go_simp;(first | done | with_reducible rfl)));simp only[Act.put,List.setIfInBounds_toArray,List.set_cons_zero,List.set_cons_succ,List.getElem_toArray,List.getElem_cons_zero,List.getElem_cons_succ])
             (refine mix_q (v:=?_) (by rfl) (by rfl) ?_ ?_;rotate_left;(focus (intro w' hC;(try dsimp only at hC);go_simp;(first | done | with_reducible rfl)));simp only[Act.put,List.setIfInBounds_toArray,List.set_cons_zero,List.set_cons_succ,List.getElem_toArray,List.getElem_cons_zero,List.getElem_cons_succ])
             refine mix_q (v:=.slice (some ⟨g5,0,none⟩) m5 c5) (by rfl) (by rfl) (fun w' hC=>exec_look rfl rfl rfl hC.2.2) ?_
             try simp only[Act.put,List.setIfInBounds_toArray,List.set_cons_zero,List.set_cons_succ,List.getElem_toArray,List.getElem_cons_zero,List.getElem_cons_succ]
             (refine mix_q (v:=?_) (by rfl) (by rfl) ?_ ?_;rotate_left;(focus (intro w' hC;(try dsimp only at hC);go_simp;(first | done | with_reducible rfl)));simp only[Act.put,List.setIfInBounds_toArray,List.set_cons_zero,List.set_cons_succ,List.getElem_toArray,List.getElem_cons_zero,List.getElem_cons_succ])
             (refine mix_q (v:=?_) (by rfl) (by rfl) ?_ ?_;rotate_left;(focus (intro w' hC;(try dsimp only at hC);go_simp;(first | done | with_reducible rfl)));simp only[Act.put,List.setIfInBounds_toArray,List.set_cons_zero,List.set_cons_succ,List.getElem_toArray,List.getElem_cons_zero,List.getElem_cons_succ])
             refine mix_l (by rfl) (by rfl) (fun K hK=>?_);go_simp;refine hK _ _ ⟨by go_simp,by go_simp,HLE.out _ ((HTOx.out.alloc _).drew.map)⟩ ?_;clear hK K;refine mix_l (by rfl) (by rfl) (fun K hK=>?_);refine wp_append_any _ (.tmp 137) (.tmp 140) 26 rfl H 3 i0 _ 1 8 Try.underlying26 hi0 iz0 iz1 iz2 rfl (by omega) (.slice (some ⟨g5,0,none⟩) m5 c5) m5 _ rfl ((HOV.out.alloc _).drew) _ (some ⟨W5.heap.size,0,none⟩) 1 1 (intRow [y.t]) (intCell [y.t]) rfl (by exact rd_single (t:=3) ((Blk.at_ (by simp)).drew)) (by simp) (by simp[intRow]) (fun i j hi hj=>intRow_at _ i j (by simpa using hi) hj) (intRow_one _) (by simp only[maxLen];omega) (by omega) (by simp<;>omega) ?_;intro v7 w7 hown7 hg7 hat7;have Q1:=hide ((HTOx.out.alloc (Obj.cells #[.int .i64 y.t] 3)).drew);have Q2:=hide ((HOV.out.alloc (Obj.cells #[.int .i64 y.t] 3)).drew);have Q3:=hide ((HX5.out.alloc (Obj.cells #[.int .i64 y.t] 3)).drew);have Q4:=hide (own_nmap Q2.out Q1.out.map);have HM7:=hide (show MapIs w7 kvI okI H L from Q1.out.map.kept hg7 (Ne.symm Q4.out));have HX7:=hide (Q3.out.grown hg7 (Ne.symm HNB.out));clear Q2 Q3 Q4;have HG7:=hide hg7;have HOW7:=hide hown7;have HAT7:=hide hat7;refine hK _ _ ⟨HX7.out.cell 1,HX7.out.cell 2,HLE.out _ HM7.out⟩ ?_;clear hK K hg7 hown7 hat7 y1 y2;refine mix_nil ?_;try simp only[Act.put,List.setIfInBounds_toArray,List.set_cons_zero,List.set_cons_succ,List.getElem_toArray,List.getElem_cons_zero,List.getElem_cons_succ]
             go_wp2_with (at_mapUpdate;go_loud (refine wpList_mapup rfl _ _ _ 88 rfl kl_int Try.underlying88 rfl HM7.out y.i rfl HOKI.out v7 rfl ?_;intro w9 hm9 hg9 hz9;have HM9:=hide hm9;have HG9:=hide hg9;clear hm9 hg9));refine NoPanic.normal ?_;go_wp2
             have HTN:=hide (Q1.out.pushT (a:=y) HV0.out.symm HG7.out (by rw[← HM5.out];exact HOW7.out) (by
              rcases HAT7.out with e | e
              · exact .inl e
              · exact .inr ⟨_,e,Nat.le_refl _⟩) HM9.out HG9.out)
             rw[← HTK.out] at HTN;have hw11:W11.heap.size≤W5.heap.size:=HB5.out.size;have P5:=(HB5.out.alloc hw11 (Obj.cells #[.int .i64 y.t] 3)).drew;have HBN:=hide ((P5.grown HG7.out P5.size (fun z hz=>by have:=(HOV.out.lt z hz).1;omega)).grown HG9.out (by have:=HG7.out.size;simp at this;omega) (fun z hz=>by injection hz with hz;omega));clear P5 Q1 HG7 HG9 HM9 HM7 HX7 HOW7 HAT7 HLE;go_roundw
             case rel=>exact⟨k+1,_,_,by omega,by go_num,HTN,HBN⟩
             case measure=>simp[intOf];omega
            ·
             have hlk:(lk L y.i).getD (.slice none 0 0)=.slice none 0 0:=by rw[HTO5.out.dom,if_neg hmem];rfl
             have HLK:=hide hlk;have HV0:=hide (show (if y.i∈labV V then vx y.i else .slice none 0 0)=Value.slice none 0 0 by rw[if_neg hmem]);have HLV:=hide (show labV (V++[y])=labV V++[y.i] by rw[labV_snoc];unfold addL;rw[if_neg hmem])
             have HM5:=hide (show 0=(tgtV V y.i).length by
              cases e:tgtV V y.i with
              | nil=>rfl
              | cons a l =>
               exfalso;obtain⟨b,hb,hbi,_⟩:=tgtV_mem.1 (show a∈tgtV V y.i by rw[e];exact List.mem_cons_self)
               exact hmem ((labV_mem V y.i).2 ⟨b,hb,hbi⟩))
             obtain⟨Av,cv,hlv,hcv,_⟩:=own_value HTO5.out.lab;obtain⟨n5,hn5⟩:∃ z,z=(labV V).length:=⟨_,rfl⟩;have hn58:n5≤802000:=by rw[hn5];have:=labV_len V;omega
             have HN5:=hide hn5;have HOL:=hide HTO5.out.lab;rw[← hn5] at hlv HOL;subst hlv;have hHW:H≤W5.heap.size:=by have:=HTO5.out.map.lt;omega
             have HNX:=hide (show (Value.slice Av n5 cv).ownBlock≠some bx from own_bne HOL.out HX5.out (by decide));have hm58:0≤802000:=by omega
             clear hlk hmem hn5;have hEq:=fun W=>eql_nil2 W
             go_wp2_with (first
              | (at_lookup;refine wpList_look_one rfl _ _ 88 rfl kl_int Try.underlying88 zero_ints' rfl HTO5.out.map y.i rfl HOKI.out _ HLK.out ?_)
              | (at_builtin;go_loud (refine wpList_append_own_at _ rfl (.tmp 126) (.tmp 129) 26 rfl H 3 i0 _ 1 8 Try.underlying26 hi0 iz0 iz1 iz2 rfl (by omega) (.slice Av n5 cv) n5 (intRow (labV V)) rfl (HOL.out.alloc _) ⟨W5.heap.size,0,none⟩ 1 1 (intRow [y.i]) rfl (by rfl) (World.news_of_block (cs:=(intRow [y.i]).toArray) (t:=3) (fr:=(0,0)) (Blk.at_ rfl)) (intRow_one _) (by simp only[maxLen];omega) (by omega) (by simp<;>omega) ?_;intro v' w6 hown2 hg2 _ hat2;have HOW2:=hide hown2;have HG2:=hide hg2;have HAT:=hide hat2;clear hown2 hg2 hat2)))
             have HX6:=hide ((HX5.out.alloc _).grown HG2.out (Ne.symm HNX.out));have HB6:=hide ((HB5.out.alloc HB5.out.size _).grown HG2.out (by have:=HB5.out.size;simp;omega) (fun z hz=>by have:=(HOL.out.lt z hz).1;omega))
             have HTOx:=hide (show ToI w6 H 3 H v' (labV (V++[y])) V L vx by
              rw[HLV.out]
              exact (HTO5.out.alloc _).pushL HG2.out (by rw[← HN5.out];exact HOW2.out) (by
               rcases HAT.out with e | e
               · exact .inl e
               · exact .inr ⟨_,e,Nat.le_refl _⟩))
             clear HTO5 HX5 HB5 HOW2 HG2 HAT HNX HOL y1 y2 lx5 hHW;have HOV:=hide (World.ownsRow_nil w6 H 3 1);have HNB:=hide (show (Value.slice none 0 0).ownBlock≠some bx by simp[Value.ownBlock]);have lx5:bx<w6.heap.size:=HX6.out.lt;have y1:=HX6.out.cell 1;have y2:=HX6.out.cell 2;simp at y1 y2
             have HLE:=hide (fun (wx:World) (h:MapIs wx kvI okI H L)=>(show (Instr.lookup 88 (.map (some H)) (.int .i64 y.i) false).run Try.prog wx=.ok (.slice none 0 0) wx by
              have h1:=h.run_look kl_int Try.underlying88 (zero_ints' wx) HOKI.out false;rw[HLK.out] at h1
              exact h1))
             refine wp_mix (fun w'=>w'.cell? ⟨bx,1,none⟩=some (.int .i64 y.t)∧w'.cell? ⟨bx,2,none⟩=some (.int .i64 y.i)∧(Instr.lookup 88 (.map (some H)) (.int .i64 y.i) false).run Try.prog w'=.ok (.slice none 0 0) w') 11 [(0,false),(1,false),(2,false),(3,false),(4,false),(5,false),(6,false),(7,false),(8,false),(9,true),(10,true)] (by kernel_rfl) (by kernel_rfl) ⟨by go_simp,by go_simp,HLE.out _ HTOx.out.drew.map⟩ ?_;simp only[List.drop_succ_cons,List.drop_zero]
             (refine mix_q (v:=?_) (by rfl) (by rfl) ?_ ?_;rotate_left;(focus (intro w' hC;(try dsimp only at hC);go_simp;(first | done | with_reducible rfl)));simp only[Act.put,List.setIfInBounds_toArray,List.set_cons_zero,List.set_cons_succ,List.getElem_toArray,List.getElem_cons_zero,List.getElem_cons_succ])
             (refine mix_q (v:=?_) (by rfl) (by rfl) ?_ ?_;rotate_left;(focus (intro w' hC;(try dsimp only at hC);go_simp;(first | done | with_reducible rfl)));simp only[Act.put,List.setIfInBounds_toArray,List.set_cons_zero,List.set_cons_succ,List.getElem_toArray,List.getElem_cons_zero,List.getElem_cons_succ])
             (refine mix_q (v:=?_) (by rfl) (by rfl) ?_ ?_;rotate_left;(focus (intro w' hC;(try dsimp only at hC);go_simp;(first | done | with_reducible rfl)));simp only[Act.put,List.setIfInBounds_toArray,List.set_cons_zero,List.set_cons_succ,List.getElem_toArray,List.getElem_cons_zero,List.getElem_cons_succ])
             (refine mix_q (v:=?_) (by rfl) (by rfl) ?_ ?_;rotate_left;(focus (intro w' hC;(try dsimp only at hC);go_simp;(first | done | with_reducible rfl)));simp only[Act.put,List.setIfInBounds_toArray,List.set_cons_zero,List.set_cons_succ,List.getElem_toArray,List.getElem_cons_zero,List.getElem_cons_succ])
             (refine mix_q (v:=?_) (by rfl) (by rfl) ?_ ?_;rotate_left;(focus (intro w' hC;(try dsimp only at hC);go_simp;(first | done | with_reducible rfl)));simp only[Act.put,List.setIfInBounds_toArray,List.set_cons_zero,List.set_cons_succ,List.getElem_toArray,List.getElem_cons_zero,List.getElem_cons_succ])
             (refine mix_q (v:=?_) (by rfl) (by rfl) ?_ ?_;rotate_left;(focus (intro w' hC;(try dsimp only at hC);go_simp;(first | done | with_reducible rfl)));simp only[Act.put,List.setIfInBounds_toArray,List.set_cons_zero,List.set_cons_succ,List.getElem_toArray,List.getElem_cons_zero,List.getElem_cons_succ])
             refine mix_q (v:=.slice none 0 0) (by rfl) (by rfl) (fun w' hC=>exec_look rfl rfl rfl hC.2.2) ?_
             try simp only[Act.put,List.setIfInBounds_toArray,List.set_cons_zero,List.set_cons_succ,List.getElem_toArray,List.getElem_cons_zero,List.getElem_cons_succ]
             (refine mix_q (v:=?_) (by rfl) (by rfl) ?_ ?_;rotate_left;(focus (intro w' hC;(try dsimp only at hC);go_simp;(first | done | with_reducible rfl)));simp only[Act.put,List.setIfInBounds_toArray,List.set_cons_zero,List.set_cons_succ,List.getElem_toArray,List.getElem_cons_zero,List.getElem_cons_succ])
             (refine mix_q (v:=?_) (by rfl) (by rfl) ?_ ?_;rotate_left;(focus (intro w' hC;(try dsimp only at hC);go_simp;(first | done | with_reducible rfl)));simp only[Act.put,List.setIfInBounds_toArray,List.set_cons_zero,List.set_cons_succ,List.getElem_toArray,List.getElem_cons_zero,List.getElem_cons_succ])
             refine mix_l (by rfl) (by rfl) (fun K hK=>?_);go_simp;refine hK _ _ ⟨by go_simp,by go_simp,HLE.out _ ((HTOx.out.alloc _).drew.map)⟩ ?_;clear hK K;refine mix_l (by rfl) (by rfl) (fun K hK=>?_);refine wp_append_any _ (.tmp 137) (.tmp 140) 26 rfl H 3 i0 _ 1 8 Try.underlying26 hi0 iz0 iz1 iz2 rfl (by omega) (.slice none 0 0) 0 _ rfl ((HOV.out.alloc _).drew) _ (some ⟨w6.heap.size,0,none⟩) 1 1 (intRow [y.t]) (intCell [y.t]) rfl (by exact rd_single (t:=3) ((Blk.at_ (by simp)).drew)) (by simp) (by simp[intRow]) (fun i j hi hj=>intRow_at _ i j (by simpa using hi) hj) (intRow_one _) (by simp only[maxLen];omega) (by omega) (by simp<;>omega) ?_;intro v7 w7 hown7 hg7 hat7;have Q1:=hide ((HTOx.out.alloc (Obj.cells #[.int .i64 y.t] 3)).drew);have Q2:=hide ((HOV.out.alloc (Obj.cells #[.int .i64 y.t] 3)).drew);have Q3:=hide ((HX6.out.alloc (Obj.cells #[.int .i64 y.t] 3)).drew);have Q4:=hide (own_nmap Q2.out Q1.out.map);have HM7:=hide (show MapIs w7 kvI okI H L from Q1.out.map.kept hg7 (Ne.symm Q4.out));have HX7:=hide (Q3.out.grown hg7 (Ne.symm HNB.out));clear Q2 Q3 Q4;have HG7:=hide hg7;have HOW7:=hide hown7;have HAT7:=hide hat7;refine hK _ _ ⟨HX7.out.cell 1,HX7.out.cell 2,HLE.out _ HM7.out⟩ ?_;clear hK K hg7 hown7 hat7 y1 y2;refine mix_nil ?_;try simp only[Act.put,List.setIfInBounds_toArray,List.set_cons_zero,List.set_cons_succ,List.getElem_toArray,List.getElem_cons_zero,List.getElem_cons_succ]
             go_wp2_with (at_mapUpdate;go_loud (refine wpList_mapup rfl _ _ _ 88 rfl kl_int Try.underlying88 rfl HM7.out y.i rfl HOKI.out v7 rfl ?_;intro w9 hm9 hg9 hz9;have HM9:=hide hm9;have HG9:=hide hg9;clear hm9 hg9));refine NoPanic.normal ?_;go_wp2
             have HTN:=hide (Q1.out.pushT (a:=y) HV0.out.symm HG7.out (by rw[List.length_eq_zero_iff.1 HM5.out.symm];exact HOW7.out) (by
              rcases HAT7.out with e | e
              · exact .inl e
              · exact .inr ⟨_,e,Nat.le_refl _⟩) HM9.out HG9.out)
             rw[← HTK.out] at HTN;have hw11:W11.heap.size≤w6.heap.size:=HB6.out.size;have P5:=(HB6.out.alloc hw11 (Obj.cells #[.int .i64 y.t] 3)).drew;have HBN:=hide ((P5.grown HG7.out P5.size (fun z hz=>by have:=(HOV.out.lt z hz).1;omega)).grown HG9.out (by have:=HG7.out.size;simp at this;omega) (fun z hz=>by injection hz with hz;omega));clear P5 Q1 HG7 HG9 HM9 HM7 HX7 HOW7 HAT7 HLE;go_roundw
             case rel=>exact⟨k+1,_,_,by omega,by go_num,HTN,HBN⟩
             case measure=>simp[intOf];omega
           ·
            obtain rfl:q1=k:=by omega
            have HTN:=hide (show ToI wr H 3 H u16 (labV (visS t.arcs S (j+1))) (visS t.arcs S (j+1)) L vx by rw[HVN.out];have:=HTO.out;rwa [HQL.out,List.take_length] at this);clear HTO;go_wp2;go_roundw
            case rel=>exact⟨j+1,eb2,L,vx,by omega,by go_num,rfl,hide HEN.out.symm,HTN,HB11⟩
            case measure=>simp[intOf];omega
        ·
         obtain rfl:nS=j:=by omega
         have HSET:=hide (stpV_all (A:=t.arcs) (fun s hs=>(HOS.out.2 s hs).1) (Nat.le_refl (setI (labV (visS t.arcs S S.length))).length));obtain⟨V,hV⟩:∃ z,z=visS t.arcs S nS:=⟨_,rfl⟩;have HVE:=hide (show V=visS t.arcs S S.length by rw[hV,HNS.out])
         have hVl:V.length≤800000:=by
          rw[hV];have h1:=visS_len t.arcs S nS;have h2:nS*t.arcs.length≤400*2000:=Nat.mul_le_mul (by omega) HSO.out.len;omega
         have HVA:=hide (show ∀ a∈V,a∈t.arcs from fun a ha=>visS_sub (by rw[← hV];exact ha));rw[← hV] at HTO;have HEB':=hide (show eb=finD t.fins S by rw[HEB.out];exact endS_all (fun s hs=>(HOS.out.2 s hs).1) (by rw[← HNS.out];exact Nat.le_refl _));obtain⟨Al,cl,hlv,hcl,_⟩:=own_value HTO.out.lab;obtain⟨n5,hn5⟩:∃ z,z=(labV V).length:=⟨_,rfl⟩;have HN5:=hide hn5;have hn58:n5≤800000:=by rw[hn5];have:=labV_len V;omega
         rw[← hn5] at hlv hcl;have HSRT:=hide (sorti_any (labV V) n5 H u16 wr hn5.symm (by omega) (by have:=HTO.out.lab;rw[← hn5] at this;exact this));rw[hlv] at HSRT HTO;subst hlv;rw[ms_set (labV_nodup V)] at HSRT
         have HSL:=hide (show (setI (labV V)).length=n5 by
          rw[hn5,← ms_set (labV_nodup V),List.length_mergeSort])
         clear hV hn5 HEB;go_upto_region 39 with (go_at_call 37;refine HSRT.out.mono ?_;rintro e w5 ⟨rfl,ho5,hg5⟩;have HO5':=hide ho5;have HG5:=hide hg5;clear ho5 hg5)
         have HTO5:=hide (show ToI w5 H 3 H (.slice Al n5 cl) (setI (labV V)) V L vx from HTO.out.relab HG5.out (by rw[HSL.out];exact HO5'.out));have HB115:=hide (show Below W11.heap.size W11 w5 from HB11.out.grown HG5.out HB11.out.size (fun z hz=>by have:=(HTO.out.lab.lt z hz).1;omega));have HOM5:=hide (HOM.out.below HB115.out);have HMP5:=hide (HMP.out.below HB115.out HMP.out.lt);have HMG5:=hide (HMG.out.below HB115.out);have HB75:=hide (HB7r.out.trans (HB115.out.mono HB7r.out.size));have hz5:W11.heap.size≤w5.heap.size:=HB115.out.size;clear HTO HB11 HB7v HO5' HG5 HSRT HOM HMP HMG HB7r;have HTS0:=hide (show okSet N []→True from fun _=>trivial)
         go_loopw [12,148] (fun sv jv wr=>∃ (jj q':Nat) (vs':Nat→Value),jj≤n5∧jv=.int .i64 (jj:Int)∧(bfsRow i (stpV V jj) (StD t i).1).1.length≤400∧q'≤2000∧Hid (OwnM wr (D+1) 26 3 1 sv (bfsRow i (stpV V jj) (StD t i).1).1.length vs' (fun k=>intRow ((bfsRow i (stpV V jj) (StD t i).1).1.getD k [])) (fun k=>((bfsRow i (stpV V jj) (StD t i).1).1.getD k []).length))∧Hid (MapIs wr kvS okS Mb (numE ((bfsRow i (stpV V jj) (StD t i).1).1.map keyS) 0))∧Hid (Mg 25 64 69 wr D Z 0 q' (bfsRow i (stpV V jj) (StD t i).1).2 r (StD t i).2)∧Hid (ToI wr H 3 H (.slice Al n5 cl) (setI (labV V)) V L vx)∧Hid (Below W7.heap.size W7 wr)∧W11.heap.size≤wr.heap.size) (fun _ jv _=>n5-(intOf jv).toNat)
         case atStart=>exact⟨0,q,vs,by omega,rfl,by rw[stpV_zero];exact (show (StD t i).1.1.length≤400 by rw[← HLN.out];exact hl4),hq2,by rw[stpV_zero];exact hide (show OwnM w5 (D+1) 26 3 1 _ (StD t i).1.1.length vs (fun k=>intRow ((StD t i).1.1.getD k [])) (fun k=>((StD t i).1.1.getD k []).length) by rw[← HLN.out];exact HOM5.out),by rw[stpV_zero];exact HMP5,by rw[stpV_zero];exact HMG5,HTO5,HB75,hz5⟩
         case round =>
          clear HTO5 HOM5 HMP5 HMG5 HB75 hz5 HTS0 HB115;obtain⟨jj,q',vs',hjj,rfl,hl4',hq2',HOM,HMP,HMG,HTO,HB7r,hz5⟩:=hrel;by_cases hjn:jj<n5
          ·
           have HRL:=hide (Rd.of_own (show wr.ownsRow H 3 1 (.slice Al n5 cl) n5 (intRow (setI (labV V))) by have:=HTO.out.lab;rw[HSL.out] at this;exact this) (fun i' j' hi' hj'=>intRow_at (setI (labV V)) i' j' (by rw[HSL.out];exact hi') hj'));obtain⟨bl,ol,x,hAl,hbl,dl,HX⟩:=num_at HRL.out hjn;subst hAl;have hjl:jj<(setI (labV V)).length:=by rw[HSL.out];exact hjn
           have hx0:(setI (labV V))[jj]? = some x:=by rw[← HX.out,List.getElem?_eq_getElem hjl];simp[List.getD,hjl]
           have hmem:x∈labV V:=(setI_mem _ _).1 (List.mem_of_getElem? hx0);have HPN:=hide (stpV_next hx0);have hpos:=tgt_pos hmem
           have HOKI:=hide (show okI x by
            obtain⟨a,ha,e⟩:=(labV_mem V x).1 hmem
            have:=HSO.out.lab a (HVA.out a ha)
            exact⟨by omega,by omega⟩)
           have hlk:(lk L x).getD (.slice none 0 0)=vx x:=by rw[HTO.out.dom,if_pos hmem];rfl
           have HOV:=hide (HTO.out.own _ hmem);obtain⟨g5,c5,hv5,_,_⟩:=HOV.out.form hpos;rw[hv5] at hlk HOV;have HLK:=hide hlk;obtain⟨m5,hm5⟩:∃ z,z=(tgtV V x).length:=⟨_,rfl⟩;have hm58:m5≤800000:=by rw[hm5];have:=tgtV_len V x;omega
           have hm50:0<m5:=by rw[hm5];exact hpos
           have HM5:=hide hm5;rw[← hm5] at HLK HOV;have HSX:=hide (okSet_set HSO.out.rng HVA.out x);have HRV:=hide (Rd.of_own HOV.out (fun i' j' hi' hj'=>intRow_at (tgtV V x) i' j' (by rw[← HM5.out];exact hi') hj'));have HCL:=hide (clonei_any (tgtV V x) _ m5 c5 wr wr.heap.size HM5.out.symm hm50 (by omega) HRV.out);have lbl:bl<wr.heap.size:=hbl;clear HX hjl hx0 hmem hpos hlk hv5 hm5 HRL
           go_upto_region 42 with (first
            | (at_lookup;refine wpList_look_one rfl _ _ 88 rfl kl_int Try.underlying88 zero_ints' rfl HTO.out.map x rfl HOKI.out _ HLK.out ?_)
            | (go_at_call 60;refine HCL.out.mono ?_;rintro e w6 ⟨v6,rfl,ho6,hb6⟩;obtain⟨A6,c6,rfl,hc6,_⟩:=own_value ho6;have HO6:=hide ho6;have HB6:=hide hb6;clear ho6 hb6))
           have hk400:(setI (tgtV V x)).length≤400:=by have:=HSX.out.len;omega
           have HRG:=hide (show ∀ s∈setI (tgtV V x),0≤s∧s<65536 from fun s hs=>by have:=HSX.out.2 s hs;omega)
           go_upto_region 45 with (first
            | (go_at_call 37;refine (sorti_any (tgtV V x) m5 wr.heap.size _ w6 HM5.out.symm (by omega) HO6.out).mono ?_;rintro e w7 ⟨rfl,ho7,hg7⟩;have HO7:=hide ho7;have HG7:=hide hg7;clear ho7 hg7)
            | (go_at_call 38;refine (compacti_any _ m5 wr.heap.size _ w7 (by rw[List.length_mergeSort,HM5.out]) (by omega) HO7.out).mono ?_;rintro e w8 ⟨A8,c8,rfl,ho8,hob8,hg8⟩;rw[ms_comp (tgtV V x)] at ho8 hob8 ⊢;obtain⟨k8,hk8⟩:∃ z,z=(setI (tgtV V x)).length:=⟨_,rfl⟩;rw[← hk8] at ho8 hob8 hk400 ⊢;have HK8:=hide hk8;have HO8:=hide ho8;have HOB8:=hide hob8;have HG8:=hide hg8;clear ho8 hob8 hg8 hk8)
            | (go_at_call 70;refine (key_any (setI (tgtV V x)) A8 k8 c8 w8 w8.heap.size (Nat.le_refl _) HK8.out.symm (by omega) (Rd.of_own HO8.out (fun i' j' hi' hj'=>intRow_at (setI (tgtV V x)) i' j' (by rw[← HK8.out];exact hi') hj')) HRG.out).mono ?_;rintro e w9 ⟨rfl,hb9⟩;have HB9:=hide hb9;clear hb9))
           have HBW9:=hide (show Below wr.heap.size wr w9 from
            (((HB6.out.grown HG7.out HB6.out.size (fun z hz=>(HO6.out.lt z hz).1)).grown HG8.out (by have:=HB6.out.size;have:=HG7.out.size;omega) (fun z hz=>(HO6.out.lt z hz).1)).trans (HB9.out.mono (by have:=HB6.out.size;have:=HG7.out.size;have:=HG8.out.size;omega))))
           have HOT9:=hide (own_blw HO8.out HB9.out);have HOM9:=hide (HOM.out.below HBW9.out);have HMP9:=hide (HMP.out.below HBW9.out HMP.out.lt);have HMG9:=hide (HMG.out.below HBW9.out);have HTO9:=hide (HTO.out.below HBW9.out);have HB79:=hide (HB7r.out.trans (HBW9.out.mono HB7r.out.size));have hz9:W11.heap.size≤w9.heap.size:=by have:=HBW9.out.size;omega
           have HAP:=hide (HOM.out.apart HOT9.out (Nat.le_refl _));have HSM:=hide (show smS (setI (tgtV V x)) from ⟨by rw[← HK8.out];exact hk400,HRG.out⟩);obtain⟨st,hst⟩:∃ z,z=bfsRow i (stpV V jj) (StD t i).1:=⟨_,rfl⟩;have hnx:=bfsRow_one i (stpV V jj) x (setI (tgtV V x)) (StD t i).1;rw[← HPN.out,← hst] at hnx;have HNX:=hide hnx
           have HALL:=hide (show ∀ S'∈st.1,smS S' from by
            rw[hst]
            have hok:∀ S'∈(bfsRow i (stpV V jj) (StD t i).1).1,okSet N S':=bfsRow_all HOKS.out (fun e he=>by
             obtain⟨y,_,rfl⟩:=List.mem_map.1 (show e∈List.map _ _ from he)
             exact okSet_set HSO.out.rng HVA.out y)
            exact fun S' h=>⟨by have:=(hok S' h).len;omega,fun s hs=>by have:=(hok S' h).2 s hs;omega⟩)
           rw[← hst] at hl4' HOM9 HMP9 HMG9 HAP;clear hst hnx HOM HMP HMG HTO HB7r HB6 HG7 HG8 HB9 HO6 HO7 HO8 HBW9 HCL HRV HOV HLK HOKI hz5;have HKO:=hide (keyS_ok HSM.out)
           have HLR:=hide (show ((bfsRow i (stpV V (jj+1)) (StD t i).1).1.length:Int)≤(setM t).n∧(bfsRow i (stpV V (jj+1)) (StD t i).1).2.length≤(setM t).arcs.length by
            rw[HVE.out]
            exact stD_row (by omega) HST.out (fun s hs=>(HOS.out.2 s hs).1))
           obtain⟨st2,hst2⟩:∃ z,z=bfsRow i (stpV V (jj+1)) (StD t i).1:=⟨_,rfl⟩;rw[← hst2] at HLR HNX;have HS2E:=hide hst2;obtain⟨T,hTe⟩:∃ z,z=setI (tgtV V x):=⟨_,rfl⟩;rw[← hTe] at HSX HRG HK8 HSM HNX HKO HOT9 ⊢;clear hst2 hTe;have HMQ9:=hide (show MapIs w9 kvS okS W8.heap.size (numE (st.1.map keyS) 0) by rw[← HMBE.out];exact HMP9.out);by_cases hT:T∈st.1
           ·
            have hly:=lk_numE (keyS T) (st.1.map keyS) 0;rw[if_pos ((keyS_mem HALL.out HSM.out).2 hT)] at hly;obtain⟨ix,hly,hix⟩:∃ z:Nat,lk (numE (st.1.map keyS) 0) (keyS T)=some (.int .i64 (z:Int))∧z=(st.1.map keyS).idxOf (keyS T):=⟨_,hly,by rw[Nat.zero_add];exact idx_inst _ _ _ _⟩;have HIX:=hide hix;have HLY:=hide hly;have HAD:=hide (show addL st.1 T=st.1 by unfold addL;rw[if_pos hT]);clear hT hly hix;go_upto_region 52 with (at_lookup;refine wpList_look_yes rfl _ _ 87 rfl kl_str Try.underlying87 zero_intS rfl HMQ9.out (keyS T) rfl HKO.out _ HLY.out ?_)
            have HST1:=hide (show st2.1=st.1 by rw[HNX.out];exact HAD.out)
            have HST2:=hide (show st2.2=st.2++[⟨(i:Int),(ix:Int),x,x,0⟩] by
             rw[HNX.out];dsimp only;rw[HAD.out];congr 3;rw[HIX.out];have h:=keyS_idx HALL.out HSM.out
             exact congrArg (fun z:Nat=>(z:Int)) ((idx_inst _ _ _ _).trans (h.symm.trans (idx_inst _ _ _ _))))
            have hl5:st2.1.length≤400:=by rw[HST1.out];exact hl4'
            rw[← HST1.out] at HOM9 HMP9;obtain⟨A5,c5,AF5,cf5,bO,hoA,hoF⟩:=HMG9.out;have d1:=bO.cell 1;have lDr:D<w9.heap.size:=bO.lt;simp at d1;by_cases h2000:q'=2000
            ·
             have t3:((q':Int)==2000)=true:=by simp;omega
             have t3':decide ((q':Int)=2000)=true:=decide_eq_true (by omega)
             have HLM:=hide (show detW m=(emptyM,(17,-1)) by
              rw[HDW.out];unfold detR limR;rw[if_pos (.inr (by have h1:=HLR.out.2;rw[HST2.out,List.length_append] at h1;have h2:=HMG9.out.lens.1;simp at h1;omega))]
              rfl)
             have bM9:=HM7.out.below HB79.out hM7;have bR9:=HR7.out.below HB79.out hR7;have lM9:=bM9.lt;have lR9:=bR9.lt;have HBE9:=hide (HBW7.out.trans (HB79.out.mono HBW7.out.size));go_wp2_with fail;refine (dfault_any _ _ _).mono ?_;rintro e w10 ⟨rfl,hb10⟩;have bM:=bM9.below hb10 lM9;have bR:=bR9.below hb10 lR9;have HBE:=hide (HBE9.out.trans (hb10.mono HBE9.out.size));have q0:=bM.cell 0;have q1:=bM.cell 1;have q2:=bM.cell 2;have q3:=bR.cell 0;have q4:=bR.cell 1;have qf:=bM.frozen 0;have qf1:=bM.frozen 1;have qf2:=bM.frozen 2;have qf3:=bR.frozen 0;have qf4:=bR.frozen 1;have lM:=bM.lt;have lR:=bR.lt;simp at q0 q1 q2 q3 q4;clear hb10 bM bR bM9 bR9 HBE9;go_wp21;refine bodyPost_ret (v:=.tuple #[.agg #[.int .i64 0,.slice none 0 0,.slice none 0 0],.agg #[.int .i64 17,.int .i64 (-1)]]) (by simp[results,Try.results33,go_sem,lM,lR,hMR,hRM,q0,q1,q2,q3,q4,qf,qf1,qf2,qf3,qf4]) rfl ?_;rw[HLM.out];exact⟨_,rfl,MachNew.empty _ _,(((((HBE.out.setCell (p:=⟨M,0,none⟩) (by exact hwM) (.int .i64 0)).setCell (p:=⟨M,1,none⟩) (by exact hwM) (.slice none 0 0)).setCell (p:=⟨M,2,none⟩) (by exact hwM) (.slice none 0 0)).setCell (p:=⟨R,0,none⟩) (by exact hwR) (.int .i64 17)).setCell (p:=⟨R,1,none⟩) (by exact hwR) (.int .i64 (-1)))⟩
            ·
             have t3:((q':Int)==2000)=false:=by simp;omega
             have t3':decide ((q':Int)=2000)=false:=decide_eq_false (by omega);have P1:=hide (bO.alloc (Obj.cells #[.int .i64 (i:Int),.int .i64 (ix:Int),.int .i64 x,.int .i64 x,.int .i64 0] 64));have P2:=hide (hoA.alloc (Obj.cells #[.int .i64 (i:Int),.int .i64 (ix:Int),.int .i64 x,.int .i64 x,.int .i64 0] 64));have P3:=hide (hoF.alloc (Obj.cells #[.int .i64 (i:Int),.int .i64 (ix:Int),.int .i64 x,.int .i64 x,.int .i64 0] 64));have P4:=hide (HOM9.out.alloc (Obj.cells #[.int .i64 (i:Int),.int .i64 (ix:Int),.int .i64 x,.int .i64 x,.int .i64 0] 64));have P5:=hide (HMP9.out.alloc (Obj.cells #[.int .i64 (i:Int),.int .i64 (ix:Int),.int .i64 x,.int .i64 x,.int .i64 0] 64));have P6:=hide (HB79.out.alloc HB79.out.size (Obj.cells #[.int .i64 (i:Int),.int .i64 (ix:Int),.int .i64 x,.int .i64 x,.int .i64 0] 64));have P7:=hide (HTO9.out.alloc (Obj.cells #[.int .i64 (i:Int),.int .i64 (ix:Int),.int .i64 x,.int .i64 x,.int .i64 0] 64));have HNF:=hide (show (Value.slice A5 q' c5).ownBlock≠some D from own_bne hoA bO (by decide));have HNM:=hide (own_nmap P2.out P5.out);have HNT:=hide (own_nmap P2.out P7.out.map);have HZw:Z≤w9.heap.size:=by omega
             have hq3:q'<2000:=by omega
             clear bO hoA hoF HMG9 HOM9 HMP9 HB79 HTO9 h2000;go_wp2_with (at_builtin;go_loud (refine wpList_append_own_at _ rfl (.tmp 190) (.tmp 196) 22 rfl Z 64 ia _ 5 40 Try.underlying22 ha0 ha1 ha2 ha3 rfl (by omega) (.slice A5 q' c5) q' _ rfl P2.out ⟨w9.heap.size,0,none⟩ 1 1 (arcRow [⟨(i:Int),(ix:Int),x,x,0⟩]) rfl (by rfl) (World.news_of_block (cs:=(arcRow [⟨(i:Int),(ix:Int),x,x,0⟩]).toArray) (t:=64) (fr:=(0,0)) (Blk.at_ rfl)) (arcRow_one _) (by simp only[maxLen];omega) (by omega) (by simp<;>omega) ?_;intro v' w6 hown6 hg6 _ hat6;obtain⟨A6,cf6,rfl,hkcv,_⟩:=own_value hown6;have HOWN6:=hide hown6;have HG6:=hide hg6;have df6:w6.frozen? ⟨D,1,none⟩=false:=far_free hg6 HNF.out P1.out.lt (P1.out.frozen 1);have d6:w6.cell? ⟨D,1,none⟩=some (.slice A5 q' c5):=far_cell hg6 HNF.out (P1.out.cell 1);have lD6:D<w6.heap.size:=(by have:=hg6.size;have:=P1.out.lt;omega);clear hown6 hg6 hat6));have HMG6:=hide (mg_pushA P1.out P2.out P3.out (by decide) (by decide) (by decide) HG6.out HOWN6.out);rw[← HST2.out] at HMG6;have HOM6:=hide ((P4.out.kept HG6.out (own_ne P4.out.out P2.out (by decide)) (fun kk hk=>own_ne (P4.out.own kk hk) P2.out (by decide))).far (p:=⟨D,1,none⟩) (by show D<D+1;omega) (.slice A6 (q'+1) cf6));have HMP6:=hide ((P5.out.kept HG6.out (Ne.symm HNM.out)).set_ (p:=⟨D,1,none⟩) (by show Mb≠D;omega) (.slice A6 (q'+1) cf6));have HTO6:=hide ((P7.out.kept HG6.out (Ne.symm HNT.out) (own_ne P7.out.lab P2.out (by decide)) (fun y hy=>own_ne (P7.out.own y hy) P2.out (by decide))).far (p:=⟨D,1,none⟩) (by show H≠D;omega) (own_bne P7.out.lab P1.out (by decide)) (fun y hy=>own_bne (P7.out.own y hy) P1.out (by decide)) (.slice A6 (q'+1) cf6));have HB6:=hide ((P6.out.grown HG6.out P6.out.size (fun z hz=>by have:=(P2.out.lt z hz).1;have:=HBW7.out.size;omega)).setCell (p:=⟨D,1,none⟩) (by show W7.heap.size≤D;omega) (.slice A6 (q'+1) cf6));have hs6:=HG6.out.size;simp at hs6;clear HG6 HOWN6 d6 df6 P1 P2 P3 P4 P5 P6 P7;rw[HS2E.out] at HMG6 HOM6 HMP6 hl5;go_roundw
             case rel=>exact⟨jj+1,q'+1,_,by omega,by go_num,hl5,by omega,HOM6,HMP6,HMG6,HTO6,HB6,by simp[World.setCell];omega⟩
             case measure=>simp[intOf];omega
           ·
            have hly:=lk_numE (keyS T) (st.1.map keyS) 0;rw[if_neg (fun h=>hT ((keyS_mem HALL.out HSM.out).1 h))] at hly;have HLY:=hide hly;have HAD:=hide (show addL st.1 T=st.1++[T] by unfold addL;rw[if_neg hT]);have HKN:=hide (show keyS T∉st.1.map keyS from fun h=>hT ((keyS_mem HALL.out HSM.out).1 h));obtain⟨ix,hix⟩:∃ z,z=st.1.length:=⟨_,rfl⟩;have HIX:=hide hix;have HST1:=hide (show st2.1=st.1++[T] by rw[HNX.out];exact HAD.out)
            have HST2:=hide (show st2.2=st.2++[⟨(i:Int),(ix:Int),x,x,0⟩] by
             rw[HNX.out];dsimp only;rw[HAD.out];congr 3;rw[HIX.out];have h:(st.1++[T]).idxOf T=st.1.length:=by rw[List.idxOf_append,if_neg hT];simp
             exact congrArg (fun z:Nat=>(z:Int)) ((idx_inst _ _ _ _).trans h))
            obtain⟨As9,cs9,hsv,hcs9,_⟩:=own_value HOM9.out.out;rw[← hix] at hl4' HOM9 hsv hcs9 HAP;subst hsv;clear hT hly hix HNX HAD;go_upto_region 48 with (at_lookup;go_loud (refine wpList_look_no rfl _ _ 87 rfl kl_str Try.underlying87 zero_intS rfl HMQ9.out (keyS T) rfl HKO.out HLY.out ?_))
            by_cases h400:ix=400
            ·
             have t3:((ix:Int)==400)=true:=by simp;omega
             have t3':decide ((ix:Int)=400)=true:=decide_eq_true (by omega)
             have HLM:=hide (show detW m=(emptyM,(17,-1)) by
              rw[HDW.out];unfold detR limR;rw[if_pos (.inl (by have h1:=HLR.out.1;rw[HST1.out,List.length_append,← HIX.out] at h1;simp at h1;omega))]
              rfl)
             have bM9:=HM7.out.below HB79.out hM7;have bR9:=HR7.out.below HB79.out hR7;have lM9:=bM9.lt;have lR9:=bR9.lt;have HBE9:=hide (HBW7.out.trans (HB79.out.mono HBW7.out.size));go_wp2_with fail;refine (dfault_any _ _ _).mono ?_;rintro e w10 ⟨rfl,hb10⟩;have bM:=bM9.below hb10 lM9;have bR:=bR9.below hb10 lR9;have HBE:=hide (HBE9.out.trans (hb10.mono HBE9.out.size));have q0:=bM.cell 0;have q1:=bM.cell 1;have q2:=bM.cell 2;have q3:=bR.cell 0;have q4:=bR.cell 1;have qf:=bM.frozen 0;have qf1:=bM.frozen 1;have qf2:=bM.frozen 2;have qf3:=bR.frozen 0;have qf4:=bR.frozen 1;have lM:=bM.lt;have lR:=bR.lt;simp at q0 q1 q2 q3 q4;clear hb10 bM bR bM9 bR9 HBE9;go_wp21;refine bodyPost_ret (v:=.tuple #[.agg #[.int .i64 0,.slice none 0 0,.slice none 0 0],.agg #[.int .i64 17,.int .i64 (-1)]]) (by simp[results,Try.results33,go_sem,lM,lR,hMR,hRM,q0,q1,q2,q3,q4,qf,qf1,qf2,qf3,qf4]) rfl ?_;rw[HLM.out];exact⟨_,rfl,MachNew.empty _ _,(((((HBE.out.setCell (p:=⟨M,0,none⟩) (by exact hwM) (.int .i64 0)).setCell (p:=⟨M,1,none⟩) (by exact hwM) (.slice none 0 0)).setCell (p:=⟨M,2,none⟩) (by exact hwM) (.slice none 0 0)).setCell (p:=⟨R,0,none⟩) (by exact hwR) (.int .i64 17)).setCell (p:=⟨R,1,none⟩) (by exact hwR) (.int .i64 (-1)))⟩
            ·
             have t3:((ix:Int)==400)=false:=by simp;omega
             have t3':decide ((ix:Int)=400)=false:=decide_eq_false (by omega);have hix4:ix<400:=by omega
             have hDw:D+1≤w9.heap.size:=by omega
             clear h400
             go_upto_region 52 with (first
              | (at_mapUpdate;go_loud (refine wpList_mapup rfl _ _ _ 87 rfl kl_str Try.underlying87 rfl HMQ9.out (keyS T) rfl HKO.out (.int .i64 (ix:Int)) rfl ?_;intro w10 hm10 hg10 hz10;rw[← HMBE.out] at hm10 hg10;rw[show (ix:Int)=(((st.1.map keyS).length:Nat):Int) by rw[List.length_map,HIX.out],numE_up HKN.out] at hm10;have HM10:=hide hm10;have HG10:=hide hg10;have HOM10:=hide (HOM9.out.kept hg10 (.inr (own_nmap HOM9.out.out HMP9.out)) (fun kk hk=>.inr (own_nmap (HOM9.out.own kk hk) HMP9.out)));have HZ10:=hide hz10;have hz10':D+1≤w10.heap.size:=(by omega);clear hm10 hg10 hz10))
              | (at_builtin;go_loud (refine wpList_append_own_at _ rfl (.tmp 179) (.tmp 181) 73 rfl (D+1) 26 i1 _ 1 24 Try.underlying73 hi1 hy0 hy1 hy2 rfl (by omega) (.slice As9 ix cs9) ix _ rfl (HOM10.out.out.alloc _) ⟨w10.heap.size,0,none⟩ 1 1 [.slice A8 k8 c8] rfl (by rfl) (World.news_of_block (cs:=#[.slice A8 k8 c8]) (t:=26) (fr:=(0,0)) (Blk.at_ rfl)) (by simp[Value.oneCell']) (by simp only[maxLen];omega) (by omega) (by simp<;>omega) ?_;intro v11 w11 hown11 hg11 _ hat11;obtain⟨A11,c11,rfl,hkc11,_⟩:=own_value hown11;have HOW11:=hide hown11;have HG11:=hide hg11;clear hown11 hg11 hat11)))
             have hs10:w9.heap.size≤w10.heap.size:=by rw[HZ10.out];exact Nat.le_refl _
             have HT10:=hide (HTO9.out.kept HG10.out (by intro e;injection e with e;omega) (.inr (own_nmap HTO9.out.lab HMP9.out)) (fun y hy=>.inr (own_nmap (HTO9.out.own y hy) HMP9.out)));have HS10:=hide (HOT9.out.kept HG10.out (.inr (own_nmap HOT9.out HMP9.out)))
             have HMG10:=hide (show Mg 25 64 69 w10 D Z 0 q' st.2 r (StD t i).2 by
              obtain⟨A5,c5,AF5,cf5,bO,hoA,hoF⟩:=HMG9.out
              exact⟨A5,c5,AF5,cf5,bO.grown HG10.out (by intro e;injection e with e;omega),hoA.kept HG10.out (.inr (own_nmap hoA HMP9.out)),hoF.kept HG10.out (.inr (own_nmap hoF HMP9.out))⟩)
             have HO10:=hide (HOM10.out.alloc (Obj.cells #[.slice A8 k8 c8] 26));have HOM11:=hide (HO10.out.push HG11.out HOW11.out (own_low (HS10.out.alloc (Obj.cells #[.slice A8 k8 c8] 26)) (by have:=HBW7.out.size;omega)) HAP.out.2 (by decide));have HMP11:=hide ((HM10.out.alloc (Obj.cells #[.slice A8 k8 c8] 26)).kept HG11.out (Ne.symm (own_nmap HO10.out.out (HM10.out.alloc (Obj.cells #[.slice A8 k8 c8] 26)))));have HT11:=hide (HT10.out.alloc (Obj.cells #[.slice A8 k8 c8] 26));have HTO11:=hide (HT11.out.kept HG11.out (Ne.symm (own_nmap HO10.out.out HT11.out.map)) (own_ne HT11.out.lab HO10.out.out (by decide)) (fun y hy=>own_ne (HT11.out.own y hy) HO10.out.out (by decide)));have HMG11:=hide ((HMG10.out.alloc (Obj.cells #[.slice A8 k8 c8] 26)).own HO10.out.out (by decide) (by decide) (by decide) HG11.out);have h7s:W7.heap.size≤w9.heap.size:=HB79.out.size;have HB711:=hide (((HB79.out.grown HG10.out h7s (fun z hz=>by injection hz with hz;omega)).alloc (by omega) (Obj.cells #[.slice A8 k8 c8] 26)).grown HG11.out (by simp;omega) (fun z hz=>by have:=(HO10.out.out.lt z hz).1;omega));have hs11:=HG11.out.size;simp at hs11;have hz11:W11.heap.size≤w11.heap.size:=by omega
             have he5:(st.1++[T]).length=ix+1:=by rw[List.length_append,← HIX.out];rfl
             have hl5:st2.1.length≤400:=by rw[HST1.out,he5];omega
             have HOMn:=hide (show OwnM w11 (D+1) 26 3 1 (.slice A11 (ix+1) c11) st2.1.length _ (fun k=>intRow (st2.1.getD k [])) (fun k=>(st2.1.getD k []).length) by
              rw[HST1.out,he5];refine HOM11.out.congr (fun k hk=>?_) (fun k hk=>?_)
              ·
               rw[getD_snoc _ _ _ (by rw[← HIX.out];exact hk),← HIX.out];by_cases e:k=ix
               · rw[if_pos e,if_pos e]
               · rw[if_neg e,if_neg e]
              ·
               rw[getD_snoc _ _ _ (by rw[← HIX.out];exact hk),← HIX.out];by_cases e:k=ix
               · rw[if_pos e,if_pos e,HK8.out]
               · rw[if_neg e,if_neg e])
             have HMPn:=hide (show MapIs w11 kvS okS Mb (numE (st2.1.map keyS) 0) by
              rw[HST1.out,List.map_append]
              exact HMP11.out)
             clear HT10 HS10 HMG10 HO10 HOM11 HMP11 HT11 HG10 HG11 HOM10 HM10 HOW11 HMG9 HOM9 HMP9 HTO9 HB79 HOT9 HAP he5 HKN;obtain⟨A5,c5,AF5,cf5,bO,hoA,hoF⟩:=HMG11.out;have d1:=bO.cell 1;have lDr:D<w11.heap.size:=bO.lt;simp at d1;by_cases h2000:q'=2000
             ·
              have t3:((q':Int)==2000)=true:=by simp;omega
              have t3':decide ((q':Int)=2000)=true:=decide_eq_true (by omega)
              have HLM:=hide (show detW m=(emptyM,(17,-1)) by
               rw[HDW.out];unfold detR limR;rw[if_pos (.inr (by have h1:=HLR.out.2;rw[HST2.out,List.length_append] at h1;have h2:=HMG11.out.lens.1;simp at h1;omega))]
               rfl)
              have bM9:=HM7.out.below HB711.out hM7;have bR9:=HR7.out.below HB711.out hR7;have lM9:=bM9.lt;have lR9:=bR9.lt;have HBE9:=hide (HBW7.out.trans (HB711.out.mono HBW7.out.size));go_wp2_with fail;refine (dfault_any _ _ _).mono ?_;rintro e w10 ⟨rfl,hb10⟩;have bM:=bM9.below hb10 lM9;have bR:=bR9.below hb10 lR9;have HBE:=hide (HBE9.out.trans (hb10.mono HBE9.out.size));have q0:=bM.cell 0;have q1:=bM.cell 1;have q2:=bM.cell 2;have q3:=bR.cell 0;have q4:=bR.cell 1;have qf:=bM.frozen 0;have qf1:=bM.frozen 1;have qf2:=bM.frozen 2;have qf3:=bR.frozen 0;have qf4:=bR.frozen 1;have lM:=bM.lt;have lR:=bR.lt;simp at q0 q1 q2 q3 q4;clear hb10 bM bR bM9 bR9 HBE9;go_wp21;refine bodyPost_ret (v:=.tuple #[.agg #[.int .i64 0,.slice none 0 0,.slice none 0 0],.agg #[.int .i64 17,.int .i64 (-1)]]) (by simp[results,Try.results33,go_sem,lM,lR,hMR,hRM,q0,q1,q2,q3,q4,qf,qf1,qf2,qf3,qf4]) rfl ?_;rw[HLM.out];exact⟨_,rfl,MachNew.empty _ _,(((((HBE.out.setCell (p:=⟨M,0,none⟩) (by exact hwM) (.int .i64 0)).setCell (p:=⟨M,1,none⟩) (by exact hwM) (.slice none 0 0)).setCell (p:=⟨M,2,none⟩) (by exact hwM) (.slice none 0 0)).setCell (p:=⟨R,0,none⟩) (by exact hwR) (.int .i64 17)).setCell (p:=⟨R,1,none⟩) (by exact hwR) (.int .i64 (-1)))⟩
             ·
              have t3:((q':Int)==2000)=false:=by simp;omega
              have t3':decide ((q':Int)=2000)=false:=decide_eq_false (by omega);have P1:=hide (bO.alloc (Obj.cells #[.int .i64 (i:Int),.int .i64 (ix:Int),.int .i64 x,.int .i64 x,.int .i64 0] 64));have P2:=hide (hoA.alloc (Obj.cells #[.int .i64 (i:Int),.int .i64 (ix:Int),.int .i64 x,.int .i64 x,.int .i64 0] 64));have P3:=hide (hoF.alloc (Obj.cells #[.int .i64 (i:Int),.int .i64 (ix:Int),.int .i64 x,.int .i64 x,.int .i64 0] 64));have P4:=hide (HOMn.out.alloc (Obj.cells #[.int .i64 (i:Int),.int .i64 (ix:Int),.int .i64 x,.int .i64 x,.int .i64 0] 64));have P5:=hide (HMPn.out.alloc (Obj.cells #[.int .i64 (i:Int),.int .i64 (ix:Int),.int .i64 x,.int .i64 x,.int .i64 0] 64));have P6:=hide (HB711.out.alloc HB711.out.size (Obj.cells #[.int .i64 (i:Int),.int .i64 (ix:Int),.int .i64 x,.int .i64 x,.int .i64 0] 64));have P7:=hide (HTO11.out.alloc (Obj.cells #[.int .i64 (i:Int),.int .i64 (ix:Int),.int .i64 x,.int .i64 x,.int .i64 0] 64));have HNF:=hide (show (Value.slice A5 q' c5).ownBlock≠some D from own_bne hoA bO (by decide));have HNM:=hide (own_nmap P2.out P5.out);have HNT:=hide (own_nmap P2.out P7.out.map);have HZw:Z≤w11.heap.size:=by omega
              have hq3:q'<2000:=by omega
              clear bO hoA hoF HMG11 HOMn HMPn HB711 HTO11 h2000;go_wp2_with (at_builtin;go_loud (refine wpList_append_own_at _ rfl (.tmp 190) (.tmp 196) 22 rfl Z 64 ia _ 5 40 Try.underlying22 ha0 ha1 ha2 ha3 rfl (by omega) (.slice A5 q' c5) q' _ rfl P2.out ⟨w11.heap.size,0,none⟩ 1 1 (arcRow [⟨(i:Int),(ix:Int),x,x,0⟩]) rfl (by rfl) (World.news_of_block (cs:=(arcRow [⟨(i:Int),(ix:Int),x,x,0⟩]).toArray) (t:=64) (fr:=(0,0)) (Blk.at_ rfl)) (arcRow_one _) (by simp only[maxLen];omega) (by omega) (by simp<;>omega) ?_;intro v' w6 hown6 hg6 _ hat6;obtain⟨A6,cf6,rfl,hkcv,_⟩:=own_value hown6;have HOWN6:=hide hown6;have HG6:=hide hg6;have df6:w6.frozen? ⟨D,1,none⟩=false:=far_free hg6 HNF.out P1.out.lt (P1.out.frozen 1);have d6:w6.cell? ⟨D,1,none⟩=some (.slice A5 q' c5):=far_cell hg6 HNF.out (P1.out.cell 1);have lD6:D<w6.heap.size:=(by have:=hg6.size;have:=P1.out.lt;omega);clear hown6 hg6 hat6));have HMG6:=hide (mg_pushA P1.out P2.out P3.out (by decide) (by decide) (by decide) HG6.out HOWN6.out);rw[← HST2.out] at HMG6;have HOM6:=hide ((P4.out.kept HG6.out (own_ne P4.out.out P2.out (by decide)) (fun kk hk=>own_ne (P4.out.own kk hk) P2.out (by decide))).far (p:=⟨D,1,none⟩) (by show D<D+1;omega) (.slice A6 (q'+1) cf6));have HMP6:=hide ((P5.out.kept HG6.out (Ne.symm HNM.out)).set_ (p:=⟨D,1,none⟩) (by show Mb≠D;omega) (.slice A6 (q'+1) cf6));have HTO6:=hide ((P7.out.kept HG6.out (Ne.symm HNT.out) (own_ne P7.out.lab P2.out (by decide)) (fun y hy=>own_ne (P7.out.own y hy) P2.out (by decide))).far (p:=⟨D,1,none⟩) (by show H≠D;omega) (own_bne P7.out.lab P1.out (by decide)) (fun y hy=>own_bne (P7.out.own y hy) P1.out (by decide)) (.slice A6 (q'+1) cf6));have HB6:=hide ((P6.out.grown HG6.out P6.out.size (fun z hz=>by have:=(P2.out.lt z hz).1;have:=HBW7.out.size;omega)).setCell (p:=⟨D,1,none⟩) (by show W7.heap.size≤D;omega) (.slice A6 (q'+1) cf6));have hs6:=HG6.out.size;simp at hs6;clear HG6 HOWN6 d6 df6 P1 P2 P3 P4 P5 P6 P7;rw[HS2E.out] at HMG6 HOM6 HMP6 hl5;go_roundw
              case rel=>exact⟨jj+1,q'+1,_,by omega,by go_num,hl5,by omega,HOM6,HMP6,HMG6,HTO6,HB6,by simp[World.setCell];omega⟩
              case measure=>simp[intOf];omega
          ·
           obtain rfl:n5=jj:=by omega
           have hnx:=stB_next (fin:=finD t.fins) HST.out
           have HFS:=hide (show bfsRow i (stpV V n5) (StD t i).1=bfsRow i (stpD t.arcs S) (StD t i).1 by
            rw[← HSET.out,← HVE.out,HSL.out])
           have HN1:=hide (show (StD t (i+1)).1=bfsRow i (stpV V n5) (StD t i).1 by rw[HFS.out];exact congrArg Prod.fst hnx);have HN2:=hide (show (StD t (i+1)).2=if eb=true then (StD t i).2++[⟨(i:Int),0⟩] else (StD t i).2 by rw[HEB'.out];exact congrArg Prod.snd hnx)
           have hil2:i+1≤(StD t (i+1)).1.1.length:=by
            rw[HN1.out];obtain⟨kk,hkk⟩:=bfsRow_pre i (stpV V n5) (StD t i).1;rw[hkk,List.length_append,← HLN.out];omega
           rw[← HN1.out] at hl4' HOM HMP HMG;clear hnx HFS;cases eb
           ·
            have HN3:=hide (show (StD t (i+1)).2=(StD t i).2 by rw[HN2.out];simp);clear HN2;go_wp2
            go_roundg (gk-1)
            case measure=>omega
            case rel=>exact⟨i+1,q',r,vs',by go_num,hil2,hl4',hq2',by omega,by omega,HOM,HMP,hide (by rw[HN3.out];exact HMG.out),HB7r,by omega⟩
           ·
            have HN3:=hide (show (StD t (i+1)).2=(StD t i).2++[⟨(i:Int),0⟩] by rw[HN2.out];simp);obtain⟨A5,c5,AF5,cf5,bO,hoA,hoF⟩:=HMG.out;have P1:=hide (bO.alloc (Obj.cells #[.int .i64 (i:Int),.int .i64 0] 69));have P2:=hide (hoA.alloc (Obj.cells #[.int .i64 (i:Int),.int .i64 0] 69));have P3:=hide (hoF.alloc (Obj.cells #[.int .i64 (i:Int),.int .i64 0] 69));have P4:=hide (HOM.out.alloc (Obj.cells #[.int .i64 (i:Int),.int .i64 0] 69));have P5:=hide (HMP.out.alloc (Obj.cells #[.int .i64 (i:Int),.int .i64 0] 69));have P6:=hide (HB7r.out.alloc HB7r.out.size (Obj.cells #[.int .i64 (i:Int),.int .i64 0] 69));have HNF:=hide (show (Value.slice AF5 r cf5).ownBlock≠some D from own_bne hoF bO (by decide));have HNM:=hide (own_nmap P3.out P5.out);have d2:=bO.cell 2;have lDr:D<wr.heap.size:=bO.lt;simp at d2;have hZw:Z≤wr.heap.size:=by omega
            have hr400:r≤400:=by omega
            clear HN2 bO hoA hoF HMG;go_wp2_with (at_builtin;go_loud (refine wpList_append_own_at _ rfl (.tmp 202) (.tmp 205) 23 rfl Z 69 iF _ 2 16 Try.underlying23 hF0 hF1 hF2 hF3 rfl (by omega) (.slice AF5 r cf5) r _ rfl P3.out ⟨wr.heap.size,0,none⟩ 1 1 (finRow [⟨(i:Int),0⟩]) rfl (by rfl) (World.news_of_block (cs:=(finRow [⟨(i:Int),0⟩]).toArray) (t:=69) (fr:=(0,0)) (Blk.at_ rfl)) (finRow_one _) (by simp only[maxLen];omega) (by omega) (by simp<;>omega) ?_;intro v' w6 hown6 hg6 _ hat6;obtain⟨AF6,cf6,rfl,hkcv,_⟩:=own_value hown6;have HOWN6:=hide hown6;have HG6:=hide hg6;have df6:w6.frozen? ⟨D,2,none⟩=false:=far_free hg6 HNF.out P1.out.lt (P1.out.frozen 2);have d6:w6.cell? ⟨D,2,none⟩=some (.slice AF5 r cf5):=far_cell hg6 HNF.out (P1.out.cell 2);have lD6:D<w6.heap.size:=(by have:=hg6.size;have:=P1.out.lt;omega);clear hown6 hg6 hat6));have HMG6:=hide (mg_pushF P1.out P2.out P3.out (by decide) (by decide) (by decide) HG6.out HOWN6.out);have HOM6:=hide ((P4.out.kept HG6.out (own_ne P4.out.out P3.out (by decide)) (fun kk hk=>own_ne (P4.out.own kk hk) P3.out (by decide))).far (p:=⟨D,2,none⟩) (by show D<D+1;omega) (.slice AF6 (r+1) cf6));have HMP6:=hide ((P5.out.kept HG6.out (Ne.symm HNM.out)).set_ (p:=⟨D,2,none⟩) (by show Mb≠D;omega) (.slice AF6 (r+1) cf6));have HB6:=hide ((P6.out.grown HG6.out P6.out.size (fun z hz=>by have:=(P3.out.lt z hz).1;have:=HBW7.out.size;omega)).setCell (p:=⟨D,2,none⟩) (by show W7.heap.size≤D;omega) (.slice AF6 (r+1) cf6));have hs6:=HG6.out.size;simp at hs6;clear HG6 HOWN6 d6 df6 P1 P2 P3 P4 P5 P6
            go_roundg (gk-1)
            case measure=>omega
            case rel=>exact⟨i+1,q',r+1,vs',by go_num,hil2,hl4',hq2',by omega,by omega,HOM6,HMP6,hide (by rw[HN3.out];exact HMG6.out),HB6,by simp[World.setCell];omega⟩
      ·
       obtain rfl:ln=i:=by omega
       have hSE:=stD_end (m:=t) (i:=ln) (by rw[← HLN.out];exact Nat.le_refl _) (by omega)
       have HDN:=hide (show detW m=(⟨(ln:Int),(StD t ln).1.2,(StD t ln).2⟩,(0,0)) by
        have h2:=HMG.out.lens.1;rw[HDW.out];unfold detR limR
        rw[hSE,← HLN.out,if_neg (by dsimp only;omega)])
       have hDM':D≠M:=by omega
       have hMD:M≠D:=by omega
       have hDR:D≠R:=by omega
       have hRD:R≠D:=by omega
       have hMZ':M<Z:=by omega
       have hRZ:R<Z:=by omega
       have hDZ:D<Z:=by omega
       have hwD:w.heap.size≤D:=by have:=HBW7.out.size;omega
       have hwZ:w.heap.size≤Z:=by omega
       obtain⟨A5,c5,AF5,cf5,bO5,hoA,hoF⟩:=HMG.out;have bM:=HM7.out.below HB7r.out hM7;have bR:=HR7.out.below HB7r.out hR7;have HNA:=hide (show (Value.slice A5 q c5).ownBlock≠some D from own_bne hoA bO5 (by decide));have HNF:=hide (show (Value.slice AF5 r cf5).ownBlock≠some D from own_bne hoF bO5 (by decide));have o0:=bO5.cell 0;have o1:=bO5.cell 1;have o2:=bO5.cell 2;have of0:=bO5.frozen 0;simp at o0 o1 o2;have lO:=bO5.lt;have q0:=bM.cell 0;have q1:=bM.cell 1;have q2:=bM.cell 2;have q3:=bR.cell 0;have q4:=bR.cell 1;have qf:=bM.frozen 0;have qf1:=bM.frozen 1;have qf2:=bM.frozen 2;have qf3:=bR.frozen 0;have qf4:=bR.frozen 1;have lM:=bM.lt;have lR:=bR.lt;simp at q0 q1 q2 q3 q4;have HA9:=hide (ownsRow_setCell_below (ownsRow_setCell_below (ownsRow_setCell_below (ownsRow_setCell_below (ownsRow_setCell_below (ownsRow_setCell_other hoA (a:=⟨D,0,none⟩) HNA.out (.int .i64 (ln:Int))) (a:=⟨M,0,none⟩) hMZ' (.int .i64 (ln:Int))) (a:=⟨M,1,none⟩) hMZ' (.slice A5 q c5)) (a:=⟨M,2,none⟩) hMZ' (.slice AF5 r cf5)) (a:=⟨R,0,none⟩) hRZ (.int .i64 0)) (a:=⟨R,1,none⟩) hRZ (.int .i64 0));have HF9:=hide (ownsRow_setCell_below (ownsRow_setCell_below (ownsRow_setCell_below (ownsRow_setCell_below (ownsRow_setCell_below (ownsRow_setCell_other hoF (a:=⟨D,0,none⟩) HNF.out (.int .i64 (ln:Int))) (a:=⟨M,0,none⟩) hMZ' (.int .i64 (ln:Int))) (a:=⟨M,1,none⟩) hMZ' (.slice A5 q c5)) (a:=⟨M,2,none⟩) hMZ' (.slice AF5 r cf5)) (a:=⟨R,0,none⟩) hRZ (.int .i64 0)) (a:=⟨R,1,none⟩) hRZ (.int .i64 0));have HBF:=hide ((((((((HBW7.out.trans (HB7r.out.mono HBW7.out.size)).setCell (p:=⟨D,0,none⟩) (by exact hwD) (.int .i64 (ln:Int))).setCell (p:=⟨M,0,none⟩) (by exact hwM) (.int .i64 (ln:Int))).setCell (p:=⟨M,1,none⟩) (by exact hwM) (.slice A5 q c5)).setCell (p:=⟨M,2,none⟩) (by exact hwM) (.slice AF5 r cf5)).setCell (p:=⟨R,0,none⟩) (by exact hwR) (.int .i64 0)).setCell (p:=⟨R,1,none⟩) (by exact hwR) (.int .i64 0)));have HQL:=hide (own_lenA hoA);have HRL:=hide (own_lenF hoF);obtain⟨LA,hLA⟩:∃ z,z=(StD t ln).1.2:=⟨_,rfl⟩;obtain⟨LF,hLF⟩:∃ z,z=(StD t ln).2:=⟨_,rfl⟩;rw[← hLA] at HQL HA9 HDN;rw[← hLF] at HRL HF9 HDN;clear bM bR bO5 hoA hoF HMG HB7r hLA hLF hSE HOM HMP HOKS HLN HDW HSO;go_wp21;refine bodyPost_ret (v:=.tuple #[.agg #[.int .i64 (ln:Int),.slice A5 q c5,.slice AF5 r cf5],.agg #[.int .i64 0,.int .i64 0]]) (by simp[results,Try.results33,go_sem,lM,lR,hMR,hRM,q0,q1,q2,q3,q4,qf,qf1,qf2,qf3,qf4]) rfl ?_;rw[HDN.out];refine⟨_,rfl,?_,HBF.out⟩;have hbq:q≤big:=by unfold big;omega
       have hbr:r≤big:=by unfold big;omega
       have HA8:=HA9.out;have HF8:=HF9.out;obtain⟨_,_,e1,k1,_⟩:=own_value HA8;obtain⟨_,_,e2,k2,_⟩:=own_value HF8;injection e1 with _ _ e1
       injection e2 with _ _ e2
       subst e1 e2;have hq9:=HQL.out;have hr9:=HRL.out;subst hq9 hr9;exact MachNew.of_own (m:=⟨(ln:Int),LA,LF⟩) (base:=Z) (b2:=Z) HA8 HF8 hwZ hwZ k1 k2 hbq hbr
end Go.Proofs.Ytkfdhpbnphojoaa
