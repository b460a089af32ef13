/- Part of the proof. -/
import Derived.Test.YtkfdhpbnphojoaaNd17
set_option linter.unusedSimpArgs false
set_option linter.unusedVariables false
set_option maxRecDepth 100000
set_option maxHeartbeats 32000000
open List renaming setIfInBounds_toArray→wAa,getElem?_eq_getElem→wAb,getElem_cons_zero→wAc,getElem_cons_succ→wAd,getElem_toArray→wAe,set_cons_zero→wAf,set_cons_succ→wAg
namespace Go.Proofs.Ytkfdhpbnphojoaa
open Go.RowKit Gm
def tabV (S gA gF:Nat):Value:=.agg #[.slice (some ⟨gA,0,none⟩) S S,.slice (some ⟨gF,0,none⟩) S S]
structure TabAt (w:World) (m:Mach) (S gA gF:Nat) (va:Nat→Value):Prop where
 fin:w.rowIs gF 4 S (fun i=>.bool (fnB m.fins m.fins.length i))
 arcs:∃ B,OwnLL w B 22 64 5 gA S va (fun s=>arcRow (arT m.arcs m.arcs.length s)) (fun s=>(arT m.arcs m.arcs.length s).length)
theorem TabAt.below {w w':World} {m:Mach} {S gA gF:Nat} {va:Nat→Value} (h:TabAt w m S gA gF va) (hb:Below w.heap.size w w'):TabAt w' m S gA gF va :=
 ⟨h.fin.of_block (hb.block gF h.fin.lt),h.arcs.elim fun B g=>⟨B,g.below hb⟩⟩
theorem TabAt.lts {w:World} {m:Mach} {S gA gF:Nat} {va:Nat→Value} (h:TabAt w m S gA gF va):gF<w.heap.size∧gA<w.heap.size :=
 ⟨h.fin.lt,h.arcs.elim fun _ g=>g.row.lt⟩
theorem TabAt.arcsAt {w:World} {m:Mach} {S gA gF:Nat} {va:Nat→Value} (h:TabAt w m S gA gF va) {s:Nat} (hs:s<S):∃ A c,w.cell? ⟨gA,s,none⟩=some (.slice A (arT m.arcs m.arcs.length s).length c)∧Rd w w.heap.size 5 A (arT m.arcs m.arcs.length s).length (arcCell (arT m.arcs m.arcs.length s)):=by
 obtain⟨B,g⟩:=h.arcs;have hc:=g.row.cell hs;have ho:=g.own s hs;obtain⟨A,c,hv,_,_⟩:=zAa ho;rw[hv] at hc ho;exact⟨A,c,hc,Rd.of_own ho fun i j hi hj=>zAr _ i j hi hj⟩
theorem TabAt.setR {w:World} {m:Mach} {S gA gF:Nat} {va:Nat→Value} {Z:Nat} (h1:w.rowIs gF 4 S (fun i=>.bool (fnB m.fins m.fins.length i))) (h2:OwnLL w Z 22 64 5 gA S va (fun s=>arcRow (arT m.arcs m.arcs.length s)) (fun s=>(arT m.arcs m.arcs.length s).length)) {R:Nat} (r1:R<gF) (r2:R<gA) (r3:R<Z) (u v:Value) :
 TabAt ((w.setCell ⟨R,0,none⟩ u).setCell ⟨R,1,none⟩ v) m S gA gF va:=by
 have k1:=(h1.setOther (a:=⟨R,0,none⟩) (by show gF≠R;omega) u).setOther (a:=⟨R,1,none⟩) (by show gF≠R;omega) v;have k2:=h2.farB (p:=⟨R,0,none⟩) (by show gA≠R;omega) (fun j hj e=>by have:=((h2.own j hj).lt _ e).1;have:Z≤R:=this;omega) u;have k3:=k2.farB (p:=⟨R,1,none⟩) (by show gA≠R;omega) (fun j hj e=>by have:=((k2.own j hj).lt _ e).1;have:Z≤R:=this;omega) v;exact⟨k1,⟨_,k3⟩⟩
theorem zLE {w:World} {g:Nat} {t:TypeId} {a b x y:Value} (h:Blk w g t #[x,y]):Blk ((w.setCell ⟨g,0,none⟩ a).setCell ⟨g,1,none⟩ b) g t #[a,b]:=(h.set_ 0 a).set_ 1 b
theorem zJf (va:Value) (a:Mach) (w:World) (B S:Nat) (hB:B≤w.heap.size) (ha:MachAt w B va a) (hS:a.n=(S:Int)) (hS4:S≤400) (hn4:a.arcs.length≤2000) (hf4:a.fins.length≤400) (hrng:inRange a.arcs S) (hrf:∀ x∈a.fins,0≤x.s∧x.s<(S:Int)) :
 Calls Try.prog 34 #[va] w fun e w'=>∃ (gA gF:Nat) (va:Nat→Value),e=.returned (tabV S gA gF)∧TabAt w' a S gA gF va∧Below w.heap.size w w':=by
 obtain⟨ia,ha0,ha1,ha2,ha3⟩:=info_parts zBa;obtain⟨A,AF,n,c,nf,cf,rfl,HN,HF,hnc,hnfc,hnb,hnfb,hA,hF⟩:=ha;rw[HN.o] at hn4;rw[HF.o] at hf4;have HRA:=zh hA;have HRF:=zh hF;have HRNG:=zh hrng;have HRGF:=zh hrf;unfold big at hnb hnfb;rw[hS];have HMKA:=zh (fun (W:World)=>run_make_row' (P:=Try.prog) 50 22 (.slice none 0 0) 24 Try.underlying50 zFS rfl .i64 .i64 S (by omega) (by omega) W);have HMKB:=zh (fun (W:World)=>run_make_row' (P:=Try.prog) 51 4 (.bool false) 1 Try.underlying51 zAN rfl .i64 .i64 S (by omega) (by omega) W);clear hA hF hrng hrf
 go_enter Try.func34,Try.ntmps34
 go_upto_region 1 with fail
 generalize hW2:World.alloc _ _=W2;obtain⟨X,hX⟩:∃ z,z=w.heap.size:=⟨_,rfl⟩;have HX2:=zh (show Blk W2 X 25 #[.int .i64 (S:Int),.slice A n c,.slice AF nf cf] by rw[← hW2];first | exact Blk.at_ hX | exact (Blk.at_ hX).alloc _);have HB2:=zh (show Below w.heap.size w W2 by rw[← hW2];go_grown);obtain⟨R,hR⟩:∃ z,z=w.heap.size+1:=⟨_,rfl⟩;have HR2:=zh (show Blk W2 R 53 #[.slice none 0 0,.slice none 0 0] by rw[← hW2];exact Blk.at_ (by simp[hR]));have HWR:=zh hR;have x0:=HX2.o.cell 0;have x1:=HX2.o.cell 1;have x2:=HX2.o.cell 2;simp at x0 x1 x2;have lX:X<W2.heap.size:=HX2.o.lt;have HWX:=zh hX;simp only[← hR]
 try simp only[← hX]
 clear hW2 hX hR
 go_cut [3] from 8 (fun s3 wx=>∃ (O gF gA:Nat),s3=.pointer (some ⟨O,0,none⟩)∧Hid (Blk wx O 53 #[.slice (some ⟨gA,0,none⟩) S S,.slice (some ⟨gF,0,none⟩) S S])∧Hid (wx.rowIs gF 4 S (fun _=>.bool false))∧Hid (wx.rowIs gA 22 S (fun _=>.slice none 0 0))∧Hid (Below W2.heap.size W2 wx)∧W2.heap.size≤O∧W2.heap.size≤gF∧W2.heap.size≤gA)
 case first =>
  have hma:=HMKA.o;have hmb:=HMKB.o
  go_region_held3 (fun w'=>w'.cell? ⟨X,0,none⟩=some (.int .i64 (S:Int))∧w'.cell? ⟨X,1,none⟩=some (.slice A n c)∧w'.cell? ⟨X,2,none⟩=some (.slice AF nf cf)) (first | with_reducible exact⟨x0,x1,x2⟩ | (with_reducible refine zHC (t:=25) ?_;(repeat (first | (with_reducible exact HX2.o) | (with_reducible refine Blk.alloc ?_ _) | (with_reducible refine Blk.drew ?_) | ((with_reducible refine Blk.far ?_ ?sd _);case sd=>(dsimp only;omega)))))) (fail)
  all_goals go_wp2_with fail
  all_goals go_meet
  all_goals (apply Exists.intro;apply Exists.intro;apply Exists.intro;refine⟨rfl,zh ?_,zh ?_,zh ?_,zh ?_,?_,?_,?_⟩)
  all_goals first
   | ((repeat (first | ((with_reducible refine Blk.at_ ?sd);case sd=>(first | rfl | (simp;done))) | (with_reducible apply zLE) | (with_reducible refine Blk.alloc ?_ _) | (with_reducible refine Blk.drew ?_)));done)
   | ((repeat (first | ((with_reducible refine zFX ?sd);case sd=>(first | rfl | (simp;done))) | (with_reducible refine World.rowIs.alloc ?_ _) | (with_reducible refine World.rowIs.drew ?_) | ((with_reducible refine World.rowIs.setOther ?_ ?sd _);case sd=>(dsimp only;omega))));done)
   | ((repeat (first | (with_reducible exact Below.refl _ _) | (with_reducible refine zGb ?_ _) | (with_reducible refine zH0 ?_) | ((with_reducible refine zKf ?_ ?sd _);case sd=>(dsimp only;omega))));done)
   | omega
   | (simp;done)
   | (simp;omega)
 case rest =>
  obtain⟨O,gF,gA,rfl,HO,HF0,HA0,HB3,lO,lF,lA⟩:=hcut;have HOF:=zh (zDi HF0.o HO.o (by decide));have HOA:=zh (zDi HA0.o HO.o (by decide));have HFA:=zh (zHr HF0.o HA0.o (by decide));have hOF:=HOF.o;have hOA:=HOA.o;have lX2:=lX;have hwX:w.heap.size≤X:=by have:=HWX.o;omega
  have hRX:X<R:=by have:=HWX.o;have:=HWR.o;omega
  have lR2:R<W2.heap.size:=HR2.o.lt;clear HMKA HMKB x0 x1 x2 HWX;have x1:=(HX2.o.below HB3.o lX).cell 1;simp at x1;have z3:=HB3.o.size;obtain⟨W3,hW3⟩:∃ z,z=wc:=⟨_,rfl⟩;rw[← hW3] at HO HF0 HA0 HB3 x1 z3 ⊢;clear hW3;have lX3:X<W3.heap.size:=by omega
  obtain⟨Z,hZ⟩:∃ z,z=W3.heap.size:=⟨_,rfl⟩;have hFZ:gF<Z:=by rw[hZ];exact HF0.o.lt
  have hAZ:gA<Z:=by rw[hZ];exact HA0.o.lt
  have hOZ:O<Z:=by rw[hZ];exact HO.o.lt
  have hWZ:W2.heap.size≤Z:=by omega
  have hwZ:w.heap.size≤Z:=by have:=HB2.o.size;omega
  have HZ4:=zh (show Z≤W3.heap.size by omega)
  have HLL0:=zh (show OwnLL W3 Z 22 64 5 gA S (fun _=>.slice none 0 0) (fun s=>arcRow (arT a.arcs 0 s)) (fun s=>(arT a.arcs 0 s).length) from
   ⟨HA0.o,hAZ,fun j _=>by rw[zKo];exact World.ownsRow_nil _ _ _ _,fun i j _ _ _=>.inl rfl⟩)
  have hwR:w.heap.size≤R:=by have:=HWR.o;omega
  clear hZ HA0 HWR;go_upto_region 3 with fail
  clear x1 lX3
  go_loopw [18] (fun iv wr=>∃ (i:Nat) (va:Nat→Value),i≤n∧iv=.int .i64 (i:Int)∧Hid (OwnLL wr Z 22 64 5 gA S va (fun s=>arcRow (arT a.arcs i s)) (fun s=>(arT a.arcs i s).length))∧Hid (wr.rowIs gF 4 S (fun _=>.bool false))∧Hid (Blk wr O 53 #[.slice (some ⟨gA,0,none⟩) S S,.slice (some ⟨gF,0,none⟩) S S])∧Hid (Below W2.heap.size W2 wr)∧Z≤wr.heap.size) (fun iv _=>n-(intOf iv).toNat)
  case atStart=>exact⟨0,_,by omega,rfl,HLL0,HF0,HO,HB3,HZ4.o⟩
  case round =>
   clear HLL0 HF0 HO HB3 HZ4 z3;obtain⟨i,va,hi,rfl,HLL,HFE,HO,HB3,hZr⟩:=hrel;have HBW:=zh (HB2.o.trans (HB3.o.mono HB2.o.size));by_cases hin:i<n
   ·obtain⟨b,off,x,rfl,hbB,d0,d1,d2,d3,d4,HX⟩:=zAp (HRA.o.below HBW.o hB) hin;(have hil:i<a.arcs.length:=by rw[HN.o];exact hin);have HXA:=zh (show a.arcs[i]? = some x by rw[wAb hil,← HX.o];simp[hil]);obtain⟨r0,r1,r2,r3⟩:=HRNG.o x (List.mem_of_getElem? HXA.o);(have lb:b<wr.heap.size:=by have:=HBW.o.size;omega);(have hkey:x.f.toNat<S:=by omega);have HSN:=zh (fun (s:Nat)=>zJR HXA.o s);clear HX hil;go_wp2;generalize hW5:World.alloc _ _=W5;obtain⟨bx,hbx⟩:∃ z,z=wr.heap.size:=⟨_,rfl⟩;have HX5:=zh (show Blk W5 bx 64 #[.int .i64 x.f,.int .i64 x.t,.int .i64 x.i,.int .i64 x.o,.int .i64 x.w] by rw[← hW5];exact Blk.at_ hbx);have HLL5:=zh (show OwnLL W5 Z 22 64 5 gA S va (fun s=>arcRow (arT a.arcs i s)) (fun s=>(arT a.arcs i s).length) by rw[← hW5];exact HLL.o.alloc _);have HFE5:=zh (show W5.rowIs gF 4 S (fun _=>.bool false) by rw[← hW5];exact HFE.o.alloc _);have HO5:=zh (show Blk W5 O 53 #[.slice (some ⟨gA,0,none⟩) S S,.slice (some ⟨gF,0,none⟩) S S] by rw[← hW5];exact HO.o.alloc _);have HB5:=zh (show Below W2.heap.size W2 W5 by rw[← hW5];exact HB3.o.alloc (by omega) _);have hs5:bx<W5.heap.size:=HX5.o.lt;(have hZx:Z≤bx:=by omega);simp only[← hbx];have cG:=HLL5.o.row.cell hkey;have fG:=HLL5.o.row.frozen x.f.toNat;(have lG:gA<W5.heap.size:=by omega);obtain⟨vk,hvk⟩:∃ z,z=va x.f.toNat:=⟨_,rfl⟩;have HVK:=zh hvk;rw[← hvk] at cG;have ownk:=HLL5.o.own _ hkey;rw[← hvk] at ownk;have ownk0:=HLL.o.own _ hkey;rw[← hvk] at ownk0;obtain⟨m1,hm1⟩:∃ z,z=(arT a.arcs i x.f.toNat).length:=⟨_,rfl⟩;(have hml:m1≤2000:=by rw[hm1];have:=zG7 a.arcs i x.f.toNat;omega);rw[← hm1] at ownk;have HM1:=zh hm1;have HOWN:=zh ownk;have HLOW:=zh (show ∀ z,vk.ownBlock=some z→Z≤z from fun z hz=>(ownk.lt z hz).1);(have ne2:vk.ownBlock≠some gA:=fun e=>by have:=(ownk.lt _ e).1;omega);(have neO:vk.ownBlock≠some O:=fun e=>by have:=(ownk.lt _ e).1;omega);(have neF:vk.ownBlock≠some gF:=fun e=>by have:=(ownk.lt _ e).1;omega);have HNX:=zh (show vk.ownBlock≠some bx from fun e=>by have:=(ownk0.lt _ e).2;omega);clear hW5 hbx HLL HFE HO HB3 lb d0 d1 d2 d3 d4 hvk hm1 ownk ownk0;have x0:=HX5.o.cell 0;have x1:=HX5.o.cell 1;have x2:=HX5.o.cell 2;have x3:=HX5.o.cell 3;have x4:=HX5.o.cell 4;have y0:=HO5.o.cell 0;simp at x0 x1 x2 x3 x4 y0;(have lO5:O<W5.heap.size:=by omega);refine zAE (fun w'=>w'.cell? ⟨bx,0,none⟩=some (.int .i64 x.f)∧w'.cell? ⟨bx,1,none⟩=some (.int .i64 x.t)∧w'.cell? ⟨bx,2,none⟩=some (.int .i64 x.i)∧w'.cell? ⟨bx,3,none⟩=some (.int .i64 x.o)∧w'.cell? ⟨bx,4,none⟩=some (.int .i64 x.w)∧w'.cell? ⟨O,0,none⟩=some (.slice (some ⟨gA,0,none⟩) S S)∧w'.cell? ⟨gA,x.f.toNat,none⟩=some vk) 13 [(0,false),(1,false),(2,false),(3,false),(4,false),(5,false),(6,false),(7,false),(8,false),(9,false),(10,false),(11,true),(12,true)] (by kernel_rfl) (by kernel_rfl) ?_ ?_
    · go_simp
    simp only[List.drop_succ_cons,List.drop_zero]
    repeat (refine mix_q (v:=?_) (by rfl) (by rfl) ?_ ?_;rotate_left;(focus (intro w' hC;(try dsimp only at hC);go_simp;(first | done | with_reducible rfl)));simp only[Act.put,wAa,wAf,wAg,wAe,wAc,wAd])
    refine mix_l (by rfl) (by rfl) (fun K hK=>?_);go_simp;refine hK _ _ (by go_simp) ?_;clear hK K;refine mix_l (by rfl) (by rfl) (fun K hK=>?_);refine zAL _ (.tmp 31) (.tmp 33) 22 rfl Z 64 ia _ 5 40 Try.underlying22 ha0 ha1 ha2 ha3 rfl (by omega) vk m1 _ rfl (by first | exact (HOWN.o.alloc _).drew | exact HOWN.o.drew.alloc _) _ (some ⟨W5.heap.size,0,none⟩) 1 1 (arcRow [x]) (arcCell [x]) rfl (by exact zIX (t:=64) ((Blk.at_ (by simp)).drew)) (by simp) (by simp[arcRow]) (fun i j hi hj=>zAr _ i j (by simpa using hi) hj) (zAq _) (by simp only[maxLen];omega) (by omega) (by simp<;>omega) ?_;intro v' w6 hown2 hg2 hat2;obtain⟨Av,cv,rfl,hkcv,_⟩:=zAa hown2;have HAT:=zh hat2;have fG1:w6.frozen? ⟨gA,x.f.toNat,none⟩=false:=zAD hg2 ne2 (by simp;omega) (((HLL5.o.alloc _).drew).row.frozen _);have cG1:w6.cell? ⟨gA,x.f.toNat,none⟩=some vk:=zAf hg2 ne2 (by rw[HVK.o];exact ((HLL5.o.alloc _).drew).row.cell hkey);(have lG1:gA<w6.heap.size:=by have:=hg2.size;simp at this;omega);refine hK _ _ ⟨zAf hg2 HNX.o (((HX5.o.alloc _).drew).cell 0),zAf hg2 HNX.o (((HX5.o.alloc _).drew).cell 1),zAf hg2 HNX.o (((HX5.o.alloc _).drew).cell 2),zAf hg2 HNX.o (((HX5.o.alloc _).drew).cell 3),zAf hg2 HNX.o (((HX5.o.alloc _).drew).cell 4),zAf hg2 neO (((HO5.o.alloc _).drew).cell 0),cG1⟩ ?_;clear hK K cG x0 x1 x2 x3 x4 y0;refine zAs ?_;(try simp only[Act.put,wAa,wAf,wAg,wAe,wAc,wAd]);go_wp2;refine NoPanic.normal ?_;go_wp2;have hs6:=hg2.size;simp at hs6
    have HLN:=zh ((((HLL5.o.alloc _).drew.push hkey (HVK.o▸hg2) hown2 (HAT.o.elim (fun e=>.inl (by rw[← HVK.o];exact e)) (fun e=>.inr ⟨_,e,Nat.le_refl _⟩))).congr (L':=fun s=>arcRow (arT a.arcs (i+1) s)) (m':=fun s=>(arT a.arcs (i+1) s).length) (fun s hs=>by
     rw[HSN.o];by_cases e:s=x.f.toNat
     ·subst e;rw[if_pos rfl,if_pos (by omega),zAu]
     · rw[if_neg e,if_neg (fun g=>e (by omega))]) (fun s hs=>by
     rw[HSN.o];by_cases e:s=x.f.toNat
     ·subst e;rw[if_pos rfl,if_pos (by omega),List.length_append,HM1.o];rfl
     · rw[if_neg e,if_neg (fun g=>e (by omega))])))
    have HBN:=zh ((((HB5.o.alloc (by omega) _).drew).grown hg2 (by simp<;>omega) (fun z hz=>by have:=HLOW.o z hz;omega)).setCell (p:=⟨gA,x.f.toNat,none⟩) (by exact lA) (.slice Av (m1+1) cv));have HFN2:=zh ((((HFE5.o.alloc _).drew).of_block (hg2.block gF (by simp;omega) (Ne.symm neF))).setOther (a:=⟨gA,x.f.toNat,none⟩) (by show gF≠gA;exact HFA.o) (.slice Av (m1+1) cv));have HON:=zh ((((HO5.o.alloc _).drew).grown hg2 (Ne.symm neO)).far (p:=⟨gA,x.f.toNat,none⟩) (by show O≠gA;exact Ne.symm hOA) (.slice Av (m1+1) cv));clear hown2 hg2 hat2 fG fG1 cG1;go_roundw
    case rel=>exact⟨i+1,_,by omega,by go_num,HLN,HFN2,HON,HBN,by simp[World.setCell];omega⟩
    case measure=>simp[intOf];omega
   ·(obtain rfl:n=i:=by omega);have HLLE:=zh (show OwnLL wr Z 22 64 5 gA S va (fun s=>arcRow (arT a.arcs a.arcs.length s)) (fun s=>(arT a.arcs a.arcs.length s).length) by rw[HN.o];exact HLL.o);have HFF:=zh (show wr.rowIs gF 4 S (fun i=>.bool (fnB a.fins 0 i)) by rw[zEZ];exact HFE.o);have x2:=(HX2.o.below HB3.o lX).cell 2;simp at x2;obtain⟨W4,hW4⟩:∃ z,z=wr:=⟨_,rfl⟩;rw[← hW4] at HLLE HFF HO HB3 HBW x2 hZr ⊢;clear hW4 HLL HFE;(have lX4:X<W4.heap.size:=by omega);(go_upto_region 8 with fail);clear x2 lX4
    go_loopw [40] (fun iv wr=>∃ i:Nat,i≤nf∧iv=.int .i64 (i:Int)∧Hid (wr.rowIs gF 4 S (fun s=>.bool (fnB a.fins i s)))∧Hid (OwnLL wr Z 22 64 5 gA S va (fun s=>arcRow (arT a.arcs a.arcs.length s)) (fun s=>(arT a.arcs a.arcs.length s).length))∧Hid (Blk wr O 53 #[.slice (some ⟨gA,0,none⟩) S S,.slice (some ⟨gF,0,none⟩) S S])∧Hid (Below W2.heap.size W2 wr)∧Z≤wr.heap.size) (fun iv _=>nf-(intOf iv).toNat)
    case atStart=>exact⟨0,by omega,rfl,HFF,HLLE,HO,HB3,hZr⟩
    case round =>
     clear HFF HLLE HO HB3 HBW hZr;obtain⟨i,hi,rfl,HF1,HLL,HO,HB3,hZr⟩:=hrel;have HBW:=zh (HB2.o.trans (HB3.o.mono HB2.o.size));by_cases hin:i<nf
     ·obtain⟨b,off,x,rfl,hbB,d0,d1,HX⟩:=zAQ (HRF.o.below HBW.o hB) hin;have hxm:=zCf (by rw[HF.o];exact hin) HX.o;obtain⟨r0,r1⟩:=HRGF.o x hxm;(have hkey:x.s.toNat<S:=by omega);(have hil:i<a.fins.length:=by rw[HF.o];exact hin);have HNX:=zh (zEK (F:=a.fins) (i:=i) (x:=x) (by rw[wAb hil,← HX.o];simp[hil]) r0);(have lb:b<wr.heap.size:=by have:=HBW.o.size;omega);have cF:=HF1.o.cell hkey;have fF:=HF1.o.frozen x.s.toNat;have lFr:gF<wr.heap.size:=HF1.o.lt;have lOr:O<wr.heap.size:=HO.o.lt;have y1:=HO.o.cell 1;simp at y1;clear HX hxm hil;go_wp2;go_roundw
      case rel=>exact⟨i+1,by omega,by go_num,zh (((HF1.o.set x.s.toNat (.bool true)).congr (fun s _=>by rw[← HNX.o];exact zBC _ _ _)).alloc _),zh ((HLL.o.farB (p:=⟨gF,x.s.toNat,none⟩) (by show gA≠gF;exact Ne.symm HFA.o) (fun j hj e=>by have:=((HLL.o.own j hj).lt _ e).1;have:Z≤gF:=this;omega) _).alloc _),zh ((HO.o.far (by show O≠gF;exact Ne.symm hOF) _).alloc _),zh ((HB3.o.setCell (p:=⟨gF,x.s.toNat,none⟩) (by exact lF) _).alloc (by have:=HB3.o.size;simpa using this) _),by simp[World.setCell];omega⟩
      case measure=>simp[intOf];omega
     ·(obtain rfl:nf=i:=by omega);have HFE:=zh (show wr.rowIs gF 4 S (fun s=>.bool (fnB a.fins a.fins.length s)) by rw[HF.o];exact HF1.o);(have hr1:R<gF:=by omega);(have hr2:R<gA:=by omega);(have hr3:R<Z:=by omega);have HTA:=zh (TabAt.setR HFE.o HLL.o hr1 hr2 hr3 (.slice (some ⟨gA,0,none⟩) S S) (.slice (some ⟨gF,0,none⟩) S S));have HBE:=zh HBW.o;have y0:=HO.o.cell 0;have y1:=HO.o.cell 1;have HRr:=HR2.o.below HB3.o lR2;have q0:=HRr.cell 0;have q1:=HRr.cell 1;have f0:=HRr.frozen 0;have f1:=HRr.frozen 1;simp at y0 y1 q0 q1;have lRr:=HRr.lt;(have lOr:O<wr.heap.size:=by omega);(have hOR:O≠R:=by omega);clear HLL HFE HF1 HRr;go_wp21;refine bodyPost_ret (v:=tabV S gA gF) (by simp[results,Try.results34,go_sem,tabV,lRr,q0,q1,f0,f1]) rfl ?_;exact⟨gA,gF,va,rfl,HTA.o,(HBE.o.setCell (p:=⟨R,0,none⟩) (by exact hwR) _).setCell (p:=⟨R,1,none⟩) (by exact hwR) _⟩
end Go.Proofs.Ytkfdhpbnphojoaa
