/- Part of the proof. -/
import Derived.Test.YtkfdhpbnphojoaaNd9
import Derived.Test.YtkfdhpbnphojoaaNd5
import Derived.Test.YtkfdhpbnphojoaaNd8
set_option linter.unusedSimpArgs false
set_option linter.unusedVariables false
set_option maxRecDepth 100000
set_option maxHeartbeats 32000000
open List renaming length_append→wAa,mem_cons_of_mem→wAd,mem_cons_self→wAf,setIfInBounds_toArray→wAg,getElem?_eq_getElem→wAh,getElem_cons_zero→wAi,getElem_cons_succ→wAj,getElem_toArray→wAk,set_cons_zero→wAm,set_cons_succ→wAn,idxOf_cons→wAo,length→wAp
open Nat renaming le_refl→wAb,lt_irrefl→wAl
open Go.World renaming setCell→wAc
open Go.World renaming alloc→wAe
namespace Go.Proofs.Ytkfdhpbnphojoaa
open Go.RowKit Gm
theorem zBC (T:Nat→Bool) (x i:Nat):(if i=x then Value.bool true else .bool (T i))=.bool (upd T x i):=by unfold upd;split<;>rfl
structure Sz (m:Mach):Prop where
 n0:0≤m.n
 n4:m.n≤100000
 len:m.arcs.length≤1000000
 finLen:m.fins.length≤1000000
 inRange:inRange m.arcs m.n.toNat
 finRange:∀ x∈m.fins,0≤x.s∧x.s<(m.n.toNat:Int)
theorem _root_.Gm.Valid.sz {m:Mach} (h:Valid m):Sz m:=⟨h.n0,by have:=h.n4;omega,by have:=h.len;omega,by have:=h.finLen;omega,h.inRange,h.finRange⟩
theorem zHK (
 va:Value) (a:Mach) (w:World) (B S:Nat) (hB:B≤w.heap.size) (ha:MachAt w B va a) (hS:a.n=(S:Int)) (hS4:S≤400) (hn4:a.arcs.length≤2000) (hrng:inRange a.arcs S) :
 Calls Try.prog 105 #[va] w fun e w'=>∃ (G:Nat) (vs:Nat→Value),e=.returned (.slice (some ⟨G,0,none⟩) S S)∧w.heap.size≤G∧OwnLL w' (G+1) 26 3 1 G S vs (fun s=>intRow (castL (nearN a.arcs S s))) (fun s=>(nearN a.arcs S s).length)∧Below w.heap.size w w':=by
 obtain⟨A,AF,n,c,nf,cf,rfl,HN,HF,hnc,hnfc,hnb,hnfb,hA,hF⟩:=ha;obtain⟨i0,hi0,hz0,hz1,hz2⟩:=info_parts zAH;rw[HN.o] at hn4;have HRA:=zh hA;have HRNG:=zh hrng;unfold big at hnb hnfb;rw[hS];have HMKL:=zh (fun (W:World)=>run_make_row' (P:=Try.prog) 73 26 (.slice none 0 0) 24 Try.underlying73 zCi rfl .i64 .i64 S (by omega) (by omega) W);have HMKB:=zh (fun (W:World)=>run_make_row' (P:=Try.prog) 51 4 (.bool false) 1 Try.underlying51 zAN rfl .i64 .i64 S (by omega) (by omega) W);clear hA hF hrng;have hmk:=HMKL.o
 go_enter Try.func105,Try.ntmps105
 go_upto_region 3 with fail
 clear hmk;generalize hW1:wAe _ _=W1;obtain⟨X,hX⟩:∃ z,z=w.heap.size:=⟨_,rfl⟩;obtain⟨G,hG⟩:∃ z,z=w.heap.size+1:=⟨_,rfl⟩;have HX1:=zh (show Blk W1 X 25 #[.int .i64 (S:Int),.slice A n c,.slice AF nf cf] by rw[← hW1];exact (Blk.at_ hX).alloc _);have HB1:=zh (show Below w.heap.size w W1 by rw[← hW1];go_grown)
 have HLL0:=zh (show OwnLL W1 (G+1) 26 3 1 G S (fun _=>.slice none 0 0) (fun t=>intRow (castL (slN a.arcs 0 t))) (fun t=>(slN a.arcs 0 t).length) by
  rw[← hW1,hG];refine⟨?_,by omega,fun i _=>by rw[zPQ];exact World.ownsRow_nil _ _ _ _,fun i j _ _ _=>.inl rfl⟩
  have:=World.rowIs_made (w.alloc (Obj.cells #[.int .i64 (S:Int),.slice A n c,.slice AF nf cf] 25)) (.slice none 0 0) S 26
  simpa using this)
 have hz1:G<W1.heap.size:=HLL0.o.row.lt;have HRA1:=zh (HRA.o.below HB1.o hB);have hBG:B<G:=by omega
 have hXG:X<G:=by omega
 have hwX:w.heap.size≤X:=by omega
 have HWX:=zh hX;have HWG:=zh hG;simp only[← hG]
 try simp only[← hX]
 clear hW1 hG hX HRA
 go_loopw [19] (fun iv wr=>∃ (i:Nat) (vs:Nat→Value),i≤n∧iv=.int .i64 (i:Int)∧Hid (OwnLL wr (G+1) 26 3 1 G S vs (fun t=>intRow (castL (slN a.arcs i t))) (fun t=>(slN a.arcs i t).length))∧Hid (Below G W1 wr)∧G<wr.heap.size) (fun iv _=>n-(intOf iv).toNat)
 case atStart=>exact⟨0,_,by omega,rfl,HLL0,zh (Below.refl _ _),hz1⟩
 case round =>
  clear HLL0 hz1;obtain⟨i,vs,hi,rfl,HLL,HBK,hzr⟩:=hrel;by_cases hin:i<n
  ·obtain⟨b,off,x,rfl,hbB,d0,d1,d2,d3,d4,HX⟩:=zAp (HRA1.o.below HBK.o (by omega)) hin;(have hil:i<a.arcs.length:=by rw[HN.o];exact hin);have HXA:=zh (show a.arcs[i]? = some x by rw[wAh hil,← HX.o];simp[hil]);obtain⟨r0,r1,r2,r3⟩:=HRNG.o x (List.mem_of_getElem? HXA.o);(have lb:b<wr.heap.size:=by omega);clear HX hil;by_cases hx0:x.i=0
   ·have t0:decide (x.i=0)=true:=decide_eq_true hx0;(have t0':(x.i==0)=true:=by simp[hx0]);(have hkey:x.f.toNat<S:=by omega);have HSN:=zh (fun (t:Nat)=>zHy HXA.o t);have HX0:=zh hx0;clear hx0;go_wp2;generalize hW5:wAe _ _=W5;obtain⟨bx,hbx⟩:∃ z,z=wr.heap.size:=⟨_,rfl⟩;have HX5:=zh (show Blk W5 bx 64 #[.int .i64 x.f,.int .i64 x.t,.int .i64 x.i,.int .i64 x.o,.int .i64 x.w] by rw[← hW5];exact Blk.at_ hbx);have HLL5:=zh (show OwnLL W5 (G+1) 26 3 1 G S vs (fun t=>intRow (castL (slN a.arcs i t))) (fun t=>(slN a.arcs i t).length) by rw[← hW5];exact HLL.o.alloc _);have HB5:=zh (show Below G W1 W5 by rw[← hW5];exact HBK.o.alloc (by omega) _);have hs5:bx<W5.heap.size:=HX5.o.lt;(have hGx:G<bx:=by omega);simp only[← hbx];clear hW5 hbx HLL HBK hzr lb d0 d1 d2 d3 d4;have x0:=HX5.o.cell 0;have x1:=HX5.o.cell 1;simp at x0 x1;have cG:=HLL5.o.row.cell hkey;have fG:=HLL5.o.row.frozen x.f.toNat;(have lG:G<W5.heap.size:=by omega);obtain⟨vk,hvk⟩:∃ z,z=vs x.f.toNat:=⟨_,rfl⟩;have HVK:=zh hvk;rw[← hvk] at cG;have ownk:=HLL5.o.own _ hkey;rw[← hvk] at ownk;obtain⟨m1,hm1⟩:∃ z,z=(slN a.arcs i x.f.toNat).length:=⟨_,rfl⟩;(have hml:m1≤2000:=by rw[hm1];have:=zM4 a.arcs i x.f.toNat;omega);rw[← hm1] at ownk;have HM1:=zh hm1;have HOWN:=zh ownk;have HLOW:=zh (show ∀ z,vk.ownBlock=some z→G+1≤z from fun z hz=>(ownk.lt z hz).1);(have ne2:vk.ownBlock≠some G:=fun e=>by have:=(ownk.lt _ e).1;omega);have HNX:=zh (show vk.ownBlock≠some bx from zAe ownk HX5.o (by decide));clear hvk hm1 ownk;refine zAE (fun w'=>w'.cell? ⟨bx,0,none⟩=some (.int .i64 x.f)∧w'.cell? ⟨bx,1,none⟩=some (.int .i64 x.t)∧w'.cell? ⟨G,x.f.toNat,none⟩=some vk) 12 [(0,false),(1,false),(2,false),(3,false),(4,false),(5,false),(6,false),(7,false),(8,false),(9,false),(10,true),(11,true)] (by kernel_rfl) (by kernel_rfl) ?_ ?_
    · go_simp
    simp only[List.drop_succ_cons,List.drop_zero]
    repeat (refine mix_q (v:=?_) (by rfl) (by rfl) ?_ ?_;rotate_left;(focus (intro w' hC;(try dsimp only at hC);go_simp;(first | done | with_reducible rfl)));simp only[Act.put,wAg,wAm,wAn,wAk,wAi,wAj])
    refine mix_l (by rfl) (by rfl) (fun K hK=>?_);go_simp;refine hK _ _ (by go_simp) ?_;clear hK K;refine mix_l (by rfl) (by rfl) (fun K hK=>?_);refine zAL _ (.tmp 33) (.tmp 36) 26 rfl (G+1) 3 i0 _ 1 8 Try.underlying26 hi0 hz0 hz1 hz2 rfl (by omega) vk m1 _ rfl (by first | exact (HOWN.o.alloc _).drew | exact HOWN.o.drew.alloc _) _ (some ⟨W5.heap.size,0,none⟩) 1 1 (intRow [x.t]) (intCell [x.t]) rfl (by exact zBu (t:=3) ((Blk.at_ (by simp)).drew)) (by simp) (by simp[intRow]) (fun i j hi hj=>zAi _ i j (by simpa using hi) hj) (zAg _) (by simp only[maxLen];omega) (by omega) (by simp<;>omega) ?_;intro v' w6 hown2 hg2 hat2;obtain⟨Av,cv,rfl,hkcv,_⟩:=zAa hown2;have HAT:=zh hat2;have fG1:w6.frozen? ⟨G,x.f.toNat,none⟩=false:=zAD hg2 ne2 (by simp;omega) (((HLL5.o.alloc _).drew).row.frozen _);have cG1:w6.cell? ⟨G,x.f.toNat,none⟩=some vk:=zAf hg2 ne2 (by rw[HVK.o];exact ((HLL5.o.alloc _).drew).row.cell hkey);(have lG1:G<w6.heap.size:=by have:=hg2.size;simp at this;omega);have cx0:w6.cell? ⟨bx,0,none⟩=some (.int .i64 x.f):=zAf hg2 HNX.o (by exact ((HX5.o.alloc _).drew).cell 0);have cx1:w6.cell? ⟨bx,1,none⟩=some (.int .i64 x.t):=zAf hg2 HNX.o (by exact ((HX5.o.alloc _).drew).cell 1);refine hK _ _ ⟨cx0,cx1,cG1⟩ ?_;clear hK K cx0 cx1 cG x0 x1;refine zAs ?_;(try simp only[Act.put,wAg,wAm,wAn,wAk,wAi,wAj]);go_wp2;refine NoPanic.normal ?_;go_wp2;have hs6:=hg2.size;simp at hs6
    have HLN:=zh ((((HLL5.o.alloc _).drew.push hkey (HVK.o▸hg2) hown2 (HAT.o.elim (fun e=>.inl (by rw[← HVK.o];exact e)) (fun e=>.inr ⟨_,e,wAb _⟩))).congr (L':=fun t=>intRow (castL (slN a.arcs (i+1) t))) (m':=fun t=>(slN a.arcs (i+1) t).length) (fun t ht=>by
     rw[HSN.o];by_cases e:t=x.f.toNat
     ·subst e;rw[if_pos rfl,if_pos ⟨HX0.o,by omega⟩,zAA,zAd];congr 2;simp[castL];omega
     · rw[if_neg e,if_neg (fun g=>e (by have:=g.2;omega))]) (fun t ht=>by
     rw[HSN.o];by_cases e:t=x.f.toNat
     ·subst e;rw[if_pos rfl,if_pos ⟨HX0.o,by omega⟩,wAa,HM1.o];rfl
     · rw[if_neg e,if_neg (fun g=>e (by have:=g.2;omega))])))
    have HBN:=zh ((((HB5.o.alloc (by omega) _).drew).grown hg2 (by simp<;>omega) (fun z hz=>by have:=HLOW.o z hz;omega)).setCell (p:=⟨G,x.f.toNat,none⟩) (by exact wAb _) (.slice Av (m1+1) cv));clear hown2 hg2 hat2 fG fG1 cG1;go_roundw
    case rel=>exact⟨i+1,_,by omega,by go_num,HLN,HBN,by simp[wAc];omega⟩
    case measure=>simp[intOf];omega
   ·have t0:decide (x.i=0)=false:=decide_eq_false hx0;(have t0':(x.i==0)=false:=by simp[hx0]);have HLN:=zh (HLL.o.congr (L':=fun t=>intRow (castL (slN a.arcs (i+1) t))) (m':=fun t=>(slN a.arcs (i+1) t).length) (fun t ht=>by rw[zHy HXA.o,if_neg (fun e=>hx0 e.1)]) (fun t ht=>by rw[zHy HXA.o,if_neg (fun e=>hx0 e.1)]));clear hx0;go_wp2;go_roundw
    case rel=>exact⟨i+1,vs,by omega,by go_num,zh (HLN.o.alloc _),zh (HBK.o.alloc (by omega) _),by simp;omega⟩
    case measure=>simp[intOf];omega
  ·(obtain rfl:n=i:=by omega);have HLS:=zh (show OwnLL wr (G+1) 26 3 1 G S vs (fun t=>intRow (castL (slN a.arcs a.arcs.length t))) (fun t=>(slN a.arcs a.arcs.length t).length) by rw[HN.o];exact HLL.o);have x0:=(HX1.o.below HBK.o hXG).cell 0;simp at x0;obtain⟨W4,hW4⟩:∃ z,z=wr:=⟨_,rfl⟩;rw[← hW4] at HLS HBK hzr x0 ⊢;clear hW4 HLL;(have lX4:X<W4.heap.size:=by omega);have hmk:=HMKL.o;(go_upto_region 9 with fail);clear hmk;generalize hW5:wAe _ _=W5;obtain⟨G2,hG2⟩:∃ z,z=W4.heap.size:=⟨_,rfl⟩
   have HLO0:=zh (show OwnLL W5 (G2+1) 26 3 1 G2 S (fun _=>.slice none 0 0) (fun t=>intRow (castL (if t<0 then nearN a.arcs S t else []))) (fun t=>(if t<0 then nearN a.arcs S t else []).length) by
    rw[← hW5,hG2];refine⟨?_,by omega,fun i _=>by simpa[intRow,castL] using World.ownsRow_nil _ _ _ _,fun i j _ _ _=>.inl rfl⟩
    exact World.rowIs_made W4 (.slice none 0 0) S 26)
   have HB45:=zh (show Below G2 W4 W5 by rw[← hW5,hG2];exact (Below.refl _ _).alloc (by omega) _);have HBG5:=zh (show Below G W1 W5 by rw[← hW5];exact HBK.o.alloc (by omega) _);have hz5:G2<W5.heap.size:=HLO0.o.row.lt;(have hGG:G<G2:=by omega);(have hXG2:X<G2:=by omega);simp only[← hG2];have HG2:=zh hG2;(obtain⟨f,hf⟩:∃ f:Nat→Nat,f=fun t=>(slN a.arcs a.arcs.length t).length:=⟨_,rfl⟩);have HFF:=zh (show ∀ t,f t=(slN a.arcs a.arcs.length t).length from fun t=>by rw[hf])
   have HPM:=zh (show pendF f (fun _=>false) S≤800000 by
    have h2:=zG9 (f:=f) (U:=fun _=>false) (M:=2000) S (fun t ht=>by
     rw[hf];have h3:=zM4 a.arcs a.arcs.length t;have h4:a.arcs.length=n:=HN.o
     show (slN a.arcs a.arcs.length t).length≤2000
     omega)
    have h5:S*2000≤400*2000:=Nat.mul_le_mul_right _ hS4
    omega)
   have x0:=(HX1.o.below HBG5.o hXG).cell 0;simp at x0;(have lX5:X<W5.heap.size:=by omega);clear hW5 hG2 hf HBK hzr lX4;(go_upto_region 10 with fail);clear x0 lX5
   go_loopw [45] (fun sv wr=>∃ (s:Nat) (vo:Nat→Value),s≤S∧sv=.int .i64 (s:Int)∧Hid (OwnLL wr (G2+1) 26 3 1 G2 S vo (fun t=>intRow (castL (if t<s then nearN a.arcs S t else []))) (fun t=>(if t<s then nearN a.arcs S t else []).length))∧Hid (Below G2 W5 wr)∧G2<wr.heap.size) (fun sv _=>S-(intOf sv).toNat)
   case atStart=>exact⟨0,_,by omega,rfl,HLO0,zh (Below.refl _ _),hz5⟩
   case round =>
    clear HLO0 hz5;obtain⟨s,vo,hs,rfl,HLO,HBS,hzr⟩:=hrel;by_cases hsS:s<S
    ·have x0:=(
      HX1.o.below (HBG5.o.trans (HBS.o.mono (by omega))) hXG).cell 0
     simp at x0;obtain⟨W6,hW6⟩:∃ z,z=wr:=⟨_,rfl⟩;rw[← hW6] at HLO HBS hzr x0 ⊢;clear hW6;(have lX6:X<W6.heap.size:=by omega);have hmk:=HMKB.o;(go_upto_region 14 with fail);clear hmk x0 lX6;generalize hW7:wAe _ _=W7;obtain⟨gU,hgU⟩:∃ z,z=W6.heap.size:=⟨_,rfl⟩
     have HRU7:=zh (show W7.rowIs gU 4 S (fun i=>.bool ((fun _=>false:Nat→Bool) i)) by
      rw[← hW7,hgU]
      exact (World.rowIs_made W6 (.bool false) S 4).alloc _)
     have HTO7:=zh (show W7.ownsRow (gU+1) 3 1 (.slice (some ⟨gU+1,0,none⟩) 1 1) [s].length (intRow (castL [s])) by
      rw[← hW7,hgU]
      exact zBE (cs:=(#[.int .i64 (s:Int)]:Array Value)) (Blk.at_ (by simp)) (wAb _) (by simp[maxLen]))
     have HB67:=zh (show Below gU W6 W7 by rw[← hW7,hgU];go_grown);(have hGU:G2<gU:=by omega);have hz7:gU<W7.heap.size:=HRU7.o.lt;have HCI7:=zh (ClI.start (A:=a.arcs) hsS);have hM7:=zh (show [s].length+pendF f (fun _=>false) S≤1+pendF f (fun _=>false) S by simp);have hM8:=zh (show 1+pendF f (fun _=>false) S≤800001 by have:=HPM.o;omega);have HGU:=zh hgU;simp only[← hgU];clear hW7 hgU
     go_loopg [9] (1+pendF f (fun _=>false) S) (fun gk tv wr=>∃ (U:Nat→Bool) (T:List Nat),Hid (wr.ownsRow (gU+1) 3 1 tv T.length (intRow (castL T)))∧Hid (wr.rowIs gU 4 S (fun i=>.bool (U i)))∧Hid (ClI a.arcs S s U T)∧Hid (T.length+pendF f U S≤gk)∧Hid (gk≤800001)∧Hid (Below gU W7 wr)∧gU<wr.heap.size)
     case atStart=>exact⟨fun _=>false,[s],HTO7,HRU7,HCI7,hM7,hM8,zh (Below.refl _ _),hz7⟩
     case round =>
      clear HTO7 HRU7 HCI7 hM7 hM8 hz7;obtain⟨U,T,HTO,HRU,HCI,HGK,HG8,HBT,hzt⟩:=hrel;rcases List.eq_nil_or_concat T with hnil | ⟨T',k,hcat⟩
      ·subst hnil;have hto:=HTO.o;simp only[List.length_nil] at hto;obtain⟨Av,cv,rfl,_,_⟩:=zAa hto;clear hto;have HUA:=zh (HCI.o.all HRNG.o hsS);clear HTO HCI HGK HG8;have HB6r:=zh (show Below W6.heap.size W6 wr by rw[← HGU.o];exact HB67.o.trans HBT.o)
       have HLO2:=zh ((HLO.o.below HB6r.o).congr (L':=fun t=>intRow (castL (if t<s then nearN a.arcs S t else if t=s then selN U 0 else []))) (m':=fun t=>(if t<s then nearN a.arcs S t else if t=s then selN U 0 else []).length) (fun t _=>by
        by_cases e:t<s
        · rw[if_pos e,if_pos e]
        · rw[if_neg e,if_neg e];simp[selN]) (fun t _=>by
        by_cases e:t<s
        · rw[if_pos e,if_pos e]
        · rw[if_neg e,if_neg e];simp[selN]))
       have HBS2:=zh (show Below G2 W5 wr from HBS.o.trans (HB6r.o.mono (by have:=HGU.o;omega)));have HS1:=zh hsS;obtain⟨W8,hW8⟩:∃ z,z=wr:=⟨_,rfl⟩;rw[← hW8] at HLO2 HBS2 HRU hzt ⊢;clear hW8 HLO HB6r HBT;go_upto_region 21 with fail
       go_loopw [82] (fun kv wr=>∃ (k:Nat) (vo:Nat→Value),k≤S∧kv=.int .i64 (k:Int)∧Hid (OwnLL wr (G2+1) 26 3 1 G2 S vo (fun t=>intRow (castL (if t<s then nearN a.arcs S t else if t=s then selN U k else []))) (fun t=>(if t<s then nearN a.arcs S t else if t=s then selN U k else []).length))∧Hid (wr.rowIs gU 4 S (fun i=>.bool (U i)))∧Hid (Below G2 W5 wr)∧gU<wr.heap.size) (fun kv _=>S-(intOf kv).toNat)
       case atStart=>exact⟨0,_,by omega,rfl,HLO2,HRU,HBS2,hzt⟩
       case round =>
        clear HLO2 HRU HBS2 hzt;obtain⟨k,vo,hk,rfl,HLO,HRU,HBS,hzt⟩:=hrel;by_cases hkS:k<S
        ·have cU:=HRU.o.cell hkS;have HSU:=zh (zMU U k);cases hu:U k
         ·rw[hu] at cU;rw[hu] at HSU;have HLN:=zh (HLO.o.congr (L':=fun t=>intRow (castL (if t<s then nearN a.arcs S t else if t=s then selN U (k+1) else []))) (m':=fun t=>(if t<s then nearN a.arcs S t else if t=s then selN U (k+1) else []).length) (fun t _=>by rw[HSU.o];simp) (fun t _=>by rw[HSU.o];simp));clear hu HSU;go_wp2;go_roundw
          case rel=>exact⟨k+1,vo,by omega,by go_num,HLN,HRU,HBS,hzt⟩
          case measure=>simp[intOf];omega
         ·rw[hu] at cU;rw[hu] at HSU;have cG:=HLO.o.row.cell hsS;have fG:=HLO.o.row.frozen s;(have lG:G2<wr.heap.size:=by omega);obtain⟨vk,hvk⟩:∃ z,z=vo s:=⟨_,rfl⟩;have HVK:=zh hvk;rw[← hvk] at cG;have ownk:=HLO.o.own _ hsS;rw[← hvk] at ownk;rw[if_neg (wAl s),if_pos rfl] at ownk;obtain⟨m1,hm1⟩:∃ z,z=(selN U k).length:=⟨_,rfl⟩;(have hml:m1≤400:=by rw[hm1];have:=zOX U k;omega);rw[← hm1] at ownk;have HM1:=zh hm1;have HOWN:=zh ownk;have HLOW:=zh (show ∀ z,vk.ownBlock=some z→G2+1≤z from fun z hz=>(ownk.lt z hz).1);(have ne2:vk.ownBlock≠some G2:=fun e=>by have:=(ownk.lt _ e).1;omega);have HNU:=zh (show vk.ownBlock≠some gU from zCC ownk HRU.o (by decide));clear hvk hm1 ownk hu;go_wp2_with (at_builtin;refine wpList_append_own_at _ rfl (.tmp 93) (.tmp 95) 26 rfl (G2+1) 3 i0 _ 1 8 Try.underlying26 hi0 hz0 hz1 hz2 rfl (by omega) vk m1 _ rfl (HOWN.o.alloc _) ⟨wr.heap.size,0,none⟩ 1 1 (intRow [(k:Int)]) rfl (by rfl) (World.news_of_block (cs:=(intRow [(k:Int)]).toArray) (t:=3) (fr:=(0,0)) (Blk.at_ rfl)) (zAg _) (by simp only[maxLen];omega) (by omega) (by simp<;>omega) ?_;intro v' w6 hown2 hg2 _ hat2;obtain⟨Av,cv,rfl,hkcv,_⟩:=zAa hown2;have HAT:=zh hat2;have fG1:w6.frozen? ⟨G2,s,none⟩=false:=zAD hg2 ne2 (by simp;omega) ((HLO.o.alloc _).row.frozen _);have cG1:w6.cell? ⟨G2,s,none⟩=some vk:=zAf hg2 ne2 (by rw[HVK.o];exact (HLO.o.alloc _).row.cell hsS);have lG1:G2<w6.heap.size:=by have:=hg2.size;simp at this;omega);have hs6:=hg2.size;simp at hs6
          have HLN:=zh ((((HLO.o.alloc _).push hsS (HVK.o▸hg2) hown2 (HAT.o.elim (fun e=>.inl (by rw[← HVK.o];exact e)) (fun e=>.inr ⟨_,e,wAb _⟩))).congr (L':=fun t=>intRow (castL (if t<s then nearN a.arcs S t else if t=s then selN U (k+1) else []))) (m':=fun t=>(if t<s then nearN a.arcs S t else if t=s then selN U (k+1) else []).length) (fun t ht=>by
           by_cases e:t=s
           ·subst e;rw[if_pos rfl,if_neg (wAl t),if_pos rfl,HSU.o,zAA,zAd];rfl
           · rw[if_neg e,if_neg e,if_neg e]) (fun t ht=>by
           by_cases e:t=s
           ·subst e;rw[if_pos rfl,if_neg (wAl t),if_pos rfl,HSU.o,wAa,HM1.o];rfl
           · rw[if_neg e,if_neg e,if_neg e])))
          have HRUN:=zh (show (w6.setCell ⟨G2,s,none⟩ (.slice Av (m1+1) cv)).rowIs gU 4 S (fun i=>.bool (U i)) from (((HRU.o.alloc _).of_block (hg2.block gU (by simp;omega) (Ne.symm HNU.o)))).setOther (a:=⟨G2,s,none⟩) (by show gU≠G2;omega) _);have HBN:=zh (((HBS.o.alloc (by omega) _).grown hg2 (by simp<;>omega) (fun z hz=>by have:=HLOW.o z hz;omega)).setCell (p:=⟨G2,s,none⟩) (by exact wAb _) (.slice Av (m1+1) cv));clear hown2 hg2 hat2 cG fG fG1 cG1;go_roundw
          case rel=>exact⟨k+1,_,by omega,by go_num,HLN,HRUN,HBN,by simp[wAc];omega⟩
          case measure=>simp[intOf];omega
        ·(obtain rfl:S=k:=by omega);have HSN:=zh (zNm HUA.o)
         have HLN:=zh (HLO.o.congr (L':=fun t=>intRow (castL (if t<s+1 then nearN a.arcs S t else []))) (m':=fun t=>(if t<s+1 then nearN a.arcs S t else []).length) (fun t _=>by
          by_cases e:t<s
          · rw[if_pos e,if_pos (by omega)]
          ·rw[if_neg e];by_cases g:t=s
           · subst g;rw[if_pos rfl,if_pos (by omega),HSN.o]
           · rw[if_neg g,if_neg (by omega)]) (fun t _=>by
          by_cases e:t<s
          · rw[if_pos e,if_pos (by omega)]
          ·rw[if_neg e];by_cases g:t=s
           · subst g;rw[if_pos rfl,if_pos (by omega),HSN.o]
           · rw[if_neg g,if_neg (by omega)]))
         clear HSN HLO;go_wp2;go_roundw
         case rel=>exact⟨s+1,vo,by omega,by go_num,HLN,HBS,by omega⟩
         case measure=>simp[intOf];omega
      ·rw[List.concat_eq_append] at hcat;subst hcat;have hkS:k<S:=HCI.o.rng k (by simp);rw[zAA,zAd,wAa] at HTO;obtain⟨g,cap,rfl,hg1,hg2⟩:=HTO.o.form (by simp);have hown:wr.ownsRow (gU+1) 3 1 (.slice (some ⟨g,0,none⟩) (T'.length+1) cap) (T'.length+1) (intRow (castL T')++[.int .i64 (k:Int)]):=HTO.o;obtain⟨A1,c1,hv1,hc1,hc2⟩:=zAa hown;(obtain⟨rfl,rfl⟩:A1=some ⟨g,0,none⟩∧c1=cap:=by injection hv1 with e1 e2 e3;exact⟨e1.symm,e3.symm⟩);have hlT:(intRow (castL T')).length=T'.length:=by rw[zAh,zBf]
       have cT:wr.cell? ⟨g,T'.length,none⟩=some (.int .i64 (k:Int)):=by
        rw[hown.cellAt _ (by omega),List.getElem?_append_right (by rw[hlT];exact wAb _),hlT];simp
       have cS:=HRU.o.cell hkS;have fS:=HRU.o.frozen k;have hpop:=ownsRow_pop (by rw[hlT];omega) hown;(have hgU:g≠gU:=by omega);obtain⟨n1,hn1⟩:∃ z,z=T'.length:=⟨_,rfl⟩;have HGK':=zh (show n1+1+pendF f U S≤gk by have:=HGK.o;rw[wAa,List.length_singleton] at this;omega);have HPOP:=zh hpop;have HN1:=zh hn1;rw[← hn1] at HPOP hc1 cT ⊢;(have hn8:n1≤800001:=by have h1:=HGK'.o;have h2:=HG8.o;omega);clear hv1 hn1 hown hpop HTO hlT HGK;cases hU:U k
       ·rw[hU] at cS;have HPU:=zh (zFv (f:=f) hU S hkS);have HUT:=zh (HCI.o.take (fun x hx=>⟨(HRNG.o x hx).2.2.1,(HRNG.o x hx).2.2.2⟩))
        have HLS2:=zh ((HLS.o.below (by rw[← HG2.o];exact HB45.o.trans (HBS.o.trans ((HB67.o.mono (by omega)).trans (HBT.o.mono (by omega)))))).farB (p:=⟨gU,k,none⟩) (by show G≠gU;omega) (fun i hi=>by
         have h1:=HLS.o.own i hi;intro e;have h2:=(h1.lt _ e).2;have h3:=HG2.o;simp at h2
         omega) (.bool true))
        have HTP:=zh (ownsRow_setCell_other HPOP.o (a:=⟨gU,k,none⟩) (by simp[Value.ownBlock];exact hgU) (.bool true));have lx:=HLS2.o.own k hkS;have cG:=HLS2.o.row.cell hkS;obtain⟨Ax,cx,hvx,hcx1,hcx2⟩:=zAa lx;rw[hvx] at lx cG;have HRX2:=zh (Rd.of_own lx (fun i j hi hj=>zAi _ i j (by rw[zBf];exact hi) hj))
        have hAx:Ax=none→(slN a.arcs a.arcs.length k).length=0:=by
         intro e;rcases Nat.eq_zero_or_pos (slN a.arcs a.arcs.length k).length with h0 | h0
         · exact h0
         ·obtain⟨b,off,h1,_⟩:=HRX2.o h0;rw[e] at h1;cases h1
        obtain⟨ml,hml⟩:∃ ml,ml=(slN a.arcs a.arcs.length k).length:=⟨_,rfl⟩;have HML:=zh hml;have HFS:=zh (show f k=ml by rw[HFF.o,hml]);rw[← hml] at hAx hcx1 cG HRX2
        have hnm:n1+ml≤800001:=by
         have h1:=HPU.o;have h2:=HGK'.o;have h3:=HG8.o;have h4:=HFS.o;omega
        (have lG2:G<wr.heap.size:=by omega);clear hml hvx lx hU HCI;go_wp2_with (at_builtin;refine zAw _ rfl (.tmp 74) (.tmp 78) _ rfl (gU+1) 3 i0 _ 1 8 Try.underlying26 hi0 hz0 hz1 hz2 rfl (by omega) (.slice (some ⟨g,0,none⟩) n1 c1) n1 (intRow (castL T')) rfl HTP.o _ Ax ml cx (intRow (castL (slN a.arcs a.arcs.length k))) (intCell (castL (slN a.arcs a.arcs.length k))) rfl HRX2.o hAx (by rw[zAh,zBf,HML.o];omega) (fun i j hi hj=>zAi _ i j (by rw[zBf,← HML.o];exact hi) hj) (zAg _) (by simp only[maxLen];omega) (by omega) (by simp[wAc];omega) ?_;intro v2 w2 hown2 hg2' hat2);have HB3:=zh ((HBT.o.setCell (p:=⟨gU,k,none⟩) (by exact wAb _) (.bool true)).grown hg2' (by simp[wAc];omega) (fun z hz=>by simp[Value.ownBlock] at hz;omega));have HRU3:=zh (((HRU.o.set k (.bool true)).of_block (hg2'.block gU (by simp[wAc];omega) (by simp[Value.ownBlock];exact Ne.symm hgU))).congr (g:=fun i=>.bool (upd U k i)) (fun i _=>by unfold upd;split<;>rfl));have hs2:=hg2'.size;simp[wAc] at hs2;have HTN:=zh (show w2.ownsRow (gU+1) 3 1 v2 (T'++slN a.arcs a.arcs.length k).length (intRow (castL (T'++slN a.arcs a.arcs.length k))) by rw[zAA,zAd,wAa,← HN1.o,← HML.o];exact hown2);clear hown2 hg2' hat2
        go_roundg (gk-1)
        case measure=>have:=HGK'.o;omega
        case rel=>exact⟨upd U k,T'++slN a.arcs a.arcs.length k,HTN,HRU3,HUT,zh (by
         rw[wAa,← HN1.o,← HML.o];have h1:=HPU.o;have h2:=HGK'.o;have h4:=HFS.o
         omega),zh (by have:=HG8.o;omega),HB3,by omega⟩
       ·rw[hU] at cS;have HUS:=zh (HCI.o.skip hU);have HTN:=zh (show wr.ownsRow (gU+1) 3 1 (.slice (some ⟨g,0,none⟩) n1 c1) T'.length (intRow (castL T')) by rw[← HN1.o];exact HPOP.o);clear HCI hU;go_wp2
        go_roundg (gk-1)
        case measure=>have:=HGK'.o;omega
        case rel=>exact⟨U,T',HTN,HRU,HUS,zh (by rw[← HN1.o];have:=HGK'.o;omega),zh (by have:=HG8.o;omega),HBT,hzt⟩
    ·(obtain rfl:S=s:=by omega);have HLN:=zh (HLO.o.congr (L':=fun t=>intRow (castL (nearN a.arcs S t))) (m':=fun t=>(nearN a.arcs S t).length) (fun t ht=>by rw[if_pos ht]) (fun t ht=>by rw[if_pos ht]));have HBE:=zh (HB1.o.trans ((HBG5.o.trans (HBS.o.mono (by omega))).mono (by have:=HWG.o;omega)));go_wp2;exact bodyPost_ret (v:=.slice (some ⟨G2,0,none⟩) S S) (by simp[results,Try.results105,go_sem]) rfl ⟨G2,vo,rfl,by have:=HWG.o;omega,HLN.o,HBE.o⟩
def opV (S gF gA gN:Nat):Value:=.agg #[.int .i64 (S:Int),.slice (some ⟨gF,0,none⟩) S S,.slice (some ⟨gA,0,none⟩) S S,.slice (some ⟨gN,0,none⟩) S S]
structure OpenAt (w:World) (m:Mach) (S gF gA gN:Nat) (va vn:Nat→Value):Prop where
 fin:w.rowIs gF 4 S (fun i=>.bool (fnB m.fins m.fins.length i))
 arcs:∃ B,OwnLL w B 22 64 5 gA S va (fun s=>arcRow (arN m.arcs m.arcs.length s)) (fun s=>(arN m.arcs m.arcs.length s).length)
 near:∃ B,OwnLL w B 26 3 1 gN S vn (fun s=>intRow (castL (nearN m.arcs S s))) (fun s=>(nearN m.arcs S s).length)
theorem OpenAt.below {w w':World} {m:Mach} {S gF gA gN:Nat} {va vn:Nat→Value} (h:OpenAt w m S gF gA gN va vn) (hb:Below w.heap.size w w'):OpenAt w' m S gF gA gN va vn :=
 ⟨h.fin.of_block (hb.block gF h.fin.lt),h.arcs.elim fun B g=>⟨B,g.below hb⟩,h.near.elim fun B g=>⟨B,g.below hb⟩⟩
theorem OpenAt.lts {w:World} {m:Mach} {S gF gA gN:Nat} {va vn:Nat→Value} (h:OpenAt w m S gF gA gN va vn):gF<w.heap.size∧gA<w.heap.size∧gN<w.heap.size :=
 ⟨h.fin.lt,h.arcs.elim fun _ g=>g.row.lt,h.near.elim fun _ g=>g.row.lt⟩
theorem OpenAt.nearAt {w:World} {m:Mach} {S gF gA gN:Nat} {va vn:Nat→Value} (h:OpenAt w m S gF gA gN va vn) {s:Nat} (hs:s<S):∃ A c,w.cell? ⟨gN,s,none⟩=some (.slice A (nearN m.arcs S s).length c)∧Rd w w.heap.size 1 A (nearN m.arcs S s).length (intCell (castL (nearN m.arcs S s))):=by
 obtain⟨B,g⟩:=h.near;have hc:=g.row.cell hs;have ho:=g.own s hs;obtain⟨A,c,hv,_,_⟩:=zAa ho;rw[hv] at hc ho;exact⟨A,c,hc,Rd.of_own ho fun i j hi hj=>zAi _ i j (by rw[zBf];exact hi) hj⟩
theorem OpenAt.arcsAt {w:World} {m:Mach} {S gF gA gN:Nat} {va vn:Nat→Value} (h:OpenAt w m S gF gA gN va vn) {s:Nat} (hs:s<S):∃ A c,w.cell? ⟨gA,s,none⟩=some (.slice A (arN m.arcs m.arcs.length s).length c)∧Rd w w.heap.size 5 A (arN m.arcs m.arcs.length s).length (arcCell (arN m.arcs m.arcs.length s)):=by
 obtain⟨B,g⟩:=h.arcs;have hc:=g.row.cell hs;have ho:=g.own s hs;obtain⟨A,c,hv,_,_⟩:=zAa ho;rw[hv] at hc ho;exact⟨A,c,hc,Rd.of_own ho fun i j hi hj=>zAr _ i j hi hj⟩
theorem zIY {w:World} {B n:Nat} {A:Option Addr} {l:List Nat} (h:Rd w B 1 A n (intCell (castL l))) (hl:l.length=n) {k:Nat} (hk:k<n) :
 ∃ b off x,A=some ⟨b,off,none⟩∧b<B∧w.cell? ⟨b,off+k,none⟩=some (.int .i64 ((x:Nat):Int))∧Hid (l[k]? = some x):=by
 obtain⟨b,off,h1,h2,c0⟩:=h.at1 hk;have e:l[k]? = some (l[k]'(by omega)):=wAh _;refine⟨b,off,l[k]'(by omega),h1,h2,?_,zh e⟩;rw[c0]
 show some (Value.int .i64 ((castL l).getD k 0))=_
 rw[zPt e]
end Go.Proofs.Ytkfdhpbnphojoaa
namespace Gm
open Go
def b2 (x:Int):List Int:=[x/256%256,x%256]
theorem zSz {x y:Int} (hx:0≤x∧x<65536) (hy:0≤y∧y<65536) (h:b2 x=b2 y):x=y:=by
 unfold b2 at h;simp only[List.cons.injEq,and_true] at h;omega
theorem zSV (x:Int):∀ b∈b2 x,0≤b∧b<256:=by
 intro b hb;unfold b2 at hb;simp only[List.mem_cons,List.not_mem_nil,or_false] at hb;omega
def setBy (S:List Int):List Int:=S.flatMap b2
theorem zLj (S:List Int) (x:Int):setBy (S++[x])=setBy S++b2 x:=by unfold setBy;rw[List.flatMap_append];simp
theorem zBX:∀ S,(setBy S).length=2*S.length
 | []=>rfl
 | x::S=>by
  show (b2 x++setBy S).length=_
  rw[wAa,zBX S,List.length_cons]
  show 2+_=_
  omega
theorem zE7 (S:List Int):∀ b∈setBy S,0≤b∧b<256:=by
 intro b hb;obtain⟨x,_,h⟩:=List.mem_flatMap.1 (show b∈S.flatMap b2 from hb);exact zSV x b h
theorem zIz:∀ {S T:List Int},(∀ s∈S,0≤s∧s<65536)→(∀ s∈T,0≤s∧s<65536)→setBy S=setBy T→S=T
 | [],[],_,_,_=>rfl
 | [],y::T,_,_,h=>by have:=congrArg wAp h;rw[zBX,zBX] at this;simp at this
 | x::S,[],_,_,h=>by have:=congrArg wAp h;rw[zBX,zBX] at this;simp at this
 | x::S,y::T,hS,hT,h=>by
  have e:b2 x++setBy S=b2 y++setBy T:=h;obtain⟨h1,h2⟩:=List.append_inj e rfl;rw[zSz (hS x wAf) (hT y wAf) h1,zIz (fun z hz=>hS z (wAd _ hz)) (fun z hz=>hT z (wAd _ hz)) h2]
def keyS (S:List Int):List UInt8:=toB (setBy S)
def smS (S:List Int):Prop:=S.length≤400∧∀ s∈S,0≤s∧s<65536
theorem zKl {S T:List Int} (hS:smS S) (hT:smS T) (h:keyS S=keyS T):S=T:=zIz hS.2 hT.2 (zIW (zE7 S) (zE7 T) h)
theorem zHt {l:List (List Int)} (hl:∀ T∈l,smS T) {S:List Int} (hS:smS S):keyS S∈l.map keyS↔S∈l:=by
 rw[List.mem_map];constructor
 · rintro⟨T,hT,e⟩;rw[← zKl (hl T hT) hS e];exact hT
 · intro h;exact⟨S,h,rfl⟩
theorem zJJ:∀ {l:List (List Int)},(∀ T∈l,smS T)→∀ {S:List Int},smS S→(l.map keyS).idxOf (keyS S)=l.idxOf S
 | [],_,_,_=>rfl
 | T::l,hl,S,hS=>by
  rw[List.map_cons,wAo,wAo,zJJ (fun U hU=>hl U (wAd _ hU)) hS];by_cases e:T=S
  · subst e;simp
  ·(have g:keyS T≠keyS S:=fun h=>e (zKl (hl T wAf) hS h));rw[show (T==S)=false by simpa using e,show (keyS T==keyS S)=false by simpa using g]
theorem zNB {S:List Int} (h:smS S):okS (keyS S):=by
 unfold okS;have h1:=h.1;unfold keyS toB;rw[List.length_map,zBX];omega
end Gm
namespace Go.Proofs.Ytkfdhpbnphojoaa
open Go.RowKit Gm
theorem zMg (S:List Int) (A:Option Addr) (n c:Nat) (w:World) (B:Nat) (hB:B≤w.heap.size) (hl:S.length=n) (hn:n≤400) (h:Rd w B 1 A n (intCell S)) (hs:∀ s∈S,0≤s∧s<65536) :
 Calls Try.prog 70 #[.slice A n c] w fun e w'=>e=.returned (kvS (keyS S))∧Below w.heap.size w w':=by
 obtain⟨i8,h80,h81,h82,h83⟩:=info_parts zMH;have HRD:=zh h;have HL:=zh hl;have HS:=zh hs;obtain⟨c2,hc2⟩:∃ z:Nat,z=2*n:=⟨_,rfl⟩;have HMK:=zh (fun (W:World)=>run_make (P:=Try.prog) W 114 5 i8 (.int .u8 0) Try.underlying114 h80 h81 .i64 .i64 0 (c2:Int) (Int.le_refl _) (by omega) (by rw[h83];omega) (by omega));have e2:2*(n:Int)=(c2:Int):=by omega
 have wk:IntKind.i64.wrap (c2:Int)=(c2:Int):=IntWalk.i64_in _ (by omega);have hc28:c2≤800:=by omega
 unfold kvS;clear h hl hs hc2
 go_enter Try.func70,Try.ntmps70
 have hmk:=HMK.o;simp only[Int.toNat_zero,Int.toNat_natCast] at hmk;go_upto_region 3 with fail
 clear hmk;generalize hW1:wAe _ _=W1;obtain⟨G,hG⟩:∃ z,z=w.heap.size:=⟨_,rfl⟩
 have HO1:=zh (show W1.ownsRow G 5 1 (.slice (some ⟨G,0,none⟩) 0 c2) (2*0) (byRow (setBy (S.take 0))) by
  rw[← hW1,hG];have h1:=World.ownsRow_made (base:=w.heap.size) (e:=5) (size:=1) w (madeCells #[Value.int .u8 0] (c2*1)) c2 (wAb _) (by simp[maxLen];omega) (size_madeCells _ _);simp only[List.take_zero]
  first
   | exact h1
   | simpa[h82,setBy,byRow,Value.cells] using h1)
 have HB1:=zh (show Below w.heap.size w W1 by rw[← hW1];go_grown);have hz1:G<W1.heap.size:=by rw[← hW1];simp[hG]
 have HWG:=zh (show w.heap.size≤G by omega);have hBG:B≤G:=by omega
 simp only[← hG];clear hW1 hG e2 wk
 go_loopw [3,12] (fun bv jv wr=>∃ j:Nat,j≤n∧jv=.int .i64 (j:Int)∧Hid (wr.ownsRow G 5 1 bv (2*j) (byRow (setBy (S.take j))))∧Hid (Below w.heap.size w wr)∧G<wr.heap.size) (fun _ jv _=>n-(intOf jv).toNat)
 case atStart=>exact⟨0,by omega,rfl,HO1,HB1,hz1⟩
 case round =>
  clear HO1 HB1 hz1;obtain⟨j,hj,rfl,HO,HBK,hzr⟩:=hrel;by_cases hjn:j<n
  ·obtain⟨bb,off,x,rfl,hbB,d0,HX⟩:=zAO (HRD.o.below HBK.o hB) hjn;(have hjl:j<S.length:=by rw[HL.o];exact hjn);have HTK:=zh (zDD hjl HX.o);(have hxm:x∈S:=by rw[← HX.o];simp[List.getD,hjl]);obtain⟨x0,x1⟩:=HS.o x hxm;(have lb:bb<wr.heap.size:=by omega);obtain⟨A5,c5,rfl,hmc,_⟩:=zAa HO.o;obtain⟨q1,hq1⟩:∃ q,IntKind.u8.wrap (x/256)=q:=⟨_,rfl⟩;obtain⟨q2,hq2⟩:∃ q,IntKind.u8.wrap x=q:=⟨_,rfl⟩;have HB4:=zh (show [q1,q2]=b2 x by rw[← hq1,← hq2,wrap8,wrap8];rfl);obtain⟨m2,hm2⟩:∃ z,z=2*j:=⟨_,rfl⟩;have HM2:=zh hm2;rw[← hm2] at HO hmc ⊢;(have hm28:m2≤800:=by omega);clear HX hjl hxm hm2;go_wp2_with (at_builtin;go_loud (refine wpList_append_own_at _ rfl (.tmp 16) (.tmp 22) 114 rfl G 5 i8 _ 1 1 Try.underlying114 h80 h81 h82 h83 rfl (by omega) (.slice A5 m2 c5) m2 _ rfl (HO.o.alloc _) ⟨wr.heap.size,0,none⟩ 2 2 (byRow [q1,q2]) rfl (by rfl) (World.news_of_block (cs:=(byRow [q1,q2]).toArray) (t:=5) (fr:=(0,0)) (Blk.at_ rfl)) (zHM _) (by simp only[maxLen];omega) (by omega) (by simp<;>omega) ?_;intro v' w8 hown2 hg2 _ hat2;obtain⟨A8,c8,rfl,hm8,_⟩:=zAa hown2))
   have HON:=zh (show w8.ownsRow G 5 1 (.slice A8 (m2+2) c8) (2*(j+1)) (byRow (setBy (S.take (j+1)))) by
    rw[HTK.o,zLj,zEs,← HB4.o,show 2*(j+1)=m2+2 by have:=HM2.o;omega]
    exact hown2)
   have HBN:=zh ((HBK.o.alloc (by have:=HBK.o.size;omega) _).grown hg2 (by have:=HBK.o.size;simp;omega) (fun z hz=>by have:=(HO.o.lt z hz).1;have:=HWG.o;omega));have hs8:=hg2.size;simp at hs8;clear hown2 hg2 hat2 hq1 hq2;go_roundw
   case rel=>exact⟨j+1,by omega,by go_num,HON,HBN,by omega⟩
   case measure=>simp[intOf];omega
  ·obtain rfl:n=j:=by omega
   have HO2:=zh (show wr.ownsRow G 5 1 u3 (2*n) (Lib.byteCells (keyS S)) by
    have:=HO.o
    rw[List.take_of_length_le (by rw[HL.o];exact wAb _),zDu (zE7 S)] at this
    exact this)
   have hcv:=zQG HO2.o;clear HO;go_wp2;exact bodyPost_ret (v:=.string ⟨(keyS S).toArray⟩) (by simp[results,Try.results70,go_sem]) rfl ⟨rfl,HBK.o⟩
end Go.Proofs.Ytkfdhpbnphojoaa
