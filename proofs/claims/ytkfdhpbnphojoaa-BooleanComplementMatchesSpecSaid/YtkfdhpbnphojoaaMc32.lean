/- Part of the proof. -/
import Derived.Test.YtkfdhpbnphojoaaMc30
import Derived.Test.YtkfdhpbnphojoaaMc29
set_option linter.unusedSimpArgs false
set_option linter.unusedVariables false
set_option maxRecDepth 100000
set_option maxHeartbeats 16000000
open List renaming getD_eq_getElem?_getD→wAa,length_map→wAc,mem_singleton→wAd,length_range→wAe,mem_map→wAf,length_append→wAg,mem_cons→wAh,getElem?_eq_getElem→wAi,map_append→wAj,take_of_length_le→wAk,mem_cons_of_mem→wAl,mem_range→wAm,length→wAn
open Nat renaming le_refl→wAb
namespace Gm
open Go Go.RowKit
theorem zIE {w:World} {g:Nat} (hg:g=w.heap.size):MapIs (w.alloc (.map #[] 0)) cplB okB g []:=by subst hg;exact MapIs.made w cplB okB
end Gm
namespace Go.Proofs.Ytkfdhpbnphojoaa
open Go.RowKit Gm
def lngV (S Mb gF:Nat):Value:=.agg #[.map (some Mb),.slice (some ⟨gF,0,none⟩) S S]
structure LangAt (w:World) (m:Mach) (S Mb gF:Nat):Prop where
 map:MapIs w cplB okB Mb (mapC m.arcs)
 fin:w.rowIs gF 4 S (fun i=>.bool (fnB m.fins m.fins.length i))
theorem LangAt.below {w w':World} {m:Mach} {S Mb gF:Nat} (h:LangAt w m S Mb gF) (hb:Below w.heap.size w w'):LangAt w' m S Mb gF :=
 ⟨h.map.below hb h.map.lt,h.fin.of_block (hb.block gF h.fin.lt)⟩
theorem zDn (va:Value) (a:Mach) (w:World) (S:Nat) (ha:MachAt w w.heap.size va a) (hD:DmOk a S) :
 Calls Try.prog 86 #[va] w fun e w'=>∃ Mb gF:Nat,e=.returned (lngV S Mb gF)∧LangAt w' a S Mb gF∧Below w.heap.size w w':=by
 obtain⟨A,AF,n,c,nf,cf,rfl,HN,HF,hnc,hnfc,hnb,hnfb,hA,hF⟩:=ha;have hn4:=hD.len;have hf4:=hD.flen;have hS4:=hD.n4;rw[HN.o] at hn4;rw[HF.o] at hf4;have HDM:=zh hD;have HRA:=zh hA;have HRF:=zh hF;unfold big at hnb hnfb;rw[hD.n];have HMKB:=zh (fun (W:World)=>run_make_row' (P:=Try.prog) 51 4 (.bool false) 1 Try.underlying51 zAN rfl .i64 .i64 S (by omega) (by omega) W);clear hA hF hD
 go_enter Try.func86,Try.ntmps86
 have hmk:=HMKB.o;have hmm:=@run_makeMap Try.prog;go_upto_region 3 with fail
 clear hmk hmm;generalize hW3:World.alloc _ _=W3;obtain⟨X,hX⟩:∃ z,z=w.heap.size:=⟨_,rfl⟩;obtain⟨R,hR⟩:∃ z,z=w.heap.size+1:=⟨_,rfl⟩;obtain⟨Mb,hMb⟩:∃ z,z=w.heap.size+1+1:=⟨_,rfl⟩;obtain⟨gF,hgF⟩:∃ z,z=w.heap.size+1+1+1:=⟨_,rfl⟩;obtain⟨O,hO⟩:∃ z,z=w.heap.size+1+1+1+1:=⟨_,rfl⟩;have HX0:=zh (show Blk W3 X 25 #[.int .i64 (S:Int),.slice A n c,.slice AF nf cf] by rw[← hW3];exact ((((Blk.at_ hX).alloc _).alloc _).alloc _).alloc _);have HR0:=zh (show Blk W3 R 107 #[.map none,.slice none 0 0] by rw[← hW3];exact (((Blk.at_ (by simp[hR])).alloc _).alloc _).alloc _);have HM0:=zh (show MapIs W3 cplB okB Mb (mapC (a.arcs.take 0)) by rw[← hW3,List.take_zero];exact ((zIE (by simp[hMb])).alloc _).alloc _);have HF0:=zh (show W3.rowIs gF 4 S (fun _=>.bool false) by rw[← hW3];exact (zFX (by simp[hgF])).alloc _);have HO0:=zh (show Blk W3 O 107 #[.map (some Mb),.slice (some ⟨gF,0,none⟩) S S] by rw[← hW3,hMb,hgF];exact Blk.at_ (by simp[hO]));have HB0:=zh (show Below w.heap.size w W3 by rw[← hW3];go_grown);simp only[← hO]
 try simp only[← hgF]
 try simp only[← hMb]
 try simp only[← hR]
 try simp only[← hX]
 have q1:w.heap.size≤X:=by omega
 have q2:X<R:=by omega
 have q3:R<Mb:=by omega
 have q4:Mb<gF:=by omega
 have q5:gF<O:=by omega
 clear hW3 hX hR hMb hgF hO HMKB
 go_loopw [16] (fun iv wr=>∃ i:Nat,i≤n∧iv=.int .i64 (i:Int)∧Hid (MapIs wr cplB okB Mb (mapC (a.arcs.take i)))∧Hid (wr.rowIs gF 4 S (fun _=>.bool false))∧Hid (Blk wr O 107 #[.map (some Mb),.slice (some ⟨gF,0,none⟩) S S])∧Hid (Blk wr X 25 #[.int .i64 (S:Int),.slice A n c,.slice AF nf cf])∧Hid (Blk wr R 107 #[.map none,.slice none 0 0])∧Hid (Below w.heap.size w wr)) (fun iv _=>n-(intOf iv).toNat)
 case atStart=>exact⟨0,by omega,rfl,HM0,HF0,HO0,HX0,HR0,HB0⟩
 case round =>
  clear HM0 HF0 HO0 HX0 HR0 HB0;obtain⟨i,hi,rfl,HM,HFr,HO,HX,HR,HB⟩:=hrel;have hsz:=HB.o.size;by_cases hin:i<n
  ·obtain⟨b,off,x,rfl,hbB,d0,d1,d2,d3,d4,HXx⟩:=zAp (HRA.o.below HB.o (wAb _)) hin;(have hil:i<a.arcs.length:=by rw[HN.o];exact hin);have HXA:=zh (show a.arcs[i]? = some x by rw[wAi hil,← HXx.o];simp[hil]);have HTK:=zh (show a.arcs.take (i+1)=a.arcs.take i++[x] from zAY hil HXx.o);have hxm:=List.mem_of_getElem? HXA.o;obtain⟨r0,r1,r2,r3⟩:=HDM.o.rng x hxm;obtain⟨l0,l1⟩:=HDM.o.lab x hxm;have HOK:=zh (show okB (x.f,x.i) from ⟨by dsimp only;omega,by dsimp only;omega,by dsimp only;omega,by dsimp only;omega⟩);(have lb:b<wr.heap.size:=by omega);clear HXx hil hxm;(go_upto_region 5 with fail);generalize hW5:World.alloc _ _=W5;obtain⟨bx,hbx⟩:∃ z,z=wr.heap.size:=⟨_,rfl⟩;have HX5:=zh (show Blk W5 bx 64 #[.int .i64 x.f,.int .i64 x.t,.int .i64 x.i,.int .i64 x.o,.int .i64 x.w] by rw[← hW5];exact Blk.at_ hbx);have P1:=zh (show MapIs W5 cplB okB Mb (mapC (a.arcs.take i)) by rw[← hW5];exact HM.o.alloc _);have P2:=zh (show W5.rowIs gF 4 S (fun _=>.bool false) by rw[← hW5];exact HFr.o.alloc _);have P3:=zh (show Blk W5 O 107 #[.map (some Mb),.slice (some ⟨gF,0,none⟩) S S] by rw[← hW5];exact HO.o.alloc _);have P4:=zh (show Blk W5 X 25 #[.int .i64 (S:Int),.slice _ n c,.slice AF nf cf] by rw[← hW5];exact HX.o.alloc _);have P5:=zh (show Blk W5 R 107 #[.map none,.slice none 0 0] by rw[← hW5];exact HR.o.alloc _);have P6:=zh (show Below w.heap.size w W5 by rw[← hW5];exact HB.o.alloc hsz _);simp only[← hbx];clear hW5 hbx HM HFr HO HX HR HB d0 d1 d2 d3 d4 lb;have y0:=HX5.o.cell 0;have y1:=HX5.o.cell 1;have y2:=HX5.o.cell 2;have z0:=P3.o.cell 0;simp at y0 y1 y2 z0;have ly:bx<W5.heap.size:=HX5.o.lt;have lz:O<W5.heap.size:=P3.o.lt;go_wp2_with (at_mapUpdate;go_loud (refine zBs rfl _ _ _ 105 rfl zCw Try.underlying105 rfl P1.o (x.f,x.i) rfl HOK.o (.int .i64 x.t) rfl ?_;intro w7 hm7 hg7 hz7;have HM7:=zh hm7;have HG7:=zh hg7;clear hm7 hg7 hz7));have hs7:=HG7.o.size;go_roundw
   case rel=>exact⟨i+1,by omega,by go_num,zh (by rw[HTK.o,zII];exact HM7.o),zh (P2.o.of_block (HG7.o.block gF P2.o.lt (by intro e;injection e with e;omega))),zh (P3.o.grown HG7.o (by intro e;injection e with e;omega)),zh (P4.o.grown HG7.o (by intro e;injection e with e;omega)),zh (P5.o.grown HG7.o (by intro e;injection e with e;omega)),zh (P6.o.grown HG7.o P6.o.size (fun z hz=>by injection hz with hz;omega))⟩
   case measure=>simp[intOf];omega
  ·(obtain rfl:n=i:=by omega);have HME:=zh (show MapIs wr cplB okB Mb (mapC a.arcs) by have:=HM.o;rw[wAk (by rw[HN.o];exact wAb _)] at this;exact this);have HFF:=zh (show wr.rowIs gF 4 S (fun i=>.bool (fnB a.fins 0 i)) by rw[zEZ];exact HFr.o);have x2:=HX.o.cell 2;simp at x2;have lX:X<wr.heap.size:=HX.o.lt;obtain⟨W4,hW4⟩:∃ z,z=wr:=⟨_,rfl⟩;rw[← hW4] at HME HFF HO HR HB x2 lX ⊢;clear hW4 HM HFr HX;(go_upto_region 8 with fail);clear x2 lX
   go_loopw [33] (fun iv wr=>∃ i:Nat,i≤nf∧iv=.int .i64 (i:Int)∧Hid (wr.rowIs gF 4 S (fun s=>.bool (fnB a.fins i s)))∧Hid (MapIs wr cplB okB Mb (mapC a.arcs))∧Hid (Blk wr O 107 #[.map (some Mb),.slice (some ⟨gF,0,none⟩) S S])∧Hid (Blk wr R 107 #[.map none,.slice none 0 0])∧Hid (Below w.heap.size w wr)) (fun iv _=>nf-(intOf iv).toNat)
   case atStart=>exact⟨0,by omega,rfl,HFF,HME,HO,HR,HB⟩
   case round =>
    clear HFF HME HO HR HB hsz;obtain⟨i,hi,rfl,HFr,HM,HO,HR,HB⟩:=hrel;have hsz:=HB.o.size;by_cases hin:i<nf
    ·obtain⟨b,off,x,rfl,hbB,d0,d1,HXx⟩:=zAQ (HRF.o.below HB.o (wAb _)) hin;have hxm:=zCf (by rw[HF.o];exact hin) HXx.o;obtain⟨r0,r1⟩:=HDM.o.frng x hxm;(have hkey:x.s.toNat<S:=by omega);(have hil:i<a.fins.length:=by rw[HF.o];exact hin);have HNX:=zh (zEK (F:=a.fins) (i:=i) (x:=x) (by rw[wAi hil,← HXx.o];simp[hil]) r0);(have lb:b<wr.heap.size:=by omega);have cF:=HFr.o.cell hkey;have fF:=HFr.o.frozen x.s.toNat;have lFr:gF<wr.heap.size:=HFr.o.lt;have lOr:O<wr.heap.size:=HO.o.lt;have y1:=HO.o.cell 1;simp at y1;clear HXx hxm hil;go_wp2;go_roundw
     case rel=>exact⟨i+1,by omega,by go_num,zh (((HFr.o.set x.s.toNat (.bool true)).congr (fun s _=>by rw[← HNX.o];exact zBC _ _ _)).alloc _),zh ((HM.o.set_ (p:=⟨gF,x.s.toNat,none⟩) (by show Mb≠gF;omega) _).alloc _),zh ((HO.o.far (by show O≠gF;omega) _).alloc _),zh ((HR.o.far (by show R≠gF;omega) _).alloc _),zh ((HB.o.setCell (p:=⟨gF,x.s.toNat,none⟩) (by show w.heap.size≤gF;omega) _).alloc (by simpa using hsz) _)⟩
     case measure=>simp[intOf];omega
    ·(obtain rfl:nf=i:=by omega);have HFE:=zh (show wr.rowIs gF 4 S (fun s=>.bool (fnB a.fins a.fins.length s)) by rw[HF.o];exact HFr.o);have y0:=HO.o.cell 0;have y1:=HO.o.cell 1;have k0:=HR.o.cell 0;have k1:=HR.o.cell 1;have f0:=HR.o.frozen 0;have f1:=HR.o.frozen 1;simp at y0 y1 k0 k1;have lRr:=HR.o.lt;have lOr:O<wr.heap.size:=HO.o.lt;(have hOR:O≠R:=by omega);clear HFr;go_wp21;refine bodyPost_ret (v:=lngV S Mb gF) (by simp[results,Try.results86,go_sem,lngV,lRr,k0,k1,f0,f1]) rfl ?_;exact⟨Mb,gF,rfl,⟨(HM.o.set_ (p:=⟨R,0,none⟩) (by show Mb≠R;omega) _).set_ (p:=⟨R,1,none⟩) (by show Mb≠R;omega) _,(HFE.o.setOther (a:=⟨R,0,none⟩) (by show gF≠R;omega) _).setOther (a:=⟨R,1,none⟩) (by show gF≠R;omega) _⟩,(HB.o.setCell (p:=⟨R,0,none⟩) (by show w.heap.size≤R;omega) _).setCell (p:=⟨R,1,none⟩) (by show w.heap.size≤R;omega) _⟩
theorem zOM (a:Mach) (w:World) (S Mb gF:Nat) (s x:Int) (h:LangAt w a S Mb gF) (hD:DmOk a S) (hs : -1≤s∧s≤2000000) (hx : -1≤x∧x≤2000000) :
 Calls Try.prog 88 #[lngV S Mb gF,.int .i64 s,.int .i64 x] w fun e w'=>e=.returned (.int .i64 (nxI a s x))∧Below w.heap.size w w':=by
 have HL:=zh h.map
 have HLK:=zh (show (lk (mapC a.arcs) (s,x)=none∧nxI a s x = -1)∨lk (mapC a.arcs) (s,x)=some (.int .i64 (nxI a s x)) by
  have:=lkC (A:=a.arcs) (fun y hy=>(hD.rng y hy).1) s x a.arcs.length
  rw[List.take_length] at this
  exact this)
 have HOK:=zh (show okB (s,x) from ⟨hs.1,hs.2,hx.1,hx.2⟩);obtain⟨r,hr⟩:∃ z,z=nxI a s x:=⟨_,rfl⟩;rw[← hr] at HLK ⊢;unfold lngV;clear h hD hr hs hx
 go_enter Try.func88,Try.ntmps88
 rcases HLK.o with⟨h1,h2⟩ | h1
 ·subst h2;have HN:=zh h1;clear h1;go_wp2_with (at_lookup;go_loud (refine zBH rfl _ _ 105 rfl zCw Try.underlying105 zCj rfl (HL.o.alloc _) (s,x) rfl HOK.o HN.o ?_));exact bodyPost_ret (v:=.int .i64 (-1)) (by simp[results,Try.results88,go_sem]) rfl ⟨rfl,by go_grown⟩
 ·have HN:=zh h1;clear h1;go_wp2_with (at_lookup;go_loud (refine zBz rfl _ _ 105 rfl zCw Try.underlying105 zCj rfl (HL.o.alloc _) (s,x) rfl HOK.o _ HN.o ?_));exact bodyPost_ret (v:=.int .i64 r) (by simp[results,Try.results88,go_sem]) rfl ⟨rfl,by go_grown⟩
theorem zKm (a:Mach) (w:World) (S Mb gF:Nat) (s:Int) (h:LangAt w a S Mb gF) (hD:DmOk a S) :
 Calls Try.prog 87 #[lngV S Mb gF,.int .i64 s] w fun e w'=>e=.returned (.bool (acI a s))∧Below w.heap.size w w':=by
 have hS4:=hD.n4;have hn:=hD.n;have HR:=zh h.fin;unfold acI;rw[hn];unfold lngV;clear h hD hn
 go_enter Try.func87,Try.ntmps87
 by_cases h0:0≤s
 ·by_cases h1:s<(S:Int)
  ·(have hk:s.toNat<S:=by omega);have cF:=(HR.o.alloc (.cells #[.map (some Mb),.slice (some ⟨gF,0,none⟩) S S] 107)).cell hk;have lF:=(HR.o.alloc (.cells #[.map (some Mb),.slice (some ⟨gF,0,none⟩) S S] 107)).lt;have t0:decide (s≥0)=true:=decide_eq_true h0;have t0':decide (0≤s)=true:=decide_eq_true h0;have t1:decide (s<(S:Int))=true:=decide_eq_true h1;go_wp2;rw[t0',t1];exact bodyPost_ret (v:=.bool (fnB a.fins a.fins.length s.toNat)) (by simp[results,Try.results87,go_sem]) rfl ⟨rfl,by go_grown⟩
  ·have t0:decide (s≥0)=true:=decide_eq_true h0;have t0':decide (0≤s)=true:=decide_eq_true h0;have t1:decide (s<(S:Int))=false:=decide_eq_false h1;go_wp2
   try rw[t0',t1]
   exact bodyPost_ret (v:=.bool false) (by simp[results,Try.results87,go_sem]) rfl ⟨rfl,by go_grown⟩
 ·have t0:decide (s≥0)=false:=decide_eq_false h0;have t0':decide (0≤s)=false:=decide_eq_false h0;go_wp2
  try rw[t0']
  exact bodyPost_ret (v:=.bool false) (by simp[results,Try.results87,go_sem]) rfl ⟨rfl,by go_grown⟩
end Go.Proofs.Ytkfdhpbnphojoaa
namespace Gm
open Go Go.RowKit
def toF (c:Int×Int):Fnl:=⟨c.1,c.2⟩
def cF (L:List (Int×Int)):List Fnl:=L.map toF
theorem zRK (L:List (Int×Int)) (c:Int×Int):finRow (cF (L++[c]))=finRow (cF L)++finRow [toF c]:=by unfold cF;rw[wAj,zBO];rfl
theorem zSm (L:List (Int×Int)):(cF L).length=L.length:=by unfold cF;rw[wAc]
theorem cF_at {L:List (Int×Int)} {i:Nat} {x:Fnl} (hi:i<L.length) (h:(cF L).getD i dF=x):(x.s,x.w)=L.getD i (-1,-1):=by
 have e:(cF L).getD i dF=toF (L[i]'hi):=by
  unfold cF;simp[wAa,hi]
 have e2:L.getD i (-1,-1)=L[i]'hi:=by simp[wAa,hi]
 rw[e2,← h,e];rfl
def bRow (L:List Bool):List Value:=L.map Value.bool
theorem zM6 (L:List Bool) (b:Bool):bRow (L++[b])=bRow L++bRow [b]:=by unfold bRow;rw[wAj]
theorem zOS (L:List Bool):∀ u∈bRow L,u.oneCell'=true:=by
 intro u hu;obtain⟨b,_,rfl⟩:=wAf.1 (show u∈L.map Value.bool from hu);rfl
theorem zNP {w:World} {base n:Nat} {e:TypeId} {v:Value} {L:List Bool} (h:w.ownsRow base e 1 v n (bRow L)) (hn:n≤big):Bools w w.heap.size v L:=by
 obtain⟨A,c,rfl,hnc,_⟩:=zAa h;have hl:L.length=n:=by have:=h.1;unfold bRow at this;rw[wAc] at this;omega
 refine⟨A,n,c,rfl,zh hl,hnc,hn,Rd.of_own h (fun i j hi hj=>?_)⟩;obtain rfl:j=0:=by omega
 unfold bRow boolCell;simp[wAa,show i<L.length by omega]
end Gm
namespace Go.Proofs.Ytkfdhpbnphojoaa
open Go.RowKit Gm
theorem zB8 (va:Value) (t:Mach) (w:World) (ha:MachAt w w.heap.size va t) (hn:t.arcs.length≤2000) :
 Calls Try.prog 52 #[va] w fun e w'=>∃ A c,e=.returned (.slice A (setI (t.arcs.map (·.i))).length c)∧w'.ownsRow w.heap.size 3 1 (.slice A (setI (t.arcs.map (·.i))).length c) (setI (t.arcs.map (·.i))).length (intRow (setI (t.arcs.map (·.i))))∧Below w.heap.size w w':=by
 obtain⟨i0,hi0,iz0,iz1,iz2⟩:=info_parts zAH;obtain⟨A2,AF2,n2,c2,nf2,cf2,rfl,HN2,HF2,hnc,hnfc,hnb,hnfb,hA,hF⟩:=ha;rw[HN2.o] at hn;have HRA:=zh hA;clear hA hF
 go_enter Try.func52,Try.ntmps52
 go_upto_region 3 with fail
 generalize hW3:World.alloc _ _=W3;have HB3:=zh (show Below w.heap.size w W3 by rw[← hW3];go_grown);clear hW3;have HO0:=zh (World.ownsRow_nil W3 w.heap.size 3 1)
 go_loopw [3,9] (fun lv iv wr=>∃ i:Nat,i≤n2∧iv=.int .i64 (i:Int)∧Hid (wr.ownsRow w.heap.size 3 1 lv i (intRow ((t.arcs.take i).map (·.i))))∧Hid (Below w.heap.size w wr)) (fun _ iv _=>n2-(intOf iv).toNat)
 case atStart=>exact⟨0,by omega,rfl,HO0,HB3⟩
 case round =>
  clear HO0 HB3;obtain⟨i,hi,rfl,HO,HBV⟩:=hrel;by_cases hin:i<n2
  ·obtain⟨b,off,x,rfl,hbB,d0,d1,d2,d3,d4,HX⟩:=zAp (HRA.o.below HBV.o (wAb _)) hin;have HTK:=zh (show t.arcs.take (i+1)=t.arcs.take i++[x] from zAY (by rw[HN2.o];exact hin) HX.o);(have lb:b<wr.heap.size:=by have:=HBV.o.size;omega);obtain⟨Av,cv,hlv,hcv,_⟩:=zAa HO.o;subst hlv;clear HX;(go_upto_region 5 with fail);generalize hW5:World.alloc _ _=W5;obtain⟨bx,hbx⟩:∃ z,z=wr.heap.size:=⟨_,rfl⟩;have HX5:=zh (show Blk W5 bx 64 #[.int .i64 x.f,.int .i64 x.t,.int .i64 x.i,.int .i64 x.o,.int .i64 x.w] by rw[← hW5];exact Blk.at_ hbx);have HO5:=zh (show W5.ownsRow w.heap.size 3 1 (.slice Av i cv) i (intRow ((t.arcs.take i).map (·.i))) by rw[← hW5];exact HO.o.alloc _);have HB5:=zh (show Below w.heap.size w W5 by rw[← hW5];exact HBV.o.alloc HBV.o.size _);simp only[← hbx];clear hW5 hbx HO HBV d0 d1 d2 d3 d4 lb;have y2:=HX5.o.cell 2;simp at y2;have lx5:bx<W5.heap.size:=HX5.o.lt;have hz5:w.heap.size≤W5.heap.size:=HB5.o.size;go_wp2_with (at_builtin;go_loud (refine wpList_append_own_at _ rfl (.tmp 13) (.tmp 16) 26 rfl w.heap.size 3 i0 _ 1 8 Try.underlying26 hi0 iz0 iz1 iz2 rfl (by omega) (.slice Av i cv) i _ rfl (HO5.o.alloc _) ⟨W5.heap.size,0,none⟩ 1 1 (intRow [x.i]) rfl (by rfl) (World.news_of_block (cs:=(intRow [x.i]).toArray) (t:=3) (fr:=(0,0)) (Blk.at_ rfl)) (zAg _) (by simp only[maxLen];omega) (by omega) (by simp<;>omega) ?_;intro v' w6 hown2 hg2 _ hat2;have HOW2:=zh hown2;have HG2:=zh hg2;clear hown2 hg2 hat2));have HON:=zh (show w6.ownsRow w.heap.size 3 1 v' (i+1) (intRow ((t.arcs.take (i+1)).map (·.i))) by rw[HTK.o,wAj,zAd];exact HOW2.o);have HBN:=zh ((HB5.o.alloc hz5 (Obj.cells #[.int .i64 x.i] 3)).grown HG2.o (by simp;omega) (fun z hz=>(HO5.o.lt z hz).1));clear HOW2 HG2 HO5 HB5 HX5;go_roundw
   case rel=>exact⟨i+1,by omega,by go_num,HON,HBN⟩
   case measure=>simp[intOf];omega
  ·(obtain rfl:n2=i:=by omega);have HOL:=zh (show wr.ownsRow w.heap.size 3 1 u3 n2 (intRow (t.arcs.map (·.i))) by have:=HO.o;rw[wAk (by rw[HN2.o];exact wAb _)] at this;exact this);have HLL:=zh (show (t.arcs.map (·.i)).length=n2 by rw[wAc];exact HN2.o);clear HO
   go_wp2_with (first
    | (go_at_call 37;refine (zD3 _ n2 w.heap.size u3 wr HLL.o (by omega) HOL.o).mono ?_;rintro e w7 ⟨rfl,ho7,hg7⟩;have HO7:=zh ho7;have HG7:=zh hg7;clear ho7 hg7)
    | (go_at_call 38;refine (zCX _ n2 w.heap.size u3 w7 (by rw[List.length_mergeSort,HLL.o]) (by omega) HO7.o).mono ?_;rintro e w8 ⟨A8,c8,rfl,ho8,hob8,hg8⟩;rw[zJi] at ho8 hob8 ⊢;have HO8:=zh ho8;have HG8:=zh hg8;clear ho8 hob8 hg8))
   refine bodyPost_ret (v:=.slice A8 (setI (t.arcs.map (·.i))).length c8) (by simp[results,Try.results52,go_sem]) rfl ?_;exact⟨A8,c8,rfl,HO8.o,(HBV.o.grown HG7.o HBV.o.size (fun z hz=>(HOL.o.lt z hz).1)).grown HG8.o (by have:=HBV.o.size;have:=HG7.o.size;omega) (fun z hz=>(HOL.o.lt z hz).1)⟩
end Go.Proofs.Ytkfdhpbnphojoaa
namespace Gm
def jnL (a b:Mach) (l:List Int) (K:Bool→Bool→Bool):Lang:=fun w=>(∀ x∈w,x∈l)∧K (acR a (s0I a) w) (acR b (s0I b) w)=true
theorem zSM {ls:List Int} {L:Lang} {N:Nat} (h:Reg ls L N) (hl:LabOk ls) (h4:(canonM ls L N).n≤400):∃ S,AcOk (canonM ls L N) S:=by
 by_cases hL:∃ w,L w
 ·obtain⟨K,hK⟩:=zDe h hL (wAb N);exact⟨K,hK.ac (fun x hx=>by have:=hl x hx;omega) h4⟩
 ·rw[zAz hL];exact⟨0,zC7⟩
open Classical in
noncomputable def bA (m:Mach) (w:List Int):Bool:=decide (accA m.arcs m.fins 0 w)
theorem bA_iff {m:Mach} {w:List Int} : bA m w=true↔accA m.arcs m.fins 0 w:=by unfold bA;simp
theorem zB4 {m:Mach} (h:(detW m).2=(0,0)) (w:List Int):acR (detW m).1 (s0I (detW m).1) w=bA m w:=by
 obtain⟨S,hS⟩:=zAW h
 have:=(zIg hS w).trans (zDj h w)
 rw[Bool.eq_iff_iff,this,bA_iff]
def labD (m:Mach):List Int:=setI (m.arcs.map (·.i))
theorem zKS {m:Mach} (h:(detW m).2=(0,0)) {w:List Int} (hw:accA m.arcs m.fins 0 w):∀ x∈w,x∈labD (detW m).1:=by
 rw[← zDj h] at hw;by_cases hn:(detW m).1.n=0
 ·exfalso;have hf:=zBe h;obtain⟨_,⟨e,_⟩ | ⟨_,_,_,_,K,hK,_⟩⟩:=hf
  · rw[e] at hw;exact zA7 0 w hw
  · have:=hK.n;have:=hK.pos;omega
 ·have hok:=zG6 h hn
  have:=(zFx hok).over w hw
  unfold lsM at this;rw[zIS (fun a ha=>by have:=(hok.lab a ha).1;omega)] at this;exact this
noncomputable def bothF (a b:Mach):Int×Int :=
 if accF a≠(0,0) then accF a else if accF b≠(0,0) then accF b else if (detW a).2≠(0,0) then (detW a).2 else if (detW b).2≠(0,0) then (detW b).2 else if 300<(labD (detW a).1).length then (17,-1) else (0,0)
theorem zBp {a b:Mach} (h:bothF a b=(0,0)):accF a=(0,0)∧accF b=(0,0)∧(detW a).2=(0,0)∧(detW b).2=(0,0)∧(labD (detW a).1).length≤300:=by
 unfold bothF at h;by_cases h1:accF a≠(0,0)
 · rw[if_pos h1] at h;exact absurd h h1
 rw[if_neg h1] at h;by_cases h2:accF b≠(0,0)
 · rw[if_pos h2] at h;exact absurd h h2
 rw[if_neg h2] at h;by_cases h3:(detW a).2≠(0,0)
 · rw[if_pos h3] at h;exact absurd h h3
 rw[if_neg h3] at h;by_cases h4:(detW b).2≠(0,0)
 · rw[if_pos h4] at h;exact absurd h h4
 rw[if_neg h4] at h;by_cases h5:300<(labD (detW a).1).length
 · rw[if_pos h5] at h;exact absurd h (by decide)
 exact⟨Decidable.not_not.1 h1,Decidable.not_not.1 h2,Decidable.not_not.1 h3,Decidable.not_not.1 h4,by omega⟩
def IntR (a b:Mach) (K:Bool→Bool→Bool) (r:Mach×(Int×Int)):Prop:=(bothF a b≠(0,0)∧r=(emptyM,bothF a b))∨(bothF a b=(0,0)∧JoinR (detW a).1 (detW b).1 (labD (detW a).1) K r)
def CmpR (m:Mach) (l:List Int) (r:Mach×(Int×Int)):Prop:=(accF m≠(0,0)∧r=(emptyM,accF m))∨(accF m=(0,0)∧alphF l (-2)≠(0,0)∧r=(emptyM,alphF l (-2)))∨(accF m=(0,0)∧alphF l (-2)=(0,0)∧(detW m).2≠(0,0)∧r=(emptyM,(detW m).2))∨(accF m=(0,0)∧alphF l (-2)=(0,0)∧(detW m).2=(0,0)∧JoinR (detW m).1 emptyM l (fun p _ => !p) r)
structure ResL (r:Mach) (L:Lang):Prop where
 can:∃ ls N,Reg ls L N∧LabOk ls∧r=canonM ls L N
 n4:r.n≤400
 len:r.arcs.length≤2000
theorem ResL.ok {r:Mach} {L:Lang} (h:ResL r L):∃ S,AcOk r S:=by
 obtain⟨ls,N,hr,hl,e⟩:=h.can;have h4:=h.n4;rw[e] at h4 ⊢;exact zSM hr hl h4
theorem ResL.uniq {r r':Mach} {L L':Lang} (h:ResL r L) (h':ResL r' L') (e:∀ w,L w↔L' w):r=r':=by
 obtain⟨ls,N,hr,_,e1⟩:=h.can;obtain⟨ls',N',hr',_,e2⟩:=h'.can;rw[e1,e2];exact (zBw hr hr' (wAb _) (wAb _)).2 e
theorem zKA {m:Mach} (h:(minW m).2=(0,0)):ResL (minW m).1 (fun w=>bA m w=true):=by
 obtain⟨_,_,_,⟨ls,N,hr,hl,e⟩,h4,h2⟩:=zBW h
 have:(fun w=>bA m w=true)=accA m.arcs m.fins 0:=funext fun w=>propext bA_iff
 rw[this];exact⟨⟨ls,N,hr,hl,e⟩,h4,h2⟩
theorem zOH {A:List Arc} {s t:Int} {w:List Int} (h:Pth A s w t):∀ x∈w,x∈labsR A:=by
 induction h with
 | nil=>intro x hx;cases hx
 | eps _ _ _ ih=>exact ih
 | @lab a w t ha hi _ ih =>
  intro x hx;rcases wAh.1 hx with rfl | hx
  · exact (zAy A _).2 ⟨hi,a,ha,rfl⟩
  · exact ih x hx
theorem zNZ {m:Mach} {w:List Int} (h:bA m w=true):∀ x∈w,x∈labsR m.arcs:=by
 obtain⟨t,hp,_⟩:=bA_iff.1 h;exact zOH hp
theorem zRg {l:List Int} (hi:l.Pairwise (· < ·)) (hl:LabOk l) {k:Nat} (hk:k<l.length):labB l k=none:=by
 have e:∀ j (hj:j<l.length),l.getD j 0=l[j]:=fun j hj=>by simp[wAa,hj]
 have h1:=hl _ (List.getElem_mem hk);unfold labB;rw[e k hk,if_neg (by omega),if_neg];rintro⟨h0,h2⟩;rw[e (k-1) (by omega)] at h2
 have:=List.pairwise_iff_getElem.1 hi (k-1) k (by omega) hk (by omega)
 omega
theorem zRt {a b:Mach} {l:List Int} {I i:Nat} (hI:(LsC a b l I).length=I) (hi:i<I) {x:Int} (hx:x∈l):(LsC a b l (i+1)).idxOf (nxI a (cpC a b l i).1 x,nxI b (cpC a b l i).2 x)<I:=by
 have hlt:i<(LsC a b l i).length:=by
  rcases Nat.lt_or_ge i (LsC a b l i).length with g | g
  · exact g
  ·exfalso
   have:∀ d,LsC a b l (i+d)=LsC a b l i:=by
    intro d
    induction d with
    | zero=>rfl
    | succ d ih =>
     show (bfsGo _ _ (i+d+1) 0 _ _).1.1=_
     rw[zBb]
     have h2:(StC a b l (i+d)).1.1.length≤0+(i+d):=by
      have:=congrArg wAn ih
      unfold LsC at this g;omega
     have:=zA8 (stp:=stpC a b l) (fin:=fun _=>false) h2 (F:=(StC a b l (i+d)).2) 1
     rw[show bfsGo (stpC a b l) (fun _=>false) (i+d) 0 ([(s0I a,s0I b)],[]) []=StC a b l (i+d) from rfl];rw[show ((StC a b l (i+d)).1,(StC a b l (i+d)).2)=StC a b l (i+d) from rfl] at this;rw[this];exact ih
   have h3:=this (I-i);rw[show i+(I-i)=I by omega] at h3;rw[h3] at hI;omega
 have h:=List.idxOf_lt_length_of_mem (zKe hlt hx);obtain⟨k,hk⟩:=zD9 (a:=a) (b:=b) (l:=l) (show i+1≤I by omega);have h2:=congrArg wAn hk;rw[wAg,hI] at h2
 have h3:(LsC a b l (i+1)).idxOf (nxI a (cpC a b l i).1 x,nxI b (cpC a b l i).2 x)<(LsC a b l (i+1)).length:=by
  rw[zA0];exact h
 omega
theorem joinTab {a b:Mach} {l:List Int} {K:Bool→Bool→Bool} {I:Nat} (hI:(LsC a b l I).length=I) (hI2:I≤20000) (hi:l.Pairwise (· < ·)) (hl:LabOk l) (h3:l.length≤300):tblF l (rowsC a b l I) (finsC a b l K I).length=(0,0):=by
 have hlen:(rowsC a b l I).length=I:=by unfold rowsC;rw[wAc,wAe]
 rw[zET (by omega) (fun j hj=>zRg hi hl hj) (by omega) (fun j hj=>?_)]
 ·rw[if_neg];unfold finsC;rw[wAc,wAe,hlen];simp
 ·rw[hlen] at hj ⊢
  have e:(rowsC a b l I).getD j []=rowC a b l j:=by
   unfold rowsC;simp[wAa,hj]
  unfold rowB;rw[e,zC1,if_neg (by simp),if_pos];intro t ht;unfold rowC at ht;obtain⟨x,hx,rfl⟩:=wAf.1 ht
  have:=zRt hI hj hx
  omega
theorem zKy {a b:Mach} {l:List Int} {K:Bool→Bool→Bool} {r:Mach×(Int×Int)} (hi:l.Pairwise (· < ·)) (hl:LabOk l) (h3:l.length≤300) (h:JoinR a b l K r) :
 (r=(emptyM,(17,-1))∧∃ i,20000<(LsC a b l i).length)∨∃ N,Reg l (jnL a b l K) N∧N=(rowsC a b l N).length∧r=limR (canonM l (jnL a b l K) N):=by
 rcases h with h | ⟨I,hI,hI2,e⟩
 · exact .inl h
 ·refine .inr ⟨I,?_⟩
  have hI0:0<I:=by
   obtain⟨k,hk⟩:=zD9 (a:=a) (b:=b) (l:=l) (Nat.zero_le I);have h0:(LsC a b l 0).length=1:=rfl;rw[← hI,hk,wAg,h0];omega
  have ht0:=joinTab (K:=K) hI hI2 hi hl h3;have hT:=(zD0 (by rw[ht0])).2;rw[zDR ht0] at e;have hS:=hT.sm;have hlen:(rowsC a b l I).length=I:=by unfold rowsC;rw[wAc,wAe]
  have hL:accS (tstp l (rowOf (rowsC a b l I))) (finOf (finsC a b l K I)) 0=jnL a b l K:=by
   funext w;refine propext ((zGl hI hT.inc w 0 hI0).trans ?_);have hc:cpC a b l 0=(s0I a,s0I b):=rfl;rw[hc];exact Iff.rfl
  have hreg:=zCd (fin:=finOf (finsC a b l K I)) hS.inc hS.pos hS.rngs (s:=0) (by rw[hlen];exact hI0);rw[hL,hlen] at hreg;refine⟨hreg,hlen.symm,?_⟩;rw[e];unfold canT;rw[hL,hlen]
theorem zOz {α:Type} (f:Nat→Nat→α) (n m:Nat):((List.range n).flatMap fun i=>(List.range m).map (f i)).length=n*m:=by
 induction n with
 | zero=>simp
 | succ n ih=>rw[zAT,wAg,ih,wAc,wAe,Nat.succ_mul]
theorem zDP {a b:Mach} {l:List Int} {Sa Sb:Nat} (ha:DmOk a Sa) (hb:DmOk b Sb) (i:Nat):(LsC a b l i).length≤(Sa+1)*(Sb+1):=by
 have hall:∀ c∈LsC a b l i,(-1≤c.1∧c.1<(Sa:Int))∧(-1≤c.2∧c.2<(Sb:Int)):=by
  refine zCV (P:=fun c:Int×Int=>(-1≤c.1∧c.1<(Sa:Int))∧(-1≤c.2∧c.2<(Sb:Int))) ?_ (fun s _ e he=>?_) i
  ·have h1:=ha.n;have h2:=hb.n;unfold s0I;dsimp only;constructor<;>split<;>omega
  ·obtain⟨x,_,rfl⟩:=wAf.1 he;have h1:=zCc ha s.1 x;have h2:=zCc hb s.2 x;dsimp only;omega
 rw[← zOz (fun i j=>(((i:Int)-1,(j:Int)-1):Int×Int)) (Sa+1) (Sb+1)];refine zAM (zBJ i) fun c hc=>?_
 have h:=hall c hc;obtain⟨p,q⟩:=c;dsimp only at h;rw[List.mem_flatMap];refine⟨(p+1).toNat,wAm.2 (by omega),wAf.2 ⟨(q+1).toNat,wAm.2 (by omega),?_⟩⟩;rw[Prod.mk.injEq];omega
theorem zRb {m:Mach} {S:Nat} (h:DmOk m S):LabOk (labD m):=fun x hx=>by
 obtain⟨a,ha,rfl⟩:=wAf.1 ((zAB _ _).1 hx);exact h.lab a ha
theorem zHu {l:List Int} {L L':Lang} {N:Nat} {r:Mach} (h:Reg l L N) (hr:ResL r L') (e:∀ w,L w↔L' w):limR (canonM l L N)=(r,(0,0)):=by
 obtain⟨ls',N',hr',_,e2⟩:=hr.can
 have:canonM l L N=r:=by rw[e2];exact (zBw h hr' (wAb _) (wAb _)).2 e
 rw[this];unfold limR;rw[if_neg (by have:=hr.n4;have:=hr.len;omega)]
theorem zL7 {A A':List Arc} {F F':List Fnl} (hA:∀ a∈A,a∈A') (hF:∀ x∈F,x∈F') {s:Int} {w:List Int} (h:accA A F s w):accA A' F' s w:=by
 obtain⟨t,hp,x,hx,hs⟩:=h;refine⟨t,?_,x,hF x hx,hs⟩;clear hx hs
 induction hp with
 | nil=>exact .nil
 | eps ha hi _ ih=>exact .eps (hA _ ha) hi ih
 | lab ha hi _ ih=>exact .lab (hA _ ha) hi ih
def twoM:Mach:=⟨2,[⟨0,1,97,97,0⟩,⟨0,1,98,98,0⟩],[⟨1,0⟩]⟩
def oneM:Mach:=⟨1,[⟨0,0,97,97,0⟩],[⟨0,0⟩]⟩
theorem zKg (w:List Int):bA emptyM w=false:=by
 by_cases h:bA emptyM w=true
 · exact absurd (bA_iff.1 h) (zA1 0 w)
 · simpa using h
theorem letM_done:accF letM=(0,0)∧detW letM=(letM,(0,0))∧ResL letM (fun w=>bA letM w=true):=by
 have h:=zKp;have h2:(minW dblM).2=(0,0):=by rw[h]
 obtain⟨g1,_,g3,g4,_⟩:=zLh h2;rw[h] at g1 g3 g4;dsimp only at g1 g3 g4
 have:=zKA (m:=letM) (by rw[g4])
 rw[g4] at this;exact⟨g1,g3,this⟩
def stp2 (s:Nat):List (Int×Nat):=if s=0 then [(97,1),(98,1)] else []
def fin2 (s:Nat):Bool:=decide (s=1)
theorem br2 {v:Nat} : v∈[0,1]↔BR stp2 0 v:=by
 constructor
 ·intro h;rcases wAh.1 h with rfl | h
  · exact .base
  ·rw[wAd.1 h];exact .step (s:=0) (x:=97) .base (by decide)
 ·intro h
  induction h with
  | base=>simp
  | @step s u x _ hx ih =>
   have:s=0∨s=1:=by simpa using ih
   rcases this with rfl | rfl
   ·have:(x,u)∈[((97:Int),1),(98,1)]:=hx
    simp at this;simp;omega
   ·have:(x,u)∈([]:List (Int×Nat)):=hx
    cases this
theorem two_bfs:BfsL stp2 fin2 0 [0,1] where
 nod:=by decide
 first:=rfl
 mem:=fun v=>br2
 inc:=fun s hs=>by
  have:s=0∨s=1:=by simpa using br2.2 hs
  rcases this with rfl | rfl
  ·show List.Pairwise _ [((97:Int),1),(98,1)]
   simp
  · exact .nil
 lab:=fun s hs e he=>by
  have:s=0∨s=1:=by simpa using br2.2 hs
  rcases this with rfl | rfl
  ·have:e∈[((97:Int),1),(98,1)]:=he
   simp at this;rcases this with rfl | rfl<;>decide
  ·have:e∈([]:List (Int×Nat)):=he
   cases this
 use:=fun s hs=>by
  have:s=0∨s=1:=by simpa using br2.2 hs
  rcases this with rfl | rfl
  · exact⟨[97],1,by decide,rfl⟩
  · exact⟨[],rfl⟩
 bfs:=fun f hf=>by
  rw[zDS (Z:=[0,1]) (fun v hv=>br2.2 hv) hf (show [0,1].length≤2 by decide)];rfl
theorem two_det:accF twoM=(0,0)∧detW twoM=(twoM,(0,0)):=by
 have e:lstM stp2 fin2 [0,1]=twoM:=rfl;have h:=two_bfs.detW (by decide) (by rw[e];decide);rw[e] at h;exact⟨by decide,h⟩
theorem empty_det:accF emptyM=(0,0)∧detW emptyM=(emptyM,(0,0)):=by
 have h0:accF emptyM=(0,0):=by decide
 have h1:silM emptyM=emptyM:=zCQ h0 (by
  have val:=zAX (zAU h0);rw[zBK val.n0 val.inRange val.finRange]
  rfl)
 have h2:silR emptyM=(emptyM,(0,0)):=by
  unfold silR;rw[if_neg (fun g=>g h0),h1,if_neg (by decide)]
 refine⟨h0,?_⟩;unfold detW;rw[h2,if_neg (fun g=>g rfl)];exact if_pos rfl
def oneL:Lang:=fun w=>∀ x∈w,x=97
open Classical in
theorem one_can:Reg [97] oneL 1∧canonM [97] oneL 1=oneM:=by
 have hq:∀ x U,(x,U)∈stpQ [97] oneL↔x=97∧U=oneL:=by
  intro x U;rw[mem_stpQ,wAd];constructor
  ·rintro⟨rfl,_,rfl⟩;refine⟨rfl,funext fun w=>propext ⟨fun h x hx=>h x (wAl _ hx),fun h x hx=>?_⟩⟩;rcases wAh.1 hx with rfl | hx
   · rfl
   · exact h x hx
  ·rintro⟨rfl,rfl⟩;refine⟨rfl,⟨[],fun x hx=>by simpa using hx⟩,funext fun w=>propext ⟨fun h x hx=>?_,fun h x hx=>h x (wAl _ hx)⟩⟩;rcases wAh.1 hx with rfl | hx
   · rfl
   · exact h x hx
 refine⟨⟨by simp,fun x hx=>by rw[wAd.1 hx];decide,fun w hw x hx=>by rw[hw x hx];simp,⟨[oneL],by simp,fun Q hQ=>?_⟩⟩,?_⟩
 ·have:Q=oneL:=by
   induction hQ with
   | base=>rfl
   | @step s u x _ hx ih =>
    rw[ih] at hx;exact ((hq x u).1 hx).2
  rw[this];simp
 ·unfold canonM;rw[if_pos ⟨[],fun x hx=>by cases hx⟩]
  have key:=zFy (R:=fun (Q:Lang) (s:Nat)=>Q=oneL∧s=0) (fun a b a' b' h h'=>by
   obtain⟨rfl,rfl⟩:=h;obtain⟨rfl,rfl⟩:=h'
   exact⟨fun _=>rfl,fun _=>rfl⟩) (stp:=stpQ [97]) (stp':=fun _=>[((97:Int),0)]) (fin:=finQ) (fin':=fun _=>true) (fun Q s h=>by
   obtain⟨rfl,rfl⟩:=h;refine F2_of (R:=fun (Q:Lang) (s:Nat)=>Q=oneL∧s=0) (zB0 (by simp) _) (by simp[incS]) (fun x=>?_) (fun x U v hU hv=>?_)
   ·constructor
    ·rintro⟨U,hU⟩;obtain⟨rfl,_⟩:=(hq x U).1 hU;exact⟨0,by simp⟩
    ·rintro⟨v,hv⟩;(have hv:(x,v)=((97:Int),0):=by simpa using hv);(injection hv with h1 h2);exact⟨oneL,(hq x oneL).2 ⟨h1,rfl⟩⟩
   ·(have hv:(x,v)=((97:Int),0):=by simpa using hv);injection hv with h1 h2
    exact⟨((hq x U).1 hU).2,h2⟩) (fun Q s h=>by
   obtain⟨rfl,rfl⟩:=h;unfold finQ
   exact decide_eq_true (fun x hx=>by cases hx)) (s0:=oneL) (t0:=0) ⟨rfl,rfl⟩ 1
  exact key.trans rfl
theorem zRU:ResL oneM oneL:=⟨⟨[97],1,one_can.1,fun x hx=>by rw[wAd.1 hx];decide,one_can.2.symm⟩,by decide,by decide⟩
theorem zEF {a b:Mach} {K:Bool→Bool→Bool} {r:Mach×(Int×Int)} (h:IntR a b K r) (hz:bothF a b=(0,0)) (hK:∀ q,K false q=false) :
 (r=(emptyM,(17,-1))∧∃ i,20000<(LsC (detW a).1 (detW b).1 (labD (detW a).1) i).length)∨∃ N,Reg (labD (detW a).1) (fun w=>K (bA a w) (bA b w)=true) N∧r=limR (canonM (labD (detW a).1) (fun w=>K (bA a w) (bA b w)=true) N):=by
 rcases h with⟨h1,_⟩ | ⟨_,hj⟩
 · exact absurd hz h1
 ·obtain⟨_,_,ha,hb,h3⟩:=zBp hz;obtain⟨Sa,hSa⟩:=zAW ha
  have hL:jnL (detW a).1 (detW b).1 (labD (detW a).1) K=(fun w=>K (bA a w) (bA b w)=true):=by
   funext w;unfold jnL;rw[zB4 ha,zB4 hb];refine propext ⟨fun h=>h.2,fun h=>⟨?_,h⟩⟩;by_cases hw:bA a w=true
   · exact zKS ha (bA_iff.1 hw)
   ·rw[Bool.not_eq_true] at hw;rw[hw,hK] at h;cases h
  rcases zKy (show (labD (detW a).1).Pairwise (· < ·) from zAm _) (zRb hSa) h3 hj with h | ⟨N,h1,_,h2⟩
  · exact .inl h
  ·rw[hL] at h1 h2;exact .inr ⟨N,h1,h2⟩
theorem zHk {m:Mach} {l:List Int} {r:Mach×(Int×Int)} (h:CmpR m l r) (h0:accF m=(0,0)) (h1:alphF l (-2)=(0,0)) (h2:(detW m).2=(0,0)) (hi:l.Pairwise (· < ·)) (hl:LabOk l) (h3:l.length≤300) :
 ∃ N,Reg l (fun w=>(∀ x∈w,x∈l)∧bA m w=false) N∧r=limR (canonM l (fun w=>(∀ x∈w,x∈l)∧bA m w=false) N):=by
 rcases h with⟨g,_⟩ | ⟨_,g,_⟩ | ⟨_,_,g,_⟩ | ⟨_,_,_,hj⟩
 · exact absurd h0 g
 · exact absurd h1 g
 · exact absurd h2 g
 ·obtain⟨S,hS⟩:=zAW h2
  have hL:jnL (detW m).1 emptyM l (fun p _ => !p)=(fun w=>(∀ x∈w,x∈l)∧bA m w=false):=by
   funext w;unfold jnL;rw[zB4 h2];refine propext (and_congr_right fun _=>?_);simp
  rcases zKy hi hl h3 hj with⟨_,i,hb⟩ | ⟨N,g1,_,g2⟩
  ·have:=zDP (l:=l) hS zC6 i
   have:=hS.n4
   omega
  ·rw[hL] at g1 g2;exact⟨N,g1,g2⟩
theorem zMh {a b:Mach} (ha:accF a=(0,0)) (hb:accF b=(0,0)) (h1:detW a=(a,(0,0))) (h2:detW b=(b,(0,0))) (h3:(labD a).length≤300):bothF a b=(0,0):=by
 unfold bothF;rw[if_neg (fun g=>g ha),if_neg (fun g=>g hb),h1,h2,if_neg (fun g=>g rfl),if_neg (fun g=>g rfl),if_neg (by dsimp only;omega)]
theorem zSp:DmOk twoM 2:=by
 obtain⟨S,hS⟩:=zAW (m:=twoM) (by rw[two_det.2]);rw[two_det.2] at hS
 have:S=2:=by have:=hS.n;have e:twoM.n=2:=rfl;dsimp only at this;omega
 rw[this] at hS;exact hS
theorem zQf:DmOk letM 2:=by
 obtain⟨S,hS⟩:=zAW (m:=letM) (by rw[letM_done.2.1]);rw[letM_done.2.1] at hS
 have:S=2:=by have:=hS.n;have e:letM.n=2:=rfl;dsimp only at this;omega
 rw[this] at hS;exact hS
theorem zSA {r:Mach×(Int×Int)} (h:IntR twoM letM (fun p q=>p&&q) r):r=(letM,(0,0)):=by
 have hz:=zMh two_det.1 letM_done.1 two_det.2 letM_done.2.1 (by decide);rcases zEF h hz (fun q=>rfl) with⟨_,i,hb⟩ | ⟨N,h1,h2⟩
 ·rw[two_det.2,letM_done.2.1] at hb
  have:=zDP (l:=labD twoM) zSp zQf i
  dsimp only at hb;omega
 ·rw[h2];refine zHu h1 letM_done.2.2 fun w=>?_
  rw[Bool.and_eq_true];refine⟨fun h=>h.2,fun h=>⟨?_,h⟩⟩;rw[bA_iff] at h ⊢
  exact zL7 (fun a ha=>by
   have:a=⟨0,1,97,97,0⟩:=by simpa[letM] using ha
   rw[this];simp[twoM]) (fun x hx=>by simpa[letM,twoM] using hx) h
theorem zSR {r:Mach×(Int×Int)} (h:IntR letM emptyM (fun p q=>p && !q) r):r=(letM,(0,0)):=by
 have hz:=zMh letM_done.1 empty_det.1 letM_done.2.1 empty_det.2 (by decide);rcases zEF h hz (fun q=>rfl) with⟨_,i,hb⟩ | ⟨N,h1,h2⟩
 ·rw[empty_det.2,letM_done.2.1] at hb
  have:=zDP (l:=labD letM) zQf zC6 i
  dsimp only at hb;omega
 ·rw[h2];refine zHu h1 letM_done.2.2 fun w=>?_
  rw[zKg];simp
theorem zSJ {r:Mach×(Int×Int)} (h:CmpR emptyM [97] r):r=(oneM,(0,0)):=by
 obtain⟨N,h1,h2⟩:=zHk h empty_det.1 (by decide) (by rw[empty_det.2]) (by simp) (fun x hx=>by rw[wAd.1 hx];decide) (by decide);rw[h2];refine zHu h1 zRU fun w=>?_
 rw[zKg];simp[oneL]
end Gm
