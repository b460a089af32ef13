/- Part of the proof. -/
import Derived.Test.YtkfdhpbnphojoaaNd29
import Derived.DeepKeys4
set_option linter.unusedSimpArgs false
set_option linter.unusedVariables false
set_option maxRecDepth 100000
set_option maxHeartbeats 16000000
open List renaming take_of_length_le→wAb,getD_eq_getElem?_getD→wAc,length_map→wAd,getElem?_eq_getElem→wAe,map_append→wAf,take_zero→wAg,mem_of_getElem?→wAh
open Nat renaming le_refl→wAa
namespace Gm
open Go Go.RowKit
def cplB (c:Int×Int):Value:=.agg #[.int .i64 c.1,.int .i64 c.2]
def okB (c:Int×Int):Prop := -1≤c.1∧c.1≤2000000 ∧ -1≤c.2∧c.2≤2000000
theorem zOo (c d:Int×Int) (h:cplB c=cplB d):c=d:=by
 unfold cplB at h;injection h with h
 have h1:=congrArg (fun a:Array Value=>a[0]?) h;have h2:=congrArg (fun a:Array Value=>a[1]?) h;simp at h1 h2;exact Prod.ext h1 h2
def mapC (A:List Arc):List ((Int×Int)×Value):=A.foldl (fun L a=>upL L (a.f,a.i) (.int .i64 a.t)) []
theorem zII (A:List Arc) (a:Arc):mapC (A++[a])=upL (mapC A) (a.f,a.i) (.int .i64 a.t):=by unfold mapC;rw[List.foldl_append];rfl
def nxA (A:List Arc) (s x:Int):Int:=if 0≤s then afterL A s.toNat x else -1
theorem lkC {A:List Arc} (h0:∀ a∈A,0≤a.f) (s x:Int):∀ i,(lk (mapC (A.take i)) (s,x)=none∧nxA (A.take i) s x = -1)∨lk (mapC (A.take i)) (s,x)=some (.int .i64 (nxA (A.take i) s x))
 | 0=>.inl ⟨by rw[wAg];rfl,by rw[wAg];unfold nxA;split<;>rfl⟩
 | i+1=>by
  have ih:=lkC h0 s x i
  cases e:A[i]? with
  | none =>
   have hl:A.length≤i:=List.getElem?_eq_none_iff.1 e;rw[wAb hl] at ih;rw[wAb (by omega)];exact ih
  | some a =>
   have ha:=h0 a (wAh e);rw[List.take_add_one,e]
   show (lk (mapC (A.take i++[a])) (s,x)=none∧nxA (A.take i++[a]) s x = -1)∨lk (mapC (A.take i++[a])) (s,x)=some (.int .i64 (nxA (A.take i++[a]) s x))
   rw[zII,lk_up];by_cases g:(s,x)=(a.f,a.i)
   ·right;rw[if_pos g];(injection g with g1 g2);unfold nxA;rw[if_pos (by omega),zBl,if_pos ⟨by omega,g2.symm⟩]
   ·rw[if_neg g]
    have:nxA (A.take i++[a]) s x=nxA (A.take i) s x:=by
     unfold nxA;split
     ·rw[zBl,if_neg];rintro⟨g1,g2⟩;exact g (by rw[g1,g2];congr 1;omega)
     · rfl
    rw[this];exact ih
end Gm
namespace Go.Proofs.Ytkfdhpbnphojoaa
open Go.RowKit Gm
theorem zLI:laidOutB Try.prog=true:=by kernel_rfl
theorem zKH:(110:TypeId)<Try.prog.types.size:=of_decide_eq_true (by kernel_rfl)
theorem zMR:(match Try.prog.underlying 110 with | some (.array _ _) | some (.struct _)=>true | _=>false)=true:=by rw[Try.underlying110]
theorem zOu:WideMaps.KeyLaw Try.prog 110:=deep_law_laid zLI (m:=2) (by omega) zKH (by kernel_rfl) zMR
theorem zML:Try.prog.keyType 110=true:=by kernel_rfl
theorem cpl_sizeB:Try.prog.cellsOf 110=2:=by kernel_rfl
theorem zKW:Try.prog.cellsOf 3=1:=by kernel_rfl
theorem zMf (c:Int×Int) (h:okB c):∃ l,keyOf Try.prog 110 (cplB c)=some l:=by
 unfold okB at h;have w1:(Lit.int .i64 c.1).wf=true:=by simp[Lit.wf,IntKind.min,IntKind.max,IntKind.signed,IntKind.bits];omega
 have w2:(Lit.int .i64 c.2).wf=true:=by simp[Lit.wf,IntKind.min,IntKind.max,IntKind.signed,IntKind.bits];omega
 have hf:(cplB c).formed Try.prog 110=true:=by
  unfold cplB;simp[Value.formed,Try.underlying110];exact cpl_sizeB.symm
 have hN:Try.prog.types.size=(Try.prog.types.size-1)+1:=by have h:(110:Nat)<Try.prog.types.size:=zKH;omega
 have hi:∀ (N:Nat) (x:Int),(Lit.int .i64 x).wf=true→Try.prog.keyLits (N+1) 3 [.int .i64 x]=some [.int .i64 x]:=fun N x hx=>by
  unfold Program.keyLits;rw[Try.underlying3];simp[hx]
 have hl:Try.prog.keyLits (Try.prog.types.size+1) 110 [.int .i64 c.1,.int .i64 c.2]=some [.int .i64 c.1,.int .i64 c.2]:=by
  unfold Program.keyLits;rw[Try.underlying110,hN];simp[cpl_sizeB,zKW,hi _ _ w1,hi _ _ w2]
 refine⟨.string (keyBytes [.int .i64 c.1,.int .i64 c.2]),?_⟩;unfold keyOf;rw[Try.underlying110,zML,hf];simp only[Bool.and_self,if_true];rw[show (cplB c).cells.toList=[.int .i64 c.1,.int .i64 c.2] from rfl,hl];rfl
theorem zCw:KL Try.prog 110 cplB okB:=⟨Maps.Keyed.of_law zOu,zMf,zOo⟩
theorem zCj (W:World):(zeroValue 3).run Try.prog W=.ok (.int .i64 0) W:=by kernel_rfl
theorem zLT:(Try.prog.info? 110).map (fun i=>(i.zero,i.size,i.bytes))=some (some (.agg #[.int .i64 0,.int .i64 0]),2,16):=by kernel_rfl
end Go.Proofs.Ytkfdhpbnphojoaa
namespace Gm
open Go Go.RowKit
theorem zIE {w:World} {g:Nat} (hg:g=w.heap.size):MapIs (w.alloc (.map #[] 0)) cplB okB g []:=by subst hg;exact MapIs.made w cplB okB
end Gm
namespace Go.Proofs.Ytkfdhpbnphojoaa
open Go.RowKit Gm
def lngV (S Mb gF:Nat):Value:=.agg #[.map (some Mb),.slice (some ⟨gF,0,none⟩) S S]
structure LangAt (w:World) (m:Mach) (S Mb gF:Nat):Prop where
 map:MapIs w cplB okB Mb (mapC m.arcs)
 fin:w.rowIs gF 4 S (fun i=>.bool (fnB m.fins m.fins.length i))
theorem LangAt.below {w w':World} {m:Mach} {S Mb gF:Nat} (h:LangAt w m S Mb gF) (hb:Below w.heap.size w w'):LangAt w' m S Mb gF :=
 ⟨h.map.below hb h.map.lt,h.fin.of_block (hb.block gF h.fin.lt)⟩
theorem zDn (va:Value) (a:Mach) (w:World) (S:Nat) (ha:MachAt w w.heap.size va a) (hD:DmOk a S) :
 Calls Try.prog 86 #[va] w fun e w'=>∃ Mb gF:Nat,e=.returned (lngV S Mb gF)∧LangAt w' a S Mb gF∧Below w.heap.size w w':=by
 obtain⟨A,AF,n,c,nf,cf,rfl,HN,HF,hnc,hnfc,hnb,hnfb,hA,hF⟩:=ha;have hn4:=hD.len;have hf4:=hD.flen;have hS4:=hD.n4;rw[HN.o] at hn4;rw[HF.o] at hf4;have HDM:=zh hD;have HRA:=zh hA;have HRF:=zh hF;unfold big at hnb hnfb;rw[hD.n];have HMKB:=zh (fun (W:World)=>run_make_row' (P:=Try.prog) 51 4 (.bool false) 1 Try.underlying51 zAN rfl .i64 .i64 S (by omega) (by omega) W);clear hA hF hD
 go_enter Try.func86,Try.ntmps86
 have hmk:=HMKB.o;have hmm:=@run_makeMap Try.prog;go_upto_region 3 with fail
 clear hmk hmm;generalize hW3:World.alloc _ _=W3;obtain⟨X,hX⟩:∃ z,z=w.heap.size:=⟨_,rfl⟩;obtain⟨R,hR⟩:∃ z,z=w.heap.size+1:=⟨_,rfl⟩;obtain⟨Mb,hMb⟩:∃ z,z=w.heap.size+1+1:=⟨_,rfl⟩;obtain⟨gF,hgF⟩:∃ z,z=w.heap.size+1+1+1:=⟨_,rfl⟩;obtain⟨O,hO⟩:∃ z,z=w.heap.size+1+1+1+1:=⟨_,rfl⟩;have HX0:=zh (show Blk W3 X 25 #[.int .i64 (S:Int),.slice A n c,.slice AF nf cf] by rw[← hW3];exact ((((Blk.at_ hX).alloc _).alloc _).alloc _).alloc _);have HR0:=zh (show Blk W3 R 107 #[.map none,.slice none 0 0] by rw[← hW3];exact (((Blk.at_ (by simp[hR])).alloc _).alloc _).alloc _);have HM0:=zh (show MapIs W3 cplB okB Mb (mapC (a.arcs.take 0)) by rw[← hW3,wAg];exact ((zIE (by simp[hMb])).alloc _).alloc _);have HF0:=zh (show W3.rowIs gF 4 S (fun _=>.bool false) by rw[← hW3];exact (zFX (by simp[hgF])).alloc _);have HO0:=zh (show Blk W3 O 107 #[.map (some Mb),.slice (some ⟨gF,0,none⟩) S S] by rw[← hW3,hMb,hgF];exact Blk.at_ (by simp[hO]));have HB0:=zh (show Below w.heap.size w W3 by rw[← hW3];go_grown);simp only[← hO]
 try simp only[← hgF]
 try simp only[← hMb]
 try simp only[← hR]
 try simp only[← hX]
 have q1:w.heap.size≤X:=by omega
 have q2:X<R:=by omega
 have q3:R<Mb:=by omega
 have q4:Mb<gF:=by omega
 have q5:gF<O:=by omega
 clear hW3 hX hR hMb hgF hO HMKB
 go_loopw [16] (fun iv wr=>∃ i:Nat,i≤n∧iv=.int .i64 (i:Int)∧Hid (MapIs wr cplB okB Mb (mapC (a.arcs.take i)))∧Hid (wr.rowIs gF 4 S (fun _=>.bool false))∧Hid (Blk wr O 107 #[.map (some Mb),.slice (some ⟨gF,0,none⟩) S S])∧Hid (Blk wr X 25 #[.int .i64 (S:Int),.slice A n c,.slice AF nf cf])∧Hid (Blk wr R 107 #[.map none,.slice none 0 0])∧Hid (Below w.heap.size w wr)) (fun iv _=>n-(intOf iv).toNat)
 case atStart=>exact⟨0,by omega,rfl,HM0,HF0,HO0,HX0,HR0,HB0⟩
 case round =>
  clear HM0 HF0 HO0 HX0 HR0 HB0;obtain⟨i,hi,rfl,HM,HFr,HO,HX,HR,HB⟩:=hrel;have hsz:=HB.o.size;by_cases hin:i<n
  ·obtain⟨b,off,x,rfl,hbB,d0,d1,d2,d3,d4,HXx⟩:=zAp (HRA.o.below HB.o (wAa _)) hin;(have hil:i<a.arcs.length:=by rw[HN.o];exact hin);have HXA:=zh (show a.arcs[i]? = some x by rw[wAe hil,← HXx.o];simp[hil]);have HTK:=zh (show a.arcs.take (i+1)=a.arcs.take i++[x] from zAY hil HXx.o);have hxm:=wAh HXA.o;obtain⟨r0,r1,r2,r3⟩:=HDM.o.rng x hxm;obtain⟨l0,l1⟩:=HDM.o.lab x hxm;have HOK:=zh (show okB (x.f,x.i) from ⟨by dsimp only;omega,by dsimp only;omega,by dsimp only;omega,by dsimp only;omega⟩);(have lb:b<wr.heap.size:=by omega);clear HXx hil hxm;(go_upto_region 5 with fail);generalize hW5:World.alloc _ _=W5;obtain⟨bx,hbx⟩:∃ z,z=wr.heap.size:=⟨_,rfl⟩;have HX5:=zh (show Blk W5 bx 64 #[.int .i64 x.f,.int .i64 x.t,.int .i64 x.i,.int .i64 x.o,.int .i64 x.w] by rw[← hW5];exact Blk.at_ hbx);have P1:=zh (show MapIs W5 cplB okB Mb (mapC (a.arcs.take i)) by rw[← hW5];exact HM.o.alloc _);have P2:=zh (show W5.rowIs gF 4 S (fun _=>.bool false) by rw[← hW5];exact HFr.o.alloc _);have P3:=zh (show Blk W5 O 107 #[.map (some Mb),.slice (some ⟨gF,0,none⟩) S S] by rw[← hW5];exact HO.o.alloc _);have P4:=zh (show Blk W5 X 25 #[.int .i64 (S:Int),.slice _ n c,.slice AF nf cf] by rw[← hW5];exact HX.o.alloc _);have P5:=zh (show Blk W5 R 107 #[.map none,.slice none 0 0] by rw[← hW5];exact HR.o.alloc _);have P6:=zh (show Below w.heap.size w W5 by rw[← hW5];exact HB.o.alloc hsz _);simp only[← hbx];clear hW5 hbx HM HFr HO HX HR HB d0 d1 d2 d3 d4 lb;have y0:=HX5.o.cell 0;have y1:=HX5.o.cell 1;have y2:=HX5.o.cell 2;have z0:=P3.o.cell 0;simp at y0 y1 y2 z0;have ly:bx<W5.heap.size:=HX5.o.lt;have lz:O<W5.heap.size:=P3.o.lt;go_wp2_with (at_mapUpdate;go_loud (refine zBs rfl _ _ _ 105 rfl zCw Try.underlying105 rfl P1.o (x.f,x.i) rfl HOK.o (.int .i64 x.t) rfl ?_;intro w7 hm7 hg7 hz7;have HM7:=zh hm7;have HG7:=zh hg7;clear hm7 hg7 hz7));have hs7:=HG7.o.size;go_roundw
   case rel=>exact⟨i+1,by omega,by go_num,zh (by rw[HTK.o,zII];exact HM7.o),zh (P2.o.of_block (HG7.o.block gF P2.o.lt (by intro e;injection e with e;omega))),zh (P3.o.grown HG7.o (by intro e;injection e with e;omega)),zh (P4.o.grown HG7.o (by intro e;injection e with e;omega)),zh (P5.o.grown HG7.o (by intro e;injection e with e;omega)),zh (P6.o.grown HG7.o P6.o.size (fun z hz=>by injection hz with hz;omega))⟩
   case measure=>simp[intOf];omega
  ·(obtain rfl:n=i:=by omega);have HME:=zh (show MapIs wr cplB okB Mb (mapC a.arcs) by have:=HM.o;rw[wAb (by rw[HN.o];exact wAa _)] at this;exact this);have HFF:=zh (show wr.rowIs gF 4 S (fun i=>.bool (fnB a.fins 0 i)) by rw[zEZ];exact HFr.o);have x2:=HX.o.cell 2;simp at x2;have lX:X<wr.heap.size:=HX.o.lt;obtain⟨W4,hW4⟩:∃ z,z=wr:=⟨_,rfl⟩;rw[← hW4] at HME HFF HO HR HB x2 lX ⊢;clear hW4 HM HFr HX;(go_upto_region 8 with fail);clear x2 lX
   go_loopw [33] (fun iv wr=>∃ i:Nat,i≤nf∧iv=.int .i64 (i:Int)∧Hid (wr.rowIs gF 4 S (fun s=>.bool (fnB a.fins i s)))∧Hid (MapIs wr cplB okB Mb (mapC a.arcs))∧Hid (Blk wr O 107 #[.map (some Mb),.slice (some ⟨gF,0,none⟩) S S])∧Hid (Blk wr R 107 #[.map none,.slice none 0 0])∧Hid (Below w.heap.size w wr)) (fun iv _=>nf-(intOf iv).toNat)
   case atStart=>exact⟨0,by omega,rfl,HFF,HME,HO,HR,HB⟩
   case round =>
    clear HFF HME HO HR HB hsz;obtain⟨i,hi,rfl,HFr,HM,HO,HR,HB⟩:=hrel;have hsz:=HB.o.size;by_cases hin:i<nf
    ·obtain⟨b,off,x,rfl,hbB,d0,d1,HXx⟩:=zAQ (HRF.o.below HB.o (wAa _)) hin;have hxm:=zCf (by rw[HF.o];exact hin) HXx.o;obtain⟨r0,r1⟩:=HDM.o.frng x hxm;(have hkey:x.s.toNat<S:=by omega);(have hil:i<a.fins.length:=by rw[HF.o];exact hin);have HNX:=zh (zEK (F:=a.fins) (i:=i) (x:=x) (by rw[wAe hil,← HXx.o];simp[hil]) r0);(have lb:b<wr.heap.size:=by omega);have cF:=HFr.o.cell hkey;have fF:=HFr.o.frozen x.s.toNat;have lFr:gF<wr.heap.size:=HFr.o.lt;have lOr:O<wr.heap.size:=HO.o.lt;have y1:=HO.o.cell 1;simp at y1;clear HXx hxm hil;go_wp2;go_roundw
     case rel=>exact⟨i+1,by omega,by go_num,zh (((HFr.o.set x.s.toNat (.bool true)).congr (fun s _=>by rw[← HNX.o];exact zBC _ _ _)).alloc _),zh ((HM.o.set_ (p:=⟨gF,x.s.toNat,none⟩) (by show Mb≠gF;omega) _).alloc _),zh ((HO.o.far (by show O≠gF;omega) _).alloc _),zh ((HR.o.far (by show R≠gF;omega) _).alloc _),zh ((HB.o.setCell (p:=⟨gF,x.s.toNat,none⟩) (by show w.heap.size≤gF;omega) _).alloc (by simpa using hsz) _)⟩
     case measure=>simp[intOf];omega
    ·(obtain rfl:nf=i:=by omega);have HFE:=zh (show wr.rowIs gF 4 S (fun s=>.bool (fnB a.fins a.fins.length s)) by rw[HF.o];exact HFr.o);have y0:=HO.o.cell 0;have y1:=HO.o.cell 1;have k0:=HR.o.cell 0;have k1:=HR.o.cell 1;have f0:=HR.o.frozen 0;have f1:=HR.o.frozen 1;simp at y0 y1 k0 k1;have lRr:=HR.o.lt;have lOr:O<wr.heap.size:=HO.o.lt;(have hOR:O≠R:=by omega);clear HFr;go_wp21;refine bodyPost_ret (v:=lngV S Mb gF) (by simp[results,Try.results86,go_sem,lngV,lRr,k0,k1,f0,f1]) rfl ?_;exact⟨Mb,gF,rfl,⟨(HM.o.set_ (p:=⟨R,0,none⟩) (by show Mb≠R;omega) _).set_ (p:=⟨R,1,none⟩) (by show Mb≠R;omega) _,(HFE.o.setOther (a:=⟨R,0,none⟩) (by show gF≠R;omega) _).setOther (a:=⟨R,1,none⟩) (by show gF≠R;omega) _⟩,(HB.o.setCell (p:=⟨R,0,none⟩) (by show w.heap.size≤R;omega) _).setCell (p:=⟨R,1,none⟩) (by show w.heap.size≤R;omega) _⟩
theorem zOM (a:Mach) (w:World) (S Mb gF:Nat) (s x:Int) (h:LangAt w a S Mb gF) (hD:DmOk a S) (hs : -1≤s∧s≤2000000) (hx : -1≤x∧x≤2000000) :
 Calls Try.prog 88 #[lngV S Mb gF,.int .i64 s,.int .i64 x] w fun e w'=>e=.returned (.int .i64 (nxI a s x))∧Below w.heap.size w w':=by
 have HL:=zh h.map
 have HLK:=zh (show (lk (mapC a.arcs) (s,x)=none∧nxI a s x = -1)∨lk (mapC a.arcs) (s,x)=some (.int .i64 (nxI a s x)) by
  have:=lkC (A:=a.arcs) (fun y hy=>(hD.rng y hy).1) s x a.arcs.length
  rw[List.take_length] at this
  exact this)
 have HOK:=zh (show okB (s,x) from ⟨hs.1,hs.2,hx.1,hx.2⟩);obtain⟨r,hr⟩:∃ z,z=nxI a s x:=⟨_,rfl⟩;rw[← hr] at HLK ⊢;unfold lngV;clear h hD hr hs hx
 go_enter Try.func88,Try.ntmps88
 rcases HLK.o with⟨h1,h2⟩ | h1
 ·subst h2;have HN:=zh h1;clear h1;go_wp2_with (at_lookup;go_loud (refine zBH rfl _ _ 105 rfl zCw Try.underlying105 zCj rfl (HL.o.alloc _) (s,x) rfl HOK.o HN.o ?_));exact bodyPost_ret (v:=.int .i64 (-1)) (by simp[results,Try.results88,go_sem]) rfl ⟨rfl,by go_grown⟩
 ·have HN:=zh h1;clear h1;go_wp2_with (at_lookup;go_loud (refine zBz rfl _ _ 105 rfl zCw Try.underlying105 zCj rfl (HL.o.alloc _) (s,x) rfl HOK.o _ HN.o ?_));exact bodyPost_ret (v:=.int .i64 r) (by simp[results,Try.results88,go_sem]) rfl ⟨rfl,by go_grown⟩
theorem zKm (a:Mach) (w:World) (S Mb gF:Nat) (s:Int) (h:LangAt w a S Mb gF) (hD:DmOk a S) :
 Calls Try.prog 87 #[lngV S Mb gF,.int .i64 s] w fun e w'=>e=.returned (.bool (acI a s))∧Below w.heap.size w w':=by
 have hS4:=hD.n4;have hn:=hD.n;have HR:=zh h.fin;unfold acI;rw[hn];unfold lngV;clear h hD hn
 go_enter Try.func87,Try.ntmps87
 by_cases h0:0≤s
 ·by_cases h1:s<(S:Int)
  ·(have hk:s.toNat<S:=by omega);have cF:=(HR.o.alloc (.cells #[.map (some Mb),.slice (some ⟨gF,0,none⟩) S S] 107)).cell hk;have lF:=(HR.o.alloc (.cells #[.map (some Mb),.slice (some ⟨gF,0,none⟩) S S] 107)).lt;have t0:decide (s≥0)=true:=decide_eq_true h0;have t0':decide (0≤s)=true:=decide_eq_true h0;have t1:decide (s<(S:Int))=true:=decide_eq_true h1;go_wp2;rw[t0',t1];exact bodyPost_ret (v:=.bool (fnB a.fins a.fins.length s.toNat)) (by simp[results,Try.results87,go_sem]) rfl ⟨rfl,by go_grown⟩
  ·have t0:decide (s≥0)=true:=decide_eq_true h0;have t0':decide (0≤s)=true:=decide_eq_true h0;have t1:decide (s<(S:Int))=false:=decide_eq_false h1;go_wp2
   try rw[t0',t1]
   exact bodyPost_ret (v:=.bool false) (by simp[results,Try.results87,go_sem]) rfl ⟨rfl,by go_grown⟩
 ·have t0:decide (s≥0)=false:=decide_eq_false h0;have t0':decide (0≤s)=false:=decide_eq_false h0;go_wp2
  try rw[t0']
  exact bodyPost_ret (v:=.bool false) (by simp[results,Try.results87,go_sem]) rfl ⟨rfl,by go_grown⟩
end Go.Proofs.Ytkfdhpbnphojoaa
namespace Gm
open Go Go.RowKit
def toF (c:Int×Int):Fnl:=⟨c.1,c.2⟩
def cF (L:List (Int×Int)):List Fnl:=L.map toF
theorem zRK (L:List (Int×Int)) (c:Int×Int):finRow (cF (L++[c]))=finRow (cF L)++finRow [toF c]:=by unfold cF;rw[wAf,zBO];rfl
theorem zSm (L:List (Int×Int)):(cF L).length=L.length:=by unfold cF;rw[wAd]
theorem cF_at {L:List (Int×Int)} {i:Nat} {x:Fnl} (hi:i<L.length) (h:(cF L).getD i dF=x):(x.s,x.w)=L.getD i (-1,-1):=by
 have e:(cF L).getD i dF=toF (L[i]'hi):=by
  unfold cF;simp[wAc,hi]
 have e2:L.getD i (-1,-1)=L[i]'hi:=by simp[wAc,hi]
 rw[e2,← h,e];rfl
def bRow (L:List Bool):List Value:=L.map Value.bool
theorem zM6 (L:List Bool) (b:Bool):bRow (L++[b])=bRow L++bRow [b]:=by unfold bRow;rw[wAf]
theorem zOS (L:List Bool):∀ u∈bRow L,u.oneCell'=true:=by
 intro u hu;obtain⟨b,_,rfl⟩:=List.mem_map.1 (show u∈L.map Value.bool from hu);rfl
theorem zNP {w:World} {base n:Nat} {e:TypeId} {v:Value} {L:List Bool} (h:w.ownsRow base e 1 v n (bRow L)) (hn:n≤big):Bools w w.heap.size v L:=by
 obtain⟨A,c,rfl,hnc,_⟩:=zAa h;have hl:L.length=n:=by have:=h.1;unfold bRow at this;rw[wAd] at this;omega
 refine⟨A,n,c,rfl,zh hl,hnc,hn,Rd.of_own h (fun i j hi hj=>?_)⟩;obtain rfl:j=0:=by omega
 unfold bRow boolCell;simp[wAc,show i<L.length by omega]
end Gm
namespace Go.Proofs.Ytkfdhpbnphojoaa
open Go.RowKit Gm
theorem zB8 (va:Value) (t:Mach) (w:World) (ha:MachAt w w.heap.size va t) (hn:t.arcs.length≤2000) :
 Calls Try.prog 52 #[va] w fun e w'=>∃ A c,e=.returned (.slice A (setI (t.arcs.map (·.i))).length c)∧w'.ownsRow w.heap.size 3 1 (.slice A (setI (t.arcs.map (·.i))).length c) (setI (t.arcs.map (·.i))).length (intRow (setI (t.arcs.map (·.i))))∧Below w.heap.size w w':=by
 obtain⟨i0,hi0,iz0,iz1,iz2⟩:=info_parts zAH;obtain⟨A2,AF2,n2,c2,nf2,cf2,rfl,HN2,HF2,hnc,hnfc,hnb,hnfb,hA,hF⟩:=ha;rw[HN2.o] at hn;have HRA:=zh hA;clear hA hF
 go_enter Try.func52,Try.ntmps52
 go_upto_region 3 with fail
 generalize hW3:World.alloc _ _=W3;have HB3:=zh (show Below w.heap.size w W3 by rw[← hW3];go_grown);clear hW3;have HO0:=zh (World.ownsRow_nil W3 w.heap.size 3 1)
 go_loopw [3,9] (fun lv iv wr=>∃ i:Nat,i≤n2∧iv=.int .i64 (i:Int)∧Hid (wr.ownsRow w.heap.size 3 1 lv i (intRow ((t.arcs.take i).map (·.i))))∧Hid (Below w.heap.size w wr)) (fun _ iv _=>n2-(intOf iv).toNat)
 case atStart=>exact⟨0,by omega,rfl,HO0,HB3⟩
 case round =>
  clear HO0 HB3;obtain⟨i,hi,rfl,HO,HBV⟩:=hrel;by_cases hin:i<n2
  ·obtain⟨b,off,x,rfl,hbB,d0,d1,d2,d3,d4,HX⟩:=zAp (HRA.o.below HBV.o (wAa _)) hin;have HTK:=zh (show t.arcs.take (i+1)=t.arcs.take i++[x] from zAY (by rw[HN2.o];exact hin) HX.o);(have lb:b<wr.heap.size:=by have:=HBV.o.size;omega);obtain⟨Av,cv,hlv,hcv,_⟩:=zAa HO.o;subst hlv;clear HX;(go_upto_region 5 with fail);generalize hW5:World.alloc _ _=W5;obtain⟨bx,hbx⟩:∃ z,z=wr.heap.size:=⟨_,rfl⟩;have HX5:=zh (show Blk W5 bx 64 #[.int .i64 x.f,.int .i64 x.t,.int .i64 x.i,.int .i64 x.o,.int .i64 x.w] by rw[← hW5];exact Blk.at_ hbx);have HO5:=zh (show W5.ownsRow w.heap.size 3 1 (.slice Av i cv) i (intRow ((t.arcs.take i).map (·.i))) by rw[← hW5];exact HO.o.alloc _);have HB5:=zh (show Below w.heap.size w W5 by rw[← hW5];exact HBV.o.alloc HBV.o.size _);simp only[← hbx];clear hW5 hbx HO HBV d0 d1 d2 d3 d4 lb;have y2:=HX5.o.cell 2;simp at y2;have lx5:bx<W5.heap.size:=HX5.o.lt;have hz5:w.heap.size≤W5.heap.size:=HB5.o.size;go_wp2_with (at_builtin;go_loud (refine wpList_append_own_at _ rfl (.tmp 13) (.tmp 16) 26 rfl w.heap.size 3 i0 _ 1 8 Try.underlying26 hi0 iz0 iz1 iz2 rfl (by omega) (.slice Av i cv) i _ rfl (HO5.o.alloc _) ⟨W5.heap.size,0,none⟩ 1 1 (intRow [x.i]) rfl (by rfl) (World.news_of_block (cs:=(intRow [x.i]).toArray) (t:=3) (fr:=(0,0)) (Blk.at_ rfl)) (zAg _) (by simp only[maxLen];omega) (by omega) (by simp<;>omega) ?_;intro v' w6 hown2 hg2 _ hat2;have HOW2:=zh hown2;have HG2:=zh hg2;clear hown2 hg2 hat2));have HON:=zh (show w6.ownsRow w.heap.size 3 1 v' (i+1) (intRow ((t.arcs.take (i+1)).map (·.i))) by rw[HTK.o,wAf,zAd];exact HOW2.o);have HBN:=zh ((HB5.o.alloc hz5 (Obj.cells #[.int .i64 x.i] 3)).grown HG2.o (by simp;omega) (fun z hz=>(HO5.o.lt z hz).1));clear HOW2 HG2 HO5 HB5 HX5;go_roundw
   case rel=>exact⟨i+1,by omega,by go_num,HON,HBN⟩
   case measure=>simp[intOf];omega
  ·(obtain rfl:n2=i:=by omega);have HOL:=zh (show wr.ownsRow w.heap.size 3 1 u3 n2 (intRow (t.arcs.map (·.i))) by have:=HO.o;rw[wAb (by rw[HN2.o];exact wAa _)] at this;exact this);have HLL:=zh (show (t.arcs.map (·.i)).length=n2 by rw[wAd];exact HN2.o);clear HO
   go_wp2_with (first
    | (go_at_call 37;refine (zD3 _ n2 w.heap.size u3 wr HLL.o (by omega) HOL.o).mono ?_;rintro e w7 ⟨rfl,ho7,hg7⟩;have HO7:=zh ho7;have HG7:=zh hg7;clear ho7 hg7)
    | (go_at_call 38;refine (zCX _ n2 w.heap.size u3 w7 (by rw[List.length_mergeSort,HLL.o]) (by omega) HO7.o).mono ?_;rintro e w8 ⟨A8,c8,rfl,ho8,hob8,hg8⟩;rw[zJi] at ho8 hob8 ⊢;have HO8:=zh ho8;have HG8:=zh hg8;clear ho8 hob8 hg8))
   refine bodyPost_ret (v:=.slice A8 (setI (t.arcs.map (·.i))).length c8) (by simp[results,Try.results52,go_sem]) rfl ?_;exact⟨A8,c8,rfl,HO8.o,(HBV.o.grown HG7.o HBV.o.size (fun z hz=>(HOL.o.lt z hz).1)).grown HG8.o (by have:=HBV.o.size;have:=HG7.o.size;omega) (fun z hz=>(HOL.o.lt z hz).1)⟩
end Go.Proofs.Ytkfdhpbnphojoaa
namespace Gm
def jnL (a b:Mach) (l:List Int) (K:Bool→Bool→Bool):Lang:=fun w=>(∀ x∈w,x∈l)∧K (acR a (s0I a) w) (acR b (s0I b) w)=true
theorem zHJ {a b:Mach} {l:List Int} {K:Bool→Bool→Bool} {r:Mach×(Int×Int)} (h:JoinR a b l K r) (hz:r.2=(0,0)):LabOk l∧∃ N,Reg l (jnL a b l K) N∧r.1=canonM l (jnL a b l K) N∧r.1.n≤400∧r.1.arcs.length≤2000:=by
 rcases h with⟨e,_⟩ | ⟨I,hI,hI2,e⟩
 · rw[e] at hz;exact absurd hz (by decide)
 ·have hI0:0<I:=by
   obtain⟨k,hk⟩:=zD9 (a:=a) (b:=b) (l:=l) (Nat.zero_le I);have h0:(LsC a b l 0).length=1:=rfl;rw[← hI,hk,List.length_append,h0];omega
  by_cases ht:(tblF l (rowsC a b l I) (finsC a b l K I).length).1=0
  ·obtain⟨ht0,hT⟩:=zD0 ht;rw[zDR ht0] at e;have hS:=hT.sm;have hlen:(rowsC a b l I).length=I:=by unfold rowsC;rw[wAd,List.length_range]
   have hL:accS (tstp l (rowOf (rowsC a b l I))) (finOf (finsC a b l K I)) 0=jnL a b l K:=by
    funext w;refine propext ((zGl hI hT.inc w 0 hI0).trans ?_);have hc:cpC a b l 0=(s0I a,s0I b):=rfl;rw[hc];exact Iff.rfl
   have hreg:=zCd (fin:=finOf (finsC a b l K I)) hS.inc hS.pos hS.rngs (s:=0) (by rw[hlen];exact hI0);rw[hL] at hreg;unfold limR at e;by_cases hg:400<(canT l (rowsC a b l I) (finsC a b l K I)).n∨2000<(canT l (rowsC a b l I) (finsC a b l K I)).arcs.length
   ·rw[if_pos hg] at e;rw[e] at hz;exact absurd hz (by decide)
   ·rw[if_neg hg] at e;(have e1:r.1=canT l (rowsC a b l I) (finsC a b l K I):=by rw[e]);refine⟨fun x hx=>by have:=hT.lab x hx;omega,_,hreg,?_,by rw[e1];omega,by rw[e1];omega⟩;rw[e1];unfold canT;rw[hL]
  ·unfold leastR at e;rw[if_pos ht] at e;rw[e] at hz;dsimp only at hz;exact absurd (show (tblF l (rowsC a b l I) (finsC a b l K I).length).1=0 by rw[hz]) ht
theorem zRL {ls:List Int} {L:Lang} {N:Nat} (h:Reg ls L N) (hl:LabOk ls) (w:List Int):accA (canonM ls L N).arcs (canonM ls L N).fins 0 w↔L w:=by
 by_cases hL:∃ w,L w
 ·obtain⟨K,hK⟩:=zDe h hL (wAa N);exact (hK.words (fun x hx=>by have:=hl x hx;omega) w).symm.trans (zBT h (wAa _) w)
 ·rw[zAz hL];exact⟨fun g=>absurd g (zA1 0 w),fun g=>absurd ⟨w,g⟩ hL⟩
theorem zSM {ls:List Int} {L:Lang} {N:Nat} (h:Reg ls L N) (hl:LabOk ls) (h4:(canonM ls L N).n≤400):∃ S,AcOk (canonM ls L N) S:=by
 by_cases hL:∃ w,L w
 ·obtain⟨K,hK⟩:=zDe h hL (wAa N);exact⟨K,hK.ac (fun x hx=>by have:=hl x hx;omega) h4⟩
 ·rw[zAz hL];exact⟨0,zC7⟩
open Classical in
noncomputable def bA (m:Mach) (w:List Int):Bool:=decide (accA m.arcs m.fins 0 w)
theorem bA_iff {m:Mach} {w:List Int} : bA m w=true↔accA m.arcs m.fins 0 w:=by unfold bA;simp
theorem zB4 {m:Mach} (h:(detW m).2=(0,0)) (w:List Int):acR (detW m).1 (s0I (detW m).1) w=bA m w:=by
 obtain⟨S,hS⟩:=zAW h
 have:=(zIg hS w).trans (zDj h w)
 rw[Bool.eq_iff_iff,this,bA_iff]
def labD (m:Mach):List Int:=setI (m.arcs.map (·.i))
theorem zKS {m:Mach} (h:(detW m).2=(0,0)) {w:List Int} (hw:accA m.arcs m.fins 0 w):∀ x∈w,x∈labD (detW m).1:=by
 rw[← zDj h] at hw;by_cases hn:(detW m).1.n=0
 ·exfalso;have hf:=zBe h;obtain⟨_,⟨e,_⟩ | ⟨_,_,_,_,K,hK,_⟩⟩:=hf
  · rw[e] at hw;exact zA7 0 w hw
  · have:=hK.n;have:=hK.pos;omega
 ·have hok:=zG6 h hn
  have:=(zFx hok).over w hw
  unfold lsM at this;rw[zIS (fun a ha=>by have:=(hok.lab a ha).1;omega)] at this;exact this
noncomputable def bothF (a b:Mach):Int×Int :=
 if accF a≠(0,0) then accF a else if accF b≠(0,0) then accF b else if (detW a).2≠(0,0) then (detW a).2 else if (detW b).2≠(0,0) then (detW b).2 else if 300<(labD (detW a).1).length then (17,-1) else (0,0)
theorem zBp {a b:Mach} (h:bothF a b=(0,0)):accF a=(0,0)∧accF b=(0,0)∧(detW a).2=(0,0)∧(detW b).2=(0,0)∧(labD (detW a).1).length≤300:=by
 unfold bothF at h;by_cases h1:accF a≠(0,0)
 · rw[if_pos h1] at h;exact absurd h h1
 rw[if_neg h1] at h;by_cases h2:accF b≠(0,0)
 · rw[if_pos h2] at h;exact absurd h h2
 rw[if_neg h2] at h;by_cases h3:(detW a).2≠(0,0)
 · rw[if_pos h3] at h;exact absurd h h3
 rw[if_neg h3] at h;by_cases h4:(detW b).2≠(0,0)
 · rw[if_pos h4] at h;exact absurd h h4
 rw[if_neg h4] at h;by_cases h5:300<(labD (detW a).1).length
 · rw[if_pos h5] at h;exact absurd h (by decide)
 exact⟨Decidable.not_not.1 h1,Decidable.not_not.1 h2,Decidable.not_not.1 h3,Decidable.not_not.1 h4,by omega⟩
def IntR (a b:Mach) (K:Bool→Bool→Bool) (r:Mach×(Int×Int)):Prop:=(bothF a b≠(0,0)∧r=(emptyM,bothF a b))∨(bothF a b=(0,0)∧JoinR (detW a).1 (detW b).1 (labD (detW a).1) K r)
def CmpR (m:Mach) (l:List Int) (r:Mach×(Int×Int)):Prop:=(accF m≠(0,0)∧r=(emptyM,accF m))∨(accF m=(0,0)∧alphF l (-2)≠(0,0)∧r=(emptyM,alphF l (-2)))∨(accF m=(0,0)∧alphF l (-2)=(0,0)∧(detW m).2≠(0,0)∧r=(emptyM,(detW m).2))∨(accF m=(0,0)∧alphF l (-2)=(0,0)∧(detW m).2=(0,0)∧JoinR (detW m).1 emptyM l (fun p _ => !p) r)
structure ResL (r:Mach) (L:Lang):Prop where
 can:∃ ls N,Reg ls L N∧LabOk ls∧r=canonM ls L N
 n4:r.n≤400
 len:r.arcs.length≤2000
theorem ResL.acc {r:Mach} {L:Lang} (h:ResL r L) (w:List Int):bA r w=true↔L w:=by
 obtain⟨ls,N,hr,hl,e⟩:=h.can;rw[bA_iff,e];exact zRL hr hl w
theorem ResL.ok {r:Mach} {L:Lang} (h:ResL r L):∃ S,AcOk r S:=by
 obtain⟨ls,N,hr,hl,e⟩:=h.can;have h4:=h.n4;rw[e] at h4 ⊢;exact zSM hr hl h4
theorem ResL.uniq {r r':Mach} {L L':Lang} (h:ResL r L) (h':ResL r' L') (e:∀ w,L w↔L' w):r=r':=by
 obtain⟨ls,N,hr,_,e1⟩:=h.can;obtain⟨ls',N',hr',_,e2⟩:=h'.can;rw[e1,e2];exact (zBw hr hr' (wAa _) (wAa _)).2 e
theorem zKA {m:Mach} (h:(minW m).2=(0,0)):ResL (minW m).1 (fun w=>bA m w=true):=by
 obtain⟨_,_,_,⟨ls,N,hr,hl,e⟩,h4,h2⟩:=zBW h
 have:(fun w=>bA m w=true)=accA m.arcs m.fins 0:=funext fun w=>propext bA_iff
 rw[this];exact⟨⟨ls,N,hr,hl,e⟩,h4,h2⟩
theorem zKC {a b:Mach} {K:Bool→Bool→Bool} {r:Mach×(Int×Int)} (h:IntR a b K r) (hz:r.2=(0,0)) (hK:∀ q,K false q=false):bothF a b=(0,0)∧ResL r.1 (fun w=>K (bA a w) (bA b w)=true):=by
 rcases h with⟨h1,e⟩ | ⟨h1,hj⟩
 · rw[e] at hz;exact absurd hz h1
 ·obtain⟨_,_,ha,hb,_⟩:=zBp h1;obtain⟨hl,N,hr,e,h4,h2⟩:=zHJ hj hz
  have hL:jnL (detW a).1 (detW b).1 (labD (detW a).1) K=(fun w=>K (bA a w) (bA b w)=true):=by
   funext w;unfold jnL;rw[zB4 ha,zB4 hb];refine propext ⟨fun h=>h.2,fun h=>⟨?_,h⟩⟩;by_cases hw:bA a w=true
   · exact zKS ha (bA_iff.1 hw)
   ·rw[Bool.not_eq_true] at hw;rw[hw,hK] at h;cases h
  rw[hL] at hr e;exact⟨h1,⟨_,_,hr,hl,e⟩,h4,h2⟩
theorem zPY {m:Mach} {l:List Int} {r:Mach×(Int×Int)} (h:CmpR m l r) (hz:r.2=(0,0)):accF m=(0,0)∧alphF l (-2)=(0,0)∧(detW m).2=(0,0)∧LabOk l∧ResL r.1 (fun w=>(∀ x∈w,x∈l)∧bA m w=false):=by
 rcases h with⟨h1,e⟩ | ⟨_,h1,e⟩ | ⟨_,_,h1,e⟩ | ⟨h1,h2,h3,hj⟩
 · rw[e] at hz;exact absurd hz h1
 · rw[e] at hz;exact absurd hz h1
 · rw[e] at hz;exact absurd hz h1
 ·obtain⟨hl,N,hr,e,h4,h5⟩:=zHJ hj hz
  have hL:jnL (detW m).1 emptyM l (fun p _ => !p)=(fun w=>(∀ x∈w,x∈l)∧bA m w=false):=by
   funext w;unfold jnL;rw[zB4 h3];refine propext (and_congr_right fun _=>?_);simp
  rw[hL] at hr e;exact⟨h1,h2,h3,hl,⟨_,_,hr,hl,e⟩,h4,h5⟩
end Gm
