/- The texts OpW of this proof. No conditions. -/
import Derived.Test.YtkfdhpbnphojoaaKa12
import Derived.Deep.RegionHeld3
/- Text OpW. -/
namespace Go.Proofs.Ytkfdhpbnphojoaa
open Go.RowKit Gm
set_option linter.unusedSimpArgs false
set_option linter.unusedVariables false
theorem arcl_info:(Try.prog.info? 22).map (fun i=>(i.zero,i.size,i.bytes))=some (some (.slice none 0 0),1,24):=by kernel_rfl
theorem fcellO {w w':World} (hb:Below w.heap.size w w') (b o:Nat) (h:b<w.heap.size):w'.cell? ⟨b,o,none⟩=w.cell? ⟨b,o,none⟩:=by
 unfold World.cell?;simp only[hb.block b h]
theorem ffrozO {w w':World} (hb:Below w.heap.size w w') (b o:Nat) (h:b<w.heap.size):w'.frozen? ⟨b,o,none⟩=w.frozen? ⟨b,o,none⟩:=by
 unfold World.frozen?;simp only[hb.block b h]
theorem blk_set4O {w:World} {g:Nat} {t:TypeId} {a b c d x y z u:Value} (h:Blk w g t #[x,y,z,u]):Blk ((((w.setCell ⟨g,0,none⟩ a).setCell ⟨g,1,none⟩ b).setCell ⟨g,2,none⟩ c).setCell ⟨g,3,none⟩ d) g t #[a,b,c,d]:=(((h.set_ 0 a).set_ 1 b).set_ 2 c).set_ 3 d
theorem cells_ofO {w:World} {g:Nat} {t:TypeId} {x y z:Value} (h:Blk w g t #[x,y,z]):w.cell? ⟨g,0,none⟩=some x∧w.cell? ⟨g,1,none⟩=some y∧w.cell? ⟨g,2,none⟩=some z:=⟨h.cell 0,h.cell 1,h.cell 2⟩
theorem rowO_made {w:World} {g n:Nat} {t:TypeId} {v:Value} (hg:g=w.heap.size):(w.alloc (.cells (madeCells #[v] n) t)).rowIs g t n (fun _=>v):=by
 subst hg;exact World.rowIs_made w v n t
theorem rowO_below {w w':World} {g n:Nat} {t:TypeId} {f:Nat→Value} (h:w.rowIs g t n f) (hb:Below w.heap.size w w'):w'.rowIs g t n f:=h.of_block (hb.block g h.lt)
theorem blkO_below {w w':World} {g:Nat} {t:TypeId} {cs:Array Value} (h:Blk w g t cs) (hb:Below w.heap.size w w'):Blk w' g t cs:=h.below hb h.lt
theorem ownllO_far {w:World} {eO eI sz G n:Nat} {vs:Nat→Value} {L:Nat→List Value} {m:Nat→Nat} (h:OwnLL w (G+1) eO eI sz G n vs L m) {p:Addr} (hp:p.block<G) (u:Value):OwnLL (w.setCell p u) (G+1) eO eI sz G n vs L m :=
 h.farB (by omega) (fun i hi e=>by have:=((h.own i hi).lt _ e).1;omega) u
theorem rd_arcO {w:World} {g:Nat} {t:TypeId} {x:Arc} (h:Blk w g t #[.int .i64 x.f,.int .i64 x.t,.int .i64 x.i,.int .i64 x.o,.int .i64 x.w]):Rd w w.heap.size 5 (some ⟨g,0,none⟩) 1 (arcCell [x]):=fun _=>by
 refine⟨g,0,rfl,h.lt,fun i j hi hj=>?_⟩;obtain rfl:i=0:=by omega
 have:=h.cell j
 rw[show 0+(0*5+j)=j by omega,this];rcases (by omega:j=0∨j=1∨j=2∨j=3∨j=4) with e | e | e | e | e<;>subst e<;>rfl
theorem open_setR {w:World} {S gF gA gN Z:Nat} {f:Nat→Value} {va vn:Nat→Value} {LA LN:Nat→List Value} {mA mN:Nat→Nat} {tF eA iA eN iN sA sN:Nat} (h:w.rowIs gF tF S f∧OwnLL w Z eA iA sA gA S va LA mA∧OwnLL w (gN+1) eN iN sN gN S vn LN mN) {R:Nat} (h1:R<gF) (h2:R<gA) (h3:R<Z) (h4:R<gN) (i:Nat) (u:Value) :
 (w.setCell ⟨R,i,none⟩ u).rowIs gF tF S f∧OwnLL (w.setCell ⟨R,i,none⟩ u) Z eA iA sA gA S va LA mA∧OwnLL (w.setCell ⟨R,i,none⟩ u) (gN+1) eN iN sN gN S vn LN mN :=
 ⟨h.1.setOther (a:=⟨R,i,none⟩) (by show gF≠R;omega) u,h.2.1.farB (p:=⟨R,i,none⟩) (by show gA≠R;omega) (fun j hj e=>by have:=((h.2.1.own j hj).lt _ e).1;have:Z≤R:=this;omega) u,ownllO_far h.2.2 (p:=⟨R,i,none⟩) (by exact h4) u⟩
theorem row_blkO {w:World} {g n:Nat} {t:TypeId} {f:Nat→Value} (h:w.rowIs g t n f):∃ cs,Blk w g t cs:=by
 obtain⟨c,hc,_⟩:=h;exact⟨c,hc⟩
theorem row_neO {w:World} {g g' n n':Nat} {t t':TypeId} {f f':Nat→Value} (h:w.rowIs g t n f) (h':w.rowIs g' t' n' f') (hne:t≠t'):g≠g':=by
 obtain⟨c,hc⟩:=row_blkO h;obtain⟨c',hc'⟩:=row_blkO h';exact hc.ne_ hc' hne
theorem rowblk_neO {w:World} {g g' n:Nat} {t t':TypeId} {f:Nat→Value} {cs:Array Value} (h:w.rowIs g t n f) (h':Blk w g' t' cs) (hne:t≠t'):g≠g':=by
 obtain⟨c,hc⟩:=row_blkO h;exact hc.ne_ h' hne
theorem belO_alloc {a w:World} (h:Below a.heap.size a w) (o:Obj):Below a.heap.size a (w.alloc o):=h.alloc h.size o
theorem belO_drew {a w:World} (h:Below a.heap.size a w):Below a.heap.size a w.drew:=h.drew
theorem belO_set {a w:World} (h:Below a.heap.size a w) {p:Addr} (hp:a.heap.size≤p.block) (u:Value):Below a.heap.size a (w.setCell p u):=h.setCell hp u
theorem belO_call {a w w':World} (h:Below a.heap.size a w) (hb:Below w.heap.size w w'):Below a.heap.size a w':=h.trans (hb.mono h.size)
set_option maxRecDepth 100000 in
set_option maxHeartbeats 32000000 in
theorem openOf_any (va:Value) (a:Mach) (w:World) (B S:Nat) (hB:B≤w.heap.size) (ha:MachAt w B va a) (hS:a.n=(S:Int)) (hS4:S≤400) (hn4:a.arcs.length≤2000) (hf4:a.fins.length≤400) (hrng:inRange a.arcs S) (hrf:∀ x∈a.fins,0≤x.s∧x.s<(S:Int)) :
 Calls Try.prog 77 #[va] w fun e w'=>∃ (gF gA gN:Nat) (va vn:Nat→Value),e=.returned (opV S gF gA gN)∧OpenAt w' a S gF gA gN va vn∧Below w.heap.size w w':=by
 obtain⟨ia,ha0,ha1,ha2,ha3⟩:=info_parts arc_info;have HCL:=hide (fun W (hb:Below w.heap.size w W)=>closures_any va a W w.heap.size S (by exact hb.size) ((ha.below hb hB).mono hB) hS hS4 hn4 hrng);obtain⟨A,AF,n,c,nf,cf,rfl,HN,HF,hnc,hnfc,hnb,hnfb,hA,hF⟩:=ha;rw[HN.out] at hn4;rw[HF.out] at hf4;have HRA:=hide hA;have HRF:=hide hF;have HRNG:=hide hrng;have HRGF:=hide hrf;unfold big at hnb hnfb;rw[hS] at HCL ⊢;have HMKA:=hide (fun (W:World)=>run_make_row' (P:=Try.prog) 50 22 (.slice none 0 0) 24 Try.underlying50 arcl_info rfl .i64 .i64 S (by omega) (by omega) W);have HMKB:=hide (fun (W:World)=>run_make_row' (P:=Try.prog) 51 4 (.bool false) 1 Try.underlying51 bool_info rfl .i64 .i64 S (by omega) (by omega) W);clear hA hF hrng hrf
 go_enter Try.func77,Try.ntmps77
 go_upto_region 1 with fail
 generalize hW2:World.alloc _ _=W2;obtain⟨X,hX⟩:∃ z,z=w.heap.size:=⟨_,rfl⟩;have HX2:=hide (show Blk W2 X 25 #[.int .i64 (S:Int),.slice A n c,.slice AF nf cf] by rw[← hW2];first | exact Blk.at_ hX | exact (Blk.at_ hX).alloc _);have HB2:=hide (show Below w.heap.size w W2 by rw[← hW2];go_grown);obtain⟨R,hR⟩:∃ z,z=w.heap.size+1:=⟨_,rfl⟩;have HR2:=hide (show Blk W2 R 95 #[.int .i64 0,.slice none 0 0,.slice none 0 0,.slice none 0 0] by rw[← hW2];exact Blk.at_ (by simp[hR]));have HWR:=hide hR;have x0:=HX2.out.cell 0;have x1:=HX2.out.cell 1;have x2:=HX2.out.cell 2;simp at x0 x1 x2;have lX:X<W2.heap.size:=HX2.out.lt;have HWX:=hide hX;simp only[← hR]
 try simp only[← hX]
 clear hW2 hX hR
 go_cut [3] from 8 (fun s3 wx=>∃ (O gF gA gN:Nat) (vn:Nat→Value),s3=.pointer (some ⟨O,0,none⟩)∧Hid (Blk wx O 95 #[.int .i64 (S:Int),.slice (some ⟨gF,0,none⟩) S S,.slice (some ⟨gA,0,none⟩) S S,.slice (some ⟨gN,0,none⟩) S S])∧Hid (wx.rowIs gF 4 S (fun _=>.bool false))∧Hid (wx.rowIs gA 22 S (fun _=>.slice none 0 0))∧Hid (OwnLL wx (gN+1) 26 3 1 gN S vn (fun s=>intRow (castL (nearN a.arcs S s))) (fun s=>(nearN a.arcs S s).length))∧Hid (Below W2.heap.size W2 wx)∧W2.heap.size≤O∧W2.heap.size≤gF∧W2.heap.size≤gA∧W2.heap.size≤gN)
 case first =>
  have hma:=HMKA.out;have hmb:=HMKB.out
  go_region_held3 (fun w'=>w'.cell? ⟨X,0,none⟩=some (.int .i64 (S:Int))∧w'.cell? ⟨X,1,none⟩=some (.slice A n c)∧w'.cell? ⟨X,2,none⟩=some (.slice AF nf cf)) (first | with_reducible exact⟨x0,x1,x2⟩ | (with_reducible refine cells_ofO (t:=25) ?_;(repeat (first | (with_reducible exact HX2.out) | (with_reducible exact HX3.out) | (with_reducible refine Blk.alloc ?_ _) | (with_reducible refine Blk.drew ?_) | ((with_reducible refine Blk.far ?_ ?sd _);case sd=>(dsimp only;omega)))))) (first
   | (go_at_call 105;refine (HCL.out _ (HB2.out.trans ((show Below W2.heap.size W2 _ by first | exact Below.refl _ _ | go_grown).mono HB2.out.size))).mono ?_;rintro e w3 ⟨gN,vn,rfl,hgN,hLN,hbN⟩;have HLN:=hide hLN;have HBN3:=hide hbN;have hc3:=fcellO hbN;have hf3:=ffrozO hbN;have hl3:=hbN.size;(try simp at hc3 hf3 hl3);(try (have q31:W2.heap.size<w3.heap.size:=by omega));(try (have q32:W2.heap.size+1<w3.heap.size:=by omega));(try (have q33:W2.heap.size+1+1<w3.heap.size:=by omega));have q34:W2.heap.size<W2.heap.size+1+1:=(by omega);have q35:W2.heap.size<W2.heap.size+1+1+1:=(by omega);have q36:W2.heap.size+1<W2.heap.size+1+1+1:=(by omega);have HX3:=hide (show Blk w3 X 25 #[.int .i64 (S:Int),.slice A n c,.slice AF nf cf] from Blk.below (by (repeat (first | (with_reducible exact HX2.out) | (with_reducible refine Blk.alloc ?_ _) | (with_reducible refine Blk.drew ?_)))) hbN (by first | exact lX | (simp;omega)));have hX3:X<w3.heap.size:=HX3.out.lt;clear hLN hbN;dsimp only))
  all_goals go_wp2_with fail
  all_goals go_meet
  all_goals (apply Exists.intro;apply Exists.intro;apply Exists.intro;apply Exists.intro;refine Exists.intro vn ?_;refine⟨rfl,hide ?_,hide ?_,hide ?_,hide ?_,hide ?_,?_,?_,?_,?_⟩)
  all_goals first
   | ((repeat (first | ((with_reducible refine Blk.at_ ?sd);case sd=>(first | rfl | (simp;done))) | (with_reducible apply blk_set4O) | (with_reducible refine Blk.alloc ?_ _) | (with_reducible refine Blk.drew ?_) | (with_reducible refine blkO_below ?_ HBN3.out)));done)
   | ((repeat (first | ((with_reducible refine rowO_made ?sd);case sd=>(first | rfl | (simp;done))) | (with_reducible refine World.rowIs.alloc ?_ _) | (with_reducible refine World.rowIs.drew ?_) | ((with_reducible refine World.rowIs.setOther ?_ ?sd _);case sd=>(dsimp only;omega)) | (with_reducible refine rowO_below ?_ HBN3.out)));done)
   | ((repeat (first | (with_reducible exact HLN.out) | (with_reducible refine OwnLL.alloc ?_ _) | (with_reducible refine OwnLL.drew ?_) | ((with_reducible refine ownllO_far ?_ ?sd _);case sd=>(dsimp only;first | omega | (simp at hgN;omega)))));done)
   | ((repeat (first | (with_reducible exact Below.refl _ _) | (with_reducible refine belO_alloc ?_ _) | (with_reducible refine belO_drew ?_) | ((with_reducible refine belO_set ?_ ?sd _);case sd=>(dsimp only;omega)) | (with_reducible refine belO_call ?_ HBN3.out)));done)
   | omega
   | (simp at hgN;omega)
 case rest =>
  obtain⟨O,gF,gA,gN,vn,rfl,HO,HF0,HA0,HN0,HB3,lO,lF,lA,lN⟩:=hcut;have HOF:=hide (rowblk_neO HF0.out HO.out (by decide));have HOA:=hide (rowblk_neO HA0.out HO.out (by decide));have HFA:=hide (row_neO HF0.out HA0.out (by decide));have HFN:=hide (row_neO HF0.out HN0.out.row (by decide));have HAN:=hide (row_neO HA0.out HN0.out.row (by decide));have hOF:=HOF.out;have hOA:=HOA.out;have lX2:=lX;have hwX:w.heap.size≤X:=by have:=HWX.out;omega
  have hRX:X<R:=by have:=HWX.out;have:=HWR.out;omega
  have lR2:R<W2.heap.size:=HR2.out.lt;clear HCL HMKA HMKB x0 x1 x2 HWX HWR;have x2:=(HX2.out.below HB3.out lX).cell 2;simp at x2;have z3:=HB3.out.size;have HF1:=hide (show wc.rowIs gF 4 S (fun i=>.bool (fnB a.fins 0 i)) by rw[fnB_zero];exact HF0.out);clear HF0;obtain⟨W3,hW3⟩:∃ z,z=wc:=⟨_,rfl⟩;rw[← hW3] at HO HF1 HA0 HN0 HB3 x2 z3 ⊢;clear hW3;have lX3:X<W3.heap.size:=by omega
  go_upto_region 3 with fail
  clear x2 lX3
  go_loopw [22] (fun iv wr=>∃ i:Nat,i≤nf∧iv=.int .i64 (i:Int)∧Hid (wr.rowIs gF 4 S (fun s=>.bool (fnB a.fins i s)))∧Hid (Blk wr O 95 #[.int .i64 (S:Int),.slice (some ⟨gF,0,none⟩) S S,.slice (some ⟨gA,0,none⟩) S S,.slice (some ⟨gN,0,none⟩) S S])∧Hid (wr.rowIs gA 22 S (fun _=>.slice none 0 0))∧Hid (OwnLL wr (gN+1) 26 3 1 gN S vn (fun s=>intRow (castL (nearN a.arcs S s))) (fun s=>(nearN a.arcs S s).length))∧Hid (Below W2.heap.size W2 wr)) (fun iv _=>nf-(intOf iv).toNat)
  case atStart=>exact⟨0,by omega,rfl,HF1,HO,HA0,HN0,HB3⟩
  case round =>
   clear HF1 HO HA0 HN0 HB3 z3;obtain⟨i,hi,rfl,HF1,HO,HA0,HN0,HB3⟩:=hrel;have z3:=HB3.out.size;have HBW:=hide (HB2.out.trans (HB3.out.mono HB2.out.size));by_cases hin:i<nf
   ·
    obtain⟨b,off,x,rfl,hbB,d0,d1,HX⟩:=fins_at (HRF.out.below HBW.out hB) hin;have hxm:=getDF_mem (by rw[HF.out];exact hin) HX.out;obtain⟨r0,r1⟩:=HRGF.out x hxm;have hkey:x.s.toNat<S:=by omega
    have hil:i<a.fins.length:=by rw[HF.out];exact hin
    have HNX:=hide (fnB_next (F:=a.fins) (i:=i) (x:=x) (by rw[List.getElem?_eq_getElem hil,← HX.out];simp[hil]) r0);have lb:b<wr.heap.size:=by have:=HBW.out.size;omega
    have cF:=HF1.out.cell hkey;have fF:=HF1.out.frozen x.s.toNat;have lFr:gF<wr.heap.size:=HF1.out.lt;have lOr:O<wr.heap.size:=HO.out.lt;have y1:=HO.out.cell 1;simp at y1;clear HX hxm hil;go_wp2;go_roundw
    case rel=>exact⟨i+1,by omega,by go_num,hide (((HF1.out.set x.s.toNat (.bool true)).congr (fun s _=>by rw[← HNX.out];exact upd_val _ _ _)).alloc _),hide ((HO.out.far (by show O≠gF;exact Ne.symm hOF) _).alloc _),hide ((HA0.out.setOther (a:=⟨gF,x.s.toNat,none⟩) (by show gA≠gF;exact Ne.symm HFA.out) _).alloc _),hide ((HN0.out.farB (p:=⟨gF,x.s.toNat,none⟩) (by show gN≠gF;exact Ne.symm HFN.out) (fun j hj=>rowIs_ne (HN0.out.own j hj) HF1.out (by decide)) _).alloc _),hide ((HB3.out.setCell (p:=⟨gF,x.s.toNat,none⟩) (by exact lF) _).alloc (by simp;omega) _)⟩
    case measure=>simp[intOf];omega
   ·
    obtain rfl:nf=i:=by omega
    have HFE:=hide (show wr.rowIs gF 4 S (fun s=>.bool (fnB a.fins a.fins.length s)) by rw[HF.out];exact HF1.out);have x1:=(HX2.out.below HB3.out lX).cell 1;simp at x1;obtain⟨W4,hW4⟩:∃ z,z=wr:=⟨_,rfl⟩;rw[← hW4] at HFE HO HA0 HN0 HB3 HBW x1 z3 ⊢;clear hW4 HF1;have lX4:X<W4.heap.size:=by omega
    obtain⟨Z,hZ⟩:∃ z,z=W4.heap.size:=⟨_,rfl⟩;have hFZ:gF<Z:=by rw[hZ];exact HFE.out.lt
    have hAZ:gA<Z:=by rw[hZ];exact HA0.out.lt
    have hNZ:gN<Z:=by rw[hZ];exact HN0.out.row.lt
    have hOZ:O<Z:=by rw[hZ];exact HO.out.lt
    have hWZ:W2.heap.size≤Z:=by omega
    have hwZ:w.heap.size≤Z:=by have:=HB2.out.size;omega
    have HZ4:=hide (show Z≤W4.heap.size by omega)
    have HLL0:=hide (show OwnLL W4 Z 22 64 5 gA S (fun _=>.slice none 0 0) (fun s=>arcRow (arN a.arcs 0 s)) (fun s=>(arN a.arcs 0 s).length) from
     ⟨HA0.out,hAZ,fun j _=>by rw[arN_zero];exact World.ownsRow_nil _ _ _ _,fun i j _ _ _=>.inl rfl⟩)
    clear hZ HA0;go_upto_region 8 with fail
    clear x1 lX4
    go_loopw [35] (fun iv wr=>∃ (i:Nat) (va:Nat→Value),i≤n∧iv=.int .i64 (i:Int)∧Hid (OwnLL wr Z 22 64 5 gA S va (fun s=>arcRow (arN a.arcs i s)) (fun s=>(arN a.arcs i s).length))∧Hid (wr.rowIs gF 4 S (fun s=>.bool (fnB a.fins a.fins.length s)))∧Hid (Blk wr O 95 #[.int .i64 (S:Int),.slice (some ⟨gF,0,none⟩) S S,.slice (some ⟨gA,0,none⟩) S S,.slice (some ⟨gN,0,none⟩) S S])∧Hid (OwnLL wr (gN+1) 26 3 1 gN S vn (fun s=>intRow (castL (nearN a.arcs S s))) (fun s=>(nearN a.arcs S s).length))∧Hid (Below W2.heap.size W2 wr)∧Z≤wr.heap.size) (fun iv _=>n-(intOf iv).toNat)
    case atStart=>exact⟨0,_,by omega,rfl,HLL0,HFE,HO,HN0,HB3,HZ4.out⟩
    case round =>
     clear HLL0 HFE HO HN0 HB3 HBW HZ4 z3;obtain⟨i,va,hi,rfl,HLL,HFE,HO,HN0,HB3,hZr⟩:=hrel;have HBW:=hide (HB2.out.trans (HB3.out.mono HB2.out.size));by_cases hin:i<n
     ·
      obtain⟨b,off,x,rfl,hbB,d0,d1,d2,d3,d4,HX⟩:=arcs_at (HRA.out.below HBW.out hB) hin;have hil:i<a.arcs.length:=by rw[HN.out];exact hin
      have HXA:=hide (show a.arcs[i]? = some x by rw[List.getElem?_eq_getElem hil,← HX.out];simp[hil]);obtain⟨r0,r1,r2,r3⟩:=HRNG.out x (List.mem_of_getElem? HXA.out);have lb:b<wr.heap.size:=by have:=HBW.out.size;omega
      clear HX hil;by_cases hx0:x.i=0
      ·
       have t0:decide (x.i=0)=true:=decide_eq_true hx0;have t0':(x.i==0)=true:=by simp[hx0]
       have t0'':(x.i != 0)=false:=by simp[hx0]
       have HLN:=hide (HLL.out.congr (L':=fun s=>arcRow (arN a.arcs (i+1) s)) (m':=fun s=>(arN a.arcs (i+1) s).length) (fun s hs=>by rw[arN_next HXA.out,if_neg (fun e=>e.1 hx0)]) (fun s hs=>by rw[arN_next HXA.out,if_neg (fun e=>e.1 hx0)]));clear hx0;go_wp2;go_roundw
       case rel=>exact⟨i+1,va,by omega,by go_num,hide (HLN.out.alloc _),hide (HFE.out.alloc _),hide (HO.out.alloc _),hide (HN0.out.alloc _),hide (HB3.out.alloc (by omega) _),by simp;omega⟩
       case measure=>simp[intOf];omega
      ·
       have t0:decide (x.i=0)=false:=decide_eq_false hx0;have t0':(x.i==0)=false:=by simp[hx0]
       have t0'':(x.i != 0)=true:=by simp[hx0]
       have hkey:x.f.toNat<S:=by omega
       have HSN:=hide (fun (s:Nat)=>arN_next HXA.out s);have HX0:=hide hx0;clear hx0;go_wp2;generalize hW5:World.alloc _ _=W5;obtain⟨bx,hbx⟩:∃ z,z=wr.heap.size:=⟨_,rfl⟩;have HX5:=hide (show Blk W5 bx 64 #[.int .i64 x.f,.int .i64 x.t,.int .i64 x.i,.int .i64 x.o,.int .i64 x.w] by rw[← hW5];exact Blk.at_ hbx);have HLL5:=hide (show OwnLL W5 Z 22 64 5 gA S va (fun s=>arcRow (arN a.arcs i s)) (fun s=>(arN a.arcs i s).length) by rw[← hW5];exact HLL.out.alloc _);have HFE5:=hide (show W5.rowIs gF 4 S (fun s=>.bool (fnB a.fins a.fins.length s)) by rw[← hW5];exact HFE.out.alloc _);have HO5:=hide (show Blk W5 O 95 #[.int .i64 (S:Int),.slice (some ⟨gF,0,none⟩) S S,.slice (some ⟨gA,0,none⟩) S S,.slice (some ⟨gN,0,none⟩) S S] by rw[← hW5];exact HO.out.alloc _);have HN5:=hide (show OwnLL W5 (gN+1) 26 3 1 gN S vn (fun s=>intRow (castL (nearN a.arcs S s))) (fun s=>(nearN a.arcs S s).length) by rw[← hW5];exact HN0.out.alloc _);have HB5:=hide (show Below W2.heap.size W2 W5 by rw[← hW5];exact HB3.out.alloc (by omega) _);have hs5:bx<W5.heap.size:=HX5.out.lt;have hZx:Z≤bx:=by omega
       simp only[← hbx];have cG:=HLL5.out.row.cell hkey;have fG:=HLL5.out.row.frozen x.f.toNat;have lG:gA<W5.heap.size:=by omega
       obtain⟨vk,hvk⟩:∃ z,z=va x.f.toNat:=⟨_,rfl⟩;have HVK:=hide hvk;rw[← hvk] at cG;have ownk:=HLL5.out.own _ hkey;rw[← hvk] at ownk;have ownk0:=HLL.out.own _ hkey;rw[← hvk] at ownk0;obtain⟨m1,hm1⟩:∃ z,z=(arN a.arcs i x.f.toNat).length:=⟨_,rfl⟩;have hml:m1≤2000:=by rw[hm1];have:=arN_len a.arcs i x.f.toNat;omega
       rw[← hm1] at ownk;have HM1:=hide hm1;have HOWN:=hide ownk;have HLOW:=hide (show ∀ z,vk.ownBlock=some z→Z≤z from fun z hz=>(ownk.lt z hz).1);have ne2:vk.ownBlock≠some gA:=fun e=>by have:=(ownk.lt _ e).1;omega
       have neO:vk.ownBlock≠some O:=fun e=>by have:=(ownk.lt _ e).1;omega
       have neF:vk.ownBlock≠some gF:=fun e=>by have:=(ownk.lt _ e).1;omega
       have neN:vk.ownBlock≠some gN:=fun e=>by have:=(ownk.lt _ e).1;omega
       have HNX:=hide (show vk.ownBlock≠some bx from fun e=>by have:=(ownk0.lt _ e).2;omega);have HNN:=hide (show ∀ j,j<S→(vn j).ownBlock=none∨(vn j).ownBlock≠vk.ownBlock from fun j hj=>own_ne (HN5.out.own j hj) ownk (by decide));clear hW5 hbx HLL HFE HO HN0 HB3 lb d0 d1 d2 d3 d4 hvk hm1 ownk ownk0;have x0:=HX5.out.cell 0;have x1:=HX5.out.cell 1;have x2:=HX5.out.cell 2;have x3:=HX5.out.cell 3;have x4:=HX5.out.cell 4;have y2:=HO5.out.cell 2;simp at x0 x1 x2 x3 x4 y2;have lO5:O<W5.heap.size:=by omega
       refine wp_mix (fun w'=>w'.cell? ⟨bx,0,none⟩=some (.int .i64 x.f)∧w'.cell? ⟨bx,1,none⟩=some (.int .i64 x.t)∧w'.cell? ⟨bx,2,none⟩=some (.int .i64 x.i)∧w'.cell? ⟨bx,3,none⟩=some (.int .i64 x.o)∧w'.cell? ⟨bx,4,none⟩=some (.int .i64 x.w)∧w'.cell? ⟨O,2,none⟩=some (.slice (some ⟨gA,0,none⟩) S S)∧w'.cell? ⟨gA,x.f.toNat,none⟩=some vk) 13 [(0,false),(1,false),(2,false),(3,false),(4,false),(5,false),(6,false),(7,false),(8,false),(9,false),(10,false),(11,true),(12,true)] (by kernel_rfl) (by kernel_rfl) ?_ ?_
       · go_simp
       simp only[List.drop_succ_cons,List.drop_zero]
       repeat (refine mix_q (v:=?_) (by rfl) (by rfl) ?_ ?_;rotate_left;(focus (intro w' hC;(try dsimp only at hC);go_simp;(first | done | with_reducible rfl)));simp only[Act.put,List.setIfInBounds_toArray,List.set_cons_zero,List.set_cons_succ,List.getElem_toArray,List.getElem_cons_zero,List.getElem_cons_succ])
       refine mix_l (by rfl) (by rfl) (fun K hK=>?_);go_simp;refine hK _ _ (by go_simp) ?_;clear hK K;refine mix_l (by rfl) (by rfl) (fun K hK=>?_);refine wp_append_any _ (.tmp 51) (.tmp 53) 22 rfl Z 64 ia _ 5 40 Try.underlying22 ha0 ha1 ha2 ha3 rfl (by omega) vk m1 _ rfl (by first | exact (HOWN.out.alloc _).drew | exact HOWN.out.drew.alloc _) _ (some ⟨W5.heap.size,0,none⟩) 1 1 (arcRow [x]) (arcCell [x]) rfl (by exact rd_arcO (t:=64) ((Blk.at_ (by simp)).drew)) (by simp) (by simp[arcRow]) (fun i j hi hj=>arcRow_at _ i j (by simpa using hi) hj) (arcRow_one _) (by simp only[maxLen];omega) (by omega) (by simp<;>omega) ?_;intro v' w6 hown2 hg2 hat2;obtain⟨Av,cv,rfl,hkcv,_⟩:=own_value hown2;have HAT:=hide hat2;have fG1:w6.frozen? ⟨gA,x.f.toNat,none⟩=false:=far_free hg2 ne2 (by simp;omega) (((HLL5.out.alloc _).drew).row.frozen _);have cG1:w6.cell? ⟨gA,x.f.toNat,none⟩=some vk:=far_cell hg2 ne2 (by rw[HVK.out];exact ((HLL5.out.alloc _).drew).row.cell hkey);have lG1:gA<w6.heap.size:=by have:=hg2.size;simp at this;omega
       refine hK _ _ ⟨far_cell hg2 HNX.out (((HX5.out.alloc _).drew).cell 0),far_cell hg2 HNX.out (((HX5.out.alloc _).drew).cell 1),far_cell hg2 HNX.out (((HX5.out.alloc _).drew).cell 2),far_cell hg2 HNX.out (((HX5.out.alloc _).drew).cell 3),far_cell hg2 HNX.out (((HX5.out.alloc _).drew).cell 4),far_cell hg2 neO (((HO5.out.alloc _).drew).cell 2),cG1⟩ ?_;clear hK K cG x0 x1 x2 x3 x4 y2;refine mix_nil ?_;try simp only[Act.put,List.setIfInBounds_toArray,List.set_cons_zero,List.set_cons_succ,List.getElem_toArray,List.getElem_cons_zero,List.getElem_cons_succ]
       go_wp2;refine NoPanic.normal ?_;go_wp2;have hs6:=hg2.size;simp at hs6
       have HLN:=hide ((((HLL5.out.alloc _).drew.push hkey (HVK.out▸hg2) hown2 (HAT.out.elim (fun e=>.inl (by rw[← HVK.out];exact e)) (fun e=>.inr ⟨_,e,Nat.le_refl _⟩))).congr (L':=fun s=>arcRow (arN a.arcs (i+1) s)) (m':=fun s=>(arN a.arcs (i+1) s).length) (fun s hs=>by
        rw[HSN.out];by_cases e:s=x.f.toNat
        ·
         subst e;rw[if_pos rfl,if_pos ⟨HX0.out,by omega⟩,arcRow_append]
        · rw[if_neg e,if_neg (fun g=>e (by have:=g.2;omega))]) (fun s hs=>by
        rw[HSN.out];by_cases e:s=x.f.toNat
        ·
         subst e;rw[if_pos rfl,if_pos ⟨HX0.out,by omega⟩,List.length_append,HM1.out];rfl
        · rw[if_neg e,if_neg (fun g=>e (by have:=g.2;omega))])))
       have HBN:=hide ((((HB5.out.alloc (by omega) _).drew).grown hg2 (by simp<;>omega) (fun z hz=>by have:=HLOW.out z hz;omega)).setCell (p:=⟨gA,x.f.toNat,none⟩) (by exact lA) (.slice Av (m1+1) cv));have HFN2:=hide ((((HFE5.out.alloc _).drew).of_block (hg2.block gF (by simp;omega) (Ne.symm neF))).setOther (a:=⟨gA,x.f.toNat,none⟩) (by show gF≠gA;exact HFA.out) (.slice Av (m1+1) cv));have HON:=hide ((((HO5.out.alloc _).drew).grown hg2 (Ne.symm neO)).far (p:=⟨gA,x.f.toNat,none⟩) (by show O≠gA;exact Ne.symm hOA) (.slice Av (m1+1) cv));have HNN2:=hide ((((HN5.out.alloc _).drew).kept hg2 neN HNN.out).farB (p:=⟨gA,x.f.toNat,none⟩) (by show gN≠gA;exact Ne.symm HAN.out) (fun j hj=>rowIs_ne (((((HN5.out.alloc _).drew).kept hg2 neN HNN.out)).own j hj) (((((HLL5.out.alloc _).drew).row).of_block (hg2.block gA (by simp;omega) (Ne.symm ne2)))) (by decide)) (.slice Av (m1+1) cv));clear hown2 hg2 hat2 fG fG1 cG1;go_roundw
       case rel=>exact⟨i+1,_,by omega,by go_num,HLN,HFN2,HON,HNN2,HBN,by simp[World.setCell];omega⟩
       case measure=>simp[intOf];omega
     ·
      obtain rfl:n=i:=by omega
      have HLL':=hide (show OwnLL wr Z 22 64 5 gA S va (fun s=>arcRow (arN a.arcs a.arcs.length s)) (fun s=>(arN a.arcs a.arcs.length s).length) by rw[HN.out];exact HLL.out);have hr1:R<gF:=by omega
      have hr2:R<gA:=by omega
      have hr3:R<Z:=by omega
      have hr4:R<gN:=by omega
      have HOE3:=hide (open_setR (open_setR (open_setR (open_setR ⟨HFE.out,HLL'.out,HN0.out⟩ (R:=R) hr1 hr2 hr3 hr4 0 (.int .i64 (S:Int))) (R:=R) hr1 hr2 hr3 hr4 1 (.slice (some ⟨gF,0,none⟩) S S)) (R:=R) hr1 hr2 hr3 hr4 2 (.slice (some ⟨gA,0,none⟩) S S)) (R:=R) hr1 hr2 hr3 hr4 3 (.slice (some ⟨gN,0,none⟩) S S));have hwR:w.heap.size≤R:=by omega
      have HBE:=hide HBW.out;have y0:=HO.out.cell 0;have y1:=HO.out.cell 1;have y2:=HO.out.cell 2;have y3:=HO.out.cell 3;have HRr:=HR2.out.below HB3.out lR2;have q0:=HRr.cell 0;have q1:=HRr.cell 1;have q2:=HRr.cell 2;have q3:=HRr.cell 3;have f0:=HRr.frozen 0;have f1:=HRr.frozen 1;have f2:=HRr.frozen 2;have f3:=HRr.frozen 3;simp at y0 y1 y2 y3 q0 q1 q2 q3;have lRr:=HRr.lt;have lOr:O<wr.heap.size:=by omega
      have hOR:O≠R:=by omega
      clear HLL HLL' HFE HN0 HRr;go_wp21;refine bodyPost_ret (v:=opV S gF gA gN) (by simp[results,Try.results77,go_sem,opV,lRr,q0,q1,q2,q3,f0,f1,f2,f3]) rfl ?_;obtain⟨o1,o2,o3⟩:=HOE3.out;exact⟨gF,gA,gN,va,vn,rfl,⟨o1,⟨_,o2⟩,⟨_,o3⟩⟩,(((HBE.out.setCell (p:=⟨R,0,none⟩) (by exact hwR) _).setCell (p:=⟨R,1,none⟩) (by exact hwR) _).setCell (p:=⟨R,2,none⟩) (by exact hwR) _).setCell (p:=⟨R,3,none⟩) (by exact hwR) _⟩
end Go.Proofs.Ytkfdhpbnphojoaa
