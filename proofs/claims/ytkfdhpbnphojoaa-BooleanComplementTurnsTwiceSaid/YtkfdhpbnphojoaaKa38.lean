/- The texts BtL of this proof. No conditions. -/
import Derived.Test.YtkfdhpbnphojoaaKa36
import Derived.Test.YtkfdhpbnphojoaaKa37
import Derived.Test.YtkfdhpbnphojoaaKa8
import Derived.Test.YtkfdhpbnphojoaaKa29
import Derived.Test.YtkfdhpbnphojoaaKa25
import Derived.Test.YtkfdhpbnphojoaaKa33
/- Text BtL. -/
namespace Go.Proofs.Ytkfdhpbnphojoaa
open Go.RowKit Gm
set_option linter.unusedSimpArgs false
set_option linter.unusedVariables false
theorem len_of_acc2 {m:Mach} (h:accF m=(0,0)):m.arcs.length≤2000:=by
 have val:=valid_of (accF_val h);exact val.len
theorem labsR_len2 (A:List Arc):(labsR A).length≤A.length:=by
 have key:∀ (A:List Arc) (s:List Int),(A.foldl (fun s a=>if a.i=0 then s else insI a.i s) s).length≤s.length+A.length:=by
  intro A
  induction A with
  | nil=>intro s;simp
  | cons a A ih =>
   intro s;rw[List.foldl_cons,List.length_cons];have h1:=ih (if a.i=0 then s else insI a.i s);have h2:=insI_len a.i s;by_cases e:a.i=0
   · rw[if_pos e] at h1 ⊢;omega
   · rw[if_neg e] at h1 ⊢;omega
 have:=key A []
 simpa[labsR] using this
set_option maxRecDepth 100000 in
set_option maxHeartbeats 32000000 in
theorem btlaw_any (v0 v1:Value) (a:Mach) (mo:List Int) (w:World) (hm:MachAt w w.heap.size v0 a) (hl:Nums w w.heap.size v1 mo) :
 Calls Try.prog 7 #[v0,v1] w fun e w'=>e=.returned (.bool true)∧Below w.heap.size w w':=by
 have HMA:=hide hm;have HMO:=hide hl;obtain⟨A1,AF1,n1,c1,nf1,cf1,rfl,_,_,_,_,_,_,_,_⟩:=hm;obtain⟨AL,nl,cl,rfl,HN,hnc,hnb,_⟩:=hl;obtain⟨sa,hsa⟩:∃ z,z=a.n:=⟨_,rfl⟩;rw[← hsa] at HMA ⊢;clear hsa;have he:=fun a b c d W=>run_neq_fault a b c d W
 have he2:=fun a b c d W=>run_eql_fault a b c d W
 go_enter Try.func7,Try.ntmps7
 go_upto_region 3 with (first | (go_at_call 23;refine (combined_any _).mono ?_;rintro e w1 ⟨rfl,hb1⟩;have HB1:=hide hb1;clear hb1) | (go_at_call 21;refine (minimized_any _).mono ?_;rintro e w2 ⟨rfl,hb2⟩;have HB2:=hide (HB1.out.trans (hb2.mono HB1.out.size));clear hb2))
 obtain⟨X,hX⟩:∃ z,z=w.heap.size:=⟨_,rfl⟩;have bX:=hide ((Blk.at_ (w:=w) (g:=X) (t:=25) (cs:=#[.int .i64 sa,.slice A1 n1 c1,.slice AF1 nf1 cf1]) hX).below HB2.out (by simp[hX]));have HBW:=hide (show Below w.heap.size w w2 from ((Below.refl _ _).alloc (Nat.le_refl _) _).trans (HB2.out.mono (by simp)));replace HMA:=hide ((HMA.out.below HBW.out (Nat.le_refl _)).mono HBW.out.size);replace HMO:=hide ((HMO.out.below HBW.out (Nat.le_refl _)).mono HBW.out.size)
 try simp only[← hX]
 clear HB1 HB2 hX;obtain⟨p1,hp1⟩:∃ z,z=(accF a).1:=⟨_,rfl⟩;obtain⟨p2,hp2⟩:∃ z,z=(accF a).2:=⟨_,rfl⟩;obtain⟨q1,hq1⟩:∃ z,z=(alphF mo (-2)).1:=⟨_,rfl⟩;obtain⟨q2,hq2⟩:∃ z,z=(alphF mo (-2)).2:=⟨_,rfl⟩;have HP1:=hide hp1;have HP2:=hide hp2;have HQ1:=hide hq1;have HQ2:=hide hq2;clear hp1 hp2 hq1 hq2;have x0:=bX.out.cell 0;have x1:=bX.out.cell 1;have x2:=bX.out.cell 2;simp at x0 x1 x2;have lX:=bX.out.lt;obtain⟨qa,hqa⟩:∃ q,q=fEq p1 p2 0 0:=⟨_,rfl⟩;cases qa
 ·
  have e3:fEq p1 p2 0 0=false:=hqa.symm;clear hqa he2;go_wp2_with (go_at_call 14;refine (accf_any _ a w2 w2.heap.size (Nat.le_refl _) HMA.out).mono ?_;rintro e w3 ⟨rfl,hb3⟩;rw[← HP1.out,← HP2.out];have HB3:=hide hb3;have HMO3:=hide ((HMO.out.below hb3 (Nat.le_refl _)).mono hb3.size);clear hb3);exact bodyPost_ret (v:=.bool true) (by simp[results,Try.results7,go_sem]) rfl ⟨rfl,HBW.out.trans (HB3.out.mono HBW.out.size)⟩
 ·
  have e3:fEq p1 p2 0 0=true:=hqa.symm;clear hqa;have ZA:=hide (show accF a=(0,0) by have h:=e3;rw[HP1.out,HP2.out] at h;exact fEq0A.1 h);obtain⟨qb,hqb⟩:∃ q,q=fEq q1 q2 0 0:=⟨_,rfl⟩;cases qb
  ·
   have e4:fEq q1 q2 0 0=false:=hqb.symm;clear hqb he2;go_wp2_with (first | (go_at_call 14;refine (accf_any _ a w2 w2.heap.size (Nat.le_refl _) HMA.out).mono ?_;rintro e w3 ⟨rfl,hb3⟩;rw[← HP1.out,← HP2.out];have HB3:=hide hb3;have HMO3:=hide ((HMO.out.below hb3 (Nat.le_refl _)).mono hb3.size);clear hb3) | (go_at_call 29;refine (alph_any _ mo (-2) w3 w3.heap.size (Nat.le_refl _) HMO3.out).mono ?_;rintro e w4 ⟨rfl,hb4⟩;rw[← HQ1.out,← HQ2.out];have HB4:=hide (HB3.out.trans (hb4.mono HB3.out.size));clear hb4));exact bodyPost_ret (v:=.bool true) (by simp[results,Try.results7,go_sem]) rfl ⟨rfl,HBW.out.trans (HB4.out.mono HBW.out.size)⟩
  ·
   have e4:fEq q1 q2 0 0=true:=hqb.symm;clear hqb;have ZB:=hide (show alphF mo (-2)=(0,0) by have h:=e4;rw[HQ1.out,HQ2.out] at h;exact fEq0A.1 h);go_upto_region 5 with (first | (go_at_call 14;refine (accf_any _ a w2 w2.heap.size (Nat.le_refl _) HMA.out).mono ?_;rintro e w3 ⟨rfl,hb3⟩;rw[← HP1.out,← HP2.out];have HB3:=hide hb3;have HMO3:=hide ((HMO.out.below hb3 (Nat.le_refl _)).mono hb3.size);clear hb3) | (go_at_call 29;refine (alph_any _ mo (-2) w3 w3.heap.size (Nat.le_refl _) HMO3.out).mono ?_;rintro e w4 ⟨rfl,hb4⟩;rw[← HQ1.out,← HQ2.out];have HB4:=hide (HB3.out.trans (hb4.mono HB3.out.size));clear hb4))
   clear x0 x1 x2 lX e3 e4 HP1 HP2 HQ1 HQ2;replace bX:=hide (bX.out.below HB4.out bX.out.lt);replace HMA:=hide ((HMA.out.below HB4.out (Nat.le_refl _)).mono HB4.out.size);replace HMO:=hide ((HMO.out.below HB4.out (Nat.le_refl _)).mono HB4.out.size);replace HBW:=hide (HBW.out.trans (HB4.out.mono HBW.out.size));clear HB3 HB4 HMO3;have HLA:=hide (len_of_acc2 ZA.out);obtain⟨la,hla⟩:∃ z,z=labsR a.arcs:=⟨_,rfl⟩;have HLLA:=hide hla;have HLN:=hide (show la.length≤2000∧mo.length≤300 by have:=labsR_len2 a.arcs;have:=HLA.out;have:=(alphB_parts ZB.out (by decide)).1;rw[hla];omega);clear hla;have x0:=bX.out.cell 0;have x1:=bX.out.cell 1;have x2:=bX.out.cell 2;simp at x0 x1 x2;have lX:=bX.out.lt
   go_upto_region 6 with (first
    | (go_at_call 18;refine (labels_any _ a w4 _ (Nat.le_refl _) HMA.out (by have:=HLA.out;omega)).mono ?_;rintro e w5 ⟨A5,c5,rfl,ho5,hb5⟩;rw[← HLLA.out] at ho5 ⊢;have HN5:=hide (nums_own ho5 (by have:=HLN.out;unfold big;omega));have HB5:=hide hb5;have HMO5:=hide ((HMO.out.below hb5 (Nat.le_refl _)).mono hb5.size);clear ho5 hb5)
    | (go_at_call 17;refine (union2_any _ _ la mo w5 _ (Nat.le_refl _) HN5.out HMO5.out (by have:=HLN.out;omega)).mono ?_;rintro e w6 ⟨A6,c6,rfl,ho6,hb6⟩;have HUU:=hide (nums_own ho6 (by have:=HLN.out;have:=uniL_len la mo;unfold big;omega));have HB6:=hide (HB5.out.trans (hb6.mono HB5.out.size));clear ho6 hb6))
   clear x0 x1 x2 lX;replace bX:=hide (bX.out.below HB6.out bX.out.lt);replace HMA:=hide ((HMA.out.below HB6.out (Nat.le_refl _)).mono HB6.out.size);replace HBW:=hide (HBW.out.trans (HB6.out.mono HBW.out.size));clear HB5 HB6 HN5 HMO HMO5;obtain⟨uu,huu⟩:∃ z,z=uniL la mo:=⟨_,rfl⟩;rw[← huu] at HUU ⊢;have HUE:=hide huu;obtain⟨un,hun⟩:∃ z,z=uu.length:=⟨_,rfl⟩;rw[← hun] at HUU ⊢;clear huu hun;have x0:=bX.out.cell 0;have x1:=bX.out.cell 1;have x2:=bX.out.cell 2;simp at x0 x1 x2;have lX:=bX.out.lt;go_upto_region 7 with (go_at_call 28;refine (compl_any _ _ a uu w6 _ (Nat.le_refl _) HMA.out HUU.out).mono ?_;rintro e w7 ⟨r6,v6,rfl,hr6,hm6,hb6⟩;obtain⟨A6,n6,c6,AF6,nf6,cf6,rfl⟩:=agg_of hm6;have HR6:=hide hr6;clear hr6;have HN6:=hide hm6;have HB6:=hide hb6;clear hm6 hb6)
   clear x0 x1 x2 lX;generalize hW7:World.alloc _ _=W7;obtain⟨S,hS⟩:∃ z,z=w7.heap.size:=⟨_,rfl⟩;obtain⟨F,hF⟩:∃ z,z=w7.heap.size+1:=⟨_,rfl⟩;have bS:=hide (show Blk W7 S 25 #[.int .i64 r6.1.n,.slice A6 n6 c6,.slice AF6 nf6 cf6] by rw[← hW7];exact (Blk.at_ hS).alloc _);have bF:=hide (show Blk W7 F 28 #[.int .i64 r6.2.1,.int .i64 r6.2.2] by rw[← hW7];exact Blk.at_ (by simp[hF]));have q6:=hide (show Below w7.heap.size w7 W7 by rw[← hW7];go_grown);simp only[← hF]
   try simp only[← hS]
   have t6:=hide (HB6.out.trans (q6.out.mono HB6.out.size));replace bX:=hide (bX.out.below t6.out bX.out.lt);replace HMA:=hide ((HMA.out.below t6.out (Nat.le_refl _)).mono t6.out.size);replace HUU:=hide ((HUU.out.below t6.out (Nat.le_refl _)).mono t6.out.size);replace HBW:=hide (HBW.out.trans (t6.out.mono HBW.out.size));have MS:=hide ((HN6.out.at_.below q6.out (Nat.le_refl _)).mono q6.out.size);clear HN6 HB6 q6 t6 hW7 hS hF;obtain⟨f6,hf6⟩:∃ z,z=r6.2.1:=⟨_,rfl⟩;obtain⟨g6,hg6⟩:∃ z,z=r6.2.2:=⟨_,rfl⟩;have HE6:=hide (show r6.2=(f6,g6) by rw[hf6,hg6])
   try simp only[← hf6,← hg6]
   rw[← hf6,← hg6] at bF;clear hf6 hg6;obtain⟨t6,ht6⟩:∃ z,z=r6.1.n:=⟨_,rfl⟩;have HTN6:=hide ht6
   try simp only[← ht6]
   rw[← ht6] at bS MS;clear ht6;have yF0:=bF.out.cell 0;have yF1:=bF.out.cell 1;simp at yF0 yF1;have lF:=bF.out.lt;obtain⟨qf,hqf⟩:∃ q,q=fEq f6 g6 0 0:=⟨_,rfl⟩;cases qf
   ·
    have e5:fEq f6 g6 0 0=false:=hqf.symm;clear hqf HR6 he2;go_wp2;exact bodyPost_ret (v:=.bool true) (by simp[results,Try.results7,go_sem]) rfl ⟨rfl,HBW.out⟩
   ·
    have e5:fEq f6 g6 0 0=true:=hqf.symm;clear hqf;have Z6:=hide (show r6.2=(0,0) by rw[HE6.out];exact fEq0A.1 e5);go_upto_region 9 with fail
    clear yF0 yF1 lF e5 bF HE6;have y0:=bS.out.cell 0;have y1:=bS.out.cell 1;have y2:=bS.out.cell 2;simp at y0 y1 y2;have lS:=bS.out.lt;go_upto_region 10 with (go_at_call 28;refine (compl_any _ _ r6.1 uu W7 _ (Nat.le_refl _) MS.out HUU.out).mono ?_;rintro e w9 ⟨r9,v9,rfl,hr9,hm9,hb9⟩;obtain⟨A9,n9,c9,AF9,nf9,cf9,rfl⟩:=agg_of hm9;have HR9:=hide hr9;clear hr9;have HN9:=hide hm9;have HB9:=hide hb9;clear hm9 hb9)
    clear y0 y1 y2 lS;generalize hW9:World.alloc _ _=W9;obtain⟨T,hT⟩:∃ z,z=w9.heap.size:=⟨_,rfl⟩;obtain⟨G,hG⟩:∃ z,z=w9.heap.size+1:=⟨_,rfl⟩;have bT:=hide (show Blk W9 T 25 #[.int .i64 r9.1.n,.slice A9 n9 c9,.slice AF9 nf9 cf9] by rw[← hW9];exact (Blk.at_ hT).alloc _);have bG:=hide (show Blk W9 G 28 #[.int .i64 r9.2.1,.int .i64 r9.2.2] by rw[← hW9];exact Blk.at_ (by simp[hG]));have q9:=hide (show Below w9.heap.size w9 W9 by rw[← hW9];go_grown);simp only[← hG]
    try simp only[← hT]
    have t9:=hide (HB9.out.trans (q9.out.mono HB9.out.size));replace bX:=hide (bX.out.below t9.out bX.out.lt);replace bS:=hide (bS.out.below t9.out bS.out.lt);replace MS:=hide ((MS.out.below t9.out (Nat.le_refl _)).mono t9.out.size);replace HMA:=hide ((HMA.out.below t9.out (Nat.le_refl _)).mono t9.out.size);replace HUU:=hide ((HUU.out.below t9.out (Nat.le_refl _)).mono t9.out.size);replace HBW:=hide (HBW.out.trans (t9.out.mono HBW.out.size));have MT:=hide ((HN9.out.at_.below q9.out (Nat.le_refl _)).mono q9.out.size);clear HN9 HB9 q9 t9 hW9 hT hG;obtain⟨f9,hf9⟩:∃ z,z=r9.2.1:=⟨_,rfl⟩;obtain⟨g9,hg9⟩:∃ z,z=r9.2.2:=⟨_,rfl⟩;have HE9:=hide (show r9.2=(f9,g9) by rw[hf9,hg9])
    try simp only[← hf9,← hg9]
    rw[← hf9,← hg9] at bG;clear hf9 hg9;obtain⟨t9,ht9⟩:∃ z,z=r9.1.n:=⟨_,rfl⟩;have HTN9:=hide ht9
    try simp only[← ht9]
    rw[← ht9] at bT MT;clear ht9;have x0:=bX.out.cell 0;have x1:=bX.out.cell 1;have x2:=bX.out.cell 2;simp at x0 x1 x2;have lX:=bX.out.lt;go_upto_region 11 with (go_at_call 22;refine (minim_any _ a W9 _ (Nat.le_refl _) HMA.out).mono ?_;rintro e w10 ⟨v10,rfl,hm10,hb10⟩;obtain⟨A10,n10,c10,AF10,nf10,cf10,rfl⟩:=agg_of hm10;have HN10:=hide hm10;have HB10:=hide hb10;clear hm10 hb10)
    clear x0 x1 x2 lX;generalize hW10:World.alloc _ _=W10;obtain⟨U,hU⟩:∃ z,z=w10.heap.size:=⟨_,rfl⟩;obtain⟨H,hH⟩:∃ z,z=w10.heap.size+1:=⟨_,rfl⟩;have bU:=hide (show Blk W10 U 25 #[.int .i64 (minW a).1.n,.slice A10 n10 c10,.slice AF10 nf10 cf10] by rw[← hW10];exact (Blk.at_ hU).alloc _);have bH:=hide (show Blk W10 H 28 #[.int .i64 (minW a).2.1,.int .i64 (minW a).2.2] by rw[← hW10];exact Blk.at_ (by simp[hH]));have q10:=hide (show Below w10.heap.size w10 W10 by rw[← hW10];go_grown);simp only[← hH]
    try simp only[← hU]
    have t10:=hide (HB10.out.trans (q10.out.mono HB10.out.size));replace bX:=hide (bX.out.below t10.out bX.out.lt);replace bS:=hide (bS.out.below t10.out bS.out.lt);replace bT:=hide (bT.out.below t10.out bT.out.lt);replace bG:=hide (bG.out.below t10.out bG.out.lt);replace MS:=hide ((MS.out.below t10.out (Nat.le_refl _)).mono t10.out.size);replace MT:=hide ((MT.out.below t10.out (Nat.le_refl _)).mono t10.out.size);replace HMA:=hide ((HMA.out.below t10.out (Nat.le_refl _)).mono t10.out.size);replace HUU:=hide ((HUU.out.below t10.out (Nat.le_refl _)).mono t10.out.size);replace HBW:=hide (HBW.out.trans (t10.out.mono HBW.out.size));have MU:=hide ((HN10.out.at_.below q10.out (Nat.le_refl _)).mono q10.out.size);clear HN10 HB10 q10 t10 hW10 hU hH;obtain⟨f10,hf10⟩:∃ z,z=(minW a).2.1:=⟨_,rfl⟩;obtain⟨g10,hg10⟩:∃ z,z=(minW a).2.2:=⟨_,rfl⟩;have HE10:=hide (show (minW a).2=(f10,g10) by rw[hf10,hg10])
    try simp only[← hf10,← hg10]
    rw[← hf10,← hg10] at bH;clear hf10 hg10;obtain⟨t10,ht10⟩:∃ z,z=(minW a).1.n:=⟨_,rfl⟩;have HTN10:=hide ht10
    try simp only[← ht10]
    rw[← ht10] at bU MU;clear ht10;have x0:=bX.out.cell 0;have x1:=bX.out.cell 1;have x2:=bX.out.cell 2;simp at x0 x1 x2;have lX:=bX.out.lt;have y0:=bS.out.cell 0;have y1:=bS.out.cell 1;have y2:=bS.out.cell 2;simp at y0 y1 y2;have lS:=bS.out.lt;go_upto_region 12 with (go_at_call 24;refine (inter_any _ _ a r6.1 W10 _ (Nat.le_refl _) HMA.out MS.out).mono ?_;rintro e w11 ⟨r11,v11,rfl,hr11,hm11,hb11⟩;obtain⟨A11,n11,c11,AF11,nf11,cf11,rfl⟩:=agg_of hm11;have HR11:=hide hr11;clear hr11;have HN11:=hide hm11;have HB11:=hide hb11;clear hm11 hb11)
    clear x0 x1 x2 lX;clear y0 y1 y2 lS;generalize hW11:World.alloc _ _=W11;obtain⟨V,hV⟩:∃ z,z=w11.heap.size:=⟨_,rfl⟩;obtain⟨K,hK⟩:∃ z,z=w11.heap.size+1:=⟨_,rfl⟩;have bV:=hide (show Blk W11 V 25 #[.int .i64 r11.1.n,.slice A11 n11 c11,.slice AF11 nf11 cf11] by rw[← hW11];exact (Blk.at_ hV).alloc _);have bK:=hide (show Blk W11 K 28 #[.int .i64 r11.2.1,.int .i64 r11.2.2] by rw[← hW11];exact Blk.at_ (by simp[hK]));have q11:=hide (show Below w11.heap.size w11 W11 by rw[← hW11];go_grown);simp only[← hK]
    try simp only[← hV]
    have t11:=hide (HB11.out.trans (q11.out.mono HB11.out.size));replace bX:=hide (bX.out.below t11.out bX.out.lt);replace bS:=hide (bS.out.below t11.out bS.out.lt);replace bT:=hide (bT.out.below t11.out bT.out.lt);replace bG:=hide (bG.out.below t11.out bG.out.lt);replace bU:=hide (bU.out.below t11.out bU.out.lt);replace bH:=hide (bH.out.below t11.out bH.out.lt);replace MS:=hide ((MS.out.below t11.out (Nat.le_refl _)).mono t11.out.size);replace MT:=hide ((MT.out.below t11.out (Nat.le_refl _)).mono t11.out.size);replace MU:=hide ((MU.out.below t11.out (Nat.le_refl _)).mono t11.out.size);replace HMA:=hide ((HMA.out.below t11.out (Nat.le_refl _)).mono t11.out.size);replace HUU:=hide ((HUU.out.below t11.out (Nat.le_refl _)).mono t11.out.size);replace HBW:=hide (HBW.out.trans (t11.out.mono HBW.out.size));have MV:=hide ((HN11.out.at_.below q11.out (Nat.le_refl _)).mono q11.out.size);clear HN11 HB11 q11 t11 hW11 hV hK;obtain⟨f11,hf11⟩:∃ z,z=r11.2.1:=⟨_,rfl⟩;obtain⟨g11,hg11⟩:∃ z,z=r11.2.2:=⟨_,rfl⟩;have HE11:=hide (show r11.2=(f11,g11) by rw[hf11,hg11])
    try simp only[← hf11,← hg11]
    rw[← hf11,← hg11] at bK;clear hf11 hg11;obtain⟨t11,ht11⟩:∃ z,z=r11.1.n:=⟨_,rfl⟩;have HTN11:=hide ht11
    try simp only[← ht11]
    rw[← ht11] at bV MV;clear ht11;obtain⟨z9,z10,z11,hcm,hie⟩:=turns_twice (fun x hx=>by rw[HUE.out];exact uniL_mem.2 (.inl (by rw[HLLA.out];exact hx))) HR6.out Z6.out HR9.out HR11.out;have HDL:=hide (show decide (r9.1=(minW a).1)=true from decide_eq_true hcm);rw[HE9.out] at z9;rw[HE10.out] at z10;rw[HE11.out] at z11;obtain⟨rfl,rfl⟩:f9=0∧g9=0:=⟨congrArg Prod.fst z9,congrArg Prod.snd z9⟩;obtain⟨rfl,rfl⟩:f10=0∧g10=0:=⟨congrArg Prod.fst z10,congrArg Prod.snd z10⟩;obtain⟨rfl,rfl⟩:f11=0∧g11=0:=⟨congrArg Prod.fst z11,congrArg Prod.snd z11⟩;have ht0:t11=0:=by rw[HTN11.out,hie];rfl
    clear z9 z10 z11 hcm hie HR6 HR9 HR11 HE9 HE10 HE11 Z6 HTN6 HTN9 HTN10 HTN11 HUE he;subst ht0;have hf0:fEq 0 0 0 0=true:=rfl;have yG0:=bG.out.cell 0;have yG1:=bG.out.cell 1;have yH0:=bH.out.cell 0;have yH1:=bH.out.cell 1;have yK0:=bK.out.cell 0;have yK1:=bK.out.cell 1;simp at yG0 yG1 yH0 yH1 yK0 yK1;have lG:=bG.out.lt;have lH:=bH.out.lt;have lK:=bK.out.lt;have x0:=bT.out.cell 0;have x1:=bT.out.cell 1;have x2:=bT.out.cell 2;simp at x0 x1 x2;have lT:=bT.out.lt;have u0:=bU.out.cell 0;have u1:=bU.out.cell 1;have u2:=bU.out.cell 2;simp at u0 u1 u2;have lU:=bU.out.lt;go_wp2_with (go_at_call 16;refine (machines_any _ _ r9.1 (minW a).1 W11 _ (Nat.le_refl _) MT.out MU.out).mono ?_;rintro e w12 ⟨rfl,hb12⟩;rw[HDL.out];have HB12:=hide hb12;have bV2:=hide (bV.out.below hb12 bV.out.lt);have v20:=bV2.out.cell 0;simp at v20;have lV2:=bV2.out.lt;clear hb12);exact bodyPost_ret (v:=.bool true) (by simp[results,Try.results7,go_sem]) rfl ⟨rfl,HBW.out.trans (HB12.out.mono HBW.out.size)⟩
end Go.Proofs.Ytkfdhpbnphojoaa
