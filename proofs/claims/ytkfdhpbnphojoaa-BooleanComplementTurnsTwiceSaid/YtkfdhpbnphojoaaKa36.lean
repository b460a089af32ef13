/- The texts CbW of this proof. No conditions. -/
import Derived.Test.YtkfdhpbnphojoaaKa35
import Derived.Test.YtkfdhpbnphojoaaKa33
import Derived.Test.YtkfdhpbnphojoaaKa11
import Derived.Test.YtkfdhpbnphojoaaKa29
/- Text CbW. -/
namespace Go.Proofs.Ytkfdhpbnphojoaa
open Go.RowKit Gm
set_option linter.unusedSimpArgs false
set_option linter.unusedVariables false
theorem nums_one (w:World) (x:Int):Nums (w.alloc (.cells #[.int .i64 x] 3)) (w.alloc (.cells #[.int .i64 x] 3)).heap.size (.slice (some ⟨w.heap.size,0,none⟩) 1 1) [x] :=
 nums_own (base:=w.heap.size) (e:=3) ⟨rfl,.inr ⟨w.heap.size,1,_,rfl,Nat.le_refl _,Blk.at_ rfl,Nat.le_refl _,by simp[maxLen],rfl,rfl⟩⟩ (by unfold big;omega)
theorem one_at {w:World} {g h:Nat} {tA tF:TypeId} (h1:Blk w g tA #[.int .i64 0,.int .i64 0,.int .i64 97,.int .i64 97,.int .i64 0]) (h2:Blk w h tF #[.int .i64 0,.int .i64 0]):MachAt w w.heap.size (.agg #[.int .i64 1,.slice (some ⟨g,0,none⟩) 1 1,.slice (some ⟨h,0,none⟩) 1 1]) oneM :=
 (MachNew.of_blk (lo:=0) (m:=oneM) (eA:=tA) (eF:=tF) h1 h2 (Nat.zero_le _) (Nat.zero_le _) (by decide) (by decide)).at_
set_option maxRecDepth 100000 in
set_option maxHeartbeats 1000000 in
theorem twom_any (w:World):Calls Try.prog 49 #[] w fun e w'=>∃ v1,e=.returned v1∧MachNew w.heap.size w' v1 twoM∧Below w.heap.size w w':=by
 go_enter Try.func49,Try.ntmps49
 go_wp2
 exact bodyPost_ret (v:=.agg #[.int .i64 2,.slice (some ⟨w.heap.size+1,0,none⟩) 2 2,.slice (some ⟨w.heap.size+1+1,0,none⟩) 1 1]) (by simp[results,Try.results49,go_sem]) rfl
  ⟨_,rfl,MachNew.of_blk (m:=twoM) (eA:=64) (eF:=69) ((Blk.at_ (by simp)).alloc _) (Blk.at_ (by simp)) (by omega) (by omega) (by decide) (by decide),by go_grown⟩
theorem interx_any (va vb:Value) (w:World) (ha:MachAt w w.heap.size va twoM) (hb:MachAt w w.heap.size vb letM) :
 Calls Try.prog 24 #[va,vb] w fun e w'=>∃ v1,e=.returned (.tuple #[v1,.agg #[.int .i64 0,.int .i64 0]])∧MachNew w.heap.size w' v1 letM∧Below w.heap.size w w':=by
 refine (inter_any va vb twoM letM w w.heap.size (Nat.le_refl _) ha hb).mono ?_;rintro e w' ⟨r,v1,rfl,hr,hm,hb⟩;rw[ex_int hr] at hm ⊢;exact⟨v1,rfl,hm,hb⟩
theorem subtrx_any (va vb:Value) (w:World) (ha:MachAt w w.heap.size va letM) (hb:MachAt w w.heap.size vb emptyM) :
 Calls Try.prog 25 #[va,vb] w fun e w'=>∃ v1,e=.returned (.tuple #[v1,.agg #[.int .i64 0,.int .i64 0]])∧MachNew w.heap.size w' v1 letM∧Below w.heap.size w w':=by
 refine (subtr_any va vb letM emptyM w w.heap.size (Nat.le_refl _) ha hb).mono ?_;rintro e w' ⟨r,v1,rfl,hr,hm,hb⟩;rw[ex_sub hr] at hm ⊢;exact⟨v1,rfl,hm,hb⟩
theorem complx_any (va vl:Value) (w:World) (ha:MachAt w w.heap.size va emptyM) (hl:Nums w w.heap.size vl [97]) :
 Calls Try.prog 28 #[va,vl] w fun e w'=>∃ v1,e=.returned (.tuple #[v1,.agg #[.int .i64 0,.int .i64 0]])∧MachNew w.heap.size w' v1 oneM∧Below w.heap.size w w':=by
 refine (compl_any va vl emptyM [97] w w.heap.size (Nat.le_refl _) ha hl).mono ?_;rintro e w' ⟨r,v1,rfl,hr,hm,hb⟩;rw[ex_cmp hr] at hm ⊢;exact⟨v1,rfl,hm,hb⟩
set_option maxRecDepth 100000 in
set_option maxHeartbeats 16000000 in
theorem combined_any (w:World):Calls Try.prog 23 #[] w fun e w'=>e=.returned (.bool true)∧Below w.heap.size w w':=by
 have he:=fun a b c d W=>run_eql_fault a b c d W
 have hf0:fEq 0 0 0 0=true:=rfl
 go_enter Try.func23,Try.ntmps23
 go_upto_region 2 with (first
  | (go_at_call 49;refine (twom_any _).mono ?_;rintro e w1 ⟨v1,rfl,hm1,hb1⟩;obtain⟨A1,n1,c1,AF1,nf1,cf1,rfl⟩:=agg_of hm1;have HM1:=hide hm1;have HB1:=hide hb1;clear hm1 hb1)
  | (go_at_call 12;refine (letter_any _).mono ?_;rintro e w2 ⟨v2,rfl,hm2,hb2⟩;obtain⟨A2,n2,c2,AF2,nf2,cf2,rfl⟩:=agg_of hm2;have HM2:=hide hm2;have HB2:=hide hb2;clear hm2 hb2)
  | (go_at_call 24;refine (interx_any _ _ w2 ((HM1.out.at_.below HB2.out (Nat.le_refl _)).mono HB2.out.size) HM2.out.at_).mono ?_;rintro e w3 ⟨v3,rfl,hm3,hb3⟩;obtain⟨A3,n3,c3,AF3,nf3,cf3,rfl⟩:=agg_of hm3;have HM3:=hide hm3;have HB3:=hide hb3;clear hm3 hb3))
 generalize hW3:World.alloc _ _=W3;obtain⟨S1,hS1⟩:∃ z,z=w3.heap.size:=⟨_,rfl⟩;obtain⟨F1,hF1⟩:∃ z,z=w3.heap.size+1:=⟨_,rfl⟩;have bS1:=hide (show Blk W3 S1 25 #[.int .i64 letM.n,.slice A3 n3 c3,.slice AF3 nf3 cf3] by rw[← hW3];exact (Blk.at_ hS1).alloc _);have bF1:=hide (show Blk W3 F1 28 #[.int .i64 0,.int .i64 0] by rw[← hW3];exact Blk.at_ (by simp[hF1]));have q3:=hide (show Below w3.heap.size w3 W3 by rw[← hW3];go_grown);simp only[← hF1]
 try simp only[← hS1]
 clear hW3 hS1 hF1;have HW:=hide (((HB1.out.trans (HB2.out.mono HB1.out.size)).trans (HB3.out.mono (by have:=HB1.out.size;have:=HB2.out.size;omega))).trans (q3.out.mono (by have:=HB1.out.size;have:=HB2.out.size;have:=HB3.out.size;omega)));have HD1:=hide ((HM3.out.at_.below q3.out (Nat.le_refl _)).mono q3.out.size);clear HM1 HM2 HM3 HB1 HB2 HB3 q3
 go_upto_region 3 with (first
  | (go_at_call 12;refine (letter_any _).mono ?_;rintro e w4 ⟨v4,rfl,hm4,hb4⟩;obtain⟨A4,n4,c4,AF4,nf4,cf4,rfl⟩:=agg_of hm4;have HM4:=hide hm4;have HB4:=hide hb4;clear hm4 hb4)
  | (go_at_call 25;refine (subtrx_any _ _ w4 HM4.out.at_ (MachAt.empty _ _)).mono ?_;rintro e w5 ⟨v5,rfl,hm5,hb5⟩;obtain⟨A5,n5,c5,AF5,nf5,cf5,rfl⟩:=agg_of hm5;have HM5:=hide hm5;have HB5:=hide hb5;clear hm5 hb5))
 generalize hW5:World.alloc _ _=W5;obtain⟨S2,hS2⟩:∃ z,z=w5.heap.size:=⟨_,rfl⟩;obtain⟨F2,hF2⟩:∃ z,z=w5.heap.size+1:=⟨_,rfl⟩;have bS2:=hide (show Blk W5 S2 25 #[.int .i64 letM.n,.slice A5 n5 c5,.slice AF5 nf5 cf5] by rw[← hW5];exact (Blk.at_ hS2).alloc _);have bF2:=hide (show Blk W5 F2 28 #[.int .i64 0,.int .i64 0] by rw[← hW5];exact Blk.at_ (by simp[hF2]));have q5:=hide (show Below w5.heap.size w5 W5 by rw[← hW5];go_grown);simp only[← hF2]
 try simp only[← hS2]
 clear hW5 hS2 hF2;have q:=hide ((HB4.out.trans (HB5.out.mono HB4.out.size)).trans (q5.out.mono (by have:=HB4.out.size;have:=HB5.out.size;omega)));replace bS1:=hide (bS1.out.below q.out bS1.out.lt);replace bF1:=hide (bF1.out.below q.out bF1.out.lt);replace HD1:=hide ((HD1.out.below q.out (Nat.le_refl _)).mono q.out.size);replace HW:=hide (HW.out.trans (q.out.mono HW.out.size));have HD2:=hide ((HM5.out.at_.below q5.out (Nat.le_refl _)).mono q5.out.size);clear HM4 HM5 HB4 HB5 q5 q;have HNO:=hide (nums_one W5 97);have HBA:=hide (show Below W5.heap.size W5 (W5.alloc (.cells #[.int .i64 97] 3)) from (Below.refl _ _).alloc (Nat.le_refl _) _);go_upto_region 4 with (go_at_call 28;refine (complx_any _ _ _ (MachAt.empty _ _) HNO.out).mono ?_;rintro e w7 ⟨v7,rfl,hm7,hb7⟩;obtain⟨A7,n7,c7,AF7,nf7,cf7,rfl⟩:=agg_of hm7;have HM7:=hide hm7;have HB7:=hide (HBA.out.trans (hb7.mono HBA.out.size));clear hm7 hb7)
 generalize hW7:World.alloc _ _=W7;obtain⟨S3,hS3⟩:∃ z,z=w7.heap.size:=⟨_,rfl⟩;obtain⟨F3,hF3⟩:∃ z,z=w7.heap.size+1:=⟨_,rfl⟩;have bS3:=hide (show Blk W7 S3 25 #[.int .i64 oneM.n,.slice A7 n7 c7,.slice AF7 nf7 cf7] by rw[← hW7];exact (Blk.at_ hS3).alloc _);have bF3:=hide (show Blk W7 F3 28 #[.int .i64 0,.int .i64 0] by rw[← hW7];exact Blk.at_ (by simp[hF3]));have q7:=hide (show Below w7.heap.size w7 W7 by rw[← hW7];go_grown);simp only[← hF3]
 try simp only[← hS3]
 clear hW7 hS3 hF3;have q:=hide (HB7.out.trans (q7.out.mono HB7.out.size));replace bS1:=hide (bS1.out.below q.out bS1.out.lt);replace bF1:=hide (bF1.out.below q.out bF1.out.lt);replace bS2:=hide (bS2.out.below q.out bS2.out.lt);replace bF2:=hide (bF2.out.below q.out bF2.out.lt);replace HD1:=hide ((HD1.out.below q.out (Nat.le_refl _)).mono q.out.size);replace HD2:=hide ((HD2.out.below q.out (Nat.le_refl _)).mono q.out.size);replace HW:=hide (HW.out.trans (q.out.mono HW.out.size));have HD3:=hide ((HM7.out.at_.below q7.out (Nat.le_refl _)).mono q7.out.size);clear HM7 HB7 q7 q HBA HNO
 obtain⟨F,hF⟩:∃ F:(Nat→Bool)→(Nat→Value)→World→Prop,F=fun l v wr =>
  Hid ((l 0=true→v 0=(.agg #[.int .i64 0,.int .i64 0]))) ∧
  Hid ((l 1=true→v 1=(.agg #[.int .i64 0,.int .i64 0]))) ∧
  Hid ((l 2=true→v 2=(.bool true))) ∧
  Hid ((l 3=true→v 3=(.bool true))) ∧
  Hid ((l 4=true→v 4=(.agg #[.int .i64 0,.int .i64 0]))) ∧
  Hid ((l 5=true→v 5=(.agg #[.int .i64 0,.int .i64 0]))) ∧
  Hid ((l 6=true→v 6=(.bool true))) ∧
  Hid ((l 7=true→v 7=(.bool true))) ∧
  Hid ((l 8=true→v 8=(.bool true))) ∧
  Hid ((l 9=true→v 9=(.agg #[.int .i64 0,.int .i64 0]))) ∧
  Hid ((l 10=true→v 10=(.agg #[.int .i64 0,.int .i64 0]))) ∧
  Hid ((l 11=true→v 11=(.bool true))) ∧
  Hid ((l 12=true→v 12=(.bool true))) ∧
  Hid ((l 13=true→v 13=(.bool true))) ∧
  Hid ((l 14=true→v 14=(.agg #[.int .i64 letM.n,.slice A3 n3 c3,.slice AF3 nf3 cf3]))) ∧
  Hid ((l 15=true→∃ A n c AF nf cf,v 15=.agg #[.int .i64 letM.n,.slice A n c,.slice AF nf cf]∧MachAt wr wr.heap.size (.agg #[.int .i64 letM.n,.slice A n c,.slice AF nf cf]) letM)) ∧
  Hid ((l 16=true→v 16=(.bool true))) ∧
  Hid ((l 17=true→v 17=(.bool true))) ∧
  Hid ((l 18=true→v 18=(.bool true))) ∧
  Hid ((l 19=true→v 19=(.agg #[.int .i64 letM.n,.slice A5 n5 c5,.slice AF5 nf5 cf5]))) ∧
  Hid ((l 20=true→∃ A n c AF nf cf,v 20=.agg #[.int .i64 letM.n,.slice A n c,.slice AF nf cf]∧MachAt wr wr.heap.size (.agg #[.int .i64 letM.n,.slice A n c,.slice AF nf cf]) letM)) ∧
  Hid ((l 21=true→v 21=(.bool true))) ∧
  Hid ((l 22=true→v 22=(.bool true))) ∧
  Hid ((l 23=true→v 23=(.bool true))) ∧
  Hid ((l 24=true→v 24=(.agg #[.int .i64 oneM.n,.slice A7 n7 c7,.slice AF7 nf7 cf7]))) ∧
  Hid ((l 25=true→v 25=(.agg #[.int .i64 0,.int .i64 0,.int .i64 97,.int .i64 97,.int .i64 0]))) ∧
  Hid ((l 26=true→∃ g,v 26=.slice (some ⟨g,0,none⟩) 1 1∧Blk wr g 64 #[.int .i64 0,.int .i64 0,.int .i64 97,.int .i64 97,.int .i64 0])) ∧
  Hid ((l 27=true→v 27=(.agg #[.int .i64 0,.int .i64 0]))) ∧
  Hid ((l 28=true→∃ g,v 28=.slice (some ⟨g,0,none⟩) 1 1∧Blk wr g 69 #[.int .i64 0,.int .i64 0])) ∧
  Hid ((l 29=true→∃ g h,v 26=.slice (some ⟨g,0,none⟩) 1 1∧v 28=.slice (some ⟨h,0,none⟩) 1 1∧v 29=.agg #[.int .i64 1,.slice (some ⟨g,0,none⟩) 1 1,.slice (some ⟨h,0,none⟩) 1 1])) ∧
  Hid ((l 30=true→v 30=(.bool true))) ∧
  Hid ((l 31=true→v 31=(.bool true))) ∧
  Hid ((l 32=true→v 32=(.bool true))) ∧
  Hid (Below W7.heap.size W7 wr):=⟨_,rfl⟩
 have HFD:=hide hF;clear hF;refine wp_region_inv F (A:=?AR1) ?hA (by kernel_rfl) (by kernel_rfl) (by kernel_rfl) ?h0 ?hend ?hsteps
 case hA=>intro v;simp only[putR,Act.put,List.setIfInBounds_toArray,List.set_cons_zero,List.set_cons_succ,Nat.reduceAdd,Nat.zero_add];exact rfl
 case h0 =>
  intro v;rw[HFD.out];exact⟨hide (fun h=>by exfalso;simp at h),hide (fun h=>by exfalso;simp at h),hide (fun h=>by exfalso;simp at h),hide (fun h=>by exfalso;simp at h),hide (fun h=>by exfalso;simp at h),hide (fun h=>by exfalso;simp at h),hide (fun h=>by exfalso;simp at h),hide (fun h=>by exfalso;simp at h),hide (fun h=>by exfalso;simp at h),hide (fun h=>by exfalso;simp at h),hide (fun h=>by exfalso;simp at h),hide (fun h=>by exfalso;simp at h),hide (fun h=>by exfalso;simp at h),hide (fun h=>by exfalso;simp at h),hide (fun h=>by exfalso;simp at h),hide (fun h=>by exfalso;simp at h),hide (fun h=>by exfalso;simp at h),hide (fun h=>by exfalso;simp at h),hide (fun h=>by exfalso;simp at h),hide (fun h=>by exfalso;simp at h),hide (fun h=>by exfalso;simp at h),hide (fun h=>by exfalso;simp at h),hide (fun h=>by exfalso;simp at h),hide (fun h=>by exfalso;simp at h),hide (fun h=>by exfalso;simp at h),hide (fun h=>by exfalso;simp at h),hide (fun h=>by exfalso;simp at h),hide (fun h=>by exfalso;simp at h),hide (fun h=>by exfalso;simp at h),hide (fun h=>by exfalso;simp at h),hide (fun h=>by exfalso;simp at h),hide (fun h=>by exfalso;simp at h),hide (fun h=>by exfalso;simp at h),hide ((Below.refl _ _).drew)⟩
 case hend =>
  intro l v wr hall hF;rw[HFD.out] at hF;obtain⟨H0,H1,H2,H3,H4,H5,H6,H7,H8,H9,H10,H11,H12,H13,H14,H15,H16,H17,H18,H19,H20,H21,H22,H23,H24,H25,H26,H27,H28,H29,H30,H31,H32,H33⟩:=hF;have f0:=H0.out;have f1:=H1.out;have f2:=H2.out;have f3:=H3.out;have f4:=H4.out;have f5:=H5.out;have f6:=H6.out;have f7:=H7.out;have f8:=H8.out;have f9:=H9.out;have f10:=H10.out;have f11:=H11.out;have f12:=H12.out;have f13:=H13.out;have f14:=H14.out;have f15:=H15.out;have f16:=H16.out;have f17:=H17.out;have f18:=H18.out;have f19:=H19.out;have f20:=H20.out;have f21:=H21.out;have f22:=H22.out;have f23:=H23.out;have f24:=H24.out;have f25:=H25.out;have f26:=H26.out;have f27:=H27.out;have f28:=H28.out;have f29:=H29.out;have f30:=H30.out;have f31:=H31.out;have f32:=H32.out;have f33:=H33.out;clear H0 H1 H2 H3 H4 H5 H6 H7 H8 H9 H10 H11 H12 H13 H14 H15 H16 H17 H18 H19 H20 H21 H22 H23 H24 H25 H26 H27 H28 H29 H30 H31 H32 H33;have e32:=f32 (hall 32 (by simp));have HB9:=hide f33;clear f0 f1 f2 f3 f4 f5 f6 f7 f8 f9 f10 f11 f12 f13 f14 f15 f16 f17 f18 f19 f20 f21 f22 f23 f24 f25 f26 f27 f28 f29 f30 f31 f32 f33 hall he hf0;go_wp21;exact bodyPost_ret (v:=.bool true) (by simp[results,Try.results23,go_sem,e32]) rfl ⟨rfl,HW.out.trans (HB9.out.mono HW.out.size)⟩
 case hsteps =>
  refine StepsR.cons (n:=0) ?_ (StepsR.cons (n:=1) ?_ (StepsR.cons (n:=2) ?_ (StepsR.cons (n:=3) ?_ (StepsR.cons (n:=4) ?_ (StepsR.cons (n:=5) ?_ (StepsR.cons (n:=6) ?_ (StepsR.cons (n:=7) ?_ (StepsR.cons (n:=8) ?_ (StepsR.cons (n:=9) ?_ (StepsR.cons (n:=10) ?_ (StepsR.cons (n:=11) ?_ (StepsR.cons (n:=12) ?_ (StepsR.cons (n:=13) ?_ (StepsR.cons (n:=14) ?_ (StepsR.cons (n:=15) ?_ (StepsR.cons (n:=16) ?_ (StepsR.cons (n:=17) ?_ (StepsR.cons (n:=18) ?_ (StepsR.cons (n:=19) ?_ (StepsR.cons (n:=20) ?_ (StepsR.cons (n:=21) ?_ (StepsR.cons (n:=22) ?_ (StepsR.cons (n:=23) ?_ (StepsR.cons (n:=24) ?_ (StepsR.cons (n:=25) ?_ (StepsR.cons (n:=26) ?_ (StepsR.cons (n:=27) ?_ (StepsR.cons (n:=28) ?_ (StepsR.cons (n:=29) ?_ (StepsR.cons (n:=30) ?_ (StepsR.cons (n:=31) ?_ (StepsR.cons (n:=32) ?_ (trivial)))))))))))))))))))))))))))))))))
  ·
   intro l v wr hn hdep hcl hF K hK;rw[HFD.out] at hF;obtain⟨H0,H1,H2,H3,H4,H5,H6,H7,H8,H9,H10,H11,H12,H13,H14,H15,H16,H17,H18,H19,H20,H21,H22,H23,H24,H25,H26,H27,H28,H29,H30,H31,H32,H33⟩:=hF;simp[Region.binds] at hdep;have HCL:=hide hcl;have HN:=hide hn;clear hcl hn;have bX:=hide (bF1.out.below H33.out bF1.out.lt);have x0:=bX.out.cell 0;have x1:=bX.out.cell 1;simp at x0 x1;go_simp
   have hk:=hK.out (.agg #[.int .i64 0,.int .i64 0]) wr (by
    rw[HFD.out]
    exact⟨hide ((fun _=>rfl)),H1,H2,H3,H4,H5,H6,H7,H8,H9,H10,H11,H12,H13,H14,H15,H16,H17,H18,H19,H20,H21,H22,H23,H24,H25,H26,H27,H28,H29,H30,H31,H32,H33⟩)
   simp only[Act.put,List.setIfInBounds_toArray,List.set_cons_zero,List.set_cons_succ] at hk;exact hk
  ·
   intro l v wr hn hdep hcl hF K hK;rw[HFD.out] at hF;obtain⟨H0,H1,H2,H3,H4,H5,H6,H7,H8,H9,H10,H11,H12,H13,H14,H15,H16,H17,H18,H19,H20,H21,H22,H23,H24,H25,H26,H27,H28,H29,H30,H31,H32,H33⟩:=hF;simp[Region.binds] at hdep;have HCL:=hide hcl;have HN:=hide hn;clear hcl hn;go_simp
   have hk:=hK.out (.agg #[.int .i64 0,.int .i64 0]) wr (by
    rw[HFD.out]
    exact⟨H0,hide ((fun _=>rfl)),H2,H3,H4,H5,H6,H7,H8,H9,H10,H11,H12,H13,H14,H15,H16,H17,H18,H19,H20,H21,H22,H23,H24,H25,H26,H27,H28,H29,H30,H31,H32,H33⟩)
   simp only[Act.put,List.setIfInBounds_toArray,List.set_cons_zero,List.set_cons_succ] at hk;exact hk
  ·
   intro l v wr hn hdep hcl hF K hK;rw[HFD.out] at hF;obtain⟨H0,H1,H2,H3,H4,H5,H6,H7,H8,H9,H10,H11,H12,H13,H14,H15,H16,H17,H18,H19,H20,H21,H22,H23,H24,H25,H26,H27,H28,H29,H30,H31,H32,H33⟩:=hF;simp[Region.binds] at hdep;have HCL:=hide hcl;have HN:=hide hn;clear hcl hn;have e0:=H0.out (by simp[hdep]);have e1:=H1.out (by simp[hdep]);go_simp
   have hk:=hK.out (.bool true) wr (by
    rw[HFD.out]
    exact⟨H0,H1,hide ((fun _=>rfl)),H3,H4,H5,H6,H7,H8,H9,H10,H11,H12,H13,H14,H15,H16,H17,H18,H19,H20,H21,H22,H23,H24,H25,H26,H27,H28,H29,H30,H31,H32,H33⟩)
   simp only[Act.put,List.setIfInBounds_toArray,List.set_cons_zero,List.set_cons_succ] at hk;simp only[e0,e1] at hk;exact hk
  ·
   intro l v wr hn hdep hcl hF K hK;rw[HFD.out] at hF;obtain⟨H0,H1,H2,H3,H4,H5,H6,H7,H8,H9,H10,H11,H12,H13,H14,H15,H16,H17,H18,H19,H20,H21,H22,H23,H24,H25,H26,H27,H28,H29,H30,H31,H32,H33⟩:=hF;simp[Region.binds] at hdep;have HCL:=hide hcl;have HN:=hide hn;clear hcl hn;have e2:=H2.out (by simp[hdep]);go_simp
   have hk:=hK.out (.bool true) wr (by
    rw[HFD.out]
    exact⟨H0,H1,H2,hide ((fun _=>rfl)),H4,H5,H6,H7,H8,H9,H10,H11,H12,H13,H14,H15,H16,H17,H18,H19,H20,H21,H22,H23,H24,H25,H26,H27,H28,H29,H30,H31,H32,H33⟩)
   simp only[Act.put,List.setIfInBounds_toArray,List.set_cons_zero,List.set_cons_succ] at hk;simp only[e2] at hk;exact hk
  ·
   intro l v wr hn hdep hcl hF K hK;rw[HFD.out] at hF;obtain⟨H0,H1,H2,H3,H4,H5,H6,H7,H8,H9,H10,H11,H12,H13,H14,H15,H16,H17,H18,H19,H20,H21,H22,H23,H24,H25,H26,H27,H28,H29,H30,H31,H32,H33⟩:=hF;simp[Region.binds] at hdep;have HCL:=hide hcl;have HN:=hide hn;clear hcl hn;have e3:=H3.out (by simp[hdep]);have bX:=hide (bF2.out.below H33.out bF2.out.lt);have x0:=bX.out.cell 0;have x1:=bX.out.cell 1;simp at x0 x1;go_simp
   have hk:=hK.out (.agg #[.int .i64 0,.int .i64 0]) wr (by
    rw[HFD.out]
    exact⟨H0,H1,H2,H3,hide ((fun _=>rfl)),H5,H6,H7,H8,H9,H10,H11,H12,H13,H14,H15,H16,H17,H18,H19,H20,H21,H22,H23,H24,H25,H26,H27,H28,H29,H30,H31,H32,H33⟩)
   simp only[Act.put,List.setIfInBounds_toArray,List.set_cons_zero,List.set_cons_succ] at hk;simp only[e3] at hk;exact hk
  ·
   intro l v wr hn hdep hcl hF K hK;rw[HFD.out] at hF;obtain⟨H0,H1,H2,H3,H4,H5,H6,H7,H8,H9,H10,H11,H12,H13,H14,H15,H16,H17,H18,H19,H20,H21,H22,H23,H24,H25,H26,H27,H28,H29,H30,H31,H32,H33⟩:=hF;simp[Region.binds] at hdep;have HCL:=hide hcl;have HN:=hide hn;clear hcl hn;have e3:=H3.out (by simp[hdep]);go_simp
   have hk:=hK.out (.agg #[.int .i64 0,.int .i64 0]) wr (by
    rw[HFD.out]
    exact⟨H0,H1,H2,H3,H4,hide ((fun _=>rfl)),H6,H7,H8,H9,H10,H11,H12,H13,H14,H15,H16,H17,H18,H19,H20,H21,H22,H23,H24,H25,H26,H27,H28,H29,H30,H31,H32,H33⟩)
   simp only[Act.put,List.setIfInBounds_toArray,List.set_cons_zero,List.set_cons_succ] at hk;simp only[e3] at hk;exact hk
  ·
   intro l v wr hn hdep hcl hF K hK;rw[HFD.out] at hF;obtain⟨H0,H1,H2,H3,H4,H5,H6,H7,H8,H9,H10,H11,H12,H13,H14,H15,H16,H17,H18,H19,H20,H21,H22,H23,H24,H25,H26,H27,H28,H29,H30,H31,H32,H33⟩:=hF;simp[Region.binds] at hdep;have HCL:=hide hcl;have HN:=hide hn;clear hcl hn;have e3:=H3.out (by simp[hdep]);have e4:=H4.out (by simp[hdep]);have e5:=H5.out (by simp[hdep]);go_simp
   have hk:=hK.out (.bool true) wr (by
    rw[HFD.out]
    exact⟨H0,H1,H2,H3,H4,H5,hide ((fun _=>rfl)),H7,H8,H9,H10,H11,H12,H13,H14,H15,H16,H17,H18,H19,H20,H21,H22,H23,H24,H25,H26,H27,H28,H29,H30,H31,H32,H33⟩)
   simp only[Act.put,List.setIfInBounds_toArray,List.set_cons_zero,List.set_cons_succ] at hk;simp only[e3,e4,e5] at hk;exact hk
  ·
   intro l v wr hn hdep hcl hF K hK;rw[HFD.out] at hF;obtain⟨H0,H1,H2,H3,H4,H5,H6,H7,H8,H9,H10,H11,H12,H13,H14,H15,H16,H17,H18,H19,H20,H21,H22,H23,H24,H25,H26,H27,H28,H29,H30,H31,H32,H33⟩:=hF;simp[Region.binds] at hdep;have HCL:=hide hcl;have HN:=hide hn;clear hcl hn;have e3:=H3.out (by simp[hdep]);have e6:=H6.out (by simp[hdep]);go_simp
   have hk:=hK.out (.bool true) wr (by
    rw[HFD.out]
    exact⟨H0,H1,H2,H3,H4,H5,H6,hide ((fun _=>rfl)),H8,H9,H10,H11,H12,H13,H14,H15,H16,H17,H18,H19,H20,H21,H22,H23,H24,H25,H26,H27,H28,H29,H30,H31,H32,H33⟩)
   simp only[Act.put,List.setIfInBounds_toArray,List.set_cons_zero,List.set_cons_succ] at hk;simp only[e3,e6] at hk;exact hk
  ·
   intro l v wr hn hdep hcl hF K hK;rw[HFD.out] at hF;obtain⟨H0,H1,H2,H3,H4,H5,H6,H7,H8,H9,H10,H11,H12,H13,H14,H15,H16,H17,H18,H19,H20,H21,H22,H23,H24,H25,H26,H27,H28,H29,H30,H31,H32,H33⟩:=hF;simp[Region.binds] at hdep;have HCL:=hide hcl;have HN:=hide hn;clear hcl hn;have e7:=H7.out (by simp[hdep]);go_simp
   have hk:=hK.out (.bool true) wr (by
    rw[HFD.out]
    exact⟨H0,H1,H2,H3,H4,H5,H6,H7,hide ((fun _=>rfl)),H9,H10,H11,H12,H13,H14,H15,H16,H17,H18,H19,H20,H21,H22,H23,H24,H25,H26,H27,H28,H29,H30,H31,H32,H33⟩)
   simp only[Act.put,List.setIfInBounds_toArray,List.set_cons_zero,List.set_cons_succ] at hk;simp only[e7] at hk;exact hk
  ·
   intro l v wr hn hdep hcl hF K hK;rw[HFD.out] at hF;obtain⟨H0,H1,H2,H3,H4,H5,H6,H7,H8,H9,H10,H11,H12,H13,H14,H15,H16,H17,H18,H19,H20,H21,H22,H23,H24,H25,H26,H27,H28,H29,H30,H31,H32,H33⟩:=hF;simp[Region.binds] at hdep;have HCL:=hide hcl;have HN:=hide hn;clear hcl hn;have e8:=H8.out (by simp[hdep]);have bX:=hide (bF3.out.below H33.out bF3.out.lt);have x0:=bX.out.cell 0;have x1:=bX.out.cell 1;simp at x0 x1;go_simp
   have hk:=hK.out (.agg #[.int .i64 0,.int .i64 0]) wr (by
    rw[HFD.out]
    exact⟨H0,H1,H2,H3,H4,H5,H6,H7,H8,hide ((fun _=>rfl)),H10,H11,H12,H13,H14,H15,H16,H17,H18,H19,H20,H21,H22,H23,H24,H25,H26,H27,H28,H29,H30,H31,H32,H33⟩)
   simp only[Act.put,List.setIfInBounds_toArray,List.set_cons_zero,List.set_cons_succ] at hk;simp only[e8] at hk;exact hk
  ·
   intro l v wr hn hdep hcl hF K hK;rw[HFD.out] at hF;obtain⟨H0,H1,H2,H3,H4,H5,H6,H7,H8,H9,H10,H11,H12,H13,H14,H15,H16,H17,H18,H19,H20,H21,H22,H23,H24,H25,H26,H27,H28,H29,H30,H31,H32,H33⟩:=hF;simp[Region.binds] at hdep;have HCL:=hide hcl;have HN:=hide hn;clear hcl hn;have e8:=H8.out (by simp[hdep]);go_simp
   have hk:=hK.out (.agg #[.int .i64 0,.int .i64 0]) wr (by
    rw[HFD.out]
    exact⟨H0,H1,H2,H3,H4,H5,H6,H7,H8,H9,hide ((fun _=>rfl)),H11,H12,H13,H14,H15,H16,H17,H18,H19,H20,H21,H22,H23,H24,H25,H26,H27,H28,H29,H30,H31,H32,H33⟩)
   simp only[Act.put,List.setIfInBounds_toArray,List.set_cons_zero,List.set_cons_succ] at hk;simp only[e8] at hk;exact hk
  ·
   intro l v wr hn hdep hcl hF K hK;rw[HFD.out] at hF;obtain⟨H0,H1,H2,H3,H4,H5,H6,H7,H8,H9,H10,H11,H12,H13,H14,H15,H16,H17,H18,H19,H20,H21,H22,H23,H24,H25,H26,H27,H28,H29,H30,H31,H32,H33⟩:=hF;simp[Region.binds] at hdep;have HCL:=hide hcl;have HN:=hide hn;clear hcl hn;have e8:=H8.out (by simp[hdep]);have e9:=H9.out (by simp[hdep]);have e10:=H10.out (by simp[hdep]);go_simp
   have hk:=hK.out (.bool true) wr (by
    rw[HFD.out]
    exact⟨H0,H1,H2,H3,H4,H5,H6,H7,H8,H9,H10,hide ((fun _=>rfl)),H12,H13,H14,H15,H16,H17,H18,H19,H20,H21,H22,H23,H24,H25,H26,H27,H28,H29,H30,H31,H32,H33⟩)
   simp only[Act.put,List.setIfInBounds_toArray,List.set_cons_zero,List.set_cons_succ] at hk;simp only[e8,e9,e10] at hk;exact hk
  ·
   intro l v wr hn hdep hcl hF K hK;rw[HFD.out] at hF;obtain⟨H0,H1,H2,H3,H4,H5,H6,H7,H8,H9,H10,H11,H12,H13,H14,H15,H16,H17,H18,H19,H20,H21,H22,H23,H24,H25,H26,H27,H28,H29,H30,H31,H32,H33⟩:=hF;simp[Region.binds] at hdep;have HCL:=hide hcl;have HN:=hide hn;clear hcl hn;have e8:=H8.out (by simp[hdep]);have e11:=H11.out (by simp[hdep]);go_simp
   have hk:=hK.out (.bool true) wr (by
    rw[HFD.out]
    exact⟨H0,H1,H2,H3,H4,H5,H6,H7,H8,H9,H10,H11,hide ((fun _=>rfl)),H13,H14,H15,H16,H17,H18,H19,H20,H21,H22,H23,H24,H25,H26,H27,H28,H29,H30,H31,H32,H33⟩)
   simp only[Act.put,List.setIfInBounds_toArray,List.set_cons_zero,List.set_cons_succ] at hk;simp only[e8,e11] at hk;exact hk
  ·
   intro l v wr hn hdep hcl hF K hK;rw[HFD.out] at hF;obtain⟨H0,H1,H2,H3,H4,H5,H6,H7,H8,H9,H10,H11,H12,H13,H14,H15,H16,H17,H18,H19,H20,H21,H22,H23,H24,H25,H26,H27,H28,H29,H30,H31,H32,H33⟩:=hF;simp[Region.binds] at hdep;have HCL:=hide hcl;have HN:=hide hn;clear hcl hn;have e12:=H12.out (by simp[hdep]);go_simp
   have hk:=hK.out (.bool true) wr (by
    rw[HFD.out]
    exact⟨H0,H1,H2,H3,H4,H5,H6,H7,H8,H9,H10,H11,H12,hide ((fun _=>rfl)),H14,H15,H16,H17,H18,H19,H20,H21,H22,H23,H24,H25,H26,H27,H28,H29,H30,H31,H32,H33⟩)
   simp only[Act.put,List.setIfInBounds_toArray,List.set_cons_zero,List.set_cons_succ] at hk;simp only[e12] at hk;exact hk
  ·
   intro l v wr hn hdep hcl hF K hK;rw[HFD.out] at hF;obtain⟨H0,H1,H2,H3,H4,H5,H6,H7,H8,H9,H10,H11,H12,H13,H14,H15,H16,H17,H18,H19,H20,H21,H22,H23,H24,H25,H26,H27,H28,H29,H30,H31,H32,H33⟩:=hF;simp[Region.binds] at hdep;have HCL:=hide hcl;have HN:=hide hn;clear hcl hn;have e13:=H13.out (by simp[hdep]);have bX:=hide (bS1.out.below H33.out bS1.out.lt);have x0:=bX.out.cell 0;have x1:=bX.out.cell 1;have x2:=bX.out.cell 2;simp at x0 x1 x2;go_simp
   have hk:=hK.out (.agg #[.int .i64 letM.n,.slice A3 n3 c3,.slice AF3 nf3 cf3]) wr (by
    rw[HFD.out]
    exact⟨H0,H1,H2,H3,H4,H5,H6,H7,H8,H9,H10,H11,H12,H13,hide ((fun _=>rfl)),H15,H16,H17,H18,H19,H20,H21,H22,H23,H24,H25,H26,H27,H28,H29,H30,H31,H32,H33⟩)
   simp only[Act.put,List.setIfInBounds_toArray,List.set_cons_zero,List.set_cons_succ] at hk;simp only[e13] at hk;exact hk
  ·
   intro l v wr hn hdep hcl hF K hK;rw[HFD.out] at hF;obtain⟨H0,H1,H2,H3,H4,H5,H6,H7,H8,H9,H10,H11,H12,H13,H14,H15,H16,H17,H18,H19,H20,H21,H22,H23,H24,H25,H26,H27,H28,H29,H30,H31,H32,H33⟩:=hF;simp[Region.binds] at hdep;have HCL:=hide hcl;have HN:=hide hn;clear hcl hn;have e13:=H13.out (by simp[hdep]);go_simp;refine (letter_any _).mono ?_;rintro e w9 ⟨v9,rfl,hm9,hb9⟩;obtain⟨A9,n9,c9,AF9,nf9,cf9,rfl⟩:=agg_of hm9
   have hk:=hK.out (.agg #[.int .i64 letM.n,.slice A9 n9 c9,.slice AF9 nf9 cf9]) w9 (by
    rw[HFD.out]
    exact⟨H0,H1,H2,H3,H4,H5,H6,H7,H8,H9,H10,H11,H12,H13,H14,hide ((fun _=>⟨A9,n9,c9,AF9,nf9,cf9,rfl,hm9.at_⟩)),H16,H17,H18,H19,hide ((fun h=>by obtain⟨A,n,c,AF,nf,cf,h1,h2⟩:=H20.out h;exact⟨A,n,c,AF,nf,cf,h1,(h2.below hb9 (Nat.le_refl _)).mono (hb9).size⟩)),H21,H22,H23,H24,H25,hide ((fun h=>by obtain⟨g,h1,h2⟩:=H26.out h;exact⟨g,h1,h2.below hb9 h2.lt⟩)),H27,hide ((fun h=>by obtain⟨g,h1,h2⟩:=H28.out h;exact⟨g,h1,h2.below hb9 h2.lt⟩)),H29,H30,H31,H32,hide (H33.out.trans ((hb9).mono H33.out.size))⟩)
   simp only[Act.put,List.setIfInBounds_toArray,List.set_cons_zero,List.set_cons_succ] at hk;simp only[e13] at hk;exact hk
  ·
   intro l v wr hn hdep hcl hF K hK;rw[HFD.out] at hF;obtain⟨H0,H1,H2,H3,H4,H5,H6,H7,H8,H9,H10,H11,H12,H13,H14,H15,H16,H17,H18,H19,H20,H21,H22,H23,H24,H25,H26,H27,H28,H29,H30,H31,H32,H33⟩:=hF;simp[Region.binds] at hdep;have HCL:=hide hcl;have HN:=hide hn;clear hcl hn;have e13:=H13.out (by simp[hdep]);have e14:=H14.out (by simp[hdep]);obtain⟨A8,n8,c8,AF8,nf8,cf8,e15,hm8⟩:=H15.out (by simp[hdep]);have HM8:=hide hm8;clear hm8;have HDL:=hide (show decide (letM=letM)=true from decide_eq_true rfl);go_simp;refine (machines_any _ _ letM letM wr _ (Nat.le_refl _) ((HD1.out.below H33.out (Nat.le_refl _)).mono H33.out.size) HM8.out).mono ?_;rintro e w9 ⟨rfl,hb9⟩;rw[HDL.out]
   have hk:=hK.out (.bool true) w9 (by
    rw[HFD.out]
    exact⟨H0,H1,H2,H3,H4,H5,H6,H7,H8,H9,H10,H11,H12,H13,H14,hide ((fun h=>by obtain⟨A,n,c,AF,nf,cf,h1,h2⟩:=H15.out h;exact⟨A,n,c,AF,nf,cf,h1,(h2.below hb9 (Nat.le_refl _)).mono (hb9).size⟩)),hide ((fun _=>rfl)),H17,H18,H19,hide ((fun h=>by obtain⟨A,n,c,AF,nf,cf,h1,h2⟩:=H20.out h;exact⟨A,n,c,AF,nf,cf,h1,(h2.below hb9 (Nat.le_refl _)).mono (hb9).size⟩)),H21,H22,H23,H24,H25,hide ((fun h=>by obtain⟨g,h1,h2⟩:=H26.out h;exact⟨g,h1,h2.below hb9 h2.lt⟩)),H27,hide ((fun h=>by obtain⟨g,h1,h2⟩:=H28.out h;exact⟨g,h1,h2.below hb9 h2.lt⟩)),H29,H30,H31,H32,hide (H33.out.trans ((hb9).mono H33.out.size))⟩)
   simp only[Act.put,List.setIfInBounds_toArray,List.set_cons_zero,List.set_cons_succ] at hk;simp only[e13,e14] at hk;simp only[e15] at hk;exact hk
  ·
   intro l v wr hn hdep hcl hF K hK;rw[HFD.out] at hF;obtain⟨H0,H1,H2,H3,H4,H5,H6,H7,H8,H9,H10,H11,H12,H13,H14,H15,H16,H17,H18,H19,H20,H21,H22,H23,H24,H25,H26,H27,H28,H29,H30,H31,H32,H33⟩:=hF;simp[Region.binds] at hdep;have HCL:=hide hcl;have HN:=hide hn;clear hcl hn;have e13:=H13.out (by simp[hdep]);have e16:=H16.out (by simp[hdep]);go_simp
   have hk:=hK.out (.bool true) wr (by
    rw[HFD.out]
    exact⟨H0,H1,H2,H3,H4,H5,H6,H7,H8,H9,H10,H11,H12,H13,H14,H15,H16,hide ((fun _=>rfl)),H18,H19,H20,H21,H22,H23,H24,H25,H26,H27,H28,H29,H30,H31,H32,H33⟩)
   simp only[Act.put,List.setIfInBounds_toArray,List.set_cons_zero,List.set_cons_succ] at hk;simp only[e13,e16] at hk;exact hk
  ·
   intro l v wr hn hdep hcl hF K hK;rw[HFD.out] at hF;obtain⟨H0,H1,H2,H3,H4,H5,H6,H7,H8,H9,H10,H11,H12,H13,H14,H15,H16,H17,H18,H19,H20,H21,H22,H23,H24,H25,H26,H27,H28,H29,H30,H31,H32,H33⟩:=hF;simp[Region.binds] at hdep;have HCL:=hide hcl;have HN:=hide hn;clear hcl hn;have e17:=H17.out (by simp[hdep]);go_simp
   have hk:=hK.out (.bool true) wr (by
    rw[HFD.out]
    exact⟨H0,H1,H2,H3,H4,H5,H6,H7,H8,H9,H10,H11,H12,H13,H14,H15,H16,H17,hide ((fun _=>rfl)),H19,H20,H21,H22,H23,H24,H25,H26,H27,H28,H29,H30,H31,H32,H33⟩)
   simp only[Act.put,List.setIfInBounds_toArray,List.set_cons_zero,List.set_cons_succ] at hk;simp only[e17] at hk;exact hk
  ·
   intro l v wr hn hdep hcl hF K hK;rw[HFD.out] at hF;obtain⟨H0,H1,H2,H3,H4,H5,H6,H7,H8,H9,H10,H11,H12,H13,H14,H15,H16,H17,H18,H19,H20,H21,H22,H23,H24,H25,H26,H27,H28,H29,H30,H31,H32,H33⟩:=hF;simp[Region.binds] at hdep;have HCL:=hide hcl;have HN:=hide hn;clear hcl hn;have e18:=H18.out (by simp[hdep]);have bX:=hide (bS2.out.below H33.out bS2.out.lt);have x0:=bX.out.cell 0;have x1:=bX.out.cell 1;have x2:=bX.out.cell 2;simp at x0 x1 x2;go_simp
   have hk:=hK.out (.agg #[.int .i64 letM.n,.slice A5 n5 c5,.slice AF5 nf5 cf5]) wr (by
    rw[HFD.out]
    exact⟨H0,H1,H2,H3,H4,H5,H6,H7,H8,H9,H10,H11,H12,H13,H14,H15,H16,H17,H18,hide ((fun _=>rfl)),H20,H21,H22,H23,H24,H25,H26,H27,H28,H29,H30,H31,H32,H33⟩)
   simp only[Act.put,List.setIfInBounds_toArray,List.set_cons_zero,List.set_cons_succ] at hk;simp only[e18] at hk;exact hk
  ·
   intro l v wr hn hdep hcl hF K hK;rw[HFD.out] at hF;obtain⟨H0,H1,H2,H3,H4,H5,H6,H7,H8,H9,H10,H11,H12,H13,H14,H15,H16,H17,H18,H19,H20,H21,H22,H23,H24,H25,H26,H27,H28,H29,H30,H31,H32,H33⟩:=hF;simp[Region.binds] at hdep;have HCL:=hide hcl;have HN:=hide hn;clear hcl hn;have e18:=H18.out (by simp[hdep]);go_simp;refine (letter_any _).mono ?_;rintro e w9 ⟨v9,rfl,hm9,hb9⟩;obtain⟨A9,n9,c9,AF9,nf9,cf9,rfl⟩:=agg_of hm9
   have hk:=hK.out (.agg #[.int .i64 letM.n,.slice A9 n9 c9,.slice AF9 nf9 cf9]) w9 (by
    rw[HFD.out]
    exact⟨H0,H1,H2,H3,H4,H5,H6,H7,H8,H9,H10,H11,H12,H13,H14,hide ((fun h=>by obtain⟨A,n,c,AF,nf,cf,h1,h2⟩:=H15.out h;exact⟨A,n,c,AF,nf,cf,h1,(h2.below hb9 (Nat.le_refl _)).mono (hb9).size⟩)),H16,H17,H18,H19,hide ((fun _=>⟨A9,n9,c9,AF9,nf9,cf9,rfl,hm9.at_⟩)),H21,H22,H23,H24,H25,hide ((fun h=>by obtain⟨g,h1,h2⟩:=H26.out h;exact⟨g,h1,h2.below hb9 h2.lt⟩)),H27,hide ((fun h=>by obtain⟨g,h1,h2⟩:=H28.out h;exact⟨g,h1,h2.below hb9 h2.lt⟩)),H29,H30,H31,H32,hide (H33.out.trans ((hb9).mono H33.out.size))⟩)
   simp only[Act.put,List.setIfInBounds_toArray,List.set_cons_zero,List.set_cons_succ] at hk;simp only[e18] at hk;exact hk
  ·
   intro l v wr hn hdep hcl hF K hK;rw[HFD.out] at hF;obtain⟨H0,H1,H2,H3,H4,H5,H6,H7,H8,H9,H10,H11,H12,H13,H14,H15,H16,H17,H18,H19,H20,H21,H22,H23,H24,H25,H26,H27,H28,H29,H30,H31,H32,H33⟩:=hF;simp[Region.binds] at hdep;have HCL:=hide hcl;have HN:=hide hn;clear hcl hn;have e18:=H18.out (by simp[hdep]);have e19:=H19.out (by simp[hdep]);obtain⟨A8,n8,c8,AF8,nf8,cf8,e20,hm8⟩:=H20.out (by simp[hdep]);have HM8:=hide hm8;clear hm8;have HDL:=hide (show decide (letM=letM)=true from decide_eq_true rfl);go_simp;refine (machines_any _ _ letM letM wr _ (Nat.le_refl _) ((HD2.out.below H33.out (Nat.le_refl _)).mono H33.out.size) HM8.out).mono ?_;rintro e w9 ⟨rfl,hb9⟩;rw[HDL.out]
   have hk:=hK.out (.bool true) w9 (by
    rw[HFD.out]
    exact⟨H0,H1,H2,H3,H4,H5,H6,H7,H8,H9,H10,H11,H12,H13,H14,hide ((fun h=>by obtain⟨A,n,c,AF,nf,cf,h1,h2⟩:=H15.out h;exact⟨A,n,c,AF,nf,cf,h1,(h2.below hb9 (Nat.le_refl _)).mono (hb9).size⟩)),H16,H17,H18,H19,hide ((fun h=>by obtain⟨A,n,c,AF,nf,cf,h1,h2⟩:=H20.out h;exact⟨A,n,c,AF,nf,cf,h1,(h2.below hb9 (Nat.le_refl _)).mono (hb9).size⟩)),hide ((fun _=>rfl)),H22,H23,H24,H25,hide ((fun h=>by obtain⟨g,h1,h2⟩:=H26.out h;exact⟨g,h1,h2.below hb9 h2.lt⟩)),H27,hide ((fun h=>by obtain⟨g,h1,h2⟩:=H28.out h;exact⟨g,h1,h2.below hb9 h2.lt⟩)),H29,H30,H31,H32,hide (H33.out.trans ((hb9).mono H33.out.size))⟩)
   simp only[Act.put,List.setIfInBounds_toArray,List.set_cons_zero,List.set_cons_succ] at hk;simp only[e18,e19] at hk;simp only[e20] at hk;exact hk
  ·
   intro l v wr hn hdep hcl hF K hK;rw[HFD.out] at hF;obtain⟨H0,H1,H2,H3,H4,H5,H6,H7,H8,H9,H10,H11,H12,H13,H14,H15,H16,H17,H18,H19,H20,H21,H22,H23,H24,H25,H26,H27,H28,H29,H30,H31,H32,H33⟩:=hF;simp[Region.binds] at hdep;have HCL:=hide hcl;have HN:=hide hn;clear hcl hn;have e18:=H18.out (by simp[hdep]);have e21:=H21.out (by simp[hdep]);go_simp
   have hk:=hK.out (.bool true) wr (by
    rw[HFD.out]
    exact⟨H0,H1,H2,H3,H4,H5,H6,H7,H8,H9,H10,H11,H12,H13,H14,H15,H16,H17,H18,H19,H20,H21,hide ((fun _=>rfl)),H23,H24,H25,H26,H27,H28,H29,H30,H31,H32,H33⟩)
   simp only[Act.put,List.setIfInBounds_toArray,List.set_cons_zero,List.set_cons_succ] at hk;simp only[e18,e21] at hk;exact hk
  ·
   intro l v wr hn hdep hcl hF K hK;rw[HFD.out] at hF;obtain⟨H0,H1,H2,H3,H4,H5,H6,H7,H8,H9,H10,H11,H12,H13,H14,H15,H16,H17,H18,H19,H20,H21,H22,H23,H24,H25,H26,H27,H28,H29,H30,H31,H32,H33⟩:=hF;simp[Region.binds] at hdep;have HCL:=hide hcl;have HN:=hide hn;clear hcl hn;have e22:=H22.out (by simp[hdep]);go_simp
   have hk:=hK.out (.bool true) wr (by
    rw[HFD.out]
    exact⟨H0,H1,H2,H3,H4,H5,H6,H7,H8,H9,H10,H11,H12,H13,H14,H15,H16,H17,H18,H19,H20,H21,H22,hide ((fun _=>rfl)),H24,H25,H26,H27,H28,H29,H30,H31,H32,H33⟩)
   simp only[Act.put,List.setIfInBounds_toArray,List.set_cons_zero,List.set_cons_succ] at hk;simp only[e22] at hk;exact hk
  ·
   intro l v wr hn hdep hcl hF K hK;rw[HFD.out] at hF;obtain⟨H0,H1,H2,H3,H4,H5,H6,H7,H8,H9,H10,H11,H12,H13,H14,H15,H16,H17,H18,H19,H20,H21,H22,H23,H24,H25,H26,H27,H28,H29,H30,H31,H32,H33⟩:=hF;simp[Region.binds] at hdep;have HCL:=hide hcl;have HN:=hide hn;clear hcl hn;have e23:=H23.out (by simp[hdep]);have bX:=hide (bS3.out.below H33.out bS3.out.lt);have x0:=bX.out.cell 0;have x1:=bX.out.cell 1;have x2:=bX.out.cell 2;simp at x0 x1 x2;go_simp
   have hk:=hK.out (.agg #[.int .i64 oneM.n,.slice A7 n7 c7,.slice AF7 nf7 cf7]) wr (by
    rw[HFD.out]
    exact⟨H0,H1,H2,H3,H4,H5,H6,H7,H8,H9,H10,H11,H12,H13,H14,H15,H16,H17,H18,H19,H20,H21,H22,H23,hide ((fun _=>rfl)),H25,H26,H27,H28,H29,H30,H31,H32,H33⟩)
   simp only[Act.put,List.setIfInBounds_toArray,List.set_cons_zero,List.set_cons_succ] at hk;simp only[e23] at hk;exact hk
  ·
   intro l v wr hn hdep hcl hF K hK;rw[HFD.out] at hF;obtain⟨H0,H1,H2,H3,H4,H5,H6,H7,H8,H9,H10,H11,H12,H13,H14,H15,H16,H17,H18,H19,H20,H21,H22,H23,H24,H25,H26,H27,H28,H29,H30,H31,H32,H33⟩:=hF;simp[Region.binds] at hdep;have HCL:=hide hcl;have HN:=hide hn;clear hcl hn;have e23:=H23.out (by simp[hdep]);go_simp
   have hk:=hK.out (.agg #[.int .i64 0,.int .i64 0,.int .i64 97,.int .i64 97,.int .i64 0]) wr (by
    rw[HFD.out]
    exact⟨H0,H1,H2,H3,H4,H5,H6,H7,H8,H9,H10,H11,H12,H13,H14,H15,H16,H17,H18,H19,H20,H21,H22,H23,H24,hide ((fun _=>rfl)),H26,H27,H28,H29,H30,H31,H32,H33⟩)
   simp only[Act.put,List.setIfInBounds_toArray,List.set_cons_zero,List.set_cons_succ] at hk;simp only[e23] at hk;exact hk
  ·
   intro l v wr hn hdep hcl hF K hK;rw[HFD.out] at hF;obtain⟨H0,H1,H2,H3,H4,H5,H6,H7,H8,H9,H10,H11,H12,H13,H14,H15,H16,H17,H18,H19,H20,H21,H22,H23,H24,H25,H26,H27,H28,H29,H30,H31,H32,H33⟩:=hF;simp[Region.binds] at hdep;have HCL:=hide hcl;have HN:=hide hn;clear hcl hn;have e23:=H23.out (by simp[hdep]);have e25:=H25.out (by simp[hdep]);have HBA:=hide (show Below wr.heap.size wr (wr.alloc (.cells #[.int .i64 0,.int .i64 0,.int .i64 97,.int .i64 97,.int .i64 0] 64)) from (Below.refl _ _).alloc (Nat.le_refl _) _);go_simp
   have hk:=hK.out (.slice (some ⟨wr.heap.size,0,none⟩) 1 1) (wr.alloc (.cells #[.int .i64 0,.int .i64 0,.int .i64 97,.int .i64 97,.int .i64 0] 64)) (by
    rw[HFD.out]
    exact⟨H0,H1,H2,H3,H4,H5,H6,H7,H8,H9,H10,H11,H12,H13,H14,hide ((fun h=>by obtain⟨A,n,c,AF,nf,cf,h1,h2⟩:=H15.out h;exact⟨A,n,c,AF,nf,cf,h1,(h2.below HBA.out (Nat.le_refl _)).mono (HBA.out).size⟩)),H16,H17,H18,H19,hide ((fun h=>by obtain⟨A,n,c,AF,nf,cf,h1,h2⟩:=H20.out h;exact⟨A,n,c,AF,nf,cf,h1,(h2.below HBA.out (Nat.le_refl _)).mono (HBA.out).size⟩)),H21,H22,H23,H24,H25,hide ((fun _=>⟨wr.heap.size,rfl,Blk.at_ rfl⟩)),H27,hide ((fun h=>by obtain⟨g,h1,h2⟩:=H28.out h;exact⟨g,h1,h2.below HBA.out h2.lt⟩)),hide ((fun h=>absurd (HCL.out 29 _ rfl h ⟨26,.data⟩ (by simp) rfl) (by rw[HN.out];decide))),H30,H31,H32,hide (H33.out.trans ((HBA.out).mono H33.out.size))⟩)
   simp only[Act.put,List.setIfInBounds_toArray,List.set_cons_zero,List.set_cons_succ] at hk;simp only[e23,e25] at hk;exact hk
  ·
   intro l v wr hn hdep hcl hF K hK;rw[HFD.out] at hF;obtain⟨H0,H1,H2,H3,H4,H5,H6,H7,H8,H9,H10,H11,H12,H13,H14,H15,H16,H17,H18,H19,H20,H21,H22,H23,H24,H25,H26,H27,H28,H29,H30,H31,H32,H33⟩:=hF;simp[Region.binds] at hdep;have HCL:=hide hcl;have HN:=hide hn;clear hcl hn;have e23:=H23.out (by simp[hdep]);go_simp
   have hk:=hK.out (.agg #[.int .i64 0,.int .i64 0]) wr (by
    rw[HFD.out]
    exact⟨H0,H1,H2,H3,H4,H5,H6,H7,H8,H9,H10,H11,H12,H13,H14,H15,H16,H17,H18,H19,H20,H21,H22,H23,H24,H25,H26,hide ((fun _=>rfl)),H28,H29,H30,H31,H32,H33⟩)
   simp only[Act.put,List.setIfInBounds_toArray,List.set_cons_zero,List.set_cons_succ] at hk;simp only[e23] at hk;exact hk
  ·
   intro l v wr hn hdep hcl hF K hK;rw[HFD.out] at hF;obtain⟨H0,H1,H2,H3,H4,H5,H6,H7,H8,H9,H10,H11,H12,H13,H14,H15,H16,H17,H18,H19,H20,H21,H22,H23,H24,H25,H26,H27,H28,H29,H30,H31,H32,H33⟩:=hF;simp[Region.binds] at hdep;have HCL:=hide hcl;have HN:=hide hn;clear hcl hn;have e23:=H23.out (by simp[hdep]);have e27:=H27.out (by simp[hdep]);have HBA:=hide (show Below wr.heap.size wr (wr.alloc (.cells #[.int .i64 0,.int .i64 0] 69)) from (Below.refl _ _).alloc (Nat.le_refl _) _);go_simp
   have hk:=hK.out (.slice (some ⟨wr.heap.size,0,none⟩) 1 1) (wr.alloc (.cells #[.int .i64 0,.int .i64 0] 69)) (by
    rw[HFD.out]
    exact⟨H0,H1,H2,H3,H4,H5,H6,H7,H8,H9,H10,H11,H12,H13,H14,hide ((fun h=>by obtain⟨A,n,c,AF,nf,cf,h1,h2⟩:=H15.out h;exact⟨A,n,c,AF,nf,cf,h1,(h2.below HBA.out (Nat.le_refl _)).mono (HBA.out).size⟩)),H16,H17,H18,H19,hide ((fun h=>by obtain⟨A,n,c,AF,nf,cf,h1,h2⟩:=H20.out h;exact⟨A,n,c,AF,nf,cf,h1,(h2.below HBA.out (Nat.le_refl _)).mono (HBA.out).size⟩)),H21,H22,H23,H24,H25,hide ((fun h=>by obtain⟨g,h1,h2⟩:=H26.out h;exact⟨g,h1,h2.below HBA.out h2.lt⟩)),H27,hide ((fun _=>⟨wr.heap.size,rfl,Blk.at_ rfl⟩)),hide ((fun h=>absurd (HCL.out 29 _ rfl h ⟨28,.data⟩ (by simp) rfl) (by rw[HN.out];decide))),H30,H31,H32,hide (H33.out.trans ((HBA.out).mono H33.out.size))⟩)
   simp only[Act.put,List.setIfInBounds_toArray,List.set_cons_zero,List.set_cons_succ] at hk;simp only[e23,e27] at hk;exact hk
  ·
   intro l v wr hn hdep hcl hF K hK;rw[HFD.out] at hF;obtain⟨H0,H1,H2,H3,H4,H5,H6,H7,H8,H9,H10,H11,H12,H13,H14,H15,H16,H17,H18,H19,H20,H21,H22,H23,H24,H25,H26,H27,H28,H29,H30,H31,H32,H33⟩:=hF;simp[Region.binds] at hdep;have HCL:=hide hcl;have HN:=hide hn;clear hcl hn;have e23:=H23.out (by simp[hdep]);obtain⟨g,e26,hg⟩:=H26.out (by simp[hdep]);obtain⟨h,e28,hh⟩:=H28.out (by simp[hdep]);clear hg hh;go_simp
   have hk:=hK.out (.agg #[.int .i64 1,.slice (some ⟨g,0,none⟩) 1 1,.slice (some ⟨h,0,none⟩) 1 1]) wr (by
    rw[HFD.out]
    exact⟨H0,H1,H2,H3,H4,H5,H6,H7,H8,H9,H10,H11,H12,H13,H14,H15,H16,H17,H18,H19,H20,H21,H22,H23,H24,H25,H26,H27,H28,hide ((fun _=>⟨g,h,e26,e28,rfl⟩)),H30,H31,H32,H33⟩)
   simp only[Act.put,List.setIfInBounds_toArray,List.set_cons_zero,List.set_cons_succ] at hk;simp only[e23] at hk;simp only[e26,e28] at hk;exact hk
  ·
   intro l v wr hn hdep hcl hF K hK;rw[HFD.out] at hF;obtain⟨H0,H1,H2,H3,H4,H5,H6,H7,H8,H9,H10,H11,H12,H13,H14,H15,H16,H17,H18,H19,H20,H21,H22,H23,H24,H25,H26,H27,H28,H29,H30,H31,H32,H33⟩:=hF;simp[Region.binds] at hdep;have HCL:=hide hcl;have HN:=hide hn;clear hcl hn;have e23:=H23.out (by simp[hdep]);have e24:=H24.out (by simp[hdep]);have d29:l 29=true:=by simp[hdep]
   have HG:=hide (H26.out (HCL.out 29 _ rfl d29 ⟨26,.data⟩ (by simp) rfl));have HH:=hide (H28.out (HCL.out 29 _ rfl d29 ⟨28,.data⟩ (by simp) rfl));obtain⟨g,h,e26,e28,e29⟩:=H29.out d29;obtain⟨g',e26',hg⟩:=HG.out;obtain⟨h',e28',hh⟩:=HH.out;rw[e26] at e26';rw[e28] at e28';injection e26' with z1
   injection z1 with z1
   injection z1 with z1
   injection e28' with z2
   injection z2 with z2
   injection z2 with z2
   subst z1 z2;have HM8:=hide (one_at hg hh);have HDL:=hide (show decide (oneM=oneM)=true from decide_eq_true rfl);clear hg hh d29 e26 e28;go_simp;refine (machines_any _ _ oneM oneM wr _ (Nat.le_refl _) ((HD3.out.below H33.out (Nat.le_refl _)).mono H33.out.size) HM8.out).mono ?_;rintro e w9 ⟨rfl,hb9⟩;rw[HDL.out]
   have hk:=hK.out (.bool true) w9 (by
    rw[HFD.out]
    exact⟨H0,H1,H2,H3,H4,H5,H6,H7,H8,H9,H10,H11,H12,H13,H14,hide ((fun h=>by obtain⟨A,n,c,AF,nf,cf,h1,h2⟩:=H15.out h;exact⟨A,n,c,AF,nf,cf,h1,(h2.below hb9 (Nat.le_refl _)).mono (hb9).size⟩)),H16,H17,H18,H19,hide ((fun h=>by obtain⟨A,n,c,AF,nf,cf,h1,h2⟩:=H20.out h;exact⟨A,n,c,AF,nf,cf,h1,(h2.below hb9 (Nat.le_refl _)).mono (hb9).size⟩)),H21,H22,H23,H24,H25,hide ((fun h=>by obtain⟨g,h1,h2⟩:=H26.out h;exact⟨g,h1,h2.below hb9 h2.lt⟩)),H27,hide ((fun h=>by obtain⟨g,h1,h2⟩:=H28.out h;exact⟨g,h1,h2.below hb9 h2.lt⟩)),H29,hide ((fun _=>rfl)),H31,H32,hide (H33.out.trans ((hb9).mono H33.out.size))⟩)
   simp only[Act.put,List.setIfInBounds_toArray,List.set_cons_zero,List.set_cons_succ] at hk;simp only[e23,e24] at hk;simp only[e29] at hk;exact hk
  ·
   intro l v wr hn hdep hcl hF K hK;rw[HFD.out] at hF;obtain⟨H0,H1,H2,H3,H4,H5,H6,H7,H8,H9,H10,H11,H12,H13,H14,H15,H16,H17,H18,H19,H20,H21,H22,H23,H24,H25,H26,H27,H28,H29,H30,H31,H32,H33⟩:=hF;simp[Region.binds] at hdep;have HCL:=hide hcl;have HN:=hide hn;clear hcl hn;have e23:=H23.out (by simp[hdep]);have e30:=H30.out (by simp[hdep]);go_simp
   have hk:=hK.out (.bool true) wr (by
    rw[HFD.out]
    exact⟨H0,H1,H2,H3,H4,H5,H6,H7,H8,H9,H10,H11,H12,H13,H14,H15,H16,H17,H18,H19,H20,H21,H22,H23,H24,H25,H26,H27,H28,H29,H30,hide ((fun _=>rfl)),H32,H33⟩)
   simp only[Act.put,List.setIfInBounds_toArray,List.set_cons_zero,List.set_cons_succ] at hk;simp only[e23,e30] at hk;exact hk
  ·
   intro l v wr hn hdep hcl hF K hK;rw[HFD.out] at hF;obtain⟨H0,H1,H2,H3,H4,H5,H6,H7,H8,H9,H10,H11,H12,H13,H14,H15,H16,H17,H18,H19,H20,H21,H22,H23,H24,H25,H26,H27,H28,H29,H30,H31,H32,H33⟩:=hF;simp[Region.binds] at hdep;have HCL:=hide hcl;have HN:=hide hn;clear hcl hn;have e31:=H31.out (by simp[hdep]);go_simp
   have hk:=hK.out (.bool true) wr (by
    rw[HFD.out]
    exact⟨H0,H1,H2,H3,H4,H5,H6,H7,H8,H9,H10,H11,H12,H13,H14,H15,H16,H17,H18,H19,H20,H21,H22,H23,H24,H25,H26,H27,H28,H29,H30,H31,hide ((fun _=>rfl)),H33⟩)
   simp only[Act.put,List.setIfInBounds_toArray,List.set_cons_zero,List.set_cons_succ] at hk;simp only[e31] at hk;exact hk
end Go.Proofs.Ytkfdhpbnphojoaa
