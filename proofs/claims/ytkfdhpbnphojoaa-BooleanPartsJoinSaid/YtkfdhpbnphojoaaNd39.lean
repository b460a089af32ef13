/- Part of the proof. -/
import Derived.Test.YtkfdhpbnphojoaaNd38
import Derived.Test.YtkfdhpbnphojoaaNd36
set_option linter.unusedSimpArgs false
set_option linter.unusedVariables false
set_option maxRecDepth 100000
set_option maxHeartbeats 16000000
open List renaming setIfInBounds_toArray→wAa,set_cons_zero→wAb,set_cons_succ→wAc
open Nat renaming le_refl→wAe
open Go.Region renaming binds→wAd
open Gm.StepsR renaming cons→wAf
open Go.Act renaming put→wAg
open Gm.Blk renaming at_→wAh
namespace Go.Proofs.Ytkfdhpbnphojoaa
open Go.RowKit Gm
theorem zOm (w:World) (x:Int):Nums (w.alloc (.cells #[.int .i64 x] 3)) (w.alloc (.cells #[.int .i64 x] 3)).heap.size (.slice (some ⟨w.heap.size,0,none⟩) 1 1) [x] :=
 zAZ (base:=w.heap.size) (e:=3) ⟨rfl,.inr ⟨w.heap.size,1,_,rfl,wAe _,wAh rfl,wAe _,by simp[maxLen],rfl,rfl⟩⟩ (by unfold big;omega)
theorem zSS {w:World} {g h:Nat} {tA tF:TypeId} (h1:Blk w g tA #[.int .i64 0,.int .i64 0,.int .i64 97,.int .i64 97,.int .i64 0]) (h2:Blk w h tF #[.int .i64 0,.int .i64 0]):MachAt w w.heap.size (.agg #[.int .i64 1,.slice (some ⟨g,0,none⟩) 1 1,.slice (some ⟨h,0,none⟩) 1 1]) oneM :=
 (MachNew.of_blk (lo:=0) (m:=oneM) (eA:=tA) (eF:=tF) h1 h2 (Nat.zero_le _) (Nat.zero_le _) (by decide) (by decide)).at_
theorem zOx (w:World):Calls Try.prog 49 #[] w fun e w'=>∃ v1,e=.returned v1∧MachNew w.heap.size w' v1 twoM∧Below w.heap.size w w':=by
 go_enter Try.func49,Try.ntmps49
 go_wp2
 exact bodyPost_ret (v:=.agg #[.int .i64 2,.slice (some ⟨w.heap.size+1,0,none⟩) 2 2,.slice (some ⟨w.heap.size+1+1,0,none⟩) 1 1]) (by simp[results,Try.results49,go_sem]) rfl
  ⟨_,rfl,MachNew.of_blk (m:=twoM) (eA:=64) (eF:=69) ((wAh (by simp)).alloc _) (wAh (by simp)) (by omega) (by omega) (by decide) (by decide),by go_grown⟩
theorem zLv (va vb:Value) (w:World) (ha:MachAt w w.heap.size va twoM) (hb:MachAt w w.heap.size vb letM) :
 Calls Try.prog 24 #[va,vb] w fun e w'=>∃ v1,e=.returned (.tuple #[v1,.agg #[.int .i64 0,.int .i64 0]])∧MachNew w.heap.size w' v1 letM∧Below w.heap.size w w':=by
 refine (zFQ va vb twoM letM w w.heap.size (wAe _) ha hb).mono ?_;rintro e w' ⟨r,v1,rfl,hr,hm,hb⟩;rw[zSA hr] at hm ⊢;exact⟨v1,rfl,hm,hb⟩
theorem zK4 (va vb:Value) (w:World) (ha:MachAt w w.heap.size va letM) (hb:MachAt w w.heap.size vb emptyM) :
 Calls Try.prog 25 #[va,vb] w fun e w'=>∃ v1,e=.returned (.tuple #[v1,.agg #[.int .i64 0,.int .i64 0]])∧MachNew w.heap.size w' v1 letM∧Below w.heap.size w w':=by
 refine (zHI va vb letM emptyM w w.heap.size (wAe _) ha hb).mono ?_;rintro e w' ⟨r,v1,rfl,hr,hm,hb⟩;rw[zSR hr] at hm ⊢;exact⟨v1,rfl,hm,hb⟩
theorem zK2 (va vl:Value) (w:World) (ha:MachAt w w.heap.size va emptyM) (hl:Nums w w.heap.size vl [97]) :
 Calls Try.prog 28 #[va,vl] w fun e w'=>∃ v1,e=.returned (.tuple #[v1,.agg #[.int .i64 0,.int .i64 0]])∧MachNew w.heap.size w' v1 oneM∧Below w.heap.size w w':=by
 refine (zDJ va vl emptyM [97] w w.heap.size (wAe _) ha hl).mono ?_;rintro e w' ⟨r,v1,rfl,hr,hm,hb⟩;rw[zSJ hr] at hm ⊢;exact⟨v1,rfl,hm,hb⟩
theorem zCY (w:World):Calls Try.prog 23 #[] w fun e w'=>e=.returned (.bool true)∧Below w.heap.size w w':=by
 have he:=fun a b c d W=>zAV a b c d W
 have hf0:fEq 0 0 0 0=true:=rfl
 go_enter Try.func23,Try.ntmps23
 go_upto_region 2 with (first
  | (go_at_call 49;refine (zOx _).mono ?_;rintro e w1 ⟨v1,rfl,hm1,hb1⟩;obtain⟨A1,n1,c1,AF1,nf1,cf1,rfl⟩:=zBd hm1;have HM1:=zh hm1;have HB1:=zh hb1;clear hm1 hb1)
  | (go_at_call 12;refine (zBU _).mono ?_;rintro e w2 ⟨v2,rfl,hm2,hb2⟩;obtain⟨A2,n2,c2,AF2,nf2,cf2,rfl⟩:=zBd hm2;have HM2:=zh hm2;have HB2:=zh hb2;clear hm2 hb2)
  | (go_at_call 24;refine (zLv _ _ w2 ((HM1.o.at_.below HB2.o (wAe _)).mono HB2.o.size) HM2.o.at_).mono ?_;rintro e w3 ⟨v3,rfl,hm3,hb3⟩;obtain⟨A3,n3,c3,AF3,nf3,cf3,rfl⟩:=zBd hm3;have HM3:=zh hm3;have HB3:=zh hb3;clear hm3 hb3))
 generalize hW3:World.alloc _ _=W3;obtain⟨S1,hS1⟩:∃ z,z=w3.heap.size:=⟨_,rfl⟩;obtain⟨F1,hF1⟩:∃ z,z=w3.heap.size+1:=⟨_,rfl⟩;have bS1:=zh (show Blk W3 S1 25 #[.int .i64 letM.n,.slice A3 n3 c3,.slice AF3 nf3 cf3] by rw[← hW3];exact (wAh hS1).alloc _);have bF1:=zh (show Blk W3 F1 28 #[.int .i64 0,.int .i64 0] by rw[← hW3];exact wAh (by simp[hF1]));have q3:=zh (show Below w3.heap.size w3 W3 by rw[← hW3];go_grown);simp only[← hF1]
 try simp only[← hS1]
 clear hW3 hS1 hF1;have HW:=zh (((HB1.o.trans (HB2.o.mono HB1.o.size)).trans (HB3.o.mono (by have:=HB1.o.size;have:=HB2.o.size;omega))).trans (q3.o.mono (by have:=HB1.o.size;have:=HB2.o.size;have:=HB3.o.size;omega)));have HD1:=zh ((HM3.o.at_.below q3.o (wAe _)).mono q3.o.size);clear HM1 HM2 HM3 HB1 HB2 HB3 q3
 go_upto_region 3 with (first
  | (go_at_call 12;refine (zBU _).mono ?_;rintro e w4 ⟨v4,rfl,hm4,hb4⟩;obtain⟨A4,n4,c4,AF4,nf4,cf4,rfl⟩:=zBd hm4;have HM4:=zh hm4;have HB4:=zh hb4;clear hm4 hb4)
  | (go_at_call 25;refine (zK4 _ _ w4 HM4.o.at_ (MachAt.empty _ _)).mono ?_;rintro e w5 ⟨v5,rfl,hm5,hb5⟩;obtain⟨A5,n5,c5,AF5,nf5,cf5,rfl⟩:=zBd hm5;have HM5:=zh hm5;have HB5:=zh hb5;clear hm5 hb5))
 generalize hW5:World.alloc _ _=W5;obtain⟨S2,hS2⟩:∃ z,z=w5.heap.size:=⟨_,rfl⟩;obtain⟨F2,hF2⟩:∃ z,z=w5.heap.size+1:=⟨_,rfl⟩;have bS2:=zh (show Blk W5 S2 25 #[.int .i64 letM.n,.slice A5 n5 c5,.slice AF5 nf5 cf5] by rw[← hW5];exact (wAh hS2).alloc _);have bF2:=zh (show Blk W5 F2 28 #[.int .i64 0,.int .i64 0] by rw[← hW5];exact wAh (by simp[hF2]));have q5:=zh (show Below w5.heap.size w5 W5 by rw[← hW5];go_grown);simp only[← hF2]
 try simp only[← hS2]
 clear hW5 hS2 hF2;have q:=zh ((HB4.o.trans (HB5.o.mono HB4.o.size)).trans (q5.o.mono (by have:=HB4.o.size;have:=HB5.o.size;omega)));replace bS1:=zh (bS1.o.below q.o bS1.o.lt);replace bF1:=zh (bF1.o.below q.o bF1.o.lt);replace HD1:=zh ((HD1.o.below q.o (wAe _)).mono q.o.size);replace HW:=zh (HW.o.trans (q.o.mono HW.o.size));have HD2:=zh ((HM5.o.at_.below q5.o (wAe _)).mono q5.o.size);clear HM4 HM5 HB4 HB5 q5 q;have HNO:=zh (zOm W5 97);have HBA:=zh (show Below W5.heap.size W5 (W5.alloc (.cells #[.int .i64 97] 3)) from (Below.refl _ _).alloc (wAe _) _);go_upto_region 4 with (go_at_call 28;refine (zK2 _ _ _ (MachAt.empty _ _) HNO.o).mono ?_;rintro e w7 ⟨v7,rfl,hm7,hb7⟩;obtain⟨A7,n7,c7,AF7,nf7,cf7,rfl⟩:=zBd hm7;have HM7:=zh hm7;have HB7:=zh (HBA.o.trans (hb7.mono HBA.o.size));clear hm7 hb7)
 generalize hW7:World.alloc _ _=W7;obtain⟨S3,hS3⟩:∃ z,z=w7.heap.size:=⟨_,rfl⟩;obtain⟨F3,hF3⟩:∃ z,z=w7.heap.size+1:=⟨_,rfl⟩;have bS3:=zh (show Blk W7 S3 25 #[.int .i64 oneM.n,.slice A7 n7 c7,.slice AF7 nf7 cf7] by rw[← hW7];exact (wAh hS3).alloc _);have bF3:=zh (show Blk W7 F3 28 #[.int .i64 0,.int .i64 0] by rw[← hW7];exact wAh (by simp[hF3]));have q7:=zh (show Below w7.heap.size w7 W7 by rw[← hW7];go_grown);simp only[← hF3]
 try simp only[← hS3]
 clear hW7 hS3 hF3;have q:=zh (HB7.o.trans (q7.o.mono HB7.o.size));replace bS1:=zh (bS1.o.below q.o bS1.o.lt);replace bF1:=zh (bF1.o.below q.o bF1.o.lt);replace bS2:=zh (bS2.o.below q.o bS2.o.lt);replace bF2:=zh (bF2.o.below q.o bF2.o.lt);replace HD1:=zh ((HD1.o.below q.o (wAe _)).mono q.o.size);replace HD2:=zh ((HD2.o.below q.o (wAe _)).mono q.o.size);replace HW:=zh (HW.o.trans (q.o.mono HW.o.size));have HD3:=zh ((HM7.o.at_.below q7.o (wAe _)).mono q7.o.size);clear HM7 HB7 q7 q HBA HNO
 obtain⟨F,hF⟩:∃ F:(Nat→Bool)→(Nat→Value)→World→Prop,F=fun l v wr =>
  Hid ((l 0=true→v 0=(.agg #[.int .i64 0,.int .i64 0]))) ∧
  Hid ((l 1=true→v 1=(.agg #[.int .i64 0,.int .i64 0]))) ∧
  Hid ((l 2=true→v 2=(.bool true))) ∧
  Hid ((l 3=true→v 3=(.bool true))) ∧
  Hid ((l 4=true→v 4=(.agg #[.int .i64 0,.int .i64 0]))) ∧
  Hid ((l 5=true→v 5=(.agg #[.int .i64 0,.int .i64 0]))) ∧
  Hid ((l 6=true→v 6=(.bool true))) ∧
  Hid ((l 7=true→v 7=(.bool true))) ∧
  Hid ((l 8=true→v 8=(.bool true))) ∧
  Hid ((l 9=true→v 9=(.agg #[.int .i64 0,.int .i64 0]))) ∧
  Hid ((l 10=true→v 10=(.agg #[.int .i64 0,.int .i64 0]))) ∧
  Hid ((l 11=true→v 11=(.bool true))) ∧
  Hid ((l 12=true→v 12=(.bool true))) ∧
  Hid ((l 13=true→v 13=(.bool true))) ∧
  Hid ((l 14=true→v 14=(.agg #[.int .i64 letM.n,.slice A3 n3 c3,.slice AF3 nf3 cf3]))) ∧
  Hid ((l 15=true→∃ A n c AF nf cf,v 15=.agg #[.int .i64 letM.n,.slice A n c,.slice AF nf cf]∧MachAt wr wr.heap.size (.agg #[.int .i64 letM.n,.slice A n c,.slice AF nf cf]) letM)) ∧
  Hid ((l 16=true→v 16=(.bool true))) ∧
  Hid ((l 17=true→v 17=(.bool true))) ∧
  Hid ((l 18=true→v 18=(.bool true))) ∧
  Hid ((l 19=true→v 19=(.agg #[.int .i64 letM.n,.slice A5 n5 c5,.slice AF5 nf5 cf5]))) ∧
  Hid ((l 20=true→∃ A n c AF nf cf,v 20=.agg #[.int .i64 letM.n,.slice A n c,.slice AF nf cf]∧MachAt wr wr.heap.size (.agg #[.int .i64 letM.n,.slice A n c,.slice AF nf cf]) letM)) ∧
  Hid ((l 21=true→v 21=(.bool true))) ∧
  Hid ((l 22=true→v 22=(.bool true))) ∧
  Hid ((l 23=true→v 23=(.bool true))) ∧
  Hid ((l 24=true→v 24=(.agg #[.int .i64 oneM.n,.slice A7 n7 c7,.slice AF7 nf7 cf7]))) ∧
  Hid ((l 25=true→v 25=(.agg #[.int .i64 0,.int .i64 0,.int .i64 97,.int .i64 97,.int .i64 0]))) ∧
  Hid ((l 26=true→∃ g,v 26=.slice (some ⟨g,0,none⟩) 1 1∧Blk wr g 64 #[.int .i64 0,.int .i64 0,.int .i64 97,.int .i64 97,.int .i64 0])) ∧
  Hid ((l 27=true→v 27=(.agg #[.int .i64 0,.int .i64 0]))) ∧
  Hid ((l 28=true→∃ g,v 28=.slice (some ⟨g,0,none⟩) 1 1∧Blk wr g 69 #[.int .i64 0,.int .i64 0])) ∧
  Hid ((l 29=true→∃ g h,v 26=.slice (some ⟨g,0,none⟩) 1 1∧v 28=.slice (some ⟨h,0,none⟩) 1 1∧v 29=.agg #[.int .i64 1,.slice (some ⟨g,0,none⟩) 1 1,.slice (some ⟨h,0,none⟩) 1 1])) ∧
  Hid ((l 30=true→v 30=(.bool true))) ∧
  Hid ((l 31=true→v 31=(.bool true))) ∧
  Hid ((l 32=true→v 32=(.bool true))) ∧
  Hid (Below W7.heap.size W7 wr):=⟨_,rfl⟩
 have HFD:=zh hF;clear hF;refine zAj F (A:=?AR1) ?hA (by kernel_rfl) (by kernel_rfl) (by kernel_rfl) ?h0 ?hend ?hsteps
 case hA=>intro v;simp only[putR,wAg,wAa,wAb,wAc,Nat.reduceAdd,Nat.zero_add];exact rfl
 case h0 =>
  intro v;rw[HFD.o];exact⟨zh (nofun),zh (nofun),zh (nofun),zh (nofun),zh (nofun),zh (nofun),zh (nofun),zh (nofun),zh (nofun),zh (nofun),zh (nofun),zh (nofun),zh (nofun),zh (nofun),zh (nofun),zh (nofun),zh (nofun),zh (nofun),zh (nofun),zh (nofun),zh (nofun),zh (nofun),zh (nofun),zh (nofun),zh (nofun),zh (nofun),zh (nofun),zh (nofun),zh (nofun),zh (nofun),zh (nofun),zh (nofun),zh (nofun),zh ((Below.refl _ _).drew)⟩
 case hend =>
  intro l v wr hall hF;rw[HFD.o] at hF;obtain⟨H0,H1,H2,H3,H4,H5,H6,H7,H8,H9,H10,H11,H12,H13,H14,H15,H16,H17,H18,H19,H20,H21,H22,H23,H24,H25,H26,H27,H28,H29,H30,H31,H32,H33⟩:=hF;have f0:=H0.o;have f1:=H1.o;have f2:=H2.o;have f3:=H3.o;have f4:=H4.o;have f5:=H5.o;have f6:=H6.o;have f7:=H7.o;have f8:=H8.o;have f9:=H9.o;have f10:=H10.o;have f11:=H11.o;have f12:=H12.o;have f13:=H13.o;have f14:=H14.o;have f15:=H15.o;have f16:=H16.o;have f17:=H17.o;have f18:=H18.o;have f19:=H19.o;have f20:=H20.o;have f21:=H21.o;have f22:=H22.o;have f23:=H23.o;have f24:=H24.o;have f25:=H25.o;have f26:=H26.o;have f27:=H27.o;have f28:=H28.o;have f29:=H29.o;have f30:=H30.o;have f31:=H31.o;have f32:=H32.o;have f33:=H33.o;clear H0 H1 H2 H3 H4 H5 H6 H7 H8 H9 H10 H11 H12 H13 H14 H15 H16 H17 H18 H19 H20 H21 H22 H23 H24 H25 H26 H27 H28 H29 H30 H31 H32 H33;have e32:=f32 (hall 32 (by simp));have HB9:=zh f33;clear f0 f1 f2 f3 f4 f5 f6 f7 f8 f9 f10 f11 f12 f13 f14 f15 f16 f17 f18 f19 f20 f21 f22 f23 f24 f25 f26 f27 f28 f29 f30 f31 f32 f33 hall he hf0;go_wp21;exact bodyPost_ret (v:=.bool true) (by simp[results,Try.results23,go_sem,e32]) rfl ⟨rfl,HW.o.trans (HB9.o.mono HW.o.size)⟩
 case hsteps =>
  refine wAf (n:=0) ?_ (wAf (n:=1) ?_ (wAf (n:=2) ?_ (wAf (n:=3) ?_ (wAf (n:=4) ?_ (wAf (n:=5) ?_ (wAf (n:=6) ?_ (wAf (n:=7) ?_ (wAf (n:=8) ?_ (wAf (n:=9) ?_ (wAf (n:=10) ?_ (wAf (n:=11) ?_ (wAf (n:=12) ?_ (wAf (n:=13) ?_ (wAf (n:=14) ?_ (wAf (n:=15) ?_ (wAf (n:=16) ?_ (wAf (n:=17) ?_ (wAf (n:=18) ?_ (wAf (n:=19) ?_ (wAf (n:=20) ?_ (wAf (n:=21) ?_ (wAf (n:=22) ?_ (wAf (n:=23) ?_ (wAf (n:=24) ?_ (wAf (n:=25) ?_ (wAf (n:=26) ?_ (wAf (n:=27) ?_ (wAf (n:=28) ?_ (wAf (n:=29) ?_ (wAf (n:=30) ?_ (wAf (n:=31) ?_ (wAf (n:=32) ?_ (trivial)))))))))))))))))))))))))))))))))
  ·intro l v wr hn hdep hcl hF K hK;rw[HFD.o] at hF;obtain⟨H0,H1,H2,H3,H4,H5,H6,H7,H8,H9,H10,H11,H12,H13,H14,H15,H16,H17,H18,H19,H20,H21,H22,H23,H24,H25,H26,H27,H28,H29,H30,H31,H32,H33⟩:=hF;simp[wAd] at hdep;have HCL:=zh hcl;have HN:=zh hn;clear hcl hn;have bX:=zh (bF1.o.below H33.o bF1.o.lt);have x0:=bX.o.cell 0;have x1:=bX.o.cell 1;simp at x0 x1;go_simp
   have hk:=hK.out (.agg #[.int .i64 0,.int .i64 0]) wr (by
    rw[HFD.o]
    exact⟨zh ((fun _=>rfl)),H1,H2,H3,H4,H5,H6,H7,H8,H9,H10,H11,H12,H13,H14,H15,H16,H17,H18,H19,H20,H21,H22,H23,H24,H25,H26,H27,H28,H29,H30,H31,H32,H33⟩)
   simp only[wAg,wAa,wAb,wAc] at hk;exact hk
  ·intro l v wr hn hdep hcl hF K hK;rw[HFD.o] at hF;obtain⟨H0,H1,H2,H3,H4,H5,H6,H7,H8,H9,H10,H11,H12,H13,H14,H15,H16,H17,H18,H19,H20,H21,H22,H23,H24,H25,H26,H27,H28,H29,H30,H31,H32,H33⟩:=hF;simp[wAd] at hdep;have HCL:=zh hcl;have HN:=zh hn;clear hcl hn;go_simp
   have hk:=hK.out (.agg #[.int .i64 0,.int .i64 0]) wr (by
    rw[HFD.o]
    exact⟨H0,zh ((fun _=>rfl)),H2,H3,H4,H5,H6,H7,H8,H9,H10,H11,H12,H13,H14,H15,H16,H17,H18,H19,H20,H21,H22,H23,H24,H25,H26,H27,H28,H29,H30,H31,H32,H33⟩)
   simp only[wAg,wAa,wAb,wAc] at hk;exact hk
  ·intro l v wr hn hdep hcl hF K hK;rw[HFD.o] at hF;obtain⟨H0,H1,H2,H3,H4,H5,H6,H7,H8,H9,H10,H11,H12,H13,H14,H15,H16,H17,H18,H19,H20,H21,H22,H23,H24,H25,H26,H27,H28,H29,H30,H31,H32,H33⟩:=hF;simp[wAd] at hdep;have HCL:=zh hcl;have HN:=zh hn;clear hcl hn;have e0:=H0.o (by simp[hdep]);have e1:=H1.o (by simp[hdep]);go_simp
   have hk:=hK.out (.bool true) wr (by
    rw[HFD.o]
    exact⟨H0,H1,zh ((fun _=>rfl)),H3,H4,H5,H6,H7,H8,H9,H10,H11,H12,H13,H14,H15,H16,H17,H18,H19,H20,H21,H22,H23,H24,H25,H26,H27,H28,H29,H30,H31,H32,H33⟩)
   simp only[wAg,wAa,wAb,wAc] at hk;simp only[e0,e1] at hk;exact hk
  ·intro l v wr hn hdep hcl hF K hK;rw[HFD.o] at hF;obtain⟨H0,H1,H2,H3,H4,H5,H6,H7,H8,H9,H10,H11,H12,H13,H14,H15,H16,H17,H18,H19,H20,H21,H22,H23,H24,H25,H26,H27,H28,H29,H30,H31,H32,H33⟩:=hF;simp[wAd] at hdep;have HCL:=zh hcl;have HN:=zh hn;clear hcl hn;have e2:=H2.o (by simp[hdep]);go_simp
   have hk:=hK.out (.bool true) wr (by
    rw[HFD.o]
    exact⟨H0,H1,H2,zh ((fun _=>rfl)),H4,H5,H6,H7,H8,H9,H10,H11,H12,H13,H14,H15,H16,H17,H18,H19,H20,H21,H22,H23,H24,H25,H26,H27,H28,H29,H30,H31,H32,H33⟩)
   simp only[wAg,wAa,wAb,wAc] at hk;simp only[e2] at hk;exact hk
  ·intro l v wr hn hdep hcl hF K hK;rw[HFD.o] at hF;obtain⟨H0,H1,H2,H3,H4,H5,H6,H7,H8,H9,H10,H11,H12,H13,H14,H15,H16,H17,H18,H19,H20,H21,H22,H23,H24,H25,H26,H27,H28,H29,H30,H31,H32,H33⟩:=hF;simp[wAd] at hdep;have HCL:=zh hcl;have HN:=zh hn;clear hcl hn;have e3:=H3.o (by simp[hdep]);have bX:=zh (bF2.o.below H33.o bF2.o.lt);have x0:=bX.o.cell 0;have x1:=bX.o.cell 1;simp at x0 x1;go_simp
   have hk:=hK.out (.agg #[.int .i64 0,.int .i64 0]) wr (by
    rw[HFD.o]
    exact⟨H0,H1,H2,H3,zh ((fun _=>rfl)),H5,H6,H7,H8,H9,H10,H11,H12,H13,H14,H15,H16,H17,H18,H19,H20,H21,H22,H23,H24,H25,H26,H27,H28,H29,H30,H31,H32,H33⟩)
   simp only[wAg,wAa,wAb,wAc] at hk;simp only[e3] at hk;exact hk
  ·intro l v wr hn hdep hcl hF K hK;rw[HFD.o] at hF;obtain⟨H0,H1,H2,H3,H4,H5,H6,H7,H8,H9,H10,H11,H12,H13,H14,H15,H16,H17,H18,H19,H20,H21,H22,H23,H24,H25,H26,H27,H28,H29,H30,H31,H32,H33⟩:=hF;simp[wAd] at hdep;have HCL:=zh hcl;have HN:=zh hn;clear hcl hn;have e3:=H3.o (by simp[hdep]);go_simp
   have hk:=hK.out (.agg #[.int .i64 0,.int .i64 0]) wr (by
    rw[HFD.o]
    exact⟨H0,H1,H2,H3,H4,zh ((fun _=>rfl)),H6,H7,H8,H9,H10,H11,H12,H13,H14,H15,H16,H17,H18,H19,H20,H21,H22,H23,H24,H25,H26,H27,H28,H29,H30,H31,H32,H33⟩)
   simp only[wAg,wAa,wAb,wAc] at hk;simp only[e3] at hk;exact hk
  ·intro l v wr hn hdep hcl hF K hK;rw[HFD.o] at hF;obtain⟨H0,H1,H2,H3,H4,H5,H6,H7,H8,H9,H10,H11,H12,H13,H14,H15,H16,H17,H18,H19,H20,H21,H22,H23,H24,H25,H26,H27,H28,H29,H30,H31,H32,H33⟩:=hF;simp[wAd] at hdep;have HCL:=zh hcl;have HN:=zh hn;clear hcl hn;have e3:=H3.o (by simp[hdep]);have e4:=H4.o (by simp[hdep]);have e5:=H5.o (by simp[hdep]);go_simp
   have hk:=hK.out (.bool true) wr (by
    rw[HFD.o]
    exact⟨H0,H1,H2,H3,H4,H5,zh ((fun _=>rfl)),H7,H8,H9,H10,H11,H12,H13,H14,H15,H16,H17,H18,H19,H20,H21,H22,H23,H24,H25,H26,H27,H28,H29,H30,H31,H32,H33⟩)
   simp only[wAg,wAa,wAb,wAc] at hk;simp only[e3,e4,e5] at hk;exact hk
  ·intro l v wr hn hdep hcl hF K hK;rw[HFD.o] at hF;obtain⟨H0,H1,H2,H3,H4,H5,H6,H7,H8,H9,H10,H11,H12,H13,H14,H15,H16,H17,H18,H19,H20,H21,H22,H23,H24,H25,H26,H27,H28,H29,H30,H31,H32,H33⟩:=hF;simp[wAd] at hdep;have HCL:=zh hcl;have HN:=zh hn;clear hcl hn;have e3:=H3.o (by simp[hdep]);have e6:=H6.o (by simp[hdep]);go_simp
   have hk:=hK.out (.bool true) wr (by
    rw[HFD.o]
    exact⟨H0,H1,H2,H3,H4,H5,H6,zh ((fun _=>rfl)),H8,H9,H10,H11,H12,H13,H14,H15,H16,H17,H18,H19,H20,H21,H22,H23,H24,H25,H26,H27,H28,H29,H30,H31,H32,H33⟩)
   simp only[wAg,wAa,wAb,wAc] at hk;simp only[e3,e6] at hk;exact hk
  ·intro l v wr hn hdep hcl hF K hK;rw[HFD.o] at hF;obtain⟨H0,H1,H2,H3,H4,H5,H6,H7,H8,H9,H10,H11,H12,H13,H14,H15,H16,H17,H18,H19,H20,H21,H22,H23,H24,H25,H26,H27,H28,H29,H30,H31,H32,H33⟩:=hF;simp[wAd] at hdep;have HCL:=zh hcl;have HN:=zh hn;clear hcl hn;have e7:=H7.o (by simp[hdep]);go_simp
   have hk:=hK.out (.bool true) wr (by
    rw[HFD.o]
    exact⟨H0,H1,H2,H3,H4,H5,H6,H7,zh ((fun _=>rfl)),H9,H10,H11,H12,H13,H14,H15,H16,H17,H18,H19,H20,H21,H22,H23,H24,H25,H26,H27,H28,H29,H30,H31,H32,H33⟩)
   simp only[wAg,wAa,wAb,wAc] at hk;simp only[e7] at hk;exact hk
  ·intro l v wr hn hdep hcl hF K hK;rw[HFD.o] at hF;obtain⟨H0,H1,H2,H3,H4,H5,H6,H7,H8,H9,H10,H11,H12,H13,H14,H15,H16,H17,H18,H19,H20,H21,H22,H23,H24,H25,H26,H27,H28,H29,H30,H31,H32,H33⟩:=hF;simp[wAd] at hdep;have HCL:=zh hcl;have HN:=zh hn;clear hcl hn;have e8:=H8.o (by simp[hdep]);have bX:=zh (bF3.o.below H33.o bF3.o.lt);have x0:=bX.o.cell 0;have x1:=bX.o.cell 1;simp at x0 x1;go_simp
   have hk:=hK.out (.agg #[.int .i64 0,.int .i64 0]) wr (by
    rw[HFD.o]
    exact⟨H0,H1,H2,H3,H4,H5,H6,H7,H8,zh ((fun _=>rfl)),H10,H11,H12,H13,H14,H15,H16,H17,H18,H19,H20,H21,H22,H23,H24,H25,H26,H27,H28,H29,H30,H31,H32,H33⟩)
   simp only[wAg,wAa,wAb,wAc] at hk;simp only[e8] at hk;exact hk
  ·intro l v wr hn hdep hcl hF K hK;rw[HFD.o] at hF;obtain⟨H0,H1,H2,H3,H4,H5,H6,H7,H8,H9,H10,H11,H12,H13,H14,H15,H16,H17,H18,H19,H20,H21,H22,H23,H24,H25,H26,H27,H28,H29,H30,H31,H32,H33⟩:=hF;simp[wAd] at hdep;have HCL:=zh hcl;have HN:=zh hn;clear hcl hn;have e8:=H8.o (by simp[hdep]);go_simp
   have hk:=hK.out (.agg #[.int .i64 0,.int .i64 0]) wr (by
    rw[HFD.o]
    exact⟨H0,H1,H2,H3,H4,H5,H6,H7,H8,H9,zh ((fun _=>rfl)),H11,H12,H13,H14,H15,H16,H17,H18,H19,H20,H21,H22,H23,H24,H25,H26,H27,H28,H29,H30,H31,H32,H33⟩)
   simp only[wAg,wAa,wAb,wAc] at hk;simp only[e8] at hk;exact hk
  ·intro l v wr hn hdep hcl hF K hK;rw[HFD.o] at hF;obtain⟨H0,H1,H2,H3,H4,H5,H6,H7,H8,H9,H10,H11,H12,H13,H14,H15,H16,H17,H18,H19,H20,H21,H22,H23,H24,H25,H26,H27,H28,H29,H30,H31,H32,H33⟩:=hF;simp[wAd] at hdep;have HCL:=zh hcl;have HN:=zh hn;clear hcl hn;have e8:=H8.o (by simp[hdep]);have e9:=H9.o (by simp[hdep]);have e10:=H10.o (by simp[hdep]);go_simp
   have hk:=hK.out (.bool true) wr (by
    rw[HFD.o]
    exact⟨H0,H1,H2,H3,H4,H5,H6,H7,H8,H9,H10,zh ((fun _=>rfl)),H12,H13,H14,H15,H16,H17,H18,H19,H20,H21,H22,H23,H24,H25,H26,H27,H28,H29,H30,H31,H32,H33⟩)
   simp only[wAg,wAa,wAb,wAc] at hk;simp only[e8,e9,e10] at hk;exact hk
  ·intro l v wr hn hdep hcl hF K hK;rw[HFD.o] at hF;obtain⟨H0,H1,H2,H3,H4,H5,H6,H7,H8,H9,H10,H11,H12,H13,H14,H15,H16,H17,H18,H19,H20,H21,H22,H23,H24,H25,H26,H27,H28,H29,H30,H31,H32,H33⟩:=hF;simp[wAd] at hdep;have HCL:=zh hcl;have HN:=zh hn;clear hcl hn;have e8:=H8.o (by simp[hdep]);have e11:=H11.o (by simp[hdep]);go_simp
   have hk:=hK.out (.bool true) wr (by
    rw[HFD.o]
    exact⟨H0,H1,H2,H3,H4,H5,H6,H7,H8,H9,H10,H11,zh ((fun _=>rfl)),H13,H14,H15,H16,H17,H18,H19,H20,H21,H22,H23,H24,H25,H26,H27,H28,H29,H30,H31,H32,H33⟩)
   simp only[wAg,wAa,wAb,wAc] at hk;simp only[e8,e11] at hk;exact hk
  ·intro l v wr hn hdep hcl hF K hK;rw[HFD.o] at hF;obtain⟨H0,H1,H2,H3,H4,H5,H6,H7,H8,H9,H10,H11,H12,H13,H14,H15,H16,H17,H18,H19,H20,H21,H22,H23,H24,H25,H26,H27,H28,H29,H30,H31,H32,H33⟩:=hF;simp[wAd] at hdep;have HCL:=zh hcl;have HN:=zh hn;clear hcl hn;have e12:=H12.o (by simp[hdep]);go_simp
   have hk:=hK.out (.bool true) wr (by
    rw[HFD.o]
    exact⟨H0,H1,H2,H3,H4,H5,H6,H7,H8,H9,H10,H11,H12,zh ((fun _=>rfl)),H14,H15,H16,H17,H18,H19,H20,H21,H22,H23,H24,H25,H26,H27,H28,H29,H30,H31,H32,H33⟩)
   simp only[wAg,wAa,wAb,wAc] at hk;simp only[e12] at hk;exact hk
  ·intro l v wr hn hdep hcl hF K hK;rw[HFD.o] at hF;obtain⟨H0,H1,H2,H3,H4,H5,H6,H7,H8,H9,H10,H11,H12,H13,H14,H15,H16,H17,H18,H19,H20,H21,H22,H23,H24,H25,H26,H27,H28,H29,H30,H31,H32,H33⟩:=hF;simp[wAd] at hdep;have HCL:=zh hcl;have HN:=zh hn;clear hcl hn;have e13:=H13.o (by simp[hdep]);have bX:=zh (bS1.o.below H33.o bS1.o.lt);have x0:=bX.o.cell 0;have x1:=bX.o.cell 1;have x2:=bX.o.cell 2;simp at x0 x1 x2;go_simp
   have hk:=hK.out (.agg #[.int .i64 letM.n,.slice A3 n3 c3,.slice AF3 nf3 cf3]) wr (by
    rw[HFD.o]
    exact⟨H0,H1,H2,H3,H4,H5,H6,H7,H8,H9,H10,H11,H12,H13,zh ((fun _=>rfl)),H15,H16,H17,H18,H19,H20,H21,H22,H23,H24,H25,H26,H27,H28,H29,H30,H31,H32,H33⟩)
   simp only[wAg,wAa,wAb,wAc] at hk;simp only[e13] at hk;exact hk
  ·intro l v wr hn hdep hcl hF K hK;rw[HFD.o] at hF;obtain⟨H0,H1,H2,H3,H4,H5,H6,H7,H8,H9,H10,H11,H12,H13,H14,H15,H16,H17,H18,H19,H20,H21,H22,H23,H24,H25,H26,H27,H28,H29,H30,H31,H32,H33⟩:=hF;simp[wAd] at hdep;have HCL:=zh hcl;have HN:=zh hn;clear hcl hn;have e13:=H13.o (by simp[hdep]);go_simp;refine (zBU _).mono ?_;rintro e w9 ⟨v9,rfl,hm9,hb9⟩;obtain⟨A9,n9,c9,AF9,nf9,cf9,rfl⟩:=zBd hm9
   have hk:=hK.out (.agg #[.int .i64 letM.n,.slice A9 n9 c9,.slice AF9 nf9 cf9]) w9 (by
    rw[HFD.o]
    exact⟨H0,H1,H2,H3,H4,H5,H6,H7,H8,H9,H10,H11,H12,H13,H14,zh ((fun _=>⟨A9,n9,c9,AF9,nf9,cf9,rfl,hm9.at_⟩)),H16,H17,H18,H19,zh ((fun h=>by obtain⟨A,n,c,AF,nf,cf,h1,h2⟩:=H20.o h;exact⟨A,n,c,AF,nf,cf,h1,(h2.below hb9 (wAe _)).mono (hb9).size⟩)),H21,H22,H23,H24,H25,zh ((fun h=>by obtain⟨g,h1,h2⟩:=H26.o h;exact⟨g,h1,h2.below hb9 h2.lt⟩)),H27,zh ((fun h=>by obtain⟨g,h1,h2⟩:=H28.o h;exact⟨g,h1,h2.below hb9 h2.lt⟩)),H29,H30,H31,H32,zh (H33.o.trans ((hb9).mono H33.o.size))⟩)
   simp only[wAg,wAa,wAb,wAc] at hk;simp only[e13] at hk;exact hk
  ·intro l v wr hn hdep hcl hF K hK;rw[HFD.o] at hF;obtain⟨H0,H1,H2,H3,H4,H5,H6,H7,H8,H9,H10,H11,H12,H13,H14,H15,H16,H17,H18,H19,H20,H21,H22,H23,H24,H25,H26,H27,H28,H29,H30,H31,H32,H33⟩:=hF;simp[wAd] at hdep;have HCL:=zh hcl;have HN:=zh hn;clear hcl hn;have e13:=H13.o (by simp[hdep]);have e14:=H14.o (by simp[hdep]);obtain⟨A8,n8,c8,AF8,nf8,cf8,e15,hm8⟩:=H15.o (by simp[hdep]);have HM8:=zh hm8;clear hm8;have HDL:=zh (show decide (letM=letM)=true from decide_eq_true rfl);go_simp;refine (zA2 _ _ letM letM wr _ (wAe _) ((HD1.o.below H33.o (wAe _)).mono H33.o.size) HM8.o).mono ?_;rintro e w9 ⟨rfl,hb9⟩;rw[HDL.o]
   have hk:=hK.out (.bool true) w9 (by
    rw[HFD.o]
    exact⟨H0,H1,H2,H3,H4,H5,H6,H7,H8,H9,H10,H11,H12,H13,H14,zh ((fun h=>by obtain⟨A,n,c,AF,nf,cf,h1,h2⟩:=H15.o h;exact⟨A,n,c,AF,nf,cf,h1,(h2.below hb9 (wAe _)).mono (hb9).size⟩)),zh ((fun _=>rfl)),H17,H18,H19,zh ((fun h=>by obtain⟨A,n,c,AF,nf,cf,h1,h2⟩:=H20.o h;exact⟨A,n,c,AF,nf,cf,h1,(h2.below hb9 (wAe _)).mono (hb9).size⟩)),H21,H22,H23,H24,H25,zh ((fun h=>by obtain⟨g,h1,h2⟩:=H26.o h;exact⟨g,h1,h2.below hb9 h2.lt⟩)),H27,zh ((fun h=>by obtain⟨g,h1,h2⟩:=H28.o h;exact⟨g,h1,h2.below hb9 h2.lt⟩)),H29,H30,H31,H32,zh (H33.o.trans ((hb9).mono H33.o.size))⟩)
   simp only[wAg,wAa,wAb,wAc] at hk;simp only[e13,e14] at hk;simp only[e15] at hk;exact hk
  ·intro l v wr hn hdep hcl hF K hK;rw[HFD.o] at hF;obtain⟨H0,H1,H2,H3,H4,H5,H6,H7,H8,H9,H10,H11,H12,H13,H14,H15,H16,H17,H18,H19,H20,H21,H22,H23,H24,H25,H26,H27,H28,H29,H30,H31,H32,H33⟩:=hF;simp[wAd] at hdep;have HCL:=zh hcl;have HN:=zh hn;clear hcl hn;have e13:=H13.o (by simp[hdep]);have e16:=H16.o (by simp[hdep]);go_simp
   have hk:=hK.out (.bool true) wr (by
    rw[HFD.o]
    exact⟨H0,H1,H2,H3,H4,H5,H6,H7,H8,H9,H10,H11,H12,H13,H14,H15,H16,zh ((fun _=>rfl)),H18,H19,H20,H21,H22,H23,H24,H25,H26,H27,H28,H29,H30,H31,H32,H33⟩)
   simp only[wAg,wAa,wAb,wAc] at hk;simp only[e13,e16] at hk;exact hk
  ·intro l v wr hn hdep hcl hF K hK;rw[HFD.o] at hF;obtain⟨H0,H1,H2,H3,H4,H5,H6,H7,H8,H9,H10,H11,H12,H13,H14,H15,H16,H17,H18,H19,H20,H21,H22,H23,H24,H25,H26,H27,H28,H29,H30,H31,H32,H33⟩:=hF;simp[wAd] at hdep;have HCL:=zh hcl;have HN:=zh hn;clear hcl hn;have e17:=H17.o (by simp[hdep]);go_simp
   have hk:=hK.out (.bool true) wr (by
    rw[HFD.o]
    exact⟨H0,H1,H2,H3,H4,H5,H6,H7,H8,H9,H10,H11,H12,H13,H14,H15,H16,H17,zh ((fun _=>rfl)),H19,H20,H21,H22,H23,H24,H25,H26,H27,H28,H29,H30,H31,H32,H33⟩)
   simp only[wAg,wAa,wAb,wAc] at hk;simp only[e17] at hk;exact hk
  ·intro l v wr hn hdep hcl hF K hK;rw[HFD.o] at hF;obtain⟨H0,H1,H2,H3,H4,H5,H6,H7,H8,H9,H10,H11,H12,H13,H14,H15,H16,H17,H18,H19,H20,H21,H22,H23,H24,H25,H26,H27,H28,H29,H30,H31,H32,H33⟩:=hF;simp[wAd] at hdep;have HCL:=zh hcl;have HN:=zh hn;clear hcl hn;have e18:=H18.o (by simp[hdep]);have bX:=zh (bS2.o.below H33.o bS2.o.lt);have x0:=bX.o.cell 0;have x1:=bX.o.cell 1;have x2:=bX.o.cell 2;simp at x0 x1 x2;go_simp
   have hk:=hK.out (.agg #[.int .i64 letM.n,.slice A5 n5 c5,.slice AF5 nf5 cf5]) wr (by
    rw[HFD.o]
    exact⟨H0,H1,H2,H3,H4,H5,H6,H7,H8,H9,H10,H11,H12,H13,H14,H15,H16,H17,H18,zh ((fun _=>rfl)),H20,H21,H22,H23,H24,H25,H26,H27,H28,H29,H30,H31,H32,H33⟩)
   simp only[wAg,wAa,wAb,wAc] at hk;simp only[e18] at hk;exact hk
  ·intro l v wr hn hdep hcl hF K hK;rw[HFD.o] at hF;obtain⟨H0,H1,H2,H3,H4,H5,H6,H7,H8,H9,H10,H11,H12,H13,H14,H15,H16,H17,H18,H19,H20,H21,H22,H23,H24,H25,H26,H27,H28,H29,H30,H31,H32,H33⟩:=hF;simp[wAd] at hdep;have HCL:=zh hcl;have HN:=zh hn;clear hcl hn;have e18:=H18.o (by simp[hdep]);go_simp;refine (zBU _).mono ?_;rintro e w9 ⟨v9,rfl,hm9,hb9⟩;obtain⟨A9,n9,c9,AF9,nf9,cf9,rfl⟩:=zBd hm9
   have hk:=hK.out (.agg #[.int .i64 letM.n,.slice A9 n9 c9,.slice AF9 nf9 cf9]) w9 (by
    rw[HFD.o]
    exact⟨H0,H1,H2,H3,H4,H5,H6,H7,H8,H9,H10,H11,H12,H13,H14,zh ((fun h=>by obtain⟨A,n,c,AF,nf,cf,h1,h2⟩:=H15.o h;exact⟨A,n,c,AF,nf,cf,h1,(h2.below hb9 (wAe _)).mono (hb9).size⟩)),H16,H17,H18,H19,zh ((fun _=>⟨A9,n9,c9,AF9,nf9,cf9,rfl,hm9.at_⟩)),H21,H22,H23,H24,H25,zh ((fun h=>by obtain⟨g,h1,h2⟩:=H26.o h;exact⟨g,h1,h2.below hb9 h2.lt⟩)),H27,zh ((fun h=>by obtain⟨g,h1,h2⟩:=H28.o h;exact⟨g,h1,h2.below hb9 h2.lt⟩)),H29,H30,H31,H32,zh (H33.o.trans ((hb9).mono H33.o.size))⟩)
   simp only[wAg,wAa,wAb,wAc] at hk;simp only[e18] at hk;exact hk
  ·intro l v wr hn hdep hcl hF K hK;rw[HFD.o] at hF;obtain⟨H0,H1,H2,H3,H4,H5,H6,H7,H8,H9,H10,H11,H12,H13,H14,H15,H16,H17,H18,H19,H20,H21,H22,H23,H24,H25,H26,H27,H28,H29,H30,H31,H32,H33⟩:=hF;simp[wAd] at hdep;have HCL:=zh hcl;have HN:=zh hn;clear hcl hn;have e18:=H18.o (by simp[hdep]);have e19:=H19.o (by simp[hdep]);obtain⟨A8,n8,c8,AF8,nf8,cf8,e20,hm8⟩:=H20.o (by simp[hdep]);have HM8:=zh hm8;clear hm8;have HDL:=zh (show decide (letM=letM)=true from decide_eq_true rfl);go_simp;refine (zA2 _ _ letM letM wr _ (wAe _) ((HD2.o.below H33.o (wAe _)).mono H33.o.size) HM8.o).mono ?_;rintro e w9 ⟨rfl,hb9⟩;rw[HDL.o]
   have hk:=hK.out (.bool true) w9 (by
    rw[HFD.o]
    exact⟨H0,H1,H2,H3,H4,H5,H6,H7,H8,H9,H10,H11,H12,H13,H14,zh ((fun h=>by obtain⟨A,n,c,AF,nf,cf,h1,h2⟩:=H15.o h;exact⟨A,n,c,AF,nf,cf,h1,(h2.below hb9 (wAe _)).mono (hb9).size⟩)),H16,H17,H18,H19,zh ((fun h=>by obtain⟨A,n,c,AF,nf,cf,h1,h2⟩:=H20.o h;exact⟨A,n,c,AF,nf,cf,h1,(h2.below hb9 (wAe _)).mono (hb9).size⟩)),zh ((fun _=>rfl)),H22,H23,H24,H25,zh ((fun h=>by obtain⟨g,h1,h2⟩:=H26.o h;exact⟨g,h1,h2.below hb9 h2.lt⟩)),H27,zh ((fun h=>by obtain⟨g,h1,h2⟩:=H28.o h;exact⟨g,h1,h2.below hb9 h2.lt⟩)),H29,H30,H31,H32,zh (H33.o.trans ((hb9).mono H33.o.size))⟩)
   simp only[wAg,wAa,wAb,wAc] at hk;simp only[e18,e19] at hk;simp only[e20] at hk;exact hk
  ·intro l v wr hn hdep hcl hF K hK;rw[HFD.o] at hF;obtain⟨H0,H1,H2,H3,H4,H5,H6,H7,H8,H9,H10,H11,H12,H13,H14,H15,H16,H17,H18,H19,H20,H21,H22,H23,H24,H25,H26,H27,H28,H29,H30,H31,H32,H33⟩:=hF;simp[wAd] at hdep;have HCL:=zh hcl;have HN:=zh hn;clear hcl hn;have e18:=H18.o (by simp[hdep]);have e21:=H21.o (by simp[hdep]);go_simp
   have hk:=hK.out (.bool true) wr (by
    rw[HFD.o]
    exact⟨H0,H1,H2,H3,H4,H5,H6,H7,H8,H9,H10,H11,H12,H13,H14,H15,H16,H17,H18,H19,H20,H21,zh ((fun _=>rfl)),H23,H24,H25,H26,H27,H28,H29,H30,H31,H32,H33⟩)
   simp only[wAg,wAa,wAb,wAc] at hk;simp only[e18,e21] at hk;exact hk
  ·intro l v wr hn hdep hcl hF K hK;rw[HFD.o] at hF;obtain⟨H0,H1,H2,H3,H4,H5,H6,H7,H8,H9,H10,H11,H12,H13,H14,H15,H16,H17,H18,H19,H20,H21,H22,H23,H24,H25,H26,H27,H28,H29,H30,H31,H32,H33⟩:=hF;simp[wAd] at hdep;have HCL:=zh hcl;have HN:=zh hn;clear hcl hn;have e22:=H22.o (by simp[hdep]);go_simp
   have hk:=hK.out (.bool true) wr (by
    rw[HFD.o]
    exact⟨H0,H1,H2,H3,H4,H5,H6,H7,H8,H9,H10,H11,H12,H13,H14,H15,H16,H17,H18,H19,H20,H21,H22,zh ((fun _=>rfl)),H24,H25,H26,H27,H28,H29,H30,H31,H32,H33⟩)
   simp only[wAg,wAa,wAb,wAc] at hk;simp only[e22] at hk;exact hk
  ·intro l v wr hn hdep hcl hF K hK;rw[HFD.o] at hF;obtain⟨H0,H1,H2,H3,H4,H5,H6,H7,H8,H9,H10,H11,H12,H13,H14,H15,H16,H17,H18,H19,H20,H21,H22,H23,H24,H25,H26,H27,H28,H29,H30,H31,H32,H33⟩:=hF;simp[wAd] at hdep;have HCL:=zh hcl;have HN:=zh hn;clear hcl hn;have e23:=H23.o (by simp[hdep]);have bX:=zh (bS3.o.below H33.o bS3.o.lt);have x0:=bX.o.cell 0;have x1:=bX.o.cell 1;have x2:=bX.o.cell 2;simp at x0 x1 x2;go_simp
   have hk:=hK.out (.agg #[.int .i64 oneM.n,.slice A7 n7 c7,.slice AF7 nf7 cf7]) wr (by
    rw[HFD.o]
    exact⟨H0,H1,H2,H3,H4,H5,H6,H7,H8,H9,H10,H11,H12,H13,H14,H15,H16,H17,H18,H19,H20,H21,H22,H23,zh ((fun _=>rfl)),H25,H26,H27,H28,H29,H30,H31,H32,H33⟩)
   simp only[wAg,wAa,wAb,wAc] at hk;simp only[e23] at hk;exact hk
  ·intro l v wr hn hdep hcl hF K hK;rw[HFD.o] at hF;obtain⟨H0,H1,H2,H3,H4,H5,H6,H7,H8,H9,H10,H11,H12,H13,H14,H15,H16,H17,H18,H19,H20,H21,H22,H23,H24,H25,H26,H27,H28,H29,H30,H31,H32,H33⟩:=hF;simp[wAd] at hdep;have HCL:=zh hcl;have HN:=zh hn;clear hcl hn;have e23:=H23.o (by simp[hdep]);go_simp
   have hk:=hK.out (.agg #[.int .i64 0,.int .i64 0,.int .i64 97,.int .i64 97,.int .i64 0]) wr (by
    rw[HFD.o]
    exact⟨H0,H1,H2,H3,H4,H5,H6,H7,H8,H9,H10,H11,H12,H13,H14,H15,H16,H17,H18,H19,H20,H21,H22,H23,H24,zh ((fun _=>rfl)),H26,H27,H28,H29,H30,H31,H32,H33⟩)
   simp only[wAg,wAa,wAb,wAc] at hk;simp only[e23] at hk;exact hk
  ·intro l v wr hn hdep hcl hF K hK;rw[HFD.o] at hF;obtain⟨H0,H1,H2,H3,H4,H5,H6,H7,H8,H9,H10,H11,H12,H13,H14,H15,H16,H17,H18,H19,H20,H21,H22,H23,H24,H25,H26,H27,H28,H29,H30,H31,H32,H33⟩:=hF;simp[wAd] at hdep;have HCL:=zh hcl;have HN:=zh hn;clear hcl hn;have e23:=H23.o (by simp[hdep]);have e25:=H25.o (by simp[hdep]);have HBA:=zh (show Below wr.heap.size wr (wr.alloc (.cells #[.int .i64 0,.int .i64 0,.int .i64 97,.int .i64 97,.int .i64 0] 64)) from (Below.refl _ _).alloc (wAe _) _);go_simp
   have hk:=hK.out (.slice (some ⟨wr.heap.size,0,none⟩) 1 1) (wr.alloc (.cells #[.int .i64 0,.int .i64 0,.int .i64 97,.int .i64 97,.int .i64 0] 64)) (by
    rw[HFD.o]
    exact⟨H0,H1,H2,H3,H4,H5,H6,H7,H8,H9,H10,H11,H12,H13,H14,zh ((fun h=>by obtain⟨A,n,c,AF,nf,cf,h1,h2⟩:=H15.o h;exact⟨A,n,c,AF,nf,cf,h1,(h2.below HBA.o (wAe _)).mono (HBA.o).size⟩)),H16,H17,H18,H19,zh ((fun h=>by obtain⟨A,n,c,AF,nf,cf,h1,h2⟩:=H20.o h;exact⟨A,n,c,AF,nf,cf,h1,(h2.below HBA.o (wAe _)).mono (HBA.o).size⟩)),H21,H22,H23,H24,H25,zh ((fun _=>⟨wr.heap.size,rfl,wAh rfl⟩)),H27,zh ((fun h=>by obtain⟨g,h1,h2⟩:=H28.o h;exact⟨g,h1,h2.below HBA.o h2.lt⟩)),zh ((fun h=>absurd (HCL.o 29 _ rfl h ⟨26,.data⟩ (by simp) rfl) (by rw[HN.o];decide))),H30,H31,H32,zh (H33.o.trans ((HBA.o).mono H33.o.size))⟩)
   simp only[wAg,wAa,wAb,wAc] at hk;simp only[e23,e25] at hk;exact hk
  ·intro l v wr hn hdep hcl hF K hK;rw[HFD.o] at hF;obtain⟨H0,H1,H2,H3,H4,H5,H6,H7,H8,H9,H10,H11,H12,H13,H14,H15,H16,H17,H18,H19,H20,H21,H22,H23,H24,H25,H26,H27,H28,H29,H30,H31,H32,H33⟩:=hF;simp[wAd] at hdep;have HCL:=zh hcl;have HN:=zh hn;clear hcl hn;have e23:=H23.o (by simp[hdep]);go_simp
   have hk:=hK.out (.agg #[.int .i64 0,.int .i64 0]) wr (by
    rw[HFD.o]
    exact⟨H0,H1,H2,H3,H4,H5,H6,H7,H8,H9,H10,H11,H12,H13,H14,H15,H16,H17,H18,H19,H20,H21,H22,H23,H24,H25,H26,zh ((fun _=>rfl)),H28,H29,H30,H31,H32,H33⟩)
   simp only[wAg,wAa,wAb,wAc] at hk;simp only[e23] at hk;exact hk
  ·intro l v wr hn hdep hcl hF K hK;rw[HFD.o] at hF;obtain⟨H0,H1,H2,H3,H4,H5,H6,H7,H8,H9,H10,H11,H12,H13,H14,H15,H16,H17,H18,H19,H20,H21,H22,H23,H24,H25,H26,H27,H28,H29,H30,H31,H32,H33⟩:=hF;simp[wAd] at hdep;have HCL:=zh hcl;have HN:=zh hn;clear hcl hn;have e23:=H23.o (by simp[hdep]);have e27:=H27.o (by simp[hdep]);have HBA:=zh (show Below wr.heap.size wr (wr.alloc (.cells #[.int .i64 0,.int .i64 0] 69)) from (Below.refl _ _).alloc (wAe _) _);go_simp
   have hk:=hK.out (.slice (some ⟨wr.heap.size,0,none⟩) 1 1) (wr.alloc (.cells #[.int .i64 0,.int .i64 0] 69)) (by
    rw[HFD.o]
    exact⟨H0,H1,H2,H3,H4,H5,H6,H7,H8,H9,H10,H11,H12,H13,H14,zh ((fun h=>by obtain⟨A,n,c,AF,nf,cf,h1,h2⟩:=H15.o h;exact⟨A,n,c,AF,nf,cf,h1,(h2.below HBA.o (wAe _)).mono (HBA.o).size⟩)),H16,H17,H18,H19,zh ((fun h=>by obtain⟨A,n,c,AF,nf,cf,h1,h2⟩:=H20.o h;exact⟨A,n,c,AF,nf,cf,h1,(h2.below HBA.o (wAe _)).mono (HBA.o).size⟩)),H21,H22,H23,H24,H25,zh ((fun h=>by obtain⟨g,h1,h2⟩:=H26.o h;exact⟨g,h1,h2.below HBA.o h2.lt⟩)),H27,zh ((fun _=>⟨wr.heap.size,rfl,wAh rfl⟩)),zh ((fun h=>absurd (HCL.o 29 _ rfl h ⟨28,.data⟩ (by simp) rfl) (by rw[HN.o];decide))),H30,H31,H32,zh (H33.o.trans ((HBA.o).mono H33.o.size))⟩)
   simp only[wAg,wAa,wAb,wAc] at hk;simp only[e23,e27] at hk;exact hk
  ·intro l v wr hn hdep hcl hF K hK;rw[HFD.o] at hF;obtain⟨H0,H1,H2,H3,H4,H5,H6,H7,H8,H9,H10,H11,H12,H13,H14,H15,H16,H17,H18,H19,H20,H21,H22,H23,H24,H25,H26,H27,H28,H29,H30,H31,H32,H33⟩:=hF;simp[wAd] at hdep;have HCL:=zh hcl;have HN:=zh hn;clear hcl hn;have e23:=H23.o (by simp[hdep]);obtain⟨g,e26,hg⟩:=H26.o (by simp[hdep]);obtain⟨h,e28,hh⟩:=H28.o (by simp[hdep]);clear hg hh;go_simp
   have hk:=hK.out (.agg #[.int .i64 1,.slice (some ⟨g,0,none⟩) 1 1,.slice (some ⟨h,0,none⟩) 1 1]) wr (by
    rw[HFD.o]
    exact⟨H0,H1,H2,H3,H4,H5,H6,H7,H8,H9,H10,H11,H12,H13,H14,H15,H16,H17,H18,H19,H20,H21,H22,H23,H24,H25,H26,H27,H28,zh ((fun _=>⟨g,h,e26,e28,rfl⟩)),H30,H31,H32,H33⟩)
   simp only[wAg,wAa,wAb,wAc] at hk;simp only[e23] at hk;simp only[e26,e28] at hk;exact hk
  ·intro l v wr hn hdep hcl hF K hK;rw[HFD.o] at hF;obtain⟨H0,H1,H2,H3,H4,H5,H6,H7,H8,H9,H10,H11,H12,H13,H14,H15,H16,H17,H18,H19,H20,H21,H22,H23,H24,H25,H26,H27,H28,H29,H30,H31,H32,H33⟩:=hF;simp[wAd] at hdep;have HCL:=zh hcl;have HN:=zh hn;clear hcl hn;have e23:=H23.o (by simp[hdep]);have e24:=H24.o (by simp[hdep]);(have d29:l 29=true:=by simp[hdep]);have HG:=zh (H26.o (HCL.o 29 _ rfl d29 ⟨26,.data⟩ (by simp) rfl));have HH:=zh (H28.o (HCL.o 29 _ rfl d29 ⟨28,.data⟩ (by simp) rfl));obtain⟨g,h,e26,e28,e29⟩:=H29.o d29;obtain⟨g',e26',hg⟩:=HG.o;obtain⟨h',e28',hh⟩:=HH.o;rw[e26] at e26';rw[e28] at e28';(injection e26' with z1);(injection z1 with z1);(injection z1 with z1);(injection e28' with z2);(injection z2 with z2);(injection z2 with z2);subst z1 z2;have HM8:=zh (zSS hg hh);have HDL:=zh (show decide (oneM=oneM)=true from decide_eq_true rfl);clear hg hh d29 e26 e28;go_simp;refine (zA2 _ _ oneM oneM wr _ (wAe _) ((HD3.o.below H33.o (wAe _)).mono H33.o.size) HM8.o).mono ?_;rintro e w9 ⟨rfl,hb9⟩;rw[HDL.o]
   have hk:=hK.out (.bool true) w9 (by
    rw[HFD.o]
    exact⟨H0,H1,H2,H3,H4,H5,H6,H7,H8,H9,H10,H11,H12,H13,H14,zh ((fun h=>by obtain⟨A,n,c,AF,nf,cf,h1,h2⟩:=H15.o h;exact⟨A,n,c,AF,nf,cf,h1,(h2.below hb9 (wAe _)).mono (hb9).size⟩)),H16,H17,H18,H19,zh ((fun h=>by obtain⟨A,n,c,AF,nf,cf,h1,h2⟩:=H20.o h;exact⟨A,n,c,AF,nf,cf,h1,(h2.below hb9 (wAe _)).mono (hb9).size⟩)),H21,H22,H23,H24,H25,zh ((fun h=>by obtain⟨g,h1,h2⟩:=H26.o h;exact⟨g,h1,h2.below hb9 h2.lt⟩)),H27,zh ((fun h=>by obtain⟨g,h1,h2⟩:=H28.o h;exact⟨g,h1,h2.below hb9 h2.lt⟩)),H29,zh ((fun _=>rfl)),H31,H32,zh (H33.o.trans ((hb9).mono H33.o.size))⟩)
   simp only[wAg,wAa,wAb,wAc] at hk;simp only[e23,e24] at hk;simp only[e29] at hk;exact hk
  ·intro l v wr hn hdep hcl hF K hK;rw[HFD.o] at hF;obtain⟨H0,H1,H2,H3,H4,H5,H6,H7,H8,H9,H10,H11,H12,H13,H14,H15,H16,H17,H18,H19,H20,H21,H22,H23,H24,H25,H26,H27,H28,H29,H30,H31,H32,H33⟩:=hF;simp[wAd] at hdep;have HCL:=zh hcl;have HN:=zh hn;clear hcl hn;have e23:=H23.o (by simp[hdep]);have e30:=H30.o (by simp[hdep]);go_simp
   have hk:=hK.out (.bool true) wr (by
    rw[HFD.o]
    exact⟨H0,H1,H2,H3,H4,H5,H6,H7,H8,H9,H10,H11,H12,H13,H14,H15,H16,H17,H18,H19,H20,H21,H22,H23,H24,H25,H26,H27,H28,H29,H30,zh ((fun _=>rfl)),H32,H33⟩)
   simp only[wAg,wAa,wAb,wAc] at hk;simp only[e23,e30] at hk;exact hk
  ·intro l v wr hn hdep hcl hF K hK;rw[HFD.o] at hF;obtain⟨H0,H1,H2,H3,H4,H5,H6,H7,H8,H9,H10,H11,H12,H13,H14,H15,H16,H17,H18,H19,H20,H21,H22,H23,H24,H25,H26,H27,H28,H29,H30,H31,H32,H33⟩:=hF;simp[wAd] at hdep;have HCL:=zh hcl;have HN:=zh hn;clear hcl hn;have e31:=H31.o (by simp[hdep]);go_simp
   have hk:=hK.out (.bool true) wr (by
    rw[HFD.o]
    exact⟨H0,H1,H2,H3,H4,H5,H6,H7,H8,H9,H10,H11,H12,H13,H14,H15,H16,H17,H18,H19,H20,H21,H22,H23,H24,H25,H26,H27,H28,H29,H30,H31,zh ((fun _=>rfl)),H33⟩)
   simp only[wAg,wAa,wAb,wAc] at hk;simp only[e31] at hk;exact hk
end Go.Proofs.Ytkfdhpbnphojoaa
