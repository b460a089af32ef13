/- The texts MxW of this proof. No conditions. -/
import Derived.Test.YtopakcbhodnipaaCb11
import Derived.Test.YtopakcbhodnipaaCb25
import Derived.Test.YtopakcbhodnipaaCb26
import Derived.Test.YtopakcbhodnipaaCb27
import Derived.Test.YtopakcbhodnipaaCb28
import Derived.Test.YtopakcbhodnipaaDb1
import Derived.Test.YtopakcbhodnipaaDb3
/- Text MxW. -/
namespace Gm
open Go Go.RowKit
theorem own_arc1 {w : World} {g : Nat} {t : TypeId} {x : Arc} (h : Blk w g t #[.int .i64 x.f, .int .i64 x.t, .int .i64 x.i, .int .i64 x.o, .int .i64 x.w]) : w.ownsRow g t 5 (.slice (some ⟨g, 0, none⟩) 1 1) 1 (arcRow [x]) :=
 ⟨rfl, .inr ⟨g, 1, _, rfl, Nat.le_refl _, h, Nat.le_refl _, by simp [maxLen], rfl, rfl⟩⟩
theorem machAt_drew {w : World} {B : Nat} {v : Value} {m : Mach} (h : MachAt w B v m) : MachAt w.drew B v m := h.below ((Below.refl B w).drew) (Nat.le_refl _)
end Gm
namespace Go.Proofs.Ytopakcbhodnipaa
open Go.RowKit Gm
set_option linter.unusedSimpArgs false
set_option linter.unusedVariables false
theorem silw_all (va : Value) (m : Mach) (w : World) (B : Nat) (hB : B ≤ w.heap.size) (ha : MachAt w B va m) :
 Calls Try.prog 31 #[va] w fun e w' => ∃ v1, e = .returned (.tuple #[v1, .agg #[.int .i64 (silR m).2.1, .int .i64 (silR m).2.2]]) ∧ MachNew w.heap.size w' v1 (silR m).1 ∧ Below w.heap.size w w' := silw_any va m w B hB ha
theorem minim_any (va : Value) (m : Mach) (w : World) (B : Nat) (hB : B ≤ w.heap.size) (ha : MachAt w B va m) :
 Calls Try.prog 35 #[va] w fun e w' => ∃ v1, e = .returned (.tuple #[v1, .agg #[.int .i64 (minW m).2.1, .int .i64 (minW m).2.2]]) ∧ MachNew w.heap.size w' v1 (minW m).1 ∧ Below w.heap.size w w' := by
 by_cases h1 : (detW m).2 = (0, 0)
 ·
  by_cases h2 : (detW m).1.n = 0
  · exact minim_bad va m w B hB ha (.inr h2)
  · exact minim_ok va m w B hB ha h1 h2
 · exact minim_bad va m w B hB ha (.inl h1)
theorem silx_any (va : Value) (w : World) (B : Nat) (hB : B ≤ w.heap.size) (ha : MachAt w B va dblE) :
 Calls Try.prog 31 #[va] w fun e w' => ∃ v1, e = .returned (.tuple #[v1, .agg #[.int .i64 0, .int .i64 0]]) ∧ MachNew w.heap.size w' v1 dblS ∧ Below w.heap.size w w' := by
 have h := silw_all va dblE w B hB ha
 rw [dblE_sil] at h
 exact h
theorem detx_any (va : Value) (w : World) (B : Nat) (hB : B ≤ w.heap.size) (ha : MachAt w B va dblM) :
 Calls Try.prog 32 #[va] w fun e w' => ∃ v1, e = .returned (.tuple #[v1, .agg #[.int .i64 0, .int .i64 0]]) ∧ MachNew w.heap.size w' v1 letM ∧ Below w.heap.size w w' := by
 have h := deter_any va dblM w B hB ha
 rw [dblM_det] at h
 exact h
theorem minx_any (va : Value) (w : World) (B : Nat) (hB : B ≤ w.heap.size) (ha : MachAt w B va dblM) :
 Calls Try.prog 35 #[va] w fun e w' => ∃ v1, e = .returned (.tuple #[v1, .agg #[.int .i64 0, .int .i64 0]]) ∧ MachNew w.heap.size w' v1 letM ∧ Below w.heap.size w w' := by
 have h := minim_any va dblM w B hB ha
 rw [dblM_min] at h
 exact h
set_option maxRecDepth 100000 in
set_option maxHeartbeats 1000000 in
theorem doubled_any (w : World) : Calls Try.prog 22 #[] w fun e w' => ∃ v1, e = .returned v1 ∧ MachNew w.heap.size w' v1 dblM ∧ Below w.heap.size w w' := by
 go_enter Try.func22, Try.ntmps22
 go_wp2
 exact bodyPost_ret (v := .agg #[.int .i64 3, .slice (some ⟨w.heap.size + 1, 0, none⟩) 2 2, .slice (some ⟨w.heap.size + 1 + 1, 0, none⟩) 2 2]) (by simp [results, Try.results22, go_sem]) rfl
  ⟨_, rfl, MachNew.of_blk (m := dblM) (eA := 61) (eF := 63) ((Blk.at_ (by simp)).alloc _) (Blk.at_ (by simp)) (by omega) (by omega) (by decide) (by decide), by go_grown⟩
set_option maxRecDepth 100000 in
set_option maxHeartbeats 32000000 in
theorem minimized_any (w : World) : Calls Try.prog 30 #[] w fun e w' => e = .returned (.bool true) ∧ Below w.heap.size w w' := by
 obtain ⟨ia, ha0, ha1, ha2, ha3⟩ := info_parts arc_info
 have he := fun a b c d W => run_eql_fault a b c d W
 have hf0 : fEq 0 0 0 0 = true := rfl
 go_enter Try.func30, Try.ntmps30
 go_upto_region 2 with (go_at_call 22; refine (doubled_any _).mono ?_; rintro e w1 ⟨v1, rfl, hm1, hb1⟩; obtain ⟨A1, AF1, n1, c1, nf1, cf1, rfl, HN1, HF1, hnc1, hnfc1, hnb1, hnfb1, hA1, hF1⟩ := hm1.at_; have HA1 := hide hA1; have HD1 := hide hF1; have HB1 := hide hb1; clear hm1 hb1 hA1 hF1)
 generalize hW2 : World.alloc _ _ = W2
 obtain ⟨X, hX⟩ : ∃ z, z = w1.heap.size := ⟨_, rfl⟩
 have HX2 := hide (show Blk W2 X 28 #[.int .i64 dblM.n, .slice A1 n1 c1, .slice AF1 nf1 cf1] by rw [← hW2]; exact Blk.at_ hX)
 have HB12 := hide (show Below X w1 W2 by rw [← hW2]; exact (Below.refl _ _).alloc (by omega) _)
 have hn1 : n1 = 2 := HN1.out.symm
 subst hn1
 rw [← hX] at HA1 HD1
 have hwX : w.heap.size ≤ X := by have := HB1.out.size; omega
 have lX2 : X < W2.heap.size := HX2.out.lt
 simp only [← hX]
 clear hW2 hX
 have x0 := HX2.out.cell 0
 have x1 := HX2.out.cell 1
 have x2 := HX2.out.cell 2
 have xf1 := HX2.out.frozen 1
 simp at x0 x1 x2
 have P1 := hide (HX2.out.alloc (Obj.cells #[.int .i64 0, .int .i64 1, .int .i64 0, .int .i64 0, .int .i64 0] 61))
 have PO := hide (own_arc1 (x := ⟨0, 1, 0, 0, 0⟩) (Blk.at_ (w := W2) (g := W2.heap.size) (t := 61) (cs := #[.int .i64 0, .int .i64 1, .int .i64 0, .int .i64 0, .int .i64 0]) rfl))
 have PB := hide (HB12.out.alloc (by omega) (Obj.cells #[.int .i64 0, .int .i64 1, .int .i64 0, .int .i64 0, .int .i64 0] 61))
 have PR := hide (HA1.out.below PB.out (Nat.le_refl _))
 go_upto_region 3 with (at_builtin; go_loud (refine wpList_append_any _ rfl (.tmp 10) (.tmp 12) 25 rfl W2.heap.size 61 ia _ 5 40 Try.underlying25 ha0 ha1 ha2 ha3 rfl (by omega) (.slice (some ⟨W2.heap.size, 0, none⟩) 1 1) 1 _ rfl PO.out X A1 2 c1 (arcRow dblM.arcs) (arcCell dblM.arcs) rfl PR.out (fun h => by obtain ⟨_, _, e, _⟩ := PR.out (by omega); rw [h] at e; cases e) (by rfl) (fun i j hi hj => arcRow_at _ i j hi hj) (arcRow_one _) (by simp [maxLen]) (by omega) (by simp) ?_; intro v' w6 hown6 hg6 hat6; obtain ⟨A6, c6, rfl, hkc6, _⟩ := own_value hown6; have HOW6 := hide hown6; have HG6 := hide hg6; have x6 : w6.cell? ⟨X, 1, none⟩ = some (.slice A1 2 c1) := far_cell hg6 (by simp [Value.ownBlock]; omega) (P1.out.cell 1); have xf6 : w6.frozen? ⟨X, 1, none⟩ = false := far_free hg6 (by simp [Value.ownBlock]; omega) P1.out.lt (P1.out.frozen 1); have l6 : X < w6.heap.size := (by have := hg6.size; have := P1.out.lt; omega); clear hown6 hg6 hat6))
 have HX7 := hide ((P1.out.grown HG6.out (by simp [Value.ownBlock]; omega)).set_ 1 (.slice A6 3 c6))
 have HB17 := hide ((PB.out.grown HG6.out (by simp; omega) (fun z hz => by simp [Value.ownBlock] at hz; omega)).setCell (p := ⟨X, 1, none⟩) (by exact Nat.le_refl _) (.slice A6 3 c6))
 have HO7 := hide (ownsRow_setCell_below HOW6.out (a := ⟨X, 1, none⟩) (by exact lX2) (.slice A6 3 c6))
 generalize hW7 : World.setCell _ _ _ = W7
 rw [hW7] at HX7 HB17 HO7
 clear hW7 x6 xf6 l6 x0 x1 x2 xf1 PR PB PO P1 HOW6 HG6 HX2 HB12
 have HBW7 := hide (HB1.out.trans (HB17.out.mono hwX))
 have hX7 : X < W7.heap.size := HX7.out.lt
 have HMA := hide (show MachAt W7 W7.heap.size (.agg #[.int .i64 3, .slice A6 3 c6, .slice AF1 nf1 cf1]) dblE from
  ⟨A6, AF1, 3, c6, nf1, cf1, rfl, hide rfl, HF1, hkc6, hnfc1, by decide, hnfb1, Rd.of_own HO7.out (fun i j hi hj => arcRow_at dblE.arcs i j hi hj), (HD1.out.below HB17.out (Nat.le_refl _)).mono (by omega)⟩)
 have x0 := HX7.out.cell 0
 have x1 := HX7.out.cell 1
 have x2 := HX7.out.cell 2
 simp [dblM] at x0 x1 x2
 clear HB17 HO7 HA1 HD1 HX7 HB1
 go_upto_region 4 with (go_at_call 31; refine (silx_any _ W7 W7.heap.size (Nat.le_refl _) HMA.out).mono ?_; rintro e w8 ⟨v8, rfl, hm8, hb8⟩; obtain ⟨A8, AF8, n8, c8, nf8, cf8, rfl, HN8, HF8, _, _, _, _, _, _⟩ := hm8.at_; have HB8 := hide hb8; clear hm8 hb8)
 have hn8 : n8 = 2 := HN8.out.symm
 have hnf8 : nf8 = 3 := HF8.out.symm
 subst hn8 hnf8
 generalize hW9 : World.alloc _ _ = W9
 obtain ⟨S, hS⟩ : ∃ z, z = w8.heap.size := ⟨_, rfl⟩
 obtain ⟨F, hF⟩ : ∃ z, z = w8.heap.size + 1 := ⟨_, rfl⟩
 have bS := hide (show Blk W9 S 28 #[.int .i64 dblS.n, .slice A8 2 c8, .slice AF8 3 cf8] by rw [← hW9]; exact (Blk.at_ hS).alloc _)
 have bF := hide (show Blk W9 F 30 #[.int .i64 0, .int .i64 0] by rw [← hW9]; exact Blk.at_ (by simp [hF]))
 have q8 := hide (show Below w8.heap.size w8 W9 by rw [← hW9]; go_grown)
 simp only [← hF]
 try simp only [← hS]
 clear hW9 hS hF
 have HBW9 := hide (HBW7.out.trans ((HB8.out.trans (q8.out.mono HB8.out.size)).mono HBW7.out.size))
 clear HBW7 HB8 q8 HMA x0 x1 x2 hX7
 go_upto_region 5 with (first
  | (go_at_call 22; refine (doubled_any _).mono ?_; rintro e w10 ⟨v10, rfl, hm10, hb10⟩; obtain ⟨B1, BF1, p1, d1, pf1, df1, rfl⟩ := agg_of hm10; have HM10 := hide hm10; have HB10 := hide hb10; clear hm10 hb10)
  | (go_at_call 32; refine (detx_any _ w10 w10.heap.size (Nat.le_refl _) HM10.out.at_).mono ?_; rintro e w11 ⟨v11, rfl, hm11, hb11⟩; obtain ⟨A11, n11, c11, AF11, nf11, cf11, rfl⟩ := agg_of hm11; have HM11 := hide hm11; have HB11 := hide hb11; clear hm11 hb11))
 generalize hW12 : World.alloc _ _ = W12
 obtain ⟨U, hU⟩ : ∃ z, z = w11.heap.size := ⟨_, rfl⟩
 obtain ⟨G, hG⟩ : ∃ z, z = w11.heap.size + 1 := ⟨_, rfl⟩
 have bU := hide (show Blk W12 U 28 #[.int .i64 letM.n, .slice A11 n11 c11, .slice AF11 nf11 cf11] by rw [← hW12]; exact (Blk.at_ hU).alloc _)
 have bG := hide (show Blk W12 G 30 #[.int .i64 0, .int .i64 0] by rw [← hW12]; exact Blk.at_ (by simp [hG]))
 have q11 := hide (show Below w11.heap.size w11 W12 by rw [← hW12]; go_grown)
 simp only [← hG]
 try simp only [← hU]
 clear hW12 hU hG
 have HB912 := hide ((HB10.out.trans (HB11.out.mono HB10.out.size)).trans (q11.out.mono (by have := HB10.out.size; have := HB11.out.size; omega)))
 replace bS := hide (bS.out.below HB912.out bS.out.lt)
 replace bF := hide (bF.out.below HB912.out bF.out.lt)
 have HD12 := hide (HM11.out.at_.below q11.out (Nat.le_refl _))
 have HBW12 := hide (HBW9.out.trans (HB912.out.mono HBW9.out.size))
 have hz12 : w11.heap.size ≤ W12.heap.size := q11.out.size
 replace HD12 := hide (HD12.out.mono hz12)
 clear HM10 HM11 HB10 HB11 q11 HB912 HBW9 hz12
 go_upto_region 6 with (first
  | (go_at_call 22; refine (doubled_any _).mono ?_; rintro e w13 ⟨v13, rfl, hm13, hb13⟩; obtain ⟨B2, BF2, p2, d2, pf2, df2, rfl⟩ := agg_of hm13; have HM13 := hide hm13; have HB13 := hide hb13; clear hm13 hb13)
  | (go_at_call 35; refine (minx_any _ w13 w13.heap.size (Nat.le_refl _) HM13.out.at_).mono ?_; rintro e w14 ⟨v14, rfl, hm14, hb14⟩; obtain ⟨A14, n14, c14, AF14, nf14, cf14, rfl⟩ := agg_of hm14; have HM14 := hide hm14; have HB14 := hide hb14; clear hm14 hb14))
 generalize hW15 : World.alloc _ _ = W15
 obtain ⟨V, hV⟩ : ∃ z, z = w14.heap.size := ⟨_, rfl⟩
 obtain ⟨H, hH⟩ : ∃ z, z = w14.heap.size + 1 := ⟨_, rfl⟩
 have bV := hide (show Blk W15 V 28 #[.int .i64 letM.n, .slice A14 n14 c14, .slice AF14 nf14 cf14] by rw [← hW15]; exact (Blk.at_ hV).alloc _)
 have bH := hide (show Blk W15 H 30 #[.int .i64 0, .int .i64 0] by rw [← hW15]; exact Blk.at_ (by simp [hH]))
 have q14 := hide (show Below w14.heap.size w14 W15 by rw [← hW15]; go_grown)
 simp only [← hH]
 try simp only [← hV]
 clear hW15 hV hH
 have HB125 := hide ((HB13.out.trans (HB14.out.mono HB13.out.size)).trans (q14.out.mono (by have := HB13.out.size; have := HB14.out.size; omega)))
 replace bS := hide (bS.out.below HB125.out bS.out.lt)
 replace bF := hide (bF.out.below HB125.out bF.out.lt)
 replace bU := hide (bU.out.below HB125.out bU.out.lt)
 replace bG := hide (bG.out.below HB125.out bG.out.lt)
 have hz15 : w14.heap.size ≤ W15.heap.size := q14.out.size
 have HD := hide ((HD12.out.below HB125.out (Nat.le_refl _)).mono HB125.out.size)
 have HE := hide ((HM14.out.at_.below q14.out (Nat.le_refl _)).mono hz15)
 have HBW := hide (HBW12.out.trans (HB125.out.mono HBW12.out.size))
 clear HM13 HM14 HB13 HB14 q14 HB125 HBW12 HD12 hz15
 have yS1 := bS.out.cell 1
 have yS2 := bS.out.cell 2
 simp at yS1 yS2
 have lS := bS.out.lt
 have yF0 := bF.out.cell 0
 have yF1 := bF.out.cell 1
 simp at yF0 yF1
 have lF := bF.out.lt
 have yU0 := bU.out.cell 0
 have yU1 := bU.out.cell 1
 have yU2 := bU.out.cell 2
 simp at yU0 yU1 yU2
 have lU := bU.out.lt
 have yG0 := bG.out.cell 0
 have yG1 := bG.out.cell 1
 simp at yG0 yG1
 have lG := bG.out.lt
 have yV0 := bV.out.cell 0
 have yV1 := bV.out.cell 1
 have yV2 := bV.out.cell 2
 simp at yV0 yV1 yV2
 have lV := bV.out.lt
 have yH0 := bH.out.cell 0
 have yH1 := bH.out.cell 1
 simp at yH0 yH1
 have lH := bH.out.lt
 refine wp_mix (fun w' => w'.cell? ⟨S, 1, none⟩ = some (.slice A8 2 c8) ∧ w'.cell? ⟨S, 2, none⟩ = some (.slice AF8 3 cf8) ∧ w'.cell? ⟨F, 0, none⟩ = some (.int .i64 0) ∧ w'.cell? ⟨F, 1, none⟩ = some (.int .i64 0) ∧ w'.cell? ⟨U, 0, none⟩ = some (.int .i64 letM.n) ∧ w'.cell? ⟨U, 1, none⟩ = some (.slice A11 n11 c11) ∧ w'.cell? ⟨U, 2, none⟩ = some (.slice AF11 nf11 cf11) ∧ w'.cell? ⟨G, 0, none⟩ = some (.int .i64 0) ∧ w'.cell? ⟨G, 1, none⟩ = some (.int .i64 0) ∧ w'.cell? ⟨V, 0, none⟩ = some (.int .i64 letM.n) ∧ w'.cell? ⟨V, 1, none⟩ = some (.slice A14 n14 c14) ∧ w'.cell? ⟨V, 2, none⟩ = some (.slice AF14 nf14 cf14) ∧ w'.cell? ⟨H, 0, none⟩ = some (.int .i64 0) ∧ w'.cell? ⟨H, 1, none⟩ = some (.int .i64 0)) 33 [(0, false), (1, false), (2, false), (3, false), (4, false), (5, false), (6, false), (7, false), (8, false), (9, false), (10, false), (11, false), (12, false), (13, false), (14, false), (15, false), (16, false), (17, false), (18, false), (19, false), (20, false), (21, false), (22, false), (23, false), (24, false), (25, false), (26, false), (27, true), (28, true), (29, false), (30, false), (31, false), (32, true)] (by kernel_rfl) (by kernel_rfl) ⟨yS1, yS2, yF0, yF1, yU0, yU1, yU2, yG0, yG1, yV0, yV1, yV2, yH0, yH1⟩ ?_
 simp only [List.drop_succ_cons, List.drop_zero]
 repeat (refine mix_q (v := ?_) (by rfl) (by rfl) ?_ ?_; rotate_left; (focus (intro w' hC; (try dsimp only at hC); go_simp; (first | done | with_reducible rfl))); simp only [Act.put, List.setIfInBounds_toArray, List.set_cons_zero, List.set_cons_succ, List.getElem_toArray, List.getElem_cons_zero, List.getElem_cons_succ])
 refine mix_l (by rfl) (by rfl) (fun K hK => ?_)
 go_simp
 refine (letter_any _).mono ?_
 rintro e w16 ⟨v16, rfl, hm16, hb16⟩
 obtain ⟨A16, n16, c16, AF16, nf16, cf16, rfl⟩ := agg_of hm16
 have HL16 := hide hm16.at_
 replace bS := hide (bS.out.drew.below hb16 bS.out.drew.lt)
 replace bF := hide (bF.out.drew.below hb16 bF.out.drew.lt)
 replace bU := hide (bU.out.drew.below hb16 bU.out.drew.lt)
 replace bG := hide (bG.out.drew.below hb16 bG.out.drew.lt)
 replace bV := hide (bV.out.drew.below hb16 bV.out.drew.lt)
 replace bH := hide (bH.out.drew.below hb16 bH.out.drew.lt)
 replace HD := hide (((machAt_drew HD.out).below hb16 (Nat.le_refl _)).mono (hb16).size)
 replace HE := hide (((machAt_drew HE.out).below hb16 (Nat.le_refl _)).mono (hb16).size)
 replace HBW := hide (HBW.out.drew.trans (hb16.mono HBW.out.drew.size))
 clear hb16 hm16
 clear yS1 yS2 lS
 clear yF0 yF1 lF
 clear yU0 yU1 yU2 lU
 clear yG0 yG1 lG
 clear yV0 yV1 yV2 lV
 clear yH0 yH1 lH
 have yS1 := bS.out.cell 1
 have yS2 := bS.out.cell 2
 simp at yS1 yS2
 have lS := bS.out.lt
 have yF0 := bF.out.cell 0
 have yF1 := bF.out.cell 1
 simp at yF0 yF1
 have lF := bF.out.lt
 have yU0 := bU.out.cell 0
 have yU1 := bU.out.cell 1
 have yU2 := bU.out.cell 2
 simp at yU0 yU1 yU2
 have lU := bU.out.lt
 have yG0 := bG.out.cell 0
 have yG1 := bG.out.cell 1
 simp at yG0 yG1
 have lG := bG.out.lt
 have yV0 := bV.out.cell 0
 have yV1 := bV.out.cell 1
 have yV2 := bV.out.cell 2
 simp at yV0 yV1 yV2
 have lV := bV.out.lt
 have yH0 := bH.out.cell 0
 have yH1 := bH.out.cell 1
 simp at yH0 yH1
 have lH := bH.out.lt
 refine hK _ _ ⟨yS1, yS2, yF0, yF1, yU0, yU1, yU2, yG0, yG1, yV0, yV1, yV2, yH0, yH1⟩ ?_
 clear hK K
 refine mix_l (by rfl) (by rfl) (fun K hK => ?_)
 go_simp
 refine (machines_any _ _ letM letM _ _ (Nat.le_refl _) HD.out HL16.out).mono ?_
 rintro e w17 ⟨rfl, hb17⟩
 have HDL := hide (show decide (letM = letM) = true from decide_eq_true rfl)
 rw [HDL.out]
 replace bS := hide (bS.out.below hb17 bS.out.lt)
 replace bF := hide (bF.out.below hb17 bF.out.lt)
 replace bU := hide (bU.out.below hb17 bU.out.lt)
 replace bG := hide (bG.out.below hb17 bG.out.lt)
 replace bV := hide (bV.out.below hb17 bV.out.lt)
 replace bH := hide (bH.out.below hb17 bH.out.lt)
 replace HD := hide ((HD.out.below hb17 (Nat.le_refl _)).mono (hb17).size)
 replace HE := hide ((HE.out.below hb17 (Nat.le_refl _)).mono (hb17).size)
 replace HBW := hide (HBW.out.trans (hb17.mono HBW.out.size))
 clear hb17 HL16
 clear yS1 yS2 lS
 clear yF0 yF1 lF
 clear yU0 yU1 yU2 lU
 clear yG0 yG1 lG
 clear yV0 yV1 yV2 lV
 clear yH0 yH1 lH
 have yS1 := bS.out.cell 1
 have yS2 := bS.out.cell 2
 simp at yS1 yS2
 have lS := bS.out.lt
 have yF0 := bF.out.cell 0
 have yF1 := bF.out.cell 1
 simp at yF0 yF1
 have lF := bF.out.lt
 have yU0 := bU.out.cell 0
 have yU1 := bU.out.cell 1
 have yU2 := bU.out.cell 2
 simp at yU0 yU1 yU2
 have lU := bU.out.lt
 have yG0 := bG.out.cell 0
 have yG1 := bG.out.cell 1
 simp at yG0 yG1
 have lG := bG.out.lt
 have yV0 := bV.out.cell 0
 have yV1 := bV.out.cell 1
 have yV2 := bV.out.cell 2
 simp at yV0 yV1 yV2
 have lV := bV.out.lt
 have yH0 := bH.out.cell 0
 have yH1 := bH.out.cell 1
 simp at yH0 yH1
 have lH := bH.out.lt
 refine hK _ _ ⟨yS1, yS2, yF0, yF1, yU0, yU1, yU2, yG0, yG1, yV0, yV1, yV2, yH0, yH1⟩ ?_
 clear hK K
 (refine mix_q (v := ?_) (by rfl) (by rfl) ?_ ?_; rotate_left; (focus (intro w' hC; (try dsimp only at hC); go_simp; (first | done | with_reducible rfl))); simp only [Act.put, List.setIfInBounds_toArray, List.set_cons_zero, List.set_cons_succ, List.getElem_toArray, List.getElem_cons_zero, List.getElem_cons_succ])
 (refine mix_q (v := ?_) (by rfl) (by rfl) ?_ ?_; rotate_left; (focus (intro w' hC; (try dsimp only at hC); go_simp; (first | done | with_reducible rfl))); simp only [Act.put, List.setIfInBounds_toArray, List.set_cons_zero, List.set_cons_succ, List.getElem_toArray, List.getElem_cons_zero, List.getElem_cons_succ])
 (refine mix_q (v := ?_) (by rfl) (by rfl) ?_ ?_; rotate_left; (focus (intro w' hC; (try dsimp only at hC); go_simp; (first | done | with_reducible rfl))); simp only [Act.put, List.setIfInBounds_toArray, List.set_cons_zero, List.set_cons_succ, List.getElem_toArray, List.getElem_cons_zero, List.getElem_cons_succ])
 refine mix_l (by rfl) (by rfl) (fun K hK => ?_)
 go_simp
 refine (letter_any _).mono ?_
 rintro e w18 ⟨v18, rfl, hm18, hb18⟩
 obtain ⟨A18, n18, c18, AF18, nf18, cf18, rfl⟩ := agg_of hm18
 have HL18 := hide hm18.at_
 replace bS := hide (bS.out.below hb18 bS.out.lt)
 replace bF := hide (bF.out.below hb18 bF.out.lt)
 replace bU := hide (bU.out.below hb18 bU.out.lt)
 replace bG := hide (bG.out.below hb18 bG.out.lt)
 replace bV := hide (bV.out.below hb18 bV.out.lt)
 replace bH := hide (bH.out.below hb18 bH.out.lt)
 replace HD := hide ((HD.out.below hb18 (Nat.le_refl _)).mono (hb18).size)
 replace HE := hide ((HE.out.below hb18 (Nat.le_refl _)).mono (hb18).size)
 replace HBW := hide (HBW.out.trans (hb18.mono HBW.out.size))
 clear hb18 hm18
 clear yS1 yS2 lS
 clear yF0 yF1 lF
 clear yU0 yU1 yU2 lU
 clear yG0 yG1 lG
 clear yV0 yV1 yV2 lV
 clear yH0 yH1 lH
 have yS1 := bS.out.cell 1
 have yS2 := bS.out.cell 2
 simp at yS1 yS2
 have lS := bS.out.lt
 have yF0 := bF.out.cell 0
 have yF1 := bF.out.cell 1
 simp at yF0 yF1
 have lF := bF.out.lt
 have yU0 := bU.out.cell 0
 have yU1 := bU.out.cell 1
 have yU2 := bU.out.cell 2
 simp at yU0 yU1 yU2
 have lU := bU.out.lt
 have yG0 := bG.out.cell 0
 have yG1 := bG.out.cell 1
 simp at yG0 yG1
 have lG := bG.out.lt
 have yV0 := bV.out.cell 0
 have yV1 := bV.out.cell 1
 have yV2 := bV.out.cell 2
 simp at yV0 yV1 yV2
 have lV := bV.out.lt
 have yH0 := bH.out.cell 0
 have yH1 := bH.out.cell 1
 simp at yH0 yH1
 have lH := bH.out.lt
 refine hK _ _ ⟨yS1, yS2, yF0, yF1, yU0, yU1, yU2, yG0, yG1, yV0, yV1, yV2, yH0, yH1⟩ ?_
 clear hK K
 refine mix_nil ?_; try simp only [Act.put, List.setIfInBounds_toArray, List.set_cons_zero, List.set_cons_succ, List.getElem_toArray, List.getElem_cons_zero, List.getElem_cons_succ]
 go_wp2_with fail
 refine (machines_any _ _ letM letM _ _ (Nat.le_refl _) HE.out HL18.out).mono ?_
 rintro e w19 ⟨rfl, hb19⟩
 have e19 : decide (letM = letM) = true := decide_eq_true rfl
 rw [e19]
 have HBF := hide (HBW.out.trans (hb19.mono HBW.out.size))
 go_wp2
 refine NoPanic.normal ?_
 go_wp2
 exact bodyPost_ret (v := .bool true) (by simp [results, Try.results30, go_sem]) rfl ⟨rfl, HBF.out⟩
end Go.Proofs.Ytopakcbhodnipaa
