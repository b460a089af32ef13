/- The law ComposeChangesMatchSpec, walked: it returns true. Written by gen_chl.py. -/
import Derived.Test.YtmgpcnkmmgkjgaaChX
import Derived.Test.YtmgpcnkmmgkjgaaCgW
import Derived.Test.YtmgpcnkmmgkjgaaMF
import Derived.Test.YtmgpcnkmmgkjgaaEq
namespace Go.Proofs.Ytmgpcnkmmgkjgaa
open Go.RowKit Gm Go.Sort Go.Shelf
set_option linter.unusedSimpArgs false
set_option linter.unusedVariables false
theorem chR_good {k : Nat} {m : Mach} (h : validate m = (0, 0)) : chR k m = chM k m := by unfold chR; rw [if_pos h]
theorem chR_bad {k : Nat} {m : Mach} (h : validate m ≠ (0, 0)) : (chR k m).n = 0 := by unfold chR; rw [if_neg h]
set_option maxRecDepth 100000 in
set_option maxHeartbeats 16000000 in
theorem chlaw_any (va : Value) (a : Mach) (w : World) (B : Nat) (hB : B ≤ w.heap.size) (ha : MachAt w B va a) :
    Calls Try.prog 3 #[va] w fun e w' => e = .returned (.bool true) ∧ Below w.heap.size w w' := by
  have HA := hide ha
  obtain ⟨A, AF, n, c, nf, cf, rfl, _⟩ := ha
  have hne := fun a b c d W => run_neq_fault a b c d W
  obtain ⟨sa, hsa⟩ : ∃ s, s = a.n := ⟨_, rfl⟩
  rw [← hsa] at HA ⊢
  clear hsa
  have HE := hide (fun (h : validate a ≠ (0, 0)) => (⟨chR_bad h, chR_bad h, chR_bad h⟩ : (chR 1 a).n = 0 ∧ (chR 2 a).n = 0 ∧ (chR 3 a).n = 0))
  have HFS := hide (fun W (hB : B ≤ W.heap.size) (h : MachAt W B (.agg #[.int .i64 sa, .slice A n c, .slice AF nf cf]) a) => mfault_spec _ a W B hB h)
  have H1 := hide (fun W (hB : B ≤ W.heap.size) (h : MachAt W B (.agg #[.int .i64 sa, .slice A n c, .slice AF nf cf]) a) => ch1R_any _ a W B hB h)
  have H2 := hide (fun W (hB : B ≤ W.heap.size) (h : MachAt W B (.agg #[.int .i64 sa, .slice A n c, .slice AF nf cf]) a) => ch2R_any _ a W B hB h)
  have H3 := hide (fun W (hB : B ≤ W.heap.size) (h : MachAt W B (.agg #[.int .i64 sa, .slice A n c, .slice AF nf cf]) a) => ch3R_any _ a W B hB h)
  obtain ⟨p, hp⟩ : ∃ p, p = (validate a).1 := ⟨_, rfl⟩
  obtain ⟨q, hq⟩ : ∃ p, p = (validate a).2 := ⟨_, rfl⟩
  rw [← hp, ← hq] at HFS H1 H2 H3
  have HPQ := hide (show (p, q) = validate a by rw [hp, hq])
  have tpq : fEq p q p q = true := by simp [fEq]
  clear hp hq
  go_enter Try.func3, Try.ntmps3
  go_wp2_with fail
  have hX : Blk (w.alloc (Obj.cells #[.int .i64 sa, .slice A n c, .slice AF nf cf] 25)) w.heap.size 25 #[.int .i64 sa, .slice A n c, .slice AF nf cf] := Blk.at_ rfl
  refine (inverted_ex _).mono ?_
  rintro e w1 ⟨rfl, hb1⟩
  have hbw : Below w.heap.size w w1 := (show Below w.heap.size w _ by go_grown).trans (hb1.mono (by simp <;> omega))
  have bX := hX.below hb1 (by simp <;> omega)
  clear hb1 hX
  obtain ⟨X, hX⟩ : ∃ z, z = w.heap.size := ⟨_, rfl⟩
  have hXw : w.heap.size ≤ X := by omega
  rw [← hX] at bX
  simp only [← hX]
  clear hX
  have x0 := bX.cell 0
  have x1 := bX.cell 1
  have x2 := bX.cell 2
  simp at x0 x1 x2
  have xl := bX.lt
  go_wp2_with fail
  refine (H1.out _ (by have := hbw.size; omega) (HA.out.below hbw hB)).mono ?_
  rintro e w3 ⟨v3, rfl, hT, hb3⟩
  obtain ⟨A1, n1, c1, AF1, nf1, cf1, rfl⟩ := agg_of hT
  obtain ⟨g1, hg1⟩ : ∃ g, g = (chR 1 a).n := ⟨_, rfl⟩
  rw [← hg1] at hT ⊢
  have HG1 := hide hg1
  clear hg1
  clear x0 x1 x2 xl
  replace bX := bX.below hb3 bX.lt
  replace hbw := hbw.trans (hb3.mono hbw.size)
  clear H1 hb3
  go_upto_region 4 with fail
  generalize hWX : World.alloc _ _ = WX
  obtain ⟨M1, hM1⟩ : ∃ z, z = w3.heap.size := ⟨_, rfl⟩
  simp only [← hM1]
  have hl1 : X < M1 := by have := bX.lt; omega
  replace bX := (by rw [← hWX]; exact (bX.alloc _).alloc _ : Blk WX _ _ _)
  have bM1 : Blk WX M1 25 #[.int .i64 g1, .slice A1 n1 c1, .slice AF1 nf1 cf1] := by rw [← hWX]; exact (Blk.at_ (by simp [hM1])).alloc _
  have bF1 : Blk WX (M1 + 1) 28 #[.int .i64 p, .int .i64 q] := by rw [← hWX]; exact Blk.at_ (by simp [hM1])
  have HT1 := hide (by rw [← hWX]; exact (hT.alloc _).alloc _ : MachNew _ WX _ _)
  replace hbw : Below w.heap.size w WX := by rw [← hWX]; exact (hbw.alloc hbw.size _).alloc (by have := hbw.size; simp <;> omega) _
  clear hT hWX hM1
  have x0 := bX.cell 0
  have x1 := bX.cell 1
  have x2 := bX.cell 2
  simp at x0 x1 x2
  have xl := bX.lt
  go_wp2_with fail
  refine (H2.out _ (by have := hbw.size; omega) (HA.out.below hbw hB)).mono ?_
  rintro e w3 ⟨v3, rfl, hT, hb3⟩
  obtain ⟨A2, n2, c2, AF2, nf2, cf2, rfl⟩ := agg_of hT
  obtain ⟨g2, hg2⟩ : ∃ g, g = (chR 2 a).n := ⟨_, rfl⟩
  rw [← hg2] at hT ⊢
  have HG2 := hide hg2
  clear hg2
  clear x0 x1 x2 xl
  replace bX := bX.below hb3 bX.lt
  replace bM1 := bM1.below hb3 bM1.lt
  replace bF1 := bF1.below hb3 bF1.lt
  replace HT1 := hide (HT1.out.below hb3 (Nat.le_refl _))
  replace hbw := hbw.trans (hb3.mono hbw.size)
  clear H2 hb3
  go_upto_region 5 with fail
  generalize hWX : World.alloc _ _ = WX
  obtain ⟨M2, hM2⟩ : ∃ z, z = w3.heap.size := ⟨_, rfl⟩
  simp only [← hM2]
  have hl2 : M1 + 1 < M2 := by have := bF1.lt; omega
  replace bX := (by rw [← hWX]; exact (bX.alloc _).alloc _ : Blk WX _ _ _)
  replace bM1 := (by rw [← hWX]; exact (bM1.alloc _).alloc _ : Blk WX _ _ _)
  replace bF1 := (by rw [← hWX]; exact (bF1.alloc _).alloc _ : Blk WX _ _ _)
  replace HT1 := hide (by rw [← hWX]; exact (HT1.out.alloc _).alloc _ : MachNew _ WX _ _)
  have bM2 : Blk WX M2 25 #[.int .i64 g2, .slice A2 n2 c2, .slice AF2 nf2 cf2] := by rw [← hWX]; exact (Blk.at_ (by simp [hM2])).alloc _
  have bF2 : Blk WX (M2 + 1) 28 #[.int .i64 p, .int .i64 q] := by rw [← hWX]; exact Blk.at_ (by simp [hM2])
  have HT2 := hide (by rw [← hWX]; exact (hT.alloc _).alloc _ : MachNew _ WX _ _)
  replace hbw : Below w.heap.size w WX := by rw [← hWX]; exact (hbw.alloc hbw.size _).alloc (by have := hbw.size; simp <;> omega) _
  clear hT hWX hM2
  have x0 := bX.cell 0
  have x1 := bX.cell 1
  have x2 := bX.cell 2
  simp at x0 x1 x2
  have xl := bX.lt
  go_wp2_with fail
  refine (H3.out _ (by have := hbw.size; omega) (HA.out.below hbw hB)).mono ?_
  rintro e w3 ⟨v3, rfl, hT, hb3⟩
  obtain ⟨A3, n3, c3, AF3, nf3, cf3, rfl⟩ := agg_of hT
  obtain ⟨g3, hg3⟩ : ∃ g, g = (chR 3 a).n := ⟨_, rfl⟩
  rw [← hg3] at hT ⊢
  have HG3 := hide hg3
  clear hg3
  clear x0 x1 x2 xl
  replace bX := bX.below hb3 bX.lt
  replace bM1 := bM1.below hb3 bM1.lt
  replace bF1 := bF1.below hb3 bF1.lt
  replace bM2 := bM2.below hb3 bM2.lt
  replace bF2 := bF2.below hb3 bF2.lt
  replace HT1 := hide (HT1.out.below hb3 (Nat.le_refl _))
  replace HT2 := hide (HT2.out.below hb3 (Nat.le_refl _))
  replace hbw := hbw.trans (hb3.mono hbw.size)
  clear H3 hb3
  go_upto_region 6 with fail
  generalize hWX : World.alloc _ _ = WX
  obtain ⟨M3, hM3⟩ : ∃ z, z = w3.heap.size := ⟨_, rfl⟩
  simp only [← hM3]
  have hl3 : M2 + 1 < M3 := by have := bF2.lt; omega
  replace bX := (by rw [← hWX]; exact (bX.alloc _).alloc _ : Blk WX _ _ _)
  replace bM1 := (by rw [← hWX]; exact (bM1.alloc _).alloc _ : Blk WX _ _ _)
  replace bF1 := (by rw [← hWX]; exact (bF1.alloc _).alloc _ : Blk WX _ _ _)
  replace bM2 := (by rw [← hWX]; exact (bM2.alloc _).alloc _ : Blk WX _ _ _)
  replace bF2 := (by rw [← hWX]; exact (bF2.alloc _).alloc _ : Blk WX _ _ _)
  replace HT1 := hide (by rw [← hWX]; exact (HT1.out.alloc _).alloc _ : MachNew _ WX _ _)
  replace HT2 := hide (by rw [← hWX]; exact (HT2.out.alloc _).alloc _ : MachNew _ WX _ _)
  have bM3 : Blk WX M3 25 #[.int .i64 g3, .slice A3 n3 c3, .slice AF3 nf3 cf3] := by rw [← hWX]; exact (Blk.at_ (by simp [hM3])).alloc _
  have bF3 : Blk WX (M3 + 1) 28 #[.int .i64 p, .int .i64 q] := by rw [← hWX]; exact Blk.at_ (by simp [hM3])
  have HT3 := hide (by rw [← hWX]; exact (hT.alloc _).alloc _ : MachNew _ WX _ _)
  replace hbw : Below w.heap.size w WX := by rw [← hWX]; exact (hbw.alloc hbw.size _).alloc (by have := hbw.size; simp <;> omega) _
  clear hT hWX hM3
  have x0 := bX.cell 0
  have x1 := bX.cell 1
  have x2 := bX.cell 2
  simp at x0 x1 x2
  have xl := bX.lt
  go_wp2_with fail
  refine (HFS.out _ (by have := hbw.size; omega) (HA.out.below hbw hB)).mono ?_
  rintro e w3 ⟨rfl, hb3⟩
  clear x0 x1 x2 xl
  replace bX := bX.below hb3 bX.lt
  replace bM1 := bM1.below hb3 bM1.lt
  replace bF1 := bF1.below hb3 bF1.lt
  replace bM2 := bM2.below hb3 bM2.lt
  replace bF2 := bF2.below hb3 bF2.lt
  replace bM3 := bM3.below hb3 bM3.lt
  replace bF3 := bF3.below hb3 bF3.lt
  replace HT1 := hide (HT1.out.below hb3 (Nat.le_refl _))
  replace HT2 := hide (HT2.out.below hb3 (Nat.le_refl _))
  replace HT3 := hide (HT3.out.below hb3 (Nat.le_refl _))
  replace hbw := hbw.trans (hb3.mono hbw.size)
  clear HFS hb3
  go_upto_region 7 with fail
  generalize hWX : World.alloc _ _ = WX
  obtain ⟨K, hK⟩ : ∃ z, z = w3.heap.size := ⟨_, rfl⟩
  simp only [← hK]
  have hlK : M3 + 1 < K := by have := bF3.lt; omega
  replace bX := (by rw [← hWX]; exact bX.alloc _ : Blk WX _ _ _)
  replace bM1 := (by rw [← hWX]; exact bM1.alloc _ : Blk WX _ _ _)
  replace bF1 := (by rw [← hWX]; exact bF1.alloc _ : Blk WX _ _ _)
  replace bM2 := (by rw [← hWX]; exact bM2.alloc _ : Blk WX _ _ _)
  replace bF2 := (by rw [← hWX]; exact bF2.alloc _ : Blk WX _ _ _)
  replace bM3 := (by rw [← hWX]; exact bM3.alloc _ : Blk WX _ _ _)
  replace bF3 := (by rw [← hWX]; exact bF3.alloc _ : Blk WX _ _ _)
  replace HT1 := hide (by rw [← hWX]; exact HT1.out.alloc _ : MachNew _ WX _ _)
  replace HT2 := hide (by rw [← hWX]; exact HT2.out.alloc _ : MachNew _ WX _ _)
  replace HT3 := hide (by rw [← hWX]; exact HT3.out.alloc _ : MachNew _ WX _ _)
  have bK : Blk WX K 28 #[.int .i64 p, .int .i64 q] := by rw [← hWX]; exact Blk.at_ (by simp [hK])
  replace hbw : Below w.heap.size w WX := by rw [← hWX]; exact hbw.alloc hbw.size _
  clear hWX hK
  have f1_0 := bF1.cell 0
  have f1_1 := bF1.cell 1
  simp at f1_0 f1_1
  have f1_l := bF1.lt
  have f2_0 := bF2.cell 0
  have f2_1 := bF2.cell 1
  simp at f2_0 f2_1
  have f2_l := bF2.lt
  have f3_0 := bF3.cell 0
  have f3_1 := bF3.cell 1
  simp at f3_0 f3_1
  have f3_l := bF3.lt
  have k_0 := bK.cell 0
  have k_1 := bK.cell 1
  simp at k_0 k_1
  have k_l := bK.lt
  go_upto_region 9 with fail
  clear f1_0 f1_1 f1_l
  clear f2_0 f2_1 f2_l
  clear f3_0 f3_1 f3_l
  by_cases hz : validate a = (0, 0)
  · skip
    have hpq := HPQ.out
    rw [hz] at hpq
    obtain ⟨rfl, rfl⟩ : p = 0 ∧ q = 0 := ⟨congrArg Prod.fst hpq, congrArg Prod.snd hpq⟩
    clear hpq
    have HV := hide (valid_of hz)
    rw [chR_good hz] at HT1 HT2 HT3
    have HR1 := hide (fun W (hB : B ≤ W.heap.size) (h : MachAt W B (.agg #[.int .i64 sa, .slice A n c, .slice AF nf cf]) a) => rch1_any _ a W B hB h HV.out)
    have HR2 := hide (fun W (hB : B ≤ W.heap.size) (h : MachAt W B (.agg #[.int .i64 sa, .slice A n c, .slice AF nf cf]) a) => rch2_any _ a W B hB h HV.out)
    have HR3 := hide (fun W (hB : B ≤ W.heap.size) (h : MachAt W B (.agg #[.int .i64 sa, .slice A n c, .slice AF nf cf]) a) => rch3_any _ a W B hB h HV.out)
    obtain ⟨r1, hr1⟩ : ∃ r, r = chM 1 a := ⟨_, rfl⟩
    rw [← hr1] at HT1 HR1
    obtain ⟨r2, hr2⟩ : ∃ r, r = chM 2 a := ⟨_, rfl⟩
    rw [← hr2] at HT2 HR2
    obtain ⟨r3, hr3⟩ : ∃ r, r = chM 3 a := ⟨_, rfl⟩
    rw [← hr3] at HT3 HR3
    clear hz hr1 hr2 hr3
    go_upto_region 11 with fail
    clear k_0 k_1 k_l
    have x0 := bX.cell 0
    have x1 := bX.cell 1
    have x2 := bX.cell 2
    simp at x0 x1 x2
    have xl := bX.lt
    have m1_0 := bM1.cell 0
    have m1_1 := bM1.cell 1
    have m1_2 := bM1.cell 2
    simp at m1_0 m1_1 m1_2
    have m1_l := bM1.lt
    have m2_0 := bM2.cell 0
    have m2_1 := bM2.cell 1
    have m2_2 := bM2.cell 2
    simp at m2_0 m2_1 m2_2
    have m2_l := bM2.lt
    have m3_0 := bM3.cell 0
    have m3_1 := bM3.cell 1
    have m3_2 := bM3.cell 2
    simp at m3_0 m3_1 m3_2
    have m3_l := bM3.lt
    refine wp_mix (fun w' => w'.cell? ⟨X, 0, none⟩ = some (.int .i64 sa) ∧ w'.cell? ⟨X, 1, none⟩ = some (.slice A n c) ∧ w'.cell? ⟨X, 2, none⟩ = some (.slice AF nf cf) ∧ w'.cell? ⟨M1, 0, none⟩ = some (.int .i64 g1) ∧ w'.cell? ⟨M1, 1, none⟩ = some (.slice A1 n1 c1) ∧ w'.cell? ⟨M1, 2, none⟩ = some (.slice AF1 nf1 cf1) ∧ w'.cell? ⟨M2, 0, none⟩ = some (.int .i64 g2) ∧ w'.cell? ⟨M2, 1, none⟩ = some (.slice A2 n2 c2) ∧ w'.cell? ⟨M2, 2, none⟩ = some (.slice AF2 nf2 cf2) ∧ w'.cell? ⟨M3, 0, none⟩ = some (.int .i64 g3) ∧ w'.cell? ⟨M3, 1, none⟩ = some (.slice A3 n3 c3) ∧ w'.cell? ⟨M3, 2, none⟩ = some (.slice AF3 nf3 cf3)) 14 [(0, false), (1, false), (2, true), (3, true), (4, false), (5, false), (6, false), (7, true), (8, true), (9, false), (10, false), (11, false), (12, false), (13, true)] (by kernel_rfl) (by kernel_rfl) ?_ ?_
    · go_simp
    simp only [List.drop_succ_cons, List.drop_zero]
    repeat (refine mix_q (v := ?_) (by rfl) (by rfl) ?_ ?_; rotate_left; (focus (intro w' hC; (try dsimp only at hC); go_simp; (first | done | with_reducible rfl))); simp only [Act.put, List.setIfInBounds_toArray, List.set_cons_zero, List.set_cons_succ, List.getElem_toArray, List.getElem_cons_zero, List.getElem_cons_succ])
    refine mix_l (by rfl) (by rfl) (fun K hK => ?_)
    go_simp
    refine (HR1.out _ (by have := hbw.size; first | omega | (simp; omega)) (HA.out.below hbw.drew hB)).mono ?_
    rintro e w1r ⟨v1r, rfl, hR, hb⟩
    obtain ⟨A1r, AF1r, n1r, c1r, nf1r, cf1r, rfl, hR2⟩ := hR
    have HQ1 := hide (show MachAt w1r w1r.heap.size (.agg #[.int .i64 r1.n, .slice A1r n1r c1r, .slice AF1r nf1r cf1r]) r1 from ⟨A1r, AF1r, n1r, c1r, nf1r, cf1r, rfl, hR2⟩)
    clear hR2
    replace bX := bX.drew.below hb bX.drew.lt
    replace bM1 := bM1.drew.below hb bM1.drew.lt
    replace bM2 := bM2.drew.below hb bM2.drew.lt
    replace bM3 := bM3.drew.below hb bM3.drew.lt
    replace HT1 := hide (HT1.out.drew.below hb (Nat.le_refl _))
    replace HT2 := hide (HT2.out.drew.below hb (Nat.le_refl _))
    replace HT3 := hide (HT3.out.drew.below hb (Nat.le_refl _))
    replace hbw := hbw.drew.trans (hb.mono hbw.drew.size)
    clear hb
    clear x0 x1 x2 xl
    clear m1_0 m1_1 m1_2 m1_l
    clear m2_0 m2_1 m2_2 m2_l
    clear m3_0 m3_1 m3_2 m3_l
    have x0 := bX.cell 0
    have x1 := bX.cell 1
    have x2 := bX.cell 2
    simp at x0 x1 x2
    have xl := bX.lt
    have m1_0 := bM1.cell 0
    have m1_1 := bM1.cell 1
    have m1_2 := bM1.cell 2
    simp at m1_0 m1_1 m1_2
    have m1_l := bM1.lt
    have m2_0 := bM2.cell 0
    have m2_1 := bM2.cell 1
    have m2_2 := bM2.cell 2
    simp at m2_0 m2_1 m2_2
    have m2_l := bM2.lt
    have m3_0 := bM3.cell 0
    have m3_1 := bM3.cell 1
    have m3_2 := bM3.cell 2
    simp at m3_0 m3_1 m3_2
    have m3_l := bM3.lt
    refine hK _ _ ⟨x0, x1, x2, m1_0, m1_1, m1_2, m2_0, m2_1, m2_2, m3_0, m3_1, m3_2⟩ ?_
    clear hK K
    try simp only [Act.put, List.setIfInBounds_toArray, List.set_cons_zero, List.set_cons_succ, List.getElem_toArray, List.getElem_cons_zero, List.getElem_cons_succ]
    refine mix_l (by rfl) (by rfl) (fun K hK => ?_)
    go_simp
    refine (machines_any _ _ r1 r1 _ _ (Nat.le_refl _) HT1.out.at_ HQ1.out).mono ?_
    rintro e w1e ⟨rfl, hb⟩
    have hd : decide (r1 = r1) = true := decide_eq_true rfl
    rw [hd]
    clear hd HQ1 HR1
    replace bX := bX.below hb bX.lt
    replace bM1 := bM1.below hb bM1.lt
    replace bM2 := bM2.below hb bM2.lt
    replace bM3 := bM3.below hb bM3.lt
    replace HT1 := hide (HT1.out.below hb (Nat.le_refl _))
    replace HT2 := hide (HT2.out.below hb (Nat.le_refl _))
    replace HT3 := hide (HT3.out.below hb (Nat.le_refl _))
    replace hbw := hbw.trans (hb.mono hbw.size)
    clear hb
    clear x0 x1 x2 xl
    clear m1_0 m1_1 m1_2 m1_l
    clear m2_0 m2_1 m2_2 m2_l
    clear m3_0 m3_1 m3_2 m3_l
    have x0 := bX.cell 0
    have x1 := bX.cell 1
    have x2 := bX.cell 2
    simp at x0 x1 x2
    have xl := bX.lt
    have m1_0 := bM1.cell 0
    have m1_1 := bM1.cell 1
    have m1_2 := bM1.cell 2
    simp at m1_0 m1_1 m1_2
    have m1_l := bM1.lt
    have m2_0 := bM2.cell 0
    have m2_1 := bM2.cell 1
    have m2_2 := bM2.cell 2
    simp at m2_0 m2_1 m2_2
    have m2_l := bM2.lt
    have m3_0 := bM3.cell 0
    have m3_1 := bM3.cell 1
    have m3_2 := bM3.cell 2
    simp at m3_0 m3_1 m3_2
    have m3_l := bM3.lt
    refine hK _ _ ⟨x0, x1, x2, m1_0, m1_1, m1_2, m2_0, m2_1, m2_2, m3_0, m3_1, m3_2⟩ ?_
    clear hK K
    try simp only [Act.put, List.setIfInBounds_toArray, List.set_cons_zero, List.set_cons_succ, List.getElem_toArray, List.getElem_cons_zero, List.getElem_cons_succ]
    repeat (refine mix_q (v := ?_) (by rfl) (by rfl) ?_ ?_; rotate_left; (focus (intro w' hC; (try dsimp only at hC); go_simp; (first | done | with_reducible rfl))); simp only [Act.put, List.setIfInBounds_toArray, List.set_cons_zero, List.set_cons_succ, List.getElem_toArray, List.getElem_cons_zero, List.getElem_cons_succ])
    refine mix_l (by rfl) (by rfl) (fun K hK => ?_)
    go_simp
    refine (HR2.out _ (by have := hbw.size; first | omega | (simp; omega)) (HA.out.below hbw hB)).mono ?_
    rintro e w2r ⟨v2r, rfl, hR, hb⟩
    obtain ⟨A2r, AF2r, n2r, c2r, nf2r, cf2r, rfl, hR2⟩ := hR
    have HQ2 := hide (show MachAt w2r w2r.heap.size (.agg #[.int .i64 r2.n, .slice A2r n2r c2r, .slice AF2r nf2r cf2r]) r2 from ⟨A2r, AF2r, n2r, c2r, nf2r, cf2r, rfl, hR2⟩)
    clear hR2
    replace bX := bX.below hb bX.lt
    replace bM1 := bM1.below hb bM1.lt
    replace bM2 := bM2.below hb bM2.lt
    replace bM3 := bM3.below hb bM3.lt
    replace HT1 := hide (HT1.out.below hb (Nat.le_refl _))
    replace HT2 := hide (HT2.out.below hb (Nat.le_refl _))
    replace HT3 := hide (HT3.out.below hb (Nat.le_refl _))
    replace hbw := hbw.trans (hb.mono hbw.size)
    clear hb
    clear x0 x1 x2 xl
    clear m1_0 m1_1 m1_2 m1_l
    clear m2_0 m2_1 m2_2 m2_l
    clear m3_0 m3_1 m3_2 m3_l
    have x0 := bX.cell 0
    have x1 := bX.cell 1
    have x2 := bX.cell 2
    simp at x0 x1 x2
    have xl := bX.lt
    have m1_0 := bM1.cell 0
    have m1_1 := bM1.cell 1
    have m1_2 := bM1.cell 2
    simp at m1_0 m1_1 m1_2
    have m1_l := bM1.lt
    have m2_0 := bM2.cell 0
    have m2_1 := bM2.cell 1
    have m2_2 := bM2.cell 2
    simp at m2_0 m2_1 m2_2
    have m2_l := bM2.lt
    have m3_0 := bM3.cell 0
    have m3_1 := bM3.cell 1
    have m3_2 := bM3.cell 2
    simp at m3_0 m3_1 m3_2
    have m3_l := bM3.lt
    refine hK _ _ ⟨x0, x1, x2, m1_0, m1_1, m1_2, m2_0, m2_1, m2_2, m3_0, m3_1, m3_2⟩ ?_
    clear hK K
    try simp only [Act.put, List.setIfInBounds_toArray, List.set_cons_zero, List.set_cons_succ, List.getElem_toArray, List.getElem_cons_zero, List.getElem_cons_succ]
    refine mix_l (by rfl) (by rfl) (fun K hK => ?_)
    go_simp
    refine (machines_any _ _ r2 r2 _ _ (Nat.le_refl _) HT2.out.at_ HQ2.out).mono ?_
    rintro e w2e ⟨rfl, hb⟩
    have hd : decide (r2 = r2) = true := decide_eq_true rfl
    rw [hd]
    clear hd HQ2 HR2
    replace bX := bX.below hb bX.lt
    replace bM1 := bM1.below hb bM1.lt
    replace bM2 := bM2.below hb bM2.lt
    replace bM3 := bM3.below hb bM3.lt
    replace HT1 := hide (HT1.out.below hb (Nat.le_refl _))
    replace HT2 := hide (HT2.out.below hb (Nat.le_refl _))
    replace HT3 := hide (HT3.out.below hb (Nat.le_refl _))
    replace hbw := hbw.trans (hb.mono hbw.size)
    clear hb
    clear x0 x1 x2 xl
    clear m1_0 m1_1 m1_2 m1_l
    clear m2_0 m2_1 m2_2 m2_l
    clear m3_0 m3_1 m3_2 m3_l
    have x0 := bX.cell 0
    have x1 := bX.cell 1
    have x2 := bX.cell 2
    simp at x0 x1 x2
    have xl := bX.lt
    have m1_0 := bM1.cell 0
    have m1_1 := bM1.cell 1
    have m1_2 := bM1.cell 2
    simp at m1_0 m1_1 m1_2
    have m1_l := bM1.lt
    have m2_0 := bM2.cell 0
    have m2_1 := bM2.cell 1
    have m2_2 := bM2.cell 2
    simp at m2_0 m2_1 m2_2
    have m2_l := bM2.lt
    have m3_0 := bM3.cell 0
    have m3_1 := bM3.cell 1
    have m3_2 := bM3.cell 2
    simp at m3_0 m3_1 m3_2
    have m3_l := bM3.lt
    refine hK _ _ ⟨x0, x1, x2, m1_0, m1_1, m1_2, m2_0, m2_1, m2_2, m3_0, m3_1, m3_2⟩ ?_
    clear hK K
    try simp only [Act.put, List.setIfInBounds_toArray, List.set_cons_zero, List.set_cons_succ, List.getElem_toArray, List.getElem_cons_zero, List.getElem_cons_succ]
    repeat (refine mix_q (v := ?_) (by rfl) (by rfl) ?_ ?_; rotate_left; (focus (intro w' hC; (try dsimp only at hC); go_simp; (first | done | with_reducible rfl))); simp only [Act.put, List.setIfInBounds_toArray, List.set_cons_zero, List.set_cons_succ, List.getElem_toArray, List.getElem_cons_zero, List.getElem_cons_succ])
    refine mix_l (by rfl) (by rfl) (fun K hK => ?_)
    go_simp
    refine (HR3.out _ (by have := hbw.size; first | omega | (simp; omega)) (HA.out.below hbw hB)).mono ?_
    rintro e w3r ⟨v3r, rfl, hR, hb⟩
    obtain ⟨A3r, AF3r, n3r, c3r, nf3r, cf3r, rfl, hR2⟩ := hR
    have HQ3 := hide (show MachAt w3r w3r.heap.size (.agg #[.int .i64 r3.n, .slice A3r n3r c3r, .slice AF3r nf3r cf3r]) r3 from ⟨A3r, AF3r, n3r, c3r, nf3r, cf3r, rfl, hR2⟩)
    clear hR2
    replace bX := bX.below hb bX.lt
    replace bM1 := bM1.below hb bM1.lt
    replace bM2 := bM2.below hb bM2.lt
    replace bM3 := bM3.below hb bM3.lt
    replace HT1 := hide (HT1.out.below hb (Nat.le_refl _))
    replace HT2 := hide (HT2.out.below hb (Nat.le_refl _))
    replace HT3 := hide (HT3.out.below hb (Nat.le_refl _))
    replace hbw := hbw.trans (hb.mono hbw.size)
    clear hb
    clear x0 x1 x2 xl
    clear m1_0 m1_1 m1_2 m1_l
    clear m2_0 m2_1 m2_2 m2_l
    clear m3_0 m3_1 m3_2 m3_l
    have x0 := bX.cell 0
    have x1 := bX.cell 1
    have x2 := bX.cell 2
    simp at x0 x1 x2
    have xl := bX.lt
    have m1_0 := bM1.cell 0
    have m1_1 := bM1.cell 1
    have m1_2 := bM1.cell 2
    simp at m1_0 m1_1 m1_2
    have m1_l := bM1.lt
    have m2_0 := bM2.cell 0
    have m2_1 := bM2.cell 1
    have m2_2 := bM2.cell 2
    simp at m2_0 m2_1 m2_2
    have m2_l := bM2.lt
    have m3_0 := bM3.cell 0
    have m3_1 := bM3.cell 1
    have m3_2 := bM3.cell 2
    simp at m3_0 m3_1 m3_2
    have m3_l := bM3.lt
    refine hK _ _ ⟨x0, x1, x2, m1_0, m1_1, m1_2, m2_0, m2_1, m2_2, m3_0, m3_1, m3_2⟩ ?_
    clear hK K
    refine mix_nil ?_; try simp only [Act.put, List.setIfInBounds_toArray, List.set_cons_zero, List.set_cons_succ, List.getElem_toArray, List.getElem_cons_zero, List.getElem_cons_succ]
    go_wp2_with fail
    refine (machines_any _ _ r3 r3 _ _ (Nat.le_refl _) HT3.out.at_ HQ3.out).mono ?_
    rintro e w3e ⟨rfl, hb⟩
    have hd : decide (r3 = r3) = true := decide_eq_true rfl
    rw [hd]
    replace hbw := hbw.trans (hb.mono hbw.size)
    go_wp2
    refine NoPanic.normal ?_
    go_wp2
    exact bodyPost_ret (v := .bool true) (by simp [results, Try.results3, go_sem]) rfl ⟨rfl, hbw⟩
  · skip
    have hpq := HPQ.out
    have hz0 : fEq p q 0 0 = false := by
      cases e : fEq p q 0 0
      · rfl
      · have e2 : fEq (validate a).1 (validate a).2 0 0 = true := by rw [← hpq]; exact e
        exact absurd (fEq0R.1 e2) hz
    obtain ⟨e1, e2, e3⟩ := HE.out hz
    have hg1 := HG1.out
    have hg2 := HG2.out
    have hg3 := HG3.out
    rw [e1] at hg1
    rw [e2] at hg2
    rw [e3] at hg3
    subst hg1 hg2 hg3
    have m1_0 := bM1.cell 0
    have m1_1 := bM1.cell 1
    have m1_2 := bM1.cell 2
    simp at m1_0 m1_1 m1_2
    have m1_l := bM1.lt
    have m2_0 := bM2.cell 0
    have m2_1 := bM2.cell 1
    have m2_2 := bM2.cell 2
    simp at m2_0 m2_1 m2_2
    have m2_l := bM2.lt
    have m3_0 := bM3.cell 0
    have m3_1 := bM3.cell 1
    have m3_2 := bM3.cell 2
    simp at m3_0 m3_1 m3_2
    have m3_l := bM3.lt
    go_wp2
    exact bodyPost_ret (v := .bool true) (by simp [results, Try.results3, go_sem]) rfl ⟨rfl, hbw⟩
end Go.Proofs.Ytmgpcnkmmgkjgaa
