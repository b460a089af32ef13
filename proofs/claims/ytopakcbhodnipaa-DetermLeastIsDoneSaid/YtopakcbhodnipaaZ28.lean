/- The texts LdL of this proof. No conditions. -/
import Derived.Test.YtopakcbhodnipaaZ26
import Derived.Test.YtopakcbhodnipaaZ21
import Derived.Test.YtopakcbhodnipaaZ11
/- Text LdL. -/
namespace Go.Proofs.Ytopakcbhodnipaa
open Go.RowKit Gm
set_option linter.unusedSimpArgs false
set_option linter.unusedVariables false
set_option maxRecDepth 100000 in
set_option maxHeartbeats 32000000 in
theorem ldlaw_any (v0 : Value) (m : Mach) (w : World) (hm : MachAt w w.heap.size v0 m) :
    Calls Try.prog 8 #[v0] w fun e w' => e = .returned (.bool true) ∧ Below w.heap.size w w' := by
  have h0 := hm
  obtain ⟨A, AF, n, c, nf, cf, rfl, HN, HF, hnc, hnfc, hnb, hnfb, hA, hF⟩ := hm
  have HM0 := hide h0
  have HL := hide (fun W (h : MachAt W W.heap.size (.agg #[.int .i64 m.n, .slice A n c, .slice AF nf cf]) m) => minim_any _ m W W.heap.size (Nat.le_refl _) h)
  have HLD := hide (fun h => least_done (m := m) h)
  obtain ⟨sn, hsn⟩ : ∃ z, z = m.n := ⟨_, rfl⟩
  rw [← hsn] at HM0 HL ⊢
  have he := fun a b c d W => run_neq_fault a b c d W
  have he2 := fun a b c d W => run_eql_fault a b c d W
  have hf0 : fEq 0 0 0 0 = true := rfl
  obtain ⟨l, hl⟩ : ∃ z, z = (minW m).1 := ⟨_, rfl⟩
  obtain ⟨h1, hh1'⟩ : ∃ z, z = (minW m).2.1 := ⟨_, rfl⟩
  obtain ⟨h2, hh2'⟩ : ∃ z, z = (minW m).2.2 := ⟨_, rfl⟩
  rw [← hl, ← hh1', ← hh2'] at HL
  rw [← hl] at HLD
  have HE := hide (show (minW m).2 = (h1, h2) by rw [hh1', hh2'])
  clear h0 hA hF HN HF hl hh1' hh2' hsn
  go_enter Try.func8, Try.ntmps8
  go_upto_region 3 with (go_at_call 30; refine (minimized_any _).mono ?_; rintro e w2 ⟨rfl, hb2⟩; have HB2 := hide hb2; clear hb2)
  obtain ⟨X, hX⟩ : ∃ z, z = w.heap.size := ⟨_, rfl⟩
  have bX := hide (((Blk.at_ (w := w) (g := X) (t := 28) (cs := #[.int .i64 sn, .slice A n c, .slice AF nf cf]) hX)).below HB2.out (by simp [hX]))
  have HBW := hide (show Below w.heap.size w w2 from ((Below.refl _ _).alloc (Nat.le_refl _) _).trans (HB2.out.mono (by simp)))
  have HM := hide ((HM0.out.below HBW.out (Nat.le_refl _)).mono HBW.out.size)
  simp only [← hX]
  clear HB2 HM0 hX
  have lX := bX.out.lt
  have x0 := bX.out.cell 0
  have x1 := bX.out.cell 1
  have x2 := bX.out.cell 2
  simp at x0 x1 x2
  go_upto_region 4 with (go_at_call 35; refine (HL.out _ HM.out).mono ?_; rintro e w3 ⟨v3, rfl, hm3, hb3⟩; obtain ⟨A3, n3, c3, AF3, nf3, cf3, rfl⟩ := agg_of hm3; have HN3 := hide hm3; have HB3 := hide hb3; clear hm3 hb3)
  generalize hW3 : World.alloc _ _ = W3
  obtain ⟨S, hS⟩ : ∃ z, z = w3.heap.size := ⟨_, rfl⟩
  obtain ⟨F, hF⟩ : ∃ z, z = w3.heap.size + 1 := ⟨_, rfl⟩
  have bS := hide (show Blk W3 S 28 #[.int .i64 l.n, .slice A3 n3 c3, .slice AF3 nf3 cf3] by rw [← hW3]; exact (Blk.at_ hS).alloc _)
  have bF := hide (show Blk W3 F 30 #[.int .i64 h1, .int .i64 h2] by rw [← hW3]; exact Blk.at_ (by simp [hF]))
  have q3 := hide (show Below w3.heap.size w3 W3 by rw [← hW3]; go_grown)
  simp only [← hF]
  try simp only [← hS]
  have r3 := hide (HB3.out.trans (q3.out.mono HB3.out.size))
  replace HBW := hide (HBW.out.trans (r3.out.mono HBW.out.size))
  have MS := hide ((HN3.out.at_.below q3.out (Nat.le_refl _)).mono q3.out.size)
  clear HN3 HB3 q3 r3 hW3 hS hF
  clear x0 x1 x2 lX HM bX
  have zF0 := bF.out.cell 0
  have zF1 := bF.out.cell 1
  simp at zF0 zF1
  have kF := bF.out.lt
  by_cases hh : (minW m).2 = (0, 0)
  · have hld := HLD.out hh
    rw [HE.out] at hh
    obtain ⟨rfl, rfl⟩ : h1 = 0 ∧ h2 = 0 := ⟨congrArg Prod.fst hh, congrArg Prod.snd hh⟩
    obtain ⟨ha, hs, hd, hm', ht⟩ := hld
    have hta : trimAns l = l := by unfold trimAns; rw [if_pos (accF_val ha), ht]
    have hva := accF_val ha
    have HA := hide (fun v W (h : MachAt W W.heap.size v l) => by have h' := minim_any v l W W.heap.size (Nat.le_refl _) h; rw [hm'] at h'; exact h')
    have HD := hide (fun v W (h : MachAt W W.heap.size v l) => by have h' := deter_any v l W W.heap.size (Nat.le_refl _) h; rw [hd] at h'; exact h')
    have HS := hide (fun v W (h : MachAt W W.heap.size v l) => by have h' := silw_all v l W W.heap.size (Nat.le_refl _) h; rw [hs] at h'; exact h')
    have HT := hide (fun v W (h : MachAt W W.heap.size v l) => by have h' := trim_any v l W W.heap.size (Nat.le_refl _) h; rw [hta, hva] at h'; exact h')
    have HDL := hide (show decide (l = l) = true from decide_eq_true rfl)
    clear ha hs hd hm' ht hta hva hh HE HLD
    have zS0 := bS.out.cell 0
    have zS1 := bS.out.cell 1
    have zS2 := bS.out.cell 2
    simp at zS0 zS1 zS2
    have kS := bS.out.lt
    go_upto_region 7 with (go_at_call 35; refine (HA.out _ _ MS.out).mono ?_; rintro e w4 ⟨v4, rfl, hm4, hb4⟩; obtain ⟨A4, n4, c4, AF4, nf4, cf4, rfl⟩ := agg_of hm4; have HN4 := hide hm4; have HB4 := hide hb4; clear hm4 hb4)
    generalize hW4 : World.alloc _ _ = W4
    obtain ⟨P, hP⟩ : ∃ z, z = w4.heap.size := ⟨_, rfl⟩
    obtain ⟨G, hG⟩ : ∃ z, z = w4.heap.size + 1 := ⟨_, rfl⟩
    have bP := hide (show Blk W4 P 28 #[.int .i64 l.n, .slice A4 n4 c4, .slice AF4 nf4 cf4] by rw [← hW4]; exact (Blk.at_ hP).alloc _)
    have bG := hide (show Blk W4 G 30 #[.int .i64 0, .int .i64 0] by rw [← hW4]; exact Blk.at_ (by simp [hG]))
    have q4 := hide (show Below w4.heap.size w4 W4 by rw [← hW4]; go_grown)
    simp only [← hG]
    try simp only [← hP]
    have r4 := hide (HB4.out.trans (q4.out.mono HB4.out.size))
    replace bS := hide (bS.out.below r4.out bS.out.lt)
    replace bF := hide (bF.out.below r4.out bF.out.lt)
    replace MS := hide ((MS.out.below r4.out (Nat.le_refl _)).mono r4.out.size)
    replace HBW := hide (HBW.out.trans (r4.out.mono HBW.out.size))
    have MP := hide ((HN4.out.at_.below q4.out (Nat.le_refl _)).mono q4.out.size)
    clear HN4 HB4 q4 r4 hW4 hP hG
    clear zS0 zS1 zS2 kS
    have zS0 := bS.out.cell 0
    have zS1 := bS.out.cell 1
    have zS2 := bS.out.cell 2
    simp at zS0 zS1 zS2
    have kS := bS.out.lt
    go_upto_region 8 with (go_at_call 32; refine (HD.out _ _ MS.out).mono ?_; rintro e w5 ⟨v5, rfl, hm5, hb5⟩; obtain ⟨A5, n5, c5, AF5, nf5, cf5, rfl⟩ := agg_of hm5; have HN5 := hide hm5; have HB5 := hide hb5; clear hm5 hb5)
    generalize hW5 : World.alloc _ _ = W5
    obtain ⟨Q, hQ⟩ : ∃ z, z = w5.heap.size := ⟨_, rfl⟩
    obtain ⟨H, hH⟩ : ∃ z, z = w5.heap.size + 1 := ⟨_, rfl⟩
    have bQ := hide (show Blk W5 Q 28 #[.int .i64 l.n, .slice A5 n5 c5, .slice AF5 nf5 cf5] by rw [← hW5]; exact (Blk.at_ hQ).alloc _)
    have bH := hide (show Blk W5 H 30 #[.int .i64 0, .int .i64 0] by rw [← hW5]; exact Blk.at_ (by simp [hH]))
    have q5 := hide (show Below w5.heap.size w5 W5 by rw [← hW5]; go_grown)
    simp only [← hH]
    try simp only [← hQ]
    have r5 := hide (HB5.out.trans (q5.out.mono HB5.out.size))
    replace bS := hide (bS.out.below r5.out bS.out.lt)
    replace bF := hide (bF.out.below r5.out bF.out.lt)
    replace bP := hide (bP.out.below r5.out bP.out.lt)
    replace bG := hide (bG.out.below r5.out bG.out.lt)
    replace MS := hide ((MS.out.below r5.out (Nat.le_refl _)).mono r5.out.size)
    replace MP := hide ((MP.out.below r5.out (Nat.le_refl _)).mono r5.out.size)
    replace HBW := hide (HBW.out.trans (r5.out.mono HBW.out.size))
    have MQ := hide ((HN5.out.at_.below q5.out (Nat.le_refl _)).mono q5.out.size)
    clear HN5 HB5 q5 r5 hW5 hQ hH
    clear zS0 zS1 zS2 kS
    have zS0 := bS.out.cell 0
    have zS1 := bS.out.cell 1
    have zS2 := bS.out.cell 2
    simp at zS0 zS1 zS2
    have kS := bS.out.lt
    go_upto_region 9 with (go_at_call 31; refine (HS.out _ _ MS.out).mono ?_; rintro e w6 ⟨v6, rfl, hm6, hb6⟩; obtain ⟨A6, n6, c6, AF6, nf6, cf6, rfl⟩ := agg_of hm6; have HN6 := hide hm6; have HB6 := hide hb6; clear hm6 hb6)
    generalize hW6 : World.alloc _ _ = W6
    obtain ⟨R, hR⟩ : ∃ z, z = w6.heap.size := ⟨_, rfl⟩
    obtain ⟨I, hI⟩ : ∃ z, z = w6.heap.size + 1 := ⟨_, rfl⟩
    have bR := hide (show Blk W6 R 28 #[.int .i64 l.n, .slice A6 n6 c6, .slice AF6 nf6 cf6] by rw [← hW6]; exact (Blk.at_ hR).alloc _)
    have bI := hide (show Blk W6 I 30 #[.int .i64 0, .int .i64 0] by rw [← hW6]; exact Blk.at_ (by simp [hI]))
    have q6 := hide (show Below w6.heap.size w6 W6 by rw [← hW6]; go_grown)
    simp only [← hI]
    try simp only [← hR]
    have r6 := hide (HB6.out.trans (q6.out.mono HB6.out.size))
    replace bS := hide (bS.out.below r6.out bS.out.lt)
    replace bF := hide (bF.out.below r6.out bF.out.lt)
    replace bP := hide (bP.out.below r6.out bP.out.lt)
    replace bG := hide (bG.out.below r6.out bG.out.lt)
    replace bQ := hide (bQ.out.below r6.out bQ.out.lt)
    replace bH := hide (bH.out.below r6.out bH.out.lt)
    replace MS := hide ((MS.out.below r6.out (Nat.le_refl _)).mono r6.out.size)
    replace MP := hide ((MP.out.below r6.out (Nat.le_refl _)).mono r6.out.size)
    replace MQ := hide ((MQ.out.below r6.out (Nat.le_refl _)).mono r6.out.size)
    replace HBW := hide (HBW.out.trans (r6.out.mono HBW.out.size))
    have MR := hide ((HN6.out.at_.below q6.out (Nat.le_refl _)).mono q6.out.size)
    clear HN6 HB6 q6 r6 hW6 hR hI
    clear zS0 zS1 zS2 kS
    have zS0 := bS.out.cell 0
    have zS1 := bS.out.cell 1
    have zS2 := bS.out.cell 2
    simp at zS0 zS1 zS2
    have kS := bS.out.lt
    go_upto_region 10 with (go_at_call 36; refine (HT.out _ _ MS.out).mono ?_; rintro e w7 ⟨v7, rfl, hm7, hb7⟩; obtain ⟨A7, n7, c7, AF7, nf7, cf7, rfl⟩ := agg_of hm7; have HN7 := hide hm7; have HB7 := hide hb7; clear hm7 hb7)
    generalize hW7 : World.alloc _ _ = W7
    obtain ⟨T, hT⟩ : ∃ z, z = w7.heap.size := ⟨_, rfl⟩
    obtain ⟨J, hJ⟩ : ∃ z, z = w7.heap.size + 1 := ⟨_, rfl⟩
    have bT := hide (show Blk W7 T 28 #[.int .i64 l.n, .slice A7 n7 c7, .slice AF7 nf7 cf7] by rw [← hW7]; exact (Blk.at_ hT).alloc _)
    have bJ := hide (show Blk W7 J 30 #[.int .i64 0, .int .i64 0] by rw [← hW7]; exact Blk.at_ (by simp [hJ]))
    have q7 := hide (show Below w7.heap.size w7 W7 by rw [← hW7]; go_grown)
    simp only [← hJ]
    try simp only [← hT]
    have r7 := hide (HB7.out.trans (q7.out.mono HB7.out.size))
    replace bS := hide (bS.out.below r7.out bS.out.lt)
    replace bF := hide (bF.out.below r7.out bF.out.lt)
    replace bP := hide (bP.out.below r7.out bP.out.lt)
    replace bG := hide (bG.out.below r7.out bG.out.lt)
    replace bQ := hide (bQ.out.below r7.out bQ.out.lt)
    replace bH := hide (bH.out.below r7.out bH.out.lt)
    replace bR := hide (bR.out.below r7.out bR.out.lt)
    replace bI := hide (bI.out.below r7.out bI.out.lt)
    replace MS := hide ((MS.out.below r7.out (Nat.le_refl _)).mono r7.out.size)
    replace MP := hide ((MP.out.below r7.out (Nat.le_refl _)).mono r7.out.size)
    replace MQ := hide ((MQ.out.below r7.out (Nat.le_refl _)).mono r7.out.size)
    replace MR := hide ((MR.out.below r7.out (Nat.le_refl _)).mono r7.out.size)
    replace HBW := hide (HBW.out.trans (r7.out.mono HBW.out.size))
    have MT := hide ((HN7.out.at_.below q7.out (Nat.le_refl _)).mono q7.out.size)
    clear HN7 HB7 q7 r7 hW7 hT hJ
    clear zS0 zS1 zS2 kS
    have zS0 := bS.out.cell 0
    have zS1 := bS.out.cell 1
    have zS2 := bS.out.cell 2
    simp at zS0 zS1 zS2
    have kS := bS.out.lt
    clear zF0 zF1 kF
    clear zS0 zS1 zS2 kS
    have zG0 := bG.out.cell 0
    have zG1 := bG.out.cell 1
    simp at zG0 zG1
    have kG := bG.out.lt
    have zH0 := bH.out.cell 0
    have zH1 := bH.out.cell 1
    simp at zH0 zH1
    have kH := bH.out.lt
    have zI0 := bI.out.cell 0
    have zI1 := bI.out.cell 1
    simp at zI0 zI1
    have kI := bI.out.lt
    have zJ0 := bJ.out.cell 0
    have zJ1 := bJ.out.cell 1
    simp at zJ0 zJ1
    have kJ := bJ.out.lt
    have zS0 := bS.out.cell 0
    have zS1 := bS.out.cell 1
    have zS2 := bS.out.cell 2
    simp at zS0 zS1 zS2
    have kS := bS.out.lt
    have zP0 := bP.out.cell 0
    have zP1 := bP.out.cell 1
    have zP2 := bP.out.cell 2
    simp at zP0 zP1 zP2
    have kP := bP.out.lt
    have zQ0 := bQ.out.cell 0
    have zQ1 := bQ.out.cell 1
    have zQ2 := bQ.out.cell 2
    simp at zQ0 zQ1 zQ2
    have kQ := bQ.out.lt
    have zR0 := bR.out.cell 0
    have zR1 := bR.out.cell 1
    have zR2 := bR.out.cell 2
    simp at zR0 zR1 zR2
    have kR := bR.out.lt
    have zT0 := bT.out.cell 0
    have zT1 := bT.out.cell 1
    have zT2 := bT.out.cell 2
    simp at zT0 zT1 zT2
    have kT := bT.out.lt
    go_wp2_with fail
    refine (machines_any _ _ l l _ _ (Nat.le_refl _) MP.out MS.out).mono ?_
    rintro e w8 ⟨rfl, hb8⟩
    rw [show decide (l = l) = true from decide_eq_true rfl]
    replace bG := hide (bG.out.below hb8 bG.out.lt)
    replace bH := hide (bH.out.below hb8 bH.out.lt)
    replace bI := hide (bI.out.below hb8 bI.out.lt)
    replace bJ := hide (bJ.out.below hb8 bJ.out.lt)
    replace bS := hide (bS.out.below hb8 bS.out.lt)
    replace bP := hide (bP.out.below hb8 bP.out.lt)
    replace bQ := hide (bQ.out.below hb8 bQ.out.lt)
    replace bR := hide (bR.out.below hb8 bR.out.lt)
    replace bT := hide (bT.out.below hb8 bT.out.lt)
    replace MS := hide ((MS.out.below hb8 (Nat.le_refl _)).mono hb8.size)
    replace MP := hide ((MP.out.below hb8 (Nat.le_refl _)).mono hb8.size)
    replace MQ := hide ((MQ.out.below hb8 (Nat.le_refl _)).mono hb8.size)
    replace MR := hide ((MR.out.below hb8 (Nat.le_refl _)).mono hb8.size)
    replace MT := hide ((MT.out.below hb8 (Nat.le_refl _)).mono hb8.size)
    replace HBW := hide (HBW.out.trans (hb8.mono HBW.out.size))
    clear hb8
    clear zG0 zG1 kG
    clear zH0 zH1 kH
    clear zI0 zI1 kI
    clear zJ0 zJ1 kJ
    clear zS0 zS1 zS2 kS
    clear zP0 zP1 zP2 kP
    clear zQ0 zQ1 zQ2 kQ
    clear zR0 zR1 zR2 kR
    clear zT0 zT1 zT2 kT
    have zG0 := bG.out.cell 0
    have zG1 := bG.out.cell 1
    simp at zG0 zG1
    have kG := bG.out.lt
    have zH0 := bH.out.cell 0
    have zH1 := bH.out.cell 1
    simp at zH0 zH1
    have kH := bH.out.lt
    have zI0 := bI.out.cell 0
    have zI1 := bI.out.cell 1
    simp at zI0 zI1
    have kI := bI.out.lt
    have zJ0 := bJ.out.cell 0
    have zJ1 := bJ.out.cell 1
    simp at zJ0 zJ1
    have kJ := bJ.out.lt
    have zS0 := bS.out.cell 0
    have zS1 := bS.out.cell 1
    have zS2 := bS.out.cell 2
    simp at zS0 zS1 zS2
    have kS := bS.out.lt
    have zP0 := bP.out.cell 0
    have zP1 := bP.out.cell 1
    have zP2 := bP.out.cell 2
    simp at zP0 zP1 zP2
    have kP := bP.out.lt
    have zQ0 := bQ.out.cell 0
    have zQ1 := bQ.out.cell 1
    have zQ2 := bQ.out.cell 2
    simp at zQ0 zQ1 zQ2
    have kQ := bQ.out.lt
    have zR0 := bR.out.cell 0
    have zR1 := bR.out.cell 1
    have zR2 := bR.out.cell 2
    simp at zR0 zR1 zR2
    have kR := bR.out.lt
    have zT0 := bT.out.cell 0
    have zT1 := bT.out.cell 1
    have zT2 := bT.out.cell 2
    simp at zT0 zT1 zT2
    have kT := bT.out.lt
    go_wp2_with fail
    refine (machines_any _ _ l l _ _ (Nat.le_refl _) MQ.out MS.out).mono ?_
    rintro e w9 ⟨rfl, hb9⟩
    rw [show decide (l = l) = true from decide_eq_true rfl]
    replace bG := hide (bG.out.below hb9 bG.out.lt)
    replace bH := hide (bH.out.below hb9 bH.out.lt)
    replace bI := hide (bI.out.below hb9 bI.out.lt)
    replace bJ := hide (bJ.out.below hb9 bJ.out.lt)
    replace bS := hide (bS.out.below hb9 bS.out.lt)
    replace bP := hide (bP.out.below hb9 bP.out.lt)
    replace bQ := hide (bQ.out.below hb9 bQ.out.lt)
    replace bR := hide (bR.out.below hb9 bR.out.lt)
    replace bT := hide (bT.out.below hb9 bT.out.lt)
    replace MS := hide ((MS.out.below hb9 (Nat.le_refl _)).mono hb9.size)
    replace MP := hide ((MP.out.below hb9 (Nat.le_refl _)).mono hb9.size)
    replace MQ := hide ((MQ.out.below hb9 (Nat.le_refl _)).mono hb9.size)
    replace MR := hide ((MR.out.below hb9 (Nat.le_refl _)).mono hb9.size)
    replace MT := hide ((MT.out.below hb9 (Nat.le_refl _)).mono hb9.size)
    replace HBW := hide (HBW.out.trans (hb9.mono HBW.out.size))
    clear hb9
    clear zG0 zG1 kG
    clear zH0 zH1 kH
    clear zI0 zI1 kI
    clear zJ0 zJ1 kJ
    clear zS0 zS1 zS2 kS
    clear zP0 zP1 zP2 kP
    clear zQ0 zQ1 zQ2 kQ
    clear zR0 zR1 zR2 kR
    clear zT0 zT1 zT2 kT
    have zG0 := bG.out.cell 0
    have zG1 := bG.out.cell 1
    simp at zG0 zG1
    have kG := bG.out.lt
    have zH0 := bH.out.cell 0
    have zH1 := bH.out.cell 1
    simp at zH0 zH1
    have kH := bH.out.lt
    have zI0 := bI.out.cell 0
    have zI1 := bI.out.cell 1
    simp at zI0 zI1
    have kI := bI.out.lt
    have zJ0 := bJ.out.cell 0
    have zJ1 := bJ.out.cell 1
    simp at zJ0 zJ1
    have kJ := bJ.out.lt
    have zS0 := bS.out.cell 0
    have zS1 := bS.out.cell 1
    have zS2 := bS.out.cell 2
    simp at zS0 zS1 zS2
    have kS := bS.out.lt
    have zP0 := bP.out.cell 0
    have zP1 := bP.out.cell 1
    have zP2 := bP.out.cell 2
    simp at zP0 zP1 zP2
    have kP := bP.out.lt
    have zQ0 := bQ.out.cell 0
    have zQ1 := bQ.out.cell 1
    have zQ2 := bQ.out.cell 2
    simp at zQ0 zQ1 zQ2
    have kQ := bQ.out.lt
    have zR0 := bR.out.cell 0
    have zR1 := bR.out.cell 1
    have zR2 := bR.out.cell 2
    simp at zR0 zR1 zR2
    have kR := bR.out.lt
    have zT0 := bT.out.cell 0
    have zT1 := bT.out.cell 1
    have zT2 := bT.out.cell 2
    simp at zT0 zT1 zT2
    have kT := bT.out.lt
    go_wp2_with fail
    refine (machines_any _ _ l l _ _ (Nat.le_refl _) MR.out MS.out).mono ?_
    rintro e w10 ⟨rfl, hb10⟩
    rw [show decide (l = l) = true from decide_eq_true rfl]
    replace bG := hide (bG.out.below hb10 bG.out.lt)
    replace bH := hide (bH.out.below hb10 bH.out.lt)
    replace bI := hide (bI.out.below hb10 bI.out.lt)
    replace bJ := hide (bJ.out.below hb10 bJ.out.lt)
    replace bS := hide (bS.out.below hb10 bS.out.lt)
    replace bP := hide (bP.out.below hb10 bP.out.lt)
    replace bQ := hide (bQ.out.below hb10 bQ.out.lt)
    replace bR := hide (bR.out.below hb10 bR.out.lt)
    replace bT := hide (bT.out.below hb10 bT.out.lt)
    replace MS := hide ((MS.out.below hb10 (Nat.le_refl _)).mono hb10.size)
    replace MP := hide ((MP.out.below hb10 (Nat.le_refl _)).mono hb10.size)
    replace MQ := hide ((MQ.out.below hb10 (Nat.le_refl _)).mono hb10.size)
    replace MR := hide ((MR.out.below hb10 (Nat.le_refl _)).mono hb10.size)
    replace MT := hide ((MT.out.below hb10 (Nat.le_refl _)).mono hb10.size)
    replace HBW := hide (HBW.out.trans (hb10.mono HBW.out.size))
    clear hb10
    clear zG0 zG1 kG
    clear zH0 zH1 kH
    clear zI0 zI1 kI
    clear zJ0 zJ1 kJ
    clear zS0 zS1 zS2 kS
    clear zP0 zP1 zP2 kP
    clear zQ0 zQ1 zQ2 kQ
    clear zR0 zR1 zR2 kR
    clear zT0 zT1 zT2 kT
    have zG0 := bG.out.cell 0
    have zG1 := bG.out.cell 1
    simp at zG0 zG1
    have kG := bG.out.lt
    have zH0 := bH.out.cell 0
    have zH1 := bH.out.cell 1
    simp at zH0 zH1
    have kH := bH.out.lt
    have zI0 := bI.out.cell 0
    have zI1 := bI.out.cell 1
    simp at zI0 zI1
    have kI := bI.out.lt
    have zJ0 := bJ.out.cell 0
    have zJ1 := bJ.out.cell 1
    simp at zJ0 zJ1
    have kJ := bJ.out.lt
    have zS0 := bS.out.cell 0
    have zS1 := bS.out.cell 1
    have zS2 := bS.out.cell 2
    simp at zS0 zS1 zS2
    have kS := bS.out.lt
    have zP0 := bP.out.cell 0
    have zP1 := bP.out.cell 1
    have zP2 := bP.out.cell 2
    simp at zP0 zP1 zP2
    have kP := bP.out.lt
    have zQ0 := bQ.out.cell 0
    have zQ1 := bQ.out.cell 1
    have zQ2 := bQ.out.cell 2
    simp at zQ0 zQ1 zQ2
    have kQ := bQ.out.lt
    have zR0 := bR.out.cell 0
    have zR1 := bR.out.cell 1
    have zR2 := bR.out.cell 2
    simp at zR0 zR1 zR2
    have kR := bR.out.lt
    have zT0 := bT.out.cell 0
    have zT1 := bT.out.cell 1
    have zT2 := bT.out.cell 2
    simp at zT0 zT1 zT2
    have kT := bT.out.lt
    go_wp2_with fail
    refine (machines_any _ _ l l _ _ (Nat.le_refl _) MT.out MS.out).mono ?_
    rintro e w11 ⟨rfl, hb11⟩
    rw [show decide (l = l) = true from decide_eq_true rfl]
    replace bG := hide (bG.out.below hb11 bG.out.lt)
    replace bH := hide (bH.out.below hb11 bH.out.lt)
    replace bI := hide (bI.out.below hb11 bI.out.lt)
    replace bJ := hide (bJ.out.below hb11 bJ.out.lt)
    replace bS := hide (bS.out.below hb11 bS.out.lt)
    replace bP := hide (bP.out.below hb11 bP.out.lt)
    replace bQ := hide (bQ.out.below hb11 bQ.out.lt)
    replace bR := hide (bR.out.below hb11 bR.out.lt)
    replace bT := hide (bT.out.below hb11 bT.out.lt)
    replace MS := hide ((MS.out.below hb11 (Nat.le_refl _)).mono hb11.size)
    replace MP := hide ((MP.out.below hb11 (Nat.le_refl _)).mono hb11.size)
    replace MQ := hide ((MQ.out.below hb11 (Nat.le_refl _)).mono hb11.size)
    replace MR := hide ((MR.out.below hb11 (Nat.le_refl _)).mono hb11.size)
    replace MT := hide ((MT.out.below hb11 (Nat.le_refl _)).mono hb11.size)
    replace HBW := hide (HBW.out.trans (hb11.mono HBW.out.size))
    clear hb11
    clear zG0 zG1 kG
    clear zH0 zH1 kH
    clear zI0 zI1 kI
    clear zJ0 zJ1 kJ
    clear zS0 zS1 zS2 kS
    clear zP0 zP1 zP2 kP
    clear zQ0 zQ1 zQ2 kQ
    clear zR0 zR1 zR2 kR
    clear zT0 zT1 zT2 kT
    have zG0 := bG.out.cell 0
    have zG1 := bG.out.cell 1
    simp at zG0 zG1
    have kG := bG.out.lt
    have zH0 := bH.out.cell 0
    have zH1 := bH.out.cell 1
    simp at zH0 zH1
    have kH := bH.out.lt
    have zI0 := bI.out.cell 0
    have zI1 := bI.out.cell 1
    simp at zI0 zI1
    have kI := bI.out.lt
    have zJ0 := bJ.out.cell 0
    have zJ1 := bJ.out.cell 1
    simp at zJ0 zJ1
    have kJ := bJ.out.lt
    have zS0 := bS.out.cell 0
    have zS1 := bS.out.cell 1
    have zS2 := bS.out.cell 2
    simp at zS0 zS1 zS2
    have kS := bS.out.lt
    have zP0 := bP.out.cell 0
    have zP1 := bP.out.cell 1
    have zP2 := bP.out.cell 2
    simp at zP0 zP1 zP2
    have kP := bP.out.lt
    have zQ0 := bQ.out.cell 0
    have zQ1 := bQ.out.cell 1
    have zQ2 := bQ.out.cell 2
    simp at zQ0 zQ1 zQ2
    have kQ := bQ.out.lt
    have zR0 := bR.out.cell 0
    have zR1 := bR.out.cell 1
    have zR2 := bR.out.cell 2
    simp at zR0 zR1 zR2
    have kR := bR.out.lt
    have zT0 := bT.out.cell 0
    have zT1 := bT.out.cell 1
    have zT2 := bT.out.cell 2
    simp at zT0 zT1 zT2
    have kT := bT.out.lt
    go_wp2
    exact bodyPost_ret (v := .bool true) (by simp [results, Try.results8, go_sem]) rfl ⟨rfl, HBW.out⟩
  · have hfb : fEq h1 h2 0 0 = false := fEq_false (fun ⟨k1, k2⟩ => hh (by rw [HE.out, k1, k2]))
    clear hh HE HLD
    go_wp2
    exact bodyPost_ret (v := .bool true) (by simp [results, Try.results8, go_sem]) rfl ⟨rfl, HBW.out⟩
end Go.Proofs.Ytopakcbhodnipaa

