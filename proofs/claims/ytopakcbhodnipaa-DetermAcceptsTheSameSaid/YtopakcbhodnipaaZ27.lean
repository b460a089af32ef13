/- The texts AsL of this proof. No conditions. -/
import Derived.Test.YtopakcbhodnipaaZ26
import Derived.Test.YtopakcbhodnipaaZ21
import Derived.Test.YtopakcbhodnipaaZ13
/- Text AsL. -/
namespace Go.Proofs.Ytopakcbhodnipaa
open Go.RowKit Gm
set_option linter.unusedSimpArgs false
set_option linter.unusedVariables false
theorem acc_ok (va vw : Value) (t : Mach) (S : Nat) (lw : List Int) (w : World) (ht : AcOk t S) (ha : MachAt w w.heap.size va t) (hw : Nums w w.heap.size vw lw) :
    Calls Try.prog 28 #[va, vw] w fun e w' => ∃ b : Bool, e = .returned (.bool b) ∧ (b = true ↔ accA t.arcs t.fins 0 lw) ∧ Below w.heap.size w w' :=
  accepts_any va vw t lw w w.heap.size (Nat.le_refl _) ha hw S ht.n ht.n4 ht.rng ht.frng ht.lab
theorem bool_same {a b : Bool} {P Q : Prop} (ha : a = true ↔ P) (hb : b = true ↔ Q) (h : P ↔ Q) : a = b := by
  cases a <;> cases b <;> simp_all
set_option maxRecDepth 100000 in
set_option maxHeartbeats 32000000 in
theorem aslaw_any (v0 v1 : Value) (m : Mach) (lw : List Int) (w : World) (hm : MachAt w w.heap.size v0 m) (hw : Nums w w.heap.size v1 lw) :
    Calls Try.prog 7 #[v0, v1] w fun e w' => e = .returned (.bool true) ∧ Below w.heap.size w w' := by
  have h0 := hm
  obtain ⟨A, AF, n, c, nf, cf, rfl, HN, HF, hnc, hnfc, hnb, hnfb, hA, hF⟩ := hm
  have HM0 := hide h0
  have HW0 := hide hw
  have HCS := hide (as_cases m)
  have HCT := hide (fun h => acOk_sil (m := m) h)
  have HCD := hide (fun h => acOk_det (m := m) h)
  have HCM := hide (fun h => acOk_min (m := m) h)
  have HWS := hide (fun h => silR_words (m := m) h lw)
  have HWD := hide (fun h => detW_words (m := m) h lw)
  have HWM := hide (fun h => minW_acc (m := m) h lw)
  have HS := hide (fun W (h : MachAt W W.heap.size (.agg #[.int .i64 m.n, .slice A n c, .slice AF nf cf]) m) => silw_all _ m W W.heap.size (Nat.le_refl _) h)
  have HD := hide (fun W (h : MachAt W W.heap.size (.agg #[.int .i64 m.n, .slice A n c, .slice AF nf cf]) m) => deter_any _ m W W.heap.size (Nat.le_refl _) h)
  have HL := hide (fun W (h : MachAt W W.heap.size (.agg #[.int .i64 m.n, .slice A n c, .slice AF nf cf]) m) => minim_any _ m W W.heap.size (Nat.le_refl _) h)
  have HAF := hide (fun W (h : MachAt W W.heap.size (.agg #[.int .i64 m.n, .slice A n c, .slice AF nf cf]) m) => accf_any _ m W W.heap.size (Nat.le_refl _) h)
  obtain ⟨sn, hsn⟩ : ∃ z, z = m.n := ⟨_, rfl⟩
  rw [← hsn] at HM0 HS HD HL HAF ⊢
  have he := fun a b c d W => run_neq_fault a b c d W
  have hf0 : fEq 0 0 0 0 = true := rfl
  have hf1 : fEq 17 (-1) 0 0 = false := rfl
  obtain ⟨s, hs⟩ : ∃ z, z = (silR m).1 := ⟨_, rfl⟩
  obtain ⟨f1, hf1'⟩ : ∃ z, z = (silR m).2.1 := ⟨_, rfl⟩
  obtain ⟨f2, hf2'⟩ : ∃ z, z = (silR m).2.2 := ⟨_, rfl⟩
  obtain ⟨d, hd⟩ : ∃ z, z = (detW m).1 := ⟨_, rfl⟩
  obtain ⟨g1, hg1'⟩ : ∃ z, z = (detW m).2.1 := ⟨_, rfl⟩
  obtain ⟨g2, hg2'⟩ : ∃ z, z = (detW m).2.2 := ⟨_, rfl⟩
  obtain ⟨l, hl⟩ : ∃ z, z = (minW m).1 := ⟨_, rfl⟩
  obtain ⟨h1, hh1'⟩ : ∃ z, z = (minW m).2.1 := ⟨_, rfl⟩
  obtain ⟨h2, hh2'⟩ : ∃ z, z = (minW m).2.2 := ⟨_, rfl⟩
  obtain ⟨a1, ha1'⟩ : ∃ z, z = (accF m).1 := ⟨_, rfl⟩
  obtain ⟨a2, ha2'⟩ : ∃ z, z = (accF m).2 := ⟨_, rfl⟩
  rw [← hs, ← hf1', ← hf2'] at HS
  rw [← hd, ← hg1', ← hg2'] at HD
  rw [← hl, ← hh1', ← hh2'] at HL
  rw [← ha1', ← ha2'] at HAF
  rw [← hs] at HCT HWS
  rw [← hd] at HCD HWD
  rw [← hl] at HCM HWM
  have HE := hide (show accF m = (a1, a2) ∧ (silR m).2 = (f1, f2) ∧ (detW m).2 = (g1, g2) ∧ (minW m).2 = (h1, h2) by
    rw [ha1', ha2', hf1', hf2', hg1', hg2', hh1', hh2']
    exact ⟨rfl, rfl, rfl, rfl⟩)
  clear h0 hA hF HN HF hw hs hf1' hf2' hd hg1' hg2' hl hh1' hh2' ha1' ha2' hsn
  go_enter Try.func7, Try.ntmps7
  go_upto_region 3 with (go_at_call 30; refine (minimized_any _).mono ?_; rintro e w2 ⟨rfl, hb2⟩; have HB2 := hide hb2; clear hb2)
  obtain ⟨X, hX⟩ : ∃ z, z = w.heap.size := ⟨_, rfl⟩
  have bX := hide (((Blk.at_ (w := w) (g := X) (t := 28) (cs := #[.int .i64 sn, .slice A n c, .slice AF nf cf]) hX)).below HB2.out (by simp [hX]))
  have HBW := hide (show Below w.heap.size w w2 from ((Below.refl _ _).alloc (Nat.le_refl _) _).trans (HB2.out.mono (by simp)))
  have HM := hide ((HM0.out.below HBW.out (Nat.le_refl _)).mono HBW.out.size)
  have HW := hide ((HW0.out.below HBW.out (Nat.le_refl _)).mono HBW.out.size)
  simp only [← hX]
  clear HB2 HM0 HW0 hX
  have lX := bX.out.lt
  have x0 := bX.out.cell 0
  have x1 := bX.out.cell 1
  have x2 := bX.out.cell 2
  simp at x0 x1 x2
  go_upto_region 4 with (go_at_call 31; refine (HS.out _ HM.out).mono ?_; rintro e w3 ⟨v3, rfl, hm3, hb3⟩; obtain ⟨A3, n3, c3, AF3, nf3, cf3, rfl⟩ := agg_of hm3; have HN3 := hide hm3; have HB3 := hide hb3; clear hm3 hb3)
  generalize hW3 : World.alloc _ _ = W3
  obtain ⟨S, hS⟩ : ∃ z, z = w3.heap.size := ⟨_, rfl⟩
  obtain ⟨F, hF⟩ : ∃ z, z = w3.heap.size + 1 := ⟨_, rfl⟩
  have bS := hide (show Blk W3 S 28 #[.int .i64 s.n, .slice A3 n3 c3, .slice AF3 nf3 cf3] by rw [← hW3]; exact (Blk.at_ hS).alloc _)
  have bF := hide (show Blk W3 F 30 #[.int .i64 f1, .int .i64 f2] by rw [← hW3]; exact Blk.at_ (by simp [hF]))
  have q3 := hide (show Below w3.heap.size w3 W3 by rw [← hW3]; go_grown)
  simp only [← hF]
  try simp only [← hS]
  have r3 := hide (HB3.out.trans (q3.out.mono HB3.out.size))
  replace bX := hide (bX.out.below r3.out bX.out.lt)
  replace HM := hide ((HM.out.below r3.out (Nat.le_refl _)).mono r3.out.size)
  replace HW := hide ((HW.out.below r3.out (Nat.le_refl _)).mono r3.out.size)
  replace HBW := hide (HBW.out.trans (r3.out.mono HBW.out.size))
  have MS := hide ((HN3.out.at_.below q3.out (Nat.le_refl _)).mono q3.out.size)
  clear HN3 HB3 q3 r3 hW3 hS hF
  clear x0 x1 x2 lX
  have lX := bX.out.lt
  have x0 := bX.out.cell 0
  have x1 := bX.out.cell 1
  have x2 := bX.out.cell 2
  simp at x0 x1 x2
  go_upto_region 5 with (go_at_call 32; refine (HD.out _ HM.out).mono ?_; rintro e w4 ⟨v4, rfl, hm4, hb4⟩; obtain ⟨A4, n4, c4, AF4, nf4, cf4, rfl⟩ := agg_of hm4; have HN4 := hide hm4; have HB4 := hide hb4; clear hm4 hb4)
  generalize hW4 : World.alloc _ _ = W4
  obtain ⟨T, hT⟩ : ∃ z, z = w4.heap.size := ⟨_, rfl⟩
  obtain ⟨G, hG⟩ : ∃ z, z = w4.heap.size + 1 := ⟨_, rfl⟩
  have bT := hide (show Blk W4 T 28 #[.int .i64 d.n, .slice A4 n4 c4, .slice AF4 nf4 cf4] by rw [← hW4]; exact (Blk.at_ hT).alloc _)
  have bG := hide (show Blk W4 G 30 #[.int .i64 g1, .int .i64 g2] by rw [← hW4]; exact Blk.at_ (by simp [hG]))
  have q4 := hide (show Below w4.heap.size w4 W4 by rw [← hW4]; go_grown)
  simp only [← hG]
  try simp only [← hT]
  have r4 := hide (HB4.out.trans (q4.out.mono HB4.out.size))
  replace bX := hide (bX.out.below r4.out bX.out.lt)
  replace bS := hide (bS.out.below r4.out bS.out.lt)
  replace bF := hide (bF.out.below r4.out bF.out.lt)
  replace MS := hide ((MS.out.below r4.out (Nat.le_refl _)).mono r4.out.size)
  replace HM := hide ((HM.out.below r4.out (Nat.le_refl _)).mono r4.out.size)
  replace HW := hide ((HW.out.below r4.out (Nat.le_refl _)).mono r4.out.size)
  replace HBW := hide (HBW.out.trans (r4.out.mono HBW.out.size))
  have MT := hide ((HN4.out.at_.below q4.out (Nat.le_refl _)).mono q4.out.size)
  clear HN4 HB4 q4 r4 hW4 hT hG
  clear x0 x1 x2 lX
  have lX := bX.out.lt
  have x0 := bX.out.cell 0
  have x1 := bX.out.cell 1
  have x2 := bX.out.cell 2
  simp at x0 x1 x2
  go_upto_region 6 with (go_at_call 35; refine (HL.out _ HM.out).mono ?_; rintro e w5 ⟨v5, rfl, hm5, hb5⟩; obtain ⟨A5, n5, c5, AF5, nf5, cf5, rfl⟩ := agg_of hm5; have HN5 := hide hm5; have HB5 := hide hb5; clear hm5 hb5)
  generalize hW5 : World.alloc _ _ = W5
  obtain ⟨U, hU⟩ : ∃ z, z = w5.heap.size := ⟨_, rfl⟩
  obtain ⟨H, hH⟩ : ∃ z, z = w5.heap.size + 1 := ⟨_, rfl⟩
  have bU := hide (show Blk W5 U 28 #[.int .i64 l.n, .slice A5 n5 c5, .slice AF5 nf5 cf5] by rw [← hW5]; exact (Blk.at_ hU).alloc _)
  have bH := hide (show Blk W5 H 30 #[.int .i64 h1, .int .i64 h2] by rw [← hW5]; exact Blk.at_ (by simp [hH]))
  have q5 := hide (show Below w5.heap.size w5 W5 by rw [← hW5]; go_grown)
  simp only [← hH]
  try simp only [← hU]
  have r5 := hide (HB5.out.trans (q5.out.mono HB5.out.size))
  replace bX := hide (bX.out.below r5.out bX.out.lt)
  replace bS := hide (bS.out.below r5.out bS.out.lt)
  replace bF := hide (bF.out.below r5.out bF.out.lt)
  replace bT := hide (bT.out.below r5.out bT.out.lt)
  replace bG := hide (bG.out.below r5.out bG.out.lt)
  replace MS := hide ((MS.out.below r5.out (Nat.le_refl _)).mono r5.out.size)
  replace MT := hide ((MT.out.below r5.out (Nat.le_refl _)).mono r5.out.size)
  replace HM := hide ((HM.out.below r5.out (Nat.le_refl _)).mono r5.out.size)
  replace HW := hide ((HW.out.below r5.out (Nat.le_refl _)).mono r5.out.size)
  replace HBW := hide (HBW.out.trans (r5.out.mono HBW.out.size))
  have MU := hide ((HN5.out.at_.below q5.out (Nat.le_refl _)).mono q5.out.size)
  clear HN5 HB5 q5 r5 hW5 hU hH
  clear x0 x1 x2 lX
  have lX := bX.out.lt
  have x0 := bX.out.cell 0
  have x1 := bX.out.cell 1
  have x2 := bX.out.cell 2
  simp at x0 x1 x2
  have yF0 := bF.out.cell 0
  have yF1 := bF.out.cell 1
  simp at yF0 yF1
  have lF := bF.out.lt
  have yG0 := bG.out.cell 0
  have yG1 := bG.out.cell 1
  simp at yG0 yG1
  have lG := bG.out.lt
  have yH0 := bH.out.cell 0
  have yH1 := bH.out.cell 1
  simp at yH0 yH1
  have lH := bH.out.lt
  clear HS HD HL
  rcases HCS.out with ⟨ha, hs⟩ | ⟨ha, hs⟩ | ⟨ha, hs, hd⟩ | ⟨ha, hs, hd, hl⟩ | ⟨ha, hs, hd, hl⟩
  · obtain ⟨e0, e1, e2, e3⟩ := HE.out
    rw [e1, e0] at hs
    obtain ⟨rfl, rfl⟩ : f1 = a1 ∧ f2 = a2 := ⟨congrArg Prod.fst hs, congrArg Prod.snd hs⟩
    have hfb : fEq f1 f2 0 0 = false := fEq_false (fun ⟨k1, k2⟩ => ha (by rw [e0, k1, k2]))
    clear ha hs e0 e1 e2 e3 HE HCS
    go_wp2_with fail
    refine (HAF.out _ HM.out).mono ?_
    rintro e w6 ⟨rfl, hb6⟩
    have HBF := hide (HBW.out.trans (hb6.mono HBW.out.size))
    have bF6 := bF.out.below hb6 lF
    have bG6 := bG.out.below hb6 lG
    have bH6 := bH.out.below hb6 lH
    clear yF0 yF1 yG0 yG1 yH0 yH1 lF lG lH
    have yF0 := bF6.cell 0
    have yG0 := bG6.cell 0
    have yH0 := bH6.cell 0
    simp at yF0 yG0 yH0
    have lF := bF6.lt
    have lG := bG6.lt
    have lH := bH6.lt
    clear hb6
    go_wp2
    exact bodyPost_ret (v := .bool true) (by simp [results, Try.results7, go_sem]) rfl ⟨rfl, HBF.out⟩
  · obtain ⟨e0, e1, e2, e3⟩ := HE.out
    rw [e0] at ha
    rw [e1] at hs
    obtain ⟨rfl, rfl⟩ : a1 = 0 ∧ a2 = 0 := ⟨congrArg Prod.fst ha, congrArg Prod.snd ha⟩
    obtain ⟨rfl, rfl⟩ : f1 = 17 ∧ f2 = (-1) := ⟨congrArg Prod.fst hs, congrArg Prod.snd hs⟩
    clear ha hs e0 e1 e2 e3 HE HCS
    go_wp2_with fail
    refine (HAF.out _ HM.out).mono ?_
    rintro e w6 ⟨rfl, hb6⟩
    have HBF := hide (HBW.out.trans (hb6.mono HBW.out.size))
    have bF6 := bF.out.below hb6 lF
    have bG6 := bG.out.below hb6 lG
    have bH6 := bH.out.below hb6 lH
    clear yF0 yF1 yG0 yG1 yH0 yH1 lF lG lH
    have yF0 := bF6.cell 0
    have yG0 := bG6.cell 0
    have yH0 := bH6.cell 0
    simp at yF0 yG0 yH0
    have lF := bF6.lt
    have lG := bG6.lt
    have lH := bH6.lt
    clear hb6
    go_wp2
    exact bodyPost_ret (v := .bool true) (by simp [results, Try.results7, go_sem]) rfl ⟨rfl, HBF.out⟩
  · obtain ⟨e0, e1, e2, e3⟩ := HE.out
    rw [e0] at ha
    rw [e1] at hs
    rw [e2] at hd
    obtain ⟨rfl, rfl⟩ : a1 = 0 ∧ a2 = 0 := ⟨congrArg Prod.fst ha, congrArg Prod.snd ha⟩
    obtain ⟨rfl, rfl⟩ : f1 = 0 ∧ f2 = 0 := ⟨congrArg Prod.fst hs, congrArg Prod.snd hs⟩
    obtain ⟨rfl, rfl⟩ : g1 = 17 ∧ g2 = (-1) := ⟨congrArg Prod.fst hd, congrArg Prod.snd hd⟩
    clear ha hs hd e0 e1 e2 e3 HE HCS
    go_wp2_with fail
    refine (HAF.out _ HM.out).mono ?_
    rintro e w6 ⟨rfl, hb6⟩
    have HBF := hide (HBW.out.trans (hb6.mono HBW.out.size))
    have bF6 := bF.out.below hb6 lF
    have bG6 := bG.out.below hb6 lG
    have bH6 := bH.out.below hb6 lH
    clear yF0 yF1 yG0 yG1 yH0 yH1 lF lG lH
    have yF0 := bF6.cell 0
    have yG0 := bG6.cell 0
    have yH0 := bH6.cell 0
    simp at yF0 yG0 yH0
    have lF := bF6.lt
    have lG := bG6.lt
    have lH := bH6.lt
    clear hb6
    go_wp2
    exact bodyPost_ret (v := .bool true) (by simp [results, Try.results7, go_sem]) rfl ⟨rfl, HBF.out⟩
  · obtain ⟨e0, e1, e2, e3⟩ := HE.out
    rw [e0] at ha
    rw [e1] at hs
    rw [e2] at hd
    rw [e3] at hl
    obtain ⟨rfl, rfl⟩ : a1 = 0 ∧ a2 = 0 := ⟨congrArg Prod.fst ha, congrArg Prod.snd ha⟩
    obtain ⟨rfl, rfl⟩ : f1 = 0 ∧ f2 = 0 := ⟨congrArg Prod.fst hs, congrArg Prod.snd hs⟩
    obtain ⟨rfl, rfl⟩ : g1 = 0 ∧ g2 = 0 := ⟨congrArg Prod.fst hd, congrArg Prod.snd hd⟩
    obtain ⟨rfl, rfl⟩ : h1 = 17 ∧ h2 = (-1) := ⟨congrArg Prod.fst hl, congrArg Prod.snd hl⟩
    clear ha hs hd hl e0 e1 e2 e3 HE HCS
    go_wp2_with fail
    refine (HAF.out _ HM.out).mono ?_
    rintro e w6 ⟨rfl, hb6⟩
    have HBF := hide (HBW.out.trans (hb6.mono HBW.out.size))
    have bF6 := bF.out.below hb6 lF
    have bG6 := bG.out.below hb6 lG
    have bH6 := bH.out.below hb6 lH
    clear yF0 yF1 yG0 yG1 yH0 yH1 lF lG lH
    have yF0 := bF6.cell 0
    have yG0 := bG6.cell 0
    have yH0 := bH6.cell 0
    simp at yF0 yG0 yH0
    have lF := bF6.lt
    have lG := bG6.lt
    have lH := bH6.lt
    clear hb6
    go_wp2
    exact bodyPost_ret (v := .bool true) (by simp [results, Try.results7, go_sem]) rfl ⟨rfl, HBF.out⟩
  · obtain ⟨e0, e1, e2, e3⟩ := HE.out
    obtain ⟨Sm, HAm⟩ : ∃ S, Hid (AcOk m S) := ⟨_, hide (acOk_m ha)⟩
    obtain ⟨Ss, hAs⟩ := HCT.out hs
    obtain ⟨Sd, hAd⟩ := HCD.out hd
    obtain ⟨Sl, hAl⟩ := HCM.out hl
    have HAs := hide hAs
    have HAd := hide hAd
    have HAl := hide hAl
    have HIs := hide (HWS.out hs)
    have HId := hide (HWD.out hd)
    have HIl := hide (HWM.out hl)
    rw [e0] at ha
    rw [e1] at hs
    rw [e2] at hd
    rw [e3] at hl
    obtain ⟨rfl, rfl⟩ : a1 = 0 ∧ a2 = 0 := ⟨congrArg Prod.fst ha, congrArg Prod.snd ha⟩
    obtain ⟨rfl, rfl⟩ : f1 = 0 ∧ f2 = 0 := ⟨congrArg Prod.fst hs, congrArg Prod.snd hs⟩
    obtain ⟨rfl, rfl⟩ : g1 = 0 ∧ g2 = 0 := ⟨congrArg Prod.fst hd, congrArg Prod.snd hd⟩
    obtain ⟨rfl, rfl⟩ : h1 = 0 ∧ h2 = 0 := ⟨congrArg Prod.fst hl, congrArg Prod.snd hl⟩
    clear ha hs hd hl e0 e1 e2 e3 HE HCS HCT HCD HCM HWS HWD HWM hAs hAd hAl HAF
    go_wp2_with fail
    refine (acc_ok _ _ m Sm lw _ HAm.out HM.out HW.out).mono ?_
    rintro e w6 ⟨b0, rfl, hi0, hb6⟩
    have HI0 := hide hi0
    replace bS := hide (bS.out.below hb6 bS.out.lt)
    replace bT := hide (bT.out.below hb6 bT.out.lt)
    replace bU := hide (bU.out.below hb6 bU.out.lt)
    replace MS := hide ((MS.out.below hb6 (Nat.le_refl _)).mono (hb6).size)
    replace MT := hide ((MT.out.below hb6 (Nat.le_refl _)).mono (hb6).size)
    replace MU := hide ((MU.out.below hb6 (Nat.le_refl _)).mono (hb6).size)
    replace HW := hide ((HW.out.below hb6 (Nat.le_refl _)).mono (hb6).size)
    replace HBW := hide (HBW.out.trans (hb6.mono HBW.out.size))
    clear hb6 hi0 yF0 yF1 yG0 yG1 yH0 yH1 lF lG lH x0 x1 x2 lX
    have zS0 := bS.out.cell 0
    have zS1 := bS.out.cell 1
    have zS2 := bS.out.cell 2
    simp at zS0 zS1 zS2
    have kS := bS.out.lt
    have zT0 := bT.out.cell 0
    have zT1 := bT.out.cell 1
    have zT2 := bT.out.cell 2
    simp at zT0 zT1 zT2
    have kT := bT.out.lt
    have zU0 := bU.out.cell 0
    have zU1 := bU.out.cell 1
    have zU2 := bU.out.cell 2
    simp at zU0 zU1 zU2
    have kU := bU.out.lt
    go_wp2_with fail
    refine (acc_ok _ _ s Ss lw _ HAs.out MS.out HW.out).mono ?_
    rintro e w7 ⟨b7, rfl, hi7, hb7⟩
    obtain rfl : b0 = b7 := (bool_same hi7 HI0.out HIs.out).symm
    replace bS := hide (bS.out.below hb7 bS.out.lt)
    replace bT := hide (bT.out.below hb7 bT.out.lt)
    replace bU := hide (bU.out.below hb7 bU.out.lt)
    replace MS := hide ((MS.out.below hb7 (Nat.le_refl _)).mono (hb7).size)
    replace MT := hide ((MT.out.below hb7 (Nat.le_refl _)).mono (hb7).size)
    replace MU := hide ((MU.out.below hb7 (Nat.le_refl _)).mono (hb7).size)
    replace HW := hide ((HW.out.below hb7 (Nat.le_refl _)).mono (hb7).size)
    replace HBW := hide (HBW.out.trans (hb7.mono HBW.out.size))
    clear hb7 hi7
    clear zS0 zS1 zS2 kS
    clear zT0 zT1 zT2 kT
    clear zU0 zU1 zU2 kU
    have zS0 := bS.out.cell 0
    have zS1 := bS.out.cell 1
    have zS2 := bS.out.cell 2
    simp at zS0 zS1 zS2
    have kS := bS.out.lt
    have zT0 := bT.out.cell 0
    have zT1 := bT.out.cell 1
    have zT2 := bT.out.cell 2
    simp at zT0 zT1 zT2
    have kT := bT.out.lt
    have zU0 := bU.out.cell 0
    have zU1 := bU.out.cell 1
    have zU2 := bU.out.cell 2
    simp at zU0 zU1 zU2
    have kU := bU.out.lt
    go_wp2_with fail
    refine (acc_ok _ _ d Sd lw _ HAd.out MT.out HW.out).mono ?_
    rintro e w8 ⟨b8, rfl, hi8, hb8⟩
    obtain rfl : b0 = b8 := (bool_same hi8 HI0.out HId.out).symm
    replace bS := hide (bS.out.below hb8 bS.out.lt)
    replace bT := hide (bT.out.below hb8 bT.out.lt)
    replace bU := hide (bU.out.below hb8 bU.out.lt)
    replace MS := hide ((MS.out.below hb8 (Nat.le_refl _)).mono (hb8).size)
    replace MT := hide ((MT.out.below hb8 (Nat.le_refl _)).mono (hb8).size)
    replace MU := hide ((MU.out.below hb8 (Nat.le_refl _)).mono (hb8).size)
    replace HW := hide ((HW.out.below hb8 (Nat.le_refl _)).mono (hb8).size)
    replace HBW := hide (HBW.out.trans (hb8.mono HBW.out.size))
    clear hb8 hi8
    clear zS0 zS1 zS2 kS
    clear zT0 zT1 zT2 kT
    clear zU0 zU1 zU2 kU
    have zS0 := bS.out.cell 0
    have zS1 := bS.out.cell 1
    have zS2 := bS.out.cell 2
    simp at zS0 zS1 zS2
    have kS := bS.out.lt
    have zT0 := bT.out.cell 0
    have zT1 := bT.out.cell 1
    have zT2 := bT.out.cell 2
    simp at zT0 zT1 zT2
    have kT := bT.out.lt
    have zU0 := bU.out.cell 0
    have zU1 := bU.out.cell 1
    have zU2 := bU.out.cell 2
    simp at zU0 zU1 zU2
    have kU := bU.out.lt
    go_wp2_with fail
    refine (acc_ok _ _ l Sl lw _ HAl.out MU.out HW.out).mono ?_
    rintro e w9 ⟨b9, rfl, hi9, hb9⟩
    obtain rfl : b0 = b9 := (bool_same hi9 HI0.out HIl.out).symm
    replace bS := hide (bS.out.below hb9 bS.out.lt)
    replace bT := hide (bT.out.below hb9 bT.out.lt)
    replace bU := hide (bU.out.below hb9 bU.out.lt)
    replace MS := hide ((MS.out.below hb9 (Nat.le_refl _)).mono (hb9).size)
    replace MT := hide ((MT.out.below hb9 (Nat.le_refl _)).mono (hb9).size)
    replace MU := hide ((MU.out.below hb9 (Nat.le_refl _)).mono (hb9).size)
    replace HW := hide ((HW.out.below hb9 (Nat.le_refl _)).mono (hb9).size)
    replace HBW := hide (HBW.out.trans (hb9.mono HBW.out.size))
    clear hb9 hi9
    clear zS0 zS1 zS2 kS
    clear zT0 zT1 zT2 kT
    clear zU0 zU1 zU2 kU
    have zS0 := bS.out.cell 0
    have zS1 := bS.out.cell 1
    have zS2 := bS.out.cell 2
    simp at zS0 zS1 zS2
    have kS := bS.out.lt
    have zT0 := bT.out.cell 0
    have zT1 := bT.out.cell 1
    have zT2 := bT.out.cell 2
    simp at zT0 zT1 zT2
    have kT := bT.out.lt
    have zU0 := bU.out.cell 0
    have zU1 := bU.out.cell 1
    have zU2 := bU.out.cell 2
    simp at zU0 zU1 zU2
    have kU := bU.out.lt
    go_wp2
    exact bodyPost_ret (v := .bool true) (by simp [results, Try.results7, go_sem]) rfl ⟨rfl, HBW.out⟩
end Go.Proofs.Ytopakcbhodnipaa

