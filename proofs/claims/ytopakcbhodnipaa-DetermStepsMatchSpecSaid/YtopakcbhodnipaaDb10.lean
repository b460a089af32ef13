/- The texts DsT of this proof. No conditions. -/
import Derived.Test.YtopakcbhodnipaaCb11
import Derived.Test.YtopakcbhodnipaaCb25
import Derived.Test.YtopakcbhodnipaaCb26
import Derived.Test.YtopakcbhodnipaaCb27
import Derived.Test.YtopakcbhodnipaaCb28
import Derived.Test.YtopakcbhodnipaaDb1
import Derived.Test.YtopakcbhodnipaaDb2
import Derived.Test.YtopakcbhodnipaaDb3
import Derived.Test.YtopakcbhodnipaaDb4
import Derived.Test.YtopakcbhodnipaaDb5
import Derived.Test.YtopakcbhodnipaaDb6
import Derived.Test.YtopakcbhodnipaaDb7
import Derived.Test.YtopakcbhodnipaaDb8
/- Text DsT. -/
namespace Go.Proofs.Ytopakcbhodnipaa
open Go.RowKit Gm
set_option linter.unusedSimpArgs false
set_option linter.unusedVariables false
theorem fEq_selfdst (a b : Int) : fEq a b a b = true := by simp [fEq]
set_option maxRecDepth 100000 in
set_option maxHeartbeats 32000000 in
theorem dst_any (v0 : Value) (m : Mach) (w : World) (hm : MachAt w w.heap.size v0 m) :
 Calls Try.prog 5 #[v0] w fun e w' => e = .returned (.bool true) ∧ Below w.heap.size w w' := by
 have h0 := hm
 obtain ⟨A, AF, n, c, nf, cf, rfl, HN, HF, hnc, hnfc, hnb, hnfb, hA, hF⟩ := hm
 have HM0 := hide h0
 have HCS := hide (st_cases m)
 have HS := hide (fun W (h : MachAt W W.heap.size (.agg #[.int .i64 m.n, .slice A n c, .slice AF nf cf]) m) => silw_all _ m W W.heap.size (Nat.le_refl _) h)
 have HD := hide (fun W (h : MachAt W W.heap.size (.agg #[.int .i64 m.n, .slice A n c, .slice AF nf cf]) m) => deter_any _ m W W.heap.size (Nat.le_refl _) h)
 have HAF := hide (fun W (h : MachAt W W.heap.size (.agg #[.int .i64 m.n, .slice A n c, .slice AF nf cf]) m) => accf_any _ m W W.heap.size (Nat.le_refl _) h)
 obtain ⟨sn, hsn⟩ : ∃ z, z = m.n := ⟨_, rfl⟩
 rw [← hsn] at HM0 HAF HS HD ⊢
 have he := fun a b c d W => run_neq_fault a b c d W
 have he2 := fun a b c d W => run_eql_fault a b c d W
 have hf0 : fEq 0 0 0 0 = true := rfl
 have hf1 : fEq 17 (-1) 0 0 = false := rfl
 have hf2 : fEq 17 (-1) 17 (-1) = true := rfl
 obtain ⟨s, hs⟩ : ∃ z, z = (silR m).1 := ⟨_, rfl⟩
 obtain ⟨f1, hf1'⟩ : ∃ z, z = (silR m).2.1 := ⟨_, rfl⟩
 obtain ⟨f2, hf2'⟩ : ∃ z, z = (silR m).2.2 := ⟨_, rfl⟩
 rw [← hs, ← hf1', ← hf2'] at HS
 obtain ⟨d, hd⟩ : ∃ z, z = (detW m).1 := ⟨_, rfl⟩
 obtain ⟨g1, hg1'⟩ : ∃ z, z = (detW m).2.1 := ⟨_, rfl⟩
 obtain ⟨g2, hg2'⟩ : ∃ z, z = (detW m).2.2 := ⟨_, rfl⟩
 rw [← hd, ← hg1', ← hg2'] at HD
 obtain ⟨a1, ha1'⟩ : ∃ z, z = (accF m).1 := ⟨_, rfl⟩
 obtain ⟨a2, ha2'⟩ : ∃ z, z = (accF m).2 := ⟨_, rfl⟩
 rw [← ha1', ← ha2'] at HAF
 have HE := hide (show accF m = (a1, a2) ∧ silR m = (s, (f1, f2)) ∧ detW m = (d, (g1, g2)) by
  rw [ha1', ha2', hs, hf1', hf2', hd, hg1', hg2']
  exact ⟨rfl, rfl, rfl⟩)
 clear h0 hA hF HN HF hsn ha1' ha2' hs hf1' hf2' hd hg1' hg2'
 go_enter Try.func5, Try.ntmps5
 go_upto_region 3 with (go_at_call 30; refine (minimized_any _).mono ?_; rintro e w2 ⟨rfl, hb2⟩; have HB2 := hide hb2; clear hb2)
 obtain ⟨X, hX⟩ : ∃ z, z = w.heap.size := ⟨_, rfl⟩
 have bX := hide (((Blk.at_ (w := w) (g := X) (t := 28) (cs := #[.int .i64 sn, .slice A n c, .slice AF nf cf]) hX)).below HB2.out (by simp [hX]))
 have HBW := hide (show Below w.heap.size w w2 from ((Below.refl _ _).alloc (Nat.le_refl _) _).trans (HB2.out.mono (by simp)))
 have HM := hide ((HM0.out.below HBW.out (Nat.le_refl _)).mono HBW.out.size)
 simp only [← hX]
 clear HB2 HM0 hX
 have lX := bX.out.lt
 have x0 := bX.out.cell 0
 have x1 := bX.out.cell 1
 have x2 := bX.out.cell 2
 simp at x0 x1 x2
 go_upto_region 4 with (go_at_call 31; refine (HS.out _ HM.out).mono ?_; rintro e w3 ⟨v3, rfl, hm3, hb3⟩; obtain ⟨A3, n3, c3, AF3, nf3, cf3, rfl⟩ := agg_of hm3; have HN3 := hide hm3; have HB3 := hide hb3; clear hm3 hb3)
 generalize hW3 : World.alloc _ _ = W3
 obtain ⟨S, hS⟩ : ∃ z, z = w3.heap.size := ⟨_, rfl⟩
 obtain ⟨F, hF⟩ : ∃ z, z = w3.heap.size + 1 := ⟨_, rfl⟩
 have bS := hide (show Blk W3 S 28 #[.int .i64 s.n, .slice A3 n3 c3, .slice AF3 nf3 cf3] by rw [← hW3]; exact (Blk.at_ hS).alloc _)
 have bF := hide (show Blk W3 F 30 #[.int .i64 f1, .int .i64 f2] by rw [← hW3]; exact Blk.at_ (by simp [hF]))
 have q3 := hide (show Below w3.heap.size w3 W3 by rw [← hW3]; go_grown)
 simp only [← hF]
 try simp only [← hS]
 have r3 := hide (HB3.out.trans (q3.out.mono HB3.out.size))
 replace bX := hide (bX.out.below r3.out bX.out.lt)
 replace HM := hide ((HM.out.below r3.out (Nat.le_refl _)).mono (r3.out).size)
 replace HBW := hide (HBW.out.trans (r3.out.mono HBW.out.size))
 have MS := hide ((HN3.out.at_.below q3.out (Nat.le_refl _)).mono q3.out.size)
 clear HN3 HB3 q3 r3 hW3 hS hF
 clear x0 x1 x2 lX
 have lX := bX.out.lt
 have x0 := bX.out.cell 0
 have x1 := bX.out.cell 1
 have x2 := bX.out.cell 2
 simp at x0 x1 x2
 go_upto_region 5 with (go_at_call 32; refine (HD.out _ HM.out).mono ?_; rintro e w4 ⟨v4, rfl, hm4, hb4⟩; obtain ⟨A4, n4, c4, AF4, nf4, cf4, rfl⟩ := agg_of hm4; have HN4 := hide hm4; have HB4 := hide hb4; clear hm4 hb4)
 generalize hW4 : World.alloc _ _ = W4
 obtain ⟨T, hT⟩ : ∃ z, z = w4.heap.size := ⟨_, rfl⟩
 obtain ⟨G, hG⟩ : ∃ z, z = w4.heap.size + 1 := ⟨_, rfl⟩
 have bT := hide (show Blk W4 T 28 #[.int .i64 d.n, .slice A4 n4 c4, .slice AF4 nf4 cf4] by rw [← hW4]; exact (Blk.at_ hT).alloc _)
 have bG := hide (show Blk W4 G 30 #[.int .i64 g1, .int .i64 g2] by rw [← hW4]; exact Blk.at_ (by simp [hG]))
 have q4 := hide (show Below w4.heap.size w4 W4 by rw [← hW4]; go_grown)
 simp only [← hG]
 try simp only [← hT]
 have r4 := hide (HB4.out.trans (q4.out.mono HB4.out.size))
 replace bX := hide (bX.out.below r4.out bX.out.lt)
 replace bS := hide (bS.out.below r4.out bS.out.lt)
 replace bF := hide (bF.out.below r4.out bF.out.lt)
 replace MS := hide ((MS.out.below r4.out (Nat.le_refl _)).mono (r4.out).size)
 replace HM := hide ((HM.out.below r4.out (Nat.le_refl _)).mono (r4.out).size)
 replace HBW := hide (HBW.out.trans (r4.out.mono HBW.out.size))
 have MT := hide ((HN4.out.at_.below q4.out (Nat.le_refl _)).mono q4.out.size)
 clear HN4 HB4 q4 r4 hW4 hT hG
 clear x0 x1 x2 lX
 have lX := bX.out.lt
 have x0 := bX.out.cell 0
 have x1 := bX.out.cell 1
 have x2 := bX.out.cell 2
 simp at x0 x1 x2
 go_upto_region 6 with (go_at_call 24; refine (HAF.out _ HM.out).mono ?_; rintro e w5 ⟨rfl, hb5⟩; have HB5 := hide hb5; clear hb5)
 generalize hW5 : World.alloc _ _ = W5
 obtain ⟨H, hH⟩ : ∃ z, z = w5.heap.size := ⟨_, rfl⟩
 have bH := hide (show Blk W5 H 30 #[.int .i64 a1, .int .i64 a2] by rw [← hW5]; exact Blk.at_ hH)
 have q5 := hide (show Below w5.heap.size w5 W5 by rw [← hW5]; go_grown)
 simp only [← hH]
 have r5 := hide (HB5.out.trans (q5.out.mono HB5.out.size))
 replace bX := hide (bX.out.below r5.out bX.out.lt)
 replace bS := hide (bS.out.below r5.out bS.out.lt)
 replace bF := hide (bF.out.below r5.out bF.out.lt)
 replace bT := hide (bT.out.below r5.out bT.out.lt)
 replace bG := hide (bG.out.below r5.out bG.out.lt)
 replace MS := hide ((MS.out.below r5.out (Nat.le_refl _)).mono (r5.out).size)
 replace MT := hide ((MT.out.below r5.out (Nat.le_refl _)).mono (r5.out).size)
 replace HM := hide ((HM.out.below r5.out (Nat.le_refl _)).mono (r5.out).size)
 replace HBW := hide (HBW.out.trans (r5.out.mono HBW.out.size))
 clear HB5 q5 r5 hW5 hH
 clear x0 x1 x2 lX
 have lX := bX.out.lt
 have x0 := bX.out.cell 0
 have x1 := bX.out.cell 1
 have x2 := bX.out.cell 2
 simp at x0 x1 x2
 have zF0 := bF.out.cell 0
 have zF1 := bF.out.cell 1
 simp at zF0 zF1
 have kF := bF.out.lt
 have zG0 := bG.out.cell 0
 have zG1 := bG.out.cell 1
 simp at zG0 zG1
 have kG := bG.out.lt
 have zH0 := bH.out.cell 0
 have zH1 := bH.out.cell 1
 simp at zH0 zH1
 have kH := bH.out.lt
 have zS0 := bS.out.cell 0
 have zS1 := bS.out.cell 1
 have zS2 := bS.out.cell 2
 simp at zS0 zS1 zS2
 have kS := bS.out.lt
 have zT0 := bT.out.cell 0
 have zT1 := bT.out.cell 1
 have zT2 := bT.out.cell 2
 simp at zT0 zT1 zT2
 have kT := bT.out.lt
 clear HS HD HAF
 rcases HCS.out with ⟨ha, hs, hd, _⟩ | ⟨ha, h20, hs, hd⟩ | ⟨ha, h20, hs⟩
 ·
  obtain ⟨e0, e1, e2⟩ := HE.out
  have hq := e1.symm.trans hs
  have hq2 := e2.symm.trans hd
  have hs0 : s = emptyM := congrArg Prod.fst hq
  have hd0 : d = emptyM := congrArg Prod.fst hq2
  have h12 : (f1, f2) = (a1, a2) := (congrArg Prod.snd hq).trans e0
  have h34 : (g1, g2) = (a1, a2) := (congrArg Prod.snd hq2).trans e0
  obtain ⟨rfl, rfl⟩ : f1 = a1 ∧ f2 = a2 := ⟨congrArg Prod.fst h12, congrArg Prod.snd h12⟩
  obtain ⟨rfl, rfl⟩ : g1 = f1 ∧ g2 = f2 := ⟨congrArg Prod.fst h34, congrArg Prod.snd h34⟩
  have hfb : fEq g1 g2 0 0 = false := fEq_false (fun ⟨k1, k2⟩ => ha (by rw [e0, k1, k2]))
  have hfs := fEq_selfdst g1 g2
  subst hs0 hd0
  have t0 : emptyM.n = 0 := rfl
  rw [t0] at zS0 zT0
  clear ha hs hd e0 e1 e2 HE HCS hq hq2 h12 h34 t0
  go_wp2
  exact bodyPost_ret (v := .bool true) (by simp [results, Try.results5, go_sem]) rfl ⟨rfl, HBW.out⟩
 ·
  obtain ⟨e0, e1, e2⟩ := HE.out
  have HA := hide ha
  rw [e0] at ha
  obtain ⟨rfl, rfl⟩ : a1 = 0 ∧ a2 = 0 := ⟨congrArg Prod.fst ha, congrArg Prod.snd ha⟩
  have hq := e1.symm.trans hs
  have hs0 : s = emptyM := congrArg Prod.fst hq
  have h12 : (f1, f2) = (17, -1) := congrArg Prod.snd hq
  obtain ⟨rfl, rfl⟩ : f1 = 17 ∧ f2 = -1 := ⟨congrArg Prod.fst h12, congrArg Prod.snd h12⟩
  have H20 := hide h20
  have hq2 := e2.symm.trans hd
  have h34 : (g1, g2) = (17, -1) := congrArg Prod.snd hq2
  obtain ⟨rfl, rfl⟩ : g1 = 17 ∧ g2 = -1 := ⟨congrArg Prod.fst h34, congrArg Prod.snd h34⟩
  clear ha hs hd e0 e1 e2 HE HCS hq hq2 h12 h34 h20 hs0
  go_upto_region 9 with (go_at_call 33; refine (silentOf_any _ m _ _ (Nat.le_refl _) HM.out HA.out).mono ?_; rintro e w6 ⟨v6, rfl, hm6, hb6⟩; obtain ⟨A6, AF6, n6, c6, nf6, cf6, rfl, hn6⟩ := agg_ofL hm6.at_; have HN6 := hide hn6; have HM6 := hide hm6; have HB6 := hide hb6; clear hm6 hn6 hb6)
  generalize hW6 : World.alloc _ _ = W6
  obtain ⟨P, hP⟩ : ∃ z, z = w6.heap.size := ⟨_, rfl⟩
  have bP := hide (show Blk W6 P 28 #[.int .i64 (silM m).n, .slice A6 n6 c6, .slice AF6 nf6 cf6] by rw [← hW6]; exact Blk.at_ hP)
  have q6 := hide (show Below w6.heap.size w6 W6 by rw [← hW6]; go_grown)
  simp only [← hP]
  have r6 := hide (HB6.out.trans (q6.out.mono HB6.out.size))
  replace bX := hide (bX.out.below r6.out bX.out.lt)
  replace bS := hide (bS.out.below r6.out bS.out.lt)
  replace bF := hide (bF.out.below r6.out bF.out.lt)
  replace bT := hide (bT.out.below r6.out bT.out.lt)
  replace bG := hide (bG.out.below r6.out bG.out.lt)
  replace bH := hide (bH.out.below r6.out bH.out.lt)
  replace MS := hide ((MS.out.below r6.out (Nat.le_refl _)).mono (r6.out).size)
  replace MT := hide ((MT.out.below r6.out (Nat.le_refl _)).mono (r6.out).size)
  replace HM := hide ((HM.out.below r6.out (Nat.le_refl _)).mono (r6.out).size)
  replace HBW := hide (HBW.out.trans (r6.out.mono HBW.out.size))
  have MP := hide ((HM6.out.at_.below q6.out (Nat.le_refl _)).mono q6.out.size)
  clear hW6 hP HM6 q6 r6 HB6 x0 x1 x2 lX
  clear zF0 zF1 kF
  clear zG0 zG1 kG
  clear zH0 zH1 kH
  clear zS0 zS1 zS2 kS
  clear zT0 zT1 zT2 kT
  have t20 : decide ((n6 : Int) > 2000) = true := decide_eq_true (by have := H20.out; have := HN6.out; omega)
  have t20' : decide (2000 < (n6 : Int)) = true := decide_eq_true (by have := H20.out; have := HN6.out; omega)
  have t20'' : decide (2000 < n6) = true := decide_eq_true (by have := H20.out; have := HN6.out; omega)
  have zP0 := bP.out.cell 0
  have zP1 := bP.out.cell 1
  have zP2 := bP.out.cell 2
  simp at zP0 zP1 zP2
  have kP := bP.out.lt
  have zF0 := bF.out.cell 0
  have zF1 := bF.out.cell 1
  simp at zF0 zF1
  have kF := bF.out.lt
  have zG0 := bG.out.cell 0
  have zG1 := bG.out.cell 1
  simp at zG0 zG1
  have kG := bG.out.lt
  go_wp2
  exact bodyPost_ret (v := .bool true) (by simp [results, Try.results5, go_sem]) rfl ⟨rfl, HBW.out⟩
 ·
  obtain ⟨e0, e1, e2⟩ := HE.out
  have HA := hide ha
  rw [e0] at ha
  obtain ⟨rfl, rfl⟩ : a1 = 0 ∧ a2 = 0 := ⟨congrArg Prod.fst ha, congrArg Prod.snd ha⟩
  have hq := e1.symm.trans hs
  have hs0 : s = silM m := congrArg Prod.fst hq
  have h12 : (f1, f2) = (0, 0) := congrArg Prod.snd hq
  obtain ⟨rfl, rfl⟩ : f1 = 0 ∧ f2 = 0 := ⟨congrArg Prod.fst h12, congrArg Prod.snd h12⟩
  have H20 := hide h20
  subst hs0
  have HE2 := hide e2
  clear ha hs e0 e1 e2 HE HCS hq h12 h20
  go_upto_region 9 with (go_at_call 33; refine (silentOf_any _ m _ _ (Nat.le_refl _) HM.out HA.out).mono ?_; rintro e w6 ⟨v6, rfl, hm6, hb6⟩; obtain ⟨A6, AF6, n6, c6, nf6, cf6, rfl, hn6⟩ := agg_ofL hm6.at_; have HN6 := hide hn6; have HM6 := hide hm6; have HB6 := hide hb6; clear hm6 hn6 hb6)
  generalize hW6 : World.alloc _ _ = W6
  obtain ⟨P, hP⟩ : ∃ z, z = w6.heap.size := ⟨_, rfl⟩
  have bP := hide (show Blk W6 P 28 #[.int .i64 (silM m).n, .slice A6 n6 c6, .slice AF6 nf6 cf6] by rw [← hW6]; exact Blk.at_ hP)
  have q6 := hide (show Below w6.heap.size w6 W6 by rw [← hW6]; go_grown)
  simp only [← hP]
  have r6 := hide (HB6.out.trans (q6.out.mono HB6.out.size))
  replace bX := hide (bX.out.below r6.out bX.out.lt)
  replace bS := hide (bS.out.below r6.out bS.out.lt)
  replace bF := hide (bF.out.below r6.out bF.out.lt)
  replace bT := hide (bT.out.below r6.out bT.out.lt)
  replace bG := hide (bG.out.below r6.out bG.out.lt)
  replace bH := hide (bH.out.below r6.out bH.out.lt)
  replace MS := hide ((MS.out.below r6.out (Nat.le_refl _)).mono (r6.out).size)
  replace MT := hide ((MT.out.below r6.out (Nat.le_refl _)).mono (r6.out).size)
  replace HM := hide ((HM.out.below r6.out (Nat.le_refl _)).mono (r6.out).size)
  replace HBW := hide (HBW.out.trans (r6.out.mono HBW.out.size))
  have MP := hide ((HM6.out.at_.below q6.out (Nat.le_refl _)).mono q6.out.size)
  clear hW6 hP HM6 q6 r6 HB6 x0 x1 x2 lX
  clear zF0 zF1 kF
  clear zG0 zG1 kG
  clear zH0 zH1 kH
  clear zS0 zS1 zS2 kS
  clear zT0 zT1 zT2 kT
  have t20 : decide ((n6 : Int) > 2000) = false := decide_eq_false (by have := H20.out; have := HN6.out; omega)
  have t20' : decide (2000 < (n6 : Int)) = false := decide_eq_false (by have := H20.out; have := HN6.out; omega)
  have t20'' : decide (2000 < n6) = false := decide_eq_false (by have := H20.out; have := HN6.out; omega)
  have zP0 := bP.out.cell 0
  have zP1 := bP.out.cell 1
  have zP2 := bP.out.cell 2
  simp at zP0 zP1 zP2
  have kP := bP.out.lt
  have zF0 := bF.out.cell 0
  have zF1 := bF.out.cell 1
  simp at zF0 zF1
  have kF := bF.out.lt
  have zS0 := bS.out.cell 0
  have zS1 := bS.out.cell 1
  have zS2 := bS.out.cell 2
  simp at zS0 zS1 zS2
  have kS := bS.out.lt
  go_wp2_with fail
  refine (machines_any _ _ (silM m) (silM m) _ _ (Nat.le_refl _) MS.out MP.out).mono ?_
  rintro e w7 ⟨rfl, hb7⟩
  rw [show decide (silM m = silM m) = true from decide_eq_true rfl]
  replace bX := hide (bX.out.below hb7 bX.out.lt)
  replace bS := hide (bS.out.below hb7 bS.out.lt)
  replace bF := hide (bF.out.below hb7 bF.out.lt)
  replace bT := hide (bT.out.below hb7 bT.out.lt)
  replace bG := hide (bG.out.below hb7 bG.out.lt)
  replace bH := hide (bH.out.below hb7 bH.out.lt)
  replace bP := hide (bP.out.below hb7 bP.out.lt)
  replace MT := hide ((MT.out.below hb7 (Nat.le_refl _)).mono (hb7).size)
  replace HM := hide ((HM.out.below hb7 (Nat.le_refl _)).mono (hb7).size)
  replace HBW := hide (HBW.out.trans (hb7.mono HBW.out.size))
  clear hb7 t20 t20' t20'' MS MP
  clear zP0 zP1 zP2 kP
  clear zF0 zF1 kF
  clear zS0 zS1 zS2 kS
  have zX0 := bX.out.cell 0
  have zX1 := bX.out.cell 1
  have zX2 := bX.out.cell 2
  simp at zX0 zX1 zX2
  have kX := bX.out.lt
  go_upto_region 14 with (go_at_call 34; refine (sets_any _ m _ _ (Nat.le_refl _) HM.out HA.out H20.out).mono ?_; rintro e w8 ⟨v8, b, rfl, hb8, hf8, ht8⟩; obtain ⟨mm, hmn, hme⟩ : ∃ mm, MachNew w7.heap.size w8 v8 mm ∧ (b = true → mm = setsR m ∧ mm.n ≤ 60) := (by cases b; exact ⟨_, hf8 rfl, fun h => (by cases h)⟩; exact ⟨_, (ht8 rfl).1, fun _ => ⟨rfl, (ht8 rfl).2⟩⟩); obtain ⟨A8, AF8, n8, c8, nf8, cf8, rfl, hn8⟩ := agg_ofL hmn.at_; have HN8 := hide hn8; have HM8 := hide hmn; have HME := hide hme; have HB8 := hide hb8; clear hmn hn8 hme hb8 hf8 ht8)
  generalize hW8 : World.alloc _ _ = W8
  obtain ⟨U, hU⟩ : ∃ z, z = w8.heap.size := ⟨_, rfl⟩
  have bU := hide (show Blk W8 U 28 #[.int .i64 mm.n, .slice A8 n8 c8, .slice AF8 nf8 cf8] by rw [← hW8]; exact Blk.at_ hU)
  have q8 := hide (show Below w8.heap.size w8 W8 by rw [← hW8]; go_grown)
  simp only [← hU]
  have r8 := hide (HB8.out.trans (q8.out.mono HB8.out.size))
  clear zX0 zX1 zX2 kX
  replace bX := hide (bX.out.below r8.out bX.out.lt)
  replace bS := hide (bS.out.below r8.out bS.out.lt)
  replace bF := hide (bF.out.below r8.out bF.out.lt)
  replace bT := hide (bT.out.below r8.out bT.out.lt)
  replace bG := hide (bG.out.below r8.out bG.out.lt)
  replace bH := hide (bH.out.below r8.out bH.out.lt)
  replace bP := hide (bP.out.below r8.out bP.out.lt)
  replace MT := hide ((MT.out.below r8.out (Nat.le_refl _)).mono (r8.out).size)
  replace HM := hide ((HM.out.below r8.out (Nat.le_refl _)).mono (r8.out).size)
  replace HBW := hide (HBW.out.trans (r8.out.mono HBW.out.size))
  have MU := hide ((HM8.out.at_.below q8.out (Nat.le_refl _)).mono q8.out.size)
  clear hW8 hU q8 r8 HB8 HM8
  cases b
  ·
   go_wp2
   exact bodyPost_ret (v := .bool true) (by simp [results, Try.results5, go_sem]) rfl ⟨rfl, HBW.out⟩
  ·
   obtain ⟨rfl, h60⟩ := HME.out rfl
   have hd := st_det HA.out H20.out h60
   rw [HE2.out] at hd
   by_cases h3 : 2000 < n8
   ·
    have hq : (d, (g1, g2)) = (emptyM, (17, -1)) := by rw [hd, if_pos (by rw [HN8.out]; exact h3)]
    have hd0 : d = emptyM := congrArg Prod.fst hq
    have h34 : (g1, g2) = (17, -1) := congrArg Prod.snd hq
    obtain ⟨rfl, rfl⟩ : g1 = 17 ∧ g2 = -1 := ⟨congrArg Prod.fst h34, congrArg Prod.snd h34⟩
    subst hd0
    have t20 : decide ((n8 : Int) > 2000) = true := decide_eq_true (by omega)
    have t20' : decide (2000 < (n8 : Int)) = true := decide_eq_true (by omega)
    have t20'' : decide (2000 < n8) = true := decide_eq_true h3
    clear h3 hq h34 hd h60 HME HE2
    have zU0 := bU.out.cell 0
    have zU1 := bU.out.cell 1
    have zU2 := bU.out.cell 2
    simp at zU0 zU1 zU2
    have kU := bU.out.lt
    have zG0 := bG.out.cell 0
    have zG1 := bG.out.cell 1
    simp at zG0 zG1
    have kG := bG.out.lt
    have zT0 := bT.out.cell 0
    have zT1 := bT.out.cell 1
    have zT2 := bT.out.cell 2
    simp at zT0 zT1 zT2
    have kT := bT.out.lt
    have t0 : emptyM.n = 0 := rfl
    rw [t0] at zT0
    clear t0
    go_wp2
    exact bodyPost_ret (v := .bool true) (by simp [results, Try.results5, go_sem]) rfl ⟨rfl, HBW.out⟩
   ·
    have hq : (d, (g1, g2)) = (setsR m, (0, 0)) := by rw [hd, if_neg (by rw [HN8.out]; exact h3)]
    have hd0 : d = setsR m := congrArg Prod.fst hq
    have h34 : (g1, g2) = (0, 0) := congrArg Prod.snd hq
    obtain ⟨rfl, rfl⟩ : g1 = 0 ∧ g2 = 0 := ⟨congrArg Prod.fst h34, congrArg Prod.snd h34⟩
    subst hd0
    have t20 : decide ((n8 : Int) > 2000) = false := decide_eq_false (by omega)
    have t20' : decide (2000 < (n8 : Int)) = false := decide_eq_false (by omega)
    have t20'' : decide (2000 < n8) = false := decide_eq_false h3
    clear h3 hq h34 hd h60 HME HE2
    have zU0 := bU.out.cell 0
    have zU1 := bU.out.cell 1
    have zU2 := bU.out.cell 2
    simp at zU0 zU1 zU2
    have kU := bU.out.lt
    have zG0 := bG.out.cell 0
    have zG1 := bG.out.cell 1
    simp at zG0 zG1
    have kG := bG.out.lt
    have zT0 := bT.out.cell 0
    have zT1 := bT.out.cell 1
    have zT2 := bT.out.cell 2
    simp at zT0 zT1 zT2
    have kT := bT.out.lt
    go_wp2_with fail
    refine (machines_any _ _ (setsR m) (setsR m) _ _ (Nat.le_refl _) MT.out MU.out).mono ?_
    rintro e w9 ⟨rfl, hb9⟩
    rw [show decide (setsR m = setsR m) = true from decide_eq_true rfl]
    replace HBW := hide (HBW.out.trans (hb9.mono HBW.out.size))
    clear hb9 zU0 zU1 zU2 kU zG0 zG1 kG zT0 zT1 zT2 kT
    go_wp2
    exact bodyPost_ret (v := .bool true) (by simp [results, Try.results5, go_sem]) rfl ⟨rfl, HBW.out⟩
end Go.Proofs.Ytopakcbhodnipaa
