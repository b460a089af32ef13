/- The texts DlL of this proof. No conditions. -/
import Derived.Test.YtopakcbhodnipaaCb11
import Derived.Test.YtopakcbhodnipaaCb25
import Derived.Test.YtopakcbhodnipaaCb26
import Derived.Test.YtopakcbhodnipaaCb27
import Derived.Test.YtopakcbhodnipaaCb28
import Derived.Test.YtopakcbhodnipaaDb1
import Derived.Test.YtopakcbhodnipaaDb2
import Derived.Test.YtopakcbhodnipaaDb3
import Derived.Test.YtopakcbhodnipaaDb4
import Derived.Test.YtopakcbhodnipaaDb5
import Derived.Test.YtopakcbhodnipaaDb6
import Derived.Test.YtopakcbhodnipaaDb7
import Derived.Test.YtopakcbhodnipaaDb8
/- Text DlL. -/
namespace Go.Proofs.Ytopakcbhodnipaa
open Go.RowKit Gm
set_option linter.unusedSimpArgs false
set_option linter.unusedVariables false
theorem fEq_selfdlm (a b : Int) : fEq a b a b = true := by simp [fEq]
set_option maxRecDepth 100000 in
set_option maxHeartbeats 32000000 in
theorem dlm_any (v0 : Value) (m : Mach) (w : World) (hm : MachAt w w.heap.size v0 m) :
 Calls Try.prog 6 #[v0] w fun e w' => e = .returned (.bool true) ∧ Below w.heap.size w w' := by
 have h0 := hm
 obtain ⟨A, AF, n, c, nf, cf, rfl, HN, HF, hnc, hnfc, hnb, hnfb, hA, hF⟩ := hm
 have HM0 := hide h0
 have HCS := hide (st_cases m)
 have HL := hide (fun W (h : MachAt W W.heap.size (.agg #[.int .i64 m.n, .slice A n c, .slice AF nf cf]) m) => minim_any _ m W W.heap.size (Nat.le_refl _) h)
 have HAF := hide (fun W (h : MachAt W W.heap.size (.agg #[.int .i64 m.n, .slice A n c, .slice AF nf cf]) m) => accf_any _ m W W.heap.size (Nat.le_refl _) h)
 obtain ⟨sn, hsn⟩ : ∃ z, z = m.n := ⟨_, rfl⟩
 rw [← hsn] at HM0 HAF HL ⊢
 have he := fun a b c d W => run_neq_fault a b c d W
 have he2 := fun a b c d W => run_eql_fault a b c d W
 have hf0 : fEq 0 0 0 0 = true := rfl
 have hf1 : fEq 17 (-1) 0 0 = false := rfl
 have hf2 : fEq 17 (-1) 17 (-1) = true := rfl
 obtain ⟨l, hl⟩ : ∃ z, z = (minW m).1 := ⟨_, rfl⟩
 obtain ⟨h1, hh1'⟩ : ∃ z, z = (minW m).2.1 := ⟨_, rfl⟩
 obtain ⟨h2, hh2'⟩ : ∃ z, z = (minW m).2.2 := ⟨_, rfl⟩
 rw [← hl, ← hh1', ← hh2'] at HL
 obtain ⟨a1, ha1'⟩ : ∃ z, z = (accF m).1 := ⟨_, rfl⟩
 obtain ⟨a2, ha2'⟩ : ∃ z, z = (accF m).2 := ⟨_, rfl⟩
 rw [← ha1', ← ha2'] at HAF
 have HE := hide (show accF m = (a1, a2) ∧ minW m = (l, (h1, h2)) by
  rw [ha1', ha2', hl, hh1', hh2']
  exact ⟨rfl, rfl⟩)
 clear h0 hA hF HN HF hsn ha1' ha2' hl hh1' hh2'
 go_enter Try.func6, Try.ntmps6
 go_upto_region 3 with (go_at_call 30; refine (minimized_any _).mono ?_; rintro e w2 ⟨rfl, hb2⟩; have HB2 := hide hb2; clear hb2)
 obtain ⟨X, hX⟩ : ∃ z, z = w.heap.size := ⟨_, rfl⟩
 have bX := hide (((Blk.at_ (w := w) (g := X) (t := 28) (cs := #[.int .i64 sn, .slice A n c, .slice AF nf cf]) hX)).below HB2.out (by simp [hX]))
 have HBW := hide (show Below w.heap.size w w2 from ((Below.refl _ _).alloc (Nat.le_refl _) _).trans (HB2.out.mono (by simp)))
 have HM := hide ((HM0.out.below HBW.out (Nat.le_refl _)).mono HBW.out.size)
 simp only [← hX]
 clear HB2 HM0 hX
 have lX := bX.out.lt
 have x0 := bX.out.cell 0
 have x1 := bX.out.cell 1
 have x2 := bX.out.cell 2
 simp at x0 x1 x2
 go_upto_region 4 with (go_at_call 35; refine (HL.out _ HM.out).mono ?_; rintro e w3 ⟨v3, rfl, hm3, hb3⟩; obtain ⟨A3, n3, c3, AF3, nf3, cf3, rfl⟩ := agg_of hm3; have HN3 := hide hm3; have HB3 := hide hb3; clear hm3 hb3)
 generalize hW3 : World.alloc _ _ = W3
 obtain ⟨S, hS⟩ : ∃ z, z = w3.heap.size := ⟨_, rfl⟩
 obtain ⟨F, hF⟩ : ∃ z, z = w3.heap.size + 1 := ⟨_, rfl⟩
 have bS := hide (show Blk W3 S 28 #[.int .i64 l.n, .slice A3 n3 c3, .slice AF3 nf3 cf3] by rw [← hW3]; exact (Blk.at_ hS).alloc _)
 have bF := hide (show Blk W3 F 30 #[.int .i64 h1, .int .i64 h2] by rw [← hW3]; exact Blk.at_ (by simp [hF]))
 have q3 := hide (show Below w3.heap.size w3 W3 by rw [← hW3]; go_grown)
 simp only [← hF]
 try simp only [← hS]
 have r3 := hide (HB3.out.trans (q3.out.mono HB3.out.size))
 replace bX := hide (bX.out.below r3.out bX.out.lt)
 replace HM := hide ((HM.out.below r3.out (Nat.le_refl _)).mono (r3.out).size)
 replace HBW := hide (HBW.out.trans (r3.out.mono HBW.out.size))
 have MS := hide ((HN3.out.at_.below q3.out (Nat.le_refl _)).mono q3.out.size)
 clear HN3 HB3 q3 r3 hW3 hS hF
 clear x0 x1 x2 lX
 have lX := bX.out.lt
 have x0 := bX.out.cell 0
 have x1 := bX.out.cell 1
 have x2 := bX.out.cell 2
 simp at x0 x1 x2
 go_upto_region 5 with (go_at_call 24; refine (HAF.out _ HM.out).mono ?_; rintro e w4 ⟨rfl, hb4⟩; have HB4 := hide hb4; clear hb4)
 generalize hW4 : World.alloc _ _ = W4
 obtain ⟨G, hG⟩ : ∃ z, z = w4.heap.size := ⟨_, rfl⟩
 have bG := hide (show Blk W4 G 30 #[.int .i64 a1, .int .i64 a2] by rw [← hW4]; exact Blk.at_ hG)
 have q4 := hide (show Below w4.heap.size w4 W4 by rw [← hW4]; go_grown)
 simp only [← hG]
 have r4 := hide (HB4.out.trans (q4.out.mono HB4.out.size))
 replace bX := hide (bX.out.below r4.out bX.out.lt)
 replace bS := hide (bS.out.below r4.out bS.out.lt)
 replace bF := hide (bF.out.below r4.out bF.out.lt)
 replace MS := hide ((MS.out.below r4.out (Nat.le_refl _)).mono (r4.out).size)
 replace HM := hide ((HM.out.below r4.out (Nat.le_refl _)).mono (r4.out).size)
 replace HBW := hide (HBW.out.trans (r4.out.mono HBW.out.size))
 clear HB4 q4 r4 hW4 hG
 clear x0 x1 x2 lX
 have lX := bX.out.lt
 have x0 := bX.out.cell 0
 have x1 := bX.out.cell 1
 have x2 := bX.out.cell 2
 simp at x0 x1 x2
 have zF0 := bF.out.cell 0
 have zF1 := bF.out.cell 1
 simp at zF0 zF1
 have kF := bF.out.lt
 have zG0 := bG.out.cell 0
 have zG1 := bG.out.cell 1
 simp at zG0 zG1
 have kG := bG.out.lt
 have zS0 := bS.out.cell 0
 have zS1 := bS.out.cell 1
 have zS2 := bS.out.cell 2
 simp at zS0 zS1 zS2
 have kS := bS.out.lt
 clear HL HAF
 by_cases ha : accF m = (0, 0)
 ·
  obtain ⟨e0, e1⟩ := HE.out
  have HA := hide ha
  rw [e0] at ha
  obtain ⟨rfl, rfl⟩ : a1 = 0 ∧ a2 = 0 := ⟨congrArg Prod.fst ha, congrArg Prod.snd ha⟩
  have HE1 := hide e1
  clear ha e0 e1 HE HCS
  go_upto_region 8 with (go_at_call 25; refine (leastOf_any _ m _ _ (Nat.le_refl _) HM.out HA.out).mono ?_; rintro e w5 ⟨v5, b, rfl, hb5, ⟨a5, A5, AF5, n5, c5, nf5, cf5, rfl⟩, ht⟩; have HB5 := hide hb5; have HT := hide ht; clear hb5 ht)
  generalize hW5 : World.alloc _ _ = W5
  obtain ⟨K, hK⟩ : ∃ z, z = w5.heap.size := ⟨_, rfl⟩
  have bK := hide (show Blk W5 K 28 #[.int .i64 a5, .slice A5 n5 c5, .slice AF5 nf5 cf5] by rw [← hW5]; exact Blk.at_ hK)
  have q5 := hide (show Below w5.heap.size w5 W5 by rw [← hW5]; go_grown)
  simp only [← hK]
  have r5 := hide (HB5.out.trans (q5.out.mono HB5.out.size))
  clear zF0 zF1 kF
  clear zG0 zG1 kG
  clear zS0 zS1 zS2 kS
  clear x0 x1 x2 lX
  replace bX := hide (bX.out.below r5.out bX.out.lt)
  replace bS := hide (bS.out.below r5.out bS.out.lt)
  replace bF := hide (bF.out.below r5.out bF.out.lt)
  replace bG := hide (bG.out.below r5.out bG.out.lt)
  replace MS := hide ((MS.out.below r5.out (Nat.le_refl _)).mono (r5.out).size)
  replace HM := hide ((HM.out.below r5.out (Nat.le_refl _)).mono (r5.out).size)
  replace HBW := hide (HBW.out.trans (r5.out.mono HBW.out.size))
  clear hW5 hK r5
  have zF0 := bF.out.cell 0
  have zF1 := bF.out.cell 1
  simp at zF0 zF1
  have kF := bF.out.lt
  cases b
  ·
   go_wp2
   exact bodyPost_ret (v := .bool true) (by simp [results, Try.results6, go_sem]) rfl ⟨rfl, HBW.out⟩
  ·
   obtain ⟨mm, hmin, hmn⟩ := HT.out rfl
   have hq := HE1.out.symm.trans hmin
   obtain ⟨rfl, h12⟩ : l = mm ∧ (h1, h2) = (0, 0) := ⟨congrArg Prod.fst hq, congrArg Prod.snd hq⟩
   obtain ⟨rfl, rfl⟩ : h1 = 0 ∧ h2 = 0 := ⟨congrArg Prod.fst h12, congrArg Prod.snd h12⟩
   have MK := hide ((hmn.at_.below q5.out (Nat.le_refl _)).mono q5.out.size)
   obtain ⟨AK, AFK, nK, cK, nfK, cfK, hve, _⟩ := agg_ofL hmn.at_
   have ha5 : a5 = l.n := by
    simp only [Value.agg.injEq, Array.mk.injEq, List.cons.injEq, Value.int.injEq, true_and] at hve
    exact hve.1
   subst ha5
   clear hq h12 hmin hmn HT HE1 hve q5 HB5
   have zS0 := bS.out.cell 0
   have zS1 := bS.out.cell 1
   have zS2 := bS.out.cell 2
   simp at zS0 zS1 zS2
   have kS := bS.out.lt
   have zK0 := bK.out.cell 0
   have zK1 := bK.out.cell 1
   have zK2 := bK.out.cell 2
   simp at zK0 zK1 zK2
   have kK := bK.out.lt
   go_wp2_with fail
   refine (machines_any _ _ l l _ _ (Nat.le_refl _) MS.out MK.out).mono ?_
   rintro e w6 ⟨rfl, hb6⟩
   rw [show decide (l = l) = true from decide_eq_true rfl]
   replace HBW := hide (HBW.out.trans (hb6.mono HBW.out.size))
   clear hb6 zF0 zF1 kF zS0 zS1 zS2 kS zK0 zK1 zK2 kK
   go_wp2
   exact bodyPost_ret (v := .bool true) (by simp [results, Try.results6, go_sem]) rfl ⟨rfl, HBW.out⟩
 ·
  rcases HCS.out with ⟨_, _, _, hl⟩ | ⟨h, _⟩ | ⟨h, _⟩
  ·
   obtain ⟨e0, e1⟩ := HE.out
   have hq := e1.symm.trans hl
   have hl0 : l = emptyM := congrArg Prod.fst hq
   have h12 : (h1, h2) = (a1, a2) := (congrArg Prod.snd hq).trans e0
   obtain ⟨rfl, rfl⟩ : h1 = a1 ∧ h2 = a2 := ⟨congrArg Prod.fst h12, congrArg Prod.snd h12⟩
   have hfb : fEq h1 h2 0 0 = false := fEq_false (fun ⟨k1, k2⟩ => ha (by rw [e0, k1, k2]))
   have hfs := fEq_selfdlm h1 h2
   subst hl0
   have t0 : emptyM.n = 0 := rfl
   rw [t0] at zS0
   clear ha hl e0 e1 HE HCS hq h12 t0
   go_wp2
   exact bodyPost_ret (v := .bool true) (by simp [results, Try.results6, go_sem]) rfl ⟨rfl, HBW.out⟩
  · exact absurd h ha
  · exact absurd h ha
end Go.Proofs.Ytopakcbhodnipaa
