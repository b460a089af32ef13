/- The law RationalConcatIsAssociative, walked: it returns true. Written by gen_as.py. -/
import Derived.Test.YtpahodbnljpnnaaAcP
namespace Go.Proofs.Ytpahodbnljpnnaa
open Go.RowKit Gm Go.Sort Go.Shelf
set_option linter.unusedSimpArgs false
set_option linter.unusedVariables false
set_option maxRecDepth 100000 in
set_option maxHeartbeats 40000000 in
theorem alaw_any (va vb vc v1 v2 : Value) (a b m : Mach) (lu lo : List Int) (w : World) (B : Nat) (hB : B ≤ w.heap.size) (ha : MachAt w B va a) (hb : MachAt w B vb b) (hc : MachAt w B vc m) (h1 : Nums w B v1 lu) (h2 : Nums w B v2 lo) :
    Calls Try.prog 5 #[va, vb, vc, v1, v2] w fun e w' => e = .returned (.bool true) ∧ Below w.heap.size w w' := by
  have HA := hide ha
  have HB := hide hb
  have HC := hide hc
  have HU := hide h1
  have HO := hide h2
  obtain ⟨A, AF, n, c, nf, cf, rfl, _⟩ := ha
  obtain ⟨A', AF', n', c', nf', cf', rfl, _⟩ := hb
  obtain ⟨A'', AF'', n'', c'', nf'', cf'', rfl, _⟩ := hc
  obtain ⟨A1, nu, cc1, rfl, _⟩ := h1
  obtain ⟨A2, no, cc2, rfl, _⟩ := h2
  have hne := fun a b c d W => run_neq_fault a b c d W
  have heq := fun a b c d W => run_eql_fault a b c d W
  have hf0 : fEq 0 0 0 0 = true := rfl
  have HS := hide (as_cases a b m lu lo)
  have HCC := hide (fun va vb a b W B hB h h' => concat_any va vb a b W B hB h h')
  have HWW := hide (fun (v : Value) (m : Mach) W B (hB : B ≤ W.heap.size) (hM : MachAt W B v m) (hU : Nums W B (.slice A1 nu cc1) lu) (hO : Nums W B (.slice A2 no cc2) lo) => lweight_any _ _ _ m lu lo W B hB hM hU hO)
  go_enter Try.func5, Try.ntmps5
  go_wp2_with fail
  refine (shapes_ex _).mono ?_
  rintro e w1 ⟨rfl, hb1⟩
  have bX : Blk w1 w.heap.size 25 #[.int .i64 a.n, .slice A n c, .slice AF nf cf] := (((Blk.at_ rfl).alloc _).alloc _).below hb1 (by simp; omega)
  have bY : Blk w1 (w.heap.size + 1) 25 #[.int .i64 b.n, .slice A' n' c', .slice AF' nf' cf'] := ((Blk.at_ (by simp)).alloc _).below hb1 (by simp)
  have bZ : Blk w1 (w.heap.size + 1 + 1) 25 #[.int .i64 m.n, .slice A'' n'' c'', .slice AF'' nf'' cf''] := (Blk.at_ (by simp)).below hb1 (by simp)
  have hbw : Below w.heap.size w w1 := Below.trans (by go_grown) (hb1.mono (by simp; omega))
  clear hb1
  go_wp2_with fail
  refine (weighed_ex _).mono ?_
  rintro e w2 ⟨rfl, hb2⟩
  replace bX := bX.below hb2 bX.lt
  replace bY := bY.below hb2 bY.lt
  replace bZ := bZ.below hb2 bZ.lt
  replace hbw := hbw.trans (hb2.mono hbw.size)
  clear hb2
  have bX_0 := bX.cell 0
  have bX_1 := bX.cell 1
  have bX_2 := bX.cell 2
  have bX_l := bX.lt
  have bY_0 := bY.cell 0
  have bY_1 := bY.cell 1
  have bY_2 := bY.cell 2
  have bY_l := bY.lt
  simp at bX_0 bX_1 bX_2 bY_0 bY_1 bY_2
  try simp at bX_l
  try simp at bY_l
  have hbz := hbw.size
  try simp at hbz
  go_wp2_with fail
  refine (HCC.out _ _ a b _ _ (Nat.le_refl _) ((HA.out.below hbw hB).mono (by omega)) ((HB.out.below hbw hB).mono (by omega))).mono ?_
  rintro e w3 ⟨v3, rfl, hT, hb3⟩
  obtain ⟨A3, n3, c3, AF3, nf3, cf3, rfl⟩ := agg_of hT
  have HT3 := hide hT
  replace bX := bX.below hb3 bX.lt
  replace bY := bY.below hb3 bY.lt
  replace bZ := bZ.below hb3 bZ.lt
  replace hbw := hbw.trans (hb3.mono hbw.size)
  clear hT hb3 bX_0 bX_1 bX_2 bY_0 bY_1 bY_2 bX_l bY_l hbz
  obtain ⟨p3, hp3⟩ : ∃ p, p = (catF a b).1 := ⟨_, rfl⟩
  obtain ⟨q3, hq3⟩ : ∃ p, p = (catF a b).2 := ⟨_, rfl⟩
  rw [← hp3, ← hq3]
  have HP3 := hide (And.intro hp3 hq3)
  clear hp3 hq3
  obtain ⟨g3, hg3⟩ : ∃ g, g = (catR a b).n := ⟨_, rfl⟩
  rw [← hg3] at HT3 ⊢
  clear hg3
  have bP3 := (Blk.at_ (w := w3) (g := w3.heap.size) (t := 25) (cs := #[.int .i64 g3, .slice A3 n3 c3, .slice AF3 nf3 cf3]) rfl).alloc (Obj.cells #[.int .i64 p3, .int .i64 q3] 29)
  have bF3 : Blk ((w3.alloc (Obj.cells #[.int .i64 g3, .slice A3 n3 c3, .slice AF3 nf3 cf3] 25)).alloc (Obj.cells #[.int .i64 p3, .int .i64 q3] 29)) (w3.heap.size + 1) 29 #[.int .i64 p3, .int .i64 q3] := Blk.at_ (by simp)
  replace bX := (bX.alloc (Obj.cells #[.int .i64 g3, .slice A3 n3 c3, .slice AF3 nf3 cf3] 25)).alloc (Obj.cells #[.int .i64 p3, .int .i64 q3] 29)
  replace bY := (bY.alloc (Obj.cells #[.int .i64 g3, .slice A3 n3 c3, .slice AF3 nf3 cf3] 25)).alloc (Obj.cells #[.int .i64 p3, .int .i64 q3] 29)
  replace bZ := (bZ.alloc (Obj.cells #[.int .i64 g3, .slice A3 n3 c3, .slice AF3 nf3 cf3] 25)).alloc (Obj.cells #[.int .i64 p3, .int .i64 q3] 29)
  replace HT3 := hide ((HT3.out.alloc (Obj.cells #[.int .i64 g3, .slice A3 n3 c3, .slice AF3 nf3 cf3] 25)).alloc (Obj.cells #[.int .i64 p3, .int .i64 q3] 29))
  replace hbw := (hbw.alloc hbw.size (Obj.cells #[.int .i64 g3, .slice A3 n3 c3, .slice AF3 nf3 cf3] 25)).alloc (by have := hbw.size; simp; omega) (Obj.cells #[.int .i64 p3, .int .i64 q3] 29)
  have bY_0 := bY.cell 0
  have bY_1 := bY.cell 1
  have bY_2 := bY.cell 2
  have bY_l := bY.lt
  have bZ_0 := bZ.cell 0
  have bZ_1 := bZ.cell 1
  have bZ_2 := bZ.cell 2
  have bZ_l := bZ.lt
  simp at bY_0 bY_1 bY_2 bZ_0 bZ_1 bZ_2
  try simp at bY_l
  try simp at bZ_l
  have hbz := hbw.size
  try simp at hbz
  go_wp2_with fail
  refine (HCC.out _ _ b m _ _ (Nat.le_refl _) ((HB.out.below hbw hB).mono (by simp; omega)) ((HC.out.below hbw hB).mono (by simp; omega))).mono ?_
  rintro e w4 ⟨v4, rfl, hT, hb4⟩
  obtain ⟨A4, n4, c4, AF4, nf4, cf4, rfl⟩ := agg_of hT
  have HT4 := hide hT
  replace bX := bX.below hb4 bX.lt
  replace bY := bY.below hb4 bY.lt
  replace bZ := bZ.below hb4 bZ.lt
  replace bP3 := bP3.below hb4 bP3.lt
  replace bF3 := bF3.below hb4 bF3.lt
  replace HT3 := hide (HT3.out.below hb4 (by simp))
  replace hbw := hbw.trans (hb4.mono (by have := hbw.size; simp at this; simp; omega))
  clear hT hb4 bY_0 bY_1 bY_2 bZ_0 bZ_1 bZ_2 bY_l bZ_l hbz
  obtain ⟨p4, hp4⟩ : ∃ p, p = (catF b m).1 := ⟨_, rfl⟩
  obtain ⟨q4, hq4⟩ : ∃ p, p = (catF b m).2 := ⟨_, rfl⟩
  rw [← hp4, ← hq4]
  have HP4 := hide (And.intro hp4 hq4)
  clear hp4 hq4
  obtain ⟨g4, hg4⟩ : ∃ g, g = (catR b m).n := ⟨_, rfl⟩
  rw [← hg4] at HT4 ⊢
  clear hg4
  have bP4 := (Blk.at_ (w := w4) (g := w4.heap.size) (t := 25) (cs := #[.int .i64 g4, .slice A4 n4 c4, .slice AF4 nf4 cf4]) rfl).alloc (Obj.cells #[.int .i64 p4, .int .i64 q4] 29)
  have bF4 : Blk ((w4.alloc (Obj.cells #[.int .i64 g4, .slice A4 n4 c4, .slice AF4 nf4 cf4] 25)).alloc (Obj.cells #[.int .i64 p4, .int .i64 q4] 29)) (w4.heap.size + 1) 29 #[.int .i64 p4, .int .i64 q4] := Blk.at_ (by simp)
  replace bX := (bX.alloc (Obj.cells #[.int .i64 g4, .slice A4 n4 c4, .slice AF4 nf4 cf4] 25)).alloc (Obj.cells #[.int .i64 p4, .int .i64 q4] 29)
  replace bY := (bY.alloc (Obj.cells #[.int .i64 g4, .slice A4 n4 c4, .slice AF4 nf4 cf4] 25)).alloc (Obj.cells #[.int .i64 p4, .int .i64 q4] 29)
  replace bZ := (bZ.alloc (Obj.cells #[.int .i64 g4, .slice A4 n4 c4, .slice AF4 nf4 cf4] 25)).alloc (Obj.cells #[.int .i64 p4, .int .i64 q4] 29)
  replace bP3 := (bP3.alloc (Obj.cells #[.int .i64 g4, .slice A4 n4 c4, .slice AF4 nf4 cf4] 25)).alloc (Obj.cells #[.int .i64 p4, .int .i64 q4] 29)
  replace bF3 := (bF3.alloc (Obj.cells #[.int .i64 g4, .slice A4 n4 c4, .slice AF4 nf4 cf4] 25)).alloc (Obj.cells #[.int .i64 p4, .int .i64 q4] 29)
  replace HT3 := hide ((HT3.out.alloc (Obj.cells #[.int .i64 g4, .slice A4 n4 c4, .slice AF4 nf4 cf4] 25)).alloc (Obj.cells #[.int .i64 p4, .int .i64 q4] 29))
  replace HT4 := hide ((HT4.out.alloc (Obj.cells #[.int .i64 g4, .slice A4 n4 c4, .slice AF4 nf4 cf4] 25)).alloc (Obj.cells #[.int .i64 p4, .int .i64 q4] 29))
  replace hbw := (hbw.alloc hbw.size (Obj.cells #[.int .i64 g4, .slice A4 n4 c4, .slice AF4 nf4 cf4] 25)).alloc (by have := hbw.size; simp; omega) (Obj.cells #[.int .i64 p4, .int .i64 q4] 29)
  have bF3_0 := bF3.cell 0
  have bF3_1 := bF3.cell 1
  have bF3_l := bF3.lt
  simp at bF3_0 bF3_1 bF3_l
  have bF4_0 := bF4.cell 0
  have bF4_1 := bF4.cell 1
  have bF4_l := bF4.lt
  simp at bF4_0 bF4_1 bF4_l
  have bF3_l' := Nat.lt_succ_of_lt bF3_l
  rcases HS.out with hz | ⟨hz0, hz⟩ | ⟨hz0, hz1, hz2, hz3⟩
  · rw [← HP3.out.1, ← HP3.out.2] at hz
    go_wp2
    exact bodyPost_ret (v := .bool true) (by simp [results, Try.results5, go_sem]) rfl ⟨rfl, hbw⟩
  · obtain ⟨e1, e2⟩ := HP3.out
    rw [hz0] at e1 e2
    subst e1 e2
    rw [← HP4.out.1, ← HP4.out.2] at hz
    go_wp2
    exact bodyPost_ret (v := .bool true) (by simp [results, Try.results5, go_sem]) rfl ⟨rfl, hbw⟩
  obtain ⟨e1, e2⟩ := HP3.out
  obtain ⟨e3, e4⟩ := HP4.out
  rw [hz0] at e1 e2
  rw [hz1] at e3 e4
  subst e1 e2 e3 e4
  clear hz0 hz1 HP3 HP4 HS bY
  have bP3_0 := bP3.cell 0
  have bP3_1 := bP3.cell 1
  have bP3_2 := bP3.cell 2
  have bP3_l := bP3.lt
  have bZ_0 := bZ.cell 0
  have bZ_1 := bZ.cell 1
  have bZ_2 := bZ.cell 2
  have bZ_l := bZ.lt
  simp at bP3_0 bP3_1 bP3_2 bZ_0 bZ_1 bZ_2
  try simp at bP3_l
  try simp at bZ_l
  have hbz := hbw.size
  try simp at hbz
  go_wp2_with fail
  refine (HCC.out _ _ (catR a b) m _ _ (Nat.le_refl _) HT3.out.at_ ((HC.out.below hbw hB).mono (by simp; omega))).mono ?_
  rintro e w5 ⟨v5, rfl, hT, hb5⟩
  obtain ⟨A5, n5, c5, AF5, nf5, cf5, rfl⟩ := agg_of hT
  have HT5 := hide hT
  replace bX := bX.below hb5 bX.lt
  replace bP4 := bP4.below hb5 bP4.lt
  replace HT4 := hide (HT4.out.below hb5 (by simp))
  replace hbw := hbw.trans (hb5.mono (by have := hbw.size; simp at this; simp; omega))
  clear hT hb5 bP3_0 bP3_1 bP3_2 bZ_0 bZ_1 bZ_2 bP3_l bZ_l hbz
  obtain ⟨p5, hp5⟩ : ∃ p, p = (catF (catR a b) m).1 := ⟨_, rfl⟩
  obtain ⟨q5, hq5⟩ : ∃ p, p = (catF (catR a b) m).2 := ⟨_, rfl⟩
  rw [← hp5, ← hq5]
  have HP5 := hide (And.intro hp5 hq5)
  clear hp5 hq5
  obtain ⟨g5, hg5⟩ : ∃ g, g = (catR (catR a b) m).n := ⟨_, rfl⟩
  rw [← hg5] at HT5 ⊢
  clear hg5
  have bP5 := (Blk.at_ (w := w5) (g := w5.heap.size) (t := 25) (cs := #[.int .i64 g5, .slice A5 n5 c5, .slice AF5 nf5 cf5]) rfl).alloc (Obj.cells #[.int .i64 p5, .int .i64 q5] 29)
  have bF5 : Blk ((w5.alloc (Obj.cells #[.int .i64 g5, .slice A5 n5 c5, .slice AF5 nf5 cf5] 25)).alloc (Obj.cells #[.int .i64 p5, .int .i64 q5] 29)) (w5.heap.size + 1) 29 #[.int .i64 p5, .int .i64 q5] := Blk.at_ (by simp)
  replace bX := (bX.alloc (Obj.cells #[.int .i64 g5, .slice A5 n5 c5, .slice AF5 nf5 cf5] 25)).alloc (Obj.cells #[.int .i64 p5, .int .i64 q5] 29)
  replace bP4 := (bP4.alloc (Obj.cells #[.int .i64 g5, .slice A5 n5 c5, .slice AF5 nf5 cf5] 25)).alloc (Obj.cells #[.int .i64 p5, .int .i64 q5] 29)
  replace HT4 := hide ((HT4.out.alloc (Obj.cells #[.int .i64 g5, .slice A5 n5 c5, .slice AF5 nf5 cf5] 25)).alloc (Obj.cells #[.int .i64 p5, .int .i64 q5] 29))
  replace HT5 := hide ((HT5.out.alloc (Obj.cells #[.int .i64 g5, .slice A5 n5 c5, .slice AF5 nf5 cf5] 25)).alloc (Obj.cells #[.int .i64 p5, .int .i64 q5] 29))
  replace hbw := (hbw.alloc hbw.size (Obj.cells #[.int .i64 g5, .slice A5 n5 c5, .slice AF5 nf5 cf5] 25)).alloc (by have := hbw.size; simp; omega) (Obj.cells #[.int .i64 p5, .int .i64 q5] 29)
  clear bF3_0 bF3_1 bF3_l bF3_l' bF4_0 bF4_1 bF4_l bP3 bF3 bF4 bZ HT3
  have bX_0 := bX.cell 0
  have bX_1 := bX.cell 1
  have bX_2 := bX.cell 2
  have bX_l := bX.lt
  have bP4_0 := bP4.cell 0
  have bP4_1 := bP4.cell 1
  have bP4_2 := bP4.cell 2
  have bP4_l := bP4.lt
  simp at bX_0 bX_1 bX_2 bP4_0 bP4_1 bP4_2
  try simp at bX_l
  try simp at bP4_l
  have hbz := hbw.size
  try simp at hbz
  go_wp2_with fail
  refine (HCC.out _ _ a (catR b m) _ _ (Nat.le_refl _) ((HA.out.below hbw hB).mono (by simp; omega)) HT4.out.at_).mono ?_
  rintro e w6 ⟨v6, rfl, hT, hb6⟩
  obtain ⟨A6, n6, c6, AF6, nf6, cf6, rfl⟩ := agg_of hT
  have HT6 := hide hT
  replace bX := bX.below hb6 bX.lt
  replace bP5 := bP5.below hb6 bP5.lt
  replace bF5 := bF5.below hb6 bF5.lt
  replace HT5 := hide (HT5.out.below hb6 (by simp))
  replace hbw := hbw.trans (hb6.mono (by have := hbw.size; simp at this; simp; omega))
  clear hT hb6 bX_0 bX_1 bX_2 bP4_0 bP4_1 bP4_2 bX_l bP4_l hbz
  obtain ⟨p6, hp6⟩ : ∃ p, p = (catF a (catR b m)).1 := ⟨_, rfl⟩
  obtain ⟨q6, hq6⟩ : ∃ p, p = (catF a (catR b m)).2 := ⟨_, rfl⟩
  rw [← hp6, ← hq6]
  have HP6 := hide (And.intro hp6 hq6)
  clear hp6 hq6
  obtain ⟨g6, hg6⟩ : ∃ g, g = (catR a (catR b m)).n := ⟨_, rfl⟩
  rw [← hg6] at HT6 ⊢
  clear hg6
  have bP6 := (Blk.at_ (w := w6) (g := w6.heap.size) (t := 25) (cs := #[.int .i64 g6, .slice A6 n6 c6, .slice AF6 nf6 cf6]) rfl).alloc (Obj.cells #[.int .i64 p6, .int .i64 q6] 29)
  have bF6 : Blk ((w6.alloc (Obj.cells #[.int .i64 g6, .slice A6 n6 c6, .slice AF6 nf6 cf6] 25)).alloc (Obj.cells #[.int .i64 p6, .int .i64 q6] 29)) (w6.heap.size + 1) 29 #[.int .i64 p6, .int .i64 q6] := Blk.at_ (by simp)
  replace bX := (bX.alloc (Obj.cells #[.int .i64 g6, .slice A6 n6 c6, .slice AF6 nf6 cf6] 25)).alloc (Obj.cells #[.int .i64 p6, .int .i64 q6] 29)
  replace bP5 := (bP5.alloc (Obj.cells #[.int .i64 g6, .slice A6 n6 c6, .slice AF6 nf6 cf6] 25)).alloc (Obj.cells #[.int .i64 p6, .int .i64 q6] 29)
  replace bF5 := (bF5.alloc (Obj.cells #[.int .i64 g6, .slice A6 n6 c6, .slice AF6 nf6 cf6] 25)).alloc (Obj.cells #[.int .i64 p6, .int .i64 q6] 29)
  replace HT5 := hide ((HT5.out.alloc (Obj.cells #[.int .i64 g6, .slice A6 n6 c6, .slice AF6 nf6 cf6] 25)).alloc (Obj.cells #[.int .i64 p6, .int .i64 q6] 29))
  replace HT6 := hide ((HT6.out.alloc (Obj.cells #[.int .i64 g6, .slice A6 n6 c6, .slice AF6 nf6 cf6] 25)).alloc (Obj.cells #[.int .i64 p6, .int .i64 q6] 29))
  replace hbw := (hbw.alloc hbw.size (Obj.cells #[.int .i64 g6, .slice A6 n6 c6, .slice AF6 nf6 cf6] 25)).alloc (by have := hbw.size; simp; omega) (Obj.cells #[.int .i64 p6, .int .i64 q6] 29)
  clear bP4 HT4
  go_wp2_with fail
  refine (literal_any _ _ [] [] 0 _ _ (Nat.le_refl _) (nums_nil _ _) (nums_nil _ _)).mono ?_
  rintro e w7 ⟨v7, rfl, hT, hb7⟩
  obtain ⟨A7, n7, c7, AF7, nf7, cf7, rfl⟩ := agg_of hT
  have HT7 := hide hT
  replace bX := bX.below hb7 bX.lt
  replace bP5 := bP5.below hb7 bP5.lt
  replace bF5 := bF5.below hb7 bF5.lt
  replace bP6 := bP6.below hb7 bP6.lt
  replace bF6 := bF6.below hb7 bF6.lt
  replace HT5 := hide (HT5.out.below hb7 (by simp))
  replace HT6 := hide (HT6.out.below hb7 (by simp))
  replace hbw := hbw.trans (hb7.mono (by have := hbw.size; simp at this; simp; omega))
  clear hT hb7 
  obtain ⟨p7, hp7⟩ : ∃ p, p = (litF [] [] 0).1 := ⟨_, rfl⟩
  obtain ⟨q7, hq7⟩ : ∃ p, p = (litF [] [] 0).2 := ⟨_, rfl⟩
  rw [← hp7, ← hq7]
  have HP7 := hide (And.intro hp7 hq7)
  clear hp7 hq7
  obtain ⟨g7, hg7⟩ : ∃ g, g = (litR [] [] 0).n := ⟨_, rfl⟩
  rw [← hg7] at HT7 ⊢
  clear hg7
  have bP7 := (Blk.at_ (w := w7) (g := w7.heap.size) (t := 25) (cs := #[.int .i64 g7, .slice A7 n7 c7, .slice AF7 nf7 cf7]) rfl).alloc (Obj.cells #[.int .i64 p7, .int .i64 q7] 29)
  have bF7 : Blk ((w7.alloc (Obj.cells #[.int .i64 g7, .slice A7 n7 c7, .slice AF7 nf7 cf7] 25)).alloc (Obj.cells #[.int .i64 p7, .int .i64 q7] 29)) (w7.heap.size + 1) 29 #[.int .i64 p7, .int .i64 q7] := Blk.at_ (by simp)
  replace bX := (bX.alloc (Obj.cells #[.int .i64 g7, .slice A7 n7 c7, .slice AF7 nf7 cf7] 25)).alloc (Obj.cells #[.int .i64 p7, .int .i64 q7] 29)
  replace bP5 := (bP5.alloc (Obj.cells #[.int .i64 g7, .slice A7 n7 c7, .slice AF7 nf7 cf7] 25)).alloc (Obj.cells #[.int .i64 p7, .int .i64 q7] 29)
  replace bF5 := (bF5.alloc (Obj.cells #[.int .i64 g7, .slice A7 n7 c7, .slice AF7 nf7 cf7] 25)).alloc (Obj.cells #[.int .i64 p7, .int .i64 q7] 29)
  replace bP6 := (bP6.alloc (Obj.cells #[.int .i64 g7, .slice A7 n7 c7, .slice AF7 nf7 cf7] 25)).alloc (Obj.cells #[.int .i64 p7, .int .i64 q7] 29)
  replace bF6 := (bF6.alloc (Obj.cells #[.int .i64 g7, .slice A7 n7 c7, .slice AF7 nf7 cf7] 25)).alloc (Obj.cells #[.int .i64 p7, .int .i64 q7] 29)
  replace HT5 := hide ((HT5.out.alloc (Obj.cells #[.int .i64 g7, .slice A7 n7 c7, .slice AF7 nf7 cf7] 25)).alloc (Obj.cells #[.int .i64 p7, .int .i64 q7] 29))
  replace HT6 := hide ((HT6.out.alloc (Obj.cells #[.int .i64 g7, .slice A7 n7 c7, .slice AF7 nf7 cf7] 25)).alloc (Obj.cells #[.int .i64 p7, .int .i64 q7] 29))
  replace HT7 := hide ((HT7.out.alloc (Obj.cells #[.int .i64 g7, .slice A7 n7 c7, .slice AF7 nf7 cf7] 25)).alloc (Obj.cells #[.int .i64 p7, .int .i64 q7] 29))
  replace hbw := (hbw.alloc hbw.size (Obj.cells #[.int .i64 g7, .slice A7 n7 c7, .slice AF7 nf7 cf7] 25)).alloc (by have := hbw.size; simp; omega) (Obj.cells #[.int .i64 p7, .int .i64 q7] 29)
  rw [one_R] at HT7
  have bP7_0 := bP7.cell 0
  have bP7_1 := bP7.cell 1
  have bP7_2 := bP7.cell 2
  have bP7_l := bP7.lt
  have bX_0 := bX.cell 0
  have bX_1 := bX.cell 1
  have bX_2 := bX.cell 2
  have bX_l := bX.lt
  simp at bP7_0 bP7_1 bP7_2 bX_0 bX_1 bX_2
  try simp at bP7_l
  try simp at bX_l
  have hbz := hbw.size
  try simp at hbz
  go_wp2_with fail
  refine (HCC.out _ _ oneM a _ _ (Nat.le_refl _) HT7.out.at_ ((HA.out.below hbw hB).mono (by simp; omega))).mono ?_
  rintro e w8 ⟨v8, rfl, hT, hb8⟩
  obtain ⟨A8, n8, c8, AF8, nf8, cf8, rfl⟩ := agg_of hT
  have HT8 := hide hT
  replace bX := bX.below hb8 bX.lt
  replace bP5 := bP5.below hb8 bP5.lt
  replace bF5 := bF5.below hb8 bF5.lt
  replace bP6 := bP6.below hb8 bP6.lt
  replace bF6 := bF6.below hb8 bF6.lt
  replace bF7 := bF7.below hb8 bF7.lt
  replace HT5 := hide (HT5.out.below hb8 (by simp))
  replace HT6 := hide (HT6.out.below hb8 (by simp))
  replace hbw := hbw.trans (hb8.mono (by have := hbw.size; simp at this; simp; omega))
  clear hT hb8 bP7_0 bP7_1 bP7_2 bX_0 bX_1 bX_2 bP7_l bX_l hbz
  obtain ⟨p8, hp8⟩ : ∃ p, p = (catF oneM a).1 := ⟨_, rfl⟩
  obtain ⟨q8, hq8⟩ : ∃ p, p = (catF oneM a).2 := ⟨_, rfl⟩
  rw [← hp8, ← hq8]
  have HP8 := hide (And.intro hp8 hq8)
  clear hp8 hq8
  obtain ⟨g8, hg8⟩ : ∃ g, g = (catR oneM a).n := ⟨_, rfl⟩
  rw [← hg8] at HT8 ⊢
  clear hg8
  have bP8 := (Blk.at_ (w := w8) (g := w8.heap.size) (t := 25) (cs := #[.int .i64 g8, .slice A8 n8 c8, .slice AF8 nf8 cf8]) rfl).alloc (Obj.cells #[.int .i64 p8, .int .i64 q8] 29)
  have bF8 : Blk ((w8.alloc (Obj.cells #[.int .i64 g8, .slice A8 n8 c8, .slice AF8 nf8 cf8] 25)).alloc (Obj.cells #[.int .i64 p8, .int .i64 q8] 29)) (w8.heap.size + 1) 29 #[.int .i64 p8, .int .i64 q8] := Blk.at_ (by simp)
  replace bX := (bX.alloc (Obj.cells #[.int .i64 g8, .slice A8 n8 c8, .slice AF8 nf8 cf8] 25)).alloc (Obj.cells #[.int .i64 p8, .int .i64 q8] 29)
  replace bP5 := (bP5.alloc (Obj.cells #[.int .i64 g8, .slice A8 n8 c8, .slice AF8 nf8 cf8] 25)).alloc (Obj.cells #[.int .i64 p8, .int .i64 q8] 29)
  replace bF5 := (bF5.alloc (Obj.cells #[.int .i64 g8, .slice A8 n8 c8, .slice AF8 nf8 cf8] 25)).alloc (Obj.cells #[.int .i64 p8, .int .i64 q8] 29)
  replace bP6 := (bP6.alloc (Obj.cells #[.int .i64 g8, .slice A8 n8 c8, .slice AF8 nf8 cf8] 25)).alloc (Obj.cells #[.int .i64 p8, .int .i64 q8] 29)
  replace bF6 := (bF6.alloc (Obj.cells #[.int .i64 g8, .slice A8 n8 c8, .slice AF8 nf8 cf8] 25)).alloc (Obj.cells #[.int .i64 p8, .int .i64 q8] 29)
  replace bF7 := (bF7.alloc (Obj.cells #[.int .i64 g8, .slice A8 n8 c8, .slice AF8 nf8 cf8] 25)).alloc (Obj.cells #[.int .i64 p8, .int .i64 q8] 29)
  replace HT5 := hide ((HT5.out.alloc (Obj.cells #[.int .i64 g8, .slice A8 n8 c8, .slice AF8 nf8 cf8] 25)).alloc (Obj.cells #[.int .i64 p8, .int .i64 q8] 29))
  replace HT6 := hide ((HT6.out.alloc (Obj.cells #[.int .i64 g8, .slice A8 n8 c8, .slice AF8 nf8 cf8] 25)).alloc (Obj.cells #[.int .i64 p8, .int .i64 q8] 29))
  replace HT8 := hide ((HT8.out.alloc (Obj.cells #[.int .i64 g8, .slice A8 n8 c8, .slice AF8 nf8 cf8] 25)).alloc (Obj.cells #[.int .i64 p8, .int .i64 q8] 29))
  replace hbw := (hbw.alloc hbw.size (Obj.cells #[.int .i64 g8, .slice A8 n8 c8, .slice AF8 nf8 cf8] 25)).alloc (by have := hbw.size; simp; omega) (Obj.cells #[.int .i64 p8, .int .i64 q8] 29)
  obtain ⟨e1, e2⟩ := HP7.out
  rw [one_F] at e1 e2
  subst e1 e2
  obtain ⟨e3, e4⟩ := HP6.out
  rw [← hz2, ← HP5.out.1] at e3
  rw [← hz2, ← HP5.out.2] at e4
  subst e3 e4
  clear hz2 HP6 HP7 HT7 bP7
  have bF5_0 := bF5.cell 0
  have bF5_1 := bF5.cell 1
  have bF5_l := bF5.lt
  simp at bF5_0 bF5_1 bF5_l
  have bF6_0 := bF6.cell 0
  have bF6_1 := bF6.cell 1
  have bF6_l := bF6.lt
  simp at bF6_0 bF6_1 bF6_l
  have bF7_0 := bF7.cell 0
  have bF7_1 := bF7.cell 1
  have bF7_l := bF7.lt
  simp at bF7_0 bF7_1 bF7_l
  have bF8_0 := bF8.cell 0
  have bF8_1 := bF8.cell 1
  have bF8_l := bF8.lt
  simp at bF8_0 bF8_1 bF8_l
  have bF5_l' := Nat.lt_succ_of_lt bF5_l
  have bF6_l' := Nat.lt_succ_of_lt bF6_l
  have bF7_l' := Nat.lt_succ_of_lt bF7_l
  have hs5 : fEq p6 q6 p6 q6 = true := by simp [fEq]
  rcases hz3 with hz | ⟨hz0, hz⟩ | ⟨hz0, hz1, hw1, hw2⟩
  · rw [← HP5.out.1, ← HP5.out.2] at hz
    go_wp2
    exact bodyPost_ret (v := .bool true) (by simp [results, Try.results5, go_sem]) rfl ⟨rfl, hbw⟩
  · obtain ⟨e1, e2⟩ := HP5.out
    rw [hz0] at e1 e2
    subst e1 e2
    rw [← HP8.out.1, ← HP8.out.2] at hz
    go_wp2
    exact bodyPost_ret (v := .bool true) (by simp [results, Try.results5, go_sem]) rfl ⟨rfl, hbw⟩
  obtain ⟨e1, e2⟩ := HP5.out
  obtain ⟨e3, e4⟩ := HP8.out
  rw [hz0] at e1 e2
  rw [hz1] at e3 e4
  subst e1 e2 e3 e4
  clear hz0 hz1 HP5 HP8 hs5
  have HW5 := hide (fun W hM hU hO => HWW.out (.agg #[.int .i64 g5, .slice A5 n5 c5, .slice AF5 nf5 cf5]) (catR (catR a b) m) W W.heap.size (Nat.le_refl _) hM hU hO)
  have HW6 := hide (fun W hM hU hO => HWW.out (.agg #[.int .i64 g6, .slice A6 n6 c6, .slice AF6 nf6 cf6]) (catR a (catR b m)) W W.heap.size (Nat.le_refl _) hM hU hO)
  have HW8 := hide (fun W hM hU hO => HWW.out (.agg #[.int .i64 g8, .slice A8 n8 c8, .slice AF8 nf8 cf8]) (catR oneM a) W W.heap.size (Nat.le_refl _) hM hU hO)
  have HWA := hide (fun W hM hU hO => HWW.out (.agg #[.int .i64 a.n, .slice A n c, .slice AF nf cf]) a W W.heap.size (Nat.le_refl _) hM hU hO)
  obtain ⟨r, hr⟩ : ∃ r, r = wv (catR a (catR b m)) lu lo := ⟨_, rfl⟩
  obtain ⟨y, hy⟩ : ∃ r, r = wv a lu lo := ⟨_, rfl⟩
  rw [hw1, ← hr] at HW5
  rw [← hr] at HW6
  rw [hw2, ← hy] at HW8
  rw [← hy] at HWA
  clear hw1 hw2 hr hy HWW HCC
  go_upto_region 13 with fail
  generalize hW9 : World.alloc _ _ = W9
  have HX := hide (show Blk W9 w.heap.size 25 #[.int .i64 a.n, .slice A n c, .slice AF nf cf] by rw [← hW9]; exact bX)
  have HY5 := hide (show Blk W9 w5.heap.size 25 #[.int .i64 g5, .slice A5 n5 c5, .slice AF5 nf5 cf5] by rw [← hW9]; exact bP5)
  have HY6 := hide (show Blk W9 w6.heap.size 25 #[.int .i64 g6, .slice A6 n6 c6, .slice AF6 nf6 cf6] by rw [← hW9]; exact bP6)
  have HY8 := hide (show Blk W9 w8.heap.size 25 #[.int .i64 g8, .slice A8 n8 c8, .slice AF8 nf8 cf8] by rw [← hW9]; exact bP8)
  have HN5 := hide (show MachNew _ W9 (.agg #[.int .i64 g5, .slice A5 n5 c5, .slice AF5 nf5 cf5]) (catR (catR a b) m) by rw [← hW9]; exact HT5.out)
  have HN6 := hide (show MachNew _ W9 (.agg #[.int .i64 g6, .slice A6 n6 c6, .slice AF6 nf6 cf6]) (catR a (catR b m)) by rw [← hW9]; exact HT6.out)
  have HN8 := hide (show MachNew _ W9 (.agg #[.int .i64 g8, .slice A8 n8 c8, .slice AF8 nf8 cf8]) (catR oneM a) by rw [← hW9]; exact HT8.out)
  have HBW := hide (show Below w.heap.size w W9 by rw [← hW9]; exact hbw)
  clear hW9 bX bP5 bP6 bP8 bF5 bF6 bF7 bF8 hbw HT5 HT6 HT8 bF5_0 bF5_1 bF5_l bF6_0 bF6_1 bF6_l bF7_0 bF7_1 bF7_l bF8_0 bF8_1 bF8_l bF5_l' bF6_l' bF7_l'
  have zHX0 := HX.out.drew.cell 0
  have zHX1 := HX.out.drew.cell 1
  have zHX2 := HX.out.drew.cell 2
  have zHY50 := HY5.out.drew.cell 0
  have zHY51 := HY5.out.drew.cell 1
  have zHY52 := HY5.out.drew.cell 2
  have zHY60 := HY6.out.drew.cell 0
  have zHY61 := HY6.out.drew.cell 1
  have zHY62 := HY6.out.drew.cell 2
  have zHY80 := HY8.out.drew.cell 0
  have zHY81 := HY8.out.drew.cell 1
  have zHY82 := HY8.out.drew.cell 2
  simp at zHX0 zHX1 zHX2 zHY50 zHY51 zHY52 zHY60 zHY61 zHY62 zHY80 zHY81 zHY82
  refine wp_mix (fun w' => w'.cell? ⟨w.heap.size, 0, none⟩ = some (.int .i64 a.n) ∧ w'.cell? ⟨w.heap.size, 1, none⟩ = some (.slice A n c) ∧ w'.cell? ⟨w.heap.size, 2, none⟩ = some (.slice AF nf cf) ∧ w'.cell? ⟨w5.heap.size, 0, none⟩ = some (.int .i64 g5) ∧ w'.cell? ⟨w5.heap.size, 1, none⟩ = some (.slice A5 n5 c5) ∧ w'.cell? ⟨w5.heap.size, 2, none⟩ = some (.slice AF5 nf5 cf5) ∧ w'.cell? ⟨w6.heap.size, 0, none⟩ = some (.int .i64 g6) ∧ w'.cell? ⟨w6.heap.size, 1, none⟩ = some (.slice A6 n6 c6) ∧ w'.cell? ⟨w6.heap.size, 2, none⟩ = some (.slice AF6 nf6 cf6) ∧ w'.cell? ⟨w8.heap.size, 0, none⟩ = some (.int .i64 g8) ∧ w'.cell? ⟨w8.heap.size, 1, none⟩ = some (.slice A8 n8 c8) ∧ w'.cell? ⟨w8.heap.size, 2, none⟩ = some (.slice AF8 nf8 cf8)) 17 [(0, false), (1, false), (2, false), (4, false), (5, false), (6, false), (3, true), (7, true), (8, false), (9, false), (10, false), (11, false), (12, false), (14, false), (15, false), (16, false), (13, true)] (by kernel_rfl) (by kernel_rfl) ?_ ?_
  · exact ⟨zHX0, zHX1, zHX2, zHY50, zHY51, zHY52, zHY60, zHY61, zHY62, zHY80, zHY81, zHY82⟩
  simp only [List.drop_succ_cons, List.drop_zero]
  clear zHX0 zHX1 zHX2 zHY50 zHY51 zHY52 zHY60 zHY61 zHY62 zHY80 zHY81 zHY82
  repeat (refine mix_q (v := ?_) (by rfl) (by rfl) ?_ ?_; rotate_left; (focus (intro w' hC; (try dsimp only at hC); go_simp; (first | done | with_reducible rfl))); simp only [Act.put, List.setIfInBounds_toArray, List.set_cons_zero, List.set_cons_succ, List.getElem_toArray, List.getElem_cons_zero, List.getElem_cons_succ])
  refine mix_l (by rfl) (by rfl) (fun K hK => ?_)
  go_simp
  refine (HW5.out _ (HN5.out.drew.at_) ((HU.out.below HBW.out.drew hB).mono (by have := HBW.out.size; simp; omega)) ((HO.out.below HBW.out.drew hB).mono (by have := HBW.out.size; simp; omega))).mono ?_
  rintro e w10 ⟨rfl, hb10⟩
  replace HX := hide (HX.out.drew.below hb10 HX.out.drew.lt)
  replace HY5 := hide (HY5.out.drew.below hb10 HY5.out.drew.lt)
  replace HY6 := hide (HY6.out.drew.below hb10 HY6.out.drew.lt)
  replace HY8 := hide (HY8.out.drew.below hb10 HY8.out.drew.lt)
  replace HN5 := hide (HN5.out.drew.below hb10 (Nat.le_refl _))
  replace HN6 := hide (HN6.out.drew.below hb10 (Nat.le_refl _))
  replace HN8 := hide (HN8.out.drew.below hb10 (Nat.le_refl _))
  replace HBW := hide (HBW.out.drew.trans (hb10.mono HBW.out.drew.size))
  clear hb10
  have zHX0 := HX.out.cell 0
  have zHX1 := HX.out.cell 1
  have zHX2 := HX.out.cell 2
  have zHY50 := HY5.out.cell 0
  have zHY51 := HY5.out.cell 1
  have zHY52 := HY5.out.cell 2
  have zHY60 := HY6.out.cell 0
  have zHY61 := HY6.out.cell 1
  have zHY62 := HY6.out.cell 2
  have zHY80 := HY8.out.cell 0
  have zHY81 := HY8.out.cell 1
  have zHY82 := HY8.out.cell 2
  simp at zHX0 zHX1 zHX2 zHY50 zHY51 zHY52 zHY60 zHY61 zHY62 zHY80 zHY81 zHY82
  refine hK _ _ ⟨zHX0, zHX1, zHX2, zHY50, zHY51, zHY52, zHY60, zHY61, zHY62, zHY80, zHY81, zHY82⟩ ?_
  clear hK K zHX0 zHX1 zHX2 zHY50 zHY51 zHY52 zHY60 zHY61 zHY62 zHY80 zHY81 zHY82
  refine mix_l (by rfl) (by rfl) (fun K hK => ?_)
  go_simp
  refine (HW6.out _ (HN6.out.at_) ((HU.out.below HBW.out hB).mono (by have := HBW.out.size; simp; omega)) ((HO.out.below HBW.out hB).mono (by have := HBW.out.size; simp; omega))).mono ?_
  rintro e w11 ⟨rfl, hb11⟩
  replace HX := hide (HX.out.below hb11 HX.out.lt)
  replace HY5 := hide (HY5.out.below hb11 HY5.out.lt)
  replace HY6 := hide (HY6.out.below hb11 HY6.out.lt)
  replace HY8 := hide (HY8.out.below hb11 HY8.out.lt)
  replace HN5 := hide (HN5.out.below hb11 (Nat.le_refl _))
  replace HN6 := hide (HN6.out.below hb11 (Nat.le_refl _))
  replace HN8 := hide (HN8.out.below hb11 (Nat.le_refl _))
  replace HBW := hide (HBW.out.trans (hb11.mono HBW.out.size))
  clear hb11
  have zHX0 := HX.out.cell 0
  have zHX1 := HX.out.cell 1
  have zHX2 := HX.out.cell 2
  have zHY50 := HY5.out.cell 0
  have zHY51 := HY5.out.cell 1
  have zHY52 := HY5.out.cell 2
  have zHY60 := HY6.out.cell 0
  have zHY61 := HY6.out.cell 1
  have zHY62 := HY6.out.cell 2
  have zHY80 := HY8.out.cell 0
  have zHY81 := HY8.out.cell 1
  have zHY82 := HY8.out.cell 2
  simp at zHX0 zHX1 zHX2 zHY50 zHY51 zHY52 zHY60 zHY61 zHY62 zHY80 zHY81 zHY82
  refine hK _ _ ⟨zHX0, zHX1, zHX2, zHY50, zHY51, zHY52, zHY60, zHY61, zHY62, zHY80, zHY81, zHY82⟩ ?_
  clear hK K zHX0 zHX1 zHX2 zHY50 zHY51 zHY52 zHY60 zHY61 zHY62 zHY80 zHY81 zHY82
  try simp only [Act.put, List.setIfInBounds_toArray, List.set_cons_zero, List.set_cons_succ, List.getElem_toArray, List.getElem_cons_zero, List.getElem_cons_succ]
  repeat (refine mix_q (v := ?_) (by rfl) (by rfl) ?_ ?_; rotate_left; (focus (intro w' hC; (try dsimp only at hC); go_simp; (first | done | with_reducible rfl))); simp only [Act.put, List.setIfInBounds_toArray, List.set_cons_zero, List.set_cons_succ, List.getElem_toArray, List.getElem_cons_zero, List.getElem_cons_succ])
  refine mix_l (by rfl) (by rfl) (fun K hK => ?_)
  go_simp
  refine (HW8.out _ (HN8.out.at_) ((HU.out.below HBW.out hB).mono (by have := HBW.out.size; simp; omega)) ((HO.out.below HBW.out hB).mono (by have := HBW.out.size; simp; omega))).mono ?_
  rintro e w12 ⟨rfl, hb12⟩
  replace HX := hide (HX.out.below hb12 HX.out.lt)
  replace HY5 := hide (HY5.out.below hb12 HY5.out.lt)
  replace HY6 := hide (HY6.out.below hb12 HY6.out.lt)
  replace HY8 := hide (HY8.out.below hb12 HY8.out.lt)
  replace HN5 := hide (HN5.out.below hb12 (Nat.le_refl _))
  replace HN6 := hide (HN6.out.below hb12 (Nat.le_refl _))
  replace HN8 := hide (HN8.out.below hb12 (Nat.le_refl _))
  replace HBW := hide (HBW.out.trans (hb12.mono HBW.out.size))
  clear hb12
  have zHX0 := HX.out.cell 0
  have zHX1 := HX.out.cell 1
  have zHX2 := HX.out.cell 2
  have zHY50 := HY5.out.cell 0
  have zHY51 := HY5.out.cell 1
  have zHY52 := HY5.out.cell 2
  have zHY60 := HY6.out.cell 0
  have zHY61 := HY6.out.cell 1
  have zHY62 := HY6.out.cell 2
  have zHY80 := HY8.out.cell 0
  have zHY81 := HY8.out.cell 1
  have zHY82 := HY8.out.cell 2
  simp at zHX0 zHX1 zHX2 zHY50 zHY51 zHY52 zHY60 zHY61 zHY62 zHY80 zHY81 zHY82
  refine hK _ _ ⟨zHX0, zHX1, zHX2, zHY50, zHY51, zHY52, zHY60, zHY61, zHY62, zHY80, zHY81, zHY82⟩ ?_
  clear hK K zHX0 zHX1 zHX2 zHY50 zHY51 zHY52 zHY60 zHY61 zHY62 zHY80 zHY81 zHY82
  refine mix_nil ?_; try simp only [Act.put, List.setIfInBounds_toArray, List.set_cons_zero, List.set_cons_succ, List.getElem_toArray, List.getElem_cons_zero, List.getElem_cons_succ]
  go_wp2_with fail
  refine (HWA.out _ ((HA.out.below HBW.out hB).mono (by have := HBW.out.size; omega)) ((HU.out.below HBW.out hB).mono (by have := HBW.out.size; omega)) ((HO.out.below HBW.out hB).mono (by have := HBW.out.size; omega))).mono ?_
  rintro e w13 ⟨rfl, hb13⟩
  have hbw := HBW.out.trans (hb13.mono HBW.out.size)
  go_wp2
  refine NoPanic.normal ?_
  go_wp2
  exact bodyPost_ret (v := .bool true) (by simp [results, Try.results5, go_sem]) rfl ⟨rfl, hbw⟩
end Go.Proofs.Ytpahodbnljpnnaa
