/- The law RationalShapesMatchSpec, walked: it returns true. Written by gen_shl.py. -/
import Derived.Test.YtmgpcnkmmgkjgaaShX
import Derived.Test.YtmgpcnkmmgkjgaaRgC
import Derived.Test.YtmgpcnkmmgkjgaaRgS
namespace Go.Proofs.Ytmgpcnkmmgkjgaa
open Go.RowKit Gm Go.Sort Go.Shelf
set_option linter.unusedSimpArgs false
set_option linter.unusedVariables false
/-- The result of a call is put into two blocks that lie ready. -/
theorem put_mach {w : World} {P F : Nat} {x0 x1 x2 p q y0 y1 y2 y3 y4 : Value} (bP : Blk w P 25 #[y0, y1, y2]) (bF : Blk w F 28 #[y3, y4]) (hne : P ≠ F) :
    ∀ W, W = ((((w.setCell ⟨P, 0, none⟩ x0).setCell ⟨P, 1, none⟩ x1).setCell ⟨P, 2, none⟩ x2).setCell ⟨F, 0, none⟩ p).setCell ⟨F, 1, none⟩ q →
    Blk W P 25 #[x0, x1, x2] ∧ Blk W F 28 #[p, q] ∧ (∀ lo v m, P < lo → F < lo → MachNew lo w v m → MachNew lo W v m) ∧ (∀ B w0, B ≤ P → B ≤ F → Below B w0 w → Below B w0 W) ∧
    (∀ g t cs, g ≠ P → g ≠ F → Blk w g t cs → Blk W g t cs) ∧ W.heap.size = w.heap.size := by
  rintro W rfl
  refine ⟨?_, ?_, ?_, ?_, ?_, by simp⟩
  · have h := (((bP.set_ 0 x0).set_ 1 x1).set_ 2 x2)
    exact ((by simpa using h : Blk _ P 25 #[x0, x1, x2]).far (by exact hne) _).far (by exact hne) _
  · have h := ((((bF.far (p := ⟨P, 0, none⟩) (fun e => hne e.symm) x0).far (p := ⟨P, 1, none⟩) (fun e => hne e.symm) x1).far (p := ⟨P, 2, none⟩) (fun e => hne e.symm) x2).set_ 0 p).set_ 1 q
    simpa using h
  · intro lo v m h1 h2 h
    refine MachNew.set (MachNew.set (MachNew.set (MachNew.set (MachNew.set h ?_ _) ?_ _) ?_ _) ?_ _) ?_ _ <;> (dsimp only; omega)
  · intro B w0 h1 h2 h
    refine Below.setCell (Below.setCell (Below.setCell (Below.setCell (Below.setCell h ?_ _) ?_ _) ?_ _) ?_ _) ?_ _ <;> (dsimp only; omega)
  · intro g t cs h1 h2 h
    exact ((((h.far (by exact h1) _).far (by exact h1) _).far (by exact h1) _).far (by exact h2) _).far (by exact h2) _
set_option maxRecDepth 100000 in
set_option maxHeartbeats 16000000 in
theorem shlaw_any (va vb : Value) (a b : Mach) (w : World) (B : Nat) (hB : B ≤ w.heap.size) (ha : MachAt w B va a) (hb : MachAt w B vb b) :
    Calls Try.prog 4 #[va, vb] w fun e w' => e = .returned (.bool true) ∧ Below w.heap.size w w' := by
  have HA := hide ha
  have HB := hide hb
  obtain ⟨A, AF, n, c, nf, cf, rfl, _⟩ := ha
  obtain ⟨A', AF', n', c', nf', cf', rfl, _⟩ := hb
  have hne := fun a b c d W => run_neq_fault a b c d W
  have heq := fun a b c d W => run_eql_fault a b c d W
  obtain ⟨sa, hsa⟩ : ∃ s, s = a.n := ⟨_, rfl⟩
  obtain ⟨sb, hsb⟩ : ∃ s, s = b.n := ⟨_, rfl⟩
  rw [← hsa] at HA ⊢
  rw [← hsb] at HB ⊢
  clear hsa hsb
  have HU1 := hide (fun W (hB : B ≤ W.heap.size) (hA : MachAt W B (.agg #[.int .i64 sa, .slice A n c, .slice AF nf cf]) a) (hB' : MachAt W B (.agg #[.int .i64 sb, .slice A' n' c', .slice AF' nf' cf']) b) => union_any _ _ a b W B hB hA hB')
  have HU2 := hide (fun W (hB : B ≤ W.heap.size) (hA : MachAt W B (.agg #[.int .i64 sa, .slice A n c, .slice AF nf cf]) a) (hB' : MachAt W B (.agg #[.int .i64 sb, .slice A' n' c', .slice AF' nf' cf']) b) => runi_any _ _ a b W B hB hA hB')
  obtain ⟨pU, hpU⟩ : ∃ p, p = (uniF a b).1 := ⟨_, rfl⟩
  obtain ⟨qU, hqU⟩ : ∃ p, p = (uniF a b).2 := ⟨_, rfl⟩
  obtain ⟨gU, hgU⟩ : ∃ g, g = (uniR a b).n := ⟨_, rfl⟩
  obtain ⟨rU, hrU⟩ : ∃ g, g = uniR a b := ⟨_, rfl⟩
  rw [← hrU] at hgU
  rw [← hpU, ← hqU, ← hrU] at HU1 HU2
  have HGU := hide hgU
  clear hpU hqU hgU hrU
  have t1U : fEq pU qU pU qU = true := by simp [fEq]
  have HC1 := hide (fun W (hB : B ≤ W.heap.size) (hA : MachAt W B (.agg #[.int .i64 sa, .slice A n c, .slice AF nf cf]) a) (hB' : MachAt W B (.agg #[.int .i64 sb, .slice A' n' c', .slice AF' nf' cf']) b) => concat_any _ _ a b W B hB hA hB')
  have HC2 := hide (fun W (hB : B ≤ W.heap.size) (hA : MachAt W B (.agg #[.int .i64 sa, .slice A n c, .slice AF nf cf]) a) (hB' : MachAt W B (.agg #[.int .i64 sb, .slice A' n' c', .slice AF' nf' cf']) b) => rcat_any _ _ a b W B hB hA hB')
  obtain ⟨pC, hpC⟩ : ∃ p, p = (catF a b).1 := ⟨_, rfl⟩
  obtain ⟨qC, hqC⟩ : ∃ p, p = (catF a b).2 := ⟨_, rfl⟩
  obtain ⟨gC, hgC⟩ : ∃ g, g = (catR a b).n := ⟨_, rfl⟩
  obtain ⟨rC, hrC⟩ : ∃ g, g = catR a b := ⟨_, rfl⟩
  rw [← hrC] at hgC
  rw [← hpC, ← hqC, ← hrC] at HC1 HC2
  have HGC := hide hgC
  clear hpC hqC hgC hrC
  have t1C : fEq pC qC pC qC = true := by simp [fEq]
  have HS1 := hide (fun W (hB : B ≤ W.heap.size) (hA : MachAt W B (.agg #[.int .i64 sa, .slice A n c, .slice AF nf cf]) a) => star_any _ a W B hB hA)
  have HS2 := hide (fun W (hB : B ≤ W.heap.size) (hA : MachAt W B (.agg #[.int .i64 sa, .slice A n c, .slice AF nf cf]) a) => rstar_any _ a W B hB hA)
  obtain ⟨pS, hpS⟩ : ∃ p, p = (starF a).1 := ⟨_, rfl⟩
  obtain ⟨qS, hqS⟩ : ∃ p, p = (starF a).2 := ⟨_, rfl⟩
  obtain ⟨gS, hgS⟩ : ∃ g, g = (starR a).n := ⟨_, rfl⟩
  obtain ⟨rS, hrS⟩ : ∃ g, g = starR a := ⟨_, rfl⟩
  rw [← hrS] at hgS
  rw [← hpS, ← hqS, ← hrS] at HS1 HS2
  have HGS := hide hgS
  clear hpS hqS hgS hrS
  have t1S : fEq pS qS pS qS = true := by simp [fEq]
  go_enter Try.func4, Try.ntmps4
  go_wp2_with fail
  have hX : Blk ((w.alloc (Obj.cells #[.int .i64 sa, .slice A n c, .slice AF nf cf] 25)).alloc (Obj.cells #[.int .i64 sb, .slice A' n' c', .slice AF' nf' cf'] 25)) w.heap.size 25 #[.int .i64 sa, .slice A n c, .slice AF nf cf] := (Blk.at_ rfl).alloc _
  have hY : Blk ((w.alloc (Obj.cells #[.int .i64 sa, .slice A n c, .slice AF nf cf] 25)).alloc (Obj.cells #[.int .i64 sb, .slice A' n' c', .slice AF' nf' cf'] 25)) (w.heap.size + 1) 25 #[.int .i64 sb, .slice A' n' c', .slice AF' nf' cf'] := Blk.at_ (by simp)
  refine (shapes_ex _).mono ?_
  rintro e w1 ⟨rfl, hb1⟩
  have hbw : Below w.heap.size w w1 := (show Below w.heap.size w _ by go_grown).trans (hb1.mono (by simp <;> omega))
  have bX := hX.below hb1 (by simp <;> omega)
  have bY := hY.below hb1 (by simp <;> omega)
  clear hb1 hX hY
  obtain ⟨X, hX⟩ : ∃ z, z = w.heap.size := ⟨_, rfl⟩
  have hXw : w.heap.size ≤ X := by omega
  rw [← hX] at bX bY
  simp only [← hX]
  clear hX
  have x0 := bX.cell 0
  have x1 := bX.cell 1
  have x2 := bX.cell 2
  simp at x0 x1 x2
  have xl := bX.lt
  have xl' := Nat.lt_succ_of_lt xl
  have y0 := bY.cell 0
  have y1 := bY.cell 1
  have y2 := bY.cell 2
  simp at y0 y1 y2
  have yl := bY.lt
  have yl' := Nat.lt_succ_of_lt yl
  go_wp2_with fail
  refine (HU1.out _ (by have := hbw.size; omega) (HA.out.below hbw hB) (HB.out.below hbw hB)).mono ?_
  rintro e w3 ⟨v3, rfl, hT, hb3⟩
  obtain ⟨A1, n1, c1, AF1, nf1, cf1, rfl⟩ := agg_of hT
  rw [← HGU.out] at hT ⊢
  replace bX := bX.below hb3 bX.lt
  replace bY := bY.below hb3 bY.lt
  replace hbw := hbw.trans (hb3.mono hbw.size)
  clear x0 x1 x2 xl xl'
  clear y0 y1 y2 yl yl'
  clear HU1 hb3
  go_upto_region 4 with fail
  generalize hWX : World.alloc _ _ = WX
  obtain ⟨P, hP⟩ : ∃ z, z = w3.heap.size := ⟨_, rfl⟩
  simp only [← hP]
  have hwP : w.heap.size ≤ P := by have := hbw.size; omega
  have hlP : X + 1 < P := by have := bY.lt; omega
  replace bX := (by rw [← hWX]; exact (bX.alloc _).alloc _ : Blk WX _ _ _)
  replace bY := (by rw [← hWX]; exact (bY.alloc _).alloc _ : Blk WX _ _ _)
  have bP : Blk WX P 25 #[.int .i64 gU, .slice A1 n1 c1, .slice AF1 nf1 cf1] := by rw [← hWX]; exact (Blk.at_ (by simp [hP])).alloc _
  have bF : Blk WX (P + 1) 28 #[.int .i64 pU, .int .i64 qU] := by rw [← hWX]; exact Blk.at_ (by simp [hP])
  have HT1 := hide (by rw [← hWX]; exact (hT.alloc _).alloc _ : MachNew _ WX _ _)
  replace hbw : Below w.heap.size w WX := by rw [← hWX]; exact (hbw.alloc hbw.size _).alloc (by have := hbw.size; simp <;> omega) _
  clear hT hWX hP
  have x0 := bX.cell 0
  have x1 := bX.cell 1
  have x2 := bX.cell 2
  simp at x0 x1 x2
  have xl := bX.lt
  have xl' := Nat.lt_succ_of_lt xl
  have y0 := bY.cell 0
  have y1 := bY.cell 1
  have y2 := bY.cell 2
  simp at y0 y1 y2
  have yl := bY.lt
  have yl' := Nat.lt_succ_of_lt yl
  go_wp2_with fail
  refine (HU2.out _ (by have := hbw.size; omega) (HA.out.below hbw hB) (HB.out.below hbw hB)).mono ?_
  rintro e w3 ⟨v3, rfl, hT, hb3⟩
  obtain ⟨A2, n2, c2, AF2, nf2, cf2, rfl⟩ := agg_of hT
  rw [← HGU.out] at hT ⊢
  replace bX := bX.below hb3 bX.lt
  replace bY := bY.below hb3 bY.lt
  replace bP := bP.below hb3 bP.lt
  replace bF := bF.below hb3 bF.lt
  replace HT1 := hide (HT1.out.below hb3 (Nat.le_refl _))
  replace hbw := hbw.trans (hb3.mono hbw.size)
  clear x0 x1 x2 xl xl'
  clear y0 y1 y2 yl yl'
  clear HU2 hb3
  go_upto_region 5 with fail
  generalize hWX : World.alloc _ _ = WX
  obtain ⟨Q, hQ⟩ : ∃ z, z = w3.heap.size := ⟨_, rfl⟩
  simp only [← hQ]
  have hwQ : w.heap.size ≤ Q := by have := hbw.size; omega
  have hlQ : P + 1 < Q := by have := bF.lt; omega
  replace bX := (by rw [← hWX]; exact (bX.alloc _).alloc _ : Blk WX _ _ _)
  replace bY := (by rw [← hWX]; exact (bY.alloc _).alloc _ : Blk WX _ _ _)
  replace bP := (by rw [← hWX]; exact (bP.alloc _).alloc _ : Blk WX _ _ _)
  replace bF := (by rw [← hWX]; exact (bF.alloc _).alloc _ : Blk WX _ _ _)
  have bQ : Blk WX Q 25 #[.int .i64 gU, .slice A2 n2 c2, .slice AF2 nf2 cf2] := by rw [← hWX]; exact (Blk.at_ (by simp [hQ])).alloc _
  have bG : Blk WX (Q + 1) 28 #[.int .i64 pU, .int .i64 qU] := by rw [← hWX]; exact Blk.at_ (by simp [hQ])
  replace HT1 := hide (by rw [← hWX]; exact (HT1.out.alloc _).alloc _ : MachNew _ WX _ _)
  have HT2 := hide (by rw [← hWX]; exact (hT.alloc _).alloc _ : MachNew _ WX _ _)
  replace hbw : Below w.heap.size w WX := by rw [← hWX]; exact (hbw.alloc hbw.size _).alloc (by have := hbw.size; simp <;> omega) _
  clear hT hWX hQ
  have x0 := bP.cell 0
  have x1 := bP.cell 1
  have x2 := bP.cell 2
  simp at x0 x1 x2
  have xl := bP.lt
  have xl' := Nat.lt_succ_of_lt xl
  have y0 := bF.cell 0
  have y1 := bF.cell 1
  simp at y0 y1
  have yl := bF.lt
  have yl' := Nat.lt_succ_of_lt yl
  have z0 := bQ.cell 0
  have z1 := bQ.cell 1
  have z2 := bQ.cell 2
  simp at z0 z1 z2
  have zl := bQ.lt
  have zl' := Nat.lt_succ_of_lt zl
  have v0 := bG.cell 0
  have v1 := bG.cell 1
  simp at v0 v1
  have vl := bG.lt
  have vl' := Nat.lt_succ_of_lt vl
  go_wp2_with fail
  refine (machines_any _ _ rU rU _ _ (Nat.le_refl _) HT1.out.at_ HT2.out.at_).mono ?_
  rintro e w5 ⟨rfl, hb5⟩
  have hd : decide (rU = rU) = true := decide_eq_true rfl
  rw [hd]
  clear hd
  replace bX := bX.below hb5 bX.lt
  replace bY := bY.below hb5 bY.lt
  replace bP := bP.below hb5 bP.lt
  replace bF := bF.below hb5 bF.lt
  replace bQ := bQ.below hb5 bQ.lt
  replace bG := bG.below hb5 bG.lt
  replace hbw := hbw.trans (hb5.mono hbw.size)
  clear x0 x1 x2 xl xl'
  clear y0 y1 yl yl'
  clear z0 z1 z2 zl zl'
  clear v0 v1 vl vl'
  clear hb5 HT1 HT2 t1U HGU
  have x0 := bX.cell 0
  have x1 := bX.cell 1
  have x2 := bX.cell 2
  simp at x0 x1 x2
  have xl := bX.lt
  have xl' := Nat.lt_succ_of_lt xl
  have y0 := bY.cell 0
  have y1 := bY.cell 1
  have y2 := bY.cell 2
  simp at y0 y1 y2
  have yl := bY.lt
  have yl' := Nat.lt_succ_of_lt yl
  go_wp2_with fail
  have hlo := bG.lt
  refine (HC1.out _ (by have := hbw.size; omega) (HA.out.below hbw hB) (HB.out.below hbw hB)).mono ?_
  rintro e w3 ⟨v3, rfl, hT, hb3⟩
  obtain ⟨A1, n1, c1, AF1, nf1, cf1, rfl⟩ := agg_of hT
  rw [← HGC.out] at hT ⊢
  replace bX := bX.below hb3 bX.lt
  replace bY := bY.below hb3 bY.lt
  replace bP := bP.below hb3 bP.lt
  replace bF := bF.below hb3 bF.lt
  replace bQ := bQ.below hb3 bQ.lt
  replace bG := bG.below hb3 bG.lt
  replace hbw := hbw.trans (hb3.mono hbw.size)
  clear x0 x1 x2 xl xl'
  clear y0 y1 y2 yl yl'
  clear HC1 hb3
  have fp0 := bP.frozen 0
  have gp0 := bP.cell 0
  have fp1 := bP.frozen 1
  have gp1 := bP.cell 1
  have fp2 := bP.frozen 2
  have gp2 := bP.cell 2
  simp at gp0 gp1 gp2
  have fpl := bP.lt
  have fpl' := Nat.lt_succ_of_lt fpl
  have fq0 := bF.frozen 0
  have gq0 := bF.cell 0
  have fq1 := bF.frozen 1
  have gq1 := bF.cell 1
  simp at gq0 gq1
  have fql := bF.lt
  have fql' := Nat.lt_succ_of_lt fql
  go_upto_region 8 with fail
  clear fp0 gp0 fp1 gp1 fp2 gp2 fpl fpl'
  clear fq0 gq0 fq1 gq1 fql fql'
  generalize hWX : World.setCell _ (⟨P + 1, 1, none⟩ : Addr) _ = WX
  obtain ⟨u1, u2, u3, u4, u5, u6⟩ := put_mach bP bF (by omega) WX hWX.symm
  replace bX := u5 _ _ _ (by omega) (by omega) bX
  replace bY := u5 _ _ _ (by omega) (by omega) bY
  replace bQ := u5 _ _ _ (by omega) (by omega) bQ
  replace bG := u5 _ _ _ (by omega) (by omega) bG
  have HT1 := hide (u3 _ _ _ (by omega) (by omega) (hT.mono (show Q + 2 ≤ _ from hlo)))
  replace hbw := u4 _ _ (by omega) (by omega) hbw
  replace bP := u1
  replace bF := u2
  try clear u1 u2
  try clear u3 u4 u5 u6
  try clear hT
  try clear hWX
  try clear hlo
  have x0 := bX.cell 0
  have x1 := bX.cell 1
  have x2 := bX.cell 2
  simp at x0 x1 x2
  have xl := bX.lt
  have xl' := Nat.lt_succ_of_lt xl
  have y0 := bY.cell 0
  have y1 := bY.cell 1
  have y2 := bY.cell 2
  simp at y0 y1 y2
  have yl := bY.lt
  have yl' := Nat.lt_succ_of_lt yl
  go_wp2_with fail
  have hlo := bG.lt
  refine (HC2.out _ (by have := hbw.size; omega) (HA.out.below hbw hB) (HB.out.below hbw hB)).mono ?_
  rintro e w3 ⟨v3, rfl, hT, hb3⟩
  obtain ⟨A2, n2, c2, AF2, nf2, cf2, rfl⟩ := agg_of hT
  rw [← HGC.out] at hT ⊢
  replace bX := bX.below hb3 bX.lt
  replace bY := bY.below hb3 bY.lt
  replace bP := bP.below hb3 bP.lt
  replace bF := bF.below hb3 bF.lt
  replace bQ := bQ.below hb3 bQ.lt
  replace bG := bG.below hb3 bG.lt
  replace HT1 := hide (HT1.out.below hb3 (Nat.le_refl _))
  replace hbw := hbw.trans (hb3.mono hbw.size)
  clear x0 x1 x2 xl xl'
  clear y0 y1 y2 yl yl'
  clear HC2 hb3
  have fp0 := bQ.frozen 0
  have gp0 := bQ.cell 0
  have fp1 := bQ.frozen 1
  have gp1 := bQ.cell 1
  have fp2 := bQ.frozen 2
  have gp2 := bQ.cell 2
  simp at gp0 gp1 gp2
  have fpl := bQ.lt
  have fpl' := Nat.lt_succ_of_lt fpl
  have fq0 := bG.frozen 0
  have gq0 := bG.cell 0
  have fq1 := bG.frozen 1
  have gq1 := bG.cell 1
  simp at gq0 gq1
  have fql := bG.lt
  have fql' := Nat.lt_succ_of_lt fql
  go_upto_region 9 with fail
  clear fp0 gp0 fp1 gp1 fp2 gp2 fpl fpl'
  clear fq0 gq0 fq1 gq1 fql fql'
  generalize hWX : World.setCell _ (⟨Q + 1, 1, none⟩ : Addr) _ = WX
  obtain ⟨u1, u2, u3, u4, u5, u6⟩ := put_mach bQ bG (by omega) WX hWX.symm
  replace bX := u5 _ _ _ (by omega) (by omega) bX
  replace bY := u5 _ _ _ (by omega) (by omega) bY
  replace bP := u5 _ _ _ (by omega) (by omega) bP
  replace bF := u5 _ _ _ (by omega) (by omega) bF
  replace HT1 := hide (u3 _ _ _ (by omega) (by omega) HT1.out)
  have HT2 := hide (u3 _ _ _ (by omega) (by omega) (hT.mono (show Q + 2 ≤ _ from hlo)))
  replace hbw := u4 _ _ (by omega) (by omega) hbw
  replace bQ := u1
  replace bG := u2
  try clear u1 u2
  try clear u3 u4 u5 u6
  try clear hT
  try clear hWX
  try clear hlo
  have x0 := bP.cell 0
  have x1 := bP.cell 1
  have x2 := bP.cell 2
  simp at x0 x1 x2
  have xl := bP.lt
  have xl' := Nat.lt_succ_of_lt xl
  have y0 := bF.cell 0
  have y1 := bF.cell 1
  simp at y0 y1
  have yl := bF.lt
  have yl' := Nat.lt_succ_of_lt yl
  have z0 := bQ.cell 0
  have z1 := bQ.cell 1
  have z2 := bQ.cell 2
  simp at z0 z1 z2
  have zl := bQ.lt
  have zl' := Nat.lt_succ_of_lt zl
  have v0 := bG.cell 0
  have v1 := bG.cell 1
  simp at v0 v1
  have vl := bG.lt
  have vl' := Nat.lt_succ_of_lt vl
  go_wp2_with fail
  refine (machines_any _ _ rC rC _ _ (Nat.le_refl _) HT1.out.at_ HT2.out.at_).mono ?_
  rintro e w5 ⟨rfl, hb5⟩
  have hd : decide (rC = rC) = true := decide_eq_true rfl
  rw [hd]
  clear hd
  replace bX := bX.below hb5 bX.lt
  replace bY := bY.below hb5 bY.lt
  replace bP := bP.below hb5 bP.lt
  replace bF := bF.below hb5 bF.lt
  replace bQ := bQ.below hb5 bQ.lt
  replace bG := bG.below hb5 bG.lt
  replace hbw := hbw.trans (hb5.mono hbw.size)
  clear x0 x1 x2 xl xl'
  clear y0 y1 yl yl'
  clear z0 z1 z2 zl zl'
  clear v0 v1 vl vl'
  clear hb5 HT1 HT2 t1C HGC
  have x0 := bX.cell 0
  have x1 := bX.cell 1
  have x2 := bX.cell 2
  simp at x0 x1 x2
  have xl := bX.lt
  have xl' := Nat.lt_succ_of_lt xl
  go_wp2_with fail
  have hlo := bG.lt
  refine (HS1.out _ (by have := hbw.size; omega) (HA.out.below hbw hB)).mono ?_
  rintro e w3 ⟨v3, rfl, hT, hb3⟩
  obtain ⟨A1, n1, c1, AF1, nf1, cf1, rfl⟩ := agg_of hT
  rw [← HGS.out] at hT ⊢
  replace bX := bX.below hb3 bX.lt
  replace bY := bY.below hb3 bY.lt
  replace bP := bP.below hb3 bP.lt
  replace bF := bF.below hb3 bF.lt
  replace bQ := bQ.below hb3 bQ.lt
  replace bG := bG.below hb3 bG.lt
  replace hbw := hbw.trans (hb3.mono hbw.size)
  clear x0 x1 x2 xl xl'
  clear HS1 hb3
  have fp0 := bP.frozen 0
  have gp0 := bP.cell 0
  have fp1 := bP.frozen 1
  have gp1 := bP.cell 1
  have fp2 := bP.frozen 2
  have gp2 := bP.cell 2
  simp at gp0 gp1 gp2
  have fpl := bP.lt
  have fpl' := Nat.lt_succ_of_lt fpl
  have fq0 := bF.frozen 0
  have gq0 := bF.cell 0
  have fq1 := bF.frozen 1
  have gq1 := bF.cell 1
  simp at gq0 gq1
  have fql := bF.lt
  have fql' := Nat.lt_succ_of_lt fql
  go_upto_region 12 with fail
  clear fp0 gp0 fp1 gp1 fp2 gp2 fpl fpl'
  clear fq0 gq0 fq1 gq1 fql fql'
  generalize hWX : World.setCell _ (⟨P + 1, 1, none⟩ : Addr) _ = WX
  obtain ⟨u1, u2, u3, u4, u5, u6⟩ := put_mach bP bF (by omega) WX hWX.symm
  replace bX := u5 _ _ _ (by omega) (by omega) bX
  replace bY := u5 _ _ _ (by omega) (by omega) bY
  replace bQ := u5 _ _ _ (by omega) (by omega) bQ
  replace bG := u5 _ _ _ (by omega) (by omega) bG
  have HT1 := hide (u3 _ _ _ (by omega) (by omega) (hT.mono (show Q + 2 ≤ _ from hlo)))
  replace hbw := u4 _ _ (by omega) (by omega) hbw
  replace bP := u1
  replace bF := u2
  try clear u1 u2
  try clear u3 u4 u5 u6
  try clear hT
  try clear hWX
  try clear hlo
  have x0 := bX.cell 0
  have x1 := bX.cell 1
  have x2 := bX.cell 2
  simp at x0 x1 x2
  have xl := bX.lt
  have xl' := Nat.lt_succ_of_lt xl
  go_wp2_with fail
  have hlo := bG.lt
  refine (HS2.out _ (by have := hbw.size; omega) (HA.out.below hbw hB)).mono ?_
  rintro e w3 ⟨v3, rfl, hT, hb3⟩
  obtain ⟨A2, n2, c2, AF2, nf2, cf2, rfl⟩ := agg_of hT
  rw [← HGS.out] at hT ⊢
  replace bX := bX.below hb3 bX.lt
  replace bY := bY.below hb3 bY.lt
  replace bP := bP.below hb3 bP.lt
  replace bF := bF.below hb3 bF.lt
  replace bQ := bQ.below hb3 bQ.lt
  replace bG := bG.below hb3 bG.lt
  replace HT1 := hide (HT1.out.below hb3 (Nat.le_refl _))
  replace hbw := hbw.trans (hb3.mono hbw.size)
  clear x0 x1 x2 xl xl'
  clear HS2 hb3
  have fp0 := bQ.frozen 0
  have gp0 := bQ.cell 0
  have fp1 := bQ.frozen 1
  have gp1 := bQ.cell 1
  have fp2 := bQ.frozen 2
  have gp2 := bQ.cell 2
  simp at gp0 gp1 gp2
  have fpl := bQ.lt
  have fpl' := Nat.lt_succ_of_lt fpl
  have fq0 := bG.frozen 0
  have gq0 := bG.cell 0
  have fq1 := bG.frozen 1
  have gq1 := bG.cell 1
  simp at gq0 gq1
  have fql := bG.lt
  have fql' := Nat.lt_succ_of_lt fql
  go_upto_region 13 with fail
  clear fp0 gp0 fp1 gp1 fp2 gp2 fpl fpl'
  clear fq0 gq0 fq1 gq1 fql fql'
  generalize hWX : World.setCell _ (⟨Q + 1, 1, none⟩ : Addr) _ = WX
  obtain ⟨u1, u2, u3, u4, u5, u6⟩ := put_mach bQ bG (by omega) WX hWX.symm
  replace bX := u5 _ _ _ (by omega) (by omega) bX
  replace bY := u5 _ _ _ (by omega) (by omega) bY
  replace bP := u5 _ _ _ (by omega) (by omega) bP
  replace bF := u5 _ _ _ (by omega) (by omega) bF
  replace HT1 := hide (u3 _ _ _ (by omega) (by omega) HT1.out)
  have HT2 := hide (u3 _ _ _ (by omega) (by omega) (hT.mono (show Q + 2 ≤ _ from hlo)))
  replace hbw := u4 _ _ (by omega) (by omega) hbw
  replace bQ := u1
  replace bG := u2
  try clear u1 u2
  try clear u3 u4 u5 u6
  try clear hT
  try clear hWX
  try clear hlo
  have x0 := bP.cell 0
  have x1 := bP.cell 1
  have x2 := bP.cell 2
  simp at x0 x1 x2
  have xl := bP.lt
  have xl' := Nat.lt_succ_of_lt xl
  have y0 := bF.cell 0
  have y1 := bF.cell 1
  simp at y0 y1
  have yl := bF.lt
  have yl' := Nat.lt_succ_of_lt yl
  have z0 := bQ.cell 0
  have z1 := bQ.cell 1
  have z2 := bQ.cell 2
  simp at z0 z1 z2
  have zl := bQ.lt
  have zl' := Nat.lt_succ_of_lt zl
  have v0 := bG.cell 0
  have v1 := bG.cell 1
  simp at v0 v1
  have vl := bG.lt
  have vl' := Nat.lt_succ_of_lt vl
  go_wp2_with fail
  refine (machines_any _ _ rS rS _ _ (Nat.le_refl _) HT1.out.at_ HT2.out.at_).mono ?_
  rintro e w5 ⟨rfl, hb5⟩
  have hd : decide (rS = rS) = true := decide_eq_true rfl
  rw [hd]
  clear hd
  replace bX := bX.below hb5 bX.lt
  replace bY := bY.below hb5 bY.lt
  replace bP := bP.below hb5 bP.lt
  replace bF := bF.below hb5 bF.lt
  replace bQ := bQ.below hb5 bQ.lt
  replace bG := bG.below hb5 bG.lt
  replace hbw := hbw.trans (hb5.mono hbw.size)
  clear x0 x1 x2 xl xl'
  clear y0 y1 yl yl'
  clear z0 z1 z2 zl zl'
  clear v0 v1 vl vl'
  clear hb5 HT1 HT2 t1S HGS
  go_wp2
  exact bodyPost_ret (v := .bool true) (by simp [results, Try.results4, go_sem]) rfl ⟨rfl, hbw⟩
end Go.Proofs.Ytmgpcnkmmgkjgaa
