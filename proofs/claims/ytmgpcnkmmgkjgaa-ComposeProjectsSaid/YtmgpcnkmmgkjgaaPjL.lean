/- The law ComposeProjects, walked: it returns true. Written by gen_pj.py. -/
import Derived.Test.YtmgpcnkmmgkjgaaChX
import Derived.Test.YtmgpcnkmmgkjgaaChP
import Derived.Test.YtmgpcnkmmgkjgaaWvW
namespace Gm
theorem pj_plain {a : Mach} {lu lo : List Int} (hv : validate a = (0, 0)) (h : 0 ≤ wv a lu lo) : (0 ≤ wv (chM 2 a) lu lu ∧ wv (chM 2 a) lu lu ≤ wv a lu lo) ∧ (0 ≤ wv (chM 3 a) lo lo ∧ wv (chM 3 a) lo lo ≤ wv a lu lo) := by
  have hV := valid_of hv
  have h2 := validate_of (valid_ch 2 hV)
  have h3 := validate_of (valid_ch 3 hV)
  by_cases hz : wF a lu lo = (0, 0)
  · have e1 : wv a lu lo = wgt a lu lo := by unfold wv; rw [if_pos hz]
    rw [e1] at h ⊢
    have hu : wordF lu (-2) = (0, 0) := by
      unfold wF at hz
      rw [if_pos hv] at hz
      by_cases g : wordF lu (-2) = (0, 0)
      · exact g
      · rw [if_neg g] at hz; exact hz
    have ho : wordF lo (-3) = (0, 0) := by
      unfold wF at hz
      rw [if_pos hv, if_pos hu] at hz
      exact hz
    have f2 : wF (chM 2 a) lu lu = (0, 0) := by unfold wF; rw [if_pos h2, if_pos hu]; exact wordF_ix hu _
    have f3 : wF (chM 3 a) lo lo = (0, 0) := by unfold wF; rw [if_pos h3, if_pos (wordF_ix ho _)]; exact ho
    have e2 : wv (chM 2 a) lu lu = wgt (chM 2 a) lu lu := by unfold wv; rw [if_pos f2]
    have e3 : wv (chM 3 a) lo lo = wgt (chM 3 a) lo lo := by unfold wv; rw [if_pos f3]
    rw [e2, e3]
    exact ⟨wgt_ch2 (rng_valid hV) h, wgt_ch3 (rng_valid hV) h⟩
  · unfold wv at h; rw [if_neg hz] at h; omega
theorem chR_good' {k : Nat} {m : Mach} (h : validate m = (0, 0)) : chR k m = chM k m := by unfold chR; rw [if_pos h]
end Gm
namespace Go.Proofs.Ytmgpcnkmmgkjgaa
open Go.RowKit Gm Go.Sort Go.Shelf
set_option linter.unusedSimpArgs false
set_option linter.unusedVariables false
set_option maxRecDepth 100000 in
set_option maxHeartbeats 16000000 in
theorem pjlaw_any (v v1 v2 : Value) (a : Mach) (lu lo : List Int) (w : World) (B : Nat) (hB : B ≤ w.heap.size) (ha : MachAt w B v a) (h1 : Nums w B v1 lu) (h2 : Nums w B v2 lo) :
    Calls Try.prog 6 #[v, v1, v2] w fun e w' => e = .returned (.bool true) ∧ Below w.heap.size w w' := by
  have HA := hide ha
  have HU := hide h1
  have HO := hide h2
  obtain ⟨A, AF, n, c, nf, cf, rfl, _⟩ := ha
  obtain ⟨A1, nu, cc1, rfl, _⟩ := h1
  obtain ⟨A2, no, cc2, rfl, _⟩ := h2
  have heq := fun a b c d W => run_eql_fault a b c d W
  have hne := fun a b c d W => run_neq_fault a b c d W
  have hf0 : fEq 0 0 0 0 = true := rfl
  obtain ⟨sa, hsa⟩ : ∃ s, s = a.n := ⟨_, rfl⟩
  rw [← hsa] at HA ⊢
  clear hsa
  have HW := hide (fun W (hB : B ≤ W.heap.size) (hM : MachAt W B (.agg #[.int .i64 sa, .slice A n c, .slice AF nf cf]) a) (hU : Nums W B (.slice A1 nu cc1) lu) (hO : Nums W B (.slice A2 no cc2) lo) => lweight_any _ _ _ a lu lo W B hB hM hU hO)
  have H1 := hide (fun W (hB : B ≤ W.heap.size) (h : MachAt W B (.agg #[.int .i64 sa, .slice A n c, .slice AF nf cf]) a) => ch2R_any _ a W B hB h)
  have H2 := hide (fun W (hB : B ≤ W.heap.size) (h : MachAt W B (.agg #[.int .i64 sa, .slice A n c, .slice AF nf cf]) a) => ch3R_any _ a W B hB h)
  obtain ⟨p, hp⟩ : ∃ p, p = (validate a).1 := ⟨_, rfl⟩
  obtain ⟨q, hq⟩ : ∃ p, p = (validate a).2 := ⟨_, rfl⟩
  rw [← hp, ← hq] at H1 H2
  have HPQ := hide (show (p, q) = validate a by rw [hp, hq])
  have tpq : fEq p q p q = true := by simp [fEq]
  clear hp hq
  go_enter Try.func6, Try.ntmps6
  go_wp2_with fail
  have hX : Blk (w.alloc (Obj.cells #[.int .i64 sa, .slice A n c, .slice AF nf cf] 25)) w.heap.size 25 #[.int .i64 sa, .slice A n c, .slice AF nf cf] := Blk.at_ rfl
  refine (inverted_ex _).mono ?_
  rintro e w1 ⟨rfl, hb1⟩
  have hbw : Below w.heap.size w w1 := (show Below w.heap.size w _ by go_grown).trans (hb1.mono (by simp <;> omega))
  have bX := hX.below hb1 (by simp <;> omega)
  clear hb1 hX
  obtain ⟨X, hX⟩ : ∃ z, z = w.heap.size := ⟨_, rfl⟩
  have hXw : w.heap.size ≤ X := by omega
  rw [← hX] at bX
  simp only [← hX]
  clear hX
  go_wp2_with fail
  refine (weighed_ex _).mono ?_
  rintro e w2 ⟨rfl, hb2⟩
  replace bX := bX.below hb2 bX.lt
  replace hbw := hbw.trans (hb2.mono hbw.size)
  clear hb2
  have x0 := bX.cell 0
  have x1 := bX.cell 1
  have x2 := bX.cell 2
  simp at x0 x1 x2
  have xl := bX.lt
  go_wp2_with fail
  refine (H1.out _ (by have := hbw.size; omega) (HA.out.below hbw hB)).mono ?_
  rintro e w3 ⟨v3, rfl, hT, hb3⟩
  obtain ⟨B1, n1, c1, BF1, nf1, cf1, rfl⟩ := agg_of hT
  obtain ⟨g1, hg1⟩ : ∃ g, g = (chR 2 a).n := ⟨_, rfl⟩
  rw [← hg1] at hT ⊢
  clear hg1
  clear x0 x1 x2 xl
  replace bX := bX.below hb3 bX.lt
  replace hbw := hbw.trans (hb3.mono hbw.size)
  clear H1 hb3
  go_upto_region 4 with fail
  generalize hWX : World.alloc _ _ = WX
  obtain ⟨M1, hM1⟩ : ∃ z, z = w3.heap.size := ⟨_, rfl⟩
  simp only [← hM1]
  have hl1 : X < M1 := by have := bX.lt; omega
  replace bX := (by rw [← hWX]; exact (bX.alloc _).alloc _ : Blk WX _ _ _)
  have bM1 : Blk WX M1 25 #[.int .i64 g1, .slice B1 n1 c1, .slice BF1 nf1 cf1] := by rw [← hWX]; exact (Blk.at_ (by simp [hM1])).alloc _
  have bF1 : Blk WX (M1 + 1) 28 #[.int .i64 p, .int .i64 q] := by rw [← hWX]; exact Blk.at_ (by simp [hM1])
  have HT1 := hide (by rw [← hWX]; exact (hT.alloc _).alloc _ : MachNew _ WX _ _)
  replace hbw : Below w.heap.size w WX := by rw [← hWX]; exact (hbw.alloc hbw.size _).alloc (by have := hbw.size; simp <;> omega) _
  clear hT hWX hM1
  have x0 := bX.cell 0
  have x1 := bX.cell 1
  have x2 := bX.cell 2
  simp at x0 x1 x2
  have xl := bX.lt
  go_wp2_with fail
  refine (H2.out _ (by have := hbw.size; omega) (HA.out.below hbw hB)).mono ?_
  rintro e w3 ⟨v3, rfl, hT, hb3⟩
  obtain ⟨B2, n2, c2, BF2, nf2, cf2, rfl⟩ := agg_of hT
  obtain ⟨g2, hg2⟩ : ∃ g, g = (chR 3 a).n := ⟨_, rfl⟩
  rw [← hg2] at hT ⊢
  clear hg2
  clear x0 x1 x2 xl
  replace bX := bX.below hb3 bX.lt
  replace bM1 := bM1.below hb3 bM1.lt
  replace bF1 := bF1.below hb3 bF1.lt
  replace HT1 := hide (HT1.out.below hb3 (Nat.le_refl _))
  replace hbw := hbw.trans (hb3.mono hbw.size)
  clear H2 hb3
  go_upto_region 5 with fail
  generalize hWX : World.alloc _ _ = WX
  obtain ⟨M2, hM2⟩ : ∃ z, z = w3.heap.size := ⟨_, rfl⟩
  simp only [← hM2]
  have hl2 : M1 + 1 < M2 := by have := bF1.lt; omega
  replace bX := (by rw [← hWX]; exact (bX.alloc _).alloc _ : Blk WX _ _ _)
  replace bM1 := (by rw [← hWX]; exact (bM1.alloc _).alloc _ : Blk WX _ _ _)
  replace bF1 := (by rw [← hWX]; exact (bF1.alloc _).alloc _ : Blk WX _ _ _)
  replace HT1 := hide (by rw [← hWX]; exact (HT1.out.alloc _).alloc _ : MachNew _ WX _ _)
  have bM2 : Blk WX M2 25 #[.int .i64 g2, .slice B2 n2 c2, .slice BF2 nf2 cf2] := by rw [← hWX]; exact (Blk.at_ (by simp [hM2])).alloc _
  have bF2 : Blk WX (M2 + 1) 28 #[.int .i64 p, .int .i64 q] := by rw [← hWX]; exact Blk.at_ (by simp [hM2])
  have HT2 := hide (by rw [← hWX]; exact (hT.alloc _).alloc _ : MachNew _ WX _ _)
  replace hbw : Below w.heap.size w WX := by rw [← hWX]; exact (hbw.alloc hbw.size _).alloc (by have := hbw.size; simp <;> omega) _
  clear hT hWX hM2
  have f1_0 := bF1.cell 0
  have f1_1 := bF1.cell 1
  simp at f1_0 f1_1
  have f1_l := bF1.lt
  have f2_0 := bF2.cell 0
  have f2_1 := bF2.cell 1
  simp at f2_0 f2_1
  have f2_l := bF2.lt
  by_cases hz : validate a = (0, 0)
  · skip
    have hpq := HPQ.out
    rw [hz] at hpq
    obtain ⟨rfl, rfl⟩ : p = 0 ∧ q = 0 := ⟨congrArg Prod.fst hpq, congrArg Prod.snd hpq⟩
    clear hpq
    rw [chR_good' hz] at HT1 HT2
    have hpj := fun h => pj_plain (a := a) (lu := lu) (lo := lo) hz h
    obtain ⟨wx, hwx⟩ : ∃ z, z = wv a lu lo := ⟨_, rfl⟩
    obtain ⟨wy, hwy⟩ : ∃ z, z = wv (chM 2 a) lu lu := ⟨_, rfl⟩
    obtain ⟨wz, hwz⟩ : ∃ z, z = wv (chM 3 a) lo lo := ⟨_, rfl⟩
    have HY := hide (fun (va v1 : Value) (W : World) (B : Nat) (hB : B ≤ W.heap.size) (hM : MachAt W B va (chM 2 a)) (hU : Nums W B v1 lu) => lweight_any va v1 v1 (chM 2 a) lu lu W B hB hM hU hU)
    have HZ := hide (fun (va v1 : Value) (W : World) (B : Nat) (hB : B ≤ W.heap.size) (hM : MachAt W B va (chM 3 a)) (hU : Nums W B v1 lo) => lweight_any va v1 v1 (chM 3 a) lo lo W B hB hM hU hU)
    rw [← hwx] at HW
    rw [← hwy] at HY
    rw [← hwz] at HZ
    rw [← hwx, ← hwy, ← hwz] at hpj
    have HPJ := hide hpj
    clear hz hwx hwy hwz hpj
    have x0 := bX.cell 0
    have x1 := bX.cell 1
    have x2 := bX.cell 2
    simp at x0 x1 x2
    have xl := bX.lt
    go_wp2_with fail
    refine (HW.out _ (by have := hbw.size; omega) (HA.out.below hbw hB) (HU.out.below hbw hB) (HO.out.below hbw hB)).mono ?_
    rintro e w4 ⟨rfl, hb⟩
    clear f1_0 f1_1 f1_l
    clear f2_0 f2_1 f2_l
    clear x0 x1 x2 xl
    replace bX := bX.below hb bX.lt
    replace bM1 := bM1.below hb bM1.lt
    replace bF1 := bF1.below hb bF1.lt
    replace bM2 := bM2.below hb bM2.lt
    replace bF2 := bF2.below hb bF2.lt
    replace HT1 := hide (HT1.out.below hb (Nat.le_refl _))
    replace HT2 := hide (HT2.out.below hb (Nat.le_refl _))
    replace hbw := hbw.trans (hb.mono hbw.size)
    clear hb HW
    have m1_0 := bM1.cell 0
    have m1_1 := bM1.cell 1
    have m1_2 := bM1.cell 2
    simp at m1_0 m1_1 m1_2
    have m1_l := bM1.lt
    have m2_0 := bM2.cell 0
    have m2_1 := bM2.cell 1
    have m2_2 := bM2.cell 2
    simp at m2_0 m2_1 m2_2
    have m2_l := bM2.lt
    go_upto_region 8 with fail
    refine wp_mix (fun w' => w'.cell? ⟨M1, 0, none⟩ = some (.int .i64 g1) ∧ w'.cell? ⟨M1, 1, none⟩ = some (.slice B1 n1 c1) ∧ w'.cell? ⟨M1, 2, none⟩ = some (.slice BF1 nf1 cf1) ∧ w'.cell? ⟨M2, 0, none⟩ = some (.int .i64 g2) ∧ w'.cell? ⟨M2, 1, none⟩ = some (.slice B2 n2 c2) ∧ w'.cell? ⟨M2, 2, none⟩ = some (.slice BF2 nf2 cf2)) 7 [(0, false), (1, false), (2, false), (4, false), (5, false), (6, false), (3, true)] (by kernel_rfl) (by kernel_rfl) ?_ ?_
    · go_simp
    simp only [List.drop_succ_cons, List.drop_zero]
    repeat (refine mix_q (v := ?_) (by rfl) (by rfl) ?_ ?_; rotate_left; (focus (intro w' hC; (try dsimp only at hC); go_simp; (first | done | with_reducible rfl))); simp only [Act.put, List.setIfInBounds_toArray, List.set_cons_zero, List.set_cons_succ, List.getElem_toArray, List.getElem_cons_zero, List.getElem_cons_succ])
    refine mix_l (by rfl) (by rfl) (fun K hK => ?_)
    go_simp
    refine (HY.out _ _ _ _ (Nat.le_refl _) HT1.out.drew.at_ ((HU.out.below hbw.drew hB).mono (by have := hbw.size; simp; omega))).mono ?_
    rintro e w5 ⟨rfl, hb⟩
    replace bM1 := bM1.drew.below hb bM1.drew.lt
    replace bM2 := bM2.drew.below hb bM2.drew.lt
    replace HT2 := hide (HT2.out.drew.below hb (Nat.le_refl _))
    replace hbw := hbw.drew.trans (hb.mono hbw.drew.size)
    clear hb HY HT1
    clear m1_0 m1_1 m1_2 m1_l
    clear m2_0 m2_1 m2_2 m2_l
    have m1_0 := bM1.cell 0
    have m1_1 := bM1.cell 1
    have m1_2 := bM1.cell 2
    simp at m1_0 m1_1 m1_2
    have m1_l := bM1.lt
    have m2_0 := bM2.cell 0
    have m2_1 := bM2.cell 1
    have m2_2 := bM2.cell 2
    simp at m2_0 m2_1 m2_2
    have m2_l := bM2.lt
    refine hK _ _ ⟨m1_0, m1_1, m1_2, m2_0, m2_1, m2_2⟩ ?_
    clear hK K
    refine mix_nil ?_; try simp only [Act.put, List.setIfInBounds_toArray, List.set_cons_zero, List.set_cons_succ, List.getElem_toArray, List.getElem_cons_zero, List.getElem_cons_succ]
    go_wp2_with fail
    refine (HZ.out _ _ _ _ (Nat.le_refl _) HT2.out.at_ ((HO.out.below hbw hB).mono (by have := hbw.size; omega))).mono ?_
    rintro e w6 ⟨rfl, hb⟩
    replace hbw := hbw.trans (hb.mono hbw.size)
    clear hb HZ HT2
    clear m1_0 m1_1 m1_2 m1_l
    clear m2_0 m2_1 m2_2 m2_l
    go_wp2
    refine NoPanic.normal ?_
    by_cases h0 : 0 ≤ wx
    · skip
      obtain ⟨⟨k1, k2⟩, k3, k4⟩ := HPJ.out h0
      have t1 : decide (wx ≥ 0) = true := decide_eq_true h0
      have t1' : decide (0 ≤ wx) = true := decide_eq_true h0
      have t2 : decide (wy < 0) = false := decide_eq_false (by omega)
      have t3 : decide (wy > wx) = false := decide_eq_false (by omega)
      have t3' : decide (wx < wy) = false := decide_eq_false (by omega)
      have t4 : decide (wz < 0) = false := decide_eq_false (by omega)
      have t5 : decide (wz > wx) = false := decide_eq_false (by omega)
      have t5' : decide (wx < wz) = false := decide_eq_false (by omega)
      clear k1 k2 k3 k4 h0 HPJ
      go_wp2
      exact bodyPost_ret (v := .bool true) (by simp [results, Try.results6, go_sem]) rfl ⟨rfl, hbw⟩
    · have t1 : decide (wx ≥ 0) = false := decide_eq_false h0
      have t1' : decide (0 ≤ wx) = false := decide_eq_false h0
      clear h0 HPJ
      go_wp2
      exact bodyPost_ret (v := .bool true) (by simp [results, Try.results6, go_sem]) rfl ⟨rfl, hbw⟩
  · skip
    have hpq := HPQ.out
    have hz0 : fEq p q 0 0 = false := by
      cases e : fEq p q 0 0
      · rfl
      · have e2 : fEq (validate a).1 (validate a).2 0 0 = true := by rw [← hpq]; exact e
        exact absurd (fEq0C.1 e2) hz
    clear hpq
    go_wp2
    exact bodyPost_ret (v := .bool true) (by simp [results, Try.results6, go_sem]) rfl ⟨rfl, hbw⟩
end Go.Proofs.Ytmgpcnkmmgkjgaa
