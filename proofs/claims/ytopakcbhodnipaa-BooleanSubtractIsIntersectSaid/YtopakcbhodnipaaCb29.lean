/- The texts LeW of this proof. No conditions. -/
import Derived.Test.YtopakcbhodnipaaCb16
import Derived.Test.YtopakcbhodnipaaCb8
/- Text LeW. -/
namespace Go.Proofs.Ytopakcbhodnipaa
open Go.RowKit Gm
set_option linter.unusedSimpArgs false
set_option linter.unusedVariables false
set_option maxRecDepth 100000 in
set_option maxHeartbeats 8000000 in
theorem least_any (vl vn vf : Value) (l : List Int) (L : List (List Int)) (F : List Bool) (w : World) (B : Nat) (hB : B ≤ w.heap.size) (hl : Nums w B vl l) (hn : NumsL w B vn L) (hf : Bools w B vf F) :
 Calls Try.prog 15 #[vl, vn, vf] w fun e w' => ∃ v1, e = .returned (.tuple #[v1, .agg #[.int .i64 (leastR l L F).2.1, .int .i64 (leastR l L F).2.2]]) ∧ MachNew w.heap.size w' v1 (leastR l L F).1 ∧ Below w.heap.size w w' := by
 have HHL := hide hl
 have HHN := hide hn
 have HHF := hide hf
 obtain ⟨AL, ql, cl, rfl, HQ, hqc, hqb, hL⟩ := hl
 obtain ⟨AN, n, cn, rfl, HN, hnc, hnb, hR⟩ := hn
 obtain ⟨AF, nf, cf, rfl, HF, hfc, hfb, hFF⟩ := hf
 have HRL := hide hL
 have HRR := hide (show RdL w B AN n L from hR)
 unfold big at hqb hnb hfb
 clear hL hR hFF
 go_enter Try.func15, Try.ntmps15
 go_upto_region 1 with fail
 generalize hW2 : World.alloc _ _ = W2
 have HRM2 := hide (show Blk W2 w.heap.size 28 #[.int .i64 0, .slice none 0 0, .slice none 0 0] by rw [← hW2]; exact (Blk.at_ rfl).alloc _)
 obtain ⟨R, hR⟩ : ∃ z, z = w.heap.size + 1 := ⟨_, rfl⟩
 have HR2 := hide (show Blk W2 R 30 #[.int .i64 0, .int .i64 0] by rw [← hW2]; exact Blk.at_ (by simp [hR]))
 have HB2 := hide (show Below w.heap.size w W2 by rw [← hW2]; go_grown)
 have hwR : w.heap.size < R := by omega
 have lM2 : w.heap.size < W2.heap.size := HRM2.out.lt
 have HRL2 := hide (HRL.out.below HB2.out hB)
 have HRR2 := hide (HRR.out.below HB2.out hB)
 have lR2 : R < W2.heap.size := HR2.out.lt
 simp only [← hR]
 clear hW2 hR HRL HRR
 by_cases h3 : 300 < ql
 ·
  have t1 : decide ((ql : Int) > 300) = true := decide_eq_true (by omega)
  have t1' : decide ((300 : Int) < (ql : Int)) = true := decide_eq_true (by omega)
  have HR := hide (show tblF l L F.length = (2, -1) from tblF_long (by rw [HQ.out]; exact h3))
  have bR := HR2.out
  have bM := HRM2.out
  have HBE := hide HB2.out
  clear h3
  go_wp2_with fail
  refine (dfault_any _ _ _).mono ?_
  rintro e w9 ⟨rfl, hb9⟩
  have bR9 := bR.below hb9 lR2
  have bM9 := bM.below hb9 lM2
  have HB9 := hide (HBE.out.trans (hb9.mono (by omega)))
  have r0 := bR9.cell 0
  have rf0 := bR9.frozen 0
  have r1 := bR9.cell 1
  have rf1 := bR9.frozen 1
  have q0 := bM9.cell 0
  have qf0 := bM9.frozen 0
  have q1 := bM9.cell 1
  have qf1 := bM9.frozen 1
  have q2 := bM9.cell 2
  have qf2 := bM9.frozen 2
  simp at r0 r1 q0 q1 q2
  have lR := bR9.lt
  have lM := bM9.lt
  have hne1 : R ≠ w.heap.size := by omega
  have hne2 : w.heap.size ≠ R := by omega
  clear hb9 bR9 bR HBE bM bM9
  go_wp21
  refine bodyPost_ret (v := .tuple #[.agg #[.int .i64 0, .slice none 0 0, .slice none 0 0], .agg #[.int .i64 2, .int .i64 (-1)]]) (by simp [results, Try.results15, go_sem, lR, lM, hne1, hne2, r0, r1, rf0, rf1, q0, q1, q2, qf0, qf1, qf2]) rfl ?_
  rw [leastR_bad HR.out (by omega)]
  exact ⟨_, rfl, MachNew.empty _ _, ((((HB9.out.setCell (p := ⟨w.heap.size, 0, none⟩) (by exact Nat.le_refl _) (.int .i64 0)).setCell (p := ⟨w.heap.size, 1, none⟩) (by exact Nat.le_refl _) (.slice none 0 0)).setCell (p := ⟨w.heap.size, 2, none⟩) (by exact Nat.le_refl _) (.slice none 0 0)).setCell (p := ⟨R, 0, none⟩) (by show w.heap.size ≤ R; omega) (.int .i64 2)).setCell (p := ⟨R, 1, none⟩) (by show w.heap.size ≤ R; omega) (.int .i64 (-1))⟩
 ·
  have t1 : decide (
   (ql : Int) > 300) = false := decide_eq_false (by omega)
  have t1' : decide ((300 : Int) < (ql : Int)) = false := decide_eq_false (by omega)
  have HL3 := hide (show ¬ 300 < l.length by rw [HQ.out]; exact h3)
  go_upto_region 4 with fail
  clear t1 t1'
  go_loopw [21] (fun iv wr => ∃ k : Nat, k ≤ ql ∧ iv = .int .i64 k ∧ wr = W2 ∧ Hid (∀ j, j < k → labB l j = none)) (fun iv _ => ql - (intOf iv).toNat)
  case atStart => exact ⟨0, by omega, rfl, rfl, hide (fun j hj => by omega)⟩
  case round =>
   obtain ⟨k, hk, rfl, hwr, HALL⟩ := hrel
   have HRK := hide (show Rd wr B 1 AL ql (intCell l) by rw [hwr]; exact HRL2.out)
   have hzr : w.heap.size ≤ wr.heap.size := by rw [hwr]; exact HB2.out.size
   have HWW := hide hwr
   clear hwr
   by_cases hkn : k < ql
   ·
    obtain ⟨bb, off, x, rfl, hbB, d0, HY⟩ := num_at HRK.out hkn
    have hkl : k < l.length := by rw [HQ.out]; exact hkn
    have lb : bb < wr.heap.size := by omega
    by_cases h1 : x < 1
    ·
     have s1 : decide (x < 1) = true := decide_eq_true h1
     have HR := hide (show tblF l L F.length = (3, (k : Int)) from tblF_lab HL3.out hkl HALL.out (by unfold labB; rw [HY.out, if_pos (.inl h1)]))
     have bR := HR2.out
     have bM := HRM2.out
     have HBE := hide HB2.out
     have hww : W2 = wr := HWW.out.symm
     rw [hww] at bR HBE lR2 bM lM2
     clear hww
     clear h1 hkl HY HALL
     go_wp2_with fail
     refine (dfault_any _ _ _).mono ?_
     rintro e w9 ⟨rfl, hb9⟩
     have bR9 := bR.below hb9 lR2
     have bM9 := bM.below hb9 lM2
     have HB9 := hide (HBE.out.trans (hb9.mono (by omega)))
     have r0 := bR9.cell 0
     have rf0 := bR9.frozen 0
     have r1 := bR9.cell 1
     have rf1 := bR9.frozen 1
     have q0 := bM9.cell 0
     have qf0 := bM9.frozen 0
     have q1 := bM9.cell 1
     have qf1 := bM9.frozen 1
     have q2 := bM9.cell 2
     have qf2 := bM9.frozen 2
     simp at r0 r1 q0 q1 q2
     have lR := bR9.lt
     have lM := bM9.lt
     have hne1 : R ≠ w.heap.size := by omega
     have hne2 : w.heap.size ≠ R := by omega
     clear hb9 bR9 bR HBE bM bM9
     go_wp21
     refine bodyPost_ret (v := .tuple #[.agg #[.int .i64 0, .slice none 0 0, .slice none 0 0], .agg #[.int .i64 3, .int .i64 (k : Int)]]) (by simp [results, Try.results15, go_sem, lR, lM, hne1, hne2, r0, r1, rf0, rf1, q0, q1, q2, qf0, qf1, qf2]) rfl ?_
     rw [leastR_bad HR.out (by omega)]
     exact ⟨_, rfl, MachNew.empty _ _, ((((HB9.out.setCell (p := ⟨w.heap.size, 0, none⟩) (by exact Nat.le_refl _) (.int .i64 0)).setCell (p := ⟨w.heap.size, 1, none⟩) (by exact Nat.le_refl _) (.slice none 0 0)).setCell (p := ⟨w.heap.size, 2, none⟩) (by exact Nat.le_refl _) (.slice none 0 0)).setCell (p := ⟨R, 0, none⟩) (by show w.heap.size ≤ R; omega) (.int .i64 3)).setCell (p := ⟨R, 1, none⟩) (by show w.heap.size ≤ R; omega) (.int .i64 (k : Int))⟩
    ·
     by_cases h2 : 1114111 < x
     ·
      have s1 : decide (x < 1) = false := decide_eq_false h1
      have s2 : decide (x > 1114111) = true := decide_eq_true (by omega)
      have s2' : decide (1114111 < x) = true := decide_eq_true h2
      have HR := hide (show tblF l L F.length = (3, (k : Int)) from tblF_lab HL3.out hkl HALL.out (by unfold labB; rw [HY.out, if_pos (.inr h2)]))
      have bR := HR2.out
      have bM := HRM2.out
      have HBE := hide HB2.out
      have hww : W2 = wr := HWW.out.symm
      rw [hww] at bR HBE lR2 bM lM2
      clear hww
      clear h1 h2 hkl HY HALL
      go_wp2_with fail
      refine (dfault_any _ _ _).mono ?_
      rintro e w9 ⟨rfl, hb9⟩
      have bR9 := bR.below hb9 lR2
      have bM9 := bM.below hb9 lM2
      have HB9 := hide (HBE.out.trans (hb9.mono (by omega)))
      have r0 := bR9.cell 0
      have rf0 := bR9.frozen 0
      have r1 := bR9.cell 1
      have rf1 := bR9.frozen 1
      have q0 := bM9.cell 0
      have qf0 := bM9.frozen 0
      have q1 := bM9.cell 1
      have qf1 := bM9.frozen 1
      have q2 := bM9.cell 2
      have qf2 := bM9.frozen 2
      simp at r0 r1 q0 q1 q2
      have lR := bR9.lt
      have lM := bM9.lt
      have hne1 : R ≠ w.heap.size := by omega
      have hne2 : w.heap.size ≠ R := by omega
      clear hb9 bR9 bR HBE bM bM9
      go_wp21
      refine bodyPost_ret (v := .tuple #[.agg #[.int .i64 0, .slice none 0 0, .slice none 0 0], .agg #[.int .i64 3, .int .i64 (k : Int)]]) (by simp [results, Try.results15, go_sem, lR, lM, hne1, hne2, r0, r1, rf0, rf1, q0, q1, q2, qf0, qf1, qf2]) rfl ?_
      rw [leastR_bad HR.out (by omega)]
      exact ⟨_, rfl, MachNew.empty _ _, ((((HB9.out.setCell (p := ⟨w.heap.size, 0, none⟩) (by exact Nat.le_refl _) (.int .i64 0)).setCell (p := ⟨w.heap.size, 1, none⟩) (by exact Nat.le_refl _) (.slice none 0 0)).setCell (p := ⟨w.heap.size, 2, none⟩) (by exact Nat.le_refl _) (.slice none 0 0)).setCell (p := ⟨R, 0, none⟩) (by show w.heap.size ≤ R; omega) (.int .i64 3)).setCell (p := ⟨R, 1, none⟩) (by show w.heap.size ≤ R; omega) (.int .i64 (k : Int))⟩
     ·
      have s1 : decide (x < 1) = false := decide_eq_false h1
      have s2 : decide (x > 1114111) = false := decide_eq_false (by omega)
      have s2' : decide (1114111 < x) = false := decide_eq_false h2
      rcases Nat.eq_zero_or_pos k with hk0 | hk0
      ·
       have HNX := hide (show ∀ j, j < k + 1 → labB l j = none from fun j hj => by
        have : j = k := by omega
        subst this
        unfold labB
        rw [HY.out, if_neg (by omega), if_neg (by omega)])
       have s3 : decide ((k : Int) > 0) = false := decide_eq_false (by omega)
       have s3' : decide ((0 : Int) < (k : Int)) = false := decide_eq_false (by omega)
       have hg : decide (0 < k) = false := decide_eq_false (by omega)
       have HK0 := hide hk0
       clear h1 h2 hkl HY HALL hk0
       go_wp2
       go_roundw
       case rel => exact ⟨k + 1, by omega, by go_num, HWW.out, HNX⟩
       case measure => simp [intOf]; omega
      ·
       obtain ⟨j, rfl⟩ : ∃ j, k = j + 1 := ⟨k - 1, by omega⟩
       obtain ⟨bb', off', y, hA', _, d1, HZ⟩ := num_at HRK.out (show j < ql by omega)
       simp only [Option.some.injEq, Addr.mk.injEq, and_true] at hA'
       obtain ⟨rfl, rfl⟩ := hA'
       have j0 : (0 : Int) ≤ (j : Int) := by omega
       have j1 : (j : Int) < (ql : Int) := by omega
       have hsub : ((j + 1 : Nat) : Int) - 1 = (j : Int) := by omega
       have s3 : decide (((j + 1 : Nat) : Int) > 0) = true := decide_eq_true (by omega)
       have s3' : decide ((0 : Int) < ((j + 1 : Nat) : Int)) = true := decide_eq_true (by omega)
       by_cases h4 : x ≤ y
       ·
        have s4 : decide (y ≥ x) = true := decide_eq_true h4
        have s4' : decide (x ≤ y) = true := decide_eq_true h4
        have HR := hide (show tblF l L F.length = (13, ((j + 1 : Nat) : Int)) from tblF_lab HL3.out hkl HALL.out (by unfold labB; rw [HY.out, if_neg (by omega), show j + 1 - 1 = j by omega, HZ.out, if_pos ⟨by omega, h4⟩]))
        have bR := HR2.out
        have bM := HRM2.out
        have HBE := hide HB2.out
        have hww : W2 = wr := HWW.out.symm
        rw [hww] at bR HBE lR2 bM lM2
        clear hww
        clear h1 h2 h4 hkl HY HZ HALL
        go_wp2_with fail
        refine (dfault_any _ _ _).mono ?_
        rintro e w9 ⟨rfl, hb9⟩
        have bR9 := bR.below hb9 lR2
        have bM9 := bM.below hb9 lM2
        have HB9 := hide (HBE.out.trans (hb9.mono (by omega)))
        have r0 := bR9.cell 0
        have rf0 := bR9.frozen 0
        have r1 := bR9.cell 1
        have rf1 := bR9.frozen 1
        have q0 := bM9.cell 0
        have qf0 := bM9.frozen 0
        have q1 := bM9.cell 1
        have qf1 := bM9.frozen 1
        have q2 := bM9.cell 2
        have qf2 := bM9.frozen 2
        simp at r0 r1 q0 q1 q2
        have lR := bR9.lt
        have lM := bM9.lt
        have hne1 : R ≠ w.heap.size := by omega
        have hne2 : w.heap.size ≠ R := by omega
        clear hb9 bR9 bR HBE bM bM9
        go_wp21
        refine bodyPost_ret (v := .tuple #[.agg #[.int .i64 0, .slice none 0 0, .slice none 0 0], .agg #[.int .i64 13, .int .i64 ((j + 1 : Nat) : Int)]]) (by simp [results, Try.results15, go_sem, lR, lM, hne1, hne2, r0, r1, rf0, rf1, q0, q1, q2, qf0, qf1, qf2]) rfl ?_
        rw [leastR_bad HR.out (by omega)]
        exact ⟨_, rfl, MachNew.empty _ _, ((((HB9.out.setCell (p := ⟨w.heap.size, 0, none⟩) (by exact Nat.le_refl _) (.int .i64 0)).setCell (p := ⟨w.heap.size, 1, none⟩) (by exact Nat.le_refl _) (.slice none 0 0)).setCell (p := ⟨w.heap.size, 2, none⟩) (by exact Nat.le_refl _) (.slice none 0 0)).setCell (p := ⟨R, 0, none⟩) (by show w.heap.size ≤ R; omega) (.int .i64 13)).setCell (p := ⟨R, 1, none⟩) (by show w.heap.size ≤ R; omega) (.int .i64 ((j + 1 : Nat) : Int))⟩
       ·
        have s4 : decide (y ≥ x) = false := decide_eq_false h4
        have s4' : decide (x ≤ y) = false := decide_eq_false h4
        have HNX := hide (show ∀ i, i < j + 1 + 1 → labB l i = none from fun i hi => by
         by_cases g : i = j + 1
         ·
          subst g
          unfold labB
          rw [HY.out, if_neg (by omega), show j + 1 - 1 = j by omega, HZ.out, if_neg (by omega)]
         · exact HALL.out i (by omega))
        clear h1 h2 h4 hkl HY HZ HALL
        go_wp2
        go_roundw
        case rel => exact ⟨j + 1 + 1, by omega, by go_num, HWW.out, HNX⟩
        case measure => simp [intOf]; omega
   ·
    obtain rfl : ql = k := by omega
    have HLB := hide (show ∀ j, j < l.length → labB l j = none from fun j hj => HALL.out j (by rw [← HQ.out]; exact hj))
    have hww : wr = W2 := HWW.out
    subst hww
    clear HALL HRK HWW
    by_cases hn2 : 20000 < n
    ·
     have t2 : decide ((n : Int) > 20000) = true := decide_eq_true (by omega)
     have t2' : decide ((20000 : Int) < (n : Int)) = true := decide_eq_true (by omega)
     have HR := hide (show tblF l L F.length = (2, -2) from tblF_many HL3.out HLB.out (by rw [HN.out]; exact hn2))
     have bR := HR2.out
     have bM := HRM2.out
     have HBE := hide HB2.out
     clear hn2
     go_wp2_with fail
     refine (dfault_any _ _ _).mono ?_
     rintro e w9 ⟨rfl, hb9⟩
     have bR9 := bR.below hb9 lR2
     have bM9 := bM.below hb9 lM2
     have HB9 := hide (HBE.out.trans (hb9.mono (by omega)))
     have r0 := bR9.cell 0
     have rf0 := bR9.frozen 0
     have r1 := bR9.cell 1
     have rf1 := bR9.frozen 1
     have q0 := bM9.cell 0
     have qf0 := bM9.frozen 0
     have q1 := bM9.cell 1
     have qf1 := bM9.frozen 1
     have q2 := bM9.cell 2
     have qf2 := bM9.frozen 2
     simp at r0 r1 q0 q1 q2
     have lR := bR9.lt
     have lM := bM9.lt
     have hne1 : R ≠ w.heap.size := by omega
     have hne2 : w.heap.size ≠ R := by omega
     clear hb9 bR9 bR HBE bM bM9
     go_wp21
     refine bodyPost_ret (v := .tuple #[.agg #[.int .i64 0, .slice none 0 0, .slice none 0 0], .agg #[.int .i64 2, .int .i64 (-2)]]) (by simp [results, Try.results15, go_sem, lR, lM, hne1, hne2, r0, r1, rf0, rf1, q0, q1, q2, qf0, qf1, qf2]) rfl ?_
     rw [leastR_bad HR.out (by omega)]
     exact ⟨_, rfl, MachNew.empty _ _, ((((HB9.out.setCell (p := ⟨w.heap.size, 0, none⟩) (by exact Nat.le_refl _) (.int .i64 0)).setCell (p := ⟨w.heap.size, 1, none⟩) (by exact Nat.le_refl _) (.slice none 0 0)).setCell (p := ⟨w.heap.size, 2, none⟩) (by exact Nat.le_refl _) (.slice none 0 0)).setCell (p := ⟨R, 0, none⟩) (by show w.heap.size ≤ R; omega) (.int .i64 2)).setCell (p := ⟨R, 1, none⟩) (by show w.heap.size ≤ R; omega) (.int .i64 (-2))⟩
    ·
     have t2 : decide ((n : Int) > 20000) = false := decide_eq_false (by omega)
     have t2' : decide ((20000 : Int) < (n : Int)) = false := decide_eq_false (by omega)
     have HN2 := hide (show ¬ 20000 < L.length by rw [HN.out]; exact hn2)
     obtain ⟨W2, hW2⟩ : ∃ z, z = wr := ⟨_, rfl⟩
     rw [← hW2] at HR2 HB2 HRL2 HRR2 lR2 lM2 HRM2 ⊢
     clear hW2
     go_upto_region 14 with fail
     clear t2 t2'
     go_loopw [57] (fun iv wr => ∃ i : Nat, i ≤ n ∧ iv = .int .i64 i ∧ wr = W2 ∧ Hid (∀ j, j < i → rowB l.length L.length L j = none)) (fun iv _ => n - (intOf iv).toNat)
     case atStart => exact ⟨0, by omega, rfl, rfl, hide (fun j hj => by omega)⟩
     case round =>
      obtain ⟨i, hi, rfl, hwr, HALL⟩ := hrel
      have HRK := hide (show RdL wr B AN n L by rw [hwr]; exact HRR2.out)
      have hzr : w.heap.size ≤ wr.heap.size := by rw [hwr]; exact HB2.out.size
      have HWW := hide hwr
      clear hwr
      by_cases hin : i < n
      ·
       obtain ⟨b1, o1, A1, n1, c1, rw1, rfl, hb1, d1, HR1, HL1, hc1, hn1b, hrd1⟩ := row_at HRK.out hin
       have hil : i < L.length := by rw [HN.out]; exact hin
       have lb1 : b1 < wr.heap.size := by omega
       have HRD1 := hide hrd1
       unfold big at hn1b
       clear hrd1
       by_cases hlen : n1 = ql
       ·
        have HLN := hide hlen
        have t3 : ((n1 : Int) != (ql : Int)) = false := by simp; omega
        have t3' : ((n1 : Int) == (ql : Int)) = true := by simp; omega
        subst hlen
        obtain ⟨W3, hW3⟩ : ∃ z, z = wr := ⟨_, rfl⟩
        rw [← hW3] at HRK hzr HWW lb1 HRD1 d1 ⊢
        clear hW3
        go_upto_region 19 with fail
        clear t3 t3' d1
        go_loopw [72] (fun jv wr => ∃ j : Nat, j ≤ n1 ∧ jv = .int .i64 j ∧ wr = W3 ∧ Hid (∀ t ∈ rw1.take j, -1 ≤ t ∧ t < (n : Int))) (fun jv _ => n1 - (intOf jv).toNat)
        case atStart => exact ⟨0, by omega, rfl, rfl, hide (fun t ht => by simp at ht)⟩
        case round =>
         obtain ⟨j, hj, rfl, hwr, HT⟩ := hrel
         have HRD2 := hide (show Rd wr B 1 A1 n1 (intCell rw1) by rw [hwr]; exact HRD1.out)
         have hzr2 : w.heap.size ≤ wr.heap.size := by rw [hwr]; exact hzr
         have HW3 := hide hwr
         clear hwr
         by_cases hjn : j < n1
         ·
          obtain ⟨b2, o2, t, rfl, hb2, d2, HY⟩ := num_at HRD2.out hjn
          have hjl : j < rw1.length := by rw [HL1.out]; exact hjn
          have lb2 : b2 < wr.heap.size := by omega
          have HTK := hide (take_snoc hjl HY.out)
          have hmem : t ∈ rw1 := by rw [← HY.out]; simp [List.getD, hjl]
          by_cases h1 : t < -1
          ·
           have s1 : decide (t < -1) = true := decide_eq_true h1
           have HR := hide (show tblF l L F.length = (3, (i : Int)) from tblF_row HL3.out HLB.out HN2.out hil HALL.out (by
            unfold rowB
            rw [HR1.out, if_neg (by rw [HL1.out, HQ.out]; simp), if_neg (fun h => by have := (h t hmem).1; omega)]))
           have HWW := hide (HW3.out.trans HWW.out)
           have bR := HR2.out
           have bM := HRM2.out
           have HBE := hide HB2.out
           have hww : W2 = wr := HWW.out.symm
           rw [hww] at bR HBE lR2 bM lM2
           clear hww
           clear h1 hjl HY HALL HT HTK hmem HW3 hil
           go_wp2_with fail
           refine (dfault_any _ _ _).mono ?_
           rintro e w9 ⟨rfl, hb9⟩
           have bR9 := bR.below hb9 lR2
           have bM9 := bM.below hb9 lM2
           have HB9 := hide (HBE.out.trans (hb9.mono (by omega)))
           have r0 := bR9.cell 0
           have rf0 := bR9.frozen 0
           have r1 := bR9.cell 1
           have rf1 := bR9.frozen 1
           have q0 := bM9.cell 0
           have qf0 := bM9.frozen 0
           have q1 := bM9.cell 1
           have qf1 := bM9.frozen 1
           have q2 := bM9.cell 2
           have qf2 := bM9.frozen 2
           simp at r0 r1 q0 q1 q2
           have lR := bR9.lt
           have lM := bM9.lt
           have hne1 : R ≠ w.heap.size := by omega
           have hne2 : w.heap.size ≠ R := by omega
           clear hb9 bR9 bR HBE bM bM9
           go_wp21
           refine bodyPost_ret (v := .tuple #[.agg #[.int .i64 0, .slice none 0 0, .slice none 0 0], .agg #[.int .i64 3, .int .i64 (i : Int)]]) (by simp [results, Try.results15, go_sem, lR, lM, hne1, hne2, r0, r1, rf0, rf1, q0, q1, q2, qf0, qf1, qf2]) rfl ?_
           rw [leastR_bad HR.out (by omega)]
           exact ⟨_, rfl, MachNew.empty _ _, ((((HB9.out.setCell (p := ⟨w.heap.size, 0, none⟩) (by exact Nat.le_refl _) (.int .i64 0)).setCell (p := ⟨w.heap.size, 1, none⟩) (by exact Nat.le_refl _) (.slice none 0 0)).setCell (p := ⟨w.heap.size, 2, none⟩) (by exact Nat.le_refl _) (.slice none 0 0)).setCell (p := ⟨R, 0, none⟩) (by show w.heap.size ≤ R; omega) (.int .i64 3)).setCell (p := ⟨R, 1, none⟩) (by show w.heap.size ≤ R; omega) (.int .i64 (i : Int))⟩
          ·
           by_cases h2 : (n : Int) ≤ t
           ·
            have s1 : decide (t < -1) = false := decide_eq_false h1
            have s2 : decide (t ≥ (n : Int)) = true := decide_eq_true h2
            have s2' : decide ((n : Int) ≤ t) = true := decide_eq_true h2
            have HR := hide (show tblF l L F.length = (3, (i : Int)) from tblF_row HL3.out HLB.out HN2.out hil HALL.out (by
             unfold rowB
             rw [HR1.out, if_neg (by rw [HL1.out, HQ.out]; simp), if_neg (fun h => by have := (h t hmem).2; rw [HN.out] at this; omega)]))
            have HWW := hide (HW3.out.trans HWW.out)
            have bR := HR2.out
            have bM := HRM2.out
            have HBE := hide HB2.out
            have hww : W2 = wr := HWW.out.symm
            rw [hww] at bR HBE lR2 bM lM2
            clear hww
            clear h1 h2 hjl HY HALL HT HTK hmem HW3 hil
            go_wp2_with fail
            refine (dfault_any _ _ _).mono ?_
            rintro e w9 ⟨rfl, hb9⟩
            have bR9 := bR.below hb9 lR2
            have bM9 := bM.below hb9 lM2
            have HB9 := hide (HBE.out.trans (hb9.mono (by omega)))
            have r0 := bR9.cell 0
            have rf0 := bR9.frozen 0
            have r1 := bR9.cell 1
            have rf1 := bR9.frozen 1
            have q0 := bM9.cell 0
            have qf0 := bM9.frozen 0
            have q1 := bM9.cell 1
            have qf1 := bM9.frozen 1
            have q2 := bM9.cell 2
            have qf2 := bM9.frozen 2
            simp at r0 r1 q0 q1 q2
            have lR := bR9.lt
            have lM := bM9.lt
            have hne1 : R ≠ w.heap.size := by omega
            have hne2 : w.heap.size ≠ R := by omega
            clear hb9 bR9 bR HBE bM bM9
            go_wp21
            refine bodyPost_ret (v := .tuple #[.agg #[.int .i64 0, .slice none 0 0, .slice none 0 0], .agg #[.int .i64 3, .int .i64 (i : Int)]]) (by simp [results, Try.results15, go_sem, lR, lM, hne1, hne2, r0, r1, rf0, rf1, q0, q1, q2, qf0, qf1, qf2]) rfl ?_
            rw [leastR_bad HR.out (by omega)]
            exact ⟨_, rfl, MachNew.empty _ _, ((((HB9.out.setCell (p := ⟨w.heap.size, 0, none⟩) (by exact Nat.le_refl _) (.int .i64 0)).setCell (p := ⟨w.heap.size, 1, none⟩) (by exact Nat.le_refl _) (.slice none 0 0)).setCell (p := ⟨w.heap.size, 2, none⟩) (by exact Nat.le_refl _) (.slice none 0 0)).setCell (p := ⟨R, 0, none⟩) (by show w.heap.size ≤ R; omega) (.int .i64 3)).setCell (p := ⟨R, 1, none⟩) (by show w.heap.size ≤ R; omega) (.int .i64 (i : Int))⟩
           ·
            have s1 : decide (t < -1) = false := decide_eq_false h1
            have s2 : decide (t ≥ (n : Int)) = false := decide_eq_false h2
            have s2' : decide ((n : Int) ≤ t) = false := decide_eq_false h2
            have HTN := hide (show ∀ z ∈ rw1.take (j + 1), -1 ≤ z ∧ z < (n : Int) from fun z hz => by
             rw [HTK.out] at hz
             rcases List.mem_append.1 hz with hz | hz
             · exact HT.out z hz
             · rw [List.mem_singleton.1 hz]; omega)
            clear h1 h2 hjl HY HT HTK hmem
            go_wp2
            go_roundw
            case rel => exact ⟨j + 1, by omega, by go_num, HW3.out, HTN⟩
            case measure => simp [intOf]; omega
         ·
          obtain rfl : n1 = j := by omega
          have HNX := hide (show ∀ j, j < i + 1 → rowB l.length L.length L j = none from fun j hj => by
           by_cases g : j = i
           ·
            subst g
            unfold rowB
            rw [HR1.out, if_neg (by rw [HL1.out, HQ.out]; simp), if_pos]
            intro z hz
            rw [HN.out]
            exact HT.out z (by rw [List.take_of_length_le (by rw [HL1.out]; exact Nat.le_refl _)]; exact hz)
           · exact HALL.out j (by omega))
          clear HALL HT hil
          go_wp2
          go_roundw
          case rel => exact ⟨i + 1, by omega, by go_num, HW3.out.trans HWW.out, HNX⟩
          case measure => simp [intOf]; omega
       ·
        have t3 : ((n1 : Int) != (ql : Int)) = true := by simp; omega
        have t3' : ((n1 : Int) == (ql : Int)) = false := by simp; omega
        have HR := hide (show tblF l L F.length = (9, (i : Int)) from tblF_row HL3.out HLB.out HN2.out hil HALL.out (by
         unfold rowB
         rw [HR1.out, if_pos (by rw [HL1.out, HQ.out]; exact hlen)]))
        have bR := HR2.out
        have bM := HRM2.out
        have HBE := hide HB2.out
        have hww : W2 = wr := HWW.out.symm
        rw [hww] at bR HBE lR2 bM lM2
        clear hww
        clear hlen hil HALL
        go_wp2_with fail
        refine (dfault_any _ _ _).mono ?_
        rintro e w9 ⟨rfl, hb9⟩
        have bR9 := bR.below hb9 lR2
        have bM9 := bM.below hb9 lM2
        have HB9 := hide (HBE.out.trans (hb9.mono (by omega)))
        have r0 := bR9.cell 0
        have rf0 := bR9.frozen 0
        have r1 := bR9.cell 1
        have rf1 := bR9.frozen 1
        have q0 := bM9.cell 0
        have qf0 := bM9.frozen 0
        have q1 := bM9.cell 1
        have qf1 := bM9.frozen 1
        have q2 := bM9.cell 2
        have qf2 := bM9.frozen 2
        simp at r0 r1 q0 q1 q2
        have lR := bR9.lt
        have lM := bM9.lt
        have hne1 : R ≠ w.heap.size := by omega
        have hne2 : w.heap.size ≠ R := by omega
        clear hb9 bR9 bR HBE bM bM9
        go_wp21
        refine bodyPost_ret (v := .tuple #[.agg #[.int .i64 0, .slice none 0 0, .slice none 0 0], .agg #[.int .i64 9, .int .i64 (i : Int)]]) (by simp [results, Try.results15, go_sem, lR, lM, hne1, hne2, r0, r1, rf0, rf1, q0, q1, q2, qf0, qf1, qf2]) rfl ?_
        rw [leastR_bad HR.out (by omega)]
        exact ⟨_, rfl, MachNew.empty _ _, ((((HB9.out.setCell (p := ⟨w.heap.size, 0, none⟩) (by exact Nat.le_refl _) (.int .i64 0)).setCell (p := ⟨w.heap.size, 1, none⟩) (by exact Nat.le_refl _) (.slice none 0 0)).setCell (p := ⟨w.heap.size, 2, none⟩) (by exact Nat.le_refl _) (.slice none 0 0)).setCell (p := ⟨R, 0, none⟩) (by show w.heap.size ≤ R; omega) (.int .i64 9)).setCell (p := ⟨R, 1, none⟩) (by show w.heap.size ≤ R; omega) (.int .i64 (i : Int))⟩
      ·
       obtain rfl : n = i := by omega
       have HRB := hide (show ∀ j, j < L.length → rowB l.length L.length L j = none from fun j hj => HALL.out j (by rw [← HN.out]; exact hj))
       clear HALL HRK
       by_cases hfn : nf = n
       ·
        have HR := hide (show tblF l L F.length = (0, 0) by rw [tblF_end HL3.out HLB.out HN2.out HRB.out, if_neg (by rw [HF.out, HN.out]; omega)])
        have t4 : ((nf : Int) != (n : Int)) = false := by simp; omega
        have t4' : ((nf : Int) == (n : Int)) = true := by simp; omega
        have bR := HR2.out
        have HBE := hide HB2.out
        have HLE := HWW.out
        rw [← HLE] at bR HBE lR2
        clear hfn
        have bM := HRM2.out
        rw [← HLE] at bM lM2
        have HSO := hide (tblF_zero (by rw [HR.out])).2.sm
        have HHL3 := hide (HHL.out.below HBE.out hB)
        have HHN3 := hide (HHN.out.below HBE.out hB)
        have HHF3 := hide (HHF.out.below HBE.out hB)
        have hB3 : B ≤ wr.heap.size := by omega
        clear HLE HWW
        go_wp2_with fail
        refine (smallest_any _ _ _ l L F _ B hB3 HHL3.out HHN3.out HHF3.out HSO.out).mono ?_
        rintro e w9 ⟨v1, rfl, hnew, hb9⟩
        obtain ⟨A9, AF9, n9, c9, nf9, cf9, rfl, _⟩ := hnew.at_
        have bR9 := bR.below hb9 lR2
        have bM9 := bM.below hb9 lM2
        have HB9 := hide (HBE.out.trans (hb9.mono hzr))
        have r0 := bR9.cell 0
        have r1 := bR9.cell 1
        have rf0 := bR9.frozen 0
        have rf1 := bR9.frozen 1
        have q0 := bM9.cell 0
        have q1 := bM9.cell 1
        have q2 := bM9.cell 2
        have qf0 := bM9.frozen 0
        have qf1 := bM9.frozen 1
        have qf2 := bM9.frozen 2
        simp at r0 r1 q0 q1 q2
        have lR := bR9.lt
        have lM := bM9.lt
        have hne1 : R ≠ w.heap.size := by omega
        have hne2 : w.heap.size ≠ R := by omega
        obtain ⟨g9, hg9⟩ : ∃ z, z = (limR (canT l L F)).1.n := ⟨_, rfl⟩
        obtain ⟨f1, hf1⟩ : ∃ z, z = (limR (canT l L F)).2.1 := ⟨_, rfl⟩
        obtain ⟨f2, hf2⟩ : ∃ z, z = (limR (canT l L F)).2.2 := ⟨_, rfl⟩
        rw [← hg9] at hnew
        simp only [← hg9, ← hf1, ← hf2]
        have HF1 := hide hf1
        have HF2 := hide hf2
        have HNW := hide (((((hnew.set (p := ⟨w.heap.size, 0, none⟩) (by show w.heap.size < wr.heap.size; omega) (.int .i64 g9)).set (p := ⟨w.heap.size, 1, none⟩) (by show w.heap.size < wr.heap.size; omega) (.slice A9 n9 c9)).set (p := ⟨w.heap.size, 2, none⟩) (by show w.heap.size < wr.heap.size; omega) (.slice AF9 nf9 cf9)).set (p := ⟨R, 0, none⟩) (by show R < wr.heap.size; omega) (.int .i64 f1)).set (p := ⟨R, 1, none⟩) (by show R < wr.heap.size; omega) (.int .i64 f2))
        have HB10 := hide (((((HB9.out.setCell (p := ⟨w.heap.size, 0, none⟩) (by exact Nat.le_refl _) (.int .i64 g9)).setCell (p := ⟨w.heap.size, 1, none⟩) (by exact Nat.le_refl _) (.slice A9 n9 c9)).setCell (p := ⟨w.heap.size, 2, none⟩) (by exact Nat.le_refl _) (.slice AF9 nf9 cf9)).setCell (p := ⟨R, 0, none⟩) (by show w.heap.size ≤ R; omega) (.int .i64 f1)).setCell (p := ⟨R, 1, none⟩) (by show w.heap.size ≤ R; omega) (.int .i64 f2))
        clear hb9 hnew bR9 bM9 bR bM HBE hg9 hf1 hf2 HB9
        go_wp21
        refine bodyPost_ret (v := .tuple #[.agg #[.int .i64 g9, .slice A9 n9 c9, .slice AF9 nf9 cf9], .agg #[.int .i64 f1, .int .i64 f2]]) (by simp [results, Try.results15, go_sem, lR, lM, hne1, hne2, r0, r1, rf0, rf1, q0, q1, q2, qf0, qf1, qf2]) rfl ?_
        rw [leastR_ok HR.out, ← HF1.out, ← HF2.out]
        exact ⟨_, rfl, HNW.out.mono hzr, HB10.out⟩
       ·
        have HR := hide (show tblF l L F.length = (9, -3) by rw [tblF_end HL3.out HLB.out HN2.out HRB.out, if_pos (by rw [HF.out, HN.out]; exact hfn)])
        have t4 : ((nf : Int) != (n : Int)) = true := by simp; omega
        have t4' : ((nf : Int) == (n : Int)) = false := by simp; omega
        have bR := HR2.out
        have bM := HRM2.out
        have HBE := hide HB2.out
        have hww : W2 = wr := HWW.out.symm
        rw [hww] at bR HBE lR2 bM lM2
        clear hww
        clear hfn
        go_wp2_with fail
        refine (dfault_any _ _ _).mono ?_
        rintro e w9 ⟨rfl, hb9⟩
        have bR9 := bR.below hb9 lR2
        have bM9 := bM.below hb9 lM2
        have HB9 := hide (HBE.out.trans (hb9.mono (by omega)))
        have r0 := bR9.cell 0
        have rf0 := bR9.frozen 0
        have r1 := bR9.cell 1
        have rf1 := bR9.frozen 1
        have q0 := bM9.cell 0
        have qf0 := bM9.frozen 0
        have q1 := bM9.cell 1
        have qf1 := bM9.frozen 1
        have q2 := bM9.cell 2
        have qf2 := bM9.frozen 2
        simp at r0 r1 q0 q1 q2
        have lR := bR9.lt
        have lM := bM9.lt
        have hne1 : R ≠ w.heap.size := by omega
        have hne2 : w.heap.size ≠ R := by omega
        clear hb9 bR9 bR HBE bM bM9
        go_wp21
        refine bodyPost_ret (v := .tuple #[.agg #[.int .i64 0, .slice none 0 0, .slice none 0 0], .agg #[.int .i64 9, .int .i64 (-3)]]) (by simp [results, Try.results15, go_sem, lR, lM, hne1, hne2, r0, r1, rf0, rf1, q0, q1, q2, qf0, qf1, qf2]) rfl ?_
        rw [leastR_bad HR.out (by omega)]
        exact ⟨_, rfl, MachNew.empty _ _, ((((HB9.out.setCell (p := ⟨w.heap.size, 0, none⟩) (by exact Nat.le_refl _) (.int .i64 0)).setCell (p := ⟨w.heap.size, 1, none⟩) (by exact Nat.le_refl _) (.slice none 0 0)).setCell (p := ⟨w.heap.size, 2, none⟩) (by exact Nat.le_refl _) (.slice none 0 0)).setCell (p := ⟨R, 0, none⟩) (by show w.heap.size ≤ R; omega) (.int .i64 9)).setCell (p := ⟨R, 1, none⟩) (by show w.heap.size ≤ R; omega) (.int .i64 (-3))⟩
end Go.Proofs.Ytopakcbhodnipaa
