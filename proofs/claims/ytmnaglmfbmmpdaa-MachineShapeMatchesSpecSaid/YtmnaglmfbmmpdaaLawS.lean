/- The law MachineShapeMatchesSpec, walked: it returns true. -/
import Derived.Test.YtmnaglmfbmmpdaaEx
import Derived.Test.YtmnaglmfbmmpdaaTrd
import Derived.Test.YtmnaglmfbmmpdaaMF
namespace Go.Proofs.Ytmnaglmfbmmpdaa
open Go.RowKit Gm
set_option linter.unusedSimpArgs false
theorem vneg_any (v : Value) (w : World) (hv : v = .agg #[.int .i64 (-1), .slice none 0 0, .slice none 0 0]) :
    Calls Try.prog 6 #[v] w fun e w' => e = .returned (.agg #[.int .i64 3, .int .i64 (-1)]) ∧ Below w.heap.size w w' := by
  subst hv
  have := validate_any (.agg #[.int .i64 (-1), .slice none 0 0, .slice none 0 0]) ⟨-1, [], []⟩ w w.heap.size (Nat.le_refl _) ⟨none, none, 0, 0, 0, 0, rfl, hide rfl, hide rfl, Nat.le_refl _, Nat.le_refl _, by simp [big], by simp [big], Rd.zero, Rd.zero⟩
  exact this
set_option maxRecDepth 100000 in
set_option maxHeartbeats 2000000 in
theorem shape_any (v : Value) (m : Mach) (w : World) (B : Nat) (hB : B ≤ w.heap.size) (h : MachAt w B v m) :
    Calls Try.prog 3 #[v] w fun e w' => e = .returned (.bool true) ∧ Below w.heap.size w w' := by
  have H0 := hide h
  obtain ⟨A, AF, n, c, nf, cf, rfl, HN, HF, hnc, hnfc, hnb, hnfb, hA, hF⟩ := h
  clear hnb hnfb hA hF HN HF
  have he := fun a b c d W => run_neq_fault a b c d W
  have hf : fEq 3 (-1) 3 (-1) = true := rfl
  go_enter Try.func3, Try.ntmps3
  go_wp2_with fail
  refine (trimmed_ex _).mono ?_
  rintro e w1 ⟨rfl, hb1⟩
  have bX := (Blk.at_ (w := w) (g := w.heap.size) (t := 25) (cs := #[.int .i64 m.n, .slice A n c, .slice AF nf cf]) rfl).below hb1 (by simp)
  have hbw : Below w.heap.size w w1 := Below.trans (by go_grown) (hb1.mono (by simp))
  clear hb1
  go_wp2_with fail
  refine (vneg_any _ _ rfl).mono ?_
  rintro e w2 ⟨rfl, hb2⟩
  have bX := bX.below hb2 bX.lt
  have hbw := hbw.trans (hb2.mono hbw.size)
  clear hb2
  have x0 := bX.cell 0
  have x1 := bX.cell 1
  have x2 := bX.cell 2
  simp at x0 x1 x2
  have xl := bX.lt
  go_wp2_with fail
  refine (mfault_spec _ m _ B (by have := hbw.size; omega) (H0.out.below hbw hB)).mono ?_
  rintro e w3 ⟨rfl, hb3⟩
  have bX := bX.below hb3 bX.lt
  have hbw := hbw.trans (hb3.mono hbw.size)
  clear hb3 x0 x1 x2 xl
  have bX := bX.alloc (Obj.cells #[.int .i64 (validate m).1, .int .i64 (validate m).2] 28)
  have x0 := bX.cell 0
  have x1 := bX.cell 1
  have x2 := bX.cell 2
  simp at x0 x1 x2
  have xl := bX.lt
  have bF := Blk.at_ (w := w3) (g := w3.heap.size) (t := 28) (cs := #[.int .i64 (validate m).1, .int .i64 (validate m).2]) rfl
  have hs3 := hbw.size
  have hbw := hbw.alloc hbw.size (Obj.cells #[.int .i64 (validate m).1, .int .i64 (validate m).2] 28)
  go_wp2_with fail
  refine (trim_any _ m _ B (by simp; omega) (H0.out.below hbw hB)).mono ?_
  rintro e w4 ⟨v1, rfl, hM, hb4⟩
  obtain ⟨A1, n1, c1, AF1, nf1, cf1, rfl⟩ := agg_of hM
  have HM := hide hM
  clear hM x0 x1 x2 xl
  have bX := bX.below hb4 bX.lt
  have bF := bF.below hb4 bF.lt
  have hbw := hbw.trans (hb4.mono hbw.size)
  have hs4 := hb4.size
  simp at hs4
  clear hb4
  obtain ⟨w5, hw5⟩ : ∃ w5 : World, w5 = (w4.alloc (Obj.cells #[.int .i64 (trimAns m).n, .slice A1 n1 c1, .slice AF1 nf1 cf1] 25)).alloc (Obj.cells #[.int .i64 (validate m).1, .int .i64 (validate m).2] 28) := ⟨_, rfl⟩
  have bX5 : Blk w5 w.heap.size 25 #[.int .i64 m.n, .slice A n c, .slice AF nf cf] := by rw [hw5]; exact (bX.alloc _).alloc _
  have bF5 : Blk w5 w3.heap.size 28 #[.int .i64 (validate m).1, .int .i64 (validate m).2] := by rw [hw5]; exact (bF.alloc _).alloc _
  have bT5 : Blk w5 w4.heap.size 25 #[.int .i64 (trimAns m).n, .slice A1 n1 c1, .slice AF1 nf1 cf1] := by rw [hw5]; exact (Blk.at_ rfl).alloc _
  have bG5 : Blk w5 (w4.heap.size + 1) 28 #[.int .i64 (validate m).1, .int .i64 (validate m).2] := by rw [hw5]; exact Blk.at_ (by simp)
  have hb5 : Below w4.heap.size w4 w5 := by rw [hw5]; go_grown
  have hbw5 := hbw.trans (hb5.mono hbw.size)
  have hM5 := hide ((HM.out.alloc (Obj.cells #[.int .i64 (trimAns m).n, .slice A1 n1 c1, .slice AF1 nf1 cf1] 25)).alloc (Obj.cells #[.int .i64 (validate m).1, .int .i64 (validate m).2] 28))
  rw [← hw5] at hM5
  have HW5 := hide hw5
  clear hw5 bX bF hbw HM hb5
  go_wp2
  rw [← HW5.out]
  have hfv : fEq (validate m).1 (validate m).2 (validate m).1 (validate m).2 = true := by simp [fEq]
  have x0 := bX5.cell 0
  have x1 := bX5.cell 1
  have x2 := bX5.cell 2
  have f0 := bF5.cell 0
  have f1 := bF5.cell 1
  have g0 := bG5.cell 0
  have g1 := bG5.cell 1
  simp at x0 x1 x2 f0 f1 g0 g1
  have xl := bX5.lt
  have fl := bF5.lt
  have gl := bG5.lt
  refine wp_mix (fun w' => w'.cell? ⟨w.heap.size, 0, none⟩ = some (.int .i64 m.n) ∧ w'.cell? ⟨w.heap.size, 1, none⟩ = some (.slice A n c) ∧ w'.cell? ⟨w.heap.size, 2, none⟩ = some (.slice AF nf cf) ∧ w'.cell? ⟨w3.heap.size, 0, none⟩ = some (.int .i64 (validate m).1) ∧ w'.cell? ⟨w3.heap.size, 1, none⟩ = some (.int .i64 (validate m).2) ∧
    w'.cell? ⟨w4.heap.size + 1, 0, none⟩ = some (.int .i64 (validate m).1) ∧ w'.cell? ⟨w4.heap.size + 1, 1, none⟩ = some (.int .i64 (validate m).2)) 7 [(0, false), (2, false), (1, true), (3, false), (4, false), (5, false), (6, false)] (by kernel_rfl) (by kernel_rfl) ?_ ?_
  · go_simp
  simp only [List.drop_succ_cons, List.drop_zero]
  repeat (refine mix_q (v := ?_) (by rfl) (by rfl) ?_ ?_; rotate_left; (focus (intro w' hC; (try dsimp only at hC); go_simp; (first | done | with_reducible rfl))); simp only [Act.put, List.setIfInBounds_toArray, List.set_cons_zero, List.set_cons_succ])
  refine mix_l (by rfl) (by rfl) (fun K hK => ?_)
  go_simp
  refine (validate_any _ m _ B (by have := hbw5.size; simp; omega) (H0.out.below hbw5.drew hB)).mono ?_
  rintro e w6 ⟨rfl, hb6⟩
  clear x0 x1 x2 f0 f1 g0 g1 xl fl gl
  have bX6 := (bX5.drew).below hb6 (by have := bX5.lt; simpa using this)
  have bF6 := (bF5.drew).below hb6 (by have := bF5.lt; simpa using this)
  have bT6 := (bT5.drew).below hb6 (by have := bT5.lt; simpa using this)
  have bG6 := (bG5.drew).below hb6 (by have := bG5.lt; simpa using this)
  have hbw6 := (hbw5.drew).trans (hb6.mono (by have := hbw5.size; simpa using this))
  have HM6 := hide ((hM5.out.drew).below hb6 (by simp))
  clear hb6 hM5 bX5 bF5 bT5 bG5
  refine hK _ _ ⟨bX6.cell 0, bX6.cell 1, bX6.cell 2, bF6.cell 0, bF6.cell 1, bG6.cell 0, bG6.cell 1⟩ ?_
  clear hK K
  repeat (refine mix_q (v := ?_) (by rfl) (by rfl) ?_ ?_; rotate_left; (focus (intro w' hC; (try dsimp only at hC); go_simp; (first | done | with_reducible rfl))); simp only [Act.put, List.setIfInBounds_toArray, List.set_cons_zero, List.set_cons_succ])
  refine mix_nil ?_; try simp only [Act.put, List.setIfInBounds_toArray, List.set_cons_zero, List.set_cons_succ]
  have x0 := bX6.cell 0
  have x1 := bX6.cell 1
  have x2 := bX6.cell 2
  have f0 := bF6.cell 0
  have f1 := bF6.cell 1
  simp at x0 x1 x2 f0 f1
  have xl := bX6.lt
  have fl := bF6.lt
  go_wp2
  refine NoPanic.normal ?_
  have t0 := bT6.cell 0
  have t1 := bT6.cell 1
  have t2 := bT6.cell 2
  simp at t0 t1 t2
  have tl := bT6.lt
  cases hz : fEq (validate m).1 (validate m).2 0 0
  case false =>
    have hv : validate m ≠ (0, 0) := by intro e; rw [e] at hz; cases hz
    have hta : trimAns m = emptyM := by unfold trimAns; rw [if_neg hv]
    have HTA := hide hta
    clear hv hta
    go_wp2_with fail
    refine (machines_any _ _ (trimAns m) emptyM _ w6.heap.size (Nat.le_refl _) (HM6.out.at_) (MachAt.empty _ _)).mono ?_
    rintro e w7 ⟨rfl, hb7⟩
    have hdd : decide (trimAns m = emptyM) = true := by rw [HTA.out]; simp
    rw [hdd]
    go_wp2
    exact bodyPost_ret (v := .bool true) (by simp [results, Try.results3, go_sem]) rfl ⟨rfl, hbw6.trans (hb7.mono hbw6.size)⟩
  case true =>
    have hv : validate m = (0, 0) := by
      have := hz
      unfold fEq at this
      simp at this
      exact Prod.ext this.1 this.2
    have hta : trimAns m = trimOf m := by unfold trimAns; rw [if_pos hv]
    have HTA := hide hta
    have HV := hide (valid_of hv)
    clear hv hta
    go_wp2
    refine wp_mix (fun w' => w'.cell? ⟨w.heap.size, 0, none⟩ = some (.int .i64 m.n) ∧ w'.cell? ⟨w.heap.size, 1, none⟩ = some (.slice A n c) ∧ w'.cell? ⟨w.heap.size, 2, none⟩ = some (.slice AF nf cf) ∧
      w'.cell? ⟨w4.heap.size, 0, none⟩ = some (.int .i64 (trimAns m).n) ∧ w'.cell? ⟨w4.heap.size, 1, none⟩ = some (.slice A1 n1 c1) ∧ w'.cell? ⟨w4.heap.size, 2, none⟩ = some (.slice AF1 nf1 cf1)) 3 [(0, false), (1, false), (2, true)] (by kernel_rfl) (by kernel_rfl) ?_ ?_
    · go_simp
    simp only [List.drop_succ_cons, List.drop_zero]
    repeat (refine mix_q (v := ?_) (by rfl) (by rfl) ?_ ?_; rotate_left; (focus (intro w' hC; (try dsimp only at hC); go_simp; (first | done | with_reducible rfl))); simp only [Act.put, List.setIfInBounds_toArray, List.set_cons_zero, List.set_cons_succ])
    refine mix_l (by rfl) (by rfl) (fun K hK => ?_)
    go_simp
    refine (trimmed_any _ m _ B (by have := hbw6.size; simp; omega) (H0.out.below hbw6.drew hB) HV.out).mono ?_
    rintro e w7 ⟨v7, rfl, hM7, hb7⟩
    clear x0 x1 x2 f0 f1 xl fl t0 t1 t2 tl
    have bX7 := (bX6.drew).below hb7 (by have := bX6.lt; simpa using this)
    have bT7 := (bT6.drew).below hb7 (by have := bT6.lt; simpa using this)
    have hbw7 := (hbw6.drew).trans (hb7.mono (by have := hbw6.size; simpa using this))
    have HM7 := hide ((HM6.out.drew).below hb7 (by simp))
    have HN7 := hide hM7
    clear hb7 hM7
    refine hK _ _ ⟨bX7.cell 0, bX7.cell 1, bX7.cell 2, bT7.cell 0, bT7.cell 1, bT7.cell 2⟩ ?_
    clear hK K
    refine mix_nil ?_; try simp only [Act.put, List.setIfInBounds_toArray, List.set_cons_zero, List.set_cons_succ]
    go_wp2_with fail
    refine (machines_any _ _ (trimAns m) (trimOf m) _ w7.heap.size (Nat.le_refl _) (HM7.out.at_) HN7.out.at_).mono ?_
    rintro e w8 ⟨rfl, hb8⟩
    have hdd : decide (trimAns m = trimOf m) = true := by rw [HTA.out]; simp
    rw [hdd]
    go_wp2
    refine NoPanic.normal ?_
    go_wp2
    exact bodyPost_ret (v := .bool true) (by simp [results, Try.results3, go_sem]) rfl ⟨rfl, hbw7.trans (hb8.mono hbw7.size)⟩
end Go.Proofs.Ytmnaglmfbmmpdaa
