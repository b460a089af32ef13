/- The reference's Single, walked. Written by gen_sg.py. -/
import Derived.Test.YtpahodbnljpnnaaLiW
namespace Go.Proofs.Ytpahodbnljpnnaa
open Go.RowKit Gm Go.Sort Go.Shelf
set_option linter.unusedSimpArgs false
set_option linter.unusedVariables false
set_option maxRecDepth 100000 in
set_option maxHeartbeats 4000000 in
theorem sg_bad1 (v1 v2 : Value) (lu lo : List Int) (wt : Int) (w : World) (B : Nat) (hB : B ≤ w.heap.size) (h1 : Nums w B v1 lu) (h2 : Nums w B v2 lo) (hz : wordF lu (-1) ≠ (0, 0)) :
    Calls Try.prog 18 #[v1, v2, .int .i64 wt] w fun e w' => e = .returned (.tuple #[.agg #[.int .i64 0, .slice none 0 0, .slice none 0 0], .agg #[.int .i64 (wordF lu (-1)).1, .int .i64 (wordF lu (-1)).2]]) ∧ Below w.heap.size w w' := by
  have HU := hide h1
  have HO := hide h2
  obtain ⟨A1, nu, cc1, rfl, HNU, hu1, hu2, hru⟩ := h1
  obtain ⟨A2, no, cc2, rfl, HNO, ho1, ho2, hro⟩ := h2
  have hne := fun a b c d W => run_neq_fault a b c d W
  have hf0 : fEq 0 0 0 0 = true := rfl
  have hQU := fun W (hB : B ≤ W.heap.size) (h : Nums W B (.slice A1 nu cc1) lu) => rword_any _ lu (-1) W B hB h
  have hQO := fun W (hB : B ≤ W.heap.size) (h : Nums W B (.slice A2 no cc2) lo) => rword_any _ lo (-2) W B hB h
  have hz0 : fEq (wordF lu (-1)).1 (wordF lu (-1)).2 0 0 = false := by
    cases e : fEq (wordF lu (-1)).1 (wordF lu (-1)).2 0 0
    · rfl
    · exact absurd (fEq0R.1 e) hz
  obtain ⟨p, hp⟩ : ∃ p, p = (wordF lu (-1)).1 := ⟨_, rfl⟩
  obtain ⟨q, hq⟩ : ∃ p, p = (wordF lu (-1)).2 := ⟨_, rfl⟩
  rw [← hp, ← hq] at hQU hz0 ⊢
  have HQU := hide hQU
  clear hp hq hz hQU hQO hru hro
  go_enter Try.func18, Try.ntmps18
  go_wp2_with fail
  refine (HQU.out _ (by simp; omega) (HU.out.below (show Below w.heap.size w _ by go_grown) hB)).mono ?_
  rintro e w1 ⟨rfl, hb1⟩
  have hbw1 : Below w.heap.size w w1 := Below.trans (show Below w.heap.size w _ by go_grown) (hb1.mono (by simp; omega))
  have bR1 : Blk w1 w.heap.size 25 #[.int .i64 0, .slice none 0 0, .slice none 0 0] := ((Blk.new w _ _).alloc _).below hb1 (by simp; omega)
  have bF1 : Blk w1 (w.heap.size + 1) 29 #[.int .i64 0, .int .i64 0] := (Blk.at_ (by simp)).below hb1 (by simp)
  clear hb1 HQU
  have q0 := bR1.cell 0
  have q1 := bR1.cell 1
  have q2 := bR1.cell 2
  have q3 := bF1.cell 0
  have q4 := bF1.cell 1
  have qf := bR1.frozen 0
  have qf1 := bR1.frozen 1
  have qf2 := bR1.frozen 2
  have qf3 := bF1.frozen 0
  have qf4 := bF1.frozen 1
  simp at q0 q1 q2 q3 q4
  have hs3 := bR1.lt
  have hs4 := bF1.lt
  have hs5 := hbw1.size
  clear bR1 bF1
  go_wp2
  refine wp_mix (fun w' => w'.cell? ⟨w1.heap.size, 0, none⟩ = some (.int .i64 p) ∧ w'.cell? ⟨w1.heap.size, 1, none⟩ = some (.int .i64 q)) 3 [(0, false), (1, false), (2, true)] (by kernel_rfl) (by kernel_rfl) ?_ ?_
  · go_simp
  simp only [List.drop_succ_cons, List.drop_zero]
  repeat (refine mix_q (v := ?_) (by rfl) (by rfl) ?_ ?_; rotate_left; (focus (intro w' hC; (try dsimp only at hC); go_simp; (first | done | with_reducible rfl))); simp only [Act.put, List.setIfInBounds_toArray, List.set_cons_zero, List.set_cons_succ])
  refine mix_l (by rfl) (by rfl) (fun K hK => ?_)
  go_simp
  refine hK _ _ (by go_simp) ?_
  clear hK K
  refine mix_nil ?_; try simp only [Act.put, List.setIfInBounds_toArray, List.set_cons_zero, List.set_cons_succ]
  go_wp2
  refine NoPanic.normal ?_
  go_wp2
  exact bodyPost_ret (v := .tuple #[.agg #[.int .i64 0, .slice none 0 0, .slice none 0 0], .agg #[.int .i64 p, .int .i64 q]]) (by simp [results, Try.results18, go_sem, q0, q1, q2, q3, q4, qf, qf1, qf2, qf3, qf4, hs3, hs4]) rfl ⟨rfl, by go_grown⟩
set_option maxRecDepth 100000 in
set_option maxHeartbeats 4000000 in
theorem sg_bad2 (v1 v2 : Value) (lu lo : List Int) (wt : Int) (w : World) (B : Nat) (hB : B ≤ w.heap.size) (h1 : Nums w B v1 lu) (h2 : Nums w B v2 lo) (hw : wordF lu (-1) = (0, 0)) (hz : wordF lo (-2) ≠ (0, 0)) :
    Calls Try.prog 18 #[v1, v2, .int .i64 wt] w fun e w' => e = .returned (.tuple #[.agg #[.int .i64 0, .slice none 0 0, .slice none 0 0], .agg #[.int .i64 (wordF lo (-2)).1, .int .i64 (wordF lo (-2)).2]]) ∧ Below w.heap.size w w' := by
  have HU := hide h1
  have HO := hide h2
  obtain ⟨A1, nu, cc1, rfl, HNU, hu1, hu2, hru⟩ := h1
  obtain ⟨A2, no, cc2, rfl, HNO, ho1, ho2, hro⟩ := h2
  have hne := fun a b c d W => run_neq_fault a b c d W
  have hf0 : fEq 0 0 0 0 = true := rfl
  have hQU := fun W (hB : B ≤ W.heap.size) (h : Nums W B (.slice A1 nu cc1) lu) => rword_any _ lu (-1) W B hB h
  have hQO := fun W (hB : B ≤ W.heap.size) (h : Nums W B (.slice A2 no cc2) lo) => rword_any _ lo (-2) W B hB h
  rw [hw] at hQU
  have hz0 : fEq (wordF lo (-2)).1 (wordF lo (-2)).2 0 0 = false := by
    cases e : fEq (wordF lo (-2)).1 (wordF lo (-2)).2 0 0
    · rfl
    · exact absurd (fEq0R.1 e) hz
  obtain ⟨p, hp⟩ : ∃ p, p = (wordF lo (-2)).1 := ⟨_, rfl⟩
  obtain ⟨q, hq⟩ : ∃ p, p = (wordF lo (-2)).2 := ⟨_, rfl⟩
  rw [← hp, ← hq] at hQO hz0 ⊢
  have HQU := hide hQU
  have HQO := hide hQO
  clear hp hq hz hQU hQO hru hro hw
  go_enter Try.func18, Try.ntmps18
  go_wp2_with fail
  refine (HQU.out _ (by simp; omega) (HU.out.below (show Below w.heap.size w _ by go_grown) hB)).mono ?_
  rintro e w1 ⟨rfl, hb1⟩
  have hbw1 : Below w.heap.size w w1 := Below.trans (show Below w.heap.size w _ by go_grown) (hb1.mono (by simp; omega))
  have bR1 : Blk w1 w.heap.size 25 #[.int .i64 0, .slice none 0 0, .slice none 0 0] := ((Blk.new w _ _).alloc _).below hb1 (by simp; omega)
  have bF1 : Blk w1 (w.heap.size + 1) 29 #[.int .i64 0, .int .i64 0] := (Blk.at_ (by simp)).below hb1 (by simp)
  clear hb1 HQU
  go_wp2_with fail
  refine (HQO.out _ (by have := hbw1.size; simp; omega) (HO.out.below (hbw1.alloc hbw1.size _) hB)).mono ?_
  rintro e w2 ⟨rfl, hb2⟩
  have hbw2 := (hbw1.alloc hbw1.size _).trans (hb2.mono (by have := hbw1.size; simp; omega))
  have bR2 := (bR1.alloc _).below hb2 (by have := bR1.lt; simp; omega)
  have bF2 := (bF1.alloc _).below hb2 (by have := bF1.lt; simp; omega)
  clear hb2 HQO hbw1 bR1 bF1
  have q0 := bR2.cell 0
  have q1 := bR2.cell 1
  have q2 := bR2.cell 2
  have q3 := bF2.cell 0
  have q4 := bF2.cell 1
  have qf := bR2.frozen 0
  have qf1 := bR2.frozen 1
  have qf2 := bR2.frozen 2
  have qf3 := bF2.frozen 0
  have qf4 := bF2.frozen 1
  simp at q0 q1 q2 q3 q4
  have hs3 := bR2.lt
  have hs4 := bF2.lt
  have hs5 := hbw2.size
  clear bR2 bF2
  go_wp2
  refine wp_mix (fun w' => w'.cell? ⟨w2.heap.size, 0, none⟩ = some (.int .i64 p) ∧ w'.cell? ⟨w2.heap.size, 1, none⟩ = some (.int .i64 q)) 3 [(0, false), (1, false), (2, true)] (by kernel_rfl) (by kernel_rfl) ?_ ?_
  · go_simp
  simp only [List.drop_succ_cons, List.drop_zero]
  repeat (refine mix_q (v := ?_) (by rfl) (by rfl) ?_ ?_; rotate_left; (focus (intro w' hC; (try dsimp only at hC); go_simp; (first | done | with_reducible rfl))); simp only [Act.put, List.setIfInBounds_toArray, List.set_cons_zero, List.set_cons_succ])
  refine mix_l (by rfl) (by rfl) (fun K hK => ?_)
  go_simp
  refine hK _ _ (by go_simp) ?_
  clear hK K
  refine mix_nil ?_; try simp only [Act.put, List.setIfInBounds_toArray, List.set_cons_zero, List.set_cons_succ]
  go_wp2
  refine NoPanic.normal ?_
  go_wp2
  exact bodyPost_ret (v := .tuple #[.agg #[.int .i64 0, .slice none 0 0, .slice none 0 0], .agg #[.int .i64 p, .int .i64 q]]) (by simp [results, Try.results18, go_sem, q0, q1, q2, q3, q4, qf, qf1, qf2, qf3, qf4, hs3, hs4]) rfl ⟨rfl, by go_grown⟩
set_option maxRecDepth 100000 in
set_option maxHeartbeats 4000000 in
theorem sg_bad3 (v1 v2 : Value) (lu lo : List Int) (wt : Int) (w : World) (B : Nat) (hB : B ≤ w.heap.size) (h1 : Nums w B v1 lu) (h2 : Nums w B v2 lo) (hw : wordF lu (-1) = (0, 0)) (hx : wordF lo (-2) = (0, 0)) (hz : wt < 0) :
    Calls Try.prog 18 #[v1, v2, .int .i64 wt] w fun e w' => e = .returned (.tuple #[.agg #[.int .i64 0, .slice none 0 0, .slice none 0 0], .agg #[.int .i64 3, .int .i64 (-3)]]) ∧ Below w.heap.size w w' := by
  have HU := hide h1
  have HO := hide h2
  obtain ⟨A1, nu, cc1, rfl, HNU, hu1, hu2, hru⟩ := h1
  obtain ⟨A2, no, cc2, rfl, HNO, ho1, ho2, hro⟩ := h2
  have hne := fun a b c d W => run_neq_fault a b c d W
  have hf0 : fEq 0 0 0 0 = true := rfl
  have hQU := fun W (hB : B ≤ W.heap.size) (h : Nums W B (.slice A1 nu cc1) lu) => rword_any _ lu (-1) W B hB h
  have hQO := fun W (hB : B ≤ W.heap.size) (h : Nums W B (.slice A2 no cc2) lo) => rword_any _ lo (-2) W B hB h
  rw [hw] at hQU
  rw [hx] at hQO
  have t1 : decide (wt < 0) = true := decide_eq_true hz
  clear hz
  have HQU := hide hQU
  have HQO := hide hQO
  clear hQU hQO hru hro hw hx
  go_enter Try.func18, Try.ntmps18
  go_wp2_with fail
  refine (HQU.out _ (by simp; omega) (HU.out.below (show Below w.heap.size w _ by go_grown) hB)).mono ?_
  rintro e w1 ⟨rfl, hb1⟩
  have hbw1 : Below w.heap.size w w1 := Below.trans (show Below w.heap.size w _ by go_grown) (hb1.mono (by simp; omega))
  have bR1 : Blk w1 w.heap.size 25 #[.int .i64 0, .slice none 0 0, .slice none 0 0] := ((Blk.new w _ _).alloc _).below hb1 (by simp; omega)
  have bF1 : Blk w1 (w.heap.size + 1) 29 #[.int .i64 0, .int .i64 0] := (Blk.at_ (by simp)).below hb1 (by simp)
  clear hb1 HQU
  go_wp2_with fail
  refine (HQO.out _ (by have := hbw1.size; simp; omega) (HO.out.below (hbw1.alloc hbw1.size _) hB)).mono ?_
  rintro e w2 ⟨rfl, hb2⟩
  have hbw2 := (hbw1.alloc hbw1.size _).trans (hb2.mono (by have := hbw1.size; simp; omega))
  have bR2 := (bR1.alloc _).below hb2 (by have := bR1.lt; simp; omega)
  have bF2 := (bF1.alloc _).below hb2 (by have := bF1.lt; simp; omega)
  clear hb2 HQO hbw1 bR1 bF1
  have hbz2 := hbw2.size
  go_wp2_with fail
  refine (rfault_any _ _ _).mono ?_
  rintro e w3 ⟨rfl, hb3⟩
  have bR3 := (bR2.alloc _).below hb3 (by have := bR2.lt; simp; omega)
  have bF3 := (bF2.alloc _).below hb3 (by have := bF2.lt; simp; omega)
  have hbw3 := (hbw2.alloc hbw2.size _).trans (hb3.mono (by simp; omega))
  clear hb3 bR2 bF2
  have q0 := bR3.cell 0
  have q1 := bR3.cell 1
  have q2 := bR3.cell 2
  have q3 := bF3.cell 0
  have q4 := bF3.cell 1
  have qf := bR3.frozen 0
  have qf1 := bR3.frozen 1
  have qf2 := bR3.frozen 2
  have qf3 := bF3.frozen 0
  have qf4 := bF3.frozen 1
  simp at q0 q1 q2 q3 q4
  have hs3 := bR3.lt
  have hs4 := bF3.lt
  clear bR3 bF3
  go_wp2
  refine bodyPost_ret (v := .tuple #[.agg #[.int .i64 0, .slice none 0 0, .slice none 0 0], .agg #[.int .i64 3, .int .i64 (-3)]]) (by simp [results, Try.results18, go_sem, q0, q1, q2, q3, q4, qf, qf1, qf2, qf3, qf4, hs3, hs4]) rfl ⟨rfl, by go_grown⟩
set_option maxRecDepth 100000 in
set_option maxHeartbeats 4000000 in
theorem sg_bad4 (v1 v2 : Value) (lu lo : List Int) (wt : Int) (w : World) (B : Nat) (hB : B ≤ w.heap.size) (h1 : Nums w B v1 lu) (h2 : Nums w B v2 lo) (hw : wordF lu (-1) = (0, 0)) (hx : wordF lo (-2) = (0, 0)) (hz : 0 ≤ wt) (hz2 : 1000000 < wt) :
    Calls Try.prog 18 #[v1, v2, .int .i64 wt] w fun e w' => e = .returned (.tuple #[.agg #[.int .i64 0, .slice none 0 0, .slice none 0 0], .agg #[.int .i64 3, .int .i64 (-3)]]) ∧ Below w.heap.size w w' := by
  have HU := hide h1
  have HO := hide h2
  obtain ⟨A1, nu, cc1, rfl, HNU, hu1, hu2, hru⟩ := h1
  obtain ⟨A2, no, cc2, rfl, HNO, ho1, ho2, hro⟩ := h2
  have hne := fun a b c d W => run_neq_fault a b c d W
  have hf0 : fEq 0 0 0 0 = true := rfl
  have hQU := fun W (hB : B ≤ W.heap.size) (h : Nums W B (.slice A1 nu cc1) lu) => rword_any _ lu (-1) W B hB h
  have hQO := fun W (hB : B ≤ W.heap.size) (h : Nums W B (.slice A2 no cc2) lo) => rword_any _ lo (-2) W B hB h
  rw [hw] at hQU
  rw [hx] at hQO
  have t1 : decide (wt < 0) = false := decide_eq_false (by omega)
  have t2 : decide (wt > 1000000) = true := decide_eq_true hz2
  have t2' : decide (1000000 < wt) = true := decide_eq_true hz2
  have HQU := hide hQU
  have HQO := hide hQO
  clear hQU hQO hru hro hw hx
  go_enter Try.func18, Try.ntmps18
  go_wp2_with fail
  refine (HQU.out _ (by simp; omega) (HU.out.below (show Below w.heap.size w _ by go_grown) hB)).mono ?_
  rintro e w1 ⟨rfl, hb1⟩
  have hbw1 : Below w.heap.size w w1 := Below.trans (show Below w.heap.size w _ by go_grown) (hb1.mono (by simp; omega))
  have bR1 : Blk w1 w.heap.size 25 #[.int .i64 0, .slice none 0 0, .slice none 0 0] := ((Blk.new w _ _).alloc _).below hb1 (by simp; omega)
  have bF1 : Blk w1 (w.heap.size + 1) 29 #[.int .i64 0, .int .i64 0] := (Blk.at_ (by simp)).below hb1 (by simp)
  clear hb1 HQU
  go_wp2_with fail
  refine (HQO.out _ (by have := hbw1.size; simp; omega) (HO.out.below (hbw1.alloc hbw1.size _) hB)).mono ?_
  rintro e w2 ⟨rfl, hb2⟩
  have hbw2 := (hbw1.alloc hbw1.size _).trans (hb2.mono (by have := hbw1.size; simp; omega))
  have bR2 := (bR1.alloc _).below hb2 (by have := bR1.lt; simp; omega)
  have bF2 := (bF1.alloc _).below hb2 (by have := bF1.lt; simp; omega)
  clear hb2 HQO hbw1 bR1 bF1
  have hbz2 := hbw2.size
  go_wp2_with fail
  refine (rfault_any _ _ _).mono ?_
  rintro e w3 ⟨rfl, hb3⟩
  have bR3 := (bR2.alloc _).below hb3 (by have := bR2.lt; simp; omega)
  have bF3 := (bF2.alloc _).below hb3 (by have := bF2.lt; simp; omega)
  have hbw3 := (hbw2.alloc hbw2.size _).trans (hb3.mono (by simp; omega))
  clear hb3 bR2 bF2
  have q0 := bR3.cell 0
  have q1 := bR3.cell 1
  have q2 := bR3.cell 2
  have q3 := bF3.cell 0
  have q4 := bF3.cell 1
  have qf := bR3.frozen 0
  have qf1 := bR3.frozen 1
  have qf2 := bR3.frozen 2
  have qf3 := bF3.frozen 0
  have qf4 := bF3.frozen 1
  simp at q0 q1 q2 q3 q4
  have hs3 := bR3.lt
  have hs4 := bF3.lt
  clear bR3 bF3
  go_wp2
  refine bodyPost_ret (v := .tuple #[.agg #[.int .i64 0, .slice none 0 0, .slice none 0 0], .agg #[.int .i64 3, .int .i64 (-3)]]) (by simp [results, Try.results18, go_sem, q0, q1, q2, q3, q4, qf, qf1, qf2, qf3, qf4, hs3, hs4]) rfl ⟨rfl, by go_grown⟩
set_option maxRecDepth 100000 in
set_option maxHeartbeats 4000000 in
theorem sg_good (v1 v2 : Value) (lu lo : List Int) (wt : Int) (w : World) (B : Nat) (hB : B ≤ w.heap.size) (h1 : Nums w B v1 lu) (h2 : Nums w B v2 lo) (hw : wordF lu (-1) = (0, 0)) (hx : wordF lo (-2) = (0, 0)) (hz : 0 ≤ wt) (hz2 : wt ≤ 1000000) :
    Calls Try.prog 18 #[v1, v2, .int .i64 wt] w fun e w' => ∃ v', e = .returned (.tuple #[v', .agg #[.int .i64 0, .int .i64 0]]) ∧ MachNew w.heap.size w' v' (litM lu lo wt) ∧ Below w.heap.size w w' := by
  have HU := hide h1
  have HO := hide h2
  obtain ⟨A1, nu, cc1, rfl, HNU, hu1, hu2, hru⟩ := h1
  obtain ⟨A2, no, cc2, rfl, HNO, ho1, ho2, hro⟩ := h2
  have hne := fun a b c d W => run_neq_fault a b c d W
  have hf0 : fEq 0 0 0 0 = true := rfl
  have hQU := fun W (hB : B ≤ W.heap.size) (h : Nums W B (.slice A1 nu cc1) lu) => rword_any _ lu (-1) W B hB h
  have hQO := fun W (hB : B ≤ W.heap.size) (h : Nums W B (.slice A2 no cc2) lo) => rword_any _ lo (-2) W B hB h
  rw [hw] at hQU
  rw [hx] at hQO
  have t1 : decide (wt < 0) = false := decide_eq_false (by omega)
  have t2 : decide (wt > 1000000) = false := decide_eq_false (by omega)
  have t2' : decide (1000000 < wt) = false := decide_eq_false (by omega)
  have hu30 := (wordF_zero (l := lu) (ix := -1) (by rw [hw])).2.1
  have ho30 := (wordF_zero (l := lo) (ix := -2) (by rw [hx])).2.1
  rw [HNU.out] at hu30
  rw [HNO.out] at ho30
  have HQU := hide hQU
  have HQO := hide hQO
  obtain ⟨N, hN⟩ : ∃ N, N = litN lu lo := ⟨_, rfl⟩
  have hNd : N = if nu < no then no else nu := by rw [hN, litN, HNU.out, HNO.out]
  have HND := hide hNd
  have hN30 : N ≤ 30 := by rw [hNd]; split <;> omega
  have HLN := hide hN
  obtain ⟨ia, ha0, ha1, ha2, ha3⟩ := info_parts arc_info
  clear hQU hQO hru hro hw hx hN hNd
  go_enter Try.func18, Try.ntmps18
  go_wp2_with fail
  refine (HQU.out _ (by simp; omega) (HU.out.below (show Below w.heap.size w _ by go_grown) hB)).mono ?_
  rintro e w1 ⟨rfl, hb1⟩
  have hbw1 : Below w.heap.size w w1 := Below.trans (show Below w.heap.size w _ by go_grown) (hb1.mono (by simp; omega))
  have bR1 : Blk w1 w.heap.size 25 #[.int .i64 0, .slice none 0 0, .slice none 0 0] := ((Blk.new w _ _).alloc _).below hb1 (by simp; omega)
  have bF1 : Blk w1 (w.heap.size + 1) 29 #[.int .i64 0, .int .i64 0] := (Blk.at_ (by simp)).below hb1 (by simp)
  clear hb1 HQU
  go_wp2_with fail
  refine (HQO.out _ (by have := hbw1.size; simp; omega) (HO.out.below (hbw1.alloc hbw1.size _) hB)).mono ?_
  rintro e w2 ⟨rfl, hb2⟩
  have hbw2 := (hbw1.alloc hbw1.size _).trans (hb2.mono (by have := hbw1.size; simp; omega))
  have bR2 := (bR1.alloc _).below hb2 (by have := bR1.lt; simp; omega)
  have bF2 := (bF1.alloc _).below hb2 (by have := bF1.lt; simp; omega)
  clear hb2 HQO hbw1 bR1 bF1

  go_upto_region 10 with fail
  generalize hW2 : World.alloc _ _ = W2
  obtain ⟨O, hO⟩ : ∃ O, O = w2.heap.size + 1 := ⟨_, rfl⟩
  obtain ⟨base, hbase⟩ : ∃ O, O = w2.heap.size + 1 + 1 := ⟨_, rfl⟩
  have HBW := hide (show Below w.heap.size w W2 by rw [← hW2]; exact (hbw2.alloc hbw2.size _).alloc (by have := hbw2.size; simp; omega) _)
  have HBR := hide (show Blk W2 w.heap.size 25 #[.int .i64 0, .slice none 0 0, .slice none 0 0] by rw [← hW2]; exact (bR2.alloc _).alloc _)
  have HBF := hide (show Blk W2 (w.heap.size + 1) 29 #[.int .i64 0, .int .i64 0] by rw [← hW2]; exact (bF2.alloc _).alloc _)
  have hp0 : w.heap.size + 1 < O := by have := bF2.lt; omega
  have bO2 : Blk W2 O 25 #[.int .i64 0, .slice none 0 0, .slice none 0 0] := by rw [← hW2, hO]; exact Blk.at_ (by simp)
  have hz2 : base ≤ W2.heap.size := by rw [← hW2, hbase]; simp
  have hOb : base = O + 1 := by omega
  have hOb2 : O < base := by omega
  simp only [← hO]
  have HOL := hide (⟨none, 0, bO2, World.ownsRow_nil _ _ _ _⟩ : ∃ A c, Blk W2 O 25 #[.int .i64 ((0 : Nat) : Int), .slice A 0 c, .slice none 0 0] ∧ W2.ownsRow base 50 5 (.slice A 0 c) 0 (arcRow (litArcs lu lo 0)))
  have HRU := hide (HU.out.below HBW.out hB)
  have HRO := hide (HO.out.below HBW.out hB)
  clear hW2 hbase hO hOb bO2 hbw2 bR2 bF2
  unfold big at hu2 ho2
  go_loopg [] N (fun gk wr => ∃ k : Nat, k + gk = N ∧ Hid (∃ A c, Blk wr O 25 #[.int .i64 (k : Int), .slice A k c, .slice none 0 0] ∧ wr.ownsRow base 50 5 (.slice A k c) k (arcRow (litArcs lu lo k))) ∧ Hid (Below O W2 wr) ∧ base ≤ wr.heap.size)
  case atStart => exact ⟨0, by omega, HOL, hide (Below.refl _ _), hz2⟩
  case round =>
    clear HOL hz2
    obtain ⟨k, hkg, HOL, HBL, hz⟩ := hrel
    obtain ⟨A5, c5, bO5, hown5⟩ := HOL.out
    have lO := bO5.lt
    have o0 := bO5.cell 0
    have o1 := bO5.cell 1
    have of0 := bO5.frozen 0
    have of1 := bO5.frozen 1
    have of2 := bO5.frozen 2
    simp at o0 o1
    have HBKO := hide bO5
    have HOWN := hide hown5
    have hlow : ∀ q, (Value.slice A5 k c5).ownBlock = some q → base ≤ q ∧ q < wr.heap.size := fun q hq => hown5.lt q hq
    have HLOW := hide hlow
    have hneO : (Value.slice A5 k c5).ownBlock ≠ some O := fun e => by have := (hlow _ e).1; omega
    have hneZ : (Value.slice A5 k c5).ownBlock ≠ some wr.heap.size := fun e => by have := (hlow _ e).2; omega
    have HBWR := hide (HBW.out.trans (HBL.out.mono (by omega)))
    have HRU2 := hide (HU.out.below HBWR.out hB)
    have HRO2 := hide (HO.out.below HBWR.out hB)
    clear hlow HOL bO5 hown5
    have k0 : (0 : Int) ≤ (k : Int) := by omega
    have k30 : (k : Int) ≤ 30 := by omega
    have hwk : IntKind.i64.wrap ((k : Int) + 1) = (k : Int) + 1 := IntWalk.i64_in _ (by omega)
    by_cases hku : k < nu
    · by_cases hko : k < no
      · skip
        have tcu : decide ((k : Int) < (nu : Int)) = true := decide_eq_true (by omega)
        have tco : decide ((k : Int) < (no : Int)) = true := decide_eq_true (by omega)
        have hkN : k < N := by have := HND.out; split at this <;> omega
        obtain ⟨_, _, _, eli, _, _, _, hrli⟩ := HRU2.out
        injection eli with e1 e2 e3
        subst e1 e2 e3
        obtain ⟨bli, oli, li, rfl, hbli, cli, HXli⟩ := num_at hrli (show k < nu by omega)
        have lli : bli < wr.heap.size := by omega
        have ili : (k : Int) < (nu : Int) := by omega
        clear hrli
        obtain ⟨_, _, _, elj, _, _, _, hrlj⟩ := HRO2.out
        injection elj with e1 e2 e3
        subst e1 e2 e3
        obtain ⟨blj, olj, lj, rfl, hblj, clj, HXlj⟩ := num_at hrlj (show k < no by omega)
        have llj : blj < wr.heap.size := by omega
        have ilj : (k : Int) < (no : Int) := by omega
        clear hrlj
        have HAR := hide (show litArc lu lo k = ⟨(k : Int), (k : Int) + 1, li, lj, 0⟩ by unfold litArc; rw [HXli.out, HXlj.out])
        clear HXli HXlj HRU2 HRO2 HND
        go_upto_region 16 with fail
        generalize hWa : World.alloc _ _ = Wa
        have bZ : Blk Wa wr.heap.size 50 #[.int .i64 (k : Int), .int .i64 ((k : Int) + 1), .int .i64 li, .int .i64 lj, .int .i64 0] := by rw [← hWa]; exact Blk.at_ rfl
        have hownA : Wa.ownsRow base 50 5 (.slice A5 k c5) k (arcRow (litArcs lu lo k)) := by rw [← hWa]; exact HOWN.out.alloc _
        have bOa : Blk Wa O 25 #[.int .i64 (k : Int), .slice A5 k c5, .slice none 0 0] := by rw [← hWa]; exact HBKO.out.alloc _
        have hba : Below O wr Wa := by rw [← hWa]; exact (Below.refl O wr).alloc (by omega) _
        have hza : Wa.heap.size = wr.heap.size + 1 := by rw [← hWa]; simp
        have z0 := bZ.cell 0
        have z1 := bZ.cell 1
        have z2 := bZ.cell 2
        have z3 := bZ.cell 3
        have z4 := bZ.cell 4
        simp at z0 z1 z2 z3 z4
        replace o0 := bOa.cell 0
        replace o1 := bOa.cell 1
        replace of0 := bOa.frozen 0
        replace of1 := bOa.frozen 1
        simp at o0 o1
        have lOa := bOa.lt
        have lZ := bZ.lt
        have HBOA := hide bOa
        have HOWA := hide hownA
        have HBA := hide hba
        obtain ⟨Z, hZ⟩ : ∃ Z, Z = wr.heap.size := ⟨_, rfl⟩
        rw [← hZ] at z0 z1 z2 z3 z4 lZ hza
        simp only [← hZ]
        have hbZ : base ≤ Z := by omega
        clear hZ hWa bZ bOa hownA hba of2 tcu tco
        go_wp2_with (at_builtin; refine wpList_append_own _ rfl (.tmp 75) (.tmp 77) 22 rfl base 50 ia _ 5 40 Try.underlying22 ha0 ha1 ha2 ha3 rfl (by omega) (.slice A5 k c5) k _ rfl (HOWA.out.alloc _) ⟨Z + 1, 0, none⟩ 1 1 (arcRow [⟨(k : Int), (k : Int) + 1, li, lj, 0⟩]) rfl (by rfl) (World.news_of_block (cs := (arcRow [⟨(k : Int), (k : Int) + 1, li, lj, 0⟩]).toArray) (t := 50) (fr := (0, 0)) (Blk.at_ hza.symm)) (arcRow_one _) (by simp only [maxLen]; omega) (by omega) (by simp; omega) ?_; intro v' w6 hown2 hg2 _; obtain ⟨Av, cv, rfl, hkcv, _⟩ := own_value hown2; have o0' := far_cell hg2 hneO (o := 0) (v := .int .i64 (k : Int)) (by exact (HBOA.out.alloc _).cell 0); have o1' := far_cell hg2 hneO (o := 1) (v := .slice A5 k c5) (by exact (HBOA.out.alloc _).cell 1); have bO6 := (HBOA.out.alloc _).grown hg2 (Ne.symm hneO); have of0' := bO6.frozen 0; have of1' := bO6.frozen 1; have lO6 := bO6.lt)
        have hs6 := hg2.size
        simp at hs6
        go_roundg (gk - 1)
        case measure => omega
        case rel => exact ⟨k + 1, by omega, hide ⟨Av, cv, by have h := (bO6.set_ 1 (.slice Av (k + 1) cv)).set_ 0 (.int .i64 ((k : Int) + 1)); simpa using h, ownsRow_setCell_below (ownsRow_setCell_below (by rw [litArcs_succ, HAR.out, arcRow_append]; exact hown2) (by simpa using hOb2) _) (by simpa using hOb2) _⟩, hide (((((HBL.out.trans HBA.out).alloc (by omega) _).grown hg2 (by simp; omega) (fun q hq => by have := (HLOW.out q hq).1; omega)).setCell (by simp) _).setCell (by simp) _), by simp [World.setCell]; omega⟩
      · skip
        have tcu : decide ((k : Int) < (nu : Int)) = true := decide_eq_true (by omega)
        have tco : decide ((k : Int) < (no : Int)) = false := decide_eq_false (by omega)
        have hkN : k < N := by have := HND.out; split at this <;> omega
        obtain ⟨_, _, _, eli, _, _, _, hrli⟩ := HRU2.out
        injection eli with e1 e2 e3
        subst e1 e2 e3
        obtain ⟨bli, oli, li, rfl, hbli, cli, HXli⟩ := num_at hrli (show k < nu by omega)
        have lli : bli < wr.heap.size := by omega
        have ili : (k : Int) < (nu : Int) := by omega
        clear hrli
        have HXlj := hide (show lo.getD k 0 = 0 by simp [List.getD, List.getElem?_eq_none (show lo.length ≤ k by rw [HNO.out]; omega)])
        have HAR := hide (show litArc lu lo k = ⟨(k : Int), (k : Int) + 1, li, 0, 0⟩ by unfold litArc; rw [HXli.out, HXlj.out])
        clear HXli HXlj HRU2 HRO2 HND
        go_upto_region 16 with fail
        generalize hWa : World.alloc _ _ = Wa
        have bZ : Blk Wa wr.heap.size 50 #[.int .i64 (k : Int), .int .i64 ((k : Int) + 1), .int .i64 li, .int .i64 0, .int .i64 0] := by rw [← hWa]; exact Blk.at_ rfl
        have hownA : Wa.ownsRow base 50 5 (.slice A5 k c5) k (arcRow (litArcs lu lo k)) := by rw [← hWa]; exact HOWN.out.alloc _
        have bOa : Blk Wa O 25 #[.int .i64 (k : Int), .slice A5 k c5, .slice none 0 0] := by rw [← hWa]; exact HBKO.out.alloc _
        have hba : Below O wr Wa := by rw [← hWa]; exact (Below.refl O wr).alloc (by omega) _
        have hza : Wa.heap.size = wr.heap.size + 1 := by rw [← hWa]; simp
        have z0 := bZ.cell 0
        have z1 := bZ.cell 1
        have z2 := bZ.cell 2
        have z3 := bZ.cell 3
        have z4 := bZ.cell 4
        simp at z0 z1 z2 z3 z4
        replace o0 := bOa.cell 0
        replace o1 := bOa.cell 1
        replace of0 := bOa.frozen 0
        replace of1 := bOa.frozen 1
        simp at o0 o1
        have lOa := bOa.lt
        have lZ := bZ.lt
        have HBOA := hide bOa
        have HOWA := hide hownA
        have HBA := hide hba
        obtain ⟨Z, hZ⟩ : ∃ Z, Z = wr.heap.size := ⟨_, rfl⟩
        rw [← hZ] at z0 z1 z2 z3 z4 lZ hza
        simp only [← hZ]
        have hbZ : base ≤ Z := by omega
        clear hZ hWa bZ bOa hownA hba of2 tcu tco
        go_wp2_with (at_builtin; refine wpList_append_own _ rfl (.tmp 75) (.tmp 77) 22 rfl base 50 ia _ 5 40 Try.underlying22 ha0 ha1 ha2 ha3 rfl (by omega) (.slice A5 k c5) k _ rfl (HOWA.out.alloc _) ⟨Z + 1, 0, none⟩ 1 1 (arcRow [⟨(k : Int), (k : Int) + 1, li, 0, 0⟩]) rfl (by rfl) (World.news_of_block (cs := (arcRow [⟨(k : Int), (k : Int) + 1, li, 0, 0⟩]).toArray) (t := 50) (fr := (0, 0)) (Blk.at_ hza.symm)) (arcRow_one _) (by simp only [maxLen]; omega) (by omega) (by simp; omega) ?_; intro v' w6 hown2 hg2 _; obtain ⟨Av, cv, rfl, hkcv, _⟩ := own_value hown2; have o0' := far_cell hg2 hneO (o := 0) (v := .int .i64 (k : Int)) (by exact (HBOA.out.alloc _).cell 0); have o1' := far_cell hg2 hneO (o := 1) (v := .slice A5 k c5) (by exact (HBOA.out.alloc _).cell 1); have bO6 := (HBOA.out.alloc _).grown hg2 (Ne.symm hneO); have of0' := bO6.frozen 0; have of1' := bO6.frozen 1; have lO6 := bO6.lt)
        have hs6 := hg2.size
        simp at hs6
        go_roundg (gk - 1)
        case measure => omega
        case rel => exact ⟨k + 1, by omega, hide ⟨Av, cv, by have h := (bO6.set_ 1 (.slice Av (k + 1) cv)).set_ 0 (.int .i64 ((k : Int) + 1)); simpa using h, ownsRow_setCell_below (ownsRow_setCell_below (by rw [litArcs_succ, HAR.out, arcRow_append]; exact hown2) (by simpa using hOb2) _) (by simpa using hOb2) _⟩, hide (((((HBL.out.trans HBA.out).alloc (by omega) _).grown hg2 (by simp; omega) (fun q hq => by have := (HLOW.out q hq).1; omega)).setCell (by simp) _).setCell (by simp) _), by simp [World.setCell]; omega⟩
    · by_cases hko : k < no
      · skip
        have tcu : decide ((k : Int) < (nu : Int)) = false := decide_eq_false (by omega)
        have tco : decide ((k : Int) < (no : Int)) = true := decide_eq_true (by omega)
        have hkN : k < N := by have := HND.out; split at this <;> omega
        have HXli := hide (show lu.getD k 0 = 0 by simp [List.getD, List.getElem?_eq_none (show lu.length ≤ k by rw [HNU.out]; omega)])
        obtain ⟨_, _, _, elj, _, _, _, hrlj⟩ := HRO2.out
        injection elj with e1 e2 e3
        subst e1 e2 e3
        obtain ⟨blj, olj, lj, rfl, hblj, clj, HXlj⟩ := num_at hrlj (show k < no by omega)
        have llj : blj < wr.heap.size := by omega
        have ilj : (k : Int) < (no : Int) := by omega
        clear hrlj
        have HAR := hide (show litArc lu lo k = ⟨(k : Int), (k : Int) + 1, 0, lj, 0⟩ by unfold litArc; rw [HXli.out, HXlj.out])
        clear HXli HXlj HRU2 HRO2 HND
        go_upto_region 16 with fail
        generalize hWa : World.alloc _ _ = Wa
        have bZ : Blk Wa wr.heap.size 50 #[.int .i64 (k : Int), .int .i64 ((k : Int) + 1), .int .i64 0, .int .i64 lj, .int .i64 0] := by rw [← hWa]; exact Blk.at_ rfl
        have hownA : Wa.ownsRow base 50 5 (.slice A5 k c5) k (arcRow (litArcs lu lo k)) := by rw [← hWa]; exact HOWN.out.alloc _
        have bOa : Blk Wa O 25 #[.int .i64 (k : Int), .slice A5 k c5, .slice none 0 0] := by rw [← hWa]; exact HBKO.out.alloc _
        have hba : Below O wr Wa := by rw [← hWa]; exact (Below.refl O wr).alloc (by omega) _
        have hza : Wa.heap.size = wr.heap.size + 1 := by rw [← hWa]; simp
        have z0 := bZ.cell 0
        have z1 := bZ.cell 1
        have z2 := bZ.cell 2
        have z3 := bZ.cell 3
        have z4 := bZ.cell 4
        simp at z0 z1 z2 z3 z4
        replace o0 := bOa.cell 0
        replace o1 := bOa.cell 1
        replace of0 := bOa.frozen 0
        replace of1 := bOa.frozen 1
        simp at o0 o1
        have lOa := bOa.lt
        have lZ := bZ.lt
        have HBOA := hide bOa
        have HOWA := hide hownA
        have HBA := hide hba
        obtain ⟨Z, hZ⟩ : ∃ Z, Z = wr.heap.size := ⟨_, rfl⟩
        rw [← hZ] at z0 z1 z2 z3 z4 lZ hza
        simp only [← hZ]
        have hbZ : base ≤ Z := by omega
        clear hZ hWa bZ bOa hownA hba of2 tcu tco
        go_wp2_with (at_builtin; refine wpList_append_own _ rfl (.tmp 75) (.tmp 77) 22 rfl base 50 ia _ 5 40 Try.underlying22 ha0 ha1 ha2 ha3 rfl (by omega) (.slice A5 k c5) k _ rfl (HOWA.out.alloc _) ⟨Z + 1, 0, none⟩ 1 1 (arcRow [⟨(k : Int), (k : Int) + 1, 0, lj, 0⟩]) rfl (by rfl) (World.news_of_block (cs := (arcRow [⟨(k : Int), (k : Int) + 1, 0, lj, 0⟩]).toArray) (t := 50) (fr := (0, 0)) (Blk.at_ hza.symm)) (arcRow_one _) (by simp only [maxLen]; omega) (by omega) (by simp; omega) ?_; intro v' w6 hown2 hg2 _; obtain ⟨Av, cv, rfl, hkcv, _⟩ := own_value hown2; have o0' := far_cell hg2 hneO (o := 0) (v := .int .i64 (k : Int)) (by exact (HBOA.out.alloc _).cell 0); have o1' := far_cell hg2 hneO (o := 1) (v := .slice A5 k c5) (by exact (HBOA.out.alloc _).cell 1); have bO6 := (HBOA.out.alloc _).grown hg2 (Ne.symm hneO); have of0' := bO6.frozen 0; have of1' := bO6.frozen 1; have lO6 := bO6.lt)
        have hs6 := hg2.size
        simp at hs6
        go_roundg (gk - 1)
        case measure => omega
        case rel => exact ⟨k + 1, by omega, hide ⟨Av, cv, by have h := (bO6.set_ 1 (.slice Av (k + 1) cv)).set_ 0 (.int .i64 ((k : Int) + 1)); simpa using h, ownsRow_setCell_below (ownsRow_setCell_below (by rw [litArcs_succ, HAR.out, arcRow_append]; exact hown2) (by simpa using hOb2) _) (by simpa using hOb2) _⟩, hide (((((HBL.out.trans HBA.out).alloc (by omega) _).grown hg2 (by simp; omega) (fun q hq => by have := (HLOW.out q hq).1; omega)).setCell (by simp) _).setCell (by simp) _), by simp [World.setCell]; omega⟩
      · skip
        have tcu : decide ((k : Int) < (nu : Int)) = false := decide_eq_false (by omega)
        have tco : decide ((k : Int) < (no : Int)) = false := decide_eq_false (by omega)
        obtain rfl : k = N := by have := HND.out; split at this <;> omega
        clear HRU2 HRO2 HND
        have o2 := HBKO.out.cell 2
        simp at o2
        go_upto_region 20 with fail
        generalize hWe : World.alloc _ _ = We
        obtain ⟨G, hG⟩ : ∃ G, G = wr.heap.size := ⟨_, rfl⟩
        have hneO' : O ≠ G := by omega
        have bG : Blk We G 48 #[.int .i64 (k : Int), .int .i64 wt] := by rw [← hWe]; exact Blk.at_ (by simp [World.setCell, hG])
        have bOe : Blk We O 25 #[.int .i64 ((k : Int) + 1), .slice A5 k c5, .slice (some ⟨G, 0, none⟩) 1 1] := by rw [← hWe, hG]; exact ((HBKO.out.set_ 2 _).set_ 0 _).alloc _
        have hown : We.ownsRow base 50 5 (.slice A5 k c5) k (arcRow (litArcs lu lo k)) := by rw [← hWe]; exact (ownsRow_setCell_below (ownsRow_setCell_below HOWN.out (by simpa using hOb2) _) (by simpa using hOb2) _).alloc _
        have hbe : Below O W2 We := by rw [← hWe]; exact (((HBL.out.setCell (by simp) _).setCell (by simp) _).alloc (by simp [World.setCell]; omega) _)
        have HBWE := hide (HBW.out.trans (hbe.mono (by omega)))
        have HBRR := HBR.out.below hbe (by omega)
        have HBFF := HBF.out.below hbe (by omega)
        have hGb : base ≤ G := by omega
        simp only [← hG]
        clear hWe hG o0 o1 of0 of1 of2 o2 lO
        replace o0 := bOe.cell 0
        replace o1 := bOe.cell 1
        have o2 := bOe.cell 2
        simp at o0 o1 o2
        have lO := bOe.lt
        have q0 := HBRR.cell 0
        have q1 := HBRR.cell 1
        have q2 := HBRR.cell 2
        have q3 := HBFF.cell 0
        have q4 := HBFF.cell 1
        have qf := HBRR.frozen 0
        have qf1 := HBRR.frozen 1
        have qf2 := HBRR.frozen 2
        have qf3 := HBFF.frozen 0
        have qf4 := HBFF.frozen 1
        simp at q0 q1 q2 q3 q4
        have lR := HBRR.lt
        have lF := HBFF.lt
        have HM := hide (show MachNew base We (.agg #[.int .i64 ((k : Int) + 1), .slice A5 k c5, .slice (some ⟨G, 0, none⟩) 1 1]) (litM lu lo wt) by
          obtain ⟨A', c', e', hkc, hcm⟩ := own_value hown
          injection e' with _ _ e'
          have hl := litArcs_len lu lo k
          have HFG := lit_own_fin bG
          have h := MachNew.of_own (m := litM lu lo wt) (lo := base) (A := A5) (ca := c5) (AF := some ⟨G, 0, none⟩) (cf := 1) (w := We) (base := base) (b2 := G) (eA := 50) (eF := 48) (by show We.ownsRow base 50 5 (.slice A5 (litArcs lu lo (litN lu lo)).length c5) (litArcs lu lo (litN lu lo)).length (arcRow (litArcs lu lo (litN lu lo))); rw [← HLN.out, hl]; exact hown) (by show We.ownsRow G 48 2 (.slice (some ⟨G, 0, none⟩) 1 1) 1 (finRow [⟨(litN lu lo : Int), wt⟩]); rw [← HLN.out]; exact HFG) (Nat.le_refl _) hGb (by show (litArcs lu lo (litN lu lo)).length ≤ c5; rw [← HLN.out, hl, e']; exact hkc) (Nat.le_refl _) (by show (litArcs lu lo (litN lu lo)).length ≤ big; rw [← HLN.out, hl]; unfold big; omega) (by show 1 ≤ big; simp [big])
          have e2 : (Value.slice A5 (litM lu lo wt).arcs.length c5) = .slice A5 k c5 := by show Value.slice A5 (litArcs lu lo (litN lu lo)).length c5 = _; rw [← HLN.out, hl]
          have e3 : (litM lu lo wt).n = (k : Int) + 1 := by show (litN lu lo : Int) + 1 = _; rw [← HLN.out]
          rw [e2, e3] at h
          exact h)
        clear bG bOe hown hbe
        go_wp2
        refine bodyPost_ret (v := .tuple #[.agg #[.int .i64 ((k : Int) + 1), .slice A5 k c5, .slice (some ⟨G, 0, none⟩) 1 1], .agg #[.int .i64 0, .int .i64 0]]) (by simp [results, Try.results18, go_sem, lR, lF, q0, q1, q2, q3, q4, qf, qf1, qf2, qf3, qf4]) rfl ⟨_, rfl, ?_, ?_⟩
        · refine MachNew.mono (lo := base) ?_ (by omega)
          refine MachNew.set (MachNew.set (MachNew.set (MachNew.set (MachNew.set HM.out ?_ _) ?_ _) ?_ _) ?_ _) ?_ _ <;> (dsimp only; omega)
        · refine Below.setCell (Below.setCell (Below.setCell (Below.setCell (Below.setCell HBWE.out ?_ _) ?_ _) ?_ _) ?_ _) ?_ _ <;> (dsimp only; omega)
/-- The reference's Single, at any two words and any weight. -/
theorem single_any (v1 v2 : Value) (lu lo : List Int) (wt : Int) (w : World) (B : Nat) (hB : B ≤ w.heap.size) (h1 : Nums w B v1 lu) (h2 : Nums w B v2 lo) :
    Calls Try.prog 18 #[v1, v2, .int .i64 wt] w fun e w' => ∃ v', e = .returned (.tuple #[v', .agg #[.int .i64 (litF lu lo wt).1, .int .i64 (litF lu lo wt).2]]) ∧ MachNew w.heap.size w' v' (litR lu lo wt) ∧ Below w.heap.size w w' := by
  by_cases hw : wordF lu (-1) = (0, 0)
  · by_cases hx : wordF lo (-2) = (0, 0)
    · by_cases hz : 0 ≤ wt
      · by_cases hz2 : wt ≤ 1000000
        · have e1 : litF lu lo wt = (0, 0) := by unfold litF; rw [if_pos hw, if_pos hx, if_pos ⟨hz, hz2⟩]
          have e2 : litR lu lo wt = litM lu lo wt := by unfold litR; rw [if_pos e1]
          rw [e1, e2]
          exact sg_good v1 v2 lu lo wt w B hB h1 h2 hw hx hz hz2
        · have e1 : litF lu lo wt = (3, -3) := by unfold litF; rw [if_pos hw, if_pos hx, if_neg (by omega)]
          have e2 : litR lu lo wt = emptyM := by unfold litR; rw [if_neg (by rw [e1]; decide)]
          rw [e1, e2]
          exact (sg_bad4 v1 v2 lu lo wt w B hB h1 h2 hw hx hz (by omega)).mono fun e w' ⟨he, hb⟩ => ⟨_, he, MachNew.empty _ _, hb⟩
      · have e1 : litF lu lo wt = (3, -3) := by unfold litF; rw [if_pos hw, if_pos hx, if_neg (by omega)]
        have e2 : litR lu lo wt = emptyM := by unfold litR; rw [if_neg (by rw [e1]; decide)]
        rw [e1, e2]
        exact (sg_bad3 v1 v2 lu lo wt w B hB h1 h2 hw hx (by omega)).mono fun e w' ⟨he, hb⟩ => ⟨_, he, MachNew.empty _ _, hb⟩
    · have e1 : litF lu lo wt = wordF lo (-2) := by unfold litF; rw [if_pos hw, if_neg hx]
      have e2 : litR lu lo wt = emptyM := by unfold litR; rw [if_neg (by rw [e1]; exact hx)]
      rw [e1, e2]
      exact (sg_bad2 v1 v2 lu lo wt w B hB h1 h2 hw hx).mono fun e w' ⟨he, hb⟩ => ⟨_, he, MachNew.empty _ _, hb⟩
  · have e1 : litF lu lo wt = wordF lu (-1) := by unfold litF; rw [if_neg hw]
    have e2 : litR lu lo wt = emptyM := by unfold litR; rw [if_neg (by rw [e1]; exact hw)]
    rw [e1, e2]
    exact (sg_bad1 v1 v2 lu lo wt w B hB h1 h2 hw).mono fun e w' ⟨he, hb⟩ => ⟨_, he, MachNew.empty _ _, hb⟩
end Go.Proofs.Ytpahodbnljpnnaa
