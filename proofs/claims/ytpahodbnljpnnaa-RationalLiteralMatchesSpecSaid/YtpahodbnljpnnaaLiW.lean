/- rational.Literal, walked. -/
import Derived.Test.YtpahodbnljpnnaaUnW
import Derived.Test.YtpahodbnljpnnaaLiD
import Derived.Deep.CutRange
import Derived.IntWalk
namespace Go.Proofs.Ytpahodbnljpnnaa
open Go.RowKit Gm Go.Sort Go.Shelf
set_option linter.unusedSimpArgs false
set_option linter.unusedVariables false
theorem label_any (v : Value) (l : List Int) (i : Nat) (w : World) (B : Nat) (hB : B ≤ w.heap.size) (hi : i ≤ 1000) (h : Nums w B v l) :
    Calls Try.prog 40 #[v, .int .i64 (i : Int)] w fun e w' => e = .returned (.int .i64 (l.getD i 0)) ∧ w = w' := by
  obtain ⟨A, n, c, rfl, HN, hnc, hnb, hrd⟩ := h
  unfold big at hnb
  by_cases hin : i < n
  · obtain ⟨b, off, x, rfl, hb, hc, HX⟩ := num_at hrd hin
    have t1 : decide ((i : Int) < (n : Int)) = true := decide_eq_true (by omega)
    have i0 : (0 : Int) ≤ (i : Int) := by omega
    have i1 : (i : Int) < (n : Int) := by omega
    have lb : b < w.heap.size := by omega
    rw [HX.out]
    clear hrd
    go_enter Try.func40, Try.ntmps40
    go_wp2
    go_ret
    exact ⟨rfl, rfl⟩
  · have e : l.getD i 0 = 0 := by simp [List.getD, List.getElem?_eq_none (show l.length ≤ i by rw [HN.out]; omega)]
    have t1 : decide ((i : Int) < (n : Int)) = false := decide_eq_false (by omega)
    rw [e]
    clear hrd e
    go_enter Try.func40, Try.ntmps40
    go_wp2
    go_ret
    exact ⟨rfl, rfl⟩
theorem lit_own_fin {w : World} {g : Nat} {a b : Int} (h : Blk w g 48 #[.int .i64 a, .int .i64 b]) : w.ownsRow g 48 2 (.slice (some ⟨g, 0, none⟩) 1 1) 1 (finRow [⟨a, b⟩]) :=
  ⟨rfl, .inr ⟨g, 1, #[.int .i64 a, .int .i64 b], rfl, Nat.le_refl _, h, Nat.le_refl _, by simp [maxLen], rfl, rfl⟩⟩
set_option maxRecDepth 100000 in
set_option maxHeartbeats 4000000 in
theorem lit_bad1 (v1 v2 : Value) (lu lo : List Int) (wt : Int) (w : World) (B : Nat) (hB : B ≤ w.heap.size) (h1 : Nums w B v1 lu) (h2 : Nums w B v2 lo) (hz : wordF lu (-1) ≠ (0, 0)) :
    Calls Try.prog 16 #[v1, v2, .int .i64 wt] w fun e w' => e = .returned (.tuple #[.agg #[.int .i64 0, .slice none 0 0, .slice none 0 0], .agg #[.int .i64 (wordF lu (-1)).1, .int .i64 (wordF lu (-1)).2]]) ∧ Below w.heap.size w w' := by
  have HU := hide h1
  have HO := hide h2
  obtain ⟨A1, nu, cc1, rfl, HNU, hu1, hu2, hru⟩ := h1
  obtain ⟨A2, no, cc2, rfl, HNO, ho1, ho2, hro⟩ := h2
  have hne := fun a b c d W => run_neq_fault a b c d W
  have hf0 : fEq 0 0 0 0 = true := rfl
  have hQU := fun W (hB : B ≤ W.heap.size) (h : Nums W B (.slice A1 nu cc1) lu) => qright_any _ lu (-1) W B hB h
  have hQO := fun W (hB : B ≤ W.heap.size) (h : Nums W B (.slice A2 no cc2) lo) => qright_any _ lo (-2) W B hB h
  have hz0 : fEq (wordF lu (-1)).1 (wordF lu (-1)).2 0 0 = false := by
    cases e : fEq (wordF lu (-1)).1 (wordF lu (-1)).2 0 0
    · rfl
    · exact absurd (fEq0R.1 e) hz
  obtain ⟨p, hp⟩ : ∃ p, p = (wordF lu (-1)).1 := ⟨_, rfl⟩
  obtain ⟨q, hq⟩ : ∃ p, p = (wordF lu (-1)).2 := ⟨_, rfl⟩
  rw [← hp, ← hq] at hQU hz0 ⊢
  have HQU := hide hQU
  clear hp hq hz hQU hQO hru hro
  go_enter Try.func16, Try.ntmps16
  go_wp2_with fail
  refine (HQU.out _ (by simp; omega) (HU.out.below (show Below w.heap.size w _ by go_grown) hB)).mono ?_
  rintro e w1 ⟨rfl, hb1⟩
  have hbw1 : Below w.heap.size w w1 := Below.trans (show Below w.heap.size w _ by go_grown) (hb1.mono (by simp; omega))
  have bR1 : Blk w1 w.heap.size 25 #[.int .i64 0, .slice none 0 0, .slice none 0 0] := ((Blk.new w _ _).alloc _).below hb1 (by simp; omega)
  have bF1 : Blk w1 (w.heap.size + 1) 29 #[.int .i64 0, .int .i64 0] := (Blk.at_ (by simp)).below hb1 (by simp)
  clear hb1 HQU
  have q0 := bR1.cell 0
  have q1 := bR1.cell 1
  have q2 := bR1.cell 2
  have q3 := bF1.cell 0
  have q4 := bF1.cell 1
  have qf := bR1.frozen 0
  have qf1 := bR1.frozen 1
  have qf2 := bR1.frozen 2
  have qf3 := bF1.frozen 0
  have qf4 := bF1.frozen 1
  simp at q0 q1 q2 q3 q4
  have hs3 := bR1.lt
  have hs4 := bF1.lt
  have hs5 := hbw1.size
  clear bR1 bF1
  go_wp2
  refine wp_mix (fun w' => w'.cell? ⟨w1.heap.size, 0, none⟩ = some (.int .i64 p) ∧ w'.cell? ⟨w1.heap.size, 1, none⟩ = some (.int .i64 q)) 3 [(0, false), (1, false), (2, true)] (by kernel_rfl) (by kernel_rfl) ?_ ?_
  · go_simp
  simp only [List.drop_succ_cons, List.drop_zero]
  repeat (refine mix_q (v := ?_) (by rfl) (by rfl) ?_ ?_; rotate_left; (focus (intro w' hC; (try dsimp only at hC); go_simp; (first | done | with_reducible rfl))); simp only [Act.put, List.setIfInBounds_toArray, List.set_cons_zero, List.set_cons_succ])
  refine mix_l (by rfl) (by rfl) (fun K hK => ?_)
  go_simp
  refine hK _ _ (by go_simp) ?_
  clear hK K
  refine mix_nil ?_; try simp only [Act.put, List.setIfInBounds_toArray, List.set_cons_zero, List.set_cons_succ]
  go_wp2
  refine NoPanic.normal ?_
  go_wp2
  exact bodyPost_ret (v := .tuple #[.agg #[.int .i64 0, .slice none 0 0, .slice none 0 0], .agg #[.int .i64 p, .int .i64 q]]) (by simp [results, Try.results16, go_sem, q0, q1, q2, q3, q4, qf, qf1, qf2, qf3, qf4, hs3, hs4]) rfl ⟨rfl, by go_grown⟩
set_option maxRecDepth 100000 in
set_option maxHeartbeats 4000000 in
theorem lit_bad2 (v1 v2 : Value) (lu lo : List Int) (wt : Int) (w : World) (B : Nat) (hB : B ≤ w.heap.size) (h1 : Nums w B v1 lu) (h2 : Nums w B v2 lo) (hw : wordF lu (-1) = (0, 0)) (hz : wordF lo (-2) ≠ (0, 0)) :
    Calls Try.prog 16 #[v1, v2, .int .i64 wt] w fun e w' => e = .returned (.tuple #[.agg #[.int .i64 0, .slice none 0 0, .slice none 0 0], .agg #[.int .i64 (wordF lo (-2)).1, .int .i64 (wordF lo (-2)).2]]) ∧ Below w.heap.size w w' := by
  have HU := hide h1
  have HO := hide h2
  obtain ⟨A1, nu, cc1, rfl, HNU, hu1, hu2, hru⟩ := h1
  obtain ⟨A2, no, cc2, rfl, HNO, ho1, ho2, hro⟩ := h2
  have hne := fun a b c d W => run_neq_fault a b c d W
  have hf0 : fEq 0 0 0 0 = true := rfl
  have hQU := fun W (hB : B ≤ W.heap.size) (h : Nums W B (.slice A1 nu cc1) lu) => qright_any _ lu (-1) W B hB h
  have hQO := fun W (hB : B ≤ W.heap.size) (h : Nums W B (.slice A2 no cc2) lo) => qright_any _ lo (-2) W B hB h
  rw [hw] at hQU
  have hz0 : fEq (wordF lo (-2)).1 (wordF lo (-2)).2 0 0 = false := by
    cases e : fEq (wordF lo (-2)).1 (wordF lo (-2)).2 0 0
    · rfl
    · exact absurd (fEq0R.1 e) hz
  obtain ⟨p, hp⟩ : ∃ p, p = (wordF lo (-2)).1 := ⟨_, rfl⟩
  obtain ⟨q, hq⟩ : ∃ p, p = (wordF lo (-2)).2 := ⟨_, rfl⟩
  rw [← hp, ← hq] at hQO hz0 ⊢
  have HQU := hide hQU
  have HQO := hide hQO
  clear hp hq hz hQU hQO hru hro hw
  go_enter Try.func16, Try.ntmps16
  go_wp2_with fail
  refine (HQU.out _ (by simp; omega) (HU.out.below (show Below w.heap.size w _ by go_grown) hB)).mono ?_
  rintro e w1 ⟨rfl, hb1⟩
  have hbw1 : Below w.heap.size w w1 := Below.trans (show Below w.heap.size w _ by go_grown) (hb1.mono (by simp; omega))
  have bR1 : Blk w1 w.heap.size 25 #[.int .i64 0, .slice none 0 0, .slice none 0 0] := ((Blk.new w _ _).alloc _).below hb1 (by simp; omega)
  have bF1 : Blk w1 (w.heap.size + 1) 29 #[.int .i64 0, .int .i64 0] := (Blk.at_ (by simp)).below hb1 (by simp)
  clear hb1 HQU
  go_wp2_with fail
  refine (HQO.out _ (by have := hbw1.size; simp; omega) (HO.out.below (hbw1.alloc hbw1.size _) hB)).mono ?_
  rintro e w2 ⟨rfl, hb2⟩
  have hbw2 := (hbw1.alloc hbw1.size _).trans (hb2.mono (by have := hbw1.size; simp; omega))
  have bR2 := (bR1.alloc _).below hb2 (by have := bR1.lt; simp; omega)
  have bF2 := (bF1.alloc _).below hb2 (by have := bF1.lt; simp; omega)
  clear hb2 HQO hbw1 bR1 bF1
  have q0 := bR2.cell 0
  have q1 := bR2.cell 1
  have q2 := bR2.cell 2
  have q3 := bF2.cell 0
  have q4 := bF2.cell 1
  have qf := bR2.frozen 0
  have qf1 := bR2.frozen 1
  have qf2 := bR2.frozen 2
  have qf3 := bF2.frozen 0
  have qf4 := bF2.frozen 1
  simp at q0 q1 q2 q3 q4
  have hs3 := bR2.lt
  have hs4 := bF2.lt
  have hs5 := hbw2.size
  clear bR2 bF2
  go_wp2
  refine wp_mix (fun w' => w'.cell? ⟨w2.heap.size, 0, none⟩ = some (.int .i64 p) ∧ w'.cell? ⟨w2.heap.size, 1, none⟩ = some (.int .i64 q)) 3 [(0, false), (1, false), (2, true)] (by kernel_rfl) (by kernel_rfl) ?_ ?_
  · go_simp
  simp only [List.drop_succ_cons, List.drop_zero]
  repeat (refine mix_q (v := ?_) (by rfl) (by rfl) ?_ ?_; rotate_left; (focus (intro w' hC; (try dsimp only at hC); go_simp; (first | done | with_reducible rfl))); simp only [Act.put, List.setIfInBounds_toArray, List.set_cons_zero, List.set_cons_succ])
  refine mix_l (by rfl) (by rfl) (fun K hK => ?_)
  go_simp
  refine hK _ _ (by go_simp) ?_
  clear hK K
  refine mix_nil ?_; try simp only [Act.put, List.setIfInBounds_toArray, List.set_cons_zero, List.set_cons_succ]
  go_wp2
  refine NoPanic.normal ?_
  go_wp2
  exact bodyPost_ret (v := .tuple #[.agg #[.int .i64 0, .slice none 0 0, .slice none 0 0], .agg #[.int .i64 p, .int .i64 q]]) (by simp [results, Try.results16, go_sem, q0, q1, q2, q3, q4, qf, qf1, qf2, qf3, qf4, hs3, hs4]) rfl ⟨rfl, by go_grown⟩
set_option maxRecDepth 100000 in
set_option maxHeartbeats 4000000 in
theorem lit_bad3 (v1 v2 : Value) (lu lo : List Int) (wt : Int) (w : World) (B : Nat) (hB : B ≤ w.heap.size) (h1 : Nums w B v1 lu) (h2 : Nums w B v2 lo) (hw : wordF lu (-1) = (0, 0)) (hx : wordF lo (-2) = (0, 0)) (hz : wt < 0) :
    Calls Try.prog 16 #[v1, v2, .int .i64 wt] w fun e w' => e = .returned (.tuple #[.agg #[.int .i64 0, .slice none 0 0, .slice none 0 0], .agg #[.int .i64 3, .int .i64 (-3)]]) ∧ Below w.heap.size w w' := by
  have HU := hide h1
  have HO := hide h2
  obtain ⟨A1, nu, cc1, rfl, HNU, hu1, hu2, hru⟩ := h1
  obtain ⟨A2, no, cc2, rfl, HNO, ho1, ho2, hro⟩ := h2
  have hne := fun a b c d W => run_neq_fault a b c d W
  have hf0 : fEq 0 0 0 0 = true := rfl
  have hQU := fun W (hB : B ≤ W.heap.size) (h : Nums W B (.slice A1 nu cc1) lu) => qright_any _ lu (-1) W B hB h
  have hQO := fun W (hB : B ≤ W.heap.size) (h : Nums W B (.slice A2 no cc2) lo) => qright_any _ lo (-2) W B hB h
  rw [hw] at hQU
  rw [hx] at hQO
  have t1 : decide (wt < 0) = true := decide_eq_true hz
  clear hz
  have HQU := hide hQU
  have HQO := hide hQO
  clear hQU hQO hru hro hw hx
  go_enter Try.func16, Try.ntmps16
  go_wp2_with fail
  refine (HQU.out _ (by simp; omega) (HU.out.below (show Below w.heap.size w _ by go_grown) hB)).mono ?_
  rintro e w1 ⟨rfl, hb1⟩
  have hbw1 : Below w.heap.size w w1 := Below.trans (show Below w.heap.size w _ by go_grown) (hb1.mono (by simp; omega))
  have bR1 : Blk w1 w.heap.size 25 #[.int .i64 0, .slice none 0 0, .slice none 0 0] := ((Blk.new w _ _).alloc _).below hb1 (by simp; omega)
  have bF1 : Blk w1 (w.heap.size + 1) 29 #[.int .i64 0, .int .i64 0] := (Blk.at_ (by simp)).below hb1 (by simp)
  clear hb1 HQU
  go_wp2_with fail
  refine (HQO.out _ (by have := hbw1.size; simp; omega) (HO.out.below (hbw1.alloc hbw1.size _) hB)).mono ?_
  rintro e w2 ⟨rfl, hb2⟩
  have hbw2 := (hbw1.alloc hbw1.size _).trans (hb2.mono (by have := hbw1.size; simp; omega))
  have bR2 := (bR1.alloc _).below hb2 (by have := bR1.lt; simp; omega)
  have bF2 := (bF1.alloc _).below hb2 (by have := bF1.lt; simp; omega)
  clear hb2 HQO hbw1 bR1 bF1
  have hbz2 := hbw2.size
  go_wp2_with fail
  refine (qfault_any _ _ _).mono ?_
  rintro e w3 ⟨rfl, hb3⟩
  have bR3 := (bR2.alloc _).below hb3 (by have := bR2.lt; simp; omega)
  have bF3 := (bF2.alloc _).below hb3 (by have := bF2.lt; simp; omega)
  have hbw3 := (hbw2.alloc hbw2.size _).trans (hb3.mono (by simp; omega))
  clear hb3 bR2 bF2
  have q0 := bR3.cell 0
  have q1 := bR3.cell 1
  have q2 := bR3.cell 2
  have q3 := bF3.cell 0
  have q4 := bF3.cell 1
  have qf := bR3.frozen 0
  have qf1 := bR3.frozen 1
  have qf2 := bR3.frozen 2
  have qf3 := bF3.frozen 0
  have qf4 := bF3.frozen 1
  simp at q0 q1 q2 q3 q4
  have hs3 := bR3.lt
  have hs4 := bF3.lt
  clear bR3 bF3
  go_wp2
  refine bodyPost_ret (v := .tuple #[.agg #[.int .i64 0, .slice none 0 0, .slice none 0 0], .agg #[.int .i64 3, .int .i64 (-3)]]) (by simp [results, Try.results16, go_sem, q0, q1, q2, q3, q4, qf, qf1, qf2, qf3, qf4, hs3, hs4]) rfl ⟨rfl, by go_grown⟩
set_option maxRecDepth 100000 in
set_option maxHeartbeats 4000000 in
theorem lit_bad4 (v1 v2 : Value) (lu lo : List Int) (wt : Int) (w : World) (B : Nat) (hB : B ≤ w.heap.size) (h1 : Nums w B v1 lu) (h2 : Nums w B v2 lo) (hw : wordF lu (-1) = (0, 0)) (hx : wordF lo (-2) = (0, 0)) (hz : 0 ≤ wt) (hz2 : 1000000 < wt) :
    Calls Try.prog 16 #[v1, v2, .int .i64 wt] w fun e w' => e = .returned (.tuple #[.agg #[.int .i64 0, .slice none 0 0, .slice none 0 0], .agg #[.int .i64 3, .int .i64 (-3)]]) ∧ Below w.heap.size w w' := by
  have HU := hide h1
  have HO := hide h2
  obtain ⟨A1, nu, cc1, rfl, HNU, hu1, hu2, hru⟩ := h1
  obtain ⟨A2, no, cc2, rfl, HNO, ho1, ho2, hro⟩ := h2
  have hne := fun a b c d W => run_neq_fault a b c d W
  have hf0 : fEq 0 0 0 0 = true := rfl
  have hQU := fun W (hB : B ≤ W.heap.size) (h : Nums W B (.slice A1 nu cc1) lu) => qright_any _ lu (-1) W B hB h
  have hQO := fun W (hB : B ≤ W.heap.size) (h : Nums W B (.slice A2 no cc2) lo) => qright_any _ lo (-2) W B hB h
  rw [hw] at hQU
  rw [hx] at hQO
  have t1 : decide (wt < 0) = false := decide_eq_false (by omega)
  have t2 : decide (wt > 1000000) = true := decide_eq_true hz2
  have t2' : decide (1000000 < wt) = true := decide_eq_true hz2
  have HQU := hide hQU
  have HQO := hide hQO
  clear hQU hQO hru hro hw hx
  go_enter Try.func16, Try.ntmps16
  go_wp2_with fail
  refine (HQU.out _ (by simp; omega) (HU.out.below (show Below w.heap.size w _ by go_grown) hB)).mono ?_
  rintro e w1 ⟨rfl, hb1⟩
  have hbw1 : Below w.heap.size w w1 := Below.trans (show Below w.heap.size w _ by go_grown) (hb1.mono (by simp; omega))
  have bR1 : Blk w1 w.heap.size 25 #[.int .i64 0, .slice none 0 0, .slice none 0 0] := ((Blk.new w _ _).alloc _).below hb1 (by simp; omega)
  have bF1 : Blk w1 (w.heap.size + 1) 29 #[.int .i64 0, .int .i64 0] := (Blk.at_ (by simp)).below hb1 (by simp)
  clear hb1 HQU
  go_wp2_with fail
  refine (HQO.out _ (by have := hbw1.size; simp; omega) (HO.out.below (hbw1.alloc hbw1.size _) hB)).mono ?_
  rintro e w2 ⟨rfl, hb2⟩
  have hbw2 := (hbw1.alloc hbw1.size _).trans (hb2.mono (by have := hbw1.size; simp; omega))
  have bR2 := (bR1.alloc _).below hb2 (by have := bR1.lt; simp; omega)
  have bF2 := (bF1.alloc _).below hb2 (by have := bF1.lt; simp; omega)
  clear hb2 HQO hbw1 bR1 bF1
  have hbz2 := hbw2.size
  go_wp2_with fail
  refine (qfault_any _ _ _).mono ?_
  rintro e w3 ⟨rfl, hb3⟩
  have bR3 := (bR2.alloc _).below hb3 (by have := bR2.lt; simp; omega)
  have bF3 := (bF2.alloc _).below hb3 (by have := bF2.lt; simp; omega)
  have hbw3 := (hbw2.alloc hbw2.size _).trans (hb3.mono (by simp; omega))
  clear hb3 bR2 bF2
  have q0 := bR3.cell 0
  have q1 := bR3.cell 1
  have q2 := bR3.cell 2
  have q3 := bF3.cell 0
  have q4 := bF3.cell 1
  have qf := bR3.frozen 0
  have qf1 := bR3.frozen 1
  have qf2 := bR3.frozen 2
  have qf3 := bF3.frozen 0
  have qf4 := bF3.frozen 1
  simp at q0 q1 q2 q3 q4
  have hs3 := bR3.lt
  have hs4 := bF3.lt
  clear bR3 bF3
  go_wp2
  refine bodyPost_ret (v := .tuple #[.agg #[.int .i64 0, .slice none 0 0, .slice none 0 0], .agg #[.int .i64 3, .int .i64 (-3)]]) (by simp [results, Try.results16, go_sem, q0, q1, q2, q3, q4, qf, qf1, qf2, qf3, qf4, hs3, hs4]) rfl ⟨rfl, by go_grown⟩
set_option maxRecDepth 100000 in
set_option maxHeartbeats 4000000 in
theorem lit_good (v1 v2 : Value) (lu lo : List Int) (wt : Int) (w : World) (B : Nat) (hB : B ≤ w.heap.size) (h1 : Nums w B v1 lu) (h2 : Nums w B v2 lo) (hw : wordF lu (-1) = (0, 0)) (hx : wordF lo (-2) = (0, 0)) (hz : 0 ≤ wt) (hz2 : wt ≤ 1000000) :
    Calls Try.prog 16 #[v1, v2, .int .i64 wt] w fun e w' => ∃ v', e = .returned (.tuple #[v', .agg #[.int .i64 0, .int .i64 0]]) ∧ MachNew w.heap.size w' v' (litM lu lo wt) ∧ Below w.heap.size w w' := by
  have HU := hide h1
  have HO := hide h2
  obtain ⟨A1, nu, cc1, rfl, HNU, hu1, hu2, hru⟩ := h1
  obtain ⟨A2, no, cc2, rfl, HNO, ho1, ho2, hro⟩ := h2
  have hne := fun a b c d W => run_neq_fault a b c d W
  have hf0 : fEq 0 0 0 0 = true := rfl
  have hQU := fun W (hB : B ≤ W.heap.size) (h : Nums W B (.slice A1 nu cc1) lu) => qright_any _ lu (-1) W B hB h
  have hQO := fun W (hB : B ≤ W.heap.size) (h : Nums W B (.slice A2 no cc2) lo) => qright_any _ lo (-2) W B hB h
  rw [hw] at hQU
  rw [hx] at hQO
  have t1 : decide (wt < 0) = false := decide_eq_false (by omega)
  have t2 : decide (wt > 1000000) = false := decide_eq_false (by omega)
  have t2' : decide (1000000 < wt) = false := decide_eq_false (by omega)
  have hu30 := (wordF_zero (l := lu) (ix := -1) (by rw [hw])).2.1
  have ho30 := (wordF_zero (l := lo) (ix := -2) (by rw [hx])).2.1
  rw [HNU.out] at hu30
  rw [HNO.out] at ho30
  have HQU := hide hQU
  have HQO := hide hQO
  obtain ⟨N, hN⟩ : ∃ N, N = litN lu lo := ⟨_, rfl⟩
  have hNd : N = if nu < no then no else nu := by rw [hN, litN, HNU.out, HNO.out]
  have HND := hide hNd
  have hN30 : N ≤ 30 := by rw [hNd]; split <;> omega
  have HLN := hide hN
  obtain ⟨ia, ha0, ha1, ha2, ha3⟩ := info_parts arc_info
  clear hQU hQO hru hro hw hx hN hNd
  go_enter Try.func16, Try.ntmps16
  go_wp2_with fail
  refine (HQU.out _ (by simp; omega) (HU.out.below (show Below w.heap.size w _ by go_grown) hB)).mono ?_
  rintro e w1 ⟨rfl, hb1⟩
  have hbw1 : Below w.heap.size w w1 := Below.trans (show Below w.heap.size w _ by go_grown) (hb1.mono (by simp; omega))
  have bR1 : Blk w1 w.heap.size 25 #[.int .i64 0, .slice none 0 0, .slice none 0 0] := ((Blk.new w _ _).alloc _).below hb1 (by simp; omega)
  have bF1 : Blk w1 (w.heap.size + 1) 29 #[.int .i64 0, .int .i64 0] := (Blk.at_ (by simp)).below hb1 (by simp)
  clear hb1 HQU
  go_wp2_with fail
  refine (HQO.out _ (by have := hbw1.size; simp; omega) (HO.out.below (hbw1.alloc hbw1.size _) hB)).mono ?_
  rintro e w2 ⟨rfl, hb2⟩
  have hbw2 := (hbw1.alloc hbw1.size _).trans (hb2.mono (by have := hbw1.size; simp; omega))
  have bR2 := (bR1.alloc _).below hb2 (by have := bR1.lt; simp; omega)
  have bF2 := (bF1.alloc _).below hb2 (by have := bF1.lt; simp; omega)
  clear hb2 HQO hbw1 bR1 bF1
  go_upto_region 9 with fail
  generalize hW2 : World.alloc _ _ = W2
  have HBW := hide (show Below w.heap.size w W2 by rw [← hW2]; exact hbw2.alloc hbw2.size _)
  have HBR := hide (show Blk W2 w.heap.size 25 #[.int .i64 0, .slice none 0 0, .slice none 0 0] by rw [← hW2]; exact bR2.alloc _)
  have HBF := hide (show Blk W2 (w.heap.size + 1) 29 #[.int .i64 0, .int .i64 0] by rw [← hW2]; exact bF2.alloc _)
  clear hW2 hbw2 bR2 bF2
  unfold big at hu2 ho2
  go_cut [10] from 11 (fun s10 wx => s10 = .int .i64 (N : Int) ∧ wx = W2)
  case first =>
    by_cases hlt : nu < no
    · have t3 : ((no : Int) > (nu : Int)) := by omega
      have HV := hide (show N = no by rw [HND.out, if_pos hlt])
      go_wp21
      go_meet
      exact ⟨by rw [HV.out, show max (nu : Int) (no : Int) = (no : Int) by omega], rfl⟩
    · have t3 : ¬ ((no : Int) > (nu : Int)) := by omega
      have HV := hide (show N = nu by rw [HND.out, if_neg hlt])
      go_wp21
      go_meet
      exact ⟨by rw [HV.out, show max (nu : Int) (no : Int) = (nu : Int) by omega], rfl⟩
  case rest =>
  obtain ⟨rfl, rfl⟩ := hcut
  go_wp2
  generalize hW3 : World.alloc _ _ = W3
  obtain ⟨G, hG⟩ : ∃ O, O = wc.heap.size := ⟨_, rfl⟩
  obtain ⟨O, hO⟩ : ∃ O, O = wc.heap.size + 1 := ⟨_, rfl⟩
  obtain ⟨base, hbase⟩ : ∃ O, O = wc.heap.size + 1 + 1 := ⟨_, rfl⟩
  have hp0 : w.heap.size + 1 < G := by have := HBF.out.lt; omega
  have HBW3 := hide (show Below w.heap.size w W3 by rw [← hW3]; exact (HBW.out.alloc HBW.out.size _).alloc (by have := HBW.out.size; simp; omega) _)
  have HBR3 := hide (show Blk W3 w.heap.size 25 #[.int .i64 0, .slice none 0 0, .slice none 0 0] by rw [← hW3]; exact (HBR.out.alloc _).alloc _)
  have HBF3 := hide (show Blk W3 (w.heap.size + 1) 29 #[.int .i64 0, .int .i64 0] by rw [← hW3]; exact (HBF.out.alloc _).alloc _)
  have HBG3 := hide (show Blk W3 G 48 #[.int .i64 (N : Int), .int .i64 wt] by rw [← hW3]; exact (Blk.at_ hG).alloc _)
  have bO3 : Blk W3 O 25 #[.int .i64 ((N : Int) + 1), .slice none 0 0, .slice (some ⟨G, 0, none⟩) 1 1] := by rw [← hW3, hG]; exact Blk.at_ (by rw [hO]; simp)
  have hz3 : W3.heap.size = base := by rw [← hW3, hbase]; simp
  have hOb : base = O + 1 := by omega
  have hGO : O = G + 1 := by omega
  simp only [← hO]
  simp only [← hG]
  have hOb2 : O < base := by omega
  have hGO2 : G < O := by omega
  have hbz3 : base ≤ W3.heap.size := by omega
  have HOL := hide (⟨none, 0, bO3, World.ownsRow_nil _ _ _ _⟩ : ∃ A c, Blk W3 O 25 #[.int .i64 ((N : Int) + 1), .slice A 0 c, .slice (some ⟨G, 0, none⟩) 1 1] ∧ W3.ownsRow base 50 5 (.slice A 0 c) 0 (arcRow (litArcs lu lo 0)))
  clear hW3 hz3 hbase hO hG hOb hGO bO3 HBW HBR HBF
  go_loopw [48] (fun iv wr => ∃ k : Nat, k ≤ N ∧ iv = .int .i64 k ∧ Hid (∃ A c, Blk wr O 25 #[.int .i64 ((N : Int) + 1), .slice A k c, .slice (some ⟨G, 0, none⟩) 1 1] ∧ wr.ownsRow base 50 5 (.slice A k c) k (arcRow (litArcs lu lo k))) ∧ Hid (Below O W3 wr) ∧ base ≤ wr.heap.size) (fun iv _ => N - (intOf iv).toNat)
  case atStart => exact ⟨0, by omega, rfl, HOL, hide (Below.refl _ _), hbz3⟩
  case round =>
    clear HOL hbz3
    obtain ⟨k, hk, rfl, HOL, HBL, hz⟩ := hrel
    obtain ⟨A5, c5, bO5, hown5⟩ := HOL.out
    have lO := bO5.lt
    have o1 := bO5.cell 1
    simp at o1
    have HBKO := hide bO5
    have HOWN := hide hown5
    have hlow : ∀ q, (Value.slice A5 k c5).ownBlock = some q → base ≤ q := fun q hq => (hown5.lt q hq).1
    have HLOW := hide hlow
    have hneO : (Value.slice A5 k c5).ownBlock ≠ some O := fun e => by have := hlow _ e; omega
    have HBWR := hide (HBW3.out.trans (HBL.out.mono (by omega)))
    clear hlow HOL bO5 hown5
    by_cases hkn : k < N
    · have ek : (k : Int) < (N : Int) := by omega
      have ek0 : (0 : Int) ≤ (k : Int) := by omega
      have ek1 : (k : Int) ≤ 30 := by omega
      obtain ⟨li, hli⟩ : ∃ z, z = lu.getD k 0 := ⟨_, rfl⟩
      obtain ⟨lj, hlj⟩ : ∃ z, z = lo.getD k 0 := ⟨_, rfl⟩
      have HLA := hide (fun (W : World) (hB : B ≤ W.heap.size) (h : Nums W B (.slice A1 nu cc1) lu) => label_any _ lu k W B hB (by omega) h)
      have HLB := hide (fun (W : World) (hB : B ≤ W.heap.size) (h : Nums W B (.slice A2 no cc2) lo) => label_any _ lo k W B hB (by omega) h)
      rw [← hli] at HLA
      rw [← hlj] at HLB
      have HAR := hide (show litArc lu lo k = ⟨(k : Int), (k : Int) + 1, li, lj, 0⟩ by rw [hli, hlj]; rfl)
      clear hli hlj
      have hwk : IntKind.i64.wrap ((k : Int) + 1) = (k : Int) + 1 := IntWalk.i64_in _ (by omega)
      go_wp2
      refine wp_mix (fun w' => w'.cell? ⟨O, 1, none⟩ = some (.slice A5 k c5)) 13 [(0, false), (1, false), (2, false), (3, false), (4, false), (6, false), (7, false), (9, false), (10, false), (5, true), (8, true), (11, false), (12, true)] (by kernel_rfl) (by kernel_rfl) ?_ ?_
      · go_simp
      simp only [List.drop_succ_cons, List.drop_zero]
      repeat (refine mix_q (v := ?_) (by rfl) (by rfl) ?_ ?_; rotate_left; (focus (intro w' hC; (try dsimp only at hC); go_simp; (first | done | with_reducible rfl))); simp only [Act.put, List.setIfInBounds_toArray, List.set_cons_zero, List.set_cons_succ])
      refine mix_l (by rfl) (by rfl) (fun K hK => ?_)
      go_simp
      refine (HLA.out _ (by have := HBWR.out.size; simp; omega) (HU.out.below HBWR.out.drew hB)).mono ?_
      rintro e w' ⟨rfl, rfl⟩
      refine hK _ _ (by go_simp) ?_
      clear hK K
      refine mix_l (by rfl) (by rfl) (fun K hK => ?_)
      go_simp
      refine (HLB.out _ (by have := HBWR.out.size; simp; omega) (HO.out.below HBWR.out.drew hB)).mono ?_
      rintro e w' ⟨rfl, rfl⟩
      refine hK _ _ (by go_simp) ?_
      clear hK K
      repeat (refine mix_q (v := ?_) (by rfl) (by rfl) ?_ ?_; rotate_left; (focus (intro w' hC; (try dsimp only at hC); go_simp; (first | done | with_reducible rfl))); simp only [Act.put, List.setIfInBounds_toArray, List.set_cons_zero, List.set_cons_succ])
      refine mix_l (by rfl) (by rfl) (fun K hK => ?_)
      go_simp
      refine hK _ _ (by go_simp) ?_
      clear hK K
      refine mix_nil ?_; try simp only [Act.put, List.setIfInBounds_toArray, List.set_cons_zero, List.set_cons_succ]
      go_wp2_with (at_builtin; refine wpList_append_own _ rfl (.tmp 52) (.tmp 63) 22 rfl base 50 ia _ 5 40 Try.underlying22 ha0 ha1 ha2 ha3 rfl (by omega) (.slice A5 k c5) k _ rfl ((HOWN.out.alloc _).drew) ⟨wr.heap.size, 0, none⟩ 1 1 (arcRow [⟨(k : Int), (k : Int) + 1, li, lj, 0⟩]) rfl (by rfl) (World.news_of_block (cs := (arcRow [⟨(k : Int), (k : Int) + 1, li, lj, 0⟩]).toArray) (t := 50) (fr := (0, 0)) ((Blk.at_ (by simp)).drew)) (arcRow_one _) (by simp only [maxLen]; omega) (by omega) (by simp; omega) ?_; intro v' w6 hown2 hg2 _; obtain ⟨Av, cv, rfl, hkcv, _⟩ := own_value hown2; have o1' := far_cell hg2 hneO (o := 1) (v := .slice A5 k c5) (by go_simp); have bO6 := ((HBKO.out.alloc _).drew).grown hg2 (Ne.symm hneO); have of1' := bO6.frozen 1; have lO6 := bO6.lt)
      refine NoPanic.normal ?_
      go_wp2
      have hs6 := hg2.size
      simp at hs6
      go_roundw
      case rel => exact ⟨k + 1, by omega, by go_num, hide ⟨Av, cv, bO6.set_ 1 (.slice Av (k + 1) cv), ownsRow_setCell_below (by
          rw [litArcs_succ, HAR.out, arcRow_append]
          exact hown2) (by simpa using hOb2) _⟩, hide ((((HBL.out.alloc (by omega) _).drew).grown hg2 (by simp; omega) (fun q hq => by have := HLOW.out q hq; omega)).setCell (by simp) _), by simp [World.setCell]; omega⟩
      case measure => simp [intOf]; omega
    · obtain rfl : k = N := by omega
      have HBRR := HBR3.out.below HBL.out (by omega)
      have HBFF := HBF3.out.below HBL.out (by omega)
      have HFG := hide (lit_own_fin (HBG3.out.below HBL.out (by omega)))
      have o0 := HBKO.out.cell 0
      have o2 := HBKO.out.cell 2
      simp at o0 o2
      have q0 := HBRR.cell 0
      have q1 := HBRR.cell 1
      have q2 := HBRR.cell 2
      have q3 := HBFF.cell 0
      have q4 := HBFF.cell 1
      have qf := HBRR.frozen 0
      have qf1 := HBRR.frozen 1
      have qf2 := HBRR.frozen 2
      have qf3 := HBFF.frozen 0
      have qf4 := HBFF.frozen 1
      simp at q0 q1 q2 q3 q4
      have lR := HBRR.lt
      have lF := HBFF.lt
      have HM := hide (show MachNew G wr (.agg #[.int .i64 ((k : Int) + 1), .slice A5 k c5, .slice (some ⟨G, 0, none⟩) 1 1]) (litM lu lo wt) by
        have h5 := own_monoB HOWN.out (show G ≤ base by omega)
        obtain ⟨A', c', e', hkc, hcm⟩ := own_value HOWN.out
        injection e' with _ _ e'
        have hl := litArcs_len lu lo k
        have h := MachNew.of_own (m := litM lu lo wt) (lo := G) (A := A5) (ca := c5) (AF := some ⟨G, 0, none⟩) (cf := 1) (w := wr) (base := G) (b2 := G) (eA := 50) (eF := 48) (by show wr.ownsRow G 50 5 (.slice A5 (litArcs lu lo (litN lu lo)).length c5) (litArcs lu lo (litN lu lo)).length (arcRow (litArcs lu lo (litN lu lo))); rw [← HLN.out, hl]; exact h5) (by show wr.ownsRow G 48 2 (.slice (some ⟨G, 0, none⟩) 1 1) 1 (finRow [⟨(litN lu lo : Int), wt⟩]); rw [← HLN.out]; exact HFG.out) (Nat.le_refl _) (Nat.le_refl _) (by show (litArcs lu lo (litN lu lo)).length ≤ c5; rw [← HLN.out, hl, e']; exact hkc) (Nat.le_refl _) (by show (litArcs lu lo (litN lu lo)).length ≤ big; rw [← HLN.out, hl]; unfold big; omega) (by show 1 ≤ big; simp [big])
        have e2 : (Value.slice A5 (litM lu lo wt).arcs.length c5) = .slice A5 k c5 := by show Value.slice A5 (litArcs lu lo (litN lu lo)).length c5 = _; rw [← HLN.out, hl]
        have e3 : (litM lu lo wt).n = (k : Int) + 1 := by show (litN lu lo : Int) + 1 = _; rw [← HLN.out]
        rw [e2, e3] at h
        exact h)
      go_wp2
      refine bodyPost_ret (v := .tuple #[.agg #[.int .i64 ((k : Int) + 1), .slice A5 k c5, .slice (some ⟨G, 0, none⟩) 1 1], .agg #[.int .i64 0, .int .i64 0]]) (by simp [results, Try.results16, go_sem, lR, lF, q0, q1, q2, q3, q4, qf, qf1, qf2, qf3, qf4]) rfl ⟨_, rfl, ?_, ?_⟩
      · refine MachNew.mono (lo := G) ?_ (by omega)
        refine MachNew.set (MachNew.set (MachNew.set (MachNew.set (MachNew.set HM.out ?_ _) ?_ _) ?_ _) ?_ _) ?_ _ <;> (dsimp only; omega)
      · refine Below.setCell (Below.setCell (Below.setCell (Below.setCell (Below.setCell HBWR.out ?_ _) ?_ _) ?_ _) ?_ _) ?_ _ <;> (dsimp only; omega)
/-- rational.Literal, at any two words and any weight. -/
theorem literal_any (v1 v2 : Value) (lu lo : List Int) (wt : Int) (w : World) (B : Nat) (hB : B ≤ w.heap.size) (h1 : Nums w B v1 lu) (h2 : Nums w B v2 lo) :
    Calls Try.prog 16 #[v1, v2, .int .i64 wt] w fun e w' => ∃ v', e = .returned (.tuple #[v', .agg #[.int .i64 (litF lu lo wt).1, .int .i64 (litF lu lo wt).2]]) ∧ MachNew w.heap.size w' v' (litR lu lo wt) ∧ Below w.heap.size w w' := by
  by_cases hw : wordF lu (-1) = (0, 0)
  · by_cases hx : wordF lo (-2) = (0, 0)
    · by_cases hz : 0 ≤ wt
      · by_cases hz2 : wt ≤ 1000000
        · have e1 : litF lu lo wt = (0, 0) := by unfold litF; rw [if_pos hw, if_pos hx, if_pos ⟨hz, hz2⟩]
          have e2 : litR lu lo wt = litM lu lo wt := by unfold litR; rw [if_pos e1]
          rw [e1, e2]
          exact lit_good v1 v2 lu lo wt w B hB h1 h2 hw hx hz hz2
        · have e1 : litF lu lo wt = (3, -3) := by unfold litF; rw [if_pos hw, if_pos hx, if_neg (by omega)]
          have e2 : litR lu lo wt = emptyM := by unfold litR; rw [if_neg (by rw [e1]; decide)]
          rw [e1, e2]
          exact (lit_bad4 v1 v2 lu lo wt w B hB h1 h2 hw hx hz (by omega)).mono fun e w' ⟨he, hb⟩ => ⟨_, he, MachNew.empty _ _, hb⟩
      · have e1 : litF lu lo wt = (3, -3) := by unfold litF; rw [if_pos hw, if_pos hx, if_neg (by omega)]
        have e2 : litR lu lo wt = emptyM := by unfold litR; rw [if_neg (by rw [e1]; decide)]
        rw [e1, e2]
        exact (lit_bad3 v1 v2 lu lo wt w B hB h1 h2 hw hx (by omega)).mono fun e w' ⟨he, hb⟩ => ⟨_, he, MachNew.empty _ _, hb⟩
    · have e1 : litF lu lo wt = wordF lo (-2) := by unfold litF; rw [if_pos hw, if_neg hx]
      have e2 : litR lu lo wt = emptyM := by unfold litR; rw [if_neg (by rw [e1]; exact hx)]
      rw [e1, e2]
      exact (lit_bad2 v1 v2 lu lo wt w B hB h1 h2 hw hx).mono fun e w' ⟨he, hb⟩ => ⟨_, he, MachNew.empty _ _, hb⟩
  · have e1 : litF lu lo wt = wordF lu (-1) := by unfold litF; rw [if_neg hw]
    have e2 : litR lu lo wt = emptyM := by unfold litR; rw [if_neg (by rw [e1]; exact hw)]
    rw [e1, e2]
    exact (lit_bad1 v1 v2 lu lo wt w B hB h1 h2 hw).mono fun e w' ⟨he, hb⟩ => ⟨_, he, MachNew.empty _ _, hb⟩
end Go.Proofs.Ytpahodbnljpnnaa
