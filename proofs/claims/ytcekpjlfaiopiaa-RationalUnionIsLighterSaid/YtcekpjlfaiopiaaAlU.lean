/- The law RationalUnionIsLighter, walked: it returns true. -/
import Derived.Test.YtcekpjlfaiopiaaAlW
namespace Go.Proofs.Ytcekpjlfaiopiaa
open Go.RowKit Gm Go.Sort Go.Shelf
set_option linter.unusedSimpArgs false
set_option linter.unusedVariables false
theorem finF_zero {n : Int} {k : Nat} : finF n k = (0, 0) ↔ n ≤ 400 ∧ k ≤ 2000 := by
  unfold finF
  by_cases h : 400 < n ∨ 2000 < k
  · rw [if_pos h]
    constructor
    · intro e; injection e with e _; omega
    · omega
  · rw [if_neg h]
    constructor
    · intro _; omega
    · intro _; rfl
theorem twoF_comm {a b : Mach} (h : twoF a b = (0, 0)) : twoF b a = (0, 0) := by
  obtain ⟨h1, h2⟩ := twoF_zero h
  unfold twoF; rw [if_pos h2]; exact h1
theorem uni_len_comm (a b : Mach) : (uniArcs a b).length = (uniArcs b a).length := by
  unfold uniArcs
  simp only [List.length_append, List.length_map]
  split <;> split <;> simp <;> omega
theorem uniF_zero {a b : Mach} : uniF a b = (0, 0) ↔ twoF a b = (0, 0) ∧ 1 + a.n + b.n ≤ 400 ∧ (uniArcs a b).length ≤ 2000 := by
  unfold uniF
  by_cases h : twoF a b = (0, 0)
  · rw [if_pos h, finF_zero]; exact ⟨fun g => ⟨h, g⟩, fun g => g.2⟩
  · rw [if_neg h]; exact ⟨fun g => absurd g h, fun g => absurd g.1 h⟩
theorem uniF_comm {a b : Mach} (h : uniF a b = (0, 0)) : uniF b a = (0, 0) := by
  obtain ⟨h1, h2, h3⟩ := uniF_zero.1 h
  exact uniF_zero.2 ⟨twoF_comm h1, by omega, by rw [uni_len_comm b a]; exact h3⟩
theorem uniR_of {a b : Mach} (h : uniF a b = (0, 0)) : uniR a b = ⟨1 + a.n + b.n, srtA (uniArcs a b), uniFins a b⟩ := by
  obtain ⟨h1, h2, h3⟩ := uniF_zero.1 h
  unfold uniR finM
  rw [if_pos h1, if_neg (by omega)]
theorem uni_wv {a b : Mach} (h : uniF a b = (0, 0)) (lu lo : List Int) : wv (uniR a b) lu lo = if wF a lu lo = (0, 0) then lightP (wgt a lu lo) (wgt b lu lo) else -2 := by
  obtain ⟨h1, h2, h3⟩ := uniF_zero.1 h
  obtain ⟨ga, gb⟩ := twoF_zero h1
  have hV := uni_valid (valid_of ga) (valid_of gb) h2 h3
  rw [uniR_of h]
  unfold wv
  rw [wF_valid (validate_of hV) ga lu lo, wgt_uni (valid_of ga) (valid_of gb)]
theorem uni_cases (a b : Mach) (lu lo : List Int) : (fEq (uniF a b).1 (uniF a b).2 0 0 = false ∧ fEq (uniF b a).1 (uniF b a).2 0 0 = false) ∨ (uniF a b = (0, 0) ∧ uniF b a = (0, 0) ∧ ∃ r, wv (uniR a b) lu lo = r ∧ wv (uniR b a) lu lo = r ∧
    ((wv a lu lo = -2 ∧ wv b lu lo = -2 ∧ r = -2) ∨ (-1 ≤ wv a lu lo ∧ -1 ≤ wv b lu lo ∧ lightP (wv a lu lo) (wv b lu lo) = r))) := by
  by_cases h : uniF a b = (0, 0)
  · right
    have h' := uniF_comm h
    refine ⟨h, h', _, rfl, ?_, ?_⟩
    · obtain ⟨h1, _, _⟩ := uniF_zero.1 h
      obtain ⟨ga, gb⟩ := twoF_zero h1
      rw [uni_wv h, uni_wv h', wF_valid ga gb lu lo, lightP_comm (wgt_low b lu lo) (wgt_low a lu lo)]
    · obtain ⟨h1, _, _⟩ := uniF_zero.1 h
      obtain ⟨ga, gb⟩ := twoF_zero h1
      rw [uni_wv h]
      unfold wv
      rw [wF_valid ga gb lu lo]
      by_cases hw : wF b lu lo = (0, 0)
      · rw [if_pos hw, if_pos hw, if_pos hw]
        exact .inr ⟨wgt_low _ _ _, wgt_low _ _ _, rfl⟩
      · rw [if_neg hw, if_neg hw, if_neg hw]
        exact .inl ⟨rfl, rfl, rfl⟩
  · left
    exact ⟨fEq0_false h, fEq0_false (fun g => h (uniF_comm g))⟩
set_option maxRecDepth 100000 in
set_option maxHeartbeats 4000000 in
theorem ulaw_any (va vb v1 v2 : Value) (a b : Mach) (lu lo : List Int) (w : World) (B : Nat) (hB : B ≤ w.heap.size) (ha : MachAt w B va a) (hb : MachAt w B vb b) (h1 : Nums w B v1 lu) (h2 : Nums w B v2 lo) :
    Calls Try.prog 3 #[va, vb, v1, v2] w fun e w' => e = .returned (.bool true) ∧ Below w.heap.size w w' := by
  have HA := hide ha
  have HB := hide hb
  have HU := hide h1
  have HO := hide h2
  obtain ⟨A, AF, n, c, nf, cf, rfl, _⟩ := ha
  obtain ⟨A', AF', n', c', nf', cf', rfl, _⟩ := hb
  obtain ⟨A1, nu, cc1, rfl, _⟩ := h1
  obtain ⟨A2, no, cc2, rfl, _⟩ := h2
  have hne := fun a b c d W => run_neq_fault a b c d W
  have hf0 : fEq 0 0 0 0 = true := rfl
  have HUA := hide (fun W (hB : B ≤ W.heap.size) (h : MachAt W B (.agg #[.int .i64 a.n, .slice A n c, .slice AF nf cf]) a) (h' : MachAt W B (.agg #[.int .i64 b.n, .slice A' n' c', .slice AF' nf' cf']) b) => union_any _ _ a b W B hB h h')
  have HUB := hide (fun W (hB : B ≤ W.heap.size) (h : MachAt W B (.agg #[.int .i64 b.n, .slice A' n' c', .slice AF' nf' cf']) b) (h' : MachAt W B (.agg #[.int .i64 a.n, .slice A n c, .slice AF nf cf]) a) => union_any _ _ b a W B hB h h')
  have HWA := hide (fun W (hB : B ≤ W.heap.size) (hM : MachAt W B (.agg #[.int .i64 a.n, .slice A n c, .slice AF nf cf]) a) (hU : Nums W B (.slice A1 nu cc1) lu) (hO : Nums W B (.slice A2 no cc2) lo) => lweight_any _ _ _ a lu lo W B hB hM hU hO)
  have HWB := hide (fun W (hB : B ≤ W.heap.size) (hM : MachAt W B (.agg #[.int .i64 b.n, .slice A' n' c', .slice AF' nf' cf']) b) (hU : Nums W B (.slice A1 nu cc1) lu) (hO : Nums W B (.slice A2 no cc2) lo) => lweight_any _ _ _ b lu lo W B hB hM hU hO)
  have HWP := hide (fun (v : Value) W B (hB : B ≤ W.heap.size) (hM : MachAt W B v (uniR a b)) (hU : Nums W B (.slice A1 nu cc1) lu) (hO : Nums W B (.slice A2 no cc2) lo) => lweight_any _ _ _ (uniR a b) lu lo W B hB hM hU hO)
  have HWQ := hide (fun (v : Value) W B (hB : B ≤ W.heap.size) (hM : MachAt W B v (uniR b a)) (hU : Nums W B (.slice A1 nu cc1) lu) (hO : Nums W B (.slice A2 no cc2) lo) => lweight_any _ _ _ (uniR b a) lu lo W B hB hM hU hO)
  have HC := hide (uni_cases a b lu lo)
  have HL := hide (fun W => lighter_any (wv a lu lo) (wv b lu lo) W)
  go_enter Try.func3, Try.ntmps3
  go_wp2_with fail
  refine (shapes_ex _).mono ?_
  rintro e w1 ⟨rfl, hb1⟩
  have bX := ((Blk.at_ (w := w) (g := w.heap.size) (t := 25) (cs := #[.int .i64 a.n, .slice A n c, .slice AF nf cf]) rfl).alloc (Obj.cells #[.int .i64 b.n, .slice A' n' c', .slice AF' nf' cf'] 25)).below hb1 (by simp; omega)
  have bY : Blk w1 (w.heap.size + 1) 25 #[.int .i64 b.n, .slice A' n' c', .slice AF' nf' cf'] := (Blk.at_ (by simp)).below hb1 (by simp)
  have hbw : Below w.heap.size w w1 := Below.trans (by go_grown) (hb1.mono (by simp; omega))
  clear hb1
  go_wp2_with fail
  refine (weighed_ex _).mono ?_
  rintro e w2 ⟨rfl, hb2⟩
  replace bX := bX.below hb2 bX.lt
  replace bY := bY.below hb2 bY.lt
  replace hbw := hbw.trans (hb2.mono hbw.size)
  clear hb2
  have x0 := bX.cell 0
  have x1 := bX.cell 1
  have x2 := bX.cell 2
  have y0 := bY.cell 0
  have y1 := bY.cell 1
  have y2 := bY.cell 2
  simp at x0 x1 x2 y0 y1 y2
  have xl := bX.lt
  have yl := bY.lt
  go_wp2_with fail
  refine (HUA.out _ (by have := hbw.size; omega) (HA.out.below hbw hB) (HB.out.below hbw hB)).mono ?_
  rintro e w3 ⟨v3, rfl, hT, hb3⟩
  obtain ⟨A3, n3, c3, AF3, nf3, cf3, rfl⟩ := agg_of hT
  have HT := hide hT
  replace bX := bX.below hb3 bX.lt
  replace bY := bY.below hb3 bY.lt
  replace hbw := hbw.trans (hb3.mono hbw.size)
  clear hT hb3 x0 x1 x2 xl y0 y1 y2 yl HUA
  obtain ⟨p, hp⟩ : ∃ p, p = (uniF a b).1 := ⟨_, rfl⟩
  obtain ⟨q, hq⟩ : ∃ p, p = (uniF a b).2 := ⟨_, rfl⟩
  rw [← hp, ← hq]
  have HPQ := hide (And.intro hp hq)
  clear hp hq
  have bT := (Blk.at_ (w := w3) (g := w3.heap.size) (t := 25) (cs := #[.int .i64 (uniR a b).n, .slice A3 n3 c3, .slice AF3 nf3 cf3]) rfl).alloc (Obj.cells #[.int .i64 p, .int .i64 q] 29)
  have bG : Blk ((w3.alloc (Obj.cells #[.int .i64 (uniR a b).n, .slice A3 n3 c3, .slice AF3 nf3 cf3] 25)).alloc (Obj.cells #[.int .i64 p, .int .i64 q] 29)) (w3.heap.size + 1) 29 #[.int .i64 p, .int .i64 q] := Blk.at_ (by simp)
  have HT3 := hide ((HT.out.alloc (Obj.cells #[.int .i64 (uniR a b).n, .slice A3 n3 c3, .slice AF3 nf3 cf3] 25)).alloc (Obj.cells #[.int .i64 p, .int .i64 q] 29))
  have bX := (bX.alloc (Obj.cells #[.int .i64 (uniR a b).n, .slice A3 n3 c3, .slice AF3 nf3 cf3] 25)).alloc (Obj.cells #[.int .i64 p, .int .i64 q] 29)
  have bY := (bY.alloc (Obj.cells #[.int .i64 (uniR a b).n, .slice A3 n3 c3, .slice AF3 nf3 cf3] 25)).alloc (Obj.cells #[.int .i64 p, .int .i64 q] 29)
  have hbw := (hbw.alloc hbw.size (Obj.cells #[.int .i64 (uniR a b).n, .slice A3 n3 c3, .slice AF3 nf3 cf3] 25)).alloc (by have := hbw.size; simp; omega) (Obj.cells #[.int .i64 p, .int .i64 q] 29)
  clear HT
  have x0 := bX.cell 0
  have x1 := bX.cell 1
  have x2 := bX.cell 2
  have y0 := bY.cell 0
  have y1 := bY.cell 1
  have y2 := bY.cell 2
  simp at x0 x1 x2 y0 y1 y2
  have xl := bX.lt
  have yl := bY.lt
  simp at xl yl
  have hbz := hbw.size
  simp at hbz
  go_wp2_with fail
  refine (HUB.out _ (by simp; omega) (HB.out.below hbw hB) (HA.out.below hbw hB)).mono ?_
  rintro e w4 ⟨v4, rfl, hT, hb4⟩
  obtain ⟨A4, n4, c4, AF4, nf4, cf4, rfl⟩ := agg_of hT
  have HT4 := hide hT
  replace bX := bX.below hb4 bX.lt
  replace bY := bY.below hb4 bY.lt
  replace bT := bT.below hb4 bT.lt
  replace bG := bG.below hb4 bG.lt
  replace HT3 := hide (HT3.out.below hb4 (by simp))
  replace hbw := hbw.trans (hb4.mono (by simp; omega))
  clear hT hb4 x0 x1 x2 xl y0 y1 y2 yl HUB hbz
  obtain ⟨p', hp'⟩ : ∃ p, p = (uniF b a).1 := ⟨_, rfl⟩
  obtain ⟨q', hq'⟩ : ∃ p, p = (uniF b a).2 := ⟨_, rfl⟩
  rw [← hp', ← hq']
  have HPQ' := hide (And.intro hp' hq')
  clear hp' hq'
  have g0 := bG.cell 0
  have g1 := bG.cell 1
  simp at g0 g1
  have gl := bG.lt
  have gl' := Nat.lt_succ_of_lt gl
  rcases HC.out with ⟨hz, hz'⟩ | ⟨hz, hz', r, hr1, hr2, hcase⟩
  · rw [← HPQ.out.1, ← HPQ.out.2] at hz
    rw [← HPQ'.out.1, ← HPQ'.out.2] at hz'
    go_wp2
    exact bodyPost_ret (v := .bool true) (by simp [results, Try.results3, go_sem]) rfl ⟨rfl, (hbw.alloc hbw.size _).alloc (by have := hbw.size; simp; omega) _⟩
  · obtain ⟨e1, e2⟩ := HPQ.out
    obtain ⟨e1', e2'⟩ := HPQ'.out
    rw [hz] at e1 e2
    rw [hz'] at e1' e2'
    subst e1 e2 e1' e2'
    rw [hr1] at HWP
    rw [hr2] at HWQ
    clear hr1 hr2 hz hz' HC HPQ HPQ'
    go_upto_region 7 with fail
    generalize hW5 : World.alloc _ _ = W5
    have HX := hide (show Blk W5 w.heap.size 25 #[.int .i64 a.n, .slice A n c, .slice AF nf cf] by rw [← hW5]; exact (bX.alloc _).alloc _)
    have HY := hide (show Blk W5 (w.heap.size + 1) 25 #[.int .i64 b.n, .slice A' n' c', .slice AF' nf' cf'] by rw [← hW5]; exact (bY.alloc _).alloc _)
    have HBT := hide (show Blk W5 w3.heap.size 25 #[.int .i64 (uniR a b).n, .slice A3 n3 c3, .slice AF3 nf3 cf3] by rw [← hW5]; exact (bT.alloc _).alloc _)
    have HBS := hide (show Blk W5 w4.heap.size 25 #[.int .i64 (uniR b a).n, .slice A4 n4 c4, .slice AF4 nf4 cf4] by rw [← hW5]; exact (Blk.at_ rfl).alloc _)
    replace HT3 := hide (show MachNew w2.heap.size W5 (.agg #[.int .i64 (uniR a b).n, .slice A3 n3 c3, .slice AF3 nf3 cf3]) (uniR a b) by rw [← hW5]; exact (HT3.out.alloc _).alloc _)
    replace HT4 := hide (show MachNew _ W5 (.agg #[.int .i64 (uniR b a).n, .slice A4 n4 c4, .slice AF4 nf4 cf4]) (uniR b a) by rw [← hW5]; exact (HT4.out.alloc _).alloc _)
    have HBW := hide (show Below w.heap.size w W5 by rw [← hW5]; exact (hbw.alloc hbw.size _).alloc (by have := hbw.size; simp; omega) _)
    clear hW5 bX bY bT bG hbw g0 g1 gl gl'
    obtain ⟨x, hx⟩ : ∃ x, x = wv a lu lo := ⟨_, rfl⟩
    obtain ⟨y, hy⟩ : ∃ x, x = wv b lu lo := ⟨_, rfl⟩
    rw [← hx] at HWA HL hcase
    rw [← hy] at HWB HL hcase
    clear hx hy
    have x0 := HX.out.drew.cell 0
    have x1 := HX.out.drew.cell 1
    have x2 := HX.out.drew.cell 2
    have y0 := HY.out.drew.cell 0
    have y1 := HY.out.drew.cell 1
    have y2 := HY.out.drew.cell 2
    simp at x0 x1 x2 y0 y1 y2
    refine wp_mix (fun w' => w'.cell? ⟨w.heap.size, 0, none⟩ = some (.int .i64 a.n) ∧ w'.cell? ⟨w.heap.size, 1, none⟩ = some (.slice A n c) ∧ w'.cell? ⟨w.heap.size, 2, none⟩ = some (.slice AF nf cf) ∧ w'.cell? ⟨w.heap.size + 1, 0, none⟩ = some (.int .i64 b.n) ∧ w'.cell? ⟨w.heap.size + 1, 1, none⟩ = some (.slice A' n' c') ∧ w'.cell? ⟨w.heap.size + 1, 2, none⟩ = some (.slice AF' nf' cf')) 7 [(0, false), (1, false), (2, false), (4, false), (5, false), (6, false), (3, true)] (by kernel_rfl) (by kernel_rfl) ?_ ?_
    · exact ⟨x0, x1, x2, y0, y1, y2⟩
    simp only [List.drop_succ_cons, List.drop_zero]
    clear x0 x1 x2 y0 y1 y2
    repeat (refine mix_q (v := ?_) (by rfl) (by rfl) ?_ ?_; rotate_left; (focus (intro w' hC; (try dsimp only at hC); go_simp; (first | done | with_reducible rfl))); simp only [Act.put, List.setIfInBounds_toArray, List.set_cons_zero, List.set_cons_succ])
    refine mix_l (by rfl) (by rfl) (fun K hK => ?_)
    go_simp
    refine (HWA.out _ (by have := HBW.out.size; simp; omega) (HA.out.below HBW.out.drew hB) (HU.out.below HBW.out.drew hB) (HO.out.below HBW.out.drew hB)).mono ?_
    rintro e w6 ⟨rfl, hb6⟩
    have bX := HX.out.drew.below hb6 HX.out.drew.lt
    have bY := HY.out.drew.below hb6 HY.out.drew.lt
    have hbw := HBW.out.drew.trans (hb6.mono HBW.out.drew.size)
    have x0 := bX.cell 0
    have x1 := bX.cell 1
    have x2 := bX.cell 2
    have y0 := bY.cell 0
    have y1 := bY.cell 1
    have y2 := bY.cell 2
    simp at x0 x1 x2 y0 y1 y2
    refine hK _ _ ⟨x0, x1, x2, y0, y1, y2⟩ ?_
    clear hK K x0 x1 x2 y0 y1 y2
    refine mix_nil ?_; try simp only [Act.put, List.setIfInBounds_toArray, List.set_cons_zero, List.set_cons_succ]
    go_wp2_with fail
    refine (HWB.out _ (by have := hbw.size; omega) (HB.out.below hbw hB) (HU.out.below hbw hB) (HO.out.below hbw hB)).mono ?_
    rintro e w7 ⟨rfl, hb7⟩
    have bT := (HBT.out.drew.below hb6 HBT.out.drew.lt).below hb7 (HBT.out.drew.below hb6 HBT.out.drew.lt).lt
    have bS := (HBS.out.drew.below hb6 HBS.out.drew.lt).below hb7 (HBS.out.drew.below hb6 HBS.out.drew.lt).lt
    have HT3 := hide ((HT3.out.drew.below hb6 (Nat.le_refl _)).below hb7 (Nat.le_refl _))
    replace HT4 := hide ((HT4.out.drew.below hb6 (Nat.le_refl _)).below hb7 (Nat.le_refl _))
    replace hbw := hbw.trans (hb7.mono hbw.size)
    clear hb6 hb7 bX bY HX HY HBT HBS HBW
    have t0 := bT.cell 0
    have t1 := bT.cell 1
    have t2 := bT.cell 2
    have s0 := bS.cell 0
    have s1 := bS.cell 1
    have s2 := bS.cell 2
    simp at t0 t1 t2 s0 s1 s2
    have tl := bT.lt
    have sl := bS.lt
    go_wp2
    refine NoPanic.normal ?_
    rcases hcase with ⟨rfl, rfl, rfl⟩ | ⟨hx, hy, hr⟩
    · go_wp2_with fail
      refine (HWP.out _ _ w7.heap.size (Nat.le_refl _) HT3.out.at_ ((HU.out.below hbw hB).mono (by have := hbw.size; omega)) ((HO.out.below hbw hB).mono (by have := hbw.size; omega))).mono ?_
      rintro e w8 ⟨rfl, hb8⟩
      replace hbw := hbw.trans (hb8.mono hbw.size)
      go_wp2
      exact bodyPost_ret (v := .bool true) (by simp [results, Try.results3, go_sem]) rfl ⟨rfl, hbw⟩
    · rw [hr] at HL
      have tx : decide (x = -2) = false := decide_eq_false (by omega)
      have tx' : (x == -2) = false := beq_eq_false_iff_ne.2 (by omega)
      have ty : decide (y = -2) = false := decide_eq_false (by omega)
      have ty' : (y == -2) = false := beq_eq_false_iff_ne.2 (by omega)
      clear hr hx hy
      go_wp2_with fail
      refine (HWP.out _ _ w7.heap.size (Nat.le_refl _) HT3.out.at_ ((HU.out.below hbw hB).mono (by have := hbw.size; omega)) ((HO.out.below hbw hB).mono (by have := hbw.size; omega))).mono ?_
      rintro e w8 ⟨rfl, hb8⟩
      replace bS := bS.below hb8 bS.lt
      replace HT4 := hide (HT4.out.below hb8 (Nat.le_refl _))
      replace hbw := hbw.trans (hb8.mono hbw.size)
      clear hb8 HT3 HWP bT t0 t1 t2 tl s0 s1 s2 sl
      have s0 := bS.cell 0
      have s1 := bS.cell 1
      have s2 := bS.cell 2
      simp at s0 s1 s2
      have sl := bS.lt
      go_wp2_with fail
      refine (HL.out _).mono ?_
      rintro e _ ⟨rfl, rfl⟩
      go_wp2_with fail
      refine (HWQ.out _ _ w8.heap.size (Nat.le_refl _) HT4.out.at_ ((HU.out.below hbw hB).mono (by have := hbw.size; omega)) ((HO.out.below hbw hB).mono (by have := hbw.size; omega))).mono ?_
      rintro e w9 ⟨rfl, hb9⟩
      replace hbw := hbw.trans (hb9.mono hbw.size)
      clear hb9 HT4 HWQ bS s0 s1 s2 sl
      go_wp2_with fail
      refine (HL.out _).mono ?_
      rintro e _ ⟨rfl, rfl⟩
      go_wp2
      exact bodyPost_ret (v := .bool true) (by simp [results, Try.results3, go_sem]) rfl ⟨rfl, hbw⟩
end Go.Proofs.Ytcekpjlfaiopiaa
