/- machine.Weight and the reference's Weigh at any arguments. -/
import Derived.Test.YtmgpcnkmmgkjgaaWtW
import Derived.Test.YtmgpcnkmmgkjgaaWtT
namespace Gm
/-- The fault of machine.Weight. -/
def wF (m : Mach) (lu lo : List Int) : Int × Int := if validate m = (0, 0) then (if wordF lu (-2) = (0, 0) then wordF lo (-3) else wordF lu (-2)) else validate m
/-- The weight that it returns. -/
noncomputable def wW (m : Mach) (lu lo : List Int) : Int := if wF m lu lo = (0, 0) then max (wgt m lu lo) 0 else 0
noncomputable def wB (m : Mach) (lu lo : List Int) : Bool := decide (wF m lu lo = (0, 0)) && decide (0 ≤ wgt m lu lo)
theorem wordF_ix {l : List Int} {ix : Int} (h : wordF l ix = (0, 0)) (jx : Int) : wordF l jx = (0, 0) := by
  unfold wordF at h ⊢
  by_cases h1 : 30 < l.length
  · rw [if_pos h1] at h; simp at h
  · rw [if_neg h1] at h ⊢
    by_cases h2 : ∀ x ∈ l, okL x
    · rw [if_pos h2]
    · rw [if_neg h2] at h; simp at h
theorem fins_uni {m : Mach} (h : Valid m) : ∀ y ∈ m.fins, ∀ z ∈ m.fins, z.s = y.s → z.w = y.w := by
  have hp := fins_sorted h
  intro y hy z hz e
  obtain ⟨i, hi, rfl⟩ := List.mem_iff_getElem.1 hy
  obtain ⟨j, hj, rfl⟩ := List.mem_iff_getElem.1 hz
  rcases Nat.lt_trichotomy i j with hlt | heq | hlt
  · have := List.pairwise_iff_getElem.1 hp i j hi hj hlt; omega
  · subst heq; rfl
  · have := List.pairwise_iff_getElem.1 hp j i hj hi hlt; omega
theorem zero_none {m : Mach} (h : Valid m) (h0 : m.n = 0) : m.arcs = [] ∧ m.fins = [] := by
  constructor
  · cases ha : m.arcs with
    | nil => rfl
    | cons a l => have := okArc_iff (h.okA (a := a) (by rw [ha]; simp)); omega
  · cases ha : m.fins with
    | nil => rfl
    | cons a l => have := okFin_iff (h.okF (a := a) (by rw [ha]; simp)); omega
theorem wgt_zero {m : Mach} (h : Valid m) (h0 : m.n = 0) (u v : List Int) : wgt m u v = -1 := wgt_eq (.inl ⟨rfl, fun d hd => by
  obtain ⟨x, hx, _⟩ := hd
  rw [(zero_none h h0).2] at hx
  simp at hx⟩)
end Gm
namespace Go.Proofs.Ytmgpcnkmmgkjgaa
open Go.RowKit Gm
theorem fEq0_iff {p : Int × Int} : fEq p.1 p.2 0 0 = true ↔ p = (0, 0) := by
  unfold fEq
  obtain ⟨a, b⟩ := p
  simp [Prod.ext_iff]
theorem fEq0_false {p : Int × Int} (h : p ≠ (0, 0)) : fEq p.1 p.2 0 0 = false := by
  cases e : fEq p.1 p.2 0 0
  · rfl
  · exact absurd (fEq0_iff.1 e) h
set_option linter.unusedSimpArgs false
set_option linter.unusedVariables false
set_option maxRecDepth 100000 in
set_option maxHeartbeats 2000000 in
theorem weight_bad1 (v v1 v2 : Value) (m : Mach) (w : World) (B : Nat) (hB : B ≤ w.heap.size) (h : MachAt w B v m) (hz : fEq (validate m).1 (validate m).2 0 0 = false) (hv1 : ∃ A n c, v1 = .slice A n c) (hv2 : ∃ A n c, v2 = .slice A n c) :
    Calls Try.prog 50 #[v, v1, v2] w fun e w' => e = .returned (.tuple #[.int .i64 0, .bool false, .agg #[.int .i64 (validate m).1, .int .i64 (validate m).2]]) ∧ Below w.heap.size w w' := by
  obtain ⟨A1, nu, cc1, rfl⟩ := hv1
  obtain ⟨A2, no, cc2, rfl⟩ := hv2
  have hne := fun a b c d W => run_neq_fault a b c d W
  have HM := hide h
  obtain ⟨AM, AF, n, c, nf, cf, rfl, _⟩ := h
  obtain ⟨p, hp⟩ : ∃ p, p = (validate m).1 := ⟨_, rfl⟩
  obtain ⟨q, hq⟩ : ∃ p, p = (validate m).2 := ⟨_, rfl⟩
  have HV := hide (fun W (hB : B ≤ W.heap.size) (h : MachAt W B (.agg #[.int .i64 m.n, .slice AM n c, .slice AF nf cf]) m) => validate_any _ m W B hB h)
  rw [← hp, ← hq] at HV hz ⊢
  clear hp hq
  go_enter Try.func50, Try.ntmps50
  go_wp2_with fail
  refine (HV.out _ (by simp; omega) (HM.out.below (show Below w.heap.size w _ by go_grown) hB)).mono ?_
  rintro e w1 ⟨rfl, hb1⟩
  have hbw1 : Below w.heap.size w w1 := Below.trans (show Below w.heap.size w _ by go_grown) (hb1.mono (by simp; omega))
  have bR1 : Blk w1 (w.heap.size + 1) 28 #[.int .i64 0, .int .i64 0] := (Blk.at_ (by simp)).below hb1 (by simp)
  have hz1 := bR1.lt
  have f0 := bR1.frozen 0
  have f1 := bR1.frozen 1
  have q0 : w1.cell? ⟨w.heap.size + 1, 0, none⟩ = some (.int .i64 0) := bR1.cell 0
  have q1 : w1.cell? ⟨w.heap.size + 1, 1, none⟩ = some (.int .i64 0) := bR1.cell 1
  clear hb1 HV HM
  go_wp2
  refine wp_quiet_tail_lit 3 (by kernel_rfl) (by kernel_rfl) ?_
  simp only [List.take_succ_cons, List.take_zero, List.drop_succ_cons, List.drop_zero]
  repeat (quiet_step (fail))
  refine wpQuiet_nil ?_
  intro _ hw'; obtain ⟨nq, hw''⟩ := hw'; subst hw''
  go_wp2
  exact bodyPost_ret (v := .tuple #[.int .i64 0, .bool false, .agg #[.int .i64 p, .int .i64 q]]) (by simp [results, Try.results50, go_sem, hz1, f0, f1, q0, q1]) rfl ⟨rfl, ((below_drewN (hbw1.alloc hbw1.size _) nq).setCell (by simp) _).setCell (by simp) _⟩
set_option maxRecDepth 100000 in
set_option maxHeartbeats 2000000 in
theorem weight_bad2 (v v1 v2 : Value) (m : Mach) (lu : List Int) (w : World) (B : Nat) (hB : B ≤ w.heap.size) (h : MachAt w B v m) (hv : validate m = (0, 0)) (h1 : Nums w B v1 lu) (hz : fEq (wordF lu (-2)).1 (wordF lu (-2)).2 0 0 = false) (hv2 : ∃ A n c, v2 = .slice A n c) :
    Calls Try.prog 50 #[v, v1, v2] w fun e w' => e = .returned (.tuple #[.int .i64 0, .bool false, .agg #[.int .i64 (wordF lu (-2)).1, .int .i64 (wordF lu (-2)).2]]) ∧ Below w.heap.size w w' := by
  obtain ⟨A2, no, cc2, rfl⟩ := hv2
  have hne := fun a b c d W => run_neq_fault a b c d W
  have hf0 : fEq 0 0 0 0 = true := rfl
  have HM := hide h
  have HNU := hide h1
  obtain ⟨AM, AF, n, c, nf, cf, rfl, _⟩ := h
  obtain ⟨A1, nu, cc1, rfl, _⟩ := h1
  obtain ⟨p, hp⟩ : ∃ p, p = (wordF lu (-2)).1 := ⟨_, rfl⟩
  obtain ⟨q, hq⟩ : ∃ p, p = (wordF lu (-2)).2 := ⟨_, rfl⟩
  have HV := hide (fun W (hB : B ≤ W.heap.size) (h : MachAt W B (.agg #[.int .i64 m.n, .slice AM n c, .slice AF nf cf]) m) => validate_ok _ m W B hB h hv)
  have HU := hide (fun W (hB : B ≤ W.heap.size) (h : Nums W B (.slice A1 nu cc1) lu) => word_any _ lu (-2) W B hB h)
  rw [← hp, ← hq] at HU hz ⊢
  clear hp hq hv
  go_enter Try.func50, Try.ntmps50
  go_wp2_with fail
  refine (HV.out _ (by simp; omega) (HM.out.below (show Below w.heap.size w _ by go_grown) hB)).mono ?_
  rintro e w1 ⟨rfl, hb1⟩
  have hbw1 : Below w.heap.size w w1 := Below.trans (show Below w.heap.size w _ by go_grown) (hb1.mono (by simp; omega))
  have bR1 : Blk w1 (w.heap.size + 1) 28 #[.int .i64 0, .int .i64 0] := (Blk.at_ (by simp)).below hb1 (by simp)
  have hz1 := bR1.lt
  clear hb1 HV HM
  go_wp2_with fail
  refine (HU.out _ (by simp; omega) (HNU.out.below (hbw1.alloc hbw1.size _) hB)).mono ?_
  rintro e w2 ⟨rfl, hb2⟩
  have hbw2 : Below w.heap.size w w2 := (hbw1.alloc hbw1.size _).trans (hb2.mono (by simp; omega))
  have bR2 := (bR1.alloc _).below hb2 (by simp; omega)
  have hz2 := bR2.lt
  have f0 := bR2.frozen 0
  have f1 := bR2.frozen 1
  have q0 : w2.cell? ⟨w.heap.size + 1, 0, none⟩ = some (.int .i64 0) := bR2.cell 0
  have q1 : w2.cell? ⟨w.heap.size + 1, 1, none⟩ = some (.int .i64 0) := bR2.cell 1
  clear hb2 hbw1 bR1
  go_wp2
  refine wp_quiet_tail_lit 3 (by kernel_rfl) (by kernel_rfl) ?_
  simp only [List.take_succ_cons, List.take_zero, List.drop_succ_cons, List.drop_zero]
  repeat (quiet_step (fail))
  refine wpQuiet_nil ?_
  intro _ hw'; obtain ⟨nq, hw''⟩ := hw'; subst hw''
  go_wp2
  exact bodyPost_ret (v := .tuple #[.int .i64 0, .bool false, .agg #[.int .i64 p, .int .i64 q]]) (by simp [results, Try.results50, go_sem, hz2, f0, f1, q0, q1]) rfl ⟨rfl, ((below_drewN (hbw2.alloc hbw2.size _) nq).setCell (by simp) _).setCell (by simp) _⟩
set_option maxRecDepth 100000 in
set_option maxHeartbeats 2000000 in
theorem weight_bad3 (v v1 v2 : Value) (m : Mach) (lu lo : List Int) (w : World) (B : Nat) (hB : B ≤ w.heap.size) (h : MachAt w B v m) (hv : validate m = (0, 0)) (h1 : Nums w B v1 lu) (h2 : Nums w B v2 lo) (hu : wordF lu (-2) = (0, 0)) (hz : fEq (wordF lo (-3)).1 (wordF lo (-3)).2 0 0 = false) :
    Calls Try.prog 50 #[v, v1, v2] w fun e w' => e = .returned (.tuple #[.int .i64 0, .bool false, .agg #[.int .i64 (wordF lo (-3)).1, .int .i64 (wordF lo (-3)).2]]) ∧ Below w.heap.size w w' := by
  have hne := fun a b c d W => run_neq_fault a b c d W
  have hf0 : fEq 0 0 0 0 = true := rfl
  have HM := hide h
  have HNU := hide h1
  have HNO := hide h2
  obtain ⟨AM, AF, n, c, nf, cf, rfl, _⟩ := h
  obtain ⟨A1, nu, cc1, rfl, _⟩ := h1
  obtain ⟨A2, no, cc2, rfl, _⟩ := h2
  obtain ⟨p, hp⟩ : ∃ p, p = (wordF lo (-3)).1 := ⟨_, rfl⟩
  obtain ⟨q, hq⟩ : ∃ p, p = (wordF lo (-3)).2 := ⟨_, rfl⟩
  have HV := hide (fun W (hB : B ≤ W.heap.size) (h : MachAt W B (.agg #[.int .i64 m.n, .slice AM n c, .slice AF nf cf]) m) => validate_ok _ m W B hB h hv)
  have hU := (fun W (hB : B ≤ W.heap.size) (h : Nums W B (.slice A1 nu cc1) lu) => word_any _ lu (-2) W B hB h)
  rw [hu] at hU
  have HU := hide hU
  have HO := hide (fun W (hB : B ≤ W.heap.size) (h : Nums W B (.slice A2 no cc2) lo) => word_any _ lo (-3) W B hB h)
  rw [← hp, ← hq] at HO hz ⊢
  clear hp hq hv hu hU
  go_enter Try.func50, Try.ntmps50
  go_wp2_with fail
  refine (HV.out _ (by simp; omega) (HM.out.below (show Below w.heap.size w _ by go_grown) hB)).mono ?_
  rintro e w1 ⟨rfl, hb1⟩
  have hbw1 : Below w.heap.size w w1 := Below.trans (show Below w.heap.size w _ by go_grown) (hb1.mono (by simp; omega))
  have bR1 : Blk w1 (w.heap.size + 1) 28 #[.int .i64 0, .int .i64 0] := (Blk.at_ (by simp)).below hb1 (by simp)
  have hz1 := bR1.lt
  clear hb1 HV HM
  go_wp2_with fail
  refine (HU.out _ (by simp; omega) (HNU.out.below (hbw1.alloc hbw1.size _) hB)).mono ?_
  rintro e w2 ⟨rfl, hb2⟩
  have hbw2 : Below w.heap.size w w2 := (hbw1.alloc hbw1.size _).trans (hb2.mono (by simp; omega))
  have bR2 := (bR1.alloc _).below hb2 (by simp; omega)
  have hz2 := bR2.lt
  clear hb2 hbw1 bR1
  go_wp2_with fail
  refine (HO.out _ (by simp; omega) (HNO.out.below (hbw2.alloc hbw2.size _) hB)).mono ?_
  rintro e w3 ⟨rfl, hb3⟩
  have hbw3 : Below w.heap.size w w3 := (hbw2.alloc hbw2.size _).trans (hb3.mono (by simp; omega))
  have bR3 := (bR2.alloc _).below hb3 (by simp; omega)
  have hz3 := bR3.lt
  have f0 := bR3.frozen 0
  have f1 := bR3.frozen 1
  have q0 : w3.cell? ⟨w.heap.size + 1, 0, none⟩ = some (.int .i64 0) := bR3.cell 0
  have q1 : w3.cell? ⟨w.heap.size + 1, 1, none⟩ = some (.int .i64 0) := bR3.cell 1
  clear hb3 hbw2 bR2
  go_wp2
  refine wp_quiet_tail_lit 3 (by kernel_rfl) (by kernel_rfl) ?_
  simp only [List.take_succ_cons, List.take_zero, List.drop_succ_cons, List.drop_zero]
  repeat (quiet_step (fail))
  refine wpQuiet_nil ?_
  intro _ hw'; obtain ⟨nq, hw''⟩ := hw'; subst hw''
  go_wp2
  exact bodyPost_ret (v := .tuple #[.int .i64 0, .bool false, .agg #[.int .i64 p, .int .i64 q]]) (by simp [results, Try.results50, go_sem, hz3, f0, f1, q0, q1]) rfl ⟨rfl, ((below_drewN (hbw3.alloc hbw3.size _) nq).setCell (by simp) _).setCell (by simp) _⟩
set_option maxRecDepth 100000 in
set_option maxHeartbeats 2000000 in
theorem weight_none (v v1 v2 : Value) (m : Mach) (lu lo : List Int) (w : World) (B : Nat) (hB : B ≤ w.heap.size) (h : MachAt w B v m) (hv : validate m = (0, 0)) (h0 : m.n = 0) (h1 : Nums w B v1 lu) (h2 : Nums w B v2 lo) (hu : wordF lu (-2) = (0, 0)) (ho : wordF lo (-3) = (0, 0)) :
    Calls Try.prog 50 #[v, v1, v2] w fun e w' => e = .returned (.tuple #[.int .i64 0, .bool false, .agg #[.int .i64 0, .int .i64 0]]) ∧ Below w.heap.size w w' := by
  have hne := fun a b c d W => run_neq_fault a b c d W
  have hf0 : fEq 0 0 0 0 = true := rfl
  have HM := hide h
  have HNU := hide h1
  have HNO := hide h2
  obtain ⟨AM, AF, n, c, nf, cf, rfl, _⟩ := h
  obtain ⟨A1, nu, cc1, rfl, _⟩ := h1
  obtain ⟨A2, no, cc2, rfl, _⟩ := h2
  rw [h0] at HM ⊢
  have HV := hide (fun W (hB : B ≤ W.heap.size) (h : MachAt W B (.agg #[.int .i64 0, .slice AM n c, .slice AF nf cf]) m) => validate_ok _ m W B hB h hv)
  have hU := (fun W (hB : B ≤ W.heap.size) (h : Nums W B (.slice A1 nu cc1) lu) => word_any _ lu (-2) W B hB h)
  have hO := (fun W (hB : B ≤ W.heap.size) (h : Nums W B (.slice A2 no cc2) lo) => word_any _ lo (-3) W B hB h)
  rw [hu] at hU
  rw [ho] at hO
  have HU := hide hU
  have HO := hide hO
  clear hv hu hU hO ho h0
  go_enter Try.func50, Try.ntmps50
  go_wp2_with fail
  refine (HV.out _ (by simp; omega) (HM.out.below (show Below w.heap.size w _ by go_grown) hB)).mono ?_
  rintro e w1 ⟨rfl, hb1⟩
  have hbw1 : Below w.heap.size w w1 := Below.trans (show Below w.heap.size w _ by go_grown) (hb1.mono (by simp; omega))
  have bM1 : Blk w1 w.heap.size 25 #[.int .i64 0, .slice AM n c, .slice AF nf cf] := ((Blk.new w _ _).alloc _).below hb1 (by simp; omega)
  have bR1 : Blk w1 (w.heap.size + 1) 28 #[.int .i64 0, .int .i64 0] := (Blk.at_ (by simp)).below hb1 (by simp)
  have hz1 := bR1.lt
  clear hb1 HV HM
  go_wp2_with fail
  refine (HU.out _ (by simp; omega) (HNU.out.below (hbw1.alloc hbw1.size _) hB)).mono ?_
  rintro e w2 ⟨rfl, hb2⟩
  have hbw2 : Below w.heap.size w w2 := (hbw1.alloc hbw1.size _).trans (hb2.mono (by simp; omega))
  have bM2 := (bM1.alloc _).below hb2 (by simp; omega)
  have bR2 := (bR1.alloc _).below hb2 (by simp; omega)
  have hz2 := bR2.lt
  clear hb2 hbw1 bR1 bM1
  go_wp2_with fail
  refine (HO.out _ (by simp; omega) (HNO.out.below (hbw2.alloc hbw2.size _) hB)).mono ?_
  rintro e w3 ⟨rfl, hb3⟩
  have hbw3 : Below w.heap.size w w3 := (hbw2.alloc hbw2.size _).trans (hb3.mono (by simp; omega))
  have bM3 := (bM2.alloc _).below hb3 (by simp; omega)
  have bR3 := (bR2.alloc _).below hb3 (by simp; omega)
  have k0 : w3.cell? ⟨w.heap.size, 0, none⟩ = some (.int .i64 0) := bM3.cell 0
  have lM := bM3.lt
  have hz3 := bR3.lt
  have f0 := bR3.frozen 0
  have f1 := bR3.frozen 1
  have q0 : w3.cell? ⟨w.heap.size + 1, 0, none⟩ = some (.int .i64 0) := bR3.cell 0
  have q1 : w3.cell? ⟨w.heap.size + 1, 1, none⟩ = some (.int .i64 0) := bR3.cell 1
  clear hb3 hbw2 bR2 bM2
  go_wp2
  exact bodyPost_ret (v := .tuple #[.int .i64 0, .bool false, .agg #[.int .i64 0, .int .i64 0]]) (by simp [results, Try.results50, go_sem, hz3, f0, f1, q0, q1]) rfl ⟨rfl, by go_grown⟩
theorem nums_slice {w : World} {B : Nat} {v : Value} {l : List Int} (h : Nums w B v l) : ∃ A n c, v = .slice A n c := by
  obtain ⟨A, n, c, rfl, _⟩ := h
  exact ⟨A, n, c, rfl⟩
/-- machine.Weight, at any machine and any two words. -/
theorem weight_any (v v1 v2 : Value) (m : Mach) (lu lo : List Int) (w : World) (B : Nat) (hB : B ≤ w.heap.size) (h : MachAt w B v m) (h1 : Nums w B v1 lu) (h2 : Nums w B v2 lo) :
    Calls Try.prog 50 #[v, v1, v2] w fun e w' => e = .returned (.tuple #[.int .i64 (wW m lu lo), .bool (wB m lu lo), .agg #[.int .i64 (wF m lu lo).1, .int .i64 (wF m lu lo).2]]) ∧ Below w.heap.size w w' := by
  by_cases hv : validate m = (0, 0)
  · by_cases hu : wordF lu (-2) = (0, 0)
    · have e0 : wF m lu lo = wordF lo (-3) := by unfold wF; rw [if_pos hv, if_pos hu]
      by_cases ho : wordF lo (-3) = (0, 0)
      · have e1 : wF m lu lo = (0, 0) := by rw [e0, ho]
        have e2 : wW m lu lo = max (wgt m lu lo) 0 := by unfold wW; rw [if_pos e1]
        have e3 : wB m lu lo = decide (0 ≤ wgt m lu lo) := by unfold wB; rw [e1]; simp
        rw [e1, e2, e3]
        have hV := valid_of hv
        by_cases h0 : m.n = 0
        · rw [wgt_zero hV h0]
          exact weight_none v v1 v2 m lu lo w B hB h hv h0 h1 h2 hu ho
        · have hn0 := hV.n0
          have hn4 := hV.n4
          have hS : m.n = ((m.n.toNat : Nat) : Int) := by omega
          have hu2 := wordF_zero (l := lu) (ix := -2) (by rw [hu])
          have ho2 := wordF_zero (l := lo) (ix := -3) (by rw [ho])
          exact weight_good v v1 v2 m m.n.toNat lu lo w B hB h hS (by omega) (by omega) hV.len hV.inRange (fun a ha => by have := okArc_iff (hV.okA ha); omega) (fun x hx => by have := okFin_iff (hV.okF hx); omega) (fins_uni hV) hu2.2.1 ho2.2.1 hv h1 h2 (wordF_ix hu) (wordF_ix ho)
      · have e2 : wW m lu lo = 0 := by unfold wW; rw [if_neg (by rw [e0]; exact ho)]
        have e3 : wB m lu lo = false := by unfold wB; rw [e0, decide_eq_false ho]; rfl
        rw [e2, e3, e0]
        exact weight_bad3 v v1 v2 m lu lo w B hB h hv h1 h2 hu (fEq0_false ho)
    · have e0 : wF m lu lo = wordF lu (-2) := by unfold wF; rw [if_pos hv, if_neg hu]
      have e2 : wW m lu lo = 0 := by unfold wW; rw [if_neg (by rw [e0]; exact hu)]
      have e3 : wB m lu lo = false := by unfold wB; rw [e0, decide_eq_false hu]; rfl
      rw [e2, e3, e0]
      exact weight_bad2 v v1 v2 m lu w B hB h hv h1 (fEq0_false hu) (nums_slice h2)
  · have e0 : wF m lu lo = validate m := by unfold wF; rw [if_neg hv]
    have e2 : wW m lu lo = 0 := by unfold wW; rw [if_neg (by rw [e0]; exact hv)]
    have e3 : wB m lu lo = false := by unfold wB; rw [e0, decide_eq_false hv]; rfl
    rw [e2, e3, e0]
    exact weight_bad1 v v1 v2 m w B hB h (fEq0_false hv) (nums_slice h1) (nums_slice h2)
end Go.Proofs.Ytmgpcnkmmgkjgaa
