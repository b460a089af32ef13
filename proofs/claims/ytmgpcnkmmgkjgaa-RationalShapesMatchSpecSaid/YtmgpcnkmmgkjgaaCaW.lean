/- rational.Concat, walked. -/
import Derived.Test.YtmgpcnkmmgkjgaaUnW
namespace Gm
set_option linter.unusedSimpArgs false
set_option linter.unusedVariables false
theorem shA_zero (l : List Arc) : l.map (shA 0) = l := by
  induction l with
  | nil => rfl
  | cons a l ih => rw [List.map_cons, ih]; congr 1; cases a; simp [shA]
end Gm
namespace Go.Proofs.Ytmgpcnkmmgkjgaa
open Go.RowKit Gm Go.Sort Go.Shelf
set_option linter.unusedSimpArgs false
set_option linter.unusedVariables false
def catF (a b : Mach) : Int × Int := if twoF a b = (0, 0) then (if a.n = 0 ∨ b.n = 0 then (0, 0) else finF (a.n + b.n) (catArcs a b).length) else twoF a b
def catR (a b : Mach) : Mach := if twoF a b = (0, 0) then (if a.n = 0 ∨ b.n = 0 then emptyM else finM (a.n + b.n) (catArcs a b) (catFins a b)) else emptyM
set_option maxRecDepth 100000 in
set_option maxHeartbeats 2000000 in
theorem cat_bad (va vb : Value) (a b : Mach) (w : World) (B : Nat) (hB : B ≤ w.heap.size) (ha : MachAt w B va a) (hb : MachAt w B vb b) (hz : twoF a b ≠ (0, 0)) :
    Calls Try.prog 21 #[va, vb] w fun e w' => e = .returned (.tuple #[.agg #[.int .i64 0, .slice none 0 0, .slice none 0 0], .agg #[.int .i64 (twoF a b).1, .int .i64 (twoF a b).2]]) ∧ Below w.heap.size w w' := by
  have HA := hide ha
  have HB := hide hb
  obtain ⟨A, AF, n, c, nf, cf, rfl, _⟩ := ha
  obtain ⟨A', AF', n', c', nf', cf', rfl, _⟩ := hb
  have hne := fun a b c d W => run_neq_fault a b c d W
  have HT := hide (fun W (hB : B ≤ W.heap.size) (h : MachAt W B (.agg #[.int .i64 a.n, .slice A n c, .slice AF nf cf]) a) (h' : MachAt W B (.agg #[.int .i64 b.n, .slice A' n' c', .slice AF' nf' cf']) b) => two_any _ _ a b W B hB h h')
  have hz0 : fEq (twoF a b).1 (twoF a b).2 0 0 = false := by
    cases e : fEq (twoF a b).1 (twoF a b).2 0 0
    · rfl
    · exact absurd (fEq0R.1 e) hz
  obtain ⟨p, hp⟩ : ∃ p, p = (twoF a b).1 := ⟨_, rfl⟩
  obtain ⟨q, hq⟩ : ∃ p, p = (twoF a b).2 := ⟨_, rfl⟩
  rw [← hp, ← hq] at HT hz0 ⊢
  clear hp hq hz
  go_enter Try.func21, Try.ntmps21
  go_wp2_with fail
  refine (HT.out _ (by simp; omega) (HA.out.below (show Below w.heap.size w _ by go_grown) hB) (HB.out.below (show Below w.heap.size w _ by go_grown) hB)).mono ?_
  rintro e w1 ⟨rfl, hb1⟩
  have hbw1 : Below w.heap.size w w1 := Below.trans (show Below w.heap.size w _ by go_grown) (hb1.mono (by simp; omega))
  have bR1 : Blk w1 (w.heap.size + 1 + 1) 25 #[.int .i64 0, .slice none 0 0, .slice none 0 0] := ((Blk.at_ (by simp)).alloc _).below hb1 (by simp)
  have bF1 : Blk w1 (w.heap.size + 1 + 1 + 1) 28 #[.int .i64 0, .int .i64 0] := (Blk.at_ (by simp)).below hb1 (by simp)
  clear hb1 HT HA HB
  have q0 := bR1.cell 0
  have q1 := bR1.cell 1
  have q2 := bR1.cell 2
  have q3 := bF1.cell 0
  have q4 := bF1.cell 1
  have qf := bR1.frozen 0
  have qf1 := bR1.frozen 1
  have qf2 := bR1.frozen 2
  have qf3 := bF1.frozen 0
  have qf4 := bF1.frozen 1
  simp at q0 q1 q2 q3 q4
  have hs3 := bR1.lt
  have hs4 := bF1.lt
  have hs5 := hbw1.size
  go_wp2
  refine wp_mix (fun w' => w'.cell? ⟨w1.heap.size, 0, none⟩ = some (.int .i64 p) ∧ w'.cell? ⟨w1.heap.size, 1, none⟩ = some (.int .i64 q)) 3 [(0, false), (1, false), (2, true)] (by kernel_rfl) (by kernel_rfl) ?_ ?_
  · go_simp
  simp only [List.drop_succ_cons, List.drop_zero]
  repeat (refine mix_q (v := ?_) (by rfl) (by rfl) ?_ ?_; rotate_left; (focus (intro w' hC; (try dsimp only at hC); go_simp; (first | done | with_reducible rfl))); simp only [Act.put, List.setIfInBounds_toArray, List.set_cons_zero, List.set_cons_succ])
  refine mix_l (by rfl) (by rfl) (fun K hK => ?_)
  go_simp
  refine hK _ _ (by go_simp) ?_
  clear hK K
  refine mix_nil ?_; try simp only [Act.put, List.setIfInBounds_toArray, List.set_cons_zero, List.set_cons_succ]
  go_wp2
  refine NoPanic.normal ?_
  go_wp2
  exact bodyPost_ret (v := .tuple #[.agg #[.int .i64 0, .slice none 0 0, .slice none 0 0], .agg #[.int .i64 p, .int .i64 q]]) (by simp [results, Try.results21, go_sem, q0, q1, q2, q3, q4, qf, qf1, qf2, qf3, qf4, hs3, hs4]) rfl ⟨rfl, by go_grown⟩
set_option maxRecDepth 100000 in
set_option maxHeartbeats 8000000 in
theorem cat_zero1 (va vb : Value) (a b : Mach) (w : World) (B : Nat) (hB : B ≤ w.heap.size) (ha : MachAt w B va a) (hb : MachAt w B vb b) (hz : twoF a b = (0, 0)) (hab : a.n = 0) (hbb : 0 ≤ b.n) :
    Calls Try.prog 21 #[va, vb] w fun e w' => e = .returned (.tuple #[.agg #[.int .i64 0, .slice none 0 0, .slice none 0 0], .agg #[.int .i64 0, .int .i64 0]]) ∧ Below w.heap.size w w' := by
  have HA := hide ha
  have HB := hide hb
  obtain ⟨hva, hvb⟩ := twoF_zero hz
  have hVa := valid_of hva
  have hVb := valid_of hvb
  have HVA := hide hVa
  have HVB := hide hVb
  obtain ⟨A, AF, n, c, nf, cf, rfl, HN, HF, hnc, hnfc, hnb, hnfb, hAa, hFa⟩ := ha
  obtain ⟨A', AF', n', c', nf', cf', rfl, HN', HF', hnc', hnfc', hnb', hnfb', hAb, hFb⟩ := hb
  have hne := fun a b c d W => run_neq_fault a b c d W
  have hf0 : fEq 0 0 0 0 = true := rfl
  have hT := fun W (hB : B ≤ W.heap.size) (h : MachAt W B (.agg #[.int .i64 a.n, .slice A n c, .slice AF nf cf]) a) (h' : MachAt W B (.agg #[.int .i64 b.n, .slice A' n' c', .slice AF' nf' cf']) b) => two_any _ _ a b W B hB h h'
  rw [hz] at hT
  have HT := hide hT
  have HFA := hide hFa
  have HFB := hide hFb
  obtain ⟨an0, an4⟩ : 0 ≤ a.n ∧ a.n ≤ 400 := ⟨hVa.n0, hVa.n4⟩
  obtain ⟨bn0, bn4⟩ : 0 ≤ b.n ∧ b.n ≤ 400 := ⟨hVb.n0, hVb.n4⟩
  have hla := hVa.len
  have hlb := hVb.len
  have hfa := hVa.finLen
  have hfb := hVb.finLen
  rw [HF.out] at hfa
  rw [HF'.out] at hfb
  have HRA := hide (show ∀ x ∈ a.arcs, 0 ≤ x.f ∧ x.f ≤ 1000 ∧ 0 ≤ x.t ∧ x.t ≤ 1000 from fun x hx => by have := okArc_iff (hVa.okA hx); omega)
  have HRB := hide (show ∀ x ∈ b.arcs, 0 ≤ x.f ∧ x.f ≤ 1000 ∧ 0 ≤ x.t ∧ x.t ≤ 1000 from fun x hx => by have := okArc_iff (hVb.okA hx); omega)
  have HSA := hide (show ∀ x ∈ a.fins, 0 ≤ x.s ∧ x.s ≤ 1000 from fun x hx => by have := okFin_iff (hVa.okF hx); omega)
  have HSB := hide (show ∀ x ∈ b.fins, 0 ≤ x.s ∧ x.s ≤ 1000 from fun x hx => by have := okFin_iff (hVb.okF hx); omega)
  obtain ⟨ia, ha0, ha1, ha2, ha3⟩ := info_parts arc_info
  obtain ⟨iF, hF0, hF1, hF2, hF3⟩ := info_parts fin_info
  obtain ⟨sa, hsa⟩ : ∃ s, s = a.n := ⟨_, rfl⟩
  obtain ⟨sb, hsb⟩ : ∃ s, s = b.n := ⟨_, rfl⟩
  have HAS := hide hsa
  have HBS := hide hsb
  rw [← hsa] at HA HT an0 an4 hab ⊢
  rw [← hsb] at HB HT bn0 bn4 hbb ⊢
  have tz1 : (sa == 0) = true := by simp [hab]
  clear hab
  clear hz hva hvb hVa hVb hT hFa hFb hAa hAb hsa hsb hnb hnfb hnb' hnfb'
  go_enter Try.func21, Try.ntmps21
  go_wp2_with fail
  refine (HT.out _ (by simp; omega) (HA.out.below (show Below w.heap.size w _ by go_grown) hB) (HB.out.below (show Below w.heap.size w _ by go_grown) hB)).mono ?_
  rintro e w1 ⟨rfl, hb1⟩
  have hbw1 : Below w.heap.size w w1 := Below.trans (show Below w.heap.size w _ by go_grown) (hb1.mono (by simp; omega))
  have bA1 : Blk w1 w.heap.size 25 #[.int .i64 sa, .slice A n c, .slice AF nf cf] := ((((Blk.new w _ _).alloc _).alloc _).alloc _).below hb1 (by simp; omega)
  have bB1 : Blk w1 (w.heap.size + 1) 25 #[.int .i64 sb, .slice A' n' c', .slice AF' nf' cf'] := (((Blk.at_ (by simp)).alloc _).alloc _).below hb1 (by simp)
  have bR1 : Blk w1 (w.heap.size + 1 + 1) 25 #[.int .i64 0, .slice none 0 0, .slice none 0 0] := ((Blk.at_ (by simp)).alloc _).below hb1 (by simp)
  have bF1 : Blk w1 (w.heap.size + 1 + 1 + 1) 28 #[.int .i64 0, .int .i64 0] := (Blk.at_ (by simp)).below hb1 (by simp)
  have x0 := bA1.cell 0
  have y0 := bB1.cell 0
  simp at x0 y0
  have lF := bF1.lt
  have lA := bA1.lt
  have lB := bB1.lt
  clear hb1 HT
  have q0 := bR1.cell 0
  have q1 := bR1.cell 1
  have q2 := bR1.cell 2
  have q3 := bF1.cell 0
  have q4 := bF1.cell 1
  have qf := bR1.frozen 0
  have qf1 := bR1.frozen 1
  have qf2 := bR1.frozen 2
  have qf3 := bF1.frozen 0
  have qf4 := bF1.frozen 1
  simp at q0 q1 q2 q3 q4
  have hs3 := bR1.lt
  have hs4 := bF1.lt
  have hs5 := hbw1.size
  clear bA1 bB1 bR1 bF1
  go_wp2
  exact bodyPost_ret (v := .tuple #[.agg #[.int .i64 0, .slice none 0 0, .slice none 0 0], .agg #[.int .i64 0, .int .i64 0]]) (by simp [results, Try.results21, go_sem, q0, q1, q2, q3, q4, qf, qf1, qf2, qf3, qf4, hs3, hs4]) rfl ⟨rfl, by go_grown⟩
set_option maxRecDepth 100000 in
set_option maxHeartbeats 8000000 in
theorem cat_zero2 (va vb : Value) (a b : Mach) (w : World) (B : Nat) (hB : B ≤ w.heap.size) (ha : MachAt w B va a) (hb : MachAt w B vb b) (hz : twoF a b = (0, 0)) (hab : 0 < a.n) (hbb : b.n = 0) :
    Calls Try.prog 21 #[va, vb] w fun e w' => e = .returned (.tuple #[.agg #[.int .i64 0, .slice none 0 0, .slice none 0 0], .agg #[.int .i64 0, .int .i64 0]]) ∧ Below w.heap.size w w' := by
  have HA := hide ha
  have HB := hide hb
  obtain ⟨hva, hvb⟩ := twoF_zero hz
  have hVa := valid_of hva
  have hVb := valid_of hvb
  have HVA := hide hVa
  have HVB := hide hVb
  obtain ⟨A, AF, n, c, nf, cf, rfl, HN, HF, hnc, hnfc, hnb, hnfb, hAa, hFa⟩ := ha
  obtain ⟨A', AF', n', c', nf', cf', rfl, HN', HF', hnc', hnfc', hnb', hnfb', hAb, hFb⟩ := hb
  have hne := fun a b c d W => run_neq_fault a b c d W
  have hf0 : fEq 0 0 0 0 = true := rfl
  have hT := fun W (hB : B ≤ W.heap.size) (h : MachAt W B (.agg #[.int .i64 a.n, .slice A n c, .slice AF nf cf]) a) (h' : MachAt W B (.agg #[.int .i64 b.n, .slice A' n' c', .slice AF' nf' cf']) b) => two_any _ _ a b W B hB h h'
  rw [hz] at hT
  have HT := hide hT
  have HFA := hide hFa
  have HFB := hide hFb
  obtain ⟨an0, an4⟩ : 0 ≤ a.n ∧ a.n ≤ 400 := ⟨hVa.n0, hVa.n4⟩
  obtain ⟨bn0, bn4⟩ : 0 ≤ b.n ∧ b.n ≤ 400 := ⟨hVb.n0, hVb.n4⟩
  have hla := hVa.len
  have hlb := hVb.len
  have hfa := hVa.finLen
  have hfb := hVb.finLen
  rw [HF.out] at hfa
  rw [HF'.out] at hfb
  have HRA := hide (show ∀ x ∈ a.arcs, 0 ≤ x.f ∧ x.f ≤ 1000 ∧ 0 ≤ x.t ∧ x.t ≤ 1000 from fun x hx => by have := okArc_iff (hVa.okA hx); omega)
  have HRB := hide (show ∀ x ∈ b.arcs, 0 ≤ x.f ∧ x.f ≤ 1000 ∧ 0 ≤ x.t ∧ x.t ≤ 1000 from fun x hx => by have := okArc_iff (hVb.okA hx); omega)
  have HSA := hide (show ∀ x ∈ a.fins, 0 ≤ x.s ∧ x.s ≤ 1000 from fun x hx => by have := okFin_iff (hVa.okF hx); omega)
  have HSB := hide (show ∀ x ∈ b.fins, 0 ≤ x.s ∧ x.s ≤ 1000 from fun x hx => by have := okFin_iff (hVb.okF hx); omega)
  obtain ⟨ia, ha0, ha1, ha2, ha3⟩ := info_parts arc_info
  obtain ⟨iF, hF0, hF1, hF2, hF3⟩ := info_parts fin_info
  obtain ⟨sa, hsa⟩ : ∃ s, s = a.n := ⟨_, rfl⟩
  obtain ⟨sb, hsb⟩ : ∃ s, s = b.n := ⟨_, rfl⟩
  have HAS := hide hsa
  have HBS := hide hsb
  rw [← hsa] at HA HT an0 an4 hab ⊢
  rw [← hsb] at HB HT bn0 bn4 hbb ⊢
  have tz1 : (sa == 0) = false := by simp; omega
  have tz2 : (sb == 0) = true := by simp [hbb]
  clear hbb
  clear hz hva hvb hVa hVb hT hFa hFb hAa hAb hsa hsb hnb hnfb hnb' hnfb'
  go_enter Try.func21, Try.ntmps21
  go_wp2_with fail
  refine (HT.out _ (by simp; omega) (HA.out.below (show Below w.heap.size w _ by go_grown) hB) (HB.out.below (show Below w.heap.size w _ by go_grown) hB)).mono ?_
  rintro e w1 ⟨rfl, hb1⟩
  have hbw1 : Below w.heap.size w w1 := Below.trans (show Below w.heap.size w _ by go_grown) (hb1.mono (by simp; omega))
  have bA1 : Blk w1 w.heap.size 25 #[.int .i64 sa, .slice A n c, .slice AF nf cf] := ((((Blk.new w _ _).alloc _).alloc _).alloc _).below hb1 (by simp; omega)
  have bB1 : Blk w1 (w.heap.size + 1) 25 #[.int .i64 sb, .slice A' n' c', .slice AF' nf' cf'] := (((Blk.at_ (by simp)).alloc _).alloc _).below hb1 (by simp)
  have bR1 : Blk w1 (w.heap.size + 1 + 1) 25 #[.int .i64 0, .slice none 0 0, .slice none 0 0] := ((Blk.at_ (by simp)).alloc _).below hb1 (by simp)
  have bF1 : Blk w1 (w.heap.size + 1 + 1 + 1) 28 #[.int .i64 0, .int .i64 0] := (Blk.at_ (by simp)).below hb1 (by simp)
  have x0 := bA1.cell 0
  have y0 := bB1.cell 0
  simp at x0 y0
  have lF := bF1.lt
  have lA := bA1.lt
  have lB := bB1.lt
  clear hb1 HT
  have q0 := bR1.cell 0
  have q1 := bR1.cell 1
  have q2 := bR1.cell 2
  have q3 := bF1.cell 0
  have q4 := bF1.cell 1
  have qf := bR1.frozen 0
  have qf1 := bR1.frozen 1
  have qf2 := bR1.frozen 2
  have qf3 := bF1.frozen 0
  have qf4 := bF1.frozen 1
  simp at q0 q1 q2 q3 q4
  have hs3 := bR1.lt
  have hs4 := bF1.lt
  have hs5 := hbw1.size
  clear bA1 bB1 bR1 bF1
  go_wp2
  exact bodyPost_ret (v := .tuple #[.agg #[.int .i64 0, .slice none 0 0, .slice none 0 0], .agg #[.int .i64 0, .int .i64 0]]) (by simp [results, Try.results21, go_sem, q0, q1, q2, q3, q4, qf, qf1, qf2, qf3, qf4, hs3, hs4]) rfl ⟨rfl, by go_grown⟩
set_option maxRecDepth 100000 in
set_option maxHeartbeats 8000000 in
theorem cat_good (va vb : Value) (a b : Mach) (w : World) (B : Nat) (hB : B ≤ w.heap.size) (ha : MachAt w B va a) (hb : MachAt w B vb b) (hz : twoF a b = (0, 0)) (hap : 0 < a.n) (hbp : 0 < b.n) :
    Calls Try.prog 21 #[va, vb] w fun e w' => ∃ v', e = .returned (.tuple #[v', .agg #[.int .i64 (finF (a.n + b.n) (catArcs a b).length).1, .int .i64 (finF (a.n + b.n) (catArcs a b).length).2]]) ∧ MachNew w.heap.size w' v' (finM (a.n + b.n) (catArcs a b) (catFins a b)) ∧ Below w.heap.size w w' := by
  have HA := hide ha
  have HB := hide hb
  obtain ⟨hva, hvb⟩ := twoF_zero hz
  have hVa := valid_of hva
  have hVb := valid_of hvb
  have HVA := hide hVa
  have HVB := hide hVb
  obtain ⟨A, AF, n, c, nf, cf, rfl, HN, HF, hnc, hnfc, hnb, hnfb, hAa, hFa⟩ := ha
  obtain ⟨A', AF', n', c', nf', cf', rfl, HN', HF', hnc', hnfc', hnb', hnfb', hAb, hFb⟩ := hb
  have hne := fun a b c d W => run_neq_fault a b c d W
  have hf0 : fEq 0 0 0 0 = true := rfl
  have hT := fun W (hB : B ≤ W.heap.size) (h : MachAt W B (.agg #[.int .i64 a.n, .slice A n c, .slice AF nf cf]) a) (h' : MachAt W B (.agg #[.int .i64 b.n, .slice A' n' c', .slice AF' nf' cf']) b) => two_any _ _ a b W B hB h h'
  rw [hz] at hT
  have HT := hide hT
  have HFA := hide hFa
  have HFB := hide hFb
  obtain ⟨an0, an4⟩ : 0 ≤ a.n ∧ a.n ≤ 400 := ⟨hVa.n0, hVa.n4⟩
  obtain ⟨bn0, bn4⟩ : 0 ≤ b.n ∧ b.n ≤ 400 := ⟨hVb.n0, hVb.n4⟩
  have hla := hVa.len
  have hlb := hVb.len
  have hfa := hVa.finLen
  have hfb := hVb.finLen
  rw [HF.out] at hfa
  rw [HF'.out] at hfb
  have HRA := hide (show ∀ x ∈ a.arcs, 0 ≤ x.f ∧ x.f ≤ 1000 ∧ 0 ≤ x.t ∧ x.t ≤ 1000 from fun x hx => by have := okArc_iff (hVa.okA hx); omega)
  have HRB := hide (show ∀ x ∈ b.arcs, 0 ≤ x.f ∧ x.f ≤ 1000 ∧ 0 ≤ x.t ∧ x.t ≤ 1000 from fun x hx => by have := okArc_iff (hVb.okA hx); omega)
  have HSA := hide (show ∀ x ∈ a.fins, 0 ≤ x.s ∧ x.s ≤ 1000 from fun x hx => by have := okFin_iff (hVa.okF hx); omega)
  have HSB := hide (show ∀ x ∈ b.fins, 0 ≤ x.s ∧ x.s ≤ 1000 from fun x hx => by have := okFin_iff (hVb.okF hx); omega)
  obtain ⟨ia, ha0, ha1, ha2, ha3⟩ := info_parts arc_info
  obtain ⟨iF, hF0, hF1, hF2, hF3⟩ := info_parts fin_info
  obtain ⟨sa, hsa⟩ : ∃ s, s = a.n := ⟨_, rfl⟩
  obtain ⟨sb, hsb⟩ : ∃ s, s = b.n := ⟨_, rfl⟩
  have HAS := hide hsa
  have HBS := hide hsb
  rw [← hsa] at HA HT an0 an4 hap ⊢
  rw [← hsb] at HB HT bn0 bn4 hbp ⊢
  have tz1 : (sa == 0) = false := by simp; omega
  have tz2 : (sb == 0) = false := by simp; omega
  clear hz hva hvb hVa hVb hT hFa hFb hAa hAb hsa hsb hnb hnfb hnb' hnfb'
  go_enter Try.func21, Try.ntmps21
  go_wp2_with fail
  refine (HT.out _ (by simp; omega) (HA.out.below (show Below w.heap.size w _ by go_grown) hB) (HB.out.below (show Below w.heap.size w _ by go_grown) hB)).mono ?_
  rintro e w1 ⟨rfl, hb1⟩
  have hbw1 : Below w.heap.size w w1 := Below.trans (show Below w.heap.size w _ by go_grown) (hb1.mono (by simp; omega))
  have bA1 : Blk w1 w.heap.size 25 #[.int .i64 sa, .slice A n c, .slice AF nf cf] := ((((Blk.new w _ _).alloc _).alloc _).alloc _).below hb1 (by simp; omega)
  have bB1 : Blk w1 (w.heap.size + 1) 25 #[.int .i64 sb, .slice A' n' c', .slice AF' nf' cf'] := (((Blk.at_ (by simp)).alloc _).alloc _).below hb1 (by simp)
  have bR1 : Blk w1 (w.heap.size + 1 + 1) 25 #[.int .i64 0, .slice none 0 0, .slice none 0 0] := ((Blk.at_ (by simp)).alloc _).below hb1 (by simp)
  have bF1 : Blk w1 (w.heap.size + 1 + 1 + 1) 28 #[.int .i64 0, .int .i64 0] := (Blk.at_ (by simp)).below hb1 (by simp)
  have x0 := bA1.cell 0
  have y0 := bB1.cell 0
  simp at x0 y0
  have lF := bF1.lt
  have lA := bA1.lt
  have lB := bB1.lt
  clear hb1 HT
  go_upto_region 7 with fail
  generalize hW2 : World.alloc _ _ = W2
  obtain ⟨O, hO⟩ : ∃ O, O = w1.heap.size + 1 := ⟨_, rfl⟩
  obtain ⟨base, hbase⟩ : ∃ O, O = w1.heap.size + 1 + 1 := ⟨_, rfl⟩
  have bA : Blk W2 w.heap.size 25 #[.int .i64 sa, .slice A n c, .slice AF nf cf] := by rw [← hW2]; exact (bA1.alloc _).alloc _
  have bB : Blk W2 (w.heap.size + 1) 25 #[.int .i64 sb, .slice A' n' c', .slice AF' nf' cf'] := by rw [← hW2]; exact (bB1.alloc _).alloc _
  have bR : Blk W2 (w.heap.size + 1 + 1) 25 #[.int .i64 0, .slice none 0 0, .slice none 0 0] := by rw [← hW2]; exact (bR1.alloc _).alloc _
  have bF : Blk W2 (w.heap.size + 1 + 1 + 1) 28 #[.int .i64 0, .int .i64 0] := by rw [← hW2]; exact (bF1.alloc _).alloc _
  have bO : Blk W2 O 25 #[.int .i64 (sa + sb), .slice none 0 0, .slice none 0 0] := by rw [← hW2]; exact Blk.at_ (by rw [hO]; simp)
  have HBW := hide (show Below w.heap.size w W2 by rw [← hW2]; exact (hbw1.alloc hbw1.size _).alloc (by have := hbw1.size; simp; omega) _)
  have hz2 : W2.heap.size = base := by rw [← hW2, hbase]; simp
  have hOb : base = O + 1 := by omega
  have hpO : w.heap.size + 1 + 1 + 1 < O := by omega
  rw [← hO]
  have hOb2 : O < base := by omega
  have hbz : base ≤ W2.heap.size := by omega
  have HOB := hide hOb
  clear hW2 hz2 hOb hbase hO bA1 bB1 bR1 bF1 x0 y0 lF lA lB hbw1
  have o1 := bO.cell 1
  have x0 := bA.cell 0
  have x1 := bA.cell 1
  have x2 := bA.cell 2
  have y0 := bB.cell 0
  have y1 := bB.cell 1
  have y2 := bB.cell 2
  simp at x0 x1 x2 y0 y1 y2 o1
  have lA := bA.lt
  have lB := bB.lt
  have lO := bO.lt
  refine wp_mix (fun w' => w'.cell? ⟨O, 1, none⟩ = some (.slice none 0 0) ∧ w'.cell? ⟨w.heap.size, 0, none⟩ = some (.int .i64 sa) ∧ w'.cell? ⟨w.heap.size, 1, none⟩ = some (.slice A n c) ∧ w'.cell? ⟨w.heap.size, 2, none⟩ = some (.slice AF nf cf) ∧
    w'.cell? ⟨w.heap.size + 1, 0, none⟩ = some (.int .i64 sb) ∧ w'.cell? ⟨w.heap.size + 1, 1, none⟩ = some (.slice A' n' c') ∧ w'.cell? ⟨w.heap.size + 1, 2, none⟩ = some (.slice AF' nf' cf')) 7 [(0, false), (1, false), (2, false), (4, false), (5, false), (6, false), (3, true)] (by kernel_rfl) (by kernel_rfl) ?_ ?_
  · go_simp
  simp only [List.drop_succ_cons, List.drop_zero]
  repeat (refine mix_q (v := ?_) (by rfl) (by rfl) ?_ ?_; rotate_left; (focus (intro w' hC; (try dsimp only at hC); go_simp; (first | done | with_reducible rfl))); simp only [Act.put, List.setIfInBounds_toArray, List.set_cons_zero, List.set_cons_succ])
  refine mix_l (by rfl) (by rfl) (fun K hK => ?_)
  go_simp
  refine (add_own a 0 [] 0 base (.slice none 0 0) _ _ (by simpa using hbz) ((HA.out.below HBW.out.drew hB).mono (by omega)) rfl (by omega) hla HRA.out (by omega) (World.ownsRow_nil _ _ _ _)).mono ?_
  rintro e w3 ⟨v3, rfl, hown3, hb3⟩
  rw [Nat.zero_add, List.nil_append, shA_zero] at hown3
  obtain ⟨A3, c3, rfl, hkc3, _⟩ := own_value hown3
  have hbz3 := hb3.size
  simp at hbz3
  have bO3 := (bO.drew).below hb3 (by omega)
  have bA3 := (bA.drew).below hb3 (by omega)
  have bB3 := (bB.drew).below hb3 (by omega)
  have bR3 := (bR.drew).below hb3 (by omega)
  have bF3 := (bF.drew).below hb3 (by omega)
  have HBW3 := hide (HBW.out.drew.trans (hb3.mono (by omega)))
  have HO3 := hide hown3
  clear x0 x1 x2 y0 y1 y2 o1 lA lB lO bO bA bB bR bF hb3 hown3
  refine hK _ _ ⟨bO3.cell 1, bA3.cell 0, bA3.cell 1, bA3.cell 2, bB3.cell 0, bB3.cell 1, bB3.cell 2⟩ ?_
  clear hK K
  refine mix_nil ?_; try simp only [Act.put, List.setIfInBounds_toArray, List.set_cons_zero, List.set_cons_succ]
  have lO3 := bO3.lt
  go_wp2_with fail
  refine (add_own b sa a.arcs a.arcs.length base _ _ _ (by omega) ((HB.out.below HBW3.out hB).mono (by omega)) rfl (by omega) hlb HRB.out (by omega) HO3.out).mono ?_
  rintro e w4 ⟨v4, rfl, hown4, hb4⟩
  obtain ⟨A4, c4, rfl, hkc4, _⟩ := own_value hown4
  have hbz4 := hb4.size
  have bO4 := bO3.below hb4 (by omega)
  have bA4 := bA3.below hb4 (by omega)
  have bB4 := bB3.below hb4 (by omega)
  have bR4 := bR3.below hb4 (by omega)
  have bF4 := bF3.below hb4 (by omega)
  have HBW4 := hide (HBW3.out.trans (hb4.mono (by omega)))
  have HO4 := hide hown4
  have o1 := bO4.cell 1
  have fo1 := bO4.frozen 1
  simp at o1
  have lO4 := bO4.lt
  clear lO3 bO3 bA3 bB3 bR3 bF3 hb4 hown4 HO3 HBW3
  go_wp2
  refine NoPanic.normal ?_
  generalize hW5 : World.setCell _ _ _ = W5
  obtain ⟨K, hK⟩ : ∃ K, K = a.arcs.length + b.arcs.length := ⟨_, rfl⟩
  obtain ⟨L, hL⟩ : ∃ L : List Arc, L = a.arcs ++ b.arcs.map (shA sa) := ⟨_, rfl⟩
  have HK := hide hK
  have HL := hide hL
  have hK4 : K ≤ 4000 := by omega
  rw [← hK, ← hL] at HO4
  rw [← hK] at hkc4 hW5
  have HO5 := hide (show W5.ownsRow base 45 5 (.slice A4 (K + 0) c4) (K + 0) (arcRow (L ++ (a.fins.take 0).map (fun x => eps x.s sa x.w))) by rw [← hW5]; simpa using ownsRow_setCell_below HO4.out (by simpa using hOb2) _)
  have HBO5 := hide (show Blk W5 O 25 #[.int .i64 (sa + sb), .slice A4 (K + 0) c4, .slice none 0 0] by rw [← hW5]; exact bO4.set_ 1 _)
  have HBA5 := hide (show Blk W5 w.heap.size 25 #[.int .i64 sa, .slice A n c, .slice AF nf cf] by rw [← hW5]; exact bA4.far (by dsimp only; omega) _)
  have HBB5 := hide (show Blk W5 (w.heap.size + 1) 25 #[.int .i64 sb, .slice A' n' c', .slice AF' nf' cf'] by rw [← hW5]; exact bB4.far (by dsimp only; omega) _)
  have HBR5 := hide (show Blk W5 (w.heap.size + 1 + 1) 25 #[.int .i64 0, .slice none 0 0, .slice none 0 0] by rw [← hW5]; exact bR4.far (by dsimp only; omega) _)
  have HBF5 := hide (show Blk W5 (w.heap.size + 1 + 1 + 1) 28 #[.int .i64 0, .int .i64 0] by rw [← hW5]; exact bF4.far (by dsimp only; omega) _)
  have HBW5 := hide (show Below w.heap.size w W5 by rw [← hW5]; exact HBW4.out.setCell (by dsimp only; omega) _)
  have hbz5 : base ≤ W5.heap.size := by rw [← hW5]; simp [World.setCell]; omega
  have HOL := hide (⟨A4, c4, HBO5.out, HO5.out⟩ : ∃ A c, Blk W5 O 25 #[.int .i64 (sa + sb), .slice A (K + 0) c, .slice none 0 0] ∧ W5.ownsRow base 45 5 (.slice A (K + 0) c) (K + 0) (arcRow (L ++ (a.fins.take 0).map (fun x => eps x.s sa x.w))))
  clear hW5 hK hL bO4 bA4 bB4 bR4 bF4 HO4 HBW4 o1 fo1 lO4 HO5 HBO5
  have x2 := HBA5.out.cell 2
  simp at x2
  have lA := HBA5.out.lt
  go_wp2
  go_loopw [46] (fun iv wr => ∃ k : Nat, k ≤ nf ∧ iv = .int .i64 k ∧ Hid (∃ A c, Blk wr O 25 #[.int .i64 (sa + sb), .slice A (K + k) c, .slice none 0 0] ∧ wr.ownsRow base 45 5 (.slice A (K + k) c) (K + k) (arcRow (L ++ (a.fins.take k).map (fun x => eps x.s sa x.w)))) ∧ Hid (Below O W5 wr) ∧ base ≤ wr.heap.size) (fun iv _ => nf - (intOf iv).toNat)
  case atStart => exact ⟨0, by omega, rfl, HOL, hide (Below.refl _ _), hbz5⟩
  case round =>
    clear x2 lA HOL
    obtain ⟨k, hk, rfl, HOL, HBL, hz⟩ := hrel
    obtain ⟨A5, c5, bO5, hown5⟩ := HOL.out
    have HBA := hide (HBA5.out.below HBL.out (by omega))
    have x0 := HBA.out.cell 0
    simp at x0
    have lA := HBA.out.lt
    have lO := bO5.lt
    have o1 := bO5.cell 1
    simp at o1
    have HBKO := hide bO5
    have HOWN := hide hown5
    have hlow : ∀ q, (Value.slice A5 (K + k) c5).ownBlock = some q → base ≤ q := fun q hq => (hown5.lt q hq).1
    have HLOW := hide hlow
    have hneO : (Value.slice A5 (K + k) c5).ownBlock ≠ some O := fun e => by have := hlow _ e; omega
    clear hlow HOL bO5 hown5
    by_cases hkn : k < nf
    · obtain ⟨bb, off, x, rfl, hbB, d0, d1, HX⟩ := fins_at ((HFA.out.below HBW5.out hB).below HBL.out (by have := HBW5.out.size; omega)) hkn
      have hkl : k < a.fins.length := by rw [HF.out]; exact hkn
      obtain ⟨r0, r1⟩ := HSA.out x (by rw [← HX.out]; simp [List.getD, hkl])
      have lb : bb < wr.heap.size := by omega
      have HTK := hide (takeF_push hkl HX.out)
      go_wp2_with (at_builtin; refine wpList_append_own _ rfl (.tmp 51) (.tmp 59) 22 rfl base 45 ia _ 5 40 Try.underlying22 ha0 ha1 ha2 ha3 rfl (by omega) (.slice A5 (K + k) c5) (K + k) _ rfl ((HOWN.out.alloc _).alloc _) ⟨wr.heap.size + 1, 0, none⟩ 1 1 (arcRow [eps x.s sa x.w]) rfl (by rfl) (World.news_of_block (cs := (arcRow [eps x.s sa x.w]).toArray) (t := 45) (fr := (0, 0)) (Blk.at_ (by simp))) (arcRow_one _) (by simp only [maxLen]; omega) (by omega) (by simp; omega) ?_; intro v' w6 hown2 hg2 _; obtain ⟨Av, cv, rfl, hkcv, _⟩ := own_value hown2; have o1' := far_cell hg2 hneO (o := 1) (v := .slice A5 (K + k) c5) (by go_simp); have bO6 := ((HBKO.out.alloc _).alloc _).grown hg2 (Ne.symm hneO); have of1' := bO6.frozen 1; have lO6 := bO6.lt)
      have hs6 := hg2.size
      simp at hs6
      go_roundw
      case rel => exact ⟨k + 1, by omega, by go_num, hide ⟨Av, cv, by simpa [Nat.add_assoc] using bO6.set_ 1 (.slice Av (K + k + 1) cv), ownsRow_setCell_below (by
          rw [HTK.out, List.map_append, ← List.append_assoc, arcRow_append]
          simpa [Nat.add_assoc] using hown2) (by simpa using hOb2) _⟩, hide ((((HBL.out.alloc (by omega) _).alloc (by simp; omega) _).grown hg2 (by simp; omega) (fun q hq => by have := HLOW.out q hq; omega)).setCell (by simp) _), by simp [World.setCell]; omega⟩
      case measure => simp [intOf]; omega
    · obtain rfl : k = nf := by omega
      have hend : a.fins.take k = a.fins := List.take_of_length_le (by rw [HF.out]; exact Nat.le_refl _)
      have hown := HOWN.out
      rw [hend] at hown
      obtain ⟨L2, hL2⟩ : ∃ L2 : List Arc, L2 = L ++ a.fins.map (fun x => eps x.s sa x.w) := ⟨_, rfl⟩
      rw [← hL2] at hown
      have HL2 := hide hL2
      have HO6 := hide hown
      have HBB := hide (HBB5.out.below HBL.out (by omega))
      have HBR := hide (HBR5.out.below HBL.out (by omega))
      have HBF := hide (HBF5.out.below HBL.out (by omega))
      have HBW6 := hide (HBW5.out.trans (HBL.out.mono (by omega)))
      have y2 := HBB.out.cell 2
      simp at y2
      have lB := HBB.out.lt
      have o2 := HBKO.out.cell 2
      have fo2 := HBKO.out.frozen 2
      simp at o2
      clear hend hown hL2 HOWN HBA5 HBB5 HBR5 HBF5
      go_wp2_with fail
      refine (moved_own b.fins sa B AF' nf' cf' _ (by have := HBW6.out.size; omega) HF'.out (by omega) HSB.out (by omega) (HFB.out.below HBW6.out hB)).mono ?_
      rintro e w7 ⟨v7, rfl, hown7, hb7⟩
      obtain ⟨A7, c7, rfl, hkc7, _⟩ := own_value hown7
      have bO7 := HBKO.out.below hb7 lO
      have bR7 := HBR.out.below hb7 (by have := HBR.out.lt; omega)
      have bF7 := HBF.out.below hb7 (by have := HBF.out.lt; omega)
      have hbz7 := hb7.size
      have HBW7 := hide (HBW6.out.trans (hb7.mono HBW6.out.size))
      have HO7 := hide (own_belowB HO6.out hb7)
      have HF7 := hide (own_monoB hown7 hz)
      have o2' := bO7.cell 2
      have of2 := bO7.frozen 2
      simp at o2'
      have lO7 := bO7.lt
      clear hb7 hown7 HO6 HBW6 o2 fo2 y2 x0 o1 lB lA lO
      go_upto_region 14 with fail
      generalize hW9 : World.setCell _ _ _ = W9
      have HO9 := hide (show W9.ownsRow base 45 5 (.slice A5 (K + k) c5) (K + k) (arcRow L2) by rw [← hW9]; exact ownsRow_setCell_below HO7.out (by simpa using hOb2) _)
      have HF9 := hide (show W9.ownsRow base 51 2 (.slice A7 nf' c7) nf' (finRow (catFins a b)) by
        rw [← hW9]
        have e : catFins a b = b.fins.map (shF sa) := by unfold catFins; rw [HAS.out]
        rw [e]
        exact ownsRow_setCell_below HF7.out (by simpa using hOb2) _)
      have bO9 : Blk W9 O 25 #[.int .i64 (sa + sb), .slice A5 (K + k) c5, .slice A7 nf' c7] := by rw [← hW9]; exact bO7.set_ 2 _
      have bR9 : Blk W9 (w.heap.size + 1 + 1) 25 #[.int .i64 0, .slice none 0 0, .slice none 0 0] := by rw [← hW9]; exact bR7.far (by dsimp only; omega) _
      have bF9 : Blk W9 (w.heap.size + 1 + 1 + 1) 28 #[.int .i64 0, .int .i64 0] := by rw [← hW9]; exact bF7.far (by dsimp only; omega) _
      have HBW9 := hide (show Below w.heap.size w W9 by rw [← hW9]; exact HBW7.out.setCell (by dsimp only; omega) _)
      have hbz9 : base ≤ W9.heap.size := by rw [← hW9]; simp [World.setCell]; omega
      have o0 := bO9.cell 0
      have o1 := bO9.cell 1
      have o2'' := bO9.cell 2
      simp at o0 o1 o2''
      have lO9 := bO9.lt
      have hLU : L2 = catArcs a b := by rw [HL2.out, HL.out, HAS.out]; rfl
      have hLK : L2.length = K + k := by have h := HF.out; rw [HL2.out, HL.out, HK.out]; simp only [List.length_append, List.length_map]; omega
      have hnd : L2.Nodup := by rw [hLU]; exact cat_nodup HVA.out HVB.out
      have HFIN := hide (finish_any (sa + sb) L2 (catFins a b) (K + k) nf' base (.slice A5 (K + k) c5) (.slice A7 nf' c7) W9 hbz9 hLK (by omega) hnd (by omega) (by unfold catFins; rw [List.length_map, HF'.out]) (by omega) HO9.out HF9.out)
      have HLU := hide hLU
      have HLK := hide hLK
      clear hW9 hLU hLK hnd bO7 bR7 bF7 o2' of2 lO7 HO7 HF7 HBW7
      go_wp2_with fail
      refine HFIN.out.mono ?_
      rintro e w10 ⟨v10, rfl, hM, hb10⟩
      obtain ⟨A10, n10, c10, AF10, nf10, cf10, rfl⟩ := agg_of hM
      have bR10 := bR9.below hb10 (by omega)
      have bF10 := bF9.below hb10 (by omega)
      have hbw10 := HBW9.out.trans (hb10.mono (by omega))
      have HM := hide hM
      have q0 := bR10.cell 0
      have q1 := bR10.cell 1
      have q2 := bR10.cell 2
      have q3 := bF10.cell 0
      have q4 := bF10.cell 1
      have qf := bR10.frozen 0
      have qf1 := bR10.frozen 1
      have qf2 := bR10.frozen 2
      have qf3 := bF10.frozen 0
      have qf4 := bF10.frozen 1
      simp at q0 q1 q2 q3 q4
      have lR := bR10.lt
      have lF := bF10.lt
      have hb10s := hb10.size
      have HE := hide (show finM (a.n + b.n) (catArcs a b) (catFins a b) = finM (sa + sb) L2 (catFins a b) by rw [HLU.out, HAS.out, HBS.out])
      have HEK := hide (show finF (sa + sb) (K + k) = finF (sa + sb) (catArcs a b).length by rw [← HLK.out, HLU.out])
      clear hM hb10 HFIN o0 o1 o2'' lO9 bO9 bR9 bF9 bR10 bF10
      go_wp2
      rw [← HEK.out]
      refine bodyPost_ret (v := .tuple #[.agg #[.int .i64 (finM (sa + sb) L2 (catFins a b)).n, .slice A10 n10 c10, .slice AF10 nf10 cf10], .agg #[.int .i64 (finF (sa + sb) (K + k)).1, .int .i64 (finF (sa + sb) (K + k)).2]]) (by simp [results, Try.results21, go_sem, lR, lF, q0, q1, q2, q3, q4, qf, qf1, qf2, qf3, qf4]) rfl ⟨_, rfl, ?_, ?_⟩
      · have e : finM (sa + sb) (catArcs a b) (catFins a b) = finM (sa + sb) L2 (catFins a b) := by rw [HLU.out]
        rw [e]
        refine MachNew.mono (lo := base) ?_ (by omega)
        refine MachNew.set (MachNew.set (MachNew.set (MachNew.set (MachNew.set HM.out ?_ _) ?_ _) ?_ _) ?_ _) ?_ _ <;> (dsimp only; omega)
      · refine Below.setCell (Below.setCell (Below.setCell (Below.setCell (Below.setCell hbw10 ?_ _) ?_ _) ?_ _) ?_ _) ?_ _ <;> (dsimp only; omega)
/-- rational.Concat, at any two machines. -/
theorem concat_any (va vb : Value) (a b : Mach) (w : World) (B : Nat) (hB : B ≤ w.heap.size) (ha : MachAt w B va a) (hb : MachAt w B vb b) :
    Calls Try.prog 21 #[va, vb] w fun e w' => ∃ v', e = .returned (.tuple #[v', .agg #[.int .i64 (catF a b).1, .int .i64 (catF a b).2]]) ∧ MachNew w.heap.size w' v' (catR a b) ∧ Below w.heap.size w w' := by
  by_cases hz : twoF a b = (0, 0)
  · by_cases h0 : a.n = 0 ∨ b.n = 0
    · have e1 : catF a b = (0, 0) := by unfold catF; rw [if_pos hz, if_pos h0]
      have e2 : catR a b = emptyM := by unfold catR; rw [if_pos hz, if_pos h0]
      rw [e1, e2]
      obtain ⟨hva, hvb⟩ := twoF_zero hz
      have h1 := (valid_of hva).n0
      have h2 := (valid_of hvb).n0
      by_cases h3 : a.n = 0
      · exact (cat_zero1 va vb a b w B hB ha hb hz h3 h2).mono fun e w' ⟨he, hb⟩ => ⟨_, he, MachNew.empty _ _, hb⟩
      · exact (cat_zero2 va vb a b w B hB ha hb hz (by omega) (by omega)).mono fun e w' ⟨he, hb⟩ => ⟨_, he, MachNew.empty _ _, hb⟩
    · have e1 : catF a b = finF (a.n + b.n) (catArcs a b).length := by unfold catF; rw [if_pos hz, if_neg h0]
      have e2 : catR a b = finM (a.n + b.n) (catArcs a b) (catFins a b) := by unfold catR; rw [if_pos hz, if_neg h0]
      rw [e1, e2]
      obtain ⟨hva, hvb⟩ := twoF_zero hz
      have h1 := (valid_of hva).n0
      have h2 := (valid_of hvb).n0
      exact cat_good va vb a b w B hB ha hb hz (by omega) (by omega)
  · have e1 : catF a b = twoF a b := by unfold catF; rw [if_neg hz]
    have e2 : catR a b = emptyM := by unfold catR; rw [if_neg hz]
    rw [e1, e2]
    exact (cat_bad va vb a b w B hB ha hb hz).mono fun e w' ⟨he, hb⟩ => ⟨_, he, MachNew.empty _ _, hb⟩
end Go.Proofs.Ytmgpcnkmmgkjgaa
