/- The texts LoF of this proof. No conditions. -/
import Derived.Test.YtopakcbhodnipaaCb11
import Derived.Test.YtopakcbhodnipaaCb25
import Derived.Test.YtopakcbhodnipaaCb26
import Derived.Test.YtopakcbhodnipaaCb27
import Derived.Test.YtopakcbhodnipaaCb28
import Derived.Test.YtopakcbhodnipaaDb1
import Derived.Test.YtopakcbhodnipaaDb2
import Derived.Test.YtopakcbhodnipaaDb5
import Derived.Test.YtopakcbhodnipaaDb6
import Derived.Test.YtopakcbhodnipaaDb7
/- Text LoF. -/
namespace Go.Proofs.Ytopakcbhodnipaa
open Go.RowKit Gm
set_option linter.unusedSimpArgs false
set_option linter.unusedVariables false
theorem agg_ofL {w : World} {B : Nat} {v : Value} {m : Mach} (h : MachAt w B v m) : ∃ (A AF : Option Addr) (n c nf cf : Nat), v = .agg #[.int .i64 m.n, .slice A n c, .slice AF nf cf] ∧ m.arcs.length = n := by
 obtain ⟨A, AF, n, c, nf, cf, e, h1, _⟩ := h
 exact ⟨A, AF, n, c, nf, cf, e, h1.out⟩
theorem mach_fld (a : Int) (A AF : Option Addr) (n c nf cf : Nat) (W : World) : (Instr.field 28 (.agg #[.int .i64 a, .slice A n c, .slice AF nf cf]) 1).run Try.prog W = .ok (.slice A n c) W := by kernel_rfl
def AggM (v : Value) : Prop := ∃ (a : Int) (A AF : Option Addr) (n c nf cf : Nat), v = .agg #[.int .i64 a, .slice A n c, .slice AF nf cf]
theorem aggM (a : Int) (A AF : Option Addr) (n c nf cf : Nat) : AggM (.agg #[.int .i64 a, .slice A n c, .slice AF nf cf]) := ⟨a, A, AF, n, c, nf, cf, rfl⟩
set_option maxRecDepth 100000 in
set_option maxHeartbeats 16000000 in
theorem sound_any (va : Value) (m : Mach) (w : World) (B : Nat) (hB : B ≤ w.heap.size) (ha : MachAt w B va m) (hv : accF m = (0, 0)) :
 Calls Try.prog 58 #[va] w fun e w' => ∃ (v1 : Value) (b : Bool), e = .returned (.tuple #[v1, .bool b]) ∧ Below w.heap.size w w' ∧ AggM v1 ∧ (b = true → (silM m).arcs.length ≤ 2000 ∧ (setsR m).n ≤ 60 ∧ (setsR m).arcs.length ≤ 2000 ∧ MachNew w.heap.size w' v1 (setsR m)) := by
 have HVV := hide hv
 have HM := hide ha
 obtain ⟨A, AF, n, c, nf, cf, rfl, _⟩ := ha
 clear hv
 go_enter Try.func58, Try.ntmps58
 go_upto_region 1 with fail
 generalize hW1 : World.alloc _ _ = W1
 obtain ⟨X, hX⟩ : ∃ z, z = w.heap.size := ⟨_, rfl⟩
 obtain ⟨R, hR⟩ : ∃ z, z = w.heap.size + 1 := ⟨_, rfl⟩
 have bX := hide (show Blk W1 X 28 #[.int .i64 m.n, .slice A n c, .slice AF nf cf] by rw [← hW1]; exact (Blk.at_ hX).alloc _)
 have bR := hide (show Blk W1 R 28 #[.int .i64 0, .slice none 0 0, .slice none 0 0] by rw [← hW1]; exact Blk.at_ (by simp [hR]))
 have HB := hide (show Below w.heap.size w W1 by rw [← hW1]; go_grown)
 have hXR : X < R := by omega
 have hwR : w.heap.size ≤ R := by omega
 have hwX : w.heap.size ≤ X := by omega
 have hBW : B ≤ w.heap.size := hB
 simp only [← hR]
 try simp only [← hX]
 clear hW1 hX hR
 have HM1 := hide (HM.out.below HB.out hB)
 have x0 := bX.out.cell 0
 have x1 := bX.out.cell 1
 have x2 := bX.out.cell 2
 simp at x0 x1 x2
 have lX := bX.out.lt
 go_upto_if 10 with (first | (refine wpList_field rfl _ _ _ rfl (mach_fld _ _ _ _ _ _ _ _) ?_) | (go_at_call 33; refine (silentOf_any _ m W1 B (by have := HB.out.size; omega) HM1.out HVV.out).mono ?_; rintro e w2 ⟨v1, rfl, hnew, hb2⟩; obtain ⟨A2, AF2, n2, c2, nf2, cf2, rfl, hn2⟩ := agg_ofL hnew.at_; have HN2 := hide hn2; have HB2 := hide hb2; obtain ⟨bb, hbb⟩ : ∃ b : Bool, decide ((2000 : Int) < (n2 : Int)) = b := ⟨_, rfl⟩; have HBB := hide hbb; clear hnew hn2 hb2))
 replace bX := hide (bX.out.below HB2.out bX.out.lt)
 replace bR := hide (bR.out.below HB2.out bR.out.lt)
 replace HB := hide (HB.out.trans (HB2.out.mono HB.out.size))
 clear x0 x1 x2 lX
 have x0 := bX.out.cell 0
 have x1 := bX.out.cell 1
 have x2 := bX.out.cell 2
 simp at x0 x1 x2
 have lX := bX.out.lt
 have HM2 := hide (HM.out.below HB.out hB)
 clear HM1 HB2
 clear hbb
 cases bb
 rotate_left
 ·
  skip
  have q0 := bR.out.cell 0
  have q1 := bR.out.cell 1
  have q2 := bR.out.cell 2
  have qf := bR.out.frozen 0
  have qf1 := bR.out.frozen 1
  have qf2 := bR.out.frozen 2
  have lR := bR.out.lt
  simp at q0 q1 q2
  have HBF := hide ((((HB.out.setCell (p := ⟨R, 0, none⟩) hwR (.int .i64 m.n)).setCell (p := ⟨R, 1, none⟩) hwR (.slice A n c)).setCell (p := ⟨R, 2, none⟩) hwR (.slice AF nf cf)))
  clear HBB
  go_wp21
  exact bodyPost_ret (v := .tuple #[.agg #[.int .i64 m.n, .slice A n c, .slice AF nf cf], .bool false]) (by simp [results, Try.results58, go_sem, lR, q0, q1, q2, qf, qf1, qf2]) rfl ⟨_, false, rfl, HBF.out, aggM _ _ _ _ _ _ _, fun h => (by cases h)⟩
 have h20 : ¬ (2000 : Int) < (n2 : Int) := of_decide_eq_false HBB.out
 have hl : (silM m).arcs.length ≤ 2000 := by rw [HN2.out]; omega
 have HL := hide hl
 obtain ⟨W2, hW2⟩ : ∃ z, z = w2 := ⟨_, rfl⟩
 rw [← hW2] at bX bR HB HM2 x0 x1 x2 lX ⊢
 clear hW2 h20 hl HN2 HBB
 go_upto_region 4 with (go_at_call 34; refine (sets_any _ m W2 B (by have := HB.out.size; omega) HM2.out HVV.out HL.out).mono ?_; rintro e w3 ⟨v1, b, rfl, hb3, hf, ht⟩; obtain ⟨mm, hmn, hme⟩ : ∃ mm, MachNew W2.heap.size w3 v1 mm ∧ (b = true → mm = setsR m ∧ mm.n ≤ 60) := (by cases b; exact ⟨_, hf rfl, fun h => (by cases h)⟩; exact ⟨_, (ht rfl).1, fun _ => ⟨rfl, (ht rfl).2⟩⟩); obtain ⟨A3, AF3, n3, c3, nf3, cf3, rfl, hn3⟩ := agg_ofL hmn.at_; have HN3 := hide hn3; have HMN := hide hmn; have HME := hide hme; have HB3 := hide hb3; clear hmn hn3 hme hb3 hf ht)
 generalize hW4 : World.alloc _ _ = W4
 obtain ⟨D, hD⟩ : ∃ z, z = w3.heap.size := ⟨_, rfl⟩
 have bD := hide (show Blk W4 D 28 #[.int .i64 mm.n, .slice A3 n3 c3, .slice AF3 nf3 cf3] by rw [← hW4]; exact Blk.at_ hD)
 have HB4 := hide (show Below W2.heap.size W2 W4 by rw [← hW4]; exact HB3.out.alloc HB3.out.size _)
 have HMN4 := hide (show MachNew W2.heap.size W4 (.agg #[.int .i64 mm.n, .slice A3 n3 c3, .slice AF3 nf3 cf3]) mm by rw [← hW4]; exact HMN.out.alloc _)
 have hRD : R < D := by have := bR.out.lt; have := HB3.out.size; omega
 have hwW : w.heap.size ≤ W2.heap.size := HB.out.size
 have hRW : R < W2.heap.size := bR.out.lt
 simp only [← hD]
 clear hW4 hD HMN HB3 x0 x1 x2 lX
 replace bR := hide (bR.out.below HB4.out bR.out.lt)
 replace HB := hide (HB.out.trans (HB4.out.mono HB.out.size))
 have q0 := bR.out.cell 0
 have q1 := bR.out.cell 1
 have q2 := bR.out.cell 2
 have qf := bR.out.frozen 0
 have qf1 := bR.out.frozen 1
 have qf2 := bR.out.frozen 2
 have lR := bR.out.lt
 simp at q0 q1 q2
 have d0 := bD.out.cell 0
 have d1 := bD.out.cell 1
 have d2 := bD.out.cell 2
 simp at d0 d1 d2
 have lD := bD.out.lt
 have hDR : D ≠ R := by omega
 cases b
 ·
  skip
  have HBF := hide ((((HB.out.setCell (p := ⟨R, 0, none⟩) hwR (.int .i64 mm.n)).setCell (p := ⟨R, 1, none⟩) hwR (.slice A3 n3 c3)).setCell (p := ⟨R, 2, none⟩) hwR (.slice AF3 nf3 cf3)))
  have HMF := hide ((((HMN4.out).set (p := ⟨R, 0, none⟩) hRW (.int .i64 mm.n)).set (p := ⟨R, 1, none⟩) hRW (.slice A3 n3 c3)).set (p := ⟨R, 2, none⟩) hRW (.slice AF3 nf3 cf3))
  refine wp_mix (fun w' => w'.cell? ⟨D, 0, none⟩ = some (.int .i64 mm.n) ∧ w'.cell? ⟨D, 1, none⟩ = some (.slice A3 n3 c3) ∧ w'.cell? ⟨D, 2, none⟩ = some (.slice AF3 nf3 cf3)) 9 [(0, false), (1, false), (2, false), (3, false), (4, false), (5, false), (6, false), (7, false), (8, true)] (by kernel_rfl) (by kernel_rfl) ?_ ?_
  · go_simp
  simp only [List.drop_succ_cons, List.drop_zero]
  repeat (first | (refine mix_skip (by rfl) (by rfl) ?_; simp only [Act.put, List.setIfInBounds_toArray, List.set_cons_zero, List.set_cons_succ, List.getElem_toArray, List.getElem_cons_zero, List.getElem_cons_succ]) | (refine mix_q (v := ?_) (by rfl) (by rfl) ?_ ?_; rotate_left; (focus (intro w' hC; (try dsimp only at hC); go_simp; (first | done | with_reducible rfl))); simp only [Act.put, List.setIfInBounds_toArray, List.set_cons_zero, List.set_cons_succ, List.getElem_toArray, List.getElem_cons_zero, List.getElem_cons_succ]))
  refine mix_l (by rfl) (by rfl) (fun K hK => ?_)
  go_simp
  refine hK _ _ (by go_simp) ?_
  clear hK K
  refine mix_nil ?_; try simp only [Act.put, List.setIfInBounds_toArray, List.set_cons_zero, List.set_cons_succ, List.getElem_toArray, List.getElem_cons_zero, List.getElem_cons_succ]
  go_wp2
  refine NoPanic.normal ?_
  go_wp2
  exact bodyPost_ret (v := .tuple #[.agg #[.int .i64 mm.n, .slice A3 n3 c3, .slice AF3 nf3 cf3], .bool false]) (by simp [results, Try.results58, go_sem, lR, q0, q1, q2, qf, qf1, qf2]) rfl ⟨_, false, rfl, HBF.out.drew, aggM _ _ _ _ _ _ _, fun h => (by cases h)⟩
 ·
  by_cases h3 : n3 ≤ 2000
  ·
   have t3 : decide ((n3 : Int) ≤ 2000) = true := decide_eq_true (by omega)
   have t3' : decide (n3 ≤ 2000) = true := decide_eq_true h3
   have H3 := hide h3
   clear h3
   have HBF := hide ((((HB.out.setCell (p := ⟨R, 0, none⟩) hwR (.int .i64 mm.n)).setCell (p := ⟨R, 1, none⟩) hwR (.slice A3 n3 c3)).setCell (p := ⟨R, 2, none⟩) hwR (.slice AF3 nf3 cf3)))
   have HMF := hide ((((HMN4.out).set (p := ⟨R, 0, none⟩) hRW (.int .i64 mm.n)).set (p := ⟨R, 1, none⟩) hRW (.slice A3 n3 c3)).set (p := ⟨R, 2, none⟩) hRW (.slice AF3 nf3 cf3))
   refine wp_mix (fun w' => w'.cell? ⟨D, 0, none⟩ = some (.int .i64 mm.n) ∧ w'.cell? ⟨D, 1, none⟩ = some (.slice A3 n3 c3) ∧ w'.cell? ⟨D, 2, none⟩ = some (.slice AF3 nf3 cf3)) 9 [(0, false), (1, false), (2, false), (3, false), (4, false), (5, false), (6, false), (7, false), (8, true)] (by kernel_rfl) (by kernel_rfl) ?_ ?_
   · go_simp
   simp only [List.drop_succ_cons, List.drop_zero]
   repeat (first | (refine mix_skip (by rfl) (by rfl) ?_; simp only [Act.put, List.setIfInBounds_toArray, List.set_cons_zero, List.set_cons_succ, List.getElem_toArray, List.getElem_cons_zero, List.getElem_cons_succ]) | (refine mix_q (v := ?_) (by rfl) (by rfl) ?_ ?_; rotate_left; (focus (intro w' hC; (try dsimp only at hC); go_simp; (first | done | with_reducible rfl))); simp only [Act.put, List.setIfInBounds_toArray, List.set_cons_zero, List.set_cons_succ, List.getElem_toArray, List.getElem_cons_zero, List.getElem_cons_succ]))
   refine mix_l (by rfl) (by rfl) (fun K hK => ?_)
   go_simp
   refine hK _ _ (by go_simp) ?_
   clear hK K
   refine mix_nil ?_; try simp only [Act.put, List.setIfInBounds_toArray, List.set_cons_zero, List.set_cons_succ, List.getElem_toArray, List.getElem_cons_zero, List.getElem_cons_succ]
   go_wp2
   refine NoPanic.normal ?_
   go_wp2
   exact bodyPost_ret (v := .tuple #[.agg #[.int .i64 mm.n, .slice A3 n3 c3, .slice AF3 nf3 cf3], .bool true]) (by simp [results, Try.results58, go_sem, lR, q0, q1, q2, qf, qf1, qf2]) rfl ⟨_, true, rfl, HBF.out.drew, aggM _ _ _ _ _ _ _, fun _ => ⟨HL.out, by rw [← (HME.out (by simp)).1]; exact (HME.out (by simp)).2, by rw [← (HME.out (by simp)).1, HN3.out]; exact H3.out, by rw [← (HME.out (by simp)).1]; exact (HMF.out.mono hwW).drew⟩⟩
  ·
   have t3 : decide ((n3 : Int) ≤ 2000) = false := decide_eq_false (by omega)
   have t3' : decide (n3 ≤ 2000) = false := decide_eq_false h3
   clear h3
   have HBF := hide ((((HB.out.setCell (p := ⟨R, 0, none⟩) hwR (.int .i64 mm.n)).setCell (p := ⟨R, 1, none⟩) hwR (.slice A3 n3 c3)).setCell (p := ⟨R, 2, none⟩) hwR (.slice AF3 nf3 cf3)))
   have HMF := hide ((((HMN4.out).set (p := ⟨R, 0, none⟩) hRW (.int .i64 mm.n)).set (p := ⟨R, 1, none⟩) hRW (.slice A3 n3 c3)).set (p := ⟨R, 2, none⟩) hRW (.slice AF3 nf3 cf3))
   refine wp_mix (fun w' => w'.cell? ⟨D, 0, none⟩ = some (.int .i64 mm.n) ∧ w'.cell? ⟨D, 1, none⟩ = some (.slice A3 n3 c3) ∧ w'.cell? ⟨D, 2, none⟩ = some (.slice AF3 nf3 cf3)) 9 [(0, false), (1, false), (2, false), (3, false), (4, false), (5, false), (6, false), (7, false), (8, true)] (by kernel_rfl) (by kernel_rfl) ?_ ?_
   · go_simp
   simp only [List.drop_succ_cons, List.drop_zero]
   repeat (first | (refine mix_skip (by rfl) (by rfl) ?_; simp only [Act.put, List.setIfInBounds_toArray, List.set_cons_zero, List.set_cons_succ, List.getElem_toArray, List.getElem_cons_zero, List.getElem_cons_succ]) | (refine mix_q (v := ?_) (by rfl) (by rfl) ?_ ?_; rotate_left; (focus (intro w' hC; (try dsimp only at hC); go_simp; (first | done | with_reducible rfl))); simp only [Act.put, List.setIfInBounds_toArray, List.set_cons_zero, List.set_cons_succ, List.getElem_toArray, List.getElem_cons_zero, List.getElem_cons_succ]))
   refine mix_l (by rfl) (by rfl) (fun K hK => ?_)
   go_simp
   refine hK _ _ (by go_simp) ?_
   clear hK K
   refine mix_nil ?_; try simp only [Act.put, List.setIfInBounds_toArray, List.set_cons_zero, List.set_cons_succ, List.getElem_toArray, List.getElem_cons_zero, List.getElem_cons_succ]
   go_wp2
   refine NoPanic.normal ?_
   go_wp2
   exact bodyPost_ret (v := .tuple #[.agg #[.int .i64 mm.n, .slice A3 n3 c3, .slice AF3 nf3 cf3], .bool false]) (by simp [results, Try.results58, go_sem, lR, q0, q1, q2, qf, qf1, qf2]) rfl ⟨_, false, rfl, HBF.out.drew, aggM _ _ _ _ _ _ _, fun h => (by cases h)⟩
set_option maxRecDepth 100000 in
set_option maxHeartbeats 16000000 in
theorem leastOf_any (va : Value) (m : Mach) (w : World) (B : Nat) (hB : B ≤ w.heap.size) (ha : MachAt w B va m) (hv : accF m = (0, 0)) :
 Calls Try.prog 25 #[va] w fun e w' => ∃ (v1 : Value) (b : Bool), e = .returned (.tuple #[v1, .bool b]) ∧ Below w.heap.size w w' ∧ AggM v1 ∧ (b = true → ∃ mm, minW m = (mm, (0, 0)) ∧ MachNew w.heap.size w' v1 mm) := by
 have HVV := hide hv
 have HM := hide ha
 obtain ⟨A, AF, n, c, nf, cf, rfl, _⟩ := ha
 clear hv
 go_enter Try.func25, Try.ntmps25
 go_upto_region 1 with fail
 generalize hW1 : World.alloc _ _ = W1
 obtain ⟨X, hX⟩ : ∃ z, z = w.heap.size := ⟨_, rfl⟩
 obtain ⟨R, hR⟩ : ∃ z, z = w.heap.size + 1 := ⟨_, rfl⟩
 have bX := hide (show Blk W1 X 28 #[.int .i64 m.n, .slice A n c, .slice AF nf cf] by rw [← hW1]; exact (Blk.at_ hX).alloc _)
 have bR := hide (show Blk W1 R 28 #[.int .i64 0, .slice none 0 0, .slice none 0 0] by rw [← hW1]; exact Blk.at_ (by simp [hR]))
 have HB := hide (show Below w.heap.size w W1 by rw [← hW1]; go_grown)
 have hXR : X < R := by omega
 have hwR : w.heap.size ≤ R := by omega
 have hwX : w.heap.size ≤ X := by omega
 have hBW : B ≤ w.heap.size := hB
 simp only [← hR]
 try simp only [← hX]
 clear hW1 hX hR
 have HM1 := hide (HM.out.below HB.out hB)
 have x0 := bX.out.cell 0
 have x1 := bX.out.cell 1
 have x2 := bX.out.cell 2
 simp at x0 x1 x2
 have lX := bX.out.lt
 go_upto_region 2 with (go_at_call 58; refine (sound_any _ m W1 B (by have := HB.out.size; omega) HM1.out HVV.out).mono ?_; rintro e w2 ⟨v1, b, rfl, hb2, ⟨a2, A2, AF2, n2, c2, nf2, cf2, rfl⟩, ht⟩; have HT := hide ht; have HB2 := hide hb2; clear ht hb2)
 generalize hW3 : World.alloc _ _ = W3
 obtain ⟨D, hD⟩ : ∃ z, z = w2.heap.size := ⟨_, rfl⟩
 have bD := hide (show Blk W3 D 28 #[.int .i64 a2, .slice A2 n2 c2, .slice AF2 nf2 cf2] by rw [← hW3]; exact Blk.at_ hD)
 have HB3 := hide (show Below W1.heap.size W1 W3 by rw [← hW3]; exact HB2.out.alloc HB2.out.size _)
 have HT3 := hide (show b = true → (silM m).arcs.length ≤ 2000 ∧ (setsR m).n ≤ 60 ∧ (setsR m).arcs.length ≤ 2000 ∧ MachNew W1.heap.size W3 (.agg #[.int .i64 a2, .slice A2 n2 c2, .slice AF2 nf2 cf2]) (setsR m) from fun h => ⟨(HT.out h).1, (HT.out h).2.1, (HT.out h).2.2.1, by rw [← hW3]; exact (HT.out h).2.2.2.alloc _⟩)
 have hRD : R < D := by have := bR.out.lt; have := HB2.out.size; omega
 have hRW : R < W1.heap.size := bR.out.lt
 have hwW : w.heap.size ≤ W1.heap.size := HB.out.size
 simp only [← hD]
 clear hW3 hD HT HB2 x0 x1 x2 lX HM1
 replace bR := hide (bR.out.below HB3.out bR.out.lt)
 replace HB := hide (HB.out.trans (HB3.out.mono HB.out.size))
 have d0 := bD.out.cell 0
 have d1 := bD.out.cell 1
 have d2 := bD.out.cell 2
 simp at d0 d1 d2
 have lD := bD.out.lt
 have hDR : D ≠ R := by omega
 cases b
 ·
  skip
  have q0 := bR.out.cell 0
  have q1 := bR.out.cell 1
  have q2 := bR.out.cell 2
  have qf := bR.out.frozen 0
  have qf1 := bR.out.frozen 1
  have qf2 := bR.out.frozen 2
  have lR := bR.out.lt
  simp at q0 q1 q2
  have HBF := hide ((((HB.out.setCell (p := ⟨R, 0, none⟩) hwR (.int .i64 a2)).setCell (p := ⟨R, 1, none⟩) hwR (.slice A2 n2 c2)).setCell (p := ⟨R, 2, none⟩) hwR (.slice AF2 nf2 cf2)))
  go_wp21
  exact bodyPost_ret (v := .tuple #[.agg #[.int .i64 a2, .slice A2 n2 c2, .slice AF2 nf2 cf2], .bool false]) (by simp [results, Try.results25, go_sem, lR, q0, q1, q2, qf, qf1, qf2]) rfl ⟨_, false, rfl, HBF.out, aggM _ _ _ _ _ _ _, fun h => (by cases h)⟩
 ·
  obtain ⟨h1, h2, h3, hmn⟩ := HT3.out rfl
  obtain ⟨S, hS, hfo⟩ := sets_few HVV.out h1 h2 h3
  have HMIN := hide (st_min HVV.out h1 h2 h3 hfo.n)
  have HFO := hide hfo
  have HMN := hide hmn
  have hS6 := hS
  clear h1 h2 h3 hfo hmn hS HT3
  go_wp2_with fail
  refine (few_any _ (setsR m) S W3 W3.heap.size (Nat.le_refl _) HMN.out.at_ HFO.out.n (by omega) HFO.out.rng HFO.out.len HFO.out.wt HFO.out.tab HFO.out.lab HFO.out.use HFO.out.none).mono ?_
  rintro e w4 ⟨v4, rfl, hn4, hb4⟩
  obtain ⟨A4, AF4, n4, c4, nf4, cf4, rfl, _⟩ := agg_ofL hn4.at_
  obtain ⟨mm, hmm⟩ : ∃ z, z = canonM (lsM (setsR m)) (langM (setsR m) 0) S := ⟨_, rfl⟩
  rw [← hmm] at hn4 HMIN ⊢
  have HN4 := hide hn4
  replace bR := hide (bR.out.below hb4 bR.out.lt)
  have hRW3 : R < W3.heap.size := by have := HB3.out.size; omega
  have hwW3 : w.heap.size ≤ W3.heap.size := HB.out.size
  replace HB := hide (HB.out.trans (hb4.mono HB.out.size))
  clear hn4 hb4 hmm d0 d1 d2 lD
  have q0 := bR.out.cell 0
  have q1 := bR.out.cell 1
  have q2 := bR.out.cell 2
  have qf := bR.out.frozen 0
  have qf1 := bR.out.frozen 1
  have qf2 := bR.out.frozen 2
  have lR := bR.out.lt
  simp at q0 q1 q2
  have HBF := hide ((((HB.out.setCell (p := ⟨R, 0, none⟩) hwR (.int .i64 mm.n)).setCell (p := ⟨R, 1, none⟩) hwR (.slice A4 n4 c4)).setCell (p := ⟨R, 2, none⟩) hwR (.slice AF4 nf4 cf4)))
  have HMF := hide (((HN4.out.set (p := ⟨R, 0, none⟩) hRW3 (.int .i64 mm.n)).set (p := ⟨R, 1, none⟩) hRW3 (.slice A4 n4 c4)).set (p := ⟨R, 2, none⟩) hRW3 (.slice AF4 nf4 cf4))
  go_wp21
  exact bodyPost_ret (v := .tuple #[.agg #[.int .i64 mm.n, .slice A4 n4 c4, .slice AF4 nf4 cf4], .bool true]) (by simp [results, Try.results25, go_sem, lR, q0, q1, q2, qf, qf1, qf2]) rfl ⟨_, true, rfl, HBF.out, aggM _ _ _ _ _ _ _, fun _ => ⟨mm, HMIN.out, HMF.out.mono hwW3⟩⟩
end Go.Proofs.Ytopakcbhodnipaa
