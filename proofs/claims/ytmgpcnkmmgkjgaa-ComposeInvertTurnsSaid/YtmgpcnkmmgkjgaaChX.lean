/- The laws' example of Invert, Input and Output, walked: it returns true. Written by gen_chl.py. -/
import Derived.Test.YtmgpcnkmmgkjgaaChW
import Derived.Test.YtmgpcnkmmgkjgaaEx
namespace Go.Proofs.Ytmgpcnkmmgkjgaa
open Go.RowKit Gm Go.Sort Go.Shelf
set_option linter.unusedSimpArgs false
set_option linter.unusedVariables false
theorem chR1_small : chR 1 smallM = ⟨2, [⟨0, 1, 98, 97, 2⟩], [⟨1, 1⟩]⟩ := by decide
theorem inv1_small (v : Value) (w : World) (B : Nat) (hB : B ≤ w.heap.size) (h : MachAt w B v smallM) :
    Calls Try.prog 12 #[v] w fun e w' => ∃ blk off c AF nf cf, e = .returned (.tuple #[.agg #[.int .i64 2, .slice (some ⟨blk, off, none⟩) 1 c, .slice AF nf cf], .agg #[.int .i64 0, .int .i64 0]]) ∧ blk < w'.heap.size ∧
      w'.cell? ⟨blk, off + 2, none⟩ = some (.int .i64 98) ∧ w'.cell? ⟨blk, off + 3, none⟩ = some (.int .i64 97) ∧ Below w.heap.size w w' := by
  refine (ch1R_any v smallM w B hB h).mono ?_
  rintro e w' ⟨v', rfl, hM, hb⟩
  rw [chR1_small] at hM
  obtain ⟨A, AF, n, c, nf, cf, rfl, HN, HF, hnc, hnfc, hnb, hnfb, hA, hF⟩ := hM.at_
  have hn : n = 1 := HN.out.symm
  subst hn
  obtain ⟨blk, off, x, rfl, hlt, d0, d1, d2, d3, d4, HX⟩ := arcs_at hA (k := 0) (by omega)
  have hx : x = ⟨0, 1, 98, 97, 2⟩ := HX.out.symm
  subst hx
  exact ⟨blk, off, c, AF, nf, cf, rfl, hlt, by simpa using d2, by simpa using d3, hb⟩
theorem chR2_small : chR 2 smallM = ⟨2, [⟨0, 1, 97, 97, 2⟩], [⟨1, 1⟩]⟩ := by decide
theorem inv2_small (v : Value) (w : World) (B : Nat) (hB : B ≤ w.heap.size) (h : MachAt w B v smallM) :
    Calls Try.prog 13 #[v] w fun e w' => ∃ blk off c AF nf cf, e = .returned (.tuple #[.agg #[.int .i64 2, .slice (some ⟨blk, off, none⟩) 1 c, .slice AF nf cf], .agg #[.int .i64 0, .int .i64 0]]) ∧ blk < w'.heap.size ∧
      w'.cell? ⟨blk, off + 2, none⟩ = some (.int .i64 97) ∧ w'.cell? ⟨blk, off + 3, none⟩ = some (.int .i64 97) ∧ Below w.heap.size w w' := by
  refine (ch2R_any v smallM w B hB h).mono ?_
  rintro e w' ⟨v', rfl, hM, hb⟩
  rw [chR2_small] at hM
  obtain ⟨A, AF, n, c, nf, cf, rfl, HN, HF, hnc, hnfc, hnb, hnfb, hA, hF⟩ := hM.at_
  have hn : n = 1 := HN.out.symm
  subst hn
  obtain ⟨blk, off, x, rfl, hlt, d0, d1, d2, d3, d4, HX⟩ := arcs_at hA (k := 0) (by omega)
  have hx : x = ⟨0, 1, 97, 97, 2⟩ := HX.out.symm
  subst hx
  exact ⟨blk, off, c, AF, nf, cf, rfl, hlt, by simpa using d2, by simpa using d3, hb⟩
theorem chR3_small : chR 3 smallM = ⟨2, [⟨0, 1, 98, 98, 2⟩], [⟨1, 1⟩]⟩ := by decide
theorem inv3_small (v : Value) (w : World) (B : Nat) (hB : B ≤ w.heap.size) (h : MachAt w B v smallM) :
    Calls Try.prog 14 #[v] w fun e w' => ∃ blk off c AF nf cf, e = .returned (.tuple #[.agg #[.int .i64 2, .slice (some ⟨blk, off, none⟩) 1 c, .slice AF nf cf], .agg #[.int .i64 0, .int .i64 0]]) ∧ blk < w'.heap.size ∧
      w'.cell? ⟨blk, off + 2, none⟩ = some (.int .i64 98) ∧ w'.cell? ⟨blk, off + 3, none⟩ = some (.int .i64 98) ∧ Below w.heap.size w w' := by
  refine (ch3R_any v smallM w B hB h).mono ?_
  rintro e w' ⟨v', rfl, hM, hb⟩
  rw [chR3_small] at hM
  obtain ⟨A, AF, n, c, nf, cf, rfl, HN, HF, hnc, hnfc, hnb, hnfb, hA, hF⟩ := hM.at_
  have hn : n = 1 := HN.out.symm
  subst hn
  obtain ⟨blk, off, x, rfl, hlt, d0, d1, d2, d3, d4, HX⟩ := arcs_at hA (k := 0) (by omega)
  have hx : x = ⟨0, 1, 98, 98, 2⟩ := HX.out.symm
  subst hx
  exact ⟨blk, off, c, AF, nf, cf, rfl, hlt, by simpa using d2, by simpa using d3, hb⟩
set_option maxRecDepth 100000 in
set_option maxHeartbeats 4000000 in
theorem inverted_ex (w : World) : Calls Try.prog 11 #[] w fun e w' => e = .returned (.bool true) ∧ Below w.heap.size w w' := by
  have heq := fun a b c d W => run_eql_fault a b c d W
  have hf0 : fEq 0 0 0 0 = true := rfl
  go_enter Try.func11, Try.ntmps11
  have hbw := Below.refl w.heap.size w

  go_wp2_with fail
  refine (small_any _).mono ?_
  rintro e s1 ⟨vs1, rfl, hS, hb⟩
  obtain ⟨As, ns, cs, AFs, nfs, cfs, rfl⟩ := agg_of hS
  replace hbw := hbw.trans (hb.mono hbw.size)
  clear hb
  go_wp2_with fail
  refine (inv1_small _ _ _ (Nat.le_refl _) hS.at_).mono ?_
  rintro e i1 ⟨b1, o1, c1, AF1, nf1, cf1, rfl, lb1, di1, do1, hb⟩
  replace hbw := hbw.trans (hb.mono hbw.size)
  clear hb hS
  go_upto_region 2 with fail
  generalize hWX : World.alloc _ _ = W1
  obtain ⟨M1, hM1⟩ : ∃ z, z = i1.heap.size := ⟨_, rfl⟩
  simp only [← hM1]
  have bM1 : Blk W1 M1 25 #[.int .i64 2, .slice (some ⟨b1, o1, none⟩) 1 c1, .slice AF1 nf1 cf1] := by rw [← hWX]; exact (Blk.at_ (by simp [hM1])).alloc _
  have bF1 : Blk W1 (M1 + 1) 28 #[.int .i64 0, .int .i64 0] := by rw [← hWX]; exact Blk.at_ (by simp [hM1])
  have hbX : Below i1.heap.size i1 W1 := by rw [← hWX]; go_grown
  replace hbw := hbw.trans (hbX.mono hbw.size)
  have di1 := keep_cell hbX di1 (by omega)
  have do1 := keep_cell hbX do1 (by omega)
  have lb1 : b1 < W1.heap.size := by have := hbX.size; omega
  clear hWX hM1 hbX
  go_wp2_with fail
  refine (small_any _).mono ?_
  rintro e s2 ⟨vs2, rfl, hS, hb⟩
  obtain ⟨As, ns, cs, AFs, nfs, cfs, rfl⟩ := agg_of hS
  replace hbw := hbw.trans (hb.mono hbw.size)
  replace bM1 := bM1.below hb bM1.lt
  replace bF1 := bF1.below hb bF1.lt
  have di1 := keep_cell hb di1 (by omega)
  have do1 := keep_cell hb do1 (by omega)
  have lb1 : b1 < s2.heap.size := by have := hb.size; omega
  clear hb
  go_wp2_with fail
  refine (inv2_small _ _ _ (Nat.le_refl _) hS.at_).mono ?_
  rintro e i2 ⟨b2, o2, c2, AF2, nf2, cf2, rfl, lb2, di2, do2, hb⟩
  replace hbw := hbw.trans (hb.mono hbw.size)
  replace bM1 := bM1.below hb bM1.lt
  replace bF1 := bF1.below hb bF1.lt
  have di1 := keep_cell hb di1 (by omega)
  have do1 := keep_cell hb do1 (by omega)
  have lb1 : b1 < i2.heap.size := by have := hb.size; omega
  clear hb hS
  go_upto_region 3 with fail
  generalize hWX : World.alloc _ _ = W2
  obtain ⟨M2, hM2⟩ : ∃ z, z = i2.heap.size := ⟨_, rfl⟩
  simp only [← hM2]
  have bM2 : Blk W2 M2 25 #[.int .i64 2, .slice (some ⟨b2, o2, none⟩) 1 c2, .slice AF2 nf2 cf2] := by rw [← hWX]; exact (Blk.at_ (by simp [hM2])).alloc _
  have bF2 : Blk W2 (M2 + 1) 28 #[.int .i64 0, .int .i64 0] := by rw [← hWX]; exact Blk.at_ (by simp [hM2])
  have hbX : Below i2.heap.size i2 W2 := by rw [← hWX]; go_grown
  replace hbw := hbw.trans (hbX.mono hbw.size)
  replace bM1 := bM1.below hbX bM1.lt
  replace bF1 := bF1.below hbX bF1.lt
  have di1 := keep_cell hbX di1 (by omega)
  have do1 := keep_cell hbX do1 (by omega)
  have di2 := keep_cell hbX di2 (by omega)
  have do2 := keep_cell hbX do2 (by omega)
  have lb1 : b1 < W2.heap.size := by have := hbX.size; omega
  have lb2 : b2 < W2.heap.size := by have := hbX.size; omega
  clear hWX hM2 hbX
  go_wp2_with fail
  refine (small_any _).mono ?_
  rintro e s3 ⟨vs3, rfl, hS, hb⟩
  obtain ⟨As, ns, cs, AFs, nfs, cfs, rfl⟩ := agg_of hS
  replace hbw := hbw.trans (hb.mono hbw.size)
  replace bM1 := bM1.below hb bM1.lt
  replace bF1 := bF1.below hb bF1.lt
  replace bM2 := bM2.below hb bM2.lt
  replace bF2 := bF2.below hb bF2.lt
  have di1 := keep_cell hb di1 (by omega)
  have do1 := keep_cell hb do1 (by omega)
  have di2 := keep_cell hb di2 (by omega)
  have do2 := keep_cell hb do2 (by omega)
  have lb1 : b1 < s3.heap.size := by have := hb.size; omega
  have lb2 : b2 < s3.heap.size := by have := hb.size; omega
  clear hb
  go_wp2_with fail
  refine (inv3_small _ _ _ (Nat.le_refl _) hS.at_).mono ?_
  rintro e i3 ⟨b3, o3, c3, AF3, nf3, cf3, rfl, lb3, di3, do3, hb⟩
  replace hbw := hbw.trans (hb.mono hbw.size)
  replace bM1 := bM1.below hb bM1.lt
  replace bF1 := bF1.below hb bF1.lt
  replace bM2 := bM2.below hb bM2.lt
  replace bF2 := bF2.below hb bF2.lt
  have di1 := keep_cell hb di1 (by omega)
  have do1 := keep_cell hb do1 (by omega)
  have di2 := keep_cell hb di2 (by omega)
  have do2 := keep_cell hb do2 (by omega)
  have lb1 : b1 < i3.heap.size := by have := hb.size; omega
  have lb2 : b2 < i3.heap.size := by have := hb.size; omega
  clear hb hS
  go_upto_region 4 with fail
  generalize hWX : World.alloc _ _ = W3
  obtain ⟨M3, hM3⟩ : ∃ z, z = i3.heap.size := ⟨_, rfl⟩
  simp only [← hM3]
  have bM3 : Blk W3 M3 25 #[.int .i64 2, .slice (some ⟨b3, o3, none⟩) 1 c3, .slice AF3 nf3 cf3] := by rw [← hWX]; exact (Blk.at_ (by simp [hM3])).alloc _
  have bF3 : Blk W3 (M3 + 1) 28 #[.int .i64 0, .int .i64 0] := by rw [← hWX]; exact Blk.at_ (by simp [hM3])
  have hbX : Below i3.heap.size i3 W3 := by rw [← hWX]; go_grown
  replace hbw := hbw.trans (hbX.mono hbw.size)
  replace bM1 := bM1.below hbX bM1.lt
  replace bF1 := bF1.below hbX bF1.lt
  replace bM2 := bM2.below hbX bM2.lt
  replace bF2 := bF2.below hbX bF2.lt
  have di1 := keep_cell hbX di1 (by omega)
  have do1 := keep_cell hbX do1 (by omega)
  have di2 := keep_cell hbX di2 (by omega)
  have do2 := keep_cell hbX do2 (by omega)
  have di3 := keep_cell hbX di3 (by omega)
  have do3 := keep_cell hbX do3 (by omega)
  have lb1 : b1 < W3.heap.size := by have := hbX.size; omega
  have lb2 : b2 < W3.heap.size := by have := hbX.size; omega
  have lb3 : b3 < W3.heap.size := by have := hbX.size; omega
  clear hWX hM3 hbX
  have x1 := bM1.cell 1
  have y1 := bF1.cell 0
  have z1 := bF1.cell 1
  simp at x1 y1 z1
  have lM1 := bM1.lt
  have lF1 := bF1.lt
  have x2 := bM2.cell 1
  have y2 := bF2.cell 0
  have z2 := bF2.cell 1
  simp at x2 y2 z2
  have lM2 := bM2.lt
  have lF2 := bF2.lt
  have x3 := bM3.cell 1
  have y3 := bF3.cell 0
  have z3 := bF3.cell 1
  simp at x3 y3 z3
  have lM3 := bM3.lt
  have lF3 := bF3.lt
  go_wp21
  exact bodyPost_ret (v := .bool true) (by simp [results, Try.results11, go_sem]) rfl ⟨rfl, hbw⟩
end Go.Proofs.Ytmgpcnkmmgkjgaa
