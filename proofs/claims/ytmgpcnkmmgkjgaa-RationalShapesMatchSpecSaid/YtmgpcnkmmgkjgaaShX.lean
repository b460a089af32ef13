/- The laws' example shapes, walked: it returns true. -/
import Derived.Test.YtmgpcnkmmgkjgaaCaW
import Derived.Test.YtmgpcnkmmgkjgaaStW
namespace Go.Proofs.Ytmgpcnkmmgkjgaa
open Go.RowKit Gm Go.Sort Go.Shelf
set_option linter.unusedSimpArgs false
set_option linter.unusedVariables false
def fourM : Mach := ⟨1, [], [⟨0, 4⟩]⟩
theorem four_uF : uniF fourM emptyM = (0, 0) := by decide
theorem four_uR : uniR fourM emptyM = ⟨2, [⟨0, 1, 0, 0, 0⟩], [⟨1, 4⟩]⟩ := by decide
theorem four_cF : catF fourM fourM = (0, 0) := by decide
theorem four_cR : catR fourM fourM = ⟨2, [⟨0, 1, 0, 0, 4⟩], [⟨1, 4⟩]⟩ := by decide
theorem four_sF : starF fourM = (0, 0) := by decide
theorem four_sR : starR fourM = ⟨2, [⟨0, 1, 0, 0, 0⟩, ⟨1, 0, 0, 0, 4⟩], [⟨0, 0⟩]⟩ := by decide
theorem four_at {w : World} {g : Nat} (h : Blk w g 51 #[.int .i64 0, .int .i64 4]) : MachNew g w (.agg #[.int .i64 1, .slice none 0 0, .slice (some ⟨g, 0, none⟩) 1 1]) fourM := fun W hs hag => by
  have hb : Blk W g 51 #[.int .i64 0, .int .i64 4] := (hag g (Nat.le_refl _) h.lt).trans h
  exact ⟨none, some ⟨g, 0, none⟩, 0, 0, 1, 1, rfl, hide rfl, hide rfl, Nat.le_refl _, Nat.le_refl _, by simp [big], by simp [big], Rd.zero, fun _ => ⟨g, 0, rfl, hb.lt, fun i j hi hj => by
    obtain rfl : i = 0 := by omega
    rcases (by omega : j = 0 ∨ j = 1) with rfl | rfl
    · exact hb.cell 0
    · exact hb.cell 1⟩⟩
theorem union_four (va vb : Value) (w : World) (B : Nat) (hB : B ≤ w.heap.size) (ha : MachAt w B va fourM) (hb : MachAt w B vb emptyM) :
    Calls Try.prog 19 #[va, vb] w fun e w' => ∃ v', e = .returned (.tuple #[v', .agg #[.int .i64 0, .int .i64 0]]) ∧ MachNew w.heap.size w' v' ⟨2, [⟨0, 1, 0, 0, 0⟩], [⟨1, 4⟩]⟩ ∧ Below w.heap.size w w' := by
  have h := union_any va vb fourM emptyM w B hB ha hb
  rw [four_uF, four_uR] at h
  exact h
theorem cat_four (va vb : Value) (w : World) (B : Nat) (hB : B ≤ w.heap.size) (ha : MachAt w B va fourM) (hb : MachAt w B vb fourM) :
    Calls Try.prog 21 #[va, vb] w fun e w' => ∃ v', e = .returned (.tuple #[v', .agg #[.int .i64 0, .int .i64 0]]) ∧ MachNew w.heap.size w' v' ⟨2, [⟨0, 1, 0, 0, 4⟩], [⟨1, 4⟩]⟩ ∧ Below w.heap.size w w' := by
  have h := concat_any va vb fourM fourM w B hB ha hb
  rw [four_cF, four_cR] at h
  exact h
theorem star_four (va : Value) (w : World) (B : Nat) (hB : B ≤ w.heap.size) (ha : MachAt w B va fourM) :
    Calls Try.prog 23 #[va] w fun e w' => ∃ v', e = .returned (.tuple #[v', .agg #[.int .i64 0, .int .i64 0]]) ∧ MachNew w.heap.size w' v' ⟨2, [⟨0, 1, 0, 0, 0⟩, ⟨1, 0, 0, 0, 4⟩], [⟨0, 0⟩]⟩ ∧ Below w.heap.size w w' := by
  have h := star_any va fourM w B hB ha
  rw [four_sF, four_sR] at h
  exact h
theorem agg_any {lo : Nat} {w : World} {v : Value} {m : Mach} (h : MachNew lo w v m) : ∃ A n c AF nf cf, v = .agg #[.int .i64 m.n, .slice A n c, .slice AF nf cf] := agg_of h
set_option maxRecDepth 100000 in
set_option maxHeartbeats 4000000 in
theorem shapes_ex (w : World) : Calls Try.prog 18 #[] w fun e w' => e = .returned (.bool true) ∧ Below w.heap.size w w' := by
  have hne := fun a b c d W => run_neq_fault a b c d W
  have hf0 : fEq 0 0 0 0 = true := rfl
  go_enter Try.func18, Try.ntmps18
  go_wp2_with fail
  generalize hW : World.alloc _ _ = W0
  have HG := hide (show Blk W0 w.heap.size 51 #[.int .i64 0, .int .i64 4] by rw [← hW]; exact (Blk.new _ _ _).alloc _)
  have HM := hide (show Blk W0 (w.heap.size + 1) 25 #[.int .i64 1, .slice none 0 0, .slice (some ⟨w.heap.size, 0, none⟩) 1 1] by rw [← hW]; exact Blk.at_ (by simp))
  have HB0 := hide (show Below w.heap.size w W0 by rw [← hW]; go_grown)
  clear hW
  refine (union_four _ _ W0 W0.heap.size (Nat.le_refl _) (four_at HG.out).at_ (MachAt.empty _ _)).mono ?_
  rintro e w1 ⟨v1, rfl, hM1, hb1⟩
  obtain ⟨A1, n1, c1, AF1, nf1, cf1, rfl⟩ := agg_of hM1
  have HM1 := hide hM1
  have bM := HM.out.below hb1 HM.out.lt
  have HG1 := hide (HG.out.below hb1 HG.out.lt)
  have HB1 := hide (HB0.out.trans (hb1.mono HB0.out.size))
  have x0 := bM.cell 0
  have x1 := bM.cell 1
  have x2 := bM.cell 2
  simp at x0 x1 x2
  have xl := bM.lt
  have xl2 := Nat.lt_succ_of_lt xl
  have HMB := hide bM
  clear hM1 hb1 bM HM HG HB0
  go_wp2_with fail
  refine (cat_four _ _ _ _ (Nat.le_refl _) (four_at ((HG1.out.alloc _).alloc _)).at_ (four_at ((HG1.out.alloc _).alloc _)).at_).mono ?_
  rintro e w2 ⟨v2, rfl, hM2, hb2⟩
  obtain ⟨A2, n2, c2, AF2, nf2, cf2, rfl⟩ := agg_of hM2
  have HM2 := hide hM2
  have bU1 : Blk w2 w1.heap.size 25 #[.int .i64 2, .slice A1 n1 c1, .slice AF1 nf1 cf1] := ((Blk.at_ rfl).alloc _).below hb2 (by simp; omega)
  have bF1 : Blk w2 (w1.heap.size + 1) 28 #[.int .i64 0, .int .i64 0] := (Blk.at_ (by simp)).below hb2 (by simp)
  have bM := ((HMB.out.alloc _).alloc _).below hb2 (by have := HMB.out.lt; simp; omega)
  have HG2 := hide (((HG1.out.alloc _).alloc _).below hb2 (by have := HG1.out.lt; simp; omega))
  have HM1' := hide (((HM1.out.alloc _).alloc _).below hb2 (Nat.le_refl _))
  have HB2 := hide (((HB1.out.alloc HB1.out.size _).alloc (by have := HB1.out.size; simp; omega) _).trans (hb2.mono (by have := HB1.out.size; simp; omega)))
  clear x0 x1 x2 xl xl2 hM2 hb2 HG1 HB1 HMB HM1
  have x0 := bM.cell 0
  have x1 := bM.cell 1
  have x2 := bM.cell 2
  simp at x0 x1 x2
  have xl := bM.lt
  have xl2 := Nat.lt_succ_of_lt xl
  have hl12 := bF1.lt
  clear bM
  go_wp2_with fail
  refine (star_four _ _ _ (Nat.le_refl _) (four_at ((HG2.out.alloc _).alloc _)).at_).mono ?_
  rintro e w3 ⟨v3, rfl, hM3, hb3⟩
  obtain ⟨A3, n3, c3, AF3, nf3, cf3, rfl⟩ := agg_of hM3
  have bU2 : Blk w3 w2.heap.size 25 #[.int .i64 2, .slice A2 n2 c2, .slice AF2 nf2 cf2] := ((Blk.at_ rfl).alloc _).below hb3 (by simp; omega)
  have bF2 : Blk w3 (w2.heap.size + 1) 28 #[.int .i64 0, .int .i64 0] := (Blk.at_ (by simp)).below hb3 (by simp)
  have bU1 := ((bU1.alloc _).alloc _).below hb3 (by have := bU1.lt; simp; omega)
  have bF1 := ((bF1.alloc _).alloc _).below hb3 (by have := bF1.lt; simp; omega)
  have HM1 := hide (((HM1'.out.alloc _).alloc _).below hb3 (Nat.le_refl _))
  have HM2' := hide (((HM2.out.alloc _).alloc _).below hb3 (Nat.le_refl _))
  have HB3 := hide (((HB2.out.alloc HB2.out.size _).alloc (by have := HB2.out.size; simp; omega) _).trans (hb3.mono (by have := HB2.out.size; simp; omega)))
  have HM3 := hide hM3
  have hl23 := bF2.lt
  clear x0 x1 x2 xl xl2 hM3 hb3 HG2 HB2 HM1' HM2
  have f10 := bF1.cell 0
  have f11 := bF1.cell 1
  have f20 := bF2.cell 0
  have f21 := bF2.cell 1
  simp at f10 f11 f20 f21
  have l1 := bF1.lt
  have l2 := bF2.lt
  have l1' := Nat.lt_succ_of_lt l1
  have l2' := Nat.lt_succ_of_lt l2
  go_upto_region 7 with fail
  generalize hW4 : World.alloc _ _ = W4
  have HU1 := hide (show Blk W4 w1.heap.size 25 #[.int .i64 2, .slice A1 n1 c1, .slice AF1 nf1 cf1] by rw [← hW4]; exact (bU1.alloc _).alloc _)
  have HU2 := hide (show Blk W4 w2.heap.size 25 #[.int .i64 2, .slice A2 n2 c2, .slice AF2 nf2 cf2] by rw [← hW4]; exact (bU2.alloc _).alloc _)
  have HU3 := hide (show Blk W4 w3.heap.size 25 #[.int .i64 2, .slice A3 n3 c3, .slice AF3 nf3 cf3] by rw [← hW4]; exact (Blk.at_ rfl).alloc _)
  have HN1 := hide (show MachNew W0.heap.size W4 (.agg #[.int .i64 2, .slice A1 n1 c1, .slice AF1 nf1 cf1]) (⟨2, [⟨0, 1, 0, 0, 0⟩], [⟨1, 4⟩]⟩ : Mach) by rw [← hW4]; exact (HM1.out.alloc _).alloc _)
  have HN2 := hide (show MachNew _ W4 (.agg #[.int .i64 2, .slice A2 n2 c2, .slice AF2 nf2 cf2]) (⟨2, [⟨0, 1, 0, 0, 4⟩], [⟨1, 4⟩]⟩ : Mach) by rw [← hW4]; exact (HM2'.out.alloc _).alloc _)
  have HN3 := hide (show MachNew _ W4 (.agg #[.int .i64 2, .slice A3 n3 c3, .slice AF3 nf3 cf3]) (⟨2, [⟨0, 1, 0, 0, 0⟩, ⟨1, 0, 0, 0, 4⟩], [⟨0, 0⟩]⟩ : Mach) by rw [← hW4]; exact (HM3.out.alloc _).alloc _)
  have HB4 := hide (show Below w.heap.size w W4 by rw [← hW4]; exact (HB3.out.alloc HB3.out.size _).alloc (by have := HB3.out.size; simp; omega) _)
  clear hW4 bU1 bU2 bF1 bF2 HM1 HM2' HM3 HB3 f10 f11 f20 f21 l1 l2 l1' l2' hl12 hl23
  have u0 := HU1.out.cell 0
  have u1 := HU1.out.cell 1
  have u2 := HU1.out.cell 2
  simp at u0 u1 u2
  have ul := HU1.out.lt
  go_wp2_with fail
  refine (machines_any _ _ (⟨2, [⟨0, 1, 0, 0, 0⟩], [⟨1, 4⟩]⟩ : Mach) (⟨2, [⟨0, 1, 0, 0, 0⟩], [⟨1, 4⟩]⟩ : Mach) _ _ (Nat.le_refl _) ((HN1.out.alloc _).alloc _).at_ (MachNew.of_blk (lo := W4.heap.size) (m := (⟨2, [⟨0, 1, 0, 0, 0⟩], [⟨1, 4⟩]⟩ : Mach)) (eA := 45) (eF := 51) ((Blk.at_ (by simp)).alloc _) (Blk.at_ (by simp)) (Nat.le_refl _) (by omega) (by decide) (by decide)).at_).mono ?_
  rintro e w5 ⟨rfl, hb5⟩
  have hd : decide ((⟨2, [⟨0, 1, 0, 0, 0⟩], [⟨1, 4⟩]⟩ : Mach) = (⟨2, [⟨0, 1, 0, 0, 0⟩], [⟨1, 4⟩]⟩ : Mach)) = true := by decide
  rw [hd]
  have HU2' := hide (((HU2.out.alloc _).alloc _).below hb5 (by have := HU2.out.lt; simp; omega))
  have HU3' := hide (((HU3.out.alloc _).alloc _).below hb5 (by have := HU3.out.lt; simp; omega))
  have HN2' := hide (((HN2.out.alloc _).alloc _).below hb5 (Nat.le_refl _))
  have HN3' := hide (((HN3.out.alloc _).alloc _).below hb5 (Nat.le_refl _))
  have HB5 := hide (((HB4.out.alloc HB4.out.size _).alloc (by have := HB4.out.size; simp; omega) _).trans (hb5.mono (by have := HB4.out.size; simp; omega)))
  clear hb5 hd u0 u1 u2 ul HU1 HU2 HU3 HN1 HN2 HN3 HB4
  have u0 := HU2'.out.cell 0
  have u1 := HU2'.out.cell 1
  have u2 := HU2'.out.cell 2
  simp at u0 u1 u2
  have ul := HU2'.out.lt
  go_wp2_with fail
  refine (machines_any _ _ (⟨2, [⟨0, 1, 0, 0, 4⟩], [⟨1, 4⟩]⟩ : Mach) (⟨2, [⟨0, 1, 0, 0, 4⟩], [⟨1, 4⟩]⟩ : Mach) _ _ (Nat.le_refl _) ((HN2'.out.alloc _).alloc _).at_ (MachNew.of_blk (lo := w5.heap.size) (m := (⟨2, [⟨0, 1, 0, 0, 4⟩], [⟨1, 4⟩]⟩ : Mach)) (eA := 45) (eF := 51) ((Blk.at_ (by simp)).alloc _) (Blk.at_ (by simp)) (Nat.le_refl _) (by omega) (by decide) (by decide)).at_).mono ?_
  rintro e w6 ⟨rfl, hb6⟩
  have hd : decide ((⟨2, [⟨0, 1, 0, 0, 4⟩], [⟨1, 4⟩]⟩ : Mach) = (⟨2, [⟨0, 1, 0, 0, 4⟩], [⟨1, 4⟩]⟩ : Mach)) = true := by decide
  rw [hd]
  have HU3 := hide (((HU3'.out.alloc _).alloc _).below hb6 (by have := HU3'.out.lt; simp; omega))
  have HN3 := hide (((HN3'.out.alloc _).alloc _).below hb6 (Nat.le_refl _))
  have HB6 := hide (((HB5.out.alloc HB5.out.size _).alloc (by have := HB5.out.size; simp; omega) _).trans (hb6.mono (by have := HB5.out.size; simp; omega)))
  clear hb6 hd u0 u1 u2 ul HU2' HU3' HN2' HN3' HB5
  have u0 := HU3.out.cell 0
  have u1 := HU3.out.cell 1
  have u2 := HU3.out.cell 2
  simp at u0 u1 u2
  have ul := HU3.out.lt
  go_wp2_with fail
  refine (machines_any _ _ (⟨2, [⟨0, 1, 0, 0, 0⟩, ⟨1, 0, 0, 0, 4⟩], [⟨0, 0⟩]⟩ : Mach) (⟨2, [⟨0, 1, 0, 0, 0⟩, ⟨1, 0, 0, 0, 4⟩], [⟨0, 0⟩]⟩ : Mach) _ _ (Nat.le_refl _) ((HN3.out.alloc _).alloc _).at_ (MachNew.of_blk (lo := w6.heap.size) (m := (⟨2, [⟨0, 1, 0, 0, 0⟩, ⟨1, 0, 0, 0, 4⟩], [⟨0, 0⟩]⟩ : Mach)) (eA := 45) (eF := 51) ((Blk.at_ (by simp)).alloc _) (Blk.at_ (by simp)) (Nat.le_refl _) (by omega) (by decide) (by decide)).at_).mono ?_
  rintro e w7 ⟨rfl, hb7⟩
  have hd : decide ((⟨2, [⟨0, 1, 0, 0, 0⟩, ⟨1, 0, 0, 0, 4⟩], [⟨0, 0⟩]⟩ : Mach) = (⟨2, [⟨0, 1, 0, 0, 0⟩, ⟨1, 0, 0, 0, 4⟩], [⟨0, 0⟩]⟩ : Mach)) = true := by decide
  rw [hd]
  have HB7 := hide (((HB6.out.alloc HB6.out.size _).alloc (by have := HB6.out.size; simp; omega) _).trans (hb7.mono (by have := HB6.out.size; simp; omega)))
  clear hb7 hd u0 u1 u2 ul HU3 HN3 HB6
  go_wp2
  go_ret
  exact ⟨rfl, HB7.out⟩
end Go.Proofs.Ytmgpcnkmmgkjgaa
