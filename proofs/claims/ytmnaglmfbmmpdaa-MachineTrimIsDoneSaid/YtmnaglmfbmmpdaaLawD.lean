/- The law MachineTrimIsDone, walked: it returns true. -/
import Derived.Test.YtmnaglmfbmmpdaaEx
import Derived.Test.YtmnaglmfbmmpdaaTrd
import Derived.Test.YtmnaglmfbmmpdaaPlD
namespace Go.Proofs.Ytmnaglmfbmmpdaa
open Go.RowKit Gm
set_option linter.unusedSimpArgs false
set_option maxRecDepth 100000 in
set_option maxHeartbeats 1000000 in
theorem onpaths_any (v : Value) (m : Mach) (w : World) (B : Nat) (hB : B ≤ w.heap.size) (h : MachAt w B v m) (hv : Valid m) :
    Calls Try.prog 11 #[v] w fun e w' => e = .returned (.bool ((trimOf m).n == m.n)) ∧ Below w.heap.size w w' := by
  have H0 := hide h
  have HV := hide hv
  obtain ⟨A, AF, n, c, nf, cf, rfl, HN, HF, hnc, hnfc, hnb, hnfb, hA, hF⟩ := h
  clear hnb hnfb hA hF HN HF hv
  go_enter Try.func11, Try.ntmps11
  go_wp2_with fail
  refine (trimmed_any _ m _ B (by simp; omega) (H0.out.below (B' := w.heap.size) (by go_grown) hB) HV.out).mono ?_
  rintro e w1 ⟨v1, rfl, hM, hb1⟩
  obtain ⟨A1, n1, c1, AF1, nf1, cf1, rfl⟩ := agg_of hM
  have bX := (Blk.at_ (w := w) (g := w.heap.size) (t := 25) (cs := #[.int .i64 m.n, .slice A n c, .slice AF nf cf]) rfl).below hb1 (by simp)
  have hbw : Below w.heap.size w w1 := Below.trans (by go_grown) (hb1.mono (by simp))
  clear hb1 hM
  have x0 := bX.cell 0
  simp at x0
  have xl := bX.lt
  go_wp2
  exact bodyPost_ret (v := .bool ((trimOf m).n == m.n)) (by simp [results, Try.results11, go_sem]) rfl ⟨rfl, hbw.alloc hbw.size _⟩
theorem trim_ok (v : Value) (m : Mach) (w : World) (B : Nat) (hB : B ≤ w.heap.size) (h : MachAt w B v m) (hv : Valid m) :
    Calls Try.prog 8 #[v] w fun e w' => ∃ v1, e = .returned (.tuple #[v1, .agg #[.int .i64 0, .int .i64 0]]) ∧ MachNew w.heap.size w' v1 (trimOf m) ∧ Below w.heap.size w w' := by
  have := trim_any v m w B hB h
  have e : trimAns m = trimOf m := by unfold trimAns; rw [if_pos (validate_of hv)]
  rw [e, validate_of hv] at this
  exact this
set_option maxRecDepth 100000 in
set_option maxHeartbeats 2000000 in
theorem done_any (v : Value) (m : Mach) (w : World) (B : Nat) (hB : B ≤ w.heap.size) (h : MachAt w B v m) :
    Calls Try.prog 4 #[v] w fun e w' => e = .returned (.bool true) ∧ Below w.heap.size w w' := by
  have H0 := hide h
  obtain ⟨A, AF, n, c, nf, cf, rfl, HN, HF, hnc, hnfc, hnb, hnfb, hA, hF⟩ := h
  clear hnb hnfb hA hF HN HF
  have he := fun a b c d W => run_neq_fault a b c d W
  have hf : fEq 0 0 0 0 = true := rfl
  go_enter Try.func4, Try.ntmps4
  go_wp2_with fail
  refine (trimmed_ex _).mono ?_
  rintro e w1 ⟨rfl, hb1⟩
  have bX := (Blk.at_ (w := w) (g := w.heap.size) (t := 25) (cs := #[.int .i64 m.n, .slice A n c, .slice AF nf cf]) rfl).below hb1 (by simp)
  have hbw : Below w.heap.size w w1 := Below.trans (by go_grown) (hb1.mono (by simp))
  clear hb1
  have x0 := bX.cell 0
  have x1 := bX.cell 1
  have x2 := bX.cell 2
  simp at x0 x1 x2
  have xl := bX.lt
  go_wp2_with fail
  refine (trim_any _ m _ B (by have := hbw.size; omega) (H0.out.below hbw hB)).mono ?_
  rintro e w2 ⟨v1, rfl, hM, hb2⟩
  obtain ⟨A1, n1, c1, AF1, nf1, cf1, rfl⟩ := agg_of hM
  have HM := hide hM
  have hbw := hbw.trans (hb2.mono hbw.size)
  clear hM hb2 x0 x1 x2 xl bX
  cases hz : fEq (validate m).1 (validate m).2 0 0
  case false =>
    go_wp2
    exact bodyPost_ret (v := .bool true) (by simp [results, Try.results4, go_sem]) rfl ⟨rfl, (hbw.alloc hbw.size _).alloc (by have := hbw.size; simp; omega) _⟩
  case true =>
    have hv : validate m = (0, 0) := by
      have := hz
      unfold fEq at this
      simp at this
      exact Prod.ext this.1 this.2
    have hta : trimAns m = trimOf m := by unfold trimAns; rw [if_pos hv]
    rw [hta] at HM ⊢
    have HV := hide (trim_valid (valid_of hv))
    have HI := hide (trim_idem (valid_of hv))
    rw [hv]
    clear hv hta hz
    have bT := (Blk.at_ (w := w2) (g := w2.heap.size) (t := 25) (cs := #[.int .i64 (trimOf m).n, .slice A1 n1 c1, .slice AF1 nf1 cf1]) rfl).alloc (Obj.cells #[.int .i64 0, .int .i64 0] 28)
    have hM3 := hide ((HM.out.alloc (Obj.cells #[.int .i64 (trimOf m).n, .slice A1 n1 c1, .slice AF1 nf1 cf1] 25)).alloc (Obj.cells #[.int .i64 0, .int .i64 0] 28))
    have hbw3 := (hbw.alloc hbw.size (Obj.cells #[.int .i64 (trimOf m).n, .slice A1 n1 c1, .slice AF1 nf1 cf1] 25)).alloc (by have := hbw.size; simp; omega) (Obj.cells #[.int .i64 0, .int .i64 0] 28)
    clear HM
    go_wp2_with fail
    refine (trim_ok _ (trimOf m) _ _ (Nat.le_refl _) hM3.out.at_ HV.out).mono ?_
    rintro e w4 ⟨v2, rfl, hM4, hb4⟩
    rw [HI.out] at hM4
    obtain ⟨A2, n2, c2, AF2, nf2, cf2, rfl⟩ := agg_of hM4
    have HM4 := hide hM4
    have HT4 := hide (hM3.out.below hb4 (Nat.le_refl _))
    have bT := bT.below hb4 bT.lt
    have hbw := hbw3.trans (hb4.mono hbw3.size)
    have hs2 : w2.heap.size ≠ w4.heap.size := by have := bT.lt; omega
    have hs3 : w2.heap.size ≠ w4.heap.size + 1 := by have := bT.lt; omega
    clear hM4 hb4 hM3 hbw3
    have x0 := bT.cell 0
    have x1 := bT.cell 1
    have x2 := bT.cell 2
    simp at x0 x1 x2
    have xl := bT.lt
    have hb5 : Below w4.heap.size w4 ((w4.alloc (Obj.cells #[.int .i64 (trimOf m).n, .slice A2 n2 c2, .slice AF2 nf2 cf2] 25)).alloc (Obj.cells #[.int .i64 0, .int .i64 0] 28)) := by go_grown
    go_wp2_with fail
    refine (machines_any _ _ (trimOf m) (trimOf m) _ w4.heap.size (by simp; omega) (HT4.out.at_.below hb5 (Nat.le_refl _)) (HM4.out.at_.below hb5 (Nat.le_refl _))).mono ?_
    rintro e w6 ⟨rfl, hb6⟩
    have hb6' := hb5.trans (hb6.mono (by simp; omega))
    have bT := bT.below hb6' bT.lt
    have HT6 := hide (HT4.out.at_.below hb6' (Nat.le_refl _))
    have hbw := hbw.trans (hb6'.mono hbw.size)
    have hs6 := hb6'.size
    clear hb5 hb6 x0 x1 x2 xl hs2 hs3
    have hdd : decide (trimOf m = trimOf m) = true := by simp
    rw [hdd]
    have x0 := bT.cell 0
    have x1 := bT.cell 1
    have x2 := bT.cell 2
    simp at x0 x1 x2
    have xl := bT.lt
    go_wp2_with fail
    refine (validate_ok _ (trimOf m) _ w4.heap.size hs6 HT6.out (validate_of HV.out)).mono ?_
    rintro e w7 ⟨rfl, hb7⟩
    have bT := bT.below hb7 bT.lt
    have HT7 := hide (HT6.out.below hb7 hs6)
    have hbw := hbw.trans (hb7.mono hbw.size)
    have hs7 := hb7.size
    clear hb7 x0 x1 x2 xl
    have x0 := bT.cell 0
    have x1 := bT.cell 1
    have x2 := bT.cell 2
    simp at x0 x1 x2
    have xl := bT.lt
    go_wp2_with fail
    refine (onpaths_any _ (trimOf m) _ w4.heap.size (by omega) HT7.out HV.out).mono ?_
    rintro e w8 ⟨rfl, hb8⟩
    have hq : ((trimOf (trimOf m)).n == (trimOf m).n) = true := by rw [HI.out]; simp
    rw [hq]
    go_wp2
    exact bodyPost_ret (v := .bool true) (by simp [results, Try.results4, go_sem]) rfl ⟨rfl, hbw.trans (hb8.mono hbw.size)⟩
end Go.Proofs.Ytmnaglmfbmmpdaa
