/- The reference's FinalWeight, walked at any machine. -/
import Derived.Test.YtopakcbhodnipaaReach
import Derived.Test.YtopakcbhodnipaaDqZ
import Derived.IntWalk
import Derived.Deep.Cut
import Derived.LoopTactic
namespace Go.Proofs.Ytopakcbhodnipaa
open Go.RowKit Gm
set_option linter.unusedSimpArgs false
set_option linter.unusedVariables false
set_option maxRecDepth 100000 in
set_option maxHeartbeats 4000000 in
theorem finw_any (va : Value) (a : Mach) (s : Int) (w : World) (B : Nat) (hB : B ≤ w.heap.size) (ha : MachAt w B va a) :
    Calls Try.prog 48 #[va, .int .i64 s] w fun e w' => e = .returned (.int .i64 (finW a.fins s)) ∧ Below w.heap.size w w' := by
  obtain ⟨A, AF, n, c, nf, cf, rfl, HN, HF, hnc, hnfc, hnb, hnfb, hA, hF⟩ := ha
  have HRF := hide hF
  unfold big at hnb hnfb
  clear hA hF
  go_enter Try.func48, Try.ntmps48
  go_upto_region 2 with fail
  generalize hW2 : World.alloc _ _ = W2
  have HBW := hide (show Below w.heap.size w W2 by rw [← hW2]; go_grown)
  have hz2 : w.heap.size ≤ W2.heap.size := HBW.out.size
  have HRF2 := hide (HRF.out.below HBW.out hB)
  clear hW2 HRF
  go_loopw [10] (fun iv wr => ∃ k : Nat, k ≤ nf ∧ iv = .int .i64 k ∧ Hid (∀ x ∈ a.fins.take k, x.s ≠ s) ∧ Hid (Below w.heap.size W2 wr) ∧ w.heap.size ≤ wr.heap.size) (fun iv _ => nf - (intOf iv).toNat)
  case atStart => exact ⟨0, by omega, rfl, hide (fun x hx => by simp at hx), hide (Below.refl _ _), hz2⟩
  case round =>
    obtain ⟨k, hk, rfl, HALL, HBK, hzr⟩ := hrel
    by_cases hkn : k < nf
    · obtain ⟨bb, off, x, rfl, hbB, d0, d1, HX⟩ := fins_at (HRF2.out.below HBK.out hB) hkn
      have hkl : k < a.fins.length := by rw [HF.out]; exact hkn
      have hgx : a.fins[k] = x := by rw [← HX.out]; simp [hkl]
      have lb : bb < wr.heap.size := by omega
      by_cases hw : x.s = s
      · have t3 : (x.s == s) = true := by simp [hw]
        have HR := hide (finW_hit HALL.out hkl HX.out hw)
        have HBE := hide (HBW.out.trans HBK.out)
        clear hw hgx hkl HX HALL
        go_wp2
        exact bodyPost_ret (v := .int .i64 x.w) (by simp [results, Try.results48, go_sem]) rfl ⟨by rw [HR.out], HBE.out.alloc hzr _⟩
      · have t3 : (x.s == s) = false := by simp [hw]
        have HALL2 := hide (show ∀ y ∈ a.fins.take (k + 1), y.s ≠ s from fun y hy => by
          rw [List.take_add_one, List.getElem?_eq_getElem hkl, hgx] at hy
          rcases List.mem_append.1 hy with h | h
          · exact HALL.out y h
          · simp at h; subst h; exact hw)
        clear hw hgx hkl HX HALL
        go_wp2
        go_roundw
        case rel => exact ⟨k + 1, by omega, by go_num, HALL2, hide (HBK.out.alloc hzr _), by simp; omega⟩
        case measure => simp [intOf]; omega
    · obtain rfl : nf = k := by omega
      have HR := hide (finW_miss (s := s) (l := a.fins) (by have h := HALL.out; rw [List.take_of_length_le (by rw [HF.out]; exact Nat.le_refl _)] at h; exact h))
      have HBE := hide (HBW.out.trans HBK.out)
      clear HALL
      go_wp2
      exact bodyPost_ret (v := .int .i64 (-1)) (by simp [results, Try.results48, go_sem]) rfl ⟨by rw [HR.out], HBE.out⟩
end Go.Proofs.Ytopakcbhodnipaa
