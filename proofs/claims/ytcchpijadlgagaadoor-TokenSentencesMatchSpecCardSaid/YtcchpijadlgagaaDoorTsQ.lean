/- Lists of spans, compared. -/
import Derived.Test.YtcchpijadlgagaaDoorTsE
namespace Go.Proofs.YtcchpijadlgagaaDoor
open Go.RowKit Gm
set_option linter.unusedSimpArgs false
set_option linter.unusedVariables false
def spEq (x y x' y' : Nat) : Bool := decide (x = x' ∧ y = y')
theorem run_neq_span (x y x' y' : Nat) (w : World) : (binOp .neq 40 (.agg #[.int .i64 (x : Int), .int .i64 (y : Int)]) (.agg #[.int .i64 (x' : Int), .int .i64 (y' : Int)])).run Tryd.prog w = .ok (.bool (!spEq x y x' y')) w := by
  by_cases e1 : x = x' <;> by_cases e2 : y = y'
  · subst e1; subst e2; simp [go_sem, spEq]
  all_goals
    simp only [spEq, e1, e2, and_self, and_false, false_and, decide_false, Bool.not_false]
    simp [go_sem]
    omega
set_option maxHeartbeats 1000000 in
theorem espans_any (v1 v2 : Value) (l1 l2 : List (Nat × Nat)) (w : World) (B : Nat) (h1 : SpansAt w B v1 l1) (h2 : SpansAt w B v2 l2) (hB : B ≤ w.heap.size) :
    Calls Tryd.prog 16 #[v1, v2] w fun e w' => e = .returned (.bool (decide (l1 = l2))) ∧ Below w.heap.size w w' := by
  obtain ⟨A, n, c, rfl, HN, hnc, hnb, hA⟩ := h1
  obtain ⟨A', n', c', rfl, HN', hnc', hnb', hA'⟩ := h2
  unfold big at hnb hnb'
  by_cases d : n = n'
  · subst d
    obtain ⟨tot, ht⟩ : ∃ x, x = decide (l1 = l2) := ⟨_, rfl⟩
    rw [← ht]
    have HT := hide (show tot = decide (l1.drop 0 = l2.drop 0) by rw [ht]; simp)
    clear ht
    go_enter Tryd.func16, Tryd.ntmps16
    go_wp2
    go_loopw [13] (fun iv wr => ∃ (k q : Nat), k ≤ n ∧ iv = .int .i64 k ∧ Hid (wr = w.drewN q) ∧ Hid (tot = decide (l1.drop k = l2.drop k))) (fun iv _ => n - (intOf iv).toNat)
    case atStart => exact ⟨0, 0, by omega, rfl, hide rfl, HT⟩
    case round =>
      clear HT
      obtain ⟨k, q, hk, rfl, hwr, HR⟩ := hrel
      obtain rfl := hwr.out
      clear hwr
      by_cases hkn : k < n
      · obtain ⟨b, off, x, y, rfl, hbB, c0, c1, HA⟩ := sp_at hA hkn
        obtain ⟨b', off', x', y', rfl, hbB', e0, e1, HA'⟩ := sp_at hA' hkn
        have he := fun W => run_neq_span x y x' y' W
        have j0 : (0 : Int) ≤ (k : Int) := by omega
        have j1 : (k : Int) < (n : Int) := by omega
        have hs := dropT_eq_iff (d := ((0, 0) : Nat × Nat)) (l := l1) (k := l2) (j := k) (by rw [HN.out]; exact hkn) (by rw [HN.out, HN'.out])
        rw [HA.out, HA'.out] at hs
        have HS := hide hs
        clear hs
        cases hE : spEq x y x' y'
        · have hne : ¬ (x, y) = (x', y') := by
            intro e
            have h1 := congrArg Prod.fst e
            have h2 := congrArg Prod.snd e
            simp only at h1 h2
            unfold spEq at hE
            simp [h1, h2] at hE
          have HNE := hide hne
          clear hne
          go_wp2
          go_quiet (fail)
          go_wp2
          go_ret
          rw [HR.out, HS.out, if_neg HNE.out]
          exact ⟨rfl, below_drewN (below_drewN (Below.refl _ _) _) _⟩
        · have hne : (x, y) = (x', y') := by
            unfold spEq at hE
            simp at hE
            rw [hE.1, hE.2]
          have HNE := hide hne
          clear hne
          go_wp2
          go_quiet (fail)
          go_wp2
          go_roundw
          case rel => exact ⟨k + 1, _, by omega, by go_num, hide rfl, hide (HR.out.trans (by rw [HS.out, if_pos HNE.out]))⟩
          case measure => simp [intOf]; omega
      · have he : tot = true := by
          rw [HR.out, List.drop_eq_nil_of_le (by rw [HN.out]; omega), List.drop_eq_nil_of_le (by rw [HN'.out]; omega)]; rfl
        have HE := hide he
        clear he HR
        go_wp2
        go_ret
        exact ⟨ret_bool HE.out.symm, below_drewN (Below.refl _ _) _⟩
  · have hd : decide (l1 = l2) = false := by
      apply decide_eq_false; intro e; apply d; rw [← HN.out, ← HN'.out, e]
    rw [hd]
    have hdd : ((n : Int) != (n' : Int)) = true := by simp; omega
    clear hd HN HN' hA hA' d
    go_enter Tryd.func16, Tryd.ntmps16
    go_wp2
    go_ret
    exact ⟨rfl, Below.refl _ _⟩
theorem span_info : (Tryd.prog.info? 40).map (fun i => (i.zero, i.size, i.bytes)) = some (some (.agg #[.int .i64 0, .int .i64 0]), 2, 16) := by kernel_rfl
end Go.Proofs.YtcchpijadlgagaaDoor
