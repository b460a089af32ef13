/- The reference's numeral. -/
import Derived.Test.YtcchpijadlgagaaDoorTkR
namespace Go.Proofs.YtcchpijadlgagaaDoor
open Go.RowKit Gm
set_option linter.unusedSimpArgs false
set_option linter.unusedVariables false
set_option maxHeartbeats 2000000 in
theorem numeral_any (A : Option Addr) (n c : Nat) (l : List Int) (w : World) (B : Nat) (hn : l.length = n) (hl : n ≤ 100000) (h : Rd w B 1 A n (intCell l)) :
    Calls Tryd.prog 23 #[.slice A n c] w fun e w' => e = .returned (.bool (numB l)) ∧ w = w' := by
  have HL := hide hn
  obtain ⟨tot, ht⟩ : ∃ x, x = numB l := ⟨_, rfl⟩
  rw [← ht]
  by_cases h0 : n = 0
  · have he : tot = false := by rw [ht]; unfold numB; rw [hn, h0]; rfl
    subst h0
    subst he
    clear ht hn
    go_enter Tryd.func23, Tryd.ntmps23
    go_wp2
    go_ret
    exact ⟨rfl, rfl⟩
  · have hnz : ((n : Int) == 0) = false := by simp; omega
    have hpos : 0 < n := by omega
    have HT : Hid (tot = nAll l (n + 1) 0) := by
      refine hide ?_
      rw [ht]; unfold numB; rw [hn]; simp [hpos]
    clear ht hn h0
    go_enter Tryd.func23, Tryd.ntmps23
    go_wp2
    go_loop [10] (fun iv => ∃ k m : Nat, k ≤ n ∧ n < m + k ∧ iv = .int .i64 k ∧ Hid (tot = nAll l m k)) (fun iv => n - (intOf iv).toNat)
    case atStart => exact ⟨0, n + 1, by omega, by omega, rfl, HT⟩
    case round =>
      clear HT
      obtain ⟨k, m, hk, hm, rfl, HR⟩ := hrel
      by_cases hkn : k < n
      · obtain ⟨m, rfl⟩ : ∃ m', m = m' + 1 := ⟨m - 1, by omega⟩
        have hst : tot = if nOK2 l k = true then nAll l m (k + 1) else false := by
          rw [HR.out, nAll, if_pos (by rw [HL.out]; exact hkn)]
        obtain ⟨b, off, p1, q1, hA, c1, HP1, HC1, HQ1⟩ := pt_at h hkn
        subst hA
        by_cases hi : q1 = 4
        · have hw : nOK2 l k = true := by unfold nOK2; rw [HQ1.out]; simp [hi]
          rw [if_pos hw] at hst
          have HE := hide hst
          clear hst HR hw
          subst hi
          go_wp2_with (go_at_call 21; refine (rclass_at _ _ HC1.out _).mono ?_; rintro e w' ⟨rfl, rfl⟩)
          go_round
          case rel => first | exact ⟨k + 1, m, by omega, by omega, by go_num, HE⟩ | (refine ⟨_, _, ⟨k + 1, by omega, m, by omega, rfl, HE⟩, rfl, rfl⟩)
          case measure => simp [intOf]; omega
        · have i2 : (q1 == 4) = false := by simp [hi]
          by_cases hd : p1 = 44 ∨ p1 = 46
          · rcases Nat.eq_zero_or_pos k with hk0 | hk0
            · have hw : ¬ nOK2 l k = true := by unfold nOK2; rw [HQ1.out]; simp [hi, hk0]
              rw [if_neg hw] at hst
              have HE := hide hst
              have hg : decide (0 < k) = false := by simp; omega
              clear hst HR hw hi hk0
              rcases hd with rfl | rfl
              all_goals
                go_wp2_with (go_at_call 21; refine (rclass_at _ _ HC1.out _).mono ?_; rintro e w' ⟨rfl, rfl⟩)
                go_ret
                exact ⟨ret_bool HE.out.symm, rfl⟩
            · obtain ⟨j, rfl⟩ : ∃ j, k = j + 1 := ⟨k - 1, by omega⟩
              by_cases hkn2 : j + 1 + 1 < n
              · obtain ⟨b2, o2, p2, q2, hA2, c2, HP2, HC2, HQ2⟩ := pt_at h hkn2
                simp only [Option.some.injEq, Addr.mk.injEq, and_true] at hA2
                obtain ⟨rfl, rfl⟩ := hA2
                obtain ⟨b0, o0, p0, q0, hA0, c0, HP0, HC0, HQ0⟩ := pt_at h (show j < n by omega)
                simp only [Option.some.injEq, Addr.mk.injEq, and_true] at hA0
                obtain ⟨rfl, rfl⟩ := hA0
                by_cases hq0 : q0 = 4
                · by_cases hq2 : q2 = 4
                  · have hw : nOK2 l (j + 1) = true := by
                      unfold nOK2; rw [HQ1.out, HL.out, HP1.out, HQ2.out, show j + 1 - 1 = j by omega, HQ0.out]
                      rcases hd with hd | hd <;> simp [hkn2, hd, hq2, hq0]
                    rw [if_pos hw] at hst
                    have HE := hide hst
                    subst hq2
                    subst hq0
                    clear hst HR hw hi
                    rcases hd with rfl | rfl
                    all_goals
                      go_wp2_with fail
                      refine (rclass_at _ _ HC1.out _).mono ?_
                      rintro e w' ⟨rfl, rfl⟩
                      go_wp2_with fail
                      refine (rclass_at _ _ HC0.out _).mono ?_
                      rintro e w' ⟨rfl, rfl⟩
                      go_wp2_with fail
                      refine (rclass_at _ _ HC2.out _).mono ?_
                      rintro e w' ⟨rfl, rfl⟩
                      go_wp2
                      go_round
                      case rel => first | exact ⟨j + 1 + 1, m, by omega, by omega, by go_num, HE⟩ | (refine ⟨_, _, ⟨j + 1 + 1, by omega, m, by omega, rfl, HE⟩, rfl, rfl⟩)
                      case measure => simp [intOf]; omega
                  · have hw : ¬ nOK2 l (j + 1) = true := by
                      unfold nOK2; rw [HQ1.out, HQ2.out]; simp [hi, hq2]
                    rw [if_neg hw] at hst
                    have HE := hide hst
                    have j2 : (q2 == 4) = false := by simp [hq2]
                    subst hq0
                    clear hst HR hw hi hq2
                    rcases hd with rfl | rfl
                    all_goals
                      go_wp2_with fail
                      refine (rclass_at _ _ HC1.out _).mono ?_
                      rintro e w' ⟨rfl, rfl⟩
                      go_wp2_with fail
                      refine (rclass_at _ _ HC0.out _).mono ?_
                      rintro e w' ⟨rfl, rfl⟩
                      go_wp2_with fail
                      refine (rclass_at _ _ HC2.out _).mono ?_
                      rintro e w' ⟨rfl, rfl⟩
                      go_wp2
                      go_ret
                      exact ⟨ret_bool HE.out.symm, rfl⟩
                · have hw : ¬ nOK2 l (j + 1) = true := by
                    unfold nOK2; rw [HQ1.out, show j + 1 - 1 = j by omega, HQ0.out]; simp [hi, hq0]
                  rw [if_neg hw] at hst
                  have HE := hide hst
                  have j0 : (q0 == 4) = false := by simp [hq0]
                  clear hst HR hw hi hq0
                  rcases hd with rfl | rfl
                  all_goals
                    go_wp2_with fail
                    refine (rclass_at _ _ HC1.out _).mono ?_
                    rintro e w' ⟨rfl, rfl⟩
                    go_wp2_with fail
                    refine (rclass_at _ _ HC0.out _).mono ?_
                    rintro e w' ⟨rfl, rfl⟩
                    go_wp2
                    go_ret
                    exact ⟨ret_bool HE.out.symm, rfl⟩
              · have hw : ¬ nOK2 l (j + 1) = true := by
                  unfold nOK2; rw [HQ1.out, HL.out]; simp [hi, hkn2]
                rw [if_neg hw] at hst
                have HE := hide hst
                clear hst HR hw hi
                rcases hd with rfl | rfl
                all_goals
                  go_wp2_with (go_at_call 21; refine (rclass_at _ _ HC1.out _).mono ?_; rintro e w' ⟨rfl, rfl⟩)
                  go_ret
                  exact ⟨ret_bool HE.out.symm, rfl⟩
          · have hw : ¬ nOK2 l k = true := by
              unfold nOK2; rw [HQ1.out, HP1.out]; simp at hd; simp [hi, hd.1, hd.2]
            have d1 : (p1 == 44) = false := by simp at hd; simp [hd.1]
            have d2 : (p1 == 46) = false := by simp at hd; simp [hd.2]
            rw [if_neg hw] at hst
            have HE := hide hst
            clear hst HR hw hi hd
            go_wp2_with (go_at_call 21; refine (rclass_at _ _ HC1.out _).mono ?_; rintro e w' ⟨rfl, rfl⟩)
            go_ret
            exact ⟨ret_bool HE.out.symm, rfl⟩
      · have he : tot = true := by
          rw [HR.out]
          cases m with
          | zero => rfl
          | succ m => rw [nAll, if_neg (by rw [HL.out]; exact hkn)]
        have HE := hide he
        clear he HR
        go_wp2
        go_ret
        exact ⟨ret_bool HE.out.symm, rfl⟩
end Go.Proofs.YtcchpijadlgagaaDoor
