/- The reference's wordly and numeral. -/
import Derived.Test.YtcchpijadlgagaaDoorTkC
namespace Go.Proofs.YtcchpijadlgagaaDoor
open Go.RowKit Gm
set_option linter.unusedSimpArgs false
set_option linter.unusedVariables false
def wAll (l : List Int) : Nat → Nat → Bool
  | 0, _ => true
  | m + 1, k => if k < l.length then (if wOK l k = true then wAll l m (k + 1) else false) else true
def nOK2 (l : List Int) (k : Nat) : Bool := decide (cl l k = 4) || ((decide (l.getD k 0 = 44) || decide (l.getD k 0 = 46)) && decide (0 < k) && decide (k + 1 < l.length) && decide (cl l (k - 1) = 4) && decide (cl l (k + 1) = 4))
def nAll (l : List Int) : Nat → Nat → Bool
  | 0, _ => true
  | m + 1, k => if k < l.length then (if nOK2 l k = true then nAll l m (k + 1) else false) else true
def wordB (l : List Int) : Bool := decide (0 < l.length) && decide (cl l 0 = 2) && wAll l (l.length + 1) 0
def numB (l : List Int) : Bool := decide (0 < l.length) && nAll l (l.length + 1) 0
theorem rclass_at (p c : Int) (hc : clsP p = c) (w : World) :
    Calls Tryd.prog 21 #[.int .i64 p] w fun e w' => e = .returned (.int .i64 c) ∧ w = w' := by
  subst hc; exact rclass_any p w
theorem pt_at {w : World} {B n : Nat} {A : Option Addr} {l : List Int} (h : Rd w B 1 A n (intCell l)) {i : Nat} (hi : i < n) :
    ∃ b off p q, A = some ⟨b, off, none⟩ ∧ w.cell? ⟨b, off + i, none⟩ = some (.int .i64 p) ∧ Hid (l.getD i 0 = p) ∧ Hid (clsP p = q) ∧ Hid (cl l i = q) := by
  obtain ⟨b, off, h1, h2, h3⟩ := h.at1 hi
  exact ⟨b, off, l.getD i 0, _, h1, h3, hide rfl, hide rfl, hide rfl⟩
set_option maxHeartbeats 2000000 in
theorem wordly_any (A : Option Addr) (n c : Nat) (l : List Int) (w : World) (B : Nat) (hn : l.length = n) (hl : n ≤ 100000) (h : Rd w B 1 A n (intCell l)) :
    Calls Tryd.prog 22 #[.slice A n c] w fun e w' => e = .returned (.bool (wordB l)) ∧ w = w' := by
  have HL := hide hn
  obtain ⟨tot, ht⟩ : ∃ x, x = wordB l := ⟨_, rfl⟩
  rw [← ht]
  by_cases h0 : n = 0
  · have he : tot = false := by rw [ht]; unfold wordB; rw [hn, h0]; rfl
    subst h0
    subst he
    clear ht hn
    go_enter Tryd.func22, Tryd.ntmps22
    go_wp2
    go_ret
    exact ⟨rfl, rfl⟩
  · have hnz : ((n : Int) == 0) = false := by simp; omega
    have hpos : 0 < n := by omega
    obtain ⟨b, off, p, q, rfl, c0, HP, HC, HQ⟩ := pt_at h hpos
    rw [Nat.add_zero] at c0
    by_cases h2 : q = 2
    · subst h2
      have HT : Hid (tot = wAll l (n + 1) 0) := by
        refine hide ?_
        rw [ht]; unfold wordB; rw [HQ.out, hn]; simp [hpos]
      clear ht hn h0
      go_enter Tryd.func22, Tryd.ntmps22
      go_wp2_with (go_at_call 21; refine (rclass_at _ _ HC.out _).mono ?_; rintro e w' ⟨rfl, rfl⟩)
      clear c0 HP HC HQ
      go_loop [18] (fun iv => ∃ k m : Nat, k ≤ n ∧ n < m + k ∧ iv = .int .i64 k ∧ Hid (tot = wAll l m k)) (fun iv => n - (intOf iv).toNat)
      case atStart => exact ⟨0, n + 1, by omega, by omega, rfl, HT⟩
      case round =>
        clear HT
        obtain ⟨k, m, hk, hm, rfl, HR⟩ := hrel
        by_cases hkn : k < n
        · obtain ⟨m, rfl⟩ : ∃ m', m = m' + 1 := ⟨m - 1, by omega⟩
          have hst : tot = if wOK l k = true then wAll l m (k + 1) else false := by
            rw [HR.out, wAll, if_pos (by rw [HL.out]; exact hkn)]
          obtain ⟨b1, o1, p1, q1, hA1, c1, HP1, HC1, HQ1⟩ := pt_at h hkn
          simp only [Option.some.injEq, Addr.mk.injEq, and_true] at hA1
          obtain ⟨rfl, rfl⟩ := hA1
          by_cases hi : q1 = 2 ∨ q1 = 3
          · have hw : wOK l k = true := by
              unfold wOK insB; rw [HQ1.out, HL.out]
              rcases hi with hi | hi <;> simp [hkn, hi]
            rw [if_pos hw] at hst
            have HE := hide hst
            clear hst HR hw
            rcases hi with rfl | rfl
            all_goals
              go_wp2_with (go_at_call 21; refine (rclass_at _ _ HC1.out _).mono ?_; rintro e w' ⟨rfl, rfl⟩)
              go_round
              case rel => first | exact ⟨k + 1, m, by omega, by omega, by go_num, HE⟩ | ((repeat apply Exists.intro); exact ⟨⟨k + 1, by omega, m, by omega, by go_num, HE⟩, rfl⟩) | (refine ⟨_, _, ⟨k + 1, by omega, m, by omega, rfl, HE⟩, rfl, rfl⟩)
              case measure => simp [intOf]; omega
          · have i2 : (q1 == 2) = false := by simp at hi; simp [hi.1]
            have i3 : (q1 == 3) = false := by simp at hi; simp [hi.2]
            have hins : insB l k = false := by unfold insB; rw [HQ1.out]; simp at hi; simp [hi.1, hi.2]
            by_cases hd : p1 = 39 ∨ p1 = 45
            · by_cases hkn2 : k + 1 < n
              · obtain ⟨b2, o2, p2, q2, hA2, c2, HP2, HC2, HQ2⟩ := pt_at h hkn2
                simp only [Option.some.injEq, Addr.mk.injEq, and_true] at hA2
                obtain ⟨rfl, rfl⟩ := hA2
                by_cases hq2 : q2 = 2
                · have hw : wOK l k = true := by
                    unfold wOK; rw [hins, HL.out, HP1.out, HQ2.out]
                    rcases hd with hd | hd <;> simp [hkn2, hd, hq2]
                  rw [if_pos hw] at hst
                  have HE := hide hst
                  subst hq2
                  clear hst HR hw hi hins
                  rcases hd with rfl | rfl
                  all_goals
                    go_wp2_with fail
                    refine (rclass_at _ _ HC1.out _).mono ?_
                    rintro e w' ⟨rfl, rfl⟩
                    go_wp2_with fail
                    refine (rclass_at _ _ HC2.out _).mono ?_
                    rintro e w' ⟨rfl, rfl⟩
                    go_wp2
                    go_round
                    case rel => first | exact ⟨k + 1, m, by omega, by omega, by go_num, HE⟩ | (refine ⟨_, _, ⟨k + 1, by omega, m, by omega, rfl, HE⟩, rfl, rfl⟩)
                    case measure => simp [intOf]; omega
                · have hw : ¬ wOK l k = true := by
                    unfold wOK; rw [hins, HL.out, HP1.out, HQ2.out]; simp [hq2]
                  rw [if_neg hw] at hst
                  have HE := hide hst
                  have j2 : (q2 == 2) = false := by simp [hq2]
                  clear hst HR hw hi hins hq2
                  rcases hd with rfl | rfl
                  all_goals
                    go_wp2_with fail
                    refine (rclass_at _ _ HC1.out _).mono ?_
                    rintro e w' ⟨rfl, rfl⟩
                    go_wp2_with fail
                    refine (rclass_at _ _ HC2.out _).mono ?_
                    rintro e w' ⟨rfl, rfl⟩
                    go_wp2
                    go_ret
                    exact ⟨ret_bool HE.out.symm, rfl⟩
              · have hw : ¬ wOK l k = true := by
                  unfold wOK; rw [hins, HL.out]; simp [hkn2]
                rw [if_neg hw] at hst
                have HE := hide hst
                clear hst HR hw hi hins
                rcases hd with rfl | rfl
                all_goals
                  go_wp2_with (go_at_call 21; refine (rclass_at _ _ HC1.out _).mono ?_; rintro e w' ⟨rfl, rfl⟩)
                  go_ret
                  exact ⟨ret_bool HE.out.symm, rfl⟩
            · have hw : ¬ wOK l k = true := by
                unfold wOK; rw [hins, HP1.out]; simp at hd; simp [hd.1, hd.2]
              have d1 : (p1 == 39) = false := by simp at hd; simp [hd.1]
              have d2 : (p1 == 45) = false := by simp at hd; simp [hd.2]
              rw [if_neg hw] at hst
              have HE := hide hst
              clear hst HR hw hi hins hd
              go_wp2_with (go_at_call 21; refine (rclass_at _ _ HC1.out _).mono ?_; rintro e w' ⟨rfl, rfl⟩)
              go_ret
              exact ⟨ret_bool HE.out.symm, rfl⟩
        · have he : tot = true := by
            rw [HR.out]
            cases m with
            | zero => rfl
            | succ m => rw [wAll, if_neg (by rw [HL.out]; exact hkn)]
          have HE := hide he
          clear he HR
          go_wp2
          go_ret
          exact ⟨ret_bool HE.out.symm, rfl⟩
    · have he : tot = false := by rw [ht]; unfold wordB; rw [HQ.out]; simp [h2]
      have q2 : (q == 2) = false := by simp [h2]
      have q3 : (q != 2) = true := by simp [h2]
      subst he
      clear ht hn h0 h2
      go_enter Tryd.func22, Tryd.ntmps22
      go_wp2_with (go_at_call 21; refine (rclass_at _ _ HC.out _).mono ?_; rintro e w' ⟨rfl, rfl⟩)
      go_ret
      exact ⟨rfl, rfl⟩
end Go.Proofs.YtcchpijadlgagaaDoor
