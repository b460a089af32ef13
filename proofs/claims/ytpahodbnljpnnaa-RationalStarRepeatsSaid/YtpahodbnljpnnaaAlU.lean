/- The law RationalUnionIsLighter, walked: it returns true. -/
import Derived.Test.YtpahodbnljpnnaaAlW
namespace Go.Proofs.Ytpahodbnljpnnaa
open Go.RowKit Gm Go.Sort Go.Shelf
set_option linter.unusedSimpArgs false
set_option linter.unusedVariables false
theorem finF_zero {n : Int} {k : Nat} : finF n k = (0, 0) ↔ n ≤ 400 ∧ k ≤ 2000 := by
  unfold finF
  by_cases h : 400 < n ∨ 2000 < k
  · rw [if_pos h]
    constructor
    · intro e; injection e with e _; omega
    · omega
  · rw [if_neg h]
    constructor
    · intro _; omega
    · intro _; rfl
theorem twoF_comm {a b : Mach} (h : twoF a b = (0, 0)) : twoF b a = (0, 0) := by
  obtain ⟨h1, h2⟩ := twoF_zero h
  unfold twoF; rw [if_pos h2]; exact h1
theorem uni_len_comm (a b : Mach) : (uniArcs a b).length = (uniArcs b a).length := by
  unfold uniArcs
  simp only [List.length_append, List.length_map]
  split <;> split <;> simp <;> omega
theorem uniF_zero {a b : Mach} : uniF a b = (0, 0) ↔ twoF a b = (0, 0) ∧ 1 + a.n + b.n ≤ 400 ∧ (uniArcs a b).length ≤ 2000 := by
  unfold uniF
  by_cases h : twoF a b = (0, 0)
  · rw [if_pos h, finF_zero]; exact ⟨fun g => ⟨h, g⟩, fun g => g.2⟩
  · rw [if_neg h]; exact ⟨fun g => absurd g h, fun g => absurd g.1 h⟩
theorem uniF_comm {a b : Mach} (h : uniF a b = (0, 0)) : uniF b a = (0, 0) := by
  obtain ⟨h1, h2, h3⟩ := uniF_zero.1 h
  exact uniF_zero.2 ⟨twoF_comm h1, by omega, by rw [uni_len_comm b a]; exact h3⟩
theorem uniR_of {a b : Mach} (h : uniF a b = (0, 0)) : uniR a b = ⟨1 + a.n + b.n, srtA (uniArcs a b), uniFins a b⟩ := by
  obtain ⟨h1, h2, h3⟩ := uniF_zero.1 h
  unfold uniR finM
  rw [if_pos h1, if_neg (by omega)]
theorem uni_wv {a b : Mach} (h : uniF a b = (0, 0)) (lu lo : List Int) : wv (uniR a b) lu lo = if wF a lu lo = (0, 0) then lightP (wgt a lu lo) (wgt b lu lo) else -2 := by
  obtain ⟨h1, h2, h3⟩ := uniF_zero.1 h
  obtain ⟨ga, gb⟩ := twoF_zero h1
  have hV := uni_valid (valid_of ga) (valid_of gb) h2 h3
  rw [uniR_of h]
  unfold wv
  rw [wF_valid (validate_of hV) ga lu lo, wgt_uni (valid_of ga) (valid_of gb)]
theorem uni_cases (a b : Mach) (lu lo : List Int) : (fEq (uniF a b).1 (uniF a b).2 0 0 = false ∧ fEq (uniF b a).1 (uniF b a).2 0 0 = false) ∨ (uniF a b = (0, 0) ∧ uniF b a = (0, 0) ∧ ∃ r, wv (uniR a b) lu lo = r ∧ wv (uniR b a) lu lo = r ∧
    ((wv a lu lo = -2 ∧ wv b lu lo = -2 ∧ r = -2) ∨ (-1 ≤ wv a lu lo ∧ -1 ≤ wv b lu lo ∧ lightP (wv a lu lo) (wv b lu lo) = r))) := by
  by_cases h : uniF a b = (0, 0)
  · right
    have h' := uniF_comm h
    refine ⟨h, h', _, rfl, ?_, ?_⟩
    · obtain ⟨h1, _, _⟩ := uniF_zero.1 h
      obtain ⟨ga, gb⟩ := twoF_zero h1
      rw [uni_wv h, uni_wv h', wF_valid ga gb lu lo, lightP_comm (wgt_low b lu lo) (wgt_low a lu lo)]
    · obtain ⟨h1, _, _⟩ := uniF_zero.1 h
      obtain ⟨ga, gb⟩ := twoF_zero h1
      rw [uni_wv h]
      unfold wv
      rw [wF_valid ga gb lu lo]
      by_cases hw : wF b lu lo = (0, 0)
      · rw [if_pos hw, if_pos hw, if_pos hw]
        exact .inr ⟨wgt_low _ _ _, wgt_low _ _ _, rfl⟩
      · rw [if_neg hw, if_neg hw, if_neg hw]
        exact .inl ⟨rfl, rfl, rfl⟩
  · left
    exact ⟨fEq0_false h, fEq0_false (fun g => h (uniF_comm g))⟩
end Go.Proofs.Ytpahodbnljpnnaa
