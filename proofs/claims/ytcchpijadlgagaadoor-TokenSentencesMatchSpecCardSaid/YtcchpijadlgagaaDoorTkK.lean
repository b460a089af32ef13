/- The tokens of a text stand one behind the other, and only spaces between them: plain law. -/
import Derived.Test.YtcchpijadlgagaaDoorTkN
namespace Go.Proofs.YtcchpijadlgagaaDoor
open Go.RowKit Gm
set_option linter.unusedSimpArgs false
set_option linter.unusedVariables false
def Cov (ps : List Int) : Nat → List Tok → Prop
  | a, [] => a ≤ ps.length ∧ ∀ x, a ≤ x → x < ps.length → cl ps x = 5
  | a, t :: l => ∃ i, a ≤ i ∧ i < ps.length ∧ (∀ x, a ≤ x → x < i → cl ps x = 5) ∧ cl ps i ≠ 5 ∧ t = tokAt ps i ∧ Cov ps (tokJ ps i) l
theorem toksGo_cov {ps : List Int} : ∀ (f i a : Nat) (acc : List Tok), a ≤ i → i ≤ ps.length → ps.length < f + i → (∀ x, a ≤ x → x < i → cl ps x = 5) → ∃ l, toksGo ps f i acc = acc ++ l ∧ Cov ps a l
  | 0, i, a, acc, h1, h2, h3, h4 => by omega
  | f + 1, i, a, acc, h1, h2, h3, h4 => by
    by_cases hi : i < ps.length
    · by_cases h5 : cl ps i = 5
      · rw [toksGo_space hi h5]
        refine toksGo_cov f (i + 1) a acc (by omega) hi (by omega) (fun x hx hx2 => ?_)
        rcases Nat.eq_or_lt_of_le (show x ≤ i by omega) with rfl | h6
        · exact h5
        · exact h4 x hx h6
      · rw [toksGo_tok hi h5]
        have hb := tokJ_bd hi
        obtain ⟨l, hl, hc⟩ := toksGo_cov f (tokJ ps i) (tokJ ps i) (acc ++ [tokAt ps i]) (Nat.le_refl _) hb.2 (by omega) (fun x hx hx2 => by omega)
        exact ⟨tokAt ps i :: l, by rw [hl]; simp, i, h1, hi, h4, h5, rfl, hc⟩
    · rw [toksGo_end hi]
      exact ⟨[], by simp, by omega, fun x hx hx2 => h4 x hx (by omega)⟩
theorem toks_cov (ps : List Int) : Cov ps 0 (toks ps) := by
  obtain ⟨l, hl, hc⟩ := toksGo_cov (ps := ps) (ps.length + 1) 0 0 [] (Nat.le_refl _) (Nat.zero_le _) (by omega) (fun x hx hx2 => by omega)
  unfold toks
  rw [hl]; exact hc
/-- What lies between two points is read as these points. -/
theorem decR_sl {ps : List Int} (ha : allS ps) {i j : Nat} (hlen : (encL ps).length ≤ 4000) : decR (sub ps i j) = ((0, 0), sl ps i j) := by
  have h1 : allS (sl ps i j) := fun x hx => ha x (List.mem_of_mem_take (List.mem_of_mem_drop hx))
  have h2 : (encL (sl ps i j)).length ≤ 4000 := by
    have h3 := encL_split (ps.take j) i
    have h4 := encL_split ps j
    have e1 := congrArg List.length h3
    have e2 := congrArg List.length h4
    rw [List.length_append] at e1 e2
    have : encL (sl ps i j) = encL ((ps.take j).drop i) := rfl
    rw [this]
    omega
  exact decR_enc h1 h2
theorem sl_sp {ps : List Int} {a i : Nat} (hi : i ≤ ps.length) (h : ∀ x, a ≤ x → x < i → cl ps x = 5) : ∀ x ∈ sl ps a i, clsP x = 5 := by
  intro x hx
  obtain ⟨k, hk, rfl⟩ := List.getElem_of_mem hx
  rw [sl_len hi] at hk
  have h1 := h (a + k) (by omega) (by omega)
  have h2 := sl_at (ps := ps) (i := a) (j := i) (k := k) (by omega)
  unfold cl at h1
  rw [← h2] at h1
  simpa [List.getD, hk, sl_len hi] using h1
theorem tokAt_fits {ps : List Int} {i : Nat} (h : i < ps.length) : (tokAt ps i).s < (tokAt ps i).e ∧ (tokAt ps i).e ≤ (encL ps).length := by
  have hb := tokJ_bd h
  have h1 := ofs_push h
  have h2 := enc1_pos (ps.getD i 0)
  have h3 := ofs_mono ps (show i + 1 ≤ tokJ ps i by omega)
  have h4 := ofs_total ps (tokJ ps i)
  unfold tokAt
  simp only
  omega
end Go.Proofs.YtcchpijadlgagaaDoor
