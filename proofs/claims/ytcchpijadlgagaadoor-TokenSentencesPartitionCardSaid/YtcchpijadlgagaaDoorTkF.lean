/- A token by itself is cut into itself; the tokens of a text, joined, are cut into the same: plain law. -/
import Derived.Test.YtcchpijadlgagaaDoorTkD
import Derived.Test.YtcchpijadlgagaaDoorTkS
namespace Go.Proofs.YtcchpijadlgagaaDoor
open Go.RowKit Gm
set_option linter.unusedSimpArgs false
set_option linter.unusedVariables false
/-- The points of a token are a token. -/
theorem sl_word {ps : List Int} {i : Nat} (hi : i < ps.length) (h2 : cl ps i = 2) : wordB (sl ps i (tokJ ps i)) = true := by
  have hj : tokJ ps i = wEnd ps (ps.length + 1) (i + 1) := by unfold tokJ; rw [if_pos h2]
  obtain ⟨s1, s2⟩ := wEnd_spec ps (ps.length + 1) (i + 1) (by omega)
  have hb := wEnd_bd ps (ps.length + 1) (i + 1) hi
  rw [hj]
  obtain ⟨J, hJ⟩ : ∃ J, J = wEnd ps (ps.length + 1) (i + 1) := ⟨_, rfl⟩
  rw [← hJ] at s1 s2 hb ⊢
  rw [wordB_sl (by omega) hb.2]
  refine ⟨h2, fun x hx hxJ => ?_⟩
  rcases Nat.eq_or_lt_of_le hx with rfl | h3
  · exact .inl (.inl h2)
  · rcases (wOK_iff _ _).1 (s1 x h3 hxJ) with ⟨_, h4⟩ | ⟨h4, h5, h6⟩
    · exact .inl h4
    · refine .inr ⟨?_, h5, h6⟩
      rcases Nat.lt_or_ge (x + 1) J with h7 | h7
      · exact h7
      · exfalso
        have e : J = x + 1 := by omega
        have : wOK ps J = true := by rw [wOK_iff]; exact .inl ⟨by omega, .inl (by rw [e]; exact h6)⟩
        rw [s2] at this; cases this
theorem sl_num {ps : List Int} {i : Nat} (hi : i < ps.length) (h4 : cl ps i = 4) : numB (sl ps i (tokJ ps i)) = true := by
  have hj : tokJ ps i = nEnd ps (ps.length + 1) (i + 1) := by unfold tokJ; rw [if_neg (by rw [h4]; decide), if_pos h4]
  obtain ⟨s1, s2⟩ := nEnd_spec ps (ps.length + 1) (i + 1) (by omega)
  have hb := nEnd_bd ps (ps.length + 1) (i + 1) hi
  rw [hj]
  obtain ⟨J, hJ⟩ : ∃ J, J = nEnd ps (ps.length + 1) (i + 1) := ⟨_, rfl⟩
  rw [← hJ] at s1 s2 hb ⊢
  rw [numB_sl (by omega) hb.2]
  intro x hx hxJ
  rcases Nat.eq_or_lt_of_le hx with rfl | h3
  · exact .inl h4
  · rcases (nOK_iff _ _).1 (s1 x h3 hxJ) with ⟨_, h5⟩ | ⟨h5, h6, h7, h8⟩
    · exact .inl h5
    · have hxx : x + 1 < J := by
        rcases Nat.lt_or_ge (x + 1) J with h9 | h9
        · exact h9
        · exfalso
          have e : J = x + 1 := by omega
          have : nOK ps J = true := by rw [nOK_iff]; exact .inl ⟨by omega, by rw [e]; exact h8⟩
          rw [s2] at this; cases this
      refine .inr ⟨h6.elim .inr .inl, h3, hxx, ?_, h8⟩
      rcases Nat.eq_or_lt_of_le (show i ≤ x - 1 by omega) with h9 | h9
      · rw [← h9]; exact h4
      · rcases (nOK_iff _ _).1 (s1 (x - 1) h9 (by omega)) with ⟨_, h10⟩ | ⟨_, h11, _, h13⟩
        · exact h10
        · exfalso
          rw [show x - 1 + 1 = x by omega] at h13
          unfold cl at h13
          rcases h6 with h6 | h6
          · rw [h6, cls_46] at h13; cases h13
          · rw [h6, cls_44] at h13; cases h13
theorem sl_one {ps : List Int} {i : Nat} (hi : i < ps.length) (h5 : cl ps i ≠ 5) : oneB (sl ps i (tokJ ps i)) = true ∧ tokK (sl ps i (tokJ ps i)) 0 = tokK ps i := by
  have hb := tokJ_bd hi
  have hl := sl_len (i := i) hb.2
  have hc : cl (sl ps i (tokJ ps i)) 0 = cl ps i := by rw [sl_cl (by omega), Nat.add_zero]
  have h0 : 0 < (sl ps i (tokJ ps i)).length := by omega
  refine ⟨?_, by unfold tokK; rw [hc]⟩
  have hJ : tokJ (sl ps i (tokJ ps i)) 0 = (sl ps i (tokJ ps i)).length := by
    by_cases h2 : cl ps i = 2
    · have h := one_word h0 (hc.trans h2)
      rw [sl_word hi h2] at h
      exact of_decide_eq_true h.symm
    · by_cases h4 : cl ps i = 4
      · have h := one_num h0 (hc.trans h4)
        rw [sl_num hi h4] at h
        exact of_decide_eq_true h.symm
      · have e : tokJ ps i = i + 1 := by unfold tokJ; rw [if_neg h2, if_neg h4]
        have e2 : ∀ q, cl q 0 = cl ps i → tokJ q 0 = 1 := fun q hq => by unfold tokJ; rw [hq, if_neg h2, if_neg h4]
        have e2 := e2 _ hc
        omega
  unfold oneB
  rw [hJ, hc]
  simp [h0, h5]
theorem cut_tok {q : List Int} (hS : allS q) (hz : (encL q).length ≤ 4000) (h1 : oneB q = true) : cutR (encL q) = ((0, 0), [⟨tokK q 0, 0, ((encL q).length : Int), encL q⟩]) := by
  obtain ⟨h3, h4⟩ := oneB_toks h1
  have hd := decR_enc hS hz
  unfold cutR cutB
  rw [hd, if_pos rfl]
  simp only
  rw [h3, if_neg (by simp)]
  congr 2
  unfold oneB at h1
  simp only [Bool.and_eq_true, decide_eq_true_eq] at h1
  refine Tok.ext' rfl ?_ ?_ h4
  · show ((ofs q 0 : Nat) : Int) = 0
    rw [ofs_zero]; rfl
  · show ((ofs q (tokJ q 0) : Nat) : Int) = ((encL q).length : Int)
    rw [h1.2.2]; unfold ofs; rw [List.take_of_length_le (Nat.le_refl _)]
/-- What each token is by itself. -/
theorem stand {ps : List Int} (hS : allS ps) (hz : (encL ps).length ≤ 4000) : ∀ t ∈ toks ps, okW t.t = true ∧ cutR t.t = ((0, 0), [⟨t.k, 0, (t.t.length : Int), t.t⟩]) ∧ tokK (decR t.t).2 0 = t.k ∧ t.t.length ≤ 4000 := by
  intro t ht
  obtain ⟨i, hi, h5, rfl⟩ := toks_of _ _ (toks_cov ps) t ht
  have hd : decR (sub ps i (tokJ ps i)) = ((0, 0), sl ps i (tokJ ps i)) := decR_sl hS hz
  obtain ⟨g1, g2, g3⟩ := decR_ok hd
  obtain ⟨o1, o2⟩ := sl_one hi h5
  have hc := cut_tok g1 (by rw [← g2]; exact g3) o1
  rw [← g2, o2] at hc
  refine ⟨?_, hc, ?_, g3⟩
  · show okW (sub ps i (tokJ ps i)) = true
    rw [okW_of hd]; exact o1
  · show tokK (decR (sub ps i (tokJ ps i))).2 0 = tokK ps i
    rw [hd]; exact o2
/-- All the tokens of a text, joined and cut. -/
theorem stand_join {ps : List Int} (hS : allS ps) (hz : (encL ps).length ≤ 4000) (h300 : (toks ps).length ≤ 300) :
    (joinR ((toks ps).map (·.t))).1 = (1, -1) ∨ ((joinR ((toks ps).map (·.t))).1 = (0, 0) ∧ (joinR ((toks ps).map (·.t))).2.length ≤ 4000 ∧ ∃ L, cutR (joinR ((toks ps).map (·.t))).2 = ((0, 0), L) ∧ L.map (·.t) = (toks ps).map (·.t) ∧ L.map (·.k) = (toks ps).map (·.k)) := by
  have hs := stand hS hz
  rcases join_cut (ws := (toks ps).map (·.t)) (by simpa using h300) (fun w hw => by
    obtain ⟨t, ht, rfl⟩ := List.mem_map.1 hw
    exact (hs t ht).1) with h | ⟨h1, h2, h3, h4, h5⟩
  · exact .inl h
  · refine .inr ⟨h1, h2, _, Prod.ext h3 rfl, h4, ?_⟩
    rw [h5, List.map_map]
    exact List.map_congr_left fun t ht => (hs t ht).2.2.1
end Go.Proofs.YtcchpijadlgagaaDoor
