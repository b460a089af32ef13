/- The machine of one pair is valid and has just that pair: plain law. No program in sight. -/
import Derived.Test.YtpahodbnljpnnaaLiD
import Derived.Test.YtpahodbnljpnnaaUnP
import Derived.Test.YtpahodbnljpnnaaWtX
import Derived.Test.YtpahodbnljpnnaaSrP
namespace Gm
set_option linter.unusedSimpArgs false
set_option linter.unusedVariables false
theorem lit_sorted (lu lo : List Int) (n : Nat) : (litArcs lu lo n).Pairwise fun a b => arcLess a b = true := by
  induction n with
  | zero => exact .nil
  | succ n ih =>
    rw [litArcs_succ]
    refine List.pairwise_append.2 ⟨ih, by simp, ?_⟩
    intro x hx y hy
    rw [List.mem_singleton.1 hy]
    unfold litArcs at hx
    obtain ⟨k, hk, rfl⟩ := List.mem_map.1 hx
    have := List.mem_range.1 hk
    unfold arcLess
    simp only [arcKey, litArc, lessL]
    rw [if_neg (by omega)]
    exact decide_eq_true (by omega)
theorem lit_srt (lu lo : List Int) (n : Nat) : srtA (litArcs lu lo n) = litArcs lu lo n := (srtA_eq ((lit_sorted lu lo n).imp fun h => arcLess_asymm h) (List.Perm.refl _)).symm
theorem litN_le {lu lo : List Int} : lu.length ≤ litN lu lo ∧ lo.length ≤ litN lu lo ∧ (litN lu lo = lu.length ∨ litN lu lo = lo.length) := by
  unfold litN; split <;> omega
theorem word_lab {l : List Int} {ix : Int} (h : wordF l ix = (0, 0)) : l.length ≤ 30 ∧ ∀ k, 0 ≤ l.getD k 0 ∧ l.getD k 0 ≤ 1114111 ∧ (k < l.length → l.getD k 0 ≠ 0) ∧ l.take (k + 1) = l.take k ++ lab (l.getD k 0) := by
  obtain ⟨_, h1, h2⟩ := wordF_zero (show (wordF l ix).1 = 0 by rw [h])
  refine ⟨h1, fun k => ?_⟩
  by_cases hk : k < l.length
  · have hm : l.getD k 0 ∈ l := by simp [List.getD, hk]
    obtain ⟨g1, g2⟩ := h2 _ hm
    refine ⟨by omega, g2, fun _ => by omega, ?_⟩
    rw [take_snoc hk rfl]
    unfold lab
    rw [if_neg (by omega)]
  · have e : l.getD k 0 = 0 := by simp [List.getD, List.getElem?_eq_none (show l.length ≤ k by omega)]
    refine ⟨by omega, by omega, fun h => absurd h hk, ?_⟩
    rw [e, lab_zero, List.append_nil, List.take_of_length_le (by omega), List.take_of_length_le (by omega)]
theorem lit_valid {lu lo : List Int} {wt ix jx : Int} (hu : wordF lu ix = (0, 0)) (ho : wordF lo jx = (0, 0)) (h0 : 0 ≤ wt) (h1 : wt ≤ 1000000) : Valid (litM lu lo wt) := by
  obtain ⟨u1, u2⟩ := word_lab hu
  obtain ⟨o1, o2⟩ := word_lab ho
  have hN := litN_le (lu := lu) (lo := lo)
  have hv : Valid ⟨(litN lu lo : Int) + 1, srtA (litArcs lu lo (litN lu lo)), [⟨(litN lu lo : Int), wt⟩]⟩ := by
    refine valid_srt ?_ ⟨by omega, by omega⟩ (by rw [litArcs_len]; omega) (fun x hx => ?_) (fun x hx => ?_) (by simp)
    · exact (lit_sorted lu lo _).imp fun {a b} h e => by subst e; rw [arcLess_irrefl] at h; cases h
    · unfold litArcs at hx
      obtain ⟨k, hk, rfl⟩ := List.mem_map.1 hx
      have := List.mem_range.1 hk
      obtain ⟨g1, g2, _⟩ := u2 k
      obtain ⟨f1, f2, _⟩ := o2 k
      exact okArc_t (by simp only [litArc]; omega)
    · rw [List.mem_singleton.1 hx]
      exact okFin_t (by simp only; omega)
  rw [lit_srt] at hv
  exact hv
theorem lit_pw {lu lo : List Int} {ix jx : Int} (hu : wordF lu ix = (0, 0)) (ho : wordF lo jx = (0, 0)) {N : Nat} {t : Int} {u v : List Int} {d : Nat} (h : Pw (litArcs lu lo N) 0 t u v d) : ∃ k : Nat, t = (k : Int) ∧ u = lu.take k ∧ v = lo.take k ∧ d = 0 := by
  obtain ⟨u1, u2⟩ := word_lab hu
  obtain ⟨o1, o2⟩ := word_lab ho
  induction h with
  | nil => exact ⟨0, rfl, rfl, rfl, rfl⟩
  | @snoc t u v d a hp ha hf ih =>
    obtain ⟨k, rfl, rfl, rfl, rfl⟩ := ih
    unfold litArcs at ha
    obtain ⟨q, hq, rfl⟩ := List.mem_map.1 ha
    simp only [litArc] at hf ⊢
    have : q = k := by omega
    subst this
    exact ⟨q + 1, by omega, ((u2 q).2.2.2).symm, ((o2 q).2.2.2).symm, rfl⟩
theorem lit_wp {lu lo : List Int} {ix jx : Int} (hu : wordF lu ix = (0, 0)) (ho : wordF lo jx = (0, 0)) {N : Nat} : ∀ k : Nat, k ≤ N → Pw (litArcs lu lo N) 0 (k : Int) (lu.take k) (lo.take k) 0 := by
  obtain ⟨u1, u2⟩ := word_lab hu
  obtain ⟨o1, o2⟩ := word_lab ho
  intro k
  induction k with
  | zero => intro _; exact .nil
  | succ k ih =>
    intro hk
    have hm : litArc lu lo k ∈ litArcs lu lo N := List.mem_map.2 ⟨k, List.mem_range.2 (by omega), rfl⟩
    exact (Pw.snoc (ih (by omega)) hm rfl).cast (by simp [litArc]) ((u2 k).2.2.2).symm ((o2 k).2.2.2).symm rfl
theorem lit_wgt {lu lo : List Int} {wt ix jx : Int} (hu : wordF lu ix = (0, 0)) (ho : wordF lo jx = (0, 0)) (h0 : 0 ≤ wt) (h1 : wt ≤ 1000000) : wgt (litM lu lo wt) lu lo = wt := by
  have hV := lit_valid hu ho h0 h1
  have hN := litN_le (lu := lu) (lo := lo)
  have hA : ∀ d, Acc (litM lu lo wt) lu lo d ↔ d = wt.toNat := fun d => by
    rw [(rng_valid hV).acc]
    constructor
    · rintro ⟨_, x, hx, e, hp, rfl⟩
      rw [List.mem_singleton.1 hx] at hp ⊢
      obtain ⟨k, _, _, _, rfl⟩ := lit_pw hu ho hp
      simp
    · rintro rfl
      refine ⟨by simp only [litM]; omega, ⟨(litN lu lo : Int), wt⟩, by simp [litM], 0, ?_, by simp⟩
      refine (lit_wp hu ho (litN lu lo) (Nat.le_refl _)).cast rfl ?_ ?_ rfl
      · exact List.take_of_length_le hN.1
      · exact List.take_of_length_le hN.2.1
  refine wgt_eq (.inr ⟨wt.toNat, by omega, (hA _).2 rfl, fun d hd => by rw [(hA d).1 hd]; exact Nat.le_refl _⟩)
/-- What machine.Weight says of the machine of one pair. -/
theorem lit_W {lu lo : List Int} {wt : Int} (h : litF lu lo wt = (0, 0)) : wF (litM lu lo wt) lu lo = (0, 0) ∧ wW (litM lu lo wt) lu lo = wt ∧ wB (litM lu lo wt) lu lo = true := by
  unfold litF at h
  by_cases hu : wordF lu (-1) = (0, 0)
  · rw [if_pos hu] at h
    by_cases ho : wordF lo (-2) = (0, 0)
    · rw [if_pos ho] at h
      by_cases hw : 0 ≤ wt ∧ wt ≤ 1000000
      · have hz : wF (litM lu lo wt) lu lo = (0, 0) := by
          unfold wF
          rw [if_pos (validate_of (lit_valid hu ho hw.1 hw.2)), if_pos (wordF_ix hu _), wordF_ix ho _]
        have hg := lit_wgt hu ho hw.1 hw.2
        refine ⟨hz, ?_, ?_⟩
        · unfold wW; rw [if_pos hz, hg]; omega
        · unfold wB; rw [hz, hg]; simp [hw.1]
      · rw [if_neg hw] at h; cases h
    · rw [if_neg ho] at h; exact absurd h ho
  · rw [if_neg hu] at h; exact absurd h hu
end Gm
