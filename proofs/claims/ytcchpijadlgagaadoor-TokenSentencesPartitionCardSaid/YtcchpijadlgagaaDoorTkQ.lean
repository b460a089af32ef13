/- The longest word or number at a place is what the greedy scan finds: plain law. -/
import Derived.Test.YtcchpijadlgagaaDoorTkR2
namespace Go.Proofs.YtcchpijadlgagaaDoor
open Go.RowKit Gm
set_option linter.unusedSimpArgs false
set_option linter.unusedVariables false
def sl (ps : List Int) (i j : Nat) : List Int := (ps.take j).drop i
theorem sl_len {ps : List Int} {i j : Nat} (hj : j ≤ ps.length) : (sl ps i j).length = j - i := by unfold sl; simp; omega
theorem sl_at {ps : List Int} {i j k : Nat} (h : i + k < j) : (sl ps i j).getD k 0 = ps.getD (i + k) 0 := by
  unfold sl
  simp [List.getD, List.getElem?_drop, List.getElem?_take, h]
theorem sl_cl {ps : List Int} {i j k : Nat} (h : i + k < j) : cl (sl ps i j) k = cl ps (i + k) := by unfold cl; rw [sl_at h]
theorem wAll_iff {l : List Int} : ∀ (m k : Nat), l.length < m + k → (wAll l m k = true ↔ ∀ x, k ≤ x → x < l.length → wOK l x = true)
  | 0, k, h => by
    constructor
    · intro _ x hx hx2; omega
    · intro _; rfl
  | m + 1, k, h => by
    unfold wAll
    by_cases hk : k < l.length
    · rw [if_pos hk]
      by_cases hw : wOK l k = true
      · rw [if_pos hw, wAll_iff m (k + 1) (by omega)]
        constructor
        · intro H x hx hx2
          rcases Nat.eq_or_lt_of_le hx with rfl | h1
          · exact hw
          · exact H x h1 hx2
        · intro H x hx hx2; exact H x (by omega) hx2
      · rw [if_neg hw]
        constructor
        · intro H; cases H
        · intro H; exact absurd (H k (Nat.le_refl _) hk) hw
    · rw [if_neg hk]
      constructor
      · intro _ x hx hx2; omega
      · intro _; rfl
theorem nAll_iff {l : List Int} : ∀ (m k : Nat), l.length < m + k → (nAll l m k = true ↔ ∀ x, k ≤ x → x < l.length → nOK2 l x = true)
  | 0, k, h => by
    constructor
    · intro _ x hx hx2; omega
    · intro _; rfl
  | m + 1, k, h => by
    unfold nAll
    by_cases hk : k < l.length
    · rw [if_pos hk]
      by_cases hw : nOK2 l k = true
      · rw [if_pos hw, nAll_iff m (k + 1) (by omega)]
        constructor
        · intro H x hx hx2
          rcases Nat.eq_or_lt_of_le hx with rfl | h1
          · exact hw
          · exact H x h1 hx2
        · intro H x hx hx2; exact H x (by omega) hx2
      · rw [if_neg hw]
        constructor
        · intro H; cases H
        · intro H; exact absurd (H k (Nat.le_refl _) hk) hw
    · rw [if_neg hk]
      constructor
      · intro _ x hx hx2; omega
      · intro _; rfl
theorem wOK_iff (l : List Int) (k : Nat) : wOK l k = true ↔ (k < l.length ∧ (cl l k = 2 ∨ cl l k = 3)) ∨ (k + 1 < l.length ∧ (l.getD k 0 = 45 ∨ l.getD k 0 = 39) ∧ cl l (k + 1) = 2) := by
  unfold wOK insB
  simp only [Bool.or_eq_true, Bool.and_eq_true, decide_eq_true_eq]
  constructor
  · rintro (h | ⟨⟨h1, h2⟩, h3⟩)
    · exact .inl h
    · exact .inr ⟨h1, h2, h3⟩
  · rintro (h | ⟨h1, h2, h3⟩)
    · exact .inl h
    · exact .inr ⟨⟨h1, h2⟩, h3⟩
theorem nOK_iff (l : List Int) (k : Nat) : nOK l k = true ↔ (k < l.length ∧ cl l k = 4) ∨ (k < l.length ∧ (l.getD k 0 = 46 ∨ l.getD k 0 = 44) ∧ k + 1 < l.length ∧ cl l (k + 1) = 4) := by
  unfold nOK digB
  simp only [Bool.or_eq_true, Bool.and_eq_true, decide_eq_true_eq]
  constructor
  · rintro (h | ⟨⟨h1, h2⟩, h3, h4⟩)
    · exact .inl h
    · exact .inr ⟨h1, h2, h3, h4⟩
  · rintro (h | ⟨h1, h2, h3, h4⟩)
    · exact .inl h
    · exact .inr ⟨⟨h1, h2⟩, h3, h4⟩
theorem nOK2_iff (l : List Int) (k : Nat) : nOK2 l k = true ↔ cl l k = 4 ∨ ((l.getD k 0 = 44 ∨ l.getD k 0 = 46) ∧ 0 < k ∧ k + 1 < l.length ∧ cl l (k - 1) = 4 ∧ cl l (k + 1) = 4) := by
  unfold nOK2
  simp only [Bool.or_eq_true, Bool.and_eq_true, decide_eq_true_eq]
  constructor
  · rintro (h | ⟨⟨⟨⟨h1, h2⟩, h3⟩, h4⟩, h5⟩)
    · exact .inl h
    · exact .inr ⟨h1, h2, h3, h4, h5⟩
  · rintro (h | ⟨h1, h2, h3, h4, h5⟩)
    · exact .inl h
    · exact .inr ⟨⟨⟨⟨h1, h2⟩, h3⟩, h4⟩, h5⟩
theorem wordB_sl {ps : List Int} {i j : Nat} (hij : i < j) (hj : j ≤ ps.length) : wordB (sl ps i j) = true ↔ cl ps i = 2 ∧ ∀ x, i ≤ x → x < j → (cl ps x = 2 ∨ cl ps x = 3) ∨ (x + 1 < j ∧ (ps.getD x 0 = 45 ∨ ps.getD x 0 = 39) ∧ cl ps (x + 1) = 2) := by
  have hl := sl_len (i := i) hj
  unfold wordB
  simp only [Bool.and_eq_true, decide_eq_true_eq]
  rw [wAll_iff _ _ (by omega), hl, sl_cl (by omega : i + 0 < j), Nat.add_zero]
  constructor
  · rintro ⟨⟨_, h1⟩, h2⟩
    refine ⟨h1, fun x hx hxj => ?_⟩
    have h3 := (wOK_iff _ _).1 (h2 (x - i) (Nat.zero_le _) (by omega))
    rw [hl] at h3
    have e : i + (x - i) = x := by omega
    rw [sl_cl (by omega), sl_at (by omega), e] at h3
    rcases h3 with ⟨_, h3⟩ | ⟨h3, h4, h5⟩
    · exact .inl h3
    · rw [sl_cl (by omega), show i + (x - i + 1) = x + 1 by omega] at h5
      exact .inr ⟨by omega, h4, h5⟩
  · rintro ⟨h1, h2⟩
    refine ⟨⟨by omega, h1⟩, fun x _ hx => ?_⟩
    rw [wOK_iff, hl, sl_cl (by omega), sl_at (by omega)]
    rcases h2 (i + x) (by omega) (by omega) with h3 | ⟨h3, h4, h5⟩
    · exact .inl ⟨hx, h3⟩
    · refine .inr ⟨by omega, h4, ?_⟩
      rw [sl_cl (by omega)]; exact h5
theorem numB_sl {ps : List Int} {i j : Nat} (hij : i < j) (hj : j ≤ ps.length) : numB (sl ps i j) = true ↔ ∀ x, i ≤ x → x < j → cl ps x = 4 ∨ ((ps.getD x 0 = 44 ∨ ps.getD x 0 = 46) ∧ i < x ∧ x + 1 < j ∧ cl ps (x - 1) = 4 ∧ cl ps (x + 1) = 4) := by
  have hl := sl_len (i := i) hj
  unfold numB
  simp only [Bool.and_eq_true, decide_eq_true_eq]
  rw [nAll_iff _ _ (by omega), hl]
  constructor
  · rintro ⟨_, h2⟩ x hx hxj
    have h3 := (nOK2_iff _ _).1 (h2 (x - i) (Nat.zero_le _) (by omega))
    have e : i + (x - i) = x := by omega
    rw [hl, sl_cl (by omega), sl_at (by omega), e] at h3
    rcases h3 with h3 | ⟨h3, h4, h5, h6, h7⟩
    · exact .inl h3
    · rw [sl_cl (by omega), show i + (x - i - 1) = x - 1 by omega] at h6
      rw [sl_cl (by omega), show i + (x - i + 1) = x + 1 by omega] at h7
      exact .inr ⟨h3, by omega, by omega, h6, h7⟩
  · intro h2
    refine ⟨by omega, fun x _ hx => ?_⟩
    rw [nOK2_iff, hl, sl_cl (by omega), sl_at (by omega)]
    rcases h2 (i + x) (by omega) (by omega) with h3 | ⟨h3, h4, h5, h6, h7⟩
    · exact .inl h3
    · refine .inr ⟨h3, by omega, by omega, ?_, ?_⟩
      · rw [sl_cl (by omega), show i + (x - 1) = i + x - 1 by omega]; exact h6
      · rw [sl_cl (by omega)]; exact h7
/-- Behind the greedy scan: all before it is in order, and it is not. -/
theorem wEnd_spec (ps : List Int) : ∀ (f j : Nat), ps.length < f + j → (∀ x, j ≤ x → x < wEnd ps f j → wOK ps x = true) ∧ wOK ps (wEnd ps f j) = false
  | 0, j, h => by
    refine ⟨fun x hx hx2 => by unfold wEnd at hx2; omega, ?_⟩
    cases hw : wOK ps (wEnd ps 0 j) with
    | false => rfl
    | true => have := wOK_lt hw; unfold wEnd at this; omega
  | f + 1, j, h => by
    cases hw : wOK ps j with
    | true =>
      obtain ⟨h1, h2⟩ := wEnd_spec ps f (j + 1) (by omega)
      have e : wEnd ps (f + 1) j = wEnd ps f (j + 1) := by rw [wEnd, if_pos hw]
      rw [e]
      refine ⟨fun x hx hx2 => ?_, h2⟩
      rcases Nat.eq_or_lt_of_le hx with rfl | h3
      · exact hw
      · exact h1 x h3 hx2
    | false => rw [wEnd_no hw]; exact ⟨fun x hx hx2 => by omega, hw⟩
theorem nEnd_spec (ps : List Int) : ∀ (f j : Nat), ps.length < f + j → (∀ x, j ≤ x → x < nEnd ps f j → nOK ps x = true) ∧ nOK ps (nEnd ps f j) = false
  | 0, j, h => by
    refine ⟨fun x hx hx2 => by unfold nEnd at hx2; omega, ?_⟩
    cases hw : nOK ps (nEnd ps 0 j) with
    | false => rfl
    | true => have := nOK_lt hw; unfold nEnd at this; omega
  | f + 1, j, h => by
    cases hw : nOK ps j with
    | true =>
      obtain ⟨h1, h2⟩ := nEnd_spec ps f (j + 1) (by omega)
      have e : nEnd ps (f + 1) j = nEnd ps f (j + 1) := by rw [nEnd, if_pos hw]
      rw [e]
      refine ⟨fun x hx hx2 => ?_, h2⟩
      rcases Nat.eq_or_lt_of_le hx with rfl | h3
      · exact hw
      · exact h1 x h3 hx2
    | false => rw [nEnd_no hw]; exact ⟨fun x hx hx2 => by omega, hw⟩
/-- The reference's search for the longest token at i: what it still finds from j on, with kind K and length N so far. -/
def rb (ps : List Int) (i : Nat) : Nat → Nat → Int → Nat → Int × Nat
  | 0, _, K, N => (K, N)
  | f + 1, j, K, N => if j ≤ ps.length then (if wordB (sl ps i j) = true then rb ps i f (j + 1) 1 (j - i) else if numB (sl ps i j) = true then rb ps i f (j + 1) 2 (j - i) else rb ps i f (j + 1) K N) else (K, N)
theorem rb_none {ps : List Int} {i : Nat} : ∀ (f j : Nat) (K : Int) (N : Nat), (∀ x, j ≤ x → x ≤ ps.length → wordB (sl ps i x) = false ∧ numB (sl ps i x) = false) → rb ps i f j K N = (K, N)
  | 0, _, _, _, _ => rfl
  | f + 1, j, K, N, h => by
    unfold rb
    by_cases hj : j ≤ ps.length
    · obtain ⟨h1, h2⟩ := h j (Nat.le_refl _) hj
      rw [if_pos hj, if_neg (by rw [h1]; simp), if_neg (by rw [h2]; simp)]
      exact rb_none f (j + 1) K N (fun x hx hx2 => h x (by omega) hx2)
    · rw [if_neg hj]
theorem rb_some {ps : List Int} {i J : Nat} {κ : Int} (hJ : J ≤ ps.length) (hgood : (κ = 1 ∧ wordB (sl ps i J) = true) ∨ (κ = 2 ∧ wordB (sl ps i J) = false ∧ numB (sl ps i J) = true))
    (hno : ∀ x, J + 1 ≤ x → x ≤ ps.length → wordB (sl ps i x) = false ∧ numB (sl ps i x) = false) : ∀ (f j : Nat) (K : Int) (N : Nat), j ≤ J → J < f + j → rb ps i f j K N = (κ, J - i)
  | 0, j, K, N, h1, h2 => by omega
  | f + 1, j, K, N, h1, h2 => by
    rcases Nat.eq_or_lt_of_le h1 with rfl | h3
    · unfold rb
      rw [if_pos hJ]
      rcases hgood with ⟨rfl, hw⟩ | ⟨rfl, hw, hn⟩
      · rw [if_pos hw, rb_none f _ _ _ hno]
      · rw [if_neg (by rw [hw]; simp), if_pos hn, rb_none f _ _ _ hno]
    · unfold rb
      rw [if_pos (by omega)]
      split
      · exact rb_some hJ hgood hno f (j + 1) _ _ (by omega) (by omega)
      · split
        · exact rb_some hJ hgood hno f (j + 1) _ _ (by omega) (by omega)
        · exact rb_some hJ hgood hno f (j + 1) _ _ (by omega) (by omega)
theorem cls_45 : clsP 45 = 1 := by decide
theorem cls_39 : clsP 39 = 1 := by decide
theorem cls_44 : clsP 44 = 1 := by decide
theorem cls_46 : clsP 46 = 6 := by decide
theorem rb_tok {ps : List Int} {i : Nat} (hi : i < ps.length) (K0 : Int) (hK : K0 = if cl ps i = 6 then 3 else 4) : rb ps i (ps.length + 1) (i + 1) K0 1 = (tokK ps i, tokJ ps i - i) := by
  by_cases h2 : cl ps i = 2
  · have hk : tokK ps i = 1 := by unfold tokK; rw [if_pos h2]
    have hj : tokJ ps i = wEnd ps (ps.length + 1) (i + 1) := by unfold tokJ; rw [if_pos h2]
    obtain ⟨s1, s2⟩ := wEnd_spec ps (ps.length + 1) (i + 1) (by omega)
    have hb := wEnd_bd ps (ps.length + 1) (i + 1) hi
    rw [hk, hj]
    obtain ⟨J, hJ⟩ : ∃ J, J = wEnd ps (ps.length + 1) (i + 1) := ⟨_, rfl⟩
    rw [← hJ] at s1 s2 hb ⊢
    refine rb_some hb.2 (.inl ⟨rfl, ?_⟩) ?_ _ _ _ _ (by omega) (by omega)
    · rw [wordB_sl (by omega) hb.2]
      refine ⟨h2, fun x hx hxJ => ?_⟩
      rcases Nat.eq_or_lt_of_le hx with rfl | h3
      · exact .inl (.inl h2)
      · rcases (wOK_iff _ _).1 (s1 x h3 hxJ) with ⟨_, h4⟩ | ⟨h4, h5, h6⟩
        · exact .inl h4
        · refine .inr ⟨?_, h5, h6⟩
          rcases Nat.lt_or_ge (x + 1) J with h7 | h7
          · exact h7
          · exfalso
            have e : J = x + 1 := by omega
            have : wOK ps J = true := by rw [wOK_iff]; exact .inl ⟨by omega, .inl (by rw [e]; exact h6)⟩
            rw [s2] at this; cases this
    · intro x hx hxl
      constructor
      · cases hw : wordB (sl ps i x) with
        | false => rfl
        | true =>
          exfalso
          rw [wordB_sl (by omega) hxl] at hw
          have h4 := hw.2 J (by omega) (by omega)
          have : wOK ps J = true := by
            rw [wOK_iff]
            rcases h4 with h4 | ⟨h4, h5, h6⟩
            · exact .inl ⟨by omega, h4⟩
            · exact .inr ⟨by omega, h5, h6⟩
          rw [s2] at this; cases this
      · cases hw : numB (sl ps i x) with
        | false => rfl
        | true =>
          exfalso
          rw [numB_sl (by omega) hxl] at hw
          rcases hw i (Nat.le_refl _) (by omega) with h4 | ⟨_, h5, _⟩
          · rw [h2] at h4; cases h4
          · omega
  · by_cases h4 : cl ps i = 4
    · have hk : tokK ps i = 2 := by unfold tokK; rw [if_neg h2, if_pos h4]
      have hj : tokJ ps i = nEnd ps (ps.length + 1) (i + 1) := by unfold tokJ; rw [if_neg h2, if_pos h4]
      obtain ⟨s1, s2⟩ := nEnd_spec ps (ps.length + 1) (i + 1) (by omega)
      have hb := nEnd_bd ps (ps.length + 1) (i + 1) hi
      rw [hk, hj]
      obtain ⟨J, hJ⟩ : ∃ J, J = nEnd ps (ps.length + 1) (i + 1) := ⟨_, rfl⟩
      rw [← hJ] at s1 s2 hb ⊢
      have hnw : ∀ x, i < x → x ≤ ps.length → wordB (sl ps i x) = false := fun x hx hxl => by
        cases hw : wordB (sl ps i x) with
        | false => rfl
        | true => exfalso; rw [wordB_sl hx hxl] at hw; exact h2 hw.1
      refine rb_some hb.2 (.inr ⟨rfl, hnw J (by omega) hb.2, ?_⟩) ?_ _ _ _ _ (by omega) (by omega)
      · rw [numB_sl (by omega) hb.2]
        intro x hx hxJ
        rcases Nat.eq_or_lt_of_le hx with rfl | h3
        · exact .inl h4
        · rcases (nOK_iff _ _).1 (s1 x h3 hxJ) with ⟨_, h5⟩ | ⟨h5, h6, h7, h8⟩
          · exact .inl h5
          · have hxx : x + 1 < J := by
              rcases Nat.lt_or_ge (x + 1) J with h9 | h9
              · exact h9
              · exfalso
                have e : J = x + 1 := by omega
                have : nOK ps J = true := by rw [nOK_iff]; exact .inl ⟨by omega, by rw [e]; exact h8⟩
                rw [s2] at this; cases this
            refine .inr ⟨h6.elim .inr .inl, h3, hxx, ?_, h8⟩
            rcases Nat.eq_or_lt_of_le (show i ≤ x - 1 by omega) with h9 | h9
            · rw [← h9]; exact h4
            · rcases (nOK_iff _ _).1 (s1 (x - 1) h9 (by omega)) with ⟨_, h10⟩ | ⟨_, h11, _, h13⟩
              · exact h10
              · exfalso
                rw [show x - 1 + 1 = x by omega] at h13
                unfold cl at h13
                rcases h6 with h6 | h6
                · rw [h6, cls_46] at h13; cases h13
                · rw [h6, cls_44] at h13; cases h13
      · intro x hx hxl
        refine ⟨hnw x (by omega) hxl, ?_⟩
        cases hw : numB (sl ps i x) with
        | false => rfl
        | true =>
          exfalso
          rw [numB_sl (by omega) hxl] at hw
          have : nOK ps J = true := by
            rw [nOK_iff]
            rcases hw J (by omega) (by omega) with h5 | ⟨h5, h6, h7, h8, h9⟩
            · exact .inl ⟨by omega, h5⟩
            · exact .inr ⟨by omega, h5.elim .inr .inl, by omega, h9⟩
          rw [s2] at this; cases this
    · have hk : tokK ps i = K0 := by unfold tokK; rw [if_neg h2, if_neg h4, hK]
      have hj : tokJ ps i = i + 1 := by unfold tokJ; rw [if_neg h2, if_neg h4]
      rw [hk, hj, rb_none, show i + 1 - i = 1 by omega]
      intro x hx hxl
      constructor
      · cases hw : wordB (sl ps i x) with
        | false => rfl
        | true => exfalso; rw [wordB_sl (by omega) hxl] at hw; exact h2 hw.1
      · cases hw : numB (sl ps i x) with
        | false => rfl
        | true =>
          exfalso
          rw [numB_sl (by omega) hxl] at hw
          rcases hw i (Nat.le_refl _) (by omega) with h5 | ⟨_, h5, _⟩
          · exact h4 h5
          · omega
end Go.Proofs.YtcchpijadlgagaaDoor
