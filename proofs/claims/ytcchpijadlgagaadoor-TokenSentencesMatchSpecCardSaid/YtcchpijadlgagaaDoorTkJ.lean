/- What a list of words is joined to: plain law. -/
import Derived.Test.YtcchpijadlgagaaDoorTkK
namespace Go.Proofs.YtcchpijadlgagaaDoor
open Go.RowKit Gm
set_option linter.unusedSimpArgs false
set_option linter.unusedVariables false
/-- One token is all of the points. -/
def oneB (ps : List Int) : Bool := decide (0 < ps.length) && (decide (cl ps 0 ≠ 5) && decide (tokJ ps 0 = ps.length))
theorem sl_all (ps : List Int) : sl ps 0 ps.length = ps := by unfold sl; simp
theorem cl_rng (p : Int) : clsP p = 1 ∨ clsP p = 2 ∨ clsP p = 3 ∨ clsP p = 4 ∨ clsP p = 5 ∨ clsP p = 6 := by
  unfold clsP
  (repeat' split) <;> simp
theorem one_word {ps : List Int} (h0 : 0 < ps.length) (h2 : cl ps 0 = 2) : wordB ps = decide (tokJ ps 0 = ps.length) := by
  have hJ : tokJ ps 0 = wEnd ps (ps.length + 1) 1 := by unfold tokJ; rw [if_pos h2]
  obtain ⟨h3, h4⟩ := wEnd_spec ps (ps.length + 1) 1 (by omega)
  have hb := wEnd_bd ps (ps.length + 1) 1 h0
  rw [hJ]
  have e : wordB ps = true ↔ wEnd ps (ps.length + 1) 1 = ps.length := by
    unfold wordB
    simp only [Bool.and_eq_true, decide_eq_true_eq, h2, h0, true_and]
    rw [wAll_iff _ _ (by omega)]
    constructor
    · intro h
      by_cases he : wEnd ps (ps.length + 1) 1 = ps.length
      · exact he
      · have := h (wEnd ps (ps.length + 1) 1) (by omega) (by omega)
        rw [h4] at this; cases this
    · intro h x _ hx
      by_cases hx0 : x = 0
      · subst hx0; unfold wOK insB; simp [h0, h2]
      · exact h3 x (by omega) (by omega)
  by_cases h : wEnd ps (ps.length + 1) 1 = ps.length
  · rw [e.2 h]; simp [h]
  · cases hw : wordB ps
    · simp [h]
    · exact absurd (e.1 hw) h
theorem cls_44' {ps : List Int} {x : Nat} (h : ps.getD x 0 = 44 ∨ ps.getD x 0 = 46) : cl ps x ≠ 4 := by
  unfold cl
  rcases h with h | h
  · rw [h, cls_44]; decide
  · rw [h, cls_46]; decide
theorem one_num {ps : List Int} (h0 : 0 < ps.length) (h4 : cl ps 0 = 4) : numB ps = decide (tokJ ps 0 = ps.length) := by
  have hJ : tokJ ps 0 = nEnd ps (ps.length + 1) 1 := by unfold tokJ; rw [if_neg (by rw [h4]; decide), if_pos h4]
  obtain ⟨h3, h5⟩ := nEnd_spec ps (ps.length + 1) 1 (by omega)
  have hb := nEnd_bd ps (ps.length + 1) 1 h0
  rw [hJ]
  have e : numB ps = true ↔ nEnd ps (ps.length + 1) 1 = ps.length := by
    unfold numB
    simp only [Bool.and_eq_true, decide_eq_true_eq, h0, true_and]
    rw [nAll_iff _ _ (by omega)]
    constructor
    · intro h
      by_cases he : nEnd ps (ps.length + 1) 1 = ps.length
      · exact he
      · have h6 := (nOK2_iff _ _).1 (h (nEnd ps (ps.length + 1) 1) (by omega) (by omega))
        have h7 : nOK ps (nEnd ps (ps.length + 1) 1) = true := by
          rw [nOK_iff]
          rcases h6 with h6 | h6
          · exact Or.inl ⟨by omega, h6⟩
          · exact Or.inr ⟨by omega, h6.1.symm, h6.2.2.1, h6.2.2.2.2⟩
        rw [h5] at h7; cases h7
    · intro h x _ hx
      rw [nOK2_iff]
      by_cases hx4 : cl ps x = 4
      · exact Or.inl hx4
      · right
        have hx0 : x ≠ 0 := by intro e; subst e; exact hx4 h4
        rcases (nOK_iff _ _).1 (h3 x (by omega) (by omega)) with h6 | ⟨_, h6, h7, h8⟩
        · exact absurd h6.2 hx4
        · refine ⟨h6.symm, by omega, h7, ?_, h8⟩
          by_cases hx1 : x = 1
          · subst hx1; exact h4
          · rcases (nOK_iff _ _).1 (h3 (x - 1) (by omega) (by omega)) with h9 | ⟨_, _, _, h9⟩
            · exact h9.2
            · rw [show x - 1 + 1 = x by omega] at h9
              exact absurd h9 hx4
  by_cases h : nEnd ps (ps.length + 1) 1 = ps.length
  · rw [e.2 h]; simp [h]
  · cases hw : numB ps
    · simp [h]
    · exact absurd (e.1 hw) h
theorem not_word {ps : List Int} (h2 : cl ps 0 ≠ 2) : wordB ps = false := by unfold wordB; simp [h2]
theorem not_num {ps : List Int} (h4 : cl ps 0 ≠ 4) : numB ps = false := by
  cases h : numB ps
  · rfl
  · unfold numB at h
    simp only [Bool.and_eq_true, decide_eq_true_eq] at h
    have h1 := (nAll_iff _ _ (by omega)).1 h.2 0 (Nat.le_refl _) h.1
    rw [nOK2_iff] at h1
    rcases h1 with h1 | h1
    · exact absurd h1 h4
    · omega
/-- The reference's test of a word. -/
theorem oneB_ref (ps : List Int) : oneB ps = ((decide (ps.length = 1) && decide (cl ps 0 = 6)) || (decide (ps.length = 1) && (decide (cl ps 0 = 1) || decide (cl ps 0 = 3))) || wordB ps || numB ps) := by
  unfold oneB
  by_cases h0 : 0 < ps.length
  · have hr := cl_rng (ps.getD 0 0)
    have hr : cl ps 0 = 1 ∨ cl ps 0 = 2 ∨ cl ps 0 = 3 ∨ cl ps 0 = 4 ∨ cl ps 0 = 5 ∨ cl ps 0 = 6 := hr
    rcases hr with hc | hc | hc | hc | hc | hc
    · rw [not_word (by rw [hc]; decide), not_num (by rw [hc]; decide)]
      unfold tokJ
      by_cases h1 : ps.length = 1 <;> simp [hc, h0, h1, eq_comm]
    · rw [one_word h0 hc, not_num (by rw [hc]; decide)]
      simp [hc, h0]
    · rw [not_word (by rw [hc]; decide), not_num (by rw [hc]; decide)]
      unfold tokJ
      by_cases h1 : ps.length = 1 <;> simp [hc, h0, h1, eq_comm]
    · rw [one_num h0 hc, not_word (by rw [hc]; decide)]
      simp [hc, h0]
    · rw [not_word (by rw [hc]; decide), not_num (by rw [hc]; decide)]
      simp [hc, h0]
    · rw [not_word (by rw [hc]; decide), not_num (by rw [hc]; decide)]
      unfold tokJ
      by_cases h1 : ps.length = 1 <;> simp [hc, h0, h1, eq_comm]
  · have : ps.length = 0 := by omega
    have e : ps = [] := List.eq_nil_of_length_eq_zero this
    subst e
    decide
theorem toks_of {ps : List Int} : ∀ (L : List Tok) (a : Nat), Cov ps a L → ∀ t ∈ L, ∃ i, i < ps.length ∧ cl ps i ≠ 5 ∧ t = tokAt ps i
  | [], _, _, t, ht => by simp at ht
  | u :: L, a, ⟨i, h1, h2, h3, h4, h5, h6⟩, t, ht => by
    rcases List.mem_cons.1 ht with rfl | ht
    · exact ⟨i, h2, h4, h5⟩
    · exact toks_of L _ h6 t ht
/-- One token is all of the points: the list of tokens says so. -/
theorem oneB_toks {ps : List Int} (h : oneB ps = true) : toks ps = [tokAt ps 0] ∧ (tokAt ps 0).t = encL ps := by
  unfold oneB at h
  simp only [Bool.and_eq_true, decide_eq_true_eq] at h
  obtain ⟨h0, h5, hJ⟩ := h
  constructor
  · unfold toks
    rw [toksGo_tok h0 h5, toksGo_end (by omega)]; rfl
  · unfold tokAt sub
    simp only [hJ]; simp
theorem toks_oneB {ps : List Int} {t : Tok} (h : toks ps = [t]) (ht : t.t = encL ps) : oneB ps = true := by
  have hc := toks_cov ps
  rw [h] at hc
  obtain ⟨i, hi, h5, rfl⟩ := toks_of _ _ hc t (by simp)
  have hb := tokJ_bd hi
  have h1 := sub_len ps (Nat.le_of_lt hb.1)
  have h2 : (sub ps i (tokJ ps i)).length = (encL ps).length := congrArg List.length ht
  have h3 := ofs_total ps (tokJ ps i)
  have hi0 : i = 0 := by
    by_cases hz : i = 0
    · exact hz
    · have h6 := ofs_mono ps (show 1 ≤ i by omega)
      have h7 := ofs_push (ps := ps) (i := 0) (by omega)
      have h8 := enc1_pos (ps.getD 0 0)
      rw [Nat.zero_add, ofs_zero] at h7
      omega
  subst hi0
  have hj : tokJ ps 0 = ps.length := by
    by_cases hz : tokJ ps 0 = ps.length
    · exact hz
    · have h6 := ofs_push (ps := ps) (i := tokJ ps 0) (by omega)
      have h8 := enc1_pos (ps.getD (tokJ ps 0) 0)
      have h9 := ofs_total ps (tokJ ps 0 + 1)
      rw [ofs_zero] at h1
      omega
  unfold oneB
  simp [hi, h5, hj]
/-- What Cut says of a word. -/
def okW (w : List UInt8) : Bool := decide ((decR w).1 = (0, 0)) && oneB (decR w).2
theorem cutR_ok {w : List UInt8} (h : okW w = true) : ∃ t, cutR w = ((0, 0), [t]) ∧ t.t = w ∧ t.k = tokK (decR w).2 0 := by
  unfold okW at h
  simp only [Bool.and_eq_true, decide_eq_true_eq] at h
  obtain ⟨h1, h2⟩ := h
  obtain ⟨h3, h4⟩ := oneB_toks h2
  have hd : decR w = ((0, 0), (decR w).2) := Prod.ext h1 rfl
  obtain ⟨_, h5, _⟩ := decR_ok hd
  refine ⟨tokAt (decR w).2 0, ?_, h4.trans h5.symm, rfl⟩
  unfold cutR
  rw [if_pos h1, h3]; rfl
theorem cutR_no {w : List UInt8} (h : okW w = false) : (cutR w).1 ≠ (0, 0) ∨ (cutR w).2.length ≠ 1 ∨ ∃ t, cutR w = ((0, 0), [t]) ∧ t.t ≠ w := by
  unfold cutR
  by_cases h1 : (decR w).1 = (0, 0)
  · rw [if_pos h1]
    have hd : decR w = ((0, 0), (decR w).2) := Prod.ext h1 rfl
    obtain ⟨_, h5, _⟩ := decR_ok hd
    unfold cutB
    by_cases h3 : 300 < (toks (decR w).2).length
    · rw [if_pos h3]; left; simp
    · rw [if_neg h3]
      by_cases hl : (toks (decR w).2).length = 1
      · obtain ⟨t, ht⟩ := List.length_eq_one_iff.1 hl
        right; right
        refine ⟨t, by rw [ht], fun e => ?_⟩
        have := toks_oneB ht (e.trans h5)
        unfold okW at h
        rw [this] at h
        simp [h1] at h
      · right; left; exact hl
  · rw [if_neg h1]; left; exact h1
theorem cutR_one (w : List UInt8) : (cutR w).1.1 = 1 ↔ 4000 < w.length := by
  unfold cutR
  by_cases h1 : (decR w).1 = (0, 0)
  · have hd : decR w = ((0, 0), (decR w).2) := Prod.ext h1 rfl
    obtain ⟨_, _, h6⟩ := decR_ok hd
    rw [if_pos h1]
    unfold cutB
    split <;> simp <;> omega
  · rw [if_neg h1]
    unfold decR at h1 ⊢
    by_cases h4 : 4000 < w.length
    · rw [if_pos h4]; simp [h4]
    · rw [if_neg h4] at h1 ⊢
      rcases decGo_code (l := w) (w.length + 1) 0 [] with h7 | h7
      · exact absurd h7 h1
      · rw [h7.1]; simp [h4]
theorem okW_le {w : List UInt8} (h : okW w = true) : w.length ≤ 4000 := by
  unfold okW at h
  simp only [Bool.and_eq_true, decide_eq_true_eq] at h
  exact (decR_ok (Prod.ext h.1 rfl : decR w = ((0, 0), (decR w).2))).2.2
/-- The fault of a word; does it stand without a space before it. -/
def jF (w : List UInt8) : Int := if 4000 < w.length then 1 else if okW w = true then 0 else 5
def jS (w : List UInt8) : Bool := decide (cl (decR w).2 0 = 6)
theorem tokK_stop (ps : List Int) : tokK ps 0 = 3 ↔ cl ps 0 = 6 := by
  unfold tokK
  (repeat' split) <;> simp_all
def jP (k : Nat) (w : List UInt8) : List (List UInt8) := if (decide (0 < k) && !jS w) = true then [[32], w] else [w]
/-- All words from word k on; f: so many rounds at the most. -/
def jGo (ws : List (List UInt8)) : Nat → Nat → List (List UInt8) → (Int × Int) × List (List UInt8)
  | 0, _, acc => ((0, 0), acc)
  | f + 1, k, acc => if k < ws.length then (if jF (ws.getD k []) = 0 then jGo ws f (k + 1) (acc ++ jP k (ws.getD k [])) else ((jF (ws.getD k []), (k : Int)), [])) else ((0, 0), acc)
def jB (l : List UInt8) : (Int × Int) × List UInt8 := if 4000 < l.length then ((1, -1), []) else ((0, 0), l)
/-- What Join returns. -/
def joinR (ws : List (List UInt8)) : (Int × Int) × List UInt8 :=
  if 300 < ws.length then ((2, -1), []) else if (jGo ws (ws.length + 1) 0 []).1 = (0, 0) then jB (jGo ws (ws.length + 1) 0 []).2.flatten else ((jGo ws (ws.length + 1) 0 []).1, [])
theorem jGo_end {ws : List (List UInt8)} {f k : Nat} {acc : List (List UInt8)} (h : ¬ k < ws.length) : jGo ws f k acc = ((0, 0), acc) := by
  cases f with
  | zero => rfl
  | succ f => rw [jGo, if_neg h]
theorem jGo_ok {ws : List (List UInt8)} {f k : Nat} {acc : List (List UInt8)} (h : k < ws.length) (h2 : jF (ws.getD k []) = 0) : jGo ws (f + 1) k acc = jGo ws f (k + 1) (acc ++ jP k (ws.getD k [])) := by
  rw [jGo, if_pos h, if_pos h2]
theorem jGo_bad {ws : List (List UInt8)} {f k : Nat} {acc : List (List UInt8)} (h : k < ws.length) (h2 : jF (ws.getD k []) ≠ 0) : jGo ws (f + 1) k acc = ((jF (ws.getD k []), (k : Int)), []) := by
  rw [jGo, if_pos h, if_neg h2]
theorem jF_ok {w : List UInt8} : jF w = 0 ↔ okW w = true := by
  unfold jF
  split
  · rename_i h
    constructor
    · intro h2; cases h2
    · intro h2; have := okW_le h2; omega
  · split <;> simp_all
theorem jGo_good {ws : List (List UInt8)} : ∀ (f k : Nat) (acc : List (List UInt8)), ((jGo ws f k acc).1 = (0, 0) ∧ acc.flatten.length ≤ (jGo ws f k acc).2.flatten.length) ∨ ((jGo ws f k acc).1.1 ≠ 0)
  | 0, k, acc => Or.inl ⟨rfl, Nat.le_refl _⟩
  | f + 1, k, acc => by
    by_cases h : k < ws.length
    · by_cases h2 : jF (ws.getD k []) = 0
      · rw [jGo_ok h h2]
        rcases jGo_good (ws := ws) f (k + 1) (acc ++ jP k (ws.getD k [])) with ⟨h3, h4⟩ | h3
        · rw [List.flatten_append, List.length_append] at h4
          exact Or.inl ⟨h3, by omega⟩
        · exact Or.inr h3
      · rw [jGo_bad h h2]; exact Or.inr h2
    · rw [jGo_end h]; exact Or.inl ⟨rfl, Nat.le_refl _⟩
end Go.Proofs.YtcchpijadlgagaaDoor
