/- What is joined is cut into the same words: plain law. -/
import Derived.Test.YtcchpijadlgagaaDoorTkJ
namespace Go.Proofs.YtcchpijadlgagaaDoor
open Go.RowKit Gm
set_option linter.unusedSimpArgs false
set_option linter.unusedVariables false
theorem getD_app_l {A B : List Int} {k : Nat} (h : k < A.length) : (A ++ B).getD k 0 = A.getD k 0 := by
  simp [List.getD, List.getElem?_append_left h]
theorem getD_app_r {A B : List Int} {k : Nat} : (A ++ B).getD (A.length + k) 0 = B.getD k 0 := by
  simp [List.getD, List.getElem?_append_right]
/-- What may stand behind a token. -/
def good (B : List Int) : Prop := B = [] ∨ cl B 0 = 5 ∨ (cl B 0 = 6 ∧ (B.length = 1 ∨ cl B 1 ≠ 4))
section
variable {A q B : List Int}
theorem mid_at {k : Nat} (h : k < q.length) : (A ++ (q ++ B)).getD (A.length + k) 0 = q.getD k 0 := by
  rw [getD_app_r, getD_app_l h]
theorem mid_cl {k : Nat} (h : k < q.length) : cl (A ++ (q ++ B)) (A.length + k) = cl q k := by unfold cl; rw [mid_at h]
theorem end_at {k : Nat} : (A ++ (q ++ B)).getD (A.length + q.length + k) 0 = B.getD k 0 := by
  rw [Nat.add_assoc, getD_app_r, getD_app_r]
theorem end_cl {k : Nat} : cl (A ++ (q ++ B)) (A.length + q.length + k) = cl B k := by unfold cl; rw [end_at]
theorem mid_len : (A ++ (q ++ B)).length = A.length + q.length + B.length := by simp; omega
theorem mid_wOK {k : Nat} (h : wOK q k = true) : wOK (A ++ (q ++ B)) (A.length + k) = true := by
  rw [wOK_iff] at h ⊢
  rw [mid_len]
  rcases h with ⟨h1, h2⟩ | ⟨h1, h2, h3⟩
  · left; rw [mid_cl h1]; exact ⟨by omega, h2⟩
  · right; rw [mid_at (by omega), show A.length + k + 1 = A.length + (k + 1) by omega, mid_cl h1]; exact ⟨by omega, h2, h3⟩
theorem mid_nOK {k : Nat} (h : nOK q k = true) : nOK (A ++ (q ++ B)) (A.length + k) = true := by
  rw [nOK_iff] at h ⊢
  rw [mid_len]
  rcases h with ⟨h1, h2⟩ | ⟨h1, h2, h3, h4⟩
  · left; rw [mid_cl h1]; exact ⟨by omega, h2⟩
  · right; rw [mid_at h1, show A.length + k + 1 = A.length + (k + 1) by omega, mid_cl h3]; exact ⟨by omega, h2, by omega, h4⟩
theorem end_wOK (hg : good B) : wOK (A ++ (q ++ B)) (A.length + q.length) = false := by
  cases h : wOK (A ++ (q ++ B)) (A.length + q.length) with
  | false => rfl
  | true =>
    exfalso
    rw [wOK_iff, mid_len] at h
    have e := end_at (A := A) (q := q) (B := B) (k := 0)
    have e' := end_cl (A := A) (q := q) (B := B) (k := 0)
    rw [Nat.add_zero] at e e'
    rw [e, e'] at h
    have hb : B ≠ [] := by rintro rfl; simp at h
    have hc : cl B 0 = 5 ∨ cl B 0 = 6 := by
      rcases hg with h1 | h1 | h1
      · exact absurd h1 hb
      · exact .inl h1
      · exact .inr h1.1
    rcases h with ⟨_, h2⟩ | ⟨_, h2, _⟩
    · omega
    · unfold cl at hc
      rcases h2 with h2 | h2 <;> rw [h2] at hc
      · rw [cls_45] at hc; omega
      · rw [cls_39] at hc; omega
theorem end_nOK (hg : good B) : nOK (A ++ (q ++ B)) (A.length + q.length) = false := by
  cases h : nOK (A ++ (q ++ B)) (A.length + q.length) with
  | false => rfl
  | true =>
    exfalso
    rw [nOK_iff, mid_len] at h
    have e := end_at (A := A) (q := q) (B := B) (k := 0)
    have e' := end_cl (A := A) (q := q) (B := B) (k := 0)
    have e2 := end_cl (A := A) (q := q) (B := B) (k := 1)
    rw [Nat.add_zero] at e e'
    rw [e, e', e2] at h
    have hb : B ≠ [] := by rintro rfl; simp at h
    rcases hg with h1 | h1 | ⟨h1, h3⟩
    · exact absurd h1 hb
    · rcases h with ⟨_, h2⟩ | ⟨_, h2, _⟩
      · omega
      · unfold cl at h1
        rcases h2 with h2 | h2 <;> rw [h2] at h1
        · rw [cls_46] at h1; omega
        · rw [cls_44] at h1; omega
    · rcases h with ⟨_, h2⟩ | ⟨_, h2, h4, h5⟩
      · omega
      · rcases h3 with h3 | h3
        · omega
        · exact h3 h5
theorem scan_uniq {p : Nat → Bool} {a J J' : Nat} (h1 : ∀ x, a ≤ x → x < J → p x = true) (h2 : p J = false) (h3 : ∀ x, a ≤ x → x < J' → p x = true) (h4 : p J' = false) (ha : a ≤ J) (ha' : a ≤ J') : J = J' := by
  rcases Nat.lt_trichotomy J J' with h | h | h
  · have := h3 J ha h; rw [h2] at this; cases this
  · exact h
  · have := h1 J' ha' h; rw [h4] at this; cases this
/-- A token that is all of its points stands as such in a longer text, if a good thing stands behind it. -/
theorem mid_tok (h : oneB q = true) (hg : good B) : A.length < (A ++ (q ++ B)).length ∧ cl (A ++ (q ++ B)) A.length ≠ 5 ∧ tokJ (A ++ (q ++ B)) A.length = A.length + q.length ∧ tokK (A ++ (q ++ B)) A.length = tokK q 0 := by
  unfold oneB at h
  simp only [Bool.and_eq_true, decide_eq_true_eq] at h
  obtain ⟨h0, h5, hJ⟩ := h
  have hc := mid_cl (A := A) (B := B) h0
  rw [Nat.add_zero] at hc
  have hlen := mid_len (A := A) (q := q) (B := B)
  refine ⟨by omega, by rw [hc]; exact h5, ?_, by unfold tokK; rw [hc]⟩
  have hq : (1 : Nat) ≤ q.length := h0
  unfold tokJ at hJ ⊢
  rw [hc]
  by_cases h2 : cl q 0 = 2
  · rw [if_pos h2] at hJ ⊢
    obtain ⟨s1, s2⟩ := wEnd_spec q (q.length + 1) 1 (by omega)
    obtain ⟨t1, t2⟩ := wEnd_spec (A ++ (q ++ B)) ((A ++ (q ++ B)).length + 1) (A.length + 1) (by omega)
    have hb := wEnd_bd (A ++ (q ++ B)) ((A ++ (q ++ B)).length + 1) (A.length + 1) (by omega)
    rw [hJ] at s1
    refine scan_uniq (p := wOK (A ++ (q ++ B))) t1 t2 (fun x hx hx2 => ?_) (end_wOK hg) hb.1 (by omega)
    have := mid_wOK (A := A) (B := B) (s1 (x - A.length) (by omega) (by omega))
    rwa [show A.length + (x - A.length) = x by omega] at this
  · rw [if_neg h2] at hJ ⊢
    by_cases h4 : cl q 0 = 4
    · rw [if_pos h4] at hJ ⊢
      obtain ⟨s1, s2⟩ := nEnd_spec q (q.length + 1) 1 (by omega)
      obtain ⟨t1, t2⟩ := nEnd_spec (A ++ (q ++ B)) ((A ++ (q ++ B)).length + 1) (A.length + 1) (by omega)
      have hb := nEnd_bd (A ++ (q ++ B)) ((A ++ (q ++ B)).length + 1) (A.length + 1) (by omega)
      rw [hJ] at s1
      refine scan_uniq (p := nOK (A ++ (q ++ B))) t1 t2 (fun x hx hx2 => ?_) (end_nOK hg) hb.1 (by omega)
      have := mid_nOK (A := A) (B := B) (s1 (x - A.length) (by omega) (by omega))
      rwa [show A.length + (x - A.length) = x by omega] at this
    · rw [if_neg h4] at hJ ⊢
      omega
theorem mid_sub : sub (A ++ (q ++ B)) A.length (A.length + q.length) = encL q := by
  unfold sub
  rw [show A ++ (q ++ B) = (A ++ q) ++ B by simp, show A.length + q.length = (A ++ q).length by simp, List.take_left, List.drop_left]
end
/-- The points of the words behind the first one. -/
def rst : List (List Int) → List Int
  | [] => []
  | q :: l => (if cl q 0 = 6 then q else 32 :: q) ++ rst l
theorem rst_cons (q : List Int) (l : List (List Int)) : rst (q :: l) = (if cl q 0 = 6 then q else 32 :: q) ++ rst l := rfl
theorem one_stop {q : List Int} (h : oneB q = true) (h6 : cl q 0 = 6) : q.length = 1 := by
  unfold oneB at h
  simp only [Bool.and_eq_true, decide_eq_true_eq] at h
  obtain ⟨h0, h5, hJ⟩ := h
  unfold tokJ at hJ
  rw [if_neg (by omega), if_neg (by omega)] at hJ
  omega
theorem cl_32 (l : List Int) : cl (32 :: l) 0 = 5 := by
  unfold cl
  show clsP 32 = 5
  decide
theorem cl_cons_app {q B : List Int} (h : 0 < q.length) : cl (q ++ B) 0 = cl q 0 := by unfold cl; rw [getD_app_l h]
theorem rst_head : ∀ (l : List (List Int)), (∀ q ∈ l, oneB q = true) → rst l = [] ∨ cl (rst l) 0 = 5 ∨ cl (rst l) 0 = 6
  | [], _ => .inl rfl
  | q :: l, h => by
    have hq := h q (by simp)
    have h0 : 0 < q.length := by
      unfold oneB at hq
      simp only [Bool.and_eq_true, decide_eq_true_eq] at hq
      exact hq.1
    right
    unfold rst
    by_cases h6 : cl q 0 = 6
    · right; rw [if_pos h6, cl_cons_app h0]; exact h6
    · left; rw [if_neg h6, List.cons_append, cl_32]
theorem rst_good (l : List (List Int)) (h : ∀ q ∈ l, oneB q = true) : good (rst l) := by
  cases l with
  | nil => exact .inl rfl
  | cons q l =>
    have hq := h q (by simp)
    have h0 : 0 < q.length := by
      have hq' := hq
      unfold oneB at hq'
      simp only [Bool.and_eq_true, decide_eq_true_eq] at hq'
      exact hq'.1
    right
    unfold rst
    by_cases h6 : cl q 0 = 6
    · right
      rw [if_pos h6, cl_cons_app h0]
      refine ⟨h6, ?_⟩
      have h1 := one_stop hq h6
      have e : cl (q ++ rst l) 1 = cl (rst l) 0 := by
        unfold cl
        have := getD_app_r (A := q) (B := rst l) (k := 0)
        rw [h1] at this
        exact congrArg clsP this
      rcases rst_head l (fun q hq => h q (by simp [hq])) with h2 | h2 | h2
      · left; rw [h2]; simpa using h1
      · right; rw [e, h2]; decide
      · right; rw [e, h2]; decide
    · left; rw [if_neg h6, List.cons_append, cl_32]
theorem tok_t {A q B : List Int} (h : oneB q = true) (hg : good B) : (tokAt (A ++ (q ++ B)) A.length).t = encL q ∧ (tokAt (A ++ (q ++ B)) A.length).k = tokK q 0 := by
  obtain ⟨_, _, h3, h4⟩ := mid_tok (A := A) h hg
  unfold tokAt
  simp only [h3, h4, mid_sub, and_self]
/-- The words behind the first one are cut. -/
theorem toks_rst : ∀ (l : List (List Int)) (A : List Int) (f : Nat) (acc : List Tok), (∀ q ∈ l, oneB q = true) → (A ++ rst l).length < f + A.length →
    ∃ L, toksGo (A ++ rst l) f A.length acc = acc ++ L ∧ L.map (·.t) = l.map encL ∧ L.map (·.k) = l.map (tokK · 0)
  | [], A, f, acc, _, _ => ⟨[], by rw [toksGo_end (by simp [rst])]; simp, rfl, rfl⟩
  | q :: l, A, f, acc, h, hf => by
    have hq := h q (by simp)
    have hl : ∀ q ∈ l, oneB q = true := fun q hq => h q (by simp [hq])
    have hg := rst_good l hl
    have key : ∀ (A : List Int) (f : Nat), (A ++ (q ++ rst l)).length < f + A.length → ∃ L, toksGo (A ++ (q ++ rst l)) f A.length acc = acc ++ L ∧ L.map (·.t) = (q :: l).map encL ∧ L.map (·.k) = (q :: l).map (tokK · 0) := by
      intro A f hf
      obtain ⟨g1, g2, g3, g4⟩ := mid_tok (A := A) hq hg
      obtain ⟨e1, e2⟩ := tok_t (A := A) hq hg
      obtain ⟨f, rfl⟩ : ∃ g, f = g + 1 := ⟨f - 1, by omega⟩
      have h0 : 0 < q.length := by
        unfold oneB at hq
        simp only [Bool.and_eq_true, decide_eq_true_eq] at hq
        exact hq.1
      obtain ⟨L, h1, h2, h3⟩ := toks_rst l (A ++ q) f (acc ++ [tokAt (A ++ (q ++ rst l)) A.length]) hl (by simp only [List.length_append] at hf ⊢; omega)
      refine ⟨tokAt (A ++ (q ++ rst l)) A.length :: L, ?_, ?_, ?_⟩
      · rw [toksGo_tok g1 g2, g3]
        rw [List.append_assoc, List.length_append] at h1
        rw [h1]; simp
      · simp [h2, e1]
      · simp [h3, e2]
    unfold rst at hf ⊢
    by_cases h6 : cl q 0 = 6
    · rw [if_pos h6] at hf ⊢
      exact key A f hf
    · rw [if_neg h6] at hf ⊢
      have e : A ++ (32 :: q ++ rst l) = (A ++ [32]) ++ (q ++ rst l) := by simp
      rw [e] at hf ⊢
      have hlen : (A ++ [32]).length = A.length + 1 := by simp
      have hc : cl (A ++ [32] ++ (q ++ rst l)) A.length = 5 := by
        have : cl (A ++ ([32] ++ (q ++ rst l))) (A.length + 0) = cl [32] 0 := mid_cl (by simp)
        rw [List.append_assoc]
        rw [Nat.add_zero] at this
        rw [this]; exact cl_32 []
      have hi : A.length < (A ++ [32] ++ (q ++ rst l)).length := by simp only [List.length_append, List.length_cons, List.length_nil]; omega
      obtain ⟨f, rfl⟩ : ∃ g, f = g + 1 := ⟨f - 1, by omega⟩
      rw [toksGo_space hi hc, ← hlen]
      exact key _ f (by omega)
/-- The points of all the words. -/
def alP : List (List Int) → List Int
  | [] => []
  | q :: l => q ++ rst l
theorem toks_alP (l : List (List Int)) (h : ∀ q ∈ l, oneB q = true) : (toks (alP l)).map (·.t) = l.map encL ∧ (toks (alP l)).map (·.k) = l.map (tokK · 0) := by
  cases l with
  | nil => exact ⟨rfl, rfl⟩
  | cons q l =>
    have hq := h q (by simp)
    have hl : ∀ q ∈ l, oneB q = true := fun q hq => h q (by simp [hq])
    have hg := rst_good l hl
    obtain ⟨g1, g2, g3, g4⟩ := mid_tok (A := []) hq hg
    obtain ⟨e1, e2⟩ := tok_t (A := []) hq hg
    simp only [List.nil_append, List.length_nil, Nat.zero_add] at g1 g2 g3 g4 e1 e2
    obtain ⟨L, h1, h2, h3⟩ := toks_rst l q (q ++ rst l).length [tokAt (q ++ rst l) 0] hl (by
      have : 0 < q.length := by
        unfold oneB at hq
        simp only [Bool.and_eq_true, decide_eq_true_eq] at hq
        exact hq.1
      omega)
    unfold alP toks
    rw [toksGo_tok g1 g2, g3, List.nil_append, h1]
    simp [e1, e2, h2, h3]
/-- What the words are joined to, in points. -/
theorem jP_zero (w : List UInt8) : jP 0 w = [w] := by unfold jP; simp
theorem jP_pos {k : Nat} (hk : 0 < k) {w : List UInt8} {q : List Int} (hq : (decR w).2 = q) (hw : w = encL q) : (jP k w).flatten = encL (if cl q 0 = 6 then q else 32 :: q) := by
  unfold jP jS
  rw [hq]
  by_cases h6 : cl q 0 = 6
  · simp [h6, hk, hw]
  · simp only [h6, hk, decide_true, decide_false, Bool.not_false, Bool.and_self, if_true, if_false]
    rw [encL_cons, ← hw]
    have : enc1 32 = [32] := by decide
    rw [this]; simp
theorem okW_dec {w : List UInt8} (h : okW w = true) : oneB (decR w).2 = true ∧ w = encL (decR w).2 ∧ allS (decR w).2 ∧ decR w = ((0, 0), (decR w).2) := by
  unfold okW at h
  simp only [Bool.and_eq_true, decide_eq_true_eq] at h
  have e : decR w = ((0, 0), (decR w).2) := Prod.ext h.1 rfl
  obtain ⟨h1, h2, _⟩ := decR_ok e
  exact ⟨h.2, h2, h1, e⟩
theorem jGo_all {ws : List (List UInt8)} : ∀ (f k : Nat) (acc : List (List UInt8)), ws.length < f + k → (∀ w ∈ ws.drop k, okW w = true) → 0 < k →
    jGo ws f k acc = ((0, 0), (jGo ws f k acc).2) ∧ (jGo ws f k acc).2.flatten = acc.flatten ++ encL (rst ((ws.drop k).map fun w => (decR w).2))
  | 0, k, acc, h, _, _ => by
    rw [List.drop_eq_nil_of_le (by omega)]
    exact ⟨rfl, by simp [jGo, rst, encL]⟩
  | f + 1, k, acc, h, ho, hk => by
    by_cases hl : k < ws.length
    · have hd : ws.drop k = ws.getD k [] :: ws.drop (k + 1) := by
        rw [List.drop_eq_getElem_cons hl]
        simp [List.getD, hl]
      have hw := ho (ws.getD k []) (by rw [hd]; simp)
      rw [jGo_ok hl (jF_ok.2 hw)]
      obtain ⟨h1, h2⟩ := jGo_all (ws := ws) f (k + 1) (acc ++ jP k (ws.getD k [])) (by omega) (fun w hx => ho w (by rw [hd]; exact List.mem_cons_of_mem _ hx)) (by omega)
      refine ⟨h1, ?_⟩
      rw [h2, hd]
      obtain ⟨g1, g2, g3, g4⟩ := okW_dec hw
      rw [List.flatten_append, jP_pos hk rfl g2, List.map_cons, rst_cons, encL_append, List.append_assoc]
    · rw [jGo_end hl, List.drop_eq_nil_of_le (by omega)]
      exact ⟨rfl, by simp [rst, encL]⟩
def ptsW (ws : List (List UInt8)) : List (List Int) := ws.map fun w => (decR w).2
theorem joinR_all {ws : List (List UInt8)} (hn : ws.length ≤ 300) (h : ∀ w ∈ ws, okW w = true) : joinR ws = jB (encL (alP (ptsW ws))) := by
  have key : (jGo ws (ws.length + 1) 0 []).1 = (0, 0) ∧ (jGo ws (ws.length + 1) 0 []).2.flatten = encL (alP (ptsW ws)) := by
    cases ws with
    | nil => exact ⟨rfl, rfl⟩
    | cons w ws =>
      have hw := h w (by simp)
      obtain ⟨g1, g2, g3, g4⟩ := okW_dec hw
      rw [jGo_ok (by simp) (jF_ok.2 (by simpa using hw))]
      obtain ⟨h1, h2⟩ := jGo_all (ws := w :: ws) (w :: ws).length 1 ([] ++ jP 0 ((w :: ws).getD 0 [])) (by simp) (fun x hx => h x (by simp at hx; simp [hx])) (by omega)
      refine ⟨by rw [h1], ?_⟩
      rw [h2, jP_zero]
      unfold ptsW alP
      simp only [List.map_cons, encL_append, List.drop_one, List.tail_cons, List.nil_append, List.getD_cons_zero, List.flatten_cons, List.flatten_nil, List.append_nil]
      rw [← g2]
  unfold joinR
  rw [if_neg (by omega), if_pos key.1, key.2]
theorem jGo_ok_all {ws : List (List UInt8)} : ∀ (f k : Nat) (acc : List (List UInt8)), ws.length < f + k → (jGo ws f k acc).1.1 = 0 → ∀ w ∈ ws.drop k, okW w = true
  | 0, k, acc, h, _, w, hw => by rw [List.drop_eq_nil_of_le (by omega)] at hw; simp at hw
  | f + 1, k, acc, h, h0, w, hw => by
    by_cases hl : k < ws.length
    · have hd : ws.drop k = ws.getD k [] :: ws.drop (k + 1) := by
        rw [List.drop_eq_getElem_cons hl]
        simp [List.getD, hl]
      by_cases h2 : jF (ws.getD k []) = 0
      · rw [jGo_ok hl h2] at h0
        rw [hd] at hw
        rcases List.mem_cons.1 hw with rfl | hw
        · exact jF_ok.1 h2
        · exact jGo_ok_all f (k + 1) _ (by omega) h0 w hw
      · rw [jGo_bad hl h2] at h0; exact absurd h0 h2
    · rw [List.drop_eq_nil_of_le (by omega)] at hw; simp at hw
theorem alP_S (l : List (List Int)) (h : ∀ q ∈ l, allS q) : allS (alP l) := by
  have key : ∀ (l : List (List Int)), (∀ q ∈ l, allS q) → allS (rst l) := by
    intro l
    induction l with
    | nil => intro _ x hx; simp [rst] at hx
    | cons q l ih =>
      intro h x hx
      unfold rst at hx
      rcases List.mem_append.1 hx with hx | hx
      · split at hx
        · exact h q (by simp) x hx
        · rcases List.mem_cons.1 hx with rfl | hx
          · decide
          · exact h q (by simp) x hx
      · exact ih (fun q hq => h q (by simp [hq])) x hx
  cases l with
  | nil => intro x hx; simp [alP] at hx
  | cons q l =>
    intro x hx
    unfold alP at hx
    rcases List.mem_append.1 hx with hx | hx
    · exact h q (by simp) x hx
    · exact key l (fun q hq => h q (by simp [hq])) x hx
/-- All the words, joined and cut. -/
theorem join_cut {ws : List (List UInt8)} (hn : ws.length ≤ 300) (h : ∀ w ∈ ws, okW w = true) : (joinR ws).1 = (1, -1) ∨ ((joinR ws).1 = (0, 0) ∧ (joinR ws).2.length ≤ 4000 ∧ (cutR (joinR ws).2).1 = (0, 0) ∧ (cutR (joinR ws).2).2.map (·.t) = ws ∧ (cutR (joinR ws).2).2.map (·.k) = ws.map fun w => tokK (decR w).2 0) := by
  rw [joinR_all hn h]
  by_cases hb : 4000 < (encL (alP (ptsW ws))).length
  · left; unfold jB; rw [if_pos hb]
  · right
    have e : jB (encL (alP (ptsW ws))) = ((0, 0), encL (alP (ptsW ws))) := by unfold jB; rw [if_neg hb]
    rw [e]
    have hS : allS (alP (ptsW ws)) := alP_S _ (fun q hq => by
      obtain ⟨w, hw, rfl⟩ := List.mem_map.1 hq
      exact (okW_dec (h w hw)).2.2.1)
    have hone : ∀ q ∈ ptsW ws, oneB q = true := fun q hq => by
      obtain ⟨w, hw, rfl⟩ := List.mem_map.1 hq
      exact (okW_dec (h w hw)).1
    obtain ⟨t1, t2⟩ := toks_alP (ptsW ws) hone
    have hd := decR_enc hS (by omega)
    have htl : (toks (alP (ptsW ws))).length = ws.length := by
      have := congrArg List.length t1
      simpa [ptsW] using this
    have hc : cutR (encL (alP (ptsW ws))) = ((0, 0), toks (alP (ptsW ws))) := by
      unfold cutR cutB
      rw [hd, if_pos rfl]
      simp only
      rw [if_neg (by omega)]
    refine ⟨rfl, by simp only; omega, ?_, ?_, ?_⟩
    · simp only; rw [hc]
    · simp only; rw [hc]
      simp only [t1]
      unfold ptsW
      rw [List.map_map]
      conv => rhs; rw [← List.map_id ws]
      refine List.map_congr_left fun w hw => ?_
      simp only [Function.comp, id]
      exact (okW_dec (h w hw)).2.1.symm
    · simp only; rw [hc]
      simp only [t2]
      unfold ptsW
      rw [List.map_map]
      rfl
/-- What Join makes of words is cut into these words. -/
theorem joinR_ok_all {ws : List (List UInt8)} (h : (joinR ws).1.1 = 0) : ws.length ≤ 300 ∧ ∀ w ∈ ws, okW w = true := by
  unfold joinR at h
  by_cases hn : 300 < ws.length
  · rw [if_pos hn] at h; cases h
  · rw [if_neg hn] at h
    refine ⟨by omega, ?_⟩
    by_cases h0 : (jGo ws (ws.length + 1) 0 []).1 = (0, 0)
    · have := jGo_ok_all (ws := ws) (ws.length + 1) 0 [] (by omega) (by rw [h0])
      simpa using this
    · rw [if_neg h0] at h
      rcases jGo_good (ws := ws) (ws.length + 1) 0 [] with ⟨h1, _⟩ | h1
      · exact absurd h1 h0
      · exact absurd h h1
theorem join_cut' {ws : List (List UInt8)} (h : (joinR ws).1.1 = 0) : (joinR ws).2.length ≤ 4000 ∧ (cutR (joinR ws).2).1 = (0, 0) ∧ (cutR (joinR ws).2).2.map (·.t) = ws := by
  obtain ⟨h1, h2⟩ := joinR_ok_all h
  rcases join_cut h1 h2 with h3 | ⟨_, h3, h4, h5, _⟩
  · rw [h3] at h; cases h
  · exact ⟨h3, h4, h5⟩
end Go.Proofs.YtcchpijadlgagaaDoor
