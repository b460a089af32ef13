/- Sorting by exchange of neighbours: plain law. No program in sight. -/
import Derived.Test.YtmgpcnkmmgkjgaaSrP
namespace Gm
set_option linter.unusedSimpArgs false
set_option linter.unusedVariables false
/-- The places k and k + 1 are exchanged. -/
def swA (l : List Arc) (k : Nat) : List Arc := (l.set (k + 1) (l.getD k dA)).set k (l.getD (k + 1) dA)
theorem swA_len (l : List Arc) (k : Nat) : (swA l k).length = l.length := by simp [swA]
theorem swA_perm : ∀ (l : List Arc) (k : Nat), k + 1 < l.length → (swA l k).Perm l
  | [], k, h => by simp at h
  | [a], k, h => by simp at h
  | a :: b :: l, 0, _ => by
    unfold swA
    simp only [Nat.zero_add, List.set_cons_succ, List.set_cons_zero, List.getD_cons_zero, List.getD_cons_succ]
    exact .swap ..
  | a :: b :: l, k + 1, h => by
    have ih := swA_perm (b :: l) k (by simpa using h)
    unfold swA at ih ⊢
    simp only [List.set_cons_succ, List.getD_cons_succ] at ih ⊢
    exact .cons _ ih
theorem swA_getD (l : List Arc) (k m : Nat) (h : k + 1 < l.length) : (swA l k).getD m dA = if m = k then l.getD (k + 1) dA else if m = k + 1 then l.getD k dA else l.getD m dA := by
  unfold swA
  rw [List.getD_eq_getElem?_getD, List.getElem?_set]
  by_cases e1 : k = m
  · subst e1
    rw [if_pos rfl, if_pos (by simp; omega), if_pos rfl]; rfl
  · rw [if_neg e1, if_neg (fun e => e1 e.symm), List.getElem?_set]
    by_cases e2 : k + 1 = m
    · subst e2
      rw [if_pos rfl, if_pos h, if_pos rfl]; rfl
    · rw [if_neg e2, if_neg (fun e => e2 e.symm), List.getD_eq_getElem?_getD]
theorem arcLess_le {a b c : Arc} (h1 : arcLess a b = true) (h2 : arcLess c b = false) : arcLess a c = true := by
  rcases arcLess_total b c with h | h | h
  · exact arcLess_trans h1 h
  · rw [← h]; exact h1
  · rw [h2] at h; cases h
/-- The places below i are in order. -/
def SortTo (l : List Arc) (i : Nat) : Prop := ∀ p q, p < q → q < i → arcLess (l.getD q dA) (l.getD p dA) = false
/-- The places up to i are in order but for the place j, which stands before those behind it. -/
def Ins (l : List Arc) (i j : Nat) : Prop :=
  (∀ p q, p < q → q ≤ i → p ≠ j → q ≠ j → arcLess (l.getD q dA) (l.getD p dA) = false) ∧ ∀ q, j < q → q ≤ i → arcLess (l.getD q dA) (l.getD j dA) = false
theorem ins_start {l : List Arc} {i : Nat} (h : SortTo l i) : Ins l i i := ⟨fun p q h1 h2 h3 h4 => h p q h1 (by omega), fun q h1 h2 => by omega⟩
theorem ins_step {l : List Arc} {i k : Nat} (hi : i < l.length) (hk : k + 1 ≤ i) (h : Ins l i (k + 1)) (hl : arcLess (l.getD (k + 1) dA) (l.getD k dA) = true) : Ins (swA l k) i k := by
  have hg := fun m => swA_getD l k m (by omega)
  obtain ⟨h1, h2⟩ := h
  constructor
  · intro p q hpq hq hp hq'
    rw [hg, hg, if_neg hp, if_neg hq']
    by_cases e1 : q = k + 1
    · rw [if_pos e1, if_neg (by omega)]
      exact h1 p k (by omega) (by omega) (by omega) (by omega)
    · rw [if_neg e1]
      by_cases e2 : p = k + 1
      · rw [if_pos e2]
        exact h1 k q (by omega) hq (by omega) e1
      · rw [if_neg e2]
        exact h1 p q hpq hq e2 e1
  · intro q hq1 hq2
    rw [hg, hg, if_neg (by omega), if_pos rfl]
    by_cases e1 : q = k + 1
    · rw [if_pos e1]; exact arcLess_asymm hl
    · rw [if_neg e1]; exact h2 q (by omega) hq2
theorem ins_end {l : List Arc} {i j : Nat} (hj : j ≤ i) (h : Ins l i j) (hl : j = 0 ∨ ∃ k, j = k + 1 ∧ arcLess (l.getD j dA) (l.getD k dA) = false) : SortTo l (i + 1) := by
  obtain ⟨h1, h2⟩ := h
  intro p q hpq hq
  by_cases e1 : p = j
  · subst e1; exact h2 q hpq (by omega)
  · by_cases e2 : q = j
    · subst e2
      rcases hl with hl | ⟨k, hk, hl⟩
      · omega
      · by_cases e3 : p = k
        · subst e3; exact hl
        · cases hc : arcLess (l.getD q dA) (l.getD p dA)
          · rfl
          · have := arcLess_le hc (h1 p k (by omega) (by omega) e1 (by omega))
            rw [hl] at this; cases this
    · exact h1 p q hpq (by omega) e1 e2
theorem sort_start (l : List Arc) : SortTo l 1 := fun p q h1 h2 => by omega
theorem sort_end {l k : List Arc} {i : Nat} (h : SortTo l i) (hi : l.length ≤ i) (hp : l.Perm k) : l = srtA k := by
  refine srtA_eq ?_ hp
  unfold SortedA
  rw [List.pairwise_iff_getElem]
  intro p q hp hq hpq
  have := h p q hpq (by omega)
  simpa [List.getD, hp, hq] using this
/-- Same labels and states; reduced: the weight does not matter. -/
def sameA (red : Bool) (a b : Arc) : Bool := if red then likeA a b else eqA a b
theorem sameA_eq (red : Bool) (p a : Arc) : sameA red p a = (likeA a p && (red || decide (a.w = p.w))) := by
  have hl : likeA a p = likeA p a := by
    unfold likeA
    rw [decide_eq_decide.2 (show a.f = p.f ↔ p.f = a.f from eq_comm), decide_eq_decide.2 (show a.i = p.i ↔ p.i = a.i from eq_comm), decide_eq_decide.2 (show a.o = p.o ↔ p.o = a.o from eq_comm), decide_eq_decide.2 (show a.t = p.t ↔ p.t = a.t from eq_comm)]
  cases red
  · unfold sameA eqA
    rw [if_neg (by simp), Bool.false_or, hl]
    unfold likeA
    obtain ⟨pf, pt, pi, po, pw⟩ := p
    obtain ⟨af, at_, ai, ao, aw⟩ := a
    rw [Bool.eq_iff_iff]
    simp
    constructor
    · rintro ⟨rfl, rfl, rfl, rfl, rfl⟩; simp
    · rintro ⟨⟨⟨⟨rfl, rfl⟩, rfl⟩, rfl⟩, rfl⟩; simp
  · unfold sameA
    rw [if_pos rfl, Bool.true_or, Bool.and_true, hl]
/-- One more arc looked at. -/
theorem compact_take {e : Arc → Arc → Bool} {l : List Arc} {k : Nat} {a : Arc} (hk : k < l.length) (ha : l.getD k dA = a) :
    compact e (l.take (k + 1)) = compact e (l.take k) ++ (if 0 < k ∧ e (l.getD (k - 1) dA) a = true then [] else [a]) := by
  have ht : l.take (k + 1) = l.take k ++ [a] := by
    rw [List.take_succ_eq_append_getElem hk]
    congr 1
    simp [List.getD, hk] at ha
    rw [ha]
  rw [ht]
  by_cases h0 : k = 0
  · subst h0
    rw [if_neg (by omega)]
    rfl
  · have hne : l.take k ≠ [] := by
      intro h
      have h2 : (l.take k).length = k := by rw [List.length_take]; omega
      rw [h] at h2
      simp at h2
      omega
    rw [compact_snoc e hne]
    have hlast : (l.take k).getLast hne = l.getD (k - 1) dA := by
      rw [List.getLast_eq_getElem]
      have h1 : k - 1 < l.length := by omega
      simp [List.getD, h1, Nat.min_eq_left (Nat.le_of_lt hk)]
    rw [hlast]
    by_cases hc : e (l.getD (k - 1) dA) a = true
    · rw [if_pos hc, if_pos ⟨by omega, hc⟩]
    · rw [if_neg hc, if_neg (fun h => hc h.2)]
end Gm
