/- The labels of a machine, in increasing order. Plain law. No program in sight. -/
import Derived.Test.YtopakcbhodnipaaPlM
namespace Gm
set_option linter.unusedSimpArgs false
set_option linter.unusedVariables false
/-- How many labels in front are less. -/
def posI (x : Int) : List Int → Nat
  | [] => 0
  | y :: l => if y < x then posI x l + 1 else 0
/-- A label among others, in its place, if it is not there. -/
def insI (x : Int) (l : List Int) : List Int := if posI x l < l.length ∧ l.getD (posI x l) 0 = x then l else l.take (posI x l) ++ [x] ++ l.drop (posI x l)
theorem posI_le (x : Int) : ∀ l, posI x l ≤ l.length
  | [] => Nat.le_refl _
  | y :: l => by
    unfold posI
    have := posI_le x l
    rw [List.length_cons]
    split <;> omega
theorem posI_step (x : Int) : ∀ (l : List Int) (j : Nat), j ≤ posI x l → ((j < l.length ∧ l.getD j 0 < x) ↔ j < posI x l)
  | [], j, h => by simp [posI]
  | y :: l, j, h => by
    unfold posI at h ⊢
    by_cases hy : y < x
    · rw [if_pos hy] at h ⊢
      cases j with
      | zero => simp [hy]
      | succ j =>
        have := posI_step x l j (by omega)
        rw [List.length_cons, List.getD_cons_succ]
        omega
    · rw [if_neg hy] at h ⊢
      obtain rfl : j = 0 := by omega
      simp [hy]
theorem posI_less (x : Int) : ∀ (l : List Int), ∀ y ∈ l.take (posI x l), y < x
  | [], y, h => by simp at h
  | z :: l, y, h => by
    unfold posI at h
    by_cases hz : z < x
    · rw [if_pos hz, List.take_succ_cons] at h
      rcases List.mem_cons.1 h with rfl | h
      · exact hz
      · exact posI_less x l y h
    · rw [if_neg hz] at h; simp at h
theorem posI_more {x : Int} : ∀ {l : List Int}, l.Pairwise (· < ·) → ∀ y ∈ l.drop (posI x l), x ≤ y
  | [], _, y, h => by simp at h
  | z :: l, hs, y, h => by
    unfold posI at h
    obtain ⟨h1, h2⟩ := List.pairwise_cons.1 hs
    by_cases hz : z < x
    · rw [if_pos hz, List.drop_succ_cons] at h
      exact posI_more h2 y h
    · rw [if_neg hz, List.drop_zero] at h
      rcases List.mem_cons.1 h with rfl | h
      · omega
      · have := h1 y h; omega
theorem insI_mem {x : Int} {l : List Int} {y : Int} : y ∈ insI x l ↔ y = x ∨ y ∈ l := by
  unfold insI
  by_cases h : posI x l < l.length ∧ l.getD (posI x l) 0 = x
  · rw [if_pos h]
    refine ⟨.inr, ?_⟩
    rintro (rfl | hy)
    · have : l[posI y l]'h.1 ∈ l := List.getElem_mem _
      have e : l.getD (posI y l) 0 = l[posI y l]'h.1 := by simp [List.getD, h.1]
      rw [← e, h.2] at this
      exact this
    · exact hy
  · rw [if_neg h]
    have e : l.take (posI x l) ++ l.drop (posI x l) = l := List.take_append_drop _ _
    constructor
    · intro hy
      simp only [List.mem_append, List.mem_singleton] at hy
      rcases hy with (hy | hy) | hy
      · exact .inr (List.mem_of_mem_take hy)
      · exact .inl hy
      · exact .inr (List.mem_of_mem_drop hy)
    · intro hy
      simp only [List.mem_append, List.mem_singleton]
      rcases hy with hy | hy
      · exact .inl (.inr hy)
      · rw [← e, List.mem_append] at hy
        rcases hy with hy | hy
        · exact .inl (.inl hy)
        · exact .inr hy
theorem insI_sorted {x : Int} {l : List Int} (hs : l.Pairwise (· < ·)) : (insI x l).Pairwise (· < ·) := by
  unfold insI
  by_cases h : posI x l < l.length ∧ l.getD (posI x l) 0 = x
  · rw [if_pos h]; exact hs
  · rw [if_neg h]
    have e : l.take (posI x l) ++ l.drop (posI x l) = l := List.take_append_drop _ _
    have hs' := hs
    rw [← e] at hs'
    obtain ⟨h1, h2, h3⟩ := List.pairwise_append.1 hs'
    have hgt : ∀ y ∈ l.drop (posI x l), x < y := fun y hy => by
      have h4 := posI_more hs y hy
      rcases Int.lt_or_eq_of_le h4 with g | g
      · exact g
      · exfalso
        obtain ⟨i, hi, hg⟩ := List.mem_iff_getElem.1 hy
        have hp : posI x l < l.length := by rw [List.length_drop] at hi; omega
        have hd : l.drop (posI x l) = l[posI x l] :: l.drop (posI x l + 1) := List.drop_eq_getElem_cons hp
        have h5 : x ≤ l[posI x l] := posI_more hs _ (by rw [hd]; exact List.mem_cons_self)
        have h6 : l[posI x l] ≠ x := fun e => h ⟨hp, by simp [List.getD, hp, e]⟩
        rw [hd] at h2 hy
        rcases List.mem_cons.1 hy with e1 | e1
        · omega
        · have := (List.pairwise_cons.1 h2).1 y e1; omega
    refine List.pairwise_append.2 ⟨List.pairwise_append.2 ⟨h1, List.pairwise_singleton _ _, fun a ha b hb => ?_⟩, h2, fun a ha b hb => ?_⟩
    · rw [List.mem_singleton.1 hb]; exact posI_less x l a ha
    · rcases List.mem_append.1 ha with ha | ha
      · exact h3 a ha b hb
      · rw [List.mem_singleton.1 ha]; exact hgt b hb
theorem insI_len (x : Int) (l : List Int) : (insI x l).length ≤ l.length + 1 := by
  unfold insI
  split
  · omega
  · have := posI_le x l
    simp only [List.length_append, List.length_take, List.length_drop, List.length_cons, List.length_nil]
    omega
theorem insI_no {x : Int} {l : List Int} (h : ¬ (posI x l < l.length ∧ l.getD (posI x l) 0 = x)) : insI x l = l.take (posI x l) ++ [x] ++ l.drop (posI x l) := if_neg h
theorem insI_yes {x : Int} {l : List Int} (h : posI x l < l.length ∧ l.getD (posI x l) 0 = x) : insI x l = l := if_pos h
/-- The labels of some arcs. -/
def labsR (l : List Arc) : List Int := l.foldl (fun s a => if a.i = 0 then s else insI a.i s) []
theorem labsR_snoc (l : List Arc) (a : Arc) : labsR (l ++ [a]) = if a.i = 0 then labsR l else insI a.i (labsR l) := by
  unfold labsR
  rw [List.foldl_append]
  rfl
theorem labsR_ind {P : List Arc → List Int → Prop} (h0 : P [] []) (h1 : ∀ l a s, P l s → P (l ++ [a]) (if a.i = 0 then s else insI a.i s)) (l : List Arc) : P l (labsR l) := by
  have h : ∀ (k p : List Arc) (s : List Int), P p s → P (p ++ k) (k.foldl (fun s a => if a.i = 0 then s else insI a.i s) s) := by
    intro k
    induction k with
    | nil => intro p s hp; simpa using hp
    | cons a k ih =>
      intro p s hp
      have := ih (p ++ [a]) _ (h1 p a s hp)
      rw [List.append_assoc] at this
      exact this
  exact h l [] [] h0
theorem labsR_sorted (l : List Arc) : (labsR l).Pairwise (· < ·) :=
  labsR_ind (P := fun _ s => s.Pairwise (· < ·)) .nil (fun l a s h => by
    split
    · exact h
    · exact insI_sorted h) l
theorem labsR_mem (l : List Arc) : ∀ x, x ∈ labsR l ↔ x ≠ 0 ∧ ∃ a ∈ l, a.i = x :=
  labsR_ind (P := fun l s => ∀ x, x ∈ s ↔ x ≠ 0 ∧ ∃ a ∈ l, a.i = x) (fun x => by simp) (fun l a s h x => by
    have e : (∃ b ∈ l ++ [a], b.i = x) ↔ (∃ b ∈ l, b.i = x) ∨ a.i = x := by
      constructor
      · rintro ⟨b, hb, he⟩
        rcases List.mem_append.1 hb with hb | hb
        · exact .inl ⟨b, hb, he⟩
        · rw [List.mem_singleton.1 hb] at he; exact .inr he
      · rintro (⟨b, hb, he⟩ | he)
        · exact ⟨b, List.mem_append.2 (.inl hb), he⟩
        · exact ⟨a, List.mem_append.2 (.inr (List.mem_singleton.2 rfl)), he⟩
    rw [e]
    by_cases h0 : a.i = 0
    · rw [if_pos h0, h x]
      constructor
      · rintro ⟨h1, h2⟩; exact ⟨h1, .inl h2⟩
      · rintro ⟨h1, h2 | h2⟩
        · exact ⟨h1, h2⟩
        · omega
    · rw [if_neg h0, insI_mem, h x]
      constructor
      · rintro (rfl | ⟨h1, h2⟩)
        · exact ⟨h0, .inr rfl⟩
        · exact ⟨h1, .inl h2⟩
      · rintro ⟨h1, h2 | h2⟩
        · exact .inr ⟨h1, h2⟩
        · exact .inl h2.symm) l
theorem labsR_len (l : List Arc) : (labsR l).length ≤ l.length :=
  labsR_ind (P := fun l s => s.length ≤ l.length) (Nat.le_refl _) (fun l a s h => by
    rw [List.length_append, List.length_singleton]
    split
    · omega
    · have := insI_len a.i s; omega) l
/-- The machine that copies the words of these labels. -/
def cpM (ls : List Int) : Mach := ⟨1, ls.map fun l => ⟨0, 0, l, l, 0⟩, [⟨0, 0⟩]⟩
end Gm
