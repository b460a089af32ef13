/- Arcs in order: what sorting and compacting give. Plain law, no program in sight. -/
import Derived.Test.YtmgpcnkmmgkjgaaPlD

namespace Gm
set_option linter.unusedSimpArgs false
set_option linter.unusedVariables false
theorem lessL_irrefl : ∀ l : List Int, lessL l l = false
  | [] => rfl
  | x :: l => by simp [lessL, lessL_irrefl l]
theorem arcLess_irrefl (a : Arc) : arcLess a a = false := lessL_irrefl _
theorem arcLess_trans {a b c : Arc} (h1 : arcLess a b = true) (h2 : arcLess b c = true) : arcLess a c = true := lessL_trans _ _ _ h1 h2
theorem lessL_total : ∀ (l k : List Int), l.length = k.length → lessL l k = true ∨ l = k ∨ lessL k l = true
  | [], [], _ => .inr (.inl rfl)
  | x :: l, y :: k, h => by
    rcases Int.lt_trichotomy x y with h1 | h1 | h1
    · left; simp [lessL, h1, show x ≠ y by omega]
    · subst h1
      rcases lessL_total l k (by simpa using h) with h2 | h2 | h2
      · left; simp [lessL, h2]
      · right; left; rw [h2]
      · right; right; simp [lessL, h2]
    · right; right; simp [lessL, h1, show y ≠ x by omega]
theorem arcKey_inj {a b : Arc} (h : arcKey a = arcKey b) : a = b := by
  simp only [arcKey, List.cons.injEq, and_true] at h
  exact Arc.ext' h.1 h.2.2.2.1 h.2.1 h.2.2.1 h.2.2.2.2
theorem arcLess_total (a b : Arc) : arcLess a b = true ∨ a = b ∨ arcLess b a = true := by
  rcases lessL_total (arcKey a) (arcKey b) rfl with h | h | h
  · exact .inl h
  · exact .inr (.inl (arcKey_inj h))
  · exact .inr (.inr h)
/-- In order, equal ones beside one another. -/
def SortedA (l : List Arc) : Prop := l.Pairwise fun a b => arcLess b a = false
theorem arcLess_asymm {a b : Arc} (h : arcLess a b = true) : arcLess b a = false := by
  cases e : arcLess b a
  · rfl
  · have := arcLess_trans h e; rw [arcLess_irrefl] at this; cases this
/-- What is in order is determined by what it holds. -/
theorem sorted_uniq : ∀ {l k : List Arc}, SortedA l → SortedA k → l.Perm k → l = k
  | [], k, _, _, hp => (List.nil_perm.1 hp).symm
  | a :: l, [], _, _, hp => absurd hp.length_eq (by simp)
  | a :: l, b :: k, hl, hk, hp => by
    have hl' := List.pairwise_cons.1 hl
    have hk' := List.pairwise_cons.1 hk
    have hab : a = b := by
      have h1 : a ∈ b :: k := hp.mem_iff.1 (by simp)
      have h2 : b ∈ a :: l := hp.mem_iff.2 (by simp)
      rcases List.mem_cons.1 h1 with h1 | h1
      · exact h1
      · rcases List.mem_cons.1 h2 with h2 | h2
        · exact h2.symm
        · have g1 := hk'.1 a h1
          have g2 := hl'.1 b h2
          rcases arcLess_total a b with h | h | h
          · rw [g1] at h; cases h
          · exact h
          · rw [g2] at h; cases h
    subst hab
    rw [sorted_uniq hl'.2 hk'.2 ((List.perm_cons a).1 hp)]
/-- A list without those that e holds like the one before them (in the list as it was). -/
def cpt (e : Arc → Arc → Bool) : Arc → List Arc → List Arc
  | _, [] => []
  | p, a :: l => if e p a = true then cpt e a l else a :: cpt e a l
def compact (e : Arc → Arc → Bool) : List Arc → List Arc
  | [] => []
  | a :: l => a :: cpt e a l
theorem cpt_snoc (e : Arc → Arc → Bool) : ∀ (l : List Arc) (p a : Arc), cpt e p (l ++ [a]) = cpt e p l ++ (if e ((p :: l).getLast (by simp)) a = true then [] else [a])
  | [], p, a => by
    simp only [List.nil_append, cpt, List.getLast_singleton]
    by_cases h : e p a = true <;> simp [h]
  | b :: l, p, a => by
    have ih := cpt_snoc e l b a
    have hl : (p :: b :: l).getLast (by simp) = (b :: l).getLast (by simp) := List.getLast_cons (by simp)
    simp only [List.cons_append, cpt, ih, hl]
    by_cases h : e p b = true <;> simp [h]
theorem compact_snoc (e : Arc → Arc → Bool) {l : List Arc} (hl : l ≠ []) (a : Arc) : compact e (l ++ [a]) = compact e l ++ (if e (l.getLast hl) a = true then [] else [a]) := by
  cases l with
  | nil => exact absurd rfl hl
  | cons b l => simp only [List.cons_append, compact, cpt_snoc]
theorem cpt_len (e : Arc → Arc → Bool) : ∀ (l : List Arc) (p : Arc), (cpt e p l).length ≤ l.length
  | [], _ => Nat.le_refl _
  | b :: l, p => by
    have := cpt_len e l b
    unfold cpt
    split <;> simp <;> omega
theorem compact_len (e : Arc → Arc → Bool) (l : List Arc) : (compact e l).length ≤ l.length := by
  cases l with
  | nil => exact Nat.le_refl _
  | cons b l => have := cpt_len e l b; simp [compact]; omega
theorem cpt_sub (e : Arc → Arc → Bool) : ∀ (l : List Arc) (p : Arc), (cpt e p l).Sublist l
  | [], _ => .slnil
  | b :: l, p => by
    unfold cpt
    split
    · exact (cpt_sub e l b).cons _
    · exact (cpt_sub e l b).cons_cons _
theorem compact_sub (e : Arc → Arc → Bool) (l : List Arc) : (compact e l).Sublist l := by
  cases l with
  | nil => exact .slnil
  | cons b l => exact (cpt_sub e l b).cons_cons _
/-- Equal arcs. -/
def eqA (a b : Arc) : Bool := decide (a = b)
theorem mem_cpt : ∀ (l : List Arc) (p x : Arc), x ∈ p :: cpt eqA p l ↔ x ∈ p :: l
  | [], p, x => by simp [cpt]
  | b :: l, p, x => by
    have ih := mem_cpt l b x
    unfold cpt
    by_cases h : eqA p b = true
    · rw [if_pos h]
      have hb : p = b := of_decide_eq_true h
      subst hb
      rw [ih]; simp
    · rw [if_neg h, List.mem_cons, ih]; simp
theorem mem_compact {l : List Arc} {x : Arc} : x ∈ compact eqA l ↔ x ∈ l := by
  cases l with
  | nil => rfl
  | cons b l => exact mem_cpt l b x
theorem cpt_strict : ∀ (l : List Arc) (p : Arc), SortedA (p :: l) → (p :: cpt eqA p l).Pairwise fun a b => arcLess a b = true
  | [], p, _ => by simp [cpt]
  | b :: l, p, h => by
    have h' := List.pairwise_cons.1 h
    have ih := cpt_strict l b h'.2
    unfold cpt
    by_cases e : eqA p b = true
    · rw [if_pos e]
      have hb : p = b := of_decide_eq_true e
      subst hb
      exact ih
    · rw [if_neg e]
      have hne : p ≠ b := fun h => e (decide_eq_true h)
      have hlt : arcLess p b = true := by
        rcases arcLess_total p b with g | g | g
        · exact g
        · exact absurd g hne
        · rw [h'.1 b (by simp)] at g; cases g
      refine List.pairwise_cons.2 ⟨fun x hx => ?_, ih⟩
      rcases List.mem_cons.1 hx with rfl | hx
      · exact hlt
      · exact arcLess_trans hlt ((List.pairwise_cons.1 ih).1 x hx)
theorem compact_strict {l : List Arc} (h : SortedA l) : (compact eqA l).Pairwise fun a b => arcLess a b = true := by
  cases l with
  | nil => exact List.Pairwise.nil
  | cons b l => exact cpt_strict l b h
/-- Where no two are equal, nothing is left out. -/
theorem cpt_all : ∀ (l : List Arc) (p : Arc), (p :: l).Nodup → cpt eqA p l = l
  | [], _, _ => rfl
  | b :: l, p, h => by
    have h' := List.nodup_cons.1 h
    unfold cpt
    rw [if_neg (fun e => by
      have hb : p = b := of_decide_eq_true e
      exact h'.1 (by simp [hb]))]
    rw [cpt_all l b h'.2]
theorem compact_all {l : List Arc} (h : l.Nodup) : compact eqA l = l := by
  cases l with
  | nil => rfl
  | cons b l => rw [compact, cpt_all l b h]
/-- The same arc but for the weight. -/
def likeA (a b : Arc) : Bool := decide (a.f = b.f) && decide (a.i = b.i) && decide (a.o = b.o) && decide (a.t = b.t)
/-- A list is put in order: one by one. -/
def insA (a : Arc) : List Arc → List Arc
  | [] => [a]
  | b :: l => if arcLess a b = true then a :: b :: l else b :: insA a l
def srtA : List Arc → List Arc
  | [] => []
  | a :: l => insA a (srtA l)
theorem insA_perm (a : Arc) : ∀ l, (insA a l).Perm (a :: l)
  | [] => .refl _
  | b :: l => by
    unfold insA
    split
    · exact .refl _
    · exact ((insA_perm a l).cons b).trans (.swap a b l)
theorem srtA_perm : ∀ l, (srtA l).Perm l
  | [] => .refl _
  | a :: l => (insA_perm a _).trans ((srtA_perm l).cons a)
theorem insA_sorted (a : Arc) : ∀ l, SortedA l → SortedA (insA a l)
  | [], _ => by simp [insA, SortedA]
  | b :: l, h => by
    have h' := List.pairwise_cons.1 h
    unfold insA
    by_cases e : arcLess a b = true
    · rw [if_pos e]
      refine List.pairwise_cons.2 ⟨fun x hx => ?_, h⟩
      rcases List.mem_cons.1 hx with rfl | hx
      · exact arcLess_asymm e
      · cases g : arcLess x a
        · rfl
        · have := arcLess_trans g e; rw [h'.1 x hx] at this; cases this
    · rw [if_neg e]
      refine List.pairwise_cons.2 ⟨fun x hx => ?_, insA_sorted a l h'.2⟩
      rcases List.mem_cons.1 ((insA_perm a l).mem_iff.1 hx) with rfl | hx
      · cases g : arcLess x b
        · rfl
        · exact absurd g e
      · exact h'.1 x hx
theorem srtA_sorted : ∀ l, SortedA (srtA l)
  | [] => List.Pairwise.nil
  | a :: l => insA_sorted a _ (srtA_sorted l)
theorem srtA_eq {l k : List Arc} (hk : SortedA k) (hp : k.Perm l) : k = srtA l := sorted_uniq hk (srtA_sorted l) (hp.trans (srtA_perm l).symm)
theorem srtA_congr {l k : List Arc} (hp : l.Perm k) : srtA l = srtA k := sorted_uniq (srtA_sorted l) (srtA_sorted k) ((srtA_perm l).trans (hp.trans (srtA_perm k).symm))
end Gm
