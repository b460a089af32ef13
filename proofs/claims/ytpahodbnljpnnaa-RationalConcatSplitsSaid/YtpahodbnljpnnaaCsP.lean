/- The weight of a pair of a concatenation is the least sum over all ways to split it: plain law. -/
import Derived.Test.YtpahodbnljpnnaaAcP
namespace Gm
set_option linter.unusedSimpArgs false
set_option linter.unusedVariables false
/-- r is the least one of the numbers of S, or -1. -/
def LeastS (S : Nat → Prop) (r : Int) : Prop := (r = -1 ∧ ∀ d, ¬ S d) ∨ (∃ n : Nat, r = (n : Int) ∧ S n ∧ ∀ d, S d → n ≤ d)
theorem LeastS.low {S : Nat → Prop} {r : Int} (h : LeastS S r) : -1 ≤ r := by
  rcases h with ⟨h, _⟩ | ⟨n, h, _⟩ <;> omega
theorem LeastS.congr {S T : Nat → Prop} {r : Int} (h : LeastS S r) (e : ∀ d, T d ↔ S d) : LeastS T r := by
  rcases h with ⟨h, h'⟩ | ⟨n, h, h', h''⟩
  · exact .inl ⟨h, fun d hd => h' d ((e d).1 hd)⟩
  · exact .inr ⟨n, h, (e n).2 h', fun d hd => h'' d ((e d).1 hd)⟩
theorem leastS_or {S A B : Nat → Prop} (h : ∀ d, S d ↔ A d ∨ B d) {ra rb : Int} (ha : LeastS A ra) (hb : LeastS B rb) : LeastS S (lightP ra rb) := by
  unfold lightP
  rcases ha with ⟨h1, h2⟩ | ⟨n, h1, h2, h3⟩ <;> rcases hb with ⟨g1, g2⟩ | ⟨k, g1, g2, g3⟩
  · left
    refine ⟨by rw [if_pos (by omega)]; exact g1, fun d hd => ?_⟩
    rcases (h d).1 hd with hd | hd
    · exact h2 d hd
    · exact g2 d hd
  · right
    refine ⟨k, by rw [if_pos (by omega)]; exact g1, (h k).2 (.inr g2), fun d hd => ?_⟩
    rcases (h d).1 hd with hd | hd
    · exact absurd hd (h2 d)
    · exact g3 d hd
  · right
    refine ⟨n, by rw [if_neg (by omega)]; exact h1, (h n).2 (.inl h2), fun d hd => ?_⟩
    rcases (h d).1 hd with hd | hd
    · exact h3 d hd
    · exact absurd hd (g2 d)
  · right
    by_cases hc : ra < 0 ∨ (0 ≤ rb ∧ rb < ra)
    · refine ⟨k, by rw [if_pos hc]; exact g1, (h k).2 (.inr g2), fun d hd => ?_⟩
      rcases (h d).1 hd with hd | hd
      · have := h3 d hd; omega
      · exact g3 d hd
    · refine ⟨n, by rw [if_neg hc]; exact h1, (h n).2 (.inl h2), fun d hd => ?_⟩
      rcases (h d).1 hd with hd | hd
      · exact h3 d hd
      · have := g3 d hd; omega
theorem leastS_sum {A B : Nat → Prop} {x y : Int} (ha : LeastS A x) (hb : LeastS B y) : LeastS (fun d => ∃ d1 d2, d = d1 + d2 ∧ A d1 ∧ B d2) (if 0 ≤ x ∧ 0 ≤ y then x + y else -1) := by
  rcases ha with ⟨h1, h2⟩ | ⟨n, h1, h2, h3⟩
  · rw [if_neg (by omega)]
    exact .inl ⟨rfl, fun d ⟨d1, _, _, h, _⟩ => h2 d1 h⟩
  · rcases hb with ⟨g1, g2⟩ | ⟨k, g1, g2, g3⟩
    · rw [if_neg (by omega)]
      exact .inl ⟨rfl, fun d ⟨_, d2, _, _, h⟩ => g2 d2 h⟩
    · rw [if_pos (by omega)]
      refine .inr ⟨n + k, by omega, ⟨n, k, rfl, h2, g2⟩, ?_⟩
      rintro d ⟨d1, d2, rfl, e1, e2⟩
      have := h3 _ e1
      have := g3 _ e2
      omega
theorem lightP_none {r x : Int} (hr : -1 ≤ r) (hx : x < 0) (h1 : -1 ≤ x) : lightP r x = r := by
  unfold lightP
  split <;> omega
/-- One more way to split. -/
def stepC (r x y : Int) : Int := if 0 ≤ x ∧ 0 ≤ y then lightP r (x + y) else r
/-- The sums over the ways to split in front of the place i, j. -/
def SplitS (a b : Mach) (lu lo : List Int) (i j : Nat) (d : Nat) : Prop :=
  ∃ i' j', i' ≤ lu.length ∧ j' ≤ lo.length ∧ (i' < i ∨ (i' = i ∧ j' < j)) ∧ ∃ d1 d2, d = d1 + d2 ∧ Acc a (lu.take i') (lo.take j') d1 ∧ Acc b (lu.drop i') (lo.drop j') d2
theorem split_step {a b : Mach} {lu lo : List Int} {i j : Nat} {r : Int} (hi : i ≤ lu.length) (hj : j ≤ lo.length) (h : LeastS (SplitS a b lu lo i j) r) :
    LeastS (SplitS a b lu lo i (j + 1)) (stepC r (wgt a (lu.take i) (lo.take j)) (wgt b (lu.drop i) (lo.drop j))) := by
  have hs := leastS_sum (wgt_least a (lu.take i) (lo.take j)) (wgt_least b (lu.drop i) (lo.drop j))
  have e : ∀ d, SplitS a b lu lo i (j + 1) d ↔ SplitS a b lu lo i j d ∨ ∃ d1 d2, d = d1 + d2 ∧ Acc a (lu.take i) (lo.take j) d1 ∧ Acc b (lu.drop i) (lo.drop j) d2 := fun d => by
    constructor
    · rintro ⟨i', j', h1, h2, h3, h4⟩
      by_cases hc : i' = i ∧ j' = j
      · obtain ⟨rfl, rfl⟩ := hc; exact .inr h4
      · exact .inl ⟨i', j', h1, h2, by omega, h4⟩
    · rintro (⟨i', j', h1, h2, h3, h4⟩ | h4)
      · exact ⟨i', j', h1, h2, by omega, h4⟩
      · exact ⟨i, j, hi, hj, by omega, h4⟩
  have hl := leastS_or e h hs
  unfold stepC
  have hlow := h.low
  split
  · rename_i hc; rw [if_pos hc] at hl; exact hl
  · rename_i hc; rw [if_neg hc, lightP_none hlow (by omega) (by omega)] at hl; exact hl
theorem split_row {a b : Mach} {lu lo : List Int} {i : Nat} {r : Int} (h : LeastS (SplitS a b lu lo i (lo.length + 1)) r) : LeastS (SplitS a b lu lo (i + 1) 0) r :=
  h.congr fun d => by
    constructor
    · rintro ⟨i', j', h1, h2, h3, h4⟩; exact ⟨i', j', h1, h2, by omega, h4⟩
    · rintro ⟨i', j', h1, h2, h3, h4⟩; exact ⟨i', j', h1, h2, by omega, h4⟩
theorem split_start (a b : Mach) (lu lo : List Int) : LeastS (SplitS a b lu lo 0 0) (-1) :=
  .inl ⟨rfl, fun d ⟨i', j', _, _, h, _⟩ => by omega⟩
theorem wordF_take {l : List Int} {ix : Int} (h : wordF l ix = (0, 0)) (jx : Int) (k : Nat) : wordF (l.take k) jx = (0, 0) ∧ wordF (l.drop k) jx = (0, 0) := by
  obtain ⟨_, h1, h2⟩ := wordF_zero (show (wordF l ix).1 = 0 by rw [h])
  unfold wordF
  constructor
  · rw [if_neg (by have := List.length_take_le' k l; omega), if_pos (fun x hx => h2 x (List.mem_of_mem_take hx))]
  · rw [if_neg (by simp; omega), if_pos (fun x hx => h2 x (List.mem_of_mem_drop hx))]
theorem wv_at {m : Mach} {lu lo : List Int} {ix jx : Int} (hv : validate m = (0, 0)) (hu : wordF lu ix = (0, 0)) (ho : wordF lo jx = (0, 0)) : wv m lu lo = wgt m lu lo := by
  unfold wv wF
  rw [if_pos hv, if_pos (wordF_ix hu _), if_pos (wordF_ix ho _)]
end Gm
namespace Go.Proofs.Ytpahodbnljpnnaa
open Go.RowKit Gm Go.Sort Go.Shelf
set_option linter.unusedSimpArgs false
set_option linter.unusedVariables false
theorem split_end {a b : Mach} (h : catF a b = (0, 0)) {lu lo : List Int} (hu : wordF lu 0 = (0, 0)) (ho : wordF lo 0 = (0, 0)) {r : Int} (hr : LeastS (SplitS a b lu lo (lu.length + 1) 0) r) : wv (catR a b) lu lo = r := by
  obtain ⟨_, _, hv, _, ha⟩ := cat_ok h
  rw [wv_at hv hu ho]
  refine wgt_eq (LeastS.congr hr fun d => ?_)
  rw [ha]
  constructor
  · rintro ⟨u1, u2, v1, v2, d1, d2, rfl, rfl, rfl, h1, h2⟩
    exact ⟨u1.length, v1.length, by simp, by simp, .inl (by simp; omega), d1, d2, rfl, by simpa using h1, by simpa using h2⟩
  · rintro ⟨i', j', h1, h2, h3, d1, d2, rfl, h4, h5⟩
    exact ⟨_, _, _, _, d1, d2, (List.take_append_drop i' lu).symm, (List.take_append_drop j' lo).symm, rfl, h4, h5⟩
end Go.Proofs.Ytpahodbnljpnnaa
