/- The least of some numbers; weights of words cut in pieces: plain law. No program in sight. -/
import Derived.Test.YtpahodbnljpnnaaAlW
namespace Gm
set_option linter.unusedSimpArgs false
set_option linter.unusedVariables false
/-- r is the least one of the numbers of S, or -1. -/
def LeastS (S : Nat → Prop) (r : Int) : Prop := (r = -1 ∧ ∀ d, ¬ S d) ∨ (∃ n : Nat, r = (n : Int) ∧ S n ∧ ∀ d, S d → n ≤ d)
theorem LeastS.low {S : Nat → Prop} {r : Int} (h : LeastS S r) : -1 ≤ r := by
  rcases h with ⟨h, _⟩ | ⟨n, h, _⟩ <;> omega
theorem LeastS.congr {S T : Nat → Prop} {r : Int} (h : LeastS S r) (e : ∀ d, T d ↔ S d) : LeastS T r := by
  rcases h with ⟨h, h'⟩ | ⟨n, h, h', h''⟩
  · exact .inl ⟨h, fun d hd => h' d ((e d).1 hd)⟩
  · exact .inr ⟨n, h, (e n).2 h', fun d hd => h'' d ((e d).1 hd)⟩
theorem leastS_or {S A B : Nat → Prop} (h : ∀ d, S d ↔ A d ∨ B d) {ra rb : Int} (ha : LeastS A ra) (hb : LeastS B rb) : LeastS S (lightP ra rb) := by
  unfold lightP
  rcases ha with ⟨h1, h2⟩ | ⟨n, h1, h2, h3⟩ <;> rcases hb with ⟨g1, g2⟩ | ⟨k, g1, g2, g3⟩
  · left
    refine ⟨by rw [if_pos (by omega)]; exact g1, fun d hd => ?_⟩
    rcases (h d).1 hd with hd | hd
    · exact h2 d hd
    · exact g2 d hd
  · right
    refine ⟨k, by rw [if_pos (by omega)]; exact g1, (h k).2 (.inr g2), fun d hd => ?_⟩
    rcases (h d).1 hd with hd | hd
    · exact absurd hd (h2 d)
    · exact g3 d hd
  · right
    refine ⟨n, by rw [if_neg (by omega)]; exact h1, (h n).2 (.inl h2), fun d hd => ?_⟩
    rcases (h d).1 hd with hd | hd
    · exact h3 d hd
    · exact absurd hd (g2 d)
  · right
    by_cases hc : ra < 0 ∨ (0 ≤ rb ∧ rb < ra)
    · refine ⟨k, by rw [if_pos hc]; exact g1, (h k).2 (.inr g2), fun d hd => ?_⟩
      rcases (h d).1 hd with hd | hd
      · have := h3 d hd; omega
      · exact g3 d hd
    · refine ⟨n, by rw [if_neg hc]; exact h1, (h n).2 (.inl h2), fun d hd => ?_⟩
      rcases (h d).1 hd with hd | hd
      · exact h3 d hd
      · have := g3 d hd; omega
theorem leastS_sum {A B : Nat → Prop} {x y : Int} (ha : LeastS A x) (hb : LeastS B y) : LeastS (fun d => ∃ d1 d2, d = d1 + d2 ∧ A d1 ∧ B d2) (if 0 ≤ x ∧ 0 ≤ y then x + y else -1) := by
  rcases ha with ⟨h1, h2⟩ | ⟨n, h1, h2, h3⟩
  · rw [if_neg (by omega)]
    exact .inl ⟨rfl, fun d ⟨d1, _, _, h, _⟩ => h2 d1 h⟩
  · rcases hb with ⟨g1, g2⟩ | ⟨k, g1, g2, g3⟩
    · rw [if_neg (by omega)]
      exact .inl ⟨rfl, fun d ⟨_, d2, _, _, h⟩ => g2 d2 h⟩
    · rw [if_pos (by omega)]
      refine .inr ⟨n + k, by omega, ⟨n, k, rfl, h2, g2⟩, ?_⟩
      rintro d ⟨d1, d2, rfl, e1, e2⟩
      have := h3 _ e1
      have := g3 _ e2
      omega
theorem lightP_none {r x : Int} (hr : -1 ≤ r) (hx : x < 0) (h1 : -1 ≤ x) : lightP r x = r := by
  unfold lightP
  split <;> omega
/-- One more way to split. -/
def stepC (r x y : Int) : Int := if 0 ≤ x ∧ 0 ≤ y then lightP r (x + y) else r
theorem wordF_take {l : List Int} {ix : Int} (h : wordF l ix = (0, 0)) (jx : Int) (k : Nat) : wordF (l.take k) jx = (0, 0) ∧ wordF (l.drop k) jx = (0, 0) := by
  obtain ⟨_, h1, h2⟩ := wordF_zero (show (wordF l ix).1 = 0 by rw [h])
  unfold wordF
  constructor
  · rw [if_neg (by have := List.length_take_le' k l; omega), if_pos (fun x hx => h2 x (List.mem_of_mem_take hx))]
  · rw [if_neg (by simp; omega), if_pos (fun x hx => h2 x (List.mem_of_mem_drop hx))]
theorem wv_at {m : Mach} {lu lo : List Int} {ix jx : Int} (hv : validate m = (0, 0)) (hu : wordF lu ix = (0, 0)) (ho : wordF lo jx = (0, 0)) : wv m lu lo = wgt m lu lo := by
  unfold wv wF
  rw [if_pos hv, if_pos (wordF_ix hu _), if_pos (wordF_ix ho _)]
end Gm
