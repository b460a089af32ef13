/- The weights of unions and concatenations of valid machines: plain law. No program in sight. -/
import Derived.Test.YtpahodbnljpnnaaUnP
import Derived.Test.YtpahodbnljpnnaaWdW
namespace Gm
set_option linter.unusedSimpArgs false
set_option linter.unusedVariables false
theorem mem_srtA {l : List Arc} {x : Arc} : x ∈ srtA l ↔ x ∈ l := (srtA_perm l).mem_iff
/-- The lesser one of two weights; below 0: there is none. -/
def lightP (a b : Int) : Int := if a < 0 ∨ (0 ≤ b ∧ b < a) then b else a
theorem lightP_comm {a b : Int} (ha : -1 ≤ a) (hb : -1 ≤ b) : lightP a b = lightP b a := by
  unfold lightP
  split <;> split <;> omega
theorem least_low {m : Mach} {u v : List Int} {r : Int} (h : Least m u v r) : -1 ≤ r := by
  rcases h with ⟨h, _⟩ | ⟨n, h, _⟩ <;> omega
theorem wgt_low (m : Mach) (u v : List Int) : -1 ≤ wgt m u v := least_low (wgt_least m u v)
theorem least_or {m a b : Mach} {u v u1 v1 u2 v2 : List Int} (h : ∀ d, Acc m u v d ↔ Acc a u1 v1 d ∨ Acc b u2 v2 d) {ra rb : Int} (ha : Least a u1 v1 ra) (hb : Least b u2 v2 rb) : Least m u v (lightP ra rb) := by
  unfold lightP
  rcases ha with ⟨h1, h2⟩ | ⟨n, h1, h2, h3⟩ <;> rcases hb with ⟨g1, g2⟩ | ⟨k, g1, g2, g3⟩
  · left
    refine ⟨by rw [if_pos (by omega)]; exact g1, fun d hd => ?_⟩
    rcases (h d).1 hd with hd | hd
    · exact h2 d hd
    · exact g2 d hd
  · right
    refine ⟨k, by rw [if_pos (by omega)]; exact g1, (h k).2 (.inr g2), fun d hd => ?_⟩
    rcases (h d).1 hd with hd | hd
    · exact absurd hd (h2 d)
    · exact g3 d hd
  · right
    refine ⟨n, by rw [if_neg (by omega)]; exact h1, (h n).2 (.inl h2), fun d hd => ?_⟩
    rcases (h d).1 hd with hd | hd
    · exact h3 d hd
    · exact absurd hd (g2 d)
  · right
    by_cases hc : ra < 0 ∨ (0 ≤ rb ∧ rb < ra)
    · refine ⟨k, by rw [if_pos hc]; exact g1, (h k).2 (.inr g2), fun d hd => ?_⟩
      rcases (h d).1 hd with hd | hd
      · have := h3 d hd; omega
      · exact g3 d hd
    · refine ⟨n, by rw [if_neg hc]; exact h1, (h n).2 (.inl h2), fun d hd => ?_⟩
      rcases (h d).1 hd with hd | hd
      · exact h3 d hd
      · have := g3 d hd; omega
theorem uni_valid {a b : Mach} (ha : Valid a) (hb : Valid b) (hn : 1 + a.n + b.n ≤ 400) (hl : (uniArcs a b).length ≤ 2000) : Valid ⟨1 + a.n + b.n, srtA (uniArcs a b), uniFins a b⟩ := by
  have h1 := ha.n0
  have h2 := hb.n0
  refine valid_srt (uni_nodup ha hb) ⟨by omega, hn⟩ hl (fun x hx => ?_) (fun x hx => ?_) ?_
  · rcases mem_uni.1 hx with ⟨h, rfl⟩ | ⟨h, rfl⟩ | ⟨y, hy, rfl⟩ | ⟨y, hy, rfl⟩
    · exact okArc_t (by simp only [eps]; omega)
    · exact okArc_t (by simp only [eps]; omega)
    · have := okArc_iff (ha.okA hy); exact okArc_t (by simp only [shA]; omega)
    · have := okArc_iff (hb.okA hy); exact okArc_t (by simp only [shA]; omega)
  · rcases List.mem_append.1 hx with hx | hx <;> obtain ⟨y, hy, rfl⟩ := List.mem_map.1 hx
    · have := okFin_iff (ha.okF hy); exact okFin_t (by simp only [shF]; omega)
    · have := okFin_iff (hb.okF hy); exact okFin_t (by simp only [shF]; omega)
  · refine List.pairwise_append.2 ⟨List.pairwise_map.2 ((fins_sorted ha).imp fun {x y} h => by simp only [shF]; omega), List.pairwise_map.2 ((fins_sorted hb).imp fun {x y} h => by simp only [shF]; omega), ?_⟩
    intro x hx y hy
    obtain ⟨x', hx', rfl⟩ := List.mem_map.1 hx
    obtain ⟨y', hy', rfl⟩ := List.mem_map.1 hy
    have g1 := okFin_iff (ha.okF hx')
    have g2 := okFin_iff (hb.okF hy')
    simp only [shF]; omega
theorem wgt_uni {a b : Mach} (ha : Valid a) (hb : Valid b) (u v : List Int) : wgt ⟨1 + a.n + b.n, srtA (uniArcs a b), uniFins a b⟩ u v = lightP (wgt a u v) (wgt b u v) :=
  wgt_eq (least_or (fun _ => acc_uni (rng_valid ha) (rng_valid hb) (fun _ => mem_srtA)) (wgt_least a u v) (wgt_least b u v))
theorem cat_valid {a b : Mach} (ha : Valid a) (hb : Valid b) (hb0 : 0 < b.n) (hn : a.n + b.n ≤ 400) (hl : (catArcs a b).length ≤ 2000) : Valid ⟨a.n + b.n, srtA (catArcs a b), catFins a b⟩ := by
  have h1 := ha.n0
  refine valid_srt (cat_nodup ha hb) ⟨by omega, hn⟩ hl (fun x hx => ?_) (fun x hx => ?_) ?_
  · rcases mem_cat.1 hx with hy | ⟨y, hy, rfl⟩ | ⟨y, hy, rfl⟩
    · have := okArc_iff (ha.okA hy); exact okArc_t (by omega)
    · have := okArc_iff (hb.okA hy); exact okArc_t (by simp only [shA]; omega)
    · have := okFin_iff (ha.okF hy); exact okArc_t (by simp only [eps]; omega)
  · obtain ⟨y, hy, rfl⟩ := List.mem_map.1 hx
    have := okFin_iff (hb.okF hy); exact okFin_t (by simp only [shF]; omega)
  · exact List.pairwise_map.2 ((fins_sorted hb).imp fun {x y} h => by simp only [shF]; omega)
theorem star_valid {m : Mach} (hm : Valid m) (hn : 1 + m.n ≤ 400) (hl : (starArcs m).length ≤ 2000) : Valid ⟨1 + m.n, srtA (starArcs m), [⟨0, 0⟩]⟩ := by
  have h1 := hm.n0
  refine valid_srt (star_nodup hm) ⟨by omega, hn⟩ hl (fun x hx => ?_) (fun x hx => ?_) (by simp)
  · rcases mem_star.1 hx with ⟨h, rfl⟩ | ⟨y, hy, rfl⟩ | ⟨y, hy, rfl⟩
    · exact okArc_t (by simp only [eps]; omega)
    · have := okArc_iff (hm.okA hy); exact okArc_t (by simp only [shA]; omega)
    · have := okFin_iff (hm.okF hy); exact okArc_t (by simp only [eps]; omega)
  · simp only [List.mem_singleton] at hx
    subst hx
    exact okFin_t (by simp only; omega)
/-- Pairs put together in a row of three. -/
theorem acc_cat3 {a b c : Mach} {u v : List Int} {d : Nat} :
    (∃ u1 u2 v1 v2 d1 d2, u = u1 ++ u2 ∧ v = v1 ++ v2 ∧ d = d1 + d2 ∧ (∃ p1 p2 q1 q2 e1 e2, u1 = p1 ++ p2 ∧ v1 = q1 ++ q2 ∧ d1 = e1 + e2 ∧ Acc a p1 q1 e1 ∧ Acc b p2 q2 e2) ∧ Acc c u2 v2 d2) ↔
    (∃ u1 u2 v1 v2 d1 d2, u = u1 ++ u2 ∧ v = v1 ++ v2 ∧ d = d1 + d2 ∧ Acc a u1 v1 d1 ∧ ∃ p1 p2 q1 q2 e1 e2, u2 = p1 ++ p2 ∧ v2 = q1 ++ q2 ∧ d2 = e1 + e2 ∧ Acc b p1 q1 e1 ∧ Acc c p2 q2 e2) := by
  constructor
  · rintro ⟨_, u2, _, v2, _, d2, rfl, rfl, rfl, ⟨p1, p2, q1, q2, e1, e2, rfl, rfl, rfl, h1, h2⟩, h3⟩
    exact ⟨p1, p2 ++ u2, q1, q2 ++ v2, e1, e2 + d2, by simp, by simp, by omega, h1, p2, u2, q2, v2, e2, d2, rfl, rfl, rfl, h2, h3⟩
  · rintro ⟨u1, _, v1, _, d1, _, rfl, rfl, rfl, h1, p1, p2, q1, q2, e1, e2, rfl, rfl, rfl, h2, h3⟩
    exact ⟨u1 ++ p1, p2, v1 ++ q1, q2, d1 + e1, e2, by simp, by simp, by omega, ⟨u1, p1, v1, q1, d1, e1, rfl, rfl, rfl, h1, h2⟩, h3⟩
end Gm
