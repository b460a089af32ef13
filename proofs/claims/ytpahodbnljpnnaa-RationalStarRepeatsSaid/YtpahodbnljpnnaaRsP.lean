/- The weight of a pair of a repetition is the least sum over all ways to split it: plain law. -/
import Derived.Test.YtpahodbnljpnnaaLsP
import Derived.Test.YtpahodbnljpnnaaAlU
import Derived.Test.YtpahodbnljpnnaaWeP
import Derived.Test.YtpahodbnljpnnaaWbP
namespace Gm
set_option linter.unusedSimpArgs false
set_option linter.unusedVariables false
theorem LeastS.dom {S T : Nat → Prop} {r : Int} (h : LeastS S r) (h1 : ∀ d, S d → T d) (h2 : ∀ d, T d → ∃ d', S d' ∧ d' ≤ d) : LeastS T r := by
  rcases h with ⟨h, h'⟩ | ⟨n, h, h', h''⟩
  · exact .inl ⟨h, fun d hd => by obtain ⟨d', g, _⟩ := h2 d hd; exact h' d' g⟩
  · exact .inr ⟨n, h, h1 n h', fun d hd => by obtain ⟨d', g, g'⟩ := h2 d hd; have := h'' d' g; omega⟩
theorem rep_zero (m : Mach) : LeastS (Rep m [] []) 0 := .inr ⟨0, rfl, .nil, fun d _ => Nat.zero_le d⟩
/-- The last piece may be taken as one that is not empty. -/
theorem rep_last {m : Mach} {u v : List Int} {d : Nat} (h : Rep m u v d) : (u = [] ∧ v = []) ∨ ∃ u1 u2 v1 v2 d1 d2, u = u1 ++ u2 ∧ v = v1 ++ v2 ∧ ¬ (u2 = [] ∧ v2 = []) ∧ Rep m u1 v1 d1 ∧ Acc m u2 v2 d2 ∧ d1 + d2 ≤ d := by
  induction h with
  | nil => exact .inl ⟨rfl, rfl⟩
  | @snoc u v u' v' d d' h g ih =>
    by_cases hc : u' = [] ∧ v' = []
    · obtain ⟨rfl, rfl⟩ := hc
      rcases ih with ⟨rfl, rfl⟩ | ⟨u1, u2, v1, v2, d1, d2, rfl, rfl, hn, h1, h2, h3⟩
      · exact .inl ⟨rfl, rfl⟩
      · exact .inr ⟨u1, u2, v1, v2, d1, d2, by simp, by simp, hn, h1, h2, by omega⟩
    · exact .inr ⟨u, u', v, v', d, d', rfl, rfl, hc, h, g, Nat.le_refl _⟩
/-- The sums over the ways to split the beginning i, j in front of the place p, q. -/
def RepS (m : Mach) (lu lo : List Int) (i j p q : Nat) (d : Nat) : Prop :=
  ∃ p' q', p' ≤ i ∧ q' ≤ j ∧ ¬ (p' = i ∧ q' = j) ∧ (p' < p ∨ (p' = p ∧ q' < q)) ∧ ∃ d1 d2, d = d1 + d2 ∧ Rep m (lu.take p') (lo.take q') d1 ∧ Acc m ((lu.take i).drop p') ((lo.take j).drop q') d2
theorem reps_start (m : Mach) (lu lo : List Int) (i j : Nat) : LeastS (RepS m lu lo i j 0 0) (-1) :=
  .inl ⟨rfl, fun d ⟨p', q', _, _, _, h, _⟩ => by omega⟩
theorem reps_row {m : Mach} {lu lo : List Int} {i j p : Nat} {r : Int} (h : LeastS (RepS m lu lo i j p (j + 1)) r) : LeastS (RepS m lu lo i j (p + 1) 0) r :=
  h.congr fun d => by
    constructor
    · rintro ⟨p', q', h1, h2, h3, h4, h5⟩; exact ⟨p', q', h1, h2, h3, by omega, h5⟩
    · rintro ⟨p', q', h1, h2, h3, h4, h5⟩; exact ⟨p', q', h1, h2, h3, by omega, h5⟩
theorem reps_skip {m : Mach} {lu lo : List Int} {i j : Nat} {r : Int} (h : LeastS (RepS m lu lo i j i j) r) : LeastS (RepS m lu lo i j i (j + 1)) r :=
  h.congr fun d => by
    constructor
    · rintro ⟨p', q', h1, h2, h3, h4, h5⟩; exact ⟨p', q', h1, h2, h3, by omega, h5⟩
    · rintro ⟨p', q', h1, h2, h3, h4, h5⟩; exact ⟨p', q', h1, h2, h3, by omega, h5⟩
theorem reps_step {m : Mach} {lu lo : List Int} {i j p q : Nat} {r s : Int} (hp : p ≤ i) (hq : q ≤ j) (hn : ¬ (p = i ∧ q = j)) (h : LeastS (RepS m lu lo i j p q) r) (hs : LeastS (Rep m (lu.take p) (lo.take q)) s) :
    LeastS (RepS m lu lo i j p (q + 1)) (stepC r s (wgt m ((lu.take i).drop p) ((lo.take j).drop q))) := by
  have hsum := leastS_sum hs (wgt_least m ((lu.take i).drop p) ((lo.take j).drop q))
  have e : ∀ d, RepS m lu lo i j p (q + 1) d ↔ RepS m lu lo i j p q d ∨ ∃ d1 d2, d = d1 + d2 ∧ Rep m (lu.take p) (lo.take q) d1 ∧ Acc m ((lu.take i).drop p) ((lo.take j).drop q) d2 := fun d => by
    constructor
    · rintro ⟨p', q', h1, h2, h3, h4, h5⟩
      by_cases hc : p' = p ∧ q' = q
      · obtain ⟨rfl, rfl⟩ := hc; exact .inr h5
      · exact .inl ⟨p', q', h1, h2, h3, by omega, h5⟩
    · rintro (⟨p', q', h1, h2, h3, h4, h5⟩ | h5)
      · exact ⟨p', q', h1, h2, h3, by omega, h5⟩
      · exact ⟨p, q, hp, hq, hn, by omega, h5⟩
  have hl := leastS_or e h hsum
  have hlow := h.low
  unfold stepC
  split
  · rename_i hc; rw [if_pos hc] at hl; exact hl
  · rename_i hc; rw [if_neg hc, lightP_none hlow (by omega) (by omega)] at hl; exact hl
theorem reps_none {m : Mach} {lu lo : List Int} {i j p q : Nat} {r s : Int} (hp : p ≤ i) (hq : q ≤ j) (hn : ¬ (p = i ∧ q = j)) (h : LeastS (RepS m lu lo i j p q) r) (hs : LeastS (Rep m (lu.take p) (lo.take q)) s) (h0 : s < 0) :
    LeastS (RepS m lu lo i j p (q + 1)) r := by
  have := reps_step hp hq hn h hs
  unfold stepC at this
  rw [if_neg (by omega)] at this
  exact this
theorem reps_end {m : Mach} {lu lo : List Int} {i j : Nat} {r : Int} (hi : i ≤ lu.length) (hj : j ≤ lo.length) (hn : ¬ (i = 0 ∧ j = 0)) (h : LeastS (RepS m lu lo i j (i + 1) 0) r) : LeastS (Rep m (lu.take i) (lo.take j)) r := by
  refine h.dom ?_ ?_
  · rintro d ⟨p, q, hp, hq, _, _, d1, d2, rfl, h1, h2⟩
    have e1 : lu.take i = lu.take p ++ (lu.take i).drop p := by
      have := (List.take_append_drop p (lu.take i)).symm
      rwa [List.take_take, Nat.min_eq_left hp] at this
    have e2 : lo.take j = lo.take q ++ (lo.take j).drop q := by
      have := (List.take_append_drop q (lo.take j)).symm
      rwa [List.take_take, Nat.min_eq_left hq] at this
    rw [e1, e2]
    exact .snoc h1 h2
  · intro d hd
    rcases rep_last hd with ⟨h1, h2⟩ | ⟨u1, u2, v1, v2, d1, d2, e1, e2, hne, h1, h2, h3⟩
    · exfalso
      apply hn
      have l1 := congrArg List.length h1
      have l2 := congrArg List.length h2
      simp at l1 l2
      refine ⟨?_, ?_⟩
      · rcases l1 with h | h
        · exact h
        · rw [h] at hi; simpa using hi
      · rcases l2 with h | h
        · exact h
        · rw [h] at hj; simpa using hj
    · have l1 : i = u1.length + u2.length := by
        have := congrArg List.length e1
        rw [List.length_take, Nat.min_eq_left hi, List.length_append] at this
        exact this
      have l2 : j = v1.length + v2.length := by
        have := congrArg List.length e2
        rw [List.length_take, Nat.min_eq_left hj, List.length_append] at this
        exact this
      refine ⟨d1 + d2, ⟨u1.length, v1.length, by omega, by omega, ?_, .inl (by omega), d1, d2, rfl, ?_, ?_⟩, h3⟩
      · rintro ⟨g1, g2⟩
        exact hne ⟨List.length_eq_zero_iff.1 (by omega), List.length_eq_zero_iff.1 (by omega)⟩
      · have f1 : lu.take u1.length = u1 := by
          have : lu.take u1.length = (lu.take i).take u1.length := by rw [List.take_take, Nat.min_eq_left (by omega)]
          rw [this, e1]; simp
        have f2 : lo.take v1.length = v1 := by
          have : lo.take v1.length = (lo.take j).take v1.length := by rw [List.take_take, Nat.min_eq_left (by omega)]
          rw [this, e2]; simp
        rw [f1, f2]; exact h1
      · rw [e1, e2]; simpa using h2
/-- What is known of the weights of the beginnings in front of the place i, j. -/
def DP (m : Mach) (lu lo : List Int) (i j : Nat) (b : Nat → Int) : Prop :=
  ∀ i' j', i' ≤ lu.length → j' ≤ lo.length → (i' < i ∨ (i' = i ∧ j' < j)) → LeastS (Rep m (lu.take i') (lo.take j')) (b (ixp lu.length lo.length 0 i' j'))
theorem dp_start (m : Mach) (lu lo : List Int) (b : Nat → Int) : DP m lu lo 0 0 b := fun i' j' _ _ h => by omega
theorem dp_row {m : Mach} {lu lo : List Int} {i : Nat} {b : Nat → Int} (h : DP m lu lo i (lo.length + 1) b) : DP m lu lo (i + 1) 0 b := fun i' j' h1 h2 h3 => h i' j' h1 h2 (by omega)
theorem dp_next {m : Mach} {lu lo : List Int} {i j : Nat} {b : Nat → Int} {r : Int} (hi : i ≤ lu.length) (hj : j ≤ lo.length) (h : DP m lu lo i j b) (hr : LeastS (Rep m (lu.take i) (lo.take j)) r) : DP m lu lo i (j + 1) (setb b (ixp lu.length lo.length 0 i j) r) := fun i' j' h1 h2 h3 => by
  unfold setb
  by_cases e : ixp lu.length lo.length 0 i' j' = ixp lu.length lo.length 0 i j
  · obtain ⟨_, rfl, rfl⟩ := ixp_inj h1 h2 hi hj e
    rw [if_pos rfl]
    exact hr
  · rw [if_neg e]
    refine h i' j' h1 h2 ?_
    rcases h3 with h3 | ⟨rfl, h3⟩
    · exact .inl h3
    · refine .inr ⟨rfl, ?_⟩
      have : j' ≠ j := fun e2 => e (by rw [e2])
      omega
/-- The places in front of i, j are not the place i, j itself. -/
theorem dp_far {lu lo : List Int} {i j p q : Nat} (hi : i ≤ lu.length) (hj : j ≤ lo.length) (hp : p ≤ lu.length) (hq : q ≤ lo.length) (hn : ¬ (p = i ∧ q = j)) : ixp lu.length lo.length 0 p q ≠ ixp lu.length lo.length 0 i j := fun e => by
  obtain ⟨_, rfl, rfl⟩ := ixp_inj hp hq hi hj e
  exact hn ⟨rfl, rfl⟩
end Gm
namespace Go.Proofs.Ytpahodbnljpnnaa
open Go.RowKit Gm Go.Sort Go.Shelf
set_option linter.unusedSimpArgs false
set_option linter.unusedVariables false
theorem star_ok {m : Mach} (h : starF m = (0, 0)) : validate m = (0, 0) ∧ validate (starR m) = (0, 0) ∧ ∀ {u v : List Int} {d : Nat}, Acc (starR m) u v d ↔ Rep m u v d := by
  by_cases hv : validate m = (0, 0)
  · have vm := valid_of hv
    unfold starF at h
    rw [if_pos hv, finF_zero] at h
    have e : starR m = ⟨1 + m.n, srtA (starArcs m), [⟨0, 0⟩]⟩ := by unfold starR finM; rw [if_pos hv, if_neg (by omega)]
    rw [e]
    exact ⟨hv, validate_of (star_valid vm h.1 h.2), acc_star (rng_valid vm) (fun _ => mem_srtA)⟩
  · unfold starF at h; rw [if_neg hv] at h; exact absurd h hv
theorem star_end {m : Mach} (h : starF m = (0, 0)) {lu lo : List Int} (hu : wordF lu 0 = (0, 0)) (ho : wordF lo 0 = (0, 0)) {r : Int} (hr : LeastS (Rep m (lu.take lu.length) (lo.take lo.length)) r) : wv (starR m) lu lo = r := by
  obtain ⟨_, hv, ha⟩ := star_ok h
  rw [wv_at hv hu ho]
  rw [List.take_length, List.take_length] at hr
  exact wgt_eq (LeastS.congr hr fun d => ha)
theorem rep_small {m : Mach} (h : starF m = (0, 0)) {u v : List Int} (hu : u.length ≤ 30) (hv : v.length ≤ 30) {r : Int} (hr : LeastS (Rep m u v) r) : r ≤ 384401000000 := by
  obtain ⟨_, hv', ha⟩ := star_ok h
  have e : wgt (starR m) u v = r := wgt_eq (LeastS.congr hr fun d => ha)
  rw [← e]
  exact wgt_small (valid_of hv') hu hv
end Go.Proofs.Ytpahodbnljpnnaa
