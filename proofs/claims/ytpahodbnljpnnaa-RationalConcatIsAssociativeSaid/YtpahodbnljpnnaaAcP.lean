/- The concatenation of machines without a fault: plain law. -/
import Derived.Test.YtpahodbnljpnnaaAlU
import Derived.Test.YtpahodbnljpnnaaLiW
namespace Go.Proofs.Ytpahodbnljpnnaa
open Go.RowKit Gm Go.Sort Go.Shelf
set_option linter.unusedSimpArgs false
set_option linter.unusedVariables false
theorem acc_none {m : Mach} (h : Valid m) (h0 : m.n = 0) {u v : List Int} {d : Nat} : ¬ Acc m u v d := fun hd => by
  obtain ⟨x, hx, _⟩ := hd
  rw [(zero_none h h0).2] at hx
  simp at hx
theorem empty_val : validate emptyM = (0, 0) := by decide
theorem cat_ok {a b : Mach} (h : catF a b = (0, 0)) : validate a = (0, 0) ∧ validate b = (0, 0) ∧ validate (catR a b) = (0, 0) ∧ (((a.n = 0 ∨ b.n = 0) ∧ catR a b = emptyM) ∨ (0 < a.n ∧ 0 < b.n ∧ catR a b = ⟨a.n + b.n, srtA (catArcs a b), catFins a b⟩)) ∧
    ∀ {u v : List Int} {d : Nat}, Acc (catR a b) u v d ↔ ∃ u1 u2 v1 v2 d1 d2, u = u1 ++ u2 ∧ v = v1 ++ v2 ∧ d = d1 + d2 ∧ Acc a u1 v1 d1 ∧ Acc b u2 v2 d2 := by
  by_cases ht : twoF a b = (0, 0)
  · obtain ⟨ha, hb⟩ := twoF_zero ht
    have va := valid_of ha
    have vb := valid_of hb
    have na := va.n0
    have nb := vb.n0
    unfold catF at h
    rw [if_pos ht] at h
    by_cases hz : a.n = 0 ∨ b.n = 0
    · have e : catR a b = emptyM := by unfold catR; rw [if_pos ht, if_pos hz]
      rw [e]
      refine ⟨ha, hb, empty_val, .inl ⟨hz, rfl⟩, ?_⟩
      intro u v d
      constructor
      · intro hd; exact absurd hd (acc_none (valid_of empty_val) rfl)
      · rintro ⟨_, _, _, _, _, _, _, _, _, h1, h2⟩
        rcases hz with hz | hz
        · exact absurd h1 (acc_none va hz)
        · exact absurd h2 (acc_none vb hz)
    · rw [if_neg hz, finF_zero] at h
      have e : catR a b = ⟨a.n + b.n, srtA (catArcs a b), catFins a b⟩ := by unfold catR finM; rw [if_pos ht, if_neg hz, if_neg (by omega)]
      rw [e]
      exact ⟨ha, hb, validate_of (cat_valid va vb (by omega) h.1 h.2), .inr ⟨by omega, by omega, rfl⟩, acc_cat (rng_valid va) (rng_valid vb) (by omega) (by omega) (fun _ => mem_srtA)⟩
  · unfold catF at h; rw [if_neg ht] at h; exact absurd h ht
theorem twoF_ok {a b : Mach} (ha : validate a = (0, 0)) (hb : validate b = (0, 0)) : twoF a b = (0, 0) := by unfold twoF; rw [if_pos ha]; exact hb
theorem cat_as {a b c : Mach} (h1 : catF a b = (0, 0)) (h2 : catF b c = (0, 0)) : catF (catR a b) c = catF a (catR b c) := by
  obtain ⟨ha, hb, hab, c1, _⟩ := cat_ok h1
  obtain ⟨_, hc, hbc, c2, _⟩ := cat_ok h2
  unfold catF
  rw [if_pos (twoF_ok hab hc), if_pos (twoF_ok ha hbc)]
  rcases c1 with ⟨z1, e1⟩ | ⟨p1, q1, e1⟩
  · rw [if_pos (.inl (by rw [e1]; rfl))]
    rcases z1 with z1 | z1
    · rw [if_pos (.inl z1)]
    · rcases c2 with ⟨z2, e2⟩ | ⟨p2, _, _⟩
      · rw [if_pos (.inr (by rw [e2]; rfl))]
      · omega
  · rcases c2 with ⟨z2, e2⟩ | ⟨p2, q2, e2⟩
    · rw [if_pos (c := a.n = 0 ∨ (catR b c).n = 0) (.inr (by rw [e2]; rfl)), if_pos (.inr (by omega))]
    · rw [e1, e2, if_neg (by simp only; omega), if_neg (by simp only; omega)]
      have l1 : (catArcs ⟨a.n + b.n, srtA (catArcs a b), catFins a b⟩ c).length = (catArcs a ⟨b.n + c.n, srtA (catArcs b c), catFins b c⟩).length := by
        have s1 := (srtA_perm (catArcs a b)).length_eq
        have s2 := (srtA_perm (catArcs b c)).length_eq
        unfold catArcs at s1 s2 ⊢
        unfold catFins
        simp only [List.length_append, List.length_map] at s1 s2 ⊢
        omega
      rw [l1, Int.add_assoc]
theorem cat_as_wv {a b c : Mach} (h1 : catF a b = (0, 0)) (h2 : catF b c = (0, 0)) (h3 : catF (catR a b) c = (0, 0)) (lu lo : List Int) : wv (catR (catR a b) c) lu lo = wv (catR a (catR b c)) lu lo := by
  have h4 : catF a (catR b c) = (0, 0) := by rw [← cat_as h1 h2]; exact h3
  obtain ⟨_, _, _, _, a1⟩ := cat_ok h1
  obtain ⟨_, _, _, _, a2⟩ := cat_ok h2
  obtain ⟨_, _, v3, _, a3⟩ := cat_ok h3
  obtain ⟨_, _, v4, _, a4⟩ := cat_ok h4
  unfold wv
  have hw : wgt (catR (catR a b) c) lu lo = wgt (catR a (catR b c)) lu lo := wgt_congr fun d => by
    rw [a3, a4]
    simp only [a1, a2]
    exact acc_cat3
  rw [wF_valid v3 v4, hw]
theorem pw_empty {s t : Int} {u v : List Int} {d : Nat} (h : Pw [] s t u v d) : u = [] ∧ v = [] ∧ d = 0 := by
  cases h with
  | nil => exact ⟨rfl, rfl, rfl⟩
  | snoc _ h _ => cases h
theorem nums_nil (w : World) (B : Nat) : Nums w B (.slice none 0 0) [] := ⟨none, 0, 0, rfl, hide rfl, Nat.le_refl _, Nat.zero_le _, Rd.zero⟩
def oneM : Mach := ⟨1, [], [⟨0, 0⟩]⟩
theorem one_F : litF [] [] 0 = (0, 0) := by decide
theorem one_R : litR [] [] 0 = oneM := by decide
theorem one_acc {u v : List Int} {d : Nat} : Acc oneM u v d ↔ u = [] ∧ v = [] ∧ d = 0 := by
  rw [(rng_valid (valid_of (by decide : validate oneM = (0, 0)))).acc]
  constructor
  · rintro ⟨_, x, hx, e, hp, rfl⟩
    simp only [oneM, List.mem_singleton] at hx
    subst hx
    obtain ⟨e1, e2, rfl⟩ := pw_empty hp
    exact ⟨e1, e2, rfl⟩
  · rintro ⟨rfl, rfl, rfl⟩
    exact ⟨by decide, ⟨0, 0⟩, by simp [oneM], 0, .nil .., rfl⟩
theorem one_wv {a : Mach} (h : catF oneM a = (0, 0)) (lu lo : List Int) : wv (catR oneM a) lu lo = wv a lu lo := by
  obtain ⟨_, va, v1, _, a1⟩ := cat_ok h
  unfold wv
  have hw : wgt (catR oneM a) lu lo = wgt a lu lo := wgt_congr fun d => by
    rw [a1]
    simp only [one_acc]
    constructor
    · rintro ⟨_, _, _, _, _, _, rfl, rfl, rfl, ⟨rfl, rfl, rfl⟩, h2⟩
      simpa using h2
    · intro hd
      exact ⟨[], lu, [], lo, 0, d, rfl, rfl, by omega, ⟨rfl, rfl, rfl⟩, hd⟩
  rw [wF_valid v1 va, hw]
/-- The three faults and weights of the law. -/
theorem as_cases (a b c : Mach) (lu lo : List Int) : fEq (catF a b).1 (catF a b).2 0 0 = false ∨ (catF a b = (0, 0) ∧ fEq (catF b c).1 (catF b c).2 0 0 = false) ∨ (catF a b = (0, 0) ∧ catF b c = (0, 0) ∧ catF (catR a b) c = catF a (catR b c) ∧
    (fEq (catF (catR a b) c).1 (catF (catR a b) c).2 0 0 = false ∨ (catF (catR a b) c = (0, 0) ∧ fEq (catF oneM a).1 (catF oneM a).2 0 0 = false) ∨ (catF (catR a b) c = (0, 0) ∧ catF oneM a = (0, 0) ∧ wv (catR (catR a b) c) lu lo = wv (catR a (catR b c)) lu lo ∧ wv (catR oneM a) lu lo = wv a lu lo))) := by
  by_cases h1 : catF a b = (0, 0)
  · by_cases h2 : catF b c = (0, 0)
    · refine .inr (.inr ⟨h1, h2, cat_as h1 h2, ?_⟩)
      by_cases h3 : catF (catR a b) c = (0, 0)
      · by_cases h4 : catF oneM a = (0, 0)
        · exact .inr (.inr ⟨h3, h4, cat_as_wv h1 h2 h3 lu lo, one_wv h4 lu lo⟩)
        · exact .inr (.inl ⟨h3, fEq0_false h4⟩)
      · exact .inl (fEq0_false h3)
    · exact .inr (.inl ⟨h1, fEq0_false h2⟩)
  · exact .inl (fEq0_false h1)
end Go.Proofs.Ytpahodbnljpnnaa
