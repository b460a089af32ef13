/- More of the plain law of the search: places as numbers, what is not done yet, the least weight step by step. -/
import Derived.Test.YtmgpcnkmmgkjgaaWtP
import Derived.Test.YtmgpcnkmmgkjgaaPlG
namespace Gm
/-- The weight of final state i among the first ones, or -1. -/
def finU (l : List Fnl) (i : Nat) : Int := ((l.reverse.find? fun x => decide (x.s = (i : Int))).map (·.w)).getD (-1)
theorem takeF {l : List Fnl} {k : Nat} {x : Fnl} (hk : k < l.length) (hx : l.getD k dF = x) : l.take (k + 1) = l.take k ++ [x] := by
  have e : l.getD k dF = l[k] := by simp [hk]
  rw [List.take_succ_eq_append_getElem hk, ← e, hx]
theorem finU_snoc (l : List Fnl) (x : Fnl) (i : Nat) : finU (l ++ [x]) i = if x.s = (i : Int) then x.w else finU l i := by
  unfold finU
  rw [List.reverse_append]
  by_cases h : x.s = (i : Int) <;> simp [h]
theorem finU_mem {l : List Fnl} {i : Nat} (h : 0 ≤ finU l i) : ∃ x ∈ l, x.s = (i : Int) ∧ x.w = finU l i := by
  unfold finU at h ⊢
  cases hf : l.reverse.find? fun x => decide (x.s = (i : Int)) with
  | none => rw [hf] at h; simp at h
  | some y =>
    have h1 := List.find?_some hf
    have h2 := List.mem_of_find?_eq_some hf
    exact ⟨y, by simpa using h2, by simpa using h1, by simp⟩
theorem finU_of {l : List Fnl} {x : Fnl} (hx : x ∈ l) (h0 : 0 ≤ x.s) (hu : ∀ y ∈ l, y.s = x.s → y.w = x.w) : finU l x.s.toNat = x.w := by
  unfold finU
  cases hf : l.reverse.find? fun y => decide (y.s = (x.s.toNat : Int)) with
  | none =>
    have := List.find?_eq_none.1 hf x (by simpa using hx)
    simp at this; omega
  | some y =>
    have h1 := List.find?_some hf
    have h2 := List.mem_of_find?_eq_some hf
    simp at h1 h2
    simp [hu y h2 (by omega)]
/-- A place as a number. -/
def ixp (nu no s i j : Nat) : Nat := (s * (nu + 1) + i) * (no + 1) + j
theorem ixp_inj {nu no s i j s' i' j' : Nat} (hi : i ≤ nu) (hj : j ≤ no) (hi' : i' ≤ nu) (hj' : j' ≤ no) (h : ixp nu no s i j = ixp nu no s' i' j') : s = s' ∧ i = i' ∧ j = j' := by
  unfold ixp at h
  have e1 : ((s * (nu + 1) + i) * (no + 1) + j) / (no + 1) = s * (nu + 1) + i := by
    rw [Nat.add_comm, Nat.add_mul_div_right _ _ (by omega), Nat.div_eq_of_lt (by omega)]; omega
  have e2 : ((s' * (nu + 1) + i') * (no + 1) + j') / (no + 1) = s' * (nu + 1) + i' := by
    rw [Nat.add_comm, Nat.add_mul_div_right _ _ (by omega), Nat.div_eq_of_lt (by omega)]; omega
  rw [h, e2] at e1
  have hjj : j = j' := by rw [e1] at h; omega
  have f1 : (s * (nu + 1) + i) / (nu + 1) = s := by
    rw [Nat.add_comm, Nat.add_mul_div_right _ _ (by omega), Nat.div_eq_of_lt (by omega)]; omega
  have f2 : (s' * (nu + 1) + i') / (nu + 1) = s' := by
    rw [Nat.add_comm, Nat.add_mul_div_right _ _ (by omega), Nat.div_eq_of_lt (by omega)]; omega
  rw [← e1, f2] at f1
  subst f1
  exact ⟨rfl, by omega, hjj⟩
theorem ixp_lt {S nu no s i j : Nat} (hs : s < S) (hi : i ≤ nu) (hj : j ≤ no) : ixp nu no s i j < S * (nu + 1) * (no + 1) := by
  unfold ixp
  have h1 : s * (nu + 1) + i + 1 ≤ S * (nu + 1) := by
    have := Nat.mul_le_mul_right (nu + 1) (show s + 1 ≤ S from hs)
    rw [Nat.add_mul] at this
    omega
  have h2 := Nat.mul_le_mul_right (no + 1) h1
  rw [Nat.add_mul (s * (nu + 1) + i) 1] at h2
  omega
/-- So many below n are not done. -/
def undn (dn : Nat → Bool) : Nat → Nat
  | 0 => 0
  | n + 1 => undn dn n + (if dn n = true then 0 else 1)
theorem undn_le (dn : Nat → Bool) : ∀ n, undn dn n ≤ n
  | 0 => Nat.le_refl _
  | n + 1 => by
    have := undn_le dn n
    unfold undn
    split <;> omega
theorem undn_none : ∀ n, undn (fun _ => false) n = n
  | 0 => rfl
  | n + 1 => by
    have := undn_none n
    unfold undn
    rw [this]; simp
theorem undn_far {dn : Nat → Bool} {k : Nat} : ∀ n, n ≤ k → undn (upd dn k) n = undn dn n
  | 0, _ => rfl
  | n + 1, h => by
    have := undn_far (dn := dn) (k := k) n (by omega)
    unfold undn
    rw [this]
    have e : upd dn k n = dn n := by unfold upd; rw [if_neg (by omega)]
    rw [e]
theorem undn_upd {dn : Nat → Bool} {k : Nat} (h : dn k = false) : ∀ n, k < n → undn (upd dn k) n + 1 = undn dn n
  | 0, hk => by omega
  | n + 1, hk => by
    unfold undn
    by_cases e : k = n
    · subst e
      rw [undn_far k (Nat.le_refl _), upd_self, h]; simp
    · have ih := undn_upd h n (by omega)
      have e2 : upd dn k n = dn n := by unfold upd; rw [if_neg (by omega)]
      rw [e2]
      omega
theorem rch_s {m : Mach} {u v : List Int} {S : Nat} (hS : 0 < S) (hr : inRange m.arcs S) {s i j d : Nat} (h : Rch m u v s i j d) : s < S := by
  cases h with
  | start _ => exact hS
  | step h1 h2 h3 h4 =>
    have := hr _ h2
    omega
/-- The least weight so far, when a place is done. -/
def nextL (m : Mach) (nu no : Nat) (x : Pl) (r : Int) : Int :=
  if x.i = nu ∧ x.j = no ∧ 0 ≤ finU m.fins x.s then (if r < 0 ∨ (x.w : Int) + finU m.fins x.s < r then (x.w : Int) + finU m.fins x.s else r) else r
theorem leastD_step {m : Mach} {u v : List Int} {D : Nat → Nat → Nat → Option Nat} {r : Int} {x : Pl} (hf0 : ∀ y ∈ m.fins, 0 ≤ y.s ∧ 0 ≤ y.w) (hu : ∀ y ∈ m.fins, ∀ z ∈ m.fins, z.s = y.s → z.w = y.w)
    (h : LeastD m u v D r) (hr : Rch m u v x.s x.i x.j x.w) : LeastD m u v (setD D x.s x.i x.j x.w) (nextL m u.length v.length x r) := by
  obtain ⟨h1, h2⟩ := h
  unfold nextL
  by_cases hc : x.i = u.length ∧ x.j = v.length ∧ 0 ≤ finU m.fins x.s
  · rw [if_pos hc]
    obtain ⟨c1, c2, c3⟩ := hc
    obtain ⟨y, hy, hy1, hy2⟩ := finU_mem c3
    have hAcc : Acc m u v (x.w + y.w.toNat) := ⟨y, hy, x.w, by
      rw [show y.s.toNat = x.s by omega, ← c1, ← c2]; exact hr, rfl⟩
    have hsum : (x.w : Int) + finU m.fins x.s = ((x.w + y.w.toNat : Nat) : Int) := by
      have := (hf0 y hy).2
      omega
    have hnew : ∀ r' : Int, (r' ≤ (x.w : Int) + finU m.fins x.s) → 0 ≤ r' → (∀ z ∈ m.fins, ∀ d, D z.s.toNat u.length v.length = some d → 0 ≤ r' ∧ r' ≤ ((d + z.w.toNat : Nat) : Int)) →
        ∀ z ∈ m.fins, ∀ d, setD D x.s x.i x.j x.w z.s.toNat u.length v.length = some d → 0 ≤ r' ∧ r' ≤ ((d + z.w.toNat : Nat) : Int) := by
      intro r' hle h0 hold z hz d hd
      unfold setD at hd
      by_cases e : z.s.toNat = x.s ∧ u.length = x.i ∧ v.length = x.j
      · rw [if_pos e] at hd
        simp only [Option.some.injEq] at hd
        have hzs := (hf0 z hz).1
        have hzw : z.w = y.w := hu y hy z hz (by omega)
        have := (hf0 y hy).2
        refine ⟨h0, ?_⟩
        rw [← hd, hzw]; omega
      · rw [if_neg e] at hd
        exact hold z hz d hd
    by_cases hlt : r < 0 ∨ (x.w : Int) + finU m.fins x.s < r
    · rw [if_pos hlt]
      refine ⟨.inr ⟨_, hsum, hAcc⟩, hnew _ (Int.le_refl _) (by omega) (fun z hz d hd => ?_)⟩
      have := h2 z hz d hd
      omega
    · rw [if_neg hlt]
      exact ⟨h1, hnew _ (by omega) (by omega) h2⟩
  · rw [if_neg hc]
    refine ⟨h1, fun z hz d hd => ?_⟩
    unfold setD at hd
    by_cases e : z.s.toNat = x.s ∧ u.length = x.i ∧ v.length = x.j
    · exfalso
      apply hc
      refine ⟨e.2.1.symm, e.2.2.symm, ?_⟩
      have := finU_of hz (hf0 z hz).1 (hu z hz)
      rw [e.1] at this
      rw [this]; exact (hf0 z hz).2
    · rw [if_neg e] at hd
      exact h2 z hz d hd
theorem leastD_start {m : Mach} {u v : List Int} : LeastD m u v (fun _ _ _ => none) (-1) := ⟨.inl rfl, fun _ _ _ hd => by cases hd⟩
end Gm
