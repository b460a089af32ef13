/- Paths of a machine that read and write two words, and the least weight of one: plain law. No program in sight. -/
import Derived.Test.YtmgpcnkmmgkjgaaHpP
import Derived.Test.YtmgpcnkmmgkjgaaPlT
namespace Gm
/-- One arc, from place i of the word that is read and place j of the word that is written. -/
def stp (u v : List Int) (a : Arc) (i j : Nat) : Option (Nat × Nat) :=
  if a.i ≠ 0 ∧ (i = u.length ∨ u.getD i 0 ≠ a.i) then none
  else if a.o ≠ 0 ∧ (j = v.length ∨ v.getD j 0 ≠ a.o) then none
  else some (if a.i = 0 then i else i + 1, if a.o = 0 then j else j + 1)
theorem stp_le {u v : List Int} {a : Arc} {i j i' j' : Nat} (h : stp u v a i j = some (i', j')) (hi : i ≤ u.length) (hj : j ≤ v.length) : i' ≤ u.length ∧ j' ≤ v.length := by
  unfold stp at h
  by_cases h1 : a.i ≠ 0 ∧ (i = u.length ∨ u.getD i 0 ≠ a.i)
  · rw [if_pos h1] at h; cases h
  · rw [if_neg h1] at h
    by_cases h2 : a.o ≠ 0 ∧ (j = v.length ∨ v.getD j 0 ≠ a.o)
    · rw [if_pos h2] at h; cases h
    · rw [if_neg h2] at h
      simp only [Option.some.injEq, Prod.mk.injEq] at h
      obtain ⟨rfl, rfl⟩ := h
      have g1 : a.i ≠ 0 → i ≠ u.length := fun h3 h4 => h1 ⟨h3, .inl h4⟩
      have g2 : a.o ≠ 0 → j ≠ v.length := fun h3 h4 => h2 ⟨h3, .inl h4⟩
      constructor
      · by_cases h3 : a.i = 0
        · rw [if_pos h3]; exact hi
        · rw [if_neg h3]; have := g1 h3; omega
      · by_cases h3 : a.o = 0
        · rw [if_pos h3]; exact hj
        · rw [if_neg h3]; have := g2 h3; omega
/-- State s is reached, with i labels read and j labels written, by a path of weight d. -/
inductive Rch (m : Mach) (u v : List Int) : Nat → Nat → Nat → Nat → Prop
  | start : 0 < m.n → Rch m u v 0 0 0 0
  | step {s i j d i' j' : Nat} {a : Arc} : Rch m u v s i j d → a ∈ m.arcs → a.f = (s : Int) → stp u v a i j = some (i', j') → Rch m u v a.t.toNat i' j' (d + a.w.toNat)
/-- A path from the first state to a final one that reads u and writes v, and its weight. -/
def Acc (m : Mach) (u v : List Int) (d : Nat) : Prop := ∃ x ∈ m.fins, ∃ e, Rch m u v x.s.toNat u.length v.length e ∧ d = e + x.w.toNat
/-- r is the least weight of one, or -1 if there is none. -/
def Least (m : Mach) (u v : List Int) (r : Int) : Prop := (r = -1 ∧ ∀ d, ¬ Acc m u v d) ∨ (∃ n : Nat, r = (n : Int) ∧ Acc m u v n ∧ ∀ d, Acc m u v d → n ≤ d)
theorem least_uniq {m : Mach} {u v : List Int} {r r' : Int} (h : Least m u v r) (h' : Least m u v r') : r = r' := by
  rcases h with ⟨h1, h2⟩ | ⟨n, h1, h2, h3⟩ <;> rcases h' with ⟨g1, g2⟩ | ⟨k, g1, g2, g3⟩
  · omega
  · exact absurd g2 (h2 k)
  · exact absurd h2 (g2 n)
  · have := h3 k g2; have := g3 n h2; omega
theorem least_below (P : Nat → Prop) : ∀ n, P n → ∃ k, P k ∧ ∀ d, P d → k ≤ d := by
  intro n
  induction n using Nat.strongRecOn with
  | ind n ih =>
    intro h
    by_cases hx : ∃ d, P d ∧ d < n
    · obtain ⟨d, hd, hlt⟩ := hx
      exact ih d hlt hd
    · exact ⟨n, h, fun d hd => by
        rcases Nat.lt_or_ge d n with h1 | h1
        · exact absurd ⟨d, hd, h1⟩ hx
        · exact h1⟩
theorem least_ex (m : Mach) (u v : List Int) : ∃ r, Least m u v r := by
  by_cases h : ∃ d, Acc m u v d
  · obtain ⟨d, hd⟩ := h
    obtain ⟨k, hk, hk2⟩ := least_below _ d hd
    exact ⟨k, .inr ⟨k, rfl, hk, hk2⟩⟩
  · exact ⟨-1, .inl ⟨rfl, fun d hd => h ⟨d, hd⟩⟩⟩
/-- The least weight. -/
noncomputable def wgt (m : Mach) (u v : List Int) : Int := Classical.choose (least_ex m u v)
theorem wgt_least (m : Mach) (u v : List Int) : Least m u v (wgt m u v) := Classical.choose_spec (least_ex m u v)
theorem wgt_eq {m : Mach} {u v : List Int} {r : Int} (h : Least m u v r) : wgt m u v = r := least_uniq (wgt_least m u v) h
/-- Places that are closed under the arcs, each with a weight that is reached: they hold all that is reached, at its least. -/
theorem closed_least {m : Mach} {u v : List Int} {B : Nat → Nat → Nat → Option Nat} (h0 : 0 < m.n → B 0 0 0 = some 0)
    (hc : ∀ s i j d, B s i j = some d → i ≤ u.length → j ≤ v.length → ∀ a ∈ m.arcs, a.f = (s : Int) → ∀ i' j', stp u v a i j = some (i', j') → ∃ d', B a.t.toNat i' j' = some d' ∧ d' ≤ d + a.w.toNat) :
    ∀ s i j d, Rch m u v s i j d → i ≤ u.length ∧ j ≤ v.length ∧ ∃ d', B s i j = some d' ∧ d' ≤ d := by
  intro s i j d h
  induction h with
  | start hn => exact ⟨Nat.zero_le _, Nat.zero_le _, 0, h0 hn, Nat.le_refl _⟩
  | step h1 h2 h3 h4 ih =>
    obtain ⟨g1, g2, d1, g3, g4⟩ := ih
    obtain ⟨k1, k2⟩ := stp_le h4 g1 g2
    obtain ⟨d2, k3, k4⟩ := hc _ _ _ _ g3 g1 g2 _ h2 h3 _ _ h4
    exact ⟨k1, k2, d2, k3, by omega⟩
theorem rch_in {m : Mach} {u v : List Int} {s i j d : Nat} (h : Rch m u v s i j d) : i ≤ u.length ∧ j ≤ v.length := by
  induction h with
  | start hn => exact ⟨Nat.zero_le _, Nat.zero_le _⟩
  | step h1 h2 h3 h4 ih => exact stp_le h4 ih.1 ih.2
/-- The state of the search with a queue: q: what is open; D: the weight of each place that is done; la: the last weight taken; the arcs from place (s0, i0, j0) are followed as far as Y says. -/
structure Dij (m : Mach) (u v : List Int) (q : List Pl) (D : Nat → Nat → Nat → Option Nat) (la : Nat) (s0 i0 j0 : Nat) (Y : Arc → Prop) : Prop where
  open_ : ∀ e ∈ q, Rch m u v e.s e.i e.j e.w ∧ la ≤ e.w
  done_ : ∀ s i j d, D s i j = some d → Rch m u v s i j d ∧ d ≤ la
  next_ : ∀ s i j d, D s i j = some d → ∀ a ∈ m.arcs, a.f = (s : Int) → ((s, i, j) = (s0, i0, j0) → Y a) → ∀ i' j', stp u v a i j = some (i', j') →
    (∃ e ∈ q, e.s = a.t.toNat ∧ e.i = i' ∧ e.j = j' ∧ e.w ≤ d + a.w.toNat) ∨ ∃ d', D a.t.toNat i' j' = some d' ∧ d' ≤ d + a.w.toNat
  start_ : (∃ e ∈ q, e.s = 0 ∧ e.i = 0 ∧ e.j = 0 ∧ e.w = 0) ∨ D 0 0 0 = some 0
theorem dij_start {m : Mach} {u v : List Int} (h : 0 < m.n) : Dij m u v [⟨0, 0, 0, 0⟩] (fun _ _ _ => none) 0 0 0 0 (fun _ => True) where
  open_ := by
    intro e he
    simp only [List.mem_singleton] at he
    subst he
    exact ⟨.start h, Nat.le_refl _⟩
  done_ := by intro s i j d hd; cases hd
  next_ := by intro s i j d hd; cases hd
  start_ := .inl ⟨⟨0, 0, 0, 0⟩, by simp, rfl, rfl, rfl, rfl⟩
/-- An open place is taken that is done. -/
theorem dij_skip {m : Mach} {u v : List Int} {q q' : List Pl} {D : Nat → Nat → Nat → Option Nat} {la s0 i0 j0 : Nat} {e : Pl} {d : Nat} (h : Dij m u v q D la s0 i0 j0 (fun _ => True)) (hq : q.Perm (e :: q')) (hd : D e.s e.i e.j = some d) : Dij m u v q' D la s0 i0 j0 (fun _ => True) where
  open_ := fun x hx => h.open_ x (hq.mem_iff.2 (by simp [hx]))
  done_ := h.done_
  next_ := by
    intro s i j d1 h1 a ha hf hY i' j' hs
    rcases h.next_ s i j d1 h1 a ha hf hY i' j' hs with ⟨x, hx, g1, g2, g3, g4⟩ | h2
    · rcases List.mem_cons.1 (hq.mem_iff.1 hx) with rfl | hx
      · right
        rw [← g1, ← g2, ← g3]
        have k1 := (h.done_ _ _ _ _ hd).2
        have k2 := (h.open_ x (hq.mem_iff.2 (by simp))).2
        exact ⟨d, hd, by omega⟩
      · exact .inl ⟨x, hx, g1, g2, g3, g4⟩
    · exact .inr h2
  start_ := by
    rcases h.start_ with ⟨x, hx, g1, g2, g3, g4⟩ | h2
    · rcases List.mem_cons.1 (hq.mem_iff.1 hx) with rfl | hx
      · right
        rw [g1, g2, g3] at hd
        have k1 := (h.done_ _ _ _ _ hd).2
        have k2 := (h.open_ x (hq.mem_iff.2 (by simp))).2
        rw [hd]; congr 1; omega
      · exact .inl ⟨x, hx, g1, g2, g3, g4⟩
    · exact .inr h2
def setD (D : Nat → Nat → Nat → Option Nat) (s i j d : Nat) : Nat → Nat → Nat → Option Nat := fun s' i' j' => if s' = s ∧ i' = i ∧ j' = j then some d else D s' i' j'
/-- An open place is taken, the lightest one, and is done now. -/
theorem dij_take {m : Mach} {u v : List Int} {q q' : List Pl} {D : Nat → Nat → Nat → Option Nat} {la s0 i0 j0 : Nat} {e : Pl} (h : Dij m u v q D la s0 i0 j0 (fun _ => True)) (hq : q.Perm (e :: q')) (hm : ∀ y ∈ q', e.w ≤ y.w) (hd : D e.s e.i e.j = none) :
    Dij m u v q' (setD D e.s e.i e.j e.w) e.w e.s e.i e.j (fun _ => False) where
  open_ := fun x hx => ⟨(h.open_ x (hq.mem_iff.2 (by simp [hx]))).1, hm x hx⟩
  done_ := by
    intro s i j d hs
    have hla := (h.open_ e (hq.mem_iff.2 (by simp)))
    unfold setD at hs
    by_cases hc : s = e.s ∧ i = e.i ∧ j = e.j
    · rw [if_pos hc] at hs
      obtain ⟨rfl, rfl, rfl⟩ := hc
      simp only [Option.some.injEq] at hs
      subst hs
      exact ⟨hla.1, Nat.le_refl _⟩
    · rw [if_neg hc] at hs
      have := h.done_ s i j d hs
      exact ⟨this.1, by omega⟩
  next_ := by
    intro s i j d1 h1 a ha hf hY i' j' hs
    unfold setD at h1
    by_cases hc : s = e.s ∧ i = e.i ∧ j = e.j
    · exact absurd (hY (by rw [hc.1, hc.2.1, hc.2.2])) id
    · rw [if_neg hc] at h1
      rcases h.next_ s i j d1 h1 a ha hf (fun _ => trivial) i' j' hs with ⟨x, hx, g1, g2, g3, g4⟩ | ⟨d2, g1, g2⟩
      · rcases List.mem_cons.1 (hq.mem_iff.1 hx) with rfl | hx
        · right
          refine ⟨x.w, ?_, g4⟩
          unfold setD
          rw [if_pos ⟨g1.symm, g2.symm, g3.symm⟩]
        · exact .inl ⟨x, hx, g1, g2, g3, g4⟩
      · right
        refine ⟨d2, ?_, g2⟩
        unfold setD
        rw [if_neg (fun hh => by rw [hh.1, hh.2.1, hh.2.2, hd] at g1; cases g1)]
        exact g1
  start_ := by
    rcases h.start_ with ⟨x, hx, g1, g2, g3, g4⟩ | h2
    · rcases List.mem_cons.1 (hq.mem_iff.1 hx) with rfl | hx
      · right
        unfold setD
        rw [if_pos ⟨g1.symm, g2.symm, g3.symm⟩, g4]
      · exact .inl ⟨x, hx, g1, g2, g3, g4⟩
    · right
      unfold setD
      rw [if_neg (fun hh => by rw [← hh.1, ← hh.2.1, ← hh.2.2, h2] at hd; cases hd)]
      exact h2
/-- An arc from the place is followed: it leads nowhere. -/
theorem dij_none {m : Mach} {u v : List Int} {q : List Pl} {D : Nat → Nat → Nat → Option Nat} {la s0 i0 j0 : Nat} {Y : Arc → Prop} {a : Arc} (h : Dij m u v q D la s0 i0 j0 Y) (hs : stp u v a i0 j0 = none) : Dij m u v q D la s0 i0 j0 (fun b => Y b ∨ b = a) where
  open_ := h.open_
  done_ := h.done_
  next_ := by
    intro s i j d1 h1 b hb hf hY i' j' hst
    refine h.next_ s i j d1 h1 b hb hf (fun hp => ?_) i' j' hst
    rcases hY hp with hy | rfl
    · exact hy
    · simp only [Prod.mk.injEq] at hp
      obtain ⟨_, rfl, rfl⟩ := hp
      rw [hs] at hst; cases hst
  start_ := h.start_
/-- An arc from the place is followed: what it leads to is open now. -/
theorem dij_push {m : Mach} {u v : List Int} {q q' : List Pl} {D : Nat → Nat → Nat → Option Nat} {la s0 i0 j0 i1 j1 d0 : Nat} {Y : Arc → Prop} {a : Arc} (h : Dij m u v q D la s0 i0 j0 Y) (ha : a ∈ m.arcs) (hf : a.f = (s0 : Int)) (hs : stp u v a i0 j0 = some (i1, j1)) (hd : D s0 i0 j0 = some d0) (hla : d0 = la)
    (hq : q'.Perm (⟨d0 + a.w.toNat, a.t.toNat, i1, j1⟩ :: q)) : Dij m u v q' D la s0 i0 j0 (fun b => Y b ∨ b = a) where
  open_ := by
    intro e he
    rcases List.mem_cons.1 (hq.mem_iff.1 he) with rfl | he
    · exact ⟨.step (h.done_ _ _ _ _ hd).1 ha hf hs, by simp only; omega⟩
    · exact h.open_ e he
  done_ := h.done_
  next_ := by
    intro s i j d1 h1 b hb hf' hY i' j' hst
    by_cases hp : (s, i, j) = (s0, i0, j0) ∧ b = a
    · obtain ⟨hp, rfl⟩ := hp
      simp only [Prod.mk.injEq] at hp
      obtain ⟨rfl, rfl, rfl⟩ := hp
      rw [hs] at hst
      simp only [Option.some.injEq, Prod.mk.injEq] at hst
      obtain ⟨rfl, rfl⟩ := hst
      rw [hd] at h1
      simp only [Option.some.injEq] at h1
      subst h1
      exact .inl ⟨⟨d0 + b.w.toNat, b.t.toNat, i1, j1⟩, hq.mem_iff.2 (by simp), rfl, rfl, rfl, Nat.le_refl _⟩
    · rcases h.next_ s i j d1 h1 b hb hf' (fun hp2 => by
        rcases hY hp2 with hy | hy
        · exact hy
        · exact absurd ⟨hp2, hy⟩ hp) i' j' hst with ⟨x, hx, g⟩ | h2
      · exact .inl ⟨x, hq.mem_iff.2 (by simp [hx]), g⟩
      · exact .inr h2
  start_ := by
    rcases h.start_ with ⟨x, hx, g⟩ | h2
    · exact .inl ⟨x, hq.mem_iff.2 (by simp [hx]), g⟩
    · exact .inr h2
/-- All the arcs from the place are followed. -/
theorem dij_all {m : Mach} {u v : List Int} {q : List Pl} {D : Nat → Nat → Nat → Option Nat} {la s0 i0 j0 : Nat} {Y : Arc → Prop} (h : Dij m u v q D la s0 i0 j0 Y) (hY : ∀ a ∈ m.arcs, a.f = (s0 : Int) → Y a) : Dij m u v q D la s0 i0 j0 (fun _ => True) where
  open_ := h.open_
  done_ := h.done_
  next_ := by
    intro s i j d1 h1 b hb hf _ i' j' hst
    refine h.next_ s i j d1 h1 b hb hf (fun hp => ?_) i' j' hst
    simp only [Prod.mk.injEq] at hp
    exact hY b hb (by rw [hf, hp.1])
  start_ := h.start_
/-- Nothing is open any more. -/
theorem dij_end {m : Mach} {u v : List Int} {D : Nat → Nat → Nat → Option Nat} {la s0 i0 j0 : Nat} (h : Dij m u v [] D la s0 i0 j0 (fun _ => True)) : ∀ s i j d, Rch m u v s i j d → ∃ d', D s i j = some d' ∧ d' ≤ d ∧ Rch m u v s i j d' := by
  intro s i j d hr
  have h0 : D 0 0 0 = some 0 := by
    rcases h.start_ with ⟨x, hx, _⟩ | h2
    · simp at hx
    · exact h2
  obtain ⟨_, _, d', g1, g2⟩ := closed_least (B := D) (fun _ => h0) (fun s i j d hd _ _ a ha hf i' j' hs => by
    rcases h.next_ s i j d hd a ha hf (fun _ => trivial) i' j' hs with ⟨x, hx, _⟩ | h2
    · simp at hx
    · exact h2) s i j d hr
  exact ⟨d', g1, g2, (h.done_ _ _ _ _ g1).1⟩
/-- The least weight so far: of the places that are done. -/
def LeastD (m : Mach) (u v : List Int) (D : Nat → Nat → Nat → Option Nat) (r : Int) : Prop :=
  (r = -1 ∨ ∃ n : Nat, r = (n : Int) ∧ Acc m u v n) ∧ ∀ x ∈ m.fins, ∀ d, D x.s.toNat u.length v.length = some d → 0 ≤ r ∧ r ≤ ((d + x.w.toNat : Nat) : Int)
theorem leastD_end {m : Mach} {u v : List Int} {D : Nat → Nat → Nat → Option Nat} {r : Int} (hE : ∀ s i j d, Rch m u v s i j d → ∃ d', D s i j = some d' ∧ d' ≤ d ∧ Rch m u v s i j d') (h : LeastD m u v D r) : Least m u v r := by
  obtain ⟨h1, h2⟩ := h
  have key : ∀ d, Acc m u v d → 0 ≤ r ∧ r ≤ (d : Int) := by
    rintro d ⟨x, hx, e, he, rfl⟩
    obtain ⟨d', g1, g2, _⟩ := hE _ _ _ _ he
    have := h2 x hx d' g1
    omega
  rcases h1 with h1 | ⟨n, h1, h3⟩
  · left
    exact ⟨h1, fun d hd => by have := key d hd; omega⟩
  · right
    exact ⟨n, h1, h3, fun d hd => by have := key d hd; omega⟩
end Gm
