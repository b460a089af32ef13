/- Rounds over all arcs: after as many rounds as there are states nothing more is reached. No program in sight. -/
import Derived.Test.YtopakcbhodnipaaPlT
namespace Gm
def closedR (back : Bool) (l : List Arc) (T : Nat → Bool) : Prop := ∀ a ∈ l, T (akey back a).toNat = true → T (aval back a).toNat = true
structure RInv (back : Bool) (l : List Arc) (I : List Int) (S r : Nat) (T : Nat → Bool) : Prop where
  sound : ∀ s, s < S → T s = true → RS back l I (s : Int)
  base : ∀ x ∈ I, T x.toNat = true
  prog : closedR back l T ∨ r + 1 ≤ cntK T S
structure NInv (back : Bool) (l : List Arc) (I : List Int) (S : Nat) (T0 : Nat → Bool) (q : Nat) (T : Nat → Bool) : Prop where
  sound : ∀ s, s < S → T s = true → RS back l I (s : Int)
  mono : ∀ s, T0 s = true → T s = true
  did : ∀ a ∈ l.take q, T0 (akey back a).toNat = true → T (aval back a).toNat = true
  same : closedR back l T0 → ∀ s, T s = T0 s
theorem cntK_mono {T T' : Nat → Bool} (h : ∀ s, T s = true → T' s = true) : ∀ S, cntK T S ≤ cntK T' S
  | 0 => Nat.le_refl _
  | S + 1 => by
    have := cntK_mono h S
    simp only [cntK]
    by_cases e : T S = true
    · rw [if_pos e, if_pos (h S e)]; omega
    · rw [if_neg e]; omega
theorem cntK_lt {T T' : Nat → Bool} (h : ∀ s, T s = true → T' s = true) {x : Nat} (h1 : T x = false) (h2 : T' x = true) : ∀ S, x < S → cntK T S + 1 ≤ cntK T' S
  | 0, hx => by omega
  | S + 1, hx => by
    have hm := cntK_mono h S
    simp only [cntK]
    by_cases e : x = S
    · subst e; rw [if_pos h2, h1]; simp; omega
    · have := cntK_lt h h1 h2 S (by omega)
      by_cases e : T S = true
      · rw [if_pos e, if_pos (h S e)]; omega
      · rw [if_neg e]; omega
theorem NInv.start {back : Bool} {l : List Arc} {I : List Int} {S r : Nat} {T : Nat → Bool} (h : RInv back l I S r T) : NInv back l I S T 0 T :=
  ⟨h.sound, fun _ h => h, fun _ h => by simp at h, fun _ _ => rfl⟩
theorem NInv.step {back : Bool} {l : List Arc} {I : List Int} {S q : Nat} {T0 T : Nat → Bool} {a : Arc} (hl : inRange l S) (h : NInv back l I S T0 q T) (ht : l.take (q + 1) = l.take q ++ [a]) (ha : a ∈ l)
    (hk : T (akey back a).toNat = true) : NInv back l I S T0 (q + 1) (upd T (aval back a).toNat) := by
  have hka := akey_rng (back := back) hl ha
  have hva := aval_rng (back := back) hl ha
  have hsk : RS back l I (akey back a) := by
    have := h.sound (akey back a).toNat (by omega) hk
    rwa [show (((akey back a).toNat : Nat) : Int) = akey back a by omega] at this
  refine ⟨fun s hs hse => ?_, fun s hs => upd_of (h.mono s hs), fun b hb hbk => ?_, fun hc s => ?_⟩
  · unfold upd at hse
    split at hse
    · rename_i e
      rw [e, show (((aval back a).toNat : Nat) : Int) = aval back a by omega]
      exact .step hsk ha rfl rfl
    · exact h.sound s hs hse
  · rw [ht] at hb
    rcases List.mem_append.1 hb with hb | hb
    · exact upd_of (h.did b hb hbk)
    · rw [List.mem_singleton.1 hb]; exact upd_self _ _
  · unfold upd
    split
    · rename_i e
      rw [e]
      rw [h.same hc] at hk
      exact (hc a ha hk).symm
    · exact h.same hc s
theorem NInv.skip {back : Bool} {l : List Arc} {I : List Int} {S q : Nat} {T0 T : Nat → Bool} {a : Arc} (h : NInv back l I S T0 q T) (ht : l.take (q + 1) = l.take q ++ [a])
    (hk : T (akey back a).toNat = false) : NInv back l I S T0 (q + 1) T := by
  refine ⟨h.sound, h.mono, fun b hb hbk => ?_, h.same⟩
  rw [ht] at hb
  rcases List.mem_append.1 hb with hb | hb
  · exact h.did b hb hbk
  · rw [List.mem_singleton.1 hb] at hbk
    rw [h.mono _ hbk] at hk; cases hk
theorem RInv.next {back : Bool} {l : List Arc} {I : List Int} {S r q : Nat} {T0 T : Nat → Bool} (hl : inRange l S) (h : RInv back l I S r T0) (hn : NInv back l I S T0 q T) (hq : l.take q = l) : RInv back l I S (r + 1) T := by
  refine ⟨hn.sound, fun x hx => hn.mono _ (h.base x hx), ?_⟩
  by_cases hc : closedR back l T0
  · left
    intro a ha hk
    rw [hn.same hc] at hk ⊢
    exact hc a ha hk
  · right
    have hp := h.prog.resolve_left hc
    have : ∃ a, a ∈ l ∧ T0 (akey back a).toNat = true ∧ T0 (aval back a).toNat = false := by
      apply Classical.byContradiction
      intro hne
      refine hc fun a ha hk => ?_
      cases e : T0 (aval back a).toNat
      · exact absurd ⟨a, ha, hk, e⟩ hne
      · rfl
    obtain ⟨a, ha, h1, h2⟩ := this
    have hva := aval_rng (back := back) hl ha
    have := cntK_lt hn.mono h2 (hn.did a (by rw [hq]; exact ha) h1) S (by omega)
    omega
theorem RInv.done {back : Bool} {l : List Arc} {I : List Int} {S : Nat} {T : Nat → Bool} (hl : inRange l S) (hI : ∀ x ∈ I, 0 ≤ x ∧ x < (S : Int)) (h : RInv back l I S S T) : ∀ s, s < S → (T s = true ↔ RS back l I (s : Int)) := by
  have hc : closedR back l T := h.prog.resolve_right (by have := cntK_le T S; omega)
  have key : ∀ t, RS back l I t → 0 ≤ t ∧ t < (S : Int) ∧ T t.toNat = true := by
    intro t ht
    induction ht with
    | base hs => exact ⟨(hI _ hs).1, (hI _ hs).2, h.base _ hs⟩
    | @step s t a hs ha hk hv ih =>
      have hr := aval_rng (back := back) hl ha
      have := hc a ha (by rw [hk]; exact ih.2.2)
      rw [hv] at hr this
      exact ⟨hr.1, hr.2, this⟩
  intro s hs
  refine ⟨h.sound s hs, fun hr => ?_⟩
  have := (key _ hr).2.2
  simpa using this
theorem RInv.start {back : Bool} {l : List Arc} {I : List Int} {S : Nat} {T : Nat → Bool} (hl : inRange l S) (h : ∀ s, s < S → (T s = true ↔ (s : Int) ∈ I)) (hI : ∀ x ∈ I, 0 ≤ x ∧ x < (S : Int)) : RInv back l I S 0 T := by
  refine ⟨fun s hs ht => .base ((h s hs).1 ht), fun x hx => ?_, ?_⟩
  · have := hI x hx
    exact (h x.toNat (by omega)).2 (by rw [show ((x.toNat : Nat) : Int) = x by omega]; exact hx)
  · rcases Nat.lt_or_ge 0 (cntK T S) with h0 | h0
    · exact .inr h0
    · left
      intro a ha hk
      have hka := akey_rng (back := back) hl ha
      have := cntK_lt (T := fun _ => false) (T' := T) (fun s h => by cases h) (x := (akey back a).toNat) rfl hk S (by omega)
      omega
end Gm
