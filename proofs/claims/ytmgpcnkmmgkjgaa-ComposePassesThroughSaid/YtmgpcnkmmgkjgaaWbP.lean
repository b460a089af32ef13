/- A weight of a pair is below a bound: plain law. No program in sight. -/
import Derived.Test.YtmgpcnkmmgkjgaaWeP
import Derived.Test.YtmgpcnkmmgkjgaaPlT
namespace Gm
set_option linter.unusedSimpArgs false
set_option linter.unusedVariables false
theorem rlx_closed {W : Nat} {m : Mach} {u v : List Int} {S N : Nat} (hW : 0 < W) (hN : N = S * (u.length + 1) * (v.length + 1)) (hr : inRange m.arcs S) (hw : ∀ a ∈ m.arcs, 0 ≤ a.w ∧ a.w ≤ (W : Int)) :
    ∀ (n : Nat) (b : Nat → Int), Rlx W m u v S N b → pot W b N < n → ∃ b', Rlx W m u v S N b' ∧ DoneTo m u v b' (ixp u.length v.length m.arcs.length 0 0) := by
  intro n
  induction n with
  | zero => intro b _ h; omega
  | succ n ih =>
    intro b hb hp
    by_cases hd : ∀ a ∈ m.arcs, ∀ i j, i ≤ u.length → j ≤ v.length → Clo u v b a i j
    · refine ⟨b, hb, fun q i j hq hi hj _ => hd _ ?_ i j hi hj⟩
      simp [List.getD, hq]
    · have : ∃ a i j, a ∈ m.arcs ∧ i ≤ u.length ∧ j ≤ v.length ∧ ¬ Clo u v b a i j := Classical.byContradiction fun h => hd fun a ha i j hi hj => Classical.byContradiction fun hc => h ⟨a, i, j, ha, hi, hj, hc⟩
      obtain ⟨a, i, j, ha, hi, hj, hc⟩ := this
      have ra := hr a ha
      have wa := hw a ha
      by_cases h0 : 0 ≤ b (ixp u.length v.length a.f.toNat i j)
      · cases hs : stp u v a i j with
        | none => exact absurd (clo_none hs) hc
        | some p =>
          obtain ⟨i', j'⟩ := p
          by_cases h1 : b (ixp u.length v.length a.t.toNat i' j') < 0 ∨ b (ixp u.length v.length a.f.toNat i j) + a.w < b (ixp u.length v.length a.t.toNat i' j')
          · obtain ⟨g1, g2⟩ := rlx_step hW hb hN (s := a.f.toNat) (by omega) hi hj ha (by omega) ⟨ra.2.2.1, ra.2.2.2⟩ wa h0 hs h1
            exact ih _ g1 (by omega)
          · exact absurd (clo_some hs h1) hc
      · exact absurd (clo_low (by omega)) hc
theorem wgt_bound {m : Mach} (h : Valid m) (u v : List Int) : wgt m u v ≤ ((m.n.toNat * (u.length + 1) * (v.length + 1) * 1000000 + 1000000 : Nat) : Int) := by
  rcases wgt_least m u v with ⟨e, _⟩ | ⟨n, e, ⟨x, hx, d, hd, hn⟩, hl⟩
  · rw [e]; omega
  · rw [e]
    have h0 := h.n0
    have okA := fun a ha => okArc_iff (h.okA (a := a) ha)
    have okx := okFin_iff (h.okF hx)
    obtain ⟨W, hW⟩ : ∃ W : Nat, W = 1000000 := ⟨_, rfl⟩
    obtain ⟨S, hS⟩ : ∃ S : Nat, S = m.n.toNat := ⟨_, rfl⟩
    obtain ⟨N, hN⟩ : ∃ N : Nat, N = S * (u.length + 1) * (v.length + 1) := ⟨_, rfl⟩
    rw [← hS, ← hN, ← hW]
    have hr : inRange m.arcs S := fun a ha => by have := okA a ha; omega
    have hw : ∀ a ∈ m.arcs, 0 ≤ a.w ∧ a.w ≤ (W : Int) := fun a ha => by have := okA a ha; omega
    obtain ⟨b, hb, hD⟩ := rlx_closed (by omega) hN hr hw _ _ (rlx_start (by omega)) (Nat.lt_succ_self _)
    have hE := rlx_end hb (by omega) hr (fun a ha => (hw a ha).1) hD _ _ _ _ hd
    have hbd := rlx_bound hb (x := ixp u.length v.length x.s.toNat u.length v.length)
    have hR := hb.snd_ x.s.toNat u.length v.length (by omega) (Nat.le_refl _) (Nat.le_refl _) hE.1
    have hle := hl _ ⟨x, hx, _, hR, rfl⟩
    have hmul : (N - 1) * W ≤ N * W := Nat.mul_le_mul_right _ (by omega)
    omega
/-- The weights of words within the bounds stay far below the limit. -/
theorem wgt_small {m : Mach} (h : Valid m) {u v : List Int} (hu : u.length ≤ 30) (hv : v.length ≤ 30) : wgt m u v ≤ 384401000000 := by
  have h1 := wgt_bound h u v
  have h2 := h.n4
  have h3 : m.n.toNat * (u.length + 1) * (v.length + 1) ≤ 400 * 31 * 31 := Nat.mul_le_mul (Nat.mul_le_mul (by omega) (by omega)) (by omega)
  generalize m.n.toNat * (u.length + 1) * (v.length + 1) = q at h1 h3
  omega
end Gm
