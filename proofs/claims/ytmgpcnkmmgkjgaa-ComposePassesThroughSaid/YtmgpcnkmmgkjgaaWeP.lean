/- The least weight by rounds of relaxation over all places: plain law. No program in sight. -/
import Derived.Test.YtmgpcnkmmgkjgaaWtQ
namespace Gm
set_option linter.unusedSimpArgs false
set_option linter.unusedVariables false
def setb (b : Nat → Int) (k : Nat) (y : Int) : Nat → Int := fun x => if x = k then y else b x
def asg (b : Nat → Int) : Nat → Bool := fun x => decide (0 ≤ b x)
def psum (f : Nat → Nat) : Nat → Nat
  | 0 => 0
  | n + 1 => psum f n + f n
theorem psum_far {f g : Nat → Nat} {k : Nat} (h : ∀ x, x ≠ k → f x = g x) : ∀ n, n ≤ k → psum f n = psum g n
  | 0, _ => rfl
  | n + 1, hn => by
    have := psum_far h n (by omega)
    unfold psum
    rw [this, h n (by omega)]
theorem psum_set {f g : Nat → Nat} {k : Nat} (h : ∀ x, x ≠ k → f x = g x) : ∀ n, k < n → psum f n + g k = psum g n + f k
  | 0, hk => by omega
  | n + 1, hk => by
    unfold psum
    by_cases e : k = n
    · subst e; rw [psum_far h k (Nat.le_refl _)]; omega
    · have := psum_set h n (by omega)
      rw [h n (by omega)]
      omega
theorem psum_le {f : Nat → Nat} {K : Nat} (h : ∀ x, f x ≤ K) : ∀ n, psum f n ≤ n * K
  | 0 => by simp [psum]
  | n + 1 => by
    have := psum_le h n
    have := h n
    unfold psum
    rw [Nat.add_mul]
    omega
/-- What a place still counts. -/
def pv (K : Nat) (z : Int) : Nat := if z < 0 then K else z.toNat
def pot (W : Nat) (b : Nat → Int) (N : Nat) : Nat := psum (fun x => pv (N * W) (b x)) N
section
variable (W : Nat) (m : Mach) (u v : List Int) (S N : Nat)
structure Rlx (b : Nat → Int) : Prop where
  snd_ : ∀ s i j, s < S → i ≤ u.length → j ≤ v.length → 0 ≤ b (ixp u.length v.length s i j) → Rch m u v s i j (b (ixp u.length v.length s i j)).toNat
  low_ : ∀ x, -1 ≤ b x
  zer_ : b 0 = 0
  top_ : ∀ x, 0 ≤ b x → (b x).toNat + undn (asg b) N * W ≤ (N - 1) * W
end
section
variable {W : Nat} {m : Mach} {u v : List Int} {S N : Nat}
theorem rlx_start (h0 : 0 < m.n) : Rlx W m u v S N (setb (fun _ => -1) 0 0) where
  snd_ := by
    intro s i j _ hi hj h
    unfold setb at h ⊢
    by_cases e : ixp u.length v.length s i j = 0
    · rw [if_pos e]
      have e0 : ixp u.length v.length 0 0 0 = 0 := by simp [ixp]
      obtain ⟨rfl, rfl, rfl⟩ := ixp_inj hi hj (Nat.zero_le _) (Nat.zero_le _) (e.trans e0.symm)
      exact .start h0
    · rw [if_neg e] at h; dsimp only at h; omega
  low_ := by intro x; unfold setb; split <;> (try dsimp only) <;> omega
  zer_ := by simp [setb]
  top_ := by
    intro x hx
    have hx0 : (setb (fun _ => -1) 0 0 x).toNat = 0 := by unfold setb; split <;> rfl
    rw [hx0]
    have h1 : ∀ n, undn (asg (setb (fun _ => -1) 0 0)) n ≤ n - 1 := by
      intro n
      induction n with
      | zero => exact Nat.le_refl _
      | succ n ih =>
        unfold undn
        by_cases e : n = 0
        · subst e; simp [asg, setb, undn]
        · have : asg (setb (fun _ => -1) 0 0) n = false := by simp [asg, setb, e]
          rw [this]; simp; omega
    have := Nat.mul_le_mul_right W (h1 N)
    omega
theorem asg_upd {b : Nat → Int} {k : Nat} {y : Int} (hy : 0 ≤ y) : asg (setb b k y) = upd (asg b) k := by
  funext x
  unfold asg setb upd
  by_cases e : x = k
  · rw [if_pos e, if_pos e]; simp [hy]
  · rw [if_neg e, if_neg e]
theorem upd_same {f : Nat → Bool} {k : Nat} (h : f k = true) : upd f k = f := by
  funext x; unfold upd; split
  · rename_i e; rw [e, h]
  · rfl
theorem rlx_bound {b : Nat → Int} (h : Rlx W m u v S N b) {x : Nat} : b x ≤ (((N - 1) * W : Nat) : Int) := by
  by_cases h0 : 0 ≤ b x
  · have h1 := h.top_ x h0
    have h2 := Nat.le_trans (Nat.le_add_right _ _) h1
    have h3 : b x = ((b x).toNat : Int) := by omega
    rw [h3]
    exact Int.ofNat_le.2 h2
  · exact Int.le_trans (show b x ≤ 0 by omega) (Int.natCast_nonneg _)
/-- A place gets a weight that is better. -/
theorem rlx_step {b : Nat → Int} (hW : 0 < W) (h : Rlx W m u v S N b) {s i j i' j' : Nat} {a : Arc} (hN : N = S * (u.length + 1) * (v.length + 1)) (hs : s < S) (hi : i ≤ u.length) (hj : j ≤ v.length) (ha : a ∈ m.arcs) (hf : a.f = (s : Int)) (ht : 0 ≤ a.t ∧ a.t < (S : Int)) (hw : 0 ≤ a.w ∧ a.w ≤ (W : Int))
    (hb : 0 ≤ b (ixp u.length v.length s i j)) (hst : stp u v a i j = some (i', j')) (hc : b (ixp u.length v.length a.t.toNat i' j') < 0 ∨ b (ixp u.length v.length s i j) + a.w < b (ixp u.length v.length a.t.toNat i' j')) :
    Rlx W m u v S N (setb b (ixp u.length v.length a.t.toNat i' j') (b (ixp u.length v.length s i j) + a.w)) ∧ pot W (setb b (ixp u.length v.length a.t.toNat i' j') (b (ixp u.length v.length s i j) + a.w)) N < pot W b N := by
  obtain ⟨hi', hj'⟩ := stp_le hst hi hj
  have htS : a.t.toNat < S := by omega
  have hk : ixp u.length v.length a.t.toNat i' j' < N := by rw [hN]; exact ixp_lt htS hi' hj'
  have hk0 : ixp u.length v.length s i j < N := by rw [hN]; exact ixp_lt hs hi hj
  have hrc := Rch.step (h.snd_ s i j hs hi hj hb) ha hf hst
  obtain ⟨k, hkk⟩ : ∃ k, k = ixp u.length v.length a.t.toNat i' j' := ⟨_, rfl⟩
  obtain ⟨k0, hkk0⟩ : ∃ k, k = ixp u.length v.length s i j := ⟨_, rfl⟩
  rw [← hkk] at hk hc ⊢
  rw [← hkk0] at hk0 hc hb hrc ⊢
  obtain ⟨y, hy⟩ : ∃ y, y = b k0 + a.w := ⟨_, rfl⟩
  rw [← hy] at hc ⊢
  have hy0 : 0 ≤ y := by omega
  have hytop : y.toNat + undn (upd (asg b) k) N * W ≤ (N - 1) * W := by
    have h1 := h.top_ k0 hb
    by_cases hk1 : 0 ≤ b k
    · have h2 : upd (asg b) k = asg b := upd_same (by simp [asg, hk1])
      rw [h2]
      have h3 := h.top_ k hk1
      have h4 : y.toNat ≤ (b k).toNat := by omega
      exact Nat.le_trans (Nat.add_le_add_right h4 _) h3
    · have h2 := undn_upd (dn := asg b) (k := k) (by simp [asg]; omega) N hk
      have h3 : y.toNat ≤ (b k0).toNat + W := by omega
      have h4 : undn (asg b) N * W = undn (upd (asg b) k) N * W + W := by rw [← h2, Nat.add_mul, Nat.one_mul]
      rw [h4] at h1
      omega
  refine ⟨⟨?_, ?_, ?_, ?_⟩, ?_⟩
  · intro s2 i2 j2 hs2 hi2 hj2 h0
    unfold setb at h0 ⊢
    by_cases e : ixp u.length v.length s2 i2 j2 = k
    · rw [if_pos e]
      obtain ⟨rfl, rfl, rfl⟩ := ixp_inj hi2 hj2 hi' hj' (e.trans hkk)
      have e2 : y.toNat = (b k0).toNat + a.w.toNat := by omega
      rw [e2]; exact hrc
    · rw [if_neg e] at h0 ⊢
      exact h.snd_ s2 i2 j2 hs2 hi2 hj2 h0
  · intro x
    unfold setb
    split
    · omega
    · exact h.low_ x
  · unfold setb
    by_cases e : 0 = k
    · exfalso
      have h0 := h.zer_
      rw [← e] at hc
      rw [h0] at hc
      omega
    · rw [if_neg e]; exact h.zer_
  · intro x hx
    rw [asg_upd hy0]
    unfold setb at hx ⊢
    by_cases e : x = k
    · rw [if_pos e]; exact hytop
    · rw [if_neg e] at hx ⊢
      have h1 := h.top_ x hx
      have h2 : undn (upd (asg b) k) N ≤ undn (asg b) N := by
        by_cases hk1 : 0 ≤ b k
        · rw [upd_same (by simp [asg, hk1])]; exact Nat.le_refl _
        · have := undn_upd (dn := asg b) (k := k) (by simp [asg]; omega) N hk
          omega
      have h3 := Nat.mul_le_mul_right W h2
      exact Nat.le_trans (Nat.add_le_add_left h3 _) h1
  · unfold pot
    have h1 := psum_set (f := fun x => pv (N * W) (setb b k y x)) (g := fun x => pv (N * W) (b x)) (k := k) (fun x hx => by rw [show setb b k y x = b x by simp [setb, hx]]) N hk
    have h2 : pv (N * W) (setb b k y k) = y.toNat := by
      rw [show setb b k y k = y by simp [setb], pv, if_neg (by omega)]
    have h3 : y.toNat < pv (N * W) (b k) := by
      unfold pv
      split
      · have h4 := Nat.le_trans (Nat.le_add_right _ _) hytop
        have h5 : (N - 1) * W + W = N * W := by
          obtain ⟨M, rfl⟩ : ∃ M, N = M + 1 := ⟨N - 1, by omega⟩
          rw [Nat.add_mul, Nat.add_sub_cancel, Nat.one_mul]
        omega
      · omega
    rw [h2] at h1
    omega
/-- An arc is followed from place i, j: what it leads to has no greater weight. -/
def Clo (u v : List Int) (b : Nat → Int) (a : Arc) (i j : Nat) : Prop := 0 ≤ b (ixp u.length v.length a.f.toNat i j) → ∀ i' j', stp u v a i j = some (i', j') → 0 ≤ b (ixp u.length v.length a.t.toNat i' j') ∧ b (ixp u.length v.length a.t.toNat i' j') ≤ b (ixp u.length v.length a.f.toNat i j) + a.w
def DoneTo (m : Mach) (u v : List Int) (b : Nat → Int) (P : Nat) : Prop := ∀ q i j, q < m.arcs.length → i ≤ u.length → j ≤ v.length → ixp u.length v.length q i j < P → Clo u v b (m.arcs.getD q dA) i j
theorem done_start {b : Nat → Int} : DoneTo m u v b (ixp u.length v.length 0 0 0) := by
  intro q i j _ _ _ h
  simp [ixp] at h
theorem done_step {b : Nat → Int} {q i j : Nat} {a : Arc} (h : DoneTo m u v b (ixp u.length v.length q i j)) (hi : i ≤ u.length) (hj : j ≤ v.length) (ha : m.arcs.getD q dA = a) (hc : Clo u v b a i j) : DoneTo m u v b (ixp u.length v.length q i (j + 1)) := by
  intro q2 i2 j2 hq2 hi2 hj2 hlt
  have e : ixp u.length v.length q i (j + 1) = ixp u.length v.length q i j + 1 := by unfold ixp; omega
  rw [e] at hlt
  by_cases e2 : ixp u.length v.length q2 i2 j2 = ixp u.length v.length q i j
  · obtain ⟨rfl, rfl, rfl⟩ := ixp_inj hi2 hj2 hi hj e2
    rw [ha]; exact hc
  · exact h q2 i2 j2 hq2 hi2 hj2 (by omega)
theorem ixp_row (nu no q i : Nat) : ixp nu no q i (no + 1) = ixp nu no q (i + 1) 0 := by
  unfold ixp
  have h := Nat.add_mul (q * (nu + 1) + i) 1 (no + 1)
  rw [show q * (nu + 1) + (i + 1) = q * (nu + 1) + i + 1 by omega]
  omega
theorem ixp_arc (nu no q : Nat) : ixp nu no q (nu + 1) 0 = ixp nu no (q + 1) 0 0 := by
  unfold ixp
  rw [Nat.add_mul q 1]; simp
theorem clo_none {b : Nat → Int} {a : Arc} {i j : Nat} (h : stp u v a i j = none) : Clo u v b a i j := by
  intro _ i' j' hs; rw [h] at hs; cases hs
theorem clo_low {b : Nat → Int} {a : Arc} {i j : Nat} (h : b (ixp u.length v.length a.f.toNat i j) < 0) : Clo u v b a i j := by
  intro h1; omega
theorem clo_some {b : Nat → Int} {a : Arc} {i j i1 j1 : Nat} (h : stp u v a i j = some (i1, j1)) (h1 : ¬ (b (ixp u.length v.length a.t.toNat i1 j1) < 0 ∨ b (ixp u.length v.length a.f.toNat i j) + a.w < b (ixp u.length v.length a.t.toNat i1 j1))) : Clo u v b a i j := by
  intro _ i' j' hs
  rw [h] at hs
  simp only [Option.some.injEq, Prod.mk.injEq] at hs
  obtain ⟨rfl, rfl⟩ := hs
  omega
/-- The state within a round that began with b0. -/
structure Rnd (W : Nat) (m : Mach) (u v : List Int) (S N : Nat) (b0 b : Nat → Int) (again : Bool) (P : Nat) : Prop where
  inv : Rlx W m u v S N b
  yes : again = true → pot W b N < pot W b0 N
  no : again = false → b = b0 ∧ DoneTo m u v b P
theorem rnd_start {b : Nat → Int} (h : Rlx W m u v S N b) : Rnd W m u v S N b b false (ixp u.length v.length 0 0 0) := ⟨h, fun h => by simp at h, fun _ => ⟨rfl, done_start⟩⟩
theorem rnd_same {b0 b : Nat → Int} {again : Bool} {q i j : Nat} {a : Arc} (h : Rnd W m u v S N b0 b again (ixp u.length v.length q i j)) (hi : i ≤ u.length) (hj : j ≤ v.length) (ha : m.arcs.getD q dA = a) (hc : Clo u v b a i j) : Rnd W m u v S N b0 b again (ixp u.length v.length q i (j + 1)) :=
  ⟨h.inv, h.yes, fun e => ⟨(h.no e).1, done_step (h.no e).2 hi hj ha hc⟩⟩
theorem rnd_better {b0 b b' : Nat → Int} {again : Bool} {P P' : Nat} (h : Rnd W m u v S N b0 b again P) (hi : Rlx W m u v S N b') (hp : pot W b' N < pot W b N) : Rnd W m u v S N b0 b' true P' :=
  ⟨hi, fun _ => by
    cases again
    · rw [← (h.no rfl).1]; exact hp
    · have := h.yes rfl; omega, fun e => by simp at e⟩
/-- All arcs are followed from all places: what is reached is there. -/
theorem rlx_end {b : Nat → Int} (h : Rlx W m u v S N b) (hS : 0 < S) (hr : inRange m.arcs S) (hw : ∀ a ∈ m.arcs, 0 ≤ a.w) (hd : DoneTo m u v b (ixp u.length v.length m.arcs.length 0 0)) : ∀ s i j d, Rch m u v s i j d → 0 ≤ b (ixp u.length v.length s i j) ∧ b (ixp u.length v.length s i j) ≤ (d : Int) := by
  intro s i j d hr1
  have key := closed_least (m := m) (u := u) (v := v) (B := fun s i j => if s < S ∧ 0 ≤ b (ixp u.length v.length s i j) then some (b (ixp u.length v.length s i j)).toNat else none)
    (fun h0 => by
      have e0 : ixp u.length v.length 0 0 0 = 0 := by simp [ixp]
      rw [e0, h.zer_, if_pos ⟨hS, Int.le_refl _⟩]; rfl)
    (fun s i j d hB hi hj a ha hf i' j' hs => by
      by_cases hc : s < S ∧ 0 ≤ b (ixp u.length v.length s i j)
      · rw [if_pos hc] at hB
        simp only [Option.some.injEq] at hB
        obtain ⟨k, hk, hka⟩ := List.mem_iff_getElem.1 ha
        have hfs : a.f.toNat = s := by omega
        obtain ⟨hi', hj'⟩ := stp_le hs hi hj
        have hlt : ixp u.length v.length k i j < ixp u.length v.length m.arcs.length 0 0 := by
          have h1 := ixp_lt (S := m.arcs.length) hk hi hj
          have h2 : ixp u.length v.length m.arcs.length 0 0 = m.arcs.length * (u.length + 1) * (v.length + 1) := by simp [ixp]
          omega
        have h1 := hd k i j hk hi hj hlt
        rw [show m.arcs.getD k dA = a by simp [hk, hka]] at h1
        unfold Clo at h1
        rw [hfs] at h1
        obtain ⟨g1, g2⟩ := h1 hc.2 i' j' hs
        have ht := hr a ha
        have hwa := hw a ha
        refine ⟨(b (ixp u.length v.length a.t.toNat i' j')).toNat, ?_, by omega⟩
        rw [if_pos ⟨by omega, g1⟩]
      · rw [if_neg hc] at hB; cases hB) s i j d hr1
  obtain ⟨_, _, d', hd', hle⟩ := key
  by_cases hc : s < S ∧ 0 ≤ b (ixp u.length v.length s i j)
  · rw [if_pos hc] at hd'
    simp only [Option.some.injEq] at hd'
    exact ⟨hc.2, by omega⟩
  · rw [if_neg hc] at hd'; cases hd'
/-- The least weight over the first final states. -/
def LB (m : Mach) (u v : List Int) (b : Nat → Int) (k : Nat) (r : Int) : Prop :=
  (r = -1 ∨ ∃ n : Nat, r = (n : Int) ∧ Acc m u v n) ∧ ∀ x ∈ m.fins.take k, 0 ≤ b (ixp u.length v.length x.s.toNat u.length v.length) → 0 ≤ r ∧ r ≤ b (ixp u.length v.length x.s.toNat u.length v.length) + x.w
theorem lb_start {b : Nat → Int} : LB m u v b 0 (-1) := ⟨.inl rfl, fun x hx => by simp at hx⟩
theorem lb_take {b : Nat → Int} {k : Nat} {x : Fnl} {r : Int} (h : LB m u v b k r) (hR : Rlx W m u v S N b) (hk : k < m.fins.length) (hx : m.fins.getD k dF = x) (hs : 0 ≤ x.s ∧ x.s < (S : Int)) (hw : 0 ≤ x.w) (h0 : 0 ≤ b (ixp u.length v.length x.s.toNat u.length v.length)) (hc : r < 0 ∨ b (ixp u.length v.length x.s.toNat u.length v.length) + x.w < r) :
    LB m u v b (k + 1) (b (ixp u.length v.length x.s.toNat u.length v.length) + x.w) := by
  have hxm : x ∈ m.fins := by rw [← hx]; simp [List.getD, hk]
  have hr := hR.snd_ x.s.toNat u.length v.length (by omega) (Nat.le_refl _) (Nat.le_refl _) h0
  refine ⟨.inr ⟨(b (ixp u.length v.length x.s.toNat u.length v.length)).toNat + x.w.toNat, by omega, x, hxm, _, hr, rfl⟩, ?_⟩
  intro y hy hy0
  rw [takeF hk hx] at hy
  rcases List.mem_append.1 hy with hy | hy
  · have := h.2 y hy hy0; omega
  · simp only [List.mem_singleton] at hy
    subst hy; omega
theorem lb_skip {b : Nat → Int} {k : Nat} {x : Fnl} {r : Int} (h : LB m u v b k r) (hk : k < m.fins.length) (hx : m.fins.getD k dF = x) (hc : ¬ (0 ≤ b (ixp u.length v.length x.s.toNat u.length v.length) ∧ (r < 0 ∨ b (ixp u.length v.length x.s.toNat u.length v.length) + x.w < r))) : LB m u v b (k + 1) r := by
  refine ⟨h.1, ?_⟩
  intro y hy hy0
  rw [takeF hk hx] at hy
  rcases List.mem_append.1 hy with hy | hy
  · exact h.2 y hy hy0
  · simp only [List.mem_singleton] at hy
    subst hy; omega
theorem lb_end {b : Nat → Int} {r : Int} (h : LB m u v b m.fins.length r) (hE : ∀ s i j d, Rch m u v s i j d → 0 ≤ b (ixp u.length v.length s i j) ∧ b (ixp u.length v.length s i j) ≤ (d : Int)) (hw : ∀ x ∈ m.fins, 0 ≤ x.w) : Least m u v r := by
  obtain ⟨h1, h2⟩ := h
  rw [List.take_length] at h2
  have key : ∀ d, Acc m u v d → 0 ≤ r ∧ r ≤ (d : Int) := by
    rintro d ⟨x, hx, e, he, rfl⟩
    obtain ⟨g1, g2⟩ := hE _ _ _ _ he
    have := h2 x hx g1
    have := hw x hx
    omega
  rcases h1 with h1 | ⟨n, h1, h3⟩
  · exact .inl ⟨h1, fun d hd => by have := key d hd; omega⟩
  · exact .inr ⟨n, h1, h3, fun d hd => by have := key d hd; omega⟩
end
end Gm
