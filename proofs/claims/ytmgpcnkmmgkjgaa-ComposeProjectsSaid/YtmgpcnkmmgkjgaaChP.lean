/- Machines that are inverted or projected, what they accept: plain law. No program in sight. -/
import Derived.Test.YtmgpcnkmmgkjgaaCoP
import Derived.Test.YtmgpcnkmmgkjgaaUnP
import Derived.Test.YtmgpcnkmmgkjgaaChD
namespace Gm
set_option linter.unusedSimpArgs false
set_option linter.unusedVariables false
theorem chM_red (k : Nat) (m : Mach) : chM k m = ⟨m.n, redA (m.arcs.map (chA k)), m.fins⟩ := rfl
/-- A machine with arcs in order, the lightest of those alike, is valid. -/
theorem valid_red {n : Int} {l : List Arc} {f : List Fnl} (hn : 0 ≤ n ∧ n ≤ 400) (hl : (redA l).length ≤ 2000) (ha : ∀ a ∈ l, okArc n a = true) (hf : ∀ x ∈ f, okFin n x = true) (hfs : f.Pairwise fun x y => x.s < y.s) : Valid ⟨n, redA l, f⟩ := by
  have hnd : (redA l).Nodup := (redA_strict l).imp fun {a b} h e => by subst e; rw [arcLess_irrefl] at h; cases h.1
  have hs : SortedA (redA l) := (redA_strict l).imp fun {a b} h => by
    cases e : arcLess b a
    · rfl
    · have := arcLess_asymm h.1; rw [e] at this; cases this
  have e1 : redA l = srtA (redA l) := srtA_eq hs (List.Perm.refl _)
  have h := valid_srt (l := redA l) hnd hn hl (fun a ha' => ha a (redA_sub ha')) hf hfs
  rw [← e1] at h
  exact h
theorem okArc_ch (k : Nat) {n : Int} {a : Arc} (h : okArc n a = true) : okArc n (chA k a) = true := by
  have := okArc_iff h
  have : okArc n (chA k a) = true := by
    simp only [okArc, Bool.and_eq_true, inR_iff]
    unfold chA
    split <;> (dsimp only; omega)
  exact this
theorem valid_ch (k : Nat) {m : Mach} (h : Valid m) : Valid (chM k m) := by
  rw [chM_red]
  refine valid_red ⟨h.n0, h.n4⟩ ?_ ?_ (fun x hx => h.okF hx) (fins_sorted h)
  · have := redA_len (m.arcs.map (chA k))
    rw [List.length_map] at this
    have := h.len
    omega
  · intro a ha
    obtain ⟨b, hb, rfl⟩ := List.mem_map.1 ha
    exact okArc_ch k (h.okA hb)
theorem pw_ch1 {A : List Arc} {s t : Int} {u v : List Int} {d : Nat} (h : Pw A s t u v d) : Pw (A.map (chA 1)) s t v u d := by
  induction h with
  | nil => exact .nil
  | @snoc t u v d a _ ha hf ih => exact .snoc (a := chA 1 a) ih (List.mem_map.2 ⟨a, ha, rfl⟩) hf
theorem pw_ch2 {A : List Arc} {s t : Int} {u v : List Int} {d : Nat} (h : Pw A s t u v d) : Pw (A.map (chA 2)) s t u u d := by
  induction h with
  | nil => exact .nil
  | @snoc t u v d a _ ha hf ih => exact .snoc (a := chA 2 a) ih (List.mem_map.2 ⟨a, ha, rfl⟩) hf
theorem pw_ch3 {A : List Arc} {s t : Int} {u v : List Int} {d : Nat} (h : Pw A s t u v d) : Pw (A.map (chA 3)) s t v v d := by
  induction h with
  | nil => exact .nil
  | @snoc t u v d a _ ha hf ih => exact .snoc (a := chA 3 a) ih (List.mem_map.2 ⟨a, ha, rfl⟩) hf
theorem chA_twice (a : Arc) : chA 1 (chA 1 a) = a := rfl
theorem pw_ch1' {A : List Arc} {s t : Int} {u v : List Int} {d : Nat} (h : Pw (A.map (chA 1)) s t u v d) : Pw A s t v u d := by
  have := pw_ch1 h
  rw [List.map_map] at this
  have e : (chA 1 ∘ chA 1) = id := funext fun a => chA_twice a
  rw [e, List.map_id] at this
  exact this
theorem acc_chk {m : Mach} (h : Rng m) {k : Nat} {u v u' v' : List Int} (hp : ∀ t d, Pw m.arcs 0 t u v d → Pw (m.arcs.map (chA k)) 0 t u' v' d) : Dom (Acc m u v) (Acc (chM k m) u' v') := by
  have hk : Rng (chM k m) := ⟨fun a ha => by
    obtain ⟨b, hb, rfl⟩ := List.mem_map.1 (redA_sub (show a ∈ redA (m.arcs.map (chA k)) from ha))
    have := h.arc b hb
    unfold chA; split <;> exact this, h.fin, ⟨fun a ha => by
    obtain ⟨b, hb, rfl⟩ := List.mem_map.1 (redA_sub (show a ∈ redA (m.arcs.map (chA k)) from ha))
    have := h.wt.1 b hb
    unfold chA; split <;> exact this, h.wt.2⟩, h.n0⟩
  intro d hd
  obtain ⟨h0, x, hx, e, he, rfl⟩ := h.acc.1 hd
  obtain ⟨e', h1, h2⟩ := pw_red (hp _ _ he)
  exact ⟨e' + x.w.toNat, by omega, hk.acc.2 ⟨h0, x, hx, e', h2, rfl⟩⟩
theorem rng_chk {m : Mach} (h : Rng m) (k : Nat) : Rng (chM k m) := ⟨fun a ha => by
    obtain ⟨b, hb, rfl⟩ := List.mem_map.1 (redA_sub (show a ∈ redA (m.arcs.map (chA k)) from ha))
    have := h.arc b hb
    unfold chA; split <;> exact this, h.fin, ⟨fun a ha => by
    obtain ⟨b, hb, rfl⟩ := List.mem_map.1 (redA_sub (show a ∈ redA (m.arcs.map (chA k)) from ha))
    have := h.wt.1 b hb
    unfold chA; split <;> exact this, h.wt.2⟩, h.n0⟩
theorem acc_ch1' {m : Mach} (h : Rng m) {u v : List Int} {d : Nat} (hd : Acc (chM 1 m) u v d) : Acc m v u d := by
  obtain ⟨h0, x, hx, e, he, rfl⟩ := (rng_chk h 1).acc.1 hd
  exact h.acc.2 ⟨h0, x, hx, e, pw_ch1' (he.mono fun a ha => redA_sub ha), rfl⟩
/-- The inverse weighs the pairs turned around. -/
theorem wgt_ch1 {m : Mach} (h : Rng m) (u v : List Int) : wgt (chM 1 m) v u = wgt m u v :=
  least_dom (fun d hd => ⟨d, Nat.le_refl _, acc_ch1' h hd⟩) (acc_chk h fun _ _ hp => pw_ch1 hp)
theorem wgt_dom {m m' : Mach} {u v u' v' : List Int} (h : Dom (Acc m u v) (Acc m' u' v')) (h0 : 0 ≤ wgt m u v) : 0 ≤ wgt m' u' v' ∧ wgt m' u' v' ≤ wgt m u v := by
  rcases wgt_least m u v with ⟨e, _⟩ | ⟨n, e, hn, _⟩
  · omega
  · obtain ⟨d', h1, h2⟩ := h n hn
    rcases wgt_least m' u' v' with ⟨e', g⟩ | ⟨n', e', hn', g⟩
    · exact absurd h2 (g d')
    · have := g d' h2; omega
theorem wgt_ch2 {m : Mach} (h : Rng m) {u v : List Int} (h0 : 0 ≤ wgt m u v) : 0 ≤ wgt (chM 2 m) u u ∧ wgt (chM 2 m) u u ≤ wgt m u v := wgt_dom (acc_chk h fun _ _ hp => pw_ch2 hp) h0
theorem wgt_ch3 {m : Mach} (h : Rng m) {u v : List Int} (h0 : 0 ≤ wgt m u v) : 0 ≤ wgt (chM 3 m) v v ∧ wgt (chM 3 m) v v ≤ wgt m u v := wgt_dom (acc_chk h fun _ _ hp => pw_ch3 hp) h0
end Gm
