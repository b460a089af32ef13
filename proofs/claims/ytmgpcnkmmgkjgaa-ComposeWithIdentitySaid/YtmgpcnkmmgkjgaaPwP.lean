/- Paths of a machine by the words they read and write: plain law. No program in sight. -/
import Derived.Test.YtmgpcnkmmgkjgaaWtQ
namespace Gm
set_option linter.unusedSimpArgs false
set_option linter.unusedVariables false
/-- The word of a label: 0 is none. -/
def lab (x : Int) : List Int := if x = 0 then [] else [x]
theorem lab_zero : lab 0 = [] := rfl
theorem lab_len (x : Int) : (lab x).length = if x = 0 then 0 else 1 := by unfold lab; split <;> rfl
/-- A path along arcs from state s to state t that reads u and writes v, and its weight. -/
inductive Pw (A : List Arc) (s : Int) : Int → List Int → List Int → Nat → Prop
  | nil : Pw A s s [] [] 0
  | snoc {t : Int} {u v : List Int} {d : Nat} {a : Arc} : Pw A s t u v d → a ∈ A → a.f = t → Pw A s a.t (u ++ lab a.i) (v ++ lab a.o) (d + a.w.toNat)
theorem Pw.cast {A : List Arc} {s t t' : Int} {u u' v v' : List Int} {d d' : Nat} (h : Pw A s t u v d) (ht : t = t') (hu : u = u') (hv : v = v') (hd : d = d') : Pw A s t' u' v' d' := by
  subst ht; subst hu; subst hv; subst hd; exact h
theorem Pw.one {A : List Arc} {a : Arc} (ha : a ∈ A) : Pw A a.f a.t (lab a.i) (lab a.o) a.w.toNat :=
  (Pw.snoc (.nil) ha rfl).cast rfl (by simp) (by simp) (by simp)
theorem Pw.trans {A : List Arc} {s t r : Int} {u v u' v' : List Int} {d d' : Nat} (h : Pw A s t u v d) (h' : Pw A t r u' v' d') : Pw A s r (u ++ u') (v ++ v') (d + d') := by
  induction h' with
  | nil => exact h.cast rfl (by simp) (by simp) (by simp)
  | snoc _ ha hf ih => exact (Pw.snoc ih ha hf).cast rfl (by simp [List.append_assoc]) (by simp [List.append_assoc]) (by omega)
theorem Pw.mono {A B : List Arc} {s t : Int} {u v : List Int} {d : Nat} (h : Pw A s t u v d) (hs : ∀ a ∈ A, a ∈ B) : Pw B s t u v d := by
  induction h with
  | nil => exact .nil
  | snoc _ ha hf ih => exact .snoc ih (hs _ ha) hf
/-- From the first arc on. -/
theorem Pw.cons {A : List Arc} {s t : Int} {u v : List Int} {d : Nat} (h : Pw A s t u v d) : (s = t ∧ u = [] ∧ v = [] ∧ d = 0) ∨ ∃ a ∈ A, a.f = s ∧ ∃ u' v' d', Pw A a.t t u' v' d' ∧ u = lab a.i ++ u' ∧ v = lab a.o ++ v' ∧ d = a.w.toNat + d' := by
  induction h with
  | nil => exact .inl ⟨rfl, rfl, rfl, rfl⟩
  | @snoc t u v d b hp hb hf ih =>
    right
    rcases ih with ⟨rfl, rfl, rfl, rfl⟩ | ⟨a, ha, hs, u', v', d', hq, rfl, rfl, rfl⟩
    · exact ⟨b, hb, hf, [], [], 0, .nil, by simp, by simp, by simp⟩
    · exact ⟨a, ha, hs, _, _, _, .snoc hq hb hf, by simp, by simp, by omega⟩
theorem take_lab {u : List Int} {i : Nat} {x : Int} (hi : i ≤ u.length) (h : ¬ (x ≠ 0 ∧ (i = u.length ∨ u.getD i 0 ≠ x))) : u.take (if x = 0 then i else i + 1) = u.take i ++ lab x := by
  unfold lab
  by_cases hx : x = 0
  · simp [hx]
  · have h1 : i ≠ u.length := fun e => h ⟨hx, .inl e⟩
    have h2 : u.getD i 0 = x := Classical.byContradiction fun e => h ⟨hx, .inr e⟩
    have h3 : i < u.length := by omega
    rw [if_neg hx, if_neg hx, List.take_succ_eq_append_getElem h3]
    simp [h3] at h2
    rw [h2]
theorem stp_take {u v : List Int} {a : Arc} {i j i' j' : Nat} (h : stp u v a i j = some (i', j')) (hi : i ≤ u.length) (hj : j ≤ v.length) : u.take i' = u.take i ++ lab a.i ∧ v.take j' = v.take j ++ lab a.o := by
  unfold stp at h
  by_cases h1 : a.i ≠ 0 ∧ (i = u.length ∨ u.getD i 0 ≠ a.i)
  · rw [if_pos h1] at h; cases h
  · rw [if_neg h1] at h
    by_cases h2 : a.o ≠ 0 ∧ (j = v.length ∨ v.getD j 0 ≠ a.o)
    · rw [if_pos h2] at h; cases h
    · rw [if_neg h2] at h
      simp only [Option.some.injEq, Prod.mk.injEq] at h
      obtain ⟨rfl, rfl⟩ := h
      exact ⟨take_lab hi h1, take_lab hj h2⟩
theorem stp_lab {u v u' v' : List Int} {a : Arc} (hu : u' ++ lab a.i <+: u) (hv : v' ++ lab a.o <+: v) : stp u v a u'.length v'.length = some ((u' ++ lab a.i).length, (v' ++ lab a.o).length) := by
  have key : ∀ (x : Int) (p w : List Int), p ++ lab x <+: w → ¬ (x ≠ 0 ∧ (p.length = w.length ∨ w.getD p.length 0 ≠ x)) := by
    rintro x p w ⟨r, rfl⟩ ⟨hx, hh⟩
    rw [lab, if_neg hx] at hh
    rcases hh with hh | hh
    · simp at hh
    · apply hh; simp
  unfold stp
  rw [if_neg (key _ _ _ hu), if_neg (key _ _ _ hv)]
  simp only [List.length_append, lab_len]
  congr 2
  · split <;> rfl
  · split <;> rfl
theorem rch_pw {m : Mach} {u v : List Int} {s i j d : Nat} (hr : ∀ a ∈ m.arcs, 0 ≤ a.t) (h : Rch m u v s i j d) : Pw m.arcs 0 (s : Int) (u.take i) (v.take j) d := by
  induction h with
  | start _ => exact Pw.nil
  | @step s i j d i' j' a h1 h2 h3 h4 ih =>
    obtain ⟨g1, g2⟩ := rch_in h1
    obtain ⟨k1, k2⟩ := stp_take h4 g1 g2
    have ht := hr a h2
    exact (Pw.snoc ih h2 h3).cast (by omega) k1.symm k2.symm rfl
theorem pw_rch {m : Mach} {t : Int} {u' v' : List Int} {d : Nat} (h0 : 0 < m.n) (hr : ∀ a ∈ m.arcs, 0 ≤ a.f) (h : Pw m.arcs 0 t u' v' d) : ∀ u v, u' <+: u → v' <+: v → Rch m u v t.toNat u'.length v'.length d := by
  induction h with
  | nil => exact fun u v _ _ => .start h0
  | @snoc t u' v' d a hp ha hf ih =>
    intro u v hu hv
    have h1 := ih u v ((List.prefix_append _ _).trans hu) ((List.prefix_append _ _).trans hv)
    have := hr a ha
    exact .step h1 ha (by omega) (stp_lab hu hv)
/-- What a machine accepts, by its paths. -/
theorem acc_pw {m : Mach} (hr : ∀ a ∈ m.arcs, 0 ≤ a.f ∧ 0 ≤ a.t) (hf : ∀ x ∈ m.fins, 0 ≤ x.s) {u v : List Int} {d : Nat} : Acc m u v d ↔ 0 < m.n ∧ ∃ x ∈ m.fins, ∃ e, Pw m.arcs 0 x.s u v e ∧ d = e + x.w.toNat := by
  constructor
  · rintro ⟨x, hx, e, he, rfl⟩
    have h0 : 0 < m.n := by
      have : ∀ {s i j d : Nat}, Rch m u v s i j d → 0 < m.n := by
        intro s i j d h
        induction h with
        | start h => exact h
        | step _ _ _ _ ih => exact ih
      exact this he
    have := hf x hx
    exact ⟨h0, x, hx, e, (rch_pw (fun a ha => (hr a ha).2) he).cast (by omega) (by simp) (by simp) rfl, rfl⟩
  · rintro ⟨h0, x, hx, e, he, rfl⟩
    exact ⟨x, hx, e, pw_rch h0 (fun a ha => (hr a ha).1) he u v (List.prefix_refl _) (List.prefix_refl _), rfl⟩
end Gm
