/- compose.Compose, at any two machines; what its result accepts. -/
import Derived.Test.YtmgpcnkmmgkjgaaCoW
import Derived.Test.YtmgpcnkmmgkjgaaUnP
namespace Gm
set_option linter.unusedSimpArgs false
set_option linter.unusedVariables false
def twoC (a b : Mach) : Int × Int := if validate a = (0, 0) then validate b else validate a
open Classical in
noncomputable def compF (a b : Mach) : Int × Int := if twoC a b = (0, 0) then (if a.n = 0 ∨ b.n = 0 then (0, 0) else if 200000 < total a b then (17, -1) else szF (compM a b)) else twoC a b
noncomputable def compR (a b : Mach) : Mach := if compF a b = (0, 0) then compM a b else ⟨0, [], []⟩
theorem twoC_zero {a b : Mach} (h : twoC a b = (0, 0)) : validate a = (0, 0) ∧ validate b = (0, 0) := by
  unfold twoC at h
  by_cases hv : validate a = (0, 0)
  · rw [if_pos hv] at h; exact ⟨hv, h⟩
  · rw [if_neg hv] at h; exact absurd h hv
theorem comp_zero_n {a b : Mach} (h : a.n = 0 ∨ b.n = 0) : compM a b = ⟨0, [], []⟩ := by
  unfold compM redM trimOf
  have : (prodM a b).n = 0 := by
    show a.n * b.n = 0
    rcases h with h | h <;> rw [h] <;> simp
  rw [if_pos (.inl this)]
  rfl
theorem valid_sorted {n : Int} {l : List Arc} {f : List Fnl} (hn : 0 ≤ n ∧ n ≤ 400) (hl : (redA l).length ≤ 2000) (ha : ∀ a ∈ redA l, okArc n a = true) (hf : ∀ x ∈ f, okFin n x = true) (hfs : f.Pairwise fun x y => x.s < y.s) : Valid ⟨n, redA l, f⟩ := by
  have hnd : (redA l).Nodup := (redA_strict l).imp fun {a b} h e => by subst e; rw [arcLess_irrefl] at h; cases h.1
  have hs : SortedA (redA l) := (redA_strict l).imp fun {a b} h => by
    cases e : arcLess b a
    · rfl
    · have := arcLess_asymm h.1; rw [e] at this; cases this
  have e1 : redA l = srtA (redA l) := srtA_eq hs (List.Perm.refl _)
  have h := valid_srt (l := redA l) hnd hn hl ha hf hfs
  rw [← e1] at h
  exact h
theorem szF_zero {m : Mach} (h : szF m = (0, 0)) : m.n ≤ 400 ∧ m.arcs.length ≤ 2000 ∧ (∀ x ∈ m.arcs, x.w ≤ 1000000) ∧ ∀ x ∈ m.fins, x.w ≤ 1000000 := by
  unfold szF at h
  by_cases h1 : 400 < m.n ∨ 2000 < m.arcs.length
  · rw [if_pos h1] at h; simp at h
  · rw [if_neg h1] at h
    by_cases h2 : (∃ x ∈ m.arcs, 1000000 < x.w) ∨ ∃ x ∈ m.fins, 1000000 < x.w
    · rw [if_pos h2] at h; simp at h
    · exact ⟨by omega, by omega, fun x hx => Classical.byContradiction fun hw => h2 (.inl ⟨x, hx, by omega⟩), fun x hx => Classical.byContradiction fun hw => h2 (.inr ⟨x, hx, by omega⟩)⟩
/-- The composed machine is valid, if it is not too large. -/
theorem comp_valid {a b : Mach} (hVa : Valid a) (hVb : Valid b) (ha0 : 0 < a.n) (hb0 : 0 < b.n) (h : szF (compM a b) = (0, 0)) : Valid (compM a b) := by
  have ha := rng_valid hVa
  have hb := rng_valid hVb
  obtain ⟨h1, h2, h3, h4⟩ := szF_zero h
  by_cases hk : (⟨0, 0⟩ : Fnl) ∈ keepL a b
  · have hr := rng_comp ha hb
    have e : compM a b = ⟨(compM a b).n, redA (trimOf (prodM a b)).arcs, (compM a b).fins⟩ := rfl
    rw [e]
    refine valid_sorted ⟨hr.n0, h1⟩ h2 (fun z hz => ?_) (fun x hx => ?_) ?_
    · have hz' : z ∈ (compM a b).arcs := hz
      have g := hr.arc z hz'
      have gw := hr.wt.1 z hz'
      have gw' := h3 z hz'
      have hlab : 0 ≤ z.i ∧ z.i ≤ 1114111 ∧ 0 ≤ z.o ∧ z.o ≤ 1114111 := by
        have hm := redA_sub hz
        unfold trimOf at hm
        split at hm
        · cases hm
        · obtain ⟨y, hy, rfl⟩ := List.mem_map.1 (show z ∈ partArcs _ _ from hm)
          have hy := (List.mem_filter.1 hy).1
          have hia : ∀ {x : Arc}, x ∈ a.arcs → 0 ≤ x.i ∧ x.i ≤ 1114111 := fun {x} hx => by have := okArc_iff (hVa.okA hx); omega
          have hob : ∀ {x : Arc}, x ∈ b.arcs → 0 ≤ x.o ∧ x.o ≤ 1114111 := fun {x} hx => by have := okArc_iff (hVb.okA hx); omega
          rcases mem_prod.1 hy with ⟨x, hx, _, q, _, e⟩ | ⟨x, hx, _, z, hz2, _, e⟩ | ⟨z, hz2, _, p, _, e⟩
          · have := hia hx; rw [e]; simp only [partArc, prodL]; omega
          · have := hia hx; have := hob hz2; rw [e]; simp only [partArc, prodA]; omega
          · have := hob hz2; rw [e]; simp only [partArc, prodR]; omega
      simp only [okArc, Bool.and_eq_true, inR_iff]
      omega
    · have g := hr.fin x hx
      have gw := hr.wt.2 x hx
      have gw' := h4 x hx
      simp only [okFin, Bool.and_eq_true, inR_iff]
      omega
    · rw [← cM_yes hVa hVb ha0 hb0 hk]
      exact cFs_sorted _ _ _
  · rw [cM_no hVa hVb ha0 hb0 hk]
    exact ⟨Int.le_refl _, by show (0 : Int) ≤ 400; omega, by show (0 : Nat) ≤ 2000; omega, fun k hk => absurd hk (Nat.not_lt_zero k), fun k hk => absurd hk (Nat.not_lt_zero k)⟩
/-- Where there is no fault. -/
theorem compF_zero {a b : Mach} (h : compF a b = (0, 0)) : validate a = (0, 0) ∧ validate b = (0, 0) ∧ validate (compM a b) = (0, 0) ∧ compR a b = compM a b := by
  have hR : compR a b = compM a b := by unfold compR; rw [if_pos h]
  unfold compF at h
  by_cases ht : twoC a b = (0, 0)
  · rw [if_pos ht] at h
    obtain ⟨hv, hv'⟩ := twoC_zero ht
    have hVa := valid_of hv
    have hVb := valid_of hv'
    refine ⟨hv, hv', ?_, hR⟩
    by_cases h0 : a.n = 0 ∨ b.n = 0
    · rw [comp_zero_n h0]; decide
    · rw [if_neg h0] at h
      by_cases h1 : 200000 < total a b
      · rw [if_pos h1] at h; simp at h
      · rw [if_neg h1] at h
        have := hVa.n0
        have := hVb.n0
        exact validate_of (comp_valid hVa hVb (by omega) (by omega) h)
  · rw [if_neg ht] at h; exact absurd h ht
theorem szF_empty : szF ⟨0, [], []⟩ = (0, 0) := by
  unfold szF
  rw [if_neg (by simp), if_neg (by simp)]
end Gm
namespace Go.Proofs.Ytmgpcnkmmgkjgaa
open Go.RowKit Gm Go.Sort Go.Shelf
set_option linter.unusedSimpArgs false
set_option linter.unusedVariables false
/-- compose.Compose, at any two machines. -/
theorem compose_any (va vb : Value) (a b : Mach) (w : World) (B : Nat) (hB : B ≤ w.heap.size) (ha : MachAt w B va a) (hb : MachAt w B vb b) :
    Calls Try.prog 26 #[va, vb] w fun e w' => ∃ v', e = .returned (.tuple #[v', .agg #[.int .i64 (compF a b).1, .int .i64 (compF a b).2]]) ∧ MachNew w.heap.size w' v' (compR a b) ∧ Below w.heap.size w w' := by
  by_cases hz : validate a = (0, 0)
  · by_cases hz2 : validate b = (0, 0)
    · have et : twoC a b = (0, 0) := by unfold twoC; rw [if_pos hz]; exact hz2
      have hVa := valid_of hz
      have hVb := valid_of hz2
      by_cases h0 : a.n = 0 ∨ b.n = 0
      · have e1 : compF a b = (0, 0) := by unfold compF; rw [if_pos et, if_pos h0]
        have e2 : compR a b = ⟨0, [], []⟩ := by unfold compR; rw [if_pos e1, comp_zero_n h0]
        rw [e1, e2]
        exact (comp_zero va vb a b w B hB ha hb hz hz2 h0).mono fun e w' ⟨he, hb⟩ => ⟨_, he, MachNew.empty _ _, hb⟩
      · have h1 := hVa.n0
        have h2 := hVb.n0
        have ha0 : 0 < a.n := by omega
        have hb0 : 0 < b.n := by omega
        refine (comp_good va vb a b w B hB ha hb hz hz2 ha0 hb0).mono ?_
        rintro e w' ⟨v', f, m, rfl, hM, hbw, hP⟩
        have hfm : f = compF a b ∧ m = compR a b := by
          rcases hP with ⟨g1, rfl, rfl⟩ | ⟨g1, g2, rfl, rfl⟩ | ⟨g1, g2, rfl, rfl⟩
          · have e1 : compF a b = (17, -1) := by unfold compF; rw [if_pos et, if_neg h0, if_pos g1]
            exact ⟨e1.symm, by unfold compR; rw [e1, if_neg (by simp)]⟩
          · have e1 : compF a b = (0, 0) := by unfold compF; rw [if_pos et, if_neg h0, if_neg (by omega), cM_no hVa hVb ha0 hb0 g2]; exact szF_empty
            exact ⟨e1.symm, by unfold compR; rw [if_pos e1, cM_no hVa hVb ha0 hb0 g2]⟩
          · have e1 : compF a b = szF (cM a b) := by unfold compF; rw [if_pos et, if_neg h0, if_neg (by omega), cM_yes hVa hVb ha0 hb0 g2]
            refine ⟨e1.symm, ?_⟩
            unfold compR orE
            rw [e1, cM_yes hVa hVb ha0 hb0 g2]
        obtain ⟨rfl, rfl⟩ := hfm
        exact ⟨v', rfl, hM, hbw⟩
    · have e0 : twoC a b = validate b := by unfold twoC; rw [if_pos hz]
      have e1 : compF a b = validate b := by unfold compF; rw [e0, if_neg hz2]
      have e2 : compR a b = ⟨0, [], []⟩ := by unfold compR; rw [e1, if_neg hz2]
      rw [e1, e2]
      exact (comp_bad2 va vb a b w B hB ha hb hz hz2).mono fun e w' ⟨he, hb⟩ => ⟨_, he, MachNew.empty _ _, hb⟩
  · have e0 : twoC a b = validate a := by unfold twoC; rw [if_neg hz]
    have e1 : compF a b = validate a := by unfold compF; rw [e0, if_neg hz]
    have e2 : compR a b = ⟨0, [], []⟩ := by unfold compR; rw [e1, if_neg hz]
    rw [e1, e2]
    exact (comp_bad1 va vb a b w B hB ha hb hz).mono fun e w' ⟨he, hb⟩ => ⟨_, he, MachNew.empty _ _, hb⟩
end Go.Proofs.Ytmgpcnkmmgkjgaa
