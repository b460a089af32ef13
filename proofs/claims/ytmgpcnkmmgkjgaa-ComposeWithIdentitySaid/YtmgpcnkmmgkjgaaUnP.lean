/- Unions, concatenations and repetitions of valid machines are valid; no arc stands twice. Plain law, no program in sight. -/
import Derived.Test.YtmgpcnkmmgkjgaaRaP
import Derived.Test.YtmgpcnkmmgkjgaaSrP
import Derived.Test.YtmgpcnkmmgkjgaaWtT
namespace Gm
set_option linter.unusedSimpArgs false
set_option linter.unusedVariables false
theorem arcs_nodup {m : Mach} (h : Valid m) : m.arcs.Nodup := (arcs_sorted h).imp (fun {a b} hab e => by subst e; rw [arcLess_irrefl] at hab; cases hab)
theorem shA_inj {k : Int} {a b : Arc} (h : shA k a = shA k b) : a = b := by
  unfold shA at h
  injection h with h1 h2 h3 h4 h5
  exact Arc.ext' (by omega) (by omega) h3 h4 h5
theorem sh_nodup {k : Int} {l : List Arc} (h : l.Nodup) : (l.map (shA k)).Nodup := List.pairwise_map.2 (h.imp fun {a b} hne e => hne (shA_inj e))
theorem nodup_app {l k : List Arc} (hl : l.Nodup) (hk : k.Nodup) (h : ∀ x ∈ l, ∀ y ∈ k, x ≠ y) : (l ++ k).Nodup := List.nodup_append.2 ⟨hl, hk, h⟩
theorem uni_nodup {a b : Mach} (ha : Valid a) (hb : Valid b) : (uniArcs a b).Nodup := by
  have ra := rng_valid ha
  have rb := rng_valid hb
  have h0 := ra.n0
  have h1 : ∀ (c : Prop) [Decidable c] (x : Arc), (if c then [x] else []).Nodup := by intro c _ x; split <;> simp
  have m1 : ∀ {c : Prop} [Decidable c] {x y : Arc}, y ∈ (if c then [x] else []) → c ∧ y = x := by intro c _ x y hy; split at hy <;> simp_all
  unfold uniArcs
  refine nodup_app (nodup_app (nodup_app (h1 _ _) (h1 _ _) ?_) (sh_nodup (arcs_nodup ha)) ?_) (sh_nodup (arcs_nodup hb)) ?_
  · intro x hx y hy e
    obtain ⟨c1, rfl⟩ := m1 hx
    obtain ⟨c2, rfl⟩ := m1 hy
    simp only [eps, Arc.mk.injEq] at e
    omega
  · intro x hx y hy e
    obtain ⟨z, hz, rfl⟩ := List.mem_map.1 hy
    have := ra.arc z hz
    rcases List.mem_append.1 hx with hx | hx <;> obtain ⟨c1, rfl⟩ := m1 hx <;> simp only [eps, shA, Arc.mk.injEq] at e <;> omega
  · intro x hx y hy e
    obtain ⟨z, hz, rfl⟩ := List.mem_map.1 hy
    have := rb.arc z hz
    rcases List.mem_append.1 hx with hx | hx
    · rcases List.mem_append.1 hx with hx | hx <;> obtain ⟨c1, rfl⟩ := m1 hx <;> simp only [eps, shA, Arc.mk.injEq] at e <;> omega
    · obtain ⟨z', hz', rfl⟩ := List.mem_map.1 hx
      have := ra.arc z' hz'
      simp only [shA, Arc.mk.injEq] at e; omega
theorem uni_len {a b : Mach} (ha : Valid a) (hb : Valid b) : (uniArcs a b).length ≤ 4002 := by
  have h1 := ha.len
  have h2 := hb.len
  unfold uniArcs
  simp only [List.length_append, List.length_map]
  have h3 : (if 0 < a.n then [eps 0 1 0] else []).length ≤ 1 := by split <;> simp
  have h4 : (if 0 < b.n then [eps 0 (1 + a.n) 0] else []).length ≤ 1 := by split <;> simp
  omega
theorem eps_nodup {l : List Fnl} (f t : Fnl → Int) (h : l.Pairwise fun x y => f x ≠ f y) : (l.map fun x => eps (f x) (t x) x.w).Nodup :=
  List.pairwise_map.2 (h.imp fun {x y} hne e => by simp only [eps, Arc.mk.injEq] at e; exact hne e.1)
theorem cat_nodup {a b : Mach} (ha : Valid a) (hb : Valid b) : (catArcs a b).Nodup := by
  have ra := rng_valid ha
  have rb := rng_valid hb
  have h0 := ra.n0
  unfold catArcs
  refine nodup_app (nodup_app (arcs_nodup ha) (sh_nodup (arcs_nodup hb)) ?_) (eps_nodup (fun x => x.s) (fun _ => a.n) ((fins_sorted ha).imp fun {x y} h => by omega)) ?_
  · intro x hx y hy e
    obtain ⟨z, hz, rfl⟩ := List.mem_map.1 hy
    have h1 := ra.arc x hx
    have h2 := rb.arc z hz
    subst e
    simp only [shA] at h1; omega
  · intro x hx y hy e
    obtain ⟨z, hz, rfl⟩ := List.mem_map.1 hy
    have h2 := ra.fin z hz
    rcases List.mem_append.1 hx with hx | hx
    · have h1 := ra.arc x hx
      subst e
      simp only [eps] at h1; omega
    · obtain ⟨z', hz', rfl⟩ := List.mem_map.1 hx
      have h3 := rb.arc z' hz'
      simp only [eps, shA, Arc.mk.injEq] at e; omega
theorem cat_len {a b : Mach} (ha : Valid a) (hb : Valid b) : (catArcs a b).length ≤ 4400 := by
  have h1 := ha.len
  have h2 := hb.len
  have h3 := ha.finLen
  unfold catArcs
  simp only [List.length_append, List.length_map]
  omega
theorem star_nodup {m : Mach} (hm : Valid m) : (starArcs m).Nodup := by
  have rm := rng_valid hm
  have h1 : ∀ (c : Prop) [Decidable c] (x : Arc), (if c then [x] else []).Nodup := by intro c _ x; split <;> simp
  have m1 : ∀ {c : Prop} [Decidable c] {x y : Arc}, y ∈ (if c then [x] else []) → c ∧ y = x := by intro c _ x y hy; split at hy <;> simp_all
  unfold starArcs
  refine nodup_app (nodup_app (h1 _ _) (sh_nodup (arcs_nodup hm)) ?_) (eps_nodup (fun x => 1 + x.s) (fun _ => 0) ((fins_sorted hm).imp fun {x y} h => by omega)) ?_
  · intro x hx y hy e
    obtain ⟨z, hz, rfl⟩ := List.mem_map.1 hy
    have := rm.arc z hz
    obtain ⟨c1, rfl⟩ := m1 hx
    simp only [eps, shA, Arc.mk.injEq] at e; omega
  · intro x hx y hy e
    obtain ⟨z, hz, rfl⟩ := List.mem_map.1 hy
    have h2 := rm.fin z hz
    rcases List.mem_append.1 hx with hx | hx
    · obtain ⟨c1, rfl⟩ := m1 hx
      simp only [eps, Arc.mk.injEq] at e; omega
    · obtain ⟨z', hz', rfl⟩ := List.mem_map.1 hx
      have h3 := rm.arc z' hz'
      simp only [eps, shA, Arc.mk.injEq] at e; omega
theorem star_len {m : Mach} (hm : Valid m) : (starArcs m).length ≤ 2401 := by
  have h1 := hm.len
  have h3 := hm.finLen
  have h4 : (if 0 < m.n then [eps 0 1 0] else []).length ≤ 1 := by split <;> simp
  unfold starArcs
  simp only [List.length_append, List.length_map]
  omega
/-- A machine put in order is valid. -/
theorem valid_srt {n : Int} {l : List Arc} {f : List Fnl} (hnd : l.Nodup) (hn : 0 ≤ n ∧ n ≤ 400) (hl : l.length ≤ 2000) (ha : ∀ a ∈ l, okArc n a = true) (hf : ∀ x ∈ f, okFin n x = true) (hfs : f.Pairwise fun x y => x.s < y.s) : Valid ⟨n, srtA l, f⟩ where
  n0 := hn.1
  n4 := hn.2
  len := by show (srtA l).length ≤ 2000; rw [(srtA_perm l).length_eq]; exact hl
  arc := by
    intro k hk
    have hk' : k < (srtA l).length := hk
    have hm : (srtA l).getD k dA ∈ srtA l := by simp [List.getD, hk']
    unfold arcFault
    rw [if_pos (ha _ ((srtA_perm l).mem_iff.1 hm)), if_neg]
    rintro ⟨h0, hc⟩
    have hs := List.pairwise_iff_getElem.1 (srtA_sorted l) (k - 1) k (by omega) hk' (by omega)
    have e1 : (srtA l).getD (k - 1) dA = (srtA l)[k - 1] := by simp [show k - 1 < (srtA l).length by omega]
    have e2 : (srtA l).getD k dA = (srtA l)[k] := by simp [hk']
    rw [e1, e2] at hc
    have hne : (srtA l)[k - 1] ≠ (srtA l)[k] := fun e => by
      have := (List.getElem_inj (h₀ := by omega) (h₁ := hk') ((srtA_perm l).nodup_iff.2 hnd)).1 e
      omega
    rcases arcLess_total (srtA l)[k - 1] (srtA l)[k] with h | h | h
    · rw [arcLess_cmp] at h; simp at h; omega
    · exact hne h
    · rw [hs] at h; cases h
  fin := by
    intro k hk
    have hk' : k < f.length := hk
    have hm : f.getD k dF ∈ f := by simp [List.getD, hk']
    unfold finFault
    rw [if_pos (hf _ hm), if_neg]
    rintro ⟨h0, hc⟩
    have hs := List.pairwise_iff_getElem.1 hfs (k - 1) k (by omega) hk' (by omega)
    have e1 : f.getD (k - 1) dF = f[k - 1] := by simp [show k - 1 < f.length by omega]
    have e2 : f.getD k dF = f[k] := by simp [hk']
    rw [e1, e2] at hc
    omega
end Gm
