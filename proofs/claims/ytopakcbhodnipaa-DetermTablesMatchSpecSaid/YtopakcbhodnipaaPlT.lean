/- The machine without the states that are on no path, as plain data. No program in sight. -/
import Derived.Test.YtopakcbhodnipaaPlG
namespace Gm

def cntK (K : Nat → Bool) : Nat → Nat
  | 0 => 0
  | s + 1 => cntK K s + (if K s = true then 1 else 0)
def numK (K : Nat → Bool) (s : Nat) : Int := if K s = true then (cntK K s : Int) else -1
theorem cntK_le (K : Nat → Bool) : ∀ s, cntK K s ≤ s
  | 0 => Nat.le_refl _
  | s + 1 => by
    have := cntK_le K s
    simp only [cntK]; split <;> omega
theorem cntK_congr {K K' : Nat → Bool} : ∀ s, (∀ i, i < s → K i = K' i) → cntK K s = cntK K' s
  | 0, _ => rfl
  | s + 1, h => by
    simp only [cntK]
    rw [cntK_congr s (fun i hi => h i (by omega)), h s (by omega)]
def partArc (K : Nat → Bool) (a : Arc) : Arc := ⟨(cntK K a.f.toNat : Int), (cntK K a.t.toNat : Int), a.i, a.o, a.w⟩
def partFin (K : Nat → Bool) (x : Fnl) : Fnl := ⟨(cntK K x.s.toNat : Int), x.w⟩
def partArcs (K : Nat → Bool) (l : List Arc) : List Arc := (l.filter fun a => K a.f.toNat && K a.t.toNat).map (partArc K)
def partFins (K : Nat → Bool) (l : List Fnl) : List Fnl := (l.filter fun x => K x.s.toNat).map (partFin K)
theorem partArcs_snoc (K : Nat → Bool) (l : List Arc) (a : Arc) : partArcs K (l ++ [a]) = partArcs K l ++ (if (K a.f.toNat && K a.t.toNat) = true then [partArc K a] else []) := by
  unfold partArcs
  rw [List.filter_append, List.map_append]
  congr 1
  by_cases h : (K a.f.toNat && K a.t.toNat) = true <;> simp [h]
theorem partFins_snoc (K : Nat → Bool) (l : List Fnl) (a : Fnl) : partFins K (l ++ [a]) = partFins K l ++ (if K a.s.toNat = true then [partFin K a] else []) := by
  unfold partFins
  rw [List.filter_append, List.map_append]
  congr 1
  by_cases h : K a.s.toNat = true <;> simp [h]
theorem partArcs_len (K : Nat → Bool) (l : List Arc) : (partArcs K l).length ≤ l.length := by
  unfold partArcs; rw [List.length_map]; exact List.length_filter_le _ _
theorem partFins_len (K : Nat → Bool) (l : List Fnl) : (partFins K l).length ≤ l.length := by
  unfold partFins; rw [List.length_map]; exact List.length_filter_le _ _
def emptyM : Mach := ⟨0, [], []⟩
def partM (m : Mach) (K : Nat → Bool) : Mach := ⟨(cntK K m.n.toNat : Int), partArcs K m.arcs, partFins K m.fins⟩
theorem part_congr {m : Mach} {K K' : Nat → Bool} (ha : inRange m.arcs m.n.toNat) (hf : ∀ x ∈ m.fins, 0 ≤ x.s ∧ x.s < (m.n.toNat : Int)) (h : ∀ i, i < m.n.toNat → K i = K' i) : partM m K = partM m K' := by
  have hc : ∀ i, i ≤ m.n.toNat → cntK K i = cntK K' i := fun i hi => cntK_congr i (fun j hj => h j (by omega))
  unfold partM
  congr 1
  · rw [hc _ (Nat.le_refl _)]
  · unfold partArcs
    have e1 : (m.arcs.filter fun a => K a.f.toNat && K a.t.toNat) = (m.arcs.filter fun a => K' a.f.toNat && K' a.t.toNat) := by
      refine List.filter_congr fun a hm => ?_
      have := ha a hm
      rw [h a.f.toNat (by omega), h a.t.toNat (by omega)]
    rw [e1]
    refine List.map_congr_left fun a hm => ?_
    have := ha a (List.mem_filter.1 hm).1
    unfold partArc
    rw [hc a.f.toNat (by omega), hc a.t.toNat (by omega)]
  · unfold partFins
    have e1 : (m.fins.filter fun a => K a.s.toNat) = (m.fins.filter fun a => K' a.s.toNat) := by
      refine List.filter_congr fun a hm => ?_
      have := hf a hm
      rw [h a.s.toNat (by omega)]
    rw [e1]
    refine List.map_congr_left fun a hm => ?_
    have := hf a (List.mem_filter.1 hm).1
    unfold partFin
    rw [hc a.s.toNat (by omega)]

/-! A valid machine's numbers. -/
structure Valid (m : Mach) : Prop where
  n0 : 0 ≤ m.n
  n4 : m.n ≤ 400
  len : m.arcs.length ≤ 2000
  arc : ∀ k, k < m.arcs.length → arcFault m.n m.arcs k = none
  fin : ∀ k, k < m.fins.length → finFault m.n m.arcs.length m.fins k = none
theorem valid_of {m : Mach} (h : validate m = (0, 0)) : Valid m := by
  unfold validate at h
  by_cases h0 : inR m.n 0 400 = true
  · rw [if_pos h0] at h
    by_cases h2 : 2000 < m.arcs.length
    · rw [if_pos h2] at h; cases h
    · rw [if_neg h2] at h
      have code : ∀ S l k x, arcFault S l k = some x → x.1 ≠ 0 := by
        intro S l k x hx
        unfold arcFault at hx
        split at hx
        · split at hx
          · cases hx; simp
          · cases hx
        · cases hx; simp
      have code2 : ∀ S na l k x, finFault S na l k = some x → x.1 ≠ 0 := by
        intro S na l k x hx
        unfold finFault at hx
        split at hx
        · split at hx
          · cases hx; simp
          · cases hx
        · cases hx; simp
      have some_of : ∀ {α : Type} (g : Nat → Option α) (d k : Nat) (x : α), ff g k d = some x → ∃ i, g i = some x := by
        intro α g d
        induction d with
        | zero => intro k x h; cases h
        | succ d ih =>
          intro k x h
          simp only [ff] at h
          cases hg : g k with
          | some y => rw [hg] at h; exact ⟨k, by rw [hg]; exact h⟩
          | none => rw [hg] at h; exact ih _ _ h
      have hr := inR_iff.1 h0
      unfold vA at h
      simp only [Nat.sub_zero] at h
      cases hA : ff (arcFault m.n m.arcs) 0 m.arcs.length with
      | some x =>
        rw [hA] at h
        obtain ⟨i, hi⟩ := some_of _ _ _ _ hA
        have := code _ _ _ _ hi
        have h' : x = (0, 0) := h
        rw [h'] at this; exact absurd rfl this
      | none =>
        rw [hA] at h
        cases hF : ff (finFault m.n m.arcs.length m.fins) 0 m.fins.length with
        | some x =>
          rw [hF] at h
          obtain ⟨i, hi⟩ := some_of _ _ _ _ hF
          have := code2 _ _ _ _ _ hi
          have h' : x = (0, 0) := h
          rw [h'] at this; exact absurd rfl this
        | none =>
          exact ⟨hr.1, hr.2, by omega, fun k hk => (ff_eq_none _ _).1 hA k (by omega) (by omega), fun k hk => (ff_eq_none _ _).1 hF k (by omega) (by omega)⟩
  · rw [if_neg h0] at h; cases h
theorem validate_of {m : Mach} (h : Valid m) : validate m = (0, 0) := by
  unfold validate
  rw [if_pos (inR_iff.2 ⟨h.n0, h.n4⟩), if_neg (by have := h.len; omega)]
  unfold vA
  have e1 : ff (arcFault m.n m.arcs) 0 (m.arcs.length - 0) = none := (ff_eq_none _ _).2 fun i _ hi => h.arc i (by omega)
  have e2 : ff (finFault m.n m.arcs.length m.fins) 0 (m.fins.length - 0) = none := (ff_eq_none _ _).2 fun i _ hi => h.fin i (by omega)
  rw [e1, e2]; rfl
theorem arcFault_none {S : Int} {l : List Arc} {k : Nat} (h : arcFault S l k = none) : okArc S (l.getD k dA) = true ∧ (0 < k → ¬ 0 ≤ arcCmp (l.getD (k - 1) dA) (l.getD k dA)) := by
  unfold arcFault at h
  split at h
  · rename_i h1
    split at h
    · cases h
    · rename_i h2; exact ⟨h1, fun hk hc => h2 ⟨hk, hc⟩⟩
  · cases h
theorem finFault_none {S : Int} {na : Nat} {l : List Fnl} {k : Nat} (h : finFault S na l k = none) : okFin S (l.getD k dF) = true ∧ (0 < k → (l.getD (k - 1) dF).s < (l.getD k dF).s) := by
  unfold finFault at h
  split at h
  · rename_i h1
    split at h
    · cases h
    · rename_i h2; exact ⟨h1, fun hk => by
        rcases Int.lt_or_le (l.getD (k - 1) dF).s (l.getD k dF).s with h3 | h3
        · exact h3
        · exact absurd ⟨hk, h3⟩ h2⟩
  · cases h
theorem Valid.okA {m : Mach} (h : Valid m) {a : Arc} (ha : a ∈ m.arcs) : okArc m.n a = true := by
  obtain ⟨k, hk, e⟩ := List.mem_iff_getElem.1 ha
  have := (arcFault_none (h.arc k hk)).1
  simp only [List.getD_eq_getElem?_getD, List.getElem?_eq_getElem hk, Option.getD_some, e] at this
  exact this
theorem Valid.okF {m : Mach} (h : Valid m) {a : Fnl} (ha : a ∈ m.fins) : okFin m.n a = true := by
  obtain ⟨k, hk, e⟩ := List.mem_iff_getElem.1 ha
  have := (finFault_none (h.fin k hk)).1
  simp only [List.getD_eq_getElem?_getD, List.getElem?_eq_getElem hk, Option.getD_some, e] at this
  exact this
theorem Valid.inRange {m : Mach} (h : Valid m) : inRange m.arcs m.n.toNat := fun a ha => by
  have := okArc_iff (h.okA ha)
  have := h.n0
  omega
theorem Valid.finRange {m : Mach} (h : Valid m) : ∀ x ∈ m.fins, 0 ≤ x.s ∧ x.s < (m.n.toNat : Int) := fun a ha => by
  have := okFin_iff (h.okF ha)
  have := h.n0
  omega
/-- Final states stand in increasing order: there are not more of them than states. -/
theorem Valid.finLen {m : Mach} (h : Valid m) : m.fins.length ≤ 400 := by
  have key : ∀ k, k < m.fins.length → (k : Int) ≤ (m.fins.getD k dF).s := by
    intro k
    induction k with
    | zero => intro hk; have := okFin_iff (finFault_none (h.fin 0 hk)).1; omega
    | succ k ih =>
      intro hk
      have h1 := ih (by omega)
      have h2 := (finFault_none (h.fin (k + 1) hk)).2 (by omega)
      rw [show k + 1 - 1 = k by omega] at h2
      omega
  rcases Nat.lt_or_ge 400 m.fins.length with hlt | hge
  · have h1 := key 400 hlt
    have h2 := okFin_iff (finFault_none (h.fin 400 hlt)).1
    have h3 := h.n4
    omega
  · exact hge

def finStates (l : List Fnl) : List Int := l.map (·.s)
theorem finStates_snoc (l : List Fnl) (a : Fnl) : finStates (l ++ [a]) = finStates l ++ [a.s] := by simp [finStates]
theorem takeF_push {l : List Fnl} {k : Nat} {a : Fnl} (hk : k < l.length) (ha : l.getD k dF = a) : l.take (k + 1) = l.take k ++ [a] := by
  have e : l.getD k dF = l[k] := by simp [hk]
  rw [List.take_succ_eq_append_getElem hk, ← e, ha]
theorem getDF_mem {l : List Fnl} {k : Nat} {a : Fnl} (hk : k < l.length) (ha : l.getD k dF = a) : a ∈ l := by
  have e : l.getD k dF = l[k] := by simp [hk]
  rw [← ha, e]; exact List.getElem_mem hk
open Classical in
/-- Which states are on a path. -/
noncomputable def keepK (m : Mach) (s : Nat) : Bool := decide (RS false m.arcs [0] (s : Int) ∧ RS true m.arcs (finStates m.fins) (s : Int))
theorem keepK_iff {m : Mach} {s : Nat} : keepK m s = true ↔ RS false m.arcs [0] (s : Int) ∧ RS true m.arcs (finStates m.fins) (s : Int) := by simp [keepK]
noncomputable def trimOf (m : Mach) : Mach := if m.n = 0 ∨ keepK m 0 = false then emptyM else partM m (keepK m)
end Gm
