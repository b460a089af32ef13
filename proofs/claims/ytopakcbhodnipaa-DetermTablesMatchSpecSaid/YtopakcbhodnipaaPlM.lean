/- Machines as plain data, and what the functions on them compute. No program in sight. -/
import Derived.Below
namespace Gm

structure Arc where
  f : Int
  t : Int
  i : Int
  o : Int
  w : Int
structure Fnl where
  s : Int
  w : Int
structure Mach where
  n : Int
  arcs : List Arc
  fins : List Fnl
theorem Arc.ext' {a b : Arc} (h1 : a.f = b.f) (h2 : a.t = b.t) (h3 : a.i = b.i) (h4 : a.o = b.o) (h5 : a.w = b.w) : a = b := by
  cases a; cases b; simp_all
theorem Fnl.ext' {a b : Fnl} (h1 : a.s = b.s) (h2 : a.w = b.w) : a = b := by cases a; cases b; simp_all
instance : DecidableEq Arc := fun a b =>
  decidable_of_iff (a.f = b.f ∧ a.t = b.t ∧ a.i = b.i ∧ a.o = b.o ∧ a.w = b.w)
    ⟨fun h => Arc.ext' h.1 h.2.1 h.2.2.1 h.2.2.2.1 h.2.2.2.2, fun h => by subst h; exact ⟨rfl, rfl, rfl, rfl, rfl⟩⟩
instance : DecidableEq Fnl := fun a b =>
  decidable_of_iff (a.s = b.s ∧ a.w = b.w) ⟨fun h => Fnl.ext' h.1 h.2, fun h => by subst h; exact ⟨rfl, rfl⟩⟩
instance : DecidableEq Mach := fun a b =>
  decidable_of_iff (a.n = b.n ∧ a.arcs = b.arcs ∧ a.fins = b.fins)
    ⟨fun h => by cases a; cases b; simp_all, fun h => by subst h; exact ⟨rfl, rfl, rfl⟩⟩
def dA : Arc := ⟨0, 0, 0, 0, 0⟩
def dF : Fnl := ⟨0, 0⟩

def inR (n l m : Int) : Bool := decide (l ≤ n) && decide (n ≤ m)
theorem inR_iff {n l m : Int} : inR n l m = true ↔ l ≤ n ∧ n ≤ m := by simp [inR]
theorem inR_not {n l m : Int} : inR n l m = false ↔ ¬ (l ≤ n ∧ n ≤ m) := by
  rw [← inR_iff]; simp
def cmpI (a b : Int) : Int := if a < b then -1 else if b < a then 1 else 0
def orL : List Int → Int
  | [] => 0
  | x :: l => if x = 0 then orL l else x
theorem orL_step (l : List Int) (k : Nat) (hk : k < l.length) : orL (l.drop k) = if l.getD k 0 = 0 then orL (l.drop (k + 1)) else l.getD k 0 := by
  rw [List.drop_eq_getElem_cons hk]
  simp [orL, hk]
def arcCmp (a b : Arc) : Int := orL [cmpI a.f b.f, cmpI a.i b.i, cmpI a.o b.o, cmpI a.t b.t, cmpI a.w b.w]
/-- The lexical order on lists of one length. -/
def lessL : List Int → List Int → Bool
  | x :: l, y :: k => if x = y then lessL l k else decide (x < y)
  | _, _ => false
def arcKey (a : Arc) : List Int := [a.f, a.i, a.o, a.t, a.w]
def arcLess (a b : Arc) : Bool := lessL (arcKey a) (arcKey b)
theorem cmpI_cases (a b : Int) : (a < b ∧ cmpI a b = -1) ∨ (b < a ∧ cmpI a b = 1) ∨ (a = b ∧ cmpI a b = 0) := by
  unfold cmpI
  by_cases h : a < b
  · exact .inl ⟨h, if_pos h⟩
  · by_cases h2 : b < a
    · exact .inr (.inl ⟨h2, by rw [if_neg h, if_pos h2]⟩)
    · exact .inr (.inr ⟨by omega, by rw [if_neg h, if_neg h2]⟩)
theorem lessL_cmp : ∀ (l k : List Int), l.length = k.length → lessL l k = !decide (0 ≤ orL (List.zipWith cmpI l k))
  | [], [], _ => by simp [lessL, orL]
  | x :: l, y :: k, h => by
    have ih := lessL_cmp l k (by simpa using h)
    rcases cmpI_cases x y with ⟨h1, h2⟩ | ⟨h1, h2⟩ | ⟨h1, h2⟩
    · simp [lessL, orL, h2, h1, show x ≠ y by omega]
    · simp [lessL, orL, h2, show ¬ x < y by omega, show x ≠ y by omega]
    · subst h1
      simp [lessL, orL, h2, ih]
theorem arcLess_cmp (a b : Arc) : arcLess a b = !decide (0 ≤ arcCmp a b) := by
  exact lessL_cmp (arcKey a) (arcKey b) rfl

/-- The first that is some, from k on, below n. -/
def ff {α : Type} (g : Nat → Option α) : Nat → Nat → Option α
  | _, 0 => none
  | k, d + 1 => match g k with
    | some x => some x
    | none => ff g (k + 1) d
theorem ff_some {α : Type} {g : Nat → Option α} {k n : Nat} {x : α} (hk : k < n) (h : g k = some x) : ff g k (n - k) = some x := by
  obtain ⟨d, hd⟩ : ∃ d, n - k = d + 1 := ⟨n - k - 1, by omega⟩
  rw [hd]; simp [ff, h]
theorem ff_none {α : Type} {g : Nat → Option α} {k n : Nat} (hk : k < n) (h : g k = none) : ff g k (n - k) = ff g (k + 1) (n - (k + 1)) := by
  obtain ⟨d, hd⟩ : ∃ d, n - k = d + 1 := ⟨n - k - 1, by omega⟩
  rw [hd, show n - (k + 1) = d by omega]; simp [ff, h]
theorem ff_end {α : Type} {g : Nat → Option α} {k n : Nat} (hk : n ≤ k) : ff g k (n - k) = none := by
  rw [show n - k = 0 by omega]; rfl
theorem ff_congr {α : Type} {g h : Nat → Option α} : ∀ (d k : Nat), (∀ i, k ≤ i → i < k + d → g i = h i) → ff g k d = ff h k d
  | 0, _, _ => rfl
  | d + 1, k, e => by
    simp only [ff]
    rw [e k (by omega) (by omega), ff_congr d (k + 1) (fun i h1 h2 => e i (by omega) (by omega))]
theorem ff_eq_none {α : Type} {g : Nat → Option α} : ∀ (d k : Nat), ff g k d = none ↔ ∀ i, k ≤ i → i < k + d → g i = none
  | 0, k => by simp [ff]; omega
  | d + 1, k => by
    simp only [ff]
    cases hg : g k with
    | some x =>
      simp only [reduceCtorEq, false_iff]
      intro h
      have := h k (by omega) (by omega)
      rw [hg] at this; cases this
    | none =>
      simp only []
      rw [ff_eq_none d (k + 1)]
      constructor
      · intro h i h1 h2
        rcases Nat.eq_or_lt_of_le h1 with h3 | h3
        · subst h3; exact hg
        · exact h i (by omega) (by omega)
      · intro h i h1 h2
        exact h i (by omega) (by omega)

def okArc (S : Int) (a : Arc) : Bool := inR a.f 0 (S - 1) && inR a.t 0 (S - 1) && inR a.i 0 1114111 && inR a.o 0 1114111 && inR a.w 0 1000000
def okFin (S : Int) (x : Fnl) : Bool := inR x.s 0 (S - 1) && inR x.w 0 1000000
def arcFault (S : Int) (l : List Arc) (k : Nat) : Option (Int × Int) :=
  if okArc S (l.getD k dA) = true then (if 0 < k ∧ 0 ≤ arcCmp (l.getD (k - 1) dA) (l.getD k dA) then some (13, (k : Int)) else none) else some (3, (k : Int))
def finFault (S : Int) (na : Nat) (l : List Fnl) (k : Nat) : Option (Int × Int) :=
  if okFin S (l.getD k dF) = true then (if 0 < k ∧ (l.getD k dF).s ≤ (l.getD (k - 1) dF).s then some (13, (na : Int) + (k : Int)) else none) else some (3, (na : Int) + (k : Int))
theorem okArc_false {S : Int} {a : Arc} (h : ¬ okArc S a = true) : inR a.f 0 (S - 1) = false ∨ (inR a.f 0 (S - 1) = true ∧ inR a.t 0 (S - 1) = false) ∨ (inR a.f 0 (S - 1) = true ∧ inR a.t 0 (S - 1) = true ∧ inR a.i 0 1114111 = false) ∨
    (inR a.f 0 (S - 1) = true ∧ inR a.t 0 (S - 1) = true ∧ inR a.i 0 1114111 = true ∧ inR a.o 0 1114111 = false) ∨ (inR a.f 0 (S - 1) = true ∧ inR a.t 0 (S - 1) = true ∧ inR a.i 0 1114111 = true ∧ inR a.o 0 1114111 = true ∧ inR a.w 0 1000000 = false) := by
  unfold okArc at h
  generalize inR a.f 0 (S - 1) = x0 at *
  generalize inR a.t 0 (S - 1) = x1 at *
  generalize inR a.i 0 1114111 = x2 at *
  generalize inR a.o 0 1114111 = x3 at *
  generalize inR a.w 0 1000000 = x4 at *
  revert h
  cases x0 <;> cases x1 <;> cases x2 <;> cases x3 <;> cases x4 <;> simp
theorem okFin_false {S : Int} {a : Fnl} (h : ¬ okFin S a = true) : inR a.s 0 (S - 1) = false ∨ (inR a.s 0 (S - 1) = true ∧ inR a.w 0 1000000 = false) := by
  unfold okFin at h
  generalize inR a.s 0 (S - 1) = x0 at *
  generalize inR a.w 0 1000000 = x1 at *
  revert h
  cases x0 <;> cases x1 <;> simp
theorem okArc_t {S : Int} {a : Arc} (h : 0 ≤ a.f ∧ a.f < S ∧ 0 ≤ a.t ∧ a.t < S ∧ 0 ≤ a.i ∧ a.i ≤ 1114111 ∧ 0 ≤ a.o ∧ a.o ≤ 1114111 ∧ 0 ≤ a.w ∧ a.w ≤ 1000000) : okArc S a = true := by
  simp only [okArc, Bool.and_eq_true, inR_iff]; omega
theorem okArc_f {S : Int} {a : Arc} (h : ¬ (0 ≤ a.f ∧ a.f < S ∧ 0 ≤ a.t ∧ a.t < S ∧ 0 ≤ a.i ∧ a.i ≤ 1114111 ∧ 0 ≤ a.o ∧ a.o ≤ 1114111 ∧ 0 ≤ a.w ∧ a.w ≤ 1000000)) : okArc S a = false := by
  cases hk : okArc S a
  · rfl
  · simp only [okArc, Bool.and_eq_true, inR_iff] at hk; omega
theorem okArc_iff {S : Int} {a : Arc} (h : okArc S a = true) : 0 ≤ a.f ∧ a.f < S ∧ 0 ≤ a.t ∧ a.t < S ∧ 0 ≤ a.i ∧ a.i ≤ 1114111 ∧ 0 ≤ a.o ∧ a.o ≤ 1114111 ∧ 0 ≤ a.w ∧ a.w ≤ 1000000 := by
  simp only [okArc, Bool.and_eq_true, inR_iff] at h; omega
theorem okFin_t {S : Int} {a : Fnl} (h : 0 ≤ a.s ∧ a.s < S ∧ 0 ≤ a.w ∧ a.w ≤ 1000000) : okFin S a = true := by
  simp only [okFin, Bool.and_eq_true, inR_iff]; omega
theorem okFin_f {S : Int} {a : Fnl} (h : ¬ (0 ≤ a.s ∧ a.s < S ∧ 0 ≤ a.w ∧ a.w ≤ 1000000)) : okFin S a = false := by
  cases hk : okFin S a
  · rfl
  · simp only [okFin, Bool.and_eq_true, inR_iff] at hk; omega
theorem okFin_iff {S : Int} {a : Fnl} (h : okFin S a = true) : 0 ≤ a.s ∧ a.s < S ∧ 0 ≤ a.w ∧ a.w ≤ 1000000 := by
  simp only [okFin, Bool.and_eq_true, inR_iff] at h; omega
theorem arcFault_bad {S : Int} {l : List Arc} {k : Nat} {a : Arc} (ha : l.getD k dA = a) (h : ¬ okArc S a = true) : arcFault S l k = some (3, (k : Int)) := by
  unfold arcFault; rw [ha, if_neg h]
theorem arcFault_ok {S : Int} {l : List Arc} {k : Nat} {a : Arc} (ha : l.getD k dA = a) (h : okArc S a = true) (hp : ¬ (0 < k ∧ 0 ≤ arcCmp (l.getD (k - 1) dA) a)) : arcFault S l k = none := by
  unfold arcFault; rw [ha, if_pos h, if_neg hp]
theorem arcFault_order {S : Int} {l : List Arc} {k : Nat} {a : Arc} (ha : l.getD k dA = a) (h : okArc S a = true) (hp : 0 < k ∧ 0 ≤ arcCmp (l.getD (k - 1) dA) a) : arcFault S l k = some (13, (k : Int)) := by
  unfold arcFault; rw [ha, if_pos h, if_pos hp]
theorem finFault_bad {S : Int} {na : Nat} {l : List Fnl} {k : Nat} {a : Fnl} (ha : l.getD k dF = a) (h : ¬ okFin S a = true) : finFault S na l k = some (3, (na : Int) + (k : Int)) := by
  unfold finFault; rw [ha, if_neg h]
theorem finFault_ok {S : Int} {na : Nat} {l : List Fnl} {k : Nat} {a : Fnl} (ha : l.getD k dF = a) (h : okFin S a = true) (hp : ¬ (0 < k ∧ a.s ≤ (l.getD (k - 1) dF).s)) : finFault S na l k = none := by
  unfold finFault; rw [ha, if_pos h, if_neg hp]
theorem finFault_order {S : Int} {na : Nat} {l : List Fnl} {k : Nat} {a : Fnl} (ha : l.getD k dF = a) (h : okFin S a = true) (hp : 0 < k ∧ a.s ≤ (l.getD (k - 1) dF).s) : finFault S na l k = some (13, (na : Int) + (k : Int)) := by
  unfold finFault; rw [ha, if_pos h, if_pos hp]
/-- The whole answer, with the arcs' fault from k on. -/
def vA (S : Int) (arcs : List Arc) (fins : List Fnl) (na nf k : Nat) : Int × Int := ((ff (arcFault S arcs) k (na - k)).or (ff (finFault S na fins) 0 (nf - 0))).getD (0, 0)
def vF (S : Int) (fins : List Fnl) (na nf k : Nat) : Int × Int := (ff (finFault S na fins) k (nf - k)).getD (0, 0)
theorem vA_none {S : Int} {arcs : List Arc} {fins : List Fnl} {na nf k : Nat} (hk : k < na) (h : arcFault S arcs k = none) : vA S arcs fins na nf k = vA S arcs fins na nf (k + 1) := by
  unfold vA; rw [ff_none hk h]
theorem vA_some {S : Int} {arcs : List Arc} {fins : List Fnl} {na nf k : Nat} {x : Int × Int} (hk : k < na) (h : arcFault S arcs k = some x) : vA S arcs fins na nf k = x := by
  unfold vA; rw [ff_some hk h]; rfl
theorem vA_end {S : Int} {arcs : List Arc} {fins : List Fnl} {na nf k : Nat} (hk : na ≤ k) : vA S arcs fins na nf k = vF S fins na nf 0 := by
  unfold vA vF; rw [ff_end hk]; rfl
theorem vF_none {S : Int} {fins : List Fnl} {na nf k : Nat} (hk : k < nf) (h : finFault S na fins k = none) : vF S fins na nf k = vF S fins na nf (k + 1) := by
  unfold vF; rw [ff_none hk h]
theorem vF_some {S : Int} {fins : List Fnl} {na nf k : Nat} {x : Int × Int} (hk : k < nf) (h : finFault S na fins k = some x) : vF S fins na nf k = x := by
  unfold vF; rw [ff_some hk h]; rfl
theorem vF_end {S : Int} {fins : List Fnl} {na nf k : Nat} (hk : nf ≤ k) : vF S fins na nf k = (0, 0) := by
  unfold vF; rw [ff_end hk]; rfl
def validate (m : Mach) : Int × Int :=
  if inR m.n 0 400 = true then
    if 2000 < m.arcs.length then (2, -1)
    else vA m.n m.arcs m.fins m.arcs.length m.fins.length 0
  else (3, -1)
end Gm
