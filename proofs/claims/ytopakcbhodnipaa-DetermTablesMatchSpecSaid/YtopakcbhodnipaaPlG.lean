/- Reachability over the arcs of a machine, and what a search with a stack keeps. No program in sight. -/
import Derived.Test.YtopakcbhodnipaaPlM
namespace Gm

def akey (back : Bool) (a : Arc) : Int := if back then a.t else a.f
def aval (back : Bool) (a : Arc) : Int := if back then a.f else a.t
def adj (back : Bool) (l : List Arc) (i : Nat) : List Int := (l.filter (fun a => decide (akey back a = (i : Int)))).map (aval back)
theorem adj_snoc (back : Bool) (l : List Arc) (a : Arc) (i : Nat) : adj back (l ++ [a]) i = adj back l i ++ (if akey back a = (i : Int) then [aval back a] else []) := by
  unfold adj
  rw [List.filter_append, List.map_append]
  congr 1
  by_cases h : akey back a = (i : Int) <;> simp [h]
theorem adj_len (back : Bool) (l : List Arc) (i : Nat) : (adj back l i).length ≤ l.length := by
  unfold adj; rw [List.length_map]; exact List.length_filter_le _ _
theorem mem_adj {back : Bool} {l : List Arc} {i : Nat} {x : Int} : x ∈ adj back l i ↔ ∃ a, a ∈ l ∧ akey back a = (i : Int) ∧ aval back a = x := by
  unfold adj
  simp only [List.mem_map, List.mem_filter, decide_eq_true_eq]
  constructor
  · rintro ⟨a, ⟨h1, h2⟩, h3⟩; exact ⟨a, h1, h2, h3⟩
  · rintro ⟨a, h1, h2, h3⟩; exact ⟨a, ⟨h1, h2⟩, h3⟩

inductive RS (back : Bool) (l : List Arc) (I : List Int) : Int → Prop
  | base {s : Int} : s ∈ I → RS back l I s
  | step {s t : Int} {a : Arc} : RS back l I s → a ∈ l → akey back a = s → aval back a = t → RS back l I t

def upd (seen : Nat → Bool) (x : Nat) : Nat → Bool := fun i => if i = x then true else seen i
theorem upd_self (seen : Nat → Bool) (x : Nat) : upd seen x x = true := by simp [upd]
theorem upd_of {seen : Nat → Bool} {x i : Nat} (h : seen i = true) : upd seen x i = true := by
  unfold upd; split <;> simp [h]

structure DInv (back : Bool) (l : List Arc) (I : List Int) (S : Nat) (seen : Nat → Bool) (todo : List Int) : Prop where
  rng : ∀ x ∈ todo, 0 ≤ x ∧ x < (S : Int)
  tr : ∀ x ∈ todo, RS back l I x
  sr : ∀ s, s < S → seen s = true → RS back l I (s : Int)
  i3 : ∀ x ∈ I, seen x.toNat = true ∨ x ∈ todo
  i4 : ∀ s, s < S → seen s = true → ∀ t ∈ adj back l s, seen t.toNat = true ∨ t ∈ todo

def inRange (l : List Arc) (S : Nat) : Prop := ∀ a ∈ l, 0 ≤ a.f ∧ a.f < (S : Int) ∧ 0 ≤ a.t ∧ a.t < (S : Int)
theorem aval_rng {back : Bool} {l : List Arc} {S : Nat} (h : inRange l S) {a : Arc} (ha : a ∈ l) : 0 ≤ aval back a ∧ aval back a < (S : Int) := by
  have := h a ha
  unfold aval; split <;> omega
theorem akey_rng {back : Bool} {l : List Arc} {S : Nat} (h : inRange l S) {a : Arc} (ha : a ∈ l) : 0 ≤ akey back a ∧ akey back a < (S : Int) := by
  have := h a ha
  unfold akey; split <;> omega

theorem DInv.start {back : Bool} {l : List Arc} {I : List Int} {S : Nat} (hI : ∀ x ∈ I, 0 ≤ x ∧ x < (S : Int)) : DInv back l I S (fun _ => false) I :=
  ⟨hI, fun _ h => .base h, fun _ _ h => (by cases h), fun _ h => .inr h, fun _ _ h => (by cases h)⟩
theorem DInv.popSeen {back : Bool} {l : List Arc} {I : List Int} {S : Nat} {seen : Nat → Bool} {todo : List Int} {x : Int} (h : DInv back l I S seen (todo ++ [x])) (hx : seen x.toNat = true) : DInv back l I S seen todo := by
  have mem : ∀ {t : Int}, (seen t.toNat = true ∨ t ∈ todo ++ [x]) → (seen t.toNat = true ∨ t ∈ todo) := by
    intro t ht
    rcases ht with ht | ht
    · exact .inl ht
    · rcases List.mem_append.1 ht with ht | ht
      · exact .inr ht
      · rw [List.mem_singleton.1 ht]; exact .inl hx
  exact ⟨fun t ht => h.rng t (List.mem_append_left _ ht), fun t ht => h.tr t (List.mem_append_left _ ht), h.sr, fun t ht => mem (h.i3 t ht), fun s hs hse t ht => mem (h.i4 s hs hse t ht)⟩
theorem DInv.popNew {back : Bool} {l : List Arc} {I : List Int} {S : Nat} {seen : Nat → Bool} {todo : List Int} {x : Int} (hl : inRange l S) (h : DInv back l I S seen (todo ++ [x])) : DInv back l I S (upd seen x.toNat) (todo ++ adj back l x.toNat) := by
  have hx := h.rng x (by simp)
  have hxr := h.tr x (by simp)
  have hxn : ((x.toNat : Nat) : Int) = x := by omega
  have mem : ∀ {t : Int}, (seen t.toNat = true ∨ t ∈ todo ++ [x]) → (upd seen x.toNat t.toNat = true ∨ t ∈ todo ++ adj back l x.toNat) := by
    intro t ht
    rcases ht with ht | ht
    · exact .inl (upd_of ht)
    · rcases List.mem_append.1 ht with ht | ht
      · exact .inr (List.mem_append_left _ ht)
      · rw [List.mem_singleton.1 ht]; exact .inl (upd_self _ _)
  refine ⟨fun t ht => ?_, fun t ht => ?_, fun s hs hse => ?_, fun t ht => mem (h.i3 t ht), fun s hs hse t ht => ?_⟩
  · rcases List.mem_append.1 ht with ht | ht
    · exact h.rng t (List.mem_append_left _ ht)
    · obtain ⟨a, ha, _, rfl⟩ := mem_adj.1 ht
      exact aval_rng hl ha
  · rcases List.mem_append.1 ht with ht | ht
    · exact h.tr t (List.mem_append_left _ ht)
    · obtain ⟨a, ha, hk, hv⟩ := mem_adj.1 ht
      exact .step hxr ha (by rw [hk, hxn]) hv
  · unfold upd at hse
    split at hse
    · rename_i e; rw [e, hxn]; exact hxr
    · exact h.sr s hs hse
  · unfold upd at hse
    split at hse
    · rename_i e; rw [e] at ht; exact .inr (List.mem_append_right _ ht)
    · exact mem (h.i4 s hs hse t ht)
theorem DInv.done {back : Bool} {l : List Arc} {I : List Int} {S : Nat} {seen : Nat → Bool} (hl : inRange l S) (hI : ∀ x ∈ I, 0 ≤ x ∧ x < (S : Int)) (h : DInv back l I S seen []) : ∀ s, s < S → (seen s = true ↔ RS back l I (s : Int)) := by
  have key : ∀ t, RS back l I t → 0 ≤ t ∧ t < (S : Int) ∧ seen t.toNat = true := by
    intro t ht
    induction ht with
    | base hs =>
      have := hI _ hs
      exact ⟨this.1, this.2, (h.i3 _ hs).resolve_right (by simp)⟩
    | @step s t a hs ha hk hv ih =>
      have hr := aval_rng (back := back) hl ha
      rw [hv] at hr
      refine ⟨hr.1, hr.2, (h.i4 s.toNat (by omega) ih.2.2 t (mem_adj.2 ⟨a, ha, by rw [hk]; omega, hv⟩)).resolve_right (by simp)⟩
  intro s hs
  refine ⟨h.sr s hs, fun hr => ?_⟩
  have := (key _ hr).2.2
  simpa using this

/-- What is still to be pushed. -/
def pend (back : Bool) (l : List Arc) (seen : Nat → Bool) : Nat → Nat
  | 0 => 0
  | S + 1 => pend back l seen S + (if seen S = true then 0 else (adj back l S).length)
theorem pend_out {back : Bool} {l : List Arc} {seen : Nat → Bool} {x : Nat} : ∀ S, S ≤ x → pend back l (upd seen x) S = pend back l seen S
  | 0, _ => rfl
  | S + 1, h => by
    simp only [pend]
    rw [pend_out S (by omega)]
    have : upd seen x S = seen S := by unfold upd; rw [if_neg (by omega)]
    rw [this]
theorem pend_upd {back : Bool} {l : List Arc} {seen : Nat → Bool} {x : Nat} (hx : seen x = false) : ∀ S, x < S → pend back l seen S = pend back l (upd seen x) S + (adj back l x).length
  | 0, h => by omega
  | S + 1, h => by
    simp only [pend]
    by_cases e : x = S
    · subst e
      rw [pend_out x (Nat.le_refl _), upd_self, hx]; simp
    · rw [pend_upd hx S (by omega)]
      have : upd seen x S = seen S := by unfold upd; rw [if_neg (by omega)]
      rw [this]; omega
theorem pend_le (back : Bool) (l : List Arc) (seen : Nat → Bool) : ∀ S, pend back l seen S ≤ S * l.length
  | 0 => by simp [pend]
  | S + 1 => by
    simp only [pend]
    have := pend_le back l seen S
    have h2 := adj_len back l S
    have : (S + 1) * l.length = S * l.length + l.length := Nat.succ_mul _ _
    split <;> omega
end Gm
