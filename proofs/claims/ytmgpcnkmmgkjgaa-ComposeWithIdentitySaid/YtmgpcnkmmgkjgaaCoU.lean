/- The law ComposeWithIdentity, walked: it returns true. Written by gen_cid.py (with the texts of CoI, CoJ, CoK). -/
import Derived.Test.YtmgpcnkmmgkjgaaCoE
import Derived.Test.YtmgpcnkmmgkjgaaCrZ
import Derived.Test.YtmgpcnkmmgkjgaaWvC
import Derived.Test.YtmgpcnkmmgkjgaaMF
import Derived.Deep.RegionHeld3
import Derived.IntWalk
namespace Gm
set_option linter.unusedSimpArgs false
set_option linter.unusedVariables false
/-- How many steps two lists of arcs make. -/
def stepN (OA OB : List Arc) : Nat := (OA.map fun x => if x.o = 0 then 1 else (OB.filter fun y => decide (y.i = x.o)).length).sum + (OB.filter fun y => decide (y.i = 0)).length
theorem stepsOf_len (a b : Mach) (c : Fnl) : (stepsOf a b c).length = stepN (outs a.arcs c.s.toNat) (outs b.arcs c.w.toNat) := by
  unfold stepsOf stepN stpY
  rw [List.length_append, List.length_map, List.length_flatMap]
  congr 2
  refine List.map_congr_left fun x _ => ?_
  unfold stpX
  by_cases h : x.o = 0
  · rw [if_pos h, if_pos h]; rfl
  · rw [if_neg h, if_neg h, List.length_map]
theorem stepN_perm {A A' B B' : List Arc} (hA : A.Perm A') (hB : B.Perm B') : stepN A B = stepN A' B' := by
  unfold stepN
  have e1 : ∀ v : Int, (B.filter fun y => decide (y.i = v)).length = (B'.filter fun y => decide (y.i = v)).length := fun v => (hB.filter _).length_eq
  rw [e1 0]
  congr 1
  rw [(hA.map _).sum_nat]
  congr 1
  exact List.map_congr_left fun x _ => by rw [e1]
theorem sum_sublist {A A' : List Arc} (f : Arc → Nat) (h : A.Sublist A') : (A.map f).sum ≤ (A'.map f).sum := by
  induction h with
  | slnil => simp
  | cons x _ ih => simp only [List.map_cons, List.sum_cons]; omega
  | cons_cons x _ ih => simp only [List.map_cons, List.sum_cons]; omega
theorem sum_mono {f g : Arc → Nat} (h : ∀ x, f x ≤ g x) : ∀ A : List Arc, (A.map f).sum ≤ (A.map g).sum
  | [] => by simp
  | x :: A => by
    have := h x
    have := sum_mono h A
    simp only [List.map_cons, List.sum_cons]; omega
theorem stepN_sub {A A' B B' : List Arc} (hA : A.Sublist A') (hB : B.Sublist B') : stepN A B ≤ stepN A' B' := by
  unfold stepN
  have e1 : ∀ v : Int, (B.filter fun y => decide (y.i = v)).length ≤ (B'.filter fun y => decide (y.i = v)).length := fun v => (hB.filter _).length_le
  have h1 := sum_sublist (fun x => if x.o = 0 then 1 else (B'.filter fun y => decide (y.i = x.o)).length) hA
  have h2 := sum_mono (f := fun x => if x.o = 0 then 1 else (B.filter fun y => decide (y.i = x.o)).length) (g := fun x => if x.o = 0 then 1 else (B'.filter fun y => decide (y.i = x.o)).length) (fun x => by
    by_cases h : x.o = 0
    · rw [if_pos h, if_pos h]; exact Nat.le_refl _
    · rw [if_neg h, if_neg h]; exact e1 _) A
  have h3 := e1 0
  omega
/-- The pairs that fit, counted by the one side or by the other. -/
theorem sum_pairs (A : List Arc) : ∀ B : List Arc, (A.map fun x => (B.filter fun y => decide (y.i = x.o)).length).sum = (B.map fun y => (A.filter fun x => decide (x.o = y.i)).length).sum
  | [] => by
    have : ∀ A : List Arc, (A.map fun _ => 0).sum = 0 := fun A => by induction A with | nil => rfl | cons x A ih => simpa using ih
    simpa using this A
  | y :: B => by
    rw [List.map_cons, List.sum_cons, ← sum_pairs A B]
    have key : ∀ A : List Arc, (A.map fun x => ((y :: B).filter fun z => decide (z.i = x.o)).length).sum = (A.filter fun x => decide (x.o = y.i)).length + (A.map fun x => (B.filter fun z => decide (z.i = x.o)).length).sum := by
      intro A
      induction A with
      | nil => rfl
      | cons x A ih =>
        rw [List.map_cons, List.sum_cons, ih, List.map_cons, List.sum_cons]
        by_cases h : y.i = x.o
        · rw [List.filter_cons_of_pos (by simpa using h), List.filter_cons_of_pos (by simpa using h.symm), List.length_cons, List.length_cons]; omega
        · rw [List.filter_cons_of_neg (by simpa using h), List.filter_cons_of_neg (by simpa using fun e => h e.symm)]; omega
    exact key A
theorem sum_split (A : List Arc) (f : Arc → Nat) : (A.map fun x => if x.o = 0 then 1 else f x).sum = (A.filter fun x => decide (x.o = 0)).length + ((A.filter fun x => decide (x.o ≠ 0)).map f).sum := by
  induction A with
  | nil => rfl
  | cons x A ih =>
    rw [List.map_cons, List.sum_cons, ih]
    by_cases h : x.o = 0
    · rw [if_pos h, List.filter_cons_of_pos (by simpa using h), List.filter_cons_of_neg (by simpa using h), List.length_cons]; omega
    · rw [if_neg h, List.filter_cons_of_neg (by simpa using h), List.filter_cons_of_pos (by simpa using h), List.map_cons, List.sum_cons]; omega
theorem stepN_turn (A B : List Arc) : stepN (B.map (chA 1)) (A.map (chA 1)) = stepN A B := by
  unfold stepN
  rw [List.map_map]
  have e1 : ((fun x : Arc => if x.o = 0 then 1 else ((A.map (chA 1)).filter fun y => decide (y.i = x.o)).length) ∘ chA 1) = fun y => if y.i = 0 then 1 else (A.filter fun x => decide (x.o = y.i)).length := by
    funext y
    show (if y.i = 0 then 1 else ((A.map (chA 1)).filter fun z => decide (z.i = y.i)).length) = _
    by_cases h : y.i = 0
    · rw [if_pos h, if_pos h]
    · rw [if_neg h, if_neg h, List.filter_map, List.length_map]; rfl
  rw [e1]
  have e2 : ((A.map (chA 1)).filter fun y => decide (y.i = 0)).length = (A.filter fun x => decide (x.o = 0)).length := by
    rw [List.filter_map, List.length_map]; rfl
  rw [e2, sum_split A]
  -- the same split for B, by its inputs
  have e3 : (B.map fun y => if y.i = 0 then 1 else (A.filter fun x => decide (x.o = y.i)).length).sum = (B.filter fun y => decide (y.i = 0)).length + ((B.filter fun y => decide (y.i ≠ 0)).map fun y => (A.filter fun x => decide (x.o = y.i)).length).sum := by
    induction B with
    | nil => rfl
    | cons y B ih =>
      rw [List.map_cons, List.sum_cons, ih]
      by_cases h : y.i = 0
      · rw [if_pos h, List.filter_cons_of_pos (by simpa using h), List.filter_cons_of_neg (by simpa using h), List.length_cons]; omega
      · rw [if_neg h, List.filter_cons_of_neg (by simpa using h), List.filter_cons_of_pos (by simpa using h), List.map_cons, List.sum_cons]; omega
  rw [e3]
  have e4 := sum_pairs (A.filter fun x => decide (x.o ≠ 0)) (B.filter fun y => decide (y.i ≠ 0))
  have e5 : ((A.filter fun x => decide (x.o ≠ 0)).map fun x => ((B.filter fun y => decide (y.i ≠ 0)).filter fun y => decide (y.i = x.o)).length) = (A.filter fun x => decide (x.o ≠ 0)).map fun x => (B.filter fun y => decide (y.i = x.o)).length := by
    refine List.map_congr_left fun x hx => ?_
    have hx0 : x.o ≠ 0 := by simpa using (List.mem_filter.1 hx).2
    rw [List.filter_filter]
    congr 1
    refine List.filter_congr fun y _ => ?_
    by_cases h : y.i = x.o
    · simp [h, hx0]
    · simp [h]
  have e6 : ((B.filter fun y => decide (y.i ≠ 0)).map fun y => ((A.filter fun x => decide (x.o ≠ 0)).filter fun x => decide (x.o = y.i)).length) = (B.filter fun y => decide (y.i ≠ 0)).map fun y => (A.filter fun x => decide (x.o = y.i)).length := by
    refine List.map_congr_left fun y hy => ?_
    have hy0 : y.i ≠ 0 := by simpa using (List.mem_filter.1 hy).2
    rw [List.filter_filter]
    congr 1
    refine List.filter_congr fun x _ => ?_
    by_cases h : x.o = y.i
    · simp [h, hy0]
    · simp [h]
  rw [e5, e6] at e4
  rw [e4]
  omega
/-! reduced lists of arcs: parts of the lists -/
theorem redA_part (l : List Arc) (s : Nat) : ∃ K, (outs (redA l) s).Sublist K ∧ K.Perm (outs l s) :=
  ⟨outs (srtA l) s, (compact_sub likeA (srtA l)).filter _, (srtA_perm l).filter _⟩
theorem outs_turn (l : List Arc) (s : Nat) : outs (l.map (chA 1)) s = (outs l s).map (chA 1) := by
  unfold outs
  rw [List.filter_map]
  rfl
theorem stepN_le {l k : List Arc} (s t : Nat) : stepN (outs (redA (l.map (chA 1))) s) (outs (redA (k.map (chA 1))) t) ≤ stepN (outs k t) (outs l s) := by
  obtain ⟨K1, h1, h2⟩ := redA_part (l.map (chA 1)) s
  obtain ⟨K2, h3, h4⟩ := redA_part (k.map (chA 1)) t
  rw [outs_turn] at h2 h4
  have e1 := stepN_sub h1 h3
  rw [stepN_perm h2 h4, stepN_turn] at e1
  exact e1
def sw (c : Fnl) : Fnl := ⟨c.w, c.s⟩
theorem sw_sw (c : Fnl) : sw (sw c) = c := rfl
theorem steps_le (a b : Mach) (c : Fnl) : (stepsOf (chM 1 b) (chM 1 a) c).length ≤ (stepsOf a b (sw c)).length := by
  rw [stepsOf_len, stepsOf_len]
  exact stepN_le _ _
theorem chN (k : Nat) (m : Mach) : (chM k m).n = m.n := rfl
theorem mem_ch {m : Mach} {x : Arc} (h : x ∈ (chM 1 m).arcs) : chA 1 x ∈ m.arcs := by
  obtain ⟨y, hy, rfl⟩ := List.mem_map.1 (redA_sub (show x ∈ redA (m.arcs.map (chA 1)) from h))
  exact hy
theorem ch_mem {m : Mach} {y : Arc} (h : y ∈ m.arcs) : ∃ x ∈ (chM 1 m).arcs, x.f = y.f ∧ x.t = y.t ∧ x.i = y.o ∧ x.o = y.i ∧ x.w ≤ y.w := by
  obtain ⟨x, hx, hl, hw⟩ := redA_dom (l := m.arcs.map (chA 1)) (List.mem_map.2 ⟨y, h, rfl⟩)
  obtain ⟨e1, e2, e3, e4⟩ := likeA_iff.1 hl
  exact ⟨x, hx, e1, e4, e2, e3, hw⟩
theorem inC_sw {a b : Mach} {c : Fnl} (h : inC a b c) : inC (chM 1 b) (chM 1 a) (sw c) := ⟨h.2.2.1, h.2.2.2, h.1, h.2.1⟩
theorem inC_ws {a b : Mach} {c : Fnl} (h : inC (chM 1 b) (chM 1 a) c) : inC a b (sw c) := ⟨h.2.2.1, h.2.2.2, h.1, h.2.1⟩
section
variable {a b : Mach} (ha : Rng a) (hb : Rng b)
include ha hb
/-- Each arc of the turned composition stands for one of the composition. -/
theorem turn_arc {z : Arc} (hz : z ∈ prodArcs (chM 1 b) (chM 1 a)) : ∃ y ∈ prodArcs a b, ∃ c d : Fnl, inC a b c ∧ inC a b d ∧ y.f = encC b c ∧ y.t = encC b d ∧ z.f = encC (chM 1 a) (sw c) ∧ z.t = encC (chM 1 a) (sw d) ∧ z.i = y.o ∧ z.o = y.i ∧ z.w = y.w := by
  rcases mem_prod.1 hz with ⟨x, hx, ho, p, hp, e⟩ | ⟨x, hx, ho, x2, hx2, hi, e⟩ | ⟨x2, hx2, hi, q, hq, e⟩
  · have hy := mem_ch hx
    have hr := hb.arc _ hy
    have hp' : (p : Int) < a.n := by have : p < a.n.toNat := hp; omega
    refine ⟨prodR b.n (chA 1 x) p, mem_prod.2 (.inr (.inr ⟨chA 1 x, hy, ho, p, hp, rfl⟩)), ⟨(p : Int), x.f⟩, ⟨(p : Int), x.t⟩, ⟨by show (0 : Int) ≤ (p : Int); omega, hp', hr.1, hr.2.1⟩, ⟨by show (0 : Int) ≤ (p : Int); omega, hp', hr.2.2.1, hr.2.2.2⟩, rfl, rfl, ?_, ?_, ?_, ?_, ?_⟩ <;> rw [e] <;> rfl
  · have hy := mem_ch hx
    have hu := mem_ch hx2
    have hr := hb.arc _ hy
    have hr2 := ha.arc _ hu
    refine ⟨prodA b.n (chA 1 x2) (chA 1 x), mem_prod.2 (.inr (.inl ⟨chA 1 x2, hu, by show x2.i ≠ 0; rw [hi]; exact ho, chA 1 x, hy, hi.symm, rfl⟩)), ⟨x2.f, x.f⟩, ⟨x2.t, x.t⟩, ⟨hr2.1, hr2.2.1, hr.1, hr.2.1⟩, ⟨hr2.2.2.1, hr2.2.2.2, hr.2.2.1, hr.2.2.2⟩, rfl, rfl, ?_, ?_, ?_, ?_, ?_⟩ <;> rw [e]
    · rfl
    · rfl
    · rfl
    · rfl
    · show x.w + x2.w = x2.w + x.w; omega
  · have hu := mem_ch hx2
    have hr2 := ha.arc _ hu
    have hq' : (q : Int) < b.n := by have : q < b.n.toNat := hq; omega
    refine ⟨prodL b.n (chA 1 x2) q, mem_prod.2 (.inl ⟨chA 1 x2, hu, hi, q, hq, rfl⟩), ⟨x2.f, (q : Int)⟩, ⟨x2.t, (q : Int)⟩, ⟨hr2.1, hr2.2.1, by show (0 : Int) ≤ (q : Int); omega, hq'⟩, ⟨hr2.2.2.1, hr2.2.2.2, by show (0 : Int) ≤ (q : Int); omega, hq'⟩, rfl, rfl, ?_, ?_, ?_, ?_, ?_⟩ <;> rw [e] <;> rfl
/-- .. and for each arc of the composition there is one, no heavier. -/
theorem turn_back {y : Arc} (hy : y ∈ prodArcs a b) : ∃ z ∈ prodArcs (chM 1 b) (chM 1 a), ∃ c d : Fnl, inC a b c ∧ inC a b d ∧ y.f = encC b c ∧ y.t = encC b d ∧ z.f = encC (chM 1 a) (sw c) ∧ z.t = encC (chM 1 a) (sw d) ∧ z.i = y.o ∧ z.o = y.i ∧ z.w ≤ y.w := by
  rcases mem_prod.1 hy with ⟨x, hx, ho, q, hq, e⟩ | ⟨x, hx, ho, v, hv, hi, e⟩ | ⟨v, hv, hi, p, hp, e⟩
  · have hr := ha.arc _ hx
    obtain ⟨x', hx', f1, f2, f3, f4, f5⟩ := ch_mem hx
    have hq' : (q : Int) < b.n := by omega
    refine ⟨prodR a.n x' q, mem_prod.2 (.inr (.inr ⟨x', hx', by rw [f3]; exact ho, q, hq, rfl⟩)), ⟨x.f, (q : Int)⟩, ⟨x.t, (q : Int)⟩, ⟨hr.1, hr.2.1, by show (0 : Int) ≤ (q : Int); omega, hq'⟩, ⟨hr.2.2.1, hr.2.2.2, by show (0 : Int) ≤ (q : Int); omega, hq'⟩, by rw [e]; rfl, by rw [e]; rfl, ?_, ?_, ?_, ?_, ?_⟩
    · show enc a.n (q : Int) x'.f = enc a.n (q : Int) x.f; rw [f1]
    · show enc a.n (q : Int) x'.t = enc a.n (q : Int) x.t; rw [f2]
    · rw [e]; rfl
    · rw [e]; exact f4
    · rw [e]; exact f5
  · have hr := ha.arc _ hx
    have hr2 := hb.arc _ hv
    obtain ⟨x', hx', f1, f2, f3, f4, f5⟩ := ch_mem hx
    obtain ⟨v', hv', g1, g2, g3, g4, g5⟩ := ch_mem hv
    refine ⟨prodA a.n v' x', mem_prod.2 (.inr (.inl ⟨v', hv', by rw [g4, hi]; exact ho, x', hx', by rw [f3, g4, hi], rfl⟩)), ⟨x.f, v.f⟩, ⟨x.t, v.t⟩, ⟨hr.1, hr.2.1, hr2.1, hr2.2.1⟩, ⟨hr.2.2.1, hr.2.2.2, hr2.2.2.1, hr2.2.2.2⟩, by rw [e]; rfl, by rw [e]; rfl, ?_, ?_, ?_, ?_, ?_⟩
    · show enc a.n v'.f x'.f = enc a.n v.f x.f; rw [f1, g1]
    · show enc a.n v'.t x'.t = enc a.n v.t x.t; rw [f2, g2]
    · rw [e]; exact g3
    · rw [e]; exact f4
    · rw [e]; show v'.w + x'.w ≤ x.w + v.w; omega
  · have hr := hb.arc _ hv
    obtain ⟨v', hv', g1, g2, g3, g4, g5⟩ := ch_mem hv
    have hp' : (p : Int) < a.n := by omega
    refine ⟨prodL a.n v' p, mem_prod.2 (.inl ⟨v', hv', by rw [g4]; exact hi, p, hp, rfl⟩), ⟨(p : Int), v.f⟩, ⟨(p : Int), v.t⟩, ⟨by show (0 : Int) ≤ (p : Int); omega, hp', hr.1, hr.2.1⟩, ⟨by show (0 : Int) ≤ (p : Int); omega, hp', hr.2.2.1, hr.2.2.2⟩, by rw [e]; rfl, by rw [e]; rfl, ?_, ?_, ?_, ?_, ?_⟩
    · show enc a.n v'.f (p : Int) = enc a.n v.f (p : Int); rw [g1]
    · show enc a.n v'.t (p : Int) = enc a.n v.t (p : Int); rw [g2]
    · rw [e]; exact g3
    · rw [e]; rfl
    · rw [e]; exact g5
/-- What is reached, turned. -/
theorem reach_turn {s : Int} (h : RS false (prodArcs (chM 1 b) (chM 1 a)) [0] s) : ∀ {c : Fnl}, inC a b c → s = encC (chM 1 a) (sw c) → RS false (prodArcs a b) [0] (encC b c) := by
  induction h with
  | @base s hs =>
    intro c hc e
    have e0 : s = 0 := by simpa using hs
    have hz : inC a b ⟨0, 0⟩ := ⟨Int.le_refl _, by have := hc.1; have := hc.2.1; show (0 : Int) < _; omega, Int.le_refl _, by have := hc.2.2.1; have := hc.2.2.2; show (0 : Int) < _; omega⟩
    have : sw c = ⟨0, 0⟩ := encC_inj (inC_sw hc) (inC_sw hz) (by rw [← e, e0]; simp [encC, enc, sw])
    have : c = ⟨0, 0⟩ := by rw [← sw_sw c, this]; rfl
    subst this
    exact .base (by simp [encC, enc])
  | @step s t z _ hz hk hv ih =>
    intro c hc e
    obtain ⟨y, hy, c1, d1, h1, h2, e1, e2, e3, e4, _⟩ := turn_arc ha hb hz
    have hs : s = encC (chM 1 a) (sw c1) := by rw [← hk]; exact e3
    have hd : sw d1 = sw c := encC_inj (inC_sw h2) (inC_sw hc) (by rw [← e4, ← e]; exact hv)
    have hd' : d1 = c := by rw [← sw_sw d1, hd]; rfl
    subst hd'
    exact .step (ih h1 hs) hy (by exact e1) (by exact e2)
theorem reach_back {s : Int} (h : RS false (prodArcs a b) [0] s) : ∀ {c : Fnl}, inC a b c → s = encC b c → RS false (prodArcs (chM 1 b) (chM 1 a)) [0] (encC (chM 1 a) (sw c)) := by
  induction h with
  | @base s hs =>
    intro c hc e
    have e0 : s = 0 := by simpa using hs
    have hz : inC a b ⟨0, 0⟩ := ⟨Int.le_refl _, by have := hc.1; have := hc.2.1; show (0 : Int) < _; omega, Int.le_refl _, by have := hc.2.2.1; have := hc.2.2.2; show (0 : Int) < _; omega⟩
    have : c = ⟨0, 0⟩ := encC_inj hc hz (by rw [← e, e0]; simp [encC, enc])
    subst this
    exact .base (by simp [encC, enc, sw])
  | @step s t y _ hy hk hv ih =>
    intro c hc e
    obtain ⟨z, hz, c1, d1, h1, h2, e1, e2, e3, e4, _⟩ := turn_back ha hb hy
    have hs : s = encC b c1 := by rw [← hk]; exact e1
    have hd : d1 = c := encC_inj h2 hc (by rw [← e2, ← e]; exact hv)
    subst hd
    exact .step (ih h1 hs) hz (by exact e3) (by exact e4)
theorem coreach_turn {s : Int} (h : RS true (prodArcs (chM 1 b) (chM 1 a)) (finStates (prodFins (chM 1 b) (chM 1 a))) s) : ∀ {c : Fnl}, inC a b c → s = encC (chM 1 a) (sw c) → RS true (prodArcs a b) (finStates (prodFins a b)) (encC b c) := by
  induction h with
  | @base s hs =>
    intro c hc e
    obtain ⟨z, hz, hz2⟩ := List.mem_map.1 hs
    obtain ⟨x, hx, y, hy, rfl⟩ := mem_prodF.1 hz
    have hxr := hb.fin x hx
    have hyr := ha.fin y hy
    have hin : inC a b ⟨y.s, x.s⟩ := ⟨hyr.1, hyr.2, hxr.1, hxr.2⟩
    have hd : sw (⟨y.s, x.s⟩ : Fnl) = sw c := encC_inj (inC_sw hin) (inC_sw hc) (by rw [← e, ← hz2]; rfl)
    have hd' : (⟨y.s, x.s⟩ : Fnl) = c := by rw [← sw_sw ⟨y.s, x.s⟩, hd]; rfl
    subst hd'
    exact .base (List.mem_map.2 ⟨_, mem_prodF.2 ⟨y, hy, x, hx, rfl⟩, rfl⟩)
  | @step s t z _ hz hk hv ih =>
    intro c hc e
    obtain ⟨y, hy, c1, d1, h1, h2, e1, e2, e3, e4, _⟩ := turn_arc ha hb hz
    have hs : s = encC (chM 1 a) (sw d1) := by rw [← hk]; exact e4
    have hd : sw c1 = sw c := encC_inj (inC_sw h1) (inC_sw hc) (by rw [← e3, ← e]; exact hv)
    have hd' : c1 = c := by rw [← sw_sw c1, hd]; rfl
    subst hd'
    exact .step (ih h2 hs) hy (by exact e2) (by exact e1)
theorem coreach_back {s : Int} (h : RS true (prodArcs a b) (finStates (prodFins a b)) s) : ∀ {c : Fnl}, inC a b c → s = encC b c → RS true (prodArcs (chM 1 b) (chM 1 a)) (finStates (prodFins (chM 1 b) (chM 1 a))) (encC (chM 1 a) (sw c)) := by
  induction h with
  | @base s hs =>
    intro c hc e
    obtain ⟨z, hz, hz2⟩ := List.mem_map.1 hs
    obtain ⟨x, hx, y, hy, rfl⟩ := mem_prodF.1 hz
    have hxr := ha.fin x hx
    have hyr := hb.fin y hy
    have hin : inC a b ⟨x.s, y.s⟩ := ⟨hxr.1, hxr.2, hyr.1, hyr.2⟩
    have hd : (⟨x.s, y.s⟩ : Fnl) = c := encC_inj hin hc (by rw [← e, ← hz2]; rfl)
    subst hd
    exact .base (List.mem_map.2 ⟨_, mem_prodF.2 ⟨y, hy, x, hx, rfl⟩, rfl⟩)
  | @step s t y _ hy hk hv ih =>
    intro c hc e
    obtain ⟨z, hz, c1, d1, h1, h2, e1, e2, e3, e4, _⟩ := turn_back ha hb hy
    have hs : s = encC b d1 := by rw [← hk]; exact e2
    have hd : c1 = c := encC_inj h1 hc (by rw [← e1, ← e]; exact hv)
    subst hd
    exact .step (ih h2 hs) hz (by exact e4) (by exact e3)
theorem reachL_turn {c : Fnl} : c ∈ reachL (chM 1 b) (chM 1 a) ↔ sw c ∈ reachL a b := by
  rw [mem_reachL, mem_reachL]
  constructor
  · rintro ⟨h1, h2⟩
    exact ⟨inC_ws h1, reach_turn ha hb h2 (inC_ws h1) rfl⟩
  · rintro ⟨h1, h2⟩
    exact ⟨inC_sw h1, reach_back ha hb h2 h1 rfl⟩
theorem keep_turn {c : Fnl} : c ∈ keepL (chM 1 b) (chM 1 a) ↔ sw c ∈ keepL a b := by
  rw [mem_keepL, mem_keepL]
  unfold KeepC
  rw [reachL_turn ha hb]
  constructor
  · rintro ⟨h1, h2⟩
    exact ⟨h1, coreach_turn ha hb h2 (mem_reachL.1 h1).1 rfl⟩
  · rintro ⟨h1, h2⟩
    exact ⟨h1, coreach_back ha hb h2 (mem_reachL.1 h1).1 rfl⟩
/-- The turned composition makes no more steps. -/
theorem total_turn : total (chM 1 b) (chM 1 a) ≤ total a b := by
  unfold total
  have h1 : totL (chM 1 b) (chM 1 a) (reachL (chM 1 b) (chM 1 a)) ≤ totL a b ((reachL (chM 1 b) (chM 1 a)).map sw) := by
    generalize reachL (chM 1 b) (chM 1 a) = l
    induction l with
    | nil => simp [totL]
    | cons c l ih =>
      have := steps_le a b c
      unfold totL at *
      simp only [List.map_cons, List.sum_cons]
      omega
  refine Nat.le_trans h1 (sum_sub _ ?_ fun x hx => ?_)
  · have hn := reachL_nodup (chM 1 b) (chM 1 a)
    have hi : ∀ x y : Fnl, sw x = sw y → x = y := fun x y e => by rw [← sw_sw x, e]; rfl
    exact List.pairwise_map.2 (hn.imp fun {x y} hne e => hne (hi x y e))
  · obtain ⟨c, hc, rfl⟩ := List.mem_map.1 hx
    exact (reachL_turn ha hb).1 hc
theorem keep_len : (keepL (chM 1 b) (chM 1 a)).length = (keepL a b).length := by
  have hi : ∀ x y : Fnl, sw x = sw y → x = y := fun x y e => by rw [← sw_sw x, e]; rfl
  have nd : ∀ l : List Fnl, l.Nodup → (l.map sw).Nodup := fun l hn => List.pairwise_map.2 (hn.imp fun {x y} hne e => hne (hi x y e))
  have h1 := len_sub (nd _ (cLt_nodup (keepL_sorted (chM 1 b) (chM 1 a)))) (k := keepL a b) fun x hx => by
    obtain ⟨c, hc, rfl⟩ := List.mem_map.1 hx
    exact (keep_turn ha hb).1 hc
  have h2 := len_sub (nd _ (cLt_nodup (keepL_sorted a b))) (k := keepL (chM 1 b) (chM 1 a)) fun x hx => by
    obtain ⟨c, hc, rfl⟩ := List.mem_map.1 hx
    exact (keep_turn ha hb).2 hc
  rw [List.length_map] at h1 h2
  omega
end
end Gm
namespace Gm
set_option linter.unusedSimpArgs false
set_option linter.unusedVariables false
/-- As many at most, where each stands for one of the others alone. -/
theorem len_rel {α β : Type} [DecidableEq β] (R : α → β → Prop) : ∀ {l : List α} {k : List β}, l.Nodup → (∀ x ∈ l, ∃ y ∈ k, R x y) → (∀ x ∈ l, ∀ x' ∈ l, ∀ y, R x y → R x' y → x = x') → l.length ≤ k.length
  | [], _, _, _, _ => Nat.zero_le _
  | x :: l, k, hn, h1, h2 => by
    obtain ⟨y, hy, hr⟩ := h1 x List.mem_cons_self
    obtain ⟨hx, hn'⟩ := List.nodup_cons.1 hn
    have h3 := len_rel R (l := l) (k := k.erase y) hn' (fun x' hx' => by
      obtain ⟨y', hy', hr'⟩ := h1 x' (List.mem_cons_of_mem _ hx')
      refine ⟨y', (List.mem_erase_of_ne fun e => ?_).2 hy', hr'⟩
      subst e
      exact hx (h2 x List.mem_cons_self x' (List.mem_cons_of_mem _ hx') y' hr hr' ▸ hx')) fun x1 hx1 x2 hx2 y' => h2 x1 (List.mem_cons_of_mem _ hx1) x2 (List.mem_cons_of_mem _ hx2) y'
    have h4 := List.length_erase_of_mem hy
    have h5 := List.length_pos_of_mem hy
    rw [List.length_cons]; omega
theorem redA_eq {l : List Arc} {x y : Arc} (hx : x ∈ redA l) (hy : y ∈ redA l) (h : likeA x y = true) : x = y := by
  obtain ⟨i, hi, rfl⟩ := List.mem_iff_getElem.1 hx
  obtain ⟨j, hj, rfl⟩ := List.mem_iff_getElem.1 hy
  have hs := List.pairwise_iff_getElem.1 (redA_strict l)
  have h' : likeA (redA l)[j] (redA l)[i] = true := by
    obtain ⟨e1, e2, e3, e4⟩ := likeA_iff.1 h
    exact likeA_iff.2 ⟨e1.symm, e2.symm, e3.symm, e4.symm⟩
  rcases Nat.lt_trichotomy i j with g | g | g
  · have := (hs i j hi hj g).2; rw [h] at this; cases this
  · subst g; rfl
  · have := (hs j i hj hi g).2; rw [h'] at this; cases this
theorem redA_nodup (l : List Arc) : (redA l).Nodup := (redA_strict l).imp fun {a b} h e => by subst e; rw [arcLess_irrefl] at h; cases h.1
theorem comp_yes {a b : Mach} (ha : Rng a) (hb : Rng b) (ha0 : 0 < a.n) (hb0 : 0 < b.n) (h : (⟨0, 0⟩ : Fnl) ∈ keepL a b) : compM a b = ⟨((keepL a b).length : Int), redA (partArcs (keepK (prodM a b)) (prodArcs a b)), partFins (keepK (prodM a b)) (prodFins a b)⟩ := by
  have hin := (mem_reachL.1 (mem_keepL.1 h).1).1
  have hk := (kept_iff ha hb ha0 hb0 hin).2 h
  have e0 : encC b ⟨0, 0⟩ = 0 := by simp [encC, enc]
  rw [e0] at hk
  have hN : (prodM a b).n ≠ 0 := by
    have : 0 < a.n * b.n := Int.mul_pos ha0 hb0
    show a.n * b.n ≠ 0
    omega
  have ht : trimOf (prodM a b) = partM (prodM a b) (keepK (prodM a b)) := by
    unfold trimOf
    rw [if_neg]
    rintro (g | g)
    · exact hN g
    · have : keepK (prodM a b) 0 = true := hk
      rw [this] at g; cases g
  unfold compM redM
  rw [ht]
  unfold partM
  have e1 := cnt_len (enc_sorted ha hb ha0 hb0) (enc_mem ha hb ha0 hb0)
  rw [List.length_map] at e1
  dsimp only
  rw [show (prodM a b).n = a.n * b.n from rfl, e1]
  rfl
/-- The number of a couple. -/
noncomputable def numC (a b : Mach) (c : Fnl) : Int := (cntK (keepK (prodM a b)) (encC b c).toNat : Int)
theorem numC_inj {a b : Mach} (ha : Rng a) (hb : Rng b) (ha0 : 0 < a.n) (hb0 : 0 < b.n) {c d : Fnl} (hc : c ∈ keepL a b) (hd : d ∈ keepL a b) (h : numC a b c = numC a b d) : c = d := by
  unfold numC at h
  rw [num_idx ha hb ha0 hb0 hc, num_idx ha hb ha0 hb0 hd] at h
  have h1 : (keepL a b).idxOf c < (keepL a b).length := List.idxOf_lt_length_of_mem hc
  have h2 : (keepL a b).idxOf d < (keepL a b).length := List.idxOf_lt_length_of_mem hd
  have e1 : (keepL a b)[(keepL a b).idxOf c] = c := List.getElem_idxOf h1
  have e2 : (keepL a b)[(keepL a b).idxOf d] = d := List.getElem_idxOf h2
  have e3 : (keepL a b).idxOf c = (keepL a b).idxOf d := by omega
  rw [← e1, ← e2]
  congr 1
section
variable {a b : Mach} (ha : Rng a) (hb : Rng b) (ha0 : 0 < a.n) (hb0 : 0 < b.n)
include ha hb ha0 hb0
/-- An arc of the built machine, by its couples. -/
theorem part_turn {z : Arc} (hz : z ∈ partArcs (keepK (prodM (chM 1 b) (chM 1 a))) (prodArcs (chM 1 b) (chM 1 a))) : ∃ y ∈ partArcs (keepK (prodM a b)) (prodArcs a b), ∃ c ∈ keepL a b, ∃ d ∈ keepL a b, y.f = numC a b c ∧ y.t = numC a b d ∧ z.f = numC (chM 1 b) (chM 1 a) (sw c) ∧ z.t = numC (chM 1 b) (chM 1 a) (sw d) ∧ z.i = y.o ∧ z.o = y.i := by
  have ha' := rng_chk ha 1
  have hb' := rng_chk hb 1
  obtain ⟨z0, hz0, rfl⟩ := List.mem_map.1 hz
  obtain ⟨hz1, hk⟩ := List.mem_filter.1 hz0
  obtain ⟨hk1, hk2⟩ := Bool.and_eq_true_iff.1 hk
  obtain ⟨y, hy, c, d, hc, hd, e1, e2, e3, e4, e5, e6, _⟩ := turn_arc ha hb hz1
  rw [e3] at hk1
  rw [e4] at hk2
  have kc := (keep_turn ha hb).1 ((kept_iff hb' ha' hb0 ha0 (inC_sw hc)).1 hk1)
  have kd := (keep_turn ha hb).1 ((kept_iff hb' ha' hb0 ha0 (inC_sw hd)).1 hk2)
  refine ⟨partArc (keepK (prodM a b)) y, List.mem_map.2 ⟨y, List.mem_filter.2 ⟨hy, ?_⟩, rfl⟩, c, kc, d, kd, ?_, ?_, ?_, ?_, e5, e6⟩
  · rw [e1, e2]
    exact Bool.and_eq_true_iff.2 ⟨(kept_iff ha hb ha0 hb0 hc).2 kc, (kept_iff ha hb ha0 hb0 hd).2 kd⟩
  · unfold partArc numC; rw [e1]
  · unfold partArc numC; rw [e2]
  · unfold partArc numC; rw [e3]
  · unfold partArc numC; rw [e4]
theorem part_back {y : Arc} (hy : y ∈ partArcs (keepK (prodM a b)) (prodArcs a b)) : ∃ z ∈ partArcs (keepK (prodM (chM 1 b) (chM 1 a))) (prodArcs (chM 1 b) (chM 1 a)), ∃ c ∈ keepL a b, ∃ d ∈ keepL a b, y.f = numC a b c ∧ y.t = numC a b d ∧ z.f = numC (chM 1 b) (chM 1 a) (sw c) ∧ z.t = numC (chM 1 b) (chM 1 a) (sw d) ∧ z.i = y.o ∧ z.o = y.i ∧ z.w ≤ y.w := by
  have ha' := rng_chk ha 1
  have hb' := rng_chk hb 1
  obtain ⟨y0, hy0, rfl⟩ := List.mem_map.1 hy
  obtain ⟨hy1, hk⟩ := List.mem_filter.1 hy0
  obtain ⟨hk1, hk2⟩ := Bool.and_eq_true_iff.1 hk
  obtain ⟨z, hz, c, d, hc, hd, e1, e2, e3, e4, e5, e6, e7⟩ := turn_back ha hb hy1
  rw [e1] at hk1
  rw [e2] at hk2
  have kc := (kept_iff ha hb ha0 hb0 hc).1 hk1
  have kd := (kept_iff ha hb ha0 hb0 hd).1 hk2
  refine ⟨partArc (keepK (prodM (chM 1 b) (chM 1 a))) z, List.mem_map.2 ⟨z, List.mem_filter.2 ⟨hz, ?_⟩, rfl⟩, c, kc, d, kd, ?_, ?_, ?_, ?_, e5, e6, e7⟩
  · rw [e3, e4]
    exact Bool.and_eq_true_iff.2 ⟨(kept_iff hb' ha' hb0 ha0 (inC_sw hc)).2 ((keep_turn ha hb).2 kc), (kept_iff hb' ha' hb0 ha0 (inC_sw hd)).2 ((keep_turn ha hb).2 kd)⟩
  · unfold partArc numC; rw [e1]
  · unfold partArc numC; rw [e2]
  · unfold partArc numC; rw [e3]
  · unfold partArc numC; rw [e4]
/-- The machine of the inverses is built where the composition is. -/
theorem size_turn (hk : (⟨0, 0⟩ : Fnl) ∈ keepL a b) (h : szF (compM a b) = (0, 0)) : szF (compM (chM 1 b) (chM 1 a)) = (0, 0) := by
  have ha' := rng_chk ha 1
  have hb' := rng_chk hb 1
  have hk' : (⟨0, 0⟩ : Fnl) ∈ keepL (chM 1 b) (chM 1 a) := (keep_turn ha hb).2 hk
  obtain ⟨h1, h2, h3, h4⟩ := szF_zero h
  rw [comp_yes ha hb ha0 hb0 hk] at h1 h2 h3 h4
  rw [comp_yes hb' ha' hb0 ha0 hk']
  have el := keep_len ha hb
  have k2 : (redA (partArcs (keepK (prodM (chM 1 b) (chM 1 a))) (prodArcs (chM 1 b) (chM 1 a)))).length ≤ (redA (partArcs (keepK (prodM a b)) (prodArcs a b))).length := by
    refine len_rel (fun z y => ∃ c ∈ keepL a b, ∃ d ∈ keepL a b, y.f = numC a b c ∧ y.t = numC a b d ∧ z.f = numC (chM 1 b) (chM 1 a) (sw c) ∧ z.t = numC (chM 1 b) (chM 1 a) (sw d) ∧ z.i = y.o ∧ z.o = y.i) (redA_nodup _) ?_ ?_
    · intro z hz
      obtain ⟨y, hy, c, kc, d, kd, e1, e2, e3, e4, e5, e6⟩ := part_turn ha hb ha0 hb0 (redA_sub hz)
      obtain ⟨y', hy', hl, _⟩ := redA_dom hy
      obtain ⟨f1, f2, f3, f4⟩ := likeA_iff.1 hl
      exact ⟨y', hy', c, kc, d, kd, f1.trans e1, f4.trans e2, e3, e4, e5.trans f3.symm, e6.trans f2.symm⟩
    · rintro z hz z' hz' y ⟨c, kc, d, kd, e1, e2, e3, e4, e5, e6⟩ ⟨c', kc', d', kd', f1, f2, f3, f4, f5, f6⟩
      have := numC_inj ha hb ha0 hb0 kc kc' (e1.symm.trans f1)
      have := numC_inj ha hb ha0 hb0 kd kd' (e2.symm.trans f2)
      subst c' d'
      exact redA_eq hz hz' (likeA_iff.2 ⟨e3.trans f3.symm, e5.trans f5.symm, e6.trans f6.symm, e4.trans f4.symm⟩)
  have k3 : ∀ z ∈ redA (partArcs (keepK (prodM (chM 1 b) (chM 1 a))) (prodArcs (chM 1 b) (chM 1 a))), z.w ≤ 1000000 := by
    intro z hz
    obtain ⟨y, hy, c, kc, d, kd, e1, e2, e3, e4, e5, e6⟩ := part_turn ha hb ha0 hb0 (redA_sub hz)
    obtain ⟨y', hy', hl, _⟩ := redA_dom hy
    obtain ⟨f1, f2, f3, f4⟩ := likeA_iff.1 hl
    obtain ⟨z1, hz1, c', kc', d', kd', g1, g2, g3, g4, g5, g6, g7⟩ := part_back ha hb ha0 hb0 (redA_sub hy')
    have := numC_inj ha hb ha0 hb0 kc kc' (e1.symm.trans (f1.symm.trans g1))
    have := numC_inj ha hb ha0 hb0 kd kd' (e2.symm.trans (f4.symm.trans g2))
    subst c' d'
    obtain ⟨z2, hz2, hl2, hw⟩ := redA_dom hz1
    obtain ⟨i1, i2, i3, i4⟩ := likeA_iff.1 hl2
    have : z2 = z := redA_eq hz2 hz (likeA_iff.2 ⟨(i1.trans g3).trans e3.symm, (i2.trans g5).trans (f3.trans e5.symm), (i3.trans g6).trans (f2.trans e6.symm), (i4.trans g4).trans e4.symm⟩)
    subst z2
    have := h3 y' hy'
    omega
  have k4 : ∀ z ∈ partFins (keepK (prodM (chM 1 b) (chM 1 a))) (prodFins (chM 1 b) (chM 1 a)), z.w ≤ 1000000 := by
    intro z hz
    obtain ⟨z0, hz0, rfl⟩ := List.mem_map.1 hz
    obtain ⟨hz1, hkz⟩ := List.mem_filter.1 hz0
    obtain ⟨x, hx, y, hy, rfl⟩ := mem_prodF.1 hz1
    have hxr := hb.fin x hx
    have hyr := ha.fin y hy
    have hin : inC a b ⟨y.s, x.s⟩ := ⟨hyr.1, hyr.2, hxr.1, hxr.2⟩
    have kc := (keep_turn ha hb).1 ((kept_iff hb' ha' hb0 ha0 (inC_sw hin)).1 hkz)
    have := h4 (partFin (keepK (prodM a b)) ⟨enc b.n y.s x.s, y.w + x.w⟩) (List.mem_map.2 ⟨_, List.mem_filter.2 ⟨mem_prodF.2 ⟨y, hy, x, hx, rfl⟩, (kept_iff ha hb ha0 hb0 hin).2 kc⟩, rfl⟩)
    have : y.w + x.w ≤ 1000000 := this
    show x.w + y.w ≤ 1000000
    omega
  unfold szF
  rw [if_neg, if_neg]
  · rintro (⟨x, hx, hw⟩ | ⟨x, hx, hw⟩)
    · have := k3 x hx; omega
    · have := k4 x hx; omega
  · have h1 : ((keepL a b).length : Int) ≤ 400 := h1
    have h2 : (redA (partArcs (keepK (prodM a b)) (prodArcs a b))).length ≤ 2000 := h2
    dsimp only
    omega
end
/-- Where the composition is built, so is that of the inverses. -/
theorem compF_turn {a b : Mach} (h : compF a b = (0, 0)) : compF (chM 1 b) (chM 1 a) = (0, 0) := by
  obtain ⟨hv, hv', _, _⟩ := compF_zero h
  have hVa := valid_of hv
  have hVb := valid_of hv'
  have ha := rng_valid hVa
  have hb := rng_valid hVb
  have hVa' := valid_ch 1 hVa
  have hVb' := valid_ch 1 hVb
  have ht : twoC a b = (0, 0) := by unfold twoC; rw [if_pos hv]; exact hv'
  have ht' : twoC (chM 1 b) (chM 1 a) = (0, 0) := by unfold twoC; rw [if_pos (validate_of hVb')]; exact validate_of hVa'
  unfold compF at h ⊢
  rw [if_pos ht] at h
  rw [if_pos ht']
  by_cases h0 : a.n = 0 ∨ b.n = 0
  · rw [if_pos (show (chM 1 b).n = 0 ∨ (chM 1 a).n = 0 from h0.symm)]
  · rw [if_neg h0] at h
    rw [if_neg (show ¬ ((chM 1 b).n = 0 ∨ (chM 1 a).n = 0) from fun g => h0 g.symm)]
    have := hVa.n0
    have := hVb.n0
    have ha0 : 0 < a.n := by omega
    have hb0 : 0 < b.n := by omega
    by_cases h1 : 200000 < total a b
    · rw [if_pos h1] at h; simp at h
    · rw [if_neg h1] at h
      have := total_turn ha hb
      rw [if_neg (by omega)]
      by_cases hk : (⟨0, 0⟩ : Fnl) ∈ keepL a b
      · exact size_turn ha hb ha0 hb0 hk h
      · rw [cM_no hVb' hVa' hb0 ha0 fun g => hk ((keep_turn ha hb).1 g)]
        exact szF_empty
/-- What the two machines weigh. -/
theorem wgt_turn {a b : Mach} (ha : Rng a) (hb : Rng b) (u v : List Int) : wgt (compM (chM 1 b) (chM 1 a)) v u = wgt (compM a b) u v := by
  have ha' := rng_chk ha 1
  have hb' := rng_chk hb 1
  obtain ⟨p1, p2⟩ := acc_comp ha hb u v
  obtain ⟨q1, q2⟩ := acc_comp hb' ha' v u
  refine least_dom ?_ ?_
  · intro d hd
    obtain ⟨w, d1, d2, rfl, h1, h2⟩ := q2 d hd
    exact p1 _ ⟨w, d2, d1, by omega, acc_ch1' ha h2, acc_ch1' hb h1⟩
  · intro d hd
    obtain ⟨w, d1, d2, rfl, h1, h2⟩ := p2 d hd
    obtain ⟨e1, l1, g1⟩ := acc_chk ha (fun _ _ hp => pw_ch1 hp) d1 h1
    obtain ⟨e2, l2, g2⟩ := acc_chk hb (fun _ _ hp => pw_ch1 hp) d2 h2
    obtain ⟨d', l, g⟩ := q1 (e2 + e1) ⟨w, e2, e1, rfl, g2, g1⟩
    exact ⟨d', by omega, g⟩
end Gm
namespace Gm
set_option linter.unusedSimpArgs false
set_option linter.unusedVariables false
theorem enc_one (n q : Int) : enc n 0 q = q := by simp [enc]
theorem prodR_one (n : Int) {y : Arc} (h : y.i = 0) : prodR n y 0 = y := by
  unfold prodR
  rw [enc_one, enc_one, ← h]
theorem prodA_one (n l : Int) {y : Arc} (h : y.i = l) : prodA n ⟨0, 0, l, l, 0⟩ y = y := by
  unfold prodA
  simp only [enc_one, Int.zero_add, ← h]
/-- The arcs of the copier and a machine are the machine's. -/
theorem mem_cp {ls : List Int} {m : Mach} (h0 : ∀ l ∈ ls, l ≠ 0) (hl : ∀ y ∈ m.arcs, y.i ≠ 0 → y.i ∈ ls) {z : Arc} : z ∈ prodArcs (cpM ls) m ↔ z ∈ m.arcs := by
  rw [mem_prod]
  constructor
  · rintro (⟨x, hx, ho, _⟩ | ⟨x, hx, _, y, hy, hi, rfl⟩ | ⟨y, hy, hi, p, hp, rfl⟩)
    · obtain ⟨l, hl', rfl⟩ := List.mem_map.1 hx
      exact absurd ho (h0 l hl')
    · obtain ⟨l, hl', rfl⟩ := List.mem_map.1 hx
      rw [prodA_one m.n l hi]; exact hy
    · have hp' : p < (1 : Int).toNat := hp
      have : p = 0 := by simp at hp'; omega
      subst this
      rw [show ((0 : Nat) : Int) = 0 from rfl, prodR_one m.n hi]; exact hy
  · intro hz
    by_cases hi : z.i = 0
    · exact .inr (.inr ⟨z, hz, hi, 0, by show 0 < (1 : Int).toNat; decide, (prodR_one m.n hi).symm⟩)
    · have := hl z hz hi
      exact .inr (.inl ⟨⟨0, 0, z.i, z.i, 0⟩, List.mem_map.2 ⟨z.i, this, rfl⟩, hi, z, hz, rfl, (prodA_one m.n z.i rfl).symm⟩)
theorem cp_fins (ls : List Int) (m : Mach) : prodFins (cpM ls) m = m.fins := by
  unfold prodFins cpM
  simp only [List.flatMap_cons, List.flatMap_nil, List.append_nil, enc_one, Int.zero_add]
  exact List.map_id' _
/-- What the copier accepts. -/
theorem cp_pw {ls : List Int} {t : Int} {u v : List Int} {d : Nat} (h : Pw (cpM ls).arcs 0 t u v d) : t = 0 ∧ u = v ∧ d = 0 := by
  induction h with
  | nil => exact ⟨rfl, rfl, rfl⟩
  | @snoc t u v d x _ hx hf ih =>
    obtain ⟨l, _, rfl⟩ := List.mem_map.1 hx
    obtain ⟨_, e, e2⟩ := ih
    exact ⟨rfl, by rw [e], by rw [e2]; rfl⟩
theorem cp_of {ls : List Int} {m : Mach} (hl : ∀ y ∈ m.arcs, y.i ≠ 0 → y.i ∈ ls) {t : Int} {u v : List Int} {d : Nat} (h : Pw m.arcs 0 t u v d) : Pw (cpM ls).arcs 0 0 u u 0 := by
  induction h with
  | nil => exact .nil
  | @snoc t u v d x _ hx hf ih =>
    by_cases hi : x.i = 0
    · exact ih.cast rfl (by simp [lab, hi]) (by simp [lab, hi]) rfl
    · exact Pw.snoc (a := ⟨0, 0, x.i, x.i, 0⟩) ih (List.mem_map.2 ⟨x.i, hl x hx hi, rfl⟩) rfl
theorem rng_cp (ls : List Int) : Rng (cpM ls) where
  arc := fun a ha => by
    obtain ⟨l, _, rfl⟩ := List.mem_map.1 ha
    exact ⟨Int.le_refl _, by show (0 : Int) < 1; decide, Int.le_refl _, by show (0 : Int) < 1; decide⟩
  fin := fun x hx => by
    rw [List.mem_singleton.1 hx]
    exact ⟨Int.le_refl _, by show (0 : Int) < 1; decide⟩
  wt := ⟨fun a ha => by
    obtain ⟨l, _, rfl⟩ := List.mem_map.1 ha
    exact Int.le_refl _, fun x hx => by
    rw [List.mem_singleton.1 hx]
    exact Int.le_refl _⟩
  n0 := by show (0 : Int) ≤ 1; decide
/-- The copier changes no weight. -/
theorem wgt_cp {ls : List Int} {m : Mach} (hm : Rng m) (hl : ∀ y ∈ m.arcs, y.i ≠ 0 → y.i ∈ ls) (u v : List Int) : wgt (compM (cpM ls) m) u v = wgt m u v := by
  obtain ⟨p1, p2⟩ := acc_comp (rng_cp ls) hm u v
  refine least_dom ?_ ?_
  · intro d hd
    obtain ⟨w, d1, d2, rfl, h1, h2⟩ := p2 d hd
    obtain ⟨_, x, hx, e, he, rfl⟩ := (rng_cp ls).acc.1 h1
    obtain ⟨_, rfl, rfl⟩ := cp_pw he
    exact ⟨d2, by omega, h2⟩
  · intro d hd
    obtain ⟨h0, x, hx, e, he, rfl⟩ := hm.acc.1 hd
    obtain ⟨d', l, g⟩ := p1 (0 + (e + x.w.toNat)) ⟨u, 0, e + x.w.toNat, rfl, (rng_cp ls).acc.2 ⟨by show (0 : Int) < 1; decide, ⟨0, 0⟩, List.mem_singleton.2 rfl, 0, cp_of hl he, rfl⟩, hd⟩
    exact ⟨d', by omega, g⟩
/-- The machine and the copier, the other way around. -/
theorem enc_by_one (p : Int) : enc 1 p 0 = p := by simp [enc]
theorem prodL_one {x : Arc} (h : x.o = 0) : prodL 1 x 0 = x := by
  unfold prodL
  rw [enc_by_one, enc_by_one, ← h]
theorem prodA_by {x : Arc} {l : Int} (h : l = x.o) : prodA 1 x ⟨0, 0, l, l, 0⟩ = x := by
  unfold prodA
  simp only [enc_by_one, Int.add_zero, h]
theorem mem_pc {ls : List Int} {m : Mach} (h0 : ∀ l ∈ ls, l ≠ 0) (hl : ∀ y ∈ m.arcs, y.o ≠ 0 → y.o ∈ ls) {z : Arc} : z ∈ prodArcs m (cpM ls) ↔ z ∈ m.arcs := by
  rw [mem_prod]
  constructor
  · rintro (⟨x, hx, ho, q, hq, rfl⟩ | ⟨x, hx, _, y, hy, hi, rfl⟩ | ⟨y, hy, hi, _⟩)
    · have hq' : q < (1 : Int).toNat := hq
      have : q = 0 := by simp at hq'; omega
      subst this
      show prodL 1 x ((0 : Nat) : Int) ∈ _
      rw [show ((0 : Nat) : Int) = 0 from rfl, prodL_one ho]; exact hx
    · obtain ⟨l, hl', rfl⟩ := List.mem_map.1 hy
      show prodA 1 x _ ∈ _
      rw [prodA_by hi]; exact hx
    · obtain ⟨l, hl', rfl⟩ := List.mem_map.1 hy
      exact absurd hi (h0 l hl')
  · intro hz
    by_cases hi : z.o = 0
    · exact .inl ⟨z, hz, hi, 0, by show 0 < (1 : Int).toNat; decide, (prodL_one hi).symm⟩
    · have := hl z hz hi
      exact .inr (.inl ⟨z, hz, hi, ⟨0, 0, z.o, z.o, 0⟩, List.mem_map.2 ⟨z.o, this, rfl⟩, rfl, (prodA_by rfl).symm⟩)
theorem pc_fins (ls : List Int) (m : Mach) : prodFins m (cpM ls) = m.fins := by
  unfold prodFins cpM
  simp only [List.map_cons, List.map_nil, enc_by_one, Int.add_zero]
  induction m.fins with
  | nil => rfl
  | cons x l ih => rw [List.flatMap_cons, ih]; rfl
theorem pc_of {ls : List Int} {m : Mach} (hl : ∀ y ∈ m.arcs, y.o ≠ 0 → y.o ∈ ls) {t : Int} {u v : List Int} {d : Nat} (h : Pw m.arcs 0 t u v d) : Pw (cpM ls).arcs 0 0 v v 0 := by
  induction h with
  | nil => exact .nil
  | @snoc t u v d x _ hx hf ih =>
    by_cases hi : x.o = 0
    · exact ih.cast rfl (by simp [lab, hi]) (by simp [lab, hi]) rfl
    · exact Pw.snoc (a := ⟨0, 0, x.o, x.o, 0⟩) ih (List.mem_map.2 ⟨x.o, hl x hx hi, rfl⟩) rfl
theorem wgt_pc {ls : List Int} {m : Mach} (hm : Rng m) (hl : ∀ y ∈ m.arcs, y.o ≠ 0 → y.o ∈ ls) (u v : List Int) : wgt (compM m (cpM ls)) u v = wgt m u v := by
  obtain ⟨p1, p2⟩ := acc_comp hm (rng_cp ls) u v
  refine least_dom ?_ ?_
  · intro d hd
    obtain ⟨w, d1, d2, rfl, h2, h1⟩ := p2 d hd
    obtain ⟨_, x, hx, e, he, rfl⟩ := (rng_cp ls).acc.1 h1
    obtain ⟨_, rfl, rfl⟩ := cp_pw he
    exact ⟨d1, by omega, h2⟩
  · intro d hd
    obtain ⟨h0, x, hx, e, he, rfl⟩ := hm.acc.1 hd
    obtain ⟨d', l, g⟩ := p1 (e + x.w.toNat + 0) ⟨v, e + x.w.toNat, 0, rfl, hd, (rng_cp ls).acc.2 ⟨by show (0 : Int) < 1; decide, ⟨0, 0⟩, List.mem_singleton.2 rfl, 0, pc_of hl he, rfl⟩⟩
    exact ⟨d', by omega, g⟩
/-- How many steps there are. -/
theorem filt_le_one {l : List Int} (hn : l.Nodup) (k : Int) : (l.filter fun x => decide (x = k)).length ≤ if k ∈ l then 1 else 0 := by
  induction l with
  | nil => simp
  | cons x l ih =>
    obtain ⟨hx, hn'⟩ := List.nodup_cons.1 hn
    have ih := ih hn'
    by_cases e : x = k
    · subst e
      rw [if_neg hx] at ih
      rw [List.filter_cons_of_pos (by simp), if_pos List.mem_cons_self, List.length_cons]
      omega
    · rw [List.filter_cons_of_neg (by simpa using e)]
      by_cases h : k ∈ l
      · rw [if_pos h] at ih; rw [if_pos (List.mem_cons_of_mem _ h)]; exact ih
      · rw [if_neg h] at ih; rw [if_neg (by simp only [List.mem_cons, not_or]; exact ⟨fun g => e g.symm, h⟩)]; exact ih
theorem cp_one (ls : List Int) (hn : ls.Nodup) (k : Int) : ((cpM ls).arcs.filter fun x => decide (x.o = k)).length ≤ if k ∈ ls then 1 else 0 := by
  unfold cpM
  dsimp only
  rw [List.filter_map, List.length_map]
  exact filt_le_one hn k
theorem cp_one' (ls : List Int) (hn : ls.Nodup) (k : Int) : ((cpM ls).arcs.filter fun x => decide (x.i = k)).length ≤ if k ∈ ls then 1 else 0 := by
  unfold cpM
  dsimp only
  rw [List.filter_map, List.length_map]
  exact filt_le_one hn k
theorem steps_cp {ls : List Int} (hn : ls.Nodup) (h0 : ∀ l ∈ ls, l ≠ 0) (B : List Arc) : stepN (cpM ls).arcs B ≤ B.length := by
  have e : stepN (cpM ls).arcs B = ((cpM ls).arcs.map fun x => (B.filter fun y => decide (y.i = x.o)).length).sum + (B.filter fun y => decide (y.i = 0)).length := by
    unfold stepN
    congr 2
    refine List.map_congr_left fun x hx => ?_
    obtain ⟨l, hl, rfl⟩ := List.mem_map.1 hx
    exact if_neg (h0 l hl)
  rw [e, sum_pairs]
  induction B with
  | nil => simp
  | cons y B ih =>
    have h1 := cp_one ls hn y.i
    rw [List.map_cons, List.sum_cons, List.length_cons]
    have ih := ih (by
      unfold stepN
      congr 2
      refine List.map_congr_left fun x hx => ?_
      obtain ⟨l, hl, rfl⟩ := List.mem_map.1 hx
      exact if_neg (h0 l hl))
    by_cases hy : y.i = 0
    · rw [List.filter_cons_of_pos (by simpa using hy), List.length_cons]
      rw [if_neg (fun g => h0 _ g hy)] at h1
      omega
    · rw [List.filter_cons_of_neg (by simpa using hy)]
      have : (if y.i ∈ ls then 1 else 0) ≤ 1 := by split <;> omega
      omega
theorem steps_pc {ls : List Int} (hn : ls.Nodup) (h0 : ∀ l ∈ ls, l ≠ 0) (A : List Arc) : stepN A (cpM ls).arcs ≤ A.length := by
  have e0 : ((cpM ls).arcs.filter fun y => decide (y.i = 0)).length = 0 := by
    have := cp_one' ls hn 0
    rw [if_neg (fun g => h0 _ g rfl)] at this
    omega
  unfold stepN
  rw [e0, Nat.add_zero]
  induction A with
  | nil => simp
  | cons x A ih =>
    rw [List.map_cons, List.sum_cons, List.length_cons]
    have h1 : (if x.o = 0 then 1 else ((cpM ls).arcs.filter fun y => decide (y.i = x.o)).length) ≤ 1 := by
      by_cases h : x.o = 0
      · rw [if_pos h]; omega
      · rw [if_neg h]
        have h1 := cp_one' ls hn x.o
        have : (if x.o ∈ ls then 1 else 0) ≤ 1 := by split <;> omega
        omega
    omega
/-- The arcs of some states are arcs. -/
theorem outs_tot {E : List Nat} (hn : E.Nodup) {A : List Arc} (hA : ∀ z ∈ A, 0 ≤ z.f) : (E.map fun s => (outs A s).length).sum ≤ A.length := by
  have g := group_perm (p := fun z => decide (z.f.toNat ∈ E)) hn (A := A) fun z hz => ⟨hA z hz, fun h => of_decide_eq_true h⟩
  have e : (E.flatMap fun s => (outs A s).filter fun z => decide (z.f.toNat ∈ E)) = E.flatMap fun s => outs A s := by
    rw [List.flatMap_def, List.flatMap_def]
    congr 1
    refine List.map_congr_left fun s hs => ?_
    refine List.filter_eq_self.2 fun z hz => ?_
    have := (mem_outs.1 hz).2
    exact decide_eq_true (by rw [this]; exact hs)
  rw [e] at g
  have h1 := g.length_eq
  rw [List.length_flatMap] at h1
  have h2 := List.length_filter_le (fun z : Arc => decide (z.f.toNat ∈ E)) A
  omega
theorem sum_le_map {α : Type} {f g : α → Nat} : ∀ {l : List α}, (∀ x ∈ l, f x ≤ g x) → (l.map f).sum ≤ (l.map g).sum
  | [], _ => Nat.le_refl _
  | x :: l, h => by
    have h1 := h x List.mem_cons_self
    have h2 := sum_le_map (l := l) fun y hy => h y (List.mem_cons_of_mem _ hy)
    rw [List.map_cons, List.map_cons, List.sum_cons, List.sum_cons]; omega
section
variable {ls : List Int} {m : Mach} (hn : ls.Nodup) (h0 : ∀ l ∈ ls, l ≠ 0) (hm : Rng m)
include hn h0 hm
theorem total_cp : total (cpM ls) m ≤ m.arcs.length := by
  have h1 : total (cpM ls) m ≤ ((reachL (cpM ls) m).map fun c => (outs m.arcs c.w.toNat).length).sum := by
    refine sum_le_map fun c hc => ?_
    rw [stepsOf_len]
    exact Nat.le_trans (stepN_sub (List.filter_sublist ..) (List.Sublist.refl _)) (steps_cp hn h0 _)
  have h2 := outs_tot (E := (reachL (cpM ls) m).map fun c => c.w.toNat) (A := m.arcs) (by
    refine List.pairwise_map.2 ((List.Pairwise.and_mem.1 (reachL_nodup (cpM ls) m)).imp fun {c d} h e => h.2.2 ?_)
    have hc := (mem_reachL.1 h.1).1
    have hd := (mem_reachL.1 h.2.1).1
    have c1 : c.s < 1 := hc.2.1
    have d1 : d.s < 1 := hd.2.1
    have := hc.1
    have := hd.1
    have := hc.2.2.1
    have := hd.2.2.1
    obtain ⟨cs, cw⟩ := c
    obtain ⟨ds, dw⟩ := d
    dsimp only at *
    rw [show cs = ds by omega, show cw = dw by omega]) fun z hz => (hm.arc z hz).1
  rw [List.map_map] at h2
  exact Nat.le_trans h1 h2
theorem total_pc : total m (cpM ls) ≤ m.arcs.length := by
  have h1 : total m (cpM ls) ≤ ((reachL m (cpM ls)).map fun c => (outs m.arcs c.s.toNat).length).sum := by
    refine sum_le_map fun c hc => ?_
    rw [stepsOf_len]
    exact Nat.le_trans (stepN_sub (List.Sublist.refl _) (List.filter_sublist ..)) (steps_pc hn h0 _)
  have h2 := outs_tot (E := (reachL m (cpM ls)).map fun c => c.s.toNat) (A := m.arcs) (by
    refine List.pairwise_map.2 ((List.Pairwise.and_mem.1 (reachL_nodup m (cpM ls))).imp fun {c d} h e => h.2.2 ?_)
    have hc := (mem_reachL.1 h.1).1
    have hd := (mem_reachL.1 h.2.1).1
    have c1 : c.w < 1 := hc.2.2.2
    have d1 : d.w < 1 := hd.2.2.2
    have := hc.1
    have := hd.1
    have := hc.2.2.1
    have := hd.2.2.1
    obtain ⟨cs, cw⟩ := c
    obtain ⟨ds, dw⟩ := d
    dsimp only at *
    rw [show cs = ds by omega, show cw = dw by omega]) fun z hz => (hm.arc z hz).1
  rw [List.map_map] at h2
  exact Nat.le_trans h1 h2
end
/-- A composition whose arcs and final states are a machine's is no larger than it. -/
theorem sz_like {a b m : Mach} (hV : Valid m) (hn : a.n * b.n = m.n) (ha : ∀ z, z ∈ prodArcs a b ↔ z ∈ m.arcs) (hf : prodFins a b = m.fins) : szF (compM a b) = (0, 0) := by
  have hc : compM a b = redM (trimOf ⟨m.n, prodArcs a b, m.fins⟩) := by
    unfold compM prodM
    rw [hn, hf]
  rw [hc]
  unfold trimOf
  by_cases hk : m.n = 0 ∨ keepK ⟨m.n, prodArcs a b, m.fins⟩ 0 = false
  · rw [if_pos hk]; exact szF_empty
  · rw [if_neg hk]
    generalize keepK ⟨m.n, prodArcs a b, m.fins⟩ = K
    have hsub : ∀ x ∈ redA (partArcs K (prodArcs a b)), x ∈ partArcs K m.arcs := fun x hx => by
      have h := redA_sub hx
      unfold partArcs at h ⊢
      obtain ⟨y, hy, rfl⟩ := List.mem_map.1 h
      obtain ⟨h1, h2⟩ := List.mem_filter.1 hy
      exact List.mem_map.2 ⟨y, List.mem_filter.2 ⟨(ha y).1 h1, h2⟩, rfl⟩
    have hlen : (redA (partArcs K (prodArcs a b))).length ≤ 2000 := by
      have h1 := len_sub (redA_nodup _) hsub
      have h2 : (partArcs K m.arcs).length ≤ m.arcs.length := by
        unfold partArcs
        rw [List.length_map]
        exact List.length_filter_le _ _
      have := hV.len
      omega
    have hnn : (cntK K m.n.toNat : Int) ≤ 400 := by
      have := cntK_le K m.n.toNat
      have := hV.n4
      have := hV.n0
      omega
    unfold szF redM partM
    dsimp only
    rw [if_neg (by omega), if_neg]
    rintro (⟨x, hx, g⟩ | ⟨x, hx, g⟩)
    · have h := hsub x hx
      unfold partArcs at h
      obtain ⟨y, hy, rfl⟩ := List.mem_map.1 h
      have := okArc_iff (hV.okA (List.mem_filter.1 hy).1)
      have g : 1000000 < y.w := g
      omega
    · unfold partFins at hx
      obtain ⟨y, hy, rfl⟩ := List.mem_map.1 hx
      have := okFin_iff (hV.okF (List.mem_filter.1 hy).1)
      have g : 1000000 < y.w := g
      omega
theorem cp_valid {ls : List Int} (hs : ls.Pairwise (· < ·)) (hr : ∀ l ∈ ls, 0 < l ∧ l ≤ 1114111) (hl : ls.length ≤ 2000) : Valid (cpM ls) := by
  have hsA : ((ls.map fun l => (⟨0, 0, l, l, 0⟩ : Arc))).Pairwise fun a b => arcLess a b = true := by
    refine List.pairwise_map.2 (hs.imp fun {a b} h => ?_)
    unfold arcLess
    simp only [arcKey, lessL]
    rw [if_pos trivial, if_neg (by omega)]
    exact decide_eq_true h
  have e : srtA (ls.map fun l => (⟨0, 0, l, l, 0⟩ : Arc)) = ls.map fun l => ⟨0, 0, l, l, 0⟩ := (srtA_eq (hsA.imp fun h => arcLess_asymm h) (List.Perm.refl _)).symm
  have hv : Valid ⟨1, srtA (ls.map fun l => (⟨0, 0, l, l, 0⟩ : Arc)), [⟨0, 0⟩]⟩ := by
    refine valid_srt (hsA.imp fun {a b} h e => by subst e; rw [arcLess_irrefl] at h; cases h) ⟨by omega, by omega⟩ (by rw [List.length_map]; exact hl) (fun x hx => ?_) (fun x hx => ?_) (by simp)
    · obtain ⟨l, hl', rfl⟩ := List.mem_map.1 hx
      have := hr l hl'
      exact okArc_t (by simp only; omega)
    · rw [List.mem_singleton.1 hx]
      exact okFin_t (by simp only; omega)
  rw [e] at hv
  exact hv
theorem compF_cp {ls : List Int} {m : Mach} (hs : ls.Pairwise (· < ·)) (hr : ∀ l ∈ ls, 0 < l ∧ l ≤ 1114111) (hll : ls.length ≤ 2000) (hV : Valid m) (hl : ∀ y ∈ m.arcs, y.i ≠ 0 → y.i ∈ ls) : compF (cpM ls) m = (0, 0) := by
  have hK := cp_valid hs hr hll
  have hn : ls.Nodup := hs.imp fun {a b} h e => by omega
  have h0 : ∀ l ∈ ls, l ≠ 0 := fun l h => by have := hr l h; omega
  have ht : twoC (cpM ls) m = (0, 0) := by unfold twoC; rw [if_pos (validate_of hK)]; exact validate_of hV
  unfold compF
  rw [if_pos ht]
  by_cases hz : (cpM ls).n = 0 ∨ m.n = 0
  · rw [if_pos hz]
  · have h1 := total_cp hn h0 (rng_valid hV)
    have h2 := hV.len
    rw [if_neg hz, if_neg (by omega)]
    exact sz_like hV (by show 1 * m.n = m.n; omega) (fun z => mem_cp h0 hl) (cp_fins ls m)
theorem compF_pc {ls : List Int} {m : Mach} (hs : ls.Pairwise (· < ·)) (hr : ∀ l ∈ ls, 0 < l ∧ l ≤ 1114111) (hll : ls.length ≤ 2000) (hV : Valid m) (hl : ∀ y ∈ m.arcs, y.o ≠ 0 → y.o ∈ ls) : compF m (cpM ls) = (0, 0) := by
  have hK := cp_valid hs hr hll
  have hn : ls.Nodup := hs.imp fun {a b} h e => by omega
  have h0 : ∀ l ∈ ls, l ≠ 0 := fun l h => by have := hr l h; omega
  have ht : twoC m (cpM ls) = (0, 0) := by unfold twoC; rw [if_pos (validate_of hV)]; exact validate_of hK
  unfold compF
  rw [if_pos ht]
  by_cases hz : m.n = 0 ∨ (cpM ls).n = 0
  · rw [if_pos hz]
  · have h1 := total_pc hn h0 (rng_valid hV)
    have h2 := hV.len
    rw [if_neg hz, if_neg (by omega)]
    exact sz_like hV (by show m.n * 1 = m.n; omega) (fun z => mem_pc h0 hl) (pc_fins ls m)
end Gm
namespace Gm
set_option linter.unusedSimpArgs false
set_option linter.unusedVariables false
theorem wF_same {m m' : Mach} {u v : List Int} (h : validate m = (0, 0)) (h' : validate m' = (0, 0)) : wF m' u v = wF m u v := by
  unfold wF; rw [if_pos h, if_pos h']
theorem chM_in {m : Mach} {y : Arc} (hy : y ∈ m.arcs) : ∃ x ∈ (chM 1 m).arcs, x.i = y.o := by
  obtain ⟨x, hx, _, _, h, _⟩ := ch_mem hy
  exact ⟨x, hx, h⟩
theorem labs_rng {l : List Arc} (h : ∀ a ∈ l, 0 ≤ a.i ∧ a.i ≤ 1114111) : ∀ x ∈ labsR l, 0 < x ∧ x ≤ 1114111 := fun x hx => by
  obtain ⟨h0, a, ha, rfl⟩ := (labsR_mem l x).1 hx
  have := h a ha
  omega
theorem id_plain1 {m : Mach} (hV : Valid m) : compF (cpM (labsR m.arcs)) m = (0, 0) ∧ ∀ u v, wgt (compM (cpM (labsR m.arcs)) m) u v = wgt m u v := by
  have hl : ∀ y ∈ m.arcs, y.i ≠ 0 → y.i ∈ labsR m.arcs := fun y hy h => (labsR_mem _ _).2 ⟨h, y, hy, rfl⟩
  have hr := labs_rng (l := m.arcs) fun a ha => by have := okArc_iff (hV.okA ha); omega
  have hn := Nat.le_trans (labsR_len m.arcs) hV.len
  exact ⟨compF_cp (labsR_sorted _) hr hn hV hl, wgt_cp (rng_valid hV) hl⟩
theorem id_plain2 {m : Mach} (hV : Valid m) : compF m (cpM (labsR (chM 1 m).arcs)) = (0, 0) ∧ ∀ u v, wgt (compM m (cpM (labsR (chM 1 m).arcs))) u v = wgt m u v := by
  have hV' := valid_ch 1 hV
  have hl : ∀ y ∈ m.arcs, y.o ≠ 0 → y.o ∈ labsR (chM 1 m).arcs := fun y hy h => by
    obtain ⟨x, hx, e⟩ := chM_in hy
    exact (labsR_mem _ _).2 ⟨h, x, hx, e⟩
  have hr := labs_rng (l := (chM 1 m).arcs) fun a ha => by have := okArc_iff (hV'.okA ha); omega
  have hn := Nat.le_trans (labsR_len (chM 1 m).arcs) hV'.len
  exact ⟨compF_pc (labsR_sorted _) hr hn hV hl, wgt_pc (rng_valid hV) hl⟩
theorem wv_same {m m' : Mach} {u v : List Int} (h : validate m = (0, 0)) (h' : validate m' = (0, 0)) (hw : ∀ u v, wgt m' u v = wgt m u v) : wv m' u v = wv m u v := by
  unfold wv; rw [wF_same h h', hw]
end Gm
namespace Go.Proofs.Ytmgpcnkmmgkjgaa
open Go.RowKit Gm Go.Sort Go.Shelf
set_option linter.unusedSimpArgs false
set_option linter.unusedVariables false
theorem comp_fine (va vb : Value) (a b : Mach) (w : World) (B : Nat) (hB : B ≤ w.heap.size) (ha : MachAt w B va a) (hb : MachAt w B vb b) (hz : compF a b = (0, 0)) :
    Calls Try.prog 26 #[va, vb] w fun e w' => ∃ g A n c AF nf cf, e = .returned (.tuple #[.agg #[.int .i64 g, .slice A n c, .slice AF nf cf], .agg #[.int .i64 0, .int .i64 0]]) ∧ Hid (MachNew w.heap.size w' (.agg #[.int .i64 g, .slice A n c, .slice AF nf cf]) (compM a b)) ∧ Below w.heap.size w w' := by
  have h := compose_any va vb a b w B hB ha hb
  rw [(compF_zero hz).2.2.2, hz] at h
  refine h.mono ?_
  rintro e w' ⟨v', rfl, hM, hbw⟩
  obtain ⟨A, n, c, AF, nf, cf, rfl⟩ := agg_of hM
  exact ⟨_, A, n, c, AF, nf, cf, rfl, hide hM, hbw⟩
theorem copier1_agg (va : Value) (a : Mach) (w : World) (B : Nat) (hB : B ≤ w.heap.size) (ha : MachAt w B va a) (hv : Valid a) :
    Calls Try.prog 30 #[va, .bool true] w fun e w' => ∃ g A n c AF nf cf, e = .returned (.agg #[.int .i64 g, .slice A n c, .slice AF nf cf]) ∧ Hid (MachAt w' w'.heap.size (.agg #[.int .i64 g, .slice A n c, .slice AF nf cf]) (cpM (labsR a.arcs))) ∧ Below w.heap.size w w' := by
  refine (copier1_any va a w B hB ha hv).mono ?_
  rintro e w' ⟨v', rfl, hM, hbw⟩
  have h := hM
  obtain ⟨A, AF, n, c, nf, cf, rfl, _⟩ := h
  exact ⟨_, A, n, c, AF, nf, cf, rfl, hide hM, hbw⟩
theorem copier0_agg (va : Value) (a : Mach) (w : World) (B : Nat) (hB : B ≤ w.heap.size) (ha : MachAt w B va a) (hv : Valid a) :
    Calls Try.prog 30 #[va, .bool false] w fun e w' => ∃ g A n c AF nf cf, e = .returned (.agg #[.int .i64 g, .slice A n c, .slice AF nf cf]) ∧ Hid (MachAt w' w'.heap.size (.agg #[.int .i64 g, .slice A n c, .slice AF nf cf]) (cpM (labsR (chM 1 a).arcs))) ∧ Below w.heap.size w w' := by
  refine (copier0_any va a w B hB ha hv).mono ?_
  rintro e w' ⟨v', rfl, hM, hbw⟩
  have h := hM
  obtain ⟨A, AF, n, c, nf, cf, rfl, _⟩ := h
  exact ⟨_, A, n, c, AF, nf, cf, rfl, hide hM, hbw⟩
theorem cells_of {w : World} {g : Nat} {t : TypeId} {x y z : Value} (h : Blk w g t #[x, y, z]) : w.cell? ⟨g, 0, none⟩ = some x ∧ w.cell? ⟨g, 1, none⟩ = some y ∧ w.cell? ⟨g, 2, none⟩ = some z := ⟨h.cell 0, h.cell 1, h.cell 2⟩
theorem mach_up {w w' : World} {B B' B2 : Nat} {v : Value} {m : Mach} (h : MachAt w B v m) (hb : Below B' w w') (hB : B ≤ B') (h2 : B ≤ B2) : MachAt w' B2 v m := (h.below hb hB).mono h2
end Go.Proofs.Ytmgpcnkmmgkjgaa
namespace Go.Proofs.Ytmgpcnkmmgkjgaa
open Go.RowKit Gm Go.Sort Go.Shelf
set_option linter.unusedSimpArgs false
set_option linter.unusedVariables false
set_option maxRecDepth 100000 in
set_option maxHeartbeats 16000000 in
theorem idlaw_any (vm u0 u1 : Value) (m : Mach) (l0 l1 : List Int) (w : World) (B : Nat) (hB : B ≤ w.heap.size) (hm : MachAt w B vm m) (hu0 : Nums w B u0 l0) (hu1 : Nums w B u1 l1) :
    Calls Try.prog 9 #[vm, u0, u1] w fun e w' => e = .returned (.bool true) ∧ Below w.heap.size w w' := by
  have HU0 := hide hu0
  obtain ⟨AU0, nu0, cu0, rfl, -⟩ := hu0
  have HU1 := hide hu1
  obtain ⟨AU1, nu1, cu1, rfl, -⟩ := hu1
  have HMm := hide hm
  obtain ⟨Am, AFm, nm, cm, nfm, cfm, rfl, -⟩ := hm
  obtain ⟨sm, hsm⟩ : ∃ s, s = m.n := ⟨_, rfl⟩
  rw [← hsm] at HMm ⊢
  clear hsm
  have heq := fun a b c d W => run_eql_fault a b c d W
  have hne := fun a b c d W => run_neq_fault a b c d W
  have hf0 : fEq 0 0 0 0 = true := rfl
  go_enter Try.func9, Try.ntmps9
  go_wp2_with fail
  have hXm : Blk (w.alloc (Obj.cells #[.int .i64 sm, .slice Am nm cm, .slice AFm nfm cfm] 25)) (w.heap.size) 25 #[.int .i64 sm, .slice Am nm cm, .slice AFm nfm cfm] := (Blk.at_ rfl)
  refine (composition_ex _).mono ?_
  rintro e w1 ⟨rfl, hb1⟩
  have hbw : Below w.heap.size w w1 := (show Below w.heap.size w _ by go_grown).trans (hb1.mono (by simp <;> omega))
  have bm := hXm.below hb1 (by simp <;> omega)
  clear hb1 hXm
  obtain ⟨X, hX⟩ : ∃ z, z = w.heap.size := ⟨_, rfl⟩
  have hXw : w.heap.size ≤ X := by omega
  rw [← hX] at bm
  simp only [← hX]
  clear hX
  go_wp2_with fail
  refine (weighed_ex _).mono ?_
  rintro e w2 ⟨rfl, hb2⟩
  replace bm := bm.below hb2 bm.lt
  replace hbw := hbw.trans (hb2.mono hbw.size)
  clear hb2
  have HQ := hide (fun W (B : Nat) (hB : B ≤ W.heap.size) (h : MachAt W B (.agg #[.int .i64 sm, .slice Am nm cm, .slice AFm nfm cfm]) m) => mfault_spec _ m W B hB h)
  obtain ⟨f1, hf1⟩ : ∃ z, z = (validate m).1 := ⟨_, rfl⟩
  obtain ⟨f2, hf2⟩ : ∃ z, z = (validate m).2 := ⟨_, rfl⟩
  rw [← hf1, ← hf2] at HQ
  have HFF := hide (show (f1, f2) = validate m by rw [hf1, hf2])
  clear hf1 hf2
  have qbm0 := bm.cell 0
  have qbm1 := bm.cell 1
  have qbm2 := bm.cell 2
  simp at qbm0 qbm1 qbm2
  have qbml := bm.lt
  go_wp2_with fail
  refine (HQ.out _ _ (Nat.le_refl _) ((HMm.out.below hbw hB).mono (by have := hbw.size; omega))).mono ?_
  rintro e w3 ⟨rfl, hb3⟩
  clear qbm0 qbm1 qbm2 qbml
  replace bm := bm.below hb3 bm.lt
  replace hbw := hbw.trans (hb3.mono hbw.size)
  clear hb3 HQ
  by_cases hz : validate m = (0, 0)
  · skip
    have hpq := HFF.out
    rw [hz] at hpq
    obtain ⟨rfl, rfl⟩ : f1 = 0 ∧ f2 = 0 := ⟨congrArg Prod.fst hpq, congrArg Prod.snd hpq⟩
    clear hpq HFF
    have hV := valid_of hz
    have HP1 := hide (id_plain1 hV)
    have HP2 := hide (id_plain2 hV)
    have HZ := hide hz
    have HV := hide hV
    clear hz hV
    go_upto_region 5 with fail
    obtain ⟨MA, hMA⟩ : ∃ z, z = compM (cpM (labsR m.arcs)) m := ⟨_, rfl⟩
    obtain ⟨MB, hMB⟩ : ∃ z, z = compM m (cpM (labsR (chM 1 m).arcs)) := ⟨_, rfl⟩
    obtain ⟨W2, hW2⟩ : ∃ z, z = w3 := ⟨_, rfl⟩
    have HMW := hide ((HMm.out.below hbw hB).mono (show B ≤ w3.heap.size by have := hbw.size; omega))
    have qbm0 := bm.cell 0
    have qbm1 := bm.cell 1
    have qbm2 := bm.cell 2
    simp at qbm0 qbm1 qbm2
    have qbml := bm.lt
    have HBM := hide bm
    have HBWW := hide hbw
    clear hW2
    go_cut [7, 8] from 11 (fun s7 s8 wx => ∃ P F g A n c AF nf cf, s7 = .pointer (some ⟨P, 0, none⟩) ∧ s8 = .pointer (some ⟨F, 0, none⟩) ∧ Hid (Blk wx P 25 #[.int .i64 g, .slice A n c, .slice AF nf cf]) ∧ Hid (Blk wx F 28 #[.int .i64 0, .int .i64 0]) ∧ Hid (MachAt wx wx.heap.size (.agg #[.int .i64 g, .slice A n c, .slice AF nf cf]) MA) ∧ Hid (Below w3.heap.size w3 wx))
    case first =>
        clear HBM HBWW hbw HU0 HU1 HMm hf0 heq hne HZ hXw HP2
        have nw3a : X ≠ w3.heap.size := (by omega)
        have nw3b : X ≠ w3.heap.size + 1 := (by omega)
        have nw3c : w3.heap.size ≠ X := (by omega)
        have nw3d : w3.heap.size + 1 ≠ X := (by omega)
        go_region_held3 (fun w' => w'.cell? ⟨X, 0, none⟩ = some (.int .i64 sm) ∧ w'.cell? ⟨X, 1, none⟩ = some (.slice Am nm cm) ∧ w'.cell? ⟨X, 2, none⟩ = some (.slice AFm nfm cfm)) (first | with_reducible exact ⟨x60, x61, x62⟩ | with_reducible exact ⟨x50, x51, x52⟩ | with_reducible exact ⟨qbm0, qbm1, qbm2⟩ | (with_reducible refine cells_of (t := 25) ?_; (repeat (first | (with_reducible exact HBX6.out) | (with_reducible exact HBX5.out) | (with_reducible exact bm) | (with_reducible refine Blk.alloc ?_ _) | (with_reducible refine Blk.drew ?_) | ((with_reducible refine Blk.far ?_ ?sd _); case sd => (dsimp only; with_reducible first | exact nw5a | exact nw5b | exact nw6a | exact nw6b | exact nw3a | exact nw3b)))))) (first
          | (go_at_call 30; refine (copier1_agg _ _ _ _ (Nat.le_refl _) (mach_up HMW.out (show Below w3.heap.size w3 _ by go_grown) (Nat.le_refl _) (by first | exact Nat.le_refl _ | (simp; done) | omega | (simp; omega))) HV.out).mono ?_; rintro e w5 ⟨g5, A5, n5, c5, AF5, nf5, cf5, rfl, hM5, hb5⟩; have hc5 := fcell hb5; have hf5 := ffroz hb5; have hl5 := hb5.size; (try simp at hc5 hf5 hl5); have HBW5 := hide (Below.trans (show Below w3.heap.size w3 _ by go_grown) (hb5.mono (by first | omega | (simp <;> omega)))); (try (have q51 : w3.heap.size < w5.heap.size := by omega)); (try (have q52 : w3.heap.size + 1 < w5.heap.size := by omega)); have x50 := keep_cell HBW5.out qbm0 qbml; have x51 := keep_cell HBW5.out qbm1 qbml; have x52 := keep_cell HBW5.out qbm2 qbml; have HM5 := hide hM5.out; have HB5 := hide hb5; have hX5 : X < w5.heap.size := (by omega); have nw5a : X ≠ w5.heap.size := (by omega); have nw5b : X ≠ w5.heap.size + 1 := (by omega); have nw5c : w5.heap.size ≠ X := (by omega); have nw5d : w5.heap.size + 1 ≠ X := (by omega); have HBX5 := hide (bm.below HBW5.out bm.lt); clear hM5 hb5; dsimp only)
          | (go_at_call 26; refine (comp_fine _ _ _ _ _ _ (Nat.le_refl _) (mach_up HM5.out (show Below w5.heap.size w5 _ by first | exact Below.refl _ _ | go_grown) (Nat.le_refl _) (by first | exact Nat.le_refl _ | omega | (simp; done) | (simp; omega))) (mach_up HMW.out (show Below w3.heap.size w3 _ by (have h5 := HBW5.out; first | exact h5 | go_grown)) (Nat.le_refl _) (by first | (simp; done) | omega | (simp; omega))) HP1.out.1).mono ?_; rintro e w6 ⟨g6, A6, n6, c6, AF6, nf6, cf6, rfl, hM6, hb6⟩; have hc6 := fcell hb6; have hf6 := ffroz hb6; have hl6 := hb6.size; (try simp at hc6 hf6 hl6); (try (have q61 : w5.heap.size < w6.heap.size := by omega)); (try (have q62 : w5.heap.size + 1 < w6.heap.size := by omega)); (try (have q63 : w3.heap.size < w6.heap.size := by omega)); (try (have q64 : w3.heap.size + 1 < w6.heap.size := by omega)); have HM6 := hide hM6.out; have HB6 := hide hb6; have hX6 : X < w6.heap.size := (by omega); have HBW6 := hide (Below.trans (show Below w3.heap.size w3 _ by (have h5 := HBW5.out; first | exact h5 | go_grown)) (hb6.mono (by first | omega | (simp <;> omega)))); have x60 := keep_cell HBW6.out qbm0 qbml; have x61 := keep_cell HBW6.out qbm1 qbml; have x62 := keep_cell HBW6.out qbm2 qbml; have nw6a : X ≠ w6.heap.size := (by omega); have nw6b : X ≠ w6.heap.size + 1 := (by omega); have nw6c : w6.heap.size ≠ X := (by omega); have nw6d : w6.heap.size + 1 ≠ X := (by omega); have HBX6 := hide (bm.below HBW6.out bm.lt); clear hM6 hb6; dsimp only))
        all_goals go_wp2_with fail
        all_goals go_meet
        all_goals refine ⟨_, _, g6, A6, n6, c6, AF6, nf6, cf6, rfl, rfl, hide ?_, hide ?_, hide ?_, hide ?_⟩
        all_goals first
          | ((with_reducible refine blk_id ?_); (repeat (first | ((with_reducible refine Blk.at_ ?_); first | (with_reducible rfl) | (simp; done)) | (with_reducible apply blk_set3) | (with_reducible apply blk_set2) | ((with_reducible refine Blk.far ?_ ?sd _); case sd => (dsimp only; omega)) | ((with_reducible refine Blk.alloc ?_ _)) | ((with_reducible refine Blk.drew ?_)) | ((with_reducible refine Blk.below ?_ HB6.out ?sd); case sd => (first | (simp; done) | omega | (simp; omega))) | ((with_reducible refine Blk.below ?_ HB5.out ?sd); case sd => (first | (simp; done) | omega | (simp; omega))))) <;> rfl; done)
          | ((with_reducible refine mach_id ?_); rw [hMA]; refine HM6.out _ (by simp [World.setCell] <;> omega) (fun b h1 h2 => ?_); (try simp at h1); (repeat (first | rw [Below.heap_setCell _ _ _ _ (by dsimp only; omega)] | rw [Below.heap_alloc _ _ _ (by first | omega | (simp; omega))])); done)
          | (have h6 := HBW6.out; go_grown)
    case rest =>
      obtain ⟨P1, F1, g1, A1, n1, c1, AF1, nf1, cf1, rfl, rfl, HPB1, HFB1, HMX1, HBX1⟩ := hcut
      have hbx := HBX1.out
      have HMA := hide hMA
      have HMB := hide hMB
      clear hMA hMB
      generalize hwd : wc = wd at HPB1 HFB1 HMX1 HBX1 hbx ⊢
      clear hwd
      replace bm := bm.below hbx bm.lt
      replace hbw := hbw.trans (hbx.mono hbw.size)
      clear hbx qbm0 qbm1 qbm2 qbml HMW
      go_upto_region 6 with fail
      have hMB := HMB.out
      obtain ⟨W2, hW2⟩ : ∃ z, z = wd := ⟨_, rfl⟩
      have HMW := hide ((HMm.out.below hbw hB).mono (show B ≤ wd.heap.size by have := hbw.size; omega))
      have qbm0 := bm.cell 0
      have qbm1 := bm.cell 1
      have qbm2 := bm.cell 2
      simp at qbm0 qbm1 qbm2
      have qbml := bm.lt
      have HBM := hide bm
      have HBWW := hide hbw
      clear hW2
      go_cut [9, 10] from 11 (fun s9 s10 wx => ∃ P F g A n c AF nf cf, s9 = .pointer (some ⟨P, 0, none⟩) ∧ s10 = .pointer (some ⟨F, 0, none⟩) ∧ Hid (Blk wx P 25 #[.int .i64 g, .slice A n c, .slice AF nf cf]) ∧ Hid (Blk wx F 28 #[.int .i64 0, .int .i64 0]) ∧ Hid (MachAt wx wx.heap.size (.agg #[.int .i64 g, .slice A n c, .slice AF nf cf]) MB) ∧ Hid (Below wd.heap.size wd wx))
      case first =>
          clear HBM HBWW hbw HU0 HU1 HMm hf0 heq hne HZ hXw HP1
          have nwda : X ≠ wd.heap.size := (by omega)
          have nwdb : X ≠ wd.heap.size + 1 := (by omega)
          have nwdc : wd.heap.size ≠ X := (by omega)
          have nwdd : wd.heap.size + 1 ≠ X := (by omega)
          go_region_held3 (fun w' => w'.cell? ⟨X, 0, none⟩ = some (.int .i64 sm) ∧ w'.cell? ⟨X, 1, none⟩ = some (.slice Am nm cm) ∧ w'.cell? ⟨X, 2, none⟩ = some (.slice AFm nfm cfm)) (first | with_reducible exact ⟨x60, x61, x62⟩ | with_reducible exact ⟨x50, x51, x52⟩ | with_reducible exact ⟨qbm0, qbm1, qbm2⟩ | (with_reducible refine cells_of (t := 25) ?_; (repeat (first | (with_reducible exact HBX6.out) | (with_reducible exact HBX5.out) | (with_reducible exact bm) | (with_reducible refine Blk.alloc ?_ _) | (with_reducible refine Blk.drew ?_) | ((with_reducible refine Blk.far ?_ ?sd _); case sd => (dsimp only; with_reducible first | exact nw5a | exact nw5b | exact nw6a | exact nw6b | exact nwda | exact nwdb)))))) (first
            | (go_at_call 30; refine (copier0_agg _ _ _ _ (Nat.le_refl _) (mach_up HMW.out (show Below wd.heap.size wd _ by go_grown) (Nat.le_refl _) (by first | exact Nat.le_refl _ | (simp; done) | omega | (simp; omega))) HV.out).mono ?_; rintro e w5 ⟨g5, A5, n5, c5, AF5, nf5, cf5, rfl, hM5, hb5⟩; have hc5 := fcell hb5; have hf5 := ffroz hb5; have hl5 := hb5.size; (try simp at hc5 hf5 hl5); have HBW5 := hide (Below.trans (show Below wd.heap.size wd _ by go_grown) (hb5.mono (by first | omega | (simp <;> omega)))); (try (have q51 : wd.heap.size < w5.heap.size := by omega)); (try (have q52 : wd.heap.size + 1 < w5.heap.size := by omega)); have x50 := keep_cell HBW5.out qbm0 qbml; have x51 := keep_cell HBW5.out qbm1 qbml; have x52 := keep_cell HBW5.out qbm2 qbml; have HM5 := hide hM5.out; have HB5 := hide hb5; have hX5 : X < w5.heap.size := (by omega); have nw5a : X ≠ w5.heap.size := (by omega); have nw5b : X ≠ w5.heap.size + 1 := (by omega); have nw5c : w5.heap.size ≠ X := (by omega); have nw5d : w5.heap.size + 1 ≠ X := (by omega); have HBX5 := hide (bm.below HBW5.out bm.lt); clear hM5 hb5; dsimp only)
            | (go_at_call 26; refine (comp_fine _ _ _ _ _ _ (Nat.le_refl _) (mach_up HMW.out (show Below wd.heap.size wd _ by (have h5 := HBW5.out; first | exact h5 | go_grown)) (Nat.le_refl _) (by first | (simp; done) | omega | (simp; omega))) (mach_up HM5.out (show Below w5.heap.size w5 _ by first | exact Below.refl _ _ | go_grown) (Nat.le_refl _) (by first | exact Nat.le_refl _ | omega | (simp; done) | (simp; omega))) HP2.out.1).mono ?_; rintro e w6 ⟨g6, A6, n6, c6, AF6, nf6, cf6, rfl, hM6, hb6⟩; have hc6 := fcell hb6; have hf6 := ffroz hb6; have hl6 := hb6.size; (try simp at hc6 hf6 hl6); (try (have q61 : w5.heap.size < w6.heap.size := by omega)); (try (have q62 : w5.heap.size + 1 < w6.heap.size := by omega)); (try (have q63 : wd.heap.size < w6.heap.size := by omega)); (try (have q64 : wd.heap.size + 1 < w6.heap.size := by omega)); have HM6 := hide hM6.out; have HB6 := hide hb6; have hX6 : X < w6.heap.size := (by omega); have HBW6 := hide (Below.trans (show Below wd.heap.size wd _ by (have h5 := HBW5.out; first | exact h5 | go_grown)) (hb6.mono (by first | omega | (simp <;> omega)))); have x60 := keep_cell HBW6.out qbm0 qbml; have x61 := keep_cell HBW6.out qbm1 qbml; have x62 := keep_cell HBW6.out qbm2 qbml; have nw6a : X ≠ w6.heap.size := (by omega); have nw6b : X ≠ w6.heap.size + 1 := (by omega); have nw6c : w6.heap.size ≠ X := (by omega); have nw6d : w6.heap.size + 1 ≠ X := (by omega); have HBX6 := hide (bm.below HBW6.out bm.lt); clear hM6 hb6; dsimp only))
          all_goals go_wp2_with fail
          all_goals go_meet
          all_goals refine ⟨_, _, g6, A6, n6, c6, AF6, nf6, cf6, rfl, rfl, hide ?_, hide ?_, hide ?_, hide ?_⟩
          all_goals first
            | ((with_reducible refine blk_id ?_); (repeat (first | ((with_reducible refine Blk.at_ ?_); first | (with_reducible rfl) | (simp; done)) | (with_reducible apply blk_set3) | (with_reducible apply blk_set2) | ((with_reducible refine Blk.far ?_ ?sd _); case sd => (dsimp only; omega)) | ((with_reducible refine Blk.alloc ?_ _)) | ((with_reducible refine Blk.drew ?_)) | ((with_reducible refine Blk.below ?_ HB6.out ?sd); case sd => (first | (simp; done) | omega | (simp; omega))) | ((with_reducible refine Blk.below ?_ HB5.out ?sd); case sd => (first | (simp; done) | omega | (simp; omega))))) <;> rfl; done)
            | ((with_reducible refine mach_id ?_); rw [hMB]; refine HM6.out _ (by simp [World.setCell] <;> omega) (fun b h1 h2 => ?_); (try simp at h1); (repeat (first | rw [Below.heap_setCell _ _ _ _ (by dsimp only; omega)] | rw [Below.heap_alloc _ _ _ (by first | omega | (simp; omega))])); done)
            | (have h6 := HBW6.out; go_grown)
      case rest =>
        obtain ⟨P2, F2, g2, A2, n2, c2, AF2, nf2, cf2, rfl, rfl, HPB2, HFB2, HMX2, HBX2⟩ := hcut
        have hbx := HBX2.out
        clear hMB
        have bP1 := HPB1.out.below hbx HPB1.out.lt
        have bF1 := HFB1.out.below hbx HFB1.out.lt
        have HM1 := hide (mach_up HMX1.out hbx (Nat.le_refl _) hbx.size)
        have bP2 := HPB2.out
        have bF2 := HFB2.out
        have HM2 := hide HMX2.out
        replace bm := bm.below hbx bm.lt
        replace hbw := hbw.trans (hbx.mono hbw.size)
        clear hbx qbm0 qbm1 qbm2 qbml HMW HPB1 HFB1 HMX1 HBX1 HPB2 HFB2 HMX2 HBX2
        have HWs := hide (fun W (B : Nat) (hB : B ≤ W.heap.size) (hM : MachAt W B (.agg #[.int .i64 sm, .slice Am nm cm, .slice AFm nfm cfm]) m) (hU : Nums W B (.slice AU0 nu0 cu0) l0) (hO : Nums W B (.slice AU1 nu1 cu1) l1) => lweight_any _ _ _ m l0 l1 W B hB hM hU hO)
        have HWp := hide (fun W (B : Nat) (hB : B ≤ W.heap.size) (hM : MachAt W B (.agg #[.int .i64 g1, .slice A1 n1 c1, .slice AF1 nf1 cf1]) MA) (hU : Nums W B (.slice AU0 nu0 cu0) l0) (hO : Nums W B (.slice AU1 nu1 cu1) l1) => lweight_any _ _ _ MA l0 l1 W B hB hM hU hO)
        have HWq := hide (fun W (B : Nat) (hB : B ≤ W.heap.size) (hM : MachAt W B (.agg #[.int .i64 g2, .slice A2 n2 c2, .slice AF2 nf2 cf2]) MB) (hU : Nums W B (.slice AU0 nu0 cu0) l0) (hO : Nums W B (.slice AU1 nu1 cu1) l1) => lweight_any _ _ _ MB l0 l1 W B hB hM hU hO)
        rw [show wv MA l0 l1 = wv m l0 l1 by rw [HMA.out]; exact wv_same HZ.out (compF_zero HP1.out.1).2.2.1 HP1.out.2] at HWp
        rw [show wv MB l0 l1 = wv m l0 l1 by rw [HMB.out]; exact wv_same HZ.out (compF_zero HP2.out.1).2.2.1 HP2.out.2] at HWq
        obtain ⟨x, hx⟩ : ∃ z, z = wv m l0 l1 := ⟨_, rfl⟩
        rw [← hx] at HWs HWp HWq
        clear hx HP1 HP2 HMA HMB
        have qbF10 := bF1.cell 0
        have qbF11 := bF1.cell 1
        simp at qbF10 qbF11
        have qbF1l := bF1.lt
        have qbF20 := bF2.cell 0
        have qbF21 := bF2.cell 1
        simp at qbF20 qbF21
        have qbF2l := bF2.lt
        go_upto_region 9 with fail
        clear qbF10 qbF11 qbF1l
        clear qbF20 qbF21 qbF2l
        have qbm0 := bm.cell 0
        have qbm1 := bm.cell 1
        have qbm2 := bm.cell 2
        simp at qbm0 qbm1 qbm2
        have qbml := bm.lt
        go_wp2_with fail
        refine (HWs.out _ _ (Nat.le_refl _) ((HMm.out.below hbw hB).mono (show B ≤ _ by have := hbw.size; first | omega | (simp at this ⊢; omega))) ((HU0.out.below hbw hB).mono (show B ≤ _ by have := hbw.size; first | omega | (simp at this ⊢; omega))) ((HU1.out.below hbw hB).mono (show B ≤ _ by have := hbw.size; first | omega | (simp at this ⊢; omega)))).mono ?_
        rintro e w4 ⟨rfl, hb⟩
        replace bm := bm.below hb bm.lt
        replace bP1 := bP1.below hb bP1.lt
        replace bF1 := bF1.below hb bF1.lt
        replace bP2 := bP2.below hb bP2.lt
        replace bF2 := bF2.below hb bF2.lt
        replace HM1 := hide (mach_up HM1.out hb (Nat.le_refl _) hb.size)
        replace HM2 := hide (mach_up HM2.out hb (Nat.le_refl _) hb.size)
        replace hbw := hbw.trans (hb.mono hbw.size)
        clear qbm0 qbm1 qbm2 qbml
        clear hb HWs
        have qbP10 := bP1.cell 0
        have qbP11 := bP1.cell 1
        have qbP12 := bP1.cell 2
        simp at qbP10 qbP11 qbP12
        have qbP1l := bP1.lt
        go_wp2_with fail
        refine (HWp.out _ _ (Nat.le_refl _) (HM1.out) ((HU0.out.below hbw hB).mono (show B ≤ _ by have := hbw.size; first | omega | (simp at this ⊢; omega))) ((HU1.out.below hbw hB).mono (show B ≤ _ by have := hbw.size; first | omega | (simp at this ⊢; omega)))).mono ?_
        rintro e w5 ⟨rfl, hb⟩
        clear qbP10 qbP11 qbP12 qbP1l
        replace bm := bm.below hb bm.lt
        replace bP1 := bP1.below hb bP1.lt
        replace bF1 := bF1.below hb bF1.lt
        replace bP2 := bP2.below hb bP2.lt
        replace bF2 := bF2.below hb bF2.lt
        replace HM1 := hide (mach_up HM1.out hb (Nat.le_refl _) hb.size)
        replace HM2 := hide (mach_up HM2.out hb (Nat.le_refl _) hb.size)
        replace hbw := hbw.trans (hb.mono hbw.size)
        clear hb HWp
        have qbP20 := bP2.cell 0
        have qbP21 := bP2.cell 1
        have qbP22 := bP2.cell 2
        simp at qbP20 qbP21 qbP22
        have qbP2l := bP2.lt
        go_wp2_with fail
        refine (HWq.out _ _ (Nat.le_refl _) (HM2.out) ((HU0.out.below hbw hB).mono (show B ≤ _ by have := hbw.size; first | omega | (simp at this ⊢; omega))) ((HU1.out.below hbw hB).mono (show B ≤ _ by have := hbw.size; first | omega | (simp at this ⊢; omega)))).mono ?_
        rintro e w5 ⟨rfl, hb⟩
        clear qbP20 qbP21 qbP22 qbP2l
        replace bm := bm.below hb bm.lt
        replace bP1 := bP1.below hb bP1.lt
        replace bF1 := bF1.below hb bF1.lt
        replace bP2 := bP2.below hb bP2.lt
        replace bF2 := bF2.below hb bF2.lt
        replace HM1 := hide (mach_up HM1.out hb (Nat.le_refl _) hb.size)
        replace HM2 := hide (mach_up HM2.out hb (Nat.le_refl _) hb.size)
        replace hbw := hbw.trans (hb.mono hbw.size)
        clear hb HWq
        go_wp2
        exact bodyPost_ret (v := .bool true) (by simp [results, Try.results9, go_sem]) rfl ⟨rfl, hbw⟩
  · skip
    have hpq := HFF.out
    have hz0 : fEq f1 f2 0 0 = false := by
      cases e : fEq f1 f2 0 0
      · rfl
      · have e2 : fEq (validate m).1 (validate m).2 0 0 = true := by rw [← hpq]; exact e
        exact absurd (fEq0K.1 e2) hz
    clear hpq
    go_wp2
    exact bodyPost_ret (v := .bool true) (by simp [results, Try.results9, go_sem]) rfl ⟨rfl, hbw⟩
end Go.Proofs.Ytmgpcnkmmgkjgaa
