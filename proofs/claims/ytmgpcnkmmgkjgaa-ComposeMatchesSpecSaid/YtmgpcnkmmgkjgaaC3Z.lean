/- The texts ChP, CoI, CtP, C3W in one. Written by merge.py. -/
import Derived.Test.YtmgpcnkmmgkjgaaCoZ
import Derived.Test.YtmgpcnkmmgkjgaaUnP
import Derived.Test.YtmgpcnkmmgkjgaaChD
import Derived.Test.YtmgpcnkmmgkjgaaCoC
import Derived.Test.YtmgpcnkmmgkjgaaC2W
import Derived.Test.YtmgpcnkmmgkjgaaMF
namespace Gm
set_option linter.unusedSimpArgs false
set_option linter.unusedVariables false
theorem chM_red (k : Nat) (m : Mach) : chM k m = ⟨m.n, redA (m.arcs.map (chA k)), m.fins⟩ := rfl
/-- A machine with arcs in order, the lightest of those alike, is valid. -/
theorem valid_red {n : Int} {l : List Arc} {f : List Fnl} (hn : 0 ≤ n ∧ n ≤ 400) (hl : (redA l).length ≤ 2000) (ha : ∀ a ∈ l, okArc n a = true) (hf : ∀ x ∈ f, okFin n x = true) (hfs : f.Pairwise fun x y => x.s < y.s) : Valid ⟨n, redA l, f⟩ := by
  have hnd : (redA l).Nodup := (redA_strict l).imp fun {a b} h e => by subst e; rw [arcLess_irrefl] at h; cases h.1
  have hs : SortedA (redA l) := (redA_strict l).imp fun {a b} h => by
    cases e : arcLess b a
    · rfl
    · have := arcLess_asymm h.1; rw [e] at this; cases this
  have e1 : redA l = srtA (redA l) := srtA_eq hs (List.Perm.refl _)
  have h := valid_srt (l := redA l) hnd hn hl (fun a ha' => ha a (redA_sub ha')) hf hfs
  rw [← e1] at h
  exact h
theorem okArc_ch (k : Nat) {n : Int} {a : Arc} (h : okArc n a = true) : okArc n (chA k a) = true := by
  have := okArc_iff h
  have : okArc n (chA k a) = true := by
    simp only [okArc, Bool.and_eq_true, inR_iff]
    unfold chA
    split <;> (dsimp only; omega)
  exact this
theorem valid_ch (k : Nat) {m : Mach} (h : Valid m) : Valid (chM k m) := by
  rw [chM_red]
  refine valid_red ⟨h.n0, h.n4⟩ ?_ ?_ (fun x hx => h.okF hx) (fins_sorted h)
  · have := redA_len (m.arcs.map (chA k))
    rw [List.length_map] at this
    have := h.len
    omega
  · intro a ha
    obtain ⟨b, hb, rfl⟩ := List.mem_map.1 ha
    exact okArc_ch k (h.okA hb)
theorem pw_ch1 {A : List Arc} {s t : Int} {u v : List Int} {d : Nat} (h : Pw A s t u v d) : Pw (A.map (chA 1)) s t v u d := by
  induction h with
  | nil => exact .nil
  | @snoc t u v d a _ ha hf ih => exact .snoc (a := chA 1 a) ih (List.mem_map.2 ⟨a, ha, rfl⟩) hf
theorem pw_ch2 {A : List Arc} {s t : Int} {u v : List Int} {d : Nat} (h : Pw A s t u v d) : Pw (A.map (chA 2)) s t u u d := by
  induction h with
  | nil => exact .nil
  | @snoc t u v d a _ ha hf ih => exact .snoc (a := chA 2 a) ih (List.mem_map.2 ⟨a, ha, rfl⟩) hf
theorem pw_ch3 {A : List Arc} {s t : Int} {u v : List Int} {d : Nat} (h : Pw A s t u v d) : Pw (A.map (chA 3)) s t v v d := by
  induction h with
  | nil => exact .nil
  | @snoc t u v d a _ ha hf ih => exact .snoc (a := chA 3 a) ih (List.mem_map.2 ⟨a, ha, rfl⟩) hf
theorem chA_twice (a : Arc) : chA 1 (chA 1 a) = a := rfl
theorem pw_ch1' {A : List Arc} {s t : Int} {u v : List Int} {d : Nat} (h : Pw (A.map (chA 1)) s t u v d) : Pw A s t v u d := by
  have := pw_ch1 h
  rw [List.map_map] at this
  have e : (chA 1 ∘ chA 1) = id := funext fun a => chA_twice a
  rw [e, List.map_id] at this
  exact this
theorem acc_chk {m : Mach} (h : Rng m) {k : Nat} {u v u' v' : List Int} (hp : ∀ t d, Pw m.arcs 0 t u v d → Pw (m.arcs.map (chA k)) 0 t u' v' d) : Dom (Acc m u v) (Acc (chM k m) u' v') := by
  have hk : Rng (chM k m) := ⟨fun a ha => by
    obtain ⟨b, hb, rfl⟩ := List.mem_map.1 (redA_sub (show a ∈ redA (m.arcs.map (chA k)) from ha))
    have := h.arc b hb
    unfold chA; split <;> exact this, h.fin, ⟨fun a ha => by
    obtain ⟨b, hb, rfl⟩ := List.mem_map.1 (redA_sub (show a ∈ redA (m.arcs.map (chA k)) from ha))
    have := h.wt.1 b hb
    unfold chA; split <;> exact this, h.wt.2⟩, h.n0⟩
  intro d hd
  obtain ⟨h0, x, hx, e, he, rfl⟩ := h.acc.1 hd
  obtain ⟨e', h1, h2⟩ := pw_red (hp _ _ he)
  exact ⟨e' + x.w.toNat, by omega, hk.acc.2 ⟨h0, x, hx, e', h2, rfl⟩⟩
theorem rng_chk {m : Mach} (h : Rng m) (k : Nat) : Rng (chM k m) := ⟨fun a ha => by
    obtain ⟨b, hb, rfl⟩ := List.mem_map.1 (redA_sub (show a ∈ redA (m.arcs.map (chA k)) from ha))
    have := h.arc b hb
    unfold chA; split <;> exact this, h.fin, ⟨fun a ha => by
    obtain ⟨b, hb, rfl⟩ := List.mem_map.1 (redA_sub (show a ∈ redA (m.arcs.map (chA k)) from ha))
    have := h.wt.1 b hb
    unfold chA; split <;> exact this, h.wt.2⟩, h.n0⟩
theorem acc_ch1' {m : Mach} (h : Rng m) {u v : List Int} {d : Nat} (hd : Acc (chM 1 m) u v d) : Acc m v u d := by
  obtain ⟨h0, x, hx, e, he, rfl⟩ := (rng_chk h 1).acc.1 hd
  exact h.acc.2 ⟨h0, x, hx, e, pw_ch1' (he.mono fun a ha => redA_sub ha), rfl⟩
/-- The inverse weighs the pairs turned around. -/
theorem wgt_ch1 {m : Mach} (h : Rng m) (u v : List Int) : wgt (chM 1 m) v u = wgt m u v :=
  least_dom (fun d hd => ⟨d, Nat.le_refl _, acc_ch1' h hd⟩) (acc_chk h fun _ _ hp => pw_ch1 hp)
theorem wgt_dom {m m' : Mach} {u v u' v' : List Int} (h : Dom (Acc m u v) (Acc m' u' v')) (h0 : 0 ≤ wgt m u v) : 0 ≤ wgt m' u' v' ∧ wgt m' u' v' ≤ wgt m u v := by
  rcases wgt_least m u v with ⟨e, _⟩ | ⟨n, e, hn, _⟩
  · omega
  · obtain ⟨d', h1, h2⟩ := h n hn
    rcases wgt_least m' u' v' with ⟨e', g⟩ | ⟨n', e', hn', g⟩
    · exact absurd h2 (g d')
    · have := g d' h2; omega
theorem wgt_ch2 {m : Mach} (h : Rng m) {u v : List Int} (h0 : 0 ≤ wgt m u v) : 0 ≤ wgt (chM 2 m) u u ∧ wgt (chM 2 m) u u ≤ wgt m u v := wgt_dom (acc_chk h fun _ _ hp => pw_ch2 hp) h0
theorem wgt_ch3 {m : Mach} (h : Rng m) {u v : List Int} (h0 : 0 ≤ wgt m u v) : 0 ≤ wgt (chM 3 m) v v ∧ wgt (chM 3 m) v v ≤ wgt m u v := wgt_dom (acc_chk h fun _ _ hp => pw_ch3 hp) h0
end Gm

namespace Gm
set_option linter.unusedSimpArgs false
set_option linter.unusedVariables false
/-- How many steps two lists of arcs make. -/
def stepN (OA OB : List Arc) : Nat := (OA.map fun x => if x.o = 0 then 1 else (OB.filter fun y => decide (y.i = x.o)).length).sum + (OB.filter fun y => decide (y.i = 0)).length
theorem stepsOf_len (a b : Mach) (c : Fnl) : (stepsOf a b c).length = stepN (outs a.arcs c.s.toNat) (outs b.arcs c.w.toNat) := by
  unfold stepsOf stepN stpY
  rw [List.length_append, List.length_map, List.length_flatMap]
  congr 2
  refine List.map_congr_left fun x _ => ?_
  unfold stpX
  by_cases h : x.o = 0
  · rw [if_pos h, if_pos h]; rfl
  · rw [if_neg h, if_neg h, List.length_map]
theorem stepN_perm {A A' B B' : List Arc} (hA : A.Perm A') (hB : B.Perm B') : stepN A B = stepN A' B' := by
  unfold stepN
  have e1 : ∀ v : Int, (B.filter fun y => decide (y.i = v)).length = (B'.filter fun y => decide (y.i = v)).length := fun v => (hB.filter _).length_eq
  rw [e1 0]
  congr 1
  rw [(hA.map _).sum_nat]
  congr 1
  exact List.map_congr_left fun x _ => by rw [e1]
theorem sum_sublist {A A' : List Arc} (f : Arc → Nat) (h : A.Sublist A') : (A.map f).sum ≤ (A'.map f).sum := by
  induction h with
  | slnil => simp
  | cons x _ ih => simp only [List.map_cons, List.sum_cons]; omega
  | cons_cons x _ ih => simp only [List.map_cons, List.sum_cons]; omega
theorem sum_mono {f g : Arc → Nat} (h : ∀ x, f x ≤ g x) : ∀ A : List Arc, (A.map f).sum ≤ (A.map g).sum
  | [] => by simp
  | x :: A => by
    have := h x
    have := sum_mono h A
    simp only [List.map_cons, List.sum_cons]; omega
theorem stepN_sub {A A' B B' : List Arc} (hA : A.Sublist A') (hB : B.Sublist B') : stepN A B ≤ stepN A' B' := by
  unfold stepN
  have e1 : ∀ v : Int, (B.filter fun y => decide (y.i = v)).length ≤ (B'.filter fun y => decide (y.i = v)).length := fun v => (hB.filter _).length_le
  have h1 := sum_sublist (fun x => if x.o = 0 then 1 else (B'.filter fun y => decide (y.i = x.o)).length) hA
  have h2 := sum_mono (f := fun x => if x.o = 0 then 1 else (B.filter fun y => decide (y.i = x.o)).length) (g := fun x => if x.o = 0 then 1 else (B'.filter fun y => decide (y.i = x.o)).length) (fun x => by
    by_cases h : x.o = 0
    · rw [if_pos h, if_pos h]; exact Nat.le_refl _
    · rw [if_neg h, if_neg h]; exact e1 _) A
  have h3 := e1 0
  omega
/-- The pairs that fit, counted by the one side or by the other. -/
theorem sum_pairs (A : List Arc) : ∀ B : List Arc, (A.map fun x => (B.filter fun y => decide (y.i = x.o)).length).sum = (B.map fun y => (A.filter fun x => decide (x.o = y.i)).length).sum
  | [] => by
    have : ∀ A : List Arc, (A.map fun _ => 0).sum = 0 := fun A => by induction A with | nil => rfl | cons x A ih => simpa using ih
    simpa using this A
  | y :: B => by
    rw [List.map_cons, List.sum_cons, ← sum_pairs A B]
    have key : ∀ A : List Arc, (A.map fun x => ((y :: B).filter fun z => decide (z.i = x.o)).length).sum = (A.filter fun x => decide (x.o = y.i)).length + (A.map fun x => (B.filter fun z => decide (z.i = x.o)).length).sum := by
      intro A
      induction A with
      | nil => rfl
      | cons x A ih =>
        rw [List.map_cons, List.sum_cons, ih, List.map_cons, List.sum_cons]
        by_cases h : y.i = x.o
        · rw [List.filter_cons_of_pos (by simpa using h), List.filter_cons_of_pos (by simpa using h.symm), List.length_cons, List.length_cons]; omega
        · rw [List.filter_cons_of_neg (by simpa using h), List.filter_cons_of_neg (by simpa using fun e => h e.symm)]; omega
    exact key A
theorem sum_split (A : List Arc) (f : Arc → Nat) : (A.map fun x => if x.o = 0 then 1 else f x).sum = (A.filter fun x => decide (x.o = 0)).length + ((A.filter fun x => decide (x.o ≠ 0)).map f).sum := by
  induction A with
  | nil => rfl
  | cons x A ih =>
    rw [List.map_cons, List.sum_cons, ih]
    by_cases h : x.o = 0
    · rw [if_pos h, List.filter_cons_of_pos (by simpa using h), List.filter_cons_of_neg (by simpa using h), List.length_cons]; omega
    · rw [if_neg h, List.filter_cons_of_neg (by simpa using h), List.filter_cons_of_pos (by simpa using h), List.map_cons, List.sum_cons]; omega
theorem stepN_turn (A B : List Arc) : stepN (B.map (chA 1)) (A.map (chA 1)) = stepN A B := by
  unfold stepN
  rw [List.map_map]
  have e1 : ((fun x : Arc => if x.o = 0 then 1 else ((A.map (chA 1)).filter fun y => decide (y.i = x.o)).length) ∘ chA 1) = fun y => if y.i = 0 then 1 else (A.filter fun x => decide (x.o = y.i)).length := by
    funext y
    show (if y.i = 0 then 1 else ((A.map (chA 1)).filter fun z => decide (z.i = y.i)).length) = _
    by_cases h : y.i = 0
    · rw [if_pos h, if_pos h]
    · rw [if_neg h, if_neg h, List.filter_map, List.length_map]; rfl
  rw [e1]
  have e2 : ((A.map (chA 1)).filter fun y => decide (y.i = 0)).length = (A.filter fun x => decide (x.o = 0)).length := by
    rw [List.filter_map, List.length_map]; rfl
  rw [e2, sum_split A]
  -- the same split for B, by its inputs
  have e3 : (B.map fun y => if y.i = 0 then 1 else (A.filter fun x => decide (x.o = y.i)).length).sum = (B.filter fun y => decide (y.i = 0)).length + ((B.filter fun y => decide (y.i ≠ 0)).map fun y => (A.filter fun x => decide (x.o = y.i)).length).sum := by
    induction B with
    | nil => rfl
    | cons y B ih =>
      rw [List.map_cons, List.sum_cons, ih]
      by_cases h : y.i = 0
      · rw [if_pos h, List.filter_cons_of_pos (by simpa using h), List.filter_cons_of_neg (by simpa using h), List.length_cons]; omega
      · rw [if_neg h, List.filter_cons_of_neg (by simpa using h), List.filter_cons_of_pos (by simpa using h), List.map_cons, List.sum_cons]; omega
  rw [e3]
  have e4 := sum_pairs (A.filter fun x => decide (x.o ≠ 0)) (B.filter fun y => decide (y.i ≠ 0))
  have e5 : ((A.filter fun x => decide (x.o ≠ 0)).map fun x => ((B.filter fun y => decide (y.i ≠ 0)).filter fun y => decide (y.i = x.o)).length) = (A.filter fun x => decide (x.o ≠ 0)).map fun x => (B.filter fun y => decide (y.i = x.o)).length := by
    refine List.map_congr_left fun x hx => ?_
    have hx0 : x.o ≠ 0 := by simpa using (List.mem_filter.1 hx).2
    rw [List.filter_filter]
    congr 1
    refine List.filter_congr fun y _ => ?_
    by_cases h : y.i = x.o
    · simp [h, hx0]
    · simp [h]
  have e6 : ((B.filter fun y => decide (y.i ≠ 0)).map fun y => ((A.filter fun x => decide (x.o ≠ 0)).filter fun x => decide (x.o = y.i)).length) = (B.filter fun y => decide (y.i ≠ 0)).map fun y => (A.filter fun x => decide (x.o = y.i)).length := by
    refine List.map_congr_left fun y hy => ?_
    have hy0 : y.i ≠ 0 := by simpa using (List.mem_filter.1 hy).2
    rw [List.filter_filter]
    congr 1
    refine List.filter_congr fun x _ => ?_
    by_cases h : x.o = y.i
    · simp [h, hy0]
    · simp [h]
  rw [e5, e6] at e4
  rw [e4]
  omega
/-! reduced lists of arcs: parts of the lists -/
theorem redA_part (l : List Arc) (s : Nat) : ∃ K, (outs (redA l) s).Sublist K ∧ K.Perm (outs l s) :=
  ⟨outs (srtA l) s, (compact_sub likeA (srtA l)).filter _, (srtA_perm l).filter _⟩
theorem outs_turn (l : List Arc) (s : Nat) : outs (l.map (chA 1)) s = (outs l s).map (chA 1) := by
  unfold outs
  rw [List.filter_map]
  rfl
theorem stepN_le {l k : List Arc} (s t : Nat) : stepN (outs (redA (l.map (chA 1))) s) (outs (redA (k.map (chA 1))) t) ≤ stepN (outs k t) (outs l s) := by
  obtain ⟨K1, h1, h2⟩ := redA_part (l.map (chA 1)) s
  obtain ⟨K2, h3, h4⟩ := redA_part (k.map (chA 1)) t
  rw [outs_turn] at h2 h4
  have e1 := stepN_sub h1 h3
  rw [stepN_perm h2 h4, stepN_turn] at e1
  exact e1
def sw (c : Fnl) : Fnl := ⟨c.w, c.s⟩
theorem sw_sw (c : Fnl) : sw (sw c) = c := rfl
theorem steps_le (a b : Mach) (c : Fnl) : (stepsOf (chM 1 b) (chM 1 a) c).length ≤ (stepsOf a b (sw c)).length := by
  rw [stepsOf_len, stepsOf_len]
  exact stepN_le _ _
theorem chN (k : Nat) (m : Mach) : (chM k m).n = m.n := rfl
theorem mem_ch {m : Mach} {x : Arc} (h : x ∈ (chM 1 m).arcs) : chA 1 x ∈ m.arcs := by
  obtain ⟨y, hy, rfl⟩ := List.mem_map.1 (redA_sub (show x ∈ redA (m.arcs.map (chA 1)) from h))
  exact hy
theorem ch_mem {m : Mach} {y : Arc} (h : y ∈ m.arcs) : ∃ x ∈ (chM 1 m).arcs, x.f = y.f ∧ x.t = y.t ∧ x.i = y.o ∧ x.o = y.i ∧ x.w ≤ y.w := by
  obtain ⟨x, hx, hl, hw⟩ := redA_dom (l := m.arcs.map (chA 1)) (List.mem_map.2 ⟨y, h, rfl⟩)
  obtain ⟨e1, e2, e3, e4⟩ := likeA_iff.1 hl
  exact ⟨x, hx, e1, e4, e2, e3, hw⟩
theorem inC_sw {a b : Mach} {c : Fnl} (h : inC a b c) : inC (chM 1 b) (chM 1 a) (sw c) := ⟨h.2.2.1, h.2.2.2, h.1, h.2.1⟩
theorem inC_ws {a b : Mach} {c : Fnl} (h : inC (chM 1 b) (chM 1 a) c) : inC a b (sw c) := ⟨h.2.2.1, h.2.2.2, h.1, h.2.1⟩
section
variable {a b : Mach} (ha : Rng a) (hb : Rng b)
include ha hb
/-- Each arc of the turned composition stands for one of the composition. -/
theorem turn_arc {z : Arc} (hz : z ∈ prodArcs (chM 1 b) (chM 1 a)) : ∃ y ∈ prodArcs a b, ∃ c d : Fnl, inC a b c ∧ inC a b d ∧ y.f = encC b c ∧ y.t = encC b d ∧ z.f = encC (chM 1 a) (sw c) ∧ z.t = encC (chM 1 a) (sw d) ∧ z.i = y.o ∧ z.o = y.i ∧ z.w = y.w := by
  rcases mem_prod.1 hz with ⟨x, hx, ho, p, hp, e⟩ | ⟨x, hx, ho, x2, hx2, hi, e⟩ | ⟨x2, hx2, hi, q, hq, e⟩
  · have hy := mem_ch hx
    have hr := hb.arc _ hy
    have hp' : (p : Int) < a.n := by have : p < a.n.toNat := hp; omega
    refine ⟨prodR b.n (chA 1 x) p, mem_prod.2 (.inr (.inr ⟨chA 1 x, hy, ho, p, hp, rfl⟩)), ⟨(p : Int), x.f⟩, ⟨(p : Int), x.t⟩, ⟨by show (0 : Int) ≤ (p : Int); omega, hp', hr.1, hr.2.1⟩, ⟨by show (0 : Int) ≤ (p : Int); omega, hp', hr.2.2.1, hr.2.2.2⟩, rfl, rfl, ?_, ?_, ?_, ?_, ?_⟩ <;> rw [e] <;> rfl
  · have hy := mem_ch hx
    have hu := mem_ch hx2
    have hr := hb.arc _ hy
    have hr2 := ha.arc _ hu
    refine ⟨prodA b.n (chA 1 x2) (chA 1 x), mem_prod.2 (.inr (.inl ⟨chA 1 x2, hu, by show x2.i ≠ 0; rw [hi]; exact ho, chA 1 x, hy, hi.symm, rfl⟩)), ⟨x2.f, x.f⟩, ⟨x2.t, x.t⟩, ⟨hr2.1, hr2.2.1, hr.1, hr.2.1⟩, ⟨hr2.2.2.1, hr2.2.2.2, hr.2.2.1, hr.2.2.2⟩, rfl, rfl, ?_, ?_, ?_, ?_, ?_⟩ <;> rw [e]
    · rfl
    · rfl
    · rfl
    · rfl
    · show x.w + x2.w = x2.w + x.w; omega
  · have hu := mem_ch hx2
    have hr2 := ha.arc _ hu
    have hq' : (q : Int) < b.n := by have : q < b.n.toNat := hq; omega
    refine ⟨prodL b.n (chA 1 x2) q, mem_prod.2 (.inl ⟨chA 1 x2, hu, hi, q, hq, rfl⟩), ⟨x2.f, (q : Int)⟩, ⟨x2.t, (q : Int)⟩, ⟨hr2.1, hr2.2.1, by show (0 : Int) ≤ (q : Int); omega, hq'⟩, ⟨hr2.2.2.1, hr2.2.2.2, by show (0 : Int) ≤ (q : Int); omega, hq'⟩, rfl, rfl, ?_, ?_, ?_, ?_, ?_⟩ <;> rw [e] <;> rfl
/-- .. and for each arc of the composition there is one, no heavier. -/
theorem turn_back {y : Arc} (hy : y ∈ prodArcs a b) : ∃ z ∈ prodArcs (chM 1 b) (chM 1 a), ∃ c d : Fnl, inC a b c ∧ inC a b d ∧ y.f = encC b c ∧ y.t = encC b d ∧ z.f = encC (chM 1 a) (sw c) ∧ z.t = encC (chM 1 a) (sw d) ∧ z.i = y.o ∧ z.o = y.i ∧ z.w ≤ y.w := by
  rcases mem_prod.1 hy with ⟨x, hx, ho, q, hq, e⟩ | ⟨x, hx, ho, v, hv, hi, e⟩ | ⟨v, hv, hi, p, hp, e⟩
  · have hr := ha.arc _ hx
    obtain ⟨x', hx', f1, f2, f3, f4, f5⟩ := ch_mem hx
    have hq' : (q : Int) < b.n := by omega
    refine ⟨prodR a.n x' q, mem_prod.2 (.inr (.inr ⟨x', hx', by rw [f3]; exact ho, q, hq, rfl⟩)), ⟨x.f, (q : Int)⟩, ⟨x.t, (q : Int)⟩, ⟨hr.1, hr.2.1, by show (0 : Int) ≤ (q : Int); omega, hq'⟩, ⟨hr.2.2.1, hr.2.2.2, by show (0 : Int) ≤ (q : Int); omega, hq'⟩, by rw [e]; rfl, by rw [e]; rfl, ?_, ?_, ?_, ?_, ?_⟩
    · show enc a.n (q : Int) x'.f = enc a.n (q : Int) x.f; rw [f1]
    · show enc a.n (q : Int) x'.t = enc a.n (q : Int) x.t; rw [f2]
    · rw [e]; rfl
    · rw [e]; exact f4
    · rw [e]; exact f5
  · have hr := ha.arc _ hx
    have hr2 := hb.arc _ hv
    obtain ⟨x', hx', f1, f2, f3, f4, f5⟩ := ch_mem hx
    obtain ⟨v', hv', g1, g2, g3, g4, g5⟩ := ch_mem hv
    refine ⟨prodA a.n v' x', mem_prod.2 (.inr (.inl ⟨v', hv', by rw [g4, hi]; exact ho, x', hx', by rw [f3, g4, hi], rfl⟩)), ⟨x.f, v.f⟩, ⟨x.t, v.t⟩, ⟨hr.1, hr.2.1, hr2.1, hr2.2.1⟩, ⟨hr.2.2.1, hr.2.2.2, hr2.2.2.1, hr2.2.2.2⟩, by rw [e]; rfl, by rw [e]; rfl, ?_, ?_, ?_, ?_, ?_⟩
    · show enc a.n v'.f x'.f = enc a.n v.f x.f; rw [f1, g1]
    · show enc a.n v'.t x'.t = enc a.n v.t x.t; rw [f2, g2]
    · rw [e]; exact g3
    · rw [e]; exact f4
    · rw [e]; show v'.w + x'.w ≤ x.w + v.w; omega
  · have hr := hb.arc _ hv
    obtain ⟨v', hv', g1, g2, g3, g4, g5⟩ := ch_mem hv
    have hp' : (p : Int) < a.n := by omega
    refine ⟨prodL a.n v' p, mem_prod.2 (.inl ⟨v', hv', by rw [g4]; exact hi, p, hp, rfl⟩), ⟨(p : Int), v.f⟩, ⟨(p : Int), v.t⟩, ⟨by show (0 : Int) ≤ (p : Int); omega, hp', hr.1, hr.2.1⟩, ⟨by show (0 : Int) ≤ (p : Int); omega, hp', hr.2.2.1, hr.2.2.2⟩, by rw [e]; rfl, by rw [e]; rfl, ?_, ?_, ?_, ?_, ?_⟩
    · show enc a.n v'.f (p : Int) = enc a.n v.f (p : Int); rw [g1]
    · show enc a.n v'.t (p : Int) = enc a.n v.t (p : Int); rw [g2]
    · rw [e]; exact g3
    · rw [e]; rfl
    · rw [e]; exact g5
/-- What is reached, turned. -/
theorem reach_turn {s : Int} (h : RS false (prodArcs (chM 1 b) (chM 1 a)) [0] s) : ∀ {c : Fnl}, inC a b c → s = encC (chM 1 a) (sw c) → RS false (prodArcs a b) [0] (encC b c) := by
  induction h with
  | @base s hs =>
    intro c hc e
    have e0 : s = 0 := by simpa using hs
    have hz : inC a b ⟨0, 0⟩ := ⟨Int.le_refl _, by have := hc.1; have := hc.2.1; show (0 : Int) < _; omega, Int.le_refl _, by have := hc.2.2.1; have := hc.2.2.2; show (0 : Int) < _; omega⟩
    have : sw c = ⟨0, 0⟩ := encC_inj (inC_sw hc) (inC_sw hz) (by rw [← e, e0]; simp [encC, enc, sw])
    have : c = ⟨0, 0⟩ := by rw [← sw_sw c, this]; rfl
    subst this
    exact .base (by simp [encC, enc])
  | @step s t z _ hz hk hv ih =>
    intro c hc e
    obtain ⟨y, hy, c1, d1, h1, h2, e1, e2, e3, e4, _⟩ := turn_arc ha hb hz
    have hs : s = encC (chM 1 a) (sw c1) := by rw [← hk]; exact e3
    have hd : sw d1 = sw c := encC_inj (inC_sw h2) (inC_sw hc) (by rw [← e4, ← e]; exact hv)
    have hd' : d1 = c := by rw [← sw_sw d1, hd]; rfl
    subst hd'
    exact .step (ih h1 hs) hy (by exact e1) (by exact e2)
theorem reach_back {s : Int} (h : RS false (prodArcs a b) [0] s) : ∀ {c : Fnl}, inC a b c → s = encC b c → RS false (prodArcs (chM 1 b) (chM 1 a)) [0] (encC (chM 1 a) (sw c)) := by
  induction h with
  | @base s hs =>
    intro c hc e
    have e0 : s = 0 := by simpa using hs
    have hz : inC a b ⟨0, 0⟩ := ⟨Int.le_refl _, by have := hc.1; have := hc.2.1; show (0 : Int) < _; omega, Int.le_refl _, by have := hc.2.2.1; have := hc.2.2.2; show (0 : Int) < _; omega⟩
    have : c = ⟨0, 0⟩ := encC_inj hc hz (by rw [← e, e0]; simp [encC, enc])
    subst this
    exact .base (by simp [encC, enc, sw])
  | @step s t y _ hy hk hv ih =>
    intro c hc e
    obtain ⟨z, hz, c1, d1, h1, h2, e1, e2, e3, e4, _⟩ := turn_back ha hb hy
    have hs : s = encC b c1 := by rw [← hk]; exact e1
    have hd : d1 = c := encC_inj h2 hc (by rw [← e2, ← e]; exact hv)
    subst hd
    exact .step (ih h1 hs) hz (by exact e3) (by exact e4)
theorem coreach_turn {s : Int} (h : RS true (prodArcs (chM 1 b) (chM 1 a)) (finStates (prodFins (chM 1 b) (chM 1 a))) s) : ∀ {c : Fnl}, inC a b c → s = encC (chM 1 a) (sw c) → RS true (prodArcs a b) (finStates (prodFins a b)) (encC b c) := by
  induction h with
  | @base s hs =>
    intro c hc e
    obtain ⟨z, hz, hz2⟩ := List.mem_map.1 hs
    obtain ⟨x, hx, y, hy, rfl⟩ := mem_prodF.1 hz
    have hxr := hb.fin x hx
    have hyr := ha.fin y hy
    have hin : inC a b ⟨y.s, x.s⟩ := ⟨hyr.1, hyr.2, hxr.1, hxr.2⟩
    have hd : sw (⟨y.s, x.s⟩ : Fnl) = sw c := encC_inj (inC_sw hin) (inC_sw hc) (by rw [← e, ← hz2]; rfl)
    have hd' : (⟨y.s, x.s⟩ : Fnl) = c := by rw [← sw_sw ⟨y.s, x.s⟩, hd]; rfl
    subst hd'
    exact .base (List.mem_map.2 ⟨_, mem_prodF.2 ⟨y, hy, x, hx, rfl⟩, rfl⟩)
  | @step s t z _ hz hk hv ih =>
    intro c hc e
    obtain ⟨y, hy, c1, d1, h1, h2, e1, e2, e3, e4, _⟩ := turn_arc ha hb hz
    have hs : s = encC (chM 1 a) (sw d1) := by rw [← hk]; exact e4
    have hd : sw c1 = sw c := encC_inj (inC_sw h1) (inC_sw hc) (by rw [← e3, ← e]; exact hv)
    have hd' : c1 = c := by rw [← sw_sw c1, hd]; rfl
    subst hd'
    exact .step (ih h2 hs) hy (by exact e2) (by exact e1)
theorem coreach_back {s : Int} (h : RS true (prodArcs a b) (finStates (prodFins a b)) s) : ∀ {c : Fnl}, inC a b c → s = encC b c → RS true (prodArcs (chM 1 b) (chM 1 a)) (finStates (prodFins (chM 1 b) (chM 1 a))) (encC (chM 1 a) (sw c)) := by
  induction h with
  | @base s hs =>
    intro c hc e
    obtain ⟨z, hz, hz2⟩ := List.mem_map.1 hs
    obtain ⟨x, hx, y, hy, rfl⟩ := mem_prodF.1 hz
    have hxr := ha.fin x hx
    have hyr := hb.fin y hy
    have hin : inC a b ⟨x.s, y.s⟩ := ⟨hxr.1, hxr.2, hyr.1, hyr.2⟩
    have hd : (⟨x.s, y.s⟩ : Fnl) = c := encC_inj hin hc (by rw [← e, ← hz2]; rfl)
    subst hd
    exact .base (List.mem_map.2 ⟨_, mem_prodF.2 ⟨y, hy, x, hx, rfl⟩, rfl⟩)
  | @step s t y _ hy hk hv ih =>
    intro c hc e
    obtain ⟨z, hz, c1, d1, h1, h2, e1, e2, e3, e4, _⟩ := turn_back ha hb hy
    have hs : s = encC b d1 := by rw [← hk]; exact e2
    have hd : c1 = c := encC_inj h1 hc (by rw [← e1, ← e]; exact hv)
    subst hd
    exact .step (ih h2 hs) hz (by exact e4) (by exact e3)
theorem reachL_turn {c : Fnl} : c ∈ reachL (chM 1 b) (chM 1 a) ↔ sw c ∈ reachL a b := by
  rw [mem_reachL, mem_reachL]
  constructor
  · rintro ⟨h1, h2⟩
    exact ⟨inC_ws h1, reach_turn ha hb h2 (inC_ws h1) rfl⟩
  · rintro ⟨h1, h2⟩
    exact ⟨inC_sw h1, reach_back ha hb h2 h1 rfl⟩
theorem keep_turn {c : Fnl} : c ∈ keepL (chM 1 b) (chM 1 a) ↔ sw c ∈ keepL a b := by
  rw [mem_keepL, mem_keepL]
  unfold KeepC
  rw [reachL_turn ha hb]
  constructor
  · rintro ⟨h1, h2⟩
    exact ⟨h1, coreach_turn ha hb h2 (mem_reachL.1 h1).1 rfl⟩
  · rintro ⟨h1, h2⟩
    exact ⟨h1, coreach_back ha hb h2 (mem_reachL.1 h1).1 rfl⟩
/-- The turned composition makes no more steps. -/
theorem total_turn : total (chM 1 b) (chM 1 a) ≤ total a b := by
  unfold total
  have h1 : totL (chM 1 b) (chM 1 a) (reachL (chM 1 b) (chM 1 a)) ≤ totL a b ((reachL (chM 1 b) (chM 1 a)).map sw) := by
    generalize reachL (chM 1 b) (chM 1 a) = l
    induction l with
    | nil => simp [totL]
    | cons c l ih =>
      have := steps_le a b c
      unfold totL at *
      simp only [List.map_cons, List.sum_cons]
      omega
  refine Nat.le_trans h1 (sum_sub _ ?_ fun x hx => ?_)
  · have hn := reachL_nodup (chM 1 b) (chM 1 a)
    have hi : ∀ x y : Fnl, sw x = sw y → x = y := fun x y e => by rw [← sw_sw x, e]; rfl
    exact List.pairwise_map.2 (hn.imp fun {x y} hne e => hne (hi x y e))
  · obtain ⟨c, hc, rfl⟩ := List.mem_map.1 hx
    exact (reachL_turn ha hb).1 hc
theorem keep_len : (keepL (chM 1 b) (chM 1 a)).length = (keepL a b).length := by
  have hi : ∀ x y : Fnl, sw x = sw y → x = y := fun x y e => by rw [← sw_sw x, e]; rfl
  have nd : ∀ l : List Fnl, l.Nodup → (l.map sw).Nodup := fun l hn => List.pairwise_map.2 (hn.imp fun {x y} hne e => hne (hi x y e))
  have h1 := len_sub (nd _ (cLt_nodup (keepL_sorted (chM 1 b) (chM 1 a)))) (k := keepL a b) fun x hx => by
    obtain ⟨c, hc, rfl⟩ := List.mem_map.1 hx
    exact (keep_turn ha hb).1 hc
  have h2 := len_sub (nd _ (cLt_nodup (keepL_sorted a b))) (k := keepL (chM 1 b) (chM 1 a)) fun x hx => by
    obtain ⟨c, hc, rfl⟩ := List.mem_map.1 hx
    exact (keep_turn ha hb).2 hc
  rw [List.length_map] at h1 h2
  omega
end
end Gm

namespace Gm
set_option linter.unusedSimpArgs false
set_option linter.unusedVariables false
section
variable {a b : Mach} (ha : Rng a) (hb : Rng b)
include ha hb
/-- A couple that is reached: each of its states is the first one, or an arc leads there. -/
theorem reach_ends {s : Int} (h : RS false (prodArcs a b) [0] s) : ∀ {c : Fnl}, inC a b c → s = encC b c → (c.s = 0 ∨ ∃ x ∈ a.arcs, x.t = c.s) ∧ (c.w = 0 ∨ ∃ y ∈ b.arcs, y.t = c.w) := by
  induction h with
  | base h =>
    intro c hc e
    have h0 := List.mem_singleton.1 h
    have hz : inC a b ⟨0, 0⟩ := ⟨Int.le_refl _, by have := hc.1; have := hc.2.1; show (0 : Int) < a.n; omega, Int.le_refl _, by have := hc.2.2.1; have := hc.2.2.2; show (0 : Int) < b.n; omega⟩
    have := encC_inj hc hz (by rw [← e, h0]; simp [encC, enc])
    subst this
    exact ⟨.inl rfl, .inl rfl⟩
  | @step u v z hr hz hf ht ih =>
    intro c hc e
    have hN := (rng_prod ha hb).arc z hz
    have hf' : z.f = u := hf
    have ht' : z.t = v := ht
    have hbn : 0 < b.n := by have := hc.2.2.1; have := hc.2.2.2; omega
    have hu0 : 0 ≤ u := by rw [← hf']; exact hN.1
    have hu1 : u < a.n * b.n := by rw [← hf']; exact hN.2.1
    have hc0 : inC a b ⟨u / b.n, u % b.n⟩ := ⟨Int.ediv_nonneg hu0 (by omega), Int.ediv_lt_of_lt_mul hbn hu1, Int.emod_nonneg _ (by omega), Int.emod_lt_of_pos _ hbn⟩
    have he0 : u = encC b ⟨u / b.n, u % b.n⟩ := (enc_dec hbn).symm
    obtain ⟨i1, i2⟩ := ih hc0 he0
    obtain ⟨st, hst, ez⟩ := arc_step ha hb hc0 hz (by rw [hf', ← he0])
    have hin := step_in ha hb hc0 hst
    have e1 : encC b (toC st) = v := by rw [← ht', ez]
    have := encC_inj hc hin (by rw [e1, e])
    subst this
    unfold stepsOf at hst
    rcases List.mem_append.1 hst with h1 | h1
    · obtain ⟨x, hx, h2⟩ := List.mem_flatMap.1 h1
      have hxa := (mem_outs.1 hx).1
      unfold stpX at h2
      split at h2
      · rw [List.mem_singleton.1 h2]
        exact ⟨.inr ⟨x, hxa, rfl⟩, i2⟩
      · obtain ⟨y, hy, rfl⟩ := List.mem_map.1 h2
        exact ⟨.inr ⟨x, hxa, rfl⟩, .inr ⟨y, (mem_outs.1 (List.mem_filter.1 hy).1).1, rfl⟩⟩
    · unfold stpY at h1
      obtain ⟨y, hy, rfl⟩ := List.mem_map.1 h1
      exact ⟨i1, .inr ⟨y, (mem_outs.1 (List.mem_filter.1 hy).1).1, rfl⟩⟩
end
theorem stepN_le2 (A B : List Arc) : stepN A B ≤ A.length + A.length * B.length + B.length := by
  unfold stepN
  have h1 : (A.map fun x => if x.o = 0 then 1 else (B.filter fun y => decide (y.i = x.o)).length).sum ≤ (A.map fun _ => 1 + B.length).sum := by
    induction A with
    | nil => exact Nat.le_refl _
    | cons x A ih =>
      rw [List.map_cons, List.map_cons, List.sum_cons, List.sum_cons]
      have := List.length_filter_le (fun y : Arc => decide (y.i = x.o)) B
      split <;> omega
  have h2 : (A.map fun _ => 1 + B.length).sum = A.length + A.length * B.length := by
    induction A with
    | nil => simp
    | cons x A ih => 
      rw [List.map_cons, List.sum_cons, List.length_cons, Nat.succ_mul]
      have := ih (by
        refine Nat.le_trans (Nat.le_refl _) ?_
        clear ih h1
        induction A with
        | nil => exact Nat.le_refl _
        | cons x A ih =>
          rw [List.map_cons, List.map_cons, List.sum_cons, List.sum_cons]
          have := List.length_filter_le (fun y : Arc => decide (y.i = x.o)) B
          split <;> omega)
      omega
  have h3 := List.length_filter_le (fun y : Arc => decide (y.i = 0)) B
  omega
/-- States to which an arc leads, and the first one. -/
def toS (n : Int) (A : List Arc) : List Nat := (List.range n.toNat).filter fun q => decide (q = 0 ∨ ∃ x ∈ A, x.t.toNat = q)
theorem toS_nodup (n : Int) (A : List Arc) : (toS n A).Nodup := List.nodup_range.filter _
theorem toS_len (n : Int) (A : List Arc) : (toS n A).length ≤ A.length + 1 := by
  have h := len_sub (l := toS n A) (k := 0 :: A.map fun x => x.t.toNat) (toS_nodup n A) fun q hq => by
    rcases of_decide_eq_true (List.mem_filter.1 hq).2 with h | ⟨x, hx, h⟩
    · rw [h]; exact List.mem_cons_self
    · exact List.mem_cons_of_mem _ (List.mem_map.2 ⟨x, hx, h⟩)
  rw [List.length_cons, List.length_map] at h
  exact h
theorem outs_tot' {E : List Nat} (hn : E.Nodup) {A : List Arc} (hA : ∀ z ∈ A, 0 ≤ z.f) : (E.map fun s => (outs A s).length).sum ≤ A.length := by
  have g := group_perm (p := fun z => decide (z.f.toNat ∈ E)) hn (A := A) fun z hz => ⟨hA z hz, fun h => of_decide_eq_true h⟩
  have e : (E.flatMap fun s => (outs A s).filter fun z => decide (z.f.toNat ∈ E)) = E.flatMap fun s => outs A s := by
    rw [List.flatMap_def, List.flatMap_def]
    congr 1
    refine List.map_congr_left fun s hs => ?_
    refine List.filter_eq_self.2 fun z hz => ?_
    have := (mem_outs.1 hz).2
    exact decide_eq_true (by rw [this]; exact hs)
  rw [e] at g
  have h1 := g.length_eq
  rw [List.length_flatMap] at h1
  have h2 := List.length_filter_le (fun z : Arc => decide (z.f.toNat ∈ E)) A
  omega
theorem sum_le_map' {α : Type} {f g : α → Nat} : ∀ {l : List α}, (∀ x ∈ l, f x ≤ g x) → (l.map f).sum ≤ (l.map g).sum
  | [], _ => Nat.le_refl _
  | x :: l, h => by
    have h1 := h x List.mem_cons_self
    have h2 := sum_le_map' (l := l) fun y hy => h y (List.mem_cons_of_mem _ hy)
    rw [List.map_cons, List.map_cons, List.sum_cons, List.sum_cons]; omega
theorem sum_const {α : Type} (l : List α) (k : Nat) : (l.map fun _ => k).sum = l.length * k := by
  induction l with
  | nil => simp
  | cons x l ih => rw [List.map_cons, List.sum_cons, ih, List.length_cons, Nat.succ_mul]; omega
theorem sum_addm {α : Type} (f g : α → Nat) (l : List α) : (l.map fun x => f x + g x).sum = (l.map f).sum + (l.map g).sum := by
  induction l with
  | nil => rfl
  | cons x l ih => rw [List.map_cons, List.map_cons, List.map_cons, List.sum_cons, List.sum_cons, List.sum_cons, ih]; omega
theorem sum_mulr {α : Type} (f : α → Nat) (k : Nat) (l : List α) : (l.map fun x => f x * k).sum = (l.map f).sum * k := by
  induction l with
  | nil => simp
  | cons x l ih => rw [List.map_cons, List.map_cons, List.sum_cons, List.sum_cons, ih, Nat.add_mul]
theorem sum_flat {α β : Type} (g : β → Nat) (f : α → List β) (l : List α) : ((l.flatMap f).map g).sum = (l.map fun x => ((f x).map g).sum).sum := by
  induction l with
  | nil => rfl
  | cons x l ih => rw [List.flatMap_cons, List.map_append, List.sum_append, List.map_cons, List.sum_cons, ih]
theorem total_short {a b : Mach} (ha : Rng a) (hb : Rng b) : total a b ≤ a.arcs.length * (b.arcs.length + 1) + a.arcs.length * b.arcs.length + b.arcs.length * (a.arcs.length + 1) := by
  let P := toS a.n a.arcs
  let Q := toS b.n b.arcs
  let Z : List Fnl := P.flatMap fun p : Nat => Q.map fun q : Nat => (⟨(p : Int), (q : Int)⟩ : Fnl)
  have hsub : ∀ c ∈ reachL a b, c ∈ Z := fun c hc => by
    obtain ⟨hi, hr⟩ := mem_reachL.1 hc
    obtain ⟨e1, e2⟩ := reach_ends ha hb hr hi rfl
    have hs := hi.1
    have hs' := hi.2.1
    have hw := hi.2.2.1
    have hw' := hi.2.2.2
    refine List.mem_flatMap.2 ⟨c.s.toNat, ?_, List.mem_map.2 ⟨c.w.toNat, ?_, ?_⟩⟩
    · refine List.mem_filter.2 ⟨List.mem_range.2 (by omega), decide_eq_true ?_⟩
      rcases e1 with e | ⟨x, hx, e⟩
      · exact .inl (by omega)
      · exact .inr ⟨x, hx, by rw [e]⟩
    · refine List.mem_filter.2 ⟨List.mem_range.2 (by omega), decide_eq_true ?_⟩
      rcases e2 with e | ⟨x, hx, e⟩
      · exact .inl (by omega)
      · exact .inr ⟨x, hx, by rw [e]⟩
    · obtain ⟨cs, cw⟩ := c
      dsimp only at *
      rw [show ((cs.toNat : Nat) : Int) = cs by omega, show ((cw.toNat : Nat) : Int) = cw by omega]
  have h1 : total a b ≤ (Z.map fun c => (stepsOf a b c).length).sum := sum_sub _ (reachL_nodup a b) hsub
  have h2 : (Z.map fun c => (stepsOf a b c).length).sum ≤ (P.map fun p => (outs a.arcs p).length * Q.length + ((outs a.arcs p).length * b.arcs.length + b.arcs.length)).sum := by
    rw [sum_flat]
    refine sum_le_map' fun p hp => ?_
    rw [List.map_map]
    have h3 : (Q.map ((fun c => (stepsOf a b c).length) ∘ fun q : Nat => (⟨(p : Int), (q : Int)⟩ : Fnl))).sum ≤ (Q.map fun q => (outs a.arcs p).length + ((outs b.arcs q).length * (outs a.arcs p).length + (outs b.arcs q).length)).sum := by
      refine sum_le_map' fun q hq => ?_
      show (stepsOf a b ⟨(p : Int), (q : Int)⟩).length ≤ _
      rw [stepsOf_len]
      have h := stepN_le2 (outs a.arcs p) (outs b.arcs q)
      have e1 : ((p : Int)).toNat = p := by omega
      have e2 : ((q : Int)).toNat = q := by omega
      dsimp only
      rw [e1, e2, Nat.mul_comm (outs b.arcs q).length]
      omega
    have h4 := outs_tot' (toS_nodup b.n b.arcs) (A := b.arcs) fun z hz => (hb.arc z hz).1
    rw [sum_addm, sum_addm, sum_const, sum_mulr] at h3
    have h5 : (Q.map fun q => (outs b.arcs q).length).sum ≤ b.arcs.length := h4
    have h6 : (Q.map fun q => (outs b.arcs q).length).sum * (outs a.arcs p).length ≤ b.arcs.length * (outs a.arcs p).length := Nat.mul_le_mul_right _ h5
    rw [Nat.mul_comm (outs a.arcs p).length Q.length, Nat.mul_comm (outs a.arcs p).length b.arcs.length]
    omega
  have h7 : (P.map fun p => (outs a.arcs p).length).sum ≤ a.arcs.length := outs_tot' (toS_nodup a.n a.arcs) fun z hz => (ha.arc z hz).1
  rw [sum_addm, sum_addm, sum_mulr, sum_mulr, sum_const] at h2
  have hP := toS_len a.n a.arcs
  have hQ := toS_len b.n b.arcs
  have g1 : (P.map fun p => (outs a.arcs p).length).sum * Q.length ≤ a.arcs.length * (b.arcs.length + 1) := Nat.mul_le_mul h7 hQ
  have g2 : (P.map fun p => (outs a.arcs p).length).sum * b.arcs.length ≤ a.arcs.length * b.arcs.length := Nat.mul_le_mul_right _ h7
  have g3 : P.length * b.arcs.length ≤ b.arcs.length * (a.arcs.length + 1) := by rw [Nat.mul_comm]; exact Nat.mul_le_mul_left _ hP
  omega
/-- What Compose does with short machines. -/
theorem compF_short {a b : Mach} (ha : Valid a) (hb : Valid b) (h : a.arcs.length * b.arcs.length ≤ 1500) : compF a b = szF (compM a b) := by
  have ht : twoC a b = (0, 0) := by unfold twoC; rw [if_pos (validate_of ha)]; exact validate_of hb
  unfold compF
  rw [if_pos ht]
  by_cases h0 : a.n = 0 ∨ b.n = 0
  · rw [if_pos h0, comp_zero_n h0, szF_empty]
  · rw [if_neg h0]
    have h1 := total_short (rng_valid ha) (rng_valid hb)
    have h2 := ha.len
    have h3 := hb.len
    rw [Nat.mul_succ, Nat.mul_succ, Nat.mul_comm b.arcs.length a.arcs.length] at h1
    rw [if_neg (by omega)]
theorem prod_short {a b : Mach} (ha : Valid a) (hb : Valid b) (h : a.arcs.length * b.arcs.length ≤ 1500) (ha0 : 0 < a.n) (hb0 : 0 < b.n) (hnn : a.n * b.n ≤ 120) : (prodArcs a b).length ≤ 1000000 ∧ (prodFins a b).length ≤ 160000 ∧ a.n * b.n ≤ 160000 := by
  have hA := ha.len
  have hB := hb.len
  have hn := ha.n4
  have hm := hb.n4
  have n0 := ha.n0
  have m0 := hb.n0
  have q1 : b.n ≤ 120 := by
    have := Int.mul_le_mul_of_nonneg_right (show (1 : Int) ≤ a.n by omega) m0
    omega
  have q2 : a.n ≤ 120 := by
    have := Int.mul_le_mul_of_nonneg_left (show (1 : Int) ≤ b.n by omega) n0
    omega
  refine ⟨?_, ?_, ?_⟩
  · unfold prodArcs
    rw [List.length_append, List.length_flatMap, List.length_flatMap]
    have h1 : (a.arcs.map fun x => (prodX a b x).length).sum ≤ (a.arcs.map fun _ => 120 + b.arcs.length).sum := sum_le_map' fun x _ => by
      unfold prodX
      split
      · rw [List.length_map, List.length_range]; omega
      · rw [List.length_map]; have := List.length_filter_le (fun y : Arc => decide (y.i = x.o)) b.arcs; omega
    have h2 : (b.arcs.map fun y => (prodY a b y).length).sum ≤ (b.arcs.map fun _ => 120).sum := sum_le_map' fun x _ => by
      unfold prodY
      split
      · rw [List.length_map, List.length_range]; omega
      · simp
    rw [sum_const] at h1 h2
    rw [Nat.mul_add] at h1
    omega
  · have e : (prodFins a b).length = a.fins.length * b.fins.length := by
      unfold prodFins
      rw [List.length_flatMap]
      simp only [List.length_map]
      exact sum_const _ _
    rw [e]
    exact Nat.mul_le_mul ha.finLen hb.finLen
  · exact Int.mul_le_mul hn hm m0 (by omega)
end Gm

namespace Go.Proofs.Ytmgpcnkmmgkjgaa
open Go.RowKit Gm Go.Sort Go.Shelf
set_option linter.unusedSimpArgs false
set_option linter.unusedVariables false
set_option maxRecDepth 100000 in
set_option maxHeartbeats 4000000 in
theorem comp2_zero (va vb : Value) (a b : Mach) (w : World) (B : Nat) (hB : B ≤ w.heap.size) (ha : MachAt w B va a) (hb : MachAt w B vb b) (h0 : a.n = 0 ∨ b.n = 0) :
    Calls Try.prog 49 #[va, vb] w fun e w' => e = .returned (.agg #[.int .i64 0, .slice none 0 0, .slice none 0 0]) ∧ Below w.heap.size w w' := by
  obtain ⟨A, AF, n, c, nf, cf, rfl, -⟩ := ha
  obtain ⟨A', AF', n', c', nf', cf', rfl, -⟩ := hb
  obtain ⟨sa, hsa⟩ : ∃ s, s = a.n := ⟨_, rfl⟩
  obtain ⟨sb, hsb⟩ : ∃ s, s = b.n := ⟨_, rfl⟩
  rw [← hsa, ← hsb] at h0 ⊢
  clear hsa hsb
  go_enter Try.func49, Try.ntmps49
  by_cases e0 : sa = 0
  · have tz : (sa == 0) = true := by rw [e0]; rfl
    clear h0 e0
    go_wp2
    exact bodyPost_ret (v := .agg #[.int .i64 0, .slice none 0 0, .slice none 0 0]) (by simp [results, Try.results49, go_sem]) rfl ⟨rfl, by go_grown⟩
  · have tz : (sa == 0) = false := by simpa using e0
    have e1 : sb = 0 := by omega
    have tz2 : (sb == 0) = true := by rw [e1]; rfl
    clear h0 e0 e1
    go_wp2
    exact bodyPost_ret (v := .agg #[.int .i64 0, .slice none 0 0, .slice none 0 0]) (by simp [results, Try.results49, go_sem]) rfl ⟨rfl, by go_grown⟩
theorem comp2_all (va vb : Value) (a b : Mach) (w : World) (B : Nat) (hB : B ≤ w.heap.size) (ha : MachAt w B va a) (hb : MachAt w B vb b) (hva : Valid a) (hvb : Valid b) (h : a.arcs.length * b.arcs.length ≤ 1500) (hnn : a.n * b.n ≤ 120) :
    Calls Try.prog 49 #[va, vb] w fun e w' => ∃ g A n c AF nf cf, e = .returned (.agg #[.int .i64 g, .slice A n c, .slice AF nf cf]) ∧ Hid (MachNew w.heap.size w' (.agg #[.int .i64 g, .slice A n c, .slice AF nf cf]) (compM a b)) ∧ Below w.heap.size w w' := by
  by_cases h0 : a.n = 0 ∨ b.n = 0
  · refine (comp2_zero va vb a b w B hB ha hb h0).mono ?_
    rintro e w' ⟨rfl, hb⟩
    refine ⟨_, _, _, _, _, _, _, rfl, hide ?_, hb⟩
    rw [comp_zero_n h0]
    exact MachNew.empty _ _
  · have := hva.n0
    have := hvb.n0
    obtain ⟨h1, h2, h3⟩ := prod_short hva hvb h (by omega) (by omega) hnn
    refine (comp2_any va vb a b w B hB ha hb hva hvb (by omega) (by omega) h1 (by omega)).mono ?_
    rintro e w' ⟨v', rfl, hM, hbw⟩
    obtain ⟨A, n, c, AF, nf, cf, rfl⟩ := agg_of hM
    exact ⟨_, A, n, c, AF, nf, cf, rfl, hide hM, hbw⟩
theorem szF_big {m : Mach} (h : 400 < m.n ∨ 2000 < m.arcs.length) : szF m = (17, -1) := by unfold szF; rw [if_pos h]
theorem szF_over {m : Mach} (h : ¬ (400 < m.n ∨ 2000 < m.arcs.length)) (h2 : (∃ x ∈ m.arcs, 1000000 < x.w) ∨ ∃ x ∈ m.fins, 1000000 < x.w) : szF m = (18, -1) := by unfold szF; rw [if_neg h, if_pos h2]
theorem szF_fine {m : Mach} (h : ¬ (400 < m.n ∨ 2000 < m.arcs.length)) (h2 : ∀ x ∈ m.arcs, x.w ≤ 1000000) (h3 : ∀ x ∈ m.fins, x.w ≤ 1000000) : szF m = (0, 0) := by
  unfold szF
  rw [if_neg h, if_neg]
  rintro (⟨x, hx, g⟩ | ⟨x, hx, g⟩)
  · have := h2 x hx; omega
  · have := h3 x hx; omega
set_option maxRecDepth 100000 in
set_option maxHeartbeats 16000000 in
theorem composed_any (va vb : Value) (a b : Mach) (w : World) (B : Nat) (hB : B ≤ w.heap.size) (ha : MachAt w B va a) (hb : MachAt w B vb b) (hva : Valid a) (hvb : Valid b) (h : a.arcs.length * b.arcs.length ≤ 1500) (hnn : a.n * b.n ≤ 120) :
    Calls Try.prog 27 #[va, vb] w fun e w' => ∃ v', e = .returned (.tuple #[v', .agg #[.int .i64 (szF (compM a b)).1, .int .i64 (szF (compM a b)).2]]) ∧ MachAt w' w'.heap.size v' (orE (szF (compM a b)) (compM a b)) ∧ Below w.heap.size w w' := by
  have HA := hide ha
  have HB := hide hb
  obtain ⟨A, AF, n, c, nf, cf, rfl, -⟩ := ha
  obtain ⟨A', AF', n', c', nf', cf', rfl, -⟩ := hb
  have hne := fun a b c d W => run_neq_fault a b c d W
  have hf0 : fEq 0 0 0 0 = true := rfl
  have hQ := fun W (hB : B ≤ W.heap.size) (h : MachAt W B (.agg #[.int .i64 a.n, .slice A n c, .slice AF nf cf]) a) => mfault_spec _ a W B hB h
  have hQ2 := fun W (hB : B ≤ W.heap.size) (h : MachAt W B (.agg #[.int .i64 b.n, .slice A' n' c', .slice AF' nf' cf']) b) => mfault_spec _ b W B hB h
  rw [validate_of hva] at hQ
  rw [validate_of hvb] at hQ2
  have HQ := hide hQ
  have HQ2 := hide hQ2
  have HC := hide (fun W (hB : B ≤ W.heap.size) (h1 : MachAt W B (.agg #[.int .i64 a.n, .slice A n c, .slice AF nf cf]) a) (h2 : MachAt W B (.agg #[.int .i64 b.n, .slice A' n' c', .slice AF' nf' cf']) b) => comp2_all _ _ a b W B hB h1 h2 hva hvb h hnn)
  clear hQ hQ2 hva hvb h hnn
  obtain ⟨sa, hsa⟩ : ∃ s, s = a.n := ⟨_, rfl⟩
  obtain ⟨sb, hsb⟩ : ∃ s, s = b.n := ⟨_, rfl⟩
  rw [← hsa] at HQ HA HC ⊢
  rw [← hsb] at HQ2 HB HC ⊢
  clear hsa hsb
  obtain ⟨M, hM⟩ : ∃ z, z = compM a b := ⟨_, rfl⟩
  rw [← hM] at HC ⊢
  clear hM
  go_enter Try.func27, Try.ntmps27
  go_wp2_with fail
  refine (HQ.out _ (by simp <;> omega) (HA.out.below (show Below w.heap.size w _ by go_grown) hB)).mono ?_
  rintro e w1 ⟨rfl, hb1⟩
  have hbw1 : Below w.heap.size w w1 := Below.trans (show Below w.heap.size w _ by go_grown) (hb1.mono (by simp <;> omega))
  have bX1 : Blk w1 w.heap.size 25 #[.int .i64 sa, .slice A n c, .slice AF nf cf] := ((((Blk.at_ rfl).alloc _).alloc _).alloc _).below hb1 (by simp <;> omega)
  have bY1 : Blk w1 (w.heap.size + 1) 25 #[.int .i64 sb, .slice A' n' c', .slice AF' nf' cf'] := (((Blk.at_ (by simp)).alloc _).alloc _).below hb1 (by simp <;> omega)
  have bR1 : Blk w1 (w.heap.size + 1 + 1) 25 #[.int .i64 0, .slice none 0 0, .slice none 0 0] := ((Blk.at_ (by simp)).alloc _).below hb1 (by simp <;> omega)
  have bF1 : Blk w1 (w.heap.size + 1 + 1 + 1) 28 #[.int .i64 0, .int .i64 0] := (Blk.at_ (by simp)).below hb1 (by simp)
  clear hb1 HQ
  have y0 := bY1.cell 0
  have y1 := bY1.cell 1
  have y2 := bY1.cell 2
  simp at y0 y1 y2
  have lY := bY1.lt
  go_wp2_with fail
  refine (HQ2.out _ (by have := hbw1.size; simp <;> omega) (HB.out.below (hbw1.alloc hbw1.size _) hB)).mono ?_
  rintro e w2 ⟨rfl, hb2⟩
  have hbw2 := (hbw1.alloc hbw1.size _).trans (hb2.mono (by have := hbw1.size; simp <;> omega))
  have bX2 := (bX1.alloc _).below hb2 (by have := bX1.lt; simp <;> omega)
  have bY2 := (bY1.alloc _).below hb2 (by have := bY1.lt; simp <;> omega)
  have bR2 := (bR1.alloc _).below hb2 (by have := bR1.lt; simp <;> omega)
  have bF2 := (bF1.alloc _).below hb2 (by have := bF1.lt; simp <;> omega)
  clear hb2 HQ2 hbw1 bR1 bF1 bX1 bY1 y0 y1 y2 lY
  have x0 := bX2.cell 0
  have x1 := bX2.cell 1
  have x2 := bX2.cell 2
  have y0 := bY2.cell 0
  have y1 := bY2.cell 1
  have y2 := bY2.cell 2
  simp at x0 x1 x2 y0 y1 y2
  have lX := bX2.lt
  have lY := bY2.lt
  go_wp2_with fail
  refine (HC.out _ (by have := hbw2.size; simp <;> omega) (HA.out.below (hbw2.alloc hbw2.size _) hB) (HB.out.below (hbw2.alloc hbw2.size _) hB)).mono ?_
  rintro e w3 ⟨g5, A5, n5, c5, AF5, nf5, cf5, rfl, HM3, hb3⟩
  have hbw3 := (hbw2.alloc hbw2.size _).trans (hb3.mono (by have := hbw2.size; simp <;> omega))
  have bR3 := (bR2.alloc _).below hb3 (by have := bR2.lt; simp <;> omega)
  have bF3 := (bF2.alloc _).below hb3 (by have := bF2.lt; simp <;> omega)
  clear hb3 HC hbw2 bR2 bX2 bY2 x0 x1 x2 y0 y1 y2 lX lY hne hf0
  go_upto_region 8 with fail
  generalize hW4 : World.alloc _ _ = W4
  obtain ⟨M3, hM3⟩ : ∃ z, z = w3.heap.size := ⟨_, rfl⟩
  have HR3 := hide (show Blk W4 (w.heap.size + 1 + 1) 25 #[.int .i64 0, .slice none 0 0, .slice none 0 0] by rw [← hW4]; exact bR3.alloc _)
  have HF3 := hide (show Blk W4 (w.heap.size + 1 + 1 + 1) 28 #[.int .i64 0, .int .i64 0] by rw [← hW4]; exact bF3.alloc _)
  have HP3 := hide (show Blk W4 M3 25 #[.int .i64 g5, .slice A5 n5 c5, .slice AF5 nf5 cf5] by rw [← hW4]; exact Blk.at_ hM3)
  have HB3 := hide (show Below w.heap.size w W4 by rw [← hW4]; exact hbw3.alloc hbw3.size _)
  have HM4 := hide (show MachAt W4 M3 (.agg #[.int .i64 g5, .slice A5 n5 c5, .slice AF5 nf5 cf5]) M by rw [← hW4, hM3]; exact HM3.out.at_.below (show Below w3.heap.size w3 _ by go_grown) (Nat.le_refl _))
  have HMN := hide (show ∀ W, Below M3 W4 W → MachNew (w.heap.size + 1 + 1 + 1 + 1) W (.agg #[.int .i64 g5, .slice A5 n5 c5, .slice AF5 nf5 cf5]) M from fun W hW => (HM3.out.mono (by have := bF2.lt; simp <;> omega)).below (Below.trans (show Below w3.heap.size w3 W4 by rw [← hW4]; go_grown) (hW.mono (by omega))) (Nat.le_refl _))
  have hF4 : w.heap.size + 1 + 1 + 1 < M3 := by rw [hM3]; exact bF3.lt
  have lM4 : M3 < W4.heap.size := HP3.out.lt
  simp only [← hM3]
  clear hW4 hM3 bR3 bF3 bF2 hbw3 HM3
  obtain ⟨B9, BF9, m9, d9, mf9, df9, e, e1, e2, k1, k2, k3, k4, hrA, hrF⟩ := HM4.out
  injection e with e
  injection e with e
  injection e with e e2'
  injection e2' with e2' e3
  injection e2' with q4 q5 q6
  injection e3 with e3 e7
  injection e3 with q7 q8 q9
  injection e with _ hg5
  subst q4 q5 q6 q7 q8 q9
  have HE1 := hide e1.out
  have HE2 := hide e2.out
  have HRA := hide hrA
  have HRF := hide hrF
  have HG5 := hide hg5
  have m0 := HP3.out.cell 0
  have m1 := HP3.out.cell 1
  have m2 := HP3.out.cell 2
  simp at m0 m1 m2
  have HBQ := hide (Below.refl M3 W4)
  clear e1 e2 hrA hrF e7 hg5
  by_cases c1 : 400 < g5
  · have t1 : decide (g5 > 400) = true := decide_eq_true (by omega)
    have t1' : decide (400 < g5) = true := decide_eq_true (by omega)
    have HZ := hide (szF_big (m := M) (.inl (by rw [← HG5.out]; omega)))
    clear c1
    go_wp2_with fail
    refine (rfault_any _ _ _).mono ?_
    rintro e w9 ⟨rfl, hb9⟩
    have bR := HR3.out.below (HBQ.out.trans (hb9.mono (by have := HBQ.out.size; first | omega | (simp <;> omega)))) (by omega)
    have bF := HF3.out.below (HBQ.out.trans (hb9.mono (by have := HBQ.out.size; first | omega | (simp <;> omega)))) (by omega)
    have HB9 := hide (HB3.out.trans ((HBQ.out.trans (hb9.mono (by have := HBQ.out.size; first | omega | (simp <;> omega)))).mono (show w.heap.size ≤ M3 by omega)))
    clear hb9
    have r0 := bR.cell 0
    have r1 := bR.cell 1
    have r2 := bR.cell 2
    have s0 := bF.cell 0
    have s1 := bF.cell 1
    have rf0 := bR.frozen 0
    have rf1 := bR.frozen 1
    have rf2 := bR.frozen 2
    have sf0 := bF.frozen 0
    have sf1 := bF.frozen 1
    simp at r0 r1 r2 s0 s1
    have lR := bR.lt
    have lF := bF.lt
    go_wp21
    refine bodyPost_ret (v := .tuple #[.agg #[.int .i64 0, .slice none 0 0, .slice none 0 0], .agg #[.int .i64 17, .int .i64 (-1)]]) (by simp [results, Try.results27, go_sem, lR, lF, r0, r1, r2, s0, s1, rf0, rf1, rf2, sf0, sf1]) rfl ?_
    refine ⟨_, by rw [HZ.out], by rw [HZ.out]; exact MachAt.empty _ _, ?_⟩
    refine Below.setCell (Below.setCell (Below.setCell (Below.setCell (Below.setCell HB9.out ?_ _) ?_ _) ?_ _) ?_ _) ?_ _ <;> (dsimp only; omega)
  have t1 : decide (g5 > 400) = false := decide_eq_false (by omega)
  have t1' : decide (400 < g5) = false := decide_eq_false (by omega)
  by_cases c2 : 2000 < n5
  · have t2 : decide ((n5 : Int) > 2000) = true := decide_eq_true (by omega)
    have t2' : decide ((2000 : Int) < (n5 : Int)) = true := decide_eq_true (by omega)
    have HZ := hide (szF_big (m := M) (.inr (by rw [HE1.out]; omega)))
    clear c1 c2
    go_wp2_with fail
    refine (rfault_any _ _ _).mono ?_
    rintro e w9 ⟨rfl, hb9⟩
    have bR := HR3.out.below (HBQ.out.trans (hb9.mono (by have := HBQ.out.size; first | omega | (simp <;> omega)))) (by omega)
    have bF := HF3.out.below (HBQ.out.trans (hb9.mono (by have := HBQ.out.size; first | omega | (simp <;> omega)))) (by omega)
    have HB9 := hide (HB3.out.trans ((HBQ.out.trans (hb9.mono (by have := HBQ.out.size; first | omega | (simp <;> omega)))).mono (show w.heap.size ≤ M3 by omega)))
    clear hb9
    have r0 := bR.cell 0
    have r1 := bR.cell 1
    have r2 := bR.cell 2
    have s0 := bF.cell 0
    have s1 := bF.cell 1
    have rf0 := bR.frozen 0
    have rf1 := bR.frozen 1
    have rf2 := bR.frozen 2
    have sf0 := bF.frozen 0
    have sf1 := bF.frozen 1
    simp at r0 r1 r2 s0 s1
    have lR := bR.lt
    have lF := bF.lt
    go_wp21
    refine bodyPost_ret (v := .tuple #[.agg #[.int .i64 0, .slice none 0 0, .slice none 0 0], .agg #[.int .i64 17, .int .i64 (-1)]]) (by simp [results, Try.results27, go_sem, lR, lF, r0, r1, r2, s0, s1, rf0, rf1, rf2, sf0, sf1]) rfl ?_
    refine ⟨_, by rw [HZ.out], by rw [HZ.out]; exact MachAt.empty _ _, ?_⟩
    refine Below.setCell (Below.setCell (Below.setCell (Below.setCell (Below.setCell HB9.out ?_ _) ?_ _) ?_ _) ?_ _) ?_ _ <;> (dsimp only; omega)
  have t2 : decide ((n5 : Int) > 2000) = false := decide_eq_false (by omega)
  have t2' : decide ((2000 : Int) < (n5 : Int)) = false := decide_eq_false (by omega)
  have HNB := hide (show ¬ (400 < M.n ∨ 2000 < M.arcs.length) by rw [← HG5.out, HE1.out]; omega)
  have hn5 : n5 ≤ 2000 := by omega
  clear c1 c2
  go_wp2
  clear t1 t1' t2 t2' m0 m1 m2
  go_loopw [44] (fun iv wr => ∃ k : Nat, k ≤ n5 ∧ iv = .int .i64 k ∧ Hid (∀ x ∈ M.arcs.take k, x.w ≤ 1000000) ∧ Hid (Below M3 W4 wr ∧ Blk wr M3 25 #[.int .i64 g5, .slice A5 n5 c5, .slice AF5 nf5 cf5]) ∧ M3 < wr.heap.size) (fun iv _ => n5 - (intOf iv).toNat)
  case atStart => exact ⟨0, by omega, rfl, hide (fun x hx => by simp at hx), hide ⟨HBQ.out, HP3.out⟩, lM4⟩
  case round =>
    clear HBQ lM4 HP3
    obtain ⟨k, hk, rfl, HALL, HBP, lM4⟩ := hrel
    have HBQ := hide HBP.out.1
    have HP3 := hide HBP.out.2
    clear HBP
    by_cases hkn : k < n5
    · obtain ⟨bb, off, x, rfl, hbB, d0, d1, d2, d3, d4, HX⟩ := arcs_at (HRA.out.below HBQ.out (Nat.le_refl _)) hkn
      have hkl : k < M.arcs.length := by rw [HE1.out]; exact hkn
      have hgx : M.arcs[k] = x := by rw [← HX.out]; simp [hkl]
      have hmem : x ∈ M.arcs := by rw [← hgx]; exact List.getElem_mem _
      have lb : bb < wr.heap.size := by omega
      by_cases hw : 1000000 < x.w
      · have t3 : decide (x.w > 1000000) = true := decide_eq_true (by omega)
        have t3' : decide (1000000 < x.w) = true := decide_eq_true (by omega)
        have HZ := hide (szF_over (m := M) HNB.out (.inl ⟨x, hmem, hw⟩))
        clear hw hgx hmem hkl HX
        go_wp2_with fail
        refine (rfault_any _ _ _).mono ?_
        rintro e w9 ⟨rfl, hb9⟩
        have bR := HR3.out.below ((HBQ.out.alloc (by omega) _).trans (hb9.mono (by have := HBQ.out.size; first | omega | (simp <;> omega)))) (by omega)
        have bF := HF3.out.below ((HBQ.out.alloc (by omega) _).trans (hb9.mono (by have := HBQ.out.size; first | omega | (simp <;> omega)))) (by omega)
        have HB9 := hide (HB3.out.trans (((HBQ.out.alloc (by omega) _).trans (hb9.mono (by have := HBQ.out.size; first | omega | (simp <;> omega)))).mono (show w.heap.size ≤ M3 by omega)))
        clear hb9
        have r0 := bR.cell 0
        have r1 := bR.cell 1
        have r2 := bR.cell 2
        have s0 := bF.cell 0
        have s1 := bF.cell 1
        have rf0 := bR.frozen 0
        have rf1 := bR.frozen 1
        have rf2 := bR.frozen 2
        have sf0 := bF.frozen 0
        have sf1 := bF.frozen 1
        simp at r0 r1 r2 s0 s1
        have lR := bR.lt
        have lF := bF.lt
        go_wp21
        refine bodyPost_ret (v := .tuple #[.agg #[.int .i64 0, .slice none 0 0, .slice none 0 0], .agg #[.int .i64 18, .int .i64 (-1)]]) (by simp [results, Try.results27, go_sem, lR, lF, r0, r1, r2, s0, s1, rf0, rf1, rf2, sf0, sf1]) rfl ?_
        refine ⟨_, by rw [HZ.out], by rw [HZ.out]; exact MachAt.empty _ _, ?_⟩
        refine Below.setCell (Below.setCell (Below.setCell (Below.setCell (Below.setCell HB9.out ?_ _) ?_ _) ?_ _) ?_ _) ?_ _ <;> (dsimp only; omega)
      · have t3 : decide (x.w > 1000000) = false := decide_eq_false (by omega)
        have t3' : decide (1000000 < x.w) = false := decide_eq_false (by omega)
        have HALL2 := hide (show ∀ x ∈ M.arcs.take (k + 1), x.w ≤ 1000000 from fun y hy => by
          rw [List.take_add_one, List.getElem?_eq_getElem hkl, hgx] at hy
          rcases List.mem_append.1 hy with h | h
          · exact HALL.out y h
          · simp at h; subst h; omega)
        clear hw hgx hmem hkl HX
        go_wp2
        go_roundw
        case rel => exact ⟨k + 1, by omega, by go_num, HALL2, hide ⟨HBQ.out.alloc (by omega) _, HP3.out.alloc _⟩, by simp; omega⟩
        case measure => simp [intOf]; omega
    · obtain rfl : n5 = k := by omega
      have HALLA := hide (show ∀ x ∈ M.arcs, x.w ≤ 1000000 by have h := HALL.out; rw [List.take_of_length_le (by rw [HE1.out]; exact Nat.le_refl _)] at h; exact h)
      have hnf5 : nf5 ≤ big := k4
      unfold big at hnf5
      have m2 := HP3.out.cell 2
      simp at m2
      clear HALL
      go_wp2
      clear m2
      go_loopw [57] (fun iv wr => ∃ k : Nat, k ≤ nf5 ∧ iv = .int .i64 k ∧ Hid (∀ x ∈ M.fins.take k, x.w ≤ 1000000) ∧ Hid (Below M3 W4 wr ∧ Blk wr M3 25 #[.int .i64 g5, .slice A5 n5 c5, .slice AF5 nf5 cf5]) ∧ M3 < wr.heap.size) (fun iv _ => nf5 - (intOf iv).toNat)
      case atStart => exact ⟨0, by omega, rfl, hide (fun x hx => by simp at hx), hide ⟨HBQ.out, HP3.out⟩, lM4⟩
      case round =>
        clear HBQ lM4 HP3
        obtain ⟨k, hk, rfl, HALL, HBP, lM4⟩ := hrel
        have HBQ := hide HBP.out.1
        have HP3 := hide HBP.out.2
        clear HBP
        by_cases hkn : k < nf5
        · obtain ⟨bb, off, x, rfl, hbB, d0, d1, HX⟩ := fins_at (HRF.out.below HBQ.out (Nat.le_refl _)) hkn
          have hkl : k < M.fins.length := by rw [HE2.out]; exact hkn
          have hgx : M.fins[k] = x := by rw [← HX.out]; simp [hkl]
          have hmem : x ∈ M.fins := by rw [← hgx]; exact List.getElem_mem _
          have lb : bb < wr.heap.size := by omega
          by_cases hw : 1000000 < x.w
          · have t3 : decide (x.w > 1000000) = true := decide_eq_true (by omega)
            have t3' : decide (1000000 < x.w) = true := decide_eq_true (by omega)
            have HZ := hide (szF_over (m := M) HNB.out (.inr ⟨x, hmem, hw⟩))
            clear hw hgx hmem hkl HX
            go_wp2_with fail
            refine (rfault_any _ _ _).mono ?_
            rintro e w9 ⟨rfl, hb9⟩
            have bR := HR3.out.below ((HBQ.out.alloc (by omega) _).trans (hb9.mono (by have := HBQ.out.size; first | omega | (simp <;> omega)))) (by omega)
            have bF := HF3.out.below ((HBQ.out.alloc (by omega) _).trans (hb9.mono (by have := HBQ.out.size; first | omega | (simp <;> omega)))) (by omega)
            have HB9 := hide (HB3.out.trans (((HBQ.out.alloc (by omega) _).trans (hb9.mono (by have := HBQ.out.size; first | omega | (simp <;> omega)))).mono (show w.heap.size ≤ M3 by omega)))
            clear hb9
            have r0 := bR.cell 0
            have r1 := bR.cell 1
            have r2 := bR.cell 2
            have s0 := bF.cell 0
            have s1 := bF.cell 1
            have rf0 := bR.frozen 0
            have rf1 := bR.frozen 1
            have rf2 := bR.frozen 2
            have sf0 := bF.frozen 0
            have sf1 := bF.frozen 1
            simp at r0 r1 r2 s0 s1
            have lR := bR.lt
            have lF := bF.lt
            go_wp21
            refine bodyPost_ret (v := .tuple #[.agg #[.int .i64 0, .slice none 0 0, .slice none 0 0], .agg #[.int .i64 18, .int .i64 (-1)]]) (by simp [results, Try.results27, go_sem, lR, lF, r0, r1, r2, s0, s1, rf0, rf1, rf2, sf0, sf1]) rfl ?_
            refine ⟨_, by rw [HZ.out], by rw [HZ.out]; exact MachAt.empty _ _, ?_⟩
            refine Below.setCell (Below.setCell (Below.setCell (Below.setCell (Below.setCell HB9.out ?_ _) ?_ _) ?_ _) ?_ _) ?_ _ <;> (dsimp only; omega)
          · have t3 : decide (x.w > 1000000) = false := decide_eq_false (by omega)
            have t3' : decide (1000000 < x.w) = false := decide_eq_false (by omega)
            have HALL2 := hide (show ∀ x ∈ M.fins.take (k + 1), x.w ≤ 1000000 from fun y hy => by
              rw [List.take_add_one, List.getElem?_eq_getElem hkl, hgx] at hy
              rcases List.mem_append.1 hy with h | h
              · exact HALL.out y h
              · simp at h; subst h; omega)
            clear hw hgx hmem hkl HX
            go_wp2
            go_roundw
            case rel => exact ⟨k + 1, by omega, by go_num, HALL2, hide ⟨HBQ.out.alloc (by omega) _, HP3.out.alloc _⟩, by simp; omega⟩
            case measure => simp [intOf]; omega
        · obtain rfl : nf5 = k := by omega
          have HALLF := hide (show ∀ x ∈ M.fins, x.w ≤ 1000000 by have h := HALL.out; rw [List.take_of_length_le (by rw [HE2.out]; exact Nat.le_refl _)] at h; exact h)
          have HZ := hide (szF_fine (m := M) HNB.out HALLA.out HALLF.out)
          have m0 := HP3.out.cell 0
          have m1 := HP3.out.cell 1
          have m2 := HP3.out.cell 2
          simp at m0 m1 m2
          have bR := HR3.out.below HBQ.out (by omega)
          have bF := HF3.out.below HBQ.out (by omega)
          have HB9 := hide (HB3.out.trans (HBQ.out.mono (show w.heap.size ≤ M3 by omega)))
          have HMM := hide (HMN.out _ HBQ.out)
          have r0 := bR.cell 0
          have r1 := bR.cell 1
          have r2 := bR.cell 2
          have s0 := bF.cell 0
          have s1 := bF.cell 1
          have rf0 := bR.frozen 0
          have rf1 := bR.frozen 1
          have rf2 := bR.frozen 2
          have sf0 := bF.frozen 0
          have sf1 := bF.frozen 1
          simp at r0 r1 r2 s0 s1
          have lR := bR.lt
          have lF := bF.lt
          have hRO : w.heap.size + 1 + 1 ≠ M3 := by omega
          have hOR : M3 ≠ w.heap.size + 1 + 1 := by omega
          have hFO : w.heap.size + 1 + 1 + 1 ≠ M3 := by omega
          have hOF : M3 ≠ w.heap.size + 1 + 1 + 1 := by omega
          clear HALL HALLA HALLF
          go_wp21
          refine bodyPost_ret (v := .tuple #[.agg #[.int .i64 g5, .slice A5 n5 c5, .slice AF5 nf5 cf5], .agg #[.int .i64 0, .int .i64 0]]) (by simp [results, Try.results27, go_sem, lR, lF, r0, r1, r2, s0, s1, rf0, rf1, rf2, sf0, sf1]) rfl ?_
          refine ⟨_, by rw [HZ.out], ?_, ?_⟩
          · rw [HZ.out]
            refine MachNew.at_ (lo := w.heap.size + 1 + 1 + 1 + 1) ?_
            refine MachNew.set (MachNew.set (MachNew.set (MachNew.set (MachNew.set HMM.out ?_ _) ?_ _) ?_ _) ?_ _) ?_ _ <;> (dsimp only; omega)
          refine Below.setCell (Below.setCell (Below.setCell (Below.setCell (Below.setCell HB9.out ?_ _) ?_ _) ?_ _) ?_ _) ?_ _ <;> (dsimp only; omega)
end Go.Proofs.Ytmgpcnkmmgkjgaa
