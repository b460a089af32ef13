/- The law ComposeInvertTurns, walked: it returns true. Written by gen_ci.py (with the texts of ChP, CoI, CoJ). -/
import Derived.Test.YtmgpcnkmmgkjgaaCoE
import Derived.Test.YtmgpcnkmmgkjgaaCoZ
import Derived.Test.YtmgpcnkmmgkjgaaUnP
import Derived.Test.YtmgpcnkmmgkjgaaChX
import Derived.Test.YtmgpcnkmmgkjgaaWvC
import Derived.IntWalk
namespace Gm
set_option linter.unusedSimpArgs false
set_option linter.unusedVariables false
theorem chM_red (k : Nat) (m : Mach) : chM k m = ⟨m.n, redA (m.arcs.map (chA k)), m.fins⟩ := rfl
/-- A machine with arcs in order, the lightest of those alike, is valid. -/
theorem valid_red {n : Int} {l : List Arc} {f : List Fnl} (hn : 0 ≤ n ∧ n ≤ 400) (hl : (redA l).length ≤ 2000) (ha : ∀ a ∈ l, okArc n a = true) (hf : ∀ x ∈ f, okFin n x = true) (hfs : f.Pairwise fun x y => x.s < y.s) : Valid ⟨n, redA l, f⟩ := by
  have hnd : (redA l).Nodup := (redA_strict l).imp fun {a b} h e => by subst e; rw [arcLess_irrefl] at h; cases h.1
  have hs : SortedA (redA l) := (redA_strict l).imp fun {a b} h => by
    cases e : arcLess b a
    · rfl
    · have := arcLess_asymm h.1; rw [e] at this; cases this
  have e1 : redA l = srtA (redA l) := srtA_eq hs (List.Perm.refl _)
  have h := valid_srt (l := redA l) hnd hn hl (fun a ha' => ha a (redA_sub ha')) hf hfs
  rw [← e1] at h
  exact h
theorem okArc_ch (k : Nat) {n : Int} {a : Arc} (h : okArc n a = true) : okArc n (chA k a) = true := by
  have := okArc_iff h
  have : okArc n (chA k a) = true := by
    simp only [okArc, Bool.and_eq_true, inR_iff]
    unfold chA
    split <;> (dsimp only; omega)
  exact this
theorem valid_ch (k : Nat) {m : Mach} (h : Valid m) : Valid (chM k m) := by
  rw [chM_red]
  refine valid_red ⟨h.n0, h.n4⟩ ?_ ?_ (fun x hx => h.okF hx) (fins_sorted h)
  · have := redA_len (m.arcs.map (chA k))
    rw [List.length_map] at this
    have := h.len
    omega
  · intro a ha
    obtain ⟨b, hb, rfl⟩ := List.mem_map.1 ha
    exact okArc_ch k (h.okA hb)
theorem pw_ch1 {A : List Arc} {s t : Int} {u v : List Int} {d : Nat} (h : Pw A s t u v d) : Pw (A.map (chA 1)) s t v u d := by
  induction h with
  | nil => exact .nil
  | @snoc t u v d a _ ha hf ih => exact .snoc (a := chA 1 a) ih (List.mem_map.2 ⟨a, ha, rfl⟩) hf
theorem pw_ch2 {A : List Arc} {s t : Int} {u v : List Int} {d : Nat} (h : Pw A s t u v d) : Pw (A.map (chA 2)) s t u u d := by
  induction h with
  | nil => exact .nil
  | @snoc t u v d a _ ha hf ih => exact .snoc (a := chA 2 a) ih (List.mem_map.2 ⟨a, ha, rfl⟩) hf
theorem pw_ch3 {A : List Arc} {s t : Int} {u v : List Int} {d : Nat} (h : Pw A s t u v d) : Pw (A.map (chA 3)) s t v v d := by
  induction h with
  | nil => exact .nil
  | @snoc t u v d a _ ha hf ih => exact .snoc (a := chA 3 a) ih (List.mem_map.2 ⟨a, ha, rfl⟩) hf
theorem chA_twice (a : Arc) : chA 1 (chA 1 a) = a := rfl
theorem pw_ch1' {A : List Arc} {s t : Int} {u v : List Int} {d : Nat} (h : Pw (A.map (chA 1)) s t u v d) : Pw A s t v u d := by
  have := pw_ch1 h
  rw [List.map_map] at this
  have e : (chA 1 ∘ chA 1) = id := funext fun a => chA_twice a
  rw [e, List.map_id] at this
  exact this
theorem acc_chk {m : Mach} (h : Rng m) {k : Nat} {u v u' v' : List Int} (hp : ∀ t d, Pw m.arcs 0 t u v d → Pw (m.arcs.map (chA k)) 0 t u' v' d) : Dom (Acc m u v) (Acc (chM k m) u' v') := by
  have hk : Rng (chM k m) := ⟨fun a ha => by
    obtain ⟨b, hb, rfl⟩ := List.mem_map.1 (redA_sub (show a ∈ redA (m.arcs.map (chA k)) from ha))
    have := h.arc b hb
    unfold chA; split <;> exact this, h.fin, ⟨fun a ha => by
    obtain ⟨b, hb, rfl⟩ := List.mem_map.1 (redA_sub (show a ∈ redA (m.arcs.map (chA k)) from ha))
    have := h.wt.1 b hb
    unfold chA; split <;> exact this, h.wt.2⟩, h.n0⟩
  intro d hd
  obtain ⟨h0, x, hx, e, he, rfl⟩ := h.acc.1 hd
  obtain ⟨e', h1, h2⟩ := pw_red (hp _ _ he)
  exact ⟨e' + x.w.toNat, by omega, hk.acc.2 ⟨h0, x, hx, e', h2, rfl⟩⟩
theorem rng_chk {m : Mach} (h : Rng m) (k : Nat) : Rng (chM k m) := ⟨fun a ha => by
    obtain ⟨b, hb, rfl⟩ := List.mem_map.1 (redA_sub (show a ∈ redA (m.arcs.map (chA k)) from ha))
    have := h.arc b hb
    unfold chA; split <;> exact this, h.fin, ⟨fun a ha => by
    obtain ⟨b, hb, rfl⟩ := List.mem_map.1 (redA_sub (show a ∈ redA (m.arcs.map (chA k)) from ha))
    have := h.wt.1 b hb
    unfold chA; split <;> exact this, h.wt.2⟩, h.n0⟩
theorem acc_ch1' {m : Mach} (h : Rng m) {u v : List Int} {d : Nat} (hd : Acc (chM 1 m) u v d) : Acc m v u d := by
  obtain ⟨h0, x, hx, e, he, rfl⟩ := (rng_chk h 1).acc.1 hd
  exact h.acc.2 ⟨h0, x, hx, e, pw_ch1' (he.mono fun a ha => redA_sub ha), rfl⟩
/-- The inverse weighs the pairs turned around. -/
theorem wgt_ch1 {m : Mach} (h : Rng m) (u v : List Int) : wgt (chM 1 m) v u = wgt m u v :=
  least_dom (fun d hd => ⟨d, Nat.le_refl _, acc_ch1' h hd⟩) (acc_chk h fun _ _ hp => pw_ch1 hp)
theorem wgt_dom {m m' : Mach} {u v u' v' : List Int} (h : Dom (Acc m u v) (Acc m' u' v')) (h0 : 0 ≤ wgt m u v) : 0 ≤ wgt m' u' v' ∧ wgt m' u' v' ≤ wgt m u v := by
  rcases wgt_least m u v with ⟨e, _⟩ | ⟨n, e, hn, _⟩
  · omega
  · obtain ⟨d', h1, h2⟩ := h n hn
    rcases wgt_least m' u' v' with ⟨e', g⟩ | ⟨n', e', hn', g⟩
    · exact absurd h2 (g d')
    · have := g d' h2; omega
theorem wgt_ch2 {m : Mach} (h : Rng m) {u v : List Int} (h0 : 0 ≤ wgt m u v) : 0 ≤ wgt (chM 2 m) u u ∧ wgt (chM 2 m) u u ≤ wgt m u v := wgt_dom (acc_chk h fun _ _ hp => pw_ch2 hp) h0
theorem wgt_ch3 {m : Mach} (h : Rng m) {u v : List Int} (h0 : 0 ≤ wgt m u v) : 0 ≤ wgt (chM 3 m) v v ∧ wgt (chM 3 m) v v ≤ wgt m u v := wgt_dom (acc_chk h fun _ _ hp => pw_ch3 hp) h0
end Gm
namespace Gm
set_option linter.unusedSimpArgs false
set_option linter.unusedVariables false
/-- How many steps two lists of arcs make. -/
def stepN (OA OB : List Arc) : Nat := (OA.map fun x => if x.o = 0 then 1 else (OB.filter fun y => decide (y.i = x.o)).length).sum + (OB.filter fun y => decide (y.i = 0)).length
theorem stepsOf_len (a b : Mach) (c : Fnl) : (stepsOf a b c).length = stepN (outs a.arcs c.s.toNat) (outs b.arcs c.w.toNat) := by
  unfold stepsOf stepN stpY
  rw [List.length_append, List.length_map, List.length_flatMap]
  congr 2
  refine List.map_congr_left fun x _ => ?_
  unfold stpX
  by_cases h : x.o = 0
  · rw [if_pos h, if_pos h]; rfl
  · rw [if_neg h, if_neg h, List.length_map]
theorem stepN_perm {A A' B B' : List Arc} (hA : A.Perm A') (hB : B.Perm B') : stepN A B = stepN A' B' := by
  unfold stepN
  have e1 : ∀ v : Int, (B.filter fun y => decide (y.i = v)).length = (B'.filter fun y => decide (y.i = v)).length := fun v => (hB.filter _).length_eq
  rw [e1 0]
  congr 1
  rw [(hA.map _).sum_nat]
  congr 1
  exact List.map_congr_left fun x _ => by rw [e1]
theorem sum_sublist {A A' : List Arc} (f : Arc → Nat) (h : A.Sublist A') : (A.map f).sum ≤ (A'.map f).sum := by
  induction h with
  | slnil => simp
  | cons x _ ih => simp only [List.map_cons, List.sum_cons]; omega
  | cons_cons x _ ih => simp only [List.map_cons, List.sum_cons]; omega
theorem sum_mono {f g : Arc → Nat} (h : ∀ x, f x ≤ g x) : ∀ A : List Arc, (A.map f).sum ≤ (A.map g).sum
  | [] => by simp
  | x :: A => by
    have := h x
    have := sum_mono h A
    simp only [List.map_cons, List.sum_cons]; omega
theorem stepN_sub {A A' B B' : List Arc} (hA : A.Sublist A') (hB : B.Sublist B') : stepN A B ≤ stepN A' B' := by
  unfold stepN
  have e1 : ∀ v : Int, (B.filter fun y => decide (y.i = v)).length ≤ (B'.filter fun y => decide (y.i = v)).length := fun v => (hB.filter _).length_le
  have h1 := sum_sublist (fun x => if x.o = 0 then 1 else (B'.filter fun y => decide (y.i = x.o)).length) hA
  have h2 := sum_mono (f := fun x => if x.o = 0 then 1 else (B.filter fun y => decide (y.i = x.o)).length) (g := fun x => if x.o = 0 then 1 else (B'.filter fun y => decide (y.i = x.o)).length) (fun x => by
    by_cases h : x.o = 0
    · rw [if_pos h, if_pos h]; exact Nat.le_refl _
    · rw [if_neg h, if_neg h]; exact e1 _) A
  have h3 := e1 0
  omega
/-- The pairs that fit, counted by the one side or by the other. -/
theorem sum_pairs (A : List Arc) : ∀ B : List Arc, (A.map fun x => (B.filter fun y => decide (y.i = x.o)).length).sum = (B.map fun y => (A.filter fun x => decide (x.o = y.i)).length).sum
  | [] => by
    have : ∀ A : List Arc, (A.map fun _ => 0).sum = 0 := fun A => by induction A with | nil => rfl | cons x A ih => simpa using ih
    simpa using this A
  | y :: B => by
    rw [List.map_cons, List.sum_cons, ← sum_pairs A B]
    have key : ∀ A : List Arc, (A.map fun x => ((y :: B).filter fun z => decide (z.i = x.o)).length).sum = (A.filter fun x => decide (x.o = y.i)).length + (A.map fun x => (B.filter fun z => decide (z.i = x.o)).length).sum := by
      intro A
      induction A with
      | nil => rfl
      | cons x A ih =>
        rw [List.map_cons, List.sum_cons, ih, List.map_cons, List.sum_cons]
        by_cases h : y.i = x.o
        · rw [List.filter_cons_of_pos (by simpa using h), List.filter_cons_of_pos (by simpa using h.symm), List.length_cons, List.length_cons]; omega
        · rw [List.filter_cons_of_neg (by simpa using h), List.filter_cons_of_neg (by simpa using fun e => h e.symm)]; omega
    exact key A
theorem sum_split (A : List Arc) (f : Arc → Nat) : (A.map fun x => if x.o = 0 then 1 else f x).sum = (A.filter fun x => decide (x.o = 0)).length + ((A.filter fun x => decide (x.o ≠ 0)).map f).sum := by
  induction A with
  | nil => rfl
  | cons x A ih =>
    rw [List.map_cons, List.sum_cons, ih]
    by_cases h : x.o = 0
    · rw [if_pos h, List.filter_cons_of_pos (by simpa using h), List.filter_cons_of_neg (by simpa using h), List.length_cons]; omega
    · rw [if_neg h, List.filter_cons_of_neg (by simpa using h), List.filter_cons_of_pos (by simpa using h), List.map_cons, List.sum_cons]; omega
theorem stepN_turn (A B : List Arc) : stepN (B.map (chA 1)) (A.map (chA 1)) = stepN A B := by
  unfold stepN
  rw [List.map_map]
  have e1 : ((fun x : Arc => if x.o = 0 then 1 else ((A.map (chA 1)).filter fun y => decide (y.i = x.o)).length) ∘ chA 1) = fun y => if y.i = 0 then 1 else (A.filter fun x => decide (x.o = y.i)).length := by
    funext y
    show (if y.i = 0 then 1 else ((A.map (chA 1)).filter fun z => decide (z.i = y.i)).length) = _
    by_cases h : y.i = 0
    · rw [if_pos h, if_pos h]
    · rw [if_neg h, if_neg h, List.filter_map, List.length_map]; rfl
  rw [e1]
  have e2 : ((A.map (chA 1)).filter fun y => decide (y.i = 0)).length = (A.filter fun x => decide (x.o = 0)).length := by
    rw [List.filter_map, List.length_map]; rfl
  rw [e2, sum_split A]
  -- the same split for B, by its inputs
  have e3 : (B.map fun y => if y.i = 0 then 1 else (A.filter fun x => decide (x.o = y.i)).length).sum = (B.filter fun y => decide (y.i = 0)).length + ((B.filter fun y => decide (y.i ≠ 0)).map fun y => (A.filter fun x => decide (x.o = y.i)).length).sum := by
    induction B with
    | nil => rfl
    | cons y B ih =>
      rw [List.map_cons, List.sum_cons, ih]
      by_cases h : y.i = 0
      · rw [if_pos h, List.filter_cons_of_pos (by simpa using h), List.filter_cons_of_neg (by simpa using h), List.length_cons]; omega
      · rw [if_neg h, List.filter_cons_of_neg (by simpa using h), List.filter_cons_of_pos (by simpa using h), List.map_cons, List.sum_cons]; omega
  rw [e3]
  have e4 := sum_pairs (A.filter fun x => decide (x.o ≠ 0)) (B.filter fun y => decide (y.i ≠ 0))
  have e5 : ((A.filter fun x => decide (x.o ≠ 0)).map fun x => ((B.filter fun y => decide (y.i ≠ 0)).filter fun y => decide (y.i = x.o)).length) = (A.filter fun x => decide (x.o ≠ 0)).map fun x => (B.filter fun y => decide (y.i = x.o)).length := by
    refine List.map_congr_left fun x hx => ?_
    have hx0 : x.o ≠ 0 := by simpa using (List.mem_filter.1 hx).2
    rw [List.filter_filter]
    congr 1
    refine List.filter_congr fun y _ => ?_
    by_cases h : y.i = x.o
    · simp [h, hx0]
    · simp [h]
  have e6 : ((B.filter fun y => decide (y.i ≠ 0)).map fun y => ((A.filter fun x => decide (x.o ≠ 0)).filter fun x => decide (x.o = y.i)).length) = (B.filter fun y => decide (y.i ≠ 0)).map fun y => (A.filter fun x => decide (x.o = y.i)).length := by
    refine List.map_congr_left fun y hy => ?_
    have hy0 : y.i ≠ 0 := by simpa using (List.mem_filter.1 hy).2
    rw [List.filter_filter]
    congr 1
    refine List.filter_congr fun x _ => ?_
    by_cases h : x.o = y.i
    · simp [h, hy0]
    · simp [h]
  rw [e5, e6] at e4
  rw [e4]
  omega
/-! reduced lists of arcs: parts of the lists -/
theorem redA_part (l : List Arc) (s : Nat) : ∃ K, (outs (redA l) s).Sublist K ∧ K.Perm (outs l s) :=
  ⟨outs (srtA l) s, (compact_sub likeA (srtA l)).filter _, (srtA_perm l).filter _⟩
theorem outs_turn (l : List Arc) (s : Nat) : outs (l.map (chA 1)) s = (outs l s).map (chA 1) := by
  unfold outs
  rw [List.filter_map]
  rfl
theorem stepN_le {l k : List Arc} (s t : Nat) : stepN (outs (redA (l.map (chA 1))) s) (outs (redA (k.map (chA 1))) t) ≤ stepN (outs k t) (outs l s) := by
  obtain ⟨K1, h1, h2⟩ := redA_part (l.map (chA 1)) s
  obtain ⟨K2, h3, h4⟩ := redA_part (k.map (chA 1)) t
  rw [outs_turn] at h2 h4
  have e1 := stepN_sub h1 h3
  rw [stepN_perm h2 h4, stepN_turn] at e1
  exact e1
def sw (c : Fnl) : Fnl := ⟨c.w, c.s⟩
theorem sw_sw (c : Fnl) : sw (sw c) = c := rfl
theorem steps_le (a b : Mach) (c : Fnl) : (stepsOf (chM 1 b) (chM 1 a) c).length ≤ (stepsOf a b (sw c)).length := by
  rw [stepsOf_len, stepsOf_len]
  exact stepN_le _ _
theorem chN (k : Nat) (m : Mach) : (chM k m).n = m.n := rfl
theorem mem_ch {m : Mach} {x : Arc} (h : x ∈ (chM 1 m).arcs) : chA 1 x ∈ m.arcs := by
  obtain ⟨y, hy, rfl⟩ := List.mem_map.1 (redA_sub (show x ∈ redA (m.arcs.map (chA 1)) from h))
  exact hy
theorem ch_mem {m : Mach} {y : Arc} (h : y ∈ m.arcs) : ∃ x ∈ (chM 1 m).arcs, x.f = y.f ∧ x.t = y.t ∧ x.i = y.o ∧ x.o = y.i ∧ x.w ≤ y.w := by
  obtain ⟨x, hx, hl, hw⟩ := redA_dom (l := m.arcs.map (chA 1)) (List.mem_map.2 ⟨y, h, rfl⟩)
  obtain ⟨e1, e2, e3, e4⟩ := likeA_iff.1 hl
  exact ⟨x, hx, e1, e4, e2, e3, hw⟩
theorem inC_sw {a b : Mach} {c : Fnl} (h : inC a b c) : inC (chM 1 b) (chM 1 a) (sw c) := ⟨h.2.2.1, h.2.2.2, h.1, h.2.1⟩
theorem inC_ws {a b : Mach} {c : Fnl} (h : inC (chM 1 b) (chM 1 a) c) : inC a b (sw c) := ⟨h.2.2.1, h.2.2.2, h.1, h.2.1⟩
section
variable {a b : Mach} (ha : Rng a) (hb : Rng b)
include ha hb
/-- Each arc of the turned composition stands for one of the composition. -/
theorem turn_arc {z : Arc} (hz : z ∈ prodArcs (chM 1 b) (chM 1 a)) : ∃ y ∈ prodArcs a b, ∃ c d : Fnl, inC a b c ∧ inC a b d ∧ y.f = encC b c ∧ y.t = encC b d ∧ z.f = encC (chM 1 a) (sw c) ∧ z.t = encC (chM 1 a) (sw d) ∧ z.i = y.o ∧ z.o = y.i ∧ z.w = y.w := by
  rcases mem_prod.1 hz with ⟨x, hx, ho, p, hp, e⟩ | ⟨x, hx, ho, x2, hx2, hi, e⟩ | ⟨x2, hx2, hi, q, hq, e⟩
  · have hy := mem_ch hx
    have hr := hb.arc _ hy
    have hp' : (p : Int) < a.n := by have : p < a.n.toNat := hp; omega
    refine ⟨prodR b.n (chA 1 x) p, mem_prod.2 (.inr (.inr ⟨chA 1 x, hy, ho, p, hp, rfl⟩)), ⟨(p : Int), x.f⟩, ⟨(p : Int), x.t⟩, ⟨by show (0 : Int) ≤ (p : Int); omega, hp', hr.1, hr.2.1⟩, ⟨by show (0 : Int) ≤ (p : Int); omega, hp', hr.2.2.1, hr.2.2.2⟩, rfl, rfl, ?_, ?_, ?_, ?_, ?_⟩ <;> rw [e] <;> rfl
  · have hy := mem_ch hx
    have hu := mem_ch hx2
    have hr := hb.arc _ hy
    have hr2 := ha.arc _ hu
    refine ⟨prodA b.n (chA 1 x2) (chA 1 x), mem_prod.2 (.inr (.inl ⟨chA 1 x2, hu, by show x2.i ≠ 0; rw [hi]; exact ho, chA 1 x, hy, hi.symm, rfl⟩)), ⟨x2.f, x.f⟩, ⟨x2.t, x.t⟩, ⟨hr2.1, hr2.2.1, hr.1, hr.2.1⟩, ⟨hr2.2.2.1, hr2.2.2.2, hr.2.2.1, hr.2.2.2⟩, rfl, rfl, ?_, ?_, ?_, ?_, ?_⟩ <;> rw [e]
    · rfl
    · rfl
    · rfl
    · rfl
    · show x.w + x2.w = x2.w + x.w; omega
  · have hu := mem_ch hx2
    have hr2 := ha.arc _ hu
    have hq' : (q : Int) < b.n := by have : q < b.n.toNat := hq; omega
    refine ⟨prodL b.n (chA 1 x2) q, mem_prod.2 (.inl ⟨chA 1 x2, hu, hi, q, hq, rfl⟩), ⟨x2.f, (q : Int)⟩, ⟨x2.t, (q : Int)⟩, ⟨hr2.1, hr2.2.1, by show (0 : Int) ≤ (q : Int); omega, hq'⟩, ⟨hr2.2.2.1, hr2.2.2.2, by show (0 : Int) ≤ (q : Int); omega, hq'⟩, rfl, rfl, ?_, ?_, ?_, ?_, ?_⟩ <;> rw [e] <;> rfl
/-- .. and for each arc of the composition there is one, no heavier. -/
theorem turn_back {y : Arc} (hy : y ∈ prodArcs a b) : ∃ z ∈ prodArcs (chM 1 b) (chM 1 a), ∃ c d : Fnl, inC a b c ∧ inC a b d ∧ y.f = encC b c ∧ y.t = encC b d ∧ z.f = encC (chM 1 a) (sw c) ∧ z.t = encC (chM 1 a) (sw d) ∧ z.i = y.o ∧ z.o = y.i ∧ z.w ≤ y.w := by
  rcases mem_prod.1 hy with ⟨x, hx, ho, q, hq, e⟩ | ⟨x, hx, ho, v, hv, hi, e⟩ | ⟨v, hv, hi, p, hp, e⟩
  · have hr := ha.arc _ hx
    obtain ⟨x', hx', f1, f2, f3, f4, f5⟩ := ch_mem hx
    have hq' : (q : Int) < b.n := by omega
    refine ⟨prodR a.n x' q, mem_prod.2 (.inr (.inr ⟨x', hx', by rw [f3]; exact ho, q, hq, rfl⟩)), ⟨x.f, (q : Int)⟩, ⟨x.t, (q : Int)⟩, ⟨hr.1, hr.2.1, by show (0 : Int) ≤ (q : Int); omega, hq'⟩, ⟨hr.2.2.1, hr.2.2.2, by show (0 : Int) ≤ (q : Int); omega, hq'⟩, by rw [e]; rfl, by rw [e]; rfl, ?_, ?_, ?_, ?_, ?_⟩
    · show enc a.n (q : Int) x'.f = enc a.n (q : Int) x.f; rw [f1]
    · show enc a.n (q : Int) x'.t = enc a.n (q : Int) x.t; rw [f2]
    · rw [e]; rfl
    · rw [e]; exact f4
    · rw [e]; exact f5
  · have hr := ha.arc _ hx
    have hr2 := hb.arc _ hv
    obtain ⟨x', hx', f1, f2, f3, f4, f5⟩ := ch_mem hx
    obtain ⟨v', hv', g1, g2, g3, g4, g5⟩ := ch_mem hv
    refine ⟨prodA a.n v' x', mem_prod.2 (.inr (.inl ⟨v', hv', by rw [g4, hi]; exact ho, x', hx', by rw [f3, g4, hi], rfl⟩)), ⟨x.f, v.f⟩, ⟨x.t, v.t⟩, ⟨hr.1, hr.2.1, hr2.1, hr2.2.1⟩, ⟨hr.2.2.1, hr.2.2.2, hr2.2.2.1, hr2.2.2.2⟩, by rw [e]; rfl, by rw [e]; rfl, ?_, ?_, ?_, ?_, ?_⟩
    · show enc a.n v'.f x'.f = enc a.n v.f x.f; rw [f1, g1]
    · show enc a.n v'.t x'.t = enc a.n v.t x.t; rw [f2, g2]
    · rw [e]; exact g3
    · rw [e]; exact f4
    · rw [e]; show v'.w + x'.w ≤ x.w + v.w; omega
  · have hr := hb.arc _ hv
    obtain ⟨v', hv', g1, g2, g3, g4, g5⟩ := ch_mem hv
    have hp' : (p : Int) < a.n := by omega
    refine ⟨prodL a.n v' p, mem_prod.2 (.inl ⟨v', hv', by rw [g4]; exact hi, p, hp, rfl⟩), ⟨(p : Int), v.f⟩, ⟨(p : Int), v.t⟩, ⟨by show (0 : Int) ≤ (p : Int); omega, hp', hr.1, hr.2.1⟩, ⟨by show (0 : Int) ≤ (p : Int); omega, hp', hr.2.2.1, hr.2.2.2⟩, by rw [e]; rfl, by rw [e]; rfl, ?_, ?_, ?_, ?_, ?_⟩
    · show enc a.n v'.f (p : Int) = enc a.n v.f (p : Int); rw [g1]
    · show enc a.n v'.t (p : Int) = enc a.n v.t (p : Int); rw [g2]
    · rw [e]; exact g3
    · rw [e]; rfl
    · rw [e]; exact g5
/-- What is reached, turned. -/
theorem reach_turn {s : Int} (h : RS false (prodArcs (chM 1 b) (chM 1 a)) [0] s) : ∀ {c : Fnl}, inC a b c → s = encC (chM 1 a) (sw c) → RS false (prodArcs a b) [0] (encC b c) := by
  induction h with
  | @base s hs =>
    intro c hc e
    have e0 : s = 0 := by simpa using hs
    have hz : inC a b ⟨0, 0⟩ := ⟨Int.le_refl _, by have := hc.1; have := hc.2.1; show (0 : Int) < _; omega, Int.le_refl _, by have := hc.2.2.1; have := hc.2.2.2; show (0 : Int) < _; omega⟩
    have : sw c = ⟨0, 0⟩ := encC_inj (inC_sw hc) (inC_sw hz) (by rw [← e, e0]; simp [encC, enc, sw])
    have : c = ⟨0, 0⟩ := by rw [← sw_sw c, this]; rfl
    subst this
    exact .base (by simp [encC, enc])
  | @step s t z _ hz hk hv ih =>
    intro c hc e
    obtain ⟨y, hy, c1, d1, h1, h2, e1, e2, e3, e4, _⟩ := turn_arc ha hb hz
    have hs : s = encC (chM 1 a) (sw c1) := by rw [← hk]; exact e3
    have hd : sw d1 = sw c := encC_inj (inC_sw h2) (inC_sw hc) (by rw [← e4, ← e]; exact hv)
    have hd' : d1 = c := by rw [← sw_sw d1, hd]; rfl
    subst hd'
    exact .step (ih h1 hs) hy (by exact e1) (by exact e2)
theorem reach_back {s : Int} (h : RS false (prodArcs a b) [0] s) : ∀ {c : Fnl}, inC a b c → s = encC b c → RS false (prodArcs (chM 1 b) (chM 1 a)) [0] (encC (chM 1 a) (sw c)) := by
  induction h with
  | @base s hs =>
    intro c hc e
    have e0 : s = 0 := by simpa using hs
    have hz : inC a b ⟨0, 0⟩ := ⟨Int.le_refl _, by have := hc.1; have := hc.2.1; show (0 : Int) < _; omega, Int.le_refl _, by have := hc.2.2.1; have := hc.2.2.2; show (0 : Int) < _; omega⟩
    have : c = ⟨0, 0⟩ := encC_inj hc hz (by rw [← e, e0]; simp [encC, enc])
    subst this
    exact .base (by simp [encC, enc, sw])
  | @step s t y _ hy hk hv ih =>
    intro c hc e
    obtain ⟨z, hz, c1, d1, h1, h2, e1, e2, e3, e4, _⟩ := turn_back ha hb hy
    have hs : s = encC b c1 := by rw [← hk]; exact e1
    have hd : d1 = c := encC_inj h2 hc (by rw [← e2, ← e]; exact hv)
    subst hd
    exact .step (ih h1 hs) hz (by exact e3) (by exact e4)
theorem coreach_turn {s : Int} (h : RS true (prodArcs (chM 1 b) (chM 1 a)) (finStates (prodFins (chM 1 b) (chM 1 a))) s) : ∀ {c : Fnl}, inC a b c → s = encC (chM 1 a) (sw c) → RS true (prodArcs a b) (finStates (prodFins a b)) (encC b c) := by
  induction h with
  | @base s hs =>
    intro c hc e
    obtain ⟨z, hz, hz2⟩ := List.mem_map.1 hs
    obtain ⟨x, hx, y, hy, rfl⟩ := mem_prodF.1 hz
    have hxr := hb.fin x hx
    have hyr := ha.fin y hy
    have hin : inC a b ⟨y.s, x.s⟩ := ⟨hyr.1, hyr.2, hxr.1, hxr.2⟩
    have hd : sw (⟨y.s, x.s⟩ : Fnl) = sw c := encC_inj (inC_sw hin) (inC_sw hc) (by rw [← e, ← hz2]; rfl)
    have hd' : (⟨y.s, x.s⟩ : Fnl) = c := by rw [← sw_sw ⟨y.s, x.s⟩, hd]; rfl
    subst hd'
    exact .base (List.mem_map.2 ⟨_, mem_prodF.2 ⟨y, hy, x, hx, rfl⟩, rfl⟩)
  | @step s t z _ hz hk hv ih =>
    intro c hc e
    obtain ⟨y, hy, c1, d1, h1, h2, e1, e2, e3, e4, _⟩ := turn_arc ha hb hz
    have hs : s = encC (chM 1 a) (sw d1) := by rw [← hk]; exact e4
    have hd : sw c1 = sw c := encC_inj (inC_sw h1) (inC_sw hc) (by rw [← e3, ← e]; exact hv)
    have hd' : c1 = c := by rw [← sw_sw c1, hd]; rfl
    subst hd'
    exact .step (ih h2 hs) hy (by exact e2) (by exact e1)
theorem coreach_back {s : Int} (h : RS true (prodArcs a b) (finStates (prodFins a b)) s) : ∀ {c : Fnl}, inC a b c → s = encC b c → RS true (prodArcs (chM 1 b) (chM 1 a)) (finStates (prodFins (chM 1 b) (chM 1 a))) (encC (chM 1 a) (sw c)) := by
  induction h with
  | @base s hs =>
    intro c hc e
    obtain ⟨z, hz, hz2⟩ := List.mem_map.1 hs
    obtain ⟨x, hx, y, hy, rfl⟩ := mem_prodF.1 hz
    have hxr := ha.fin x hx
    have hyr := hb.fin y hy
    have hin : inC a b ⟨x.s, y.s⟩ := ⟨hxr.1, hxr.2, hyr.1, hyr.2⟩
    have hd : (⟨x.s, y.s⟩ : Fnl) = c := encC_inj hin hc (by rw [← e, ← hz2]; rfl)
    subst hd
    exact .base (List.mem_map.2 ⟨_, mem_prodF.2 ⟨y, hy, x, hx, rfl⟩, rfl⟩)
  | @step s t y _ hy hk hv ih =>
    intro c hc e
    obtain ⟨z, hz, c1, d1, h1, h2, e1, e2, e3, e4, _⟩ := turn_back ha hb hy
    have hs : s = encC b d1 := by rw [← hk]; exact e2
    have hd : c1 = c := encC_inj h1 hc (by rw [← e1, ← e]; exact hv)
    subst hd
    exact .step (ih h2 hs) hz (by exact e4) (by exact e3)
theorem reachL_turn {c : Fnl} : c ∈ reachL (chM 1 b) (chM 1 a) ↔ sw c ∈ reachL a b := by
  rw [mem_reachL, mem_reachL]
  constructor
  · rintro ⟨h1, h2⟩
    exact ⟨inC_ws h1, reach_turn ha hb h2 (inC_ws h1) rfl⟩
  · rintro ⟨h1, h2⟩
    exact ⟨inC_sw h1, reach_back ha hb h2 h1 rfl⟩
theorem keep_turn {c : Fnl} : c ∈ keepL (chM 1 b) (chM 1 a) ↔ sw c ∈ keepL a b := by
  rw [mem_keepL, mem_keepL]
  unfold KeepC
  rw [reachL_turn ha hb]
  constructor
  · rintro ⟨h1, h2⟩
    exact ⟨h1, coreach_turn ha hb h2 (mem_reachL.1 h1).1 rfl⟩
  · rintro ⟨h1, h2⟩
    exact ⟨h1, coreach_back ha hb h2 (mem_reachL.1 h1).1 rfl⟩
/-- The turned composition makes no more steps. -/
theorem total_turn : total (chM 1 b) (chM 1 a) ≤ total a b := by
  unfold total
  have h1 : totL (chM 1 b) (chM 1 a) (reachL (chM 1 b) (chM 1 a)) ≤ totL a b ((reachL (chM 1 b) (chM 1 a)).map sw) := by
    generalize reachL (chM 1 b) (chM 1 a) = l
    induction l with
    | nil => simp [totL]
    | cons c l ih =>
      have := steps_le a b c
      unfold totL at *
      simp only [List.map_cons, List.sum_cons]
      omega
  refine Nat.le_trans h1 (sum_sub _ ?_ fun x hx => ?_)
  · have hn := reachL_nodup (chM 1 b) (chM 1 a)
    have hi : ∀ x y : Fnl, sw x = sw y → x = y := fun x y e => by rw [← sw_sw x, e]; rfl
    exact List.pairwise_map.2 (hn.imp fun {x y} hne e => hne (hi x y e))
  · obtain ⟨c, hc, rfl⟩ := List.mem_map.1 hx
    exact (reachL_turn ha hb).1 hc
theorem keep_len : (keepL (chM 1 b) (chM 1 a)).length = (keepL a b).length := by
  have hi : ∀ x y : Fnl, sw x = sw y → x = y := fun x y e => by rw [← sw_sw x, e]; rfl
  have nd : ∀ l : List Fnl, l.Nodup → (l.map sw).Nodup := fun l hn => List.pairwise_map.2 (hn.imp fun {x y} hne e => hne (hi x y e))
  have h1 := len_sub (nd _ (cLt_nodup (keepL_sorted (chM 1 b) (chM 1 a)))) (k := keepL a b) fun x hx => by
    obtain ⟨c, hc, rfl⟩ := List.mem_map.1 hx
    exact (keep_turn ha hb).1 hc
  have h2 := len_sub (nd _ (cLt_nodup (keepL_sorted a b))) (k := keepL (chM 1 b) (chM 1 a)) fun x hx => by
    obtain ⟨c, hc, rfl⟩ := List.mem_map.1 hx
    exact (keep_turn ha hb).2 hc
  rw [List.length_map] at h1 h2
  omega
end
end Gm
namespace Gm
set_option linter.unusedSimpArgs false
set_option linter.unusedVariables false
/-- As many at most, where each stands for one of the others alone. -/
theorem len_rel {α β : Type} [DecidableEq β] (R : α → β → Prop) : ∀ {l : List α} {k : List β}, l.Nodup → (∀ x ∈ l, ∃ y ∈ k, R x y) → (∀ x ∈ l, ∀ x' ∈ l, ∀ y, R x y → R x' y → x = x') → l.length ≤ k.length
  | [], _, _, _, _ => Nat.zero_le _
  | x :: l, k, hn, h1, h2 => by
    obtain ⟨y, hy, hr⟩ := h1 x List.mem_cons_self
    obtain ⟨hx, hn'⟩ := List.nodup_cons.1 hn
    have h3 := len_rel R (l := l) (k := k.erase y) hn' (fun x' hx' => by
      obtain ⟨y', hy', hr'⟩ := h1 x' (List.mem_cons_of_mem _ hx')
      refine ⟨y', (List.mem_erase_of_ne fun e => ?_).2 hy', hr'⟩
      subst e
      exact hx (h2 x List.mem_cons_self x' (List.mem_cons_of_mem _ hx') y' hr hr' ▸ hx')) fun x1 hx1 x2 hx2 y' => h2 x1 (List.mem_cons_of_mem _ hx1) x2 (List.mem_cons_of_mem _ hx2) y'
    have h4 := List.length_erase_of_mem hy
    have h5 := List.length_pos_of_mem hy
    rw [List.length_cons]; omega
theorem redA_eq {l : List Arc} {x y : Arc} (hx : x ∈ redA l) (hy : y ∈ redA l) (h : likeA x y = true) : x = y := by
  obtain ⟨i, hi, rfl⟩ := List.mem_iff_getElem.1 hx
  obtain ⟨j, hj, rfl⟩ := List.mem_iff_getElem.1 hy
  have hs := List.pairwise_iff_getElem.1 (redA_strict l)
  have h' : likeA (redA l)[j] (redA l)[i] = true := by
    obtain ⟨e1, e2, e3, e4⟩ := likeA_iff.1 h
    exact likeA_iff.2 ⟨e1.symm, e2.symm, e3.symm, e4.symm⟩
  rcases Nat.lt_trichotomy i j with g | g | g
  · have := (hs i j hi hj g).2; rw [h] at this; cases this
  · subst g; rfl
  · have := (hs j i hj hi g).2; rw [h'] at this; cases this
theorem redA_nodup (l : List Arc) : (redA l).Nodup := (redA_strict l).imp fun {a b} h e => by subst e; rw [arcLess_irrefl] at h; cases h.1
theorem comp_yes {a b : Mach} (ha : Rng a) (hb : Rng b) (ha0 : 0 < a.n) (hb0 : 0 < b.n) (h : (⟨0, 0⟩ : Fnl) ∈ keepL a b) : compM a b = ⟨((keepL a b).length : Int), redA (partArcs (keepK (prodM a b)) (prodArcs a b)), partFins (keepK (prodM a b)) (prodFins a b)⟩ := by
  have hin := (mem_reachL.1 (mem_keepL.1 h).1).1
  have hk := (kept_iff ha hb ha0 hb0 hin).2 h
  have e0 : encC b ⟨0, 0⟩ = 0 := by simp [encC, enc]
  rw [e0] at hk
  have hN : (prodM a b).n ≠ 0 := by
    have : 0 < a.n * b.n := Int.mul_pos ha0 hb0
    show a.n * b.n ≠ 0
    omega
  have ht : trimOf (prodM a b) = partM (prodM a b) (keepK (prodM a b)) := by
    unfold trimOf
    rw [if_neg]
    rintro (g | g)
    · exact hN g
    · have : keepK (prodM a b) 0 = true := hk
      rw [this] at g; cases g
  unfold compM redM
  rw [ht]
  unfold partM
  have e1 := cnt_len (enc_sorted ha hb ha0 hb0) (enc_mem ha hb ha0 hb0)
  rw [List.length_map] at e1
  dsimp only
  rw [show (prodM a b).n = a.n * b.n from rfl, e1]
  rfl
/-- The number of a couple. -/
noncomputable def numC (a b : Mach) (c : Fnl) : Int := (cntK (keepK (prodM a b)) (encC b c).toNat : Int)
theorem numC_inj {a b : Mach} (ha : Rng a) (hb : Rng b) (ha0 : 0 < a.n) (hb0 : 0 < b.n) {c d : Fnl} (hc : c ∈ keepL a b) (hd : d ∈ keepL a b) (h : numC a b c = numC a b d) : c = d := by
  unfold numC at h
  rw [num_idx ha hb ha0 hb0 hc, num_idx ha hb ha0 hb0 hd] at h
  have h1 : (keepL a b).idxOf c < (keepL a b).length := List.idxOf_lt_length_of_mem hc
  have h2 : (keepL a b).idxOf d < (keepL a b).length := List.idxOf_lt_length_of_mem hd
  have e1 : (keepL a b)[(keepL a b).idxOf c] = c := List.getElem_idxOf h1
  have e2 : (keepL a b)[(keepL a b).idxOf d] = d := List.getElem_idxOf h2
  have e3 : (keepL a b).idxOf c = (keepL a b).idxOf d := by omega
  rw [← e1, ← e2]
  congr 1
section
variable {a b : Mach} (ha : Rng a) (hb : Rng b) (ha0 : 0 < a.n) (hb0 : 0 < b.n)
include ha hb ha0 hb0
/-- An arc of the built machine, by its couples. -/
theorem part_turn {z : Arc} (hz : z ∈ partArcs (keepK (prodM (chM 1 b) (chM 1 a))) (prodArcs (chM 1 b) (chM 1 a))) : ∃ y ∈ partArcs (keepK (prodM a b)) (prodArcs a b), ∃ c ∈ keepL a b, ∃ d ∈ keepL a b, y.f = numC a b c ∧ y.t = numC a b d ∧ z.f = numC (chM 1 b) (chM 1 a) (sw c) ∧ z.t = numC (chM 1 b) (chM 1 a) (sw d) ∧ z.i = y.o ∧ z.o = y.i := by
  have ha' := rng_chk ha 1
  have hb' := rng_chk hb 1
  obtain ⟨z0, hz0, rfl⟩ := List.mem_map.1 hz
  obtain ⟨hz1, hk⟩ := List.mem_filter.1 hz0
  obtain ⟨hk1, hk2⟩ := Bool.and_eq_true_iff.1 hk
  obtain ⟨y, hy, c, d, hc, hd, e1, e2, e3, e4, e5, e6, _⟩ := turn_arc ha hb hz1
  rw [e3] at hk1
  rw [e4] at hk2
  have kc := (keep_turn ha hb).1 ((kept_iff hb' ha' hb0 ha0 (inC_sw hc)).1 hk1)
  have kd := (keep_turn ha hb).1 ((kept_iff hb' ha' hb0 ha0 (inC_sw hd)).1 hk2)
  refine ⟨partArc (keepK (prodM a b)) y, List.mem_map.2 ⟨y, List.mem_filter.2 ⟨hy, ?_⟩, rfl⟩, c, kc, d, kd, ?_, ?_, ?_, ?_, e5, e6⟩
  · rw [e1, e2]
    exact Bool.and_eq_true_iff.2 ⟨(kept_iff ha hb ha0 hb0 hc).2 kc, (kept_iff ha hb ha0 hb0 hd).2 kd⟩
  · unfold partArc numC; rw [e1]
  · unfold partArc numC; rw [e2]
  · unfold partArc numC; rw [e3]
  · unfold partArc numC; rw [e4]
theorem part_back {y : Arc} (hy : y ∈ partArcs (keepK (prodM a b)) (prodArcs a b)) : ∃ z ∈ partArcs (keepK (prodM (chM 1 b) (chM 1 a))) (prodArcs (chM 1 b) (chM 1 a)), ∃ c ∈ keepL a b, ∃ d ∈ keepL a b, y.f = numC a b c ∧ y.t = numC a b d ∧ z.f = numC (chM 1 b) (chM 1 a) (sw c) ∧ z.t = numC (chM 1 b) (chM 1 a) (sw d) ∧ z.i = y.o ∧ z.o = y.i ∧ z.w ≤ y.w := by
  have ha' := rng_chk ha 1
  have hb' := rng_chk hb 1
  obtain ⟨y0, hy0, rfl⟩ := List.mem_map.1 hy
  obtain ⟨hy1, hk⟩ := List.mem_filter.1 hy0
  obtain ⟨hk1, hk2⟩ := Bool.and_eq_true_iff.1 hk
  obtain ⟨z, hz, c, d, hc, hd, e1, e2, e3, e4, e5, e6, e7⟩ := turn_back ha hb hy1
  rw [e1] at hk1
  rw [e2] at hk2
  have kc := (kept_iff ha hb ha0 hb0 hc).1 hk1
  have kd := (kept_iff ha hb ha0 hb0 hd).1 hk2
  refine ⟨partArc (keepK (prodM (chM 1 b) (chM 1 a))) z, List.mem_map.2 ⟨z, List.mem_filter.2 ⟨hz, ?_⟩, rfl⟩, c, kc, d, kd, ?_, ?_, ?_, ?_, e5, e6, e7⟩
  · rw [e3, e4]
    exact Bool.and_eq_true_iff.2 ⟨(kept_iff hb' ha' hb0 ha0 (inC_sw hc)).2 ((keep_turn ha hb).2 kc), (kept_iff hb' ha' hb0 ha0 (inC_sw hd)).2 ((keep_turn ha hb).2 kd)⟩
  · unfold partArc numC; rw [e1]
  · unfold partArc numC; rw [e2]
  · unfold partArc numC; rw [e3]
  · unfold partArc numC; rw [e4]
/-- The machine of the inverses is built where the composition is. -/
theorem size_turn (hk : (⟨0, 0⟩ : Fnl) ∈ keepL a b) (h : szF (compM a b) = (0, 0)) : szF (compM (chM 1 b) (chM 1 a)) = (0, 0) := by
  have ha' := rng_chk ha 1
  have hb' := rng_chk hb 1
  have hk' : (⟨0, 0⟩ : Fnl) ∈ keepL (chM 1 b) (chM 1 a) := (keep_turn ha hb).2 hk
  obtain ⟨h1, h2, h3, h4⟩ := szF_zero h
  rw [comp_yes ha hb ha0 hb0 hk] at h1 h2 h3 h4
  rw [comp_yes hb' ha' hb0 ha0 hk']
  have el := keep_len ha hb
  have k2 : (redA (partArcs (keepK (prodM (chM 1 b) (chM 1 a))) (prodArcs (chM 1 b) (chM 1 a)))).length ≤ (redA (partArcs (keepK (prodM a b)) (prodArcs a b))).length := by
    refine len_rel (fun z y => ∃ c ∈ keepL a b, ∃ d ∈ keepL a b, y.f = numC a b c ∧ y.t = numC a b d ∧ z.f = numC (chM 1 b) (chM 1 a) (sw c) ∧ z.t = numC (chM 1 b) (chM 1 a) (sw d) ∧ z.i = y.o ∧ z.o = y.i) (redA_nodup _) ?_ ?_
    · intro z hz
      obtain ⟨y, hy, c, kc, d, kd, e1, e2, e3, e4, e5, e6⟩ := part_turn ha hb ha0 hb0 (redA_sub hz)
      obtain ⟨y', hy', hl, _⟩ := redA_dom hy
      obtain ⟨f1, f2, f3, f4⟩ := likeA_iff.1 hl
      exact ⟨y', hy', c, kc, d, kd, f1.trans e1, f4.trans e2, e3, e4, e5.trans f3.symm, e6.trans f2.symm⟩
    · rintro z hz z' hz' y ⟨c, kc, d, kd, e1, e2, e3, e4, e5, e6⟩ ⟨c', kc', d', kd', f1, f2, f3, f4, f5, f6⟩
      have := numC_inj ha hb ha0 hb0 kc kc' (e1.symm.trans f1)
      have := numC_inj ha hb ha0 hb0 kd kd' (e2.symm.trans f2)
      subst c' d'
      exact redA_eq hz hz' (likeA_iff.2 ⟨e3.trans f3.symm, e5.trans f5.symm, e6.trans f6.symm, e4.trans f4.symm⟩)
  have k3 : ∀ z ∈ redA (partArcs (keepK (prodM (chM 1 b) (chM 1 a))) (prodArcs (chM 1 b) (chM 1 a))), z.w ≤ 1000000 := by
    intro z hz
    obtain ⟨y, hy, c, kc, d, kd, e1, e2, e3, e4, e5, e6⟩ := part_turn ha hb ha0 hb0 (redA_sub hz)
    obtain ⟨y', hy', hl, _⟩ := redA_dom hy
    obtain ⟨f1, f2, f3, f4⟩ := likeA_iff.1 hl
    obtain ⟨z1, hz1, c', kc', d', kd', g1, g2, g3, g4, g5, g6, g7⟩ := part_back ha hb ha0 hb0 (redA_sub hy')
    have := numC_inj ha hb ha0 hb0 kc kc' (e1.symm.trans (f1.symm.trans g1))
    have := numC_inj ha hb ha0 hb0 kd kd' (e2.symm.trans (f4.symm.trans g2))
    subst c' d'
    obtain ⟨z2, hz2, hl2, hw⟩ := redA_dom hz1
    obtain ⟨i1, i2, i3, i4⟩ := likeA_iff.1 hl2
    have : z2 = z := redA_eq hz2 hz (likeA_iff.2 ⟨(i1.trans g3).trans e3.symm, (i2.trans g5).trans (f3.trans e5.symm), (i3.trans g6).trans (f2.trans e6.symm), (i4.trans g4).trans e4.symm⟩)
    subst z2
    have := h3 y' hy'
    omega
  have k4 : ∀ z ∈ partFins (keepK (prodM (chM 1 b) (chM 1 a))) (prodFins (chM 1 b) (chM 1 a)), z.w ≤ 1000000 := by
    intro z hz
    obtain ⟨z0, hz0, rfl⟩ := List.mem_map.1 hz
    obtain ⟨hz1, hkz⟩ := List.mem_filter.1 hz0
    obtain ⟨x, hx, y, hy, rfl⟩ := mem_prodF.1 hz1
    have hxr := hb.fin x hx
    have hyr := ha.fin y hy
    have hin : inC a b ⟨y.s, x.s⟩ := ⟨hyr.1, hyr.2, hxr.1, hxr.2⟩
    have kc := (keep_turn ha hb).1 ((kept_iff hb' ha' hb0 ha0 (inC_sw hin)).1 hkz)
    have := h4 (partFin (keepK (prodM a b)) ⟨enc b.n y.s x.s, y.w + x.w⟩) (List.mem_map.2 ⟨_, List.mem_filter.2 ⟨mem_prodF.2 ⟨y, hy, x, hx, rfl⟩, (kept_iff ha hb ha0 hb0 hin).2 kc⟩, rfl⟩)
    have : y.w + x.w ≤ 1000000 := this
    show x.w + y.w ≤ 1000000
    omega
  unfold szF
  rw [if_neg, if_neg]
  · rintro (⟨x, hx, hw⟩ | ⟨x, hx, hw⟩)
    · have := k3 x hx; omega
    · have := k4 x hx; omega
  · have h1 : ((keepL a b).length : Int) ≤ 400 := h1
    have h2 : (redA (partArcs (keepK (prodM a b)) (prodArcs a b))).length ≤ 2000 := h2
    dsimp only
    omega
end
/-- Where the composition is built, so is that of the inverses. -/
theorem compF_turn {a b : Mach} (h : compF a b = (0, 0)) : compF (chM 1 b) (chM 1 a) = (0, 0) := by
  obtain ⟨hv, hv', _, _⟩ := compF_zero h
  have hVa := valid_of hv
  have hVb := valid_of hv'
  have ha := rng_valid hVa
  have hb := rng_valid hVb
  have hVa' := valid_ch 1 hVa
  have hVb' := valid_ch 1 hVb
  have ht : twoC a b = (0, 0) := by unfold twoC; rw [if_pos hv]; exact hv'
  have ht' : twoC (chM 1 b) (chM 1 a) = (0, 0) := by unfold twoC; rw [if_pos (validate_of hVb')]; exact validate_of hVa'
  unfold compF at h ⊢
  rw [if_pos ht] at h
  rw [if_pos ht']
  by_cases h0 : a.n = 0 ∨ b.n = 0
  · rw [if_pos (show (chM 1 b).n = 0 ∨ (chM 1 a).n = 0 from h0.symm)]
  · rw [if_neg h0] at h
    rw [if_neg (show ¬ ((chM 1 b).n = 0 ∨ (chM 1 a).n = 0) from fun g => h0 g.symm)]
    have := hVa.n0
    have := hVb.n0
    have ha0 : 0 < a.n := by omega
    have hb0 : 0 < b.n := by omega
    by_cases h1 : 200000 < total a b
    · rw [if_pos h1] at h; simp at h
    · rw [if_neg h1] at h
      have := total_turn ha hb
      rw [if_neg (by omega)]
      by_cases hk : (⟨0, 0⟩ : Fnl) ∈ keepL a b
      · exact size_turn ha hb ha0 hb0 hk h
      · rw [cM_no hVb' hVa' hb0 ha0 fun g => hk ((keep_turn ha hb).1 g)]
        exact szF_empty
/-- What the two machines weigh. -/
theorem wgt_turn {a b : Mach} (ha : Rng a) (hb : Rng b) (u v : List Int) : wgt (compM (chM 1 b) (chM 1 a)) v u = wgt (compM a b) u v := by
  have ha' := rng_chk ha 1
  have hb' := rng_chk hb 1
  obtain ⟨p1, p2⟩ := acc_comp ha hb u v
  obtain ⟨q1, q2⟩ := acc_comp hb' ha' v u
  refine least_dom ?_ ?_
  · intro d hd
    obtain ⟨w, d1, d2, rfl, h1, h2⟩ := q2 d hd
    exact p1 _ ⟨w, d2, d1, by omega, acc_ch1' ha h2, acc_ch1' hb h1⟩
  · intro d hd
    obtain ⟨w, d1, d2, rfl, h1, h2⟩ := p2 d hd
    obtain ⟨e1, l1, g1⟩ := acc_chk ha (fun _ _ hp => pw_ch1 hp) d1 h1
    obtain ⟨e2, l2, g2⟩ := acc_chk hb (fun _ _ hp => pw_ch1 hp) d2 h2
    obtain ⟨d', l, g⟩ := q1 (e2 + e1) ⟨w, e2, e1, rfl, g2, g1⟩
    exact ⟨d', by omega, g⟩
end Gm
namespace Gm
set_option linter.unusedSimpArgs false
set_option linter.unusedVariables false
theorem chR_g {k : Nat} {m : Mach} (h : validate m = (0, 0)) : chR k m = chM k m := by unfold chR; rw [if_pos h]
theorem wF_t {m m' : Mach} {u v : List Int} (h : wF m u v = (0, 0)) (hm : validate m' = (0, 0)) : wF m' v u = (0, 0) ∧ wF m' u v = (0, 0) := by
  unfold wF at h
  by_cases hv : validate m = (0, 0)
  · rw [if_pos hv] at h
    by_cases g : wordF u (-2) = (0, 0)
    · rw [if_pos g] at h
      constructor
      · unfold wF; rw [if_pos hm, if_pos (wordF_ix h _)]; exact wordF_ix g _
      · unfold wF; rw [if_pos hm, if_pos g]; exact h
    · rw [if_neg g] at h; exact absurd h g
  · rw [if_neg hv] at h; exact absurd h hv
theorem wv_good {m : Mach} {u v : List Int} (h : -1 ≤ wv m u v) : wF m u v = (0, 0) := by
  unfold wv at h
  by_cases g : wF m u v = (0, 0)
  · exact g
  · rw [if_neg g] at h; omega
/-- The four weights. -/
theorem turn_plain {a b : Mach} {u v : List Int} (h : compF a b = (0, 0)) (hx : -1 ≤ wv (compM a b) u v) : wv (chM 1 (compM a b)) v u = wv (compM a b) u v ∧ wv (compM (chM 1 b) (chM 1 a)) v u = wv (compM a b) u v ∧ wv (chM 1 (chM 1 a)) u v = wv a u v := by
  obtain ⟨ha, hb, hc, _⟩ := compF_zero h
  obtain ⟨_, _, ht, _⟩ := compF_zero (compF_turn h)
  have ra := rng_valid (valid_of ha)
  have rb := rng_valid (valid_of hb)
  have rc := rng_valid (valid_of hc)
  have hw := wv_good hx
  have v1 := validate_of (valid_ch 1 (valid_of hc))
  have v2 := validate_of (valid_ch 1 (valid_ch 1 (valid_of ha)))
  have e0 : wv (compM a b) u v = wgt (compM a b) u v := by unfold wv; rw [if_pos hw]
  refine ⟨?_, ?_, ?_⟩
  · rw [e0]; unfold wv; rw [if_pos (wF_t hw v1).1, wgt_ch1 rc]
  · rw [e0]; unfold wv; rw [if_pos (wF_t hw ht).1, wgt_turn ra rb]
  · unfold wv; rw [if_pos (wF_t hw v2).2, if_pos (wF_t hw ha).2, wgt_ch1 (rng_chk ra 1), wgt_ch1 ra]
/-- The cells of a machine. -/
def MCell (w : Go.World) (b : Nat) (x y z : Go.Value) : Prop := w.cell? ⟨b, 0, none⟩ = some x ∧ w.cell? ⟨b, 1, none⟩ = some y ∧ w.cell? ⟨b, 2, none⟩ = some z
end Gm
namespace Go.Proofs.Ytmgpcnkmmgkjgaa
open Go.RowKit Gm Go.Sort Go.Shelf
set_option linter.unusedSimpArgs false
set_option linter.unusedVariables false
theorem ch1_fine (va : Value) (a : Mach) (w : World) (B : Nat) (hB : B ≤ w.heap.size) (ha : MachAt w B va a) (hz : validate a = (0, 0)) :
    Calls Try.prog 12 #[va] w fun e w' => ∃ v', e = .returned (.tuple #[v', .agg #[.int .i64 0, .int .i64 0]]) ∧ MachNew w.heap.size w' v' (chM 1 a) ∧ Below w.heap.size w w' := by
  have h := ch1R_any va a w B hB ha
  rw [hz, chR_g hz] at h
  exact h
theorem comp_fine (va vb : Value) (a b : Mach) (w : World) (B : Nat) (hB : B ≤ w.heap.size) (ha : MachAt w B va a) (hb : MachAt w B vb b) (hz : compF a b = (0, 0)) :
    Calls Try.prog 26 #[va, vb] w fun e w' => ∃ v', e = .returned (.tuple #[v', .agg #[.int .i64 0, .int .i64 0]]) ∧ MachNew w.heap.size w' v' (compM a b) ∧ Below w.heap.size w w' := by
  have h := compose_any va vb a b w B hB ha hb
  rw [(compF_zero hz).2.2.2, hz] at h
  exact h
end Go.Proofs.Ytmgpcnkmmgkjgaa
namespace Go.Proofs.Ytmgpcnkmmgkjgaa
open Go.RowKit Gm Go.Sort Go.Shelf
set_option linter.unusedSimpArgs false
set_option linter.unusedVariables false
set_option maxRecDepth 100000 in
set_option maxHeartbeats 16000000 in
theorem turnlaw_any (va vb u0 u1 : Value) (a b : Mach) (l0 l1 : List Int) (w : World) (B : Nat) (hB : B ≤ w.heap.size) (ha : MachAt w B va a) (hb : MachAt w B vb b) (hu0 : Nums w B u0 l0) (hu1 : Nums w B u1 l1) :
    Calls Try.prog 10 #[va, vb, u0, u1] w fun e w' => e = .returned (.bool true) ∧ Below w.heap.size w w' := by
  have HU0 := hide hu0
  obtain ⟨AU0, nu0, cu0, rfl, _⟩ := hu0
  have HU1 := hide hu1
  obtain ⟨AU1, nu1, cu1, rfl, _⟩ := hu1
  have HMa := hide ha
  obtain ⟨Aa, AFa, na, ca, nfa, cfa, rfl, _⟩ := ha
  obtain ⟨sa, hsa⟩ : ∃ s, s = a.n := ⟨_, rfl⟩
  rw [← hsa] at HMa ⊢
  clear hsa
  have HMb := hide hb
  obtain ⟨Ab, AFb, nb, cb, nfb, cfb, rfl, _⟩ := hb
  obtain ⟨sb, hsb⟩ : ∃ s, s = b.n := ⟨_, rfl⟩
  rw [← hsb] at HMb ⊢
  clear hsb
  have heq := fun a b c d W => run_eql_fault a b c d W
  have hne := fun a b c d W => run_neq_fault a b c d W
  have hf0 : fEq 0 0 0 0 = true := rfl
  go_enter Try.func10, Try.ntmps10
  go_wp2_with fail
  have hXa : Blk ((w.alloc (Obj.cells #[.int .i64 sa, .slice Aa na ca, .slice AFa nfa cfa] 25)).alloc (Obj.cells #[.int .i64 sb, .slice Ab nb cb, .slice AFb nfb cfb] 25)) (w.heap.size) 25 #[.int .i64 sa, .slice Aa na ca, .slice AFa nfa cfa] := ((Blk.at_ rfl).alloc _)
  have hXb : Blk ((w.alloc (Obj.cells #[.int .i64 sa, .slice Aa na ca, .slice AFa nfa cfa] 25)).alloc (Obj.cells #[.int .i64 sb, .slice Ab nb cb, .slice AFb nfb cfb] 25)) (w.heap.size + 1) 25 #[.int .i64 sb, .slice Ab nb cb, .slice AFb nfb cfb] := (Blk.at_ (by simp))
  refine (composition_ex _).mono ?_
  rintro e w1 ⟨rfl, hb1⟩
  have hbw : Below w.heap.size w w1 := (show Below w.heap.size w _ by go_grown).trans (hb1.mono (by simp <;> omega))
  have ba := hXa.below hb1 (by simp <;> omega)
  have bb := hXb.below hb1 (by simp <;> omega)
  clear hb1 hXa hXb
  obtain ⟨X, hX⟩ : ∃ z, z = w.heap.size := ⟨_, rfl⟩
  have hXw : w.heap.size ≤ X := by omega
  rw [← hX] at ba bb
  simp only [← hX]
  clear hX
  go_wp2_with fail
  refine (inverted_ex _).mono ?_
  rintro e w1b ⟨rfl, hb2⟩
  replace ba := ba.below hb2 ba.lt
  replace bb := bb.below hb2 bb.lt
  replace hbw := hbw.trans (hb2.mono hbw.size)
  clear hb2
  go_wp2_with fail
  refine (weighed_ex _).mono ?_
  rintro e w2 ⟨rfl, hb2⟩
  replace ba := ba.below hb2 ba.lt
  replace bb := bb.below hb2 bb.lt
  replace hbw := hbw.trans (hb2.mono hbw.size)
  clear hb2
  have HC1 := hide (fun W (B : Nat) (hB : B ≤ W.heap.size) (hA : MachAt W B (.agg #[.int .i64 sa, .slice Aa na ca, .slice AFa nfa cfa]) a) (hB' : MachAt W B (.agg #[.int .i64 sb, .slice Ab nb cb, .slice AFb nfb cfb]) b) => compose_any _ _ a b W B hB hA hB')
  obtain ⟨p1, hp1⟩ : ∃ z, z = (compF a b).1 := ⟨_, rfl⟩
  obtain ⟨q1, hq1⟩ : ∃ z, z = (compF a b).2 := ⟨_, rfl⟩
  rw [← hp1, ← hq1] at HC1
  have HPQ1 := hide (show (p1, q1) = compF a b by rw [hp1, hq1])
  clear hp1 hq1
  have qba0 := ba.cell 0
  have qba1 := ba.cell 1
  have qba2 := ba.cell 2
  simp at qba0 qba1 qba2
  have qbal := ba.lt
  have qbb0 := bb.cell 0
  have qbb1 := bb.cell 1
  have qbb2 := bb.cell 2
  simp at qbb0 qbb1 qbb2
  have qbbl := bb.lt
  go_wp2_with fail
  refine (HC1.out _ _ (Nat.le_refl _) ((HMa.out.below hbw hB).mono (show B ≤ _ by have := hbw.size; omega)) ((HMb.out.below hbw hB).mono (show B ≤ _ by have := hbw.size; omega))).mono ?_
  rintro e w3 ⟨v3, rfl, hT, hb3⟩
  obtain ⟨B1, n1, c1, BF1, nf1, cf1, rfl⟩ := agg_of hT
  obtain ⟨g1, hg1⟩ : ∃ g, g = (compR a b).n := ⟨_, rfl⟩
  rw [← hg1] at hT ⊢
  clear hg1
  clear qba0 qba1 qba2 qbal
  clear qbb0 qbb1 qbb2 qbbl
  replace ba := ba.below hb3 ba.lt
  replace bb := bb.below hb3 bb.lt
  replace hbw := hbw.trans (hb3.mono hbw.size)
  clear HC1 hb3
  go_upto_region 4 with fail
  generalize hWX : World.alloc _ _ = WX
  obtain ⟨M1, hM1⟩ : ∃ z, z = w3.heap.size := ⟨_, rfl⟩
  simp only [← hM1]
  have hl1 : X + 1 < M1 := by have := bb.lt; omega
  replace ba := (by rw [← hWX]; exact (ba.alloc _).alloc _ : Blk WX _ _ _)
  replace bb := (by rw [← hWX]; exact (bb.alloc _).alloc _ : Blk WX _ _ _)
  have bM1 : Blk WX M1 25 #[.int .i64 g1, .slice B1 n1 c1, .slice BF1 nf1 cf1] := by rw [← hWX]; exact (Blk.at_ (by simp [hM1])).alloc _
  have bF1 : Blk WX (M1 + 1) 28 #[.int .i64 p1, .int .i64 q1] := by rw [← hWX]; exact Blk.at_ (by simp [hM1])
  have HT1 := hide (by rw [← hWX]; exact (hT.alloc _).alloc _ : MachNew _ WX _ _)
  replace hbw : Below w.heap.size w WX := by rw [← hWX]; exact (hbw.alloc hbw.size _).alloc (by have := hbw.size; simp <;> omega) _
  clear hT hWX hM1
  have qbF10 := bF1.cell 0
  have qbF11 := bF1.cell 1
  simp at qbF10 qbF11
  have qbF1l := bF1.lt
  by_cases hz1 : compF a b = (0, 0)
  · skip
    have hpq := HPQ1.out
    rw [hz1] at hpq
    obtain ⟨rfl, rfl⟩ : p1 = 0 ∧ q1 = 0 := ⟨congrArg Prod.fst hpq, congrArg Prod.snd hpq⟩
    have HZ1 := hide hz1
    have er1 : compR a b = compM a b := (compF_zero hz1).2.2.2
    rw [er1] at HT1
    clear hpq hz1 er1
    go_upto_region 6 with fail
    clear qbF10 qbF11 qbF1l
    have HC2 := hide (fun W (B : Nat) (hB : B ≤ W.heap.size) (h0 : MachAt W B (.agg #[.int .i64 g1, .slice B1 n1 c1, .slice BF1 nf1 cf1]) (compM a b)) => ch1_fine _ (compM a b) W B hB h0 (compF_zero HZ1.out).2.2.1)
    have qbM10 := bM1.cell 0
    have qbM11 := bM1.cell 1
    have qbM12 := bM1.cell 2
    simp at qbM10 qbM11 qbM12
    have qbM1l := bM1.lt
    go_wp2_with fail
    refine (HC2.out _ _ (Nat.le_refl _) (HT1.out.at_)).mono ?_
    rintro e w3 ⟨v3, rfl, hT, hb3⟩
    obtain ⟨B2, n2, c2, BF2, nf2, cf2, rfl⟩ := agg_of hT
    obtain ⟨g2, hg2⟩ : ∃ g, g = (chM 1 (compM a b)).n := ⟨_, rfl⟩
    rw [← hg2] at hT ⊢
    clear hg2
    clear qbM10 qbM11 qbM12 qbM1l
    replace ba := ba.below hb3 ba.lt
    replace bb := bb.below hb3 bb.lt
    replace bM1 := bM1.below hb3 bM1.lt
    replace bF1 := bF1.below hb3 bF1.lt
    replace HT1 := hide (HT1.out.below hb3 (Nat.le_refl _))
    replace hbw := hbw.trans (hb3.mono hbw.size)
    clear HC2 hb3
    go_upto_region 7 with fail
    generalize hWX : World.alloc _ _ = WX
    obtain ⟨M2, hM2⟩ : ∃ z, z = w3.heap.size := ⟨_, rfl⟩
    simp only [← hM2]
    have hl2 : M1 + 1 < M2 := by have := bF1.lt; omega
    replace ba := (by rw [← hWX]; exact (ba.alloc _).alloc _ : Blk WX _ _ _)
    replace bb := (by rw [← hWX]; exact (bb.alloc _).alloc _ : Blk WX _ _ _)
    replace bM1 := (by rw [← hWX]; exact (bM1.alloc _).alloc _ : Blk WX _ _ _)
    replace bF1 := (by rw [← hWX]; exact (bF1.alloc _).alloc _ : Blk WX _ _ _)
    replace HT1 := hide (by rw [← hWX]; exact (HT1.out.alloc _).alloc _ : MachNew _ WX _ _)
    have bM2 : Blk WX M2 25 #[.int .i64 g2, .slice B2 n2 c2, .slice BF2 nf2 cf2] := by rw [← hWX]; exact (Blk.at_ (by simp [hM2])).alloc _
    have bF2 : Blk WX (M2 + 1) 28 #[.int .i64 0, .int .i64 0] := by rw [← hWX]; exact Blk.at_ (by simp [hM2])
    have HT2 := hide (by rw [← hWX]; exact (hT.alloc _).alloc _ : MachNew _ WX _ _)
    replace hbw : Below w.heap.size w WX := by rw [← hWX]; exact (hbw.alloc hbw.size _).alloc (by have := hbw.size; simp <;> omega) _
    clear hT hWX hM2
    have HC3 := hide (fun W (B : Nat) (hB : B ≤ W.heap.size) (h0 : MachAt W B (.agg #[.int .i64 sa, .slice Aa na ca, .slice AFa nfa cfa]) a) => ch1_fine _ a W B hB h0 (compF_zero HZ1.out).1)
    have qba0 := ba.cell 0
    have qba1 := ba.cell 1
    have qba2 := ba.cell 2
    simp at qba0 qba1 qba2
    have qbal := ba.lt
    go_wp2_with fail
    refine (HC3.out _ _ (Nat.le_refl _) ((HMa.out.below hbw hB).mono (show B ≤ _ by have := hbw.size; omega))).mono ?_
    rintro e w3 ⟨v3, rfl, hT, hb3⟩
    obtain ⟨B3, n3, c3, BF3, nf3, cf3, rfl⟩ := agg_of hT
    obtain ⟨g3, hg3⟩ : ∃ g, g = (chM 1 a).n := ⟨_, rfl⟩
    rw [← hg3] at hT ⊢
    clear hg3
    clear qba0 qba1 qba2 qbal
    replace ba := ba.below hb3 ba.lt
    replace bb := bb.below hb3 bb.lt
    replace bM1 := bM1.below hb3 bM1.lt
    replace bF1 := bF1.below hb3 bF1.lt
    replace bM2 := bM2.below hb3 bM2.lt
    replace bF2 := bF2.below hb3 bF2.lt
    replace HT1 := hide (HT1.out.below hb3 (Nat.le_refl _))
    replace HT2 := hide (HT2.out.below hb3 (Nat.le_refl _))
    replace hbw := hbw.trans (hb3.mono hbw.size)
    clear HC3 hb3
    go_upto_region 8 with fail
    generalize hWX : World.alloc _ _ = WX
    obtain ⟨M3, hM3⟩ : ∃ z, z = w3.heap.size := ⟨_, rfl⟩
    simp only [← hM3]
    have hl3 : M2 + 1 < M3 := by have := bF2.lt; omega
    replace ba := (by rw [← hWX]; exact (ba.alloc _).alloc _ : Blk WX _ _ _)
    replace bb := (by rw [← hWX]; exact (bb.alloc _).alloc _ : Blk WX _ _ _)
    replace bM1 := (by rw [← hWX]; exact (bM1.alloc _).alloc _ : Blk WX _ _ _)
    replace bF1 := (by rw [← hWX]; exact (bF1.alloc _).alloc _ : Blk WX _ _ _)
    replace bM2 := (by rw [← hWX]; exact (bM2.alloc _).alloc _ : Blk WX _ _ _)
    replace bF2 := (by rw [← hWX]; exact (bF2.alloc _).alloc _ : Blk WX _ _ _)
    replace HT1 := hide (by rw [← hWX]; exact (HT1.out.alloc _).alloc _ : MachNew _ WX _ _)
    replace HT2 := hide (by rw [← hWX]; exact (HT2.out.alloc _).alloc _ : MachNew _ WX _ _)
    have bM3 : Blk WX M3 25 #[.int .i64 g3, .slice B3 n3 c3, .slice BF3 nf3 cf3] := by rw [← hWX]; exact (Blk.at_ (by simp [hM3])).alloc _
    have bF3 : Blk WX (M3 + 1) 28 #[.int .i64 0, .int .i64 0] := by rw [← hWX]; exact Blk.at_ (by simp [hM3])
    have HT3 := hide (by rw [← hWX]; exact (hT.alloc _).alloc _ : MachNew _ WX _ _)
    replace hbw : Below w.heap.size w WX := by rw [← hWX]; exact (hbw.alloc hbw.size _).alloc (by have := hbw.size; simp <;> omega) _
    clear hT hWX hM3
    have HC4 := hide (fun W (B : Nat) (hB : B ≤ W.heap.size) (h0 : MachAt W B (.agg #[.int .i64 sb, .slice Ab nb cb, .slice AFb nfb cfb]) b) => ch1_fine _ b W B hB h0 (compF_zero HZ1.out).2.1)
    have qbb0 := bb.cell 0
    have qbb1 := bb.cell 1
    have qbb2 := bb.cell 2
    simp at qbb0 qbb1 qbb2
    have qbbl := bb.lt
    go_wp2_with fail
    refine (HC4.out _ _ (Nat.le_refl _) ((HMb.out.below hbw hB).mono (show B ≤ _ by have := hbw.size; omega))).mono ?_
    rintro e w3 ⟨v3, rfl, hT, hb3⟩
    obtain ⟨B4, n4, c4, BF4, nf4, cf4, rfl⟩ := agg_of hT
    obtain ⟨g4, hg4⟩ : ∃ g, g = (chM 1 b).n := ⟨_, rfl⟩
    rw [← hg4] at hT ⊢
    clear hg4
    clear qbb0 qbb1 qbb2 qbbl
    replace ba := ba.below hb3 ba.lt
    replace bb := bb.below hb3 bb.lt
    replace bM1 := bM1.below hb3 bM1.lt
    replace bF1 := bF1.below hb3 bF1.lt
    replace bM2 := bM2.below hb3 bM2.lt
    replace bF2 := bF2.below hb3 bF2.lt
    replace bM3 := bM3.below hb3 bM3.lt
    replace bF3 := bF3.below hb3 bF3.lt
    replace HT1 := hide (HT1.out.below hb3 (Nat.le_refl _))
    replace HT2 := hide (HT2.out.below hb3 (Nat.le_refl _))
    replace HT3 := hide (HT3.out.below hb3 (Nat.le_refl _))
    replace hbw := hbw.trans (hb3.mono hbw.size)
    clear HC4 hb3
    go_upto_region 9 with fail
    generalize hWX : World.alloc _ _ = WX
    obtain ⟨M4, hM4⟩ : ∃ z, z = w3.heap.size := ⟨_, rfl⟩
    simp only [← hM4]
    have hl4 : M3 + 1 < M4 := by have := bF3.lt; omega
    replace ba := (by rw [← hWX]; exact (ba.alloc _).alloc _ : Blk WX _ _ _)
    replace bb := (by rw [← hWX]; exact (bb.alloc _).alloc _ : Blk WX _ _ _)
    replace bM1 := (by rw [← hWX]; exact (bM1.alloc _).alloc _ : Blk WX _ _ _)
    replace bF1 := (by rw [← hWX]; exact (bF1.alloc _).alloc _ : Blk WX _ _ _)
    replace bM2 := (by rw [← hWX]; exact (bM2.alloc _).alloc _ : Blk WX _ _ _)
    replace bF2 := (by rw [← hWX]; exact (bF2.alloc _).alloc _ : Blk WX _ _ _)
    replace bM3 := (by rw [← hWX]; exact (bM3.alloc _).alloc _ : Blk WX _ _ _)
    replace bF3 := (by rw [← hWX]; exact (bF3.alloc _).alloc _ : Blk WX _ _ _)
    replace HT1 := hide (by rw [← hWX]; exact (HT1.out.alloc _).alloc _ : MachNew _ WX _ _)
    replace HT2 := hide (by rw [← hWX]; exact (HT2.out.alloc _).alloc _ : MachNew _ WX _ _)
    replace HT3 := hide (by rw [← hWX]; exact (HT3.out.alloc _).alloc _ : MachNew _ WX _ _)
    have bM4 : Blk WX M4 25 #[.int .i64 g4, .slice B4 n4 c4, .slice BF4 nf4 cf4] := by rw [← hWX]; exact (Blk.at_ (by simp [hM4])).alloc _
    have bF4 : Blk WX (M4 + 1) 28 #[.int .i64 0, .int .i64 0] := by rw [← hWX]; exact Blk.at_ (by simp [hM4])
    have HT4 := hide (by rw [← hWX]; exact (hT.alloc _).alloc _ : MachNew _ WX _ _)
    replace hbw : Below w.heap.size w WX := by rw [← hWX]; exact (hbw.alloc hbw.size _).alloc (by have := hbw.size; simp <;> omega) _
    clear hT hWX hM4
    have HC5 := hide (fun W (B : Nat) (hB : B ≤ W.heap.size) (h0 : MachAt W B (.agg #[.int .i64 g4, .slice B4 n4 c4, .slice BF4 nf4 cf4]) (chM 1 b)) (h1 : MachAt W B (.agg #[.int .i64 g3, .slice B3 n3 c3, .slice BF3 nf3 cf3]) (chM 1 a)) => comp_fine _ _ (chM 1 b) (chM 1 a) W B hB h0 h1 (compF_turn HZ1.out))
    have qbM40 := bM4.cell 0
    have qbM41 := bM4.cell 1
    have qbM42 := bM4.cell 2
    simp at qbM40 qbM41 qbM42
    have qbM4l := bM4.lt
    have qbM30 := bM3.cell 0
    have qbM31 := bM3.cell 1
    have qbM32 := bM3.cell 2
    simp at qbM30 qbM31 qbM32
    have qbM3l := bM3.lt
    go_wp2_with fail
    refine (HC5.out _ _ (Nat.le_refl _) (HT4.out.at_) (HT3.out.at_)).mono ?_
    rintro e w3 ⟨v3, rfl, hT, hb3⟩
    obtain ⟨B5, n5, c5, BF5, nf5, cf5, rfl⟩ := agg_of hT
    obtain ⟨g5, hg5⟩ : ∃ g, g = (compM (chM 1 b) (chM 1 a)).n := ⟨_, rfl⟩
    rw [← hg5] at hT ⊢
    clear hg5
    clear qbM40 qbM41 qbM42 qbM4l
    clear qbM30 qbM31 qbM32 qbM3l
    replace ba := ba.below hb3 ba.lt
    replace bb := bb.below hb3 bb.lt
    replace bM1 := bM1.below hb3 bM1.lt
    replace bF1 := bF1.below hb3 bF1.lt
    replace bM2 := bM2.below hb3 bM2.lt
    replace bF2 := bF2.below hb3 bF2.lt
    replace bM3 := bM3.below hb3 bM3.lt
    replace bF3 := bF3.below hb3 bF3.lt
    replace bM4 := bM4.below hb3 bM4.lt
    replace bF4 := bF4.below hb3 bF4.lt
    replace HT1 := hide (HT1.out.below hb3 (Nat.le_refl _))
    replace HT2 := hide (HT2.out.below hb3 (Nat.le_refl _))
    replace HT3 := hide (HT3.out.below hb3 (Nat.le_refl _))
    replace HT4 := hide (HT4.out.below hb3 (Nat.le_refl _))
    replace hbw := hbw.trans (hb3.mono hbw.size)
    clear HC5 hb3
    go_upto_region 10 with fail
    generalize hWX : World.alloc _ _ = WX
    obtain ⟨M5, hM5⟩ : ∃ z, z = w3.heap.size := ⟨_, rfl⟩
    simp only [← hM5]
    have hl5 : M4 + 1 < M5 := by have := bF4.lt; omega
    replace ba := (by rw [← hWX]; exact (ba.alloc _).alloc _ : Blk WX _ _ _)
    replace bb := (by rw [← hWX]; exact (bb.alloc _).alloc _ : Blk WX _ _ _)
    replace bM1 := (by rw [← hWX]; exact (bM1.alloc _).alloc _ : Blk WX _ _ _)
    replace bF1 := (by rw [← hWX]; exact (bF1.alloc _).alloc _ : Blk WX _ _ _)
    replace bM2 := (by rw [← hWX]; exact (bM2.alloc _).alloc _ : Blk WX _ _ _)
    replace bF2 := (by rw [← hWX]; exact (bF2.alloc _).alloc _ : Blk WX _ _ _)
    replace bM3 := (by rw [← hWX]; exact (bM3.alloc _).alloc _ : Blk WX _ _ _)
    replace bF3 := (by rw [← hWX]; exact (bF3.alloc _).alloc _ : Blk WX _ _ _)
    replace bM4 := (by rw [← hWX]; exact (bM4.alloc _).alloc _ : Blk WX _ _ _)
    replace bF4 := (by rw [← hWX]; exact (bF4.alloc _).alloc _ : Blk WX _ _ _)
    replace HT1 := hide (by rw [← hWX]; exact (HT1.out.alloc _).alloc _ : MachNew _ WX _ _)
    replace HT2 := hide (by rw [← hWX]; exact (HT2.out.alloc _).alloc _ : MachNew _ WX _ _)
    replace HT3 := hide (by rw [← hWX]; exact (HT3.out.alloc _).alloc _ : MachNew _ WX _ _)
    replace HT4 := hide (by rw [← hWX]; exact (HT4.out.alloc _).alloc _ : MachNew _ WX _ _)
    have bM5 : Blk WX M5 25 #[.int .i64 g5, .slice B5 n5 c5, .slice BF5 nf5 cf5] := by rw [← hWX]; exact (Blk.at_ (by simp [hM5])).alloc _
    have bF5 : Blk WX (M5 + 1) 28 #[.int .i64 0, .int .i64 0] := by rw [← hWX]; exact Blk.at_ (by simp [hM5])
    have HT5 := hide (by rw [← hWX]; exact (hT.alloc _).alloc _ : MachNew _ WX _ _)
    replace hbw : Below w.heap.size w WX := by rw [← hWX]; exact (hbw.alloc hbw.size _).alloc (by have := hbw.size; simp <;> omega) _
    clear hT hWX hM5
    have qbF20 := bF2.cell 0
    have qbF21 := bF2.cell 1
    simp at qbF20 qbF21
    have qbF2l := bF2.lt
    have qbF30 := bF3.cell 0
    have qbF31 := bF3.cell 1
    simp at qbF30 qbF31
    have qbF3l := bF3.lt
    have qbF40 := bF4.cell 0
    have qbF41 := bF4.cell 1
    simp at qbF40 qbF41
    have qbF4l := bF4.lt
    have qbF50 := bF5.cell 0
    have qbF51 := bF5.cell 1
    simp at qbF50 qbF51
    have qbF5l := bF5.lt
    go_upto_region 12 with fail
    clear qbF20 qbF21 qbF2l
    clear qbF30 qbF31 qbF3l
    clear qbF40 qbF41 qbF4l
    clear qbF50 qbF51 qbF5l
    have HC6 := hide (fun W (B : Nat) (hB : B ≤ W.heap.size) (h0 : MachAt W B (.agg #[.int .i64 g3, .slice B3 n3 c3, .slice BF3 nf3 cf3]) (chM 1 a)) => ch1_fine _ (chM 1 a) W B hB h0 (validate_of (valid_ch 1 (valid_of (compF_zero HZ1.out).1))))
    have qbM30 := bM3.cell 0
    have qbM31 := bM3.cell 1
    have qbM32 := bM3.cell 2
    simp at qbM30 qbM31 qbM32
    have qbM3l := bM3.lt
    go_wp2_with fail
    refine (HC6.out _ _ (Nat.le_refl _) (HT3.out.at_)).mono ?_
    rintro e w3 ⟨v3, rfl, hT, hb3⟩
    obtain ⟨B6, n6, c6, BF6, nf6, cf6, rfl⟩ := agg_of hT
    obtain ⟨g6, hg6⟩ : ∃ g, g = (chM 1 (chM 1 a)).n := ⟨_, rfl⟩
    rw [← hg6] at hT ⊢
    clear hg6
    clear qbM30 qbM31 qbM32 qbM3l
    replace ba := ba.below hb3 ba.lt
    replace bb := bb.below hb3 bb.lt
    replace bM1 := bM1.below hb3 bM1.lt
    replace bF1 := bF1.below hb3 bF1.lt
    replace bM2 := bM2.below hb3 bM2.lt
    replace bF2 := bF2.below hb3 bF2.lt
    replace bM3 := bM3.below hb3 bM3.lt
    replace bF3 := bF3.below hb3 bF3.lt
    replace bM4 := bM4.below hb3 bM4.lt
    replace bF4 := bF4.below hb3 bF4.lt
    replace bM5 := bM5.below hb3 bM5.lt
    replace bF5 := bF5.below hb3 bF5.lt
    replace HT1 := hide (HT1.out.below hb3 (Nat.le_refl _))
    replace HT2 := hide (HT2.out.below hb3 (Nat.le_refl _))
    replace HT3 := hide (HT3.out.below hb3 (Nat.le_refl _))
    replace HT4 := hide (HT4.out.below hb3 (Nat.le_refl _))
    replace HT5 := hide (HT5.out.below hb3 (Nat.le_refl _))
    replace hbw := hbw.trans (hb3.mono hbw.size)
    clear HC6 hb3
    go_upto_region 13 with fail
    generalize hWX : World.alloc _ _ = WX
    obtain ⟨M6, hM6⟩ : ∃ z, z = w3.heap.size := ⟨_, rfl⟩
    simp only [← hM6]
    have hl6 : M5 + 1 < M6 := by have := bF5.lt; omega
    replace ba := (by rw [← hWX]; exact (ba.alloc _).alloc _ : Blk WX _ _ _)
    replace bb := (by rw [← hWX]; exact (bb.alloc _).alloc _ : Blk WX _ _ _)
    replace bM1 := (by rw [← hWX]; exact (bM1.alloc _).alloc _ : Blk WX _ _ _)
    replace bF1 := (by rw [← hWX]; exact (bF1.alloc _).alloc _ : Blk WX _ _ _)
    replace bM2 := (by rw [← hWX]; exact (bM2.alloc _).alloc _ : Blk WX _ _ _)
    replace bF2 := (by rw [← hWX]; exact (bF2.alloc _).alloc _ : Blk WX _ _ _)
    replace bM3 := (by rw [← hWX]; exact (bM3.alloc _).alloc _ : Blk WX _ _ _)
    replace bF3 := (by rw [← hWX]; exact (bF3.alloc _).alloc _ : Blk WX _ _ _)
    replace bM4 := (by rw [← hWX]; exact (bM4.alloc _).alloc _ : Blk WX _ _ _)
    replace bF4 := (by rw [← hWX]; exact (bF4.alloc _).alloc _ : Blk WX _ _ _)
    replace bM5 := (by rw [← hWX]; exact (bM5.alloc _).alloc _ : Blk WX _ _ _)
    replace bF5 := (by rw [← hWX]; exact (bF5.alloc _).alloc _ : Blk WX _ _ _)
    replace HT1 := hide (by rw [← hWX]; exact (HT1.out.alloc _).alloc _ : MachNew _ WX _ _)
    replace HT2 := hide (by rw [← hWX]; exact (HT2.out.alloc _).alloc _ : MachNew _ WX _ _)
    replace HT3 := hide (by rw [← hWX]; exact (HT3.out.alloc _).alloc _ : MachNew _ WX _ _)
    replace HT4 := hide (by rw [← hWX]; exact (HT4.out.alloc _).alloc _ : MachNew _ WX _ _)
    replace HT5 := hide (by rw [← hWX]; exact (HT5.out.alloc _).alloc _ : MachNew _ WX _ _)
    have bM6 : Blk WX M6 25 #[.int .i64 g6, .slice B6 n6 c6, .slice BF6 nf6 cf6] := by rw [← hWX]; exact (Blk.at_ (by simp [hM6])).alloc _
    have bF6 : Blk WX (M6 + 1) 28 #[.int .i64 0, .int .i64 0] := by rw [← hWX]; exact Blk.at_ (by simp [hM6])
    have HT6 := hide (by rw [← hWX]; exact (hT.alloc _).alloc _ : MachNew _ WX _ _)
    replace hbw : Below w.heap.size w WX := by rw [← hWX]; exact (hbw.alloc hbw.size _).alloc (by have := hbw.size; simp <;> omega) _
    clear hT hWX hM6
    have qbF60 := bF6.cell 0
    have qbF61 := bF6.cell 1
    simp at qbF60 qbF61
    have qbF6l := bF6.lt
    go_upto_region 15 with fail
    clear qbF60 qbF61 qbF6l
    have HWx := hide (fun W (B : Nat) (hB : B ≤ W.heap.size) (hM : MachAt W B (.agg #[.int .i64 g1, .slice B1 n1 c1, .slice BF1 nf1 cf1]) (compM a b)) (hU : Nums W B (.slice AU0 nu0 cu0) l0) (hO : Nums W B (.slice AU1 nu1 cu1) l1) => lweight_any _ _ _ (compM a b) l0 l1 W B hB hM hU hO)
    obtain ⟨x, hx⟩ : ∃ z, z = wv (compM a b) l0 l1 := ⟨_, rfl⟩
    rw [← hx] at HWx
    have HEx := hide hx
    clear hx
    have qbM10 := bM1.cell 0
    have qbM11 := bM1.cell 1
    have qbM12 := bM1.cell 2
    simp at qbM10 qbM11 qbM12
    have qbM1l := bM1.lt
    go_wp2_with fail
    refine (HWx.out _ _ (Nat.le_refl _) (HT1.out.at_) ((HU0.out.below hbw hB).mono (show B ≤ _ by have := hbw.size; first | omega | (simp at this ⊢; omega))) ((HU1.out.below hbw hB).mono (show B ≤ _ by have := hbw.size; first | omega | (simp at this ⊢; omega)))).mono ?_
    rintro e w4 ⟨rfl, hb⟩
    replace ba := ba.below hb ba.lt
    replace bb := bb.below hb bb.lt
    replace bM1 := bM1.below hb bM1.lt
    replace bF1 := bF1.below hb bF1.lt
    replace bM2 := bM2.below hb bM2.lt
    replace bF2 := bF2.below hb bF2.lt
    replace bM3 := bM3.below hb bM3.lt
    replace bF3 := bF3.below hb bF3.lt
    replace bM4 := bM4.below hb bM4.lt
    replace bF4 := bF4.below hb bF4.lt
    replace bM5 := bM5.below hb bM5.lt
    replace bF5 := bF5.below hb bF5.lt
    replace bM6 := bM6.below hb bM6.lt
    replace bF6 := bF6.below hb bF6.lt
    replace HT1 := hide (HT1.out.below hb (Nat.le_refl _))
    replace HT2 := hide (HT2.out.below hb (Nat.le_refl _))
    replace HT3 := hide (HT3.out.below hb (Nat.le_refl _))
    replace HT4 := hide (HT4.out.below hb (Nat.le_refl _))
    replace HT5 := hide (HT5.out.below hb (Nat.le_refl _))
    replace HT6 := hide (HT6.out.below hb (Nat.le_refl _))
    replace hbw := hbw.trans (hb.mono hbw.size)
    clear qbM10 qbM11 qbM12 qbM1l
    clear hb HWx
    by_cases hx : x < -1
    · have t1 : decide (x < -1) = true := decide_eq_true hx
      clear hx
      go_wp2
      exact bodyPost_ret (v := .bool true) (by simp [results, Try.results10, go_sem]) rfl ⟨rfl, hbw⟩
    have t1 : decide (x < -1) = false := decide_eq_false hx
    have HPL := hide (turn_plain HZ1.out (u := l0) (v := l1) (by rw [← HEx.out]; omega))
    clear hx
    have HWp := hide (fun W (B : Nat) (hB : B ≤ W.heap.size) (hM : MachAt W B (.agg #[.int .i64 g2, .slice B2 n2 c2, .slice BF2 nf2 cf2]) (chM 1 (compM a b))) (hU : Nums W B (.slice AU1 nu1 cu1) l1) (hO : Nums W B (.slice AU0 nu0 cu0) l0) => lweight_any _ _ _ (chM 1 (compM a b)) l1 l0 W B hB hM hU hO)
    have HWq := hide (fun W (B : Nat) (hB : B ≤ W.heap.size) (hM : MachAt W B (.agg #[.int .i64 g5, .slice B5 n5 c5, .slice BF5 nf5 cf5]) (compM (chM 1 b) (chM 1 a))) (hU : Nums W B (.slice AU1 nu1 cu1) l1) (hO : Nums W B (.slice AU0 nu0 cu0) l0) => lweight_any _ _ _ (compM (chM 1 b) (chM 1 a)) l1 l0 W B hB hM hU hO)
    have HWr := hide (fun W (B : Nat) (hB : B ≤ W.heap.size) (hM : MachAt W B (.agg #[.int .i64 g6, .slice B6 n6 c6, .slice BF6 nf6 cf6]) (chM 1 (chM 1 a))) (hU : Nums W B (.slice AU0 nu0 cu0) l0) (hO : Nums W B (.slice AU1 nu1 cu1) l1) => lweight_any _ _ _ (chM 1 (chM 1 a)) l0 l1 W B hB hM hU hO)
    have HWs := hide (fun W (B : Nat) (hB : B ≤ W.heap.size) (hM : MachAt W B (.agg #[.int .i64 sa, .slice Aa na ca, .slice AFa nfa cfa]) a) (hU : Nums W B (.slice AU0 nu0 cu0) l0) (hO : Nums W B (.slice AU1 nu1 cu1) l1) => lweight_any _ _ _ a l0 l1 W B hB hM hU hO)
    rw [HPL.out.1, ← HEx.out] at HWp
    rw [HPL.out.2.1, ← HEx.out] at HWq
    rw [HPL.out.2.2] at HWr
    obtain ⟨y, hy⟩ : ∃ z, z = wv a l0 l1 := ⟨_, rfl⟩
    rw [← hy] at HWr HWs
    clear hy HPL
    go_upto_region 18 with fail
    clear t1
    have qbM20 := bM2.cell 0
    have qbM21 := bM2.cell 1
    have qbM22 := bM2.cell 2
    simp at qbM20 qbM21 qbM22
    have qbM2l := bM2.lt
    have qbM50 := bM5.cell 0
    have qbM51 := bM5.cell 1
    have qbM52 := bM5.cell 2
    simp at qbM50 qbM51 qbM52
    have qbM5l := bM5.lt
    have qbM60 := bM6.cell 0
    have qbM61 := bM6.cell 1
    have qbM62 := bM6.cell 2
    simp at qbM60 qbM61 qbM62
    have qbM6l := bM6.lt
    have qba0 := ba.cell 0
    have qba1 := ba.cell 1
    have qba2 := ba.cell 2
    simp at qba0 qba1 qba2
    have qbal := ba.lt
    refine wp_mix (fun w' => MCell w' (M2) (.int .i64 g2) (.slice B2 n2 c2) (.slice BF2 nf2 cf2) ∧ MCell w' (M5) (.int .i64 g5) (.slice B5 n5 c5) (.slice BF5 nf5 cf5) ∧ MCell w' (M6) (.int .i64 g6) (.slice B6 n6 c6) (.slice BF6 nf6 cf6) ∧ MCell w' (X) (.int .i64 sa) (.slice Aa na ca) (.slice AFa nfa cfa)) 22 [(0, false), (1, false), (2, false), (4, false), (3, true), (5, false), (6, false), (7, false), (8, false), (9, false), (11, false), (10, true), (12, false), (13, false), (14, false), (15, false), (16, false), (17, false), (19, false), (20, false), (21, false), (18, true)] (by kernel_rfl) (by kernel_rfl) ?_ ?_
    · exact ⟨⟨qbM20, qbM21, qbM22⟩, ⟨qbM50, qbM51, qbM52⟩, ⟨qbM60, qbM61, qbM62⟩, ⟨qba0, qba1, qba2⟩⟩
    clear qbM20 qbM21 qbM22 qbM2l
    clear qbM50 qbM51 qbM52 qbM5l
    clear qbM60 qbM61 qbM62 qbM6l
    clear qba0 qba1 qba2 qbal
    simp only [List.drop_succ_cons, List.drop_zero]
    (refine mix_q (v := ?_) (by rfl) (by rfl) ?_ ?_; rotate_left; (focus (intro w' hC; obtain ⟨e0, e1, e2⟩ := hC.1; clear hC; go_simp; (first | done | with_reducible rfl))); simp only [Act.put, List.setIfInBounds_toArray, List.set_cons_zero, List.set_cons_succ, List.getElem_toArray, List.getElem_cons_zero, List.getElem_cons_succ])
    (refine mix_q (v := ?_) (by rfl) (by rfl) ?_ ?_; rotate_left; (focus (intro w' hC; clear hC; go_simp; (first | done | with_reducible rfl))); simp only [Act.put, List.setIfInBounds_toArray, List.set_cons_zero, List.set_cons_succ, List.getElem_toArray, List.getElem_cons_zero, List.getElem_cons_succ])
    (refine mix_q (v := ?_) (by rfl) (by rfl) ?_ ?_; rotate_left; (focus (intro w' hC; clear hC; go_simp; (first | done | with_reducible rfl))); simp only [Act.put, List.setIfInBounds_toArray, List.set_cons_zero, List.set_cons_succ, List.getElem_toArray, List.getElem_cons_zero, List.getElem_cons_succ])
    (refine mix_q (v := ?_) (by rfl) (by rfl) ?_ ?_; rotate_left; (focus (intro w' hC; clear hC; go_simp; (first | done | with_reducible rfl))); simp only [Act.put, List.setIfInBounds_toArray, List.set_cons_zero, List.set_cons_succ, List.getElem_toArray, List.getElem_cons_zero, List.getElem_cons_succ])
    refine mix_l (by rfl) (by rfl) (fun K hK => ?_)
    go_simp
    refine (HWp.out _ _ (Nat.le_refl _) (HT2.out.drew.at_) ((HU1.out.below hbw.drew hB).mono (show B ≤ _ by have := hbw.drew.size; first | omega | (simp at this ⊢; omega))) ((HU0.out.below hbw.drew hB).mono (show B ≤ _ by have := hbw.drew.size; first | omega | (simp at this ⊢; omega)))).mono ?_
    rintro e w5 ⟨rfl, hb⟩
    replace ba := ba.drew.below hb ba.drew.lt
    replace bb := bb.drew.below hb bb.drew.lt
    replace bM1 := bM1.drew.below hb bM1.drew.lt
    replace bF1 := bF1.drew.below hb bF1.drew.lt
    replace bM2 := bM2.drew.below hb bM2.drew.lt
    replace bF2 := bF2.drew.below hb bF2.drew.lt
    replace bM3 := bM3.drew.below hb bM3.drew.lt
    replace bF3 := bF3.drew.below hb bF3.drew.lt
    replace bM4 := bM4.drew.below hb bM4.drew.lt
    replace bF4 := bF4.drew.below hb bF4.drew.lt
    replace bM5 := bM5.drew.below hb bM5.drew.lt
    replace bF5 := bF5.drew.below hb bF5.drew.lt
    replace bM6 := bM6.drew.below hb bM6.drew.lt
    replace bF6 := bF6.drew.below hb bF6.drew.lt
    replace HT1 := hide (HT1.out.drew.below hb (Nat.le_refl _))
    replace HT2 := hide (HT2.out.drew.below hb (Nat.le_refl _))
    replace HT3 := hide (HT3.out.drew.below hb (Nat.le_refl _))
    replace HT4 := hide (HT4.out.drew.below hb (Nat.le_refl _))
    replace HT5 := hide (HT5.out.drew.below hb (Nat.le_refl _))
    replace HT6 := hide (HT6.out.drew.below hb (Nat.le_refl _))
    replace hbw := hbw.drew.trans (hb.mono hbw.drew.size)
    clear hb HWp
    have qbM20 := bM2.cell 0
    have qbM21 := bM2.cell 1
    have qbM22 := bM2.cell 2
    simp at qbM20 qbM21 qbM22
    have qbM2l := bM2.lt
    have qbM50 := bM5.cell 0
    have qbM51 := bM5.cell 1
    have qbM52 := bM5.cell 2
    simp at qbM50 qbM51 qbM52
    have qbM5l := bM5.lt
    have qbM60 := bM6.cell 0
    have qbM61 := bM6.cell 1
    have qbM62 := bM6.cell 2
    simp at qbM60 qbM61 qbM62
    have qbM6l := bM6.lt
    have qba0 := ba.cell 0
    have qba1 := ba.cell 1
    have qba2 := ba.cell 2
    simp at qba0 qba1 qba2
    have qbal := ba.lt
    refine hK _ _ ⟨⟨qbM20, qbM21, qbM22⟩, ⟨qbM50, qbM51, qbM52⟩, ⟨qbM60, qbM61, qbM62⟩, ⟨qba0, qba1, qba2⟩⟩ ?_
    clear hK K
    clear qbM20 qbM21 qbM22 qbM2l
    clear qbM50 qbM51 qbM52 qbM5l
    clear qbM60 qbM61 qbM62 qbM6l
    clear qba0 qba1 qba2 qbal
    try simp only [Act.put, List.setIfInBounds_toArray, List.set_cons_zero, List.set_cons_succ, List.getElem_toArray, List.getElem_cons_zero, List.getElem_cons_succ]
    (refine mix_q (v := .bool true) (by rfl) (by rfl) ?_ ?_; (focus (intro w' hC; clear hC; go_simp; (try with_reducible rfl))); simp only [Act.put, List.setIfInBounds_toArray, List.set_cons_zero, List.set_cons_succ, List.getElem_toArray, List.getElem_cons_zero, List.getElem_cons_succ])
    (refine mix_q (v := ?_) (by rfl) (by rfl) ?_ ?_; rotate_left; (focus (intro w' hC; clear hC; go_simp; (first | done | with_reducible rfl))); simp only [Act.put, List.setIfInBounds_toArray, List.set_cons_zero, List.set_cons_succ, List.getElem_toArray, List.getElem_cons_zero, List.getElem_cons_succ])
    (refine mix_q (v := ?_) (by rfl) (by rfl) ?_ ?_; rotate_left; (focus (intro w' hC; obtain ⟨e0, e1, e2⟩ := hC.2.1; clear hC; go_simp; (first | done | with_reducible rfl))); simp only [Act.put, List.setIfInBounds_toArray, List.set_cons_zero, List.set_cons_succ, List.getElem_toArray, List.getElem_cons_zero, List.getElem_cons_succ])
    (refine mix_q (v := ?_) (by rfl) (by rfl) ?_ ?_; rotate_left; (focus (intro w' hC; clear hC; go_simp; (first | done | with_reducible rfl))); simp only [Act.put, List.setIfInBounds_toArray, List.set_cons_zero, List.set_cons_succ, List.getElem_toArray, List.getElem_cons_zero, List.getElem_cons_succ])
    (refine mix_q (v := ?_) (by rfl) (by rfl) ?_ ?_; rotate_left; (focus (intro w' hC; clear hC; go_simp; (first | done | with_reducible rfl))); simp only [Act.put, List.setIfInBounds_toArray, List.set_cons_zero, List.set_cons_succ, List.getElem_toArray, List.getElem_cons_zero, List.getElem_cons_succ])
    (refine mix_q (v := ?_) (by rfl) (by rfl) ?_ ?_; rotate_left; (focus (intro w' hC; clear hC; go_simp; (first | done | with_reducible rfl))); simp only [Act.put, List.setIfInBounds_toArray, List.set_cons_zero, List.set_cons_succ, List.getElem_toArray, List.getElem_cons_zero, List.getElem_cons_succ])
    refine mix_l (by rfl) (by rfl) (fun K hK => ?_)
    go_simp
    refine (HWq.out _ _ (Nat.le_refl _) (HT5.out.at_) ((HU1.out.below hbw hB).mono (show B ≤ _ by have := hbw.size; first | omega | (simp at this ⊢; omega))) ((HU0.out.below hbw hB).mono (show B ≤ _ by have := hbw.size; first | omega | (simp at this ⊢; omega)))).mono ?_
    rintro e w5 ⟨rfl, hb⟩
    replace ba := ba.below hb ba.lt
    replace bb := bb.below hb bb.lt
    replace bM1 := bM1.below hb bM1.lt
    replace bF1 := bF1.below hb bF1.lt
    replace bM2 := bM2.below hb bM2.lt
    replace bF2 := bF2.below hb bF2.lt
    replace bM3 := bM3.below hb bM3.lt
    replace bF3 := bF3.below hb bF3.lt
    replace bM4 := bM4.below hb bM4.lt
    replace bF4 := bF4.below hb bF4.lt
    replace bM5 := bM5.below hb bM5.lt
    replace bF5 := bF5.below hb bF5.lt
    replace bM6 := bM6.below hb bM6.lt
    replace bF6 := bF6.below hb bF6.lt
    replace HT1 := hide (HT1.out.below hb (Nat.le_refl _))
    replace HT2 := hide (HT2.out.below hb (Nat.le_refl _))
    replace HT3 := hide (HT3.out.below hb (Nat.le_refl _))
    replace HT4 := hide (HT4.out.below hb (Nat.le_refl _))
    replace HT5 := hide (HT5.out.below hb (Nat.le_refl _))
    replace HT6 := hide (HT6.out.below hb (Nat.le_refl _))
    replace hbw := hbw.trans (hb.mono hbw.size)
    clear hb HWq
    have qbM20 := bM2.cell 0
    have qbM21 := bM2.cell 1
    have qbM22 := bM2.cell 2
    simp at qbM20 qbM21 qbM22
    have qbM2l := bM2.lt
    have qbM50 := bM5.cell 0
    have qbM51 := bM5.cell 1
    have qbM52 := bM5.cell 2
    simp at qbM50 qbM51 qbM52
    have qbM5l := bM5.lt
    have qbM60 := bM6.cell 0
    have qbM61 := bM6.cell 1
    have qbM62 := bM6.cell 2
    simp at qbM60 qbM61 qbM62
    have qbM6l := bM6.lt
    have qba0 := ba.cell 0
    have qba1 := ba.cell 1
    have qba2 := ba.cell 2
    simp at qba0 qba1 qba2
    have qbal := ba.lt
    refine hK _ _ ⟨⟨qbM20, qbM21, qbM22⟩, ⟨qbM50, qbM51, qbM52⟩, ⟨qbM60, qbM61, qbM62⟩, ⟨qba0, qba1, qba2⟩⟩ ?_
    clear hK K
    clear qbM20 qbM21 qbM22 qbM2l
    clear qbM50 qbM51 qbM52 qbM5l
    clear qbM60 qbM61 qbM62 qbM6l
    clear qba0 qba1 qba2 qbal
    try simp only [Act.put, List.setIfInBounds_toArray, List.set_cons_zero, List.set_cons_succ, List.getElem_toArray, List.getElem_cons_zero, List.getElem_cons_succ]
    (refine mix_q (v := .bool true) (by rfl) (by rfl) ?_ ?_; (focus (intro w' hC; clear hC; go_simp; (try with_reducible rfl))); simp only [Act.put, List.setIfInBounds_toArray, List.set_cons_zero, List.set_cons_succ, List.getElem_toArray, List.getElem_cons_zero, List.getElem_cons_succ])
    (refine mix_q (v := .bool true) (by rfl) (by rfl) ?_ ?_; (focus (intro w' hC; clear hC; go_simp; (try with_reducible rfl))); simp only [Act.put, List.setIfInBounds_toArray, List.set_cons_zero, List.set_cons_succ, List.getElem_toArray, List.getElem_cons_zero, List.getElem_cons_succ])
    (refine mix_q (v := ?_) (by rfl) (by rfl) ?_ ?_; rotate_left; (focus (intro w' hC; clear hC; go_simp; (first | done | with_reducible rfl))); simp only [Act.put, List.setIfInBounds_toArray, List.set_cons_zero, List.set_cons_succ, List.getElem_toArray, List.getElem_cons_zero, List.getElem_cons_succ])
    (refine mix_q (v := ?_) (by rfl) (by rfl) ?_ ?_; rotate_left; (focus (intro w' hC; obtain ⟨e0, e1, e2⟩ := hC.2.2.1; clear hC; go_simp; (first | done | with_reducible rfl))); simp only [Act.put, List.setIfInBounds_toArray, List.set_cons_zero, List.set_cons_succ, List.getElem_toArray, List.getElem_cons_zero, List.getElem_cons_succ])
    (refine mix_q (v := ?_) (by rfl) (by rfl) ?_ ?_; rotate_left; (focus (intro w' hC; clear hC; go_simp; (first | done | with_reducible rfl))); simp only [Act.put, List.setIfInBounds_toArray, List.set_cons_zero, List.set_cons_succ, List.getElem_toArray, List.getElem_cons_zero, List.getElem_cons_succ])
    (refine mix_q (v := ?_) (by rfl) (by rfl) ?_ ?_; rotate_left; (focus (intro w' hC; clear hC; go_simp; (first | done | with_reducible rfl))); simp only [Act.put, List.setIfInBounds_toArray, List.set_cons_zero, List.set_cons_succ, List.getElem_toArray, List.getElem_cons_zero, List.getElem_cons_succ])
    (refine mix_q (v := ?_) (by rfl) (by rfl) ?_ ?_; rotate_left; (focus (intro w' hC; obtain ⟨e0, e1, e2⟩ := hC.2.2.2; clear hC; go_simp; (first | done | with_reducible rfl))); simp only [Act.put, List.setIfInBounds_toArray, List.set_cons_zero, List.set_cons_succ, List.getElem_toArray, List.getElem_cons_zero, List.getElem_cons_succ])
    (refine mix_q (v := ?_) (by rfl) (by rfl) ?_ ?_; rotate_left; (focus (intro w' hC; clear hC; go_simp; (first | done | with_reducible rfl))); simp only [Act.put, List.setIfInBounds_toArray, List.set_cons_zero, List.set_cons_succ, List.getElem_toArray, List.getElem_cons_zero, List.getElem_cons_succ])
    (refine mix_q (v := ?_) (by rfl) (by rfl) ?_ ?_; rotate_left; (focus (intro w' hC; clear hC; go_simp; (first | done | with_reducible rfl))); simp only [Act.put, List.setIfInBounds_toArray, List.set_cons_zero, List.set_cons_succ, List.getElem_toArray, List.getElem_cons_zero, List.getElem_cons_succ])
    refine mix_l (by rfl) (by rfl) (fun K hK => ?_)
    go_simp
    refine (HWr.out _ _ (Nat.le_refl _) (HT6.out.at_) ((HU0.out.below hbw hB).mono (show B ≤ _ by have := hbw.size; first | omega | (simp at this ⊢; omega))) ((HU1.out.below hbw hB).mono (show B ≤ _ by have := hbw.size; first | omega | (simp at this ⊢; omega)))).mono ?_
    rintro e w5 ⟨rfl, hb⟩
    replace ba := ba.below hb ba.lt
    replace bb := bb.below hb bb.lt
    replace bM1 := bM1.below hb bM1.lt
    replace bF1 := bF1.below hb bF1.lt
    replace bM2 := bM2.below hb bM2.lt
    replace bF2 := bF2.below hb bF2.lt
    replace bM3 := bM3.below hb bM3.lt
    replace bF3 := bF3.below hb bF3.lt
    replace bM4 := bM4.below hb bM4.lt
    replace bF4 := bF4.below hb bF4.lt
    replace bM5 := bM5.below hb bM5.lt
    replace bF5 := bF5.below hb bF5.lt
    replace bM6 := bM6.below hb bM6.lt
    replace bF6 := bF6.below hb bF6.lt
    replace HT1 := hide (HT1.out.below hb (Nat.le_refl _))
    replace HT2 := hide (HT2.out.below hb (Nat.le_refl _))
    replace HT3 := hide (HT3.out.below hb (Nat.le_refl _))
    replace HT4 := hide (HT4.out.below hb (Nat.le_refl _))
    replace HT5 := hide (HT5.out.below hb (Nat.le_refl _))
    replace HT6 := hide (HT6.out.below hb (Nat.le_refl _))
    replace hbw := hbw.trans (hb.mono hbw.size)
    clear hb HWr
    have qbM20 := bM2.cell 0
    have qbM21 := bM2.cell 1
    have qbM22 := bM2.cell 2
    simp at qbM20 qbM21 qbM22
    have qbM2l := bM2.lt
    have qbM50 := bM5.cell 0
    have qbM51 := bM5.cell 1
    have qbM52 := bM5.cell 2
    simp at qbM50 qbM51 qbM52
    have qbM5l := bM5.lt
    have qbM60 := bM6.cell 0
    have qbM61 := bM6.cell 1
    have qbM62 := bM6.cell 2
    simp at qbM60 qbM61 qbM62
    have qbM6l := bM6.lt
    have qba0 := ba.cell 0
    have qba1 := ba.cell 1
    have qba2 := ba.cell 2
    simp at qba0 qba1 qba2
    have qbal := ba.lt
    refine hK _ _ ⟨⟨qbM20, qbM21, qbM22⟩, ⟨qbM50, qbM51, qbM52⟩, ⟨qbM60, qbM61, qbM62⟩, ⟨qba0, qba1, qba2⟩⟩ ?_
    clear hK K
    clear qbM20 qbM21 qbM22 qbM2l
    clear qbM50 qbM51 qbM52 qbM5l
    clear qbM60 qbM61 qbM62 qbM6l
    clear qba0 qba1 qba2 qbal
    refine mix_nil ?_; try simp only [Act.put, List.setIfInBounds_toArray, List.set_cons_zero, List.set_cons_succ, List.getElem_toArray, List.getElem_cons_zero, List.getElem_cons_succ]
    go_wp2_with fail
    refine (HWs.out _ _ (Nat.le_refl _) ((HMa.out.below hbw hB).mono (show B ≤ _ by have := hbw.size; first | omega | (simp at this ⊢; omega))) ((HU0.out.below hbw hB).mono (show B ≤ _ by have := hbw.size; first | omega | (simp at this ⊢; omega))) ((HU1.out.below hbw hB).mono (show B ≤ _ by have := hbw.size; first | omega | (simp at this ⊢; omega)))).mono ?_
    rintro e w6 ⟨rfl, hb⟩
    replace ba := ba.below hb ba.lt
    replace bb := bb.below hb bb.lt
    replace bM1 := bM1.below hb bM1.lt
    replace bF1 := bF1.below hb bF1.lt
    replace bM2 := bM2.below hb bM2.lt
    replace bF2 := bF2.below hb bF2.lt
    replace bM3 := bM3.below hb bM3.lt
    replace bF3 := bF3.below hb bF3.lt
    replace bM4 := bM4.below hb bM4.lt
    replace bF4 := bF4.below hb bF4.lt
    replace bM5 := bM5.below hb bM5.lt
    replace bF5 := bF5.below hb bF5.lt
    replace bM6 := bM6.below hb bM6.lt
    replace bF6 := bF6.below hb bF6.lt
    replace HT1 := hide (HT1.out.below hb (Nat.le_refl _))
    replace HT2 := hide (HT2.out.below hb (Nat.le_refl _))
    replace HT3 := hide (HT3.out.below hb (Nat.le_refl _))
    replace HT4 := hide (HT4.out.below hb (Nat.le_refl _))
    replace HT5 := hide (HT5.out.below hb (Nat.le_refl _))
    replace HT6 := hide (HT6.out.below hb (Nat.le_refl _))
    replace hbw := hbw.trans (hb.mono hbw.size)
    clear hb HWs
    go_wp2
    refine NoPanic.normal ?_
    go_wp2
    exact bodyPost_ret (v := .bool true) (by simp [results, Try.results10, go_sem]) rfl ⟨rfl, hbw⟩
  · skip
    have hpq := HPQ1.out
    have hz0 : fEq p1 q1 0 0 = false := by
      cases e : fEq p1 q1 0 0
      · rfl
      · have e2 : fEq (compF a b).1 (compF a b).2 0 0 = true := by rw [← hpq]; exact e
        exact absurd (fEq0K.1 e2) hz1
    clear hpq
    go_wp2
    exact bodyPost_ret (v := .bool true) (by simp [results, Try.results10, go_sem]) rfl ⟨rfl, hbw⟩
end Go.Proofs.Ytmgpcnkmmgkjgaa
